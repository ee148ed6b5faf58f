/- Y1, Y2, E44, E45 -/
import Derived.Test.YtmljohbialacfaaGreatDoorPE43
import Derived.Test.YtmljohbialacfaaGreatDoorPShelf3
import Derived.Test.YtmljohbialacfaaGreatDoorPE38
set_option linter.unusedVariables false
set_option linter.unusedSimpArgs false
namespace Go.Proofs.YtmljohbialacfaaGreatDoor
section
open Go.RowKit
set_option maxRecDepth 100000
theorem in_of_check {c:CellD} {r:ValD} (h:checkF (c :: r)=0) (h3:c.kind=3):inRange c.int=true:=by
  obtain ⟨_,_,_,h2,_⟩:=checkF_zero.1 h
  have:outB c=false:=by simpa using List.any_eq_false.1 h2 c (by simp)
  unfold outB at this
  simp [h3] at this
  unfold inRange
  simp
  omega
theorem unaryR_ok (op:ByteArray) (v:ValD):ResOk (unaryR op v):=by
  unfold unaryR
  split
  · exact err_ok _ (by decide)
  split
  · rename_i h;exact err_ok _ h
  · rename_i hv
    have hv':checkF v=0:=by simpa using hv
    cases v with
    | nil=>exact err_ok _ (by decide)
    | cons c r =>
      simp only
      split
      · exact fun _=>check_b _
      split
      · rename_i h
        refine fun _=>check_i ?_
        have:=in_of_check hv' h.2
        unfold inRange at this ⊢
        simp at this ⊢
        omega
      · exact err_ok _ (by decide)
theorem arithR_ok (op:List UInt8) {a b:Int} (ha:inRange a=true) (hb:inRange b=true):ResOk (arithR op a b):=by
  rw [arithR_eq]
  split
  · rename_i h
    exact fun _=>check_i (arithN_ok ha hb h)
  · rename_i h
    exact err_ok _ h
theorem binaryR_ok (op:ByteArray) (a b:ValD):ResOk (binaryR op a b):=by
  unfold binaryR
  split
  · exact err_ok _ (by decide)
  split
  · rename_i h;exact err_ok _ h
  split
  · rename_i h;exact err_ok _ h
  split
  · exact fun _=>check_b _
  split
  · exact fun _=>check_b _
  rename_i ha hb _ _
  have ha':checkF a=0:=by simpa using ha
  have hb':checkF b=0:=by simpa using hb
  cases a with
  | nil=>exact err_ok _ (by decide)
  | cons x a =>
    cases b with
    | nil=>exact err_ok _ (by decide)
    | cons y b =>
      simp only
      split
      · exact err_ok _ (by decide)
      rename_i hk
      have hk':x.kind=y.kind:=by simpa using hk
      split
      · split
        · exact fun _=>check_b _
        split
        · exact fun _=>check_b _
        · exact err_ok _ (by decide)
      split
      · rename_i h3
        exact arithR_ok _ (in_of_check ha' h3) (in_of_check hb' (by omega))
      split
      · exact limR_ok _
      split
      · exact limR_ok _
      · exact err_ok _ (by decide)
theorem part_check {c:CellD} {r:ValD} (hck:checkF (c :: r)=0) (hk:c.kind=5∨c.kind=6):∀ p∈partsOf (c :: r),checkF p.2=0 :=
  fun p hp=>(part_ok (okV_of_check hck) hck hk p hp).2.1
theorem getR_ok (v:ValD) (key:ByteArray):ResOk (getR v key):=by
  unfold getR
  split
  · rename_i h;exact err_ok _ h
  rename_i hv
  have hv':checkF v=0:=by simpa using hv
  cases v with
  | nil=>exact err_ok _ (by decide)
  | cons c r =>
    simp only
    split
    · exact err_ok _ (by decide)
    rename_i hk
    have hk':c.kind=6:=by simpa using hk
    cases h:findK (partsOf (c :: r)) key with
    | none=>exact err_ok _ (by decide)
    | some y =>
      refine fun _=>?_
      unfold findK at h
      obtain ⟨p,hp,rfl⟩:=Option.map_eq_some_iff.1 h
      exact part_check hv' (.inr hk') p (List.mem_of_find?_eq_some hp)
theorem atR_ok (v:ValD) (key:ByteArray):ResOk (atR v key):=by
  unfold atR
  split
  · exact fun _=>check_nul
  · exact getR_ok v key
theorem indexR_ok (v i:ValD):ResOk (indexR v i):=by
  unfold indexR
  split
  · rename_i h;exact err_ok _ h
  split
  · rename_i h;exact err_ok _ h
  rename_i ha hb
  have ha':checkF v=0:=by simpa using ha
  cases v with
  | nil=>exact err_ok _ (by decide)
  | cons x a =>
    cases i with
    | nil=>exact err_ok _ (by decide)
    | cons y b =>
      simp only
      split
      · exact atR_ok _ _
      split
      · exact err_ok _ (by decide)
      rename_i h5
      split
      · exact err_ok _ (by decide)
      · cases h:(partsOf (x :: a))[y.int.toNat]? with
        | none=>exact err_ok _ (by decide)
        | some p=>exact fun _=>part_check ha' (.inl (by omega)) p (List.mem_of_getElem? h)
theorem sizeR_ok {v:ValD} (h:checkF v=0):ResOk (sizeR v):=by
  cases v with
  | nil=>exact err_ok _ (by decide)
  | cons c r =>
    unfold sizeR
    simp only
    split
    · have:=str_len h c (by simp)
      exact fun _=>check_i (in_small (by omega) (by omega))
    split
    · rename_i hk
      obtain ⟨h1,h2⟩:=n_bd (okV_of_check h) h hk
      exact fun _=>check_i (in_small h1 h2)
    · exact err_ok _ (by decide)
theorem integerR_ok {v:ValD} (h:checkF v=0):ResOk (integerR v):=by
  cases v with
  | nil=>exact err_ok _ (by decide)
  | cons c r =>
    unfold integerR
    simp only
    split
    · exact fun _=>h
    split
    · split
      · rename_i h0
        refine fun _=>check_i ?_
        unfold parseR at h0 ⊢
        split
        · rename_i h1;rw [if_pos h1] at h0;simp at h0
        · rename_i h1
          rw [if_neg h1] at h0
          cases h2:Lib.atoiAll c.str.data.toList with
          | ok v =>
            rw [h2] at h0
            simp only at h0 ⊢
            split
            · rename_i h3;exact h3
            · rename_i h3;rw [if_neg h3] at h0;simp at h0
          | _=>rw [h2] at h0;simp at h0
      · exact fun _=>check_nul
    · exact err_ok _ (by decide)
theorem pushR_ok (l v:ValD):ResOk (pushR l v):=by
  cases l with
  | nil=>exact err_ok _ (by decide)
  | cons c r =>
    unfold pushR
    simp only
    split
    · exact listR_ok _
    · exact err_ok _ (by decide)
theorem keysR_ok (v:ValD):ResOk (keysR v):=by
  cases v with
  | nil=>exact err_ok _ (by decide)
  | cons c r =>
    unfold keysR
    simp only
    split
    · exact listR_ok _
    · exact err_ok _ (by decide)
theorem putR_ok (v:ValD) (key:ByteArray) (x:ValD):ResOk (putR v key x):=by
  unfold putR
  split
  · rename_i h;exact err_ok _ h
  cases v with
  | nil=>exact err_ok _ (by decide)
  | cons c r =>
    simp only
    split
    · exact err_ok _ (by decide)
    split
    · rename_i h;exact err_ok _ h
    · exact okR_ok _
/-- str of a value. -/
def textR (v:ValD):ResD:=match v with
  | []=>([],7)
  | c :: r=>if c.kind=4 then (c :: r,0) else okR [sCel ⟨(textF (c :: r).length (c :: r)).toArray⟩]
theorem textR_ok {v:ValD} (h:checkF v=0):ResOk (textR v):=by
  cases v with
  | nil=>exact err_ok _ (by decide)
  | cons c r =>
    unfold textR
    simp only
    split
    · exact fun _=>h
    · exact okR_ok _
/-- A built-in function of checked values. -/
def builtR (name:List UInt8) (args:List ValD):ResD :=
  match args with
  | []=>([],7)
  | [a]=>if name=[108,101,110] then sizeR a else if name=[115,116,114] then textR a else if name=[105,110,116] then integerR a else if name=[107,101,121,115] then keysR a else ([],20)
  | a :: b :: rest =>
    if name=[112,117,115,104] then pushR a b
    else match a,b with
      | x :: _,y :: _ =>
        if x.kind≠6∨y.kind≠4 then ([],7)
        else if name=[112,117,116] then putR a y.str (rest.headD [])
        else ([bCel (decide ((getR a y.str).2=0))],0)
      | _,_=>([],7)
def builtinR (name:ByteArray) (args:List ValD):ResD :=
  match lookL builtL name with
  | none=>([],4)
  | some n=>if (args.length:Int)≠n then ([],7) else if firstBad args≠0 then ([],firstBad args) else builtR name.toList args
theorem firstBad_all {l:List ValD} (h:firstBad l=0):∀ x∈l,checkF x=0:=by
  induction l with
  | nil=>simp
  | cons a r ih =>
    unfold firstBad at h
    split at h
    · rename_i h1;exact absurd h h1
    · rename_i h1
      intro x hx
      rcases List.mem_cons.1 hx with rfl | hx
      · simpa using h1
      · exact ih h x hx
theorem builtR_ok (name:List UInt8) {args:List ValD} (h:∀ x∈args,checkF x=0):ResOk (builtR name args):=by
  unfold builtR
  split
  · exact err_ok _ (by decide)
  · rename_i a
    have ha:=h a (by simp)
    split
    · exact sizeR_ok ha
    split
    · exact textR_ok ha
    split
    · exact integerR_ok ha
    split
    · exact keysR_ok _
    · exact err_ok _ (by decide)
  · split
    · exact pushR_ok _ _
    · split
      · split
        · exact err_ok _ (by decide)
        split
        · exact putR_ok _ _ _
        · exact fun _=>check_b _
      · exact err_ok _ (by decide)
theorem builtinR_ok (name:ByteArray) (args:List ValD):ResOk (builtinR name args):=by
  unfold builtinR
  split
  · exact err_ok _ (by decide)
  · split
    · exact err_ok _ (by decide)
    split
    · rename_i h;exact err_ok _ h
    · rename_i h
      exact builtR_ok _ (firstBad_all (by simpa using h))
def topM (m:MachD) (fs:List FrameD) (f:FrameD):MachD:={ m with frames:=fs ++ [f] }
def pushFr (f:FrameD) (v:ValD):FrameD:={ f with stack:=f.stack ++ [v] }
def popL (f:FrameD) (n:Nat):List ValD:=f.stack.drop (f.stack.length - n)
def popFr (f:FrameD) (n:Nat):FrameD:={ f with stack:=f.stack.take (f.stack.length - n) }
def resM (m:MachD) (fs:List FrameD) (f:FrameD) (r:ResD):MachD × Int:=if r.2=0 then (topM m fs (pushFr f r.1),0) else (topM m fs f,r.2)
def booleanR (v:ValD):Bool × Int:=match v with
  | []=>(false,7)
  | c :: _=>if c.kind=2 then (decide (c.int≠0),0) else (false,7)
def constR (i:InsD):ResD:=if i.op=2 then ([bCel (decide (i.a=1))],0) else if i.op=3 then okR [iCel i.a] else if i.op=4 then okR [sCel i.s] else ([nulC],0)
def operN (i:InsD):Nat:=if i.op=8 then 1 else if i.op=9∨i.op=10 then 2 else i.a.toNat
def operR (i:InsD) (l:List ValD):ResD :=
  if i.op=8 then unaryR i.s (l.getD 0 []) else if i.op=9 then binaryR i.s (l.getD 0 []) (l.getD 1 []) else if i.op=10 then indexR (l.getD 0 []) (l.getD 1 []) else builtinR i.s l
def collR (i:InsD) (l:List ValD):ResD:=if i.op=12 then mapR i.keys l else listR l
def backM (m:MachD) (fs:List FrameD) (v:ValD):MachD:=match fs.getLast? with
  | none=>{ m with status:=3,value:=v,frames:=[] }
  | some g=>topM m fs.dropLast (pushFr g v)
/-- The actions that pop one value, behind the pop. -/
def act1F (i:InsD) (m:MachD) (fs:List FrameD) (f:FrameD):MachD × Int :=
 if i.op=6 then (if i.a<0∨(f.locals.length:Int)≤i.a then (topM m fs (popFr f 1),13) else (topM m fs { popFr f 1 with locals:=f.locals.set i.a.toNat ((popL f 1).getD 0 []) },0))
 else if i.op=7 then (topM m fs (popFr f 1),0)
 else if i.op=16 then (topM m fs (pushFr (pushFr (popFr f 1) ((popL f 1).getD 0 [])) ((popL f 1).getD 0 [])),0)
 else if i.op=14 then (if (booleanR ((popL f 1).getD 0 [])).2≠0 then (topM m fs (popFr f 1),(booleanR ((popL f 1).getD 0 [])).2) else if (booleanR ((popL f 1).getD 0 [])).1=true then (topM m fs (popFr f 1),0) else (topM m fs { popFr f 1 with pc:=i.a },0))
 else if i.op=15 then (topM m fs (pushFr (popFr f 1) ((popL f 1).getD 0 [])),(booleanR ((popL f 1).getD 0 [])).2)
 else (backM m fs ((popL f 1).getD 0 []),0)
/-- What an instruction does: the machine behind it, and an error. -/
def actF (c:CodeD) (i:InsD) (m:MachD) (fs:List FrameD) (f:FrameD):MachD × Int :=
 if i.op≤4 then resM m fs f (constR i)
 else if i.op=5 then (if i.a<0∨(f.locals.length:Int)≤i.a then (topM m fs f,13) else (topM m fs (pushFr f (f.locals.getD i.a.toNat [])),0))
 else if i.op=13 then (topM m fs { f with pc:=i.a },0)
 else if i.op=8∨i.op=9∨i.op=10∨i.op=18 then (if f.stack.length<operN i then (topM m fs f,21) else resM m fs (popFr f (operN i)) (operR i (popL f (operN i))))
 else if i.op=11∨i.op=12 then (if f.stack.length<i.a.toNat then (topM m fs f,21) else resM m fs (popFr f i.a.toNat) (collR i (popL f i.a.toNat)))
 else if i.op=17 then (match c.fns[i.a.toNat]? with
  | none=>(topM m fs f,13)
  | some fn=>if f.stack.length<fn.params.toNat then (topM m fs f,21) else if 16≤fs.length+1 then (topM m fs (popFr f fn.params.toNat),21) else (enterF (topM m fs (popFr f fn.params.toNat)) i.a fn (popL f fn.params.toNat),0))
 else if i.op=19 then (if f.stack.length<i.a.toNat then (topM m fs f,21) else if 32≤m.requests.length then (topM m fs (popFr f i.a.toNat),3) else ({ topM m fs (popFr f i.a.toNat) with requests:=m.requests ++ [⟨i.s,popL f i.a.toNat⟩],status:=2 },0))
 else if f.stack.length<1 then (topM m fs f,21)
 else act1F i m fs f
def stepF (c:CodeD) (m:MachD):MachD :=
  if m.lsteps≤m.steps then failF m 15
  else match m.frames.getLast? with
    | none=>failF m 13
    | some f=>if f.pc<0 then failF m 13 else match c.ins[f.pc.toNat]? with
      | none=>failF m 13
      | some i =>
        let r:=actF c i { m with steps:=m.steps+1 } m.frames.dropLast { f with pc:=f.pc+1 }
        countF (if r.2≠0 then failF r.1 r.2 else r.1)
def runF (c:CodeD):Nat→MachD→MachD
  | 0,m=>m
  | n+1,m=>if m.status=1 then runF c n (stepF c m) else m
theorem runF_stop (c:CodeD) (n:Nat) {m:MachD} (h:m.status≠1):runF c n m=m:=by
  cases n with
  | zero=>rfl
  | succ n=>simp only [runF];rw [if_neg h]
/-- Some steps and then some more are all steps together. -/
theorem runF_add (c:CodeD):∀ (a b:Nat) (m:MachD),runF c b (runF c a m)=runF c (a+b) m
  | 0,b,m=>by simp [runF]
  | a+1,b,m=>by
    rw [show a+1+b=(a+b)+1 by omega]
    simp only [runF]
    split
    · exact runF_add c a b _
    · rename_i h;exact runF_stop c b h
end
section
open Go.RowKit
set_option maxRecDepth 100000
/-- A code that is well-formed, as far as the steps want it. -/
structure GoodC (c:CodeD):Prop where
  nf:c.fns.length≤16
  ni:c.ins.length≤4000
  fn:∀ f∈c.fns,FnSmall f
  ins:∀ i∈c.ins,(∃ f:FnD,FnSmall f∧FormedP (c.fns.length:Nat) f i)∧InsOk i
structure GoodFr (K:Nat) (f:FrameD):Prop where
  nl:f.locals.length≤32
  ns:f.stack.length≤K
  cl:∀ v∈f.locals,checkF v=0
  cs:∀ v∈f.stack,checkF v=0
structure GoodM (K:Nat) (m:MachD):Prop where
  nf:m.frames.length≤16
  fr:∀ f∈m.frames,GoodFr K f
  nr:m.requests.length≤32
  rq:∀ r∈m.requests,r.args.length≤64∧∀ v∈r.args,checkF v=0
  va:m.value=[]∨checkF m.value=0
theorem GoodFr.mono {K K':Nat} {f:FrameD} (h:GoodFr K f) (hk:K≤K'):GoodFr K' f:=⟨h.nl,Nat.le_trans h.ns hk,h.cl,h.cs⟩
theorem GoodM.mono {K K':Nat} {m:MachD} (h:GoodM K m) (hk:K≤K'):GoodM K' m:=⟨h.nf,fun f hf=>(h.fr f hf).mono hk,h.nr,h.rq,h.va⟩
theorem GoodM.small {K:Nat} {m:MachD} (h:GoodM K m) (hk:K≤10000):SmallM m :=
  ⟨⟨by have:=h.nf;omega,fun f hf=>⟨by have:=(h.fr f hf).nl;omega,by have:=(h.fr f hf).ns;omega⟩⟩,by have:=h.nr;omega,fun r hr=>by have:=(h.rq r hr).1;omega⟩
theorem GoodM.fail {K:Nat} {m:MachD} (h:GoodM K m) (e:Int):GoodM K (failF m e):=⟨by simp [failF],by simp [failF],h.nr,h.rq,.inl rfl⟩
theorem GoodM.count {K:Nat} {m:MachD} (h:GoodM K m):GoodM K (countF m):=by
  unfold countF
  split
  · split
    · exact ⟨by simp [failF],by simp [failF],h.nr,h.rq,.inl rfl⟩
    · exact ⟨h.nf,h.fr,h.nr,h.rq,h.va⟩
  · exact h
theorem GoodM.top {K:Nat} {m m':MachD} {fs:List FrameD} {f f':FrameD} (h:GoodM K m) (hm:m.frames=fs ++ [f]) (h1:m'.frames=fs ++ [f']) (hf:GoodFr K f') (h2:m'.requests=m.requests) (h3:m'.value=m.value):GoodM K m':=by
  refine ⟨?_,?_,h2 ▸ h.nr,h2 ▸ h.rq,h3 ▸ h.va⟩
  · have:=h.nf
    rw [hm] at this
    rw [h1]
    simpa using this
  · intro x hx
    rw [h1] at hx
    rcases List.mem_append.1 hx with hx | hx
    · exact h.fr x (by rw [hm];exact List.mem_append_left _ hx)
    · have:x=f':=by simpa using hx
      rw [this];exact hf
theorem GoodM.last {K:Nat} {m:MachD} {fs:List FrameD} {f:FrameD} (h:GoodM K m) (hm:m.frames=fs ++ [f]):GoodFr K f:=h.fr f (by rw [hm];simp)
theorem GoodFr.push {K:Nat} {f:FrameD} {v:ValD} (h:GoodFr K f) (hv:checkF v=0):GoodFr (K+1) (pushFr f v) :=
  ⟨h.nl,by have:=h.ns;simp [pushFr];omega,h.cl,fun x hx=>by
    rcases List.mem_append.1 hx with hx | hx
    · exact h.cs x hx
    · have:x=v:=by simpa using hx
      rw [this];exact hv⟩
theorem GoodFr.pop {K:Nat} {f:FrameD} (h:GoodFr K f) (n:Nat):GoodFr K (popFr f n) :=
  ⟨h.nl,by have:=h.ns;simp [popFr];omega,h.cl,fun x hx=>h.cs x (List.mem_of_mem_take hx)⟩
theorem GoodFr.popped {K:Nat} {f:FrameD} (h:GoodFr K f) (n:Nat):∀ v∈popL f n,checkF v=0:=fun v hv=>h.cs v (List.mem_of_mem_drop hv)
theorem GoodFr.pc {K:Nat} {f:FrameD} (h:GoodFr K f) (p:Int):GoodFr K { f with pc:=p }:=⟨h.nl,h.ns,h.cl,h.cs⟩
theorem popL_len {f:FrameD} {n:Nat} (h:¬ f.stack.length<n):(popL f n).length=n:=by unfold popL;rw [List.length_drop];omega
theorem popL_get {K:Nat} {f:FrameD} (h:GoodFr K f) {n k:Nat} (hn:¬ f.stack.length<n) (hk:k<n):checkF ((popL f n).getD k [])=0:=by
  have hl:=popL_len hn
  rw [List.getD_eq_getElem?_getD,List.getElem?_eq_getElem (by omega),Option.getD_some]
  exact h.popped n _ (List.getElem_mem _)
theorem resM_good {K:Nat} {m:MachD} {fs:List FrameD} {f0 f:FrameD} {r:ResD} (h:GoodM K m) (hm:m.frames=fs ++ [f0]) (hf:GoodFr K f) (hr:ResOk r):GoodM (K+2) (resM m fs f r).1:=by
  unfold resM
  split
  · rename_i h0
    exact (h.mono (Nat.le_add_right K 2)).top hm rfl ((hf.push (hr h0)).mono (by omega)) rfl rfl
  · exact (h.mono (Nat.le_add_right K 2)).top hm rfl (hf.mono (by omega)) rfl rfl
theorem constR_ok (i:InsD):ResOk (constR i):=by
  unfold constR
  split
  · exact fun _=>check_b _
  split
  · exact okR_ok _
  split
  · exact okR_ok _
  · exact fun _=>check_nul
theorem operR_ok (i:InsD) (l:List ValD):ResOk (operR i l):=by
  unfold operR
  split
  · exact unaryR_ok _ _
  split
  · exact binaryR_ok _ _ _
  split
  · exact indexR_ok _ _
  · exact builtinR_ok _ _
theorem collR_ok (i:InsD) (l:List ValD):ResOk (collR i l):=by
  unfold collR
  split
  · exact mapR_ok _ _
  · exact listR_ok _
theorem good_ite {K:Nat} {p:Prop} [Decidable p] {a b:MachD × Int} (h1:p→GoodM K a.1) (h2:¬ p→GoodM K b.1):GoodM K (if p then a else b).1:=by
  by_cases h:p
  · rw [if_pos h];exact h1 h
  · rw [if_neg h];exact h2 h
theorem GoodM.act {K:Nat} {c:CodeD} {i:InsD} {m:MachD} {fs:List FrameD} {f:FrameD} (hc:GoodC c) (h:GoodM K m) (hm:m.frames=fs ++ [f]) (hi:∃ g:FnD,FnSmall g∧FormedP (c.fns.length:Nat) g i):GoodM (K+2) (actF c i m fs f).1:=by
 have hf:=h.last hm
 have hK:=h.mono (Nat.le_add_right K 2)
 have hf2:=hf.mono (Nat.le_add_right K 2)
 have pop2:=fun n=>(hf.pop n).mono (Nat.le_add_right K 2)
 unfold actF
 refine good_ite (fun _h=>?_) (fun _h=>?_)
 ·exact resM_good h hm hf (constR_ok i)
 refine good_ite (fun _h=>?_) (fun _h=>?_)
 ·refine good_ite (fun _h=>?_) (fun _h=>?_)
  ·exact hK.top hm rfl hf2 rfl rfl
  ·have ha:=_h
   refine hK.top hm rfl ((hf.push ?_).mono (by omega)) rfl rfl
   rw [List.getD_eq_getElem?_getD,List.getElem?_eq_getElem (by omega),Option.getD_some]
   exact hf.cl _ (List.getElem_mem _)
 refine good_ite (fun _h=>?_) (fun _h=>?_)
 ·exact hK.top hm rfl (hf2.pc _) rfl rfl
 refine good_ite (fun _h=>?_) (fun _h=>?_)
 ·refine good_ite (fun _h=>?_) (fun _h=>?_)
  ·exact hK.top hm rfl hf2 rfl rfl
  ·exact resM_good h hm (hf.pop _) (operR_ok _ _)
 refine good_ite (fun _h=>?_) (fun _h=>?_)
 ·refine good_ite (fun _h=>?_) (fun _h=>?_)
  ·exact hK.top hm rfl hf2 rfl rfl
  ·exact resM_good h hm (hf.pop _) (collR_ok _ _)
 refine good_ite (fun _h=>?_) (fun _h=>?_)
 ·split
  ·exact hK.top hm rfl hf2 rfl rfl
  ·rename_i fn hfn
   have hsm:=hc.fn fn (List.mem_of_getElem? hfn)
   refine good_ite (fun _h=>?_) (fun _h=>?_)
   ·exact hK.top hm rfl hf2 rfl rfl
   have hlen:=_h
   refine good_ite (fun _h=>?_) (fun _h=>?_)
   ·exact hK.top hm rfl (pop2 _) rfl rfl
   ·have h16:=_h
    have hK':GoodM (K+2) (topM m fs (popFr f fn.params.toNat)):=hK.top hm rfl (pop2 _) rfl rfl
    refine ⟨?_,?_,hK'.nr,hK'.rq,hK'.va⟩
    ·simp [enterF,topM];omega
    ·intro x hx
     have hx':x∈(topM m fs (popFr f fn.params.toNat)).frames ++ [⟨i.a,fn.entry,popL f fn.params.toNat ++ List.replicate (fn.locals.toNat - (popL f fn.params.toNat).length) [nulC],[]⟩]:=hx
     rcases List.mem_append.1 hx' with hx | hx
     ·exact hK'.fr x hx
     ·have e:x=⟨i.a,fn.entry,popL f fn.params.toNat ++ List.replicate (fn.locals.toNat - (popL f fn.params.toNat).length) [nulC],[]⟩:=by simpa using hx
      subst e
      refine ⟨?_,by simp,fun v hv=>?_,by simp⟩
      ·have h1:=popL_len hlen
       have h2:=hsm.1
       have h3:=hsm.2.1
       simp only [List.length_append,List.length_replicate]
       omega
      ·rcases List.mem_append.1 hv with hv | hv
       ·exact hf.popped _ v hv
       ·rw [List.eq_of_mem_replicate hv];exact check_nul
 refine good_ite (fun _h=>?_) (fun _h=>?_)
 ·have h19:=_h
  refine good_ite (fun _h=>?_) (fun _h=>?_)
  ·exact hK.top hm rfl hf2 rfl rfl
  have hlen:=_h
  refine good_ite (fun _h=>?_) (fun _h=>?_)
  ·exact hK.top hm rfl (pop2 _) rfl rfl
  ·have h32:=_h
   have hK':GoodM (K+2) (topM m fs (popFr f i.a.toNat)):=hK.top hm rfl (pop2 _) rfl rfl
   refine ⟨hK'.nf,hK'.fr,by simp [topM];omega,fun r hr=>?_,hK'.va⟩
   rcases List.mem_append.1 hr with hr | hr
   ·exact h.rq r hr
   ·have e:r=⟨i.s,popL f i.a.toNat⟩:=by simpa using hr
    subst e
    refine ⟨?_,hf.popped _⟩
    obtain ⟨g,_,hfm⟩:=hi
    have h1:=hfm.2.1.2.2.2.2.2.2.2.2.2 h19
    have h2:=lookL_bd (by decide) h1
    have h3:=popL_len hlen
    show (popL f i.a.toNat).length≤64
    omega
 refine good_ite (fun _h=>?_) (fun _h=>?_)
 ·exact hK.top hm rfl hf2 rfl rfl
 have hlen:=_h
 have hg:=popL_get hf hlen (k:=0) (by omega)
 unfold act1F
 refine good_ite (fun _h=>?_) (fun _h=>?_)
 ·refine good_ite (fun _h=>?_) (fun _h=>?_)
  ·exact hK.top hm rfl (pop2 _) rfl rfl
  ·have ha:=_h
   refine hK.top hm rfl ⟨?_,(pop2 1).ns,fun v hv=>?_,(pop2 1).cs⟩ rfl rfl
   ·show (f.locals.set i.a.toNat _).length≤32
    rw [List.length_set];exact hf.nl
   ·have hv':v∈f.locals.set i.a.toNat ((popL f 1).getD 0 []):=hv
    rcases List.mem_or_eq_of_mem_set hv' with h | h
    ·exact hf.cl v h
    ·rw [h];exact hg
 refine good_ite (fun _h=>?_) (fun _h=>?_)
 ·exact hK.top hm rfl (pop2 _) rfl rfl
 refine good_ite (fun _h=>?_) (fun _h=>?_)
 ·exact hK.top hm rfl (((hf.pop 1).push hg).push hg) rfl rfl
 refine good_ite (fun _h=>?_) (fun _h=>?_)
 ·refine good_ite (fun _h=>?_) (fun _h=>?_)
  ·exact hK.top hm rfl (pop2 _) rfl rfl
  refine good_ite (fun _h=>?_) (fun _h=>?_)
  ·exact hK.top hm rfl (pop2 _) rfl rfl
  ·exact hK.top hm rfl ((pop2 1).pc _) rfl rfl
 refine good_ite (fun _h=>?_) (fun _h=>?_)
 ·exact hK.top hm rfl (((hf.pop 1).push hg).mono (by omega)) rfl rfl
 ·show GoodM (K+2) (backM m fs ((popL f 1).getD 0 []))
  unfold backM
  have hsub:∀ x∈fs,GoodFr (K+2) x:=fun x hx=>hK.fr x (by rw [hm];exact List.mem_append_left _ hx)
  cases hl:fs.getLast? with
  | none=>exact ⟨by simp,by simp,h.nr,h.rq,.inr hg⟩
  | some g =>
   have hne:fs≠[]:=by rintro rfl;simp at hl
   have he:fs.dropLast ++ [g]=fs:=by
    rw [List.getLast?_eq_some_getLast hne] at hl
    injection hl with hl
    rw [← hl]
    exact List.dropLast_concat_getLast hne
   have hgm:g∈fs:=by rw [← he];simp
   have hg0:GoodFr K g:=h.fr g (by rw [hm];exact List.mem_append_left _ hgm)
   refine ⟨?_,fun x hx=>?_,h.nr,h.rq,h.va⟩
   ·have h1:=h.nf
    rw [hm,← he] at h1
    show (fs.dropLast ++ [pushFr g ((popL f 1).getD 0 [])]).length≤16
    simp only [List.length_append,List.length_singleton] at h1 ⊢
    omega
   ·have hx':x∈fs.dropLast ++ [pushFr g ((popL f 1).getD 0 [])]:=hx
    rcases List.mem_append.1 hx' with hx | hx
    ·exact hsub x (by rw [← he];exact List.mem_append_left _ hx)
    ·have:x=pushFr g ((popL f 1).getD 0 []):=by simpa using hx
     rw [this]
     exact (hg0.push hg).mono (by omega)
theorem last_app {α:Type} {l:List α} {a:α} (h:l.getLast? = some a):l=l.dropLast ++ [a]:=by
  have hne:l≠[]:=by rintro rfl;simp at h
  rw [List.getLast?_eq_some_getLast hne] at h
  injection h with h
  rw [← h]
  exact (List.dropLast_concat_getLast hne).symm
theorem GoodM.step {K:Nat} {c:CodeD} {m:MachD} (hc:GoodC c) (h:GoodM K m):GoodM (K+2) (stepF c m):=by
 have hK:=h.mono (Nat.le_add_right K 2)
 unfold stepF
 split
 ·exact hK.fail _
 split
 ·exact hK.fail _
 rename_i f hf
 split
 ·exact hK.fail _
 split
 ·exact hK.fail _
 rename_i i hi
 have hm:=last_app hf
 have h1:GoodM K { m with steps:=m.steps+1,frames:=m.frames.dropLast ++ [{ f with pc:=f.pc+1 }] }:=(h.top hm rfl ((h.last hm).pc _) rfl rfl)
 have hact:=GoodM.act (i:=i) hc h1 (fs:=m.frames.dropLast) rfl (hc.ins i (List.mem_of_getElem? hi)).1
 have hsame:actF c i { m with steps:=m.steps+1,frames:=m.frames.dropLast ++ [{ f with pc:=f.pc+1 }] } m.frames.dropLast { f with pc:=f.pc+1 }=actF c i { m with steps:=m.steps+1 } m.frames.dropLast { f with pc:=f.pc+1 }:=by
  unfold actF act1F resM topM enterF backM
  rfl
 rw [hsame] at hact
 refine GoodM.count ?_
 split
 ·exact hact.fail _
 ·exact hact
theorem GoodM.run {c:CodeD} (hc:GoodC c):∀ (n K:Nat) (m:MachD),GoodM K m→GoodM (K+2 * n) (runF c n m)
  | 0,K,m,h=>h
  | n+1,K,m,h=>by
    simp only [runF]
    split
    · exact (GoodM.run hc n (K+2) _ (h.step hc)).mono (by omega)
    · exact h.mono (by omega)
end
section
open Go.RowKit
set_option maxRecDepth 100000
theorem builder_new (w:World):Lib.IsBuilderF 231 5 w.heap.size w.heap.size (Lib.byteCells []) (w.alloc (.cells #[.pointer none,.slice none 0 0] 231)) :=
 .inl ⟨Nat.le_refl _,.slice none 0 0,heap_alloc_new w _,⟨rfl,.inl ⟨rfl,rfl⟩⟩,by simp [Value.ownBlock]⟩
attribute [local go_sem] cell_alloc_is
set_option maxHeartbeats 8000000 in
theorem encode_any (v:ValD) (x:Value) (w:World) (h:ValV w x v) (hp:Pow w) (hck:checkF v=0) :
  Calls Tryz.prog 196 #[x] w fun e w'=>e=.returned (.tuple #[.string ⟨(textF v.length v).toArray⟩,.int .i64 0])∧Below w.heap.size w w':=by
 have ho:=okV_of_check hck
 have HCK:=Lib.hid (checkV_any v x w h hp ho)
 rw [hck] at HCK
 obtain ⟨xA,xn,xc,rfl⟩:=h.shape
 have HV:=Lib.hid h
 have HPW:=Lib.hid hp
 have HO:=Lib.hid ho
 have HKK:=Lib.hid hck
 obtain ⟨tx,htx⟩:∃ t,textF v.length v=t:=⟨_,rfl⟩
 have HTX:=Lib.hid htx
 rw [htx]
 clear h hp ho hck htx
 go_enter Tryz.func196,Tryz.ntmps196
 go_wp2_with (first
  | (go_at_call 24;((with_reducible refine HCK.out.mono ?_);rintro e w1 ⟨rfl,hb1⟩;have HB1:=Lib.hid hb1;have HW1:Hid (WB w1.heap.size w1.heap.size [] (w1.alloc (.cells #[.pointer none,.slice none 0 0] 231)) (w1.alloc (.cells #[.pointer none,.slice none 0 0] 231))):=Lib.hid (WB.start (builder_new w1) (by simp));have HWR:=Lib.hid (write_any v.length w1 (HPW.out.below hb1) w1.heap.size v (.slice xA xn xc) [] _ (Nat.le_refl _) HO.out HKK.out (HV.out.below hb1) (below_new w1 _) HW1.out (by have:=costV_le HKK.out;simp;omega));clear hb1))
  | (go_at_call 232;((refine HWR.out.mono ?_);rintro e w2 ⟨rfl,hw2⟩;have HW2:=Lib.hid hw2;have HST:=Lib.hid (Tryz.Builder_String_any_f w1.heap.size w1.heap.size _ w2 hw2.is (Nat.le_trans hw2.b0 hw2.bel.size));clear hw2))
  | (go_at_call 233;((refine HST.out.mono ?_);rintro e w3 ⟨rfl,_,hb3⟩;have HB3:=Lib.hid hb3;clear hb3)))
 go_returns
 refine ⟨by rw [← HTX.out];rfl,?_⟩
 have h1:Below w1.heap.size w1 w3:=(below_new w1 _).trans (HW2.out.bel.trans HB3.out)
 exact below_call h1 HB1.out
set_option maxHeartbeats 8000000 in
theorem text_eval (c:CellD) (r:ValD) (v:Value) (w:World) (h:ValV w v (c :: r)) (hp:Pow w) (hck:checkF (c :: r)=0) :
  Calls Tryz.prog 151 #[v] w (RetR w [] (textR (c :: r))):=by
 obtain ⟨P,hP⟩:∃ P:Ending→World→Prop,RetR w [] (textR (c :: r))=P:=⟨_,rfl⟩
 rw [hP]
 have HP:=Lib.hid hP
 have ho:=okV_of_check hck
 have HCL:=Lib.hid (clone_any (c :: r) v w h)
 have HLN:Hid ((c :: r).length≤1000000):=Lib.hid ho.1
 have HEN:=Lib.hid (encode_any (c :: r) v w h hp hck)
 have hbd:=textF_bd (c :: r).length ho hck
 obtain ⟨b,off,n,cap,rfl,hn,p0,p1,p2,p3⟩:=head_cell h
 have hpos:(0:Int)<(n:Int):=by omega
 have HU:Hid (textR (c :: r)=if c.kind=4 then (c :: r,0) else okR [sCel ⟨(textF (c :: r).length (c :: r)).toArray⟩]):=Lib.hid rfl
 obtain ⟨tx,htx⟩:∃ t:ByteArray,⟨(textF (c :: r).length (c :: r)).toArray⟩=t:=⟨_,rfl⟩
 have hsz:tx.size≤86000:=by
  rw [← htx]
  show (textF (c :: r).length (c :: r)).toArray.size≤86000
  rw [List.size_toArray]
  exact hbd
 rw [htx] at HEN HU
 have HST:Hid (∀ wx,Below w.heap.size w wx→Calls Tryz.prog 97 #[.string tx] wx (RetR wx [] (okR [sCel tx]))):=Lib.hid fun wx hb=>cstr_any tx wx (hp.below hb) (by omega)
 obtain ⟨BR,hBR⟩:∃ t,textR (c :: r)=t:=⟨_,rfl⟩
 rw [hBR] at HP HU
 obtain ⟨k,i,s,nn⟩:=c
 dsimp only at p0 p1 p2 p3 HU
 clear hBR hP h hp ho hck hn p1 p2 p3 htx hsz hbd
 by_cases h4:k=4
 ·subst h4
  have HR:Hid (BR=(⟨4,i,s,nn⟩ :: r,0)):=Lib.hid (by rw [HU.out,if_pos rfl])
  clear HU HEN HST
  go_enter Tryz.func151,Tryz.ntmps151
  go_wp2_with (first
   | (go_at_call 26;((with_reducible refine HCL.out.mono ?_);rintro e w1 ⟨u,rfl,ho,hb1⟩;have HO:=Lib.hid ho;have HB1:=Lib.hid hb1;clear ho hb1)))
  rw [← HP.out,HR.out]
  exact ⟨u,rfl,HO.out.val (by have:=HLN.out;omega),FromC.ownO HO.out (Nat.le_refl _),HB1.out⟩
 ·have k4:(k == 4)=false:=by simpa using h4
  have HR:Hid (BR=okR [sCel tx]):=Lib.hid (by rw [HU.out,if_neg h4])
  clear HU HCL h4
  go_enter Tryz.func151,Tryz.ntmps151
  go_wp2_with (first
   | (go_at_call 196;((with_reducible refine HEN.out.mono ?_);rintro e w1 ⟨rfl,hb1⟩;have HB1:=Lib.hid hb1;clear hb1))
   | (go_at_call 97;((with_reducible refine (HST.out _ HB1.out).mono ?_);rintro e w3 ⟨u,rfl,hu,hf,hb3⟩;have HU3:=Lib.hid hu;have HF3:=Lib.hid hf;have HB3:=Lib.hid (below_call hb3 HB1.out);clear hu hf hb3)))
  rw [← HP.out,HR.out]
  exact ⟨u,rfl,HU3.out,HF3.out.up HB1.out.size (Below.refl _ _),HB3.out⟩
end
section
open Go.RowKit
set_option maxRecDepth 100000
theorem RetR.from {w w1 w':World} {r:ResD} {e:Ending} (h:RetR w1 [] r e w') (hb:Below w.heap.size w w1):RetR w [] r e w':=by
 obtain ⟨u,he,hv,hf,hb'⟩:=h
 exact ⟨u,he,hv,hf.up hb.size (Below.refl _ _),below_call hb' hb⟩
theorem vals_at {w:World} {v:Value} {l:List ValD} (h:ValsV w v l) (hl:l≠[]):∃ b off cap,v=.slice (some ⟨b,off,none⟩) l.length cap∧∀ k (hk:k<l.length),∃ x,w.cell? ⟨b,off+k,none⟩=some x∧ValV w x l[k]:=by
 obtain ⟨A,cap,vs,rfl,hc,hm,hs,hla,hva⟩:=h.at
 have hlen:0<l.length:=by cases l <;> simp_all
 obtain ⟨b,off,rfl,_⟩:=hs.ptr (n:=0) (by omega)
 refine ⟨b,off,cap,rfl,fun k hk=>⟨vs[k]'(by omega),?_,hva k (by omega) hk⟩⟩
 have:=hs.cell0 (n:=k) (by omega) (v:=vs[k]'(by omega)) rfl
 rwa [Nat.mul_one] at this
theorem look_cases {s:ByteArray} {n:Int} (h:lookL builtL s=some n):(s=⟨#[108,101,110]⟩∧n=1)∨(s=⟨#[115,116,114]⟩∧n=1)∨(s=⟨#[105,110,116]⟩∧n=1)∨(s=⟨#[112,117,115,104]⟩∧n=2)∨(s=⟨#[112,117,116]⟩∧n=3)∨(s=⟨#[107,101,121,115]⟩∧n=1)∨(s=⟨#[104,97,115]⟩∧n=2)∨(s=⟨#[102,97,105,108]⟩∧n=1):=by
 simp only [bytes_lit]
 unfold lookL builtL at h
 simp only [List.lookup] at h
 repeat' (split at h)
 all_goals first
  | (rename_i hh;have e:=eq_of_beq hh;injection h with h;subst h;simp [e])
  | cases h
attribute [local go_sem] cell_alloc_is
set_option maxHeartbeats 8000000 in
/-- No function, another number of arguments, an argument that is not valid. -/
theorem builtin_no (name:ByteArray) (args:List ValD) (av:Value) (w:World) (ha:ValsV w av args) (hp:Pow w) (ho:∀ x∈args,OkV x) (hno:∀ n,lookL builtL name=some n→(args.length:Int)≠n∨firstBad args≠0) :
  Calls Tryz.prog 102 #[.string name,av] w (RetR w [] (builtinR name args)):=by
 obtain ⟨P,hP⟩:∃ P:Ending→World→Prop,RetR w [] (builtinR name args)=P:=⟨_,rfl⟩
 rw [hP]
 have HP:=Lib.hid hP
 have HBU:=Lib.hid (built_any name w)
 have HCK:Hid (∀ wx,Below w.heap.size w wx→Calls Tryz.prog 138 #[av] wx fun e w'=>e=.returned (.int .i64 (firstBad args))∧Below w.heap.size w w'):=Lib.hid fun wx hb=>(echeck_any args av wx (ha.below hb) (hp.below hb) ho).mono fun e w' ⟨he,hb'⟩=>⟨he,below_call hb' hb⟩
 have HU:Hid (builtinR name args=match lookL builtL name with | none=>([],4) | some n=>if (args.length:Int)≠n then ([],7) else if firstBad args≠0 then ([],firstBad args) else builtR name.toList args):=Lib.hid rfl
 obtain ⟨aA,ac,rfl⟩:∃ A c,av=.slice A args.length c:=by
  obtain ⟨A,cap,vs,e,_⟩:=ha.at
  exact ⟨A,cap,e⟩
 obtain ⟨N,hN⟩:∃ N,args.length=N:=⟨_,rfl⟩
 rw [hN] at HU HCK hno ⊢
 obtain ⟨fb,hfb⟩:∃ b,firstBad args=b:=⟨_,rfl⟩
 rw [hfb] at HU HCK hno
 clear hP ha hp ho hN hfb
 cases hlk:lookL builtL name with
 | none =>
  rw [hlk] at HBU HU
  have HR:=HU
  simp only [Option.getD_none,Option.isSome_none] at HBU
  clear hlk hno HU
  go_enter Tryz.func102,Tryz.ntmps102
  go_wp2_with (first
   | (go_at_call 149;((with_reducible refine HBU.out.mono ?_);rintro e w1 ⟨rfl,hb1⟩;have HB1:=Lib.hid hb1;clear hb1)))
  rw [← HP.out]
  exact RetR.err HR.out HB1.out
 | some n =>
  have hno':=hno n hlk
  rw [hlk] at HBU HU
  simp only [Option.getD_some,Option.isSome_some] at HBU
  dsimp only at HU
  clear hlk hno
  by_cases hn:(N:Int)=n
  ·have h1:fb≠0:=hno'.resolve_left (not_not_intro hn)
   have h2:(fb != 0)=true:=by simpa using h1
   have HR:Hid (builtinR name args=([],fb)):=Lib.hid (by rw [HU.out,if_neg (not_not_intro hn),if_pos h1])
   subst hn
   clear h1 hno' HU
   go_enter Tryz.func102,Tryz.ntmps102
   go_wp2_with (first
    | (go_at_call 149;((with_reducible refine HBU.out.mono ?_);rintro e w1 ⟨rfl,hb1⟩;have HB1:=Lib.hid hb1;clear hb1))
    | (go_at_call 138;((with_reducible refine (HCK.out _ HB1.out).mono ?_);rintro e w2 ⟨rfl,hb2⟩;have HB2:=Lib.hid hb2;clear hb2)))
   rw [← HP.out]
   exact RetR.err HR.out HB2.out
  ·have h2:((N:Int) != n)=true:=by simpa using hn
   have HR:Hid (builtinR name args=([],7)):=Lib.hid (by rw [HU.out,if_pos hn])
   clear hn hno' HU
   go_enter Tryz.func102,Tryz.ntmps102
   go_wp2_with (first
    | (go_at_call 149;((with_reducible refine HBU.out.mono ?_);rintro e w1 ⟨rfl,hb1⟩;have HB1:=Lib.hid hb1;clear hb1)))
   rw [← HP.out]
   exact RetR.err HR.out HB1.out
theorem look_len:lookL builtL ⟨#[108,101,110]⟩=some 1:=by unfold lookL;rw [Lib.toList_data];rfl
theorem look_str:lookL builtL ⟨#[115,116,114]⟩=some 1:=by unfold lookL;rw [Lib.toList_data];rfl
theorem look_int:lookL builtL ⟨#[105,110,116]⟩=some 1:=by unfold lookL;rw [Lib.toList_data];rfl
theorem look_push:lookL builtL ⟨#[112,117,115,104]⟩=some 2:=by unfold lookL;rw [Lib.toList_data];rfl
theorem look_put:lookL builtL ⟨#[112,117,116]⟩=some 3:=by unfold lookL;rw [Lib.toList_data];rfl
theorem look_keys:lookL builtL ⟨#[107,101,121,115]⟩=some 1:=by unfold lookL;rw [Lib.toList_data];rfl
theorem look_has:lookL builtL ⟨#[104,97,115]⟩=some 2:=by unfold lookL;rw [Lib.toList_data];rfl
theorem look_fail:lookL builtL ⟨#[102,97,105,108]⟩=some 1:=by unfold lookL;rw [Lib.toList_data];rfl
set_option maxHeartbeats 8000000 in
theorem built_len (a:ValD) (av:Value) (w:World) (ha:ValsV w av [a]) (hp:Pow w) (hse:Sent w) (hf:firstBad [a]=0) :
  Calls Tryz.prog 102 #[.string ⟨#[108,101,110]⟩,av] w (RetR w [] (builtR [108,101,110] [a])):=by
 obtain ⟨P,hP⟩:∃ P:Ending→World→Prop,RetR w [] (builtR [108,101,110] [a])=P:=⟨_,rfl⟩
 rw [hP]
 have HP:=Lib.hid hP
 have hall:=firstBad_all hf
 have HBU:=Lib.hid (built_any ⟨#[108,101,110]⟩ w)
 rw [look_len] at HBU
 simp only [Option.getD_some,Option.isSome_some] at HBU
 have HCK:Hid (∀ wx,Below w.heap.size w wx→Calls Tryz.prog 138 #[av] wx fun e w'=>e=.returned (.int .i64 0)∧Below w.heap.size w w'):=Lib.hid fun wx hb=>(echeck_any [a] av wx (ha.below hb) (hp.below hb) (fun x hx=>okV_of_check (hall x hx))).mono fun e w' ⟨he,hb'⟩=>⟨by rw [he,hf],below_call hb' hb⟩
 obtain ⟨b,off,cap,rfl,hat⟩:=vals_at ha (by simp)
 simp only [List.length_cons,List.length_nil,Nat.zero_add,Nat.reduceAdd] at hat HCK ⊢
 obtain ⟨x0,hx0,hx⟩:=hat 0 (by omega)
 simp only [Nat.add_zero,List.getElem_cons_zero] at hx0 hx
 have hck:checkF a=0:=hall a (by simp)
 obtain ⟨A0,n0,k0,rfl⟩:=hx.shape
 obtain ⟨c,r,rfl⟩:∃ c r,a=c :: r:=by
  cases a with
  | nil=>exact absurd rfl (check_ne hck)
  | cons c r=>exact ⟨c,r,rfl⟩
 have HX0:=Lib.hid hx0
 have HF:Hid (∀ wx,Below w.heap.size w wx→Calls Tryz.prog 150 #[.slice A0 n0 k0] wx (RetR wx [] (sizeR (c :: r)))):=Lib.hid fun wx hb=>size0_any c r _ wx (hx.below hb) (hp.below hb) (okV_of_check hck) hck
 have HR:Hid (builtR [108,101,110] [c :: r]=sizeR (c :: r)):=Lib.hid rfl
 clear hP ha hp hse hf hall hat hx hck hx0
 go_enter Tryz.func102,Tryz.ntmps102
 go_wp2_with (first
  | (go_at_call 149;((with_reducible refine HBU.out.mono ?_);rintro e w1 ⟨rfl,hb1⟩;have HB1:=Lib.hid hb1;clear hb1))
  | (go_at_call 138;((with_reducible refine (HCK.out _ HB1.out).mono ?_);rintro e w2 ⟨rfl,hb2⟩;have HB2:=Lib.hid hb2;have hx0:=(hb2.cell (World.block_lt_of_cell? _ _ HX0.out)).trans HX0.out;clear hb2))
  | (go_at_call 150;((refine (HF.out _ HB2.out).mono ?_);rintro e w3 ⟨u,rfl,hu⟩;have HU:=Lib.hid hu;clear hu)))
 rw [← HP.out,HR.out]
 exact RetR.from ⟨u,rfl,HU.out⟩ HB2.out
set_option maxHeartbeats 8000000 in
theorem built_str (a:ValD) (av:Value) (w:World) (ha:ValsV w av [a]) (hp:Pow w) (hse:Sent w) (hf:firstBad [a]=0) :
  Calls Tryz.prog 102 #[.string ⟨#[115,116,114]⟩,av] w (RetR w [] (builtR [115,116,114] [a])):=by
 obtain ⟨P,hP⟩:∃ P:Ending→World→Prop,RetR w [] (builtR [115,116,114] [a])=P:=⟨_,rfl⟩
 rw [hP]
 have HP:=Lib.hid hP
 have hall:=firstBad_all hf
 have HBU:=Lib.hid (built_any ⟨#[115,116,114]⟩ w)
 rw [look_str] at HBU
 simp only [Option.getD_some,Option.isSome_some] at HBU
 have HCK:Hid (∀ wx,Below w.heap.size w wx→Calls Tryz.prog 138 #[av] wx fun e w'=>e=.returned (.int .i64 0)∧Below w.heap.size w w'):=Lib.hid fun wx hb=>(echeck_any [a] av wx (ha.below hb) (hp.below hb) (fun x hx=>okV_of_check (hall x hx))).mono fun e w' ⟨he,hb'⟩=>⟨by rw [he,hf],below_call hb' hb⟩
 obtain ⟨b,off,cap,rfl,hat⟩:=vals_at ha (by simp)
 simp only [List.length_cons,List.length_nil,Nat.zero_add,Nat.reduceAdd] at hat HCK ⊢
 obtain ⟨x0,hx0,hx⟩:=hat 0 (by omega)
 simp only [Nat.add_zero,List.getElem_cons_zero] at hx0 hx
 have hck:checkF a=0:=hall a (by simp)
 obtain ⟨A0,n0,k0,rfl⟩:=hx.shape
 obtain ⟨c,r,rfl⟩:∃ c r,a=c :: r:=by
  cases a with
  | nil=>exact absurd rfl (check_ne hck)
  | cons c r=>exact ⟨c,r,rfl⟩
 have HX0:=Lib.hid hx0
 have HF:Hid (∀ wx,Below w.heap.size w wx→Calls Tryz.prog 151 #[.slice A0 n0 k0] wx (RetR wx [] (textR (c :: r)))):=Lib.hid fun wx hb=>text_eval c r _ wx (hx.below hb) (hp.below hb) hck
 have HR:Hid (builtR [115,116,114] [c :: r]=textR (c :: r)):=Lib.hid rfl
 clear hP ha hp hse hf hall hat hx hck hx0
 go_enter Tryz.func102,Tryz.ntmps102
 go_wp2_with (first
  | (go_at_call 149;((with_reducible refine HBU.out.mono ?_);rintro e w1 ⟨rfl,hb1⟩;have HB1:=Lib.hid hb1;clear hb1))
  | (go_at_call 138;((with_reducible refine (HCK.out _ HB1.out).mono ?_);rintro e w2 ⟨rfl,hb2⟩;have HB2:=Lib.hid hb2;have hx0:=(hb2.cell (World.block_lt_of_cell? _ _ HX0.out)).trans HX0.out;clear hb2))
  | (go_at_call 151;((refine (HF.out _ HB2.out).mono ?_);rintro e w3 ⟨u,rfl,hu⟩;have HU:=Lib.hid hu;clear hu)))
 rw [← HP.out,HR.out]
 exact RetR.from ⟨u,rfl,HU.out⟩ HB2.out
set_option maxHeartbeats 8000000 in
theorem built_int (a:ValD) (av:Value) (w:World) (ha:ValsV w av [a]) (hp:Pow w) (hse:Sent w) (hf:firstBad [a]=0) :
  Calls Tryz.prog 102 #[.string ⟨#[105,110,116]⟩,av] w (RetR w [] (builtR [105,110,116] [a])):=by
 obtain ⟨P,hP⟩:∃ P:Ending→World→Prop,RetR w [] (builtR [105,110,116] [a])=P:=⟨_,rfl⟩
 rw [hP]
 have HP:=Lib.hid hP
 have hall:=firstBad_all hf
 have HBU:=Lib.hid (built_any ⟨#[105,110,116]⟩ w)
 rw [look_int] at HBU
 simp only [Option.getD_some,Option.isSome_some] at HBU
 have HCK:Hid (∀ wx,Below w.heap.size w wx→Calls Tryz.prog 138 #[av] wx fun e w'=>e=.returned (.int .i64 0)∧Below w.heap.size w w'):=Lib.hid fun wx hb=>(echeck_any [a] av wx (ha.below hb) (hp.below hb) (fun x hx=>okV_of_check (hall x hx))).mono fun e w' ⟨he,hb'⟩=>⟨by rw [he,hf],below_call hb' hb⟩
 obtain ⟨b,off,cap,rfl,hat⟩:=vals_at ha (by simp)
 simp only [List.length_cons,List.length_nil,Nat.zero_add,Nat.reduceAdd] at hat HCK ⊢
 obtain ⟨x0,hx0,hx⟩:=hat 0 (by omega)
 simp only [Nat.add_zero,List.getElem_cons_zero] at hx0 hx
 have hck:checkF a=0:=hall a (by simp)
 obtain ⟨A0,n0,k0,rfl⟩:=hx.shape
 obtain ⟨c,r,rfl⟩:∃ c r,a=c :: r:=by
  cases a with
  | nil=>exact absurd rfl (check_ne hck)
  | cons c r=>exact ⟨c,r,rfl⟩
 have HX0:=Lib.hid hx0
 have HF:Hid (∀ wx,Below w.heap.size w wx→Calls Tryz.prog 152 #[.slice A0 n0 k0] wx (RetR wx [] (integerR (c :: r)))):=Lib.hid fun wx hb=>integer_any c r _ wx (hx.below hb) (hp.below hb) (hse.below hb) (okV_of_check hck) hck
 have HR:Hid (builtR [105,110,116] [c :: r]=integerR (c :: r)):=Lib.hid rfl
 clear hP ha hp hse hf hall hat hx hck hx0
 go_enter Tryz.func102,Tryz.ntmps102
 go_wp2_with (first
  | (go_at_call 149;((with_reducible refine HBU.out.mono ?_);rintro e w1 ⟨rfl,hb1⟩;have HB1:=Lib.hid hb1;clear hb1))
  | (go_at_call 138;((with_reducible refine (HCK.out _ HB1.out).mono ?_);rintro e w2 ⟨rfl,hb2⟩;have HB2:=Lib.hid hb2;have hx0:=(hb2.cell (World.block_lt_of_cell? _ _ HX0.out)).trans HX0.out;clear hb2))
  | (go_at_call 152;((refine (HF.out _ HB2.out).mono ?_);rintro e w3 ⟨u,rfl,hu⟩;have HU:=Lib.hid hu;clear hu)))
 rw [← HP.out,HR.out]
 exact RetR.from ⟨u,rfl,HU.out⟩ HB2.out
set_option maxHeartbeats 8000000 in
theorem built_keys (a:ValD) (av:Value) (w:World) (ha:ValsV w av [a]) (hp:Pow w) (hse:Sent w) (hf:firstBad [a]=0) :
  Calls Tryz.prog 102 #[.string ⟨#[107,101,121,115]⟩,av] w (RetR w [] (builtR [107,101,121,115] [a])):=by
 obtain ⟨P,hP⟩:∃ P:Ending→World→Prop,RetR w [] (builtR [107,101,121,115] [a])=P:=⟨_,rfl⟩
 rw [hP]
 have HP:=Lib.hid hP
 have hall:=firstBad_all hf
 have HBU:=Lib.hid (built_any ⟨#[107,101,121,115]⟩ w)
 rw [look_keys] at HBU
 simp only [Option.getD_some,Option.isSome_some] at HBU
 have HCK:Hid (∀ wx,Below w.heap.size w wx→Calls Tryz.prog 138 #[av] wx fun e w'=>e=.returned (.int .i64 0)∧Below w.heap.size w w'):=Lib.hid fun wx hb=>(echeck_any [a] av wx (ha.below hb) (hp.below hb) (fun x hx=>okV_of_check (hall x hx))).mono fun e w' ⟨he,hb'⟩=>⟨by rw [he,hf],below_call hb' hb⟩
 obtain ⟨b,off,cap,rfl,hat⟩:=vals_at ha (by simp)
 simp only [List.length_cons,List.length_nil,Nat.zero_add,Nat.reduceAdd] at hat HCK ⊢
 obtain ⟨x0,hx0,hx⟩:=hat 0 (by omega)
 simp only [Nat.add_zero,List.getElem_cons_zero] at hx0 hx
 have hck:checkF a=0:=hall a (by simp)
 obtain ⟨A0,n0,k0,rfl⟩:=hx.shape
 obtain ⟨c,r,rfl⟩:∃ c r,a=c :: r:=by
  cases a with
  | nil=>exact absurd rfl (check_ne hck)
  | cons c r=>exact ⟨c,r,rfl⟩
 have HX0:=Lib.hid hx0
 have HF:Hid (∀ wx,Below w.heap.size w wx→Calls Tryz.prog 154 #[.slice A0 n0 k0] wx (RetR wx [] (keysR (c :: r)))):=Lib.hid fun wx hb=>bkeys_any c r _ wx (hx.below hb) (hp.below hb) (okV_of_check hck) hck
 have HR:Hid (builtR [107,101,121,115] [c :: r]=keysR (c :: r)):=Lib.hid rfl
 clear hP ha hp hse hf hall hat hx hck hx0
 go_enter Tryz.func102,Tryz.ntmps102
 go_wp2_with (first
  | (go_at_call 149;((with_reducible refine HBU.out.mono ?_);rintro e w1 ⟨rfl,hb1⟩;have HB1:=Lib.hid hb1;clear hb1))
  | (go_at_call 138;((with_reducible refine (HCK.out _ HB1.out).mono ?_);rintro e w2 ⟨rfl,hb2⟩;have HB2:=Lib.hid hb2;have hx0:=(hb2.cell (World.block_lt_of_cell? _ _ HX0.out)).trans HX0.out;clear hb2))
  | (go_at_call 154;((refine (HF.out _ HB2.out).mono ?_);rintro e w3 ⟨u,rfl,hu⟩;have HU:=Lib.hid hu;clear hu)))
 rw [← HP.out,HR.out]
 exact RetR.from ⟨u,rfl,HU.out⟩ HB2.out
set_option maxHeartbeats 8000000 in
theorem built_fail (a:ValD) (av:Value) (w:World) (ha:ValsV w av [a]) (hp:Pow w) (hse:Sent w) (hf:firstBad [a]=0) :
  Calls Tryz.prog 102 #[.string ⟨#[102,97,105,108]⟩,av] w (RetR w [] (builtR [102,97,105,108] [a])):=by
 obtain ⟨P,hP⟩:∃ P:Ending→World→Prop,RetR w [] (builtR [102,97,105,108] [a])=P:=⟨_,rfl⟩
 rw [hP]
 have HP:=Lib.hid hP
 have hall:=firstBad_all hf
 have HBU:=Lib.hid (built_any ⟨#[102,97,105,108]⟩ w)
 rw [look_fail] at HBU
 simp only [Option.getD_some,Option.isSome_some] at HBU
 have HCK:Hid (∀ wx,Below w.heap.size w wx→Calls Tryz.prog 138 #[av] wx fun e w'=>e=.returned (.int .i64 0)∧Below w.heap.size w w'):=Lib.hid fun wx hb=>(echeck_any [a] av wx (ha.below hb) (hp.below hb) (fun x hx=>okV_of_check (hall x hx))).mono fun e w' ⟨he,hb'⟩=>⟨by rw [he,hf],below_call hb' hb⟩
 obtain ⟨b,off,cap,rfl,hat⟩:=vals_at ha (by simp)
 simp only [List.length_cons,List.length_nil,Nat.zero_add,Nat.reduceAdd] at hat HCK ⊢
 have HR:Hid (builtR [102,97,105,108] [a]=([],20)):=Lib.hid rfl
 clear hP ha hp hse hf hall hat
 go_enter Tryz.func102,Tryz.ntmps102
 go_wp2_with (first
  | (go_at_call 149;((with_reducible refine HBU.out.mono ?_);rintro e w1 ⟨rfl,hb1⟩;have HB1:=Lib.hid hb1;clear hb1))
  | (go_at_call 138;((with_reducible refine (HCK.out _ HB1.out).mono ?_);rintro e w2 ⟨rfl,hb2⟩;have HB2:=Lib.hid hb2;clear hb2)))
 rw [← HP.out]
 exact RetR.err HR.out HB2.out
set_option maxHeartbeats 8000000 in
theorem built_push (a d:ValD) (av:Value) (w:World) (ha:ValsV w av [a,d]) (hp:Pow w) (hse:Sent w) (hf:firstBad [a,d]=0) :
  Calls Tryz.prog 102 #[.string ⟨#[112,117,115,104]⟩,av] w (RetR w [] (builtR [112,117,115,104] [a,d])):=by
 obtain ⟨P,hP⟩:∃ P:Ending→World→Prop,RetR w [] (builtR [112,117,115,104] [a,d])=P:=⟨_,rfl⟩
 rw [hP]
 have HP:=Lib.hid hP
 have hall:=firstBad_all hf
 have HBU:=Lib.hid (built_any ⟨#[112,117,115,104]⟩ w)
 rw [look_push] at HBU
 simp only [Option.getD_some,Option.isSome_some] at HBU
 have HCK:Hid (∀ wx,Below w.heap.size w wx→Calls Tryz.prog 138 #[av] wx fun e w'=>e=.returned (.int .i64 0)∧Below w.heap.size w w'):=Lib.hid fun wx hb=>(echeck_any [a,d] av wx (ha.below hb) (hp.below hb) (fun x hx=>okV_of_check (hall x hx))).mono fun e w' ⟨he,hb'⟩=>⟨by rw [he,hf],below_call hb' hb⟩
 obtain ⟨b,off,cap,rfl,hat⟩:=vals_at ha (by simp)
 simp only [List.length_cons,List.length_nil,Nat.zero_add,Nat.reduceAdd] at hat HCK ⊢
 obtain ⟨x0,hx0,hx⟩:=hat 0 (by omega)
 obtain ⟨x1,hx1,hy⟩:=hat 1 (by omega)
 simp only [Nat.add_zero,List.getElem_cons_zero,List.getElem_cons_succ] at hx0 hx hx1 hy
 have hck:checkF a=0:=hall a (by simp)
 have hck2:checkF d=0:=hall d (by simp)
 obtain ⟨A0,n0,k0,rfl⟩:=hx.shape
 obtain ⟨A1,n1,k1,rfl⟩:=hy.shape
 obtain ⟨c,r,rfl⟩:∃ c r,a=c :: r:=by
  cases a with
  | nil=>exact absurd rfl (check_ne hck)
  | cons c r=>exact ⟨c,r,rfl⟩
 have HX0:=Lib.hid hx0
 have HX1:=Lib.hid hx1
 have HF:Hid (∀ wx,Below w.heap.size w wx→Calls Tryz.prog 153 #[.slice A0 n0 k0,.slice A1 n1 k1] wx (RetR wx [] (pushR (c :: r) d))):=Lib.hid fun wx hb=>push_any c r d _ _ wx (hx.below hb) (hy.below hb) (hp.below hb) (okV_of_check hck) (okV_of_check hck2) hck
 have HR:Hid (builtR [112,117,115,104] [c :: r,d]=pushR (c :: r) d):=Lib.hid rfl
 clear hP ha hp hse hf hall hat hx hck hx0 hx1 hy hck2
 go_enter Tryz.func102,Tryz.ntmps102
 go_upto_region 17 with (first
  | (go_at_call 149;((with_reducible refine HBU.out.mono ?_);rintro e w1 ⟨rfl,hb1⟩;have HB1:=Lib.hid hb1;clear hb1))
  | (go_at_call 138;((with_reducible refine (HCK.out _ HB1.out).mono ?_);rintro e w2 ⟨rfl,hb2⟩;have HB2:=Lib.hid hb2;have hx0:=(hb2.cell (World.block_lt_of_cell? _ _ HX0.out)).trans HX0.out;have hx1:=(hb2.cell (World.block_lt_of_cell? _ _ HX1.out)).trans HX1.out;clear hb2)))
 go_region_law (go_simp;go_at_call 153;((refine (HF.out _ (below_call' (below_drew _) HB2.out HB2.out.size)).mono ?_);rintro e w3 ⟨u,rfl,hu⟩;have HU:=Lib.hid hu;clear hu))
 all_goals
  go_simp
  go_wp2_with (fail)
  rw [← HP.out,HR.out]
  exact RetR.from ⟨u,rfl,HU.out⟩ (below_call' (below_drew _) HB2.out HB2.out.size)
set_option maxHeartbeats 8000000 in
theorem built_put (a d z:ValD) (av:Value) (w:World) (ha:ValsV w av [a,d,z]) (hp:Pow w) (hse:Sent w) (hf:firstBad [a,d,z]=0) :
  Calls Tryz.prog 102 #[.string ⟨#[112,117,116]⟩,av] w (RetR w [] (builtR [112,117,116] [a,d,z])):=by
 obtain ⟨P,hP⟩:∃ P:Ending→World→Prop,RetR w [] (builtR [112,117,116] [a,d,z])=P:=⟨_,rfl⟩
 rw [hP]
 have HP:=Lib.hid hP
 have hall:=firstBad_all hf
 have HBU:=Lib.hid (built_any ⟨#[112,117,116]⟩ w)
 rw [look_put] at HBU
 simp only [Option.getD_some,Option.isSome_some] at HBU
 have HCK:Hid (∀ wx,Below w.heap.size w wx→Calls Tryz.prog 138 #[av] wx fun e w'=>e=.returned (.int .i64 0)∧Below w.heap.size w w'):=Lib.hid fun wx hb=>(echeck_any [a,d,z] av wx (ha.below hb) (hp.below hb) (fun x hx=>okV_of_check (hall x hx))).mono fun e w' ⟨he,hb'⟩=>⟨by rw [he,hf],below_call hb' hb⟩
 obtain ⟨b,off,cap,rfl,hat⟩:=vals_at ha (by simp)
 simp only [List.length_cons,List.length_nil,Nat.zero_add,Nat.reduceAdd] at hat HCK ⊢
 obtain ⟨x0,hx0,hx⟩:=hat 0 (by omega)
 obtain ⟨x1,hx1,hy⟩:=hat 1 (by omega)
 obtain ⟨x2,hx2,hz⟩:=hat 2 (by omega)
 simp only [Nat.add_zero,List.getElem_cons_zero,List.getElem_cons_succ] at hx0 hx hx1 hy hx2 hz
 have hck:checkF a=0:=hall a (by simp)
 have hck2:checkF d=0:=hall d (by simp)
 have hck3:checkF z=0:=hall z (by simp)
 obtain ⟨A2,n2,k2,rfl⟩:=hz.shape
 have HX2:=Lib.hid hx2
 have hks:∀ c r,d=c :: r→c.str.size≤200:=fun c r e=>str_len hck2 c (by rw [e];simp)
 obtain ⟨c,r,rfl⟩:∃ c r,a=c :: r:=by
  cases a with
  | nil=>exact absurd rfl (check_ne hck)
  | cons c r=>exact ⟨c,r,rfl⟩
 obtain ⟨c2,r2,rfl⟩:∃ c r,d=c :: r:=by
  cases d with
  | nil=>exact absurd rfl (check_ne hck2)
  | cons c r=>exact ⟨c,r,rfl⟩
 have hks2:=hks c2 r2 rfl
 have hx9:=hx
 have hy9:=hy
 obtain ⟨bA,oA,nA,cA,rfl,hnA,a0,_,_,_⟩:=head_cell hx9
 obtain ⟨bB,oB,nB,cB,rfl,hnB,b0,_,b2,_⟩:=head_cell hy9
 have hpA:(0:Int)<(nA:Int):=by omega
 have hpB:(0:Int)<(nB:Int):=by omega
 have hpBn:0<nB:=by omega
 have HX0:=Lib.hid hx0
 have HX1:=Lib.hid hx1
 have HA0:=Lib.hid a0
 have HB0:=Lib.hid b0
 have HB5:=Lib.hid b2
 have HF:Hid (∀ wx,Below w.heap.size w wx→Calls Tryz.prog 155 #[.slice (some ⟨bA,oA,none⟩) nA cA,.string c2.str,.slice A2 n2 k2] wx (RetR wx [] (putR (c :: r) c2.str z))):=Lib.hid fun wx hb=>put_any (c :: r) z c2.str _ _ wx (hx.below hb) (hz.below hb) (hp.below hb) (okV_of_check hck) (okV_of_check hck3) (by omega)
 have HU:Hid (builtR [112,117,116] [c :: r,c2 :: r2,z]=if c.kind≠6∨c2.kind≠4 then ([],7) else putR (c :: r) c2.str z):=Lib.hid rfl
 obtain ⟨BR,hBR⟩:∃ t,builtR [112,117,116] [c :: r,c2 :: r2,z]=t:=⟨_,rfl⟩
 rw [hBR] at HP HU
 obtain ⟨k,i,s,nn⟩:=c
 obtain ⟨kk,ii,ss,nnn⟩:=c2
 dsimp only at a0 b0 b2 HA0 HB0 HB5 HF HU hks2
 clear hP ha hp hse hf hall hat hx hy hck hx0 hx1 hck2 hks hx9 hy9 a0 b0 b2 hBR hks2 hnA hnB hx2 hz hck3
 by_cases h6:k=6
 case neg =>
  have h6':(k != 6)=true:=by simpa using h6
  have HR:Hid (BR=([],7)):=Lib.hid (by rw [HU.out,if_pos (.inl h6)])
  clear h6 HU
  go_enter Tryz.func102,Tryz.ntmps102
  go_wp2_with (first
   | (go_at_call 149;((with_reducible refine HBU.out.mono ?_);rintro e w1 ⟨rfl,hb1⟩;have HB1:=Lib.hid hb1;clear hb1))
   | (go_at_call 138;((with_reducible refine (HCK.out _ HB1.out).mono ?_);rintro e w2 ⟨rfl,hb2⟩;have HB2:=Lib.hid hb2;have hx0:=(hb2.cell (World.block_lt_of_cell? _ _ HX0.out)).trans HX0.out;have hx1:=(hb2.cell (World.block_lt_of_cell? _ _ HX1.out)).trans HX1.out;have ha0:=(hb2.cell (World.block_lt_of_cell? _ _ HA0.out)).trans HA0.out;have hb0:=(hb2.cell (World.block_lt_of_cell? _ _ HB0.out)).trans HB0.out;have hb5:=(hb2.cell (World.block_lt_of_cell? _ _ HB5.out)).trans HB5.out;clear hb2)))
  rw [← HP.out]
  exact RetR.err HR.out HB2.out
 subst h6
 by_cases h4:kk=4
 case neg =>
  have h4':(kk != 4)=true:=by simpa using h4
  have HR:Hid (BR=([],7)):=Lib.hid (by rw [HU.out,if_pos (.inr h4)])
  clear h4 HU
  go_enter Tryz.func102,Tryz.ntmps102
  go_wp2_with (first
   | (go_at_call 149;((with_reducible refine HBU.out.mono ?_);rintro e w1 ⟨rfl,hb1⟩;have HB1:=Lib.hid hb1;clear hb1))
   | (go_at_call 138;((with_reducible refine (HCK.out _ HB1.out).mono ?_);rintro e w2 ⟨rfl,hb2⟩;have HB2:=Lib.hid hb2;have hx0:=(hb2.cell (World.block_lt_of_cell? _ _ HX0.out)).trans HX0.out;have hx1:=(hb2.cell (World.block_lt_of_cell? _ _ HX1.out)).trans HX1.out;have ha0:=(hb2.cell (World.block_lt_of_cell? _ _ HA0.out)).trans HA0.out;have hb0:=(hb2.cell (World.block_lt_of_cell? _ _ HB0.out)).trans HB0.out;have hb5:=(hb2.cell (World.block_lt_of_cell? _ _ HB5.out)).trans HB5.out;clear hb2)))
  rw [← HP.out]
  exact RetR.err HR.out HB2.out
 subst h4
 have HR:Hid (BR=putR (⟨6,i,s,nn⟩ :: r) ss z):=Lib.hid (by rw [HU.out,if_neg (by simp)])
 clear HU
 go_enter Tryz.func102,Tryz.ntmps102
 go_upto_region 25 with (first
  | (go_at_call 149;((with_reducible refine HBU.out.mono ?_);rintro e w1 ⟨rfl,hb1⟩;have HB1:=Lib.hid hb1;clear hb1))
  | (go_at_call 138;((with_reducible refine (HCK.out _ HB1.out).mono ?_);rintro e w2 ⟨rfl,hb2⟩;have HB2:=Lib.hid hb2;have hx0:=(hb2.cell (World.block_lt_of_cell? _ _ HX0.out)).trans HX0.out;have hx1:=(hb2.cell (World.block_lt_of_cell? _ _ HX1.out)).trans HX1.out;have ha0:=(hb2.cell (World.block_lt_of_cell? _ _ HA0.out)).trans HA0.out;have hb0:=(hb2.cell (World.block_lt_of_cell? _ _ HB0.out)).trans HB0.out;have hb5:=(hb2.cell (World.block_lt_of_cell? _ _ HB5.out)).trans HB5.out;have hx2:=(hb2.cell (World.block_lt_of_cell? _ _ HX2.out)).trans HX2.out;clear hb2)))
 go_region_law (go_simp;go_at_call 155;((refine (HF.out _ (below_call' (below_drew _) HB2.out HB2.out.size)).mono ?_);rintro e w3 ⟨u,rfl,hu⟩;have HU:=Lib.hid hu;clear hu))
 all_goals
  go_simp
  go_wp2_with (fail)
  rw [← HP.out,HR.out]
  exact RetR.from ⟨u,rfl,HU.out⟩ (below_call' (below_drew _) HB2.out HB2.out.size)
set_option maxHeartbeats 8000000 in
theorem built_has (a d:ValD) (av:Value) (w:World) (ha:ValsV w av [a,d]) (hp:Pow w) (hse:Sent w) (hf:firstBad [a,d]=0) :
  Calls Tryz.prog 102 #[.string ⟨#[104,97,115]⟩,av] w (RetR w [] (builtR [104,97,115] [a,d])):=by
 obtain ⟨P,hP⟩:∃ P:Ending→World→Prop,RetR w [] (builtR [104,97,115] [a,d])=P:=⟨_,rfl⟩
 rw [hP]
 have HP:=Lib.hid hP
 have hall:=firstBad_all hf
 have HBU:=Lib.hid (built_any ⟨#[104,97,115]⟩ w)
 rw [look_has] at HBU
 simp only [Option.getD_some,Option.isSome_some] at HBU
 have HCK:Hid (∀ wx,Below w.heap.size w wx→Calls Tryz.prog 138 #[av] wx fun e w'=>e=.returned (.int .i64 0)∧Below w.heap.size w w'):=Lib.hid fun wx hb=>(echeck_any [a,d] av wx (ha.below hb) (hp.below hb) (fun x hx=>okV_of_check (hall x hx))).mono fun e w' ⟨he,hb'⟩=>⟨by rw [he,hf],below_call hb' hb⟩
 obtain ⟨b,off,cap,rfl,hat⟩:=vals_at ha (by simp)
 simp only [List.length_cons,List.length_nil,Nat.zero_add,Nat.reduceAdd] at hat HCK ⊢
 obtain ⟨x0,hx0,hx⟩:=hat 0 (by omega)
 obtain ⟨x1,hx1,hy⟩:=hat 1 (by omega)
 simp only [Nat.add_zero,List.getElem_cons_zero,List.getElem_cons_succ] at hx0 hx hx1 hy
 have hck:checkF a=0:=hall a (by simp)
 have hck2:checkF d=0:=hall d (by simp)
 have hks:∀ c r,d=c :: r→c.str.size≤200:=fun c r e=>str_len hck2 c (by rw [e];simp)
 obtain ⟨c,r,rfl⟩:∃ c r,a=c :: r:=by
  cases a with
  | nil=>exact absurd rfl (check_ne hck)
  | cons c r=>exact ⟨c,r,rfl⟩
 obtain ⟨c2,r2,rfl⟩:∃ c r,d=c :: r:=by
  cases d with
  | nil=>exact absurd rfl (check_ne hck2)
  | cons c r=>exact ⟨c,r,rfl⟩
 have hks2:=hks c2 r2 rfl
 have hx9:=hx
 have hy9:=hy
 obtain ⟨bA,oA,nA,cA,rfl,hnA,a0,_,_,_⟩:=head_cell hx9
 obtain ⟨bB,oB,nB,cB,rfl,hnB,b0,_,b2,_⟩:=head_cell hy9
 have hpA:(0:Int)<(nA:Int):=by omega
 have hpB:(0:Int)<(nB:Int):=by omega
 have hpBn:0<nB:=by omega
 have HX0:=Lib.hid hx0
 have HX1:=Lib.hid hx1
 have HA0:=Lib.hid a0
 have HB0:=Lib.hid b0
 have HB5:=Lib.hid b2
 have HF:Hid (∀ wx,Below w.heap.size w wx→Calls Tryz.prog 156 #[.slice (some ⟨bA,oA,none⟩) nA cA,.string c2.str] wx (RetR wx [] (getR (c :: r) c2.str))):=Lib.hid fun wx hb=>get_any (c :: r) c2.str _ wx (hx.below hb) (hp.below hb) (okV_of_check hck)
 have HU:Hid (builtR [104,97,115] [c :: r,c2 :: r2]=if c.kind≠6∨c2.kind≠4 then ([],7) else ([bCel (decide ((getR (c :: r) c2.str).2=0))],0)):=Lib.hid rfl
 obtain ⟨⟨gv,ge⟩,hge⟩:∃ t,getR (c :: r) c2.str=t:=⟨_,rfl⟩
 rw [hge] at HF HU
 dsimp only at HF HU
 obtain ⟨BR,hBR⟩:∃ t,builtR [104,97,115] [c :: r,c2 :: r2]=t:=⟨_,rfl⟩
 rw [hBR] at HP HU
 obtain ⟨k,i,s,nn⟩:=c
 obtain ⟨kk,ii,ss,nnn⟩:=c2
 dsimp only at a0 b0 b2 HA0 HB0 HB5 HF HU hks2
 clear hP ha hp hse hf hall hat hx hy hck hx0 hx1 hck2 hks hx9 hy9 a0 b0 b2 hBR hks2 hnA hnB hge
 by_cases h6:k=6
 case neg =>
  have h6':(k != 6)=true:=by simpa using h6
  have HR:Hid (BR=([],7)):=Lib.hid (by rw [HU.out,if_pos (.inl h6)])
  clear h6 HU
  go_enter Tryz.func102,Tryz.ntmps102
  go_wp2_with (first
   | (go_at_call 149;((with_reducible refine HBU.out.mono ?_);rintro e w1 ⟨rfl,hb1⟩;have HB1:=Lib.hid hb1;clear hb1))
   | (go_at_call 138;((with_reducible refine (HCK.out _ HB1.out).mono ?_);rintro e w2 ⟨rfl,hb2⟩;have HB2:=Lib.hid hb2;have hx0:=(hb2.cell (World.block_lt_of_cell? _ _ HX0.out)).trans HX0.out;have hx1:=(hb2.cell (World.block_lt_of_cell? _ _ HX1.out)).trans HX1.out;have ha0:=(hb2.cell (World.block_lt_of_cell? _ _ HA0.out)).trans HA0.out;have hb0:=(hb2.cell (World.block_lt_of_cell? _ _ HB0.out)).trans HB0.out;have hb5:=(hb2.cell (World.block_lt_of_cell? _ _ HB5.out)).trans HB5.out;clear hb2)))
  rw [← HP.out]
  exact RetR.err HR.out HB2.out
 subst h6
 by_cases h4:kk=4
 case neg =>
  have h4':(kk != 4)=true:=by simpa using h4
  have HR:Hid (BR=([],7)):=Lib.hid (by rw [HU.out,if_pos (.inr h4)])
  clear h4 HU
  go_enter Tryz.func102,Tryz.ntmps102
  go_wp2_with (first
   | (go_at_call 149;((with_reducible refine HBU.out.mono ?_);rintro e w1 ⟨rfl,hb1⟩;have HB1:=Lib.hid hb1;clear hb1))
   | (go_at_call 138;((with_reducible refine (HCK.out _ HB1.out).mono ?_);rintro e w2 ⟨rfl,hb2⟩;have HB2:=Lib.hid hb2;have hx0:=(hb2.cell (World.block_lt_of_cell? _ _ HX0.out)).trans HX0.out;have hx1:=(hb2.cell (World.block_lt_of_cell? _ _ HX1.out)).trans HX1.out;have ha0:=(hb2.cell (World.block_lt_of_cell? _ _ HA0.out)).trans HA0.out;have hb0:=(hb2.cell (World.block_lt_of_cell? _ _ HB0.out)).trans HB0.out;have hb5:=(hb2.cell (World.block_lt_of_cell? _ _ HB5.out)).trans HB5.out;clear hb2)))
  rw [← HP.out]
  exact RetR.err HR.out HB2.out
 subst h4
 have HR:Hid (BR=([bCel (decide (ge=0))],0)):=Lib.hid (by rw [HU.out,if_neg (by simp)])
 have HBO:Hid (∀ wx,Calls Tryz.prog 95 #[.bool (ge == 0)] wx fun e w'=>∃ u,e=.returned u∧ValV w' u [bCel (decide (ge=0))]∧FromC wx w' [] u∧Below wx.heap.size wx w'):=Lib.hid fun wx=>by
  have:=cbool_any (decide (ge=0)) wx
  rwa [show (ge == 0)=decide (ge=0) from rfl]
 clear HU
 go_enter Tryz.func102,Tryz.ntmps102
 go_upto_region 26 with (first
  | (go_at_call 149;((with_reducible refine HBU.out.mono ?_);rintro e w1 ⟨rfl,hb1⟩;have HB1:=Lib.hid hb1;clear hb1))
  | (go_at_call 138;((with_reducible refine (HCK.out _ HB1.out).mono ?_);rintro e w2 ⟨rfl,hb2⟩;have HB2:=Lib.hid hb2;have hx0:=(hb2.cell (World.block_lt_of_cell? _ _ HX0.out)).trans HX0.out;have hx1:=(hb2.cell (World.block_lt_of_cell? _ _ HX1.out)).trans HX1.out;have ha0:=(hb2.cell (World.block_lt_of_cell? _ _ HA0.out)).trans HA0.out;have hb0:=(hb2.cell (World.block_lt_of_cell? _ _ HB0.out)).trans HB0.out;have hb5:=(hb2.cell (World.block_lt_of_cell? _ _ HB5.out)).trans HB5.out;clear hb2)))
 go_region_law (go_simp;go_at_call 156;((refine (HF.out _ (below_call' (below_drew _) HB2.out HB2.out.size)).mono ?_);rintro e w3 ⟨u,rfl,hu,hf3,hb3⟩;have HB3:=Lib.hid (below_call' hb3 (below_call' (below_drew _) HB2.out HB2.out.size) (below_call' (below_drew _) HB2.out HB2.out.size).size);clear hu hf3 hb3))
 all_goals
  go_simp
  go_wp2_with (first
   | (go_at_call 95;((refine (HBO.out _).mono ?_);rintro e w4 ⟨u4,rfl,hu4,hf4,hb4⟩;have HU4:=Lib.hid hu4;have HF4:=Lib.hid hf4;have HB4:=Lib.hid hb4;clear hu4 hf4 hb4)))
  rw [← HP.out,HR.out]
  exact RetR.from ⟨u4,rfl,HU4.out,HF4.out,HB4.out⟩ HB3.out
/-- A built-in function. -/
theorem builtin_any (name:ByteArray) (args:List ValD) (av:Value) (w:World) (ha:ValsV w av args) (hp:Pow w) (hse:Sent w) (ho:∀ x∈args,OkV x) :
  Calls Tryz.prog 102 #[.string name,av] w (RetR w [] (builtinR name args)):=by
 by_cases hno:∀ n,lookL builtL name=some n→(args.length:Int)≠n∨firstBad args≠0
 ·exact builtin_no name args av w ha hp ho hno
 ·obtain ⟨n,h⟩:=Classical.not_forall.1 hno
  obtain ⟨hl,h⟩:=Classical.not_imp.1 h
  have h1:(args.length:Int)=n:=Classical.byContradiction fun e=>h (.inl e)
  have h2:firstBad args=0:=Classical.byContradiction fun e=>h (.inr e)
  have HR:builtinR name args=builtR name.toList args:=by
   unfold builtinR
   rw [hl]
   simp only
   rw [if_neg (not_not_intro h1),if_neg (not_not_intro h2)]
  rw [HR]
  have hlen:∀ k:Nat,n=k→args.length=k:=fun k e=>by omega
  rcases look_cases hl with ⟨rfl,e⟩ | ⟨rfl,e⟩ | ⟨rfl,e⟩ | ⟨rfl,e⟩ | ⟨rfl,e⟩ | ⟨rfl,e⟩ | ⟨rfl,e⟩ | ⟨rfl,e⟩
  ·obtain ⟨a,rfl⟩:∃ a,args=[a]:=by
    have:=hlen 1 e
    match args,this with
    | [a],_=>exact ⟨a,rfl⟩
   rw [Lib.toList_data]
   exact built_len a av w ha hp hse h2
  ·obtain ⟨a,rfl⟩:∃ a,args=[a]:=by
    have:=hlen 1 e
    match args,this with
    | [a],_=>exact ⟨a,rfl⟩
   rw [Lib.toList_data]
   exact built_str a av w ha hp hse h2
  ·obtain ⟨a,rfl⟩:∃ a,args=[a]:=by
    have:=hlen 1 e
    match args,this with
    | [a],_=>exact ⟨a,rfl⟩
   rw [Lib.toList_data]
   exact built_int a av w ha hp hse h2
  ·obtain ⟨a,d,rfl⟩:∃ a d,args=[a,d]:=by
    have:=hlen 2 e
    match args,this with
    | [a,d],_=>exact ⟨a,d,rfl⟩
   rw [Lib.toList_data]
   exact built_push a d av w ha hp hse h2
  ·obtain ⟨a,d,z,rfl⟩:∃ a d z,args=[a,d,z]:=by
    have:=hlen 3 e
    match args,this with
    | [a,d,z],_=>exact ⟨a,d,z,rfl⟩
   rw [Lib.toList_data]
   exact built_put a d z av w ha hp hse h2
  ·obtain ⟨a,rfl⟩:∃ a,args=[a]:=by
    have:=hlen 1 e
    match args,this with
    | [a],_=>exact ⟨a,rfl⟩
   rw [Lib.toList_data]
   exact built_keys a av w ha hp hse h2
  ·obtain ⟨a,d,rfl⟩:∃ a d,args=[a,d]:=by
    have:=hlen 2 e
    match args,this with
    | [a,d],_=>exact ⟨a,d,rfl⟩
   rw [Lib.toList_data]
   exact built_has a d av w ha hp hse h2
  ·obtain ⟨a,rfl⟩:∃ a,args=[a]:=by
    have:=hlen 1 e
    match args,this with
    | [a],_=>exact ⟨a,rfl⟩
   rw [Lib.toList_data]
   exact built_fail a av w ha hp hse h2
end
end Go.Proofs.YtmljohbialacfaaGreatDoor
