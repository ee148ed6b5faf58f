/- Y1, H0, H3, E44, H1 -/
import Derived.Test.YtekdhlfapejijaaGreatDoorPE43
set_option linter.unusedVariables false
set_option linter.unusedSimpArgs false
namespace Go.Proofs.YtekdhlfapejijaaGreatDoor
open Go.RowKit
set_option maxRecDepth 100000
section
theorem in_of_check {c:CellD} {r:ValD} (h:checkF (c :: r)=0) (h3:c.kind=3):inRange c.int=true:=by
 obtain ⟨_,_,_,h2,_⟩:=checkF_zero.1 h
 have:outB c=false:=by simpa using List.any_eq_false.1 h2 c (by simp)
 unfold outB at this
 simp [h3] at this
 unfold inRange
 simp
 omega
theorem unaryR_ok (op:ByteArray) (v:ValD):ResOk (unaryR op v):=by
 unfold unaryR
 split
 ·exact err_ok _ (by decide)
 split
 ·rename_i h;exact err_ok _ h
 ·rename_i hv
  have hv':checkF v=0:=by simpa using hv
  cases v with
  | nil=>exact err_ok _ (by decide)
  | cons c r =>
   simp only
   split
   ·exact fun _=>check_b _
   split
   ·rename_i h
    refine fun _=>check_i ?_
    have:=in_of_check hv' h.2
    unfold inRange at this ⊢
    simp at this ⊢
    omega
   ·exact err_ok _ (by decide)
theorem arithR_ok (op:List UInt8) {a b:Int} (ha:inRange a=true) (hb:inRange b=true):ResOk (arithR op a b):=by
 rw [arithR_eq]
 split
 ·rename_i h
  exact fun _=>check_i (arithN_ok ha hb h)
 ·rename_i h
  exact err_ok _ h
theorem binaryR_ok (op:ByteArray) (a b:ValD):ResOk (binaryR op a b):=by
 unfold binaryR
 split
 ·exact err_ok _ (by decide)
 split
 ·rename_i h;exact err_ok _ h
 split
 ·rename_i h;exact err_ok _ h
 split
 ·exact fun _=>check_b _
 split
 ·exact fun _=>check_b _
 rename_i ha hb _ _
 have ha':checkF a=0:=by simpa using ha
 have hb':checkF b=0:=by simpa using hb
 cases a with
 | nil=>exact err_ok _ (by decide)
 | cons x a =>
  cases b with
  | nil=>exact err_ok _ (by decide)
  | cons y b =>
   simp only
   split
   ·exact err_ok _ (by decide)
   rename_i hk
   have hk':x.kind=y.kind:=by simpa using hk
   split
   ·split
    ·exact fun _=>check_b _
    split
    ·exact fun _=>check_b _
    ·exact err_ok _ (by decide)
   split
   ·rename_i h3
    exact arithR_ok _ (in_of_check ha' h3) (in_of_check hb' (by omega))
   split
   ·exact limR_ok _
   split
   ·exact limR_ok _
   ·exact err_ok _ (by decide)
theorem part_check {c:CellD} {r:ValD} (hck:checkF (c :: r)=0) (hk:c.kind=5∨c.kind=6):∀ p∈partsOf (c :: r),checkF p.2=0 :=
 fun p hp=>(part_ok (okV_of_check hck) hck hk p hp).2.1
theorem getR_ok (v:ValD) (key:ByteArray):ResOk (getR v key):=by
 unfold getR
 split
 ·rename_i h;exact err_ok _ h
 rename_i hv
 have hv':checkF v=0:=by simpa using hv
 cases v with
 | nil=>exact err_ok _ (by decide)
 | cons c r =>
  simp only
  split
  ·exact err_ok _ (by decide)
  rename_i hk
  have hk':c.kind=6:=by simpa using hk
  cases h:findK (partsOf (c :: r)) key with
  | none=>exact err_ok _ (by decide)
  | some y =>
   refine fun _=>?_
   unfold findK at h
   obtain ⟨p,hp,rfl⟩:=Option.map_eq_some_iff.1 h
   exact part_check hv' (.inr hk') p (List.mem_of_find?_eq_some hp)
theorem atR_ok (v:ValD) (key:ByteArray):ResOk (atR v key):=by
 unfold atR
 split
 ·exact fun _=>check_nul
 ·exact getR_ok v key
theorem indexR_ok (v i:ValD):ResOk (indexR v i):=by
 unfold indexR
 split
 ·rename_i h;exact err_ok _ h
 split
 ·rename_i h;exact err_ok _ h
 rename_i ha hb
 have ha':checkF v=0:=by simpa using ha
 cases v with
 | nil=>exact err_ok _ (by decide)
 | cons x a =>
  cases i with
  | nil=>exact err_ok _ (by decide)
  | cons y b =>
   simp only
   split
   ·exact atR_ok _ _
   split
   ·exact err_ok _ (by decide)
   rename_i h5
   split
   ·exact err_ok _ (by decide)
   ·cases h:(partsOf (x :: a))[y.int.toNat]? with
    | none=>exact err_ok _ (by decide)
    | some p=>exact fun _=>part_check ha' (.inl (by omega)) p (List.mem_of_getElem? h)
theorem sizeR_ok {v:ValD} (h:checkF v=0):ResOk (sizeR v):=by
 cases v with
 | nil=>exact err_ok _ (by decide)
 | cons c r =>
  unfold sizeR
  simp only
  split
  ·have:=str_len h c (by simp)
   exact fun _=>check_i (in_small (by omega) (by omega))
  split
  ·rename_i hk
   obtain ⟨h1,h2⟩:=n_bd (okV_of_check h) h hk
   exact fun _=>check_i (in_small h1 h2)
  ·exact err_ok _ (by decide)
theorem integerR_ok {v:ValD} (h:checkF v=0):ResOk (integerR v):=by
 cases v with
 | nil=>exact err_ok _ (by decide)
 | cons c r =>
  unfold integerR
  simp only
  split
  ·exact fun _=>h
  split
  ·split
   ·rename_i h0
    refine fun _=>check_i ?_
    unfold parseR at h0 ⊢
    split
    ·rename_i h1;rw [if_pos h1] at h0;simp at h0
    ·rename_i h1
     rw [if_neg h1] at h0
     cases h2:Lib.atoiAll c.str.data.toList with
     | ok v =>
      rw [h2] at h0
      simp only at h0 ⊢
      split
      ·rename_i h3;exact h3
      ·rename_i h3;rw [if_neg h3] at h0;simp at h0
     | _=>rw [h2] at h0;simp at h0
   ·exact fun _=>check_nul
  ·exact err_ok _ (by decide)
theorem pushR_ok (l v:ValD):ResOk (pushR l v):=by
 cases l with
 | nil=>exact err_ok _ (by decide)
 | cons c r =>
  unfold pushR
  simp only
  split
  ·exact listR_ok _
  ·exact err_ok _ (by decide)
theorem keysR_ok (v:ValD):ResOk (keysR v):=by
 cases v with
 | nil=>exact err_ok _ (by decide)
 | cons c r =>
  unfold keysR
  simp only
  split
  ·exact listR_ok _
  ·exact err_ok _ (by decide)
theorem putR_ok (v:ValD) (key:ByteArray) (x:ValD):ResOk (putR v key x):=by
 unfold putR
 split
 ·rename_i h;exact err_ok _ h
 cases v with
 | nil=>exact err_ok _ (by decide)
 | cons c r =>
  simp only
  split
  ·exact err_ok _ (by decide)
  split
  ·rename_i h;exact err_ok _ h
  ·exact okR_ok _
def textR (v:ValD):ResD:=match v with
 | []=>([],7)
 | c :: r=>if c.kind=4 then (c :: r,0) else okR [sCel ⟨(textF (c :: r).length (c :: r)).toArray⟩]
theorem textR_ok {v:ValD} (h:checkF v=0):ResOk (textR v):=by
 cases v with
 | nil=>exact err_ok _ (by decide)
 | cons c r =>
  unfold textR
  simp only
  split
  ·exact fun _=>h
  ·exact okR_ok _
def builtR (name:List UInt8) (args:List ValD):ResD :=
 match args with
 | []=>([],7)
 | [a]=>if name=[108,101,110] then sizeR a else if name=[115,116,114] then textR a else if name=[105,110,116] then integerR a else if name=[107,101,121,115] then keysR a else ([],20)
 | a :: b :: rest =>
  if name=[112,117,115,104] then pushR a b
  else match a,b with
   | x :: _,y :: _ =>
    if x.kind≠6∨y.kind≠4 then ([],7)
    else if name=[112,117,116] then putR a y.str (rest.headD [])
    else ([bCel (decide ((getR a y.str).2=0))],0)
   | _,_=>([],7)
def builtinR (name:ByteArray) (args:List ValD):ResD :=
 match lookL builtL name with
 | none=>([],4)
 | some n=>if (args.length:Int)≠n then ([],7) else if firstBad args≠0 then ([],firstBad args) else builtR name.toList args
theorem firstBad_all {l:List ValD} (h:firstBad l=0):∀ x∈l,checkF x=0:=by
 induction l with
 | nil=>simp
 | cons a r ih =>
  unfold firstBad at h
  split at h
  ·rename_i h1;exact absurd h h1
  ·rename_i h1
   intro x hx
   rcases List.mem_cons.1 hx with rfl | hx
   ·simpa using h1
   ·exact ih h x hx
theorem builtR_ok (name:List UInt8) {args:List ValD} (h:∀ x∈args,checkF x=0):ResOk (builtR name args):=by
 unfold builtR
 split
 ·exact err_ok _ (by decide)
 ·rename_i a
  have ha:=h a (by simp)
  split
  ·exact sizeR_ok ha
  split
  ·exact textR_ok ha
  split
  ·exact integerR_ok ha
  split
  ·exact keysR_ok _
  ·exact err_ok _ (by decide)
 ·split
  ·exact pushR_ok _ _
  ·split
   ·split
    ·exact err_ok _ (by decide)
    split
    ·exact putR_ok _ _ _
    ·exact fun _=>check_b _
   ·exact err_ok _ (by decide)
theorem builtinR_ok (name:ByteArray) (args:List ValD):ResOk (builtinR name args):=by
 unfold builtinR
 split
 ·exact err_ok _ (by decide)
 ·split
  ·exact err_ok _ (by decide)
  split
  ·rename_i h;exact err_ok _ h
  ·rename_i h
   exact builtR_ok _ (firstBad_all (by simpa using h))
end
section
inductive SigD where
 | fail (e:Int)
 | wait
 | ret (v:ValD)
structure AnsD where
 err:Int
 value:ValD
structure EvC where
 p:ProgD
 slots:List Int
 locals:List Int
 answers:List AnsD
structure EvS where
 fuel:Nat
 reqs:List ReqD
 vars:List ValD
abbrev EvR (α:Type):=Option ((α × Option SigD) × EvS)
abbrev EvN:=Nat→EvS→EvR ValD
def kidN (n:NodeD) (j:Nat):Nat:=(n.kids.getD j 0).toNat
def outF (r:ResD):ValD × Option SigD:=if r.2≠0 then ([],some (.fail r.2)) else (r.1,none)
def allF (N:EvN):List Int→List ValD→EvS→EvR (List ValD)
 | [],out,s=>some ((out,none),s)
 | k :: r,out,s=>match N k.toNat s with
  | none=>none
  | some ((v,none),t)=>allF N r (out ++ [v]) t
  | some ((_,some g),t)=>some (([],some g),t)
def condF (N:EvN) (k:Nat) (s:EvS):EvR Bool:=match N k s with
 | none=>none
 | some ((_,some g),t)=>some ((false,some g),t)
 | some (([],none),t)=>none
 | some ((c :: _,none),t)=>if c.kind=2 then some ((decide (c.int≠0),none),t) else some ((false,some (.fail 7)),t)
def andS:List UInt8:=[97,110,100]
def orS:List UInt8:=[111,114]
def boolF:EvR Bool→EvR ValD
 | none=>none
 | some ((_,some g),t)=>some (([],some g),t)
 | some ((b,none),t)=>some (([bCel b],none),t)
def bothF (N:EvN) (n:NodeD) (s:EvS):EvR ValD:=match condF N (kidN n 0) s with
 | none=>none
 | some ((_,some g),t)=>some (([],some g),t)
 | some ((b,none),t)=>if b=decide (n.text.toList=andS) then boolF (condF N (kidN n 1) t) else some (([bCel b],none),t)
def dropF:EvR ValD→EvR ValD
 | none=>none
 | some ((_,g),t)=>some (([],g),t)
def chooseF (N:EvN) (n:NodeD) (s:EvS):EvR ValD:=match condF N (kidN n 0) s with
 | none=>none
 | some ((_,some g),t)=>some (([],some g),t)
 | some ((true,none),t)=>dropF (N (kidN n 1) t)
 | some ((false,none),t)=>if 2<n.kids.length then dropF (N (kidN n 2) t) else some (([],none),t)
def loopF (N:EvN) (n:NodeD):Nat→EvS→EvR ValD
 | 0,s=>some (([],some (.fail 15)),s)
 | j+1,s=>match condF N (kidN n 0) s with
  | none=>none
  | some ((_,some g),t)=>some (([],some g),t)
  | some ((false,none),t)=>some (([],none),t)
  | some ((true,none),t)=>match N (kidN n 1) t with
   | none=>none
   | some ((_,some g),u)=>some (([],some g),u)
   | some ((_,none),u)=>loopF N n j u
def askF (C:EvC) (op:ByteArray) (args:List ValD) (s:EvS):(ValD × Option SigD) × EvS :=
 if s.reqs.length=32 then (([],some (.fail 3)),s)
 else ((match C.answers[s.reqs.length]? with
  | none=>([],some .wait)
  | some a=>if a.err≠0 then ([],some (.fail a.err)) else if checkF a.value≠0 then ([],some (.fail 13)) else (a.value,none)),{ s with reqs:=s.reqs ++ [⟨op,args⟩] })
def varsF (L:Nat) (args:List ValD):List ValD:=args.take L ++ List.replicate (L - args.length) []
def backF (vars:List ValD):EvR ValD→EvR ValD
 | none=>none
 | some ((_,none),t)=>some (([nulC],none),{ t with vars:=vars })
 | some ((_,some (.ret v)),t)=>some ((v,none),{ t with vars:=vars })
 | some ((_,some g),t)=>some (([],some g),{ t with vars:=vars })
def callF (C:EvC) (N:Nat→EvN) (c f:Nat) (args:List ValD) (s:EvS):EvR ValD :=
 if c=16 then some (([],some (.fail 21)),s)
 else match C.p.funcs[f]?,C.locals[f]? with
  | some fn,some L=>backF s.vars (N (c+1) fn.body.toNat { s with vars:=varsF L.toNat args })
  | _,_=>none
def setF (C:EvC) (k:Nat) (v:ValD) (s:EvS):EvR ValD:=match C.slots[k]? with
 | none=>none
 | some sl=>if 0≤sl∧sl<s.vars.length then some (([],none),{ s with vars:=s.vars.set sl.toNat v }) else none
def varF (C:EvC) (k:Nat) (s:EvS):EvR ValD:=match C.slots[k]? with
 | none=>none
 | some sl=>if 0≤sl∧sl<s.vars.length then some ((s.vars.getD sl.toNat [],none),s) else none
def applyF (C:EvC) (N:Nat→EvN) (c k:Nat) (n:NodeD) (l:List ValD) (s:EvS):EvR ValD :=
 if n.kind=6 then some (outF (listR l),s)
 else if n.kind=7 then some (outF (mapR n.keys l),s)
 else if n.kind=8 then some (outF (unaryR n.text (l.getD 0 [])),s)
 else if n.kind=9 then some (outF (binaryR n.text (l.getD 0 []) (l.getD 1 [])),s)
 else if n.kind=10 then some (outF (indexR (l.getD 0 []) (l.getD 1 [])),s)
 else if n.kind=12 then some (askF C n.text l s)
 else if n.kind=13∨n.kind=14 then setF C k (l.getD 0 []) s
 else if n.kind=17 then some (([],some (.ret (l.getD 0 []))),s)
 else if n.kind=11 then (if 0≤findF C.p n.text then callF C N c (findF C.p n.text).toNat l s else some (outF (builtinR n.text l),s))
 else some (([],none),s)
def isBothB (n:NodeD):Bool:=decide (n.kind=9) && (decide (n.text.toList=andS) || decide (n.text.toList=orS))
def thenF (C:EvC) (N:Nat→EvN) (c k:Nat) (n:NodeD):EvR (List ValD)→EvR ValD
 | none=>none
 | some ((_,some g),t)=>some (([],some g),t)
 | some ((l,none),t)=>applyF C N c k n l t
def stepN (C:EvC) (N:Nat→EvN) (g c k:Nat) (n:NodeD) (s:EvS):EvR ValD :=
 if n.kind=1 then some (([nulC],none),s)
 else if n.kind=2 then some (([bCel (decide (n.int=1))],none),s)
 else if n.kind=3 then some (outF (okR [iCel n.int]),s)
 else if n.kind=4 then some (outF (okR [sCel n.text]),s)
 else if n.kind=5 then varF C k s
 else if n.kind=15 then chooseF (N c) n s
 else if n.kind=16 then loopF (N c) n (g+1) s
 else if isBothB n=true then bothF (N c) n s
 else thenF C N c k n (allF (N c) n.kids [] s)
def nodeE (C:EvC):Nat→Nat→EvN
 | 0,_,_,s=>some (([],some (.fail 15)),s)
 | g+1,c,k,s=>if s.fuel=0 then some (([],some (.fail 15)),s) else match C.p.nodes[k]? with
  | none=>none
  | some n=>stepN C (nodeE C g) g c k n { s with fuel:=s.fuel - 1 }
def finF:EvR ValD→Option OutD
 | none=>none
 | some ((v,none),t)=>some ⟨true,0,v,t.reqs⟩
 | some ((_,some (.fail e)),t)=>some ⟨true,e,[],t.reqs⟩
 | some ((_,some .wait),t)=>some ⟨false,0,[],t.reqs⟩
 | some ((_,some (.ret v)),t)=>some ⟨true,0,[],t.reqs⟩
def ctxF (p:ProgD) (answers:List AnsD):EvC:=⟨p,(studyF p).slots,(studyF p).locals,answers⟩
def mainF (p:ProgD) (event:ValD) (answers:List AnsD) (fuel:Nat):Option OutD :=
 finF (callF (ctxF p answers) (nodeE (ctxF p answers) fuel) 0 (findF p mainS).toNat [event] ⟨fuel,[],[event]⟩)
def noOut:OutD:=⟨false,0,[],[]⟩
def runE (p:ProgD) (event:ValD) (answers:List AnsD) (fuel:Int):Option OutD × Int :=
 if (studyF p).err≠0 then (some noOut,(studyF p).err)
 else if checkF event≠0 then (some noOut,checkF event)
 else if fuel<1∨200000<fuel then (some noOut,2)
 else (mainF p event answers fuel.toNat,0)
end
section
structure DownR {α:Type} (s:EvS) (R:(α × Option SigD) × EvS):Prop where
 fuel:R.2.fuel≤s.fuel
 reqs:s.reqs <+: R.2.reqs
 len:R.2.vars.length=s.vars.length
theorem DownR.same {α:Type} {s t:EvS} {x:α × Option SigD} (h1:t.fuel=s.fuel) (h2:t.reqs=s.reqs) (h3:t.vars.length=s.vars.length):DownR s (x,t):=⟨by simp only;omega,by simp only;rw [h2];exact List.prefix_refl _,h3⟩
theorem DownR.trans {α β:Type} {s t:EvS} {x:α × Option SigD} {R:(β × Option SigD) × EvS} (h:DownR s (x,t)) (g:DownR t R):DownR s R:=⟨Nat.le_trans g.fuel h.fuel,h.reqs.trans g.reqs,g.len.trans h.len⟩
theorem DownR.val {α β:Type} {s t:EvS} {x:α × Option SigD} (h:DownR s (x,t)) (y:β × Option SigD):DownR s (y,t):=⟨h.fuel,h.reqs,h.len⟩
def DownN (N:EvN):Prop:=∀ i s R,N i s=some R→DownR s R∧(R.1.2=none→R.2.fuel<s.fuel)
section
variable {N:EvN} (hN:DownN N)
include hN
theorem down_all:∀ (r:List Int) (out:List ValD) (s:EvS) (R),allF N r out s=some R→DownR s R:=by
 intro r
 induction r with
 | nil=>intro out s R h;simp only [allF] at h;cases h;exact .same rfl rfl rfl
 | cons k r ih =>
  intro out s R h
  simp only [allF] at h
  cases hR:N k.toNat s with
  | none=>rw [hR] at h;cases h
  | some Q =>
   obtain ⟨⟨v,g⟩,t⟩:=Q
   rw [hR] at h
   have hd:=(hN _ _ _ hR).1
   cases g with
   | none=>exact hd.trans (ih _ _ _ h)
   | some g=>cases h;exact hd.val _
theorem down_cond {k:Nat} {s:EvS} {R} (h:condF N k s=some R):DownR s R∧(R.1.2=none→R.2.fuel<s.fuel):=by
 unfold condF at h
 cases hR:N k s with
 | none=>rw [hR] at h;cases h
 | some Q =>
  obtain ⟨⟨v,g⟩,t⟩:=Q
  rw [hR] at h
  obtain ⟨hd,hl⟩:=hN _ _ _ hR
  cases g with
  | some g=>cases h;exact ⟨hd.val _,fun e=>by cases e⟩
  | none =>
   cases v with
   | nil=>cases h
   | cons c r =>
    simp only at h
    split at h
    ·cases h;exact ⟨hd.val _,fun _=>hl rfl⟩
    ·cases h;exact ⟨hd.val _,fun e=>by cases e⟩
theorem down_bool {k:Nat} {s:EvS} {R} (h:boolF (condF N k s)=some R):DownR s R:=by
 cases hR:condF N k s with
 | none=>rw [hR] at h;cases h
 | some Q =>
  obtain ⟨⟨v,g⟩,t⟩:=Q
  rw [hR] at h
  have hd:=(down_cond hN hR).1
  cases g with
  | some g=>cases h;exact hd.val _
  | none=>cases h;exact hd.val _
theorem down_both {n:NodeD} {s:EvS} {R} (h:bothF N n s=some R):DownR s R:=by
 unfold bothF at h
 cases hR:condF N (kidN n 0) s with
 | none=>rw [hR] at h;cases h
 | some Q =>
  obtain ⟨⟨v,g⟩,t⟩:=Q
  rw [hR] at h
  have hd:=(down_cond hN hR).1
  cases g with
  | some g=>cases h;exact hd.val _
  | none =>
   simp only at h
   split at h
   ·exact hd.trans (down_bool hN h)
   ·cases h;exact hd.val _
theorem down_drop {k:Nat} {s:EvS} {R} (h:dropF (N k s)=some R):DownR s R:=by
 cases hR:N k s with
 | none=>rw [hR] at h;cases h
 | some Q =>
  obtain ⟨⟨v,g⟩,t⟩:=Q
  rw [hR] at h
  cases h
  exact (hN _ _ _ hR).1.val _
theorem down_choose {n:NodeD} {s:EvS} {R} (h:chooseF N n s=some R):DownR s R:=by
 unfold chooseF at h
 cases hR:condF N (kidN n 0) s with
 | none=>rw [hR] at h;cases h
 | some Q =>
  obtain ⟨⟨v,g⟩,t⟩:=Q
  rw [hR] at h
  have hd:=(down_cond hN hR).1
  cases g with
  | some g=>cases h;exact hd.val _
  | none =>
   cases v with
   | true=>exact hd.trans (down_drop hN h)
   | false =>
    simp only at h
    split at h
    ·exact hd.trans (down_drop hN h)
    ·cases h;exact hd.val _
theorem down_loop {n:NodeD}:∀ (j:Nat) (s:EvS) (R),loopF N n j s=some R→DownR s R:=by
 intro j
 induction j with
 | zero=>intro s R h;simp only [loopF] at h;cases h;exact .same rfl rfl rfl
 | succ j ih =>
  intro s R h
  simp only [loopF] at h
  cases hR:condF N (kidN n 0) s with
  | none=>rw [hR] at h;cases h
  | some Q =>
   obtain ⟨⟨v,g⟩,t⟩:=Q
   rw [hR] at h
   have hd:=(down_cond hN hR).1
   cases g with
   | some g=>cases h;exact hd.val _
   | none =>
    cases v with
    | false=>cases h;exact hd.val _
    | true =>
     simp only at h
     cases hQ:N (kidN n 1) t with
     | none=>rw [hQ] at h;cases h
     | some Q =>
      obtain ⟨⟨v,g⟩,u⟩:=Q
      rw [hQ] at h
      have hq:=(hN _ _ _ hQ).1
      cases g with
      | some g=>cases h;exact hd.trans (hq.val _)
      | none=>exact hd.trans (hq.trans (ih _ _ h))
end
theorem down_ask (C:EvC) (op:ByteArray) (args:List ValD) (s:EvS):DownR s (askF C op args s):=by
 unfold askF
 split
 ·exact .same rfl rfl rfl
 ·exact ⟨Nat.le_refl _,List.prefix_append _ _,rfl⟩
theorem down_back {vars:List ValD} {s:EvS} {o:EvR ValD} {R} (hv:vars.length=s.vars.length) (ho:∀ Q,o=some Q→Q.2.fuel≤s.fuel∧s.reqs <+: Q.2.reqs) (h:backF vars o=some R):DownR s R:=by
 cases o with
 | none=>cases h
 | some Q =>
  obtain ⟨⟨v,g⟩,t⟩:=Q
  have hd:=ho _ rfl
  cases g with
  | none=>cases h;exact ⟨hd.1,hd.2,hv⟩
  | some g=>cases g <;> (cases h;exact ⟨hd.1,hd.2,hv⟩)
section
variable {C:EvC} {N:Nat→EvN} (hN:∀ c,DownN (N c))
include hN
theorem down_call {c f:Nat} {args:List ValD} {s:EvS} {R} (h:callF C N c f args s=some R):DownR s R:=by
 unfold callF at h
 split at h
 ·cases h;exact .same rfl rfl rfl
 ·split at h
  ·refine down_back rfl (fun Q hQ=>?_) h
   have:=(hN _ _ _ _ hQ).1
   exact ⟨this.fuel,this.reqs⟩
  ·cases h
theorem down_apply {c k:Nat} {n:NodeD} {l:List ValD} {s:EvS} {R} (h:applyF C N c k n l s=some R):DownR s R:=by
 unfold applyF at h
 split at h
 ·cases h;exact .same rfl rfl rfl
 split at h
 ·cases h;exact .same rfl rfl rfl
 split at h
 ·cases h;exact .same rfl rfl rfl
 split at h
 ·cases h;exact .same rfl rfl rfl
 split at h
 ·cases h;exact .same rfl rfl rfl
 split at h
 ·cases h;exact down_ask _ _ _ _
 split at h
 ·unfold setF at h
  split at h
  ·cases h
  ·split at h
   ·cases h;exact .same rfl rfl (by simp)
   ·cases h
 split at h
 ·cases h;exact .same rfl rfl rfl
 split at h
 ·split at h
  ·exact down_call hN h
  ·cases h;exact .same rfl rfl rfl
 ·cases h;exact .same rfl rfl rfl
theorem down_step {g c k:Nat} {n:NodeD} {s:EvS} {R} (h:stepN C N g c k n s=some R):DownR s R:=by
 unfold stepN at h
 split at h
 ·cases h;exact .same rfl rfl rfl
 split at h
 ·cases h;exact .same rfl rfl rfl
 split at h
 ·cases h;exact .same rfl rfl rfl
 split at h
 ·cases h;exact .same rfl rfl rfl
 split at h
 ·unfold varF at h
  split at h
  ·cases h
  ·split at h
   ·cases h;exact .same rfl rfl rfl
   ·cases h
 split at h
 ·exact down_choose (hN c) h
 split at h
 ·exact down_loop (hN c) _ _ _ h
 split at h
 ·exact down_both (hN c) h
 unfold thenF at h
 split at h
 ·cases h
 ·rename_i g t hR
  cases h
  exact (down_all (hN c) _ _ _ _ hR).val _
 ·rename_i l t hR
  exact (down_all (hN c) _ _ _ _ hR).trans (down_apply hN h)
end
theorem down_node (C:EvC):∀ g c,DownN (nodeE C g c):=by
 intro g
 induction g with
 | zero=>intro c i s R h;simp only [nodeE] at h;cases h;exact ⟨.same rfl rfl rfl,fun e=>by cases e⟩
 | succ g ih =>
  intro c i s R h
  simp only [nodeE] at h
  split at h
  ·cases h;exact ⟨.same rfl rfl rfl,fun e=>by cases e⟩
  ·rename_i h0
   split at h
   ·cases h
   ·have hd:=down_step ih h
    have h1:=hd.fuel
    simp only at h1
    exact ⟨⟨by omega,hd.reqs,hd.len⟩,fun _=>by omega⟩
def up (d:Nat) (s:EvS):EvS:={ s with fuel:=s.fuel+d }
def SimR {α:Type} (d:Nat) (stop:SigD→Prop) (R R':(α × Option SigD) × EvS):Prop:=R'=(R.1,up d R.2)∨∃ g,R.1.2=some g∧stop g∧R.2.reqs <+: R'.2.reqs
def SimN (d:Nat) (stop:SigD→Prop) (g g':Nat) (N N':EvN):Prop:=∀ i s R R',s.fuel≤g→s.fuel+d≤g'→N i s=some R→N' i (up d s)=some R'→SimR d stop R R'
section
variable {d g g':Nat} {stop:SigD→Prop} {N N':EvN}
theorem sim_all (hS:SimN d stop g g' N N') (hN:DownN N) (hN':DownN N'):∀ (r:List Int) (out:List ValD) (s:EvS) (R R'),s.fuel≤g→s.fuel+d≤g'→allF N r out s=some R→allF N' r out (up d s)=some R'→SimR d stop R R':=by
 intro r
 induction r with
 | nil=>intro out s R R' _ _ h h';simp only [allF] at h h';cases h;cases h';exact .inl rfl
 | cons k r ih =>
  intro out s R R' h1 h2 h h'
  simp only [allF] at h h'
  cases hR:N k.toNat s with
  | none=>rw [hR] at h;cases h
  | some Q =>
   cases hR':N' k.toNat (up d s) with
   | none=>rw [hR'] at h';cases h'
   | some Q' =>
    have hs:=hS _ _ _ _ h1 h2 hR hR'
    obtain ⟨⟨v,gs⟩,t⟩:=Q
    have hd:=(hN _ _ _ hR).1.fuel
    simp only at hd
    rw [hR] at h
    rw [hR'] at h'
    rcases hs with e | ⟨gs',e1,e2,e3⟩
    ·subst e
     cases gs with
     | none=>exact ih _ _ _ _ (by omega) (by omega) h h'
     | some gs=>cases h;cases h';exact .inl rfl
    ·simp only at e1
     subst e1
     cases h
     obtain ⟨⟨v',gs''⟩,t'⟩:=Q'
     cases gs'' with
     | none=>exact .inr ⟨_,rfl,e2,e3.trans (down_all hN' _ _ _ _ h').reqs⟩
     | some gs''=>cases h';exact .inr ⟨_,rfl,e2,e3⟩
theorem sim_cond (hS:SimN d stop g g' N N') {k:Nat} {s:EvS} {R R'} (h1:s.fuel≤g) (h2:s.fuel+d≤g') (h:condF N k s=some R) (h':condF N' k (up d s)=some R'):SimR d stop R R':=by
 unfold condF at h h'
 cases hR:N k s with
 | none=>rw [hR] at h;cases h
 | some Q =>
  cases hR':N' k (up d s) with
  | none=>rw [hR'] at h';cases h'
  | some Q' =>
   have hs:=hS _ _ _ _ h1 h2 hR hR'
   obtain ⟨⟨v,gs⟩,t⟩:=Q
   rw [hR] at h
   rw [hR'] at h'
   rcases hs with e | ⟨gs',e1,e2,e3⟩
   ·subst e
    cases gs with
    | some gs=>cases h;cases h';exact .inl rfl
    | none =>
     cases v with
     | nil=>cases h
     | cons c r =>
      simp only at h h'
      split at h
      ·rename_i hk;rw [if_pos hk] at h';cases h;cases h';exact .inl rfl
      ·rename_i hk;rw [if_neg hk] at h';cases h;cases h';exact .inl rfl
   ·simp only at e1
    subst e1
    cases h
    obtain ⟨⟨v',gs''⟩,t'⟩:=Q'
    refine .inr ⟨_,rfl,e2,?_⟩
    cases gs'' with
    | some gs''=>cases h';exact e3
    | none =>
     cases v' with
     | nil=>cases h'
     | cons c r =>
      simp only at h'
      split at h'
      ·cases h';exact e3
      ·cases h';exact e3
theorem sim_both (hS:SimN d stop g g' N N') (hN:DownN N) (hN':DownN N') {n:NodeD} {s:EvS} {R R'} (h1:s.fuel≤g) (h2:s.fuel+d≤g') (h:bothF N n s=some R) (h':bothF N' n (up d s)=some R'):SimR d stop R R':=by
 unfold bothF at h h'
 cases hR:condF N (kidN n 0) s with
 | none=>rw [hR] at h;cases h
 | some Q =>
  cases hR':condF N' (kidN n 0) (up d s) with
  | none=>rw [hR'] at h';cases h'
  | some Q' =>
   have hs:=sim_cond hS h1 h2 hR hR'
   obtain ⟨⟨v,gs⟩,t⟩:=Q
   have hd:=(down_cond hN hR).1.fuel
   simp only at hd
   rw [hR] at h
   rw [hR'] at h'
   rcases hs with e | ⟨gs',e1,e2,e3⟩
   ·subst e
    cases gs with
    | some gs=>cases h;cases h';exact .inl rfl
    | none =>
     simp only at h h'
     split at h
     ·rename_i hb
      rw [if_pos hb] at h'
      cases hQ:condF N (kidN n 1) t with
      | none=>rw [hQ] at h;cases h
      | some P =>
       cases hQ':condF N' (kidN n 1) (up d t) with
       | none=>rw [hQ'] at h';cases h'
       | some P' =>
        have hs2:=sim_cond hS (by omega) (by omega) hQ hQ'
        obtain ⟨⟨v2,gs2⟩,t2⟩:=P
        rw [hQ] at h
        rw [hQ'] at h'
        rcases hs2 with e | ⟨gs',e1,e2,e3⟩
        ·subst e
         cases gs2 with
         | some gs=>cases h;cases h';exact .inl rfl
         | none=>cases h;cases h';exact .inl rfl
        ·simp only at e1
         subst e1
         cases h
         obtain ⟨⟨v',gs''⟩,t'⟩:=P'
         refine .inr ⟨_,rfl,e2,?_⟩
         cases gs'' with
         | some gs''=>cases h';exact e3
         | none=>cases h';exact e3
     ·rename_i hb
      rw [if_neg hb] at h'
      cases h;cases h';exact .inl rfl
   ·simp only at e1
    subst e1
    cases h
    obtain ⟨⟨v',gs''⟩,t'⟩:=Q'
    refine .inr ⟨_,rfl,e2,?_⟩
    cases gs'' with
    | some gs''=>cases h';exact e3
    | none =>
     simp only at h'
     split at h'
     ·exact e3.trans (down_bool hN' h').reqs
     ·cases h';exact e3
theorem sim_drop (hS:SimN d stop g g' N N') {k:Nat} {s:EvS} {R R'} (h1:s.fuel≤g) (h2:s.fuel+d≤g') (h:dropF (N k s)=some R) (h':dropF (N' k (up d s))=some R'):SimR d stop R R':=by
 cases hR:N k s with
 | none=>rw [hR] at h;cases h
 | some Q =>
  cases hR':N' k (up d s) with
  | none=>rw [hR'] at h';cases h'
  | some Q' =>
   have hs:=hS _ _ _ _ h1 h2 hR hR'
   obtain ⟨⟨v,gs⟩,t⟩:=Q
   obtain ⟨⟨v',gs''⟩,t'⟩:=Q'
   rw [hR] at h
   rw [hR'] at h'
   cases h;cases h'
   rcases hs with e | ⟨gs',e1,e2,e3⟩
   ·injection e with e e';injection e with _ e;subst e e';exact .inl rfl
   ·exact .inr ⟨gs',e1,e2,e3⟩
theorem sim_choose (hS:SimN d stop g g' N N') (hN:DownN N) (hN':DownN N') {n:NodeD} {s:EvS} {R R'} (h1:s.fuel≤g) (h2:s.fuel+d≤g') (h:chooseF N n s=some R) (h':chooseF N' n (up d s)=some R'):SimR d stop R R':=by
 unfold chooseF at h h'
 cases hR:condF N (kidN n 0) s with
 | none=>rw [hR] at h;cases h
 | some Q =>
  cases hR':condF N' (kidN n 0) (up d s) with
  | none=>rw [hR'] at h';cases h'
  | some Q' =>
   have hs:=sim_cond hS h1 h2 hR hR'
   obtain ⟨⟨v,gs⟩,t⟩:=Q
   have hd:=(down_cond hN hR).1.fuel
   simp only at hd
   rw [hR] at h
   rw [hR'] at h'
   rcases hs with e | ⟨gs',e1,e2,e3⟩
   ·subst e
    cases gs with
    | some gs=>cases h;cases h';exact .inl rfl
    | none =>
     cases v with
     | true=>exact sim_drop hS (by omega) (by omega) h h'
     | false =>
      simp only at h h'
      split at h
      ·rename_i hl
       rw [if_pos hl] at h'
       exact sim_drop hS (by omega) (by omega) h h'
      ·rename_i hl
       rw [if_neg hl] at h'
       cases h;cases h';exact .inl rfl
   ·simp only at e1
    subst e1
    cases h
    obtain ⟨⟨v',gs''⟩,t'⟩:=Q'
    refine .inr ⟨_,rfl,e2,?_⟩
    cases gs'' with
    | some gs''=>cases h';exact e3
    | none =>
     cases v' with
     | true=>exact e3.trans (down_drop hN' h').reqs
     | false =>
      simp only at h'
      split at h'
      ·exact e3.trans (down_drop hN' h').reqs
      ·cases h';exact e3
theorem sim_loop (hS:SimN d stop g g' N N') (hN:DownN N) (hN':DownN N') {n:NodeD}:∀ (j j':Nat) (s:EvS) (R R'),s.fuel≤g→s.fuel+d≤g'→s.fuel<j→s.fuel+d<j'→loopF N n j s=some R→loopF N' n j' (up d s)=some R'→SimR d stop R R':=by
 intro j
 induction j with
 | zero=>intro j' s R R' _ _ h;omega
 | succ j ih =>
  intro j' s R R' h1 h2 h3 h4 h h'
  obtain ⟨j',rfl⟩:∃ k,j'=k+1:=⟨j' - 1,by omega⟩
  simp only [loopF] at h h'
  cases hR:condF N (kidN n 0) s with
  | none=>rw [hR] at h;cases h
  | some Q =>
   cases hR':condF N' (kidN n 0) (up d s) with
   | none=>rw [hR'] at h';cases h'
   | some Q' =>
    have hs:=sim_cond hS h1 h2 hR hR'
    obtain ⟨⟨v,gs⟩,t⟩:=Q
    obtain ⟨hd,hd2⟩:=down_cond hN hR
    have hd:=hd.fuel
    simp only at hd hd2
    rw [hR] at h
    rw [hR'] at h'
    rcases hs with e | ⟨gs',e1,e2,e3⟩
    ·subst e
     cases gs with
     | some gs=>cases h;cases h';exact .inl rfl
     | none =>
      have hd2:=hd2 rfl
      cases v with
      | false=>cases h;cases h';exact .inl rfl
      | true =>
       simp only at h h'
       cases hQ:N (kidN n 1) t with
       | none=>rw [hQ] at h;cases h
       | some P =>
        cases hQ':N' (kidN n 1) (up d t) with
        | none=>rw [hQ'] at h';cases h'
        | some P' =>
         have hs2:=hS _ _ _ _ (by omega) (by omega) hQ hQ'
         obtain ⟨⟨v2,gs2⟩,t2⟩:=P
         have hd3:=(hN _ _ _ hQ).1.fuel
         simp only at hd3
         rw [hQ] at h
         rw [hQ'] at h'
         rcases hs2 with e | ⟨gs',e1,e2,e3⟩
         ·subst e
          cases gs2 with
          | some gs=>cases h;cases h';exact .inl rfl
          | none=>exact ih _ _ _ _ (by omega) (by omega) (by omega) (by omega) h h'
         ·simp only at e1
          subst e1
          cases h
          obtain ⟨⟨v',gs''⟩,t'⟩:=P'
          refine .inr ⟨_,rfl,e2,?_⟩
          cases gs'' with
          | some gs''=>cases h';exact e3
          | none=>exact e3.trans (down_loop hN' _ _ _ h').reqs
    ·simp only at e1
     subst e1
     cases h
     obtain ⟨⟨v',gs''⟩,t'⟩:=Q'
     refine .inr ⟨_,rfl,e2,?_⟩
     cases gs'' with
     | some gs''=>cases h';exact e3
     | none =>
      cases v' with
      | false=>cases h';exact e3
      | true =>
       simp only at h'
       cases hQ':N' (kidN n 1) t' with
       | none=>rw [hQ'] at h';cases h'
       | some P' =>
        obtain ⟨⟨v2,gs2⟩,t2⟩:=P'
        have hd3:=(hN' _ _ _ hQ').1.reqs
        rw [hQ'] at h'
        cases gs2 with
        | some gs=>cases h';exact e3.trans hd3
        | none=>exact (e3.trans hd3).trans (down_loop hN' _ _ _ h').reqs
end
structure MoreC (stop:SigD→Prop) (C C':EvC):Prop where
 p:C'.p=C.p
 sl:C'.slots=C.slots
 lo:C'.locals=C.locals
 an:∃ l,C'.answers=C.answers ++ l∧(l≠[]→stop .wait)
theorem sim_ask {d:Nat} {stop:SigD→Prop} {C C':EvC} (hC:MoreC stop C C') (op:ByteArray) (args:List ValD) (s:EvS):SimR d stop (askF C op args s) (askF C' op args (up d s)):=by
 obtain ⟨l,hl,hw⟩:=hC.an
 unfold askF
 show SimR d stop (if s.reqs.length=32 then _ else _) (if s.reqs.length=32 then _ else _)
 by_cases h:s.reqs.length=32
 ·rw [if_pos h,if_pos h];exact .inl rfl
 ·rw [if_neg h,if_neg h]
  show SimR d stop (match C.answers[s.reqs.length]? with | none=>_ | some a=>_,_) (match C'.answers[s.reqs.length]? with | none=>_ | some a=>_,_)
  by_cases hk:s.reqs.length<C.answers.length
  ·rw [hl,List.getElem?_append_left hk];exact .inl rfl
  ·have e:C.answers[s.reqs.length]? = none:=List.getElem?_eq_none (by omega)
   rw [e]
   by_cases hn:l=[]
   ·rw [hl,hn,List.append_nil,e];exact .inl rfl
   ·exact .inr ⟨_,rfl,hw hn,List.prefix_refl _⟩
section
variable {d g g':Nat} {stop:SigD→Prop} {C C':EvC} {N N':Nat→EvN}
theorem sim_back {s:EvS} {o o':EvR ValD} {R R':(ValD × Option SigD) × EvS} (vars:List ValD) (hnr:∀ v,¬ stop (.ret v)) (ho:∀ Q Q',o=some Q→o'=some Q'→SimR d stop Q Q') (h:backF vars o=some R) (h':backF vars o'=some R'):SimR d stop R R':=by
 cases o with
 | none=>cases h
 | some Q =>
  cases o' with
  | none=>cases h'
  | some Q' =>
   have hs:=ho _ _ rfl rfl
   obtain ⟨⟨v,gs⟩,t⟩:=Q
   rcases hs with e | ⟨gs',e1,e2,e3⟩
   ·subst e
    cases gs with
    | none=>cases h;cases h';exact .inl rfl
    | some gs=>cases gs <;> (cases h;cases h';exact .inl rfl)
   ·simp only at e1
    subst e1
    obtain ⟨⟨v',gs''⟩,t'⟩:=Q'
    have h4:R'.2.reqs=t'.reqs:=by
     cases gs'' with
     | none=>cases h';rfl
     | some gs''=>cases gs'' <;> (cases h';rfl)
    cases gs' with
    | fail x=>cases h;exact .inr ⟨_,rfl,e2,by rw [h4];exact e3⟩
    | wait=>cases h;exact .inr ⟨_,rfl,e2,by rw [h4];exact e3⟩
    | ret v=>exact absurd e2 (hnr v)
theorem sim_call (hC:MoreC stop C C') (hnr:∀ v,¬ stop (.ret v)) (hS:∀ c,SimN d stop g g' (N c) (N' c)) {c f:Nat} {args:List ValD} {s:EvS} {R R'} (h1:s.fuel≤g) (h2:s.fuel+d≤g') (h:callF C N c f args s=some R) (h':callF C' N' c f args (up d s)=some R'):SimR d stop R R':=by
 unfold callF at h h'
 rw [hC.p,hC.lo] at h'
 split at h
 ·rename_i hc;rw [if_pos hc] at h';cases h;cases h';exact .inl rfl
 ·rename_i hc
  rw [if_neg hc] at h'
  split at h
  ·rename_i fn L e1 e2
   rw [e1,e2] at h'
   exact sim_back (s:=s) s.vars hnr (fun Q Q' hq hq'=>hS (c+1) _ _ _ _ (by simpa using h1) (by simpa using h2) hq hq') h h'
  ·cases h
theorem sim_apply (hC:MoreC stop C C') (hnr:∀ v,¬ stop (.ret v)) (hS:∀ c,SimN d stop g g' (N c) (N' c)) {c k:Nat} {n:NodeD} {l:List ValD} {s:EvS} {R R'} (h1:s.fuel≤g) (h2:s.fuel+d≤g') (h:applyF C N c k n l s=some R) (h':applyF C' N' c k n l (up d s)=some R'):SimR d stop R R':=by
 unfold applyF at h h'
 split at h
 ·rename_i e;rw [if_pos e] at h';cases h;cases h';exact .inl rfl
 rename_i e;rw [if_neg e] at h'
 split at h
 ·rename_i e;rw [if_pos e] at h';cases h;cases h';exact .inl rfl
 rename_i e;rw [if_neg e] at h'
 split at h
 ·rename_i e;rw [if_pos e] at h';cases h;cases h';exact .inl rfl
 rename_i e;rw [if_neg e] at h'
 split at h
 ·rename_i e;rw [if_pos e] at h';cases h;cases h';exact .inl rfl
 rename_i e;rw [if_neg e] at h'
 split at h
 ·rename_i e;rw [if_pos e] at h';cases h;cases h';exact .inl rfl
 rename_i e;rw [if_neg e] at h'
 split at h
 ·rename_i e;rw [if_pos e] at h';cases h;cases h';exact sim_ask hC _ _ _
 rename_i e;rw [if_neg e] at h'
 split at h
 ·rename_i e;rw [if_pos e] at h'
  unfold setF at h h'
  rw [hC.sl] at h'
  split at h
  ·cases h
  ·rename_i sl e1
   rw [e1] at h'
   simp only at h'
   split at h
   ·rename_i e2
    rw [if_pos (show 0≤sl∧sl<((up d s).vars.length:Int) from e2)] at h'
    cases h;cases h';exact .inl rfl
   ·cases h
 rename_i e;rw [if_neg e] at h'
 split at h
 ·rename_i e;rw [if_pos e] at h';cases h;cases h';exact .inl rfl
 rename_i e;rw [if_neg e] at h'
 split at h
 ·rename_i e;rw [if_pos e] at h'
  rw [hC.p] at h'
  split at h
  ·rename_i e;rw [if_pos e] at h';exact sim_call hC hnr hS h1 h2 h h'
  ·rename_i e;rw [if_neg e] at h';cases h;cases h';exact .inl rfl
 ·rename_i e;rw [if_neg e] at h';cases h;cases h';exact .inl rfl
theorem sim_step (hC:MoreC stop C C') (hnr:∀ v,¬ stop (.ret v)) (hS:∀ c,SimN d stop g g' (N c) (N' c)) (hN:∀ c,DownN (N c)) (hN':∀ c,DownN (N' c)) {c k:Nat} {n:NodeD} {s:EvS} {R R'} (h1:s.fuel≤g) (h2:s.fuel+d≤g') (h:stepN C N g c k n s=some R) (h':stepN C' N' g' c k n (up d s)=some R'):SimR d stop R R':=by
 unfold stepN at h h'
 split at h
 ·rename_i e;rw [if_pos e] at h';cases h;cases h';exact .inl rfl
 rename_i e;rw [if_neg e] at h'
 split at h
 ·rename_i e;rw [if_pos e] at h';cases h;cases h';exact .inl rfl
 rename_i e;rw [if_neg e] at h'
 split at h
 ·rename_i e;rw [if_pos e] at h';cases h;cases h';exact .inl rfl
 rename_i e;rw [if_neg e] at h'
 split at h
 ·rename_i e;rw [if_pos e] at h';cases h;cases h';exact .inl rfl
 rename_i e;rw [if_neg e] at h'
 split at h
 ·rename_i e;rw [if_pos e] at h'
  unfold varF at h h'
  rw [hC.sl] at h'
  split at h
  ·cases h
  ·rename_i sl e1
   rw [e1] at h'
   simp only at h'
   split at h
   ·rename_i e2
    rw [if_pos (show 0≤sl∧sl<((up d s).vars.length:Int) from e2)] at h'
    cases h;cases h';exact .inl rfl
   ·cases h
 rename_i e;rw [if_neg e] at h'
 split at h
 ·rename_i e;rw [if_pos e] at h';exact sim_choose (hS c) (hN c) (hN' c) h1 h2 h h'
 rename_i e;rw [if_neg e] at h'
 split at h
 ·rename_i e;rw [if_pos e] at h';exact sim_loop (hS c) (hN c) (hN' c) _ _ _ _ _ h1 h2 (by omega) (by omega) h h'
 rename_i e;rw [if_neg e] at h'
 split at h
 ·rename_i e;rw [if_pos e] at h';exact sim_both (hS c) (hN c) (hN' c) h1 h2 h h'
 rename_i e;rw [if_neg e] at h'
 unfold thenF at h h'
 cases hR:allF (N c) n.kids [] s with
 | none=>rw [hR] at h;cases h
 | some Q =>
  cases hR':allF (N' c) n.kids [] (up d s) with
  | none=>rw [hR'] at h';cases h'
  | some Q' =>
   have hs:=sim_all (hS c) (hN c) (hN' c) _ _ _ _ _ h1 h2 hR hR'
   obtain ⟨⟨l,gs⟩,t⟩:=Q
   have hd:=(down_all (hN c) _ _ _ _ hR).fuel
   simp only at hd
   rw [hR] at h
   rw [hR'] at h'
   rcases hs with e | ⟨gs',e1,e2,e3⟩
   ·subst e
    cases gs with
    | some gs=>cases h;cases h';exact .inl rfl
    | none=>exact sim_apply hC hnr hS (by omega) (by omega) h h'
   ·simp only at e1
    subst e1
    cases h
    obtain ⟨⟨v',gs''⟩,t'⟩:=Q'
    refine .inr ⟨_,rfl,e2,?_⟩
    cases gs'' with
    | some gs''=>cases h';exact e3
    | none=>exact e3.trans (down_apply hN' h').reqs
end
theorem sim_node {d:Nat} {stop:SigD→Prop} {C C':EvC} (hC:MoreC stop C C') (hnr:∀ v,¬ stop (.ret v)) (hf:d≠0→stop (.fail 15)):∀ g g' c,SimN d stop g g' (nodeE C g c) (nodeE C' g' c):=by
 intro g
 induction g with
 | zero =>
  intro g' c i s R R' h1 h2 h h'
  simp only [nodeE] at h
  cases h
  by_cases hd:d=0
  ·subst hd
   cases g' with
   | zero=>simp only [nodeE] at h';cases h';exact .inl rfl
   | succ g' =>
    simp only [nodeE] at h'
    rw [if_pos (by show s.fuel+0=0;omega)] at h'
    cases h';exact .inl rfl
  ·exact .inr ⟨_,rfl,hf hd,(down_node C' g' c _ _ _ h').1.reqs⟩
 | succ g ih =>
  intro g' c i s R R' h1 h2 h h'
  simp only [nodeE] at h
  split at h
  ·rename_i h0
   cases h
   by_cases hd:d=0
   ·subst hd
    cases g' with
    | zero=>simp only [nodeE] at h';cases h';exact .inl rfl
    | succ g' =>
     simp only [nodeE] at h'
     rw [if_pos (by show s.fuel+0=0;omega)] at h'
     cases h';exact .inl rfl
   ·exact .inr ⟨_,rfl,hf hd,(down_node C' g' c _ _ _ h').1.reqs⟩
  ·rename_i h0
   obtain ⟨g',rfl⟩:∃ k,g'=k+1:=⟨g' - 1,by omega⟩
   simp only [nodeE] at h'
   rw [if_neg (by show ¬ s.fuel+d=0;omega),hC.p] at h'
   split at h
   ·cases h
   ·rename_i n hn
    rw [hn] at h'
    simp only at h'
    have e:({ up d s with fuel:=(up d s).fuel - 1 }:EvS)=up d { s with fuel:=s.fuel - 1 }:=by
     unfold up
     simp only
     congr 1
     omega
    rw [e] at h'
    exact sim_step hC hnr (fun c=>ih g' c) (down_node C g) (down_node C' g') (by simp only;omega) (by simp only;omega) h h'
end
section
theorem builder_new (w:World):Lib.IsBuilderF 189 5 w.heap.size w.heap.size (Lib.byteCells []) (w.alloc (.cells #[.pointer none,.slice none 0 0] 189)) :=
 .inl ⟨Nat.le_refl _,.slice none 0 0,heap_alloc_new w _,⟨rfl,.inl ⟨rfl,rfl⟩⟩,by simp [Value.ownBlock]⟩
attribute [local go_sem] cell_alloc_is
set_option maxHeartbeats 8000000 in
theorem encode_any (v:ValD) (x:Value) (w:World) (h:ValV w x v) (hp:Pow w) (hck:checkF v=0) :
  Calls Tryz.prog 100 #[x] w fun e w'=>e=.returned (.tuple #[.string ⟨(textF v.length v).toArray⟩,.int .i64 0])∧Below w.heap.size w w':=by
 have ho:=okV_of_check hck
 have HCK:=hZz (checkV_any v x w h hp ho)
 rw [hck] at HCK
 obtain ⟨xA,xn,xc,rfl⟩:=h.shape
 have HV:=hZz h
 have HPW:=hZz hp
 have HO:=hZz ho
 have HKK:=hZz hck
 obtain ⟨tx,htx⟩:∃ t,textF v.length v=t:=⟨_,rfl⟩
 have HTX:=hZz htx
 rw [htx]
 clear h hp ho hck htx
 go_enter Tryz.func100,Tryz.ntmps100
 go_wp2_with (first
  | (go_at_call 79;((with_reducible refine HCK.out.mono ?_);rintro e w1 ⟨rfl,hb1⟩;have HB1:=hZz hb1;have HW1:Hid (WB w1.heap.size w1.heap.size [] (w1.alloc (.cells #[.pointer none,.slice none 0 0] 189)) (w1.alloc (.cells #[.pointer none,.slice none 0 0] 189))):=hZz (WB.start (builder_new w1) (by simp));have HWR:=hZz (write_any v.length w1 (HPW.out.below hb1) w1.heap.size v (.slice xA xn xc) [] _ (Nat.le_refl _) HO.out HKK.out (HV.out.below hb1) (below_new w1 _) HW1.out (by have:=costV_le HKK.out;simp;omega));clear hb1))
  | (go_at_call 150;((refine HWR.out.mono ?_);rintro e w2 ⟨rfl,hw2⟩;have HW2:=hZz hw2;have HST:=hZz (Tryz.Builder_String_any_f w1.heap.size w1.heap.size _ w2 hw2.is (Nat.le_trans hw2.b0 hw2.bel.size));clear hw2))
  | (go_at_call 151;((refine HST.out.mono ?_);rintro e w3 ⟨rfl,_,hb3⟩;have HB3:=hZz hb3;clear hb3)))
 go_returns
 refine ⟨by rw [← HTX.out];rfl,?_⟩
 have h1:Below w1.heap.size w1 w3:=(below_new w1 _).trans (HW2.out.bel.trans HB3.out)
 exact below_call h1 HB1.out
set_option maxHeartbeats 8000000 in
theorem text_eval (c:CellD) (r:ValD) (v:Value) (w:World) (h:ValV w v (c :: r)) (hp:Pow w) (hck:checkF (c :: r)=0) :
  Calls Tryz.prog 51 #[v] w (RetR w [] (textR (c :: r))):=by
 obtain ⟨P,hP⟩:∃ P:Ending→World→Prop,RetR w [] (textR (c :: r))=P:=⟨_,rfl⟩
 rw [hP]
 have HP:=hZz hP
 have ho:=okV_of_check hck
 have HCL:=hZz (clone_any (c :: r) v w h)
 have HLN:Hid ((c :: r).length≤1000000):=hZz ho.1
 have HEN:=hZz (encode_any (c :: r) v w h hp hck)
 have hbd:=textF_bd (c :: r).length ho hck
 obtain ⟨b,off,n,cap,rfl,hn,p0,p1,p2,p3⟩:=head_cell h
 have hpos:(0:Int)<(n:Int):=by omega
 have HU:Hid (textR (c :: r)=if c.kind=4 then (c :: r,0) else okR [sCel ⟨(textF (c :: r).length (c :: r)).toArray⟩]):=hZz rfl
 obtain ⟨tx,htx⟩:∃ t:ByteArray,⟨(textF (c :: r).length (c :: r)).toArray⟩=t:=⟨_,rfl⟩
 have hsz:tx.size≤86000:=by
  rw [← htx]
  show (textF (c :: r).length (c :: r)).toArray.size≤86000
  rw [List.size_toArray]
  exact hbd
 rw [htx] at HEN HU
 have HST:Hid (∀ wx,Below w.heap.size w wx→Calls Tryz.prog 92 #[.string tx] wx (RetR wx [] (okR [sCel tx]))):=hZz fun wx hb=>cstr_any tx wx (hp.below hb) (by omega)
 obtain ⟨BR,hBR⟩:∃ t,textR (c :: r)=t:=⟨_,rfl⟩
 rw [hBR] at HP HU
 obtain ⟨k,i,s,nn⟩:=c
 dsimp only at p0 p1 p2 p3 HU
 clear hBR hP h hp ho hck hn p1 p2 p3 htx hsz hbd
 by_cases h4:k=4
 ·subst h4
  have HR:Hid (BR=(⟨4,i,s,nn⟩ :: r,0)):=hZz (by rw [HU.out,if_pos rfl])
  clear HU HEN HST
  go_enter Tryz.func51,Tryz.ntmps51
  go_wp2_with (first
   | (go_at_call 72;((with_reducible refine HCL.out.mono ?_);rintro e w1 ⟨u,rfl,ho,hb1⟩;have HO:=hZz ho;have HB1:=hZz hb1;clear ho hb1)))
  rw [← HP.out,HR.out]
  exact ⟨u,rfl,HO.out.val (by have:=HLN.out;omega),FromC.ownO HO.out (Nat.le_refl _),HB1.out⟩
 ·have k4:(k == 4)=false:=by simpa using h4
  have HR:Hid (BR=okR [sCel tx]):=hZz (by rw [HU.out,if_neg h4])
  clear HU HCL h4
  go_enter Tryz.func51,Tryz.ntmps51
  go_wp2_with (first
   | (go_at_call 100;((with_reducible refine HEN.out.mono ?_);rintro e w1 ⟨rfl,hb1⟩;have HB1:=hZz hb1;clear hb1))
   | (go_at_call 92;((with_reducible refine (HST.out _ HB1.out).mono ?_);rintro e w3 ⟨u,rfl,hu,hf,hb3⟩;have HU3:=hZz hu;have HF3:=hZz hf;have HB3:=hZz (below_call hb3 HB1.out);clear hu hf hb3)))
  rw [← HP.out,HR.out]
  exact ⟨u,rfl,HU3.out,HF3.out.up HB1.out.size (Below.refl _ _),HB3.out⟩
end
section
def okS (R:Nat→VN→VN→Prop):List Int→VN→VN→Prop
 | [],T,U=>T=U
 | k :: r,T,U=>∃ V,R k.toNat T V∧okS R r V U
def endOk (p:ProgD) (SL:List Int) (i:Nat) (n:NodeD) (V U:VN):Prop :=
 if n.kind=19 then U=⟨(declF p n.kids).foldl alDel V.vis,V.next⟩
 else if n.kind=5∨n.kind=14 then U=V∧∃ sl,alGet V.vis n.text=some sl∧zAt SL i=sl
 else if n.kind=13 then U=⟨V.vis ++ [(n.text,V.next)],V.next+1⟩∧alGet V.vis n.text=none∧zAt SL i=V.next
 else U=V∧(n.kind=11→wantF p n.text=some (n.kids.length:Int))
def okW (p:ProgD) (SL:List Int):Nat→Nat→VN→VN→Prop
 | 0,_,_,_=>False
 | f+1,i,T,U=>(∃ s,Tree p.nodes f i s)∧i<p.nodes.length∧∃ V,okS (okW p SL f) (p.at_ i).kids T V∧endOk p SL i (p.at_ i) V U
def SOut (S S':ScD) (s e:Nat):Prop:=∀ j,j<s∨e≤j→zAt S'.slots j=zAt S.slots j
theorem SOut.refl (S:ScD) (s e:Nat):SOut S S s e:=fun _ _=>rfl
theorem SOut.trans {S T U:ScD} {s m e:Nat} (h:SOut S T s m) (g:SOut T U m e) (h1:s≤m) (h2:m≤e):SOut S U s e:=fun j hj=>(g j (by omega)).trans (h j (by omega))
theorem SOut.wide {S T:ScD} {s e a b:Nat} (h:SOut S T s e) (h1:a≤s) (h2:e≤b):SOut S T a b:=fun j hj=>h j (by omega)
theorem zAt_ne (l:List Int) (i j:Nat) (x:Int) (h:i≠j):zAt (l.set i x) j=zAt l j:=by
 unfold zAt
 simp only [List.getD_eq_getElem?_getD,List.getElem?_set]
 rw [if_neg h]
theorem letF_sout (S:ScD) (i:Nat) (s:ByteArray):SOut S (letF S i s) i (i+1):=by
 intro j hj
 have hne:i≠j:=by omega
 unfold letF
 split
 ·exact zAt_ne S.slots i j S.next hne
 ·split
  ·exact zAt_ne S.slots i j S.next hne
  ·exact zAt_ne S.slots i j S.next hne
theorem endF_sout (p:ProgD) (n:NodeD) (i:Nat) (S:ScD):SOut S (endF p n i S) i (i+1):=by
 intro j hj
 have hne:i≠j:=by omega
 unfold endF
 split
 ·split
  ·exact zAt_ne S.slots i j _ hne
  ·rfl
 ·split
  ·exact letF_sout S i n.text j hj
  ·split
   ·rfl
   ·split
    ·split
     ·rfl
     ·rfl
    ·rfl
theorem seq_sout {p:ProgD} {f:Nat} (hr:∀ i s S,firstF p.nodes f i=some s→SOut S (walkF p f i S) s (i+1)) {r:List Int} {s e:Nat} (h:Cover p.nodes f r s e):∀ S,SOut S (r.foldl (fun S k=>walkF p f k.toNat S) S) s e:=by
 induction h with
 | nil s=>intro S;exact SOut.refl _ _ _
 | cons r s m e h1 h2 ih =>
  intro S
  have q1:=first_le h1
  have q2:=h2.le'
  simp only [List.foldl_cons,Int.toNat_natCast]
  exact (hr m s S h1).trans (ih _) (by omega) q2
theorem walk_sout (p:ProgD):∀ f i s S,firstF p.nodes f i=some s→SOut S (walkF p f i S) s (i+1):=by
 intro f
 induction f with
 | zero=>intro i s S h;cases h
 | succ f ih =>
  intro i s S h
  have T:=first_tree h
  have hs:=first_le h
  simp only [walkF]
  split
  ·have:=(seq_sout ih T.cover S).wide (Nat.le_refl s) (show i≤i+1 by omega)
   intro j hj
   rw [← this j hj]
   show zAt (blockF p (walkF p f) (p.at_ i).kids S []).1.slots j=_
   rw [blockF_d]
   rfl
  ·exact (seq_sout ih T.cover S).trans (endF_sout p _ i _) hs (by omega)
theorem walk_slen {p:ProgD} {f i s:Nat} {S:ScD} (h:firstF p.nodes f i=some s):(walkF p f i S).slots.length=S.slots.length:=(walk_inv p f i s S h).slots
theorem seq_okW {p:ProgD} {SL:List Int} {f:Nat} (hr:∀ i s S T,firstF p.nodes f i=some s→walkE p f i ⟨S.vis,S.next⟩=.ok T→i<S.errs.length→i<S.slots.length→i<p.nodes.length→Zeros S s (i+1)→(∀ j,s≤j→j<i+1→zAt SL j=zAt (walkF p f i S).slots j)→okW p SL f i ⟨S.vis,S.next⟩ T)
  {r:List Int} {s e:Nat} (h:Cover p.nodes f r s e):∀ S U,seqE (walkE p f) r ⟨S.vis,S.next⟩=.ok U→e≤S.errs.length→e≤S.slots.length→e≤p.nodes.length→Zeros S s e→(∀ j,s≤j→j<e→zAt SL j=zAt (r.foldl (fun S k=>walkF p f k.toNat S) S).slots j)→okS (okW p SL f) r ⟨S.vis,S.next⟩ U:=by
 induction h with
 | nil s=>intro S U h _ _ _ _ _;simp only [seqE] at h;cases h;rfl
 | cons r s m e h1 h2 ih =>
  intro S U hU he hl hp hz hag
  have q1:=first_le h1
  have q2:=h2.le'
  simp only [List.foldl_cons,Int.toNat_natCast,seqE] at hU hag
  cases hw:walkE p f m ⟨S.vis,S.next⟩ with
  | error x=>rw [hw] at hU;cases hU
  | ok V =>
   rw [hw] at hU
   have hres:=walk_res p f m s S h1 (by omega) (hz.sub (Nat.le_refl _) q2)
   obtain ⟨g1,g2,_⟩:=hres.ok V hw
   have ho:=walk_out p f m s S h1 (by omega)
   have hso:=seq_sout (walk_sout p f) h2 (walkF p f m S)
   refine ⟨V,?_,?_⟩
   ·rw [Int.toNat_natCast]
    exact hr m s S V h1 hw (by omega) (by omega) (by omega) (hz.sub (Nat.le_refl _) q2) (fun j h3 h4=>(hag j h3 (by omega)).trans (hso j (by omega)))
   ·have:=ih (walkF p f m S) U (by rw [g1,g2];exact hU) (by rw [walk_len h1];exact he) (by rw [walk_slen h1];exact hl) hp ((hz.sub (a:=m+1) (by omega) (Nat.le_refl _)).out ho (Nat.le_refl _)) (fun j h3 h4=>hag j (by omega) h4)
    rw [g1,g2] at this
    exact this
theorem walk_okW (p:ProgD) (SL:List Int):∀ f i s S T,firstF p.nodes f i=some s→walkE p f i ⟨S.vis,S.next⟩=.ok T→i<S.errs.length→i<S.slots.length→i<p.nodes.length→Zeros S s (i+1)→(∀ j,s≤j→j<i+1→zAt SL j=zAt (walkF p f i S).slots j)→okW p SL f i ⟨S.vis,S.next⟩ T:=by
 intro f
 induction f with
 | zero=>intro i s S T h;cases h
 | succ f ih =>
  intro i s S U h hU he hl hp hz hag
  have T:=first_tree h
  have hs:=first_le h
  have hcv:=T.cover
  have hn:p.nodes.getD i noNode=p.at_ i:=rfl
  rw [hn] at hcv
  have hlen:=(foldl_inv (walk_inv p f) hcv S).slots
  have hq:=seq_res (fun i s S h=>walk_res p f i s S h) hcv S (by omega) (hz.sub (Nat.le_refl _) (by omega))
  refine ⟨⟨s,T⟩,hp,?_⟩
  simp only [walkE] at hU
  simp only [walkF] at hag
  have hi0:=hag i hs (by omega)
  by_cases hk:(p.at_ i).kind=19
  ·rw [if_pos hk] at hU
   cases hr:seqE (walkE p f) (p.at_ i).kids ⟨S.vis,S.next⟩ with
   | error x=>rw [hr] at hU;cases hU
   | ok V =>
    rw [hr] at hU
    have hU':(⟨(declF p (p.at_ i).kids).foldl alDel V.vis,V.next⟩:VN)=U:=by cases hU;rfl
    refine ⟨V,seq_okW ih hcv S V hr (by omega) (by omega) (by omega) (hz.sub (Nat.le_refl _) (by omega)) (fun j h1 h2=>?_),?_⟩
    ·have:=hag j h1 (by omega)
     rw [if_pos hk] at this
     rw [this]
     show zAt (blockF p (walkF p f) (p.at_ i).kids S []).1.slots j=_
     rw [blockF_d]
    ·unfold endOk
     rw [if_pos hk,hU']
  ·rw [if_neg hk] at hU
   cases hr:seqE (walkE p f) (p.at_ i).kids ⟨S.vis,S.next⟩ with
   | error x=>rw [hr] at hU;cases hU
   | ok V =>
    rw [hr] at hU
    have hU2:endE p (p.at_ i) V=.ok U:=hU
    obtain ⟨g1,g2,_⟩:=hq.ok V hr
    rw [if_neg hk] at hi0
    obtain ⟨S',hS'⟩:∃ S',(p.at_ i).kids.foldl (fun S k=>walkF p f k.toNat S) S=S':=⟨_,rfl⟩
    rw [hS'] at hi0 hlen g1 g2
    refine ⟨V,seq_okW ih hcv S V hr (by omega) (by omega) (by omega) (hz.sub (Nat.le_refl _) (by omega)) (fun j h1 h2=>?_),?_⟩
    ·have:=hag j h1 (by omega)
     rw [if_neg hk,hS'] at this
     rw [this,hS']
     exact endF_sout p _ i S' j (by omega)
    ·have hset:∀ x:Int,zAt (S'.slots.set i x) i=x:=fun x=>by rw [zAt_set _ _ _ _ (by omega),if_pos rfl]
     have gd:∀ {e:Int} {A B:VN},guardE e A=.ok B→B=A∧e=0:=by
      intro e A B h
      unfold guardE at h
      split at h
      ·cases h;exact ⟨rfl,by assumption⟩
      ·cases h
     unfold endOk
     rw [if_neg hk]
     unfold endE at hU2
     unfold endF at hi0
     by_cases h5:(p.at_ i).kind=5∨(p.at_ i).kind=14
     ·rw [if_pos h5] at hU2 hi0 ⊢
      obtain ⟨e1,e2⟩:=gd hU2
      cases hg:alGet V.vis (p.at_ i).text with
      | none=>rw [hg] at e2;simp at e2
      | some sl =>
       rw [g1,hg] at hi0
       refine ⟨e1,sl,rfl,?_⟩
       rw [hi0]
       exact hset sl
     ·rw [if_neg h5] at hU2 hi0 ⊢
      by_cases h13:(p.at_ i).kind=13
      ·rw [if_pos h13] at hU2 hi0 ⊢
       cases hg:alGet V.vis (p.at_ i).text with
       | some sl=>(try rw [hg] at hU2);rw [if_pos (show (some sl).isSome=true from rfl)] at hU2;cases hU2
       | none =>
        (try rw [hg] at hU2)
        rw [if_neg (by simp)] at hU2
        split at hU2
        ·cases hU2
        ·rename_i h32
         cases hU2
         refine ⟨by rw [alSet_none _ _ _ hg],rfl,?_⟩
         rw [hi0]
         unfold letF
         rw [g1,hg,if_neg (by simp),g2,if_neg h32]
         exact hset _
      ·rw [if_neg h13] at hU2 ⊢
       by_cases h11:(p.at_ i).kind=11
       ·rw [if_pos h11] at hU2
        obtain ⟨e1,e2⟩:=gd hU2
        refine ⟨e1,fun _=>?_⟩
        unfold errW at e2
        split at e2
        ·cases e2
        ·rename_i k hk'
         split at e2
         ·cases e2
         ·rename_i h7
          rw [hk']
          congr 1
          omega
       ·rw [if_neg h11] at hU2
        split at hU2
        ·obtain ⟨e1,_⟩:=gd hU2
         exact ⟨e1,fun h=>absurd h h11⟩
        ·cases hU2
         exact ⟨rfl,fun h=>absurd h h11⟩
structure FunW (p:ProgD) (SL LO:List Int) (m:Nat):Prop where
 ok:∃ b T s,FuncOk p.nodes (p.funcs.getD m noFunc) s b∧okW p SL 600 b ⟨(startS p (p.funcs.getD m noFunc) [] []).vis,(p.funcs.getD m noFunc).params.length⟩ T∧LO[m]? = some T.next
theorem SynOk.later {p:ProgD} (h:SynOk p) (k:Nat):∀ d,k+d≤p.funcs.length→startF p.funcs k≤startF p.funcs (k+d)∧∀ j,j<startF p.funcs k→zAt (stepK p (k+d)).1 j=zAt (stepK p k).1 j:=by
 intro d
 induction d with
 | zero=>intro _;exact ⟨Nat.le_refl _,fun j _=>rfl⟩
 | succ d ih =>
  intro hd
  obtain ⟨h1,h2⟩:=ih (by omega)
  obtain ⟨b,hb,hs1,hs2⟩:=h.func (k:=k+d) (by omega)
  have hfl:=first_le hb.first
  refine ⟨by rw [show k+(d+1)=k+d+1 by omega];omega,fun j hj=>?_⟩
  rw [← h2 j hj]
  have:=walk_sout p _ _ _ (startS p (p.funcs.getD (k+d) noFunc) (stepK p (k+d)).1 (stepK p (k+d)).2.1) hb.first
  have:=this j (by omega)
  show zAt (walkK p (k+d) (stepK p (k+d)).1 (stepK p (k+d)).2.1).slots j=_
  unfold walkK
  rw [hs2]
  exact this
theorem SynOk.locs {p:ProgD} (h:SynOk p) (m:Nat):∀ d,m+1+d≤p.funcs.length→(stepK p (m+1+d)).2.2[m]? = some (walkK p m (stepK p m).1 (stepK p m).2.1).next:=by
 intro d
 induction d with
 | zero =>
  intro hd
  have:=(h.step m (by omega)).2.2.1
  simp only [stepK,Nat.add_zero]
  rw [List.getElem?_append_right (by omega),this]
  simp
 | succ d ih =>
  intro hd
  have:=(h.step (m+1+d) (by omega)).2.2.1
  rw [show m+1+(d+1)=(m+1+d)+1 by omega]
  simp only [stepK]
  rw [List.getElem?_append_left (by omega)]
  exact ih (by omega)
theorem study_funW {p:ProgD} (h:(studyF p).err=0):SynOk p∧(funsF p).2=0∧∀ m,m<p.funcs.length→FunW p (studyF p).slots (studyF p).locals m:=by
 obtain ⟨hs,e1,e2,h4,h5,h6⟩:=study_ok h
 have herr:errK p p.funcs.length=0:=by
  have:=study_err p
  rw [h] at this
  unfold errP at this
  rw [if_neg (by omega),if_neg (by omega)] at this
  exact this.symm
 refine ⟨hs,h5,fun m hm=>?_⟩
 obtain ⟨hz0,_,_⟩:=hs.errs m (by omega)
 obtain ⟨_,h2,_⟩:=hs.errs p.funcs.length (Nat.le_refl _)
 obtain ⟨T,hT⟩:=(h2 herr).2 m hm
 obtain ⟨b,hb,hs1,hs2⟩:=hs.func hm
 obtain ⟨q1,q2,q3,_⟩:=hs.step m (by omega)
 have hfl:=first_le hb.first
 have hd:p.funcs.length=m+1+(p.funcs.length - (m+1)):=by omega
 have hlate:=hs.later (m+1) (p.funcs.length - (m+1)) (by omega)
 have hloc:=hs.locs m (p.funcs.length - (m+1)) (by omega)
 rw [← hd] at hlate hloc
 have hT2:=hT
 unfold walkKE at hT2
 rw [hs2] at hT2
 have hres:=walk_res p _ _ _ (startS p (p.funcs.getD m noFunc) (stepK p m).1 (stepK p m).2.1) hb.first (by show b<(stepK p m).2.1.length;rw [q2];exact hb.lt) (fun j hj1 _=>hz0 j hj1)
 obtain ⟨_,r2,_⟩:=hres.ok T hT2
 refine ⟨b,T,_,by rw [getD_at hm];exact hb,?_,?_⟩
 ·rw [e1]
  refine walk_okW p _ _ b _ (startS p (p.funcs.getD m noFunc) (stepK p m).1 (stepK p m).2.1) T hb.first hT2 (by show b<(stepK p m).2.1.length;rw [q2];exact hb.lt) (by show b<(stepK p m).1.length;rw [q1];exact hb.lt) hb.lt (fun j hj1 _=>hz0 j hj1) (fun j h1 h2=>?_)
  rw [hlate.2 j (by omega)]
  show zAt (walkK p m (stepK p m).1 (stepK p m).2.1).slots j=_
  unfold walkK
  rw [hs2]
 ·rw [e2,hloc,← r2]
  unfold walkK
  rw [hs2]
end
end Go.Proofs.YtekdhlfapejijaaGreatDoor
