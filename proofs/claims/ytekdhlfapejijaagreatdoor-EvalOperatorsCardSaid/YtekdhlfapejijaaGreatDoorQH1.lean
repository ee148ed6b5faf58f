/- Y1, H0, E44, E45, H1 -/
import Derived.Test.YtekdhlfapejijaaGreatDoorQE43
set_option linter.unusedVariables false
set_option linter.unusedSimpArgs false
namespace Go.Proofs.YtekdhlfapejijaaGreatDoor
open Go.RowKit
set_option maxRecDepth 100000
set_option maxHeartbeats 8000000
open Go.Proofs.Tryz
theorem zc0Y {c:CellD} {r:ValD} (h:checkF (c :: r)=0) (h3:c.kind=3):inRange c.int=true:=by
 obtain ⟨_,_,_,h2,_⟩:=checkF_zero.1 h
 have:outB c=false:=by simpa using List.any_eq_false.1 h2 c (by simp)
 unfold outB at this;simp [h3] at this
 unfold inRange;simp
 omega
theorem unaryR_ok (op:ByteArray) (v:ValD):ResOk (unaryR op v):=by
 unfold unaryR;split
 ·exact zaiY _ (by decide)
 split
 ·rename_i h;exact zaiY _ h
 ·rename_i hv
  have hv':checkF v=0:=by simpa using hv
  cases v with
  | nil=>exact zaiY _ (by decide)
  | cons c r =>
   simp only
   split
   ·exact fun _=>zb2Y _
   split
   ·rename_i h
    refine fun _=>check_i ?_
    have:=zc0Y hv' h.2
    unfold inRange at this ⊢;simp at this ⊢
    omega
   ·exact zaiY _ (by decide)
theorem arithR_ok (op:List UInt8) {a b:Int} (ha:inRange a=true) (hb:inRange b=true):ResOk (arithR op a b):=by
 rw [arithR_eq];split
 ·rename_i h
  exact fun _=>check_i (arithN_ok ha hb h)
 ·rename_i h
  exact zaiY _ h
theorem binaryR_ok (op:ByteArray) (a b:ValD):ResOk (binaryR op a b):=by
 unfold binaryR;split
 ·exact zaiY _ (by decide)
 split
 ·rename_i h;exact zaiY _ h
 split
 ·rename_i h;exact zaiY _ h
 split
 ·exact fun _=>zb2Y _
 split
 ·exact fun _=>zb2Y _
 rename_i ha hb _ _;have ha':checkF a=0:=by simpa using ha
 have hb':checkF b=0:=by simpa using hb
 cases a with
 | nil=>exact zaiY _ (by decide)
 | cons x a =>
  cases b with
  | nil=>exact zaiY _ (by decide)
  | cons y b =>
   simp only
   split
   ·exact zaiY _ (by decide)
   rename_i hk;have hk':x.kind=y.kind:=by simpa using hk
   split
   ·split
    ·exact fun _=>zb2Y _
    split
    ·exact fun _=>zb2Y _
    ·exact zaiY _ (by decide)
   split
   ·rename_i h3
    exact arithR_ok _ (zc0Y ha' h3) (zc0Y hb' (by omega))
   split
   ·exact limR_ok _
   split
   ·exact limR_ok _
   ·exact zaiY _ (by decide)
theorem part_check {c:CellD} {r:ValD} (hck:checkF (c :: r)=0) (hk:c.kind=5∨c.kind=6):∀ p∈partsOf (c :: r),checkF p.2=0 :=
 fun p hp=>(part_ok (zalZ hck) hck hk p hp).2.1
theorem getR_ok (v:ValD) (key:ByteArray):ResOk (getR v key):=by
 unfold getR;split
 ·rename_i h;exact zaiY _ h
 rename_i hv;have hv':checkF v=0:=by simpa using hv
 cases v with
 | nil=>exact zaiY _ (by decide)
 | cons c r =>
  simp only
  split
  ·exact zaiY _ (by decide)
  rename_i hk;have hk':c.kind=6:=by simpa using hk
  cases h:findK (partsOf (c :: r)) key with
  | none=>exact zaiY _ (by decide)
  | some y =>
   refine fun _=>?_
   unfold findK at h;obtain ⟨p,hp,rfl⟩:=Option.map_eq_some_iff.1 h;exact part_check hv' (.inr hk') p (List.mem_of_find?_eq_some hp)
theorem atR_ok (v:ValD) (key:ByteArray):ResOk (atR v key):=by
 unfold atR;split
 ·exact fun _=>zctY
 ·exact getR_ok v key
theorem indexR_ok (v i:ValD):ResOk (indexR v i):=by
 unfold indexR;split
 ·rename_i h;exact zaiY _ h
 split
 ·rename_i h;exact zaiY _ h
 rename_i ha hb;have ha':checkF v=0:=by simpa using ha
 cases v with
 | nil=>exact zaiY _ (by decide)
 | cons x a =>
  cases i with
  | nil=>exact zaiY _ (by decide)
  | cons y b =>
   simp only
   split
   ·exact atR_ok _ _
   split
   ·exact zaiY _ (by decide)
   rename_i h5;split
   ·exact zaiY _ (by decide)
   ·cases h:(partsOf (x :: a))[y.int.toNat]? with
    | none=>exact zaiY _ (by decide)
    | some p=>exact fun _=>part_check ha' (.inl (by omega)) p (List.mem_of_getElem? h)
theorem sizeR_ok {v:ValD} (h:checkF v=0):ResOk (sizeR v):=by
 cases v with
 | nil=>exact zaiY _ (by decide)
 | cons c r =>
  unfold sizeR;simp only
  split
  ·have:=za8Y h c (by simp)
   exact fun _=>check_i (in_small (by omega) (by omega))
  split
  ·rename_i hk
   obtain ⟨h1,h2⟩:=n_bd (zalZ h) h hk;exact fun _=>check_i (in_small h1 h2)
  ·exact zaiY _ (by decide)
theorem integerR_ok {v:ValD} (h:checkF v=0):ResOk (integerR v):=by
 cases v with
 | nil=>exact zaiY _ (by decide)
 | cons c r =>
  unfold integerR;simp only
  split
  ·exact fun _=>h
  split
  ·split
   ·rename_i h0
    refine fun _=>check_i ?_
    unfold parseR at h0 ⊢;split
    ·rename_i h1;rw [if_pos h1] at h0;simp at h0
    ·rename_i h1
     rw [if_neg h1] at h0;cases h2:Lib.atoiAll c.str.data.toList with
     | ok v =>
      rw [h2] at h0;simp only at h0 ⊢;split
      ·rename_i h3;exact h3
      ·rename_i h3;rw [if_neg h3] at h0;simp at h0
     | _=>rw [h2] at h0;simp at h0
   ·exact fun _=>zctY
  ·exact zaiY _ (by decide)
theorem pushR_ok (l v:ValD):ResOk (pushR l v):=by
 cases l with
 | nil=>exact zaiY _ (by decide)
 | cons c r =>
  unfold pushR;simp only
  split
  ·exact listR_ok _
  ·exact zaiY _ (by decide)
theorem keysR_ok (v:ValD):ResOk (keysR v):=by
 cases v with
 | nil=>exact zaiY _ (by decide)
 | cons c r =>
  unfold keysR;simp only
  split
  ·exact listR_ok _
  ·exact zaiY _ (by decide)
theorem putR_ok (v:ValD) (key:ByteArray) (x:ValD):ResOk (putR v key x):=by
 unfold putR;split
 ·rename_i h;exact zaiY _ h
 cases v with
 | nil=>exact zaiY _ (by decide)
 | cons c r =>
  simp only
  split
  ·exact zaiY _ (by decide)
  split
  ·rename_i h;exact zaiY _ h
  ·exact okR_ok _
def textR (v:ValD):ResD:=match v with
 | []=>([],7)
 | c :: r=>if c.kind=4 then (c :: r,0) else okR [sCel ⟨(textF (c :: r).length (c :: r)).toArray⟩]
theorem textR_ok {v:ValD} (h:checkF v=0):ResOk (textR v):=by
 cases v with
 | nil=>exact zaiY _ (by decide)
 | cons c r =>
  unfold textR;simp only
  split
  ·exact fun _=>h
  ·exact okR_ok _
def builtR (name:List UInt8) (args:List ValD):ResD :=
 match args with
 | []=>([],7)
 | [a]=>if name=[108,101,110] then sizeR a else if name=[115,116,114] then textR a else if name=[105,110,116] then integerR a else if name=[107,101,121,115] then keysR a else ([],20)
 | a :: b :: rest =>
  if name=[112,117,115,104] then pushR a b
  else match a,b with
   | x :: _,y :: _ =>
    if x.kind≠6∨y.kind≠4 then ([],7)
    else if name=[112,117,116] then putR a y.str (rest.headD [])
    else ([bCel (decide ((getR a y.str).2=0))],0)
   | _,_=>([],7)
def builtinR (name:ByteArray) (args:List ValD):ResD :=
 match lookL builtL name with
 | none=>([],4)
 | some n=>if (args.length:Int)≠n then ([],7) else if firstBad args≠0 then ([],firstBad args) else builtR name.toList args
theorem zalY {l:List ValD} (h:firstBad l=0):∀ x∈l,checkF x=0:=by
 induction l with
 | nil=>simp
 | cons a r ih =>
  unfold firstBad at h;split at h
  ·rename_i h1;exact absurd h h1
  ·rename_i h1
   intro x hx;rcases List.mem_cons.1 hx with rfl | hx
   ·simpa using h1
   ·exact ih h x hx
theorem builtR_ok (name:List UInt8) {args:List ValD} (h:∀ x∈args,checkF x=0):ResOk (builtR name args):=by
 unfold builtR;split
 ·exact zaiY _ (by decide)
 ·rename_i a
  have ha:=h a (by simp);split
  ·exact sizeR_ok ha
  split
  ·exact textR_ok ha
  split
  ·exact integerR_ok ha
  split
  ·exact keysR_ok _
  ·exact zaiY _ (by decide)
 ·split
  ·exact pushR_ok _ _
  ·split
   ·split
    ·exact zaiY _ (by decide)
    split
    ·exact putR_ok _ _ _
    ·exact fun _=>zb2Y _
   ·exact zaiY _ (by decide)
theorem builtinR_ok (name:ByteArray) (args:List ValD):ResOk (builtinR name args):=by
 unfold builtinR;split
 ·exact zaiY _ (by decide)
 ·split
  ·exact zaiY _ (by decide)
  split
  ·rename_i h;exact zaiY _ h
  ·rename_i h
   exact builtR_ok _ (zalY (by simpa using h))
inductive SigD where
 | fail (e:Int)
 | wait
 | ret (v:ValD)
structure AnsD where
 err:Int
 value:ValD
structure EvC where
 p:ProgD
 slots:List Int
 locals:List Int
 answers:List AnsD
structure EvS where
 fuel:Nat
 reqs:List ReqD
 vars:List ValD
abbrev EvR (α:Type):=Option ((α × Option SigD) × EvS)
abbrev EvN:=Nat→EvS→EvR ValD
def kidN (n:NodeD) (j:Nat):Nat:=(n.kids.getD j 0).toNat
def outF (r:ResD):ValD × Option SigD:=if r.2≠0 then ([],some (.fail r.2)) else (r.1,none)
def allF (N:EvN):List Int→List ValD→EvS→EvR (List ValD)
 | [],out,s=>some ((out,none),s)
 | k :: r,out,s=>match N k.toNat s with
  | none=>none
  | some ((v,none),t)=>allF N r (out ++ [v]) t
  | some ((_,some g),t)=>some (([],some g),t)
def condF (N:EvN) (k:Nat) (s:EvS):EvR Bool:=match N k s with
 | none=>none
 | some ((_,some g),t)=>some ((false,some g),t)
 | some (([],none),t)=>none
 | some ((c :: _,none),t)=>if c.kind=2 then some ((decide (c.int≠0),none),t) else some ((false,some (.fail 7)),t)
def andS:List UInt8:=[97,110,100]
def orS:List UInt8:=[111,114]
def boolF:EvR Bool→EvR ValD
 | none=>none
 | some ((_,some g),t)=>some (([],some g),t)
 | some ((b,none),t)=>some (([bCel b],none),t)
def bothF (N:EvN) (n:NodeD) (s:EvS):EvR ValD:=match condF N (kidN n 0) s with
 | none=>none
 | some ((_,some g),t)=>some (([],some g),t)
 | some ((b,none),t)=>if b=decide (n.text.toList=andS) then boolF (condF N (kidN n 1) t) else some (([bCel b],none),t)
def dropF:EvR ValD→EvR ValD
 | none=>none
 | some ((_,g),t)=>some (([],g),t)
def chooseF (N:EvN) (n:NodeD) (s:EvS):EvR ValD:=match condF N (kidN n 0) s with
 | none=>none
 | some ((_,some g),t)=>some (([],some g),t)
 | some ((true,none),t)=>dropF (N (kidN n 1) t)
 | some ((false,none),t)=>if 2<n.kids.length then dropF (N (kidN n 2) t) else some (([],none),t)
def loopF (N:EvN) (n:NodeD):Nat→EvS→EvR ValD
 | 0,s=>some (([],some (.fail 15)),s)
 | j+1,s=>match condF N (kidN n 0) s with
  | none=>none
  | some ((_,some g),t)=>some (([],some g),t)
  | some ((false,none),t)=>some (([],none),t)
  | some ((true,none),t)=>match N (kidN n 1) t with
   | none=>none
   | some ((_,some g),u)=>some (([],some g),u)
   | some ((_,none),u)=>loopF N n j u
def askF (C:EvC) (op:ByteArray) (args:List ValD) (s:EvS):(ValD × Option SigD) × EvS :=
 if s.reqs.length=32 then (([],some (.fail 3)),s)
 else ((match C.answers[s.reqs.length]? with
  | none=>([],some .wait)
  | some a=>if a.err≠0 then ([],some (.fail a.err)) else if checkF a.value≠0 then ([],some (.fail 13)) else (a.value,none)),{ s with reqs:=s.reqs ++ [⟨op,args⟩] })
def varsF (L:Nat) (args:List ValD):List ValD:=args.take L ++ List.replicate (L - args.length) []
def backF (vars:List ValD):EvR ValD→EvR ValD
 | none=>none
 | some ((_,none),t)=>some (([nulC],none),{ t with vars:=vars })
 | some ((_,some (.ret v)),t)=>some ((v,none),{ t with vars:=vars })
 | some ((_,some g),t)=>some (([],some g),{ t with vars:=vars })
def callF (C:EvC) (N:Nat→EvN) (c f:Nat) (args:List ValD) (s:EvS):EvR ValD :=
 if c=16 then some (([],some (.fail 21)),s)
 else match C.p.funcs[f]?,C.locals[f]? with
  | some fn,some L=>backF s.vars (N (c+1) fn.body.toNat { s with vars:=varsF L.toNat args })
  | _,_=>none
def setF (C:EvC) (k:Nat) (v:ValD) (s:EvS):EvR ValD:=match C.slots[k]? with
 | none=>none
 | some sl=>if 0≤sl∧sl<s.vars.length then some (([],none),{ s with vars:=s.vars.set sl.toNat v }) else none
def varF (C:EvC) (k:Nat) (s:EvS):EvR ValD:=match C.slots[k]? with
 | none=>none
 | some sl=>if 0≤sl∧sl<s.vars.length then some ((s.vars.getD sl.toNat [],none),s) else none
def applyF (C:EvC) (N:Nat→EvN) (c k:Nat) (n:NodeD) (l:List ValD) (s:EvS):EvR ValD :=
 if n.kind=6 then some (outF (listR l),s)
 else if n.kind=7 then some (outF (mapR n.keys l),s)
 else if n.kind=8 then some (outF (unaryR n.text (l.getD 0 [])),s)
 else if n.kind=9 then some (outF (binaryR n.text (l.getD 0 []) (l.getD 1 [])),s)
 else if n.kind=10 then some (outF (indexR (l.getD 0 []) (l.getD 1 [])),s)
 else if n.kind=12 then some (askF C n.text l s)
 else if n.kind=13∨n.kind=14 then setF C k (l.getD 0 []) s
 else if n.kind=17 then some (([],some (.ret (l.getD 0 []))),s)
 else if n.kind=11 then (if 0≤findF C.p n.text then callF C N c (findF C.p n.text).toNat l s else some (outF (builtinR n.text l),s))
 else some (([],none),s)
def isBothB (n:NodeD):Bool:=decide (n.kind=9) && (decide (n.text.toList=andS) || decide (n.text.toList=orS))
def thenF (C:EvC) (N:Nat→EvN) (c k:Nat) (n:NodeD):EvR (List ValD)→EvR ValD
 | none=>none
 | some ((_,some g),t)=>some (([],some g),t)
 | some ((l,none),t)=>applyF C N c k n l t
def stepN (C:EvC) (N:Nat→EvN) (g c k:Nat) (n:NodeD) (s:EvS):EvR ValD :=
 if n.kind=1 then some (([nulC],none),s)
 else if n.kind=2 then some (([bCel (decide (n.int=1))],none),s)
 else if n.kind=3 then some (outF (okR [iCel n.int]),s)
 else if n.kind=4 then some (outF (okR [sCel n.text]),s)
 else if n.kind=5 then varF C k s
 else if n.kind=15 then chooseF (N c) n s
 else if n.kind=16 then loopF (N c) n (g+1) s
 else if isBothB n=true then bothF (N c) n s
 else thenF C N c k n (allF (N c) n.kids [] s)
def nodeE (C:EvC):Nat→Nat→EvN
 | 0,_,_,s=>some (([],some (.fail 15)),s)
 | g+1,c,k,s=>if s.fuel=0 then some (([],some (.fail 15)),s) else match C.p.nodes[k]? with
  | none=>none
  | some n=>stepN C (nodeE C g) g c k n { s with fuel:=s.fuel - 1 }
def finF:EvR ValD→Option OutD
 | none=>none
 | some ((v,none),t)=>some ⟨true,0,v,t.reqs⟩
 | some ((_,some (.fail e)),t)=>some ⟨true,e,[],t.reqs⟩
 | some ((_,some .wait),t)=>some ⟨false,0,[],t.reqs⟩
 | some ((_,some (.ret v)),t)=>some ⟨true,0,[],t.reqs⟩
def ctxF (p:ProgD) (answers:List AnsD):EvC:=⟨p,(studyF p).slots,(studyF p).locals,answers⟩
def mainF (p:ProgD) (event:ValD) (answers:List AnsD) (fuel:Nat):Option OutD :=
 finF (callF (ctxF p answers) (nodeE (ctxF p answers) fuel) 0 (findF p mainS).toNat [event] ⟨fuel,[],[event]⟩)
def noOut:OutD:=⟨false,0,[],[]⟩
def runE (p:ProgD) (event:ValD) (answers:List AnsD) (fuel:Int):Option OutD × Int :=
 if (studyF p).err≠0 then (some noOut,(studyF p).err)
 else if checkF event≠0 then (some noOut,checkF event)
 else if fuel<1∨200000<fuel then (some noOut,2)
 else (mainF p event answers fuel.toNat,0)
section
theorem builder_new (w:World):Lib.IsBuilderF 189 5 w.heap.size w.heap.size (Lib.byteCells []) (w.alloc (.cells #[.pointer none,.slice none 0 0] 189)) :=
 .inl ⟨Nat.le_refl _,.slice none 0 0,heap_alloc_new w _,⟨rfl,.inl ⟨rfl,rfl⟩⟩,by simp [Value.ownBlock]⟩
attribute [local go_sem] zacZ
theorem encode_any (v:ValD) (x:Value) (w:World) (h:ValV w x v) (hp:Pow w) (hck:checkF v=0) :
  Calls prog 100 #[x] w fun e w'=>e=.returned (.tuple #[.string ⟨(textF v.length v).toArray⟩,.int .i64 0])∧Below w.heap.size w w':=by
 have ho:=zalZ hck;have HCK:=hZz (zbeY v x w h hp ho);rw [hck] at HCK;obtain ⟨xA,xn,xc,rfl⟩:=h.shape;have HV:=hZz h;have HPW:=hZz hp;have HO:=hZz ho;have HKK:=hZz hck;obtain ⟨tx,htx⟩:∃ t,textF v.length v=t:=⟨_,rfl⟩
 have HTX:=hZz htx;rw [htx];clear h hp ho hck htx;go_enter func100,ntmps100
 go_wp2_with (first
  | (go_at_call 79;((with_reducible refine HCK.out.mono ?_);rintro e w1 ⟨rfl,hb1⟩;have HB1:=hZz hb1;have HW1:Hid (WB w1.heap.size w1.heap.size [] (w1.alloc (.cells #[.pointer none,.slice none 0 0] 189)) (w1.alloc (.cells #[.pointer none,.slice none 0 0] 189))):=hZz (WB.start (builder_new w1) (by simp));have HWR:=hZz (write_any v.length w1 (HPW.out.below hb1) w1.heap.size v (.slice xA xn xc) [] _ (Nat.le_refl _) HO.out HKK.out (HV.out.below hb1) (zaaZ w1 _) HW1.out (by have:=costV_le HKK.out;simp;omega));clear hb1))
  | (go_at_call 150;((refine HWR.out.mono ?_);rintro e w2 ⟨rfl,hw2⟩;have HW2:=hZz hw2;have HST:=hZz (Tryz.Builder_String_any_f w1.heap.size w1.heap.size _ w2 hw2.is (Nat.le_trans hw2.b0 hw2.bel.size));clear hw2))
  | (go_at_call 151;((refine HST.out.mono ?_);rintro e w3 ⟨rfl,_,hb3⟩;have HB3:=hZz hb3;clear hb3)))
 go_returns;refine ⟨by rw [← HTX.out];rfl,?_⟩
 have h1:Below w1.heap.size w1 w3:=(zaaZ w1 _).trans (HW2.out.bel.trans HB3.out);exact zadZ h1 HB1.out
theorem text_eval (c:CellD) (r:ValD) (v:Value) (w:World) (h:ValV w v (c :: r)) (hp:Pow w) (hck:checkF (c :: r)=0) :
  Calls prog 51 #[v] w (RetR w [] (textR (c :: r))):=by
 obtain ⟨P,hP⟩:∃ P:Ending→World→Prop,RetR w [] (textR (c :: r))=P:=⟨_,rfl⟩
 rw [hP];have HP:=hZz hP;have ho:=zalZ hck;have HCL:=hZz (zb1Y (c :: r) v w h);have HLN:Hid ((c :: r).length≤1000000):=hZz ho.1;have HEN:=hZz (encode_any (c :: r) v w h hp hck);have hbd:=textF_bd (c :: r).length ho hck;obtain ⟨b,off,n,cap,rfl,hn,p0,p1,p2,p3⟩:=zaaY h;have hpos:(0:Int)<(n:Int):=by omega
 have HU:Hid (textR (c :: r)=if c.kind=4 then (c :: r,0) else okR [sCel ⟨(textF (c :: r).length (c :: r)).toArray⟩]):=hZz rfl;obtain ⟨tx,htx⟩:∃ t:ByteArray,⟨(textF (c :: r).length (c :: r)).toArray⟩=t:=⟨_,rfl⟩
 have hsz:tx.size≤86000:=by
  rw [← htx];show (textF (c :: r).length (c :: r)).toArray.size≤86000;rw [List.size_toArray];exact hbd
 rw [htx] at HEN HU;have HST:Hid (∀ wx,Below w.heap.size w wx→Calls prog 92 #[.string tx] wx (RetR wx [] (okR [sCel tx]))):=hZz fun wx hb=>cstr_any tx wx (hp.below hb) (by omega)
 obtain ⟨BR,hBR⟩:∃ t,textR (c :: r)=t:=⟨_,rfl⟩
 rw [hBR] at HP HU;obtain ⟨k,i,s,nn⟩:=c;dsimp only at p0 p1 p2 p3 HU;clear hBR hP h hp ho hck hn p1 p2 p3 htx hsz hbd;by_cases h4:k=4
 ·subst h4
  have HR:Hid (BR=(⟨4,i,s,nn⟩ :: r,0)):=hZz (by rw [HU.out,if_pos rfl]);clear HU HEN HST;go_enter func51,ntmps51
  go_wp2_with (first
   | (go_at_call 72;((with_reducible refine HCL.out.mono ?_);rintro e w1 ⟨u,rfl,ho,hb1⟩;have HO:=hZz ho;have HB1:=hZz hb1;clear ho hb1)))
  rw [← HP.out,HR.out];exact ⟨u,rfl,HO.out.val (by have:=HLN.out;omega),FromC.ownO HO.out (Nat.le_refl _),HB1.out⟩
 ·have k4:(k == 4)=false:=by simpa using h4
  have HR:Hid (BR=okR [sCel tx]):=hZz (by rw [HU.out,if_neg h4]);clear HU HCL h4;go_enter func51,ntmps51
  go_wp2_with (first
   | (go_at_call 100;((with_reducible refine HEN.out.mono ?_);rintro e w1 ⟨rfl,hb1⟩;have HB1:=hZz hb1;clear hb1))
   | (go_at_call 92;((with_reducible refine (HST.out _ HB1.out).mono ?_);rintro e w3 ⟨u,rfl,hu,hf,hb3⟩;have HU3:=hZz hu;have HF3:=hZz hf;have HB3:=hZz (zadZ hb3 HB1.out);clear hu hf hb3)))
  rw [← HP.out,HR.out];exact ⟨u,rfl,HU3.out,HF3.out.up HB1.out.size (Below.refl _ _),HB3.out⟩
end
section
theorem RetR.from {w w1 w':World} {r:ResD} {e:Ending} (h:RetR w1 [] r e w') (hb:Below w.heap.size w w1):RetR w [] r e w':=by
 obtain ⟨u,he,hv,hf,hb'⟩:=h;exact ⟨u,he,hv,hf.up hb.size (Below.refl _ _),zadZ hb' hb⟩
theorem zceY {w:World} {v:Value} {l:List ValD} (h:ValsV w v l) (hl:l≠[]):∃ b off cap,v=.slice (some ⟨b,off,none⟩) l.length cap∧∀ k (hk:k<l.length),∃ x,w.cell? ⟨b,off+k,none⟩=some x∧ValV w x l[k]:=by
 obtain ⟨A,cap,vs,rfl,hc,hm,hs,hla,hva⟩:=h.at;have hlen:0<l.length:=by cases l <;> simp_all
 obtain ⟨b,off,rfl,_⟩:=hs.ptr (n:=0) (by omega);refine ⟨b,off,cap,rfl,fun k hk=>⟨vs[k]'(by omega),?_,hva k (by omega) hk⟩⟩
 have:=hs.cell0 (n:=k) (by omega) (v:=vs[k]'(by omega)) rfl
 rwa [Nat.mul_one] at this
theorem look_cases {s:ByteArray} {n:Int} (h:lookL builtL s=some n):(s=⟨#[108,101,110]⟩∧n=1)∨(s=⟨#[115,116,114]⟩∧n=1)∨(s=⟨#[105,110,116]⟩∧n=1)∨(s=⟨#[112,117,115,104]⟩∧n=2)∨(s=⟨#[112,117,116]⟩∧n=3)∨(s=⟨#[107,101,121,115]⟩∧n=1)∨(s=⟨#[104,97,115]⟩∧n=2)∨(s=⟨#[102,97,105,108]⟩∧n=1):=by
 simp only [bytes_lit];unfold lookL builtL at h;simp only [List.lookup] at h
 repeat' (split at h)
 all_goals first
  | (rename_i hh;have e:=eq_of_beq hh;injection h with h;subst h;simp [e])
  | cases h
attribute [local go_sem] zacZ
theorem builtin_no (name:ByteArray) (args:List ValD) (av:Value) (w:World) (ha:ValsV w av args) (hp:Pow w) (ho:∀ x∈args,OkV x) (hno:∀ n,lookL builtL name=some n→(args.length:Int)≠n∨firstBad args≠0) :
  Calls prog 16 #[.string name,av] w (RetR w [] (builtinR name args)):=by
 obtain ⟨P,hP⟩:∃ P:Ending→World→Prop,RetR w [] (builtinR name args)=P:=⟨_,rfl⟩
 rw [hP];have HP:=hZz hP;have HBU:=hZz (za3Y name w);have HCK:Hid (∀ wx,Below w.heap.size w wx→Calls prog 30 #[av] wx fun e w'=>e=.returned (.int .i64 (firstBad args))∧Below w.heap.size w w'):=hZz fun wx hb=>(zaeY args av wx (ha.below hb) (hp.below hb) ho).mono fun e w' ⟨he,hb'⟩=>⟨he,zadZ hb' hb⟩
 have HU:Hid (builtinR name args=match lookL builtL name with | none=>([],4) | some n=>if (args.length:Int)≠n then ([],7) else if firstBad args≠0 then ([],firstBad args) else builtR name.toList args):=hZz rfl
 obtain ⟨aA,ac,rfl⟩:∃ A c,av=.slice A args.length c:=by
  obtain ⟨A,cap,vs,e,_⟩:=ha.at;exact ⟨A,cap,e⟩
 obtain ⟨N,hN⟩:∃ N,args.length=N:=⟨_,rfl⟩
 rw [hN] at HU HCK hno ⊢;obtain ⟨fb,hfb⟩:∃ b,firstBad args=b:=⟨_,rfl⟩
 rw [hfb] at HU HCK hno;clear hP ha hp ho hN hfb;cases hlk:lookL builtL name with
 | none =>
  rw [hlk] at HBU HU;have HR:=HU;simp only [Option.getD_none,Option.isSome_none] at HBU;clear hlk hno HU;go_enter func16,ntmps16
  go_wp2_with (first
   | (go_at_call 49;((with_reducible refine HBU.out.mono ?_);rintro e w1 ⟨rfl,hb1⟩;have HB1:=hZz hb1;clear hb1)))
  rw [← HP.out];exact RetR.err HR.out HB1.out
 | some n =>
  have hno':=hno n hlk;rw [hlk] at HBU HU;simp only [Option.getD_some,Option.isSome_some] at HBU;dsimp only at HU;clear hlk hno;by_cases hn:(N:Int)=n
  ·have h1:fb≠0:=hno'.resolve_left (not_not_intro hn)
   have h2:(fb != 0)=true:=by simpa using h1
   have HR:Hid (builtinR name args=([],fb)):=hZz (by rw [HU.out,if_neg (not_not_intro hn),if_pos h1]);subst hn;clear h1 hno' HU;go_enter func16,ntmps16
   go_wp2_with (first
    | (go_at_call 49;((with_reducible refine HBU.out.mono ?_);rintro e w1 ⟨rfl,hb1⟩;have HB1:=hZz hb1;clear hb1))
    | (go_at_call 30;((with_reducible refine (HCK.out _ HB1.out).mono ?_);rintro e w2 ⟨rfl,hb2⟩;have HB2:=hZz hb2;clear hb2)))
   rw [← HP.out];exact RetR.err HR.out HB2.out
  ·have h2:((N:Int) != n)=true:=by simpa using hn
   have HR:Hid (builtinR name args=([],7)):=hZz (by rw [HU.out,if_pos hn]);clear hn hno' HU;go_enter func16,ntmps16
   go_wp2_with (first
    | (go_at_call 49;((with_reducible refine HBU.out.mono ?_);rintro e w1 ⟨rfl,hb1⟩;have HB1:=hZz hb1;clear hb1)))
   rw [← HP.out];exact RetR.err HR.out HB1.out
theorem look_len:lookL builtL ⟨#[108,101,110]⟩=some 1:=by unfold lookL;rw [Lib.toList_data];rfl
theorem look_str:lookL builtL ⟨#[115,116,114]⟩=some 1:=by unfold lookL;rw [Lib.toList_data];rfl
theorem look_int:lookL builtL ⟨#[105,110,116]⟩=some 1:=by unfold lookL;rw [Lib.toList_data];rfl
theorem look_push:lookL builtL ⟨#[112,117,115,104]⟩=some 2:=by unfold lookL;rw [Lib.toList_data];rfl
theorem look_put:lookL builtL ⟨#[112,117,116]⟩=some 3:=by unfold lookL;rw [Lib.toList_data];rfl
theorem look_keys:lookL builtL ⟨#[107,101,121,115]⟩=some 1:=by unfold lookL;rw [Lib.toList_data];rfl
theorem look_has:lookL builtL ⟨#[104,97,115]⟩=some 2:=by unfold lookL;rw [Lib.toList_data];rfl
theorem look_fail:lookL builtL ⟨#[102,97,105,108]⟩=some 1:=by unfold lookL;rw [Lib.toList_data];rfl
theorem built_len (a:ValD) (av:Value) (w:World) (ha:ValsV w av [a]) (hp:Pow w) (hse:Sent w) (hf:firstBad [a]=0) :
  Calls prog 16 #[.string ⟨#[108,101,110]⟩,av] w (RetR w [] (builtR [108,101,110] [a])):=by
 obtain ⟨P,hP⟩:∃ P:Ending→World→Prop,RetR w [] (builtR [108,101,110] [a])=P:=⟨_,rfl⟩
 rw [hP];have HP:=hZz hP;have hall:=zalY hf;have HBU:=hZz (za3Y ⟨#[108,101,110]⟩ w);rw [look_len] at HBU;simp only [Option.getD_some,Option.isSome_some] at HBU;have HCK:Hid (∀ wx,Below w.heap.size w wx→Calls prog 30 #[av] wx fun e w'=>e=.returned (.int .i64 0)∧Below w.heap.size w w'):=hZz fun wx hb=>(zaeY [a] av wx (ha.below hb) (hp.below hb) (fun x hx=>zalZ (hall x hx))).mono fun e w' ⟨he,hb'⟩=>⟨by rw [he,hf],zadZ hb' hb⟩
 obtain ⟨b,off,cap,rfl,hat⟩:=zceY ha (by simp);simp only [List.length_cons,List.length_nil,Nat.zero_add,Nat.reduceAdd] at hat HCK ⊢;obtain ⟨x0,hx0,hx⟩:=hat 0 (by omega);simp only [Nat.add_zero,List.getElem_cons_zero] at hx0 hx;have hck:checkF a=0:=hall a (by simp);obtain ⟨A0,n0,k0,rfl⟩:=hx.shape
 obtain ⟨c,r,rfl⟩:∃ c r,a=c :: r:=by
  cases a with
  | nil=>exact absurd rfl (zadY hck)
  | cons c r=>exact ⟨c,r,rfl⟩
 have HX0:=hZz hx0;have HF:Hid (∀ wx,Below w.heap.size w wx→Calls prog 50 #[.slice A0 n0 k0] wx (RetR wx [] (sizeR (c :: r)))):=hZz fun wx hb=>size0_any c r _ wx (hx.below hb) (hp.below hb) (zalZ hck) hck
 have HR:Hid (builtR [108,101,110] [c :: r]=sizeR (c :: r)):=hZz rfl;clear hP ha hp hse hf hall hat hx hck hx0;go_enter func16,ntmps16
 go_wp2_with (first
  | (go_at_call 49;((with_reducible refine HBU.out.mono ?_);rintro e w1 ⟨rfl,hb1⟩;have HB1:=hZz hb1;clear hb1))
  | (go_at_call 30;((with_reducible refine (HCK.out _ HB1.out).mono ?_);rintro e w2 ⟨rfl,hb2⟩;have HB2:=hZz hb2;have hx0:=(hb2.cell (bLZ HX0.out)).trans HX0.out;clear hb2))
  | (go_at_call 50;((refine (HF.out _ HB2.out).mono ?_);rintro e w3 ⟨u,rfl,hu⟩;have HU:=hZz hu;clear hu)))
 rw [← HP.out,HR.out];exact RetR.from ⟨u,rfl,HU.out⟩ HB2.out
theorem built_str (a:ValD) (av:Value) (w:World) (ha:ValsV w av [a]) (hp:Pow w) (hse:Sent w) (hf:firstBad [a]=0) :
  Calls prog 16 #[.string ⟨#[115,116,114]⟩,av] w (RetR w [] (builtR [115,116,114] [a])):=by
 obtain ⟨P,hP⟩:∃ P:Ending→World→Prop,RetR w [] (builtR [115,116,114] [a])=P:=⟨_,rfl⟩
 rw [hP];have HP:=hZz hP;have hall:=zalY hf;have HBU:=hZz (za3Y ⟨#[115,116,114]⟩ w);rw [look_str] at HBU;simp only [Option.getD_some,Option.isSome_some] at HBU;have HCK:Hid (∀ wx,Below w.heap.size w wx→Calls prog 30 #[av] wx fun e w'=>e=.returned (.int .i64 0)∧Below w.heap.size w w'):=hZz fun wx hb=>(zaeY [a] av wx (ha.below hb) (hp.below hb) (fun x hx=>zalZ (hall x hx))).mono fun e w' ⟨he,hb'⟩=>⟨by rw [he,hf],zadZ hb' hb⟩
 obtain ⟨b,off,cap,rfl,hat⟩:=zceY ha (by simp);simp only [List.length_cons,List.length_nil,Nat.zero_add,Nat.reduceAdd] at hat HCK ⊢;obtain ⟨x0,hx0,hx⟩:=hat 0 (by omega);simp only [Nat.add_zero,List.getElem_cons_zero] at hx0 hx;have hck:checkF a=0:=hall a (by simp);obtain ⟨A0,n0,k0,rfl⟩:=hx.shape
 obtain ⟨c,r,rfl⟩:∃ c r,a=c :: r:=by
  cases a with
  | nil=>exact absurd rfl (zadY hck)
  | cons c r=>exact ⟨c,r,rfl⟩
 have HX0:=hZz hx0;have HF:Hid (∀ wx,Below w.heap.size w wx→Calls prog 51 #[.slice A0 n0 k0] wx (RetR wx [] (textR (c :: r)))):=hZz fun wx hb=>text_eval c r _ wx (hx.below hb) (hp.below hb) hck
 have HR:Hid (builtR [115,116,114] [c :: r]=textR (c :: r)):=hZz rfl;clear hP ha hp hse hf hall hat hx hck hx0;go_enter func16,ntmps16
 go_wp2_with (first
  | (go_at_call 49;((with_reducible refine HBU.out.mono ?_);rintro e w1 ⟨rfl,hb1⟩;have HB1:=hZz hb1;clear hb1))
  | (go_at_call 30;((with_reducible refine (HCK.out _ HB1.out).mono ?_);rintro e w2 ⟨rfl,hb2⟩;have HB2:=hZz hb2;have hx0:=(hb2.cell (bLZ HX0.out)).trans HX0.out;clear hb2))
  | (go_at_call 51;((refine (HF.out _ HB2.out).mono ?_);rintro e w3 ⟨u,rfl,hu⟩;have HU:=hZz hu;clear hu)))
 rw [← HP.out,HR.out];exact RetR.from ⟨u,rfl,HU.out⟩ HB2.out
theorem built_int (a:ValD) (av:Value) (w:World) (ha:ValsV w av [a]) (hp:Pow w) (hse:Sent w) (hf:firstBad [a]=0) :
  Calls prog 16 #[.string ⟨#[105,110,116]⟩,av] w (RetR w [] (builtR [105,110,116] [a])):=by
 obtain ⟨P,hP⟩:∃ P:Ending→World→Prop,RetR w [] (builtR [105,110,116] [a])=P:=⟨_,rfl⟩
 rw [hP];have HP:=hZz hP;have hall:=zalY hf;have HBU:=hZz (za3Y ⟨#[105,110,116]⟩ w);rw [look_int] at HBU;simp only [Option.getD_some,Option.isSome_some] at HBU;have HCK:Hid (∀ wx,Below w.heap.size w wx→Calls prog 30 #[av] wx fun e w'=>e=.returned (.int .i64 0)∧Below w.heap.size w w'):=hZz fun wx hb=>(zaeY [a] av wx (ha.below hb) (hp.below hb) (fun x hx=>zalZ (hall x hx))).mono fun e w' ⟨he,hb'⟩=>⟨by rw [he,hf],zadZ hb' hb⟩
 obtain ⟨b,off,cap,rfl,hat⟩:=zceY ha (by simp);simp only [List.length_cons,List.length_nil,Nat.zero_add,Nat.reduceAdd] at hat HCK ⊢;obtain ⟨x0,hx0,hx⟩:=hat 0 (by omega);simp only [Nat.add_zero,List.getElem_cons_zero] at hx0 hx;have hck:checkF a=0:=hall a (by simp);obtain ⟨A0,n0,k0,rfl⟩:=hx.shape
 obtain ⟨c,r,rfl⟩:∃ c r,a=c :: r:=by
  cases a with
  | nil=>exact absurd rfl (zadY hck)
  | cons c r=>exact ⟨c,r,rfl⟩
 have HX0:=hZz hx0;have HF:Hid (∀ wx,Below w.heap.size w wx→Calls prog 52 #[.slice A0 n0 k0] wx (RetR wx [] (integerR (c :: r)))):=hZz fun wx hb=>integer_any c r _ wx (hx.below hb) (hp.below hb) (hse.below hb) (zalZ hck) hck
 have HR:Hid (builtR [105,110,116] [c :: r]=integerR (c :: r)):=hZz rfl;clear hP ha hp hse hf hall hat hx hck hx0;go_enter func16,ntmps16
 go_wp2_with (first
  | (go_at_call 49;((with_reducible refine HBU.out.mono ?_);rintro e w1 ⟨rfl,hb1⟩;have HB1:=hZz hb1;clear hb1))
  | (go_at_call 30;((with_reducible refine (HCK.out _ HB1.out).mono ?_);rintro e w2 ⟨rfl,hb2⟩;have HB2:=hZz hb2;have hx0:=(hb2.cell (bLZ HX0.out)).trans HX0.out;clear hb2))
  | (go_at_call 52;((refine (HF.out _ HB2.out).mono ?_);rintro e w3 ⟨u,rfl,hu⟩;have HU:=hZz hu;clear hu)))
 rw [← HP.out,HR.out];exact RetR.from ⟨u,rfl,HU.out⟩ HB2.out
theorem built_keys (a:ValD) (av:Value) (w:World) (ha:ValsV w av [a]) (hp:Pow w) (hse:Sent w) (hf:firstBad [a]=0) :
  Calls prog 16 #[.string ⟨#[107,101,121,115]⟩,av] w (RetR w [] (builtR [107,101,121,115] [a])):=by
 obtain ⟨P,hP⟩:∃ P:Ending→World→Prop,RetR w [] (builtR [107,101,121,115] [a])=P:=⟨_,rfl⟩
 rw [hP];have HP:=hZz hP;have hall:=zalY hf;have HBU:=hZz (za3Y ⟨#[107,101,121,115]⟩ w);rw [look_keys] at HBU;simp only [Option.getD_some,Option.isSome_some] at HBU;have HCK:Hid (∀ wx,Below w.heap.size w wx→Calls prog 30 #[av] wx fun e w'=>e=.returned (.int .i64 0)∧Below w.heap.size w w'):=hZz fun wx hb=>(zaeY [a] av wx (ha.below hb) (hp.below hb) (fun x hx=>zalZ (hall x hx))).mono fun e w' ⟨he,hb'⟩=>⟨by rw [he,hf],zadZ hb' hb⟩
 obtain ⟨b,off,cap,rfl,hat⟩:=zceY ha (by simp);simp only [List.length_cons,List.length_nil,Nat.zero_add,Nat.reduceAdd] at hat HCK ⊢;obtain ⟨x0,hx0,hx⟩:=hat 0 (by omega);simp only [Nat.add_zero,List.getElem_cons_zero] at hx0 hx;have hck:checkF a=0:=hall a (by simp);obtain ⟨A0,n0,k0,rfl⟩:=hx.shape
 obtain ⟨c,r,rfl⟩:∃ c r,a=c :: r:=by
  cases a with
  | nil=>exact absurd rfl (zadY hck)
  | cons c r=>exact ⟨c,r,rfl⟩
 have HX0:=hZz hx0;have HF:Hid (∀ wx,Below w.heap.size w wx→Calls prog 54 #[.slice A0 n0 k0] wx (RetR wx [] (keysR (c :: r)))):=hZz fun wx hb=>bkeys_any c r _ wx (hx.below hb) (hp.below hb) (zalZ hck) hck
 have HR:Hid (builtR [107,101,121,115] [c :: r]=keysR (c :: r)):=hZz rfl;clear hP ha hp hse hf hall hat hx hck hx0;go_enter func16,ntmps16
 go_wp2_with (first
  | (go_at_call 49;((with_reducible refine HBU.out.mono ?_);rintro e w1 ⟨rfl,hb1⟩;have HB1:=hZz hb1;clear hb1))
  | (go_at_call 30;((with_reducible refine (HCK.out _ HB1.out).mono ?_);rintro e w2 ⟨rfl,hb2⟩;have HB2:=hZz hb2;have hx0:=(hb2.cell (bLZ HX0.out)).trans HX0.out;clear hb2))
  | (go_at_call 54;((refine (HF.out _ HB2.out).mono ?_);rintro e w3 ⟨u,rfl,hu⟩;have HU:=hZz hu;clear hu)))
 rw [← HP.out,HR.out];exact RetR.from ⟨u,rfl,HU.out⟩ HB2.out
theorem built_fail (a:ValD) (av:Value) (w:World) (ha:ValsV w av [a]) (hp:Pow w) (hse:Sent w) (hf:firstBad [a]=0) :
  Calls prog 16 #[.string ⟨#[102,97,105,108]⟩,av] w (RetR w [] (builtR [102,97,105,108] [a])):=by
 obtain ⟨P,hP⟩:∃ P:Ending→World→Prop,RetR w [] (builtR [102,97,105,108] [a])=P:=⟨_,rfl⟩
 rw [hP];have HP:=hZz hP;have hall:=zalY hf;have HBU:=hZz (za3Y ⟨#[102,97,105,108]⟩ w);rw [look_fail] at HBU;simp only [Option.getD_some,Option.isSome_some] at HBU;have HCK:Hid (∀ wx,Below w.heap.size w wx→Calls prog 30 #[av] wx fun e w'=>e=.returned (.int .i64 0)∧Below w.heap.size w w'):=hZz fun wx hb=>(zaeY [a] av wx (ha.below hb) (hp.below hb) (fun x hx=>zalZ (hall x hx))).mono fun e w' ⟨he,hb'⟩=>⟨by rw [he,hf],zadZ hb' hb⟩
 obtain ⟨b,off,cap,rfl,hat⟩:=zceY ha (by simp);simp only [List.length_cons,List.length_nil,Nat.zero_add,Nat.reduceAdd] at hat HCK ⊢;have HR:Hid (builtR [102,97,105,108] [a]=([],20)):=hZz rfl;clear hP ha hp hse hf hall hat;go_enter func16,ntmps16
 go_wp2_with (first
  | (go_at_call 49;((with_reducible refine HBU.out.mono ?_);rintro e w1 ⟨rfl,hb1⟩;have HB1:=hZz hb1;clear hb1))
  | (go_at_call 30;((with_reducible refine (HCK.out _ HB1.out).mono ?_);rintro e w2 ⟨rfl,hb2⟩;have HB2:=hZz hb2;clear hb2)))
 rw [← HP.out];exact RetR.err HR.out HB2.out
theorem built_push (a d:ValD) (av:Value) (w:World) (ha:ValsV w av [a,d]) (hp:Pow w) (hse:Sent w) (hf:firstBad [a,d]=0) :
  Calls prog 16 #[.string ⟨#[112,117,115,104]⟩,av] w (RetR w [] (builtR [112,117,115,104] [a,d])):=by
 obtain ⟨P,hP⟩:∃ P:Ending→World→Prop,RetR w [] (builtR [112,117,115,104] [a,d])=P:=⟨_,rfl⟩
 rw [hP];have HP:=hZz hP;have hall:=zalY hf;have HBU:=hZz (za3Y ⟨#[112,117,115,104]⟩ w);rw [look_push] at HBU;simp only [Option.getD_some,Option.isSome_some] at HBU;have HCK:Hid (∀ wx,Below w.heap.size w wx→Calls prog 30 #[av] wx fun e w'=>e=.returned (.int .i64 0)∧Below w.heap.size w w'):=hZz fun wx hb=>(zaeY [a,d] av wx (ha.below hb) (hp.below hb) (fun x hx=>zalZ (hall x hx))).mono fun e w' ⟨he,hb'⟩=>⟨by rw [he,hf],zadZ hb' hb⟩
 obtain ⟨b,off,cap,rfl,hat⟩:=zceY ha (by simp);simp only [List.length_cons,List.length_nil,Nat.zero_add,Nat.reduceAdd] at hat HCK ⊢;obtain ⟨x0,hx0,hx⟩:=hat 0 (by omega);obtain ⟨x1,hx1,hy⟩:=hat 1 (by omega);simp only [Nat.add_zero,List.getElem_cons_zero,List.getElem_cons_succ] at hx0 hx hx1 hy;have hck:checkF a=0:=hall a (by simp);have hck2:checkF d=0:=hall d (by simp);obtain ⟨A0,n0,k0,rfl⟩:=hx.shape;obtain ⟨A1,n1,k1,rfl⟩:=hy.shape
 obtain ⟨c,r,rfl⟩:∃ c r,a=c :: r:=by
  cases a with
  | nil=>exact absurd rfl (zadY hck)
  | cons c r=>exact ⟨c,r,rfl⟩
 have HX0:=hZz hx0;have HX1:=hZz hx1;have HF:Hid (∀ wx,Below w.heap.size w wx→Calls prog 53 #[.slice A0 n0 k0,.slice A1 n1 k1] wx (RetR wx [] (pushR (c :: r) d))):=hZz fun wx hb=>push_any c r d _ _ wx (hx.below hb) (hy.below hb) (hp.below hb) (zalZ hck) (zalZ hck2) hck
 have HR:Hid (builtR [112,117,115,104] [c :: r,d]=pushR (c :: r) d):=hZz rfl;clear hP ha hp hse hf hall hat hx hck hx0 hx1 hy hck2;go_enter func16,ntmps16
 go_upto_region 17 with (first
  | (go_at_call 49;((with_reducible refine HBU.out.mono ?_);rintro e w1 ⟨rfl,hb1⟩;have HB1:=hZz hb1;clear hb1))
  | (go_at_call 30;((with_reducible refine (HCK.out _ HB1.out).mono ?_);rintro e w2 ⟨rfl,hb2⟩;have HB2:=hZz hb2;have hx0:=(hb2.cell (bLZ HX0.out)).trans HX0.out;have hx1:=(hb2.cell (bLZ HX1.out)).trans HX1.out;clear hb2)))
 go_region_law (go_simp;go_at_call 53;((refine (HF.out _ (zabZ (zaeZ _) HB2.out HB2.out.size)).mono ?_);rintro e w3 ⟨u,rfl,hu⟩;have HU:=hZz hu;clear hu))
 all_goals
  go_simp;go_wp2_with (fail)
  rw [← HP.out,HR.out];exact RetR.from ⟨u,rfl,HU.out⟩ (zabZ (zaeZ _) HB2.out HB2.out.size)
theorem built_put (a d z:ValD) (av:Value) (w:World) (ha:ValsV w av [a,d,z]) (hp:Pow w) (hse:Sent w) (hf:firstBad [a,d,z]=0) :
  Calls prog 16 #[.string ⟨#[112,117,116]⟩,av] w (RetR w [] (builtR [112,117,116] [a,d,z])):=by
 obtain ⟨P,hP⟩:∃ P:Ending→World→Prop,RetR w [] (builtR [112,117,116] [a,d,z])=P:=⟨_,rfl⟩
 rw [hP];have HP:=hZz hP;have hall:=zalY hf;have HBU:=hZz (za3Y ⟨#[112,117,116]⟩ w);rw [look_put] at HBU;simp only [Option.getD_some,Option.isSome_some] at HBU;have HCK:Hid (∀ wx,Below w.heap.size w wx→Calls prog 30 #[av] wx fun e w'=>e=.returned (.int .i64 0)∧Below w.heap.size w w'):=hZz fun wx hb=>(zaeY [a,d,z] av wx (ha.below hb) (hp.below hb) (fun x hx=>zalZ (hall x hx))).mono fun e w' ⟨he,hb'⟩=>⟨by rw [he,hf],zadZ hb' hb⟩
 obtain ⟨b,off,cap,rfl,hat⟩:=zceY ha (by simp);simp only [List.length_cons,List.length_nil,Nat.zero_add,Nat.reduceAdd] at hat HCK ⊢;obtain ⟨x0,hx0,hx⟩:=hat 0 (by omega);obtain ⟨x1,hx1,hy⟩:=hat 1 (by omega);obtain ⟨x2,hx2,hz⟩:=hat 2 (by omega);simp only [Nat.add_zero,List.getElem_cons_zero,List.getElem_cons_succ] at hx0 hx hx1 hy hx2 hz;have hck:checkF a=0:=hall a (by simp);have hck2:checkF d=0:=hall d (by simp);have hck3:checkF z=0:=hall z (by simp);obtain ⟨A2,n2,k2,rfl⟩:=hz.shape;have HX2:=hZz hx2;have hks:∀ c r,d=c :: r→c.str.size≤200:=fun c r e=>za8Y hck2 c (by rw [e];simp)
 obtain ⟨c,r,rfl⟩:∃ c r,a=c :: r:=by
  cases a with
  | nil=>exact absurd rfl (zadY hck)
  | cons c r=>exact ⟨c,r,rfl⟩
 obtain ⟨c2,r2,rfl⟩:∃ c r,d=c :: r:=by
  cases d with
  | nil=>exact absurd rfl (zadY hck2)
  | cons c r=>exact ⟨c,r,rfl⟩
 have hks2:=hks c2 r2 rfl;have hx9:=hx;have hy9:=hy;obtain ⟨bA,oA,nA,cA,rfl,hnA,a0,_,_,_⟩:=zaaY hx9;obtain ⟨bB,oB,nB,cB,rfl,hnB,b0,_,b2,_⟩:=zaaY hy9;have hpA:(0:Int)<(nA:Int):=by omega
 have hpB:(0:Int)<(nB:Int):=by omega
 have hpBn:0<nB:=by omega
 have HX0:=hZz hx0;have HX1:=hZz hx1;have HA0:=hZz a0;have HB0:=hZz b0;have HB5:=hZz b2;have HF:Hid (∀ wx,Below w.heap.size w wx→Calls prog 55 #[.slice (some ⟨bA,oA,none⟩) nA cA,.string c2.str,.slice A2 n2 k2] wx (RetR wx [] (putR (c :: r) c2.str z))):=hZz fun wx hb=>put_any (c :: r) z c2.str _ _ wx (hx.below hb) (hz.below hb) (hp.below hb) (zalZ hck) (zalZ hck3) (by omega)
 have HU:Hid (builtR [112,117,116] [c :: r,c2 :: r2,z]=if c.kind≠6∨c2.kind≠4 then ([],7) else putR (c :: r) c2.str z):=hZz rfl;obtain ⟨BR,hBR⟩:∃ t,builtR [112,117,116] [c :: r,c2 :: r2,z]=t:=⟨_,rfl⟩
 rw [hBR] at HP HU;obtain ⟨k,i,s,nn⟩:=c;obtain ⟨kk,ii,ss,nnn⟩:=c2;dsimp only at a0 b0 b2 HA0 HB0 HB5 HF HU hks2;clear hP ha hp hse hf hall hat hx hy hck hx0 hx1 hck2 hks hx9 hy9 a0 b0 b2 hBR hks2 hnA hnB hx2 hz hck3;by_cases h6:k=6
 case neg =>
  have h6':(k != 6)=true:=by simpa using h6
  have HR:Hid (BR=([],7)):=hZz (by rw [HU.out,if_pos (.inl h6)]);clear h6 HU;go_enter func16,ntmps16
  go_wp2_with (first
   | (go_at_call 49;((with_reducible refine HBU.out.mono ?_);rintro e w1 ⟨rfl,hb1⟩;have HB1:=hZz hb1;clear hb1))
   | (go_at_call 30;((with_reducible refine (HCK.out _ HB1.out).mono ?_);rintro e w2 ⟨rfl,hb2⟩;have HB2:=hZz hb2;have hx0:=(hb2.cell (bLZ HX0.out)).trans HX0.out;have hx1:=(hb2.cell (bLZ HX1.out)).trans HX1.out;have ha0:=(hb2.cell (bLZ HA0.out)).trans HA0.out;have hb0:=(hb2.cell (bLZ HB0.out)).trans HB0.out;have hb5:=(hb2.cell (bLZ HB5.out)).trans HB5.out;clear hb2)))
  rw [← HP.out];exact RetR.err HR.out HB2.out
 subst h6;by_cases h4:kk=4
 case neg =>
  have h4':(kk != 4)=true:=by simpa using h4
  have HR:Hid (BR=([],7)):=hZz (by rw [HU.out,if_pos (.inr h4)]);clear h4 HU;go_enter func16,ntmps16
  go_wp2_with (first
   | (go_at_call 49;((with_reducible refine HBU.out.mono ?_);rintro e w1 ⟨rfl,hb1⟩;have HB1:=hZz hb1;clear hb1))
   | (go_at_call 30;((with_reducible refine (HCK.out _ HB1.out).mono ?_);rintro e w2 ⟨rfl,hb2⟩;have HB2:=hZz hb2;have hx0:=(hb2.cell (bLZ HX0.out)).trans HX0.out;have hx1:=(hb2.cell (bLZ HX1.out)).trans HX1.out;have ha0:=(hb2.cell (bLZ HA0.out)).trans HA0.out;have hb0:=(hb2.cell (bLZ HB0.out)).trans HB0.out;have hb5:=(hb2.cell (bLZ HB5.out)).trans HB5.out;clear hb2)))
  rw [← HP.out];exact RetR.err HR.out HB2.out
 subst h4;have HR:Hid (BR=putR (⟨6,i,s,nn⟩ :: r) ss z):=hZz (by rw [HU.out,if_neg (by simp)]);clear HU;go_enter func16,ntmps16
 go_upto_region 25 with (first
  | (go_at_call 49;((with_reducible refine HBU.out.mono ?_);rintro e w1 ⟨rfl,hb1⟩;have HB1:=hZz hb1;clear hb1))
  | (go_at_call 30;((with_reducible refine (HCK.out _ HB1.out).mono ?_);rintro e w2 ⟨rfl,hb2⟩;have HB2:=hZz hb2;have hx0:=(hb2.cell (bLZ HX0.out)).trans HX0.out;have hx1:=(hb2.cell (bLZ HX1.out)).trans HX1.out;have ha0:=(hb2.cell (bLZ HA0.out)).trans HA0.out;have hb0:=(hb2.cell (bLZ HB0.out)).trans HB0.out;have hb5:=(hb2.cell (bLZ HB5.out)).trans HB5.out;have hx2:=(hb2.cell (bLZ HX2.out)).trans HX2.out;clear hb2)))
 go_region_law (go_simp;go_at_call 55;((refine (HF.out _ (zabZ (zaeZ _) HB2.out HB2.out.size)).mono ?_);rintro e w3 ⟨u,rfl,hu⟩;have HU:=hZz hu;clear hu))
 all_goals
  go_simp;go_wp2_with (fail)
  rw [← HP.out,HR.out];exact RetR.from ⟨u,rfl,HU.out⟩ (zabZ (zaeZ _) HB2.out HB2.out.size)
theorem built_has (a d:ValD) (av:Value) (w:World) (ha:ValsV w av [a,d]) (hp:Pow w) (hse:Sent w) (hf:firstBad [a,d]=0) :
  Calls prog 16 #[.string ⟨#[104,97,115]⟩,av] w (RetR w [] (builtR [104,97,115] [a,d])):=by
 obtain ⟨P,hP⟩:∃ P:Ending→World→Prop,RetR w [] (builtR [104,97,115] [a,d])=P:=⟨_,rfl⟩
 rw [hP];have HP:=hZz hP;have hall:=zalY hf;have HBU:=hZz (za3Y ⟨#[104,97,115]⟩ w);rw [look_has] at HBU;simp only [Option.getD_some,Option.isSome_some] at HBU;have HCK:Hid (∀ wx,Below w.heap.size w wx→Calls prog 30 #[av] wx fun e w'=>e=.returned (.int .i64 0)∧Below w.heap.size w w'):=hZz fun wx hb=>(zaeY [a,d] av wx (ha.below hb) (hp.below hb) (fun x hx=>zalZ (hall x hx))).mono fun e w' ⟨he,hb'⟩=>⟨by rw [he,hf],zadZ hb' hb⟩
 obtain ⟨b,off,cap,rfl,hat⟩:=zceY ha (by simp);simp only [List.length_cons,List.length_nil,Nat.zero_add,Nat.reduceAdd] at hat HCK ⊢;obtain ⟨x0,hx0,hx⟩:=hat 0 (by omega);obtain ⟨x1,hx1,hy⟩:=hat 1 (by omega);simp only [Nat.add_zero,List.getElem_cons_zero,List.getElem_cons_succ] at hx0 hx hx1 hy;have hck:checkF a=0:=hall a (by simp);have hck2:checkF d=0:=hall d (by simp);have hks:∀ c r,d=c :: r→c.str.size≤200:=fun c r e=>za8Y hck2 c (by rw [e];simp)
 obtain ⟨c,r,rfl⟩:∃ c r,a=c :: r:=by
  cases a with
  | nil=>exact absurd rfl (zadY hck)
  | cons c r=>exact ⟨c,r,rfl⟩
 obtain ⟨c2,r2,rfl⟩:∃ c r,d=c :: r:=by
  cases d with
  | nil=>exact absurd rfl (zadY hck2)
  | cons c r=>exact ⟨c,r,rfl⟩
 have hks2:=hks c2 r2 rfl;have hx9:=hx;have hy9:=hy;obtain ⟨bA,oA,nA,cA,rfl,hnA,a0,_,_,_⟩:=zaaY hx9;obtain ⟨bB,oB,nB,cB,rfl,hnB,b0,_,b2,_⟩:=zaaY hy9;have hpA:(0:Int)<(nA:Int):=by omega
 have hpB:(0:Int)<(nB:Int):=by omega
 have hpBn:0<nB:=by omega
 have HX0:=hZz hx0;have HX1:=hZz hx1;have HA0:=hZz a0;have HB0:=hZz b0;have HB5:=hZz b2;have HF:Hid (∀ wx,Below w.heap.size w wx→Calls prog 56 #[.slice (some ⟨bA,oA,none⟩) nA cA,.string c2.str] wx (RetR wx [] (getR (c :: r) c2.str))):=hZz fun wx hb=>get_any (c :: r) c2.str _ wx (hx.below hb) (hp.below hb) (zalZ hck)
 have HU:Hid (builtR [104,97,115] [c :: r,c2 :: r2]=if c.kind≠6∨c2.kind≠4 then ([],7) else ([bCel (decide ((getR (c :: r) c2.str).2=0))],0)):=hZz rfl;obtain ⟨⟨gv,ge⟩,hge⟩:∃ t,getR (c :: r) c2.str=t:=⟨_,rfl⟩
 rw [hge] at HF HU;dsimp only at HF HU;obtain ⟨BR,hBR⟩:∃ t,builtR [104,97,115] [c :: r,c2 :: r2]=t:=⟨_,rfl⟩
 rw [hBR] at HP HU;obtain ⟨k,i,s,nn⟩:=c;obtain ⟨kk,ii,ss,nnn⟩:=c2;dsimp only at a0 b0 b2 HA0 HB0 HB5 HF HU hks2;clear hP ha hp hse hf hall hat hx hy hck hx0 hx1 hck2 hks hx9 hy9 a0 b0 b2 hBR hks2 hnA hnB hge;by_cases h6:k=6
 case neg =>
  have h6':(k != 6)=true:=by simpa using h6
  have HR:Hid (BR=([],7)):=hZz (by rw [HU.out,if_pos (.inl h6)]);clear h6 HU;go_enter func16,ntmps16
  go_wp2_with (first
   | (go_at_call 49;((with_reducible refine HBU.out.mono ?_);rintro e w1 ⟨rfl,hb1⟩;have HB1:=hZz hb1;clear hb1))
   | (go_at_call 30;((with_reducible refine (HCK.out _ HB1.out).mono ?_);rintro e w2 ⟨rfl,hb2⟩;have HB2:=hZz hb2;have hx0:=(hb2.cell (bLZ HX0.out)).trans HX0.out;have hx1:=(hb2.cell (bLZ HX1.out)).trans HX1.out;have ha0:=(hb2.cell (bLZ HA0.out)).trans HA0.out;have hb0:=(hb2.cell (bLZ HB0.out)).trans HB0.out;have hb5:=(hb2.cell (bLZ HB5.out)).trans HB5.out;clear hb2)))
  rw [← HP.out];exact RetR.err HR.out HB2.out
 subst h6;by_cases h4:kk=4
 case neg =>
  have h4':(kk != 4)=true:=by simpa using h4
  have HR:Hid (BR=([],7)):=hZz (by rw [HU.out,if_pos (.inr h4)]);clear h4 HU;go_enter func16,ntmps16
  go_wp2_with (first
   | (go_at_call 49;((with_reducible refine HBU.out.mono ?_);rintro e w1 ⟨rfl,hb1⟩;have HB1:=hZz hb1;clear hb1))
   | (go_at_call 30;((with_reducible refine (HCK.out _ HB1.out).mono ?_);rintro e w2 ⟨rfl,hb2⟩;have HB2:=hZz hb2;have hx0:=(hb2.cell (bLZ HX0.out)).trans HX0.out;have hx1:=(hb2.cell (bLZ HX1.out)).trans HX1.out;have ha0:=(hb2.cell (bLZ HA0.out)).trans HA0.out;have hb0:=(hb2.cell (bLZ HB0.out)).trans HB0.out;have hb5:=(hb2.cell (bLZ HB5.out)).trans HB5.out;clear hb2)))
  rw [← HP.out];exact RetR.err HR.out HB2.out
 subst h4;have HR:Hid (BR=([bCel (decide (ge=0))],0)):=hZz (by rw [HU.out,if_neg (by simp)])
 have HBO:Hid (∀ wx,Calls prog 32 #[.bool (ge == 0)] wx fun e w'=>∃ u,e=.returned u∧ValV w' u [bCel (decide (ge=0))]∧FromC wx w' [] u∧Below wx.heap.size wx w'):=hZz fun wx=>by
  have:=zdhY (decide (ge=0)) wx
  rwa [show (ge == 0)=decide (ge=0) from rfl]
 clear HU;go_enter func16,ntmps16
 go_upto_region 26 with (first
  | (go_at_call 49;((with_reducible refine HBU.out.mono ?_);rintro e w1 ⟨rfl,hb1⟩;have HB1:=hZz hb1;clear hb1))
  | (go_at_call 30;((with_reducible refine (HCK.out _ HB1.out).mono ?_);rintro e w2 ⟨rfl,hb2⟩;have HB2:=hZz hb2;have hx0:=(hb2.cell (bLZ HX0.out)).trans HX0.out;have hx1:=(hb2.cell (bLZ HX1.out)).trans HX1.out;have ha0:=(hb2.cell (bLZ HA0.out)).trans HA0.out;have hb0:=(hb2.cell (bLZ HB0.out)).trans HB0.out;have hb5:=(hb2.cell (bLZ HB5.out)).trans HB5.out;clear hb2)))
 go_region_law (go_simp;go_at_call 56;((refine (HF.out _ (zabZ (zaeZ _) HB2.out HB2.out.size)).mono ?_);rintro e w3 ⟨u,rfl,hu,hf3,hb3⟩;have HB3:=hZz (zabZ hb3 (zabZ (zaeZ _) HB2.out HB2.out.size) (zabZ (zaeZ _) HB2.out HB2.out.size).size);clear hu hf3 hb3))
 all_goals
  go_simp
  go_wp2_with (first
   | (go_at_call 32;((refine (HBO.out _).mono ?_);rintro e w4 ⟨u4,rfl,hu4,hf4,hb4⟩;have HU4:=hZz hu4;have HF4:=hZz hf4;have HB4:=hZz hb4;clear hu4 hf4 hb4)))
  rw [← HP.out,HR.out];exact RetR.from ⟨u4,rfl,HU4.out,HF4.out,HB4.out⟩ HB3.out
theorem builtin_any (name:ByteArray) (args:List ValD) (av:Value) (w:World) (ha:ValsV w av args) (hp:Pow w) (hse:Sent w) (ho:∀ x∈args,OkV x) :
  Calls prog 16 #[.string name,av] w (RetR w [] (builtinR name args)):=by
 by_cases hno:∀ n,lookL builtL name=some n→(args.length:Int)≠n∨firstBad args≠0
 ·exact builtin_no name args av w ha hp ho hno
 ·obtain ⟨n,h⟩:=Classical.not_forall.1 hno
  obtain ⟨hl,h⟩:=Classical.not_imp.1 h;have h1:(args.length:Int)=n:=Classical.byContradiction fun e=>h (.inl e)
  have h2:firstBad args=0:=Classical.byContradiction fun e=>h (.inr e)
  have HR:builtinR name args=builtR name.toList args:=by
   unfold builtinR;rw [hl];simp only
   rw [if_neg (not_not_intro h1),if_neg (not_not_intro h2)]
  rw [HR];have hlen:∀ k:Nat,n=k→args.length=k:=fun k e=>by omega
  rcases look_cases hl with ⟨rfl,e⟩ | ⟨rfl,e⟩ | ⟨rfl,e⟩ | ⟨rfl,e⟩ | ⟨rfl,e⟩ | ⟨rfl,e⟩ | ⟨rfl,e⟩ | ⟨rfl,e⟩
  ·obtain ⟨a,rfl⟩:∃ a,args=[a]:=by
    have:=hlen 1 e
    match args,this with
    | [a],_=>exact ⟨a,rfl⟩
   rw [Lib.toList_data];exact built_len a av w ha hp hse h2
  ·obtain ⟨a,rfl⟩:∃ a,args=[a]:=by
    have:=hlen 1 e
    match args,this with
    | [a],_=>exact ⟨a,rfl⟩
   rw [Lib.toList_data];exact built_str a av w ha hp hse h2
  ·obtain ⟨a,rfl⟩:∃ a,args=[a]:=by
    have:=hlen 1 e
    match args,this with
    | [a],_=>exact ⟨a,rfl⟩
   rw [Lib.toList_data];exact built_int a av w ha hp hse h2
  ·obtain ⟨a,d,rfl⟩:∃ a d,args=[a,d]:=by
    have:=hlen 2 e
    match args,this with
    | [a,d],_=>exact ⟨a,d,rfl⟩
   rw [Lib.toList_data];exact built_push a d av w ha hp hse h2
  ·obtain ⟨a,d,z,rfl⟩:∃ a d z,args=[a,d,z]:=by
    have:=hlen 3 e
    match args,this with
    | [a,d,z],_=>exact ⟨a,d,z,rfl⟩
   rw [Lib.toList_data];exact built_put a d z av w ha hp hse h2
  ·obtain ⟨a,rfl⟩:∃ a,args=[a]:=by
    have:=hlen 1 e
    match args,this with
    | [a],_=>exact ⟨a,rfl⟩
   rw [Lib.toList_data];exact built_keys a av w ha hp hse h2
  ·obtain ⟨a,d,rfl⟩:∃ a d,args=[a,d]:=by
    have:=hlen 2 e
    match args,this with
    | [a,d],_=>exact ⟨a,d,rfl⟩
   rw [Lib.toList_data];exact built_has a d av w ha hp hse h2
  ·obtain ⟨a,rfl⟩:∃ a,args=[a]:=by
    have:=hlen 1 e
    match args,this with
    | [a],_=>exact ⟨a,rfl⟩
   rw [Lib.toList_data];exact built_fail a av w ha hp hse h2
end
def okS (R:Nat→VN→VN→Prop):List Int→VN→VN→Prop
 | [],T,U=>T=U
 | k :: r,T,U=>∃ V,R k.toNat T V∧okS R r V U
def endOk (p:ProgD) (SL:List Int) (i:Nat) (n:NodeD) (V U:VN):Prop :=
 if n.kind=19 then U=⟨(declF p n.kids).foldl alDel V.vis,V.next⟩
 else if n.kind=5∨n.kind=14 then U=V∧∃ sl,alGet V.vis n.text=some sl∧zAt SL i=sl
 else if n.kind=13 then U=⟨V.vis ++ [(n.text,V.next)],V.next+1⟩∧alGet V.vis n.text=none∧zAt SL i=V.next
 else U=V∧(n.kind=11→wantF p n.text=some (n.kids.length:Int))
def okW (p:ProgD) (SL:List Int):Nat→Nat→VN→VN→Prop
 | 0,_,_,_=>False
 | f+1,i,T,U=>(∃ s,Tree p.nodes f i s)∧i<p.nodes.length∧∃ V,okS (okW p SL f) (p.at_ i).kids T V∧endOk p SL i (p.at_ i) V U
def SOut (S S':ScD) (s e:Nat):Prop:=∀ j,j<s∨e≤j→zAt S'.slots j=zAt S.slots j
theorem SOut.refl (S:ScD) (s e:Nat):SOut S S s e:=fun _ _=>rfl
theorem SOut.trans {S T U:ScD} {s m e:Nat} (h:SOut S T s m) (g:SOut T U m e) (h1:s≤m) (h2:m≤e):SOut S U s e:=fun j hj=>(g j (by omega)).trans (h j (by omega))
theorem SOut.wide {S T:ScD} {s e a b:Nat} (h:SOut S T s e) (h1:a≤s) (h2:e≤b):SOut S T a b:=fun j hj=>h j (by omega)
theorem zAt_ne (l:List Int) (i j:Nat) (x:Int) (h:i≠j):zAt (l.set i x) j=zAt l j:=by
 unfold zAt;simp only [List.getD_eq_getElem?_getD,List.getElem?_set];rw [if_neg h]
theorem letF_sout (S:ScD) (i:Nat) (s:ByteArray):SOut S (letF S i s) i (i+1):=by
 intro j hj;have hne:i≠j:=by omega
 unfold letF;split
 ·exact zAt_ne S.slots i j S.next hne
 ·split
  ·exact zAt_ne S.slots i j S.next hne
  ·exact zAt_ne S.slots i j S.next hne
theorem endF_sout (p:ProgD) (n:NodeD) (i:Nat) (S:ScD):SOut S (endF p n i S) i (i+1):=by
 intro j hj;have hne:i≠j:=by omega
 unfold endF;split
 ·split
  ·exact zAt_ne S.slots i j _ hne
  ·rfl
 ·split
  ·exact letF_sout S i n.text j hj
  ·split
   ·rfl
   ·split
    ·split
     ·rfl
     ·rfl
    ·rfl
theorem seq_sout {p:ProgD} {f:Nat} (hr:∀ i s S,firstF p.nodes f i=some s→SOut S (walkF p f i S) s (i+1)) {r:List Int} {s e:Nat} (h:Cover p.nodes f r s e):∀ S,SOut S (r.foldl (fun S k=>walkF p f k.toNat S) S) s e:=by
 induction h with
 | nil s=>intro S;exact SOut.refl _ _ _
 | cons r s m e h1 h2 ih =>
  intro S;have q1:=zahY h1;have q2:=h2.le';simp only [List.foldl_cons,Int.toNat_natCast];exact (hr m s S h1).trans (ih _) (by omega) q2
theorem walk_sout (p:ProgD):∀ f i s S,firstF p.nodes f i=some s→SOut S (walkF p f i S) s (i+1):=by
 intro f;induction f with
 | zero=>intro i s S h;cases h
 | succ f ih =>
  intro i s S h;have T:=zawY h;have hs:=zahY h;simp only [walkF];split
  ·have:=(seq_sout ih T.cover S).wide (Nat.le_refl s) (show i≤i+1 by omega)
   intro j hj;rw [← this j hj];show zAt (blockF p (walkF p f) (p.at_ i).kids S []).1.slots j=_;rw [blockF_d];rfl
  ·exact (seq_sout ih T.cover S).trans (endF_sout p _ i _) hs (by omega)
theorem walk_slen {p:ProgD} {f i s:Nat} {S:ScD} (h:firstF p.nodes f i=some s):(walkF p f i S).slots.length=S.slots.length:=(zboY p f i s S h).slots
theorem seq_okW {p:ProgD} {SL:List Int} {f:Nat} (hr:∀ i s S T,firstF p.nodes f i=some s→walkE p f i ⟨S.vis,S.next⟩=.ok T→i<S.errs.length→i<S.slots.length→i<p.nodes.length→Zeros S s (i+1)→(∀ j,s≤j→j<i+1→zAt SL j=zAt (walkF p f i S).slots j)→okW p SL f i ⟨S.vis,S.next⟩ T)
  {r:List Int} {s e:Nat} (h:Cover p.nodes f r s e):∀ S U,seqE (walkE p f) r ⟨S.vis,S.next⟩=.ok U→e≤S.errs.length→e≤S.slots.length→e≤p.nodes.length→Zeros S s e→(∀ j,s≤j→j<e→zAt SL j=zAt (r.foldl (fun S k=>walkF p f k.toNat S) S).slots j)→okS (okW p SL f) r ⟨S.vis,S.next⟩ U:=by
 induction h with
 | nil s=>intro S U h _ _ _ _ _;simp only [seqE] at h;cases h;rfl
 | cons r s m e h1 h2 ih =>
  intro S U hU he hl hp hz hag;have q1:=zahY h1;have q2:=h2.le';simp only [List.foldl_cons,Int.toNat_natCast,seqE] at hU hag;cases hw:walkE p f m ⟨S.vis,S.next⟩ with
  | error x=>rw [hw] at hU;cases hU
  | ok V =>
   rw [hw] at hU;have hres:=walk_res p f m s S h1 (by omega) (hz.sub (Nat.le_refl _) q2);obtain ⟨g1,g2,_⟩:=hres.ok V hw;have ho:=zcvY p f m s S h1 (by omega);have hso:=seq_sout (walk_sout p f) h2 (walkF p f m S);refine ⟨V,?_,?_⟩
   ·rw [Int.toNat_natCast]
    exact hr m s S V h1 hw (by omega) (by omega) (by omega) (hz.sub (Nat.le_refl _) q2) (fun j h3 h4=>(hag j h3 (by omega)).trans (hso j (by omega)))
   ·have:=ih (walkF p f m S) U (by rw [g1,g2];exact hU) (by rw [zb4Y h1];exact he) (by rw [walk_slen h1];exact hl) hp ((hz.sub (a:=m+1) (by omega) (Nat.le_refl _)).out ho (Nat.le_refl _)) (fun j h3 h4=>hag j (by omega) h4)
    rw [g1,g2] at this;exact this
theorem walk_okW (p:ProgD) (SL:List Int):∀ f i s S T,firstF p.nodes f i=some s→walkE p f i ⟨S.vis,S.next⟩=.ok T→i<S.errs.length→i<S.slots.length→i<p.nodes.length→Zeros S s (i+1)→(∀ j,s≤j→j<i+1→zAt SL j=zAt (walkF p f i S).slots j)→okW p SL f i ⟨S.vis,S.next⟩ T:=by
 intro f;induction f with
 | zero=>intro i s S T h;cases h
 | succ f ih =>
  intro i s S U h hU he hl hp hz hag;have T:=zawY h;have hs:=zahY h;have hcv:=T.cover;have hn:p.nodes.getD i noNode=p.at_ i:=rfl;rw [hn] at hcv;have hlen:=(zcqY (zboY p f) hcv S).slots;have hq:=seq_res (fun i s S h=>walk_res p f i s S h) hcv S (by omega) (hz.sub (Nat.le_refl _) (by omega));refine ⟨⟨s,T⟩,hp,?_⟩
  simp only [walkE] at hU;simp only [walkF] at hag;have hi0:=hag i hs (by omega);by_cases hk:(p.at_ i).kind=19
  ·rw [if_pos hk] at hU
   cases hr:seqE (walkE p f) (p.at_ i).kids ⟨S.vis,S.next⟩ with
   | error x=>rw [hr] at hU;cases hU
   | ok V =>
    rw [hr] at hU;have hU':(⟨(declF p (p.at_ i).kids).foldl alDel V.vis,V.next⟩:VN)=U:=by cases hU;rfl
    refine ⟨V,seq_okW ih hcv S V hr (by omega) (by omega) (by omega) (hz.sub (Nat.le_refl _) (by omega)) (fun j h1 h2=>?_),?_⟩
    ·have:=hag j h1 (by omega)
     rw [if_pos hk] at this;rw [this];show zAt (blockF p (walkF p f) (p.at_ i).kids S []).1.slots j=_;rw [blockF_d]
    ·unfold endOk
     rw [if_pos hk,hU']
  ·rw [if_neg hk] at hU
   cases hr:seqE (walkE p f) (p.at_ i).kids ⟨S.vis,S.next⟩ with
   | error x=>rw [hr] at hU;cases hU
   | ok V =>
    rw [hr] at hU;have hU2:endE p (p.at_ i) V=.ok U:=hU;obtain ⟨g1,g2,_⟩:=hq.ok V hr;rw [if_neg hk] at hi0;obtain ⟨S',hS'⟩:∃ S',(p.at_ i).kids.foldl (fun S k=>walkF p f k.toNat S) S=S':=⟨_,rfl⟩
    rw [hS'] at hi0 hlen g1 g2;refine ⟨V,seq_okW ih hcv S V hr (by omega) (by omega) (by omega) (hz.sub (Nat.le_refl _) (by omega)) (fun j h1 h2=>?_),?_⟩
    ·have:=hag j h1 (by omega)
     rw [if_neg hk,hS'] at this;rw [this,hS'];exact endF_sout p _ i S' j (by omega)
    ·have hset:∀ x:Int,zAt (S'.slots.set i x) i=x:=fun x=>by rw [zdjY _ _ _ _ (by omega),if_pos rfl]
     have gd:∀ {e:Int} {A B:VN},guardE e A=.ok B→B=A∧e=0:=by
      intro e A B h;unfold guardE at h;split at h
      ·cases h;exact ⟨rfl,by assumption⟩
      ·cases h
     unfold endOk;rw [if_neg hk];unfold endE at hU2;unfold endF at hi0;by_cases h5:(p.at_ i).kind=5∨(p.at_ i).kind=14
     ·rw [if_pos h5] at hU2 hi0 ⊢
      obtain ⟨e1,e2⟩:=gd hU2;cases hg:alGet V.vis (p.at_ i).text with
      | none=>rw [hg] at e2;simp at e2
      | some sl =>
       rw [g1,hg] at hi0;refine ⟨e1,sl,rfl,?_⟩
       rw [hi0];exact hset sl
     ·rw [if_neg h5] at hU2 hi0 ⊢
      by_cases h13:(p.at_ i).kind=13
      ·rw [if_pos h13] at hU2 hi0 ⊢
       cases hg:alGet V.vis (p.at_ i).text with
       | some sl=>(try rw [hg] at hU2);rw [if_pos (show (some sl).isSome=true from rfl)] at hU2;cases hU2
       | none =>
        (try rw [hg] at hU2)
        rw [if_neg (by simp)] at hU2;split at hU2
        ·cases hU2
        ·rename_i h32
         cases hU2
         refine ⟨by rw [alSet_none _ _ _ hg],rfl,?_⟩
         rw [hi0];unfold letF;rw [g1,hg,if_neg (by simp),g2,if_neg h32];exact hset _
      ·rw [if_neg h13] at hU2 ⊢
       by_cases h11:(p.at_ i).kind=11
       ·rw [if_pos h11] at hU2
        obtain ⟨e1,e2⟩:=gd hU2;refine ⟨e1,fun _=>?_⟩
        unfold errW at e2;split at e2
        ·cases e2
        ·rename_i k hk'
         split at e2
         ·cases e2
         ·rename_i h7
          rw [hk'];congr 1
          omega
       ·rw [if_neg h11] at hU2
        split at hU2
        ·obtain ⟨e1,_⟩:=gd hU2
         exact ⟨e1,fun h=>absurd h h11⟩
        ·cases hU2
         exact ⟨rfl,fun h=>absurd h h11⟩
structure FunW (p:ProgD) (SL LO:List Int) (m:Nat):Prop where
 ok:∃ b T s,FuncOk p.nodes (p.funcs.getD m noFunc) s b∧okW p SL 600 b ⟨(startS p (p.funcs.getD m noFunc) [] []).vis,(p.funcs.getD m noFunc).params.length⟩ T∧LO[m]? = some T.next
theorem SynOk.later {p:ProgD} (h:SynOk p) (k:Nat):∀ d,k+d≤p.funcs.length→startF p.funcs k≤startF p.funcs (k+d)∧∀ j,j<startF p.funcs k→zAt (stepK p (k+d)).1 j=zAt (stepK p k).1 j:=by
 intro d;induction d with
 | zero=>intro _;exact ⟨Nat.le_refl _,fun j _=>rfl⟩
 | succ d ih =>
  intro hd;obtain ⟨h1,h2⟩:=ih (by omega);obtain ⟨b,hb,hs1,hs2⟩:=h.func (k:=k+d) (by omega);have hfl:=zahY hb.first
  refine ⟨by rw [show k+(d+1)=k+d+1 by omega];omega,fun j hj=>?_⟩
  rw [← h2 j hj]
  have:=walk_sout p _ _ _ (startS p (p.funcs.getD (k+d) noFunc) (stepK p (k+d)).1 (stepK p (k+d)).2.1) hb.first
  have:=this j (by omega)
  show zAt (walkK p (k+d) (stepK p (k+d)).1 (stepK p (k+d)).2.1).slots j=_;unfold walkK;rw [hs2];exact this
theorem SynOk.locs {p:ProgD} (h:SynOk p) (m:Nat):∀ d,m+1+d≤p.funcs.length→(stepK p (m+1+d)).2.2[m]? = some (walkK p m (stepK p m).1 (stepK p m).2.1).next:=by
 intro d;induction d with
 | zero =>
  intro hd
  have:=(h.step m (by omega)).2.2.1
  simp only [stepK,Nat.add_zero];rw [List.getElem?_append_right (by omega),this];simp
 | succ d ih =>
  intro hd
  have:=(h.step (m+1+d) (by omega)).2.2.1
  rw [show m+1+(d+1)=(m+1+d)+1 by omega];simp only [stepK];rw [List.getElem?_append_left (by omega)];exact ih (by omega)
theorem study_funW {p:ProgD} (h:(studyF p).err=0):SynOk p∧(funsF p).2=0∧∀ m,m<p.funcs.length→FunW p (studyF p).slots (studyF p).locals m:=by
 obtain ⟨hs,e1,e2,h4,h5,h6⟩:=zcwY h
 have herr:errK p p.funcs.length=0:=by
  have:=study_err p
  rw [h] at this;unfold errP at this;rw [if_neg (by omega),if_neg (by omega)] at this;exact this.symm
 refine ⟨hs,h5,fun m hm=>?_⟩
 obtain ⟨hz0,_,_⟩:=hs.errs m (by omega);obtain ⟨_,h2,_⟩:=hs.errs p.funcs.length (Nat.le_refl _);obtain ⟨T,hT⟩:=(h2 herr).2 m hm;obtain ⟨b,hb,hs1,hs2⟩:=hs.func hm;obtain ⟨q1,q2,q3,_⟩:=hs.step m (by omega);have hfl:=zahY hb.first
 have hd:p.funcs.length=m+1+(p.funcs.length - (m+1)):=by omega
 have hlate:=hs.later (m+1) (p.funcs.length - (m+1)) (by omega);have hloc:=hs.locs m (p.funcs.length - (m+1)) (by omega);rw [← hd] at hlate hloc;have hT2:=hT;unfold walkKE at hT2;rw [hs2] at hT2;have hres:=walk_res p _ _ _ (startS p (p.funcs.getD m noFunc) (stepK p m).1 (stepK p m).2.1) hb.first (by show b<(stepK p m).2.1.length;rw [q2];exact hb.lt) (fun j hj1 _=>hz0 j hj1)
 obtain ⟨_,r2,_⟩:=hres.ok T hT2;refine ⟨b,T,_,by rw [zacY hm];exact hb,?_,?_⟩
 ·rw [e1]
  refine walk_okW p _ _ b _ (startS p (p.funcs.getD m noFunc) (stepK p m).1 (stepK p m).2.1) T hb.first hT2 (by show b<(stepK p m).2.1.length;rw [q2];exact hb.lt) (by show b<(stepK p m).1.length;rw [q1];exact hb.lt) hb.lt (fun j hj1 _=>hz0 j hj1) (fun j h1 h2=>?_)
  rw [hlate.2 j (by omega)];show zAt (walkK p m (stepK p m).1 (stepK p m).2.1).slots j=_;unfold walkK;rw [hs2]
 ·rw [e2,hloc,← r2]
  unfold walkK;rw [hs2]
end Go.Proofs.YtekdhlfapejijaaGreatDoor
