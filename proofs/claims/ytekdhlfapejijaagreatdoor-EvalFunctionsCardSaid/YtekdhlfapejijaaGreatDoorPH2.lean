/- Y0, Y1, H0, H6, H7, H3, H8, H9, H10, E44, H2 -/
import Derived.Test.YtekdhlfapejijaaGreatDoorPE43
set_option linter.unusedVariables false
set_option linter.unusedSimpArgs false
namespace Go.Proofs.YtekdhlfapejijaaGreatDoor
open Go.RowKit
set_option maxRecDepth 100000
set_option maxHeartbeats 8000000
open Go.Proofs.Tryz
def CellsOk (v:ValD) (i j:Nat):Prop:=∀ k,i≤k→k<j→∃ c,v[k]? = some c∧plainB c=true∧c.n≤(v.length:Nat)
theorem CellsOk.join {v:ValD} {i j k:Nat} (h:CellsOk v i j) (g:CellsOk v j k):CellsOk v i k:=fun m h1 h2=>by
 by_cases hm:m<j
 ·exact h m h1 hm
 ·exact g m (by omega) h2
theorem elems_ok {v:ValD} {g:Nat→Option Sh} (hg:∀ j s,g j=some s→j<s.j∧s.j≤v.length) (hc:∀ j s,g j=some s→CellsOk v j s.j):∀ k (s t:Sh),s.j≤v.length→elems g 0 k s=some t→CellsOk v s.j t.j
 | 0,s,t,_,h=>by
  simp [elems] at h
  subst h;exact fun k h1 h2=>by omega
 | k+1,s,t,hs,h=>by
  obtain ⟨r,hr,h2⟩:=zamY h;exact (hc _ _ hr).join (elems_ok hg hc k ⟨r.j,max s.d (0+r.d),s.b+r.b⟩ t (hg _ _ hr).2 h2)
theorem pairs_ok {v:ValD} {g:Nat→Option Sh} (hg:∀ j s,g j=some s→j<s.j∧s.j≤v.length) (hc:∀ j s,g j=some s→CellsOk v j s.j):∀ k last (s t:Sh),s.j≤v.length→pairs v g 0 k last s=some t→CellsOk v s.j t.j
 | 0,last,s,t,_,h=>by
  simp [pairs] at h
  subst h;exact fun k h1 h2=>by omega
 | k+1,last,s,t,hs,h=>by
  obtain ⟨c,r,hcc,hk,hr,h2⟩:=zajY h;have h3:=pairs_ok hg hc k (some c.str) ⟨r.j,max s.d (0+r.d),s.b+(quotedN c.str+1)+r.b⟩ t (hg _ _ hr).2 h2
  have h0:CellsOk v s.j (s.j+1):=fun m h1 h4=>by
   have e:m=s.j:=by omega
   subst e;unfold keyOk at hk;rw [Bool.and_eq_true,Bool.and_eq_true] at hk;have hp:=hk.1;have h4:c.kind=4:=of_decide_eq_true hk.2.1;refine ⟨c,hcc,hp,?_⟩
   unfold plainB at hp;rw [if_neg (by omega),if_neg (by omega),if_neg (by omega),if_pos h4] at hp;simp at hp
   omega
  exact (h0.join (hc _ _ hr)).join h3
theorem parse_ok (v:ValD):∀ f i s,parse v f i=some s→CellsOk v i s.j
 | 0,i,s,h=>by cases h
 | f+1,i,s,h=>by
  have hadv:=zaeY v (f+1) i s h;simp only [parse,pstep] at h;cases hc:v[i]? with
  | none=>rw [hc] at h;cases h
  | some c =>
   have hi:i<v.length:=(List.getElem?_eq_some_iff.1 hc).1;rw [hc] at h;simp only at h;split at h
   ·cases h
   rename_i hp;have hp':plainB c=true:=by simpa using hp
   have one:c.n≤(v.length:Nat)→CellsOk v i (i+1):=fun hn m h1 h2=>by
    have e:m=i:=by omega
    subst e;exact ⟨c,hc,hp',hn⟩
   split at h
   ·cases ht:elems (parse v f) 0 c.n.toNat ⟨i+1,0,0⟩ with
    | none=>rw [ht] at h;cases h
    | some t =>
     rw [ht] at h;simp at h
     have ha:=zctY (zaeY v f) 0 _ _ _ (show (⟨i+1,0,0⟩:Sh).j≤v.length from hi) ht;have hb:=elems_ok (zaeY v f) (fun j s hs=>parse_ok v f j s hs) _ ⟨i+1,0,0⟩ t hi ht;subst h;exact (one (by have:=ha.1;have:=ha.2;simp at *;omega)).join hb
   split at h
   ·cases ht:pairs v (parse v f) 0 c.n.toNat none ⟨i+1,0,0⟩ with
    | none=>rw [ht] at h;cases h
    | some t =>
     rw [ht] at h;simp at h
     have ha:=zcqY (zaeY v f) 0 _ _ _ _ (show (⟨i+1,0,0⟩:Sh).j≤v.length from hi) ht;have hb:=pairs_ok (zaeY v f) (fun j s hs=>parse_ok v f j s hs) _ none ⟨i+1,0,0⟩ t hi ht;subst h;exact (one (by have:=ha.1;have:=ha.2;simp at *;omega)).join hb
   ·rename_i h5 h6
    simp at h
    subst h;refine one ?_
    unfold plainB at hp';split at hp'
    ·simp at hp';omega
    split at hp'
    ·simp at hp';omega
    split at hp'
    ·simp at hp';omega
    split at hp'
    ·simp at hp';omega
    rw [if_neg (by omega)] at hp';cases hp'
theorem zahZ {v:ValD} (h:checkF v=0):OkV v:=by
 obtain ⟨r,h0,h1,h2,h3,h4,h5,h6⟩:=checkF_zero.1 h;refine ⟨by omega,fun c hc=>?_⟩
 obtain ⟨k,hk,rfl⟩:=List.getElem_of_mem hc;obtain ⟨c,hcc,hp,hn⟩:=parse_ok v _ 0 r h0 k (Nat.zero_le _) (by omega);rw [List.getElem?_eq_getElem hk] at hcc;injection hcc with hcc
 rw [hcc] at hc ⊢;have ho:outB c=false:=by simpa using List.any_eq_false.1 h2 c hc
 have hl:longB c=false:=by simpa using List.any_eq_false.1 h3 c hc
 have hs:c.str.size≤200:=by unfold longB at hl;simpa using hl
 refine ⟨by omega,?_,by omega⟩
 unfold plainB at hp;split at hp
 ·simp at hp;omega
 split at hp
 ·simp at hp;omega
 split at hp
 ·rename_i h3
  unfold outB at ho;simp [h3] at ho
  omega
 split at hp
 ·simp at hp;omega
 split at hp
 ·simp at hp;omega
 ·cases hp
def ResOk (r:ResD):Prop:=r.2=0→checkF r.1=0
theorem okR_ok (v:ValD):ResOk (okR v):=by
 unfold okR;split
 ·rename_i h;exact fun _=>h
 ·rename_i h;exact fun e=>absurd e h
theorem limR_ok (v:ValD):ResOk (limR v):=by
 unfold limR;split
 ·rename_i h;exact fun _=>h
 ·exact fun e=>by cases e
theorem err_ok (v:ValD) {n:Int} (h:n≠0):ResOk (v,n):=fun e=>absurd e h
theorem check_b (b:Bool):checkF [bCel b]=0:=by cases b <;> decide +kernel
theorem check_nul:checkF [nulC]=0:=by decide +kernel
theorem check_i {n:Int} (h:inRange n=true):checkF [iCel n]=0:=by
 have:=okR_int h
 unfold okR at this;split at this
 ·assumption
 ·simp at this
theorem in_of_check {c:CellD} {r:ValD} (h:checkF (c :: r)=0) (h3:c.kind=3):inRange c.int=true:=by
 obtain ⟨_,_,_,h2,_⟩:=checkF_zero.1 h
 have:outB c=false:=by simpa using List.any_eq_false.1 h2 c (by simp)
 unfold outB at this;simp [h3] at this
 unfold inRange;simp
 omega
theorem arithR_ok (op:List UInt8) {a b:Int} (ha:inRange a=true) (hb:inRange b=true):ResOk (arithR op a b):=by
 rw [arithR_eq];split
 ·rename_i h
  exact fun _=>check_i (arithN_ok ha hb h)
 ·rename_i h
  exact err_ok _ h
theorem binaryR_ok (op:ByteArray) (a b:ValD):ResOk (binaryR op a b):=by
 unfold binaryR;split
 ·exact err_ok _ (by decide)
 split
 ·rename_i h;exact err_ok _ h
 split
 ·rename_i h;exact err_ok _ h
 split
 ·exact fun _=>check_b _
 split
 ·exact fun _=>check_b _
 rename_i ha hb _ _;have ha':checkF a=0:=by simpa using ha
 have hb':checkF b=0:=by simpa using hb
 cases a with
 | nil=>exact err_ok _ (by decide)
 | cons x a =>
  cases b with
  | nil=>exact err_ok _ (by decide)
  | cons y b =>
   simp only
   split
   ·exact err_ok _ (by decide)
   rename_i hk;have hk':x.kind=y.kind:=by simpa using hk
   split
   ·split
    ·exact fun _=>check_b _
    split
    ·exact fun _=>check_b _
    ·exact err_ok _ (by decide)
   split
   ·rename_i h3
    exact arithR_ok _ (in_of_check ha' h3) (in_of_check hb' (by omega))
   split
   ·exact limR_ok _
   split
   ·exact limR_ok _
   ·exact err_ok _ (by decide)
def textR (v:ValD):ResD:=match v with
 | []=>([],7)
 | c :: r=>if c.kind=4 then (c :: r,0) else okR [sCel ⟨(textF (c :: r).length (c :: r)).toArray⟩]
def builtR (name:List UInt8) (args:List ValD):ResD :=
 match args with
 | []=>([],7)
 | [a]=>if name=[108,101,110] then sizeR a else if name=[115,116,114] then textR a else if name=[105,110,116] then integerR a else if name=[107,101,121,115] then keysR a else ([],20)
 | a :: b :: rest =>
  if name=[112,117,115,104] then pushR a b
  else match a,b with
   | x :: _,y :: _ =>
    if x.kind≠6∨y.kind≠4 then ([],7)
    else if name=[112,117,116] then putR a y.str (rest.headD [])
    else ([bCel (decide ((getR a y.str).2=0))],0)
   | _,_=>([],7)
def builtinR (name:ByteArray) (args:List ValD):ResD :=
 match lookL builtL name with
 | none=>([],4)
 | some n=>if (args.length:Int)≠n then ([],7) else if firstBad args≠0 then ([],firstBad args) else builtR name.toList args
theorem zalY {l:List ValD} (h:firstBad l=0):∀ x∈l,checkF x=0:=by
 induction l with
 | nil=>simp
 | cons a r ih =>
  unfold firstBad at h;split at h
  ·rename_i h1;exact absurd h h1
  ·rename_i h1
   intro x hx;rcases List.mem_cons.1 hx with rfl | hx
   ·simpa using h1
   ·exact ih h x hx
inductive SigD where
 | fail (e:Int)
 | wait
 | ret (v:ValD)
structure AnsD where
 err:Int
 value:ValD
structure EvC where
 p:ProgD
 slots:List Int
 locals:List Int
 answers:List AnsD
structure EvS where
 fuel:Nat
 reqs:List ReqD
 vars:List ValD
abbrev EvR (α:Type):=Option ((α × Option SigD) × EvS)
abbrev EvN:=Nat→EvS→EvR ValD
def kidN (n:NodeD) (j:Nat):Nat:=(n.kids.getD j 0).toNat
def outF (r:ResD):ValD × Option SigD:=if r.2≠0 then ([],some (.fail r.2)) else (r.1,none)
def allF (N:EvN):List Int→List ValD→EvS→EvR (List ValD)
 | [],out,s=>some ((out,none),s)
 | k :: r,out,s=>match N k.toNat s with
  | none=>none
  | some ((v,none),t)=>allF N r (out ++ [v]) t
  | some ((_,some g),t)=>some (([],some g),t)
def condF (N:EvN) (k:Nat) (s:EvS):EvR Bool:=match N k s with
 | none=>none
 | some ((_,some g),t)=>some ((false,some g),t)
 | some (([],none),t)=>none
 | some ((c :: _,none),t)=>if c.kind=2 then some ((decide (c.int≠0),none),t) else some ((false,some (.fail 7)),t)
def andS:List UInt8:=[97,110,100]
def orS:List UInt8:=[111,114]
def boolF:EvR Bool→EvR ValD
 | none=>none
 | some ((_,some g),t)=>some (([],some g),t)
 | some ((b,none),t)=>some (([bCel b],none),t)
def bothF (N:EvN) (n:NodeD) (s:EvS):EvR ValD:=match condF N (kidN n 0) s with
 | none=>none
 | some ((_,some g),t)=>some (([],some g),t)
 | some ((b,none),t)=>if b=decide (n.text.toList=andS) then boolF (condF N (kidN n 1) t) else some (([bCel b],none),t)
def dropF:EvR ValD→EvR ValD
 | none=>none
 | some ((_,g),t)=>some (([],g),t)
def chooseF (N:EvN) (n:NodeD) (s:EvS):EvR ValD:=match condF N (kidN n 0) s with
 | none=>none
 | some ((_,some g),t)=>some (([],some g),t)
 | some ((true,none),t)=>dropF (N (kidN n 1) t)
 | some ((false,none),t)=>if 2<n.kids.length then dropF (N (kidN n 2) t) else some (([],none),t)
def loopF (N:EvN) (n:NodeD):Nat→EvS→EvR ValD
 | 0,s=>some (([],some (.fail 15)),s)
 | j+1,s=>match condF N (kidN n 0) s with
  | none=>none
  | some ((_,some g),t)=>some (([],some g),t)
  | some ((false,none),t)=>some (([],none),t)
  | some ((true,none),t)=>match N (kidN n 1) t with
   | none=>none
   | some ((_,some g),u)=>some (([],some g),u)
   | some ((_,none),u)=>loopF N n j u
def askF (C:EvC) (op:ByteArray) (args:List ValD) (s:EvS):(ValD × Option SigD) × EvS :=
 if s.reqs.length=32 then (([],some (.fail 3)),s)
 else ((match C.answers[s.reqs.length]? with
  | none=>([],some .wait)
  | some a=>if a.err≠0 then ([],some (.fail a.err)) else if checkF a.value≠0 then ([],some (.fail 13)) else (a.value,none)),{ s with reqs:=s.reqs ++ [⟨op,args⟩] })
def varsF (L:Nat) (args:List ValD):List ValD:=args.take L ++ List.replicate (L - args.length) []
def backF (vars:List ValD):EvR ValD→EvR ValD
 | none=>none
 | some ((_,none),t)=>some (([nulC],none),{ t with vars:=vars })
 | some ((_,some (.ret v)),t)=>some ((v,none),{ t with vars:=vars })
 | some ((_,some g),t)=>some (([],some g),{ t with vars:=vars })
def callF (C:EvC) (N:Nat→EvN) (c f:Nat) (args:List ValD) (s:EvS):EvR ValD :=
 if c=16 then some (([],some (.fail 21)),s)
 else match C.p.funcs[f]?,C.locals[f]? with
  | some fn,some L=>backF s.vars (N (c+1) fn.body.toNat { s with vars:=varsF L.toNat args })
  | _,_=>none
def setF (C:EvC) (k:Nat) (v:ValD) (s:EvS):EvR ValD:=match C.slots[k]? with
 | none=>none
 | some sl=>if 0≤sl∧sl<s.vars.length then some (([],none),{ s with vars:=s.vars.set sl.toNat v }) else none
def varF (C:EvC) (k:Nat) (s:EvS):EvR ValD:=match C.slots[k]? with
 | none=>none
 | some sl=>if 0≤sl∧sl<s.vars.length then some ((s.vars.getD sl.toNat [],none),s) else none
def applyF (C:EvC) (N:Nat→EvN) (c k:Nat) (n:NodeD) (l:List ValD) (s:EvS):EvR ValD :=
 if n.kind=6 then some (outF (listR l),s)
 else if n.kind=7 then some (outF (mapR n.keys l),s)
 else if n.kind=8 then some (outF (unaryR n.text (l.getD 0 [])),s)
 else if n.kind=9 then some (outF (binaryR n.text (l.getD 0 []) (l.getD 1 [])),s)
 else if n.kind=10 then some (outF (indexR (l.getD 0 []) (l.getD 1 [])),s)
 else if n.kind=12 then some (askF C n.text l s)
 else if n.kind=13∨n.kind=14 then setF C k (l.getD 0 []) s
 else if n.kind=17 then some (([],some (.ret (l.getD 0 []))),s)
 else if n.kind=11 then (if 0≤findF C.p n.text then callF C N c (findF C.p n.text).toNat l s else some (outF (builtinR n.text l),s))
 else some (([],none),s)
def isBothB (n:NodeD):Bool:=decide (n.kind=9) && (decide (n.text.toList=andS) || decide (n.text.toList=orS))
def thenF (C:EvC) (N:Nat→EvN) (c k:Nat) (n:NodeD):EvR (List ValD)→EvR ValD
 | none=>none
 | some ((_,some g),t)=>some (([],some g),t)
 | some ((l,none),t)=>applyF C N c k n l t
def stepN (C:EvC) (N:Nat→EvN) (g c k:Nat) (n:NodeD) (s:EvS):EvR ValD :=
 if n.kind=1 then some (([nulC],none),s)
 else if n.kind=2 then some (([bCel (decide (n.int=1))],none),s)
 else if n.kind=3 then some (outF (okR [iCel n.int]),s)
 else if n.kind=4 then some (outF (okR [sCel n.text]),s)
 else if n.kind=5 then varF C k s
 else if n.kind=15 then chooseF (N c) n s
 else if n.kind=16 then loopF (N c) n (g+1) s
 else if isBothB n=true then bothF (N c) n s
 else thenF C N c k n (allF (N c) n.kids [] s)
def finF:EvR ValD→Option OutD
 | none=>none
 | some ((v,none),t)=>some ⟨true,0,v,t.reqs⟩
 | some ((_,some (.fail e)),t)=>some ⟨true,e,[],t.reqs⟩
 | some ((_,some .wait),t)=>some ⟨false,0,[],t.reqs⟩
 | some ((_,some (.ret v)),t)=>some ⟨true,0,[],t.reqs⟩
def ctxF (p:ProgD) (answers:List AnsD):EvC:=⟨p,(studyF p).slots,(studyF p).locals,answers⟩
section
def ValE (w0 w:World) (v:Value) (l:ValD):Prop:=ValV w0 v l∨ValT w v l
theorem ValE.keep {w0 w w':World} {v:Value} {l:ValD} (h:ValE w0 w v l) (hk:CK w w'):ValE w0 w' v l:=h.imp id (fun h=>h.keep hk)
theorem ValE.val {w0 w:World} {v:Value} {l:ValD} (h:ValE w0 w v l) (hb:Below w0.heap.size w0 w):ValV w v l:=by
 rcases h with h | h
 ·exact h.below hb
 ·exact h.1
def VOk (v:ValD):Prop:=v=[]∨checkF v=0
theorem VOk.ok {v:ValD} (h:VOk v):OkV v:=by
 rcases h with rfl | h
 ·exact ⟨by simp,fun c hc=>by cases hc⟩
 ·exact zahZ h
theorem VOk.nil:VOk []:=.inl rfl
structure ValG (w0 w:World) (v:Value) (l:ValD):Prop where
 e:ValE w0 w v l
 k:VOk l
theorem ValG.keep {w0 w w':World} {v:Value} {l:ValD} (h:ValG w0 w v l) (hk:CK w w'):ValG w0 w' v l:=⟨h.e.keep hk,h.k⟩
theorem ValG.below {w0 w w':World} {v:Value} {l:ValD} (h:ValG w0 w v l) (hb:Below w.heap.size w w'):ValG w0 w' v l:=h.keep (CK.of_below hb)
theorem ValG.val {w0 w:World} {v:Value} {l:ValD} (h:ValG w0 w v l) (hb:Below w0.heap.size w0 w):ValV w v l:=h.e.val hb
theorem ValG.nil (w0 w:World):ValG w0 w (.slice none 0 0) []:=⟨.inr (ValT.none w),.nil⟩
theorem ValG.shape {w0 w:World} {v:Value} {l:ValD} (h:ValG w0 w v l):∃ A n cap,v=.slice A n cap:=by
 rcases h.e with h | h
 ·exact h.shape
 ·exact h.shape
def SigV (w0 w:World) (v:Value):Option SigD→Prop
 | none=>v=.nilIface
 | some (.fail e)=>v=.iface 104 (.agg #[.int .i64 e])
 | some .wait=>v=.iface 106 (.agg #[])
 | some (.ret l)=>∃ u,v=.iface 149 (.agg #[u])∧ValG w0 w u l
def ansR (w:World) (row:List Value) (a:AnsD):Prop:=∃ v,row=[.int .i64 a.err,v]∧ValV w v a.value
theorem stays_ans:Stays2 ansR:=fun _ _ _ _ ⟨v,h1,h2⟩ hb=>⟨v,h1,h2.below hb⟩
def AnsV:=RowsV 4398046510976 2 ansR
theorem AnsV.below {w w':World} {v:Value} {l:List AnsD} (h:AnsV w v l) (hb:Below w.heap.size w w'):AnsV w' v l:=za0Y stays_ans _ _ _ _ h hb
theorem ans_cells {w:World} {A:Option Addr} {n cap:Nat} {l:List AnsD} (h:AnsV w (.slice A n cap) l) {i:Nat} (hi:i<l.length):n=l.length∧n≤cap∧∃ b off v,A=some ⟨b,off,none⟩∧b<w.heap.size ∧
  w.cell? ⟨b,off+i * 2,none⟩=some (.int .i64 (l[i]).err)∧w.cell? ⟨b,off+i * 2+1,none⟩=some v∧ValV w v (l[i]).value:=by
 obtain ⟨A',cap',rows,h1,h2,h3,h4,h5,h6⟩:=h;injection h1 with e1 e2 e3
 subst e1 e2 e3;have hi':i<rows.length:=by omega
 obtain ⟨b,off,hA,hlt⟩:=h4.ptr hi';subst hA;obtain ⟨v,hr,hv⟩:=h6 i hi' hi;refine ⟨rfl,h2,b,off,v,rfl,hlt,?_,?_,hv⟩
 ·exact h4.cell0 hi' (by rw [hr];rfl)
 ·exact h4.cell hi' (j:=1) (by rw [hr];rfl)
structure EvK where
 gx:Nat
 S:ProgS
 sA:Option Addr
 sc:Nat
 lA:Option Addr
 lc:Nat
 aA:Option Addr
 ac:Nat
structure EvH (w0:World) (K:EvK) (C:EvC):Prop where
 p:K.S.p=C.p
 prog:ProgV w0 K.S
 sl:SlAt w0 K.sA 1 intS C.slots
 an:AnsV w0 (.slice K.aA C.answers.length K.ac) C.answers
 pow:Pow w0
 maxl:MaxL w0
 sent:Sent w0
 nodes:C.p.nodes.length≤600
 funcs:C.p.funcs.length≤16
 slen:C.slots.length=C.p.nodes.length
 llen:C.locals.length=C.p.funcs.length
 lbd:∀ x∈C.locals,0≤x∧x≤608
 aok:∀ a∈C.answers,OkV a.value
 alen:C.answers.length≤40
 kids:∀ n∈C.p.nodes,n.kids.length≤600∧n.keys.length≤600∧(∀ k∈n.kids,0≤k∧k<C.p.nodes.length)∧n.text.size≤1000∧∀ k∈n.keys,k.size≤1000
 count:∀ n∈C.p.nodes,countB n=true
 fields:∀ n∈C.p.nodes,fieldsB n=true
 bodies:∀ f∈C.p.funcs,0≤f.body∧f.body<C.p.nodes.length
structure EvM (w0:World) (K:EvK) (C:EvC) (gv:Nat) (F:List Nat) (c:Nat) (w:World) (s:EvS) (qv:Value) (avs vs:List Value):Prop where
 bel:Below w0.heap.size w0 w
 hx:w0.heap.size≤K.gx
 hv:w0.heap.size≤gv
 ex:Blk w K.gx 95 #[.slice K.S.A K.S.p.nodes.length K.S.ncap,.slice K.S.B K.S.p.funcs.length K.S.fcap,.slice K.sA C.slots.length K.sc,.slice K.lA C.locals.length K.lc,.slice K.aA C.answers.length K.ac,qv,.int .i64 s.fuel,.int .i64 c]
 lo:w.ownsRow w0.heap.size 3 1 (.slice K.lA C.locals.length K.lc) C.locals.length (C.locals.map intC)
 rq:ReqsO w w0.heap.size avs s.reqs
 qrow:w.ownsRow w0.heap.size 60 2 qv s.reqs.length (rowsQ avs s.reqs)
 vb:Blk w gv 22 vs.toArray
 vl:vs.length=s.vars.length
 vv:∀ i (h:i<vs.length) (h':i<s.vars.length),ValG w0 w vs[i] s.vars[i]
 qd:∀ g∈gv :: F,g ∉ blocksQ avs
 fb:∀ g∈F,g<w.heap.size
 rl:s.reqs.length≤32∧∀ r∈s.reqs,r.args.length≤1000
structure KX (gx gv:Nat) (w w':World):Prop where
 os:w'.os=w.os
 tape:w'.tape=w.tape
 output:w'.output=w.output
 size:w.heap.size≤w'.heap.size
 block:∀ j o,w.heap[j]? = some o→j≠gx→j≠gv→(∀ cs fz,o≠.cells cs 60 fz)→w'.heap[j]? = some o
 ck:CK w w'
section
variable {gx gv:Nat} {w w1 w':World}
theorem KX.refl (gx gv:Nat) (w:World):KX gx gv w w:=⟨rfl,rfl,rfl,Nat.le_refl _,fun _ _ h _ _ _=>h,CK.refl w⟩
theorem KX.trans (h:KX gx gv w w1) (g:KX gx gv w1 w'):KX gx gv w w' :=
 ⟨g.os.trans h.os,g.tape.trans h.tape,g.output.trans h.output,Nat.le_trans h.size g.size,fun j o hj h1 h2 h3=>g.block j o (h.block j o hj h1 h2 h3) h1 h2 h3,h.ck.trans g.ck⟩
theorem KX.of_below (h:Below w.heap.size w w'):KX gx gv w w':=⟨h.os,h.tape,h.output,h.size,fun j o hj _ _ _=>(h.block j (lt_of_block hj)).trans hj,CK.of_below h⟩
theorem KX.blk {g:Nat} {t:TypeId} {cs:Array Value} (h:KX gx gv w w') (hB:Blk w g t cs) (h1:g≠gx) (h2:g≠gv) (h3:t≠60):Blk w' g t cs :=
 h.block g _ hB h1 h2 (fun cs' fz e=>by injection e with _ e;exact h3 e)
theorem KX.own {base n size:Nat} {e:TypeId} {v:Value} {xs:List Value} (h:KX gx gv w w') (ho:w.ownsRow base e size v n xs) (h1:∀ g,v.ownBlock=some g→g≠gx∧g≠gv) (h3:e≠60):w'.ownsRow base e size v n xs:=by
 refine zchY ho (fun g hg=>?_)
 obtain ⟨_,cs,hb⟩:=zakY ho hg
 have:=h.blk hb (h1 g hg).1 (h1 g hg).2 h3
 unfold Blk at hb this;rw [hb,this]
theorem KX.set {g:Nat} {t:TypeId} {cs:Array Value} (hB:Blk w g t cs) (ht:t≠53) (hg:g=gx∨g=gv) (j:Nat) (u:Value):KX gx gv w (w.setCell ⟨g,j,none⟩ u) :=
 ⟨rfl,rfl,rfl,by simp,fun k o hk h1 h2 _=>(Below.heap_setCell w ⟨g,j,none⟩ u k (fun e=>by have:k=g:=e;rcases hg with h | h <;> omega)).trans hk,CK.blk hB ht (zamZ w g j u)⟩
theorem KX.call {gv':Nat} (h:KX gx gv' w1 w') (hb:Below w.heap.size w w1) (hn:w.heap.size≤gv'):KX gx gv w w' :=
 ⟨h.os.trans hb.os,h.tape.trans hb.tape,h.output.trans hb.output,Nat.le_trans hb.size h.size,fun j o hj h1 h2 h3=>h.block j o ((hb.block j (lt_of_block hj)).trans hj) h1 (fun e=>by have:=lt_of_block hj;omega) h3,(CK.of_below hb).trans h.ck⟩
end
section
variable {w0 w w':World} {K:EvK} {C:EvC} {gv:Nat} {F:List Nat} {c:Nat} {s:EvS} {qv:Value} {avs vs:List Value}
theorem EvM.ne_vx (h:EvM w0 K C gv F c w s qv avs vs):gv≠K.gx:=za7Y h.vb h.ex (by decide)
theorem EvM.below (h:EvM w0 K C gv F c w s qv avs vs) (hb:Below w.heap.size w w'):EvM w0 K C gv F c w' s qv avs vs :=
 ⟨zaaZ hb h.bel h.bel.size,h.hx,h.hv,h.ex.below hb,zajZ h.lo hb,h.rq.keep (CK.of_below hb) (fun g hg=>hb.block g (h.rq.mem g hg).2.1),zajZ h.qrow hb,h.vb.below hb,h.vl,fun i a b=>(h.vv i a b).below hb,h.qd,fun g hg=>Nat.lt_of_lt_of_le (h.fb g hg) hb.size,h.rl⟩
theorem EvM.lo_ne (h:EvM w0 K C gv F c w s qv avs vs) {g:Nat} {t:TypeId} {cs:Array Value} (hB:Blk w g t cs) (ht:t≠3):some g≠(Value.slice K.lA C.locals.length K.lc).ownBlock:=zagZ h.lo hB (fun e=>ht e.symm)
theorem EvM.setX (h:EvM w0 K C gv F c w s qv avs vs) (j:Nat) (u:Value) {s':EvS} {c':Nat} (hs:s'.reqs=s.reqs) (hv:s'.vars=s.vars)
  (hc:(#[.slice K.S.A K.S.p.nodes.length K.S.ncap,.slice K.S.B K.S.p.funcs.length K.S.fcap,.slice K.sA C.slots.length K.sc,.slice K.lA C.locals.length K.lc,.slice K.aA C.answers.length K.ac,qv,.int .i64 s.fuel,.int .i64 c]:Array Value).setIfInBounds j u=#[.slice K.S.A K.S.p.nodes.length K.S.ncap,.slice K.S.B K.S.p.funcs.length K.S.fcap,.slice K.sA C.slots.length K.sc,.slice K.lA C.locals.length K.lc,.slice K.aA C.answers.length K.ac,qv,.int .i64 s'.fuel,.int .i64 c']) :
  EvM w0 K C gv F c' (w.setCell ⟨K.gx,j,none⟩ u) s' qv avs vs:=by
 have hg:=zamZ w K.gx j u;have hck:CK w (w.setCell ⟨K.gx,j,none⟩ u):=CK.blk h.ex (by decide) hg;refine ⟨h.bel.grown hg h.bel.size (fun k hk=>by injection hk with hk;have:=h.hx;omega),h.hx,h.hv,by rw [← hc];exact h.ex.set_ j u,zaaY h.lo hg (fun k hk=>by injection hk with hk;subst hk;exact h.lo_ne h.ex (by decide)),?_,?_,h.vb.far h.ne_vx u,by rw [hv];exact h.vl,?_,h.qd,fun g hg=>(by simpa using h.fb g hg),by rw [hs];exact h.rl⟩
 ·rw [hs]
  exact h.rq.keep hck (fun g hm=>by obtain ⟨_,h2,cs,h3⟩:=h.rq.mem g hm;exact hg.block g h2 (fun e=>za7Y h3 h.ex (by decide) (by simpa using e)))
 ·rw [hs]
  exact zaaY h.qrow hg (fun k hk=>by injection hk with hk;subst hk;exact zagZ h.qrow h.ex (by decide))
 ·rw [hv]
  exact fun i a b=>(h.vv i a b).keep hck
theorem EvM.setFuel (h:EvM w0 K C gv F c w s qv avs vs) (n:Nat):EvM w0 K C gv F c (w.setCell ⟨K.gx,6,none⟩ (.int .i64 n)) { s with fuel:=n } qv avs vs:=h.setX 6 _ rfl rfl rfl
theorem EvM.setCalls (h:EvM w0 K C gv F c w s qv avs vs) (n:Nat):EvM w0 K C gv F n (w.setCell ⟨K.gx,7,none⟩ (.int .i64 n)) s qv avs vs:=h.setX 7 _ rfl rfl rfl
theorem EvM.setVar (h:EvM w0 K C gv F c w s qv avs vs) (i:Nat) (u:Value) {v:ValD} (hu:ValG w0 w u v):EvM w0 K C gv F c (w.setCell ⟨gv,i,none⟩ u) { s with vars:=s.vars.set i v } qv avs (vs.set i u):=by
 have hg:=zamZ w gv i u;have hck:CK w (w.setCell ⟨gv,i,none⟩ u):=CK.blk h.vb (by decide) hg;refine ⟨h.bel.grown hg h.bel.size (fun k hk=>by injection hk with hk;have:=h.hv;omega),h.hx,h.hv,h.ex.far (p:=⟨gv,i,none⟩) (fun e=>h.ne_vx e.symm) u,zaaY h.lo hg (fun k hk=>by injection hk with hk;subst hk;exact h.lo_ne h.vb (by decide)),?_,?_,?_,by simp [h.vl],?_,h.qd,fun g hg=>(by simpa using h.fb g hg),h.rl⟩
 ·exact h.rq.keep hck (fun g hm=>hg.block g (h.rq.mem g hm).2.1 (fun e=>h.qd gv (by simp) (by have h9:g=gv:=(by simpa using e);rw [← h9];exact hm)))
 ·exact zaaY h.qrow hg (fun k hk=>by injection hk with hk;subst hk;exact zagZ h.qrow h.vb (by decide))
 ·have:=h.vb.set_ i u
  simpa using this
 ·intro j a b
  simp only [List.getElem_set];split
  ·exact hu.keep hck
  ·exact (h.vv j (by simpa using a) (by simpa using b)).keep hck
theorem EvM.enter (h:EvM w0 K C gv F c w s qv avs vs) {g:Nat} {us:List Value} {l:List ValD} (hb:Below w.heap.size w w') (hg:w.heap.size≤g) (hB:Blk w' g 22 us.toArray) (hl:us.length=l.length) (hv:∀ i (a:i<us.length) (b:i<l.length),ValG w0 w' us[i] l[i]) :
  EvM w0 K C g (gv :: F) c w' { s with vars:=l } qv avs us:=by
 have h':=h.below hb;refine ⟨h'.bel,h'.hx,Nat.le_trans h.bel.size hg,h'.ex,h'.lo,h'.rq,h'.qrow,hB,hl,hv,fun k hk=>?_,fun k hk=>?_,h.rl⟩
 rcases List.mem_cons.1 hk with rfl | hk
 ·intro hm
  have:=(h.rq.mem _ hm).2.1
  omega
 ·exact h.qd k hk
 ·rcases List.mem_cons.1 hk with rfl | hk
  ·exact h'.vb.lt
  ·exact h'.fb k hk
theorem EvM.leave {wc:World} {t:EvS} {qv':Value} {avs' vs':List Value} {g c':Nat} (h:EvM w0 K C gv F c w s qv avs vs) (hc:EvM w0 K C g (gv :: F) c' wc t qv' avs' vs') (hk:KX K.gx g w wc) (hg:w.heap.size≤g):EvM w0 K C gv F c' wc { t with vars:=s.vars } qv' avs' vs :=
 ⟨hc.bel,hc.hx,h.hv,hc.ex,hc.lo,hc.rq,hc.qrow,hk.blk h.vb h.ne_vx (fun e=>by have:=h.vb.lt;omega) (by decide),h.vl,fun i a b=>(h.vv i a b).keep hk.ck,fun k hk=>hc.qd k (by simp only [List.mem_cons] at hk ⊢;exact .inr hk),fun k hk=>hc.fb k (by simp [hk]),hc.rl⟩
end
def EvX (w0:World) (K:EvK) (C:EvC) (gv:Nat) (F:List Nat) (c:Nat) (w:World) (s:EvS):Prop:=∃ qv avs vs,EvM w0 K C gv F c w s qv avs vs
theorem EvX.below {w0 w w':World} {K:EvK} {C:EvC} {gv:Nat} {F:List Nat} {c:Nat} {s:EvS} (h:EvX w0 K C gv F c w s) (hb:Below w.heap.size w w'):EvX w0 K C gv F c w' s:=by
 obtain ⟨a,b,d,h⟩:=h;exact ⟨a,b,d,h.below hb⟩
theorem EvX.bel {w0 w:World} {K:EvK} {C:EvC} {gv:Nat} {F:List Nat} {c:Nat} {s:EvS} (h:EvX w0 K C gv F c w s):Below w0.heap.size w0 w:=by
 obtain ⟨a,b,d,h⟩:=h;exact h.bel
def NodeP (w0:World) (K:EvK) (C:EvC) (gv:Nat) (F:List Nat) (c:Nat) (w:World) (R:(ValD × Option SigD) × EvS) (e:Ending) (w':World):Prop :=
 ∃ u sv,e=.returned (.tuple #[u,sv])∧ValG w0 w' u R.1.1∧SigV w0 w' sv R.1.2∧EvX w0 K C gv F c w' R.2∧KX K.gx gv w w'
def NodeOk (w0:World) (K:EvK) (C:EvC) (N:EvN) (c fB:Nat):Prop:=∀ gv F k s w R,EvX w0 K C gv F c w s→k<C.p.nodes.length→s.fuel≤fB→s.vars.length≤1000→N k s=some R →
 Calls prog 116 #[.pointer (some ⟨K.gx,0,none⟩),.int .i64 k,.slice (some ⟨gv,0,none⟩) s.vars.length s.vars.length] w (NodeP w0 K C gv F c w R)
end
section
theorem ifc_ne (T:TypeId) (v:Value) (w:World):(Go.binOp .neq 100 (.iface T v) .nilIface).run prog w=.ok (.bool true) w:=by kernel_rfl
theorem ifn_ne (w:World):(Go.binOp .neq 100 .nilIface .nilIface).run prog w=.ok (.bool false) w:=by kernel_rfl
theorem ifc_eq (T:TypeId) (v:Value) (w:World):(Go.binOp .eql 100 (.iface T v) .nilIface).run prog w=.ok (.bool false) w:=by kernel_rfl
theorem ifn_eq (w:World):(Go.binOp .eql 100 .nilIface .nilIface).run prog w=.ok (.bool true) w:=by kernel_rfl
theorem as_ret (u:Value) (w:World):(Instr.typeAssert (.iface 149 (.agg #[u])) 100 149 true).run prog w=.ok (.tuple #[.agg #[u],.bool true]) w:=by kernel_rfl
theorem as_ret_fail (u:Value) (w:World):(Instr.typeAssert (.iface 104 u) 100 149 true).run prog w=.ok (.tuple #[.agg #[.slice none 0 0],.bool false]) w:=by kernel_rfl
theorem as_ret_wait (u:Value) (w:World):(Instr.typeAssert (.iface 106 u) 100 149 true).run prog w=.ok (.tuple #[.agg #[.slice none 0 0],.bool false]) w:=by kernel_rfl
theorem as_fail_wait (u:Value) (w:World):(Instr.typeAssert (.iface 106 u) 100 104 true).run prog w=.ok (.tuple #[.agg #[.int .i64 0],.bool false]) w:=by kernel_rfl
theorem as_fail_nil (w:World):(Instr.typeAssert .nilIface 100 104 true).run prog w=.ok (.tuple #[.agg #[.int .i64 0],.bool false]) w:=by kernel_rfl
theorem as_wait (u:Value) (w:World):(Instr.typeAssert (.iface 106 u) 100 106 true).run prog w=.ok (.tuple #[u,.bool true]) w:=by kernel_rfl
theorem as_wait_nil (w:World):(Instr.typeAssert .nilIface 100 106 true).run prog w=.ok (.tuple #[.agg #[],.bool false]) w:=by kernel_rfl
theorem sig_some {w0 w:World} {v:Value} {g:SigD} (h:SigV w0 w v (some g)):∃ T u,v=.iface T u:=by
 cases g with
 | fail e=>exact ⟨_,_,h⟩
 | wait=>exact ⟨_,_,h⟩
 | ret l=>obtain ⟨u,h,_⟩:=h;exact ⟨_,_,h⟩
def OutcP (w0 w:World) (r:ResD) (e:Ending) (w':World):Prop:=∃ A n cap sv,e=.returned (.tuple #[.slice A n cap,sv])∧ValG w0 w (.slice A n cap) (outF r).1∧SigV w0 w sv (outF r).2∧w=w'
theorem valG_t {w0 w:World} {v:Value} {l:ValD} (h:ValT w v l) (hk:VOk l):ValG w0 w v l:=⟨.inr h,hk⟩
attribute [local go_sem] zacZ
set_option maxHeartbeats 2000000 in
theorem outcome_h (w0:World) (r:ResD) (u:Value) (w:World) (hu:ValT w u r.1) (hr:ResOk r):Calls prog 164 #[u,.int .i64 r.2] w (OutcP w0 w r):=by
 obtain ⟨A,n,cap,rfl⟩:=hu.shape;obtain ⟨v,e⟩:=r;obtain ⟨P,hP⟩:∃ P:Ending→World→Prop,OutcP w0 w (v,e)=P:=⟨_,rfl⟩
 rw [hP];have HP:=hZz hP;by_cases he:e=0
 ·subst he
  have HV:Hid (ValG w0 w (.slice A n cap) (outF (v,0)).1):=hZz (valG_t hu (.inr (hr rfl)));clear hP hu hr;go_enter func164,ntmps164
  go_wp2_with (fail)
  rw [← HP.out];exact ⟨_,_,_,_,rfl,HV.out,rfl,rfl⟩
 ·have h1:(e != 0)=true:=by simpa using he
  have HE:Hid (outF (v,e)=([],some (.fail e))):=hZz (by unfold outF;rw [if_pos he]);clear hP hu hr he;go_enter func164,ntmps164
  go_wp2_with (fail)
  rw [← HP.out];exact ⟨none,0,0,_,rfl,by rw [HE.out];exact ValG.nil w0 w,by rw [HE.out];rfl,rfl⟩
end
section
structure DownR {α:Type} (s:EvS) (R:(α × Option SigD) × EvS):Prop where
 fuel:R.2.fuel≤s.fuel
 reqs:s.reqs <+: R.2.reqs
 len:R.2.vars.length=s.vars.length
theorem DownR.same {α:Type} {s t:EvS} {x:α × Option SigD} (h1:t.fuel=s.fuel) (h2:t.reqs=s.reqs) (h3:t.vars.length=s.vars.length):DownR s (x,t):=⟨by simp only;omega,by simp only;rw [h2];exact List.prefix_refl _,h3⟩
theorem DownR.trans {α β:Type} {s t:EvS} {x:α × Option SigD} {R:(β × Option SigD) × EvS} (h:DownR s (x,t)) (g:DownR t R):DownR s R:=⟨Nat.le_trans g.fuel h.fuel,h.reqs.trans g.reqs,g.len.trans h.len⟩
theorem DownR.val {α β:Type} {s t:EvS} {x:α × Option SigD} (h:DownR s (x,t)) (y:β × Option SigD):DownR s (y,t):=⟨h.fuel,h.reqs,h.len⟩
def DownN (N:EvN):Prop:=∀ i s R,N i s=some R→DownR s R∧(R.1.2=none→R.2.fuel<s.fuel)
section
variable {N:EvN} (hN:DownN N)
include hN
theorem down_all:∀ (r:List Int) (out:List ValD) (s:EvS) (R),allF N r out s=some R→DownR s R:=by
 intro r;induction r with
 | nil=>intro out s R h;simp only [allF] at h;cases h;exact .same rfl rfl rfl
 | cons k r ih =>
  intro out s R h;simp only [allF] at h;cases hR:N k.toNat s with
  | none=>rw [hR] at h;cases h
  | some Q =>
   obtain ⟨⟨v,g⟩,t⟩:=Q;rw [hR] at h;have hd:=(hN _ _ _ hR).1;cases g with
   | none=>exact hd.trans (ih _ _ _ h)
   | some g=>cases h;exact hd.val _
theorem zcuY {k:Nat} {s:EvS} {R} (h:condF N k s=some R):DownR s R∧(R.1.2=none→R.2.fuel<s.fuel):=by
 unfold condF at h;cases hR:N k s with
 | none=>rw [hR] at h;cases h
 | some Q =>
  obtain ⟨⟨v,g⟩,t⟩:=Q;rw [hR] at h;obtain ⟨hd,hl⟩:=hN _ _ _ hR;cases g with
  | some g=>cases h;exact ⟨hd.val _,fun e=>by cases e⟩
  | none =>
   cases v with
   | nil=>cases h
   | cons c r =>
    simp only at h;split at h
    ·cases h;exact ⟨hd.val _,fun _=>hl rfl⟩
    ·cases h;exact ⟨hd.val _,fun e=>by cases e⟩
theorem down_bool {k:Nat} {s:EvS} {R} (h:boolF (condF N k s)=some R):DownR s R:=by
 cases hR:condF N k s with
 | none=>rw [hR] at h;cases h
 | some Q =>
  obtain ⟨⟨v,g⟩,t⟩:=Q;rw [hR] at h;have hd:=(zcuY hN hR).1;cases g with
  | some g=>cases h;exact hd.val _
  | none=>cases h;exact hd.val _
theorem down_both {n:NodeD} {s:EvS} {R} (h:bothF N n s=some R):DownR s R:=by
 unfold bothF at h;cases hR:condF N (kidN n 0) s with
 | none=>rw [hR] at h;cases h
 | some Q =>
  obtain ⟨⟨v,g⟩,t⟩:=Q;rw [hR] at h;have hd:=(zcuY hN hR).1;cases g with
  | some g=>cases h;exact hd.val _
  | none =>
   simp only at h;split at h
   ·exact hd.trans (down_bool hN h)
   ·cases h;exact hd.val _
theorem down_drop {k:Nat} {s:EvS} {R} (h:dropF (N k s)=some R):DownR s R:=by
 cases hR:N k s with
 | none=>rw [hR] at h;cases h
 | some Q =>
  obtain ⟨⟨v,g⟩,t⟩:=Q;rw [hR] at h;cases h
  exact (hN _ _ _ hR).1.val _
theorem down_choose {n:NodeD} {s:EvS} {R} (h:chooseF N n s=some R):DownR s R:=by
 unfold chooseF at h;cases hR:condF N (kidN n 0) s with
 | none=>rw [hR] at h;cases h
 | some Q =>
  obtain ⟨⟨v,g⟩,t⟩:=Q;rw [hR] at h;have hd:=(zcuY hN hR).1;cases g with
  | some g=>cases h;exact hd.val _
  | none =>
   cases v with
   | true=>exact hd.trans (down_drop hN h)
   | false =>
    simp only at h;split at h
    ·exact hd.trans (down_drop hN h)
    ·cases h;exact hd.val _
theorem down_loop {n:NodeD}:∀ (j:Nat) (s:EvS) (R),loopF N n j s=some R→DownR s R:=by
 intro j;induction j with
 | zero=>intro s R h;simp only [loopF] at h;cases h;exact .same rfl rfl rfl
 | succ j ih =>
  intro s R h;simp only [loopF] at h;cases hR:condF N (kidN n 0) s with
  | none=>rw [hR] at h;cases h
  | some Q =>
   obtain ⟨⟨v,g⟩,t⟩:=Q;rw [hR] at h;have hd:=(zcuY hN hR).1;cases g with
   | some g=>cases h;exact hd.val _
   | none =>
    cases v with
    | false=>cases h;exact hd.val _
    | true =>
     simp only at h;cases hQ:N (kidN n 1) t with
     | none=>rw [hQ] at h;cases h
     | some Q =>
      obtain ⟨⟨v,g⟩,u⟩:=Q;rw [hQ] at h;have hq:=(hN _ _ _ hQ).1;cases g with
      | some g=>cases h;exact hd.trans (hq.val _)
      | none=>exact hd.trans (hq.trans (ih _ _ h))
end
theorem down_ask (C:EvC) (op:ByteArray) (args:List ValD) (s:EvS):DownR s (askF C op args s):=by
 unfold askF;split
 ·exact .same rfl rfl rfl
 ·exact ⟨Nat.le_refl _,List.prefix_append _ _,rfl⟩
theorem down_back {vars:List ValD} {s:EvS} {o:EvR ValD} {R} (hv:vars.length=s.vars.length) (ho:∀ Q,o=some Q→Q.2.fuel≤s.fuel∧s.reqs <+: Q.2.reqs) (h:backF vars o=some R):DownR s R:=by
 cases o with
 | none=>cases h
 | some Q =>
  obtain ⟨⟨v,g⟩,t⟩:=Q;have hd:=ho _ rfl;cases g with
  | none=>cases h;exact ⟨hd.1,hd.2,hv⟩
  | some g=>cases g <;> (cases h;exact ⟨hd.1,hd.2,hv⟩)
section
variable {C:EvC} {N:Nat→EvN} (hN:∀ c,DownN (N c))
include hN
theorem down_call {c f:Nat} {args:List ValD} {s:EvS} {R} (h:callF C N c f args s=some R):DownR s R:=by
 unfold callF at h;split at h
 ·cases h;exact .same rfl rfl rfl
 ·split at h
  ·refine down_back rfl (fun Q hQ=>?_) h
   have:=(hN _ _ _ _ hQ).1
   exact ⟨this.fuel,this.reqs⟩
  ·cases h
theorem down_apply {c k:Nat} {n:NodeD} {l:List ValD} {s:EvS} {R} (h:applyF C N c k n l s=some R):DownR s R:=by
 unfold applyF at h;split at h
 ·cases h;exact .same rfl rfl rfl
 split at h
 ·cases h;exact .same rfl rfl rfl
 split at h
 ·cases h;exact .same rfl rfl rfl
 split at h
 ·cases h;exact .same rfl rfl rfl
 split at h
 ·cases h;exact .same rfl rfl rfl
 split at h
 ·cases h;exact down_ask _ _ _ _
 split at h
 ·unfold setF at h
  split at h
  ·cases h
  ·split at h
   ·cases h;exact .same rfl rfl (by simp)
   ·cases h
 split at h
 ·cases h;exact .same rfl rfl rfl
 split at h
 ·split at h
  ·exact down_call hN h
  ·cases h;exact .same rfl rfl rfl
 ·cases h;exact .same rfl rfl rfl
theorem down_step {g c k:Nat} {n:NodeD} {s:EvS} {R} (h:stepN C N g c k n s=some R):DownR s R:=by
 unfold stepN at h;split at h
 ·cases h;exact .same rfl rfl rfl
 split at h
 ·cases h;exact .same rfl rfl rfl
 split at h
 ·cases h;exact .same rfl rfl rfl
 split at h
 ·cases h;exact .same rfl rfl rfl
 split at h
 ·unfold varF at h
  split at h
  ·cases h
  ·split at h
   ·cases h;exact .same rfl rfl rfl
   ·cases h
 split at h
 ·exact down_choose (hN c) h
 split at h
 ·exact down_loop (hN c) _ _ _ h
 split at h
 ·exact down_both (hN c) h
 unfold thenF at h;split at h
 ·cases h
 ·rename_i g t hR
  cases h
  exact (down_all (hN c) _ _ _ _ hR).val _
 ·rename_i l t hR
  exact (down_all (hN c) _ _ _ _ hR).trans (down_apply hN h)
end
def up (d:Nat) (s:EvS):EvS:={ s with fuel:=s.fuel+d }
end
section
theorem EvX.ne {w0 w:World} {K:EvK} {C:EvC} {gv:Nat} {F:List Nat} {c:Nat} {s:EvS} (h:EvX w0 K C gv F c w s) {g:Nat} {t:TypeId} {cs:Array Value} (hB:Blk w g t cs) (h1:t≠95) (h2:t≠22):g≠K.gx∧g≠gv:=by
 obtain ⟨_,_,_,h⟩:=h;exact ⟨za7Y hB h.ex h1,za7Y hB h.vb h2⟩
theorem EvX.keep {w0 w w':World} {K:EvK} {C:EvC} {gv:Nat} {F:List Nat} {c:Nat} {s:EvS} (h:EvX w0 K C gv F c w s) (hk:KX K.gx gv w w') {g:Nat} {cs:Array Value} (hB:Blk w g 87 cs):Blk w' g 87 cs :=
 hk.blk hB (h.ne hB (by decide) (by decide)).1 (h.ne hB (by decide) (by decide)).2 (by decide)
theorem valT_from {w w':World} {u:Value} {l:ValD} (hv:ValV w' u l) (hf:FromC w w' [] u):ValT w' u l:=⟨hv,fun b off n cap e _=>by
 rcases hf b off n cap e with ⟨x,hx,_⟩ | ⟨_,hc⟩
 ·cases hx
 ·exact hc⟩
attribute [local go_sem] zacZ
end
section
attribute [local go_sem] zacZ
theorem EvX.fuel {w0 w:World} {K:EvK} {C:EvC} {gv:Nat} {F:List Nat} {c:Nat} {s:EvS} (h:EvX w0 K C gv F c w s):w.cell? ⟨K.gx,6,none⟩=some (.int .i64 s.fuel):=by
 obtain ⟨_,_,_,h⟩:=h;exact h.ex.cell 6 _ rfl
end
section
def RowG (w0:World) (base:Nat) (w:World) (v:Value) (l:List ValD):Prop:=∃ vs:List Value,w.ownsRow base 22 1 v l.length vs∧vs.length=l.length∧∀ i (h:i<vs.length) (h':i<l.length),ValG w0 w vs[i] l[i]
theorem RowG.nil (w0:World) (base:Nat) (w:World):RowG w0 base w (.slice none 0 0) []:=⟨[],World.ownsRow_nil _ _ _ _,rfl,fun i h=>absurd h (by simp)⟩
theorem RowG.vals {w0 w:World} {base:Nat} {v:Value} {l:List ValD} (h:RowG w0 base w v l) (hb:Below w0.heap.size w0 w) (hm:l.length≤5864062014634):ValsV w v l:=by
 obtain ⟨vs,h1,h2,h3⟩:=h;obtain ⟨A,cap,rfl⟩:=zaeZ h1
 have hsl:SlAt w A 1 (fun x=>[x]) vs:=SlAt.of_own h1 (by clear h3 h2 h1;induction vs with
  | nil=>rfl
  | cons x r ih=>simp) (fun _=>rfl) (by omega)
 refine ⟨A,cap,vs.map (fun x=>[x]),rfl,own_le h1,hm,?_,by simpa using h2,fun i h h'=>?_⟩
 ·unfold SlAt at hsl ⊢
  rw [List.map_map];exact hsl
 ·rw [List.getElem_map]
  exact ⟨_,rfl,(h3 i (by simpa using h) h').val hb⟩
def AllP (w0:World) (K:EvK) (C:EvC) (gv:Nat) (F:List Nat) (c:Nat) (w:World) (R:(List ValD × Option SigD) × EvS) (e:Ending) (w':World):Prop :=
 ∃ A cap sv,e=.returned (.tuple #[.slice A R.1.1.length cap,sv])∧RowG w0 w.heap.size w' (.slice A R.1.1.length cap) R.1.1∧SigV w0 w' sv R.1.2∧EvX w0 K C gv F c w' R.2∧KX K.gx gv w w'
theorem EvX.lt {w0 w:World} {K:EvK} {C:EvC} {gv:Nat} {F:List Nat} {c:Nat} {s:EvS} (h:EvX w0 K C gv F c w s):K.gx<w.heap.size∧gv<w.heap.size:=by
 obtain ⟨_,_,_,h⟩:=h;exact ⟨h.ex.lt,h.vb.lt⟩
theorem EvX.sub {w0 w:World} {K:EvK} {C:EvC} {gv:Nat} {F F':List Nat} {c:Nat} {s:EvS} (h:EvX w0 K C gv F c w s) (hs:∀ g∈F',g∈F):EvX w0 K C gv F' c w s:=by
 obtain ⟨qv,avs,vs,h⟩:=h
 exact ⟨qv,avs,vs,h.bel,h.hx,h.hv,h.ex,h.lo,h.rq,h.qrow,h.vb,h.vl,h.vv,fun g hg=>h.qd g (by
  rcases List.mem_cons.1 hg with e | e
  ·simp [e]
  ·simp [hs g e]),fun g hg=>h.fb g (hs g hg),h.rl⟩
theorem EvX.grow {w0 w w':World} {K:EvK} {C:EvC} {gv:Nat} {F:List Nat} {c:Nat} {s:EvS} {base n:Nat} {v v':Value} {xs:List Value} (h:EvX w0 K C gv (v.ownBlock.toList ++ F) c w s) (hb0:w0.heap.size≤base) (ho:w.ownsRow base 22 1 v n xs) (hne:∀ g,v.ownBlock=some g→g≠gv) (hg:w.grownBy w' v.ownBlock) (hv:∀ g,v'.ownBlock=some g→v.ownBlock=some g∨w.heap.size≤g) (hlt:∀ g,v'.ownBlock=some g→g<w'.heap.size):EvX w0 K C gv (v'.ownBlock.toList ++ F) c w' s:=by
 obtain ⟨qv,avs,vs,h⟩:=h;have hck:CK w w':=CK.own ho (by decide) hg;have hin:∀ g,v.ownBlock=some g→g ∉ blocksQ avs:=fun g hg=>h.qd g (by simp [hg])
 refine ⟨qv,avs,vs,h.bel.grown hg h.bel.size (fun k hk=>Nat.le_trans hb0 (ho.lt k hk).1),h.hx,h.hv,h.ex.grown hg (zagZ ho h.ex (by decide)),zaaY h.lo hg (fun k hk=>?_),h.rq.keep hck (fun g hm=>hg.block g (h.rq.mem g hm).2.1 (fun e=>hin g e.symm hm)),zaaY h.qrow hg (fun k hk=>?_),h.vb.grown hg (fun e=>hne gv e.symm rfl),h.vl,fun i a b=>(h.vv i a b).keep hck,fun g hm=>?_,fun g hm=>?_,h.rl⟩
 ·obtain ⟨_,cs,hB⟩:=zakY ho hk
  exact zagZ h.lo hB (by decide)
 ·obtain ⟨_,cs,hB⟩:=zakY ho hk
  exact zagZ h.qrow hB (by decide)
 ·rcases List.mem_cons.1 hm with e | hm
  ·exact h.qd g (by simp [e])
  ·rcases List.mem_append.1 hm with hm | hm
   ·rcases hv g (by simpa using hm) with e | e
    ·exact hin g e
    ·intro hq
     have:=(h.rq.mem g hq).2.1
     omega
   ·exact h.qd g (by simp [hm])
 ·rcases List.mem_append.1 hm with hm | hm
  ·exact hlt g (by simpa using hm)
  ·exact Nat.lt_of_lt_of_le (h.fb g (by simp [hm])) hg.size
theorem KX.row {gx gv:Nat} {w w1 w':World} {row:Option Nat} (h:KX gx gv w w1) (hb:∀ g,row=some g→w.heap.size≤g) (hck:CK w1 w') (hg:w1.grownBy w' row):KX gx gv w w' :=
 ⟨hg.os.trans h.os,hg.tape.trans h.tape,hg.output.trans h.output,Nat.le_trans h.size hg.size,fun j o hj h1 h2 h3=>(hg.block j (Nat.lt_of_lt_of_le (lt_of_block hj) h.size) (fun e=>by have:=hb j e.symm;have:=lt_of_block hj;omega)).trans (h.block j o hj h1 h2 h3),h.ck.trans hck⟩
attribute [local go_sem] zacZ
theorem all_h {fB:Nat} {w0:World} {K:EvK} {C:EvC} {N:EvN} {c:Nat} (hN:NodeOk w0 K C N c fB) (hD:DownN N) {gv:Nat} {F:List Nat} {kids:List Int} {iA:Option Addr} {ic:Nat} {s:EvS} {w:World} {R} (h:EvX w0 K C gv F c w s) (hi:IntsV w0 (.slice iA kids.length ic) kids) (hk:∀ k∈kids,0≤k∧k<(C.p.nodes.length:Int)) (hkl:kids.length≤600)
  (hf:s.fuel≤fB) (hl:s.vars.length≤1000) (hR:allF N kids [] s=some R) :
  Calls prog 168 #[.pointer (some ⟨K.gx,0,none⟩),.slice iA kids.length ic,.slice (some ⟨gv,0,none⟩) s.vars.length s.vars.length] w (AllP w0 K C gv F c w R):=by
 obtain ⟨i1,hj,hy0,hy1,hy2⟩:=info_parts Tryz.infoVal;obtain ⟨P,hP⟩:∃ P:Ending→World→Prop,AllP w0 K C gv F c w R=P:=⟨_,rfl⟩
 rw [hP];have HP:=hZz hP;have hlt:=h.lt
 have HN:Hid (∀ F t k Q,N k t=some Q→k<C.p.nodes.length→t.fuel≤fB→t.vars.length=s.vars.length→∀ wx,EvX w0 K C gv F c wx t→Calls prog 116 #[.pointer (some ⟨K.gx,0,none⟩),.int .i64 k,.slice (some ⟨gv,0,none⟩) s.vars.length s.vars.length] wx (NodeP w0 K C gv F c wx Q)):=hZz (fun F t k Q hQ hk h1 h2 wx hx=>by
  have:=hN gv F k t wx Q hx hk h1 (by omega) hQ
  rw [h2] at this;exact this)
 have HD:=hZz hD;have HX0:=hZz h;have HI:=hZz hi;have HKD:=hZz hk;have HF:=hZz hf;have HLT:=hZz hlt;have HR0:=hZz hR;obtain ⟨L,hL⟩:∃ L,s.vars.length=L:=⟨_,rfl⟩
 have HL:=hZz hL;rw [hL] at HN ⊢;obtain ⟨m,hm⟩:∃ m,kids.length=m:=⟨_,rfl⟩
 have HM:=hZz hm;rw [hm] at hkl ⊢;clear hP h hi hk hf hl hN hD hL hlt hm hR;go_enter func168,ntmps168
 go_wp2_with (fail)
 go_loopw [8,15] (fun ov iv wr=>∃ (t:EvS) (k:Nat) (out:List ValD) (vs:List Value) (A:Option Addr) (cap:Nat),k≤m∧iv=.int .i64 k∧ov=.slice A out.length cap∧out.length=k∧Hid (EvX w0 K C gv ((Value.slice A out.length cap).ownBlock.toList ++ F) c wr t)∧Hid (KX K.gx gv w wr)∧Hid (allF N (kids.drop k) out t=some R)∧Hid (t.fuel≤fB)∧Hid (t.vars.length=L)∧Hid (wr.ownsRow w.heap.size 22 1 (.slice A out.length cap) out.length vs)∧Hid (vs.length=out.length)∧Hid (∀ i (h:i<vs.length) (h':i<out.length),ValG w0 wr vs[i] out[i])) (fun _ iv _=>m - (intOf iv).toNat)
 case atStart=>exact ⟨s,0,[],[],none,0,Nat.zero_le _,rfl,rfl,rfl,HX0,hZz (KX.refl _ _ _),hZz (by rw [List.drop_zero];exact HR0.out),HF,HL,hZz (World.ownsRow_nil _ _ _ _),hZz rfl,hZz (fun i h=>absurd h (by simp))⟩
 case round =>
  obtain ⟨t,k,out,vs,A,cap,hk,rfl,rfl,hok,HX,HK,HA,HTF,HTL,HO,HVL,HVV⟩:=hrel;obtain ⟨q,hq⟩:∃ q,out.length=q:=⟨_,rfl⟩
  have HQL:=hZz hq;rw [hq] at HO hok HX ⊢;subst hok;clear hq;by_cases hlt:q<m
  ·have hlt':(q:Int)<(m:Int):=by omega
   have hq0:(0:Int)≤(q:Int):=by omega
   have hqk:q<kids.length:=by rw [HM.out];exact hlt
   have hR:=HA.out;rw [List.drop_eq_getElem_cons hqk] at hR;simp only [allF] at hR;have hkq:=HKD.out _ (List.getElem_mem hqk);obtain ⟨b,off,rfl,hb,c0⟩:=HI.out.cell hqk
   replace c0:=(HX.out.bel.cell hb).trans c0
   obtain ⟨kk,hkk⟩:∃ kk:Nat,kids[q]=(kk:Int):=⟨(kids[q]).toNat,by omega⟩
   rw [hkk] at c0 hR hkq;rw [Int.toNat_natCast] at hR;have hkN:kk<C.p.nodes.length:=by omega
   cases hQ:N kk t with
   | none=>rw [hQ] at hR;cases hR
   | some Q =>
    obtain ⟨⟨v,g⟩,t1⟩:=Q;rw [hQ] at hR;have hd:=(HD.out _ _ _ hQ).1;have HDF:=hZz hd.fuel;have HDL:=hZz hd.len;simp only at HDF HDL;have HC2:=hZz (HN.out _ t kk _ hQ hkN HTF.out HTL.out wr HX.out);have HC:(q:Int)<(ic:Int)∨True:=.inr trivial;clear hQ hd hkq hkk hb HA;cases g with
    | some g =>
     have HR:Hid (R=(([],some g),t1)):=hZz (by cases hR;rfl);clear hR
     go_wp2_with (first
      | (go_at_call 116;((with_reducible refine HC2.out.mono ?_);rintro e w2 ⟨u,sv,rfl,hu,hsv,hx,hkx⟩;obtain ⟨T,pv,rfl⟩:=sig_some hsv;have HS:=hZz hsv;have HX2:=hZz hx;have HK2:=hZz hkx;have hne:=fun w=>ifc_ne T pv w;clear hsv hx hkx hu)))
     rw [← HP.out,HR.out];exact ⟨none,0,_,rfl,RowG.nil _ _ _,HS.out,HX2.out.sub (fun g hg=>by simp [hg]),HK.out.trans HK2.out⟩
    | none =>
     have HR:Hid (allF N (kids.drop (q+1)) (out ++ [v]) t1=some R):=hZz hR;have hne:=fun w=>ifn_ne w
     clear hR
     go_wp2_with (first
      | (go_at_call 116;((with_reducible refine HC2.out.mono ?_);rintro e w2 ⟨u,sv,rfl,hu,hsv,hx,hkx⟩;(have hsv':sv=.nilIface:=hsv);subst hsv';obtain ⟨uA,un,uc,rfl⟩:=hu.shape;have HX2:=hZz hx;have HK2:=hZz hkx;have HU2:=hZz hu;have HO2:=hZz (hkx.own HO.out (fun g hg=>by have:=(HO.out.lt g hg).1;have:=HLT.out;omega) (by decide));have HOA:Hid ((w2.alloc (.cells #[.slice uA un uc] 22)).ownsRow w.heap.size 22 1 (.slice A q cap) q vs):=hZz (zajZ HO2.out (zabZ w2 _));have hsz:w.heap.size≤(w2.alloc (.cells #[.slice uA un uc] 22)).heap.size:=Nat.le_trans (Nat.le_trans HK.out.size hkx.size) (zabZ w2 _).size;clear hsv hx hkx hu))
      | (at_builtin;refine wpList_append_lies _ rfl (.tmp 29) (.tmp 31) 31 rfl w.heap.size 22 i1 _ 1 24 underlying31 hj hy0 hy1 hy2 rfl (by omega) _ q vs rfl HOA.out ⟨w2.heap.size,0,none⟩ 1 1 [.slice uA un uc] rfl rfl (za3Y w2 _ _) (by simp [Value.oneCell']) (by decide) (by unfold maxLen;omega) (by omega) hsz _ rfl ?_;intro g6 cap6 w3 hown3 hg3 hgg hlt3;have HO3:=hZz hown3;have HG3:=hZz hg3;have HGG:=hZz hgg;have HLT3:=hZz hlt3;clear hown3 hg3 hgg hlt3))
     have hba:Below w2.heap.size w2 (w2.alloc (.cells #[.slice uA un uc] 22)):=zabZ _ _;have hck:CK w2 w3:=(CK.of_below hba).trans (CK.own HOA.out (by decide) HG3.out);have hnew:∀ g,(Value.slice A q cap).ownBlock=some g→w.heap.size≤g:=fun g hg=>(HOA.out.lt g hg).1
     refine ⟨⟨t1,q+1,out ++ [v],vs ++ [.slice uA un uc],some ⟨g6,0,none⟩,cap6,by omega,by simp,by rw [List.length_append,HQL.out];rfl,by rw [List.length_append,HQL.out];rfl,?_,?_,HR,?_,?_,?_,?_,?_⟩,by simp [intOf];omega⟩
     ·exact hZz ((HX2.out.below hba).grow HX0.out.bel.size HOA.out (fun g hg=>by have h1:=hnew g hg;have h2:=HLT.out;omega) HG3.out (fun g hg=>by
       have e:g6=g:=by simpa [Value.ownBlock] using hg
       subst e;rcases HGG.out with h | h
       ·exact .inl h
       ·exact .inr (by rw [h];exact Nat.le_refl _)) (fun g hg=>by
       have e:g6=g:=by simpa [Value.ownBlock] using hg
       subst e;exact HLT3.out))
     ·exact hZz (((HK.out.trans HK2.out).trans (KX.of_below hba)).row hnew (CK.own HOA.out (by decide) HG3.out) HG3.out)
     ·exact hZz (by have:=HTF.out;have:=HDF.out;omega)
     ·exact hZz (by rw [HDL.out,HTL.out])
     ·exact hZz (by rw [List.length_append,HQL.out];exact HO3.out)
     ·exact hZz (by rw [List.length_append,List.length_append,HVL.out];rfl)
     ·refine hZz (fun i a b=>?_)
      have hck2:CK wr w3:=HK2.out.ck.trans hck;by_cases hi:i<vs.length
      ·rw [List.getElem_append_left hi,List.getElem_append_left (by have:=HVL.out;omega)]
       exact (HVV.out i hi (by have:=HVL.out;omega)).keep hck2
      ·have e:i=vs.length:=by simp at a;omega
       subst e
       have:=HVL.out
       rw [List.getElem_append_right (by omega),List.getElem_append_right (by omega)];simpa [HVL.out] using HU2.out.keep hck
  ·have e:q=m:=by omega
   subst e;have hR:=HA.out;rw [List.drop_eq_nil_of_le (by rw [HM.out];exact Nat.le_refl _)] at hR;have HR:Hid (R=((out,none),t)):=hZz (by simp only [allF] at hR;cases hR;rfl);clear hR;go_wp2_with (fail)
   rw [← HP.out,HR.out];exact ⟨A,cap,.nilIface,by show _=Ending.returned (.tuple #[.slice A out.length cap,.nilIface]);rw [HQL.out];rfl,by show RowG w0 w.heap.size wr (.slice A out.length cap) out;rw [HQL.out];exact ⟨vs,by rw [HQL.out];exact HO.out,HVL.out,HVV.out⟩,rfl,HX.out.sub (fun g hg=>by simp [hg]),HK.out⟩
end
section
theorem builder_new (w:World):Lib.IsBuilderF 189 5 w.heap.size w.heap.size (Lib.byteCells []) (w.alloc (.cells #[.pointer none,.slice none 0 0] 189)) :=
 .inl ⟨Nat.le_refl _,.slice none 0 0,heap_alloc_new w _,⟨rfl,.inl ⟨rfl,rfl⟩⟩,by simp [Value.ownBlock]⟩
attribute [local go_sem] zacZ
theorem encode_any (v:ValD) (x:Value) (w:World) (h:ValV w x v) (hp:Pow w) (hck:checkF v=0) :
  Calls prog 100 #[x] w fun e w'=>e=.returned (.tuple #[.string ⟨(textF v.length v).toArray⟩,.int .i64 0])∧Below w.heap.size w w':=by
 have ho:=zahZ hck;have HCK:=hZz (za6Y v x w h hp ho);rw [hck] at HCK;obtain ⟨xA,xn,xc,rfl⟩:=h.shape;have HV:=hZz h;have HPW:=hZz hp;have HO:=hZz ho;have HKK:=hZz hck;obtain ⟨tx,htx⟩:∃ t,textF v.length v=t:=⟨_,rfl⟩
 have HTX:=hZz htx;rw [htx];clear h hp ho hck htx;go_enter func100,ntmps100
 go_wp2_with (first
  | (go_at_call 79;((with_reducible refine HCK.out.mono ?_);rintro e w1 ⟨rfl,hb1⟩;have HB1:=hZz hb1;have HW1:Hid (WB w1.heap.size w1.heap.size [] (w1.alloc (.cells #[.pointer none,.slice none 0 0] 189)) (w1.alloc (.cells #[.pointer none,.slice none 0 0] 189))):=hZz (WB.start (builder_new w1) (by simp));have HWR:=hZz (write_any v.length w1 (HPW.out.below hb1) w1.heap.size v (.slice xA xn xc) [] _ (Nat.le_refl _) HO.out HKK.out (HV.out.below hb1) (zabZ w1 _) HW1.out (by have:=costV_le HKK.out;simp;omega));clear hb1))
  | (go_at_call 150;((refine HWR.out.mono ?_);rintro e w2 ⟨rfl,hw2⟩;have HW2:=hZz hw2;have HST:=hZz (Tryz.Builder_String_any_f w1.heap.size w1.heap.size _ w2 hw2.is (Nat.le_trans hw2.b0 hw2.bel.size));clear hw2))
  | (go_at_call 151;((refine HST.out.mono ?_);rintro e w3 ⟨rfl,_,hb3⟩;have HB3:=hZz hb3;clear hb3)))
 go_returns;refine ⟨by rw [← HTX.out];rfl,?_⟩
 have h1:Below w1.heap.size w1 w3:=(zabZ w1 _).trans (HW2.out.bel.trans HB3.out);exact zadZ h1 HB1.out
theorem text_eval (c:CellD) (r:ValD) (v:Value) (w:World) (h:ValV w v (c :: r)) (hp:Pow w) (hck:checkF (c :: r)=0) :
  Calls prog 51 #[v] w (RetR w [] (textR (c :: r))):=by
 obtain ⟨P,hP⟩:∃ P:Ending→World→Prop,RetR w [] (textR (c :: r))=P:=⟨_,rfl⟩
 rw [hP];have HP:=hZz hP;have ho:=zahZ hck;have HCL:=hZz (zbsY (c :: r) v w h);have HLN:Hid ((c :: r).length≤1000000):=hZz ho.1;have HEN:=hZz (encode_any (c :: r) v w h hp hck);have hbd:=textF_bd (c :: r).length ho hck;obtain ⟨b,off,n,cap,rfl,hn,p0,p1,p2,p3⟩:=zanZ h;have hpos:(0:Int)<(n:Int):=by omega
 have HU:Hid (textR (c :: r)=if c.kind=4 then (c :: r,0) else okR [sCel ⟨(textF (c :: r).length (c :: r)).toArray⟩]):=hZz rfl;obtain ⟨tx,htx⟩:∃ t:ByteArray,⟨(textF (c :: r).length (c :: r)).toArray⟩=t:=⟨_,rfl⟩
 have hsz:tx.size≤86000:=by
  rw [← htx];show (textF (c :: r).length (c :: r)).toArray.size≤86000;rw [List.size_toArray];exact hbd
 rw [htx] at HEN HU;have HST:Hid (∀ wx,Below w.heap.size w wx→Calls prog 92 #[.string tx] wx (RetR wx [] (okR [sCel tx]))):=hZz fun wx hb=>cstr_any tx wx (hp.below hb) (by omega)
 obtain ⟨BR,hBR⟩:∃ t,textR (c :: r)=t:=⟨_,rfl⟩
 rw [hBR] at HP HU;obtain ⟨k,i,s,nn⟩:=c;dsimp only at p0 p1 p2 p3 HU;clear hBR hP h hp ho hck hn p1 p2 p3 htx hsz hbd;by_cases h4:k=4
 ·subst h4
  have HR:Hid (BR=(⟨4,i,s,nn⟩ :: r,0)):=hZz (by rw [HU.out,if_pos rfl]);clear HU HEN HST;go_enter func51,ntmps51
  go_wp2_with (first
   | (go_at_call 72;((with_reducible refine HCL.out.mono ?_);rintro e w1 ⟨u,rfl,ho,hb1⟩;have HO:=hZz ho;have HB1:=hZz hb1;clear ho hb1)))
  rw [← HP.out,HR.out];exact ⟨u,rfl,HO.out.val (by have:=HLN.out;omega),FromC.ownO HO.out (Nat.le_refl _),HB1.out⟩
 ·have k4:(k == 4)=false:=by simpa using h4
  have HR:Hid (BR=okR [sCel tx]):=hZz (by rw [HU.out,if_neg h4]);clear HU HCL h4;go_enter func51,ntmps51
  go_wp2_with (first
   | (go_at_call 100;((with_reducible refine HEN.out.mono ?_);rintro e w1 ⟨rfl,hb1⟩;have HB1:=hZz hb1;clear hb1))
   | (go_at_call 92;((with_reducible refine (HST.out _ HB1.out).mono ?_);rintro e w3 ⟨u,rfl,hu,hf,hb3⟩;have HU3:=hZz hu;have HF3:=hZz hf;have HB3:=hZz (zadZ hb3 HB1.out);clear hu hf hb3)))
  rw [← HP.out,HR.out];exact ⟨u,rfl,HU3.out,HF3.out.up HB1.out.size (Below.refl _ _),HB3.out⟩
end
theorem mem_get {α:Type} {l:List α} {x:α} (h:x∈l):∃ j,∃ hj:j<l.length,l[j]=x:=List.mem_iff_getElem.1 h
theorem Tree.kid {p:ProgD} {f i s:Nat} (T:Tree p.nodes f i s) {k:Int} (hk:k∈(p.at_ i).kids):∃ j,j<(p.at_ i).kids.length∧(p.at_ i).kids.getD j 0=k∧0≤k∧k.toNat<i∧fitsB (p.at_ i).kind j (p.at_ k.toNat).kind=true:=by
 obtain ⟨j,hj,e⟩:=mem_get hk;obtain ⟨m,h1,h2,h3⟩:=T.fits j hj;have e2:(p.at_ i).kids.getD j (-1)=k:=by rw [List.getD_eq_getElem?_getD,List.getElem?_eq_getElem hj,e];rfl
 have e3:(p.at_ i).kids.getD j 0=k:=by rw [List.getD_eq_getElem?_getD,List.getElem?_eq_getElem hj,e];rfl
 have h1':(p.at_ i).kids.getD j (-1)=m:=h1;rw [e2] at h1';subst h1';exact ⟨j,hj,e3,by omega,by simpa using h2,by rw [Int.toNat_natCast];exact h3⟩
theorem varsF_len (L:Nat) (args:List ValD):(varsF L args).length=L:=by unfold varsF;simp;omega
theorem findF_lt2 {p:ProgD} {s:ByteArray} (h:0≤findF p s):(findF p s).toNat<p.funcs.length:=by
 unfold findF at h ⊢;cases hi:p.funcs.findIdx? (fun f=>decide (f.name=s)) with
 | none=>rw [hi] at h;exact absurd h (by decide)
 | some i=>simp only [Int.toNat_natCast];exact (List.findIdx?_eq_some_iff_findIdx_eq.1 hi).1
end Go.Proofs.YtekdhlfapejijaaGreatDoor
