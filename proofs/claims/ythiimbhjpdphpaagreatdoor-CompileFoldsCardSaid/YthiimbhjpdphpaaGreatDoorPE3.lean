/- GN1, E0, E1, E2, E3 -/
import Derived.Test.YthiimbhjpdphpaaGreatDoorPGN0
import Derived.Laws.Cover1
import Derived.Lib.ItoaNum
set_option linter.unusedVariables false
set_option linter.unusedSimpArgs false
namespace Go.Proofs.YthiimbhjpdphpaaGreatDoor
open Go.RowKit
def itoaLen (n:Int):Nat:=(Lib.itoa n).length
def sleB (a b:ByteArray):Bool:=Op.bytesLess a.toList b.toList || a.toList == b.toList
def eSyntax:Int:=1
def eRange:Int:=2
def eLimit:Int:=3
def txtB (s:ByteArray):Bool:=s.data.toList.all fun b=>decide (32≤b.toNat) && decide (b.toNat≤126)
def quotedN (s:ByteArray):Int:=(s.size:Int)+2+(s.data.toList.count 34:Nat)+(s.data.toList.count 92:Nat)
def plainB (c:CellD):Bool :=
 if c.kind=1 then decide (c.int=0) && (decide (c.str.size=0) && decide (c.n=0))
 else if c.kind=2 then (decide (c.int=0) || decide (c.int=1)) && (decide (c.str.size=0) && decide (c.n=0))
 else if c.kind=3 then decide (c.str.size=0) && decide (c.n=0)
 else if c.kind=4 then decide (c.int=0) && (decide (c.n=0) && txtB c.str)
 else if c.kind=5∨c.kind=6 then decide (c.int=0) && (decide (c.str.size=0) && decide (0≤c.n))
 else false
def sizeN (c:CellD):Int :=
 if c.kind=1 then 4 else if c.kind=2 then 5 - c.int else if c.kind=3 then (itoaLen c.int:Nat) else if c.kind=4 then quotedN c.str else 2+max 0 (c.n - 1)
def keyOk (last:Option ByteArray) (c:CellD):Bool:=plainB c && (decide (c.kind=4) && (match last with | none=>true | some l=>!sleB c.str l))
structure Sh where
 j:Nat
 d:Nat
 b:Int
def elems (g:Nat→Option Sh) (L:Nat):Nat→Sh→Option Sh
 | 0,s=>some s
 | k+1,s=>(g s.j).bind fun r=>elems g L k ⟨r.j,max s.d (L+r.d),s.b+r.b⟩
def pairs (v:List CellD) (g:Nat→Option Sh) (L:Nat):Nat→Option ByteArray→Sh→Option Sh
 | 0,_,s=>some s
 | k+1,last,s=>match v[s.j]? with
  | none=>none
  | some c=>if keyOk last c then (g (s.j+1)).bind fun r=>pairs v g L k (some c.str) ⟨r.j,max s.d (L+r.d),s.b+(quotedN c.str+1)+r.b⟩ else none
def pstep (v:List CellD) (g:Nat→Option Sh) (i:Nat):Option Sh :=
 match v[i]? with
 | none=>none
 | some c =>
  if plainB c=false then none
  else if c.kind=5 then (elems g 0 c.n.toNat ⟨i+1,0,0⟩).map fun s=>⟨s.j,s.d+1,sizeN c+s.b⟩
  else if c.kind=6 then (pairs v g 0 c.n.toNat none ⟨i+1,0,0⟩).map fun s=>⟨s.j,s.d+1,sizeN c+s.b⟩
  else some ⟨i+1,1,sizeN c⟩
def parse (v:List CellD):Nat→Nat→Option Sh
 | 0,_=>none
 | f+1,i=>pstep v (parse v f) i
def px (v:List CellD) (i:Nat):Option Sh:=parse v (v.length+1) i
theorem elems_adv {g:Nat→Option Sh} {N:Nat} (hg:∀ j s,g j=some s→j<s.j∧s.j≤N) (L:Nat):∀ k s t,s.j≤N→elems g L k s=some t→s.j+k≤t.j∧t.j≤N
 | 0,s,t,hs,h=>by simp [elems] at h;subst h;exact ⟨by omega,hs⟩
 | k+1,s,t,hs,h=>by
  simp only [elems] at h;cases hr:g s.j with
  | none=>rw [hr] at h;cases h
  | some r =>
   rw [hr] at h;have h1:=hg _ _ hr;have h2:=elems_adv hg L k ⟨r.j,max s.d (L+r.d),s.b+r.b⟩ t h1.2 h;exact ⟨by have:=h2.1;simp at this;omega,h2.2⟩
theorem pairs_adv {v:List CellD} {g:Nat→Option Sh} {N:Nat} (hg:∀ j s,g j=some s→j<s.j∧s.j≤N) (L:Nat):∀ k last s t,s.j≤N→pairs v g L k last s=some t→s.j+k≤t.j∧t.j≤N
 | 0,last,s,t,hs,h=>by simp [pairs] at h;subst h;exact ⟨by omega,hs⟩
 | k+1,last,s,t,hs,h=>by
  simp only [pairs] at h;cases hc:v[s.j]? with
  | none=>rw [hc] at h;cases h
  | some c =>
   rw [hc] at h;simp only at h;split at h
   ·cases hr:g (s.j+1) with
    | none=>rw [hr] at h;cases h
    | some r =>
     rw [hr] at h;have h1:=hg _ _ hr;have h2:=pairs_adv hg L k (some c.str) ⟨r.j,max s.d (L+r.d),s.b+(quotedN c.str+1)+r.b⟩ t h1.2 h;exact ⟨by have:=h2.1;simp at this;omega,h2.2⟩
   ·cases h
theorem zaoY (v:List CellD):∀ f i s,parse v f i=some s→i<s.j∧s.j≤v.length
 | 0,i,s,h=>by cases h
 | f+1,i,s,h=>by
  simp only [parse,pstep] at h;cases hc:v[i]? with
  | none=>rw [hc] at h;cases h
  | some c =>
   have hi:i<v.length:=(List.getElem?_eq_some_iff.1 hc).1;rw [hc] at h;simp only at h;split at h
   ·cases h
   split at h
   ·cases ht:elems (parse v f) 0 c.n.toNat ⟨i+1,0,0⟩ with
    | none=>rw [ht] at h;cases h
    | some t =>
     rw [ht] at h;simp at h
     have:=elems_adv (zaoY v f) 0 _ _ _ (show (⟨i+1,0,0⟩:Sh).j≤v.length from hi) ht
     subst h;exact ⟨by have:=this.1;simp at this ⊢;omega,this.2⟩
   split at h
   ·cases ht:pairs v (parse v f) 0 c.n.toNat none ⟨i+1,0,0⟩ with
    | none=>rw [ht] at h;cases h
    | some t =>
     rw [ht] at h;simp at h
     have:=pairs_adv (zaoY v f) 0 _ _ _ _ (show (⟨i+1,0,0⟩:Sh).j≤v.length from hi) ht
     subst h;exact ⟨by have:=this.1;simp at this ⊢;omega,this.2⟩
   ·simp at h
    subst h;exact ⟨by simp,hi⟩
theorem zcpY {g g':Nat→Option Sh} {a:Nat} (he:∀ j,a≤j→g j=g' j) (hg:∀ j s,g j=some s→j<s.j) (L:Nat):∀ k s,a≤s.j→elems g L k s=elems g' L k s
 | 0,s,_=>rfl
 | k+1,s,hs=>by
  simp only [elems];rw [← he _ hs];cases hr:g s.j with
  | none=>rfl
  | some r =>
   have:=hg _ _ hr
   exact zcpY he hg L k _ (by simp;omega)
theorem zciY {v:List CellD} {g g':Nat→Option Sh} {a:Nat} (he:∀ j,a≤j→g j=g' j) (hg:∀ j s,g j=some s→j<s.j) (L:Nat):∀ k last s,a≤s.j→pairs v g L k last s=pairs v g' L k last s
 | 0,last,s,_=>rfl
 | k+1,last,s,hs=>by
  simp only [pairs];cases v[s.j]? with
  | none=>rfl
  | some c =>
   simp only
   split
   ·rw [← he _ (by omega:a≤s.j+1)]
    cases hr:g (s.j+1) with
    | none=>rfl
    | some r =>
     have:=hg _ _ hr
     exact zciY he hg L k _ _ (by simp;omega)
   ·rfl
theorem parse_fuel (v:List CellD):∀ f f' i,v.length - i<f→v.length - i<f'→parse v f i=parse v f' i
 | 0,_,i,h,_=>by omega
 | _+1,0,i,_,h=>by omega
 | f+1,f' + 1,i,h,h'=>by
  simp only [parse,pstep];cases hc:v[i]? with
  | none=>rfl
  | some c =>
   have hi:i<v.length:=(List.getElem?_eq_some_iff.1 hc).1;have he:∀ j,i+1≤j→parse v f j=parse v f' j:=fun j hj=>parse_fuel v f f' j (by omega) (by omega)
   simp only
   rw [zcpY he (fun j s hs=>(zaoY v f j s hs).1) 0 _ ⟨i+1,0,0⟩ (Nat.le_refl _),zciY he (fun j s hs=>(zaoY v f j s hs).1) 0 _ _ ⟨i+1,0,0⟩ (Nat.le_refl _)]
theorem px_adv {v:List CellD} {i:Nat} {s:Sh} (h:px v i=some s):i<s.j∧s.j≤v.length:=zaoY v _ i s h
theorem px_eq (v:List CellD) (i:Nat):px v i=pstep v (px v) i:=by
 have h1:px v i=pstep v (parse v v.length) i:=rfl;rw [h1];unfold pstep;cases hc:v[i]? with
 | none=>rfl
 | some c =>
  have hi:i<v.length:=(List.getElem?_eq_some_iff.1 hc).1;have he:∀ j,i+1≤j→parse v v.length j=px v j:=fun j hj=>parse_fuel v _ _ j (by omega) (by omega)
  simp only
  rw [zcpY he (fun j s hs=>(zaoY v _ j s hs).1) 0 _ ⟨i+1,0,0⟩ (Nat.le_refl _),zciY he (fun j s hs=>(zaoY v _ j s hs).1) 0 _ _ ⟨i+1,0,0⟩ (Nat.le_refl _)]
theorem elems_off (g:Nat→Option Sh) (L:Nat):∀ k i d0 b0 D B,elems g L k ⟨i,max D (L+d0),B+b0⟩=(elems g 0 k ⟨i,d0,b0⟩).map fun t=>⟨t.j,max D (L+t.d),B+t.b⟩
 | 0,i,d0,b0,D,B=>rfl
 | k+1,i,d0,b0,D,B=>by
  simp only [elems];cases g i with
  | none=>rfl
  | some r =>
   simp only [Option.bind_some];rw [← elems_off g L k r.j (max d0 (0+r.d)) (b0+r.b) D B];congr 2
   ·omega
   ·omega
theorem pairs_off (v:List CellD) (g:Nat→Option Sh) (L:Nat):∀ k last i d0 b0 D B,pairs v g L k last ⟨i,max D (L+d0),B+b0⟩=(pairs v g 0 k last ⟨i,d0,b0⟩).map fun t=>⟨t.j,max D (L+t.d),B+t.b⟩
 | 0,last,i,d0,b0,D,B=>rfl
 | k+1,last,i,d0,b0,D,B=>by
  simp only [pairs];cases v[i]? with
  | none=>rfl
  | some c =>
   simp only
   split
   ·cases g (i+1) with
    | none=>rfl
    | some r =>
     simp only [Option.bind_some];rw [← pairs_off v g L k (some c.str) r.j (max d0 (0+r.d)) (b0+(quotedN c.str+1)+r.b) D B];congr 2
     ·omega
     ·omega
   ·rfl
structure OpenD where
 pairs:Bool
 left:Nat
 key:Bool
 last:ByteArray
 started:Bool
def cont (v:List CellD):List OpenD→Sh→Option Sh
 | [],s=>some s
 | o :: st,s=>(if o.pairs then pairs v (px v) (st.length+1) (o.left - 1) (some o.last) s else elems (px v) (st.length+1) (o.left - 1) s).bind (cont v st)
def resumeV (v:List CellD) (st:List OpenD) (s:Sh):Option Sh:=(px v s.j).bind fun r=>cont v st ⟨r.j,max s.d (st.length+r.d),s.b+r.b⟩
def resumeK (v:List CellD) (o:OpenD) (st:List OpenD) (s:Sh):Option Sh:=(pairs v (px v) (st.length+1) o.left (if o.started then some o.last else none) s).bind (cont v st)
def resume (v:List CellD):List OpenD→Sh→Option Sh
 | [],s=>resumeV v [] s
 | o :: st,s=>if o.key then resumeK v o st s else resumeV v (o :: st) s
def good (o:OpenD):Prop:=o.key=false∧1≤o.left∧(o.pairs=true→o.started=true)
def closedF:List OpenD→List OpenD
 | []=>[]
 | o :: st=>if o.left - 1=0 then closedF st else ⟨o.pairs,o.left - 1,o.pairs,o.last,o.started⟩ :: st
theorem cont_closed (v:List CellD):∀ st s,(∀ o∈st,good o)→cont v st s=if closedF st=[] then some s else resume v (closedF st) s
 | [],s,_=>rfl
 | o :: st,s,h=>by
  have ho:=h o (by simp);have hst:=cont_closed v st s (fun x hx=>h x (by simp [hx]));by_cases h0:o.left - 1=0
  ·rw [show closedF (o :: st)=closedF st by simp only [closedF];rw [if_pos h0],← hst]
   simp only [cont];rw [h0];cases o.pairs <;> rfl
  ·rw [show closedF (o :: st)=⟨o.pairs,o.left - 1,o.pairs,o.last,o.started⟩ :: st by simp only [closedF];rw [if_neg h0],if_neg (by simp)]
   simp only [cont,resume];cases hp:o.pairs with
   | true =>
    simp only [if_true,resumeK];rw [ho.2.2 hp];rfl
   | false =>
    simp only [resumeV,cont,Bool.false_eq_true,if_false];obtain ⟨k,hk⟩:∃ k,o.left - 1=k+1:=⟨o.left - 1 - 1,by omega⟩
    rw [hk];simp only [elems,List.length_cons,Nat.add_sub_cancel];cases px v s.j <;> rfl
theorem plain_kind {c:CellD} (h:plainB c=true):c.kind=1∨c.kind=2∨c.kind=3∨c.kind=4∨c.kind=5∨c.kind=6:=by
 unfold plainB at h;split at h
 ·omega
 split at h
 ·omega
 split at h
 ·omega
 split at h
 ·omega
 split at h
 ·omega
 ·cases h
theorem plain_n {c:CellD} (h:plainB c=true) (hk:c.kind=5∨c.kind=6):0≤c.n:=by
 unfold plainB at h;rw [if_neg (by omega),if_neg (by omega),if_neg (by omega),if_neg (by omega),if_pos hk] at h;simp at h
 omega
theorem plain_n0 {c:CellD} (h:plainB c=true) (hk:¬ (c.kind=5∨c.kind=6)):c.n=0:=by
 unfold plainB at h;split at h
 ·simp at h;omega
 split at h
 ·simp at h;omega
 split at h
 ·simp at h;omega
 split at h
 ·simp at h;omega
 ·cases h
theorem resumeV_end {v:List CellD} {st:List OpenD} {s:Sh} (h:v[s.j]? = none):resumeV v st s=none:=by
 unfold resumeV;rw [px_eq,pstep,h];rfl
theorem resumeK_end {v:List CellD} {o:OpenD} {st:List OpenD} {s:Sh} (hl:1≤o.left) (h:v[s.j]? = none):resumeK v o st s=none:=by
 obtain ⟨k,hk⟩:∃ k,o.left=k+1:=⟨o.left - 1,by omega⟩
 unfold resumeK;rw [hk,pairs,h];rfl
theorem resumeV_bad {v:List CellD} {st:List OpenD} {s:Sh} {c:CellD} (h:v[s.j]? = some c) (hp:plainB c=false):resumeV v st s=none:=by
 unfold resumeV;rw [px_eq,pstep,h];simp only
 rw [if_pos hp];rfl
theorem resumeK_bad {v:List CellD} {o:OpenD} {st:List OpenD} {s:Sh} {c:CellD} (hl:1≤o.left) (h:v[s.j]? = some c) (hk:keyOk (if o.started then some o.last else none) c=false):resumeK v o st s=none:=by
 obtain ⟨k,hk'⟩:∃ k,o.left=k+1:=⟨o.left - 1,by omega⟩
 unfold resumeK;rw [hk',pairs,h];simp only
 rw [if_neg (by rw [hk];simp)];rfl
theorem resumeK_ok {v:List CellD} {o:OpenD} {st:List OpenD} {s:Sh} {c:CellD} (hl:1≤o.left) (hp:o.pairs=true) (h:v[s.j]? = some c) (hk:keyOk (if o.started then some o.last else none) c=true) :
  resumeK v o st s=resumeV v (⟨o.pairs,o.left,false,c.str,true⟩ :: st) ⟨s.j+1,s.d,s.b+(quotedN c.str+1)⟩:=by
 obtain ⟨k,hk'⟩:∃ k,o.left=k+1:=⟨o.left - 1,by omega⟩
 unfold resumeK resumeV;rw [hk',pairs,h];simp only [if_pos hk,cont,hp,if_true,Nat.add_sub_cancel,List.length_cons];cases px v (s.j+1) <;> rfl
theorem resumeV_big {v:List CellD} {st:List OpenD} {s:Sh} {c:CellD} (h:v[s.j]? = some c) (hn:(v.length:Int)<c.n):resumeV v st s=none:=by
 cases hr:px v s.j with
 | none=>unfold resumeV;rw [hr];rfl
 | some r =>
  exfalso
  have hi:s.j<v.length:=(List.getElem?_eq_some_iff.1 h).1;rw [px_eq,pstep,h] at hr;simp only at hr;split at hr
  ·cases hr
  rename_i hp;have hp':plainB c=true:=by simpa using hp
  split at hr
  ·cases ht:elems (px v) 0 c.n.toNat ⟨s.j+1,0,0⟩ with
   | none=>rw [ht] at hr;cases hr
   | some t =>
    have:=elems_adv (fun j s=>px_adv (v:=v)) 0 _ _ _ (show (⟨s.j+1,0,0⟩:Sh).j≤v.length from hi) ht
    omega
  split at hr
  ·cases ht:pairs v (px v) 0 c.n.toNat none ⟨s.j+1,0,0⟩ with
   | none=>rw [ht] at hr;cases hr
   | some t =>
    have:=pairs_adv (fun j s=>px_adv (v:=v)) 0 _ _ _ _ (show (⟨s.j+1,0,0⟩:Sh).j≤v.length from hi) ht
    omega
  ·have:=plain_n0 hp' (by omega)
   omega
theorem resumeV_leaf {v:List CellD} {st:List OpenD} {s:Sh} {c:CellD} (h:v[s.j]? = some c) (hp:plainB c=true) (hn:c.n≤0):resumeV v st s=cont v st ⟨s.j+1,max s.d (st.length+1),s.b+sizeN c⟩:=by
 unfold resumeV;rw [px_eq,pstep,h];simp only
 rw [if_neg (by rw [hp];simp)];have h0:c.n.toNat=0:=by omega
 rw [h0];split
 ·simp [elems]
 split
 ·simp [pairs]
 ·rfl
theorem resumeV_list {v:List CellD} {st:List OpenD} {s:Sh} {c:CellD} (h:v[s.j]? = some c) (hp:plainB c=true) (hk:c.kind=5) (hn:0<c.n) :
  resumeV v st s=resumeV v (⟨false,c.n.toNat,false,ByteArray.empty,false⟩ :: st) ⟨s.j+1,max s.d (st.length+1),s.b+sizeN c⟩:=by
 obtain ⟨m,hm⟩:∃ m,c.n.toNat=m+1:=⟨c.n.toNat - 1,by omega⟩
 have h1:resumeV v (⟨false,c.n.toNat,false,ByteArray.empty,false⟩ :: st) ⟨s.j+1,max s.d (st.length+1),s.b+sizeN c⟩=(elems (px v) (st.length+1) c.n.toNat ⟨s.j+1,max s.d (st.length+1),s.b+sizeN c⟩).bind (cont v st):=by
  rw [hm];simp only [resumeV,cont,elems,Bool.false_eq_true,if_false,Nat.add_sub_cancel,List.length_cons];cases px v (s.j+1) <;> rfl
 rw [h1];have h2:=elems_off (px v) (st.length+1) c.n.toNat (s.j+1) 0 0 (max s.d (st.length+1)) (s.b+sizeN c);rw [show max (max s.d (st.length+1)) (st.length+1+0)=max s.d (st.length+1) by omega,show s.b+sizeN c+0=s.b+sizeN c by omega] at h2;rw [h2];unfold resumeV;rw [px_eq,pstep,h];simp only
 rw [if_neg (by rw [hp];simp),if_pos hk];cases elems (px v) 0 c.n.toNat ⟨s.j+1,0,0⟩ with
 | none=>rfl
 | some t =>
  simp only [Option.map_some,Option.bind_some];congr 2
  ·omega
  ·omega
theorem resumeV_map {v:List CellD} {st:List OpenD} {s:Sh} {c:CellD} (h:v[s.j]? = some c) (hp:plainB c=true) (hk:c.kind=6) (_:0<c.n) :
  resumeV v st s=resumeK v ⟨true,c.n.toNat,true,ByteArray.empty,false⟩ st ⟨s.j+1,max s.d (st.length+1),s.b+sizeN c⟩:=by
 unfold resumeK;have h2:=pairs_off v (px v) (st.length+1) c.n.toNat none (s.j+1) 0 0 (max s.d (st.length+1)) (s.b+sizeN c);rw [show max (max s.d (st.length+1)) (st.length+1+0)=max s.d (st.length+1) by omega,show s.b+sizeN c+0=s.b+sizeN c by omega] at h2;simp only [Bool.false_eq_true,if_false];rw [h2];unfold resumeV;rw [px_eq,pstep,h];simp only
 rw [if_neg (by rw [hp];simp),if_neg (by omega),if_pos hk];cases pairs v (px v) 0 c.n.toNat none ⟨s.j+1,0,0⟩ with
 | none=>rfl
 | some t =>
  simp only [Option.map_some,Option.bind_some];congr 2
  ·omega
  ·omega
theorem resume_start (v:List CellD):resumeV v [] ⟨0,0,0⟩=px v 0:=by
 unfold resumeV;cases px v 0 with
 | none=>rfl
 | some r=>simp [cont]
def outB (c:CellD):Bool:=decide (c.kind=3) && !(decide (-1000000000000≤c.int) && decide (c.int≤1000000000000))
def longB (c:CellD):Bool:=decide (200<c.str.size)
def checkF (v:List CellD):Int :=
 match px v 0 with
 | none=>eSyntax
 | some r=>if r.j≠v.length then eSyntax else if v.any outB then eRange else if v.any longB || (decide (200<v.length) || (decide (8<r.d) || decide (4000<r.b))) then eLimit else 0
theorem px_cases {l:List CellD} {i:Nat} {r:Sh} {c:CellD} (hr:px l i=some r) (hc:l[i]? = some c):plainB c=true ∧
  ((c.kind=5∧∃ t,elems (px l) 0 c.n.toNat ⟨i+1,0,0⟩=some t∧r=⟨t.j,t.d+1,sizeN c+t.b⟩)∨(c.kind=6∧∃ t,pairs l (px l) 0 c.n.toNat none ⟨i+1,0,0⟩=some t∧r=⟨t.j,t.d+1,sizeN c+t.b⟩)∨(¬ c.kind=5∧¬ c.kind=6∧r=⟨i+1,1,sizeN c⟩)):=by
 rw [px_eq,pstep,hc] at hr;simp only at hr;split at hr
 ·cases hr
 rename_i hp;refine ⟨by simpa using hp,?_⟩
 split at hr
 ·rename_i h5
  cases ht:elems (px l) 0 c.n.toNat ⟨i+1,0,0⟩ with
  | none=>rw [ht] at hr;cases hr
  | some t=>rw [ht] at hr;simp at hr;exact .inl ⟨h5,t,rfl,hr.symm⟩
 split at hr
 ·rename_i h6
  cases ht:pairs l (px l) 0 c.n.toNat none ⟨i+1,0,0⟩ with
  | none=>rw [ht] at hr;cases hr
  | some t=>rw [ht] at hr;simp at hr;exact .inr (.inl ⟨h6,t,rfl,hr.symm⟩)
 ·rename_i h5 h6
  simp at hr
  exact .inr (.inr ⟨h5,h6,hr.symm⟩)
theorem za9Y {g:Nat→Option Sh} {L k:Nat} {s t:Sh} (h:elems g L (k+1) s=some t):∃ r,g s.j=some r∧elems g L k ⟨r.j,max s.d (L+r.d),s.b+r.b⟩=some t:=by
 simp only [elems] at h;cases hr:g s.j with
 | none=>rw [hr] at h;cases h
 | some r=>rw [hr] at h;exact ⟨r,rfl,h⟩
theorem za8Y {v:List CellD} {g:Nat→Option Sh} {L k:Nat} {last:Option ByteArray} {s t:Sh} (h:pairs v g L (k+1) last s=some t) :
  ∃ c r,v[s.j]? = some c∧keyOk last c=true∧g (s.j+1)=some r∧pairs v g L k (some c.str) ⟨r.j,max s.d (L+r.d),s.b+(quotedN c.str+1)+r.b⟩=some t:=by
 simp only [pairs] at h;cases hc:v[s.j]? with
 | none=>rw [hc] at h;cases h
 | some c =>
  rw [hc] at h;simp only at h;split at h
  ·rename_i hk
   cases hr:g (s.j+1) with
   | none=>rw [hr] at h;cases h
   | some r=>rw [hr] at h;exact ⟨c,r,rfl,hk,rfl,h⟩
  ·cases h
theorem zddY {g:Nat→Option Sh} {L k:Nat} {s r:Sh} (h:g s.j=some r):elems g L (k+1) s=elems g L k ⟨r.j,max s.d (L+r.d),s.b+r.b⟩:=by simp only [elems];rw [h];rfl
theorem pairs_some {v:List CellD} {g:Nat→Option Sh} {L k:Nat} {last:Option ByteArray} {s r:Sh} {c:CellD} (hc:v[s.j]? = some c) (hk:keyOk last c=true) (h:g (s.j+1)=some r) :
  pairs v g L (k+1) last s=pairs v g L k (some c.str) ⟨r.j,max s.d (L+r.d),s.b+(quotedN c.str+1)+r.b⟩:=by
 simp only [pairs];rw [hc];simp only;rw [if_pos hk,h];rfl
def SmallC (c:CellD):Prop:=(plainB c=true→c.kind≠5→c.kind≠6→0≤sizeN c∧sizeN c≤562949953421312)∧(0≤quotedN c.str∧quotedN c.str≤562949953421311)
theorem elems_b {g:Nat→Option Sh} (hg:∀ j s,g j=some s→0≤s.b∧s.b≤562949953421312 * ((s.j:Int) - j)) (hj:∀ j s,g j=some s→j<s.j):∀ k s t,elems g 0 k s=some t→s.j+k≤t.j∧s.b≤t.b∧t.b≤s.b+562949953421312 * ((t.j:Int) - s.j)
 | 0,s,t,e=>by simp [elems] at e;subst e;exact ⟨Nat.le_refl _,Int.le_refl _,by omega⟩
 | k+1,s,t,e=>by
  obtain ⟨r,hr,e'⟩:=za9Y e;have h1:=hg _ _ hr;have h2:=hj _ _ hr;have h3:=elems_b hg hj k _ t e';dsimp only at h3;omega
theorem pairs_b {v:List CellD} {g:Nat→Option Sh} (hv:∀ c∈v,SmallC c) (hg:∀ j s,g j=some s→0≤s.b∧s.b≤562949953421312 * ((s.j:Int) - j)) (hj:∀ j s,g j=some s→j<s.j):∀ k last s t,pairs v g 0 k last s=some t→s.j+k≤t.j∧s.b≤t.b∧t.b≤s.b+562949953421312 * ((t.j:Int) - s.j)
 | 0,last,s,t,e=>by simp [pairs] at e;subst e;exact ⟨Nat.le_refl _,Int.le_refl _,by omega⟩
 | k+1,last,s,t,e=>by
  obtain ⟨c,r,hc,_,hr,e'⟩:=za8Y e;have h1:=hg _ _ hr;have h2:=hj _ _ hr;have h3:=pairs_b hv hg hj k _ _ t e';have h4:=(hv c (List.mem_of_getElem? hc)).2;dsimp only at h3;omega
theorem parse_b (v:List CellD) (hl:v.length≤10000) (hv:∀ c∈v,SmallC c):∀ f i s,parse v f i=some s→0≤s.b∧s.b≤562949953421312 * ((s.j:Int) - i)
 | 0,i,s,h=>by cases h
 | f+1,i,s,h=>by
  have hadv:=zaoY v (f+1) i s h;simp only [parse,pstep] at h;cases hc:v[i]? with
  | none=>rw [hc] at h;cases h
  | some c =>
   rw [hc] at h;simp only at h;have hsm:=hv c (List.mem_of_getElem? hc);split at h
   ·cases h
   rename_i hp;have hp':plainB c=true:=by simpa using hp
   split at h
   ·rename_i h5
    cases ht:elems (parse v f) 0 c.n.toNat ⟨i+1,0,0⟩ with
    | none=>rw [ht] at h;cases h
    | some t =>
     rw [ht] at h;simp at h
     have:=elems_b (parse_b v hl hv f) (fun j s hs=>(zaoY v f j s hs).1) _ _ _ ht
     have hz:sizeN c=2+max 0 (c.n - 1):=by simp [sizeN,h5]
     subst h;dsimp only at this hadv ⊢;omega
   split at h
   ·rename_i h5 h6
    cases ht:pairs v (parse v f) 0 c.n.toNat none ⟨i+1,0,0⟩ with
    | none=>rw [ht] at h;cases h
    | some t =>
     rw [ht] at h;simp at h
     have:=pairs_b hv (parse_b v hl hv f) (fun j s hs=>(zaoY v f j s hs).1) _ _ _ _ ht
     have hz:sizeN c=2+max 0 (c.n - 1):=by simp [sizeN,h6]
     subst h;dsimp only at this hadv ⊢;omega
   ·rename_i h5 h6
    simp at h
    subst h
    have:=hsm.1 hp' h5 h6
    dsimp only;omega
theorem px_b {l:List CellD} (hl:l.length≤10000) (hv:∀ c∈l,SmallC c) {i:Nat} {r:Sh} (h:px l i=some r):0≤r.b∧r.b≤562949953421312 * ((r.j:Int) - i):=parse_b l hl hv _ i r h
def okC (c:CellD):Prop:=c.str.size≤140737488351232∧(-9223372036854775808≤c.int∧c.int≤9223372036854775807)∧c.n≤9223372036854775807
def outs (l:List CellD):Bool:=l.any outB
def longs (l:List CellD):Bool:=l.any longB
theorem outs_snoc (l:List CellD) (k:Nat) (h:k<l.length):outs (l.take (k+1))=(outs (l.take k) || outB l[k]):=by
 unfold outs;rw [List.take_succ_eq_append_getElem h,List.any_append];simp
theorem longs_snoc (l:List CellD) (k:Nat) (h:k<l.length):longs (l.take (k+1))=(longs (l.take k) || longB l[k]):=by
 unfold longs;rw [List.take_succ_eq_append_getElem h,List.any_append];simp
theorem zc4Y:∀ k u:Nat,u<10 ^ (k+1)→Lib.nDigits u≤k+1
 | 0,u,h=>by rw [Lib.nDigits_small (by simpa using h)];exact Nat.le_refl _
 | k+1,u,h=>by
  by_cases h10:u<10
  ·rw [Lib.nDigits_small h10];omega
  ·rw [Lib.nDigits_big h10]
   have:=zc4Y k (u / 10) (by
    rw [Nat.pow_succ] at h;exact Nat.div_lt_of_lt_mul (by omega))
   omega
theorem itoa_len (n:Int) (h : -9223372036854775808≤n∧n≤9223372036854775807):itoaLen n≤10000:=by
 unfold itoaLen Lib.itoa;split
 ·rw [List.length_cons,Lib.decDigits_length]
  have:=zc4Y 19 n.natAbs (by omega)
  omega
 ·rw [Lib.decDigits_length]
  have:=zc4Y 19 n.toNat (by omega)
  omega
theorem size_bd {c:CellD} (hp:plainB c=true) (ho:okC c) (hn:c.n≤10000):0≤sizeN c∧sizeN c≤600000000000000:=by
 have h1:c.str.data.toList.count 34≤c.str.size:=by have:=List.count_le_length (a:=(34:UInt8)) (l:=c.str.data.toList);simpa using this
 have h2:c.str.data.toList.count 92≤c.str.size:=by have:=List.count_le_length (a:=(92:UInt8)) (l:=c.str.data.toList);simpa using this
 have h3:=ho.1;have h4:=itoa_len c.int ho.2.1;unfold sizeN;split
 ·omega
 split
 ·rename_i hk
  unfold plainB at hp;rw [if_neg (by omega),if_pos hk] at hp;simp at hp
  omega
 split
 ·omega
 split
 ·unfold quotedN;omega
 ·omega
theorem zbaY {c:CellD} (h:okC c):SmallC c:=by
 have h1:c.str.data.toList.count 34≤c.str.size:=by have:=List.count_le_length (a:=(34:UInt8)) (l:=c.str.data.toList);simpa using this
 have h2:c.str.data.toList.count 92≤c.str.size:=by have:=List.count_le_length (a:=(92:UInt8)) (l:=c.str.data.toList);simpa using this
 have h3:=h.1;refine ⟨fun hp h5 h6=>?_,by unfold quotedN;omega⟩
 have h4:=itoa_len c.int h.2.1;unfold sizeN;split
 ·omega
 split
 ·rename_i hk
  unfold plainB at hp;rw [if_neg (by omega),if_pos hk] at hp;simp at hp
  omega
 split
 ·omega
 split
 ·unfold quotedN;omega
 ·rename_i k1 k2 k3 k4
  unfold plainB at hp;rw [if_neg k1,if_neg k2,if_neg k3,if_neg k4,if_neg (by omega)] at hp;cases hp
structure InsD where
 op:Int
 a:Int
 s:ByteArray
 keys:List ByteArray
def StrOk (s:ByteArray):Prop:=txtB s=true∧s.size≤200
def AscAt (l:List ByteArray) (i:Nat) (h:i<l.length):Prop:=StrOk l[i]∧(0<i→sleB l[i] (l[i - 1]'(by omega))=false)
def AscOk (l:List ByteArray):Prop:=∀ i (h:i<l.length),AscAt l i h
def builtL:List (List UInt8 × Int):=[([108,101,110],1),([115,116,114],1),([105,110,116],1),([112,117,115,104],2),([112,117,116],3),([107,101,121,115],1),([104,97,115],2),([102,97,105,108],1)]
def hostL:List (List UInt8 × Int):=[([103,101,116],1),([112,117,116],2),([100,101,108,101,116,101],1),([115,101,110,100],2),([116,105,109,101,114],3),([115,105,103,110,97,108],2),([115,101,99,114,101,116],1),([102,101,116,99,104],2),([110,111,119],0),([108,111,103],1)]
def lookL (l:List (List UInt8 × Int)) (s:ByteArray):Option Int:=l.lookup s.toList
def binL:List (List UInt8):=[[43],[45],[42],[47],[37],[61,61],[33,61],[60],[60,61],[62],[62,61]]
def getD (d:List Int) (k:Nat):Int:=d.getD k (-1)
theorem quotedN_le (s:ByteArray):quotedN s≤3 * (s.size:Int)+2:=by
 unfold quotedN;have h1:s.data.toList.count 34≤s.size:=by have:=List.count_le_length (a:=(34:UInt8)) (l:=s.data.toList);simpa using this
 have h2:s.data.toList.count 92≤s.size:=by have:=List.count_le_length (a:=(92:UInt8)) (l:=s.data.toList);simpa using this
 omega
def strC (s:ByteArray):CellD:=⟨4,0,s,0⟩
theorem px_str (s:ByteArray):px [strC s] 0=if txtB s=true then some ⟨1,1,quotedN s⟩ else none:=by
 rw [px_eq,pstep];simp only [List.getElem?_cons_zero];by_cases h:txtB s=true
 ·simp [strC,plainB,sizeN,h]
 ·simp [strC,plainB,h]
theorem zblY (s:ByteArray):checkF [strC s]=0↔txtB s=true∧s.size≤200:=by
 unfold checkF;rw [px_str];have hq:=quotedN_le s;by_cases h:txtB s=true
 ·rw [if_pos h]
  simp only [List.length_singleton,ne_eq,not_true_eq_false,if_false];have ho:([strC s]:List CellD).any outB=false:=by simp [outB,strC]
  rw [ho];by_cases hs:s.size≤200
  ·have hl:([strC s]:List CellD).any longB=false:=by simp [longB,strC];omega
   rw [hl];have h4:¬ 4000<quotedN s:=by omega
   simp [h,hs,h4]
  ·have hl:([strC s]:List CellD).any longB=true:=by simp [longB,strC];omega
   rw [hl];simp [h,hs,eLimit]
 ·rw [if_neg h]
  simp [h,eSyntax]
def sec (v:ValD) (a b:Nat):ValD:=(v.drop a).take (b - a)
theorem sec_get (v:ValD) (a b i:Nat) (h:a+i<b):(sec v a b)[i]? = v[a+i]?:=by
 unfold sec;rw [List.getElem?_take,if_pos (by omega),List.getElem?_drop]
theorem sec_len (v:ValD) (a b:Nat) (hb:b≤v.length):(sec v a b).length=b - a:=by unfold sec;simp;omega
def shS (a:Nat) (s:Sh):Sh:=⟨s.j - a,s.d,s.b⟩
def LikeG (a b:Nat) (g g':Nat→Option Sh):Prop:=∀ i s,g (a+i)=some s→s.j≤b→g' i=some (shS a s)
theorem elems_sec {a b:Nat} {g g':Nat→Option Sh} (hl:LikeG a b g g') (hadv:∀ j s,g j=some s→j<s.j):∀ k s t,a≤s.j→elems g 0 k s=some t→t.j≤b→elems g' 0 k (shS a s)=some (shS a t)
 | 0,s,t,_,h,_=>by
  simp only [elems,Option.some.injEq] at h ⊢;rw [h]
 | k+1,s,t,hs,h,hb=>by
  obtain ⟨r,hr,h2⟩:=za9Y h;have hr1:=hadv _ _ hr;have hrb:r.j≤t.j:=elems_mono hadv k ⟨r.j,max s.d (0+r.d),s.b+r.b⟩ t h2;have he:s.j=a+(s.j - a):=by omega
  rw [he] at hr;have h3:=hl _ _ hr (by omega);have h4:=elems_sec hl hadv k ⟨r.j,max s.d (0+r.d),s.b+r.b⟩ t (by simp only;omega) h2 hb;rw [zddY (show g' (shS a s).j=some (shS a r) from h3)];exact h4
where elems_mono {g:Nat→Option Sh} (hadv:∀ j s,g j=some s→j<s.j):∀ k (s t:Sh),elems g 0 k s=some t→s.j≤t.j
 | 0,s,t,h=>by simp [elems] at h;rw [h];exact Nat.le_refl _
 | k+1,s,t,h=>by
  obtain ⟨r,hr,h2⟩:=za9Y h
  have:=hadv _ _ hr
  have:=elems_mono hadv k _ t h2
  simp only at this;omega
theorem pairs_mono {v:ValD} {g:Nat→Option Sh} (hadv:∀ j s,g j=some s→j<s.j):∀ k last (s t:Sh),pairs v g 0 k last s=some t→s.j≤t.j
 | 0,last,s,t,h=>by simp [pairs] at h;rw [h];exact Nat.le_refl _
 | k+1,last,s,t,h=>by
  obtain ⟨c,r,_,_,hr,h2⟩:=za8Y h
  have:=hadv _ _ hr
  have:=pairs_mono hadv k _ _ t h2
  simp only at this;omega
theorem pairs_sec {v:ValD} {a b:Nat} {g g':Nat→Option Sh} (hl:LikeG a b g g') (hadv:∀ j s,g j=some s→j<s.j):∀ k last s t,a≤s.j→pairs v g 0 k last s=some t→t.j≤b→pairs (sec v a b) g' 0 k last (shS a s)=some (shS a t)
 | 0,last,s,t,_,h,_=>by
  simp only [pairs,Option.some.injEq] at h ⊢;rw [h]
 | k+1,last,s,t,hs,h,hb=>by
  obtain ⟨c,r,hc,hk,hr,h2⟩:=za8Y h;have hr1:=hadv _ _ hr;have hrb:r.j≤t.j:=pairs_mono hadv k _ ⟨r.j,max s.d (0+r.d),s.b+(quotedN c.str+1)+r.b⟩ t h2;have he:s.j+1=a+(s.j - a+1):=by omega
  rw [he] at hr;have h3:=hl _ _ hr (by omega);have h4:=pairs_sec hl hadv k (some c.str) ⟨r.j,max s.d (0+r.d),s.b+(quotedN c.str+1)+r.b⟩ t (by simp only;omega) h2 hb
  have hc':(sec v a b)[(shS a s).j]? = some c:=by
   show (sec v a b)[s.j - a]? = some c;rw [sec_get v a b _ (by omega),show a+(s.j - a)=s.j by omega];exact hc
  rw [pairs_some hc' hk (show g' ((shS a s).j+1)=some (shS a r) from h3)];exact h4
theorem parse_sec (v:ValD) (a b:Nat) (hb:b≤v.length):∀ f i s,parse v f (a+i)=some s→s.j≤b→px (sec v a b) i=some (shS a s)
 | 0,i,s,h,_=>by cases h
 | f+1,i,s,h,hsb=>by
  have hadv:=zaoY v (f+1) _ _ h;have hl:LikeG a b (parse v f) (px (sec v a b)):=fun j r hr hrb=>parse_sec v a b hb f j r hr hrb
  have hga:∀ j r,parse v f j=some r→j<r.j:=fun j r hr=>(zaoY v f j r hr).1
  simp only [parse,pstep] at h;rw [px_eq,pstep,sec_get v a b i (by omega)];cases hc:v[a+i]? with
  | none=>rw [hc] at h;cases h
  | some c =>
   rw [hc] at h;simp only at h ⊢;split at h
   ·cases h
   rename_i hp;rw [if_neg hp];split at h
   ·rename_i h5
    rw [if_pos h5];cases ht:elems (parse v f) 0 c.n.toNat ⟨a+i+1,0,0⟩ with
    | none=>rw [ht] at h;cases h
    | some t =>
     rw [ht] at h;simp at h
     subst h;have h6:=elems_sec hl hga _ ⟨a+i+1,0,0⟩ t (by simp only;omega) ht hsb;have e:shS a ⟨a+i+1,0,0⟩=⟨i+1,0,0⟩:=by unfold shS;simp only [Sh.mk.injEq,and_true];omega
     rw [e] at h6;rw [h6];rfl
   rename_i h5;rw [if_neg h5];split at h
   ·rename_i h6
    rw [if_pos h6];cases ht:pairs v (parse v f) 0 c.n.toNat none ⟨a+i+1,0,0⟩ with
    | none=>rw [ht] at h;cases h
    | some t =>
     rw [ht] at h;simp at h
     subst h;have h7:=pairs_sec hl hga _ none ⟨a+i+1,0,0⟩ t (by simp only;omega) ht hsb;have e:shS a ⟨a+i+1,0,0⟩=⟨i+1,0,0⟩:=by unfold shS;simp only [Sh.mk.injEq,and_true];omega
     rw [e] at h7;rw [h7];rfl
   ·rename_i h6
    rw [if_neg h6];simp at h
    subst h;simp only [shS,Option.some.injEq,Sh.mk.injEq,and_true];omega
theorem px_sec {v:ValD} {a b:Nat} {r:Sh} (h:px v a=some r) (hb:r.j≤b) (hbl:b≤v.length):px (sec v a b) 0=some ⟨r.j - a,r.d,r.b⟩:=parse_sec v a b hbl _ 0 r h hb
theorem checkF_zero {v:ValD}:checkF v=0↔∃ r,px v 0=some r∧r.j=v.length∧v.any outB=false∧v.any longB=false∧v.length≤200∧r.d≤8∧r.b≤4000:=by
 unfold checkF;cases h:px v 0 with
 | none=>simp [eSyntax]
 | some r =>
  simp only [Option.some.injEq,exists_eq_left'];by_cases h1:r.j=v.length
  ·rw [if_neg (by simpa using h1)]
   by_cases h2:v.any outB=true
   ·rw [if_pos h2];simp [h2,eRange]
   ·have h2':v.any outB=false:=by simpa using h2
    rw [if_neg h2];split
    ·rename_i h3
     constructor
     ·intro h;simp [eLimit] at h
     ·rintro ⟨_,_,a,b,c,d⟩
      simp [a] at h3
      omega
    ·rename_i h3
     simp at h3
     refine ⟨fun _=>⟨h1,h2',?_,?_⟩,fun _=>rfl⟩
     ·simpa using h3.1
     ·omega
  ·rw [if_pos h1]
   simp [eSyntax,h1]
theorem any_sec {v:ValD} {p:CellD→Bool} (h:v.any p=false) (a b:Nat):(sec v a b).any p=false:=by
 rw [List.any_eq_false] at h ⊢;exact fun x hx=>h x (List.mem_of_mem_drop (List.mem_of_mem_take hx))
theorem check_part {v:ValD} (hv:checkF v=0) {a:Nat} {r:Sh} (h:px v a=some r) (hd:r.d≤8) (hb:r.b≤4000):checkF (sec v a r.j)=0:=by
 obtain ⟨r0,h0,h1,h2,h3,h4,h5,h6⟩:=checkF_zero.1 hv;have hadv:=px_adv h;rw [checkF_zero];have hl:=sec_len v a r.j hadv.2;exact ⟨_,px_sec h (Nat.le_refl _) hadv.2,by rw [hl],any_sec h2 _ _,any_sec h3 _ _,by rw [hl];omega,hd,hb⟩
def PartOk (v:ValD) (m:Bool) (D:Nat) (B:Int) (a:Nat) (key:ByteArray) (x:ValD) (a2:Nat):Prop :=
 ∃ r,(if m=true then ∃ c,v[a]? = some c∧c.kind=4∧plainB c=true∧key=c.str else key=⟨#[]⟩)∧px v (a+m.toNat)=some r∧x=sec v (a+m.toNat) r.j∧a2=r.j∧r.d≤D∧r.b≤B
inductive ChainV (v:ValD) (m:Bool) (D:Nat) (B:Int):Nat→List (ByteArray × ValD)→Nat→Prop
 | nil (a:Nat):ChainV v m D B a [] a
 | cons {a a2 b:Nat} {key:ByteArray} {x:ValD} {l:List (ByteArray × ValD)}:PartOk v m D B a key x a2→ChainV v m D B a2 l b→ChainV v m D B a ((key,x) :: l) b
def AscFrom:Option ByteArray→List ByteArray→Prop
 | _,[]=>True
 | none,k :: r=>AscFrom (some k) r
 | some l,k :: r=>sleB k l=false∧AscFrom (some k) r
theorem elems_ge {g:Nat→Option Sh} (hg:∀ j s,g j=some s→0≤s.b):∀ k (s t:Sh),elems g 0 k s=some t→s.d≤t.d∧s.b≤t.b
 | 0,s,t,h=>by simp [elems] at h;rw [h];exact ⟨Nat.le_refl _,Int.le_refl _⟩
 | k+1,s,t,h=>by
  obtain ⟨r,hr,h2⟩:=za9Y h
  have:=hg _ _ hr
  have:=elems_ge hg k _ t h2
  simp only at this;omega
theorem pairs_ge {v:ValD} {g:Nat→Option Sh} (hv:∀ c∈v,0≤quotedN c.str) (hg:∀ j s,g j=some s→0≤s.b):∀ k last (s t:Sh),pairs v g 0 k last s=some t→s.d≤t.d∧s.b≤t.b
 | 0,last,s,t,h=>by simp [pairs] at h;rw [h];exact ⟨Nat.le_refl _,Int.le_refl _⟩
 | k+1,last,s,t,h=>by
  obtain ⟨c,r,hc,_,hr,h2⟩:=za8Y h
  have:=hg _ _ hr
  have:=hv c (List.mem_of_getElem? hc)
  have:=pairs_ge hv hg k _ _ t h2
  simp only at this;omega
theorem elems_chain {v:ValD} (hg:∀ j s,px v j=some s→0≤s.b):∀ k (s t:Sh),0≤s.b→elems (px v) 0 k s=some t→∃ l,l.length=k∧ChainV v false t.d t.b s.j l t.j
 | 0,s,t,_,h=>by simp [elems] at h;rw [h];exact ⟨[],rfl,.nil _⟩
 | k+1,s,t,hs,h=>by
  obtain ⟨r,hr,h2⟩:=za9Y h;have hb:=hg _ _ hr;have hge:=elems_ge hg k _ t h2;simp only at hge;obtain ⟨l,hl,hc⟩:=elems_chain hg k _ t (by simp only;omega) h2;exact ⟨(⟨#[]⟩,sec v (s.j+false.toNat) r.j) :: l,by simp [hl],.cons ⟨r,rfl,hr,rfl,rfl,by omega,by omega⟩ hc⟩
theorem pairs_chain {v:ValD} (hv:∀ c∈v,0≤quotedN c.str) (hg:∀ j s,px v j=some s→0≤s.b):∀ k last (s t:Sh),0≤s.b→pairs v (px v) 0 k last s=some t→∃ l,l.length=k∧ChainV v true t.d t.b s.j l t.j∧AscFrom last (l.map (·.1))
 | 0,last,s,t,_,h=>by simp [pairs] at h;rw [h];exact ⟨[],rfl,.nil _,by cases last <;> trivial⟩
 | k+1,last,s,t,hs,h=>by
  obtain ⟨c,r,hc,hk,hr,h2⟩:=za8Y h;have hb:=hg _ _ hr;have hq:=hv c (List.mem_of_getElem? hc);have hge:=pairs_ge hv hg k _ _ t h2;simp only at hge;obtain ⟨l,hl,hch,ha⟩:=pairs_chain hv hg k _ _ t (by simp only;omega) h2;unfold keyOk at hk;rw [Bool.and_eq_true,Bool.and_eq_true] at hk;refine ⟨(c.str,sec v (s.j+true.toNat) r.j) :: l,by simp [hl],.cons ⟨r,?_,hr,rfl,rfl,by omega,by omega⟩ hch,?_⟩
  ·rw [if_pos rfl];exact ⟨c,hc,of_decide_eq_true hk.2.1,hk.1,rfl⟩
  ·cases last with
   | none=>exact ha
   | some l=>exact ⟨by simpa using hk.2.2,ha⟩
abbrev ResD:=ValD × Int
def bCel (b:Bool):CellD:=⟨2,if b then 1 else 0,⟨#[]⟩,0⟩
def iCel (n:Int):CellD:=⟨3,n,⟨#[]⟩,0⟩
def sCel (s:ByteArray):CellD:=⟨4,0,s,0⟩
def okR (v:ValD):ResD:=if checkF v=0 then (v,0) else ([],checkF v)
def limR (v:ValD):ResD:=if checkF v=0 then (v,0) else ([],3)
def firstBad:List ValD→Int
 | []=>0
 | x :: r=>if checkF x≠0 then checkF x else firstBad r
def listV (l:List ValD):ValD:=⟨5,0,⟨#[]⟩,(l.length:Nat)⟩ :: l.flatten
def listR (l:List ValD):ResD:=if firstBad l≠0 then ([],firstBad l) else okR (listV l)
def unaryR (op:ByteArray) (v:ValD):ResD :=
 if ¬ (op.toList=[45]∨op.toList=[110,111,116]) then ([],4)
 else if checkF v≠0 then ([],checkF v)
 else match v with
  | []=>([],7)
  | c :: _=>if op.toList=[110,111,116]∧c.kind=2 then ([bCel (decide (c.int=0))],0) else if op.toList=[45]∧c.kind=3 then ([iCel (-c.int)],0) else ([],7)
def inRange (n:Int):Bool:=decide (-1000000000000≤n) && decide (n≤1000000000000)
def numR (n:Int):ResD:=if inRange n=true then ([iCel n],0) else ([],8)
def arithR (op:List UInt8) (a b:Int):ResD :=
 if op=[43] then numR (a+b)
 else if op=[45] then numR (a - b)
 else if op=[42] then numR (a * b)
 else if b=0 then ([],9)
 else if op=[47] then ([iCel (a.fdiv b)],0)
 else ([iCel (a.fmod b)],0)
def cmpL:List (List UInt8):=[[60],[60,61],[62],[62,61]]
def ordB (op:List UInt8) (lt gt:Bool):Bool:=if op=[60] then lt else if op=[60,61] then !gt else if op=[62] then gt else !lt
def sltB (a b:ByteArray):Bool:=Op.bytesLess a.toList b.toList
def binaryR (op:ByteArray) (a b:ValD):ResD :=
 if op.toList ∉ binL then ([],4)
 else if checkF a≠0 then ([],checkF a)
 else if checkF b≠0 then ([],checkF b)
 else if op.toList=[61,61] then ([bCel (decide (a=b))],0)
 else if op.toList=[33,61] then ([bCel (!decide (a=b))],0)
 else match a,b with
  | x :: a',y :: b' =>
   if x.kind≠y.kind then ([],7)
   else if op.toList∈cmpL then
    (if x.kind=3 then ([bCel (ordB op.toList (decide (x.int<y.int)) (decide (y.int<x.int)))],0)
     else if x.kind=4 then ([bCel (ordB op.toList (sltB x.str y.str) (sltB y.str x.str))],0)
     else ([],7))
   else if x.kind=3 then arithR op.toList x.int y.int
   else if op.toList=[43]∧x.kind=4 then limR [sCel (x.str ++ y.str)]
   else if op.toList=[43]∧x.kind=5 then limR (⟨5,0,⟨#[]⟩,x.n+y.n⟩ :: (a' ++ b'))
   else ([],7)
  | _,_=>([],7)
def partsF (v:ValD) (m:Bool):Nat→Nat→List (ByteArray × ValD)
 | 0,_=>[]
 | k+1,a=>match px v (a+m.toNat) with
  | none=>[]
  | some r=>((if m then (v[a]?.map CellD.str).getD ⟨#[]⟩ else ⟨#[]⟩),sec v (a+m.toNat) r.j) :: partsF v m k r.j
def partsOf (v:ValD):List (ByteArray × ValD):=match v with
 | []=>[]
 | c :: _=>partsF v (decide (c.kind=6)) c.n.toNat 1
theorem ChainV.eq {v:ValD} {m:Bool} {D:Nat} {B:Int} {a b:Nat} {l:List (ByteArray × ValD)} (h:ChainV v m D B a l b):partsF v m l.length a=l:=by
 induction h with
 | nil a=>rfl
 | cons hp _ ih =>
  obtain ⟨r,hk,hr,hx,ha,_,_⟩:=hp;simp only [List.length_cons,partsF];rw [hr];simp only
  subst hx ha;rw [ih];congr 2
  cases m with
  | false=>rw [if_neg (by simp)] at hk;simp [hk]
  | true =>
   rw [if_pos rfl] at hk;obtain ⟨c,hc,_,_,he⟩:=hk;simp [hc,he]
theorem zbmY {v:ValD} {c:CellD} (hv:checkF v=0) (hs:∀ x∈v,SmallC x) (hc:v[0]? = some c) (hk:c.kind=5∨c.kind=6) :
  (partsOf v).length=c.n.toNat∧0≤c.n∧ChainV v (decide (c.kind=6)) 7 4000 1 (partsOf v) v.length∧(c.kind=6→AscFrom none ((partsOf v).map (·.1))):=by
 obtain ⟨r,h0,h1,h2,h3,h4,h5,h6⟩:=checkF_zero.1 hv;obtain ⟨hp,hcases⟩:=px_cases h0 hc;have hlen:v.length≤10000:=by omega
 have hg:∀ j s,px v j=some s→0≤s.b:=fun j s h=>(px_b hlen hs h).1
 have hq:∀ x∈v,0≤quotedN x.str:=fun x hx=>(hs x hx).2.1
 have hn:=plain_n hp hk
 have hpo:partsOf v=partsF v (decide (c.kind=6)) c.n.toNat 1:=by
  cases v with
  | nil=>simp at hc
  | cons x t=>simp at hc;subst hc;rfl
 have mono:∀ {m:Bool} {D D':Nat} {B B':Int} {a b:Nat} {l:List (ByteArray × ValD)},D≤D'→B≤B'→ChainV v m D B a l b→ChainV v m D' B' a l b:=by
  intro m D D' B B' a b l hD hB h;induction h with
  | nil a=>exact .nil a
  | cons hp _ ih =>
   obtain ⟨r,p1,p2,p3,p4,p5,p6⟩:=hp;exact .cons ⟨r,p1,p2,p3,p4,by omega,by omega⟩ ih
 rcases hcases with ⟨h5',t,ht,hr⟩ | ⟨h6',t,ht,hr⟩ | ⟨n5,n6,_⟩
 ·obtain ⟨l,hl,hch⟩:=elems_chain hg _ _ t (by simp) ht
  have hsz:0≤sizeN c:=by unfold sizeN;rw [if_neg (by omega),if_neg (by omega),if_neg (by omega),if_neg (by omega)];omega
  subst hr;simp only at h1 h5 h6
  have hch':ChainV v (decide (c.kind=6)) 7 4000 1 l v.length:=by
   rw [show decide (c.kind=6)=false by simp;omega,← h1];exact mono (by omega) (by omega) hch
  have he:=hch'.eq;rw [hl] at he;rw [hpo,he];exact ⟨hl,hn,hch',fun e=>by omega⟩
 ·obtain ⟨l,hl,hch,hasc⟩:=pairs_chain hq hg _ _ _ t (by simp) ht
  have hsz:0≤sizeN c:=by unfold sizeN;rw [if_neg (by omega),if_neg (by omega),if_neg (by omega),if_neg (by omega)];omega
  subst hr;simp only at h1 h5 h6
  have hch':ChainV v (decide (c.kind=6)) 7 4000 1 l v.length:=by
   rw [show decide (c.kind=6)=true by simp [h6'],← h1];exact mono (by omega) (by omega) hch
  have he:=hch'.eq;rw [hl] at he;rw [hpo,he];exact ⟨hl,hn,hch',fun _=>hasc⟩
 ·omega
theorem parts_check {v:ValD} {m:Bool} {a b:Nat} {l:List (ByteArray × ValD)} (hv:checkF v=0) (h:ChainV v m 7 4000 a l b):∀ p∈l,checkF p.2=0:=by
 induction h with
 | nil a=>intro p hp;cases hp
 | cons hp _ ih =>
  obtain ⟨r,_,hr,hx,_,hd,hb⟩:=hp;intro p hp;rcases List.mem_cons.1 hp with rfl | hp
  ·rw [hx];exact check_part hv hr (by omega) (by omega)
  ·exact ih p hp
def shE (n:Nat) (s:Sh):Sh:=⟨n+s.j,s.d,s.b⟩
def LikeE (n:Nat) (g g':Nat→Option Sh):Prop:=∀ i s,g i=some s→g' (n+i)=some (shE n s)
theorem elems_ext {n:Nat} {g g':Nat→Option Sh} (hl:LikeE n g g'):∀ k s t,elems g 0 k s=some t→elems g' 0 k (shE n s)=some (shE n t)
 | 0,s,t,h=>by
  simp only [elems,Option.some.injEq] at h ⊢;rw [h]
 | k+1,s,t,h=>by
  obtain ⟨r,hr,h2⟩:=za9Y h;have h4:=elems_ext hl k ⟨r.j,max s.d (0+r.d),s.b+r.b⟩ t h2;rw [zddY (show g' (shE n s).j=some (shE n r) from hl _ _ hr)];exact h4
theorem mid_get (p u q:ValD) (i:Nat) (h:i<u.length):(p ++ u ++ q)[p.length+i]? = u[i]?:=by
 rw [List.append_assoc,List.getElem?_append_right (by omega),show p.length+i - p.length=i by omega,List.getElem?_append_left h]
theorem pairs_ext {p u q:ValD} {g g':Nat→Option Sh} (hl:LikeE p.length g g'):∀ k last s t,pairs u g 0 k last s=some t→pairs (p ++ u ++ q) g' 0 k last (shE p.length s)=some (shE p.length t)
 | 0,last,s,t,h=>by
  simp only [pairs,Option.some.injEq] at h ⊢;rw [h]
 | k+1,last,s,t,h=>by
  obtain ⟨c,r,hc,hk,hr,h2⟩:=za8Y h;have h3:=hl _ _ hr;have h4:=pairs_ext (q:=q) hl k (some c.str) ⟨r.j,max s.d (0+r.d),s.b+(quotedN c.str+1)+r.b⟩ t h2
  have hc':(p ++ u ++ q)[(shE p.length s).j]? = some c:=by
   show (p ++ u ++ q)[p.length+s.j]? = some c;rw [mid_get p u q _ (List.getElem?_eq_some_iff.1 hc).1];exact hc
  rw [pairs_some hc' hk (show g' ((shE p.length s).j+1)=some (shE p.length r) from h3)];exact h4
theorem parse_ext (p u q:ValD):∀ f i s,parse u f i=some s→px (p ++ u ++ q) (p.length+i)=some (shE p.length s)
 | 0,i,s,h=>by cases h
 | f+1,i,s,h=>by
  have hl:LikeE p.length (parse u f) (px (p ++ u ++ q)):=fun j r hr=>parse_ext p u q f j r hr
  simp only [parse,pstep] at h;cases hc:u[i]? with
  | none=>rw [hc] at h;cases h
  | some c =>
   rw [px_eq,pstep,mid_get p u q i (List.getElem?_eq_some_iff.1 hc).1,hc];rw [hc] at h;simp only at h ⊢;split at h
   ·cases h
   rename_i hp;rw [if_neg hp];split at h
   ·rename_i h5
    rw [if_pos h5];cases ht:elems (parse u f) 0 c.n.toNat ⟨i+1,0,0⟩ with
    | none=>rw [ht] at h;cases h
    | some t =>
     rw [ht] at h;simp at h
     subst h;have h6:=elems_ext hl _ ⟨i+1,0,0⟩ t ht;have e:shE p.length ⟨i+1,0,0⟩=⟨p.length+i+1,0,0⟩:=rfl;rw [e] at h6;rw [h6];rfl
   rename_i h5;rw [if_neg h5];split at h
   ·rename_i h6
    rw [if_pos h6];cases ht:pairs u (parse u f) 0 c.n.toNat none ⟨i+1,0,0⟩ with
    | none=>rw [ht] at h;cases h
    | some t =>
     rw [ht] at h;simp at h
     subst h;have h7:=pairs_ext (q:=q) hl _ none ⟨i+1,0,0⟩ t ht;have e:shE p.length ⟨i+1,0,0⟩=⟨p.length+i+1,0,0⟩:=rfl;rw [e] at h7;rw [h7];rfl
   ·rename_i h6
    rw [if_neg h6];simp at h
    subst h;simp only [shE,Option.some.injEq,Sh.mk.injEq,and_true];omega
theorem px_ext (p q:ValD) {u:ValD} {r:Sh} (h:px u 0=some r):px (p ++ u ++ q) p.length=some ⟨p.length+r.j,r.d,r.b⟩:=parse_ext p u q _ 0 r h
theorem elems_build:∀ (l:List ValD) (p q:ValD) (d:Nat) (b:Int),(∀ x∈l,∃ r,px x 0=some r∧r.j=x.length)→∃ t,elems (px (p ++ l.flatten ++ q)) 0 l.length ⟨p.length,d,b⟩=some t∧t.j=p.length+l.flatten.length
 | [],p,q,d,b,_=>⟨_,rfl,by simp⟩
 | x :: l,p,q,d,b,h=>by
  obtain ⟨r,hr,hj⟩:=h x (by simp);have h1:=px_ext p (l.flatten ++ q) hr;have e:p ++ (x :: l).flatten ++ q=p ++ x ++ (l.flatten ++ q):=by simp
  obtain ⟨t,ht,htj⟩:=elems_build l (p ++ x) q (max d (0+r.d)) (b+r.b) (fun y hy=>h y (by simp [hy]));refine ⟨t,?_,?_⟩
  ·rw [List.length_cons,zddY (r:=⟨p.length+r.j,r.d,r.b⟩) (by rw [e];exact h1)]
   rw [e,← List.append_assoc];rw [List.length_append] at ht;rw [hj];exact ht
  ·rw [htj];simp;omega
theorem firstBad_zero {l:List ValD} (h:∀ x∈l,checkF x=0):firstBad l=0:=by
 induction l with
 | nil=>rfl
 | cons x r ih =>
  unfold firstBad;rw [if_neg (by simp [h x])];exact ih (fun y hy=>h y (by simp [hy]))
theorem any_flatten {p:CellD→Bool} {l:List ValD} (h:∀ x∈l,x.any p=false):l.flatten.any p=false:=by
 rw [List.any_eq_false];intro c hc;obtain ⟨x,hx,hcx⟩:=List.mem_flatten.1 hc;exact List.any_eq_false.1 (h x hx) c hcx
theorem check_cases {v:ValD} {r:Sh} (h:px v 0=some r) (hj:r.j=v.length) (ho:v.any outB=false):checkF v=0∨checkF v=3:=by
 unfold checkF;rw [h];simp only
 rw [if_neg (by simpa using hj),if_neg (by simp [ho])];split
 ·exact .inr rfl
 ·exact .inl rfl
theorem check_listV {l:List ValD} (h:∀ x∈l,checkF x=0):checkF (listV l)=0∨checkF (listV l)=3:=by
 have hx:∀ x∈l,∃ r,px x 0=some r∧r.j=x.length:=fun x hx=>by
  obtain ⟨r,a,b,_⟩:=checkF_zero.1 (h x hx);exact ⟨r,a,b⟩
 have ho:∀ x∈l,x.any outB=false:=fun x hx=>by
  obtain ⟨r,_,_,a,_⟩:=checkF_zero.1 (h x hx);exact a
 obtain ⟨t,ht,hj⟩:=elems_build l [⟨5,0,⟨#[]⟩,(l.length:Nat)⟩] [] 0 0 hx;have e:[(⟨5,0,⟨#[]⟩,(l.length:Nat)⟩:CellD)] ++ l.flatten ++ []=listV l:=by simp [listV]
 rw [e] at ht
 have hp:px (listV l) 0=some ⟨t.j,t.d+1,sizeN ⟨5,0,⟨#[]⟩,(l.length:Nat)⟩ + t.b⟩:=by
  rw [px_eq,pstep];have hc:(listV l)[0]? = some ⟨5,0,⟨#[]⟩,(l.length:Nat)⟩:=rfl;rw [hc];simp only
  have hpl:plainB ⟨5,0,⟨#[]⟩,(l.length:Nat)⟩=true:=by
   simp [plainB]
   rfl
  rw [if_neg (by rw [hpl];simp),if_pos trivial];have ht':elems (px (listV l)) 0 ((l.length:Nat):Int).toNat ⟨0+1,0,0⟩=some t:=by simpa using ht
  rw [ht'];rfl
 refine check_cases hp ?_ ?_
 ·show t.j=_
  rw [hj];simp [listV]
  omega
 ·unfold listV
  rw [List.any_cons,any_flatten ho];rfl
theorem listR_eq {l:List ValD} (h:∀ x∈l,checkF x=0):listR l=limR (listV l):=by
 unfold listR okR limR;rw [if_neg (by simp [firstBad_zero h])];rcases check_listV h with e | e
 ·rw [if_pos e,if_pos e]
 ·rw [if_neg (by omega),if_neg (by omega),e]
theorem sec_split (v:ValD) (a c b:Nat) (h1:a≤c) (h2:c≤b):sec v a b=sec v a c ++ sec v c b:=by
 unfold sec;have e:b - a=(c - a)+(b - c):=by omega
 rw [e,List.take_add,List.drop_drop,show a+(c - a)=c by omega]
theorem ChainV.le {v:ValD} {m:Bool} {D:Nat} {B:Int} {a b:Nat} {l:List (ByteArray × ValD)} (h:ChainV v m D B a l b):a≤b:=by
 induction h with
 | nil a=>exact Nat.le_refl _
 | cons hp _ ih =>
  obtain ⟨r,_,hr,_,ha,_,_⟩:=hp
  have:=(px_adv hr).1
  omega
theorem ChainV.flat {v:ValD} {D:Nat} {B:Int} {a b:Nat} {l:List (ByteArray × ValD)} (h:ChainV v false D B a l b):(l.map (·.2)).flatten=sec v a b:=by
 induction h with
 | nil a=>simp [sec]
 | @cons a a2 b key x l hp hc ih =>
  obtain ⟨r,_,hr,hx,ha,_,_⟩:=hp;have hx':x=sec v a r.j:=hx;have h1:a<r.j:=(px_adv hr).1;have h2:=hc.le;simp only [List.map_cons,List.flatten_cons];rw [ih,hx',ha,← sec_split v a r.j b (by omega) (by omega)]
theorem sec_one (v:ValD):sec v 1 v.length=v.tail:=by
 unfold sec;cases v with
 | nil=>rfl
 | cons c t=>simp
theorem zb4Y {v:ValD} {c:CellD} {t:ValD} (hv:checkF v=0) (hs:∀ x∈v,SmallC x) (he:v=c :: t) (hk:c.kind=5) :
  ((partsOf v).map (·.2)).flatten=t∧((partsOf v).length:Int)=c.n∧∀ x∈(partsOf v).map (·.2),checkF x=0:=by
 obtain ⟨h1,h2,h3,_⟩:=zbmY hv hs (c:=c) (by rw [he];rfl) (.inl hk);rw [show decide (c.kind=6)=false by simp;omega] at h3;refine ⟨?_,by omega,fun x hx=>?_⟩
 ·rw [h3.flat,sec_one,he];rfl
 ·obtain ⟨p,hp,rfl⟩:=List.mem_map.1 hx
  exact parts_check hv h3 p hp
theorem join_eq {a b:ValD} {x y:CellD} {a' b':ValD} (ha:checkF a=0) (hb:checkF b=0) (sa:∀ c∈a,SmallC c) (sb:∀ c∈b,SmallC c) (ea:a=x :: a') (eb:b=y :: b') (kx:x.kind=5) (ky:y.kind=5) :
  listR ((partsOf a).map (·.2) ++ (partsOf b).map (·.2))=limR (⟨5,0,⟨#[]⟩,x.n+y.n⟩ :: (a' ++ b')):=by
 obtain ⟨a1,a2,a3⟩:=zb4Y ha sa ea kx;obtain ⟨b1,b2,b3⟩:=zb4Y hb sb eb ky
 rw [listR_eq (fun z hz=>by
  rcases List.mem_append.1 hz with h | h
  ·exact a3 z h
  ·exact b3 z h)]
 congr 1
 unfold listV;rw [List.flatten_append,a1,b1];congr 2
 simp
 omega
theorem px_sCel (s:ByteArray) (h:txtB s=true):px [sCel s] 0=some ⟨1,1,quotedN s⟩:=by
 rw [px_eq,pstep];have hp:plainB (sCel s)=true:=by simp [plainB,sCel,h]
 have hc:([sCel s]:ValD)[0]? = some (sCel s):=rfl;rw [hc];simp only
 rw [if_neg (by rw [hp];simp),if_neg (by simp [sCel]),if_neg (by simp [sCel])];simp [sizeN,sCel]
theorem check_str_cases (s:ByteArray) (h:txtB s=true):checkF [sCel s]=0∨checkF [sCel s]=3 :=
 check_cases (px_sCel s h) rfl (by simp [outB,sCel])
theorem okR_str (s:ByteArray) (h:txtB s=true):okR [sCel s]=limR [sCel s]:=by
 unfold okR limR;rcases check_str_cases s h with e | e
 ·rw [if_pos e,if_pos e]
 ·rw [if_neg (by omega),if_neg (by omega),e]
theorem count_two (l:List UInt8):l.count 34+l.count 92≤l.length:=by
 induction l with
 | nil=>simp
 | cons c r ih =>
  simp only [List.count_cons,List.length_cons];by_cases h1:c=34
  ·subst h1;simp;omega
  ·by_cases h2:c=92
   ·subst h2;simp;omega
   ·simp [h1,h2];omega
theorem quoted_le (s:ByteArray):quotedN s≤2+2 * (s.size:Int):=by
 unfold quotedN
 have:=count_two s.data.toList
 have e:s.data.toList.length=s.size:=by rw [Array.length_toList];rfl
 omega
theorem check_str {s:ByteArray} (h:txtB s=true) (hl:s.size≤200):checkF [sCel s]=0:=by
 rw [checkF_zero];have hlb:longB (sCel s)=false:=by unfold longB;exact decide_eq_false (by show ¬ 200<s.size;omega)
 have hob:outB (sCel s)=false:=rfl;refine ⟨_,px_sCel s h,rfl,by rw [List.any_cons,hob];rfl,by rw [List.any_cons,hlb];rfl,by show 1≤200;omega,by show 1≤8;omega,?_⟩
 have:=quoted_le s
 simp only
 omega
theorem px_int (n:Int):px [iCel n] 0=some ⟨1,1,(itoaLen n:Nat)⟩:=by
 rw [px_eq,pstep]
 have hp:plainB (iCel n)=true:=by
  simp [plainB,iCel]
  rfl
 have hc:([iCel n]:ValD)[0]? = some (iCel n):=rfl;rw [hc];simp only
 rw [if_neg (by rw [hp];simp),if_neg (by simp [iCel]),if_neg (by simp [iCel])];simp [sizeN,iCel]
end Go.Proofs.YthiimbhjpdphpaaGreatDoor
