/- GN1 -/
import Derived.Test.YthiimbhjpdphpaaGreatDoorPGN0
import Derived.Laws.Cover1
import Derived.Lib.ItoaNum
set_option linter.unusedVariables false
set_option linter.unusedSimpArgs false
namespace Go.Proofs.YthiimbhjpdphpaaGreatDoor
open Go.RowKit
def itoaLen (n:Int):Nat:=(Lib.itoa n).length
def sleB (a b:ByteArray):Bool:=Op.bytesLess a.toList b.toList || a.toList == b.toList
def eSyntax:Int:=1
def eRange:Int:=2
def eLimit:Int:=3
def txtB (s:ByteArray):Bool:=s.data.toList.all fun b=>decide (32≤b.toNat) && decide (b.toNat≤126)
def quotedN (s:ByteArray):Int:=(s.size:Int)+2+(s.data.toList.count 34:Nat)+(s.data.toList.count 92:Nat)
def plainB (c:CellD):Bool :=
 if c.kind=1 then decide (c.int=0) && (decide (c.str.size=0) && decide (c.n=0))
 else if c.kind=2 then (decide (c.int=0) || decide (c.int=1)) && (decide (c.str.size=0) && decide (c.n=0))
 else if c.kind=3 then decide (c.str.size=0) && decide (c.n=0)
 else if c.kind=4 then decide (c.int=0) && (decide (c.n=0) && txtB c.str)
 else if c.kind=5∨c.kind=6 then decide (c.int=0) && (decide (c.str.size=0) && decide (0≤c.n))
 else false
def sizeN (c:CellD):Int :=
 if c.kind=1 then 4 else if c.kind=2 then 5 - c.int else if c.kind=3 then (itoaLen c.int:Nat) else if c.kind=4 then quotedN c.str else 2+max 0 (c.n - 1)
def keyOk (last:Option ByteArray) (c:CellD):Bool:=plainB c && (decide (c.kind=4) && (match last with | none=>true | some l=>!sleB c.str l))
structure Sh where
 j:Nat
 d:Nat
 b:Int
def elems (g:Nat→Option Sh) (L:Nat):Nat→Sh→Option Sh
 | 0,s=>some s
 | k+1,s=>(g s.j).bind fun r=>elems g L k ⟨r.j,max s.d (L+r.d),s.b+r.b⟩
def pairs (v:List CellD) (g:Nat→Option Sh) (L:Nat):Nat→Option ByteArray→Sh→Option Sh
 | 0,_,s=>some s
 | k+1,last,s=>match v[s.j]? with
  | none=>none
  | some c=>if keyOk last c then (g (s.j+1)).bind fun r=>pairs v g L k (some c.str) ⟨r.j,max s.d (L+r.d),s.b+(quotedN c.str+1)+r.b⟩ else none
def pstep (v:List CellD) (g:Nat→Option Sh) (i:Nat):Option Sh :=
 match v[i]? with
 | none=>none
 | some c =>
  if plainB c=false then none
  else if c.kind=5 then (elems g 0 c.n.toNat ⟨i+1,0,0⟩).map fun s=>⟨s.j,s.d+1,sizeN c+s.b⟩
  else if c.kind=6 then (pairs v g 0 c.n.toNat none ⟨i+1,0,0⟩).map fun s=>⟨s.j,s.d+1,sizeN c+s.b⟩
  else some ⟨i+1,1,sizeN c⟩
def parse (v:List CellD):Nat→Nat→Option Sh
 | 0,_=>none
 | f+1,i=>pstep v (parse v f) i
def px (v:List CellD) (i:Nat):Option Sh:=parse v (v.length+1) i
theorem elems_adv {g:Nat→Option Sh} {N:Nat} (hg:∀ j s,g j=some s→j<s.j∧s.j≤N) (L:Nat):∀ k s t,s.j≤N→elems g L k s=some t→s.j+k≤t.j∧t.j≤N
 | 0,s,t,hs,h=>by simp [elems] at h;subst h;exact ⟨by omega,hs⟩
 | k+1,s,t,hs,h=>by
  simp only [elems] at h;cases hr:g s.j with
  | none=>rw [hr] at h;cases h
  | some r =>
   rw [hr] at h;have h1:=hg _ _ hr;have h2:=elems_adv hg L k ⟨r.j,max s.d (L+r.d),s.b+r.b⟩ t h1.2 h;exact ⟨by have:=h2.1;simp at this;omega,h2.2⟩
theorem pairs_adv {v:List CellD} {g:Nat→Option Sh} {N:Nat} (hg:∀ j s,g j=some s→j<s.j∧s.j≤N) (L:Nat):∀ k last s t,s.j≤N→pairs v g L k last s=some t→s.j+k≤t.j∧t.j≤N
 | 0,last,s,t,hs,h=>by simp [pairs] at h;subst h;exact ⟨by omega,hs⟩
 | k+1,last,s,t,hs,h=>by
  simp only [pairs] at h;cases hc:v[s.j]? with
  | none=>rw [hc] at h;cases h
  | some c =>
   rw [hc] at h;simp only at h;split at h
   ·cases hr:g (s.j+1) with
    | none=>rw [hr] at h;cases h
    | some r =>
     rw [hr] at h;have h1:=hg _ _ hr;have h2:=pairs_adv hg L k (some c.str) ⟨r.j,max s.d (L+r.d),s.b+(quotedN c.str+1)+r.b⟩ t h1.2 h;exact ⟨by have:=h2.1;simp at this;omega,h2.2⟩
   ·cases h
theorem za0Y (v:List CellD):∀ f i s,parse v f i=some s→i<s.j∧s.j≤v.length
 | 0,i,s,h=>by cases h
 | f+1,i,s,h=>by
  simp only [parse,pstep] at h;cases hc:v[i]? with
  | none=>rw [hc] at h;cases h
  | some c =>
   have hi:i<v.length:=(List.getElem?_eq_some_iff.1 hc).1;rw [hc] at h;simp only at h;split at h
   ·cases h
   split at h
   ·cases ht:elems (parse v f) 0 c.n.toNat ⟨i+1,0,0⟩ with
    | none=>rw [ht] at h;cases h
    | some t =>
     rw [ht] at h;simp at h
     have:=elems_adv (za0Y v f) 0 _ _ _ (show (⟨i+1,0,0⟩:Sh).j≤v.length from hi) ht
     subst h;exact ⟨by have:=this.1;simp at this ⊢;omega,this.2⟩
   split at h
   ·cases ht:pairs v (parse v f) 0 c.n.toNat none ⟨i+1,0,0⟩ with
    | none=>rw [ht] at h;cases h
    | some t =>
     rw [ht] at h;simp at h
     have:=pairs_adv (za0Y v f) 0 _ _ _ _ (show (⟨i+1,0,0⟩:Sh).j≤v.length from hi) ht
     subst h;exact ⟨by have:=this.1;simp at this ⊢;omega,this.2⟩
   ·simp at h
    subst h;exact ⟨by simp,hi⟩
theorem zbwY {g g':Nat→Option Sh} {a:Nat} (he:∀ j,a≤j→g j=g' j) (hg:∀ j s,g j=some s→j<s.j) (L:Nat):∀ k s,a≤s.j→elems g L k s=elems g' L k s
 | 0,s,_=>rfl
 | k+1,s,hs=>by
  simp only [elems];rw [← he _ hs];cases hr:g s.j with
  | none=>rfl
  | some r =>
   have:=hg _ _ hr
   exact zbwY he hg L k _ (by simp;omega)
theorem zbrY {v:List CellD} {g g':Nat→Option Sh} {a:Nat} (he:∀ j,a≤j→g j=g' j) (hg:∀ j s,g j=some s→j<s.j) (L:Nat):∀ k last s,a≤s.j→pairs v g L k last s=pairs v g' L k last s
 | 0,last,s,_=>rfl
 | k+1,last,s,hs=>by
  simp only [pairs];cases v[s.j]? with
  | none=>rfl
  | some c =>
   simp only
   split
   ·rw [← he _ (by omega:a≤s.j+1)]
    cases hr:g (s.j+1) with
    | none=>rfl
    | some r =>
     have:=hg _ _ hr
     exact zbrY he hg L k _ _ (by simp;omega)
   ·rfl
theorem parse_fuel (v:List CellD):∀ f f' i,v.length - i<f→v.length - i<f'→parse v f i=parse v f' i
 | 0,_,i,h,_=>by omega
 | _+1,0,i,_,h=>by omega
 | f+1,f' + 1,i,h,h'=>by
  simp only [parse,pstep];cases hc:v[i]? with
  | none=>rfl
  | some c =>
   have hi:i<v.length:=(List.getElem?_eq_some_iff.1 hc).1;have he:∀ j,i+1≤j→parse v f j=parse v f' j:=fun j hj=>parse_fuel v f f' j (by omega) (by omega)
   simp only
   rw [zbwY he (fun j s hs=>(za0Y v f j s hs).1) 0 _ ⟨i+1,0,0⟩ (Nat.le_refl _),zbrY he (fun j s hs=>(za0Y v f j s hs).1) 0 _ _ ⟨i+1,0,0⟩ (Nat.le_refl _)]
theorem px_adv {v:List CellD} {i:Nat} {s:Sh} (h:px v i=some s):i<s.j∧s.j≤v.length:=za0Y v _ i s h
theorem px_eq (v:List CellD) (i:Nat):px v i=pstep v (px v) i:=by
 have h1:px v i=pstep v (parse v v.length) i:=rfl;rw [h1];unfold pstep;cases hc:v[i]? with
 | none=>rfl
 | some c =>
  have hi:i<v.length:=(List.getElem?_eq_some_iff.1 hc).1;have he:∀ j,i+1≤j→parse v v.length j=px v j:=fun j hj=>parse_fuel v _ _ j (by omega) (by omega)
  simp only
  rw [zbwY he (fun j s hs=>(za0Y v _ j s hs).1) 0 _ ⟨i+1,0,0⟩ (Nat.le_refl _),zbrY he (fun j s hs=>(za0Y v _ j s hs).1) 0 _ _ ⟨i+1,0,0⟩ (Nat.le_refl _)]
theorem elems_off (g:Nat→Option Sh) (L:Nat):∀ k i d0 b0 D B,elems g L k ⟨i,max D (L+d0),B+b0⟩=(elems g 0 k ⟨i,d0,b0⟩).map fun t=>⟨t.j,max D (L+t.d),B+t.b⟩
 | 0,i,d0,b0,D,B=>rfl
 | k+1,i,d0,b0,D,B=>by
  simp only [elems];cases g i with
  | none=>rfl
  | some r =>
   simp only [Option.bind_some];rw [← elems_off g L k r.j (max d0 (0+r.d)) (b0+r.b) D B];congr 2
   ·omega
   ·omega
theorem pairs_off (v:List CellD) (g:Nat→Option Sh) (L:Nat):∀ k last i d0 b0 D B,pairs v g L k last ⟨i,max D (L+d0),B+b0⟩=(pairs v g 0 k last ⟨i,d0,b0⟩).map fun t=>⟨t.j,max D (L+t.d),B+t.b⟩
 | 0,last,i,d0,b0,D,B=>rfl
 | k+1,last,i,d0,b0,D,B=>by
  simp only [pairs];cases v[i]? with
  | none=>rfl
  | some c =>
   simp only
   split
   ·cases g (i+1) with
    | none=>rfl
    | some r =>
     simp only [Option.bind_some];rw [← pairs_off v g L k (some c.str) r.j (max d0 (0+r.d)) (b0+(quotedN c.str+1)+r.b) D B];congr 2
     ·omega
     ·omega
   ·rfl
structure OpenD where
 pairs:Bool
 left:Nat
 key:Bool
 last:ByteArray
 started:Bool
def cont (v:List CellD):List OpenD→Sh→Option Sh
 | [],s=>some s
 | o :: st,s=>(if o.pairs then pairs v (px v) (st.length+1) (o.left - 1) (some o.last) s else elems (px v) (st.length+1) (o.left - 1) s).bind (cont v st)
def resumeV (v:List CellD) (st:List OpenD) (s:Sh):Option Sh:=(px v s.j).bind fun r=>cont v st ⟨r.j,max s.d (st.length+r.d),s.b+r.b⟩
def resumeK (v:List CellD) (o:OpenD) (st:List OpenD) (s:Sh):Option Sh:=(pairs v (px v) (st.length+1) o.left (if o.started then some o.last else none) s).bind (cont v st)
def resume (v:List CellD):List OpenD→Sh→Option Sh
 | [],s=>resumeV v [] s
 | o :: st,s=>if o.key then resumeK v o st s else resumeV v (o :: st) s
def good (o:OpenD):Prop:=o.key=false∧1≤o.left∧(o.pairs=true→o.started=true)
def closedF:List OpenD→List OpenD
 | []=>[]
 | o :: st=>if o.left - 1=0 then closedF st else ⟨o.pairs,o.left - 1,o.pairs,o.last,o.started⟩ :: st
theorem cont_closed (v:List CellD):∀ st s,(∀ o∈st,good o)→cont v st s=if closedF st=[] then some s else resume v (closedF st) s
 | [],s,_=>rfl
 | o :: st,s,h=>by
  have ho:=h o (by simp);have hst:=cont_closed v st s (fun x hx=>h x (by simp [hx]));by_cases h0:o.left - 1=0
  ·rw [show closedF (o :: st)=closedF st by simp only [closedF];rw [if_pos h0],← hst]
   simp only [cont];rw [h0];cases o.pairs <;> rfl
  ·rw [show closedF (o :: st)=⟨o.pairs,o.left - 1,o.pairs,o.last,o.started⟩ :: st by simp only [closedF];rw [if_neg h0],if_neg (by simp)]
   simp only [cont,resume];cases hp:o.pairs with
   | true =>
    simp only [if_true,resumeK];rw [ho.2.2 hp];rfl
   | false =>
    simp only [resumeV,cont,Bool.false_eq_true,if_false];obtain ⟨k,hk⟩:∃ k,o.left - 1=k+1:=⟨o.left - 1 - 1,by omega⟩
    rw [hk];simp only [elems,List.length_cons,Nat.add_sub_cancel];cases px v s.j <;> rfl
theorem plain_kind {c:CellD} (h:plainB c=true):c.kind=1∨c.kind=2∨c.kind=3∨c.kind=4∨c.kind=5∨c.kind=6:=by
 unfold plainB at h;split at h
 ·omega
 split at h
 ·omega
 split at h
 ·omega
 split at h
 ·omega
 split at h
 ·omega
 ·cases h
theorem plain_n {c:CellD} (h:plainB c=true) (hk:c.kind=5∨c.kind=6):0≤c.n:=by
 unfold plainB at h;rw [if_neg (by omega),if_neg (by omega),if_neg (by omega),if_neg (by omega),if_pos hk] at h;simp at h
 omega
theorem plain_n0 {c:CellD} (h:plainB c=true) (hk:¬ (c.kind=5∨c.kind=6)):c.n=0:=by
 unfold plainB at h;split at h
 ·simp at h;omega
 split at h
 ·simp at h;omega
 split at h
 ·simp at h;omega
 split at h
 ·simp at h;omega
 ·cases h
theorem resumeV_end {v:List CellD} {st:List OpenD} {s:Sh} (h:v[s.j]? = none):resumeV v st s=none:=by
 unfold resumeV;rw [px_eq,pstep,h];rfl
theorem resumeK_end {v:List CellD} {o:OpenD} {st:List OpenD} {s:Sh} (hl:1≤o.left) (h:v[s.j]? = none):resumeK v o st s=none:=by
 obtain ⟨k,hk⟩:∃ k,o.left=k+1:=⟨o.left - 1,by omega⟩
 unfold resumeK;rw [hk,pairs,h];rfl
theorem resumeV_bad {v:List CellD} {st:List OpenD} {s:Sh} {c:CellD} (h:v[s.j]? = some c) (hp:plainB c=false):resumeV v st s=none:=by
 unfold resumeV;rw [px_eq,pstep,h];simp only
 rw [if_pos hp];rfl
theorem resumeK_bad {v:List CellD} {o:OpenD} {st:List OpenD} {s:Sh} {c:CellD} (hl:1≤o.left) (h:v[s.j]? = some c) (hk:keyOk (if o.started then some o.last else none) c=false):resumeK v o st s=none:=by
 obtain ⟨k,hk'⟩:∃ k,o.left=k+1:=⟨o.left - 1,by omega⟩
 unfold resumeK;rw [hk',pairs,h];simp only
 rw [if_neg (by rw [hk];simp)];rfl
theorem resumeK_ok {v:List CellD} {o:OpenD} {st:List OpenD} {s:Sh} {c:CellD} (hl:1≤o.left) (hp:o.pairs=true) (h:v[s.j]? = some c) (hk:keyOk (if o.started then some o.last else none) c=true) :
  resumeK v o st s=resumeV v (⟨o.pairs,o.left,false,c.str,true⟩ :: st) ⟨s.j+1,s.d,s.b+(quotedN c.str+1)⟩:=by
 obtain ⟨k,hk'⟩:∃ k,o.left=k+1:=⟨o.left - 1,by omega⟩
 unfold resumeK resumeV;rw [hk',pairs,h];simp only [if_pos hk,cont,hp,if_true,Nat.add_sub_cancel,List.length_cons];cases px v (s.j+1) <;> rfl
theorem resumeV_big {v:List CellD} {st:List OpenD} {s:Sh} {c:CellD} (h:v[s.j]? = some c) (hn:(v.length:Int)<c.n):resumeV v st s=none:=by
 cases hr:px v s.j with
 | none=>unfold resumeV;rw [hr];rfl
 | some r =>
  exfalso
  have hi:s.j<v.length:=(List.getElem?_eq_some_iff.1 h).1;rw [px_eq,pstep,h] at hr;simp only at hr;split at hr
  ·cases hr
  rename_i hp;have hp':plainB c=true:=by simpa using hp
  split at hr
  ·cases ht:elems (px v) 0 c.n.toNat ⟨s.j+1,0,0⟩ with
   | none=>rw [ht] at hr;cases hr
   | some t =>
    have:=elems_adv (fun j s=>px_adv (v:=v)) 0 _ _ _ (show (⟨s.j+1,0,0⟩:Sh).j≤v.length from hi) ht
    omega
  split at hr
  ·cases ht:pairs v (px v) 0 c.n.toNat none ⟨s.j+1,0,0⟩ with
   | none=>rw [ht] at hr;cases hr
   | some t =>
    have:=pairs_adv (fun j s=>px_adv (v:=v)) 0 _ _ _ _ (show (⟨s.j+1,0,0⟩:Sh).j≤v.length from hi) ht
    omega
  ·have:=plain_n0 hp' (by omega)
   omega
theorem resumeV_leaf {v:List CellD} {st:List OpenD} {s:Sh} {c:CellD} (h:v[s.j]? = some c) (hp:plainB c=true) (hn:c.n≤0):resumeV v st s=cont v st ⟨s.j+1,max s.d (st.length+1),s.b+sizeN c⟩:=by
 unfold resumeV;rw [px_eq,pstep,h];simp only
 rw [if_neg (by rw [hp];simp)];have h0:c.n.toNat=0:=by omega
 rw [h0];split
 ·simp [elems]
 split
 ·simp [pairs]
 ·rfl
theorem resumeV_list {v:List CellD} {st:List OpenD} {s:Sh} {c:CellD} (h:v[s.j]? = some c) (hp:plainB c=true) (hk:c.kind=5) (hn:0<c.n) :
  resumeV v st s=resumeV v (⟨false,c.n.toNat,false,ByteArray.empty,false⟩ :: st) ⟨s.j+1,max s.d (st.length+1),s.b+sizeN c⟩:=by
 obtain ⟨m,hm⟩:∃ m,c.n.toNat=m+1:=⟨c.n.toNat - 1,by omega⟩
 have h1:resumeV v (⟨false,c.n.toNat,false,ByteArray.empty,false⟩ :: st) ⟨s.j+1,max s.d (st.length+1),s.b+sizeN c⟩=(elems (px v) (st.length+1) c.n.toNat ⟨s.j+1,max s.d (st.length+1),s.b+sizeN c⟩).bind (cont v st):=by
  rw [hm];simp only [resumeV,cont,elems,Bool.false_eq_true,if_false,Nat.add_sub_cancel,List.length_cons];cases px v (s.j+1) <;> rfl
 rw [h1];have h2:=elems_off (px v) (st.length+1) c.n.toNat (s.j+1) 0 0 (max s.d (st.length+1)) (s.b+sizeN c);rw [show max (max s.d (st.length+1)) (st.length+1+0)=max s.d (st.length+1) by omega,show s.b+sizeN c+0=s.b+sizeN c by omega] at h2;rw [h2];unfold resumeV;rw [px_eq,pstep,h];simp only
 rw [if_neg (by rw [hp];simp),if_pos hk];cases elems (px v) 0 c.n.toNat ⟨s.j+1,0,0⟩ with
 | none=>rfl
 | some t =>
  simp only [Option.map_some,Option.bind_some];congr 2
  ·omega
  ·omega
theorem resumeV_map {v:List CellD} {st:List OpenD} {s:Sh} {c:CellD} (h:v[s.j]? = some c) (hp:plainB c=true) (hk:c.kind=6) (_:0<c.n) :
  resumeV v st s=resumeK v ⟨true,c.n.toNat,true,ByteArray.empty,false⟩ st ⟨s.j+1,max s.d (st.length+1),s.b+sizeN c⟩:=by
 unfold resumeK;have h2:=pairs_off v (px v) (st.length+1) c.n.toNat none (s.j+1) 0 0 (max s.d (st.length+1)) (s.b+sizeN c);rw [show max (max s.d (st.length+1)) (st.length+1+0)=max s.d (st.length+1) by omega,show s.b+sizeN c+0=s.b+sizeN c by omega] at h2;simp only [Bool.false_eq_true,if_false];rw [h2];unfold resumeV;rw [px_eq,pstep,h];simp only
 rw [if_neg (by rw [hp];simp),if_neg (by omega),if_pos hk];cases pairs v (px v) 0 c.n.toNat none ⟨s.j+1,0,0⟩ with
 | none=>rfl
 | some t =>
  simp only [Option.map_some,Option.bind_some];congr 2
  ·omega
  ·omega
theorem resume_start (v:List CellD):resumeV v [] ⟨0,0,0⟩=px v 0:=by
 unfold resumeV;cases px v 0 with
 | none=>rfl
 | some r=>simp [cont]
def outB (c:CellD):Bool:=decide (c.kind=3) && !(decide (-1000000000000≤c.int) && decide (c.int≤1000000000000))
def longB (c:CellD):Bool:=decide (200<c.str.size)
def checkF (v:List CellD):Int :=
 match px v 0 with
 | none=>eSyntax
 | some r=>if r.j≠v.length then eSyntax else if v.any outB then eRange else if v.any longB || (decide (200<v.length) || (decide (8<r.d) || decide (4000<r.b))) then eLimit else 0
def okC (c:CellD):Prop:=c.str.size≤140737488351232∧(-9223372036854775808≤c.int∧c.int≤9223372036854775807)∧c.n≤9223372036854775807
def outs (l:List CellD):Bool:=l.any outB
def longs (l:List CellD):Bool:=l.any longB
theorem outs_snoc (l:List CellD) (k:Nat) (h:k<l.length):outs (l.take (k+1))=(outs (l.take k) || outB l[k]):=by
 unfold outs;rw [List.take_succ_eq_append_getElem h,List.any_append];simp
theorem longs_snoc (l:List CellD) (k:Nat) (h:k<l.length):longs (l.take (k+1))=(longs (l.take k) || longB l[k]):=by
 unfold longs;rw [List.take_succ_eq_append_getElem h,List.any_append];simp
theorem zcfY:∀ k u:Nat,u<10 ^ (k+1)→Lib.nDigits u≤k+1
 | 0,u,h=>by rw [Lib.nDigits_small (by simpa using h)];exact Nat.le_refl _
 | k+1,u,h=>by
  by_cases h10:u<10
  ·rw [Lib.nDigits_small h10];omega
  ·rw [Lib.nDigits_big h10]
   have:=zcfY k (u / 10) (by
    rw [Nat.pow_succ] at h;exact Nat.div_lt_of_lt_mul (by omega))
   omega
theorem itoa_len (n:Int) (h : -9223372036854775808≤n∧n≤9223372036854775807):itoaLen n≤10000:=by
 unfold itoaLen Lib.itoa;split
 ·rw [List.length_cons,Lib.decDigits_length]
  have:=zcfY 19 n.natAbs (by omega)
  omega
 ·rw [Lib.decDigits_length]
  have:=zcfY 19 n.toNat (by omega)
  omega
theorem size_bd {c:CellD} (hp:plainB c=true) (ho:okC c) (hn:c.n≤10000):0≤sizeN c∧sizeN c≤600000000000000:=by
 have h1:c.str.data.toList.count 34≤c.str.size:=by have:=List.count_le_length (a:=(34:UInt8)) (l:=c.str.data.toList);simpa using this
 have h2:c.str.data.toList.count 92≤c.str.size:=by have:=List.count_le_length (a:=(92:UInt8)) (l:=c.str.data.toList);simpa using this
 have h3:=ho.1;have h4:=itoa_len c.int ho.2.1;unfold sizeN;split
 ·omega
 split
 ·rename_i hk
  unfold plainB at hp;rw [if_neg (by omega),if_pos hk] at hp;simp at hp
  omega
 split
 ·omega
 split
 ·unfold quotedN;omega
 ·omega
structure FnD where
 name:ByteArray
 params:Int
 locals:Int
 entry:Int
 fin:Int
structure InsD where
 op:Int
 a:Int
 s:ByteArray
 keys:List ByteArray
structure CodeD where
 fns:List FnD
 ins:List InsD
def StrOk (s:ByteArray):Prop:=txtB s=true∧s.size≤200
def AscAt (l:List ByteArray) (i:Nat) (h:i<l.length):Prop:=StrOk l[i]∧(0<i→sleB l[i] (l[i - 1]'(by omega))=false)
def AscOk (l:List ByteArray):Prop:=∀ i (h:i<l.length),AscAt l i h
def builtL:List (List UInt8 × Int):=[([108,101,110],1),([115,116,114],1),([105,110,116],1),([112,117,115,104],2),([112,117,116],3),([107,101,121,115],1),([104,97,115],2),([102,97,105,108],1)]
def hostL:List (List UInt8 × Int):=[([103,101,116],1),([112,117,116],2),([100,101,108,101,116,101],1),([115,101,110,100],2),([116,105,109,101,114],3),([115,105,103,110,97,108],2),([115,101,99,114,101,116],1),([102,101,116,99,104],2),([110,111,119],0),([108,111,103],1)]
def lookL (l:List (List UInt8 × Int)) (s:ByteArray):Option Int:=l.lookup s.toList
def binL:List (List UInt8):=[[43],[45],[42],[47],[37],[61,61],[33,61],[60],[60,61],[62],[62,61]]
def bareB (op:Int):Bool:=decide (op=1) || decide (op=4) || decide (op=7) || decide (op=8) || decide (op=9) || decide (op=10) || decide (op=15) || decide (op=16) || decide (op=20)
def OperandP (nf:Int) (f:FnD) (i:InsD):Prop :=
 (bareB i.op=true→i.a=0)∧(i.op=2→i.a=0∨i.a=1)∧(i.op=3→-1000000000000≤i.a∧i.a≤1000000000000)∧(i.op=5∨i.op=6→0≤i.a∧i.a<f.locals) ∧
 (i.op=11→0≤i.a∧i.a≤64)∧(i.op=12→i.a=i.keys.length∧i.a≤64)∧(i.op=13∨i.op=14→f.entry≤i.a∧i.a<f.fin)∧(i.op=17→0≤i.a∧i.a<nf)∧(i.op=18→lookL builtL i.s=some i.a)∧(i.op=19→lookL hostL i.s=some i.a)
def StrP (i:InsD):Prop :=
 (i.op=4→StrOk i.s)∧(i.op=8→i.s.toList=[45]∨i.s.toList=[110,111,116])∧(i.op=9→i.s.toList∈binL)∧(i.op≠4∧i.op≠8∧i.op≠9∧i.op≠18∧i.op≠19→i.s.size=0)
def KeysP (i:InsD):Prop:=(i.op=12→AscOk i.keys)∧(i.op≠12→i.keys=[])
def FormedP (nf:Int) (f:FnD) (i:InsD):Prop:=(1≤i.op∧i.op≤20)∧OperandP nf f i∧StrP i∧KeysP i
def popF (c:CodeD) (i:InsD):Int :=
 if i.op=6∨i.op=7∨i.op=8∨i.op=14∨i.op=15∨i.op=16∨i.op=20 then 1
 else if i.op=9∨i.op=10 then 2
 else if i.op=11∨i.op=12∨i.op=18∨i.op=19 then i.a
 else if i.op=17 then (match c.fns[i.a.toNat]? with | some f=>f.params | none=>0)
 else 0
def pushF (op:Int):Int:=if op=6∨op=7∨op=13∨op=14∨op=20 then 0 else if op=16 then 2 else 1
def sucF (i:InsD) (k:Nat):List Nat:=if i.op=20 then [] else if i.op=13 then [i.a.toNat] else if i.op=14 then [k+1,i.a.toNat] else [k+1]
def getD (d:List Int) (k:Nat):Int:=d.getD k (-1)
def setS (n:Int):List Nat→List Int→Option Nat × List Int
 | [],d=>(none,d)
 | k :: r,d=>if 0≤getD d k∧getD d k≠n then (some k,d) else setS n r (d.set k n)
def IsNext (done:List Bool) (d:List Int) (e b k:Nat):Prop:=e≤k∧k≤b∧(∀ j,e≤j→j<k→done.getD j false=true∨getD d j<0)∧(k<b→done.getD k false=false∧0≤getD d k)
theorem IsNext.unique {done:List Bool} {d:List Int} {e b k m:Nat} (h:IsNext done d e b k) (g:IsNext done d e b m):k=m:=by
 have key:∀ {k m},IsNext done d e b k→IsNext done d e b m→¬ k<m:=by
  intro k m h g hlt;have h1:=h.2.2.2 (by have:=g.2.1;omega);rcases g.2.2.1 k h.1 hlt with h2 | h2
  ·rw [h1.1] at h2;cases h2
  ·omega
 have a:=key h g;have b:=key g h;omega
def Faulty (c:CodeD) (i:InsD) (d:Int):Prop:=d<popF c i∨(i.op=20∧d≠1)∨64<d - popF c i+pushF i.op
inductive FollowR (c:CodeD) (e b:Nat):List Bool→List Int→Int × List Int→Prop
 | stop (done:List Bool) (d:List Int):IsNext done d e b b→FollowR c e b done d (-1,d)
 | bad (done:List Bool) (d:List Int) (k:Nat) (i:InsD):IsNext done d e b k→k<b→c.ins[k]? = some i→Faulty c i (getD d k)→FollowR c e b done d (k,d)
 | two (done:List Bool) (d d':List Int) (k m:Nat) (i:InsD):IsNext done d e b k→k<b→c.ins[k]? = some i→¬ Faulty c i (getD d k)→setS (getD d k - popF c i+pushF i.op) (sucF i k) d=(some m,d')→FollowR c e b done d (m,d')
 | go (done:List Bool) (d d':List Int) (k:Nat) (i:InsD) (R:Int × List Int):IsNext done d e b k→k<b→c.ins[k]? = some i→¬ Faulty c i (getD d k)→setS (getD d k - popF c i+pushF i.op) (sucF i k) d=(none,d')→FollowR c e b (done.set k true) d' R→FollowR c e b done d R
theorem FollowR.det {c:CodeD} {e b:Nat} {done:List Bool} {d:List Int} {R S:Int × List Int} (h:FollowR c e b done d R) (g:FollowR c e b done d S):R=S:=by
 induction h with
 | stop done d hn =>
  cases g with
  | stop _ _ _=>rfl
  | bad _ _ k i hk hlt _ _=>have:=hn.unique hk;omega
  | two _ _ _ k m i hk hlt _ _ _=>have:=hn.unique hk;omega
  | go _ _ _ k i _ hk hlt _ _ _ _=>have:=hn.unique hk;omega
 | bad done d k i hn hlt hi hf =>
  cases g with
  | stop _ _ hk=>have:=hn.unique hk;omega
  | bad _ _ k' i' hk hlt' hi' hf'=>have:=hn.unique hk;subst this;rfl
  | two _ _ _ k' m i' hk hlt' hi' hf' _=>have:=hn.unique hk;subst this;rw [hi] at hi';injection hi' with hi';subst hi';exact absurd hf hf'
  | go _ _ _ k' i' _ hk hlt' hi' hf' _ _=>have:=hn.unique hk;subst this;rw [hi] at hi';injection hi' with hi';subst hi';exact absurd hf hf'
 | two done d d' k m i hn hlt hi hf hs =>
  cases g with
  | stop _ _ hk=>have:=hn.unique hk;omega
  | bad _ _ k' i' hk hlt' hi' hf'=>have:=hn.unique hk;subst this;rw [hi] at hi';injection hi' with hi';subst hi';exact absurd hf' hf
  | two _ _ _ k' m' i' hk hlt' hi' hf' hs'=>have:=hn.unique hk;subst this;rw [hi] at hi';injection hi' with hi';subst hi';rw [hs] at hs';simp at hs';obtain ⟨rfl,rfl⟩:=hs';rfl
  | go _ _ _ k' i' _ hk hlt' hi' hf' hs' _=>have:=hn.unique hk;subst this;rw [hi] at hi';injection hi' with hi';subst hi';rw [hs] at hs';simp at hs'
 | go done d d' k i R hn hlt hi hf hs hr ih =>
  cases g with
  | stop _ _ hk=>have:=hn.unique hk;omega
  | bad _ _ k' i' hk hlt' hi' hf'=>have:=hn.unique hk;subst this;rw [hi] at hi';injection hi' with hi';subst hi';exact absurd hf' hf
  | two _ _ _ k' m' i' hk hlt' hi' hf' hs'=>have:=hn.unique hk;subst this;rw [hi] at hi';injection hi' with hi';subst hi';rw [hs] at hs';simp at hs'
  | go _ _ _ k' i' _ hk hlt' hi' hf' hs' hr'=>have:=hn.unique hk;subst this;rw [hi] at hi';injection hi' with hi';subst hi';rw [hs] at hs';simp at hs';subst hs';exact ih hr'
inductive AllR (c:CodeD):List FnD→List Int→Int × List Int→Prop
 | nil (d:List Int):AllR c [] d (-1,d)
 | bad (f:FnD) (r:List FnD) (d d':List Int) (k:Int):FollowR c f.entry.toNat f.fin.toNat (List.replicate c.ins.length false) (d.set f.entry.toNat 0) (k,d')→0≤k→AllR c (f :: r) d (k,d')
 | go (f:FnD) (r:List FnD) (d d':List Int) (R:Int × List Int):FollowR c f.entry.toNat f.fin.toNat (List.replicate c.ins.length false) (d.set f.entry.toNat 0) (-1,d')→AllR c r d' R→AllR c (f :: r) d R
theorem AllR.det {c:CodeD} {l:List FnD} {d:List Int} {R S:Int × List Int} (h:AllR c l d R) (g:AllR c l d S):R=S:=by
 induction h with
 | nil d=>cases g;rfl
 | bad f r d d' k hf hk =>
  cases g with
  | bad _ _ _ d2 k2 hf2 hk2=>exact hf.det hf2
  | go _ _ _ d2 _ hf2 _=>have:=hf.det hf2;simp at this;omega
 | go f r d d' R hf hr ih =>
  cases g with
  | bad _ _ _ d2 k2 hf2 hk2=>have:=hf.det hf2;simp at this;omega
  | go _ _ _ d2 _ hf2 hr2=>have:=hf.det hf2;simp at this;subst this;exact ih hr2
noncomputable def fnsF (c:CodeD):List FnD→Nat→Int→Int × Int
 | [],_,e=>if e≠(c.ins.length:Nat) then ((c.fns.length:Nat),11) else (0,0)
 | f :: r,k,e=>open Classical in
  if ¬ NameOk f.name∨(∃ j,j<k∧(c.fns[j]?.map FnD.name)=some f.name) then ((k:Nat),4)
  else if ¬ ((0≤f.params∧f.params≤8)∧(f.params≤f.locals∧f.locals≤32)) then ((k:Nat),2)
  else if f.entry≠e∨f.fin≤f.entry∨(c.ins.length:Nat)<f.fin then ((k:Nat),11)
  else fnsF c r (k+1) f.fin
noncomputable def insF (c:CodeD) (f:FnD):Nat→Nat→Option (Int × Int)
 | 0,_=>none
 | n+1,k=>match c.ins[k]? with
  | none=>none
  | some x=>open Classical in
   if ¬ FormedP (c.fns.length:Nat) f x then some ((k:Nat),1)
   else if n=0∧x.op≠20∧x.op≠13 then some ((k:Nat),10)
   else insF c f n (k+1)
noncomputable def insAll (c:CodeD):List FnD→Option (Int × Int)
 | []=>none
 | f :: r=>match insF c f (f.fin - f.entry).toNat f.entry.toNat with
  | some R=>some R
  | none=>insAll c r
def Big (c:CodeD):Prop:=16<c.fns.length∨4000<c.ins.length
inductive CodeR (c:CodeD):Int × Int→Prop
 | big:Big c→CodeR c (0,3)
 | fn (R:Int × Int):¬ Big c→fnsF c c.fns 0 0=R→R.2≠0→CodeR c R
 | ins (R:Int × Int):¬ Big c→(fnsF c c.fns 0 0).2=0→insAll c c.fns=some R→CodeR c R
 | stack (k:Int) (d':List Int):¬ Big c→(fnsF c c.fns 0 0).2=0→insAll c c.fns=none→AllR c c.fns (List.replicate c.ins.length (-1)) (k,d')→0≤k→CodeR c (k,21)
 | ok (d':List Int):¬ Big c→(fnsF c c.fns 0 0).2=0→insAll c c.fns=none→AllR c c.fns (List.replicate c.ins.length (-1)) (-1,d')→CodeR c (0,0)
theorem CodeR.det {c:CodeD} {R S:Int × Int} (h:CodeR c R) (g:CodeR c S):R=S:=by
 cases h with
 | big hb =>
  cases g with
  | big _=>rfl
  | fn _ h _ _=>exact absurd hb h
  | ins _ h _ _=>exact absurd hb h
  | stack _ _ h _ _ _ _=>exact absurd hb h
  | ok _ h _ _ _=>exact absurd hb h
 | fn _ hb h1 h2 =>
  cases g with
  | big h=>exact absurd h hb
  | fn _ _ g1 _=>rw [← h1,← g1]
  | ins _ _ g1 _=>rw [h1] at g1;exact absurd g1 h2
  | stack _ _ _ g1 _ _ _=>rw [h1] at g1;exact absurd g1 h2
  | ok _ _ g1 _ _=>rw [h1] at g1;exact absurd g1 h2
 | ins _ hb h1 h2 =>
  cases g with
  | big h=>exact absurd h hb
  | fn _ _ g1 g2=>rw [g1] at h1;exact absurd h1 g2
  | ins _ _ g1 g2=>rw [h2] at g2;injection g2
  | stack _ _ _ g1 g2 _ _=>rw [h2] at g2;cases g2
  | ok _ _ g1 g2 _=>rw [h2] at g2;cases g2
 | stack k d hb h1 h2 h3 h4 =>
  cases g with
  | big h=>exact absurd h hb
  | fn _ _ g1 g2=>rw [g1] at h1;exact absurd h1 g2
  | ins _ _ g1 g2=>rw [h2] at g2;cases g2
  | stack _ _ _ g1 g2 g3 _=>have:=h3.det g3;simp at this;rw [this.1]
  | ok _ _ g1 g2 g3=>have:=h3.det g3;simp at this;omega
 | ok d hb h1 h2 h3 =>
  cases g with
  | big h=>exact absurd h hb
  | fn _ _ g1 g2=>rw [g1] at h1;exact absurd h1 g2
  | ins _ _ g1 g2=>rw [h2] at g2;cases g2
  | stack _ _ _ g1 g2 g3 _=>have:=h3.det g3;simp at this;omega
  | ok _ _ _ _ _=>rfl
theorem quotedN_le (s:ByteArray):quotedN s≤3 * (s.size:Int)+2:=by
 unfold quotedN;have h1:s.data.toList.count 34≤s.size:=by have:=List.count_le_length (a:=(34:UInt8)) (l:=s.data.toList);simpa using this
 have h2:s.data.toList.count 92≤s.size:=by have:=List.count_le_length (a:=(92:UInt8)) (l:=s.data.toList);simpa using this
 omega
def strC (s:ByteArray):CellD:=⟨4,0,s,0⟩
theorem px_str (s:ByteArray):px [strC s] 0=if txtB s=true then some ⟨1,1,quotedN s⟩ else none:=by
 rw [px_eq,pstep];simp only [List.getElem?_cons_zero];by_cases h:txtB s=true
 ·simp [strC,plainB,sizeN,h]
 ·simp [strC,plainB,h]
theorem checkF_str (s:ByteArray):checkF [strC s]=0↔txtB s=true∧s.size≤200:=by
 unfold checkF;rw [px_str];have hq:=quotedN_le s;by_cases h:txtB s=true
 ·rw [if_pos h]
  simp only [List.length_singleton,ne_eq,not_true_eq_false,if_false];have ho:([strC s]:List CellD).any outB=false:=by simp [outB,strC]
  rw [ho];by_cases hs:s.size≤200
  ·have hl:([strC s]:List CellD).any longB=false:=by simp [longB,strC];omega
   rw [hl];have h4:¬ 4000<quotedN s:=by omega
   simp [h,hs,h4]
  ·have hl:([strC s]:List CellD).any longB=true:=by simp [longB,strC];omega
   rw [hl];simp [h,hs,eLimit]
 ·rw [if_neg h]
  simp [h,eSyntax]
end Go.Proofs.YthiimbhjpdphpaaGreatDoor
