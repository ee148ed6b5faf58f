/- Open, OpenW -/
import Derived.Test.YthiimbhjpdphpaaGreatDoorPGN0
import Derived.ChangeOld
import Derived.Deep.Slices
import Derived.OpenShut
import Derived.ProofKit
import Derived.ShutString
import Derived.SizedLaws
set_option linter.unusedVariables false
set_option linter.unusedSimpArgs false
namespace Go.Proofs.YthiimbhjpdphpaaGreatDoor
section
open Go.RowKit Go.ChangeShapes Go.WideShapes Go.Deep
theorem zbvY {α:Type} (p:Nat→α→Prop):∀ n:Nat,(∀ i,i<n→∃ a,p i a)→∃ l:List α,l.length=n∧∀ i (h:i<l.length),p i l[i]
 | 0,_=>⟨[],rfl,fun i h=>absurd h (by simp)⟩
 | n+1,h=>by
  obtain ⟨l,hl,hp⟩:=zbvY p n (fun i hi=>h i (by omega));obtain ⟨a,ha⟩:=h n (by omega);refine ⟨l ++ [a],by simp [hl],fun i hi=>?_⟩
  by_cases hin:i<l.length
  ·rw [List.getElem_append_left hin];exact hp i hin
  ·have:i=n:=by simp at hi;omega
   subst this;rw [List.getElem_append_right (by omega)];simpa [hl] using ha
end
section
open Go.RowKit Go.ChangeShapes Go.WideShapes Go.Deep
theorem zbfY {H:Type} {P:Program} {e:TypeId}:∀ {l:List (DataW H)} {d:DataW H},d∈l→∀ n∈d.weights P e,n∈DataW.weightsAll P e l
 | x :: r,d,hd,n,hn=>by
  simp only [DataW.weightsAll,List.mem_append];rcases List.mem_cons.1 hd with rfl | hd
  ·exact .inl hn
  ·exact .inr (zbfY hd n hn)
section
variable {H:Type} {enc:TypeId × Value→H} {P:Program} {w:World} {base:Nat} {spare:Nat→Bool} {held:Bool} {α:Type}
theorem open_slW (R:Nat) (c:α→List Value) (Q:α→Prop) (sz:Nat) {t e:TypeId} {fuel:Nat} {A:Option Addr} {len cap:Nat} {x:DataW H × List MemPlace} (ht:P.underlying t=some (.slice e)) (hC:P.cellsOf e=sz) (hsz:0<sz)
  (helem:∀ (n:Nat) (cs:List Value) (y:DataW H × List MemPlace),cs.length=sz→DataW.trod enc P w base spare held n e cs=some y→(∀ m∈y.1.weights P e,m≤R)→∃ a:α,cs=c a∧Q a)
  (hR:∀ m∈x.1.weights P t,m≤R)
  (h:DataW.trod enc P w base spare held fuel t [.slice A len cap]=some x):∃ l:List α,l.length=len∧len≤cap∧cap≤maxLen∧SlAt w A sz c l∧∀ a∈l,Q a:=by
 rcases open_slice ht h with ⟨h0,_⟩ | ⟨a,len',cap',m,n,D,Pl,hcs,hb,hl,hm,hmm,hx,hi⟩
 ·simp at h0
  obtain ⟨rfl,rfl,rfl⟩:=h0;exact ⟨[],rfl,Nat.le_refl _,by simp,SlAt.nil,by simp⟩
 ·simp only [List.cons.injEq,Value.slice.injEq,and_true] at hcs
  obtain ⟨rfl,rfl,rfl⟩:=hcs;have hlm:len≤m:=by rw [hmm];split <;> omega
  have hall:∀ i,i<len→∃ q:α,(∀ j v,(c q)[j]? = some v→w.cell? (a.add (i * sz+j))=some v)∧Q q:=fun i hil=>by
   obtain ⟨cs',hc,ht'⟩:=hi i (by omega);rw [hC] at hc;obtain ⟨_,hcl,hat⟩:=World.cells?_some hc
   obtain ⟨q,rfl,hQ⟩:=helem _ _ _ hcl ht' (fun m hm=>hR m (by
    rw [hx];simp only [DataW.weights,ht,List.mem_cons,List.mem_append];exact .inr (.inl (zbfY (List.mem_map.2 ⟨i,List.mem_range.2 hil,rfl⟩) m hm))))
   refine ⟨q,fun j v hj=>?_,hQ⟩
   have hjl:j<(c q).length:=(List.getElem?_eq_some_iff.1 hj).1
   have:=hat j (by omega)
   rw [add_add] at this;rw [this,hj]
  obtain ⟨l,hll,hp⟩:=zbvY _ len hall
  refine ⟨l,hll,hl,hm,fun i row hrow=>?_,fun x hx=>by
   obtain ⟨i,hi',rfl⟩:=List.getElem_of_mem hx;exact (hp i hi').2⟩
  have hil:i<l.length:=by
   have:=(List.getElem?_eq_some_iff.1 hrow).1
   simpa using this
  have hrow':row=c l[i]:=by simpa [hil] using hrow.symm
  subst hrow';have hne:0<l.length:=by omega
  obtain ⟨cs',hc,ht'⟩:=hi 0 (by omega);rw [hC] at hc;obtain ⟨_,hcl,hat⟩:=World.cells?_some hc;have h0:=hat 0 hsz;have hv0:cs'[0]? = some (cs'[0]'(by omega)):=List.getElem?_eq_getElem (by omega);rw [hv0] at h0
  have hsp:a.spot=none:=by
   have h1:w.cell? a=some (cs'[0]'(by omega)):=by
    have:(a.add (0 * sz)).add 0=a:=by simp [Addr.add]
    rw [this] at h0;exact h0
   unfold World.cell? at h1;split at h1
   ·split at h1
    ·cases h1
    ·rename_i hs;simpa using hs
   ·cases h1
  obtain ⟨b,off,sp⟩:=a;simp at hsp
  subst hsp;refine ⟨b,off,rfl,?_,fun j v hj=>?_⟩
  ·have h1:w.cell? ⟨b,off,none⟩=some (cs'[0]'(by omega)):=by
    have:((⟨b,off,none⟩:Addr).add (0 * sz)).add 0=⟨b,off,none⟩:=by simp [Addr.add]
    rw [this] at h0;exact h0
   exact World.block_lt_of_cell? w _ h1
  ·have:=(hp i hil).1 j v hj
   rw [za6Y] at this;rw [← this];congr 2
   omega
end
end
end Go.Proofs.YthiimbhjpdphpaaGreatDoor
