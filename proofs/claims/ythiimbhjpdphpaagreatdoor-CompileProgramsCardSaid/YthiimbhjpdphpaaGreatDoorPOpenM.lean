/- OpenM -/
import Derived.Test.YthiimbhjpdphpaaGreatDoorPOpenW
import Derived.Test.YthiimbhjpdphpaaGreatDoorPGD6
set_option linter.unusedVariables false
set_option linter.unusedSimpArgs false
namespace Go.Proofs.YthiimbhjpdphpaaGreatDoor
set_option maxRecDepth 100000
open Go.RowKit Go.ChangeShapes Go.WideShapes Go.Deep
section
variable {H:Type} {enc:TypeId × Value→H} {P:Program} {w:World} {base:Nat} {spare:Nat→Bool} {held:Bool} {α:Type}
theorem zbiY (lim Rb bytes sz:Nat) (R:World→List Value→α→Prop) (Q:α→Prop) {t e:TypeId} {fuel:Nat} {cs:List Value} {x:DataW H × List MemPlace} (ht:P.underlying t=some (.slice e)) (hC:P.cellsOf e=sz) (hB:P.bytesOf e=bytes) (hsz:0<sz) (hlim:∀ n,n * bytes≤Rb→n≤lim)
  (helem:∀ (n:Nat) (cs:List Value) (y:DataW H × List MemPlace),cs.length=sz→DataW.trod enc P w base spare held n e cs=some y→(∀ m∈y.1.weights P e,m≤Rb)→∃ a:α,R w cs a∧Q a)
  (hR:∀ m∈x.1.weights P t,m≤Rb) (h:DataW.trod enc P w base spare held fuel t cs=some x):∃ (v:Value) (l:List α),cs=[v]∧RowsV lim sz R w v l∧∀ a∈l,Q a:=by
 rcases open_slice ht h with ⟨h0,_⟩ | ⟨a,len,cap,m,n,D,Pl,hcs,hb,hl,hm,hmm,hx,hi⟩
 ·exact ⟨_,[],h0,RowsV.nil _ _,by simp⟩
 ·subst hcs
  obtain ⟨rows,h1,h2,h3,h4,h5⟩:=open_slW Rb (fun r:List Value=>r) (fun r=>∃ a:α,R w r a∧Q a) sz ht hC hsz (fun n cs y hl hy hw=>⟨cs,rfl,helem n cs y hl hy hw⟩) hR h
  have hlen:len≤lim:=hlim len (by
   have:=hR (((List.range len).map D).length * bytes+_) (by
    rw [hx];simp only [DataW.weights,ht,List.mem_cons,hB,Nat.add_mul];exact .inl rfl)
   simp at this
   omega)
  obtain ⟨l,hll,hp⟩:=zbvY (fun i (a:α)=>∃ hi:i<rows.length,R w rows[i] a∧Q a) len (fun i hi=>by
   have hi':i<rows.length:=by omega
   obtain ⟨a,ha⟩:=h5 rows[i] (List.getElem_mem hi');exact ⟨a,hi',ha⟩)
  refine ⟨_,l,rfl,⟨some a,cap,rows,by rw [hll],by omega,by omega,h4,by omega,fun i hi hi'=>(hp i hi').2.1⟩,fun x hx=>?_⟩
  obtain ⟨i,hi',rfl⟩:=List.getElem_of_mem hx;exact (hp i hi').2.2
end
def Rb:Nat:=140737488351232
end Go.Proofs.YthiimbhjpdphpaaGreatDoor
