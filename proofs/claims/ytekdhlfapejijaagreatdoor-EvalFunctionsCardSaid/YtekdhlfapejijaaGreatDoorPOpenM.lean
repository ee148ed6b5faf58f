/- OpenM -/
import Derived.Test.YtekdhlfapejijaaGreatDoorPOpenW
import Derived.Test.YtekdhlfapejijaaGreatDoorPC7
set_option linter.unusedVariables false
set_option linter.unusedSimpArgs false
namespace Go.Proofs.YtekdhlfapejijaaGreatDoor
set_option maxRecDepth 100000
open Go.Proofs.Tryz
open Go.RowKit Go.ChangeShapes Go.WideShapes Go.Deep
section
variable {H:Type} {enc:TypeId × Value→H} {P:Program} {w:World} {base:Nat} {spare:Nat→Bool} {held:Bool} {α:Type}
theorem open_rowsV (lim Rb bytes sz:Nat) (R:World→List Value→α→Prop) (Q:α→Prop) {t e:TypeId} {fuel:Nat} {cs:List Value} {x:DataW H × List MemPlace} (ht:P.underlying t=some (.slice e)) (hC:P.cellsOf e=sz) (hB:P.bytesOf e=bytes) (hsz:0<sz) (hlim:∀ n,n * bytes≤Rb→n≤lim)
  (helem:∀ (n:Nat) (cs:List Value) (y:DataW H × List MemPlace),cs.length=sz→DataW.trod enc P w base spare held n e cs=some y→(∀ m∈y.1.weights P e,m≤Rb)→∃ a:α,R w cs a∧Q a)
  (hR:∀ m∈x.1.weights P t,m≤Rb) (h:DataW.trod enc P w base spare held fuel t cs=some x):∃ (v:Value) (l:List α),cs=[v]∧RowsV lim sz R w v l∧∀ a∈l,Q a:=by
 rcases open_slice ht h with ⟨h0,_⟩ | ⟨a,len,cap,m,n,D,Pl,hcs,hb,hl,hm,hmm,hx,hi⟩
 ·exact ⟨_,[],h0,RowsV.nil _ _,by simp⟩
 ·subst hcs
  obtain ⟨rows,h1,h2,h3,h4,h5⟩:=open_slW Rb (fun r:List Value=>r) (fun r=>∃ a:α,R w r a∧Q a) sz ht hC hsz (fun n cs y hl hy hw=>⟨cs,rfl,helem n cs y hl hy hw⟩) hR h
  have hlen:len≤lim:=hlim len (by
   have:=hR (((List.range len).map D).length * bytes+_) (by
    rw [hx];simp only [DataW.weights,ht,List.mem_cons,hB,Nat.add_mul];exact .inl rfl)
   simp at this
   omega)
  obtain ⟨l,hll,hp⟩:=zckY (fun i (a:α)=>∃ hi:i<rows.length,R w rows[i] a∧Q a) len (fun i hi=>by
   have hi':i<rows.length:=by omega
   obtain ⟨a,ha⟩:=h5 rows[i] (List.getElem_mem hi');exact ⟨a,hi',ha⟩)
  refine ⟨_,l,rfl,⟨some a,cap,rows,by rw [hll],by omega,by omega,h4,by omega,fun i hi hi'=>(hp i hi').2.1⟩,fun x hx=>?_⟩
  obtain ⟨i,hi',rfl⟩:=List.getElem_of_mem hx;exact (hp i hi').2.2
end
def Rb:Nat:=140737488351232
theorem Tryz.cells53:prog.cellsOf 53=4:=by kernel_rfl
theorem Tryz.cells22:prog.cellsOf 22=1:=by kernel_rfl
theorem Tryz.bytes53:prog.bytesOf 53=40:=by kernel_rfl
theorem Tryz.bytes22:prog.bytesOf 22=24:=by kernel_rfl
section
variable {H:Type} {enc:TypeId × Value→H} {w:World} {base:Nat} {spare:Nat→Bool} {held:Bool}
def cellTypes:List TypeId:=[51,3,9,3]
theorem cell_elem (n:Nat) (cs:List Value) (y:DataW H × List MemPlace) (hl:cs.length=4) (h:DataW.trod enc prog w base spare held n 53 cs=some y) (hw:∀ m∈y.1.weights prog 53,m≤Rb):∃ c:CellD,cellR w cs c∧c.str.size≤Rb:=by
 obtain ⟨xs,m,_,rfl,_,hxl,hg⟩:=DataW.trod_struct underlying53 h
 match cs,hl with
 | [c0,c1,c2,c3],_ =>
  match xs,hxl with
  | [x0,x1,x2,x3],_ =>
   obtain ⟨k,e0,_,_⟩:=DataW.trod_int underlying51 (hg 0 _ rfl);obtain ⟨a,e1,_,_⟩:=DataW.trod_int underlying3 (hg 1 _ rfl);obtain ⟨s,e2,d2,_⟩:=DataW.trod_string underlying9 (hg 2 _ rfl);obtain ⟨b,e3,_,_⟩:=DataW.trod_int underlying3 (hg 3 _ rfl);have n3:prog.cellsOf 3=1:=by kernel_rfl
   have n9:prog.cellsOf 9=1:=by kernel_rfl
   have n50:prog.cellsOf 51=1:=by kernel_rfl
   simp [n3,n9,n50] at e0 e1 e2 e3
   subst e0 e1 e2 e3;refine ⟨⟨k,a,s,b⟩,rfl,hw _ ?_⟩
   have hww:DataW.weights prog 53 (DataW.agg ([x0,x1,x2,x3].map (·.1)))=DataW.weightsEach prog cellTypes ([x0,x1,x2,x3].map (·.1)):=by
    simp only [DataW.weights,underlying53];rfl
   show _∈DataW.weights prog 53 (DataW.agg ([x0,x1,x2,x3].map (·.1)));rw [hww];refine DataW.weights_mem_each (j:=2) (t:=9) (d:=x2.1) rfl rfl _ ?_
   rw [d2];simp only [DataW.weights,List.mem_singleton];simp
end
end Go.Proofs.YtekdhlfapejijaaGreatDoor
