/- OpenE -/
import Derived.Test.YtekdhlfapejijaaGreatDoorPOpenM
import Derived.Test.YtekdhlfapejijaaGreatDoorPJK
set_option linter.unusedVariables false
set_option linter.unusedSimpArgs false
namespace Go.Proofs.YtekdhlfapejijaaGreatDoor
set_option maxRecDepth 100000
open Go.Proofs.Tryz
open Go.RowKit Go.ChangeShapes Go.WideShapes Go.Deep
section
variable {H:Type} {enc:TypeId × Value→H} {w:World} {base:Nat} {spare:Nat→Bool} {held:Bool}
theorem cell_elemI (n:Nat) (cs:List Value) (y:DataW H × List MemPlace) (hl:cs.length=4) (h:DataW.trod enc prog w base spare held n 53 cs=some y) (hw:∀ m∈y.1.weights prog 53,m≤Rb):∃ c:CellD,cellR w cs c∧(c.str.size≤Rb∧IntOk c):=by
 obtain ⟨c,hc,hs⟩:=cell_elem n cs y hl h hw;refine ⟨c,hc,hs,?_⟩
 obtain ⟨xs,m,_,rfl,_,hxl,hg⟩:=DataW.trod_struct underlying53 h;unfold cellR at hc;subst hc
 match xs,hxl with
 | [x0,x1,x2,x3],_ =>
  obtain ⟨a,e1,_,r1⟩:=DataW.trod_int underlying3 (hg 1 _ rfl);obtain ⟨b,e3,_,r3⟩:=DataW.trod_int underlying3 (hg 3 _ rfl);have n3:prog.cellsOf 3=1:=by kernel_rfl
  have n9:prog.cellsOf 9=1:=by kernel_rfl
  have n50:prog.cellsOf 51=1:=by kernel_rfl
  simp [n3,n9,n50,CellD.cells] at e1 e3
  subst e1 e3;simp [Lit.wf,IntKind.min,IntKind.max,IntKind.signed,IntKind.bits] at r1 r3
  exact ⟨by omega,by omega⟩
theorem val_openI {fuel:Nat} {cs:List Value} {x:DataW H × List MemPlace} (hR:∀ m∈x.1.weights prog 22,m≤Rb) (h:DataW.trod enc prog w base spare held fuel 22 cs=some x):∃ (v:Value) (l:ValD),cs=[v]∧ValV w v l∧∀ c∈l,c.str.size≤Rb∧IntOk c :=
 open_rowsV 3518437208780 Rb 40 4 cellR (fun c:CellD=>c.str.size≤Rb∧IntOk c) underlying22 Tryz.cells53 Tryz.bytes53 (by omega) (fun n hn=>by unfold Rb at hn;omega) cell_elemI hR h
end
end Go.Proofs.YtekdhlfapejijaaGreatDoor
