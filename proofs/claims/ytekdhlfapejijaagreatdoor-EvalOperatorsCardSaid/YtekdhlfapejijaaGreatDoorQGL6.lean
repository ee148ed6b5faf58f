/- GL6 -/
import Derived.Test.YtekdhlfapejijaaGreatDoorQS2
import Derived.Laws.BytesArg
import Derived.OwnWalk
set_option linter.unusedVariables false
set_option linter.unusedSimpArgs false
namespace Go.Proofs.YtekdhlfapejijaaGreatDoor
open Go.RowKit
set_option maxRecDepth 100000
open Go.Proofs.Tryz
section
theorem Tryz.infoU8:(prog.info? 5).map (fun i=>(i.zero,i.size,i.bytes))=some (some (.int .u8 0),1,1):=by kernel_rfl
attribute [local go_sem] zacZ zatY
end
section
structure TkSt (w W:World) (g2 g5:Nat):Prop where
 b2:Blk W g2 161 #[.int .i64 0,.string ⟨#[]⟩,.int .i64 0,.int .i64 0]
 b5:Blk W g5 161 #[.int .i64 0,.string ⟨#[]⟩,.int .i64 0,.int .i64 0]
 hB:Below w.heap.size w W
theorem TkSt.below {w W W':World} {g2 g5:Nat} (h:TkSt w W g2 g5) (hb:Below W.heap.size W W'):TkSt w W' g2 g5:=⟨h.b2.below hb,h.b5.below hb,zadZ hb h.hB⟩
attribute [local go_sem] zacZ zatY
theorem st4 {w W:World} {g:Nat} (h:Below w.heap.size w W) (hg:w.heap.size≤g) (a b c d:Value):Below w.heap.size w ((((W.setCell ⟨g,0,none⟩ a).setCell ⟨g,1,none⟩ b).setCell ⟨g,2,none⟩ c).setCell ⟨g,3,none⟩ d) :=
 (((h.setCell (p:=⟨g,0,none⟩) hg a).setCell (p:=⟨g,1,none⟩) hg b).setCell (p:=⟨g,2,none⟩) hg c).setCell (p:=⟨g,3,none⟩) hg d
end
end Go.Proofs.YtekdhlfapejijaaGreatDoor
