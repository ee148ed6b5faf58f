/- FD4 -/
import Derived.Test.YthiimbhjpdphpaaGreatDoorPFC5
import Derived.Test.YthiimbhjpdphpaaGreatDoorPFB6
set_option linter.unusedVariables false
set_option linter.unusedSimpArgs false
namespace Go.Proofs.YthiimbhjpdphpaaGreatDoor
open Go.RowKit
open Go.Proofs.Tryz
theorem fnode_all (w0:World) (S:ProgS) (gF:Nat) (hS:ProgV w0 S) (hok:ProgOk S.p) (hpw:Pow w0) (hmx:MaxL w0):∀ f i s,firstF S.p.nodes f i=some s→i<S.p.nodes.length→FNodeH w0 S gF f i s:=by
 intro f;induction f with
 | zero=>intro i s h;cases h
 | succ f ih=>exact fun i s h hi=>fnode_s w0 S gF f hS hok.nodes.len (fun j hj=>(hok.nodes.kids _ (List.getElem_mem hj)).symm) ih i s h hi hpw hmx
theorem fold_s (S:ProgS) (w:World) (hS:ProgV w S) (hp:Pow w) (hm:MaxL w) (hok:ProgOk S.p):Calls prog 15 #[S.val] w (FoldP S w) :=
 cfold_s S w hS hp hok (fun w0 gF hb _=>fnode_all w0 S gF (hS.below hb) hok (hp.below hb) (hm.below hb) 600)
end Go.Proofs.YthiimbhjpdphpaaGreatDoor
