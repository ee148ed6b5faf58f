/- GL2 -/
import Derived.Test.YthiimbhjpdphpaaGreatDoorPGC10
import Derived.Test.YthiimbhjpdphpaaGreatDoorPShelf
import Derived.Handy
import Derived.Laws.Runes
import Derived.WalkMore
set_option linter.unusedVariables false
set_option linter.unusedSimpArgs false
namespace Go.Proofs.YthiimbhjpdphpaaGreatDoor
open Go.RowKit
set_option maxRecDepth 100000
open Go.Proofs.Tryz
theorem keyword_any (s:ByteArray) (w:World):Calls prog 174 #[.string s] w fun e w'=>e=.returned (.bool (kwB s))∧w'=w:=by
 go_enter func174,ntmps174
 go_wp2
 all_goals (go_ret;exact ⟨by simp_all [kwB,kwL],rfl⟩)
theorem zc2Y (s:ByteArray) (w:World):Calls prog 182 #[.string s] w fun e w'=>e=.returned (.bool (kwB s))∧w'=w:=by
 go_enter func182,ntmps182
 go_wp2
 all_goals (go_ret;refine ⟨congrArg (fun b=>Ending.returned (Value.bool b)) (?_:_=kwB s),rfl⟩;rw [Bool.eq_iff_iff];simp_all [kwB,kwL,or_assoc])
end Go.Proofs.YthiimbhjpdphpaaGreatDoor
