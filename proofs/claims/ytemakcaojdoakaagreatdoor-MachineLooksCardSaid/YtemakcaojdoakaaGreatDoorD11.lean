/- The machines wake: frame, fail. -/
import Derived.Test.YtemakcaojdoakaaGreatDoorD10
namespace Go.Proofs.YtemakcaojdoakaaGreatDoor
open Go.RowKit
set_option maxRecDepth 100000

attribute [local go_sem] cell_alloc_is
set_option maxHeartbeats 2000000 in
theorem frame_ok (gF gI gE gR kR : Nat) (st er ls lm sp pk : Int) (vv qv : Value) (w : World) (hE : Blk w gE 76 (exC gF gI st er vv (.slice (some ⟨gR, 0, none⟩) 1 kR) qv ls lm sp pk)) :
    Calls Tryz.prog 60 #[.pointer (some ⟨gE, 0, none⟩)] w fun e w' => e = .returned (.pointer (some ⟨gR, 0, none⟩)) ∧ ∃ q, w' = w.drewN q := by
  have e0 := blkE hE
  clear hE
  go_enter Tryz.func60, Tryz.ntmps60
  go_wp2_with (fail)
  go_quiet (fail)
  go_wp2_with (fail)
  go_returns
  exact ⟨rfl, _, rfl⟩

set_option maxHeartbeats 2000000 in
theorem fail_ok (gF gI gE : Nat) (c st er ls lm sp pk : Int) (vv fv qv : Value) (w : World) (hE : Blk w gE 76 (exC gF gI st er vv fv qv ls lm sp pk)) :
    Calls Tryz.prog 47 #[.pointer (some ⟨gE, 0, none⟩), .int .i64 c] w fun e w' => e = .returned (.tuple #[]) ∧ Blk w' gE 76 (exC gF gI 4 c (.slice none 0 0) (.slice none 0 0) qv ls lm sp pk) ∧ w.grownBy w' (some gE) ∧ KT 76 w w' := by
  have HE := Lib.hid hE
  have e0 := blkE hE
  have z2 := hE.frozen 2
  have z3 := hE.frozen 3
  have z4 := hE.frozen 4
  have z5 := hE.frozen 5
  clear hE
  go_enter Tryz.func47, Tryz.ntmps47
  go_wp2_with (fail)
  go_returns
  have b2 := HE.out.set_ 2 (.int .i64 4)
  have b3 := b2.set_ 3 (.int .i64 c)
  have b4 := b3.set_ 4 (.slice none 0 0)
  have b5 := b4.set_ 5 (.slice none 0 0)
  refine ⟨rfl, b5, ?_, ((KT.set HE.out 2 _).trans (KT.set b2 3 _)).trans ((KT.set b3 4 _).trans (KT.set b4 5 _))⟩
  exact Lib.Hx.grownBy_set (Lib.Hx.grownBy_set (Lib.Hx.grownBy_set (Lib.Hx.grownBy_set (Lib.Hx.grownBy_refl w _) ⟨gE, 2, none⟩ rfl _) ⟨gE, 3, none⟩ rfl _) ⟨gE, 4, none⟩ rfl _) ⟨gE, 5, none⟩ rfl _
end Go.Proofs.YtemakcaojdoakaaGreatDoor
