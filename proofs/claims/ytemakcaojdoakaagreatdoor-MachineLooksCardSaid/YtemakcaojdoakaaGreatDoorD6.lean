/- The machines wake: value.Check at the whole number 7. -/
import Derived.Test.YtemakcaojdoakaaGreatDoorD5
namespace Go.Proofs.YtemakcaojdoakaaGreatDoor
open Go.RowKit
set_option maxRecDepth 100000

attribute [local go_sem] cell_alloc_is
set_option maxHeartbeats 2000000 in
theorem format_7 (w : World) : Calls Tryz.prog 90 #[.int .i64 7] w fun e w' => ∃ s : ByteArray, s.size = 1 ∧ e = .returned (.string s) ∧ w' = w := by
  go_enter Tryz.func90, Tryz.ntmps90
  go_wp2_with (first
    | (go_at_call 118; go_enter Tryz.func118, Tryz.ntmps118)
    | (go_at_call 138; go_enter Tryz.func138, Tryz.ntmps138)
    | (go_at_call 165; go_enter Tryz.func165, Tryz.ntmps165)
    | (go_at_call 179; go_enter Tryz.func179, Tryz.ntmps179))
  go_returns
  exact ⟨_, by decide +kernel, rfl, rfl⟩

set_option maxHeartbeats 2000000 in
theorem plain_7 (w : World) : Calls Tryz.prog 64 #[.agg #[.int .i64 3, .int .i64 7, .string ⟨#[]⟩, .int .i64 0]] w fun e w' => e = .returned (.bool true) ∧ Below w.heap.size w w' := by
  go_enter Tryz.func64, Tryz.ntmps64
  go_wp2
  go_returns
  exact ⟨rfl, by go_grown⟩

set_option maxHeartbeats 2000000 in
theorem size_7 (w : World) : Calls Tryz.prog 66 #[.agg #[.int .i64 3, .int .i64 7, .string ⟨#[]⟩, .int .i64 0]] w fun e w' => e = .returned (.int .i64 1) ∧ Below w.heap.size w w' := by
  go_enter Tryz.func66, Tryz.ntmps66
  go_wp2_with (first
    | (go_at_call 90; with_reducible refine (format_7 _).mono ?_; rintro e w1 ⟨s, hs, rfl, hw1⟩; rw [hw1]; clear hw1 w1))
  go_returns
  exact ⟨rfl, by go_grown⟩

theorem closed_nil (w : World) : Calls Tryz.prog 68 #[.slice none 0 0] w fun e w' => e = .returned (.slice none 0 0) ∧ w' = w := by
  go_enter Tryz.func68, Tryz.ntmps68
  go_wp2_with (fail)
  refine wp_loop_rounds 1 ?_
  rw [rounds_succ]
  go_wp2
  go_returns
  exact ⟨rfl, rfl⟩

theorem valid_7 (w : World) : Calls Tryz.prog 67 #[.int .i64 7] w fun e w' => e = .returned (.bool true) ∧ w' = w := by
  go_enter Tryz.func67, Tryz.ntmps67
  go_wp2
  go_returns
  exact ⟨rfl, rfl⟩
end Go.Proofs.YtemakcaojdoakaaGreatDoor
