/- The machines wake: the shapes of operations, formed. -/
import Derived.Test.YtemakcaojdoakaaGreatDoorD2
namespace Go.Proofs.YtemakcaojdoakaaGreatDoor
open Go.RowKit
set_option maxRecDepth 100000

def shapeCells : List Value := [
  .string ⟨#[]⟩, .bool false, .bool false, .bool false, .int .i64 0, .int .i64 0,
  .string ⟨#[110, 117, 108, 108]⟩, .bool false, .bool false, .bool false, .int .i64 0, .int .i64 1,
  .string ⟨#[98, 111, 111, 108]⟩, .bool true, .bool false, .bool false, .int .i64 0, .int .i64 1,
  .string ⟨#[105, 110, 116]⟩, .bool true, .bool false, .bool false, .int .i64 0, .int .i64 1,
  .string ⟨#[115, 116, 114]⟩, .bool false, .bool true, .bool false, .int .i64 0, .int .i64 1,
  .string ⟨#[108, 111, 97, 100]⟩, .bool true, .bool false, .bool false, .int .i64 0, .int .i64 1,
  .string ⟨#[115, 116, 111, 114, 101]⟩, .bool true, .bool false, .bool false, .int .i64 1, .int .i64 0,
  .string ⟨#[112, 111, 112]⟩, .bool false, .bool false, .bool false, .int .i64 1, .int .i64 0,
  .string ⟨#[117, 110, 97, 114, 121]⟩, .bool false, .bool true, .bool false, .int .i64 1, .int .i64 1,
  .string ⟨#[98, 105, 110, 97, 114, 121]⟩, .bool false, .bool true, .bool false, .int .i64 2, .int .i64 1,
  .string ⟨#[105, 110, 100, 101, 120]⟩, .bool false, .bool false, .bool false, .int .i64 2, .int .i64 1,
  .string ⟨#[108, 105, 115, 116]⟩, .bool true, .bool false, .bool false, .int .i64 (-1), .int .i64 1,
  .string ⟨#[109, 97, 112]⟩, .bool true, .bool false, .bool true, .int .i64 (-1), .int .i64 1,
  .string ⟨#[106, 117, 109, 112]⟩, .bool true, .bool false, .bool false, .int .i64 0, .int .i64 0,
  .string ⟨#[102, 97, 108, 115, 101]⟩, .bool true, .bool false, .bool false, .int .i64 1, .int .i64 0,
  .string ⟨#[116, 101, 115, 116]⟩, .bool false, .bool false, .bool false, .int .i64 1, .int .i64 1,
  .string ⟨#[100, 117, 112]⟩, .bool false, .bool false, .bool false, .int .i64 1, .int .i64 2,
  .string ⟨#[99, 97, 108, 108]⟩, .bool true, .bool false, .bool false, .int .i64 (-1), .int .i64 1,
  .string ⟨#[98, 117, 105, 108, 116]⟩, .bool true, .bool true, .bool false, .int .i64 (-1), .int .i64 1,
  .string ⟨#[104, 111, 115, 116]⟩, .bool true, .bool true, .bool false, .int .i64 (-1), .int .i64 1,
  .string ⟨#[114, 101, 116, 117, 114, 110]⟩, .bool false, .bool false, .bool false, .int .i64 1, .int .i64 0]
/-- The table of the operations' shapes stands. -/
def Shaped (w : World) : Prop := ∀ (i : Nat) (v : Value), shapeCells[i]? = some v → w.cell? ⟨0, i, none⟩ = some v
theorem Shaped.below {w w' : World} (h : Shaped w) (hb : Below w.heap.size w w') : Shaped w' := fun i v hv => by
  have := h i v hv
  rw [hb.cell (p := ⟨_, i, none⟩) (World.block_lt_of_cell? w _ (by rw [this]))]
  exact this
theorem Shaped.s5 {w : World} (h : Shaped w) : w.cell? ⟨0, 30, none⟩ = some (.string ⟨#[108, 111, 97, 100]⟩) ∧ w.cell? ⟨0, 31, none⟩ = some (.bool true) ∧ w.cell? ⟨0, 32, none⟩ = some (.bool false) ∧ w.cell? ⟨0, 33, none⟩ = some (.bool false) ∧ w.cell? ⟨0, 34, none⟩ = some (.int .i64 0) ∧ w.cell? ⟨0, 35, none⟩ = some (.int .i64 1) := ⟨h 30 _ rfl, h 31 _ rfl, h 32 _ rfl, h 33 _ rfl, h 34 _ rfl, h 35 _ rfl⟩
theorem Shaped.s20 {w : World} (h : Shaped w) : w.cell? ⟨0, 120, none⟩ = some (.string ⟨#[114, 101, 116, 117, 114, 110]⟩) ∧ w.cell? ⟨0, 121, none⟩ = some (.bool false) ∧ w.cell? ⟨0, 122, none⟩ = some (.bool false) ∧ w.cell? ⟨0, 123, none⟩ = some (.bool false) ∧ w.cell? ⟨0, 124, none⟩ = some (.int .i64 1) ∧ w.cell? ⟨0, 125, none⟩ = some (.int .i64 0) := ⟨h 120 _ rfl, h 121 _ rfl, h 122 _ rfl, h 123 _ rfl, h 124 _ rfl, h 125 _ rfl⟩

attribute [local go_sem] cell_alloc_is
set_option maxHeartbeats 2000000 in
theorem formed_load (gF gI : Nat) (w : World) (h : Shaped w) :
    Calls Tryz.prog 62 #[.agg #[.slice (some ⟨gF, 0, none⟩) 1 1, .slice (some ⟨gI, 0, none⟩) 2 2], .agg #[.string ⟨#[109, 97, 105, 110]⟩, .int .i64 1, .int .i64 1, .int .i64 0, .int .i64 2], .agg #[.int .i64 5, .int .i64 0, .string ⟨#[]⟩, .slice none 0 0]] w fun e w' => e = .returned (.bool true) ∧ Below w.heap.size w w' := by
  have hs := h.s5
  have HS := Lib.hid h
  clear h
  go_enter Tryz.func62, Tryz.ntmps62
  go_wp2_with (first
    | (go_at_call 84; go_enter Tryz.func84, Tryz.ntmps84)
    | (go_at_call 85; go_enter Tryz.func85, Tryz.ntmps85)
    | (go_at_call 83; go_enter Tryz.func83, Tryz.ntmps83))
  go_returns
  exact ⟨rfl, by go_grown⟩

set_option maxHeartbeats 2000000 in
theorem formed_ret (gF gI : Nat) (w : World) (h : Shaped w) :
    Calls Tryz.prog 62 #[.agg #[.slice (some ⟨gF, 0, none⟩) 1 1, .slice (some ⟨gI, 0, none⟩) 2 2], .agg #[.string ⟨#[109, 97, 105, 110]⟩, .int .i64 1, .int .i64 1, .int .i64 0, .int .i64 2], .agg #[.int .i64 20, .int .i64 0, .string ⟨#[]⟩, .slice none 0 0]] w fun e w' => e = .returned (.bool true) ∧ Below w.heap.size w w' := by
  have hs := h.s20
  have HS := Lib.hid h
  clear h
  go_enter Tryz.func62, Tryz.ntmps62
  go_wp2_with (first
    | (go_at_call 84; go_enter Tryz.func84, Tryz.ntmps84)
    | (go_at_call 85; go_enter Tryz.func85, Tryz.ntmps85))
  go_returns
  exact ⟨rfl, by go_grown⟩
end Go.Proofs.YtemakcaojdoakaaGreatDoor
