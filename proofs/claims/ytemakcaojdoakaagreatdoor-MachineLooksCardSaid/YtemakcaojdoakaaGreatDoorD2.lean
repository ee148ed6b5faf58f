/- The machines wake: the code, Find, functions. -/
import Derived.Test.YtemakcaojdoakaaGreatDoorD1
namespace Go.Proofs.YtemakcaojdoakaaGreatDoor
open Go.RowKit
set_option maxRecDepth 100000

/-- The code that the law runs: one function main of one parameter; load 0, return. -/
def CodeAt (w : World) (gF gI : Nat) : Prop :=
  Blk w gF 41 #[.string ⟨#[109, 97, 105, 110]⟩, .int .i64 1, .int .i64 1, .int .i64 0, .int .i64 2] ∧
  Blk w gI 46 #[.int .i64 5, .int .i64 0, .string ⟨#[]⟩, .slice none 0 0, .int .i64 20, .int .i64 0, .string ⟨#[]⟩, .slice none 0 0]
theorem CodeAt.below {w w' : World} {gF gI : Nat} (h : CodeAt w gF gI) (hb : Below w.heap.size w w') : CodeAt w' gF gI := ⟨h.1.below hb, h.2.below hb⟩
theorem CodeAt.f {w : World} {gF gI : Nat} (h : CodeAt w gF gI) :
    w.cell? ⟨gF, 0, none⟩ = some (.string ⟨#[109, 97, 105, 110]⟩) ∧ w.cell? ⟨gF, 1, none⟩ = some (.int .i64 1) ∧ w.cell? ⟨gF, 2, none⟩ = some (.int .i64 1) ∧ w.cell? ⟨gF, 3, none⟩ = some (.int .i64 0) ∧ w.cell? ⟨gF, 4, none⟩ = some (.int .i64 2) :=
  ⟨h.1.cell 0 _ rfl, h.1.cell 1 _ rfl, h.1.cell 2 _ rfl, h.1.cell 3 _ rfl, h.1.cell 4 _ rfl⟩
theorem CodeAt.i0 {w : World} {gF gI : Nat} (h : CodeAt w gF gI) :
    w.cell? ⟨gI, 0, none⟩ = some (.int .i64 5) ∧ w.cell? ⟨gI, 1, none⟩ = some (.int .i64 0) ∧ w.cell? ⟨gI, 2, none⟩ = some (.string ⟨#[]⟩) ∧ w.cell? ⟨gI, 3, none⟩ = some (.slice none 0 0) ∧
    w.cell? ⟨gI, 4, none⟩ = some (.int .i64 20) ∧ w.cell? ⟨gI, 5, none⟩ = some (.int .i64 0) ∧ w.cell? ⟨gI, 6, none⟩ = some (.string ⟨#[]⟩) ∧ w.cell? ⟨gI, 7, none⟩ = some (.slice none 0 0) :=
  ⟨h.2.cell 0 _ rfl, h.2.cell 1 _ rfl, h.2.cell 2 _ rfl, h.2.cell 3 _ rfl, h.2.cell 4 _ rfl, h.2.cell 5 _ rfl, h.2.cell 6 _ rfl, h.2.cell 7 _ rfl⟩

theorem blk5 {w : World} {g : Nat} {t : TypeId} {v0 v1 v2 v3 v4 : Value} (h : Blk w g t #[v0, v1, v2, v3, v4]) : w.cell? ⟨g, 0, none⟩ = some v0 ∧ w.cell? ⟨g, 1, none⟩ = some v1 ∧ w.cell? ⟨g, 2, none⟩ = some v2 ∧ w.cell? ⟨g, 3, none⟩ = some v3 ∧ w.cell? ⟨g, 4, none⟩ = some v4 :=
  ⟨h.cell 0 _ rfl, h.cell 1 _ rfl, h.cell 2 _ rfl, h.cell 3 _ rfl, h.cell 4 _ rfl⟩
attribute [local go_sem] cell_alloc_is
set_option maxHeartbeats 2000000 in
theorem find_main (gF gI : Nat) (w : World) (h : CodeAt w gF gI) :
    Calls Tryz.prog 30 #[.agg #[.slice (some ⟨gF, 0, none⟩) 1 1, .slice (some ⟨gI, 0, none⟩) 2 2], .string ⟨#[109, 97, 105, 110]⟩] w fun e w' => e = .returned (.int .i64 0) ∧ Below w.heap.size w w' := by
  have hf := h.f
  have HC := Lib.hid h
  clear h
  go_enter Tryz.func30, Tryz.ntmps30
  go_wp2_with (fail)
  go_enter Tryz.func43, Tryz.ntmps43
  go_wp2_with (fail)
  refine wp_loop_rounds 1 ?_
  rw [rounds_succ]
  go_wp2_with (first
    | (go_at_call 44; go_enter Tryz.func44, Tryz.ntmps44))
  go_returns
  exact ⟨rfl, by go_grown⟩

set_option maxHeartbeats 2000000 in
theorem functions_ok (gF gI : Nat) (w : World) (h : CodeAt w gF gI) :
    Calls Tryz.prog 61 #[.agg #[.slice (some ⟨gF, 0, none⟩) 1 1, .slice (some ⟨gI, 0, none⟩) 2 2]] w fun e w' => e = .returned (.tuple #[.int .i64 0, .int .i64 0]) ∧ Below w.heap.size w w' := by
  have hf := h.f
  have HC := Lib.hid h
  clear h
  go_enter Tryz.func61, Tryz.ntmps61
  go_wp2_with (fail)
  have HX := Lib.hid ((Blk.new w 49 #[.slice (some ⟨gF, 0, none⟩) 1 1, .slice (some ⟨gI, 0, none⟩) 2 2]).alloc (.cells #[.string ⟨#[109, 97, 105, 110]⟩, .int .i64 1, .int .i64 1, .int .i64 0, .int .i64 2] 41))
  have HY := Lib.hid (Blk.second w (.cells #[.slice (some ⟨gF, 0, none⟩) 1 1, .slice (some ⟨gI, 0, none⟩) 2 2] 49) 41 #[.string ⟨#[109, 97, 105, 110]⟩, .int .i64 1, .int .i64 1, .int .i64 0, .int .i64 2])
  refine wp_loop_rounds 2 ?_
  rw [rounds_succ]
  go_wp2_with (first
    | (go_at_call 82; with_reducible refine (name_main _).mono ?_; rintro e w1 ⟨rfl, hb1⟩; have HB1 := Lib.hid (below_call hb1 (below_2 w _ _)); have HC1 := Lib.hid (HC.out.below HB1.out); have hf1 := HC1.out.f; have HX1 := Lib.hid (HX.out.below hb1); have HY1 := Lib.hid (HY.out.below hb1); have gx1 := blk2 HX1.out; have gy1 := blk5 HY1.out; clear hb1)
    | (go_at_call 30; with_reducible refine (find_main _ _ _ HC1.out).mono ?_; rintro e w2 ⟨rfl, hb2⟩; have HB2 := Lib.hid (below_call hb2 HB1.out); have HC2 := Lib.hid (HC.out.below HB2.out); have hf2 := HC2.out.f; have HX2 := Lib.hid (HX1.out.below hb2); have HY2 := Lib.hid (HY1.out.below hb2); have gx2 := blk2 HX2.out; have gy2 := blk5 HY2.out; clear hb2)
    | (go_at_call 83; go_enter Tryz.func83, Tryz.ntmps83))
  rw [rounds_succ]
  go_wp2
  go_returns
  exact ⟨rfl, HB2.out⟩
end Go.Proofs.YtemakcaojdoakaaGreatDoor
