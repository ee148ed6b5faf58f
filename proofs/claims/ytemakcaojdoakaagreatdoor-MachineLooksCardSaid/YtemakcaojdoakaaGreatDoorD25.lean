/- The machines wake: Step; awake. -/
import Derived.Test.YtemakcaojdoakaaGreatDoorD22
import Derived.Test.YtemakcaojdoakaaGreatDoorD23
import Derived.Test.YtemakcaojdoakaaGreatDoorD24
namespace Go.Proofs.YtemakcaojdoakaaGreatDoor
open Go.RowKit
set_option maxRecDepth 100000

theorem MachV.shape {w : World} {v : Value} {m : MachD} (h : MachV w v m) : ∃ A1 n1 k1 A2 n2 k2 A3 n3 k3, v = .agg #[.int .i64 m.status, .int .i64 m.err, .slice A1 n1 k1, .slice A2 n2 k2, .slice A3 n3 k3, .int .i64 m.lsteps, .int .i64 m.lmem, .int .i64 m.steps, .int .i64 m.peak] := by
  obtain ⟨vv, fv, qv, rfl, h1, h2, h3⟩ := h
  obtain ⟨A1, n1, k1, rfl⟩ := h1.shape
  obtain ⟨A2, n2, k2, rfl⟩ := h2.shape
  obtain ⟨A3, n3, k3, rfl⟩ := h3.shape
  exact ⟨_, _, _, _, _, _, _, _, _, rfl⟩
attribute [local go_sem] cell_alloc_is
set_option maxHeartbeats 8000000 in
theorem step_t (gF gI : Nat) (v : Value) (w : World) (h : CodeAt w gF gI) (hm : MachV w v (m1 1)) :
    Calls Tryz.prog 12 #[.agg #[.slice (some ⟨gF, 0, none⟩) 1 1, .slice (some ⟨gI, 0, none⟩) 2 2], v] w fun e w' => ∃ x, e = .returned x ∧ OMach w' w.heap.size x ⟨4, 16, [], [], [], 10, 1, 1, 2⟩ ∧ Below w.heap.size w w' := by
  obtain ⟨A1, n1, k1, A2, n2, k2, A3, n3, k3, rfl⟩ := hm.shape
  replace hm : MachV w (.agg #[.int .i64 1, .int .i64 0, .slice A1 n1 k1, .slice A2 n2 k2, .slice A3 n3 k3, .int .i64 10, .int .i64 1, .int .i64 0, .int .i64 1]) (m1 1) := hm
  dsimp only [m1]
  have HB := Lib.hid (below_3 w (.cells #[.slice (some ⟨gF, 0, none⟩) 1 1, .slice (some ⟨gI, 0, none⟩) 2 2] 49) (.cells #[.int .i64 1, .int .i64 0, .slice A1 n1 k1, .slice A2 n2 k2, .slice A3 n3 k3, .int .i64 10, .int .i64 1, .int .i64 0, .int .i64 1] 30) (.cells #[.int .i64 0, .int .i64 0, .slice none 0 0, .slice none 0 0, .slice none 0 0, .int .i64 0, .int .i64 0, .int .i64 0, .int .i64 0] 30))
  have HR := Lib.hid (run_over gF gI (.agg #[.int .i64 1, .int .i64 0, .slice A1 n1 k1, .slice A2 n2 k2, .slice A3 n3 k3, .int .i64 10, .int .i64 1, .int .i64 0, .int .i64 1]) _ (h.below HB.out) (hm.below HB.out))
  have HZ := Lib.hid (Blk.third w (.cells #[.slice (some ⟨gF, 0, none⟩) 1 1, .slice (some ⟨gI, 0, none⟩) 2 2] 49) (.cells #[.int .i64 1, .int .i64 0, .slice A1 n1 k1, .slice A2 n2 k2, .slice A3 n3 k3, .int .i64 10, .int .i64 1, .int .i64 0, .int .i64 1] 30) 30 #[.int .i64 0, .int .i64 0, .slice none 0 0, .slice none 0 0, .slice none 0 0, .int .i64 0, .int .i64 0, .int .i64 0, .int .i64 0])
  clear h hm
  go_enter Tryz.func12, Tryz.ntmps12
  go_wp2_with (first
    | (go_at_call 11; (with_reducible refine HR.out.mono ?_); rintro e w4 ⟨v4, rfl, ho4, hb4⟩; obtain ⟨C1, l1, z1, C2, l2, z2, C3, l3, z3, rfl⟩ := ho4.shape; have HO4 := Lib.hid ho4; have HZ4 := Lib.hid (HZ.out.below hb4); have HW4 := Lib.hid (below_call hb4 HB.out); clear ho4 hb4)
    | (refine wpList_store_row rfl 30 (.tmp 4) (.tmp 7) rfl (w.heap.size + 1 + 1) #[.int .i64 4, .int .i64 16, .slice C1 l1 z1, .slice C2 l2 z2, .slice C3 l3 z3, .int .i64 10, .int .i64 1, .int .i64 1, .int .i64 2] rfl rfl 30 _ HZ4.out (by kernel_rfl) rfl (by simp [Value.oneCell']) ?_))
  have HZ5 := Lib.hid (HZ4.out.setRow (cs' := #[.int .i64 4, .int .i64 16, .slice C1 l1 z1, .slice C2 l2 z2, .slice C3 l3 z3, .int .i64 10, .int .i64 1, .int .i64 1, .int .i64 2]))
  have HO5 := Lib.hid (HO4.out.kt (KT.row HZ4.out #[.int .i64 4, .int .i64 16, .slice C1 l1 z1, .slice C2 l2 z2, .slice C3 l3 z3, .int .i64 10, .int .i64 1, .int .i64 1, .int .i64 2]))
  have HW5 := Lib.hid (below_setRow HW4.out (show w.heap.size ≤ w.heap.size + 1 + 1 by omega) #[.int .i64 4, .int .i64 16, .slice C1 l1 z1, .slice C2 l2 z2, .slice C3 l3 z3, .int .i64 10, .int .i64 1, .int .i64 1, .int .i64 2])
  obtain ⟨w5, hw5⟩ : ∃ w5, w4.setRow (w.heap.size + 1 + 1) #[.int .i64 4, .int .i64 16, .slice C1 l1 z1, .slice C2 l2 z2, .slice C3 l3 z3, .int .i64 10, .int .i64 1, .int .i64 1, .int .i64 2] = w5 := ⟨_, rfl⟩
  rw [hw5] at HZ5 HO5 HW5
  try rw [hw5]
  clear hw5
  have gz := blk9 HZ5.out
  refine bodyPost_ret (v := .agg #[.int .i64 4, .int .i64 16, .slice C1 l1 z1, .slice C2 l2 z2, .slice C3 l3 z3, .int .i64 10, .int .i64 1, .int .i64 1, .int .i64 2]) (by simp [results, Tryz.results12, go_sem, gz]) rfl ?_
  exact ⟨_, rfl, HO5.out.base HB.out.size, HW5.out⟩
end Go.Proofs.YtemakcaojdoakaaGreatDoor
