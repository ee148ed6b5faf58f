/- The machines wake: awake. -/
import Derived.Test.YtemakcaojdoakaaGreatDoorD25
namespace Go.Proofs.YtemakcaojdoakaaGreatDoor
open Go.RowKit
set_option maxRecDepth 100000

/-- What awake holds in memory. -/
structure AwSt (w W : World) (gF gI gC gV : Nat) : Prop where
  hC : CodeAt W gF gI
  hB : Blk W gC 49 #[.slice (some ⟨gF, 0, none⟩) 1 1, .slice (some ⟨gI, 0, none⟩) 2 2]
  hV : Blk W gV 52 #[.int .i64 3, .int .i64 7, .string ⟨#[]⟩, .int .i64 0]
  hS : Shaped W
  hW : Below w.heap.size w W
theorem AwSt.below {w W W' : World} {gF gI gC gV : Nat} (h : AwSt w W gF gI gC gV) (hb : Below W.heap.size W W') : AwSt w W' gF gI gC gV :=
  ⟨h.hC.below hb, h.hB.below hb, h.hV.below hb, h.hS.below hb, below_call hb h.hW⟩
theorem Blk.nth (w : World) (o1 o2 o3 : Obj) (t : TypeId) (cs : Array Value) : Blk ((((w.alloc o1).alloc o2).alloc o3).alloc (.cells cs t)) (w.heap.size + 1 + 1 + 1) t cs := by
  have := Blk.new (((w.alloc o1).alloc o2).alloc o3) t cs
  simpa using this
theorem MachV.val {w : World} {a b A B C c d e f : Value} {m : MachD} (h : MachV w (.agg #[a, b, A, B, C, c, d, e, f]) m) : ValV w A m.value := by
  obtain ⟨vv, fv, qv, e, h1, _⟩ := h
  injection e with e
  simp at e
  rw [e.2.2.1]
  exact h1
attribute [local go_sem] cell_alloc_is
set_option maxHeartbeats 8000000 in
theorem awake_ok (w : World) (hs : Shaped w) : Calls Tryz.prog 5 #[] w fun e w' => e = .returned (.bool true) ∧ Below w.heap.size w w' := by
  have HS := Lib.hid hs
  clear hs
  go_enter Tryz.func5, Tryz.ntmps5
  go_upto_region 3 with fail
  obtain ⟨W, hW⟩ : ∃ W, (((w.alloc (.cells #[.string ⟨#[109, 97, 105, 110]⟩, .int .i64 1, .int .i64 1, .int .i64 0, .int .i64 2] 41)).alloc (.cells #[.int .i64 5, .int .i64 0, .string ⟨#[]⟩, .slice none 0 0, .int .i64 20, .int .i64 0, .string ⟨#[]⟩, .slice none 0 0] 46)).alloc (.cells #[.slice (some ⟨w.heap.size, 0, none⟩) 1 1, .slice (some ⟨w.heap.size + 1, 0, none⟩) 2 2] 49)).alloc (.cells #[.int .i64 3, .int .i64 7, .string ⟨#[]⟩, .int .i64 0] 52) = W := ⟨_, rfl⟩
  have hbw : Below w.heap.size w W := by rw [← hW]; exact (below_3 w _ _ _).alloc (by simp; omega) _
  have HC0 : Hid (CodeAt W w.heap.size (w.heap.size + 1)) := Lib.hid (by rw [← hW]; exact ⟨(((Blk.new w _ _).alloc _).alloc _).alloc _, ((Blk.second w _ _ _).alloc _).alloc _⟩)
  have HB0 : Hid (Blk W (w.heap.size + 1 + 1) 49 #[.slice (some ⟨w.heap.size, 0, none⟩) 1 1, .slice (some ⟨w.heap.size + 1, 0, none⟩) 2 2]) := Lib.hid (by rw [← hW]; exact (Blk.third w _ _ _ _).alloc _)
  have HV0 : Hid (Blk W (w.heap.size + 1 + 1 + 1) 52 #[.int .i64 3, .int .i64 7, .string ⟨#[]⟩, .int .i64 0]) := Lib.hid (by rw [← hW]; exact Blk.nth w _ _ _ _ _)
  obtain ⟨gV, hgV⟩ : ∃ g, w.heap.size + 1 + 1 + 1 = g := ⟨_, rfl⟩
  obtain ⟨gC, hgC⟩ : ∃ g, w.heap.size + 1 + 1 = g := ⟨_, rfl⟩
  obtain ⟨gI, hgI⟩ : ∃ g, w.heap.size + 1 = g := ⟨_, rfl⟩
  obtain ⟨gF, hgF⟩ : ∃ g, w.heap.size = g := ⟨_, rfl⟩
  have HA : Hid (AwSt w W gF gI gC gV) := Lib.hid ⟨by rw [← hgF, ← hgI]; exact HC0.out, by rw [← hgF, ← hgI, ← hgC]; exact HB0.out, by rw [← hgV]; exact HV0.out, HS.out.below hbw, hbw⟩
  rw [hW, hgV, hgC, hgI, hgF]
  have HGF := Lib.hid hgF
  clear hW hgV hgC hgI hgF hbw HC0 HB0 HV0 HS
  have HT3 := Lib.hid (start_ok gF gI gV 10 W HA.out.hC HA.out.hS HA.out.hV (by omega) (by omega))
  have b0 := blk2 HA.out.hB
  go_upto_region 4 with (first
    | (go_at_call 10; (with_reducible refine HT3.out.mono ?_); rintro e w3 ⟨x3, rfl, hm3, hb3⟩; obtain ⟨aa1, aan1, aak1, aa2, aan2, aak2, aa3, aan3, aak3, rfl⟩ := hm3.shape; have HM3 : Hid (MachV w3 (.agg #[.int .i64 1, .int .i64 0, .slice aa1 aan1 aak1, .slice aa2 aan2 aak2, .slice aa3 aan3 aak3, .int .i64 10, .int .i64 10, .int .i64 0, .int .i64 1]) (m1 10)) := Lib.hid hm3; have HA3 := Lib.hid (HA.out.below hb3); clear hm3 hb3 b0))
  dsimp only [m1]
  obtain ⟨X3, hX3⟩ : ∃ X, w3.alloc (.cells #[.int .i64 1, .int .i64 0, .slice aa1 aan1 aak1, .slice aa2 aan2 aak2, .slice aa3 aan3 aak3, .int .i64 10, .int .i64 10, .int .i64 0, .int .i64 1] 30) = X := ⟨_, rfl⟩
  obtain ⟨g3, hg3⟩ : ∃ g, w3.heap.size = g := ⟨_, rfl⟩
  rw [hX3, hg3]
  have hbx3 : Below w3.heap.size w3 X3 := by rw [← hX3]; exact below_new _ _
  have HN3 : Hid (Blk X3 g3 30 #[.int .i64 1, .int .i64 0, .slice aa1 aan1 aak1, .slice aa2 aan2 aak2, .slice aa3 aan3 aak3, .int .i64 10, .int .i64 10, .int .i64 0, .int .i64 1]) := Lib.hid (by rw [← hX3, ← hg3]; exact Blk.new _ _ _)
  have HL3 : Hid (MachV X3 (.agg #[.int .i64 1, .int .i64 0, .slice aa1 aan1 aak1, .slice aa2 aan2 aak2, .slice aa3 aan3 aak3, .int .i64 10, .int .i64 10, .int .i64 0, .int .i64 1]) (m1 10)) := Lib.hid (HM3.out.below hbx3)
  have HQ3 := Lib.hid (HA3.out.below hbx3)
  clear hX3 hg3 hbx3
  have b3 := blk2 HQ3.out.hB
  have n3 := blk9 HN3.out
  have HT4 := Lib.hid (run_one gF gI _ X3 HQ3.out.hC HL3.out)
  go_upto_region 5 with (first
    | (go_at_call 11; (with_reducible refine HT4.out.mono ?_); rintro e w4 ⟨x4, rfl, hm4, hb4⟩; have hm4 := mach_one hm4; obtain ⟨bb1, bbn1, bbk1, bb2, bbn2, bbk2, bb3, bbn3, bbk3, rfl⟩ := hm4.shape; have HM4 : Hid (MachV w4 (.agg #[.int .i64 1, .int .i64 0, .slice bb1 bbn1 bbk1, .slice bb2 bbn2 bbk2, .slice bb3 bbn3 bbk3, .int .i64 10, .int .i64 10, .int .i64 1, .int .i64 2]) ⟨1, 0, [], [⟨0, 1, [[c7]], [[c7]]⟩], [], 10, 10, 1, 2⟩) := Lib.hid hm4; have HY4 := Lib.hid hb4; have HA4 := Lib.hid (HQ3.out.below hb4); clear hm4 hb4 b3))
  obtain ⟨X4, hX4⟩ : ∃ X, w4.alloc (.cells #[.int .i64 1, .int .i64 0, .slice bb1 bbn1 bbk1, .slice bb2 bbn2 bbk2, .slice bb3 bbn3 bbk3, .int .i64 10, .int .i64 10, .int .i64 1, .int .i64 2] 30) = X := ⟨_, rfl⟩
  obtain ⟨g4, hg4⟩ : ∃ g, w4.heap.size = g := ⟨_, rfl⟩
  rw [hX4, hg4]
  have hbx4 : Below w4.heap.size w4 X4 := by rw [← hX4]; exact below_new _ _
  have HN4 : Hid (Blk X4 g4 30 #[.int .i64 1, .int .i64 0, .slice bb1 bbn1 bbk1, .slice bb2 bbn2 bbk2, .slice bb3 bbn3 bbk3, .int .i64 10, .int .i64 10, .int .i64 1, .int .i64 2]) := Lib.hid (by rw [← hX4, ← hg4]; exact Blk.new _ _ _)
  have HL4 : Hid (MachV X4 (.agg #[.int .i64 1, .int .i64 0, .slice bb1 bbn1 bbk1, .slice bb2 bbn2 bbk2, .slice bb3 bbn3 bbk3, .int .i64 10, .int .i64 10, .int .i64 1, .int .i64 2]) ⟨1, 0, [], [⟨0, 1, [[c7]], [[c7]]⟩], [], 10, 10, 1, 2⟩) := Lib.hid (HM4.out.below hbx4)
  have HQ4 := Lib.hid (HA4.out.below hbx4)
  have HN34 := Lib.hid (HN3.out.below (below_call hbx4 HY4.out))
  have HL34 := Lib.hid (HL3.out.below (below_call hbx4 HY4.out))
  clear hX4 hg4 hbx4
  have b4 := blk2 HQ4.out.hB
  have n34 := blk9 HN34.out
  have n4 := blk9 HN4.out
  have HT5 := Lib.hid (run_five gF gI _ X4 HQ4.out.hC HL34.out)
  go_upto_region 6 with (first
    | (go_at_call 11; (with_reducible refine HT5.out.mono ?_); rintro e w5 ⟨x5, rfl, hm5, hb5⟩; have hm5 := mach_none hm5 (by simp); obtain ⟨cc1, ccn1, cck1, cc2, ccn2, cck2, cc3, ccn3, cck3, rfl⟩ := hm5.shape; have HM5 : Hid (MachV w5 (.agg #[.int .i64 3, .int .i64 0, .slice cc1 ccn1 cck1, .slice cc2 ccn2 cck2, .slice cc3 ccn3 cck3, .int .i64 10, .int .i64 10, .int .i64 2, .int .i64 2]) ⟨3, 0, [c7], [], [], 10, 10, 2, 2⟩) := Lib.hid hm5; have HY5 := Lib.hid hb5; have HA5 := Lib.hid (HQ4.out.below hb5); clear hm5 hb5 b4))
  obtain ⟨X5, hX5⟩ : ∃ X, w5.alloc (.cells #[.int .i64 3, .int .i64 0, .slice cc1 ccn1 cck1, .slice cc2 ccn2 cck2, .slice cc3 ccn3 cck3, .int .i64 10, .int .i64 10, .int .i64 2, .int .i64 2] 30) = X := ⟨_, rfl⟩
  obtain ⟨g5, hg5⟩ : ∃ g, w5.heap.size = g := ⟨_, rfl⟩
  rw [hX5, hg5]
  have hbx5 : Below w5.heap.size w5 X5 := by rw [← hX5]; exact below_new _ _
  have HN5 : Hid (Blk X5 g5 30 #[.int .i64 3, .int .i64 0, .slice cc1 ccn1 cck1, .slice cc2 ccn2 cck2, .slice cc3 ccn3 cck3, .int .i64 10, .int .i64 10, .int .i64 2, .int .i64 2]) := Lib.hid (by rw [← hX5, ← hg5]; exact Blk.new _ _ _)
  have HL5 : Hid (MachV X5 (.agg #[.int .i64 3, .int .i64 0, .slice cc1 ccn1 cck1, .slice cc2 ccn2 cck2, .slice cc3 ccn3 cck3, .int .i64 10, .int .i64 10, .int .i64 2, .int .i64 2]) ⟨3, 0, [c7], [], [], 10, 10, 2, 2⟩) := Lib.hid (HM5.out.below hbx5)
  have HQ5 := Lib.hid (HA5.out.below hbx5)
  have HN35 := Lib.hid (HN34.out.below (below_call hbx5 HY5.out))
  have HL35 := Lib.hid (HL34.out.below (below_call hbx5 HY5.out))
  have HN45 := Lib.hid (HN4.out.below (below_call hbx5 HY5.out))
  have HL45 := Lib.hid (HL4.out.below (below_call hbx5 HY5.out))
  clear hX5 hg5 hbx5
  have b5 := blk2 HQ5.out.hB
  have n35 := blk9 HN35.out
  have n45 := blk9 HN45.out
  have n5 := blk9 HN5.out
  have HT6 := Lib.hid (start_ok gF gI gV 1 X5 HQ5.out.hC HQ5.out.hS HQ5.out.hV (by omega) (by omega))
  go_upto_region 7 with (first
    | (go_at_call 10; (with_reducible refine HT6.out.mono ?_); rintro e w6 ⟨x6, rfl, hm6, hb6⟩; have hm6 := hm6; obtain ⟨dd1, ddn1, ddk1, dd2, ddn2, ddk2, dd3, ddn3, ddk3, rfl⟩ := hm6.shape; have HM6 : Hid (MachV w6 (.agg #[.int .i64 1, .int .i64 0, .slice dd1 ddn1 ddk1, .slice dd2 ddn2 ddk2, .slice dd3 ddn3 ddk3, .int .i64 10, .int .i64 1, .int .i64 0, .int .i64 1]) (m1 1)) := Lib.hid hm6; have HY6 := Lib.hid hb6; have HA6 := Lib.hid (HQ5.out.below hb6); clear hm6 hb6 b5))
  dsimp only [m1]
  obtain ⟨X6, hX6⟩ : ∃ X, w6.alloc (.cells #[.int .i64 1, .int .i64 0, .slice dd1 ddn1 ddk1, .slice dd2 ddn2 ddk2, .slice dd3 ddn3 ddk3, .int .i64 10, .int .i64 1, .int .i64 0, .int .i64 1] 30) = X := ⟨_, rfl⟩
  obtain ⟨g6, hg6⟩ : ∃ g, w6.heap.size = g := ⟨_, rfl⟩
  rw [hX6, hg6]
  have hbx6 : Below w6.heap.size w6 X6 := by rw [← hX6]; exact below_new _ _
  have HN6 : Hid (Blk X6 g6 30 #[.int .i64 1, .int .i64 0, .slice dd1 ddn1 ddk1, .slice dd2 ddn2 ddk2, .slice dd3 ddn3 ddk3, .int .i64 10, .int .i64 1, .int .i64 0, .int .i64 1]) := Lib.hid (by rw [← hX6, ← hg6]; exact Blk.new _ _ _)
  have HL6 : Hid (MachV X6 (.agg #[.int .i64 1, .int .i64 0, .slice dd1 ddn1 ddk1, .slice dd2 ddn2 ddk2, .slice dd3 ddn3 ddk3, .int .i64 10, .int .i64 1, .int .i64 0, .int .i64 1]) (m1 1)) := Lib.hid (HM6.out.below hbx6)
  have HQ6 := Lib.hid (HA6.out.below hbx6)
  have HN36 := Lib.hid (HN35.out.below (below_call hbx6 HY6.out))
  have HL36 := Lib.hid (HL35.out.below (below_call hbx6 HY6.out))
  have HN46 := Lib.hid (HN45.out.below (below_call hbx6 HY6.out))
  have HL46 := Lib.hid (HL45.out.below (below_call hbx6 HY6.out))
  have HN56 := Lib.hid (HN5.out.below (below_call hbx6 HY6.out))
  have HL56 := Lib.hid (HL5.out.below (below_call hbx6 HY6.out))
  clear hX6 hg6 hbx6
  have b6 := blk2 HQ6.out.hB
  have n36 := blk9 HN36.out
  have n46 := blk9 HN46.out
  have n56 := blk9 HN56.out
  have n6 := blk9 HN6.out
  have HT7 := Lib.hid (step_t gF gI _ X6 HQ6.out.hC HL6.out)
  go_upto_region 8 with (first
    | (go_at_call 12; (with_reducible refine HT7.out.mono ?_); rintro e w7 ⟨x7, rfl, hm7, hb7⟩; have hm7 := mach_none hm7 (by simp); obtain ⟨ee1, een1, eek1, ee2, een2, eek2, ee3, een3, eek3, rfl⟩ := hm7.shape; have HM7 : Hid (MachV w7 (.agg #[.int .i64 4, .int .i64 16, .slice ee1 een1 eek1, .slice ee2 een2 eek2, .slice ee3 een3 eek3, .int .i64 10, .int .i64 1, .int .i64 1, .int .i64 2]) ⟨4, 16, [], [], [], 10, 1, 1, 2⟩) := Lib.hid hm7; have HY7 := Lib.hid hb7; have HA7 := Lib.hid (HQ6.out.below hb7); clear hm7 hb7 b6))
  obtain ⟨X7, hX7⟩ : ∃ X, w7.alloc (.cells #[.int .i64 4, .int .i64 16, .slice ee1 een1 eek1, .slice ee2 een2 eek2, .slice ee3 een3 eek3, .int .i64 10, .int .i64 1, .int .i64 1, .int .i64 2] 30) = X := ⟨_, rfl⟩
  obtain ⟨g7, hg7⟩ : ∃ g, w7.heap.size = g := ⟨_, rfl⟩
  rw [hX7, hg7]
  have hbx7 : Below w7.heap.size w7 X7 := by rw [← hX7]; exact below_new _ _
  have HN7 : Hid (Blk X7 g7 30 #[.int .i64 4, .int .i64 16, .slice ee1 een1 eek1, .slice ee2 een2 eek2, .slice ee3 een3 eek3, .int .i64 10, .int .i64 1, .int .i64 1, .int .i64 2]) := Lib.hid (by rw [← hX7, ← hg7]; exact Blk.new _ _ _)
  have HL7 : Hid (MachV X7 (.agg #[.int .i64 4, .int .i64 16, .slice ee1 een1 eek1, .slice ee2 een2 eek2, .slice ee3 een3 eek3, .int .i64 10, .int .i64 1, .int .i64 1, .int .i64 2]) ⟨4, 16, [], [], [], 10, 1, 1, 2⟩) := Lib.hid (HM7.out.below hbx7)
  have HQ7 := Lib.hid (HA7.out.below hbx7)
  have HN37 := Lib.hid (HN36.out.below (below_call hbx7 HY7.out))
  have HL37 := Lib.hid (HL36.out.below (below_call hbx7 HY7.out))
  have HN47 := Lib.hid (HN46.out.below (below_call hbx7 HY7.out))
  have HL47 := Lib.hid (HL46.out.below (below_call hbx7 HY7.out))
  have HN57 := Lib.hid (HN56.out.below (below_call hbx7 HY7.out))
  have HL57 := Lib.hid (HL56.out.below (below_call hbx7 HY7.out))
  have HN67 := Lib.hid (HN6.out.below (below_call hbx7 HY7.out))
  have HL67 := Lib.hid (HL6.out.below (below_call hbx7 HY7.out))
  clear hX7 hg7 hbx7
  have b7 := blk2 HQ7.out.hB
  have n37 := blk9 HN37.out
  have n47 := blk9 HN47.out
  have n57 := blk9 HN57.out
  have n67 := blk9 HN67.out
  have n7 := blk9 HN7.out
  have HT8 : Hid (Calls Tryz.prog 13 #[.agg #[.int .i64 1, .int .i64 0, .slice aa1 aan1 aak1, .slice aa2 aan2 aak2, .slice aa3 aan3 aak3, .int .i64 10, .int .i64 10, .int .i64 0, .int .i64 1]] X7 fun e w' => e = .returned (.int .i64 1) ∧ Below X7.heap.size X7 w') := Lib.hid (memory_any (m1 10) _ X7 HL37.out ⟨by simp [m1], by simp [m1]⟩)
  have HT9 : Hid (∀ wx, Below X7.heap.size X7 wx → Calls Tryz.prog 13 #[.agg #[.int .i64 1, .int .i64 0, .slice bb1 bbn1 bbk1, .slice bb2 bbn2 bbk2, .slice bb3 bbn3 bbk3, .int .i64 10, .int .i64 10, .int .i64 1, .int .i64 2]] wx fun e w' => e = .returned (.int .i64 2) ∧ Below wx.heap.size wx w') := Lib.hid (fun wx hx => memory_any ⟨1, 0, [], [⟨0, 1, [[c7]], [[c7]]⟩], [], 10, 10, 1, 2⟩ _ wx (HL47.out.below hx) ⟨by simp, by simp⟩)
  have HTC : Hid (∀ wx, Below X7.heap.size X7 wx → Calls Tryz.prog 14 #[.slice cc1 ccn1 cck1, .slice (some ⟨gV, 0, none⟩) 1 1] wx fun e w' => e = .returned (.bool true) ∧ ∃ q, w' = wx.drewN q) := Lib.hid (fun wx hx => cells_any [c7] [c7] _ _ wx (HL57.out.val.below hx) ((valOne HQ7.out.hV).below hx))
  go_wp2_with (first
    | (go_at_call 13; (with_reducible refine HT8.out.mono ?_); rintro e w8 ⟨rfl, hb8⟩; have HY8 := Lib.hid hb8; have n8 := blk9 (HN47.out.below hb8); clear hb8)
    | (go_at_call 13; (with_reducible refine (HT9.out _ HY8.out).mono ?_); rintro e w9 ⟨rfl, hb9⟩; have hy9 := below_call hb9 HY8.out; have HY9 := Lib.hid hy9; have n9 := blk9 (HN57.out.below hy9); have m9 := blk9 (HN7.out.below hy9); clear hb9 hy9)
    | (go_at_call 14; (with_reducible refine (HTC.out _ HY9.out).mono ?_); rintro e w10 ⟨rfl, q, rfl⟩))
  go_returns
  exact ⟨rfl, below_drewN (below_call HY9.out HQ7.out.hW) q⟩
end Go.Proofs.YtemakcaojdoakaaGreatDoor
