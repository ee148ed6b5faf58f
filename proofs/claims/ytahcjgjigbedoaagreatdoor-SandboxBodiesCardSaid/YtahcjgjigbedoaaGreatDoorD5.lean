/- The machines wake: verify, Check. -/
import Derived.Test.YtahcjgjigbedoaaGreatDoorD4
set_option linter.unusedVariables false
set_option linter.unusedSimpArgs false
namespace Go.Proofs.YtahcjgjigbedoaaGreatDoor
open Go.RowKit
set_option maxRecDepth 100000

/-- Where the walk of verify stands: its two boxes, the code, the shapes. -/
structure VSt (w W : World) (gF gI g0 g8 : Nat) : Prop where
 hc : Blk W g0 41 #[.slice (some ⟨gF, 0, none⟩) 1 1, .slice (some ⟨gI, 0, none⟩) 2 2]
 hf : Blk W g8 72 #[.string ⟨#[109, 97, 105, 110]⟩, .int .i64 1, .int .i64 1, .int .i64 0, .int .i64 2]
 hC : CodeAt W gF gI
 hS : Shaped W
 hB : Below w.heap.size w W
theorem VSt.below {w W W' : World} {gF gI g0 g8 : Nat} (h : VSt w W gF gI g0 g8) (hb : Below W.heap.size W W') : VSt w W' gF gI g0 g8 :=
 ⟨h.hc.below hb, h.hf.below hb, h.hC.below hb, h.hS.below hb, below_call hb h.hB⟩
theorem VSt.set {w W : World} {gF gI g0 g8 gD : Nat} (h : VSt w W gF gI g0 g8) (h0 : g0 < gD) (h8 : g8 < gD) (hF : gF < gD) (hI : gI < gD) (hB : w.heap.size ≤ gD) (h00 : 0 < gD) (j : Nat) (u : Value) : VSt w (W.setCell ⟨gD, j, none⟩ u) gF gI g0 g8 :=
 ⟨h.hc.far (p := ⟨gD, j, none⟩) (by simp; omega) u, h.hf.far (p := ⟨gD, j, none⟩) (by simp; omega) u, h.hC.far (p := ⟨gD, j, none⟩) (by simp; omega) (by simp; omega) u, h.hS.far (p := ⟨gD, j, none⟩) (by simp; omega) u, h.hB.setCell (p := ⟨gD, j, none⟩) hB u⟩
theorem VSt.grown {w W W' : World} {gF gI g0 g8 gD : Nat} (h : VSt w W gF gI g0 g8) (hg : W.grownBy W' (some gD)) (h0 : g0 < gD) (h8 : g8 < gD) (hF : gF < gD) (hI : gI < gD) (hB : w.heap.size ≤ gD) (h00 : 0 < gD) : VSt w W' gF gI g0 g8 :=
 ⟨h.hc.grown hg (by simp; omega), h.hf.grown hg (by simp; omega), ⟨h.hC.1.grown hg (by simp; omega), h.hC.2.grown hg (by simp; omega)⟩, fun i v hv => hg.cell (h.hS i v hv) (by simp; omega),
  h.hB.grown hg h.hB.size (fun k hk => by injection hk with hk; omega)⟩
attribute [local go_sem] cell_alloc_is
set_option maxHeartbeats 8000000 in
theorem verify_ok (gF gI : Nat) (w : World) (h : CodeAt w gF gI) (hs : Shaped w) :
  Calls Tryz.prog 32 #[.agg #[.slice (some ⟨gF, 0, none⟩) 1 1, .slice (some ⟨gI, 0, none⟩) 2 2]] w fun e w' => ∃ v, e = .returned (.tuple #[v, .int .i64 0, .int .i64 0]) ∧ Below w.heap.size w w' := by
 have HC0 := Lib.hid (h.below (below_new w (.cells #[.slice (some ⟨gF, 0, none⟩) 1 1, .slice (some ⟨gI, 0, none⟩) 2 2] 41)))
 have HS0 := Lib.hid (hs.below (below_new w (.cells #[.slice (some ⟨gF, 0, none⟩) 1 1, .slice (some ⟨gI, 0, none⟩) 2 2] 41)))
 have HX0 := Lib.hid (Blk.new w 41 #[.slice (some ⟨gF, 0, none⟩) 1 1, .slice (some ⟨gI, 0, none⟩) 2 2])
 have HB0 := Lib.hid (below_new w (.cells #[.slice (some ⟨gF, 0, none⟩) 1 1, .slice (some ⟨gI, 0, none⟩) 2 2] 41))
 clear h hs
 obtain ⟨P, hP⟩ : ∃ P : Ending → World → Prop, (fun e w' => ∃ v, e = .returned (.tuple #[v, .int .i64 0, .int .i64 0]) ∧ Below w.heap.size w w') = P := ⟨_, rfl⟩
 rw [hP]
 have HP := Lib.hid hP
 clear hP
 go_enter Tryz.func32, Tryz.ntmps32
 go_wp2_with (first
  | (go_at_call 47; with_reducible refine (functions_ok gF gI _ HC0.out).mono ?_; rintro e W1 ⟨rfl, hb1⟩; have HC1 := Lib.hid (HC0.out.below hb1); have HS1 := Lib.hid (HS0.out.below hb1); have HX1 := Lib.hid (HX0.out.below hb1); have HB1 := Lib.hid (below_call hb1 HB0.out); have x1 := blk2 HX1.out; have f1 := HC1.out.f; clear hb1))
 refine wp_loop_rounds 2 ?_
 rw [rounds_succ]
 go_wp2_with (fail)
 obtain ⟨g0, hg0⟩ : ∃ g, w.heap.size = g := ⟨_, rfl⟩
 obtain ⟨g8, hg8⟩ : ∃ g, W1.heap.size = g := ⟨_, rfl⟩
 obtain ⟨W2, hW2⟩ : ∃ W2, W1.alloc (.cells #[.string ⟨#[109, 97, 105, 110]⟩, .int .i64 1, .int .i64 1, .int .i64 0, .int .i64 2] 72) = W2 := ⟨_, rfl⟩
 have HV2 : Hid (VSt w W2 gF gI g0 g8) := Lib.hid (by
  rw [← hW2, ← hg0, ← hg8]
  exact ⟨HX1.out.alloc _, Blk.new W1 _ _, HC1.out.below (below_new _ _), HS1.out.below (below_new _ _), below_call (below_new _ _) HB1.out⟩)
 rw [hg0] at x1 ⊢
 rw [hg8, hW2]
 clear hW2 hg8 HX1 HC1 HS1 HB1 HX0 HC0 HS0 HB0 x1 f1
 have HG0 := Lib.hid hg0
 clear hg0
 refine wp_loop_rounds 3 ?_
 rw [rounds_succ]
 have c2 := blk2 HV2.out.hc
 have d2 := blk5 HV2.out.hf
 have i2 := HV2.out.hC.i0
 have HV2' := Lib.hid (HV2.out.below (below_new W2 (.cells #[.int .i64 5, .int .i64 0, .string ⟨#[]⟩, .slice none 0 0] 75)))
 have HI2 := Lib.hid (Blk.new W2 75 #[.int .i64 5, .int .i64 0, .string ⟨#[]⟩, .slice none 0 0])
 go_wp2_with (first
  | (go_at_call 48; with_reducible refine (formed_load gF gI _ HV2'.out.hS).mono ?_; rintro e W3 ⟨rfl, hb3⟩; have HV3 := Lib.hid (HV2'.out.below hb3); have HI3 := Lib.hid (HI2.out.below hb3); have c3' := blk2 HV3.out.hc; have d3' := blk5 HV3.out.hf; have i3' := blk4 HI3.out; clear hb3 c2 d2 i2))
 clear c3' d3' i3'
 rw [rounds_succ]
 have c3 := blk2 HV3.out.hc
 have d3 := blk5 HV3.out.hf
 have i3 := HV3.out.hC.i0
 have HV3' := Lib.hid (HV3.out.below (below_new W3 (.cells #[.int .i64 20, .int .i64 0, .string ⟨#[]⟩, .slice none 0 0] 75)))
 have HI3 := Lib.hid (Blk.new W3 75 #[.int .i64 20, .int .i64 0, .string ⟨#[]⟩, .slice none 0 0])
 go_wp2_with (first
  | (go_at_call 48; with_reducible refine (formed_ret gF gI _ HV3'.out.hS).mono ?_; rintro e W4 ⟨rfl, hb4⟩; have HV4 := Lib.hid (HV3'.out.below hb4); have HI4 := Lib.hid (HI3.out.below hb4); have c4' := blk2 HV4.out.hc; have d4' := blk5 HV4.out.hf; have i4' := blk4 HI4.out; clear hb4 c3 d3 i3))
 clear c4' d4' i4'
 rw [rounds_succ]
 have c4 := blk2 HV4.out.hc
 have d4 := blk5 HV4.out.hf
 go_wp2_with (fail)
 have hmk := mk_ints
 rw [rounds_succ]
 go_upto_region 19 with fail
 have l0 : g0 < W4.heap.size := lt_of_block HV4.out.hc
 have l8 : g8 < W4.heap.size := lt_of_block HV4.out.hf
 have lF : gF < W4.heap.size := lt_of_block HV4.out.hC.1
 have lI : gI < W4.heap.size := lt_of_block HV4.out.hC.2
 have lB : w.heap.size ≤ W4.heap.size := HV4.out.hB.size
 have lZ : 0 < W4.heap.size := by omega
 obtain ⟨W5, hW5⟩ : ∃ W5, W4.alloc (.cells #[.int .i64 0, .int .i64 0] 3) = W5 := ⟨_, rfl⟩
 obtain ⟨gD, hgD⟩ : ∃ g, W4.heap.size = g := ⟨_, rfl⟩
 have HV5 : Hid (VSt w W5 gF gI g0 g8) := Lib.hid (by rw [← hW5]; exact HV4.out.below (below_new _ _))
 have HD5 : Hid (Blk W5 gD 3 #[.int .i64 0, .int .i64 0]) := Lib.hid (by rw [← hW5, ← hgD]; exact Blk.new W4 _ _)
 rw [hgD] at l0 l8 lF lI lB lZ ⊢
 rw [hW5]
 clear hmk hW5 hgD c4 d4 HI3 HI4 HI2 HV2' HV3' HV2 HV3
 have HL := Lib.hid (And.intro l0 (And.intro l8 (And.intro lF (And.intro lI (And.intro lB lZ)))))
 have HD6 := Lib.hid ((HD5.out.set_ 0 (.int .i64 (-1))))
 have HV6 := Lib.hid (HV5.out.set l0 l8 lF lI lB lZ 0 (.int .i64 (-1)))
 have HD7 := Lib.hid ((HD6.out.set_ 1 (.int .i64 (-1))))
 have HV7 := Lib.hid (HV6.out.set l0 l8 lF lI lB lZ 1 (.int .i64 (-1)))
 obtain ⟨W7, hW7⟩ : ∃ W7, (W5.setCell ⟨gD, 0, none⟩ (.int .i64 (-1))).setCell ⟨gD, 1, none⟩ (.int .i64 (-1)) = W7 := ⟨_, rfl⟩
 have c5 := blk2 HD5.out
 have z50 := HD5.out.frozen 0
 have z51 := HD5.out.frozen 1
 go_wp2_with (fail)
 refine wp_loop_rounds 3 ?_
 rw [rounds_succ]
 go_wp2_with (fail)
 rw [rounds_succ]
 go_wp2_with (fail)
 rw [rounds_succ]
 rw [hW7] at HD7 HV7
 clear hW7 c5 z50 z51 HV6 HD6 HD5 HV5
 have c7 := blk2 HV7.out.hc
 have d7 := HV7.out.hC.f
 go_wp2_with (fail)
 refine wp_loop_rounds 2 ?_
 rw [rounds_succ]
 have HV8 := Lib.hid (HV7.out.below (below_new W7 (.cells #[.string ⟨#[109, 97, 105, 110]⟩, .int .i64 1, .int .i64 1, .int .i64 0, .int .i64 2] 72)))
 have HD7b : Hid (Blk W7 gD 3 #[.int .i64 (-1), .int .i64 (-1)]) := Lib.hid HD7.out
 have HD8 := Lib.hid (HD7b.out.alloc (.cells #[.string ⟨#[109, 97, 105, 110]⟩, .int .i64 1, .int .i64 1, .int .i64 0, .int .i64 2] 72))
 go_wp2_with (first
  | (go_at_call 49; with_reducible refine (depths_ok gF gI gD _ HV8.out.hC HV8.out.hS HD8.out (Nat.ne_of_lt lF) (Nat.ne_of_lt lI) (Nat.ne_of_lt lZ)).mono ?_; rintro e W9 ⟨rfl, _, hg9⟩; have HV9 := Lib.hid (HV8.out.grown hg9 l0 l8 lF lI lB lZ); have c9 := blk2 HV9.out.hc; clear hg9))
 rw [rounds_succ]
 go_wp2_with (fail)
 rw [← HP.out]
 exact ⟨_, rfl, HV9.out.hB⟩

theorem check_ok (gF gI : Nat) (w : World) (h : CodeAt w gF gI) (hs : Shaped w) :
  Calls Tryz.prog 20 #[.agg #[.slice (some ⟨gF, 0, none⟩) 1 1, .slice (some ⟨gI, 0, none⟩) 2 2]] w fun e w' => e = .returned (.tuple #[.int .i64 0, .int .i64 0]) ∧ Below w.heap.size w w' := by
 have HC := Lib.hid (h.below (below_new w (.cells #[.slice (some ⟨gF, 0, none⟩) 1 1, .slice (some ⟨gI, 0, none⟩) 2 2] 41)))
 have HS := Lib.hid (hs.below (below_new w (.cells #[.slice (some ⟨gF, 0, none⟩) 1 1, .slice (some ⟨gI, 0, none⟩) 2 2] 41)))
 clear h hs
 go_enter Tryz.func20, Tryz.ntmps20
 go_wp2_with (first
  | (go_at_call 32; with_reducible refine (verify_ok gF gI _ HC.out HS.out).mono ?_; rintro e W1 ⟨v, rfl, hb1⟩; have HB1 := Lib.hid (below_call hb1 (below_new _ _)); clear hb1))
 go_returns
 exact ⟨rfl, HB1.out⟩
end Go.Proofs.YtahcjgjigbedoaaGreatDoor
