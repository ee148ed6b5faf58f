/- The machines wake: pops, successors, depths. -/
import Derived.Test.YtahcjgjigbedoaaGreatDoorGD3
import Derived.Test.YtahcjgjigbedoaaGreatDoorC10
set_option linter.unusedVariables false
set_option linter.unusedSimpArgs false
namespace Go.Proofs.YtahcjgjigbedoaaGreatDoor
open Go.RowKit
set_option maxRecDepth 100000

attribute [local go_sem] cell_alloc_is
set_option maxHeartbeats 2000000 in
theorem pops_load (gF gI : Nat) (w : World) (h : Shaped w) :
  Calls Tryz.prog 75 #[.agg #[.slice (some ⟨gF, 0, none⟩) 1 1, .slice (some ⟨gI, 0, none⟩) 2 2], .agg #[.int .i64 5, .int .i64 0, .string ⟨#[]⟩, .slice none 0 0]] w fun e w' => e = .returned (.int .i64 0) ∧ Below w.heap.size w w' := by
 have hs := h.s5
 have HS := Lib.hid h
 clear h
 go_enter Tryz.func75, Tryz.ntmps75
 go_wp2
 go_returns
 exact ⟨rfl, by go_grown⟩
set_option maxHeartbeats 2000000 in
theorem pops_ret (gF gI : Nat) (w : World) (h : Shaped w) :
  Calls Tryz.prog 75 #[.agg #[.slice (some ⟨gF, 0, none⟩) 1 1, .slice (some ⟨gI, 0, none⟩) 2 2], .agg #[.int .i64 20, .int .i64 0, .string ⟨#[]⟩, .slice none 0 0]] w fun e w' => e = .returned (.int .i64 1) ∧ Below w.heap.size w w' := by
 have hs := h.s20
 have HS := Lib.hid h
 clear h
 go_enter Tryz.func75, Tryz.ntmps75
 go_wp2
 go_returns
 exact ⟨rfl, by go_grown⟩
set_option maxHeartbeats 2000000 in
theorem succ_load (w : World) :
  Calls Tryz.prog 76 #[.agg #[.int .i64 5, .int .i64 0, .string ⟨#[]⟩, .slice none 0 0], .int .i64 0] w fun e w' => ∃ g, e = .returned (.slice (some ⟨g, 0, none⟩) 1 1) ∧ w'.cell? ⟨g, 0, none⟩ = some (.int .i64 1) ∧ w.heap.size ≤ g ∧ Below w.heap.size w w' := by
 go_enter Tryz.func76, Tryz.ntmps76
 go_wp2
 go_returns
 refine ⟨_, rfl, ?_, ?_, by go_grown⟩
 ·simp [go_sem]
 ·simp
set_option maxHeartbeats 2000000 in
theorem succ_ret (w : World) :
  Calls Tryz.prog 76 #[.agg #[.int .i64 20, .int .i64 0, .string ⟨#[]⟩, .slice none 0 0], .int .i64 1] w fun e w' => e = .returned (.slice none 0 0) ∧ Below w.heap.size w w' := by
 go_enter Tryz.func76, Tryz.ntmps76
 go_wp2
 go_returns
 exact ⟨rfl, by go_grown⟩

theorem Tryz.infoBool : (Tryz.prog.info? 4).map (fun i => (i.zero, i.size, i.bytes)) = some (some (.bool false), 1, 1) := by kernel_rfl
theorem Tryz.infoInt : (Tryz.prog.info? 3).map (fun i => (i.zero, i.size, i.bytes)) = some (some (.int .i64 0), 1, 8) := by kernel_rfl
theorem mc_b : madeCells (Value.bool false).cells (2 * 1) = #[Value.bool false, Value.bool false] := by kernel_rfl
theorem mc_i : madeCells (Value.int .i64 0).cells (2 * 1) = #[Value.int .i64 0, Value.int .i64 0] := by kernel_rfl
theorem mk_bools (w : World) : (Instr.makeSlice 132 (.int .i64 2) (.int .i64 2)).run Tryz.prog w = .ok (.slice (some ⟨w.heap.size, 0, none⟩) 2 2) (w.alloc (.cells #[.bool false, .bool false] 4)) := by
 obtain ⟨i0, hi, hz0, hz1, hz2⟩ := info_parts Tryz.infoBool
 have h := run_makeSlice (P := Tryz.prog) w 132 4 i0 _ Tryz.underlying132 hi hz0 .i64 .i64 2 2 (by omega) (by omega) (by rw [hz1]; decide) (by rw [hz2]; decide) (by omega)
 rw [hz1] at h
 rw [h]
 congr 3
 exact mc_b
theorem mk_ints (w : World) : (Instr.makeSlice 79 (.int .i64 2) (.int .i64 2)).run Tryz.prog w = .ok (.slice (some ⟨w.heap.size, 0, none⟩) 2 2) (w.alloc (.cells #[.int .i64 0, .int .i64 0] 3)) := by
 obtain ⟨i0, hi, hz0, hz1, hz2⟩ := info_parts Tryz.infoInt
 have h := run_makeSlice (P := Tryz.prog) w 79 3 i0 _ Tryz.underlying79 hi hz0 .i64 .i64 2 2 (by omega) (by omega) (by rw [hz1]; decide) (by rw [hz2]; decide) (by omega)
 rw [hz1] at h
 rw [h]
 congr 3
 exact mc_i
theorem Blk.third (w : World) (o1 o2 : Obj) (t : TypeId) (cs : Array Value) : Blk (((w.alloc o1).alloc o2).alloc (.cells cs t)) (w.heap.size + 1 + 1) t cs := by
 have := Blk.new ((w.alloc o1).alloc o2) t cs
 simpa using this
theorem Shaped.far {W : World} (h : Shaped W) {p : Addr} (hp : 0 ≠ p.block) (u : Value) : Shaped (W.setCell p u) := fun i v hv => by
 rw [World.cell?_setCell_far _ _ _ _ (fun e => hp e.symm)]; exact h i v hv
theorem CodeAt.far {W : World} {gF gI : Nat} (h : CodeAt W gF gI) {p : Addr} (hp : gF ≠ p.block) (hp2 : gI ≠ p.block) (u : Value) : CodeAt (W.setCell p u) gF gI := ⟨h.1.far hp u, h.2.far hp2 u⟩

/-- Where the walk over the depths stands. -/
structure DSt (w W : World) (gF gI gD g1 : Nat) (d0 d1 s0 s1 : Value) : Prop where
 hd : Blk W gD 3 #[d0, d1]
 hs : Blk W (g1 + 1 + 1) 4 #[s0, s1]
 hc : Blk W g1 41 #[.slice (some ⟨gF, 0, none⟩) 1 1, .slice (some ⟨gI, 0, none⟩) 2 2]
 hf : Blk W (g1 + 1) 72 #[.string ⟨#[109, 97, 105, 110]⟩, .int .i64 1, .int .i64 1, .int .i64 0, .int .i64 2]
 hC : CodeAt W gF gI
 hS : Shaped W
 hg : w.grownBy W (some gD)
theorem DSt.below {w W W' : World} {gF gI gD g1 : Nat} {d0 d1 s0 s1 : Value} (h : DSt w W gF gI gD g1 d0 d1 s0 s1) (hb : Below W.heap.size W W') : DSt w W' gF gI gD g1 d0 d1 s0 s1 :=
 ⟨h.hd.below hb, h.hs.below hb, h.hc.below hb, h.hf.below hb, h.hC.below hb, h.hS.below hb,
  ⟨hb.os.trans h.hg.os, hb.tape.trans h.hg.tape, hb.output.trans h.hg.output, Nat.le_trans h.hg.size hb.size, fun k hk hne => (hb.block k (Nat.lt_of_lt_of_le hk h.hg.size)).trans (h.hg.block k hk hne)⟩⟩
theorem DSt.setD {w W : World} {gF gI gD g1 : Nat} {d0 d1 s0 s1 : Value} (h : DSt w W gF gI gD g1 d0 d1 s0 s1) (h1 : gF ≠ gD) (h2 : gI ≠ gD) (h3 : 0 ≠ gD) (h4 : gD < g1) (j : Nat) (u : Value) (d0' d1' : Value) (he : (#[d0, d1] : Array Value).setIfInBounds j u = #[d0', d1']) :
  DSt w (W.setCell ⟨gD, j, none⟩ u) gF gI gD g1 d0' d1' s0 s1 :=
 ⟨by rw [← he]; exact h.hd.set_ j u, h.hs.far (p := ⟨gD, j, none⟩) (by simp; omega) u, h.hc.far (p := ⟨gD, j, none⟩) (by simp; omega) u, h.hf.far (p := ⟨gD, j, none⟩) (by simp; omega) u,
  h.hC.far (p := ⟨gD, j, none⟩) h1 h2 u, h.hS.far (p := ⟨gD, j, none⟩) h3 u,
  ⟨h.hg.os, h.hg.tape, h.hg.output, by simpa using h.hg.size, fun k hk hne => (Below.heap_setCell _ _ _ _ (fun e => hne (by rw [e]))).trans (h.hg.block k hk hne)⟩⟩
theorem DSt.setS {w W : World} {gF gI gD g1 : Nat} {d0 d1 s0 s1 : Value} (h : DSt w W gF gI gD g1 d0 d1 s0 s1) (h1 : gF < g1) (h2 : gI < g1) (h3 : 0 < g1) (h4 : gD < g1) (h5 : w.heap.size = g1) (j : Nat) (u : Value) (s0' s1' : Value) (he : (#[s0, s1] : Array Value).setIfInBounds j u = #[s0', s1']) :
  DSt w (W.setCell ⟨g1 + 1 + 1, j, none⟩ u) gF gI gD g1 d0 d1 s0' s1' :=
 ⟨h.hd.far (p := ⟨g1 + 1 + 1, j, none⟩) (by simp; omega) u, by rw [← he]; exact h.hs.set_ j u, h.hc.far (p := ⟨g1 + 1 + 1, j, none⟩) (by simp; omega) u, h.hf.far (p := ⟨g1 + 1 + 1, j, none⟩) (by simp) u,
  h.hC.far (p := ⟨g1 + 1 + 1, j, none⟩) (by simp; omega) (by simp; omega) u, h.hS.far (p := ⟨g1 + 1 + 1, j, none⟩) (by simp) u,
  ⟨h.hg.os, h.hg.tape, h.hg.output, by simpa using h.hg.size, fun k hk hne => (Below.heap_setCell _ _ _ _ (by simp; omega)).trans (h.hg.block k hk hne)⟩⟩
/-- What the walk reads. -/
theorem DSt.facts {w W : World} {gF gI gD g1 : Nat} {d0 d1 s0 s1 : Value} (h : DSt w W gF gI gD g1 d0 d1 s0 s1) :
  (W.cell? ⟨gD, 0, none⟩ = some d0 ∧ W.cell? ⟨gD, 1, none⟩ = some d1) ∧ (W.cell? ⟨g1 + 1 + 1, 0, none⟩ = some s0 ∧ W.cell? ⟨g1 + 1 + 1, 1, none⟩ = some s1) ∧
  (W.frozen? ⟨gD, 0, none⟩ = false ∧ W.frozen? ⟨gD, 1, none⟩ = false ∧ W.frozen? ⟨g1 + 1 + 1, 0, none⟩ = false ∧ W.frozen? ⟨g1 + 1 + 1, 1, none⟩ = false) ∧
  (W.cell? ⟨g1, 0, none⟩ = some (.slice (some ⟨gF, 0, none⟩) 1 1) ∧ W.cell? ⟨g1, 1, none⟩ = some (.slice (some ⟨gI, 0, none⟩) 2 2)) :=
 ⟨blk2 h.hd, blk2 h.hs, ⟨h.hd.frozen 0, h.hd.frozen 1, h.hs.frozen 0, h.hs.frozen 1⟩, blk2 h.hc⟩

set_option maxHeartbeats 8000000 in
theorem depths_ok (gF gI gD : Nat) (w : World) (h : CodeAt w gF gI) (hs : Shaped w) (hd : Blk w gD 3 #[.int .i64 (-1), .int .i64 (-1)]) (hgf : gF ≠ gD) (hgi : gI ≠ gD) (hg0 : 0 ≠ gD) :
  Calls Tryz.prog 49 #[.agg #[.slice (some ⟨gF, 0, none⟩) 1 1, .slice (some ⟨gI, 0, none⟩) 2 2], .agg #[.string ⟨#[109, 97, 105, 110]⟩, .int .i64 1, .int .i64 1, .int .i64 0, .int .i64 2], .slice (some ⟨gD, 0, none⟩) 2 2] w fun e w' => e = .returned (.int .i64 (-1)) ∧ Blk w' gD 3 #[.int .i64 0, .int .i64 1] ∧ w.grownBy w' (some gD) := by
 have hmk := mk_bools
 have hlt : gD < w.heap.size := lt_of_block hd
 have hlt2 : gI < w.heap.size := lt_of_block h.2
 have hlt3 : gF < w.heap.size := lt_of_block h.1
 have hlt4 : 0 < w.heap.size := by omega
 have HB := Lib.hid (below_3 w (.cells #[.slice (some ⟨gF, 0, none⟩) 1 1, .slice (some ⟨gI, 0, none⟩) 2 2] 41) (.cells #[.string ⟨#[109, 97, 105, 110]⟩, .int .i64 1, .int .i64 1, .int .i64 0, .int .i64 2] 72) (.cells #[.bool false, .bool false] 4))
 have HD0 : Hid (DSt w (((w.alloc (.cells #[.slice (some ⟨gF, 0, none⟩) 1 1, .slice (some ⟨gI, 0, none⟩) 2 2] 41)).alloc (.cells #[.string ⟨#[109, 97, 105, 110]⟩, .int .i64 1, .int .i64 1, .int .i64 0, .int .i64 2] 72)).alloc (.cells #[.bool false, .bool false] 4)) gF gI gD w.heap.size (.int .i64 (-1)) (.int .i64 (-1)) (.bool false) (.bool false)) := Lib.hid
  ⟨hd.below HB.out, Blk.third w _ _ _ _, (((Blk.new w 41 #[.slice (some ⟨gF, 0, none⟩) 1 1, .slice (some ⟨gI, 0, none⟩) 2 2]).alloc _).alloc _), (Blk.second w _ 72 #[.string ⟨#[109, 97, 105, 110]⟩, .int .i64 1, .int .i64 1, .int .i64 0, .int .i64 2]).alloc _, h.below HB.out, hs.below HB.out, ⟨rfl, rfl, rfl, HB.out.size, fun k hk _ => HB.out.block k hk⟩⟩
 clear h hs hd
 obtain ⟨P, hP⟩ : ∃ P : Ending → World → Prop, (fun e w' => e = .returned (.int .i64 (-1)) ∧ Blk w' gD 3 #[.int .i64 0, .int .i64 1] ∧ w.grownBy w' (some gD)) = P := ⟨_, rfl⟩
 rw [hP]
 have HP := Lib.hid hP
 clear hP
 go_enter Tryz.func49, Tryz.ntmps49
 go_upto_region 2 with fail
 obtain ⟨W, hW⟩ : ∃ W, ((w.alloc (.cells #[.slice (some ⟨gF, 0, none⟩) 1 1, .slice (some ⟨gI, 0, none⟩) 2 2] 41)).alloc (.cells #[.string ⟨#[109, 97, 105, 110]⟩, .int .i64 1, .int .i64 1, .int .i64 0, .int .i64 2] 72)).alloc (.cells #[.bool false, .bool false] 4) = W := ⟨_, rfl⟩
 rw [hW] at HD0 ⊢
 clear hW hmk HB
 obtain ⟨g1, hg1⟩ : ∃ g, w.heap.size = g := ⟨_, rfl⟩
 rw [hg1] at HD0 hlt hlt2 hlt3 hlt4 ⊢
 have HG1 := Lib.hid hg1
 clear hg1
 have f0 := HD0.out.facts
 have b0 := blk5 HD0.out.hf
 go_upto_region 3 with fail
 obtain ⟨W1, hW1⟩ : ∃ W1, W.setCell ⟨gD, 0, none⟩ (.int .i64 0) = W1 := ⟨_, rfl⟩
 have HD1 := Lib.hid (HD0.out.setD hgf hgi hg0 hlt 0 (.int .i64 0) (.int .i64 0) (.int .i64 (-1)) rfl)
 rw [hW1] at HD1 ⊢
 clear hW1 f0 b0 HD0
 have f0 := HD1.out.facts
 have b0 := blk5 HD1.out.hf
 go_wp2_with (fail)
 refine wp_loop_rounds 3 ?_
 rw [rounds_succ]
 go_upto_region 8 with fail
 obtain ⟨W2, hW2⟩ : ∃ W2, W1.setCell ⟨g1 + 1 + 1, 0, none⟩ (.bool true) = W2 := ⟨_, rfl⟩
 have HD2 := Lib.hid (HD1.out.setS hlt3 hlt2 hlt4 hlt HG1.out 0 (.bool true) (.bool true) (.bool false) rfl)
 rw [hW2] at HD2 ⊢
 clear hW2 f0 b0 HD1
 have f0 := HD2.out.facts
 have b0 := blk5 HD2.out.hf
 have i0 := HD2.out.hC.i0
 have HI := Lib.hid (Blk.new W2 75 #[.int .i64 5, .int .i64 0, .string ⟨#[]⟩, .slice none 0 0])
 have HD3 := Lib.hid (HD2.out.below (below_new W2 (.cells #[.int .i64 5, .int .i64 0, .string ⟨#[]⟩, .slice none 0 0] 75)))
 go_upto_region 10 with (first
  | (go_at_call 75; with_reducible refine (pops_load gF gI _ HD3.out.hS).mono ?_; rintro e W4 ⟨rfl, hb4⟩; have HD4 := Lib.hid (HD3.out.below hb4); have HI4 := Lib.hid (HI.out.below hb4); have f4 := HD4.out.facts; have b4 := blk5 HD4.out.hf; have s5 := HD4.out.hS.s5; have i4 := blk4 HI4.out; clear hb4 f0 b0 i0))
 go_quiet (fail)
 have HDq := Lib.hid (HD4.out.below (below_drewN (Below.refl _ W4) nq))
 have HIq := Lib.hid (HI4.out.drewN nq)
 have fq := HDq.out.facts
 have iq := blk4 HIq.out
 go_wp2_with (first
  | (go_at_call 76; with_reducible refine (succ_load _).mono ?_; rintro e W5 ⟨g5, rfl, hc5, hg5, hb5⟩; have HD5 := Lib.hid (HDq.out.below hb5); have HC5 := Lib.hid hc5; have f5 := HD5.out.facts; clear hb5 hg5))
 refine wp_loop_rounds 2 ?_
 rw [rounds_succ]
 go_upto_region 20 with fail
 obtain ⟨W6, hW6⟩ : ∃ W6, W5.setCell ⟨gD, 1, none⟩ (.int .i64 1) = W6 := ⟨_, rfl⟩
 have HD6 := Lib.hid (HD5.out.setD hgf hgi hg0 hlt 1 (.int .i64 1) (.int .i64 0) (.int .i64 1) rfl)
 rw [hW6] at HD6 ⊢
 clear hW6 f5 fq iq f4 b4 s5 i4 HD5 HDq HIq HD4 HI4 HC5
 have f6 := HD6.out.facts
 have b6 := blk5 HD6.out.hf
 go_wp2_with (fail)
 rw [rounds_succ]
 go_wp2_with (fail)
 rw [rounds_succ]
 go_upto_region 8 with fail
 obtain ⟨W7, hW7⟩ : ∃ W7, W6.setCell ⟨g1 + 1 + 1, 1, none⟩ (.bool true) = W7 := ⟨_, rfl⟩
 have HD7 := Lib.hid (HD6.out.setS hlt3 hlt2 hlt4 hlt HG1.out 1 (.bool true) (.bool true) (.bool true) rfl)
 rw [hW7] at HD7 ⊢
 clear hW7 f6 b6 HD6
 have f7 := HD7.out.facts
 have b7 := blk5 HD7.out.hf
 have i7 := HD7.out.hC.i0
 have HI7 := Lib.hid (Blk.new W7 75 #[.int .i64 20, .int .i64 0, .string ⟨#[]⟩, .slice none 0 0])
 have HD8 := Lib.hid (HD7.out.below (below_new W7 (.cells #[.int .i64 20, .int .i64 0, .string ⟨#[]⟩, .slice none 0 0] 75)))
 go_upto_region 10 with (first
  | (go_at_call 75; with_reducible refine (pops_ret gF gI _ HD8.out.hS).mono ?_; rintro e W9 ⟨rfl, hb9⟩; have HD9 := Lib.hid (HD8.out.below hb9); have HI9 := Lib.hid (HI7.out.below hb9); have f9 := HD9.out.facts; have b9 := blk5 HD9.out.hf; have s9 := HD9.out.hS.s20; have i9 := blk4 HI9.out; clear hb9 f7 b7 i7))
 go_quiet (fail)
 have HDr := Lib.hid (HD9.out.below (below_drewN (Below.refl _ W9) nq))
 have HIr := Lib.hid (HI9.out.drewN nq)
 have fr := HDr.out.facts
 have ir := blk4 HIr.out
 go_wp2_with (first
  | (go_at_call 76; with_reducible refine (succ_ret _).mono ?_; rintro e W10 ⟨rfl, hb10⟩; have HD10 := Lib.hid (HDr.out.below hb10); have f10 := HD10.out.facts; have b10 := blk5 HD10.out.hf; clear hb10))
 refine wp_loop_rounds 1 ?_
 rw [rounds_succ]
 go_wp2_with (fail)
 rw [rounds_succ]
 go_wp2_with (fail)
 rw [← HP.out]
 exact ⟨rfl, HD10.out.hd, HD10.out.hg⟩
end Go.Proofs.YtahcjgjigbedoaaGreatDoor
