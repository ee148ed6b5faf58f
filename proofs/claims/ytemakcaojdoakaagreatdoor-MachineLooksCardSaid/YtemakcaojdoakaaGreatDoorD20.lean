/- The machines wake: a step that returns. -/
import Derived.Test.YtemakcaojdoakaaGreatDoorD18
namespace Go.Proofs.YtemakcaojdoakaaGreatDoor
open Go.RowKit
set_option maxRecDepth 100000

theorem count_done (gF gI gE : Nat) (er ls lm sp pk : Int) (vv fv qv : Value) (w : World) (hE : Blk w gE 76 (exC gF gI 3 er vv fv qv ls lm sp pk)) :
    Calls Tryz.prog 34 #[.pointer (some ⟨gE, 0, none⟩)] w fun e w' => e = .returned (.tuple #[]) ∧ w' = w := by
  have e0 := blkE hE
  clear hE
  go_enter Tryz.func34, Tryz.ntmps34
  go_wp2_with (fail)
  go_returns
  exact ⟨rfl, rfl⟩
attribute [local go_sem] cell_alloc_is
set_option maxHeartbeats 4000000 in
theorem step_back (base gF gI gE gR kR gL kL gT gS kS k1 k2 k : Nat) (lm pk : Int) (A1 A2 A : Option Addr) (cs cl cl' : Array Value) (w : World) (h : XSt w base gF gI gE gR kR gL kL (.slice A1 0 k1) (.slice A2 0 k2) 10 lm 1 pk 1 (.slice (some ⟨gS, 0, none⟩) 1 kS) A k cs cl)
    (hT : Blk w gT 98 (actsN 20)) (hbE : base ≤ gE) (hbR : base ≤ gR) (hbw : base ≤ w.heap.size) (hS : Blk w gS 24 cl') (hs0 : cl'[0]? = some (.slice A 1 k)) (hkS : 1 ≤ kS) :
    Calls Tryz.prog 37 #[.pointer (some ⟨gE, 0, none⟩), .slice (some ⟨gT, 0, none⟩) 21 21] w fun e w' => e = .returned (.tuple #[]) ∧ Blk w' gE 76 (exC gF gI 3 0 (.slice A 1 k) (.slice none 0 0) (.slice A2 0 k2) 10 lm 2 pk) ∧ OVal w' base (.slice A 1 k) [c7] ∧ Below base w w' := by
  have HX := Lib.hid h
  have HT := Lib.hid hT
  have HS := Lib.hid hS
  have e0 := blkE h.hE
  have i0 := h.hC.i0
  have p0 := h.hR.cell 1 _ h.c1
  clear h hT hS
  go_enter Tryz.func37, Tryz.ntmps37
  go_upto_region 0 with fail
  go_quiet (fail)
  obtain ⟨W0, hW0⟩ : ∃ W0, w.drewN nq = W0 := ⟨_, rfl⟩
  rw [hW0]
  have HX0 : Hid (XSt W0 base gF gI gE gR kR gL kL (.slice A1 0 k1) (.slice A2 0 k2) 10 lm 1 pk 1 (.slice (some ⟨gS, 0, none⟩) 1 kS) A k cs cl) := Lib.hid (by rw [← hW0]; exact HX.out.below (below_drewN (Below.refl _ _) _))
  have HT0 : Hid (Blk W0 gT 98 (actsN 20)) := Lib.hid (by rw [← hW0]; exact HT.out)
  have HS0 : Hid (Blk W0 gS 24 cl') := Lib.hid (by rw [← hW0]; exact HS.out)
  have HB0 : Hid (Below base w W0) := Lib.hid (by rw [← hW0]; exact below_drewN (Below.refl _ _) _)
  clear hW0 e0 i0 p0 HX HT HS nq
  have e0 := blkE HX0.out.hE
  have i0 := HX0.out.hC.i0
  have p0 := HX0.out.hR.cell 1 _ HX0.out.c1
  go_upto_region 5 with (first
    | (go_at_call 60; with_reducible refine (frame_ok gF gI gE gR kR _ _ _ _ _ _ _ _ _ HX0.out.hE).mono ?_; rintro e W1 ⟨rfl, q, rfl⟩))
  go_quiet (fail)
  go_upto_region 7 with fail
  obtain ⟨W2, hW2⟩ : ∃ W2, (W0.drewN q).drewN nq = W2 := ⟨_, rfl⟩
  rw [hW2]
  have HX2 : Hid (XSt W2 base gF gI gE gR kR gL kL (.slice A1 0 k1) (.slice A2 0 k2) 10 lm 1 pk 1 (.slice (some ⟨gS, 0, none⟩) 1 kS) A k cs cl) := Lib.hid (by rw [← hW2, World.drewN_drewN]; exact HX0.out.below (below_drewN (Below.refl _ _) _))
  have HT2 : Hid (Blk W2 gT 98 (actsN 20)) := Lib.hid (by rw [← hW2]; exact HT0.out)
  have HS2 : Hid (Blk W2 gS 24 cl') := Lib.hid (by rw [← hW2]; exact HS0.out)
  have HB2 : Hid (Below base w W2) := Lib.hid (by rw [← hW2, World.drewN_drewN]; exact below_drewN HB0.out _)
  clear hW2 e0 i0 p0 HX0 HT0 HS0 HB0 nq
  have e2 := blkE HX2.out.hE
  have i2 := HX2.out.hC.i0
  have p2 := HX2.out.hR.cell 1 _ HX2.out.c1
  go_region
  obtain ⟨W3, hW3⟩ : ∃ W3, (W2.alloc (.cells #[.int .i64 20, .int .i64 0, .string ⟨#[]⟩, .slice none 0 0] 46)).drew = W3 := ⟨_, rfl⟩
  obtain ⟨gN, hgN⟩ : ∃ g, W2.heap.size = g := ⟨_, rfl⟩
  have hb3 : Below W2.heap.size W2 W3 := by rw [← hW3]; exact (below_new _ _).drew
  have HX3 := Lib.hid (HX2.out.below hb3)
  have HT3 := Lib.hid (HT2.out.below hb3)
  have HS3 := Lib.hid (HS2.out.below hb3)
  have HB3 : Hid (Below base w W3) := Lib.hid (HB2.out.trans (hb3.mono (Nat.le_trans hbw HB2.out.size)))
  have HI3 : Hid (Blk W3 gN 46 #[.int .i64 20, .int .i64 0, .string ⟨#[]⟩, .slice none 0 0]) := Lib.hid (by rw [← hW3, ← hgN]; exact (Blk.new W2 _ _).drew)
  rw [hW3, hgN]
  clear hW3 hgN hb3 e2 i2 p2 HX2 HT2 HS2 HB2
  have e3 := blkE HX3.out.hE
  have q3 := HX3.out.facts
  go_upto_region 9 with fail
  have HX4 := Lib.hid (HX3.out.setSp 2)
  have K4 := KT.set HX3.out.hE 9 (.int .i64 2)
  have HT4 := Lib.hid (K4.blk (by decide) HT3.out)
  have HS4 := Lib.hid (K4.blk (by decide) HS3.out)
  have HI4 := Lib.hid (K4.blk (by decide) HI3.out)
  have HB4 := Lib.hid (HB3.out.setCell (p := ⟨gE, 9, none⟩) hbE (.int .i64 2))
  obtain ⟨W4, hW4⟩ : ∃ W4, W3.setCell ⟨gE, 9, none⟩ (.int .i64 2) = W4 := ⟨_, rfl⟩
  rw [hW4] at HX4 HT4 HS4 HI4 HB4 ⊢
  clear hW4 K4 e3 q3 HX3 HT3 HS3 HI3 HB3
  have q4 := HX4.out.facts
  go_upto_region 10 with fail
  have HX5 := Lib.hid (HX4.out.setPc 2)
  have K5 := KT.set HX4.out.hR 1 (.int .i64 2)
  have HT5 := Lib.hid (K5.blk (by decide) HT4.out)
  have HS5 := Lib.hid (K5.blk (by decide) HS4.out)
  have HI5 := Lib.hid (K5.blk (by decide) HI4.out)
  have HB5 := Lib.hid (HB4.out.setCell (p := ⟨gR, 1, none⟩) hbR (.int .i64 2))
  obtain ⟨W5, hW5⟩ : ∃ W5, W4.setCell ⟨gR, 1, none⟩ (.int .i64 2) = W5 := ⟨_, rfl⟩
  rw [hW5] at HX5 HT5 HS5 HI5 HB5 ⊢
  clear hW5 K5 q4 HX4 HT4 HS4 HI4 HB4
  have i5 := blk4 HI5.out
  have t5 := HT5.out.cell 20 (.func (.func 59) #[] #[]) rfl
  have hN0 := i5.1
  have hN1 := i5.2.1
  have hN2 := i5.2.2.1
  have hN3 := i5.2.2.2
  clear i5
  have HLD := Lib.hid (back_ok gF gI gE gR kR gS kS 1 0 10 lm 2 pk (.slice A1 0 k1) (.slice A2 0 k2) A 1 k (cs.setIfInBounds 1 (.int .i64 2)) cl' W5.drew HX5.out.hE.drew HX5.out.kR1 HX5.out.hR.drew HX5.out.c3 hkS HS5.out.drew hs0)
  go_region_held3 (fun w' => w'.cell? ⟨gN, 0, none⟩ = some (.int .i64 20) ∧ w'.cell? ⟨gN, 1, none⟩ = some (.int .i64 0) ∧ w'.cell? ⟨gN, 2, none⟩ = some (.string ⟨#[]⟩) ∧ w'.cell? ⟨gN, 3, none⟩ = some (.slice none 0 0) ∧ w'.cell? ⟨gT, 20, none⟩ = some (.func (.func 59) #[] #[])) (refine ⟨?_, ?_, ?_, ?_, ?_⟩ <;> first | assumption | go_keep) (first
    | (go_at_call 59; with_reducible refine HLD.out.mono ?_; rintro e W6 ⟨rfl, hE6, w1, hg1, hk1, hg6, hk6⟩; have HI6 := Lib.hid (hk6.blk (e := 46) (by decide) (hk1.blk (e := 46) (by decide) HI5.out.drew)); have HT6 := Lib.hid (hk6.blk (e := 98) (by decide) (hk1.blk (e := 98) (by decide) HT5.out.drew)); have s0 := HI6.out.cell 0 _ rfl; have s1 := HI6.out.cell 1 _ rfl; have s2 := HI6.out.cell 2 _ rfl; have s3 := HI6.out.cell 3 _ rfl; have s5 := HT6.out.cell 20 (.func (.func 59) #[] #[]) rfl; have HE6 := Lib.hid hE6; have HG1 := Lib.hid hg1; have HK1 := Lib.hid hk1; have HG6 := Lib.hid hg6; have HK6 := Lib.hid hk6; clear hE6 hg1 hk1 hg6 hk6))
  clear s0 s1 s2 s3 s5 hN0 hN1 hN2 hN3 t5 HLD
  have HZ1 : Hid (Below base w w1) := Lib.hid ((HB5.out.drew).grown HG1.out (Nat.le_trans hbw HB5.out.size) (fun j hj => by injection hj with hj; omega))
  have HZ6 : Hid (Below base w W6) := Lib.hid (HZ1.out.grown HG6.out (Nat.le_trans hbw HZ1.out.size) (fun j hj => by injection hj with hj; omega))
  have HV6 := Lib.hid (HK6.out.oval (by decide) (HK1.out.oval (by decide) (HX5.out.hV.below (below_drew _))))
  go_wp2_with (first
    | (go_at_call 34; with_reducible refine (count_done gF gI gE _ _ _ _ _ _ _ _ _ HE6.out).mono ?_; rintro e W7 ⟨rfl, hw7⟩; rw [hw7]; clear hw7 W7))
  go_returns
  exact ⟨rfl, HE6.out, HV6.out, HZ6.out⟩
end Go.Proofs.YtemakcaojdoakaaGreatDoor
