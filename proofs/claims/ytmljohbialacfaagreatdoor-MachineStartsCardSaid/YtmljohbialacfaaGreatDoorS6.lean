/- The law MachineStarts answers true. -/
import Derived.Test.YtmljohbialacfaaGreatDoorGQ9
import Derived.Test.YtmljohbialacfaaGreatDoorQ10
import Derived.Test.YtmljohbialacfaaGreatDoorGC6
import Derived.Test.YtmljohbialacfaaGreatDoorGD26
import Derived.Test.YtmljohbialacfaaGreatDoorC7
set_option linter.unusedVariables false
set_option linter.unusedSimpArgs false
namespace Go.Proofs.YtmljohbialacfaaGreatDoor
open Go.RowKit
set_option maxRecDepth 100000
theorem small_ok {l : ValD} (h : smallB l = true) : l.length ≤ 300 ∧ ∀ c ∈ l, c.str.size ≤ 5000 := by
 unfold smallB at h
 rw [Bool.and_eq_true] at h
 refine ⟨of_decide_eq_true h.1, fun c hc => ?_⟩
 have := List.all_eq_true.1 h.2 c hc
 simpa using this
attribute [local go_sem] cell_alloc_is
set_option maxHeartbeats 16000000 in
theorem starts_any (C : CodeS) (v : Value) (l : ValD) (ls lm : Int) (w : World) (hC : CodeV w C) (hv : Sent w) (hp : Pow w) (hS : Shaped w) (hV : ValV w v l) (hvs : ∀ c ∈ l, c.str.size ≤ 140737488351232) (hvi : ∀ c ∈ l, (-9223372036854775808 ≤ c.int ∧ c.int ≤ 9223372036854775807) ∧ c.n ≤ 9223372036854775807) :
  Calls Tryz.prog 3 #[.agg #[.slice C.A C.c.fns.length C.ncap, .slice C.B C.c.ins.length C.icap], v, .agg #[.int .i64 ls, .int .i64 lm]] w fun e w' => e = .returned (.bool true) ∧ Below w.heap.size w w' := by
 obtain ⟨P, hP⟩ : ∃ P : Ending → World → Prop, (fun e w' => e = .returned (.bool true) ∧ Below w.heap.size w w') = P := ⟨_, rfl⟩
 rw [hP]
 have HP := Lib.hid hP
 obtain ⟨vA, vn, vc, hve⟩ := hV.shape
 subst hve
 have HCO := Lib.hid hC
 have HS := Lib.hid hS
 obtain ⟨sb, hsb⟩ : ∃ b, smallB l = b := ⟨_, rfl⟩
 have HSV : Hid (∀ wx, Below w.heap.size w wx → Calls Tryz.prog 8 #[.slice vA vn vc] wx fun e w' => e = .returned (.bool sb) ∧ w' = wx) := Lib.hid (fun wx hb => by rw [← hsb]; exact small_any l _ wx (hV.below hb) hvs)
 have HAW : Hid (∀ wx, Below w.heap.size w wx → Calls Tryz.prog 9 #[] wx fun e w' => e = .returned (.bool true) ∧ Below wx.heap.size wx w') := Lib.hid (fun wx hb => awake_ok wx (hS.below hb))
 have HCS : Hid (sb = true → SmallCd C.c → ∀ wx, Below w.heap.size w wx → Calls Tryz.prog 10 #[.agg #[.slice C.A C.c.fns.length C.ncap, .slice C.B C.c.ins.length C.icap], .slice vA vn vc, .agg #[.int .i64 ls, .int .i64 lm]] wx fun e w' => ∃ x R r, e = .returned (.tuple #[x, .int .i64 (startO C.c l ls lm R r).2]) ∧ CodeR C.c R ∧ FindP C.c.fns sMain r ∧ MachV w' x (startO C.c l ls lm R r).1 ∧ Below wx.heap.size wx w') := Lib.hid (fun hb hc wx hbl => by
  obtain ⟨h1, h2⟩ := small_ok (hsb.trans hb)
  exact cstart_any C _ l ls lm wx (hC.below hbl) hc.1 hc.2.1 hc.2.2.1 hc.2.2.2 (hv.below hbl) (hp.below hbl) (hS.below hbl) (hV.below hbl) (by omega) (fun c hcl => ⟨by have := h2 c hcl; omega, (hvi c hcl).1, (hvi c hcl).2⟩))
 have HRS : Hid (sb = true → SmallCd C.c → ∀ wx, Below w.heap.size w wx → Calls Tryz.prog 11 #[.agg #[.slice C.A C.c.fns.length C.ncap, .slice C.B C.c.ins.length C.icap], .slice vA vn vc, .agg #[.int .i64 ls, .int .i64 lm]] wx fun e w' => ∃ x R r, e = .returned (.tuple #[x, .int .i64 (startO C.c l ls lm R r).2]) ∧ CodeR C.c R ∧ FindP C.c.fns sMain r ∧ MachV w' x (startO C.c l ls lm R r).1 ∧ Below wx.heap.size wx w') := Lib.hid (fun hb hc wx hbl => by
  obtain ⟨h1, h2⟩ := small_ok (hsb.trans hb)
  exact rstart_any C _ l ls lm wx (hC.below hbl) hc.1 hc.2.1 hc.2.2.1 hc.2.2.2 (hp.below hbl) (hV.below hbl) (by omega) (fun c hcl => ⟨by have := h2 c hcl; omega, (hvi c hcl).1, (hvi c hcl).2⟩))
 have HSC : Hid (∀ wx, Below w.heap.size w wx → Calls Tryz.prog 7 #[.agg #[.slice C.A C.c.fns.length C.ncap, .slice C.B C.c.ins.length C.icap]] wx fun e w' => (∃ b, e = .returned (.bool b) ∧ (b = true → SmallCd C.c)) ∧ Below wx.heap.size wx w') := Lib.hid (fun wx hb => scode_any C wx (hC.below hb))
 obtain ⟨nF, hnF⟩ : ∃ n, C.c.fns.length = n := ⟨_, rfl⟩
 obtain ⟨nI, hnI⟩ : ∃ n, C.c.ins.length = n := ⟨_, rfl⟩
 rw [hnF, hnI] at HCS HRS HSC ⊢
 have HB0 := Lib.hid (below_2 w (.cells #[.slice C.A nF C.ncap, .slice C.B nI C.icap] 25) (.cells #[.int .i64 ls, .int .i64 lm] 28))
 have HX0 := Lib.hid ((Blk.new w 25 #[.slice C.A nF C.ncap, .slice C.B nI C.icap]).alloc (.cells #[.int .i64 ls, .int .i64 lm] 28))
 have HY0 := Lib.hid (Blk.second w (.cells #[.slice C.A nF C.ncap, .slice C.B nI C.icap] 25) 28 #[.int .i64 ls, .int .i64 lm])
 clear hP hC hv hp hS hV hvs hvi hsb hnF hnI
 go_enter Tryz.func3, Tryz.ntmps3
 go_wp2_with (fail)
 refine (HSC.out _ HB0.out).mono ?_
 rintro e1 W1 ⟨⟨b1, rfl, hb1⟩, hw1⟩
 have HSM := Lib.hid hb1
 have HB1 := Lib.hid (below_call' hw1 HB0.out HB0.out.size)
 have HX1 := Lib.hid (HX0.out.below hw1)
 have HY1 := Lib.hid (HY0.out.below hw1)
 clear hb1 hw1
 have x1 := blk2 HX1.out
 have y1 := blk2 HY1.out
 cases b1 with
 | false =>
  go_wp2_with (first
   | (go_at_call 9; (with_reducible refine (HAW.out _ HB1.out).mono ?_); rintro e2 W2 ⟨rfl, hw2⟩; have HB2 := Lib.hid (below_call' hw2 HB1.out HB1.out.size); clear hw2))
  rw [← HP.out]
  exact ⟨rfl, HB2.out⟩
 | true =>
  have HSD := Lib.hid (HSM.out (by trivial))
  cases sb with
  | false =>
   go_wp2_with (first
    | (go_at_call 8; (with_reducible refine (HSV.out _ HB1.out).mono ?_); rintro e2 W2 ⟨rfl, hw2⟩; rw [hw2]; clear hw2 W2)
    | (go_at_call 9; (with_reducible refine (HAW.out _ HB1.out).mono ?_); rintro e2 W2 ⟨rfl, hw2⟩; have HB2 := Lib.hid (below_call' hw2 HB1.out HB1.out.size); clear hw2))
   rw [← HP.out]
   exact ⟨rfl, HB2.out⟩
  | true =>
   go_upto_region 3 with (first
    | (go_at_call 8; (with_reducible refine (HSV.out _ HB1.out).mono ?_); rintro e2 W2 ⟨rfl, hw2⟩; rw [hw2]; clear hw2 W2))
   go_wp2_with (fail)
   refine (HCS.out (by trivial) HSD.out _ HB1.out).mono ?_
   rintro e3 W3 ⟨xa, Ra, ra, rfl, hRa, hra, hma, hw3⟩
   obtain ⟨ea, hea⟩ : ∃ e, (startO C.c l ls lm Ra ra).2 = e := ⟨_, rfl⟩
   obtain ⟨ma, hma'⟩ : ∃ e, (startO C.c l ls lm Ra ra).1 = e := ⟨_, rfl⟩
   rw [hea]
   rw [hma'] at hma
   have HMA := Lib.hid hma
   obtain ⟨va, fa, qa, rfl, h31, h32, h33⟩ := hma
   obtain ⟨A1, n1, k1, rfl⟩ := h31.shape
   obtain ⟨A2, n2, k2, rfl⟩ := h32.shape
   obtain ⟨A3, n3, k3, rfl⟩ := h33.shape
   have HB3 := Lib.hid (below_call' hw3 HB1.out HB1.out.size)
   have HX3 := Lib.hid (HX1.out.below hw3)
   have HY3 := Lib.hid (HY1.out.below hw3)
   have HRa := Lib.hid hRa
   have Hra := Lib.hid hra
   have HEA := Lib.hid hea
   have HMA' := Lib.hid hma'
   clear h31 h32 h33 hw3 hRa hra hea hma' x1 y1
   go_upto_region 4 with fail
   obtain ⟨gA, hgA⟩ : ∃ g, W3.heap.size = g := ⟨_, rfl⟩
   obtain ⟨W4, hW4⟩ : ∃ W, W3.alloc (.cells #[.int .i64 ma.status, .int .i64 ma.err, .slice A1 n1 k1, .slice A2 n2 k2, .slice A3 n3 k3, .int .i64 ma.lsteps, .int .i64 ma.lmem, .int .i64 ma.steps, .int .i64 ma.peak] 37) = W := ⟨_, rfl⟩
   have HBA : Hid (Blk W4 gA 37 #[.int .i64 ma.status, .int .i64 ma.err, .slice A1 n1 k1, .slice A2 n2 k2, .slice A3 n3 k3, .int .i64 ma.lsteps, .int .i64 ma.lmem, .int .i64 ma.steps, .int .i64 ma.peak]) := Lib.hid (by rw [← hW4, ← hgA]; exact Blk.new W3 _ _)
   have HB4 : Hid (Below w.heap.size w W4) := Lib.hid (by rw [← hW4]; exact HB3.out.alloc HB3.out.size _)
   have HMA4 : Hid (MachV W4 (.agg #[.int .i64 ma.status, .int .i64 ma.err, .slice A1 n1 k1, .slice A2 n2 k2, .slice A3 n3 k3, .int .i64 ma.lsteps, .int .i64 ma.lmem, .int .i64 ma.steps, .int .i64 ma.peak]) ma) := Lib.hid (by rw [← hW4]; exact HMA.out.below (below_new _ _))
   have HX4 : Hid (Blk W4 w.heap.size 25 _) := Lib.hid (by rw [← hW4]; exact HX3.out.alloc _)
   have HY4 : Hid (Blk W4 (w.heap.size + 1) 28 _) := Lib.hid (by rw [← hW4]; exact HY3.out.alloc _)
   rw [hW4, hgA]
   clear hW4 hgA
   have x4 := blk2 HX4.out
   have y4 := blk2 HY4.out
   go_wp2_with (fail)
   refine (HRS.out (by trivial) HSD.out _ HB4.out).mono ?_
   rintro e5 W5 ⟨xb, Rb', rb, rfl, hRb, hrb, hmb, hw5⟩
   have hR := hRb.det HRa.out
   have hr := hrb.unique Hra.out
   subst hR hr
   rw [HEA.out]
   rw [HMA'.out] at hmb
   have HMB := Lib.hid hmb
   obtain ⟨vb, fb, qb, rfl, h51, h52, h53⟩ := hmb
   obtain ⟨B1, b1, d1, rfl⟩ := h51.shape
   obtain ⟨B2, b2, d2, rfl⟩ := h52.shape
   obtain ⟨B3, b3, d3, rfl⟩ := h53.shape
   have HB5 := Lib.hid (below_call' hw5 HB4.out HB4.out.size)
   have HBA5 := Lib.hid (HBA.out.below hw5)
   have HMA5 := Lib.hid (HMA4.out.below hw5)
   clear h51 h52 h53 hw5 hRb hrb x4 y4
   go_upto_region 5 with fail
   obtain ⟨gB, hgB⟩ : ∃ g, W5.heap.size = g := ⟨_, rfl⟩
   obtain ⟨W6, hW6⟩ : ∃ W, W5.alloc (.cells #[.int .i64 ma.status, .int .i64 ma.err, .slice B1 b1 d1, .slice B2 b2 d2, .slice B3 b3 d3, .int .i64 ma.lsteps, .int .i64 ma.lmem, .int .i64 ma.steps, .int .i64 ma.peak] 37) = W := ⟨_, rfl⟩
   have HBB : Hid (Blk W6 gB 37 #[.int .i64 ma.status, .int .i64 ma.err, .slice B1 b1 d1, .slice B2 b2 d2, .slice B3 b3 d3, .int .i64 ma.lsteps, .int .i64 ma.lmem, .int .i64 ma.steps, .int .i64 ma.peak]) := Lib.hid (by rw [← hW6, ← hgB]; exact Blk.new W5 _ _)
   have HBA6 : Hid (Blk W6 gA 37 #[.int .i64 ma.status, .int .i64 ma.err, .slice A1 n1 k1, .slice A2 n2 k2, .slice A3 n3 k3, .int .i64 ma.lsteps, .int .i64 ma.lmem, .int .i64 ma.steps, .int .i64 ma.peak]) := Lib.hid (by rw [← hW6]; exact HBA5.out.alloc _)
   have HB6 : Hid (Below w.heap.size w W6) := Lib.hid (by rw [← hW6]; exact HB5.out.alloc HB5.out.size _)
   have HMA6 : Hid (MachV W6 (.agg #[.int .i64 ma.status, .int .i64 ma.err, .slice A1 n1 k1, .slice A2 n2 k2, .slice A3 n3 k3, .int .i64 ma.lsteps, .int .i64 ma.lmem, .int .i64 ma.steps, .int .i64 ma.peak]) ma) := Lib.hid (by rw [← hW6]; exact HMA5.out.below (below_new _ _))
   have HMB6 : Hid (MachV W6 (.agg #[.int .i64 ma.status, .int .i64 ma.err, .slice B1 b1 d1, .slice B2 b2 d2, .slice B3 b3 d3, .int .i64 ma.lsteps, .int .i64 ma.lmem, .int .i64 ma.steps, .int .i64 ma.peak]) ma) := Lib.hid (by rw [← hW6]; exact HMB.out.below (below_new _ _))
   have HSA : Hid (Calls Tryz.prog 12 #[.agg #[.int .i64 ma.status, .int .i64 ma.err, .slice A1 n1 k1, .slice A2 n2 k2, .slice A3 n3 k3, .int .i64 ma.lsteps, .int .i64 ma.lmem, .int .i64 ma.steps, .int .i64 ma.peak], .agg #[.int .i64 ma.status, .int .i64 ma.err, .slice B1 b1 d1, .slice B2 b2 d2, .slice B3 b3 d3, .int .i64 ma.lsteps, .int .i64 ma.lmem, .int .i64 ma.steps, .int .i64 ma.peak]] W6 fun e w' => e = .returned (.bool true) ∧ Below W6.heap.size W6 w') := Lib.hid (by have := rsame_any ma ma _ _ W6 HMA6.out HMB6.out; rw [eqM_self] at this; exact this)
   rw [hW6, hgB]
   clear hW6 hgB
   have a6 := blk9 HBA6.out
   have b6 := blk9 HBB.out
   have hee : (ea == ea) = true := by simp
   go_wp2_with (first
    | (go_at_call 12; (with_reducible refine HSA.out.mono ?_); rintro e7 W7 ⟨rfl, hw7⟩; have HB7 := Lib.hid (below_call' hw7 HB6.out HB6.out.size); clear hw7 a6 b6)
    | (go_at_call 9; (with_reducible refine (HAW.out _ HB7.out).mono ?_); rintro e8 W8 ⟨rfl, hw8⟩; have HB8 := Lib.hid (below_call' hw8 HB7.out HB7.out.size); clear hw8))
   rw [← HP.out]
   exact ⟨rfl, HB8.out⟩
end Go.Proofs.YtmljohbialacfaaGreatDoor
