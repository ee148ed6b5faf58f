/- W9 -/
import Derived.Test.YthiimbhjpdphpaaGreatDoorPW8
set_option linter.unusedVariables false
set_option linter.unusedSimpArgs false
set_option linter.unusedVariables false
set_option linter.unusedSimpArgs false
namespace Go.Proofs.YthiimbhjpdphpaaGreatDoor
open Go.RowKit
set_option maxRecDepth 100000
attribute [local go_sem] cell_alloc_is
set_option maxHeartbeats 16000000 in
theorem sho0_s (w0 : World) (S : ProgS) (sA : Option Addr) (sc gW : Nat) (e0 : Int) (sl : List Int) (f : Nat) (hw : NodeH w0 S sA sc gW e0 sl f) (n : NodeD) (kA iA : Option Addr) (kc ic s i : Nat) (L : List (InsD × Value)) (w : World) (a b : Int)
  (ho : isOr n = false) (hks : n.kids = [a, b]) (hc : Cover S.p.nodes f n.kids s i) (hil : i ≤ S.p.nodes.length) (hi : IntsV w0 (.slice iA n.kids.length ic) n.kids) (h : WrSt w0 w S sA sl.length sc gW e0 L) (hL : L.length + 6 * (i + 1 - s) ≤ 90000) (he : 0 ≤ e0 ∧ e0 ≤ 4000) :
  Calls Tryz.prog 64 #[.pointer (some ⟨gW, 0, none⟩), .agg (nodeC n kA kc iA ic)] w fun r w' => r = .returned (.tuple #[]) ∧ Wrote w0 S sA sl.length sc gW e0 L (shoF (segF S.p sl f) false n.kids (e0 + L.length)) w w' := by
 obtain ⟨R, hR⟩ : ∃ R, shoF (segF S.p sl f) false n.kids (e0 + L.length) = R := ⟨_, rfl⟩
 rw [hR]
 obtain ⟨P, hP⟩ : ∃ P : Ending → World → Prop, (fun r w' => r = .returned (.tuple #[]) ∧ Wrote w0 S sA sl.length sc gW e0 L R w w') = P := ⟨_, rfl⟩
 rw [hP]
 have HP : Hid (∀ w', Wrote w0 S sA sl.length sc gW e0 L R w w' → P (.returned (.tuple #[])) w') := Lib.hid (fun w' h1 => by rw [← hP]; exact ⟨rfl, h1⟩)
 have ho' : (n.text.toList == [111, 114]) = false := by
  have : isOr n = (n.text.toList == [111, 114]) := by
   unfold isOr
   rw [Bool.eq_iff_iff]
   simp
  rw [← this, ho]
 clear ho
 unfold nodeC
 rw [hks] at hc hi hR ⊢
 obtain ⟨m, k, rfl, rfl, hik, hmk, f0, f1⟩ := hc.two'
 obtain ⟨bI, offI, rfl, hbI, ck0, ck1⟩ := hi.cells2
 have HKC : Hid (∀ wx, Below w0.heap.size w0 wx → wx.cell? ⟨bI, offI, none⟩ = some (.int .i64 m) ∧ wx.cell? ⟨bI, offI + 1, none⟩ = some (.int .i64 k)) := Lib.hid (fun wx hb => ⟨(hb.cell hbI).trans ck0, (hb.cell hbI).trans ck1⟩)
 have g0 := first_le f0
 have hl0 := fun b => seg_bd S.p sl f m s b f0
 have hl1 := fun b => seg_bd S.p sl f k (m + 1) b f1
 have HF0 := Lib.hid f0
 have HF1 := Lib.hid f1
 have HL0 := Lib.hid hl0
 have HL1 := Lib.hid hl1
 have HR := Lib.hid hR
 have HW := Lib.hid hw
 have HE := Lib.hid he
 have HB : Hid ((s ≤ m ∧ m + 1 ≤ k) ∧ k + 1 ≤ S.p.nodes.length ∧ L.length + 6 * (k + 2 - s) ≤ 90000) := Lib.hid (by omega)
 have HH := Lib.hid h
 have hentN : ∀ args w, (callFunc 147 args).run Tryz.prog w = .ok (.enter 147 args) w := enters_of Tryz.func147 (by kernel_rfl) rfl
 generalize n.kind = nk
 generalize n.text = nt at ho' ⊢
 generalize n.int = ni
 generalize n.keys.length = q
 have HO := Lib.hid ho'
 clear ho'
 show Calls _ _ #[_, .agg #[.int .i64 nk, .string nt, .int .i64 ni, .slice kA q kc, .slice (some ⟨bI, offI, none⟩) 2 ic]] w P
 obtain ⟨g, hg⟩ : ∃ g, w.heap.size = g := ⟨_, rfl⟩
 obtain ⟨W1, hW1⟩ : ∃ W, w.alloc (.cells #[.int .i64 nk, .string nt, .int .i64 ni, .slice kA q kc, .slice (some ⟨bI, offI, none⟩) 2 ic] 58) = W := ⟨_, rfl⟩
 have hlt : gW < w.heap.size := by obtain ⟨iv, q, _⟩ := h.wr; exact q.lt
 have HNE : Hid (g ≠ gW) := Lib.hid (by omega)
 have HX1 : Hid (Blk W1 g 58 #[.int .i64 nk, .string nt, .int .i64 ni, .slice kA q kc, .slice (some ⟨bI, offI, none⟩) 2 ic]) := Lib.hid (by rw [← hW1, ← hg]; exact Blk.new _ _ _)
 have HB1 : Hid (Below w.heap.size w W1) := Lib.hid (by rw [← hW1]; exact below_new _ _)
 have HS2 := Lib.hid (h.below HB1.out)
 have HK2 := Lib.hid (h.kw HB1.out)
 have HG := Lib.hid hg
 have HW1 := Lib.hid hW1
 clear hR hP hw he h hg hW1 hlt hc hi hks hil hL hik hbI ck0 ck1 f0 f1 g0 hl0 hl1 hmk
 have HC2 := Lib.hid (HW.out m s L W1 HF0.out (by have := HB.out; omega) HS2.out (by have := HB.out; omega))
 go_enter Tryz.func64, Tryz.ntmps64
 go_upto_region 1 with fail
 rw [HG.out, HW1.out]
 clear HG HW1
 have x2 := blk5n HX1.out
 have y2 := HKC.out _ HS2.out.bl
 go_upto_region 2 with (first
  | (go_at_call 41; (with_reducible refine HC2.out.mono ?_); rintro e w3 ⟨rfl, hw3⟩; have HW3 := Lib.hid hw3; clear hw3))
 obtain ⟨N0, n0, l0, s3, k3⟩ := HW3.out.st
 have HN0 := Lib.hid n0
 have b0 := HL0.out (e0 + L.length)
 rw [← l0] at b0
 have HS3 := Lib.hid s3
 have HK3 := Lib.hid (HK2.out.trans k3)
 have HX3 := Lib.hid (k3.blk HX1.out HNE.out (by decide))
 have HL0' := Lib.hid l0
 have HB0 := Lib.hid b0
 clear n0 l0 s3 k3 b0 x2 y2
 have HC3 := Lib.hid (add2_s w0 S sA sl.length sc gW e0 (L ++ N0) w3 15 16 HS3.out (by have := HB.out; have := HB0.out; rw [List.length_append]; omega))
 go_upto_region 3 with (first
  | (go_at_call 42; (refine HC3.out.mono ?_); rintro e w4 ⟨rfl, hs4, hk4⟩; have HS4 := Lib.hid hs4; have HK4 := Lib.hid (HK3.out.trans hk4); have HX4 := Lib.hid (hk4.blk HX3.out HNE.out (by decide)); clear hs4 hk4))
 have ho2 := HO.out
 have x4 := blk5n HX4.out
 go_upto_region 5 with (fail)
 obtain ⟨M, hM⟩ : ∃ M : List (InsD × Value), [(insO 15 0, nilK), (insO 16 0, nilK)] = M := ⟨_, rfl⟩
 obtain ⟨w5, hw5⟩ : ∃ W, w4 = W := ⟨_, rfl⟩
 have HS5 := HS4
 have HK5 := HK4
 have HX5 := HX4
 rw [hM, hw5] at HS5
 rw [hw5] at HK5 HX5 ⊢
 clear hw5
 have HMF : Hid (M.map Prod.fst = [insO 15 0, insO 16 0] ∧ M.length = 2) := Lib.hid (by rw [← hM]; exact ⟨rfl, rfl⟩)
 clear hM x4 ho2
 have HC5 := Lib.hid (forward_s w0 S sA sl.length sc gW e0 (L ++ N0 ++ M) w5 14 HS5.out (by have := HB.out; have := HB0.out; have := HMF.out.2; simp only [List.length_append]; omega))
 go_upto_region 6 with (first
  | (go_at_call 100; (with_reducible refine HC5.out.mono ?_); rintro e w6 ⟨gb, ga, rfl, hf6, hs6, hk6⟩; have HF6 := Lib.hid hf6; have HS6 := Lib.hid hs6; have HK6 := Lib.hid (HK5.out.trans hk6); have HX6 := Lib.hid (hk6.blk HX5.out HNE.out (by decide)); clear hf6 hs6 hk6))
 have HC6 := Lib.hid (addP_s w0 S sA sl.length sc gW e0 (L ++ N0 ++ M ++ [(insO 14 0, nilK)]) w6 7 0 ⟨#[]⟩ HS6.out (by have := HB.out; have := HB0.out; have := HMF.out.2; simp only [List.length_append, List.length_cons, List.length_nil]; omega))
 go_upto_region 7 with (first
  | (go_at_call 42; (with_reducible refine HC6.out.mono ?_); rintro e w7 ⟨rfl, hs7, hk7⟩; have HS7 := Lib.hid hs7; have HF7 := Lib.hid (HF6.out.kw hk7); have HK7 := Lib.hid (HK6.out.trans hk7); have HX7 := Lib.hid (hk7.blk HX6.out HNE.out (by decide)); clear hs7 hk7))
 have e7 : L ++ N0 ++ M ++ [(insO 14 0, nilK)] ++ [(⟨7, 0, ⟨#[]⟩, []⟩, nilK)] = L ++ N0 ++ M ++ [(insO 14 0, nilK), (insO 7 0, nilK)] := by simp [insO]
 rw [e7] at HS7
 clear e7
 have x7 := blk5n HX7.out
 have y7 := HKC.out _ HS7.out.bl
 have HC7 := Lib.hid (HW.out k (m + 1) (L ++ N0 ++ M ++ [(insO 14 0, nilK), (insO 7 0, nilK)]) w7 HF1.out (by have := HB.out; omega) HS7.out (by have := HB.out; have := HB0.out; have := HMF.out.2; simp only [List.length_append, List.length_cons, List.length_nil]; omega))
 go_upto_region 8 with (first
  | (go_at_call 41; (with_reducible refine HC7.out.mono ?_); rintro e w8 ⟨rfl, hw8⟩; have HW8 := Lib.hid hw8; clear hw8))
 obtain ⟨N1, n1, l1, s8, k8⟩ := HW8.out.st
 have HN1 := Lib.hid n1
 have b1 := HL1.out (e0 + (L ++ N0 ++ M ++ [(insO 14 0, nilK), (insO 7 0, nilK)]).length)
 rw [← l1] at b1
 have HS8 := Lib.hid s8
 have HK8 := Lib.hid (HK7.out.trans k8)
 have HX8 := Lib.hid (k8.blk HX7.out HNE.out (by decide))
 have HF8 := Lib.hid (HF7.out.kw k8)
 have HL1' := Lib.hid l1
 have HB1' := Lib.hid b1
 clear n1 l1 s8 k8 b1 x7 y7
 have HC8 := Lib.hid (addP_s w0 S sA sl.length sc gW e0 (L ++ N0 ++ M ++ [(insO 14 0, nilK), (insO 7 0, nilK)] ++ N1) w8 15 0 ⟨#[]⟩ HS8.out (by have := HB.out; have := HB0.out; have := HB1'.out; have := HMF.out.2; simp only [List.length_append, List.length_cons, List.length_nil]; omega))
 go_upto_region 9 with (first
  | (go_at_call 42; (with_reducible refine HC8.out.mono ?_); rintro e w9 ⟨rfl, hs9, hk9⟩; have HS9 := Lib.hid hs9; have HF9 := Lib.hid (HF8.out.kw hk9); have HK9 := Lib.hid (HK8.out.trans hk9); clear hs9 hk9))
 have e9 : L ++ N0 ++ M ++ [(insO 14 0, nilK), (insO 7 0, nilK)] ++ N1 ++ [(⟨15, 0, ⟨#[]⟩, []⟩, nilK)] = (L ++ N0 ++ M) ++ (insO 14 0, nilK) :: ((insO 7 0, nilK) :: N1 ++ [(insO 15 0, nilK)]) := by simp [insO]
 rw [e9] at HS9
 clear e9
 have HC9 := Lib.hid (endAt_s w0 S sA sl.length sc gW e0 (L ++ N0 ++ M) ((insO 7 0, nilK) :: N1 ++ [(insO 15 0, nilK)]) 14 w9 gb ga HS9.out (by have := HB.out; have := HB0.out; have := HB1'.out; have := HMF.out.2; simp only [List.length_append, List.length_cons, List.length_nil]; omega) HE.out HF9.out)
 go_wp2_with (first
  | (go_at_fn 147; (with_reducible refine HC9.out.mono ?_); rintro e w10 ⟨rfl, hs10, hk10⟩; have HS10 := Lib.hid hs10; have HK10 := Lib.hid (HK9.out.trans hk10); clear hs10 hk10))
 try go_end0
 refine HP.out _ ⟨N0 ++ M ++ (insO 14 _, nilK) :: ((insO 7 0, nilK) :: N1 ++ [(insO 15 0, nilK)]), ?_, by rw [← List.append_assoc, ← List.append_assoc]; exact HS10.out, HK10.out⟩
 rw [← HR.out]
 have q0 := HN0.out
 have q1 := HN1.out
 have q2 := HL0'.out
 have q3 := HL1'.out
 have q4 := HMF.out.1
 have q5 := HMF.out.2
 simp only [List.length_append, List.length_cons, List.length_nil, q5] at q1 q3
 have e1 : e0 + ((L.length + N0.length + 2 + (0 + 1 + 1) : Nat) : Int) = e0 + (L.length : Int) + ((segF S.p sl f m (e0 + (L.length : Int))).length : Int) + 2 + 2 := by rw [← q2]; omega
 rw [e1] at q1 q3
 have e2 : e0 + (((L ++ N0 ++ M).length + ((insO 7 0, nilK) :: N1 ++ [(insO 15 0, nilK)]).length + 1 : Nat) : Int) = e0 + (L.length : Int) + ((segF S.p sl f m (e0 + (L.length : Int))).length : Int) + 2 + 2 + ((segF S.p sl f k (e0 + (L.length : Int) + ((segF S.p sl f m (e0 + (L.length : Int))).length : Int) + 2 + 2)).length : Int) + 1 := by
  rw [← q3, ← q2]
  simp only [List.length_append, List.length_cons, List.length_nil, q5]
  omega
 rw [e2]
 simp only [shoF, List.map_append, List.map_cons, List.map_nil, List.getD_cons_zero, List.getD_cons_succ, Int.toNat_natCast]
 rw [q0, q1, q4]
 simp
set_option maxHeartbeats 16000000 in
theorem sho1_s (w0 : World) (S : ProgS) (sA : Option Addr) (sc gW : Nat) (e0 : Int) (sl : List Int) (f : Nat) (hw : NodeH w0 S sA sc gW e0 sl f) (n : NodeD) (kA iA : Option Addr) (kc ic s i : Nat) (L : List (InsD × Value)) (w : World) (a b : Int)
  (ho : isOr n = true) (hks : n.kids = [a, b]) (hc : Cover S.p.nodes f n.kids s i) (hil : i ≤ S.p.nodes.length) (hi : IntsV w0 (.slice iA n.kids.length ic) n.kids) (h : WrSt w0 w S sA sl.length sc gW e0 L) (hL : L.length + 6 * (i + 1 - s) ≤ 90000) (he : 0 ≤ e0 ∧ e0 ≤ 4000) :
  Calls Tryz.prog 64 #[.pointer (some ⟨gW, 0, none⟩), .agg (nodeC n kA kc iA ic)] w fun r w' => r = .returned (.tuple #[]) ∧ Wrote w0 S sA sl.length sc gW e0 L (shoF (segF S.p sl f) true n.kids (e0 + L.length)) w w' := by
 obtain ⟨R, hR⟩ : ∃ R, shoF (segF S.p sl f) true n.kids (e0 + L.length) = R := ⟨_, rfl⟩
 rw [hR]
 obtain ⟨P, hP⟩ : ∃ P : Ending → World → Prop, (fun r w' => r = .returned (.tuple #[]) ∧ Wrote w0 S sA sl.length sc gW e0 L R w w') = P := ⟨_, rfl⟩
 rw [hP]
 have HP : Hid (∀ w', Wrote w0 S sA sl.length sc gW e0 L R w w' → P (.returned (.tuple #[])) w') := Lib.hid (fun w' h1 => by rw [← hP]; exact ⟨rfl, h1⟩)
 have ho' : (n.text.toList == [111, 114]) = true := by
  have : isOr n = (n.text.toList == [111, 114]) := by
   unfold isOr
   rw [Bool.eq_iff_iff]
   simp
  rw [← this, ho]
 clear ho
 unfold nodeC
 rw [hks] at hc hi hR ⊢
 obtain ⟨m, k, rfl, rfl, hik, hmk, f0, f1⟩ := hc.two'
 obtain ⟨bI, offI, rfl, hbI, ck0, ck1⟩ := hi.cells2
 have HKC : Hid (∀ wx, Below w0.heap.size w0 wx → wx.cell? ⟨bI, offI, none⟩ = some (.int .i64 m) ∧ wx.cell? ⟨bI, offI + 1, none⟩ = some (.int .i64 k)) := Lib.hid (fun wx hb => ⟨(hb.cell hbI).trans ck0, (hb.cell hbI).trans ck1⟩)
 have g0 := first_le f0
 have hl0 := fun b => seg_bd S.p sl f m s b f0
 have hl1 := fun b => seg_bd S.p sl f k (m + 1) b f1
 have HF0 := Lib.hid f0
 have HF1 := Lib.hid f1
 have HL0 := Lib.hid hl0
 have HL1 := Lib.hid hl1
 have HR := Lib.hid hR
 have HW := Lib.hid hw
 have HE := Lib.hid he
 have HB : Hid ((s ≤ m ∧ m + 1 ≤ k) ∧ k + 1 ≤ S.p.nodes.length ∧ L.length + 6 * (k + 2 - s) ≤ 90000) := Lib.hid (by omega)
 have HH := Lib.hid h
 have hentN : ∀ args w, (callFunc 147 args).run Tryz.prog w = .ok (.enter 147 args) w := enters_of Tryz.func147 (by kernel_rfl) rfl
 generalize n.kind = nk
 generalize n.text = nt at ho' ⊢
 generalize n.int = ni
 generalize n.keys.length = q
 have HO := Lib.hid ho'
 clear ho'
 show Calls _ _ #[_, .agg #[.int .i64 nk, .string nt, .int .i64 ni, .slice kA q kc, .slice (some ⟨bI, offI, none⟩) 2 ic]] w P
 obtain ⟨g, hg⟩ : ∃ g, w.heap.size = g := ⟨_, rfl⟩
 obtain ⟨W1, hW1⟩ : ∃ W, w.alloc (.cells #[.int .i64 nk, .string nt, .int .i64 ni, .slice kA q kc, .slice (some ⟨bI, offI, none⟩) 2 ic] 58) = W := ⟨_, rfl⟩
 have hlt : gW < w.heap.size := by obtain ⟨iv, q, _⟩ := h.wr; exact q.lt
 have HNE : Hid (g ≠ gW) := Lib.hid (by omega)
 have HX1 : Hid (Blk W1 g 58 #[.int .i64 nk, .string nt, .int .i64 ni, .slice kA q kc, .slice (some ⟨bI, offI, none⟩) 2 ic]) := Lib.hid (by rw [← hW1, ← hg]; exact Blk.new _ _ _)
 have HB1 : Hid (Below w.heap.size w W1) := Lib.hid (by rw [← hW1]; exact below_new _ _)
 have HS2 := Lib.hid (h.below HB1.out)
 have HK2 := Lib.hid (h.kw HB1.out)
 have HG := Lib.hid hg
 have HW1 := Lib.hid hW1
 clear hR hP hw he h hg hW1 hlt hc hi hks hil hL hik hbI ck0 ck1 f0 f1 g0 hl0 hl1 hmk
 have HC2 := Lib.hid (HW.out m s L W1 HF0.out (by have := HB.out; omega) HS2.out (by have := HB.out; omega))
 go_enter Tryz.func64, Tryz.ntmps64
 go_upto_region 1 with fail
 rw [HG.out, HW1.out]
 clear HG HW1
 have x2 := blk5n HX1.out
 have y2 := HKC.out _ HS2.out.bl
 go_upto_region 2 with (first
  | (go_at_call 41; (with_reducible refine HC2.out.mono ?_); rintro e w3 ⟨rfl, hw3⟩; have HW3 := Lib.hid hw3; clear hw3))
 obtain ⟨N0, n0, l0, s3, k3⟩ := HW3.out.st
 have HN0 := Lib.hid n0
 have b0 := HL0.out (e0 + L.length)
 rw [← l0] at b0
 have HS3 := Lib.hid s3
 have HK3 := Lib.hid (HK2.out.trans k3)
 have HX3 := Lib.hid (k3.blk HX1.out HNE.out (by decide))
 have HL0' := Lib.hid l0
 have HB0 := Lib.hid b0
 clear n0 l0 s3 k3 b0 x2 y2
 have HC3 := Lib.hid (add2_s w0 S sA sl.length sc gW e0 (L ++ N0) w3 15 16 HS3.out (by have := HB.out; have := HB0.out; rw [List.length_append]; omega))
 go_upto_region 3 with (first
  | (go_at_call 42; (refine HC3.out.mono ?_); rintro e w4 ⟨rfl, hs4, hk4⟩; have HS4 := Lib.hid hs4; have HK4 := Lib.hid (HK3.out.trans hk4); have HX4 := Lib.hid (hk4.blk HX3.out HNE.out (by decide)); clear hs4 hk4))
 have ho2 := HO.out
 have x4 := blk5n HX4.out
 have HC4 := Lib.hid (addP_s w0 S sA sl.length sc gW e0 (L ++ N0 ++ [(insO 15 0, nilK), (insO 16 0, nilK)]) w4 8 0 notS HS4.out (by have := HB.out; have := HB0.out; simp only [List.length_append, List.length_cons, List.length_nil]; omega))
 unfold notS at HC4
 go_upto_region 5 with (first
  | (go_at_call 42; (refine HC4.out.mono ?_); rintro e w5 ⟨rfl, hs5, hk5⟩; have HS5 := Lib.hid hs5; have HK5 := Lib.hid (HK4.out.trans hk5); have HX5 := Lib.hid (hk5.blk HX4.out HNE.out (by decide)); clear hs5 hk5))
 obtain ⟨M, hM⟩ : ∃ M : List (InsD × Value), [(insO 15 0, nilK), (insO 16 0, nilK), (insT 8 notS, nilK)] = M := ⟨_, rfl⟩
 have e5 : L ++ N0 ++ [(insO 15 0, nilK), (insO 16 0, nilK)] ++ [(⟨8, 0, ⟨#[110, 111, 116]⟩, []⟩, nilK)] = L ++ N0 ++ M := by rw [← hM]; simp [insT, notS]
 rw [e5] at HS5
 clear e5
 have HMF : Hid (M.map Prod.fst = [insO 15 0, insO 16 0, insT 8 notS] ∧ M.length = 3) := Lib.hid (by rw [← hM]; exact ⟨rfl, rfl⟩)
 clear hM x4 ho2
 have HC5 := Lib.hid (forward_s w0 S sA sl.length sc gW e0 (L ++ N0 ++ M) w5 14 HS5.out (by have := HB.out; have := HB0.out; have := HMF.out.2; simp only [List.length_append]; omega))
 go_upto_region 6 with (first
  | (go_at_call 100; (with_reducible refine HC5.out.mono ?_); rintro e w6 ⟨gb, ga, rfl, hf6, hs6, hk6⟩; have HF6 := Lib.hid hf6; have HS6 := Lib.hid hs6; have HK6 := Lib.hid (HK5.out.trans hk6); have HX6 := Lib.hid (hk6.blk HX5.out HNE.out (by decide)); clear hf6 hs6 hk6))
 have HC6 := Lib.hid (addP_s w0 S sA sl.length sc gW e0 (L ++ N0 ++ M ++ [(insO 14 0, nilK)]) w6 7 0 ⟨#[]⟩ HS6.out (by have := HB.out; have := HB0.out; have := HMF.out.2; simp only [List.length_append, List.length_cons, List.length_nil]; omega))
 go_upto_region 7 with (first
  | (go_at_call 42; (with_reducible refine HC6.out.mono ?_); rintro e w7 ⟨rfl, hs7, hk7⟩; have HS7 := Lib.hid hs7; have HF7 := Lib.hid (HF6.out.kw hk7); have HK7 := Lib.hid (HK6.out.trans hk7); have HX7 := Lib.hid (hk7.blk HX6.out HNE.out (by decide)); clear hs7 hk7))
 have e7 : L ++ N0 ++ M ++ [(insO 14 0, nilK)] ++ [(⟨7, 0, ⟨#[]⟩, []⟩, nilK)] = L ++ N0 ++ M ++ [(insO 14 0, nilK), (insO 7 0, nilK)] := by simp [insO]
 rw [e7] at HS7
 clear e7
 have x7 := blk5n HX7.out
 have y7 := HKC.out _ HS7.out.bl
 have HC7 := Lib.hid (HW.out k (m + 1) (L ++ N0 ++ M ++ [(insO 14 0, nilK), (insO 7 0, nilK)]) w7 HF1.out (by have := HB.out; omega) HS7.out (by have := HB.out; have := HB0.out; have := HMF.out.2; simp only [List.length_append, List.length_cons, List.length_nil]; omega))
 go_upto_region 8 with (first
  | (go_at_call 41; (with_reducible refine HC7.out.mono ?_); rintro e w8 ⟨rfl, hw8⟩; have HW8 := Lib.hid hw8; clear hw8))
 obtain ⟨N1, n1, l1, s8, k8⟩ := HW8.out.st
 have HN1 := Lib.hid n1
 have b1 := HL1.out (e0 + (L ++ N0 ++ M ++ [(insO 14 0, nilK), (insO 7 0, nilK)]).length)
 rw [← l1] at b1
 have HS8 := Lib.hid s8
 have HK8 := Lib.hid (HK7.out.trans k8)
 have HX8 := Lib.hid (k8.blk HX7.out HNE.out (by decide))
 have HF8 := Lib.hid (HF7.out.kw k8)
 have HL1' := Lib.hid l1
 have HB1' := Lib.hid b1
 clear n1 l1 s8 k8 b1 x7 y7
 have HC8 := Lib.hid (addP_s w0 S sA sl.length sc gW e0 (L ++ N0 ++ M ++ [(insO 14 0, nilK), (insO 7 0, nilK)] ++ N1) w8 15 0 ⟨#[]⟩ HS8.out (by have := HB.out; have := HB0.out; have := HB1'.out; have := HMF.out.2; simp only [List.length_append, List.length_cons, List.length_nil]; omega))
 go_upto_region 9 with (first
  | (go_at_call 42; (with_reducible refine HC8.out.mono ?_); rintro e w9 ⟨rfl, hs9, hk9⟩; have HS9 := Lib.hid hs9; have HF9 := Lib.hid (HF8.out.kw hk9); have HK9 := Lib.hid (HK8.out.trans hk9); clear hs9 hk9))
 have e9 : L ++ N0 ++ M ++ [(insO 14 0, nilK), (insO 7 0, nilK)] ++ N1 ++ [(⟨15, 0, ⟨#[]⟩, []⟩, nilK)] = (L ++ N0 ++ M) ++ (insO 14 0, nilK) :: ((insO 7 0, nilK) :: N1 ++ [(insO 15 0, nilK)]) := by simp [insO]
 rw [e9] at HS9
 clear e9
 have HC9 := Lib.hid (endAt_s w0 S sA sl.length sc gW e0 (L ++ N0 ++ M) ((insO 7 0, nilK) :: N1 ++ [(insO 15 0, nilK)]) 14 w9 gb ga HS9.out (by have := HB.out; have := HB0.out; have := HB1'.out; have := HMF.out.2; simp only [List.length_append, List.length_cons, List.length_nil]; omega) HE.out HF9.out)
 go_wp2_with (first
  | (go_at_fn 147; (with_reducible refine HC9.out.mono ?_); rintro e w10 ⟨rfl, hs10, hk10⟩; have HS10 := Lib.hid hs10; have HK10 := Lib.hid (HK9.out.trans hk10); clear hs10 hk10))
 try go_end0
 refine HP.out _ ⟨N0 ++ M ++ (insO 14 _, nilK) :: ((insO 7 0, nilK) :: N1 ++ [(insO 15 0, nilK)]), ?_, by rw [← List.append_assoc, ← List.append_assoc]; exact HS10.out, HK10.out⟩
 rw [← HR.out]
 have q0 := HN0.out
 have q1 := HN1.out
 have q2 := HL0'.out
 have q3 := HL1'.out
 have q4 := HMF.out.1
 have q5 := HMF.out.2
 simp only [List.length_append, List.length_cons, List.length_nil, q5] at q1 q3
 have e1 : e0 + ((L.length + N0.length + 3 + (0 + 1 + 1) : Nat) : Int) = e0 + (L.length : Int) + ((segF S.p sl f m (e0 + (L.length : Int))).length : Int) + 3 + 2 := by rw [← q2]; omega
 rw [e1] at q1 q3
 have e2 : e0 + (((L ++ N0 ++ M).length + ((insO 7 0, nilK) :: N1 ++ [(insO 15 0, nilK)]).length + 1 : Nat) : Int) = e0 + (L.length : Int) + ((segF S.p sl f m (e0 + (L.length : Int))).length : Int) + 3 + 2 + ((segF S.p sl f k (e0 + (L.length : Int) + ((segF S.p sl f m (e0 + (L.length : Int))).length : Int) + 3 + 2)).length : Int) + 1 := by
  rw [← q3, ← q2]
  simp only [List.length_append, List.length_cons, List.length_nil, q5]
  omega
 rw [e2]
 simp only [shoF, List.map_append, List.map_cons, List.map_nil, List.getD_cons_zero, List.getD_cons_succ, Int.toNat_natCast]
 rw [q0, q1, q4]
 simp
end Go.Proofs.YthiimbhjpdphpaaGreatDoor
