/- W8 -/
import Derived.Test.YthiimbhjpdphpaaGreatDoorPW7
set_option linter.unusedVariables false
set_option linter.unusedSimpArgs false
set_option linter.unusedVariables false
set_option linter.unusedSimpArgs false
namespace Go.Proofs.YthiimbhjpdphpaaGreatDoor
open Go.RowKit
set_option maxRecDepth 100000
theorem Cover.two' {l : List NodeD} {f : Nat} {a b : Int} {s e : Nat} (h : Cover l f [a, b] s e) : ∃ m k : Nat, a = m ∧ b = k ∧ e = k + 1 ∧ m + 1 ≤ k ∧ firstF l f m = some s ∧ firstF l f k = some (m + 1) := by
 obtain ⟨m, h1, h2, h3, h4, h5, h6⟩ := h.two
 have := first_le h6
 exact ⟨m, e - 1, h1, by omega, by omega, by omega, h5, h6⟩
theorem Cover.three' {l : List NodeD} {f : Nat} {a b c : Int} {s e : Nat} (h : Cover l f [a, b, c] s e) : ∃ m k j : Nat, a = m ∧ b = k ∧ c = j ∧ e = j + 1 ∧ m + 1 ≤ k ∧ k + 1 ≤ j ∧ firstF l f m = some s ∧ firstF l f k = some (m + 1) ∧ firstF l f j = some (k + 1) := by
 obtain ⟨m, k, h1, h2, h3, h4, h5, h6, h7, h8, h9⟩ := h.three
 have := first_le h9
 have := first_le h8
 exact ⟨m, k, e - 1, h1, h2, by omega, by omega, by omega, by omega, h7, h8, h9⟩
theorem IntsV.cells2 {w : World} {A : Option Addr} {n cap : Nat} {a b : Int} (h : IntsV w (.slice A n cap) [a, b]) : ∃ B off, A = some ⟨B, off, none⟩ ∧ B < w.heap.size ∧ w.cell? ⟨B, off, none⟩ = some (.int .i64 a) ∧ w.cell? ⟨B, off + 1, none⟩ = some (.int .i64 b) := by
 obtain ⟨B, off, rfl, hb, c0⟩ := h.cell (i := 0) (by simp)
 obtain ⟨B', off', e, _, c1⟩ := h.cell (i := 1) (by simp)
 injection e with e
 injection e with e1 e2
 subst e1 e2
 exact ⟨B, off, rfl, hb, c0, c1⟩
theorem IntsV.cells3 {w : World} {A : Option Addr} {n cap : Nat} {a b c : Int} (h : IntsV w (.slice A n cap) [a, b, c]) : ∃ B off, A = some ⟨B, off, none⟩ ∧ B < w.heap.size ∧ w.cell? ⟨B, off, none⟩ = some (.int .i64 a) ∧ w.cell? ⟨B, off + 1, none⟩ = some (.int .i64 b) ∧ w.cell? ⟨B, off + 2, none⟩ = some (.int .i64 c) := by
 obtain ⟨B, off, rfl, hb, c0⟩ := h.cell (i := 0) (by simp)
 obtain ⟨B', off', e, _, c1⟩ := h.cell (i := 1) (by simp)
 injection e with e
 injection e with e1 e2
 subst e1 e2
 obtain ⟨B', off', e, _, c2⟩ := h.cell (i := 2) (by simp)
 injection e with e
 injection e with e1 e2
 subst e1 e2
 exact ⟨B, off, rfl, hb, c0, c1, c2⟩
theorem addP_s (w0 : World) (S : ProgS) (sA : Option Addr) (sn sc gW : Nat) (e0 : Int) (L : List (InsD × Value)) (w : World) (op a : Int) (s : ByteArray) (h : WrSt w0 w S sA sn sc gW e0 L) (hL : L.length ≤ 100000) :
  Calls Tryz.prog 42 #[.pointer (some ⟨gW, 0, none⟩), .slice (some ⟨w.heap.size, 0, none⟩) 1 1] (w.alloc (.cells #[.int .i64 op, .int .i64 a, .string s, .slice none 0 0] 53)) fun e w' => e = .returned (.tuple #[]) ∧ WrSt w0 w' S sA sn sc gW e0 (L ++ [(⟨op, a, s, []⟩, nilK)]) ∧ KW w0.heap.size gW w w' :=
 add1_s w0 S sA sn sc gW e0 L w op a s [] (.slice none 0 0) h hL (okeys_nil _ _ ⟨op, a, s, []⟩ rfl) rfl
attribute [local go_sem] cell_alloc_is
set_option maxHeartbeats 16000000 in
theorem ctl16_s (w0 : World) (S : ProgS) (sA : Option Addr) (sc gW : Nat) (e0 : Int) (sl : List Int) (f : Nat) (hw : NodeH w0 S sA sc gW e0 sl f) (n : NodeD) (kA iA : Option Addr) (kc ic s i : Nat) (L : List (InsD × Value)) (w : World) (a b : Int)
  (hk : n.kind = 16) (hks : n.kids = [a, b]) (hc : Cover S.p.nodes f n.kids s i) (hil : i ≤ S.p.nodes.length) (hi : IntsV w0 (.slice iA n.kids.length ic) n.kids) (h : WrSt w0 w S sA sl.length sc gW e0 L) (hL : L.length + 6 * (i + 1 - s) ≤ 90000) (he : 0 ≤ e0 ∧ e0 ≤ 4000) :
  Calls Tryz.prog 63 #[.pointer (some ⟨gW, 0, none⟩), .agg (nodeC n kA kc iA ic)] w fun r w' => r = .returned (.tuple #[]) ∧ Wrote w0 S sA sl.length sc gW e0 L (ctlF (segF S.p sl f) n.kind n.kids (e0 + L.length)) w w' := by
 obtain ⟨R, hR⟩ : ∃ R, ctlF (segF S.p sl f) n.kind n.kids (e0 + L.length) = R := ⟨_, rfl⟩
 rw [hR]
 obtain ⟨P, hP⟩ : ∃ P : Ending → World → Prop, (fun r w' => r = .returned (.tuple #[]) ∧ Wrote w0 S sA sl.length sc gW e0 L R w w') = P := ⟨_, rfl⟩
 rw [hP]
 have HP : Hid (∀ w', Wrote w0 S sA sl.length sc gW e0 L R w w' → P (.returned (.tuple #[])) w') := Lib.hid (fun w' h1 => by rw [← hP]; exact ⟨rfl, h1⟩)
 unfold nodeC
 rw [hks] at hc hi hR ⊢
 rw [hk] at hR ⊢
 obtain ⟨m, k, rfl, rfl, hik, hmk, f0, f1⟩ := hc.two'
 obtain ⟨bI, offI, rfl, hbI, ck0, ck1⟩ := hi.cells2
 have HKC : Hid (∀ wx, Below w0.heap.size w0 wx → wx.cell? ⟨bI, offI, none⟩ = some (.int .i64 m) ∧ wx.cell? ⟨bI, offI + 1, none⟩ = some (.int .i64 k)) := Lib.hid (fun wx hb => ⟨(hb.cell hbI).trans ck0, (hb.cell hbI).trans ck1⟩)
 have g0 := first_le f0
 have hl0 := fun b => seg_bd S.p sl f m s b f0
 have hl1 := fun b => seg_bd S.p sl f k (m + 1) b f1
 have HF0 := Lib.hid f0
 have HF1 := Lib.hid f1
 have HL0 := Lib.hid hl0
 have HL1 := Lib.hid hl1
 have HR := Lib.hid hR
 have HW := Lib.hid hw
 have HE := Lib.hid he
 have HB : Hid ((s ≤ m ∧ m + 1 ≤ k) ∧ k + 1 ≤ S.p.nodes.length ∧ L.length + 6 * (k + 2 - s) ≤ 90000) := Lib.hid (by omega)
 have HH := Lib.hid h
 have hentN : ∀ args w, (callFunc 147 args).run Tryz.prog w = .ok (.enter 147 args) w := enters_of Tryz.func147 (by kernel_rfl) rfl
 generalize n.text = nt
 generalize n.int = ni
 generalize n.keys.length = q
 show Calls _ _ #[_, .agg #[.int .i64 16, .string nt, .int .i64 ni, .slice kA q kc, .slice (some ⟨bI, offI, none⟩) 2 ic]] w P
 obtain ⟨g, hg⟩ : ∃ g, w.heap.size = g := ⟨_, rfl⟩
 obtain ⟨W1, hW1⟩ : ∃ W, w.alloc (.cells #[.int .i64 16, .string nt, .int .i64 ni, .slice kA q kc, .slice (some ⟨bI, offI, none⟩) 2 ic] 58) = W := ⟨_, rfl⟩
 have hlt : gW < w.heap.size := by obtain ⟨iv, q, _⟩ := h.wr; exact q.lt
 have HNE : Hid (g ≠ gW) := Lib.hid (by omega)
 have HX1 : Hid (Blk W1 g 58 #[.int .i64 16, .string nt, .int .i64 ni, .slice kA q kc, .slice (some ⟨bI, offI, none⟩) 2 ic]) := Lib.hid (by rw [← hW1, ← hg]; exact Blk.new _ _ _)
 have HB1 : Hid (Below w.heap.size w W1) := Lib.hid (by rw [← hW1]; exact below_new _ _)
 have HS1 := Lib.hid (h.below HB1.out)
 have HK1 := Lib.hid (h.kw HB1.out)
 have HC1 := Lib.hid (here_s w0 S sA sl.length sc gW e0 L W1 HS1.out he (by omega))
 have HG := Lib.hid hg
 have HW1 := Lib.hid hW1
 clear hR hP hw he h hg hW1 hlt hc hi hk hks hil hL hik hbI ck0 ck1 f0 f1 g0 hl0 hl1 hmk
 go_enter Tryz.func63, Tryz.ntmps63
 go_upto_region 1 with fail
 rw [HG.out, HW1.out]
 clear HG HW1
 go_upto_region 2 with (first
  | (go_at_call 27; (with_reducible refine HC1.out.mono ?_); rintro e w2 ⟨rfl, hq⟩; have HQ := Lib.hid hq; clear hq))
 have HB2 : Hid (Below W1.heap.size W1 w2) := Lib.hid (by obtain ⟨q, rfl⟩ := HQ.out; exact below_drewN (Below.refl _ _) _)
 have HS2 := Lib.hid (HS1.out.below HB2.out)
 have HK2 := Lib.hid (HK1.out.trans (HS1.out.kw HB2.out))
 have HX2 := Lib.hid (HX1.out.below HB2.out)
 have x2 := blk5n HX2.out
 have y2 := HKC.out _ HS2.out.bl
 have HC2 := Lib.hid (HW.out m s L w2 HF0.out (by have := HB.out; omega) HS2.out (by have := HB.out; omega))
 go_upto_region 3 with (first
  | (go_at_call 41; (with_reducible refine HC2.out.mono ?_); rintro e w3 ⟨rfl, hw3⟩; have HW3 := Lib.hid hw3; clear hw3))
 obtain ⟨N0, n0, l0, s3, k3⟩ := HW3.out.st
 have HN0 := Lib.hid n0
 have b0 := HL0.out (e0 + L.length)
 rw [← l0] at b0
 have HS3 := Lib.hid s3
 have HK3 := Lib.hid (HK2.out.trans k3)
 have HX3 := Lib.hid (k3.blk HX2.out HNE.out (by decide))
 have HL0' := Lib.hid l0
 have HB0 := Lib.hid b0
 clear n0 l0 s3 k3 b0 x2 y2
 have HC3 := Lib.hid (forward_s w0 S sA sl.length sc gW e0 (L ++ N0) w3 14 HS3.out (by have := HB.out; have := HB0.out; rw [List.length_append]; omega))
 go_upto_region 4 with (first
  | (go_at_call 100; (with_reducible refine HC3.out.mono ?_); rintro e w4 ⟨gb, ga, rfl, hf4, hs4, hk4⟩; have HF4 := Lib.hid hf4; have HS4 := Lib.hid hs4; have HK4 := Lib.hid (HK3.out.trans hk4); have HX4 := Lib.hid (hk4.blk HX3.out HNE.out (by decide)); clear hf4 hs4 hk4))
 have x4 := blk5n HX4.out
 have y4 := HKC.out _ HS4.out.bl
 have HC4 := Lib.hid (HW.out k (m + 1) (L ++ N0 ++ [(insO 14 0, nilK)]) w4 HF1.out (by have := HB.out; omega) HS4.out (by have := HB.out; have := HB0.out; simp only [List.length_append, List.length_cons, List.length_nil]; omega))
 go_upto_region 6 with (first
  | (go_at_call 41; (with_reducible refine HC4.out.mono ?_); rintro e w5 ⟨rfl, hw5⟩; have HW5 := Lib.hid hw5; clear hw5))
 obtain ⟨N1, n1, l1, s5, k5⟩ := HW5.out.st
 have HN1 := Lib.hid n1
 have b1 := HL1.out (e0 + (L ++ N0 ++ [(insO 14 0, nilK)]).length)
 rw [← l1] at b1
 have HS5 := Lib.hid s5
 have HK5 := Lib.hid (HK4.out.trans k5)
 have HX5 := Lib.hid (k5.blk HX4.out HNE.out (by decide))
 have HF5 := Lib.hid (HF4.out.kw k5)
 have HL1' := Lib.hid l1
 have HB1' := Lib.hid b1
 clear n1 l1 s5 k5 b1 x4 y4
 have x5 := blk5n HX5.out
 have y5 := HKC.out _ HS5.out.bl
 have HC5 := Lib.hid (addP_s w0 S sA sl.length sc gW e0 (L ++ N0 ++ [(insO 14 0, nilK)] ++ N1) w5 13 (e0 + L.length) ⟨#[]⟩ HS5.out (by have := HB.out; have := HB0.out; have := HB1'.out; simp only [List.length_append, List.length_cons, List.length_nil]; omega))
 go_upto_region 8 with (first
  | (go_at_call 42; (with_reducible refine HC5.out.mono ?_); rintro e w6 ⟨rfl, hs6, hk6⟩; have HS6 := Lib.hid hs6; have HK6 := Lib.hid (HK5.out.trans hk6); have HF6 := Lib.hid (HF5.out.kw hk6); clear hs6 hk6))
 have e6 : L ++ N0 ++ [(insO 14 0, nilK)] ++ N1 ++ [(⟨13, e0 + L.length, ⟨#[]⟩, []⟩, nilK)] = (L ++ N0) ++ (insO 14 0, nilK) :: (N1 ++ [(insO 13 (e0 + L.length), nilK)]) := by simp [insO]
 have HS7 : Hid (WrSt w0 w6 S sA sl.length sc gW e0 ((L ++ N0) ++ (insO 14 0, nilK) :: (N1 ++ [(insO 13 (e0 + L.length), nilK)]))) := Lib.hid (by rw [← e6]; exact HS6.out)
 clear e6 x5 y5
 have HC6 := Lib.hid (endAt_s w0 S sA sl.length sc gW e0 (L ++ N0) (N1 ++ [(insO 13 (e0 + L.length), nilK)]) 14 w6 gb ga HS7.out (by have := HB.out; have := HB0.out; have := HB1'.out; simp only [List.length_append, List.length_cons, List.length_nil]; omega) HE.out HF6.out)
 go_wp2_with (first
  | (go_at_fn 147; (with_reducible refine HC6.out.mono ?_); rintro e w7 ⟨rfl, hs7, hk7⟩; have HS8 := Lib.hid hs7; have HK8 := Lib.hid (HK6.out.trans hk7); clear hs7 hk7))
 try go_end0
 refine HP.out _ ⟨N0 ++ (insO 14 _, nilK) :: (N1 ++ [(insO 13 (e0 + L.length), nilK)]), ?_, by rw [← List.append_assoc]; exact HS8.out, HK8.out⟩
 rw [← HR.out]
 have q0 := HN0.out
 have q1 := HN1.out
 have q2 := HL0'.out
 have q3 := HL1'.out
 simp only [List.length_append, List.length_cons, List.length_nil] at q1 q3
 simp only [ctlF, List.map_append, List.map_cons, List.map_nil, List.getD_cons_zero, List.getD_cons_succ, Int.toNat_natCast, if_pos]
 have e1 : e0 + ((L.length + N0.length + (0 + 1) : Nat) : Int) = e0 + (L.length : Int) + ((segF S.p sl f m (e0 + (L.length : Int))).length : Int) + 1 := by rw [← q2]; omega
 rw [e1] at q1 q3
 have e2 : ∀ x : InsD × Value, e0 + (((L ++ N0).length + (N1 ++ [x]).length + 1 : Nat) : Int) = e0 + (L.length : Int) + ((segF S.p sl f m (e0 + (L.length : Int))).length : Int) + 1 + ((segF S.p sl f k (e0 + (L.length : Int) + ((segF S.p sl f m (e0 + (L.length : Int))).length : Int) + 1)).length : Int) + 1 := by
  intro x
  rw [← q3, ← q2, List.length_append, List.length_append, List.length_singleton]
  omega
 rw [q0, q1, e2]
 simp only [List.append_assoc, List.cons_append, List.nil_append, List.singleton_append]
set_option maxHeartbeats 16000000 in
theorem ctl2_s (w0 : World) (S : ProgS) (sA : Option Addr) (sc gW : Nat) (e0 : Int) (sl : List Int) (f : Nat) (hw : NodeH w0 S sA sc gW e0 sl f) (n : NodeD) (kA iA : Option Addr) (kc ic s i : Nat) (L : List (InsD × Value)) (w : World) (a b : Int)
  (hk : n.kind = 15) (hks : n.kids = [a, b]) (hc : Cover S.p.nodes f n.kids s i) (hil : i ≤ S.p.nodes.length) (hi : IntsV w0 (.slice iA n.kids.length ic) n.kids) (h : WrSt w0 w S sA sl.length sc gW e0 L) (hL : L.length + 6 * (i + 1 - s) ≤ 90000) (he : 0 ≤ e0 ∧ e0 ≤ 4000) :
  Calls Tryz.prog 63 #[.pointer (some ⟨gW, 0, none⟩), .agg (nodeC n kA kc iA ic)] w fun r w' => r = .returned (.tuple #[]) ∧ Wrote w0 S sA sl.length sc gW e0 L (ctlF (segF S.p sl f) n.kind n.kids (e0 + L.length)) w w' := by
 obtain ⟨R, hR⟩ : ∃ R, ctlF (segF S.p sl f) n.kind n.kids (e0 + L.length) = R := ⟨_, rfl⟩
 rw [hR]
 obtain ⟨P, hP⟩ : ∃ P : Ending → World → Prop, (fun r w' => r = .returned (.tuple #[]) ∧ Wrote w0 S sA sl.length sc gW e0 L R w w') = P := ⟨_, rfl⟩
 rw [hP]
 have HP : Hid (∀ w', Wrote w0 S sA sl.length sc gW e0 L R w w' → P (.returned (.tuple #[])) w') := Lib.hid (fun w' h1 => by rw [← hP]; exact ⟨rfl, h1⟩)
 unfold nodeC
 rw [hks] at hc hi hR ⊢
 rw [hk] at hR ⊢
 obtain ⟨m, k, rfl, rfl, hik, hmk, f0, f1⟩ := hc.two'
 obtain ⟨bI, offI, rfl, hbI, ck0, ck1⟩ := hi.cells2
 have HKC : Hid (∀ wx, Below w0.heap.size w0 wx → wx.cell? ⟨bI, offI, none⟩ = some (.int .i64 m) ∧ wx.cell? ⟨bI, offI + 1, none⟩ = some (.int .i64 k)) := Lib.hid (fun wx hb => ⟨(hb.cell hbI).trans ck0, (hb.cell hbI).trans ck1⟩)
 have g0 := first_le f0
 have hl0 := fun b => seg_bd S.p sl f m s b f0
 have hl1 := fun b => seg_bd S.p sl f k (m + 1) b f1
 have HF0 := Lib.hid f0
 have HF1 := Lib.hid f1
 have HL0 := Lib.hid hl0
 have HL1 := Lib.hid hl1
 have HR := Lib.hid hR
 have HW := Lib.hid hw
 have HE := Lib.hid he
 have HB : Hid ((s ≤ m ∧ m + 1 ≤ k) ∧ k + 1 ≤ S.p.nodes.length ∧ L.length + 6 * (k + 2 - s) ≤ 90000) := Lib.hid (by omega)
 have HH := Lib.hid h
 have hentN : ∀ args w, (callFunc 147 args).run Tryz.prog w = .ok (.enter 147 args) w := enters_of Tryz.func147 (by kernel_rfl) rfl
 generalize n.text = nt
 generalize n.int = ni
 generalize n.keys.length = q
 show Calls _ _ #[_, .agg #[.int .i64 15, .string nt, .int .i64 ni, .slice kA q kc, .slice (some ⟨bI, offI, none⟩) 2 ic]] w P
 obtain ⟨g, hg⟩ : ∃ g, w.heap.size = g := ⟨_, rfl⟩
 obtain ⟨W1, hW1⟩ : ∃ W, w.alloc (.cells #[.int .i64 15, .string nt, .int .i64 ni, .slice kA q kc, .slice (some ⟨bI, offI, none⟩) 2 ic] 58) = W := ⟨_, rfl⟩
 have hlt : gW < w.heap.size := by obtain ⟨iv, q, _⟩ := h.wr; exact q.lt
 have HNE : Hid (g ≠ gW) := Lib.hid (by omega)
 have HX1 : Hid (Blk W1 g 58 #[.int .i64 15, .string nt, .int .i64 ni, .slice kA q kc, .slice (some ⟨bI, offI, none⟩) 2 ic]) := Lib.hid (by rw [← hW1, ← hg]; exact Blk.new _ _ _)
 have HB1 : Hid (Below w.heap.size w W1) := Lib.hid (by rw [← hW1]; exact below_new _ _)
 have HS1 := Lib.hid (h.below HB1.out)
 have HK1 := Lib.hid (h.kw HB1.out)
 have HC1 := Lib.hid (here_s w0 S sA sl.length sc gW e0 L W1 HS1.out he (by omega))
 have HG := Lib.hid hg
 have HW1 := Lib.hid hW1
 clear hR hP hw he h hg hW1 hlt hc hi hk hks hil hL hik hbI ck0 ck1 f0 f1 g0 hl0 hl1 hmk
 go_enter Tryz.func63, Tryz.ntmps63
 go_upto_region 1 with fail
 rw [HG.out, HW1.out]
 clear HG HW1
 go_upto_region 2 with (first
  | (go_at_call 27; (with_reducible refine HC1.out.mono ?_); rintro e w2 ⟨rfl, hq⟩; have HQ := Lib.hid hq; clear hq))
 have HB2 : Hid (Below W1.heap.size W1 w2) := Lib.hid (by obtain ⟨q, rfl⟩ := HQ.out; exact below_drewN (Below.refl _ _) _)
 have HS2 := Lib.hid (HS1.out.below HB2.out)
 have HK2 := Lib.hid (HK1.out.trans (HS1.out.kw HB2.out))
 have HX2 := Lib.hid (HX1.out.below HB2.out)
 have x2 := blk5n HX2.out
 have y2 := HKC.out _ HS2.out.bl
 have HC2 := Lib.hid (HW.out m s L w2 HF0.out (by have := HB.out; omega) HS2.out (by have := HB.out; omega))
 go_upto_region 3 with (first
  | (go_at_call 41; (with_reducible refine HC2.out.mono ?_); rintro e w3 ⟨rfl, hw3⟩; have HW3 := Lib.hid hw3; clear hw3))
 obtain ⟨N0, n0, l0, s3, k3⟩ := HW3.out.st
 have HN0 := Lib.hid n0
 have b0 := HL0.out (e0 + L.length)
 rw [← l0] at b0
 have HS3 := Lib.hid s3
 have HK3 := Lib.hid (HK2.out.trans k3)
 have HX3 := Lib.hid (k3.blk HX2.out HNE.out (by decide))
 have HL0' := Lib.hid l0
 have HB0 := Lib.hid b0
 clear n0 l0 s3 k3 b0 x2 y2
 have HC3 := Lib.hid (forward_s w0 S sA sl.length sc gW e0 (L ++ N0) w3 14 HS3.out (by have := HB.out; have := HB0.out; rw [List.length_append]; omega))
 go_upto_region 4 with (first
  | (go_at_call 100; (with_reducible refine HC3.out.mono ?_); rintro e w4 ⟨gb, ga, rfl, hf4, hs4, hk4⟩; have HF4 := Lib.hid hf4; have HS4 := Lib.hid hs4; have HK4 := Lib.hid (HK3.out.trans hk4); have HX4 := Lib.hid (hk4.blk HX3.out HNE.out (by decide)); clear hf4 hs4 hk4))
 have x4 := blk5n HX4.out
 have y4 := HKC.out _ HS4.out.bl
 have HC4 := Lib.hid (HW.out k (m + 1) (L ++ N0 ++ [(insO 14 0, nilK)]) w4 HF1.out (by have := HB.out; omega) HS4.out (by have := HB.out; have := HB0.out; simp only [List.length_append, List.length_cons, List.length_nil]; omega))
 go_upto_region 6 with (first
  | (go_at_call 41; (with_reducible refine HC4.out.mono ?_); rintro e w5 ⟨rfl, hw5⟩; have HW5 := Lib.hid hw5; clear hw5))
 obtain ⟨N1, n1, l1, s5, k5⟩ := HW5.out.st
 have HN1 := Lib.hid n1
 have b1 := HL1.out (e0 + (L ++ N0 ++ [(insO 14 0, nilK)]).length)
 rw [← l1] at b1
 have HS5 := Lib.hid s5
 have HK5 := Lib.hid (HK4.out.trans k5)
 have HX5 := Lib.hid (k5.blk HX4.out HNE.out (by decide))
 have HF5 := Lib.hid (HF4.out.kw k5)
 have HL1' := Lib.hid l1
 have HB1' := Lib.hid b1
 clear n1 l1 s5 k5 b1 x4 y4
 have x5 := blk5n HX5.out
 have y5 := HKC.out _ HS5.out.bl
 have e6 : L ++ N0 ++ [(insO 14 0, nilK)] ++ N1 = (L ++ N0) ++ (insO 14 0, nilK) :: N1 := by simp
 have HS7 : Hid (WrSt w0 w5 S sA sl.length sc gW e0 ((L ++ N0) ++ (insO 14 0, nilK) :: N1)) := Lib.hid (by rw [← e6]; exact HS5.out)
 clear e6 y5
 have HC6 := Lib.hid (endAt_s w0 S sA sl.length sc gW e0 (L ++ N0) N1 14 w5 gb ga HS7.out (by have := HB.out; have := HB0.out; have := HB1'.out; simp only [List.length_append]; omega) HE.out HF5.out)
 go_wp2_with (first
  | (go_at_fn 147; (with_reducible refine HC6.out.mono ?_); rintro e w7 ⟨rfl, hs7, hk7⟩; have HS8 := Lib.hid hs7; have HK8 := Lib.hid (HK5.out.trans hk7); clear hs7 hk7))
 try go_end0
 refine HP.out _ ⟨N0 ++ (insO 14 _, nilK) :: N1, ?_, by rw [← List.append_assoc]; exact HS8.out, HK8.out⟩
 rw [← HR.out]
 have q0 := HN0.out
 have q1 := HN1.out
 have q2 := HL0'.out
 have q3 := HL1'.out
 simp only [List.length_append, List.length_cons, List.length_nil] at q1 q3
 have e1 : e0 + ((L.length + N0.length + (0 + 1) : Nat) : Int) = e0 + (L.length : Int) + ((segF S.p sl f m (e0 + (L.length : Int))).length : Int) + 1 := by rw [← q2]; omega
 rw [e1] at q1 q3
 have e2 : e0 + (((L ++ N0).length + N1.length + 1 : Nat) : Int) = e0 + (L.length : Int) + ((segF S.p sl f m (e0 + (L.length : Int))).length : Int) + 1 + ((segF S.p sl f k (e0 + (L.length : Int) + ((segF S.p sl f m (e0 + (L.length : Int))).length : Int) + 1)).length : Int) := by
  rw [← q3, ← q2, List.length_append]
  omega
 simp only [ctlF, List.map_append, List.map_cons, List.map_nil, List.getD_cons_zero, List.getD_cons_succ, Int.toNat_natCast, List.length_cons, List.length_nil]
 rw [if_neg (by decide), if_neg (by decide), q0, q1, e2]
 simp only [List.append_assoc, List.cons_append, List.nil_append, List.singleton_append]
set_option maxHeartbeats 16000000 in
theorem ctl3_s (w0 : World) (S : ProgS) (sA : Option Addr) (sc gW : Nat) (e0 : Int) (sl : List Int) (f : Nat) (hw : NodeH w0 S sA sc gW e0 sl f) (n : NodeD) (kA iA : Option Addr) (kc ic s i : Nat) (L : List (InsD × Value)) (w : World) (a b c : Int)
  (hk : n.kind = 15) (hks : n.kids = [a, b, c]) (hc : Cover S.p.nodes f n.kids s i) (hil : i ≤ S.p.nodes.length) (hi : IntsV w0 (.slice iA n.kids.length ic) n.kids) (h : WrSt w0 w S sA sl.length sc gW e0 L) (hL : L.length + 6 * (i + 1 - s) ≤ 90000) (he : 0 ≤ e0 ∧ e0 ≤ 4000) :
  Calls Tryz.prog 63 #[.pointer (some ⟨gW, 0, none⟩), .agg (nodeC n kA kc iA ic)] w fun r w' => r = .returned (.tuple #[]) ∧ Wrote w0 S sA sl.length sc gW e0 L (ctlF (segF S.p sl f) n.kind n.kids (e0 + L.length)) w w' := by
 obtain ⟨R, hR⟩ : ∃ R, ctlF (segF S.p sl f) n.kind n.kids (e0 + L.length) = R := ⟨_, rfl⟩
 rw [hR]
 obtain ⟨P, hP⟩ : ∃ P : Ending → World → Prop, (fun r w' => r = .returned (.tuple #[]) ∧ Wrote w0 S sA sl.length sc gW e0 L R w w') = P := ⟨_, rfl⟩
 rw [hP]
 have HP : Hid (∀ w', Wrote w0 S sA sl.length sc gW e0 L R w w' → P (.returned (.tuple #[])) w') := Lib.hid (fun w' h1 => by rw [← hP]; exact ⟨rfl, h1⟩)
 unfold nodeC
 rw [hks] at hc hi hR ⊢
 rw [hk] at hR ⊢
 obtain ⟨m, k, j, rfl, rfl, rfl, hik, hmk, hkj, f0, f1, f2⟩ := hc.three'
 obtain ⟨bI, offI, rfl, hbI, ck0, ck1, ck2⟩ := hi.cells3
 have HKC : Hid (∀ wx, Below w0.heap.size w0 wx → wx.cell? ⟨bI, offI, none⟩ = some (.int .i64 m) ∧ wx.cell? ⟨bI, offI + 1, none⟩ = some (.int .i64 k) ∧ wx.cell? ⟨bI, offI + 2, none⟩ = some (.int .i64 j)) := Lib.hid (fun wx hb => ⟨(hb.cell hbI).trans ck0, (hb.cell hbI).trans ck1, (hb.cell hbI).trans ck2⟩)
 have hl2 := fun b => seg_bd S.p sl f j (k + 1) b f2
 have HF2 := Lib.hid f2
 have HL2 := Lib.hid hl2
 have g0 := first_le f0
 have hl0 := fun b => seg_bd S.p sl f m s b f0
 have hl1 := fun b => seg_bd S.p sl f k (m + 1) b f1
 have HF0 := Lib.hid f0
 have HF1 := Lib.hid f1
 have HL0 := Lib.hid hl0
 have HL1 := Lib.hid hl1
 have HR := Lib.hid hR
 have HW := Lib.hid hw
 have HE := Lib.hid he
 have HB : Hid ((s ≤ m ∧ m + 1 ≤ k ∧ k + 1 ≤ j) ∧ j + 1 ≤ S.p.nodes.length ∧ L.length + 6 * (j + 2 - s) ≤ 90000) := Lib.hid (by omega)
 have HH := Lib.hid h
 have hentN : ∀ args w, (callFunc 147 args).run Tryz.prog w = .ok (.enter 147 args) w := enters_of Tryz.func147 (by kernel_rfl) rfl
 generalize n.text = nt
 generalize n.int = ni
 generalize n.keys.length = q
 show Calls _ _ #[_, .agg #[.int .i64 15, .string nt, .int .i64 ni, .slice kA q kc, .slice (some ⟨bI, offI, none⟩) 3 ic]] w P
 obtain ⟨g, hg⟩ : ∃ g, w.heap.size = g := ⟨_, rfl⟩
 obtain ⟨W1, hW1⟩ : ∃ W, w.alloc (.cells #[.int .i64 15, .string nt, .int .i64 ni, .slice kA q kc, .slice (some ⟨bI, offI, none⟩) 3 ic] 58) = W := ⟨_, rfl⟩
 have hlt : gW < w.heap.size := by obtain ⟨iv, q, _⟩ := h.wr; exact q.lt
 have HNE : Hid (g ≠ gW) := Lib.hid (by omega)
 have HX1 : Hid (Blk W1 g 58 #[.int .i64 15, .string nt, .int .i64 ni, .slice kA q kc, .slice (some ⟨bI, offI, none⟩) 3 ic]) := Lib.hid (by rw [← hW1, ← hg]; exact Blk.new _ _ _)
 have HB1 : Hid (Below w.heap.size w W1) := Lib.hid (by rw [← hW1]; exact below_new _ _)
 have HS1 := Lib.hid (h.below HB1.out)
 have HK1 := Lib.hid (h.kw HB1.out)
 have HC1 := Lib.hid (here_s w0 S sA sl.length sc gW e0 L W1 HS1.out he (by omega))
 have HG := Lib.hid hg
 have HW1 := Lib.hid hW1
 clear hR hP hw he h hg hW1 hlt hc hi hk hks hil hL hik hbI ck0 ck1 f0 f1 g0 hl0 hl1 ck2 f2 hl2 hkj hmk
 go_enter Tryz.func63, Tryz.ntmps63
 go_upto_region 1 with fail
 rw [HG.out, HW1.out]
 clear HG HW1
 go_upto_region 2 with (first
  | (go_at_call 27; (with_reducible refine HC1.out.mono ?_); rintro e w2 ⟨rfl, hq⟩; have HQ := Lib.hid hq; clear hq))
 have HB2 : Hid (Below W1.heap.size W1 w2) := Lib.hid (by obtain ⟨q, rfl⟩ := HQ.out; exact below_drewN (Below.refl _ _) _)
 have HS2 := Lib.hid (HS1.out.below HB2.out)
 have HK2 := Lib.hid (HK1.out.trans (HS1.out.kw HB2.out))
 have HX2 := Lib.hid (HX1.out.below HB2.out)
 have x2 := blk5n HX2.out
 have y2 := HKC.out _ HS2.out.bl
 have HC2 := Lib.hid (HW.out m s L w2 HF0.out (by have := HB.out; omega) HS2.out (by have := HB.out; omega))
 go_upto_region 3 with (first
  | (go_at_call 41; (with_reducible refine HC2.out.mono ?_); rintro e w3 ⟨rfl, hw3⟩; have HW3 := Lib.hid hw3; clear hw3))
 obtain ⟨N0, n0, l0, s3, k3⟩ := HW3.out.st
 have HN0 := Lib.hid n0
 have b0 := HL0.out (e0 + L.length)
 rw [← l0] at b0
 have HS3 := Lib.hid s3
 have HK3 := Lib.hid (HK2.out.trans k3)
 have HX3 := Lib.hid (k3.blk HX2.out HNE.out (by decide))
 have HL0' := Lib.hid l0
 have HB0 := Lib.hid b0
 clear n0 l0 s3 k3 b0 x2 y2
 have HC3 := Lib.hid (forward_s w0 S sA sl.length sc gW e0 (L ++ N0) w3 14 HS3.out (by have := HB.out; have := HB0.out; rw [List.length_append]; omega))
 go_upto_region 4 with (first
  | (go_at_call 100; (with_reducible refine HC3.out.mono ?_); rintro e w4 ⟨gb, ga, rfl, hf4, hs4, hk4⟩; have HF4 := Lib.hid hf4; have HS4 := Lib.hid hs4; have HK4 := Lib.hid (HK3.out.trans hk4); have HX4 := Lib.hid (hk4.blk HX3.out HNE.out (by decide)); clear hf4 hs4 hk4))
 have x4 := blk5n HX4.out
 have y4 := HKC.out _ HS4.out.bl
 have HC4 := Lib.hid (HW.out k (m + 1) (L ++ N0 ++ [(insO 14 0, nilK)]) w4 HF1.out (by have := HB.out; omega) HS4.out (by have := HB.out; have := HB0.out; simp only [List.length_append, List.length_cons, List.length_nil]; omega))
 go_upto_region 6 with (first
  | (go_at_call 41; (with_reducible refine HC4.out.mono ?_); rintro e w5 ⟨rfl, hw5⟩; have HW5 := Lib.hid hw5; clear hw5))
 obtain ⟨N1, n1, l1, s5, k5⟩ := HW5.out.st
 have HN1 := Lib.hid n1
 have b1 := HL1.out (e0 + (L ++ N0 ++ [(insO 14 0, nilK)]).length)
 rw [← l1] at b1
 have HS5 := Lib.hid s5
 have HK5 := Lib.hid (HK4.out.trans k5)
 have HX5 := Lib.hid (k5.blk HX4.out HNE.out (by decide))
 have HF5 := Lib.hid (HF4.out.kw k5)
 have HL1' := Lib.hid l1
 have HB1' := Lib.hid b1
 clear n1 l1 s5 k5 b1 x4 y4
 have x5 := blk5n HX5.out
 have y5 := HKC.out _ HS5.out.bl
 have e5 : L ++ N0 ++ [(insO 14 0, nilK)] ++ N1 = L ++ (N0 ++ (insO 14 0, nilK) :: N1) := by simp
 have HS6 : Hid (WrSt w0 w5 S sA sl.length sc gW e0 (L ++ (N0 ++ (insO 14 0, nilK) :: N1))) := Lib.hid (by rw [← e5]; exact HS5.out)
 clear e5 y5
 have HC6 := Lib.hid (forward_s w0 S sA sl.length sc gW e0 (L ++ (N0 ++ (insO 14 0, nilK) :: N1)) w5 13 HS6.out (by have := HB.out; have := HB0.out; have := HB1'.out; simp only [List.length_append, List.length_cons]; omega))
 go_upto_region 11 with (first
  | (go_at_call 100; (with_reducible refine HC6.out.mono ?_); rintro e w6 ⟨gc, gd, rfl, hf6, hs6, hk6⟩; have HT6 := Lib.hid hf6; have HS7 := Lib.hid hs6; have HF6 := Lib.hid (HF5.out.kw hk6); have HK6 := Lib.hid (HK5.out.trans hk6); have HX6 := Lib.hid (hk6.blk HX5.out HNE.out (by decide)); clear hf6 hs6 hk6))
 have e6 : L ++ (N0 ++ (insO 14 0, nilK) :: N1) ++ [(insO 13 0, nilK)] = (L ++ N0) ++ (insO 14 0, nilK) :: (N1 ++ [(insO 13 0, nilK)]) := by simp
 have HS8 : Hid (WrSt w0 w6 S sA sl.length sc gW e0 ((L ++ N0) ++ (insO 14 0, nilK) :: (N1 ++ [(insO 13 0, nilK)]))) := Lib.hid (by rw [← e6]; exact HS7.out)
 clear e6 x5
 have HC7 := Lib.hid (endAt_s w0 S sA sl.length sc gW e0 (L ++ N0) (N1 ++ [(insO 13 0, nilK)]) 14 w6 gb ga HS8.out (by have := HB.out; have := HB0.out; have := HB1'.out; simp only [List.length_append, List.length_cons, List.length_nil]; omega) HE.out HF6.out)
 go_upto_region 12 with (first
  | (go_at_fn 147; (with_reducible refine HC7.out.mono ?_); rintro e w7 ⟨rfl, hs7, hk7⟩; have HS9 := Lib.hid hs7; have HT7 := Lib.hid (HT6.out.kw hk7); have HK7 := Lib.hid (HK6.out.trans hk7); have HX7 := Lib.hid (hk7.blk HX6.out HNE.out (by decide)); clear hs7 hk7))
 obtain ⟨v1, hv1⟩ : ∃ v, e0 + (((L ++ N0).length + (N1 ++ [(insO 13 0, nilK)]).length + 1 : Nat) : Int) = v := ⟨_, rfl⟩
 rw [hv1] at HS9
 have HV1 := Lib.hid hv1
 clear hv1
 have e7 : (L ++ N0) ++ (insO 14 v1, nilK) :: (N1 ++ [(insO 13 0, nilK)]) = (L ++ (N0 ++ (insO 14 v1, nilK) :: N1)) ++ [(insO 13 0, nilK)] := by simp
 have HS10 : Hid (WrSt w0 w7 S sA sl.length sc gW e0 ((L ++ (N0 ++ (insO 14 v1, nilK) :: N1)) ++ [(insO 13 0, nilK)])) := Lib.hid (by rw [← e7]; exact HS9.out)
 clear e7
 have x7 := blk5n HX7.out
 have y7 := HKC.out _ HS10.out.bl
 have HC8 := Lib.hid (HW.out j (k + 1) ((L ++ (N0 ++ (insO 14 v1, nilK) :: N1)) ++ [(insO 13 0, nilK)]) w7 HF2.out (by have := HB.out; omega) HS10.out (by have := HB.out; have := HB0.out; have := HB1'.out; simp only [List.length_append, List.length_cons, List.length_nil]; omega))
 go_upto_region 13 with (first
  | (go_at_call 41; (with_reducible refine HC8.out.mono ?_); rintro e w8 ⟨rfl, hw8⟩; have HW8 := Lib.hid hw8; clear hw8))
 obtain ⟨N2, n2, l2, s8, k8⟩ := HW8.out.st
 have HN2 := Lib.hid n2
 have b2 := HL2.out (e0 + ((L ++ (N0 ++ (insO 14 v1, nilK) :: N1)) ++ [(insO 13 0, nilK)]).length)
 rw [← l2] at b2
 have e8 : L ++ (N0 ++ (insO 14 v1, nilK) :: N1) ++ [(insO 13 0, nilK)] ++ N2 = (L ++ (N0 ++ (insO 14 v1, nilK) :: N1)) ++ (insO 13 0, nilK) :: N2 := by simp
 have HS11 : Hid (WrSt w0 w8 S sA sl.length sc gW e0 ((L ++ (N0 ++ (insO 14 v1, nilK) :: N1)) ++ (insO 13 0, nilK) :: N2)) := Lib.hid (by rw [← e8]; exact s8)
 have HK9 := Lib.hid (HK7.out.trans k8)
 have HT9 : Hid (FwdAt w8 gW gc gd (L ++ (N0 ++ (insO 14 v1, nilK) :: N1)).length) := Lib.hid (by
  have := HT7.out.kw k8
  have e : (L ++ (N0 ++ (insO 14 v1, nilK) :: N1)).length = (L ++ (N0 ++ (insO 14 0, nilK) :: N1)).length := by simp
  rw [e]
  exact this)
 have HL2' := Lib.hid l2
 have HB2' := Lib.hid b2
 clear n2 l2 s8 k8 b2 e8 x7 y7
 have HC9 := Lib.hid (endAt_s w0 S sA sl.length sc gW e0 (L ++ (N0 ++ (insO 14 v1, nilK) :: N1)) N2 13 w8 gc gd HS11.out (by have := HB.out; have := HB0.out; have := HB1'.out; have := HB2'.out; simp only [List.length_append, List.length_cons, List.length_nil]; omega) HE.out HT9.out)
 go_wp2_with (first
  | (go_at_fn 147; (with_reducible refine HC9.out.mono ?_); rintro e w9 ⟨rfl, hs9, hk9⟩; have HS12 := Lib.hid hs9; have HK10 := Lib.hid (HK9.out.trans hk9); clear hs9 hk9))
 try go_end0
 refine HP.out _ ⟨(N0 ++ (insO 14 v1, nilK) :: N1) ++ (insO 13 _, nilK) :: N2, ?_, by rw [← List.append_assoc]; exact HS12.out, HK10.out⟩
 rw [← HR.out]
 have q0 := HN0.out
 have q1 := HN1.out
 have q2 := HL0'.out
 have q3 := HL1'.out
 have q4 := HN2.out
 have q5 := HL2'.out
 have q6 := HV1.out
 simp only [List.length_append, List.length_cons, List.length_nil] at q1 q3 q4 q5 q6
 have e1 : e0 + ((L.length + N0.length + (0 + 1) : Nat) : Int) = e0 + (L.length : Int) + ((segF S.p sl f m (e0 + (L.length : Int))).length : Int) + 1 := by rw [← q2]; omega
 rw [e1] at q1 q3
 have e2 : v1 = e0 + (L.length : Int) + ((segF S.p sl f m (e0 + (L.length : Int))).length : Int) + 1 + ((segF S.p sl f k (e0 + (L.length : Int) + ((segF S.p sl f m (e0 + (L.length : Int))).length : Int) + 1)).length : Int) + 1 := by
  rw [← q3, ← q2]
  omega
 have e3 : e0 + ((L.length + (N0.length + (N1.length + 1)) + (0 + 1) : Nat) : Int) = e0 + (L.length : Int) + ((segF S.p sl f m (e0 + (L.length : Int))).length : Int) + 1 + ((segF S.p sl f k (e0 + (L.length : Int) + ((segF S.p sl f m (e0 + (L.length : Int))).length : Int) + 1)).length : Int) + 1 := by
  rw [← q3, ← q2]
  omega
 rw [e3] at q4 q5
 have e4 : e0 + (((L ++ (N0 ++ (insO 14 v1, nilK) :: N1)).length + N2.length + 1 : Nat) : Int) = e0 + (L.length : Int) + ((segF S.p sl f m (e0 + (L.length : Int))).length : Int) + 1 + ((segF S.p sl f k (e0 + (L.length : Int) + ((segF S.p sl f m (e0 + (L.length : Int))).length : Int) + 1)).length : Int) + 1 + ((segF S.p sl f j (e0 + (L.length : Int) + ((segF S.p sl f m (e0 + (L.length : Int))).length : Int) + 1 + ((segF S.p sl f k (e0 + (L.length : Int) + ((segF S.p sl f m (e0 + (L.length : Int))).length : Int) + 1)).length : Int) + 1)).length : Int) := by
  rw [← q5, ← q3, ← q2]
  simp only [List.length_append, List.length_cons]
  omega
 simp only [ctlF, List.map_append, List.map_cons, List.map_nil, List.getD_cons_zero, List.getD_cons_succ, Int.toNat_natCast, List.length_cons, List.length_nil]
 rw [if_neg (by decide), if_pos (by decide), q0, q1, q4, e4, ← e2]
 simp only [List.append_assoc, List.cons_append, List.nil_append, List.singleton_append]
end Go.Proofs.YthiimbhjpdphpaaGreatDoor
