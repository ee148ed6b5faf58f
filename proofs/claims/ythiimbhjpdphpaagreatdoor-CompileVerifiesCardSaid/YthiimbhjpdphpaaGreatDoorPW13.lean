/- W10, W11, W12, W13 -/
import Derived.Test.YthiimbhjpdphpaaGreatDoorPW9
set_option linter.unusedVariables false
set_option linter.unusedSimpArgs false
set_option linter.unusedVariables false
set_option linter.unusedSimpArgs false
namespace Go.Proofs.YthiimbhjpdphpaaGreatDoor
open Go.RowKit
set_option maxRecDepth 100000
theorem or_eq (n : NodeD) : isOr n = (n.text.toList == [111, 114]) := by
 unfold isOr
 rw [Bool.eq_iff_iff]
 simp
theorem and_eq (n : NodeD) : isAnd n = (n.text.toList == [97, 110, 100]) := by
 unfold isAnd
 rw [Bool.eq_iff_iff]
 simp
theorem control_s (w0 : World) (S : ProgS) (sA : Option Addr) (sc gW : Nat) (e0 : Int) (sl : List Int) (f : Nat) (hw : NodeH w0 S sA sc gW e0 sl f) (n : NodeD) (kA iA : Option Addr) (kc ic s i : Nat) (L : List (InsD × Value)) (w : World)
  (hk : n.kind = 15 ∨ n.kind = 16) (hct : countB n = true) (hc : Cover S.p.nodes f n.kids s i) (hil : i ≤ S.p.nodes.length) (hi : IntsV w0 (.slice iA n.kids.length ic) n.kids) (h : WrSt w0 w S sA sl.length sc gW e0 L) (hL : L.length + 6 * (i + 1 - s) ≤ 90000) (he : 0 ≤ e0 ∧ e0 ≤ 4000) :
  Calls Tryz.prog 63 #[.pointer (some ⟨gW, 0, none⟩), .agg (nodeC n kA kc iA ic)] w fun r w' => r = .returned (.tuple #[]) ∧ Wrote w0 S sA sl.length sc gW e0 L (ctlF (segF S.p sl f) n.kind n.kids (e0 + L.length)) w w' := by
 rcases hk with hk | hk
 ·rcases cnt_if hct hk with h2 | h3
  ·obtain ⟨a, b, hab⟩ := list_two h2
   exact ctl2_s w0 S sA sc gW e0 sl f hw n kA iA kc ic s i L w a b hk hab hc hil hi h hL he
  ·obtain ⟨a, b, c, habc⟩ := list_three h3
   exact ctl3_s w0 S sA sc gW e0 sl f hw n kA iA kc ic s i L w a b c hk habc hc hil hi h hL he
 ·obtain ⟨a, b, hab⟩ := list_two (cnt_two hct (.inr (.inr hk)))
  exact ctl16_s w0 S sA sc gW e0 sl f hw n kA iA kc ic s i L w a b hk hab hc hil hi h hL he
theorem short_s (w0 : World) (S : ProgS) (sA : Option Addr) (sc gW : Nat) (e0 : Int) (sl : List Int) (f : Nat) (hw : NodeH w0 S sA sc gW e0 sl f) (n : NodeD) (kA iA : Option Addr) (kc ic s i : Nat) (L : List (InsD × Value)) (w : World)
  (hk : n.kind = 9) (hct : countB n = true) (hc : Cover S.p.nodes f n.kids s i) (hil : i ≤ S.p.nodes.length) (hi : IntsV w0 (.slice iA n.kids.length ic) n.kids) (h : WrSt w0 w S sA sl.length sc gW e0 L) (hL : L.length + 6 * (i + 1 - s) ≤ 90000) (he : 0 ≤ e0 ∧ e0 ≤ 4000) :
  Calls Tryz.prog 64 #[.pointer (some ⟨gW, 0, none⟩), .agg (nodeC n kA kc iA ic)] w fun r w' => r = .returned (.tuple #[]) ∧ Wrote w0 S sA sl.length sc gW e0 L (shoF (segF S.p sl f) (isOr n) n.kids (e0 + L.length)) w w' := by
 obtain ⟨a, b, hab⟩ := list_two (cnt_two hct (.inl hk))
 cases ho : isOr n with
 | false => exact sho0_s w0 S sA sc gW e0 sl f hw n kA iA kc ic s i L w a b ho hab hc hil hi h hL he
 | true => exact sho1_s w0 S sA sc gW e0 sl f hw n kA iA kc ic s i L w a b ho hab hc hil hi h hL he
/-- What last hands back, its two ways written out. -/
def LastE (n0 : Nat) (w : World) (o : Option InsD) (e : Ending) (w' : World) : Prop :=
 (∃ x A c, Hid (o = some x) ∧ e = .returned (.tuple #[.agg #[.int .i64 x.op, .int .i64 x.a, .string x.s, .slice A x.keys.length c], .bool true]) ∧ Hid (OKeys n0 w' (x, .slice A x.keys.length c)) ∧ Hid (Below w.heap.size w w')) ∨
 (Hid (o = none) ∧ e = .returned (.tuple #[.agg #[.int .i64 0, .int .i64 0, .string ⟨#[]⟩, .slice none 0 0], .bool false]) ∧ Hid (Below w.heap.size w w'))
theorem lastA_s (w0 : World) (S : ProgS) (sA : Option Addr) (sc gW : Nat) (e0 : Int) (L : List (InsD × Value)) (w : World) (n : NodeD) (i : Nat) (sl : List Int) (kA iA : Option Addr) (kc ic : Nat) (h : WrSt w0 w S sA sl.length sc gW e0 L) (hS : ProgV w0 S) (hfl : S.p.funcs.length ≤ 1000) (hsl : SlAt w0 sA 1 intS sl) (hi : i < sl.length) (hK : KeysV w0 (.slice kA n.keys.length kc) n.keys) (hkl : n.keys.length ≤ 10000) :
  Calls Tryz.prog 66 #[.pointer (some ⟨gW, 0, none⟩), .agg (nodeC n kA kc iA ic), .int .i64 i] w (LastE w0.heap.size w (lastF S.p sl n i)) := by
 have H : Calls Tryz.prog 66 #[.pointer (some ⟨gW, 0, none⟩), .agg (nodeC n kA kc iA ic), .int .i64 i] w fun e w' => ∃ R b, e = .returned (.tuple #[.agg R, .bool b]) ∧ LastQ w0.heap.size w' (lastF S.p sl n i) R b ∧ Below w.heap.size w w' := by
  by_cases hk7 : n.kind = 7
  ·exact last7_s w0 S sA sc gW e0 L w n i sl kA iA kc ic h hS hfl hsl hi hk7 hK hkl
  ·exact last_s w0 S sA sc gW e0 L w n i sl kA iA kc ic h hS hfl hsl hi hk7
 refine H.mono ?_
 rintro e w' ⟨R, b, rfl, hq, hb⟩
 rcases hq with ⟨x, kv, ho, rfl, rfl, hk⟩ | ⟨ho, rfl, rfl⟩
 ·obtain ⟨A, c, rfl⟩ : ∃ A c, kv = .slice A x.keys.length c := own_shape hk
  exact .inl ⟨x, A, c, Lib.hid ho, rfl, Lib.hid hk, Lib.hid hb⟩
 ·exact .inr ⟨Lib.hid ho, rfl, Lib.hid hb⟩
attribute [local go_sem] cell_alloc_is
set_option maxHeartbeats 16000000 in
theorem node_s (w0 : World) (S : ProgS) (sA : Option Addr) (sc gW : Nat) (e0 : Int) (sl : List Int) (hS : ProgV w0 S) (hok : ProgOk S.p) (hfl : S.p.funcs.length ≤ 1000) (hsl : SlAt w0 sA 1 intS sl) (hsn : sl.length = S.p.nodes.length) (he : 0 ≤ e0 ∧ e0 ≤ 4000) (f : Nat) (hw : NodeH w0 S sA sc gW e0 sl f) : NodeH w0 S sA sc gW e0 sl (f + 1) := by
 intro i s L w hf hil h hL
 have T := first_tree hf
 have hsi := first_le hf
 obtain ⟨R, hR⟩ : ∃ R, segF S.p sl (f + 1) i (e0 + L.length) = R := ⟨_, rfl⟩
 rw [hR]
 obtain ⟨P, hP⟩ : ∃ P : Ending → World → Prop, (fun e w' => e = .returned (.tuple #[]) ∧ Wrote w0 S sA sl.length sc gW e0 L R w w') = P := ⟨_, rfl⟩
 rw [hP]
 have HP : Hid (∀ w', Wrote w0 S sA sl.length sc gW e0 L R w w' → P (.returned (.tuple #[])) w') := Lib.hid (fun w' h1 => by rw [← hP]; exact ⟨rfl, h1⟩)
 obtain ⟨bN, offN, kA, kc, iA, ic, hA, hbN, c0, c1, c2, c3, c4, hk, hi⟩ := node_at hS.nodes hil
 replace c0 := (h.bl.cell hbN).trans c0
 replace c1 := (h.bl.cell hbN).trans c1
 replace c2 := (h.bl.cell hbN).trans c2
 replace c3 := (h.bl.cell hbN).trans c3
 replace c4 := (h.bl.cell hbN).trans c4
 obtain ⟨n, hn⟩ : ∃ n, S.p.nodes[i] = n := ⟨_, rfl⟩
 have hgd : S.p.nodes.getD i noNode = n := by rw [getD_at hil, hn]
 have hat : S.p.at_ i = n := hgd
 have hcv := T.cover
 have hct := T.count
 rw [hgd] at hcv hct
 rw [hn] at c0 c1 c2 c3 c4 hk hi
 have hmem : n ∈ S.p.nodes := by rw [← hn]; exact List.getElem_mem hil
 have hm := (hok.nodes.kids n hmem).1
 have hlen := hok.nodes.len
 have HB : Hid (s ≤ i ∧ i < S.p.nodes.length ∧ L.length + 6 * (i + 1 - s) ≤ 90000 ∧ n.kids.length ≤ 10000) := Lib.hid (by omega)
 have HE := Lib.hid he
 have HH := Lib.hid h
 have HIL : Hid (i < sl.length) := Lib.hid (by omega)
 -- what a node writes
 have HR1 : Hid ((n.kind = 15 ∨ n.kind = 16) → R = ctlF (segF S.p sl f) n.kind n.kids (e0 + L.length)) := Lib.hid (fun hh => by rw [← hR, seg_ctl S.p sl f i _ (by rw [hat]; exact hh), hat])
 have HR2 : Hid (n.kind = 9 → (isAnd n || isOr n) = true → R = shoF (segF S.p sl f) (isOr n) n.kids (e0 + L.length)) := Lib.hid (fun h1 h2 => by rw [← hR, seg_sho S.p sl f i _ (by rw [hat]; exact h1) (by rw [hat]; exact h2), hat])
 have HR3 : Hid (n.kind = 9 → (isAnd n || isOr n) = false → R = seqF (segF S.p sl f) n.kids (e0 + L.length) ++ [insT 9 n.text]) := Lib.hid (fun h1 h2 => by rw [← hR, seg_bin S.p sl f i _ (by rw [hat]; exact h1) (by rw [hat]; exact h2), hat])
 have HR4 : Hid (¬ (n.kind = 15 ∨ n.kind = 16) → n.kind ≠ 9 → R = seqF (segF S.p sl f) n.kids (e0 + L.length) ++ optL (lastF S.p sl n i)) := Lib.hid (fun h1 h2 => by rw [← hR, seg_oth S.p sl f i _ (by rw [hat]; exact h1) (by rw [hat]; exact h2), hat])
 -- the calls
 have HCC : Hid ((n.kind = 15 ∨ n.kind = 16) → ∀ wx, WrSt w0 wx S sA sl.length sc gW e0 L → Calls Tryz.prog 63 #[.pointer (some ⟨gW, 0, none⟩), .agg (nodeC n kA kc iA ic)] wx fun r w' => r = .returned (.tuple #[]) ∧ Wrote w0 S sA sl.length sc gW e0 L (ctlF (segF S.p sl f) n.kind n.kids (e0 + L.length)) wx w') := Lib.hid (fun hh wx hx => control_s w0 S sA sc gW e0 sl f hw n kA iA kc ic s i L wx hh hct hcv (by omega) hi hx hL he)
 have HCS : Hid (n.kind = 9 → ∀ wx, WrSt w0 wx S sA sl.length sc gW e0 L → Calls Tryz.prog 64 #[.pointer (some ⟨gW, 0, none⟩), .agg (nodeC n kA kc iA ic)] wx fun r w' => r = .returned (.tuple #[]) ∧ Wrote w0 S sA sl.length sc gW e0 L (shoF (segF S.p sl f) (isOr n) n.kids (e0 + L.length)) wx w') := Lib.hid (fun hh wx hx => short_s w0 S sA sc gW e0 sl f hw n kA iA kc ic s i L wx hh hct hcv (by omega) hi hx hL he)
 have HCA : Hid (∀ wx, WrSt w0 wx S sA sl.length sc gW e0 L → Calls Tryz.prog 65 #[.slice iA n.kids.length ic, nodeFn gW] wx fun r w' => r = .returned (.tuple #[]) ∧ Wrote w0 S sA sl.length sc gW e0 L (seqF (segF S.p sl f) n.kids (e0 + L.length)) wx w') := Lib.hid (fun wx hx => all_s w0 S sA sc gW e0 sl f hw (by omega) n.kids iA ic s i L wx hcv (by omega) (by omega) hi hx (by omega))
 have HSQ : Hid ((seqF (segF S.p sl f) n.kids (e0 + L.length)).length ≤ 6 * (i - s)) := Lib.hid (seq_bd (fun i s b h => seg_bd S.p sl f i s b h) hcv _)
 have HCL : Hid (∀ L2 wx, WrSt w0 wx S sA sl.length sc gW e0 L2 → Calls Tryz.prog 66 #[.pointer (some ⟨gW, 0, none⟩), .agg (nodeC n kA kc iA ic), .int .i64 i] wx (LastE w0.heap.size wx (lastF S.p sl n i))) := Lib.hid (fun L2 wx hx => lastA_s w0 S sA sc gW e0 L2 wx n i sl kA iA kc ic hx hS hfl hsl HIL.out hk (by have := (hok.nodes.kids n hmem).2; omega))
 obtain ⟨m, hme⟩ : ∃ m, n.kids.length = m := ⟨_, rfl⟩
 have HM := Lib.hid hme
 obtain ⟨q, hqe⟩ : ∃ q, n.keys.length = q := ⟨_, rfl⟩
 obtain ⟨nk, hnk⟩ : ∃ x, n.kind = x := ⟨_, rfl⟩
 obtain ⟨nt, hnt⟩ : ∃ x, n.text = x := ⟨_, rfl⟩
 obtain ⟨ni, hni⟩ : ∃ x, n.int = x := ⟨_, rfl⟩
 have HAO : Hid (isAnd n = (nt.toList == [97, 110, 100]) ∧ isOr n = (nt.toList == [111, 114])) := Lib.hid (by rw [← hnt]; exact ⟨and_eq n, or_eq n⟩)
 unfold nodeC at HCC HCS HCL
 unfold nodeFn at HCA
 rw [hnk] at c0 HR1 HR2 HR3 HR4 HCC HCS HCL
 rw [hnt] at c1 HR3 HCC HCS HCL
 rw [hni] at c2 HCC HCS HCL
 rw [hqe] at c3 HCC HCS HCL
 rw [hme] at c4 HCC HCS HCL HCA
 obtain ⟨⟨iv, hb0, _⟩, _, _, _⟩ := h
 obtain ⟨s0, s1, s2, s3, s4⟩ := blkW hb0
 rw [hA] at s0
 obtain ⟨N, hN⟩ : ∃ N, S.p.nodes.length = N := ⟨_, rfl⟩
 have HN := Lib.hid hN
 rw [hN] at s0 hil hlen
 have hiN : (i : Int) < (N : Int) := by omega
 have hi0 : (0 : Int) ≤ (i : Int) := by omega
 obtain ⟨g, hg⟩ : ∃ g, w.heap.size = g := ⟨_, rfl⟩
 obtain ⟨W1, hW1⟩ : ∃ W, w.alloc (.cells #[.int .i64 nk, .string nt, .int .i64 ni, .slice kA q kc, .slice iA m ic] 58) = W := ⟨_, rfl⟩
 have HNE : Hid (g ≠ gW) := Lib.hid (by have := hb0.lt; omega)
 have HX1 : Hid (Blk W1 g 58 #[.int .i64 nk, .string nt, .int .i64 ni, .slice kA q kc, .slice iA m ic]) := Lib.hid (by rw [← hW1, ← hg]; exact Blk.new _ _ _)
 have HB1 : Hid (Below w.heap.size w W1) := Lib.hid (by rw [← hW1]; exact below_new _ _)
 have HS1 := Lib.hid (HH.out.below HB1.out)
 have HK1 := Lib.hid (HH.out.kw HB1.out)
 have HG := Lib.hid hg
 have HW1 := Lib.hid hW1
 clear hR hP hA hbN hk hi hn hgd hat hcv hct hmem hw hS hok hme hqe hnk hnt hni hN hg hW1 hf T hsi hsl hsn he hL hm hb0 hfl
 go_enter Tryz.func41, Tryz.ntmps41
 go_upto_region 1 with fail
 rw [HG.out, HW1.out]
 clear HG HW1 c0 c1 c2 c3 c4 s0 s1 s2 s3 s4
 have x1 := blk5n HX1.out
 by_cases h15 : nk = 15
 ·subst h15
  go_wp2_with (first
   | (go_at_call 63; (with_reducible refine (HCC.out (.inl rfl) W1 HS1.out).mono ?_); rintro e w2 ⟨rfl, hw2⟩; have HW2 := Lib.hid hw2; clear hw2))
  go_end0
  obtain ⟨N0, n0, s0, k0⟩ := HW2.out
  exact HP.out _ ⟨N0, by rw [n0, HR1.out (by simp)], s0, HK1.out.trans k0⟩
 by_cases h16 : nk = 16
 ·subst h16
  go_wp2_with (first
   | (go_at_call 63; (with_reducible refine (HCC.out (.inr rfl) W1 HS1.out).mono ?_); rintro e w2 ⟨rfl, hw2⟩; have HW2 := Lib.hid hw2; clear hw2))
  go_end0
  obtain ⟨N0, n0, s0, k0⟩ := HW2.out
  exact HP.out _ ⟨N0, by rw [n0, HR1.out (by simp)], s0, HK1.out.trans k0⟩
 by_cases h9 : nk = 9
 ·subst h9
  obtain ⟨ba, hba⟩ : ∃ b, (nt.toList == [97, 110, 100]) = b := ⟨_, rfl⟩
  obtain ⟨bo, hbo⟩ : ∃ b, (nt.toList == [111, 114]) = b := ⟨_, rfl⟩
  rw [hba, hbo] at HAO
  cases ba with
  | true =>
   go_wp2_with (first
    | (go_at_call 64; (with_reducible refine (HCS.out rfl W1 HS1.out).mono ?_); rintro e w2 ⟨rfl, hw2⟩; have HW2 := Lib.hid hw2; clear hw2))
   go_end0
   obtain ⟨N0, n0, s0, k0⟩ := HW2.out
   exact HP.out _ ⟨N0, by rw [n0, HR2.out (by simp) (by simp [HAO.out.1])], s0, HK1.out.trans k0⟩
  | false =>
   cases bo with
   | true =>
    go_wp2_with (first
     | (go_at_call 64; (with_reducible refine (HCS.out rfl W1 HS1.out).mono ?_); rintro e w2 ⟨rfl, hw2⟩; have HW2 := Lib.hid hw2; clear hw2))
    go_end0
    obtain ⟨N0, n0, s0, k0⟩ := HW2.out
    exact HP.out _ ⟨N0, by rw [n0, HR2.out (by simp) (by simp [HAO.out.1, HAO.out.2])], s0, HK1.out.trans k0⟩
   | false =>
    go_upto_region 14 with (first
     | (go_at_call 65; (with_reducible refine (HCA.out W1 HS1.out).mono ?_); rintro e w2 ⟨rfl, hw2⟩; have HW2 := Lib.hid hw2; clear hw2))
    obtain ⟨N0, n0, l0, s2, k2⟩ := HW2.out.st
    have HN0 := Lib.hid n0
    have HS2 := Lib.hid s2
    have HK2 := Lib.hid k2
    have HL0 : Hid (L.length + N0.length ≤ 90000) := Lib.hid (by have := HB.out; have := HSQ.out; omega)
    have HX2 := Lib.hid (k2.blk HX1.out HNE.out (by decide))
    clear n0 l0 s2 k2 x1
    have x2 := blk5n HX2.out
    have HC3 := Lib.hid (addP_s w0 S sA sl.length sc gW e0 (L ++ N0) w2 9 0 nt HS2.out (by have := HL0.out; rw [List.length_append]; omega))
    go_wp2_with (first
     | (go_at_call 42; (with_reducible refine HC3.out.mono ?_); rintro e w3 ⟨rfl, hs3, hk3⟩; have HS3 := Lib.hid hs3; have HK3 := Lib.hid hk3; clear hs3 hk3))
    go_end0
    exact HP.out _ ⟨N0 ++ [(insT 9 nt, nilK)], by rw [List.map_append, HN0.out, HR3.out (by simp) (by simp [HAO.out.1, HAO.out.2])]; rfl, by rw [← List.append_assoc]; exact HS3.out, (HK1.out.trans HK2.out).trans HK3.out⟩
 have d15 : (nk == 15) = false := by simp [h15]
 have d16 : (nk == 16) = false := by simp [h16]
 have d9 : (nk == 9) = false := by simp [h9]
 have HNR : Hid (R = seqF (segF S.p sl f) n.kids (e0 + L.length) ++ optL (lastF S.p sl n i)) := Lib.hid (HR4.out (by omega) h9)
 clear h15 h16 h9
 go_upto_region 4 with (first
  | (go_at_call 65; (with_reducible refine (HCA.out W1 HS1.out).mono ?_); rintro e w2 ⟨rfl, hw2⟩; have HW2 := Lib.hid hw2; clear hw2))
 obtain ⟨N0, n0, l0, s2, k2⟩ := HW2.out.st
 have HN0 := Lib.hid n0
 have HS2 := Lib.hid s2
 have HK2 := Lib.hid k2
 have HL0 : Hid (L.length + N0.length ≤ 90000) := Lib.hid (by have := HB.out; have := HSQ.out; omega)
 have HX2 := Lib.hid (k2.blk HX1.out HNE.out (by decide))
 clear n0 l0 s2 k2 x1 d15 d16 d9
 have x2 := blk5n HX2.out
 have HC4 := Lib.hid (HCL.out (L ++ N0) w2 HS2.out)
 go_upto_region 5 with (first
  | (go_at_call 66; (with_reducible refine HC4.out.mono ?_); rintro e w6 (⟨x6, A6, c6, HO6, rfl, HK6, HB6⟩ | ⟨HO6, rfl, HB6⟩)))
 ·obtain ⟨g6, hg6⟩ : ∃ g, w6.heap.size = g := ⟨_, rfl⟩
  obtain ⟨W7, hW7⟩ : ∃ W, w6.alloc (.cells #[.int .i64 x6.op, .int .i64 x6.a, .string x6.s, .slice A6 x6.keys.length c6] 53) = W := ⟨_, rfl⟩
  have HB7 : Hid (Below w6.heap.size w6 W7) := Lib.hid (by rw [← hW7]; exact below_new _ _)
  have HX7 : Hid (Blk W7 g6 53 #[.int .i64 x6.op, .int .i64 x6.a, .string x6.s, .slice A6 x6.keys.length c6]) := Lib.hid (by rw [← hW7, ← hg6]; exact Blk.new _ _ _)
  have HS7 := Lib.hid ((HS2.out.below HB6.out).below HB7.out)
  have HK7 : Hid (OKeys w0.heap.size W7 (x6, .slice A6 x6.keys.length c6)) := Lib.hid (own_below HK6.out HB7.out)
  have HC7 := Lib.hid (add1_s w0 S sA sl.length sc gW e0 (L ++ N0) W7 x6.op x6.a x6.s x6.keys (.slice A6 x6.keys.length c6) HS7.out (by have := HL0.out; rw [List.length_append]; omega) HK7.out rfl)
  rw [hg6, hW7]
  have HG6 := Lib.hid hg6
  clear hg6 hW7 x2
  have x7 := blk4n HX7.out
  go_wp2_with (first
   | (go_at_call 42; (with_reducible refine HC7.out.mono ?_); rintro e w8 ⟨rfl, hs8, hk8⟩; have HS8 := Lib.hid hs8; have HK8 := Lib.hid hk8; clear hs8 hk8))
  go_end0
  refine HP.out _ ⟨N0 ++ [(x6, .slice A6 x6.keys.length c6)], by rw [List.map_append, HN0.out, HNR.out, HO6.out]; rfl, by rw [← List.append_assoc]; exact HS8.out, ?_⟩
  exact ((HK1.out.trans HK2.out).trans ((HS2.out.kw HB6.out).trans ((HS2.out.below HB6.out).kw HB7.out))).trans HK8.out
 ·go_wp2_with (fail)
  go_end0
  have hb7 := below_new w6 (.cells #[.int .i64 0, .int .i64 0, .string ⟨#[]⟩, .slice none 0 0] 53)
  refine HP.out _ ⟨N0, by rw [HN0.out, HNR.out, HO6.out]; exact (List.append_nil _).symm, (HS2.out.below HB6.out).below hb7, ?_⟩
  exact (HK1.out.trans HK2.out).trans ((HS2.out.kw HB6.out).trans ((HS2.out.below HB6.out).kw hb7))
end Go.Proofs.YthiimbhjpdphpaaGreatDoor
set_option linter.unusedVariables false
set_option linter.unusedSimpArgs false
namespace Go.Proofs.YthiimbhjpdphpaaGreatDoor
open Go.RowKit
set_option maxRecDepth 100000
/-- What the writer's walks lean on. -/
structure WrCtx (w0 : World) (S : ProgS) (sA : Option Addr) (sl : List Int) : Prop where
 prog : ProgV w0 S
 ok : ProgOk S.p
 syn : SynOk S.p
 slots : SlAt w0 sA 1 intS sl
 len : sl.length = S.p.nodes.length
theorem node_all (w0 : World) (S : ProgS) (sA : Option Addr) (sc gW : Nat) (e0 : Int) (sl : List Int) (hC : WrCtx w0 S sA sl) (he : 0 ≤ e0 ∧ e0 ≤ 4000) : ∀ f, NodeH w0 S sA sc gW e0 sl f := by
 intro f
 induction f with
 | zero => intro i s L w hf; cases hf
 | succ f ih => exact node_s w0 S sA sc gW e0 sl hC.prog hC.ok (by have := hC.ok.funcs; omega) hC.slots hC.len he f ih
attribute [local go_sem] cell_alloc_is
set_option maxHeartbeats 8000000 in
theorem wfunc_s (w0 : World) (S : ProgS) (sA : Option Addr) (sc gW : Nat) (e0 : Int) (sl : List Int) (hC : WrCtx w0 S sA sl) (he : 0 ≤ e0 ∧ e0 ≤ 4000) (k : Nat) (hk : k < S.p.funcs.length) (L : List (InsD × Value)) (w : World) (h : WrSt w0 w S sA sl.length sc gW e0 L) (hL : L.length ≤ 20000) :
  Calls Tryz.prog 28 #[.pointer (some ⟨gW, 0, none⟩), .int .i64 k] w fun e w' => e = .returned (.tuple #[]) ∧ Wrote w0 S sA sl.length sc gW e0 L (funcSeg S.p sl k (e0 + L.length)) w w' := by
 obtain ⟨R, hR⟩ : ∃ R, funcSeg S.p sl k (e0 + L.length) = R := ⟨_, rfl⟩
 rw [hR]
 obtain ⟨P, hP⟩ : ∃ P : Ending → World → Prop, (fun e w' => e = .returned (.tuple #[]) ∧ Wrote w0 S sA sl.length sc gW e0 L R w w') = P := ⟨_, rfl⟩
 rw [hP]
 have HP : Hid (∀ w', Wrote w0 S sA sl.length sc gW e0 L R w w' → P (.returned (.tuple #[])) w') := Lib.hid (fun w' h1 => by rw [← hP]; exact ⟨rfl, h1⟩)
 obtain ⟨b, hfo, _, _⟩ := hC.syn.func hk
 obtain ⟨bF, offF, kA, kc, hA, hbF, _, _, c2, _⟩ := func_at hC.prog.funcs hk
 replace c2 := (h.bl.cell hbF).trans c2
 have hbo := hfo.body
 rw [hbo] at c2
 have hgd : (S.p.funcs.getD k noFunc) = S.p.funcs[k] := getD_at hk _
 unfold funcSeg at hR
 rw [hgd, hbo, Int.toNat_natCast] at hR
 have hN := hC.syn.nodes
 have HC2 := Lib.hid (node_all w0 S sA sc gW e0 sl hC he 600 b _ L w hfo.first hfo.lt h (by have := first_le hfo.first; have := hfo.lt; omega))
 have HSG := Lib.hid (seg_bd S.p sl 600 b _ (e0 + L.length) hfo.first)
 have HSL : Hid ((segF S.p sl 600 b (e0 + L.length)).length ≤ 6000) := Lib.hid (by have := HSG.out; have := hfo.lt; omega)
 have HR := Lib.hid hR
 have HLL := Lib.hid hL
 obtain ⟨⟨iv, hb0, _⟩, _, _, _⟩ := h
 obtain ⟨s0, s1, s2, s3, s4⟩ := blkW hb0
 rw [hA] at s1
 obtain ⟨N, hNe⟩ : ∃ N, S.p.funcs.length = N := ⟨_, rfl⟩
 rw [hNe] at s1 hk
 have hkN : (k : Int) < (N : Int) := by omega
 have hk0 : (0 : Int) ≤ (k : Int) := by omega
 clear hR hP hA hbF hbo hgd hfo hC he hL hb0 hNe hN HSG
 go_enter Tryz.func28, Tryz.ntmps28
 go_upto_region 1 with (first
  | (go_at_call 41; (with_reducible refine HC2.out.mono ?_); rintro e w2 ⟨rfl, hw2⟩; have HW2 := Lib.hid hw2; clear hw2))
 obtain ⟨N0, n0, l0, s2', k2⟩ := HW2.out.st
 have HN0 := Lib.hid n0
 have HS2 := Lib.hid s2'
 have HK2 := Lib.hid k2
 have HC3 := Lib.hid (add2_s w0 S sA sl.length sc gW e0 (L ++ N0) w2 1 20 HS2.out (by have := HLL.out; have := HSL.out; rw [List.length_append]; omega))
 clear n0 l0 s2' k2 s0 s1 s2 s3 s4 c2
 go_wp2_with (first
  | (go_at_call 42; (refine HC3.out.mono ?_); rintro e w3 ⟨rfl, hs3, hk3⟩; have HS3 := Lib.hid hs3; have HK3 := Lib.hid hk3; clear hs3 hk3))
 go_end0
 exact HP.out _ ⟨N0 ++ [(insO 1 0, nilK), (insO 20 0, nilK)], by rw [List.map_append, HN0.out, ← HR.out]; rfl, by rw [← List.append_assoc]; exact HS3.out, HK2.out.trans HK3.out⟩
end Go.Proofs.YthiimbhjpdphpaaGreatDoor
set_option linter.unusedVariables false
set_option linter.unusedSimpArgs false
namespace Go.Proofs.YthiimbhjpdphpaaGreatDoor
open Go.RowKit
set_option maxRecDepth 100000
theorem slots_len {p : ProgD} (h : (studyF p).err = 0) : (studyF p).slots.length = p.nodes.length := by
 obtain ⟨h1, h2, _⟩ := study_ok h
 rw [h2]
 exact (h1.step _ (Nat.le_refl _)).1
/-- What start hands back. -/
def StartP (S : ProgS) (w : World) (e0 : Int) (r : Ending) (w' : World) : Prop :=
 ((studyF S.p).err ≠ 0 ∧ r = .returned (.tuple #[.pointer none, .int .i64 (studyF S.p).err]) ∧ Below w.heap.size w w') ∨
 ((studyF S.p).err = 0 ∧ ∃ w0 sA sc gW, Below w.heap.size w w0 ∧ WrCtx w0 S sA (studyF S.p).slots ∧ WrSt w0 w' S sA (studyF S.p).slots.length sc gW e0 [] ∧ r = .returned (.tuple #[.pointer (some ⟨gW, 0, none⟩), .int .i64 0]))
attribute [local go_sem] cell_alloc_is
set_option maxHeartbeats 4000000 in
theorem start_s (S : ProgS) (e0 : Int) (w : World) (hS : ProgV w S) (hp : Pow w) (hok : ProgOk S.p) : Calls Tryz.prog 26 #[S.val, .int .i64 e0] w (StartP S w e0) := by
 obtain ⟨P, hP⟩ : ∃ P : Ending → World → Prop, StartP S w e0 = P := ⟨_, rfl⟩
 rw [hP]
 have HP1 : Hid (∀ w', (studyF S.p).err ≠ 0 → Below w.heap.size w w' → P (.returned (.tuple #[.pointer none, .int .i64 (studyF S.p).err])) w') := Lib.hid (fun w' h h2 => by rw [← hP]; exact .inl ⟨h, rfl, h2⟩)
 have HP2 : Hid (∀ w0 w' sA sc gW, (studyF S.p).err = 0 → Below w.heap.size w w0 → WrCtx w0 S sA (studyF S.p).slots → WrSt w0 w' S sA (studyF S.p).slots.length sc gW e0 [] → P (.returned (.tuple #[.pointer (some ⟨gW, 0, none⟩), .int .i64 0])) w') := Lib.hid (fun w0 w' sA sc gW h h2 h3 h4 => by rw [← hP]; exact .inr ⟨h, w0, sA, sc, gW, h2, h3, h4, rfl⟩)
 have HS := Lib.hid hS
 have HOK := Lib.hid hok
 obtain ⟨W1, hW1⟩ : ∃ W, w.alloc (.cells #[.slice S.A S.p.nodes.length S.ncap, .slice S.B S.p.funcs.length S.fcap] 25) = W := ⟨_, rfl⟩
 obtain ⟨g, hg⟩ : ∃ g, w.heap.size = g := ⟨_, rfl⟩
 have hb1 : Below w.heap.size w W1 := by rw [← hW1]; exact below_new _ _
 have HB1 := Lib.hid hb1
 have HX1 : Hid (Blk W1 g 25 #[.slice S.A S.p.nodes.length S.ncap, .slice S.B S.p.funcs.length S.fcap]) := Lib.hid (by rw [← hW1, ← hg]; exact Blk.new _ _ _)
 have HC : Hid (Calls Tryz.prog 40 #[S.val] W1 (SlotsP S.p W1)) := Lib.hid (slots_s S W1 (hS.below hb1) (hp.below hb1) hok)
 unfold ProgS.val at HC ⊢
 have HG := Lib.hid hg
 have HW1 := Lib.hid hW1
 clear hP hS hp hok hg hW1 hb1
 go_enter Tryz.func26, Tryz.ntmps26
 go_upto_region 1 with fail
 rw [HG.out, HW1.out]
 clear HG HW1
 have x1 := blk2 HX1.out
 go_upto_region 2 with (first
  | (go_at_call 40; (with_reducible refine HC.out.mono ?_); rintro e w2 ⟨hq, hb2⟩; have HB12 := Lib.hid hb2; have HB2 := Lib.hid (below_call' hb2 HB1.out HB1.out.size); clear hb2; rcases hq with ⟨h0, rfl⟩ | ⟨h0, A, c, rfl, h1⟩))
 ·have H0 := Lib.hid h0
  obtain ⟨er, her⟩ : ∃ x, (studyF S.p).err = x := ⟨_, rfl⟩
  rw [her] at h0 HP1 ⊢
  have e0 : (er != 0) = true := by simp [h0]
  have HER := Lib.hid her
  clear h0 her
  go_wp2_with (fail)
  exact HP1.out _ (by rw [← HER.out]; exact H0.out) HB2.out
 ·have H0 := Lib.hid h0
  have H1 := Lib.hid h1
  have HX2 := Lib.hid (HX1.out.below HB12.out)
  obtain ⟨sn, hsn⟩ : ∃ n, (studyF S.p).slots.length = n := ⟨_, rfl⟩
  have HSN := Lib.hid hsn
  rw [hsn] at HP2 ⊢
  clear h0 h1 x1 hsn
  have x2 := blk2 HX2.out
  go_wp2_with (fail)
  refine HP2.out w2 _ A c _ H0.out HB2.out ⟨HS.out.below HB2.out, HOK.out, (study_ok H0.out).1, H1.out, slots_len H0.out⟩ ?_
  have hlt : w2.heap.size ≤ w2.heap.size := Nat.le_refl _
  refine ⟨⟨.slice none 0 0, Blk.new _ _ _, ⟨rfl, .inl ⟨rfl, rfl⟩⟩⟩, fun p hp => absurd hp (by simp), below_new _ _, Nat.le_refl _⟩
end Go.Proofs.YthiimbhjpdphpaaGreatDoor
set_option linter.unusedVariables false
set_option linter.unusedSimpArgs false
namespace Go.Proofs.YthiimbhjpdphpaaGreatDoor
open Go.RowKit
set_option maxRecDepth 100000
theorem own_baseW {w : World} {a b n size : Nat} {v : Value} {xs : List Value} {e : TypeId} (h : w.ownsRow b e size v n xs) (hab : a ≤ b) : w.ownsRow a e size v n xs := by
 obtain ⟨h1, h2⟩ := h
 refine ⟨h1, h2.imp id (fun ⟨g, cap, cur, ev, eg, r⟩ => ⟨g, cap, cur, ev, Nat.le_trans hab eg, r⟩)⟩
/-- A list of instructions that lies in memory of its own. -/
def InsO (n0 : Nat) (w : World) (v : Value) (is : List InsD) : Prop := ∃ N : List (InsD × Value), N.map Prod.fst = is ∧ w.ownsRow n0 53 4 v N.length (N.flatMap insRow) ∧ ∀ p ∈ N, OKeys n0 w p
theorem InsO.nil (n0 : Nat) (w : World) : InsO n0 w (.slice none 0 0) [] := ⟨[], rfl, ⟨rfl, .inl ⟨rfl, rfl⟩⟩, fun p hp => by cases hp⟩
theorem InsO.below {n0 : Nat} {w w' : World} {v : Value} {is : List InsD} (h : InsO n0 w v is) (hb : Below w.heap.size w w') : InsO n0 w' v is := by
 obtain ⟨N, h1, h2, h3⟩ := h
 exact ⟨N, h1, own_below h2 hb, fun p hp => own_below (h3 p hp) hb⟩
theorem WrSt.insO {w0 w : World} {S : ProgS} {sA : Option Addr} {sn sc gW a : Nat} {e0 : Int} {L : List (InsD × Value)} (h : WrSt w0 w S sA sn sc gW e0 L) (ha : a ≤ w0.heap.size) : ∃ iA ic, Blk w gW 67 #[.slice S.A S.p.nodes.length S.ncap, .slice S.B S.p.funcs.length S.fcap, .slice sA sn sc, .int .i64 e0, .slice iA L.length ic] ∧ InsO a w (.slice iA L.length ic) (L.map Prod.fst) := by
 obtain ⟨⟨iv, h1, h2⟩, h3, _, _⟩ := h
 obtain ⟨iA, ic, rfl⟩ := own_shape h2
 exact ⟨iA, ic, h1, L, rfl, own_baseW h2 ha, fun p hp => own_baseW (h3 p hp) ha⟩
def FunctionP (S : ProgS) (f e : Int) (w : World) (r : Ending) (w' : World) : Prop := ∃ v, r = .returned (.tuple #[v, .int .i64 (functionF S.p f e).2]) ∧ InsO w.heap.size w' v (functionF S.p f e).1 ∧ Below w.heap.size w w'
attribute [local go_sem] cell_alloc_is
set_option maxHeartbeats 8000000 in
theorem cfunction_s (S : ProgS) (f e : Int) (w : World) (hS : ProgV w S) (hp : Pow w) (hok : ProgOk S.p) : Calls Tryz.prog 19 #[S.val, .int .i64 f, .int .i64 e] w (FunctionP S f e w) := by
 obtain ⟨P, hP⟩ : ∃ P : Ending → World → Prop, FunctionP S f e w = P := ⟨_, rfl⟩
 rw [hP]
 have HP1 : Hid (∀ w' er, functionF S.p f e = ([], er) → Below w.heap.size w w' → P (.returned (.tuple #[.slice none 0 0, .int .i64 er])) w') := Lib.hid (fun w' er h h2 => by rw [← hP]; exact ⟨_, by rw [h], by rw [h]; exact InsO.nil _ _, h2⟩)
 have HP2 : Hid (∀ w' v is, functionF S.p f e = (is, 0) → InsO w.heap.size w' v is → Below w.heap.size w w' → P (.returned (.tuple #[v, .int .i64 0])) w') := Lib.hid (fun w' v is h h1 h2 => by rw [← hP]; exact ⟨v, by rw [h], by rw [h]; exact h1, h2⟩)
 obtain ⟨W1, hW1⟩ : ∃ W, w.alloc (.cells #[.slice S.A S.p.nodes.length S.ncap, .slice S.B S.p.funcs.length S.fcap] 25) = W := ⟨_, rfl⟩
 obtain ⟨g, hg⟩ : ∃ g, w.heap.size = g := ⟨_, rfl⟩
 have hb1 : Below w.heap.size w W1 := by rw [← hW1]; exact below_new _ _
 have HB1 := Lib.hid hb1
 have HX1 : Hid (Blk W1 g 25 #[.slice S.A S.p.nodes.length S.ncap, .slice S.B S.p.funcs.length S.fcap]) := Lib.hid (by rw [← hW1, ← hg]; exact Blk.new _ _ _)
 have HC : Hid (Calls Tryz.prog 26 #[S.val, .int .i64 e] W1 (StartP S W1 e)) := Lib.hid (start_s S e W1 (hS.below hb1) (hp.below hb1) hok)
 have HFN : Hid (functionF S.p f e = if (studyF S.p).err ≠ 0 then ([], (studyF S.p).err) else if f < 0 ∨ (S.p.funcs.length : Int) ≤ f ∨ e < 0 ∨ 4000 < e then ([], 2) else (funcSeg S.p (studyF S.p).slots f.toNat e, 0)) := Lib.hid rfl
 unfold ProgS.val at HC ⊢
 have HG := Lib.hid hg
 have HW1 := Lib.hid hW1
 clear hP hS hp hok hg hW1 hb1
 go_enter Tryz.func19, Tryz.ntmps19
 go_upto_region 1 with fail
 rw [HG.out, HW1.out]
 clear HG HW1
 have x1 := blk2 HX1.out
 go_upto_region 2 with (first
  | (go_at_call 26; (with_reducible refine HC.out.mono ?_); rintro r w2 hq; rcases hq with ⟨h0, rfl, hb2⟩ | ⟨h0, w0, sA, sc, gW, hb0, hcx, hst, rfl⟩))
 ·have HB2 := Lib.hid (below_call' hb2 HB1.out HB1.out.size)
  obtain ⟨er, her⟩ : ∃ x, (studyF S.p).err = x := ⟨_, rfl⟩
  rw [her] at h0 HFN ⊢
  have e0 : (er != 0) = true := by simp [h0]
  have H0 := Lib.hid h0
  clear h0 her hb2
  go_wp2_with (fail)
  exact HP1.out _ _ (by rw [HFN.out, if_pos H0.out]) HB2.out
 ·have HCX := Lib.hid hcx
  have HST := Lib.hid hst
  have HB0 := Lib.hid (below_call' hb0 HB1.out HB1.out.size)
  have HB2 : Hid (Below W1.heap.size W1 w2) := Lib.hid (below_call' hst.bl hb0 hb0.size)
  have HBW := Lib.hid (below_call' HB2.out HB1.out HB1.out.size)
  have HFN2 : Hid (functionF S.p f e = if f < 0 ∨ (S.p.funcs.length : Int) ≤ f ∨ e < 0 ∨ 4000 < e then ([], 2) else (funcSeg S.p (studyF S.p).slots f.toNat e, 0)) := Lib.hid (by rw [HFN.out, if_neg (by rw [h0]; simp)])
  have HX2 := Lib.hid (HX1.out.below HB2.out)
  generalize (studyF S.p).slots = sl at HCX HST HFN2
  clear h0 hb0 hcx hst x1 HFN HC
  have x2 := blk2 HX2.out
  obtain ⟨nf, hnf⟩ : ∃ n, S.p.funcs.length = n := ⟨_, rfl⟩
  have HNF := Lib.hid hnf
  rw [hnf] at x2 HFN2
  clear hnf
  by_cases e1 : f < 0
  ·go_wp2_with (fail)
   exact HP1.out _ _ (by rw [HFN2.out, if_pos (.inl e1)]) HBW.out
  by_cases e2 : (nf : Int) ≤ f
  ·go_wp2_with (fail)
   exact HP1.out _ _ (by rw [HFN2.out, if_pos (.inr (.inl e2))]) HBW.out
  by_cases e3 : e < 0
  ·go_wp2_with (fail)
   exact HP1.out _ _ (by rw [HFN2.out, if_pos (.inr (.inr (.inl e3)))]) HBW.out
  by_cases e4 : 4000 < e
  ·go_wp2_with (fail)
   exact HP1.out _ _ (by rw [HFN2.out, if_pos (.inr (.inr (.inr e4)))]) HBW.out
  obtain ⟨k, rfl⟩ : ∃ k : Nat, f = (k : Int) := ⟨f.toNat, by omega⟩
  have hkl : k < S.p.funcs.length := by rw [HNF.out]; omega
  have HC2 := Lib.hid (wfunc_s w0 S sA sc gW e sl HCX.out (by omega) k hkl [] w2 HST.out (by simp))
  have HFN3 : Hid (functionF S.p k e = (funcSeg S.p sl k e, 0)) := Lib.hid (by rw [HFN2.out, if_neg (by omega), Int.toNat_natCast])
  clear hkl HFN2
  go_upto_region 7 with (first
   | (go_at_call 28; (with_reducible refine HC2.out.mono ?_); rintro r w3 ⟨rfl, hw3⟩; have HW3 := Lib.hid hw3; clear hw3))
  obtain ⟨N0, n0, _, s3, k3⟩ := HW3.out.st
  obtain ⟨iA, ic, hbk, hio⟩ := s3.insO (a := w.heap.size) HB0.out.size
  have n0' : N0.map Prod.fst = funcSeg S.p sl k e := by rw [n0]; simp
  rw [List.nil_append] at hbk hio
  rw [n0'] at hio
  have HIO := Lib.hid hio
  have HB3 := Lib.hid (below_call' s3.bl HB0.out HB0.out.size)
  have y := blkW hbk
  clear n0 n0' s3 k3 hbk hio x2
  generalize N0.length = ln at y HIO
  go_wp2_with (fail)
  exact HP2.out _ _ _ HFN3.out HIO.out HB3.out
end Go.Proofs.YthiimbhjpdphpaaGreatDoor
