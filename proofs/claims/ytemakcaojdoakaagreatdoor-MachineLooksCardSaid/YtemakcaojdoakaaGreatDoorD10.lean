/- The machines wake: Start. -/
import Derived.Test.YtemakcaojdoakaaGreatDoorD9
namespace Go.Proofs.YtemakcaojdoakaaGreatDoor
open Go.RowKit
set_option maxRecDepth 100000

def c7 : CellD := ⟨3, 7, ⟨#[]⟩, 0⟩
/-- The machine that has been started. -/
def m0 (lm : Int) : MachD := ⟨1, 0, [], [⟨0, 0, [[c7]], []⟩], [], 10, lm, 0, 0⟩
def m1 (lm : Int) : MachD := ⟨1, 0, [], [⟨0, 0, [[c7]], []⟩], [], 10, lm, 0, 1⟩

theorem valOne {w : World} {gV : Nat} (h : Blk w gV 52 #[.int .i64 3, .int .i64 7, .string ⟨#[]⟩, .int .i64 0]) : ValV w (.slice (some ⟨gV, 0, none⟩) 1 1) [c7] := by
  refine ⟨_, 1, [c7.cells], rfl, by simp, by simp, ?_, rfl, fun i hi hi' => ?_⟩
  · intro i row hr
    have hi : i = 0 := by
      by_cases h0 : i = 0
      · exact h0
      · rw [List.getElem?_eq_none (by simp; omega)] at hr; cases hr
    subst hi
    simp at hr
    subst hr
    refine ⟨gV, 0, rfl, lt_of_block h, fun j v hv => ?_⟩
    have := h.cell j v (by rw [← hv, ← Array.getElem?_toList]; rfl)
    simpa using this
  · have : i = 0 := by simp at hi; omega
    subst this
    rfl
theorem OVal.one {w : World} {base : Nat} {v : Value} {c : CellD} (h : OVal w base v [c]) : ∃ A k, v = .slice A 1 k := by
  obtain ⟨A, k, e⟩ := own_shape (show w.ownsRow base 52 4 v 1 _ from h); exact ⟨A, k, e⟩
/-- A list of one value in a block of one cell. -/
theorem valsOne {w : World} {g : Nat} {t : TypeId} {v : Value} {l : ValD} (h : Blk w g t #[v]) (hv : ValV w v l) : ValsV w (.slice (some ⟨g, 0, none⟩) 1 1) [l] := by
  refine ⟨_, 1, [[v]], rfl, by simp, by simp, ?_, rfl, fun i hi hi' => ?_⟩
  · intro i row hr
    have hi : i = 0 := by
      by_cases h0 : i = 0
      · exact h0
      · rw [List.getElem?_eq_none (by simp; omega)] at hr; cases hr
    subst hi
    simp at hr
    subst hr
    refine ⟨g, 0, rfl, lt_of_block h, fun j u hv => ?_⟩
    have := h.cell j u (by rw [← hv, ← Array.getElem?_toList])
    simpa using this
  · have : i = 0 := by simp at hi; omega
    subst this
    exact ⟨v, rfl, hv⟩
/-- One frame in an own row. -/
theorem framesOne {w : World} {base g k : Nat} {a b : Int} {lv sv : Value} {L S : List ValD} (h : w.ownsRow base 37 4 (.slice (some ⟨g, 0, none⟩) 1 k) 1 [.int .i64 a, .int .i64 b, lv, sv]) (hl : ValsV w lv L) (hs : ValsV w sv S) : FramesV w (.slice (some ⟨g, 0, none⟩) 1 k) [⟨a, b, L, S⟩] := by
  have hk : 1 ≤ k := by
    rcases h.2 with ⟨_, h1⟩ | ⟨g', c', cur, e, _, _, h3, _⟩
    · cases h1
    · injection e with _ _ e; omega
  have hsl : SlAt w (some ⟨g, 0, none⟩) 4 (fun _ : Unit => [.int .i64 a, .int .i64 b, lv, sv]) [()] := SlAt.of_own h rfl (fun _ => rfl) (by omega)
  refine ⟨_, k, [[.int .i64 a, .int .i64 b, lv, sv]], rfl, hk, by simp, hsl, rfl, fun i hi hi' => ?_⟩
  have : i = 0 := by simp at hi; omega
  subst this
  exact ⟨lv, sv, rfl, hl, hs⟩
attribute [local go_sem] cell_alloc_is
set_option maxHeartbeats 8000000 in
theorem start_ok (gF gI gV : Nat) (lm : Int) (w : World) (h : CodeAt w gF gI) (hs : Shaped w) (hV : Blk w gV 52 #[.int .i64 3, .int .i64 7, .string ⟨#[]⟩, .int .i64 0]) (h1 : 1 ≤ lm) (h2 : lm ≤ 4000) :
    Calls Tryz.prog 10 #[.agg #[.slice (some ⟨gF, 0, none⟩) 1 1, .slice (some ⟨gI, 0, none⟩) 2 2], .slice (some ⟨gV, 0, none⟩) 1 1, .agg #[.int .i64 10, .int .i64 lm]] w
      fun e w' => ∃ x, e = .returned (.tuple #[x, .int .i64 0]) ∧ MachV w' x (m1 lm) ∧ Below w.heap.size w w' := by
  have hn1 : ¬ lm < 1 := by omega
  have hn2 : ¬ 4000 < lm := by omega
  have HB0 := Lib.hid (below_3 w (.cells #[.slice (some ⟨gF, 0, none⟩) 1 1, .slice (some ⟨gI, 0, none⟩) 2 2] 49) (.cells #[.int .i64 10, .int .i64 lm] 28) (.cells #[.int .i64 0, .int .i64 0, .slice none 0 0, .slice none 0 0, .slice none 0 0, .int .i64 0, .int .i64 0, .int .i64 0, .int .i64 0] 30))
  have HX0 := Lib.hid ((((Blk.new w 49 #[.slice (some ⟨gF, 0, none⟩) 1 1, .slice (some ⟨gI, 0, none⟩) 2 2]).alloc (.cells #[.int .i64 10, .int .i64 lm] 28)).alloc (.cells #[.int .i64 0, .int .i64 0, .slice none 0 0, .slice none 0 0, .slice none 0 0, .int .i64 0, .int .i64 0, .int .i64 0, .int .i64 0] 30)))
  have HY0 := Lib.hid ((Blk.second w (.cells #[.slice (some ⟨gF, 0, none⟩) 1 1, .slice (some ⟨gI, 0, none⟩) 2 2] 49) 28 #[.int .i64 10, .int .i64 lm]).alloc (.cells #[.int .i64 0, .int .i64 0, .slice none 0 0, .slice none 0 0, .slice none 0 0, .int .i64 0, .int .i64 0, .int .i64 0, .int .i64 0] 30))
  have HZ0 := Lib.hid (Blk.third w (.cells #[.slice (some ⟨gF, 0, none⟩) 1 1, .slice (some ⟨gI, 0, none⟩) 2 2] 49) (.cells #[.int .i64 10, .int .i64 lm] 28) 30 #[.int .i64 0, .int .i64 0, .slice none 0 0, .slice none 0 0, .slice none 0 0, .int .i64 0, .int .i64 0, .int .i64 0, .int .i64 0])
  have HC0 := Lib.hid (h.below HB0.out)
  have HS0 := Lib.hid (hs.below HB0.out)
  have HV0 := Lib.hid (hV.below HB0.out)
  clear h hs hV h1 h2
  go_enter Tryz.func10, Tryz.ntmps10
  go_upto_region 14 with (first
    | (go_at_call 29; with_reducible refine (check_ok gF gI _ HC0.out HS0.out).mono ?_; rintro e W1 ⟨rfl, hb1⟩; have HC1 := Lib.hid (HC0.out.below hb1); have HV1 := Lib.hid (HV0.out.below hb1); have HX1 := Lib.hid (HX0.out.below hb1); have HY1 := Lib.hid (HY0.out.below hb1); have HZ1 := Lib.hid (HZ0.out.below hb1); have HB1 := Lib.hid (below_call hb1 HB0.out); have x1 := blk2 HX1.out; clear hb1)
    | (go_at_call 30; with_reducible refine (find_main gF gI _ HC1.out).mono ?_; rintro e W2 ⟨rfl, hb2⟩; have HC2 := Lib.hid (HC1.out.below hb2); have HV2 := Lib.hid (HV1.out.below hb2); have HX2 := Lib.hid (HX1.out.below hb2); have HY2 := Lib.hid (HY1.out.below hb2); have HZ2 := Lib.hid (HZ1.out.below hb2); have HB2 := Lib.hid (below_call hb2 HB1.out); have x2 := blk2 HX2.out; have f2 := HC2.out.f; clear hb2 x1)
    | (go_at_call 31; with_reducible refine (vcheck_7 gV _ HV2.out).mono ?_; rintro e W3 ⟨rfl, hb3⟩; have HC3 := Lib.hid (HC2.out.below hb3); have HV3 := Lib.hid (HV2.out.below hb3); have HX3 := Lib.hid (HX2.out.below hb3); have HY3 := Lib.hid (HY2.out.below hb3); have HZ3 := Lib.hid (HZ2.out.below hb3); have HB3 := Lib.hid (below_call hb3 HB2.out); have x3 := blk2 HX3.out; have y3' := blk2 HY3.out; clear hb3 x2 f2))
  go_upto_region 15 with fail
  obtain ⟨gE, hgE⟩ : ∃ g, W3.heap.size = g := ⟨_, rfl⟩
  obtain ⟨W4, hW4⟩ : ∃ W4, W3.alloc (.cells #[.slice (some ⟨gF, 0, none⟩) 1 1, .slice (some ⟨gI, 0, none⟩) 2 2, .int .i64 1, .int .i64 0, .slice none 0 0, .slice none 0 0, .slice none 0 0, .int .i64 10, .int .i64 lm, .int .i64 0, .int .i64 0] 76) = W4 := ⟨_, rfl⟩
  have HE4 : Hid (Blk W4 gE 76 (exC gF gI 1 0 (.slice none 0 0) (.slice none 0 0) (.slice none 0 0) 10 lm 0 0)) := Lib.hid (by rw [← hW4, ← hgE]; exact Blk.new W3 _ _)
  have HC4 : Hid (CodeAt W4 gF gI) := Lib.hid (by rw [← hW4]; exact HC3.out.below (below_new _ _))
  have HV4 : Hid (Blk W4 gV 52 _) := Lib.hid (by rw [← hW4]; exact HV3.out.below (below_new _ _))
  have HZ4 : Hid (Blk W4 (w.heap.size + 1 + 1) 30 _) := Lib.hid (by rw [← hW4]; exact HZ3.out.below (below_new _ _))
  have HB4 : Hid (Below w.heap.size w W4) := Lib.hid (by rw [← hW4]; exact HB3.out.alloc HB3.out.size _)
  have hle : w.heap.size ≤ gE := by rw [← hgE]; exact HB3.out.size
  have HLZ : Hid (w.heap.size + 1 + 1 < gE) := Lib.hid (by rw [← hgE]; exact lt_of_block HZ3.out)
  rw [hgE, hW4]
  clear hW4 hgE x3 y3'
  go_wp2_with (first
    | (go_at_call 33; with_reducible refine (clone_any [c7] _ _ (valOne HV4.out)).mono ?_; rintro e W5 ⟨v5, rfl, ho5, hb5⟩; have HE5 := Lib.hid (HE4.out.below hb5); have HC5 := Lib.hid (HC4.out.below hb5); have HZ5 := Lib.hid (HZ4.out.below hb5); have HB5 := Lib.hid (below_call hb5 HB4.out); have HO5 := Lib.hid ho5; obtain ⟨A5, k5, rfl⟩ := OVal.one ho5; have HE5' := Lib.hid (HE5.out.alloc (.cells #[.slice A5 1 k5] 24)); have HL5' := Lib.hid (Blk.new W5 24 #[.slice A5 1 k5]); have HC5' := Lib.hid (HC5.out.below (below_new W5 (.cells #[.slice A5 1 k5] 24))); clear ho5 hb5)
    | (go_at_call 32; with_reducible refine (enter_ok gF gI gE lm _ _ _ HC5'.out HE5'.out).mono ?_; rintro e W6 ⟨rfl, g6, k6, hE6, hO6, hg6, hk6⟩; have HE6 := Lib.hid hE6; have HO6 := Lib.hid hO6; have HG6 := Lib.hid hg6; have HK6 := Lib.hid hk6; clear hE6 hO6 hg6 hk6))
  have hf6 : FramesV W6 (.slice (some ⟨g6, 0, none⟩) 1 k6) [⟨0, 0, [[c7]], []⟩] :=
    framesOne HO6.out (valsOne (HK6.out.blk (by decide) HL5'.out) ((HK6.out.oval (by decide) (HO5.out.below (below_new W5 _))).val (by simp))) (RowsV.nil none 0)
  have HF6 := Lib.hid hf6
  clear hf6
  refine (count_ok (m0 lm) gF gI gE _ _ _ W6 rfl HE6.out (RowsV.nil none 0) HF6.out (RowsV.nil none 0) ⟨by simp [m0], by simp [m0]⟩ (by simp [m0, memN, cellsN]; omega)).mono ?_
  rintro e W7 ⟨rfl, hE7, hg7, hk7⟩
  have HE7 : Hid (Blk W7 gE 76 (exC gF gI 1 0 (.slice none 0 0) (.slice (some ⟨g6, 0, none⟩) 1 k6) (.slice none 0 0) 10 lm 0 1)) := Lib.hid hE7
  have HG7 := Lib.hid hg7
  have HK7 := Lib.hid hk7
  clear hE7 hg7 hk7
  have e7 := blkE HE7.out
  have HZ7 := Lib.hid (HK7.out.blk (by decide) (HK6.out.blk (by decide) (HZ5.out.alloc (.cells #[.slice A5 1 k5] 24))))
  have HB6 : Hid (Below w.heap.size w W6) := Lib.hid ((HB5.out.alloc HB5.out.size _).grown HG6.out (Nat.le_trans HB5.out.size (by simp)) (fun j hj => by injection hj with hj; omega))
  have HB7 : Hid (Below w.heap.size w W7) := Lib.hid (HB6.out.grown HG7.out HB6.out.size (fun j hj => by injection hj with hj; omega))
  have K8 := Lib.hid (KT.row HZ7.out #[.int .i64 1, .int .i64 0, .slice none 0 0, .slice (some ⟨g6, 0, none⟩) 1 k6, .slice none 0 0, .int .i64 10, .int .i64 lm, .int .i64 0, .int .i64 1])
  have HZ8 := Lib.hid (HZ7.out.setRow (cs' := #[.int .i64 1, .int .i64 0, .slice none 0 0, .slice (some ⟨g6, 0, none⟩) 1 k6, .slice none 0 0, .int .i64 10, .int .i64 lm, .int .i64 0, .int .i64 1]))
  have HB8 := Lib.hid (below_setRow HB7.out (show w.heap.size ≤ w.heap.size + 1 + 1 by omega) #[.int .i64 1, .int .i64 0, .slice none 0 0, .slice (some ⟨g6, 0, none⟩) 1 k6, .slice none 0 0, .int .i64 10, .int .i64 lm, .int .i64 0, .int .i64 1])
  go_wp2_with (first
    | (refine wpList_store_row rfl 30 (.tmp 6) (.tmp 73) rfl (w.heap.size + 1 + 1) #[.int .i64 1, .int .i64 0, .slice none 0 0, .slice (some ⟨g6, 0, none⟩) 1 k6, .slice none 0 0, .int .i64 10, .int .i64 lm, .int .i64 0, .int .i64 1] rfl rfl 30 _ HZ7.out (by kernel_rfl) rfl (by simp [Value.oneCell']) ?_))
  obtain ⟨WZ, hWZ⟩ : ∃ WZ, W7.setRow (w.heap.size + 1 + 1) #[.int .i64 1, .int .i64 0, .slice none 0 0, .slice (some ⟨g6, 0, none⟩) 1 k6, .slice none 0 0, .int .i64 10, .int .i64 lm, .int .i64 0, .int .i64 1] = WZ := ⟨_, rfl⟩
  rw [hWZ] at K8 HZ8 HB8
  try rw [hWZ]
  clear hWZ e7
  have gz := blk9 HZ8.out
  refine bodyPost_ret (v := .tuple #[.agg #[.int .i64 1, .int .i64 0, .slice none 0 0, .slice (some ⟨g6, 0, none⟩) 1 k6, .slice none 0 0, .int .i64 10, .int .i64 lm, .int .i64 0, .int .i64 1], .int .i64 0]) (by simp [results, Tryz.results10, go_sem, gz]) rfl ?_
  refine ⟨_, rfl, ⟨_, _, _, rfl, RowsV.nil none 0, ?_, RowsV.nil none 0⟩, HB8.out⟩
  have KK := (HK7.out.own (by decide) HO6.out)
  exact framesOne (K8.out.own (by decide) KK) (valsOne (K8.out.blk (by decide) (HK7.out.blk (by decide) (HK6.out.blk (by decide) HL5'.out))) ((K8.out.oval (by decide) (HK7.out.oval (by decide) (HK6.out.oval (by decide) (HO5.out.below (below_new W5 _))))).val (by simp))) (RowsV.nil none 0)
end Go.Proofs.YtemakcaojdoakaaGreatDoor
