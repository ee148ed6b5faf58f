/- Code: a well-formed instruction, the reference's. -/
import Derived.Test.YtmljohbialacfaaGreatDoorQ3
set_option linter.unusedVariables false
set_option linter.unusedSimpArgs false
namespace Go.Proofs.YtmljohbialacfaaGreatDoor
open Go.RowKit
set_option maxRecDepth 100000
attribute [local go_sem] cell_alloc_is
theorem isEmpty_sz (s : ByteArray) : s.toList.isEmpty = true ↔ s.size = 0 := by rw [List.isEmpty_iff]; exact toList_nil s
theorem ascOk_nil : AscOk [] := fun i h => absurd h (by simp)
theorem roperand_all (k9 : Int) (h9 : 1 ≤ k9 ∧ k9 ≤ 20) (nf ncap : Nat) (A B : Option Addr) (f : FnD) (a : Int) (s : ByteArray) (keys : List ByteArray) (kv : Value) (w : World) (hnf : nf ≤ 40) (hf : FnSmall f) (hi : InsOk ⟨k9, a, s, keys⟩) (hk : KeysV w kv keys) (ni : Nat) (icap : Nat) :
  Calls Tryz.prog 124 #[.agg #[.slice A nf ncap, .slice B ni icap], f.val, .agg #[.int .i64 k9, .int .i64 a, .string s, kv]] w fun e w' => (∃ b, e = .returned (.bool b) ∧ (b = true ↔ OperandP nf f ⟨k9, a, s, keys⟩)) ∧ Below w.heap.size w w' := by
 have : k9 = 1 ∨ k9 = 2 ∨ k9 = 3 ∨ k9 = 4 ∨ k9 = 5 ∨ k9 = 6 ∨ k9 = 7 ∨ k9 = 8 ∨ k9 = 9 ∨ k9 = 10 ∨ k9 = 11 ∨ k9 = 12 ∨ k9 = 13 ∨ k9 = 14 ∨ k9 = 15 ∨ k9 = 16 ∨ k9 = 17 ∨ k9 = 18 ∨ k9 = 19 ∨ k9 = 20 := by omega
 rcases this with rfl | rfl | rfl | rfl | rfl | rfl | rfl | rfl | rfl | rfl | rfl | rfl | rfl | rfl | rfl | rfl | rfl | rfl | rfl | rfl
 ·exact roperand_1 nf ncap A B f a s keys kv w hnf hf hi hk ni icap
 ·exact roperand_2 nf ncap A B f a s keys kv w hnf hf hi hk ni icap
 ·exact roperand_3 nf ncap A B f a s keys kv w hnf hf hi hk ni icap
 ·exact roperand_4 nf ncap A B f a s keys kv w hnf hf hi hk ni icap
 ·exact roperand_5 nf ncap A B f a s keys kv w hnf hf hi hk ni icap
 ·exact roperand_6 nf ncap A B f a s keys kv w hnf hf hi hk ni icap
 ·exact roperand_7 nf ncap A B f a s keys kv w hnf hf hi hk ni icap
 ·exact roperand_8 nf ncap A B f a s keys kv w hnf hf hi hk ni icap
 ·exact roperand_9 nf ncap A B f a s keys kv w hnf hf hi hk ni icap
 ·exact roperand_10 nf ncap A B f a s keys kv w hnf hf hi hk ni icap
 ·exact roperand_11 nf ncap A B f a s keys kv w hnf hf hi hk ni icap
 ·exact roperand_12 nf ncap A B f a s keys kv w hnf hf hi hk ni icap
 ·exact roperand_13 nf ncap A B f a s keys kv w hnf hf hi hk ni icap
 ·exact roperand_14 nf ncap A B f a s keys kv w hnf hf hi hk ni icap
 ·exact roperand_15 nf ncap A B f a s keys kv w hnf hf hi hk ni icap
 ·exact roperand_16 nf ncap A B f a s keys kv w hnf hf hi hk ni icap
 ·exact roperand_17 nf ncap A B f a s keys kv w hnf hf hi hk ni icap
 ·exact roperand_18 nf ncap A B f a s keys kv w hnf hf hi hk ni icap
 ·exact roperand_19 nf ncap A B f a s keys kv w hnf hf hi hk ni icap
 ·exact roperand_20 nf ncap A B f a s keys kv w hnf hf hi hk ni icap
theorem rformedP_k9 (k9 : Int) (h9 : k9 = 1 ∨ k9 = 2 ∨ k9 = 3 ∨ k9 = 5 ∨ k9 = 6 ∨ k9 = 7 ∨ k9 = 10 ∨ k9 = 11 ∨ k9 = 13 ∨ k9 = 14 ∨ k9 = 15 ∨ k9 = 16 ∨ k9 = 17 ∨ k9 = 20) (nf : Int) (f : FnD) (a : Int) (s : ByteArray) (keys : List ByteArray) : FormedP nf f ⟨k9, a, s, keys⟩ ↔ (OperandP nf f ⟨k9, a, s, keys⟩ ∧ AscOk keys) ∧ keys.length = 0 ∧ s.size = 0 := by
 have hst : StrP ⟨k9, a, s, keys⟩ ↔ s.size = 0 := by
  rcases h9 with rfl | rfl | rfl | rfl | rfl | rfl | rfl | rfl | rfl | rfl | rfl | rfl | rfl | rfl
  all_goals simp [StrP]
 have h12 : k9 ≠ 12 := by omega
 have h1 : 1 ≤ k9 ∧ k9 ≤ 20 := by omega
 unfold FormedP KeysP
 rw [hst]
 simp only [List.length_eq_zero_iff]
 constructor
 ·rintro ⟨_, ho, hs, hk⟩
  have e : keys = [] := hk.2 h12
  subst e
  exact ⟨⟨ho, ascOk_nil⟩, rfl, hs⟩
 ·rintro ⟨⟨ho, ha⟩, he, hs⟩
  exact ⟨h1, ho, hs, ⟨fun _ => ha, fun h => he⟩⟩
set_option maxHeartbeats 60000000 in
theorem rformed_k9 (k9 : Int) (h9 : k9 = 1 ∨ k9 = 2 ∨ k9 = 3 ∨ k9 = 5 ∨ k9 = 6 ∨ k9 = 7 ∨ k9 = 10 ∨ k9 = 11 ∨ k9 = 13 ∨ k9 = 14 ∨ k9 = 15 ∨ k9 = 16 ∨ k9 = 17 ∨ k9 = 20) (nf ncap : Nat) (A B : Option Addr) (f : FnD) (a : Int) (s : ByteArray) (keys : List ByteArray) (kv : Value) (w : World) (hnf : nf ≤ 40) (hf : FnSmall f) (hi : InsOk ⟨k9, a, s, keys⟩) (hk : KeysV w kv keys) (ni : Nat) (icap : Nat) :
  Calls Tryz.prog 89 #[.agg #[.slice A nf ncap, .slice B ni icap], f.val, .agg #[.int .i64 k9, .int .i64 a, .string s, kv]] w fun e w' => (∃ b, e = .returned (.bool b) ∧ (b = true ↔ FormedP nf f ⟨k9, a, s, keys⟩)) ∧ Below w.heap.size w w' := by
 have hOP0 := fun wx hkx => roperand_all k9 (by omega) nf ncap A B f a s keys kv wx hnf hf hi hkx ni icap
 obtain ⟨name, params, locals, entry, fin⟩ := f
 obtain ⟨⟨_, _⟩, ⟨hl0, hl1⟩, ⟨he0, he1, he2⟩⟩ := hf
 obtain ⟨hs1, hk1, hks⟩ := hi
 dsimp only at hl0 hl1 he0 he1 he2 hs1 hk1 hks
 have hb3 := below_3 w (.cells #[.slice A nf ncap, .slice B ni icap] 25) (.cells #[.string name, .int .i64 params, .int .i64 locals, .int .i64 entry, .int .i64 fin] 55) (.cells #[.int .i64 k9, .int .i64 a, .string s, kv] 59)
 have HB3 := Lib.hid hb3
 have HKV := Lib.hid (hk.below hb3)
 have HKS := Lib.hid hks
 have HS1 := Lib.hid hs1
 have hnf0 : (0 : Int) ≤ (nf : Int) := by omega
 have hnf9 : (nf : Int) ≤ 40 := by omega
 have HOP : Hid (∀ wx, KeysV wx kv keys → Calls Tryz.prog 124 #[.agg #[.slice A nf ncap, .slice B ni icap], .agg #[.string name, .int .i64 params, .int .i64 locals, .int .i64 entry, .int .i64 fin], .agg #[.int .i64 k9, .int .i64 a, .string s, kv]] wx fun e w' => (∃ b, e = .returned (.bool b) ∧ (b = true ↔ OperandP nf ⟨name, params, locals, entry, fin⟩ ⟨k9, a, s, keys⟩)) ∧ Below wx.heap.size wx w') := Lib.hid hOP0
 clear hOP0
 have HX := Lib.hid (Blk.new ((w.alloc (.cells #[.slice A nf ncap, .slice B ni icap] 25)).alloc (.cells #[.string name, .int .i64 params, .int .i64 locals, .int .i64 entry, .int .i64 fin] 55)) 59 #[.int .i64 k9, .int .i64 a, .string s, kv])
 obtain ⟨kA, kcap, rfl, _, _⟩ := hk
 obtain ⟨P, hP⟩ : ∃ P : Ending → World → Prop, (fun e w' => (∃ b, e = .returned (.bool b) ∧ (b = true ↔ FormedP nf ⟨name, params, locals, entry, fin⟩ ⟨k9, a, s, keys⟩)) ∧ Below w.heap.size w w') = P := ⟨_, rfl⟩
 rw [hP]
 have HP := Lib.hid hP
 unfold FnD.val
 clear hP hb3 hks
 rcases h9 with rfl | rfl | rfl | rfl | rfl | rfl | rfl | rfl | rfl | rfl | rfl | rfl | rfl | rfl
 all_goals
  by_cases hkl : keys.length = 0
  ·have HKL := Lib.hid hkl
   have hkl1 : ¬ 0 < keys.length := by omega
   clear hkl
   go_enter Tryz.func89, Tryz.ntmps89
   go_wp2_with (first
    | (go_at_call 124; (with_reducible refine (HOP.out _ HKV.out).mono ?_); rintro e w1 ⟨⟨b1, rfl, hb⟩, hb1⟩; have HB1 := Lib.hid (below_call hb1 HB3.out); have HX1 := Lib.hid (HX.out.below hb1); have HKV1 := Lib.hid (HKV.out.below hb1); have p := blk4 HX1.out; simp only [World.size_alloc] at p; have HQ1 := Lib.hid hb; clear hb hb1; cases b1)
    | (go_at_call 125; (with_reducible refine (ascend_any keys _ _ (by omega) (fun k hk => by have := HKS.out k hk; omega) HKV1.out).mono ?_); rintro e w2 ⟨⟨b2, rfl, hb⟩, hb2⟩; have HB2 := Lib.hid (below_call' hb2 HB1.out HB1.out.size); have HX2 := Lib.hid (HX1.out.below hb2); clear p; have p := blk4 HX2.out; simp only [World.size_alloc] at p; have HQ2 := Lib.hid hb; clear hb hb2; cases b2)
    | fail)
   all_goals rw [← HP.out]
   ·exact ⟨⟨false, rfl, by rw [rformedP_k9 _ (by simp)]; exact ⟨fun h => (by cases h), fun h => (by have := HQ1.out.2 h.1.1; cases this)⟩⟩, HB1.out⟩
   ·exact ⟨⟨false, rfl, by rw [rformedP_k9 _ (by simp)]; exact ⟨fun h => (by cases h), fun h => (by have := HQ2.out.2 h.1.2; cases this)⟩⟩, HB2.out⟩
   ·exact ⟨⟨s.toList.isEmpty, rfl, by rw [rformedP_k9 _ (by simp), isEmpty_sz]; exact ⟨fun h => ⟨⟨HQ1.out.1 (by trivial), HQ2.out.1 (by trivial)⟩, HKL.out, h⟩, fun h => h.2.2⟩⟩, HB2.out⟩
  ·have HKL := Lib.hid hkl
   have hkl1 : 0 < keys.length := by omega
   clear hkl
   go_enter Tryz.func89, Tryz.ntmps89
   go_wp2_with (first
    | (go_at_call 124; (with_reducible refine (HOP.out _ HKV.out).mono ?_); rintro e w1 ⟨⟨b1, rfl, hb⟩, hb1⟩; have HB1 := Lib.hid (below_call hb1 HB3.out); have HX1 := Lib.hid (HX.out.below hb1); have HKV1 := Lib.hid (HKV.out.below hb1); have p := blk4 HX1.out; simp only [World.size_alloc] at p; have HQ1 := Lib.hid hb; clear hb hb1; cases b1)
    | (go_at_call 125; (with_reducible refine (ascend_any keys _ _ (by omega) (fun k hk => by have := HKS.out k hk; omega) HKV1.out).mono ?_); rintro e w2 ⟨⟨b2, rfl, hb⟩, hb2⟩; have HB2 := Lib.hid (below_call' hb2 HB1.out HB1.out.size); have HX2 := Lib.hid (HX1.out.below hb2); clear p; have p := blk4 HX2.out; simp only [World.size_alloc] at p; have HQ2 := Lib.hid hb; clear hb hb2; cases b2)
    | fail)
   all_goals rw [← HP.out]
   ·exact ⟨⟨false, rfl, by rw [rformedP_k9 _ (by simp)]; exact ⟨fun h => (by cases h), fun h => (by have := HQ1.out.2 h.1.1; cases this)⟩⟩, HB1.out⟩
   ·exact ⟨⟨false, rfl, by rw [rformedP_k9 _ (by simp)]; exact ⟨fun h => (by cases h), fun h => (by have := HQ2.out.2 h.1.2; cases this)⟩⟩, HB2.out⟩
   ·exact ⟨⟨false, rfl, by rw [rformedP_k9 _ (by simp)]; exact ⟨fun h => (by cases h), fun h => absurd h.2.1 HKL.out⟩⟩, HB2.out⟩
theorem rformedP_4 (nf : Int) (f : FnD) (a : Int) (s : ByteArray) (keys : List ByteArray) : FormedP nf f ⟨4, a, s, keys⟩ ↔ (OperandP nf f ⟨4, a, s, keys⟩ ∧ AscOk keys) ∧ keys.length = 0 ∧ StrOk s := by
 unfold FormedP KeysP
 have hst : StrP ⟨4, a, s, keys⟩ ↔ StrOk s := by simp [StrP]
 rw [hst]
 simp only [List.length_eq_zero_iff]
 constructor
 ·rintro ⟨_, ho, hs, hk⟩
  have e : keys = [] := hk.2 (by simp)
  subst e
  exact ⟨⟨ho, ascOk_nil⟩, rfl, hs⟩
 ·rintro ⟨⟨ho, ha⟩, he, hs⟩
  exact ⟨⟨by simp, by simp⟩, ho, hs, ⟨fun _ => ha, fun h => he⟩⟩
set_option maxHeartbeats 4000000 in
theorem rformed_4 (nf ncap : Nat) (A B : Option Addr) (f : FnD) (a : Int) (s : ByteArray) (keys : List ByteArray) (kv : Value) (w : World) (hnf : nf ≤ 40) (hf : FnSmall f) (hi : InsOk ⟨4, a, s, keys⟩) (hk : KeysV w kv keys) (ni : Nat) (icap : Nat) :
  Calls Tryz.prog 89 #[.agg #[.slice A nf ncap, .slice B ni icap], f.val, .agg #[.int .i64 4, .int .i64 a, .string s, kv]] w fun e w' => (∃ b, e = .returned (.bool b) ∧ (b = true ↔ FormedP nf f ⟨4, a, s, keys⟩)) ∧ Below w.heap.size w w' := by
 have hOP0 := fun wx hkx => roperand_4 nf ncap A B f a s keys kv wx hnf hf hi hkx ni icap
 obtain ⟨name, params, locals, entry, fin⟩ := f
 obtain ⟨⟨_, _⟩, ⟨hl0, hl1⟩, ⟨he0, he1, he2⟩⟩ := hf
 obtain ⟨hs1, hk1, hks⟩ := hi
 dsimp only at hl0 hl1 he0 he1 he2 hs1 hk1 hks
 have hb3 := below_3 w (.cells #[.slice A nf ncap, .slice B ni icap] 25) (.cells #[.string name, .int .i64 params, .int .i64 locals, .int .i64 entry, .int .i64 fin] 55) (.cells #[.int .i64 4, .int .i64 a, .string s, kv] 59)
 have HB3 := Lib.hid hb3
 have HKV := Lib.hid (hk.below hb3)
 have HKS := Lib.hid hks
 have HS1 := Lib.hid hs1
 have hnf0 : (0 : Int) ≤ (nf : Int) := by omega
 have hnf9 : (nf : Int) ≤ 40 := by omega
 have HOP : Hid (∀ wx, KeysV wx kv keys → Calls Tryz.prog 124 #[.agg #[.slice A nf ncap, .slice B ni icap], .agg #[.string name, .int .i64 params, .int .i64 locals, .int .i64 entry, .int .i64 fin], .agg #[.int .i64 4, .int .i64 a, .string s, kv]] wx fun e w' => (∃ b, e = .returned (.bool b) ∧ (b = true ↔ OperandP nf ⟨name, params, locals, entry, fin⟩ ⟨4, a, s, keys⟩)) ∧ Below wx.heap.size wx w') := Lib.hid hOP0
 clear hOP0
 have HX := Lib.hid (Blk.new ((w.alloc (.cells #[.slice A nf ncap, .slice B ni icap] 25)).alloc (.cells #[.string name, .int .i64 params, .int .i64 locals, .int .i64 entry, .int .i64 fin] 55)) 59 #[.int .i64 4, .int .i64 a, .string s, kv])
 obtain ⟨kA, kcap, rfl, _, _⟩ := hk
 obtain ⟨P, hP⟩ : ∃ P : Ending → World → Prop, (fun e w' => (∃ b, e = .returned (.bool b) ∧ (b = true ↔ FormedP nf ⟨name, params, locals, entry, fin⟩ ⟨4, a, s, keys⟩)) ∧ Below w.heap.size w w') = P := ⟨_, rfl⟩
 rw [hP]
 have HP := Lib.hid hP
 unfold FnD.val
 clear hP hb3 hks
 by_cases hkl : keys.length = 0
 ·have HKL := Lib.hid hkl
  have hkl1 : ¬ 0 < keys.length := by omega
  clear hkl
  go_enter Tryz.func89, Tryz.ntmps89
  go_wp2_with (first
   | (go_at_call 124; (with_reducible refine (HOP.out _ HKV.out).mono ?_); rintro e w1 ⟨⟨b1, rfl, hb⟩, hb1⟩; have HB1 := Lib.hid (below_call hb1 HB3.out); have HX1 := Lib.hid (HX.out.below hb1); have HKV1 := Lib.hid (HKV.out.below hb1); have p := blk4 HX1.out; simp only [World.size_alloc] at p; have HQ1 := Lib.hid hb; clear hb hb1; cases b1)
   | (go_at_call 125; (with_reducible refine (ascend_any keys _ _ (by omega) (fun k hk => by have := HKS.out k hk; omega) HKV1.out).mono ?_); rintro e w2 ⟨⟨b2, rfl, hb⟩, hb2⟩; have HB2 := Lib.hid (below_call' hb2 HB1.out HB1.out.size); have HX2 := Lib.hid (HX1.out.below hb2); clear p; have p := blk4 HX2.out; simp only [World.size_alloc] at p; have HQ2 := Lib.hid hb; clear hb hb2; cases b2)
   | (go_at_call 126; (with_reducible refine (rtoken_any s _ (by have := HS1.out; omega)).mono ?_); rintro e w3 ⟨⟨t, b3, rfl, hb⟩, hb3⟩; have HB3' := Lib.hid (below_call' hb3 HB2.out HB2.out.size); have HQ3 := Lib.hid hb; clear hb hb3))
  all_goals rw [← HP.out]
  ·exact ⟨⟨false, rfl, by rw [rformedP_4]; exact ⟨fun h => (by cases h), fun h => (by have := HQ1.out.2 h.1.1; cases this)⟩⟩, HB1.out⟩
  ·exact ⟨⟨false, rfl, by rw [rformedP_4]; exact ⟨fun h => (by cases h), fun h => (by have := HQ2.out.2 h.1.2; cases this)⟩⟩, HB2.out⟩
  ·exact ⟨⟨b3, rfl, by rw [rformedP_4]; exact ⟨fun h => ⟨⟨HQ1.out.1 (by trivial), HQ2.out.1 (by trivial)⟩, HKL.out, HQ3.out.1 h⟩, fun h => HQ3.out.2 h.2.2⟩⟩, HB3'.out⟩
 ·have HKL := Lib.hid hkl
  have hkl1 : 0 < keys.length := by omega
  clear hkl
  go_enter Tryz.func89, Tryz.ntmps89
  go_wp2_with (first
   | (go_at_call 124; (with_reducible refine (HOP.out _ HKV.out).mono ?_); rintro e w1 ⟨⟨b1, rfl, hb⟩, hb1⟩; have HB1 := Lib.hid (below_call hb1 HB3.out); have HX1 := Lib.hid (HX.out.below hb1); have HKV1 := Lib.hid (HKV.out.below hb1); have p := blk4 HX1.out; simp only [World.size_alloc] at p; have HQ1 := Lib.hid hb; clear hb hb1; cases b1)
   | (go_at_call 125; (with_reducible refine (ascend_any keys _ _ (by omega) (fun k hk => by have := HKS.out k hk; omega) HKV1.out).mono ?_); rintro e w2 ⟨⟨b2, rfl, hb⟩, hb2⟩; have HB2 := Lib.hid (below_call' hb2 HB1.out HB1.out.size); have HX2 := Lib.hid (HX1.out.below hb2); clear p; have p := blk4 HX2.out; simp only [World.size_alloc] at p; have HQ2 := Lib.hid hb; clear hb hb2; cases b2)
   | (go_at_call 126; (with_reducible refine (rtoken_any s _ (by have := HS1.out; omega)).mono ?_); rintro e w3 ⟨⟨t, b3, rfl, hb⟩, hb3⟩; have HB3' := Lib.hid (below_call' hb3 HB2.out HB2.out.size); have HQ3 := Lib.hid hb; clear hb hb3))
  all_goals rw [← HP.out]
  ·exact ⟨⟨false, rfl, by rw [rformedP_4]; exact ⟨fun h => (by cases h), fun h => (by have := HQ1.out.2 h.1.1; cases this)⟩⟩, HB1.out⟩
  ·exact ⟨⟨false, rfl, by rw [rformedP_4]; exact ⟨fun h => (by cases h), fun h => (by have := HQ2.out.2 h.1.2; cases this)⟩⟩, HB2.out⟩
  ·exact ⟨⟨false, rfl, by rw [rformedP_4]; exact ⟨fun h => (by cases h), fun h => absurd h.2.1 HKL.out⟩⟩, HB2.out⟩
theorem rformedP_8 (nf : Int) (f : FnD) (a : Int) (s : ByteArray) (keys : List ByteArray) : FormedP nf f ⟨8, a, s, keys⟩ ↔ (OperandP nf f ⟨8, a, s, keys⟩ ∧ AscOk keys) ∧ keys.length = 0 ∧ (s.toList = [45] ∨ s.toList = [110, 111, 116]) := by
 unfold FormedP KeysP
 have hst : StrP ⟨8, a, s, keys⟩ ↔ (s.toList = [45] ∨ s.toList = [110, 111, 116]) := by simp [StrP]
 rw [hst]
 simp only [List.length_eq_zero_iff]
 constructor
 ·rintro ⟨_, ho, hs, hk⟩
  have e : keys = [] := hk.2 (by simp)
  subst e
  exact ⟨⟨ho, ascOk_nil⟩, rfl, hs⟩
 ·rintro ⟨⟨ho, ha⟩, he, hs⟩
  exact ⟨⟨by simp, by simp⟩, ho, hs, ⟨fun _ => ha, fun h => he⟩⟩
set_option maxHeartbeats 4000000 in
theorem rformed_8 (nf ncap : Nat) (A B : Option Addr) (f : FnD) (a : Int) (s : ByteArray) (keys : List ByteArray) (kv : Value) (w : World) (hnf : nf ≤ 40) (hf : FnSmall f) (hi : InsOk ⟨8, a, s, keys⟩) (hk : KeysV w kv keys) (ni : Nat) (icap : Nat) :
  Calls Tryz.prog 89 #[.agg #[.slice A nf ncap, .slice B ni icap], f.val, .agg #[.int .i64 8, .int .i64 a, .string s, kv]] w fun e w' => (∃ b, e = .returned (.bool b) ∧ (b = true ↔ FormedP nf f ⟨8, a, s, keys⟩)) ∧ Below w.heap.size w w' := by
 have hOP0 := fun wx hkx => roperand_8 nf ncap A B f a s keys kv wx hnf hf hi hkx ni icap
 obtain ⟨name, params, locals, entry, fin⟩ := f
 obtain ⟨⟨_, _⟩, ⟨hl0, hl1⟩, ⟨he0, he1, he2⟩⟩ := hf
 obtain ⟨hs1, hk1, hks⟩ := hi
 dsimp only at hl0 hl1 he0 he1 he2 hs1 hk1 hks
 have hb3 := below_3 w (.cells #[.slice A nf ncap, .slice B ni icap] 25) (.cells #[.string name, .int .i64 params, .int .i64 locals, .int .i64 entry, .int .i64 fin] 55) (.cells #[.int .i64 8, .int .i64 a, .string s, kv] 59)
 have HB3 := Lib.hid hb3
 have HKV := Lib.hid (hk.below hb3)
 have HKS := Lib.hid hks
 have HS1 := Lib.hid hs1
 have hnf0 : (0 : Int) ≤ (nf : Int) := by omega
 have hnf9 : (nf : Int) ≤ 40 := by omega
 have HOP : Hid (∀ wx, KeysV wx kv keys → Calls Tryz.prog 124 #[.agg #[.slice A nf ncap, .slice B ni icap], .agg #[.string name, .int .i64 params, .int .i64 locals, .int .i64 entry, .int .i64 fin], .agg #[.int .i64 8, .int .i64 a, .string s, kv]] wx fun e w' => (∃ b, e = .returned (.bool b) ∧ (b = true ↔ OperandP nf ⟨name, params, locals, entry, fin⟩ ⟨8, a, s, keys⟩)) ∧ Below wx.heap.size wx w') := Lib.hid hOP0
 clear hOP0
 have HX := Lib.hid (Blk.new ((w.alloc (.cells #[.slice A nf ncap, .slice B ni icap] 25)).alloc (.cells #[.string name, .int .i64 params, .int .i64 locals, .int .i64 entry, .int .i64 fin] 55)) 59 #[.int .i64 8, .int .i64 a, .string s, kv])
 obtain ⟨kA, kcap, rfl, _, _⟩ := hk
 obtain ⟨P, hP⟩ : ∃ P : Ending → World → Prop, (fun e w' => (∃ b, e = .returned (.bool b) ∧ (b = true ↔ FormedP nf ⟨name, params, locals, entry, fin⟩ ⟨8, a, s, keys⟩)) ∧ Below w.heap.size w w') = P := ⟨_, rfl⟩
 rw [hP]
 have HP := Lib.hid hP
 unfold FnD.val
 clear hP hb3 hks
 by_cases hkl : keys.length = 0
 ·have HKL := Lib.hid hkl
  have hkl1 : ¬ 0 < keys.length := by omega
  clear hkl
  by_cases hu : s.toList = [45] ∨ s.toList = [110, 111, 116]
  ·have HU := Lib.hid hu
   have hu1 : (s.toList == [45]) = true ∨ (s.toList == [45]) = false ∧ (s.toList == [110, 111, 116]) = true := by
    by_cases e : s.toList = [45]
    ·exact .inl (by simpa using e)
    ·rcases hu with h | h
     ·exact absurd h e
     ·exact .inr ⟨by simpa using e, by simpa using h⟩
   clear hu
   rcases hu1 with hu1 | ⟨hu1, hu2⟩
   all_goals
    go_enter Tryz.func89, Tryz.ntmps89
    go_wp2_with (first
     | (go_at_call 124; (with_reducible refine (HOP.out _ HKV.out).mono ?_); rintro e w1 ⟨⟨b1, rfl, hb⟩, hb1⟩; have HB1 := Lib.hid (below_call hb1 HB3.out); have HX1 := Lib.hid (HX.out.below hb1); have HKV1 := Lib.hid (HKV.out.below hb1); have p := blk4 HX1.out; simp only [World.size_alloc] at p; have HQ1 := Lib.hid hb; clear hb hb1; cases b1)
     | (go_at_call 125; (with_reducible refine (ascend_any keys _ _ (by omega) (fun k hk => by have := HKS.out k hk; omega) HKV1.out).mono ?_); rintro e w2 ⟨⟨b2, rfl, hb⟩, hb2⟩; have HB2 := Lib.hid (below_call' hb2 HB1.out HB1.out.size); have HX2 := Lib.hid (HX1.out.below hb2); clear p; have p := blk4 HX2.out; simp only [World.size_alloc] at p; have HQ2 := Lib.hid hb; clear hb hb2; cases b2)
     | fail)
    all_goals rw [← HP.out]
    ·exact ⟨⟨false, rfl, by rw [rformedP_8]; exact ⟨fun h => (by cases h), fun h => (by have := HQ1.out.2 h.1.1; cases this)⟩⟩, HB1.out⟩
    ·exact ⟨⟨false, rfl, by rw [rformedP_8]; exact ⟨fun h => (by cases h), fun h => (by have := HQ2.out.2 h.1.2; cases this)⟩⟩, HB2.out⟩
    ·exact ⟨⟨true, rfl, by rw [rformedP_8]; exact ⟨fun h => ⟨⟨HQ1.out.1 (by trivial), HQ2.out.1 (by trivial)⟩, HKL.out, HU.out⟩, fun h => rfl⟩⟩, HB2.out⟩
  ·have HU := Lib.hid hu
   have hu1 : (s.toList == [45]) = false := by simpa using fun e => hu (.inl e)
   have hu2 : (s.toList == [110, 111, 116]) = false := by simpa using fun e => hu (.inr e)
   clear hu
   go_enter Tryz.func89, Tryz.ntmps89
   go_wp2_with (first
    | (go_at_call 124; (with_reducible refine (HOP.out _ HKV.out).mono ?_); rintro e w1 ⟨⟨b1, rfl, hb⟩, hb1⟩; have HB1 := Lib.hid (below_call hb1 HB3.out); have HX1 := Lib.hid (HX.out.below hb1); have HKV1 := Lib.hid (HKV.out.below hb1); have p := blk4 HX1.out; simp only [World.size_alloc] at p; have HQ1 := Lib.hid hb; clear hb hb1; cases b1)
    | (go_at_call 125; (with_reducible refine (ascend_any keys _ _ (by omega) (fun k hk => by have := HKS.out k hk; omega) HKV1.out).mono ?_); rintro e w2 ⟨⟨b2, rfl, hb⟩, hb2⟩; have HB2 := Lib.hid (below_call' hb2 HB1.out HB1.out.size); have HX2 := Lib.hid (HX1.out.below hb2); clear p; have p := blk4 HX2.out; simp only [World.size_alloc] at p; have HQ2 := Lib.hid hb; clear hb hb2; cases b2)
    | fail)
   all_goals rw [← HP.out]
   ·exact ⟨⟨false, rfl, by rw [rformedP_8]; exact ⟨fun h => (by cases h), fun h => (by have := HQ1.out.2 h.1.1; cases this)⟩⟩, HB1.out⟩
   ·exact ⟨⟨false, rfl, by rw [rformedP_8]; exact ⟨fun h => (by cases h), fun h => (by have := HQ2.out.2 h.1.2; cases this)⟩⟩, HB2.out⟩
   ·exact ⟨⟨false, rfl, by rw [rformedP_8]; exact ⟨fun h => (by cases h), fun h => absurd h.2.2 HU.out⟩⟩, HB2.out⟩
 ·have HKL := Lib.hid hkl
  have hkl1 : 0 < keys.length := by omega
  clear hkl
  go_enter Tryz.func89, Tryz.ntmps89
  go_wp2_with (first
   | (go_at_call 124; (with_reducible refine (HOP.out _ HKV.out).mono ?_); rintro e w1 ⟨⟨b1, rfl, hb⟩, hb1⟩; have HB1 := Lib.hid (below_call hb1 HB3.out); have HX1 := Lib.hid (HX.out.below hb1); have HKV1 := Lib.hid (HKV.out.below hb1); have p := blk4 HX1.out; simp only [World.size_alloc] at p; have HQ1 := Lib.hid hb; clear hb hb1; cases b1)
   | (go_at_call 125; (with_reducible refine (ascend_any keys _ _ (by omega) (fun k hk => by have := HKS.out k hk; omega) HKV1.out).mono ?_); rintro e w2 ⟨⟨b2, rfl, hb⟩, hb2⟩; have HB2 := Lib.hid (below_call' hb2 HB1.out HB1.out.size); have HX2 := Lib.hid (HX1.out.below hb2); clear p; have p := blk4 HX2.out; simp only [World.size_alloc] at p; have HQ2 := Lib.hid hb; clear hb hb2; cases b2)
   | fail)
  all_goals rw [← HP.out]
  ·exact ⟨⟨false, rfl, by rw [rformedP_8]; exact ⟨fun h => (by cases h), fun h => (by have := HQ1.out.2 h.1.1; cases this)⟩⟩, HB1.out⟩
  ·exact ⟨⟨false, rfl, by rw [rformedP_8]; exact ⟨fun h => (by cases h), fun h => (by have := HQ2.out.2 h.1.2; cases this)⟩⟩, HB2.out⟩
  ·exact ⟨⟨false, rfl, by rw [rformedP_8]; exact ⟨fun h => (by cases h), fun h => absurd h.2.1 HKL.out⟩⟩, HB2.out⟩
theorem rformedP_9 (nf : Int) (f : FnD) (a : Int) (s : ByteArray) (keys : List ByteArray) : FormedP nf f ⟨9, a, s, keys⟩ ↔ (OperandP nf f ⟨9, a, s, keys⟩ ∧ AscOk keys) ∧ keys.length = 0 ∧ s.toList ∈ binL := by
 unfold FormedP KeysP
 have hst : StrP ⟨9, a, s, keys⟩ ↔ s.toList ∈ binL := by simp [StrP]
 rw [hst]
 simp only [List.length_eq_zero_iff]
 constructor
 ·rintro ⟨_, ho, hs, hk⟩
  have e : keys = [] := hk.2 (by simp)
  subst e
  exact ⟨⟨ho, ascOk_nil⟩, rfl, hs⟩
 ·rintro ⟨⟨ho, ha⟩, he, hs⟩
  exact ⟨⟨by simp, by simp⟩, ho, hs, ⟨fun _ => ha, fun h => he⟩⟩
set_option maxHeartbeats 4000000 in
theorem rformed_9 (nf ncap : Nat) (A B : Option Addr) (f : FnD) (a : Int) (s : ByteArray) (keys : List ByteArray) (kv : Value) (w : World) (hnf : nf ≤ 40) (hf : FnSmall f) (hi : InsOk ⟨9, a, s, keys⟩) (hk : KeysV w kv keys) (ni : Nat) (icap : Nat) :
  Calls Tryz.prog 89 #[.agg #[.slice A nf ncap, .slice B ni icap], f.val, .agg #[.int .i64 9, .int .i64 a, .string s, kv]] w fun e w' => (∃ b, e = .returned (.bool b) ∧ (b = true ↔ FormedP nf f ⟨9, a, s, keys⟩)) ∧ Below w.heap.size w w' := by
 have hOP0 := fun wx hkx => roperand_9 nf ncap A B f a s keys kv wx hnf hf hi hkx ni icap
 obtain ⟨name, params, locals, entry, fin⟩ := f
 obtain ⟨⟨_, _⟩, ⟨hl0, hl1⟩, ⟨he0, he1, he2⟩⟩ := hf
 obtain ⟨hs1, hk1, hks⟩ := hi
 dsimp only at hl0 hl1 he0 he1 he2 hs1 hk1 hks
 have hb3 := below_3 w (.cells #[.slice A nf ncap, .slice B ni icap] 25) (.cells #[.string name, .int .i64 params, .int .i64 locals, .int .i64 entry, .int .i64 fin] 55) (.cells #[.int .i64 9, .int .i64 a, .string s, kv] 59)
 have HB3 := Lib.hid hb3
 have HKV := Lib.hid (hk.below hb3)
 have HKS := Lib.hid hks
 have HS1 := Lib.hid hs1
 have hnf0 : (0 : Int) ≤ (nf : Int) := by omega
 have hnf9 : (nf : Int) ≤ 40 := by omega
 have HOP : Hid (∀ wx, KeysV wx kv keys → Calls Tryz.prog 124 #[.agg #[.slice A nf ncap, .slice B ni icap], .agg #[.string name, .int .i64 params, .int .i64 locals, .int .i64 entry, .int .i64 fin], .agg #[.int .i64 9, .int .i64 a, .string s, kv]] wx fun e w' => (∃ b, e = .returned (.bool b) ∧ (b = true ↔ OperandP nf ⟨name, params, locals, entry, fin⟩ ⟨9, a, s, keys⟩)) ∧ Below wx.heap.size wx w') := Lib.hid hOP0
 clear hOP0
 have HX := Lib.hid (Blk.new ((w.alloc (.cells #[.slice A nf ncap, .slice B ni icap] 25)).alloc (.cells #[.string name, .int .i64 params, .int .i64 locals, .int .i64 entry, .int .i64 fin] 55)) 59 #[.int .i64 9, .int .i64 a, .string s, kv])
 obtain ⟨kA, kcap, rfl, _, _⟩ := hk
 obtain ⟨P, hP⟩ : ∃ P : Ending → World → Prop, (fun e w' => (∃ b, e = .returned (.bool b) ∧ (b = true ↔ FormedP nf ⟨name, params, locals, entry, fin⟩ ⟨9, a, s, keys⟩)) ∧ Below w.heap.size w w') = P := ⟨_, rfl⟩
 rw [hP]
 have HP := Lib.hid hP
 unfold FnD.val
 clear hP hb3 hks
 by_cases hkl : keys.length = 0
 ·have HKL := Lib.hid hkl
  have hkl1 : ¬ 0 < keys.length := by omega
  clear hkl
  go_enter Tryz.func89, Tryz.ntmps89
  go_wp2_with (first
   | (go_at_call 124; (with_reducible refine (HOP.out _ HKV.out).mono ?_); rintro e w1 ⟨⟨b1, rfl, hb⟩, hb1⟩; have HB1 := Lib.hid (below_call hb1 HB3.out); have HX1 := Lib.hid (HX.out.below hb1); have HKV1 := Lib.hid (HKV.out.below hb1); have p := blk4 HX1.out; simp only [World.size_alloc] at p; have HQ1 := Lib.hid hb; clear hb hb1; cases b1)
   | (go_at_call 125; (with_reducible refine (ascend_any keys _ _ (by omega) (fun k hk => by have := HKS.out k hk; omega) HKV1.out).mono ?_); rintro e w2 ⟨⟨b2, rfl, hb⟩, hb2⟩; have HB2 := Lib.hid (below_call' hb2 HB1.out HB1.out.size); have HX2 := Lib.hid (HX1.out.below hb2); clear p; have p := blk4 HX2.out; simp only [World.size_alloc] at p; have HQ2 := Lib.hid hb; clear hb hb2; cases b2)
   | (go_at_call 127; (with_reducible refine (rbinary_any s _).mono ?_); rintro e w3 ⟨⟨b3, rfl, hb⟩, hw3⟩; rw [hw3]; clear hw3 w3; have HQ3 := Lib.hid hb; clear hb))
  all_goals rw [← HP.out]
  ·exact ⟨⟨false, rfl, by rw [rformedP_9]; exact ⟨fun h => (by cases h), fun h => (by have := HQ1.out.2 h.1.1; cases this)⟩⟩, HB1.out⟩
  ·exact ⟨⟨false, rfl, by rw [rformedP_9]; exact ⟨fun h => (by cases h), fun h => (by have := HQ2.out.2 h.1.2; cases this)⟩⟩, HB2.out⟩
  ·exact ⟨⟨b3, rfl, by rw [rformedP_9]; exact ⟨fun h => ⟨⟨HQ1.out.1 (by trivial), HQ2.out.1 (by trivial)⟩, HKL.out, HQ3.out.1 h⟩, fun h => HQ3.out.2 h.2.2⟩⟩, HB2.out⟩
 ·have HKL := Lib.hid hkl
  have hkl1 : 0 < keys.length := by omega
  clear hkl
  go_enter Tryz.func89, Tryz.ntmps89
  go_wp2_with (first
   | (go_at_call 124; (with_reducible refine (HOP.out _ HKV.out).mono ?_); rintro e w1 ⟨⟨b1, rfl, hb⟩, hb1⟩; have HB1 := Lib.hid (below_call hb1 HB3.out); have HX1 := Lib.hid (HX.out.below hb1); have HKV1 := Lib.hid (HKV.out.below hb1); have p := blk4 HX1.out; simp only [World.size_alloc] at p; have HQ1 := Lib.hid hb; clear hb hb1; cases b1)
   | (go_at_call 125; (with_reducible refine (ascend_any keys _ _ (by omega) (fun k hk => by have := HKS.out k hk; omega) HKV1.out).mono ?_); rintro e w2 ⟨⟨b2, rfl, hb⟩, hb2⟩; have HB2 := Lib.hid (below_call' hb2 HB1.out HB1.out.size); have HX2 := Lib.hid (HX1.out.below hb2); clear p; have p := blk4 HX2.out; simp only [World.size_alloc] at p; have HQ2 := Lib.hid hb; clear hb hb2; cases b2)
   | (go_at_call 127; (with_reducible refine (rbinary_any s _).mono ?_); rintro e w3 ⟨⟨b3, rfl, hb⟩, hw3⟩; rw [hw3]; clear hw3 w3; have HQ3 := Lib.hid hb; clear hb))
  all_goals rw [← HP.out]
  ·exact ⟨⟨false, rfl, by rw [rformedP_9]; exact ⟨fun h => (by cases h), fun h => (by have := HQ1.out.2 h.1.1; cases this)⟩⟩, HB1.out⟩
  ·exact ⟨⟨false, rfl, by rw [rformedP_9]; exact ⟨fun h => (by cases h), fun h => (by have := HQ2.out.2 h.1.2; cases this)⟩⟩, HB2.out⟩
  ·exact ⟨⟨false, rfl, by rw [rformedP_9]; exact ⟨fun h => (by cases h), fun h => absurd h.2.1 HKL.out⟩⟩, HB2.out⟩
theorem rformedP_12 (nf : Int) (f : FnD) (a : Int) (s : ByteArray) (keys : List ByteArray) : FormedP nf f ⟨12, a, s, keys⟩ ↔ (OperandP nf f ⟨12, a, s, keys⟩ ∧ AscOk keys) ∧ True ∧ s.size = 0 := by
 unfold FormedP KeysP
 have hst : StrP ⟨12, a, s, keys⟩ ↔ s.size = 0 := by simp [StrP]
 rw [hst]
 skip
 constructor
 ·rintro ⟨_, ho, hs, hk⟩
  skip
  skip
  exact ⟨⟨ho, hk.1 rfl⟩, trivial, hs⟩
 ·rintro ⟨⟨ho, ha⟩, he, hs⟩
  exact ⟨⟨by simp, by simp⟩, ho, hs, ⟨fun _ => ha, fun h => absurd rfl h⟩⟩
set_option maxHeartbeats 4000000 in
theorem rformed_12 (nf ncap : Nat) (A B : Option Addr) (f : FnD) (a : Int) (s : ByteArray) (keys : List ByteArray) (kv : Value) (w : World) (hnf : nf ≤ 40) (hf : FnSmall f) (hi : InsOk ⟨12, a, s, keys⟩) (hk : KeysV w kv keys) (ni : Nat) (icap : Nat) :
  Calls Tryz.prog 89 #[.agg #[.slice A nf ncap, .slice B ni icap], f.val, .agg #[.int .i64 12, .int .i64 a, .string s, kv]] w fun e w' => (∃ b, e = .returned (.bool b) ∧ (b = true ↔ FormedP nf f ⟨12, a, s, keys⟩)) ∧ Below w.heap.size w w' := by
 have hOP0 := fun wx hkx => roperand_12 nf ncap A B f a s keys kv wx hnf hf hi hkx ni icap
 obtain ⟨name, params, locals, entry, fin⟩ := f
 obtain ⟨⟨_, _⟩, ⟨hl0, hl1⟩, ⟨he0, he1, he2⟩⟩ := hf
 obtain ⟨hs1, hk1, hks⟩ := hi
 dsimp only at hl0 hl1 he0 he1 he2 hs1 hk1 hks
 have hb3 := below_3 w (.cells #[.slice A nf ncap, .slice B ni icap] 25) (.cells #[.string name, .int .i64 params, .int .i64 locals, .int .i64 entry, .int .i64 fin] 55) (.cells #[.int .i64 12, .int .i64 a, .string s, kv] 59)
 have HB3 := Lib.hid hb3
 have HKV := Lib.hid (hk.below hb3)
 have HKS := Lib.hid hks
 have HS1 := Lib.hid hs1
 have hnf0 : (0 : Int) ≤ (nf : Int) := by omega
 have hnf9 : (nf : Int) ≤ 40 := by omega
 have HOP : Hid (∀ wx, KeysV wx kv keys → Calls Tryz.prog 124 #[.agg #[.slice A nf ncap, .slice B ni icap], .agg #[.string name, .int .i64 params, .int .i64 locals, .int .i64 entry, .int .i64 fin], .agg #[.int .i64 12, .int .i64 a, .string s, kv]] wx fun e w' => (∃ b, e = .returned (.bool b) ∧ (b = true ↔ OperandP nf ⟨name, params, locals, entry, fin⟩ ⟨12, a, s, keys⟩)) ∧ Below wx.heap.size wx w') := Lib.hid hOP0
 clear hOP0
 have HX := Lib.hid (Blk.new ((w.alloc (.cells #[.slice A nf ncap, .slice B ni icap] 25)).alloc (.cells #[.string name, .int .i64 params, .int .i64 locals, .int .i64 entry, .int .i64 fin] 55)) 59 #[.int .i64 12, .int .i64 a, .string s, kv])
 obtain ⟨kA, kcap, rfl, _, _⟩ := hk
 obtain ⟨P, hP⟩ : ∃ P : Ending → World → Prop, (fun e w' => (∃ b, e = .returned (.bool b) ∧ (b = true ↔ FormedP nf ⟨name, params, locals, entry, fin⟩ ⟨12, a, s, keys⟩)) ∧ Below w.heap.size w w') = P := ⟨_, rfl⟩
 rw [hP]
 have HP := Lib.hid hP
 unfold FnD.val
 clear hP hb3 hks
 go_enter Tryz.func89, Tryz.ntmps89
 go_wp2_with (first
  | (go_at_call 124; (with_reducible refine (HOP.out _ HKV.out).mono ?_); rintro e w1 ⟨⟨b1, rfl, hb⟩, hb1⟩; have HB1 := Lib.hid (below_call hb1 HB3.out); have HX1 := Lib.hid (HX.out.below hb1); have HKV1 := Lib.hid (HKV.out.below hb1); have p := blk4 HX1.out; simp only [World.size_alloc] at p; have HQ1 := Lib.hid hb; clear hb hb1; cases b1)
  | (go_at_call 125; (with_reducible refine (ascend_any keys _ _ (by omega) (fun k hk => by have := HKS.out k hk; omega) HKV1.out).mono ?_); rintro e w2 ⟨⟨b2, rfl, hb⟩, hb2⟩; have HB2 := Lib.hid (below_call' hb2 HB1.out HB1.out.size); have HX2 := Lib.hid (HX1.out.below hb2); clear p; have p := blk4 HX2.out; simp only [World.size_alloc] at p; have HQ2 := Lib.hid hb; clear hb hb2; cases b2)
  | fail)
 all_goals rw [← HP.out]
 ·exact ⟨⟨false, rfl, by rw [rformedP_12]; exact ⟨fun h => (by cases h), fun h => (by have := HQ1.out.2 h.1.1; cases this)⟩⟩, HB1.out⟩
 ·exact ⟨⟨false, rfl, by rw [rformedP_12]; exact ⟨fun h => (by cases h), fun h => (by have := HQ2.out.2 h.1.2; cases this)⟩⟩, HB2.out⟩
 ·exact ⟨⟨s.toList.isEmpty, rfl, by rw [rformedP_12, isEmpty_sz]; exact ⟨fun h => ⟨⟨HQ1.out.1 (by trivial), HQ2.out.1 (by trivial)⟩, trivial, h⟩, fun h => h.2.2⟩⟩, HB2.out⟩
theorem rformedP_18 (nf : Int) (f : FnD) (a : Int) (s : ByteArray) (keys : List ByteArray) : FormedP nf f ⟨18, a, s, keys⟩ ↔ (OperandP nf f ⟨18, a, s, keys⟩ ∧ AscOk keys) ∧ keys.length = 0 ∧ True := by
 unfold FormedP KeysP
 have hst : StrP ⟨18, a, s, keys⟩ ↔ True := by simp [StrP]
 rw [hst]
 simp only [List.length_eq_zero_iff]
 constructor
 ·rintro ⟨_, ho, hs, hk⟩
  have e : keys = [] := hk.2 (by simp)
  subst e
  exact ⟨⟨ho, ascOk_nil⟩, rfl, hs⟩
 ·rintro ⟨⟨ho, ha⟩, he, hs⟩
  exact ⟨⟨by simp, by simp⟩, ho, hs, ⟨fun _ => ha, fun h => he⟩⟩
set_option maxHeartbeats 4000000 in
theorem rformed_18 (nf ncap : Nat) (A B : Option Addr) (f : FnD) (a : Int) (s : ByteArray) (keys : List ByteArray) (kv : Value) (w : World) (hnf : nf ≤ 40) (hf : FnSmall f) (hi : InsOk ⟨18, a, s, keys⟩) (hk : KeysV w kv keys) (ni : Nat) (icap : Nat) :
  Calls Tryz.prog 89 #[.agg #[.slice A nf ncap, .slice B ni icap], f.val, .agg #[.int .i64 18, .int .i64 a, .string s, kv]] w fun e w' => (∃ b, e = .returned (.bool b) ∧ (b = true ↔ FormedP nf f ⟨18, a, s, keys⟩)) ∧ Below w.heap.size w w' := by
 have hOP0 := fun wx hkx => roperand_18 nf ncap A B f a s keys kv wx hnf hf hi hkx ni icap
 obtain ⟨name, params, locals, entry, fin⟩ := f
 obtain ⟨⟨_, _⟩, ⟨hl0, hl1⟩, ⟨he0, he1, he2⟩⟩ := hf
 obtain ⟨hs1, hk1, hks⟩ := hi
 dsimp only at hl0 hl1 he0 he1 he2 hs1 hk1 hks
 have hb3 := below_3 w (.cells #[.slice A nf ncap, .slice B ni icap] 25) (.cells #[.string name, .int .i64 params, .int .i64 locals, .int .i64 entry, .int .i64 fin] 55) (.cells #[.int .i64 18, .int .i64 a, .string s, kv] 59)
 have HB3 := Lib.hid hb3
 have HKV := Lib.hid (hk.below hb3)
 have HKS := Lib.hid hks
 have HS1 := Lib.hid hs1
 have hnf0 : (0 : Int) ≤ (nf : Int) := by omega
 have hnf9 : (nf : Int) ≤ 40 := by omega
 have HOP : Hid (∀ wx, KeysV wx kv keys → Calls Tryz.prog 124 #[.agg #[.slice A nf ncap, .slice B ni icap], .agg #[.string name, .int .i64 params, .int .i64 locals, .int .i64 entry, .int .i64 fin], .agg #[.int .i64 18, .int .i64 a, .string s, kv]] wx fun e w' => (∃ b, e = .returned (.bool b) ∧ (b = true ↔ OperandP nf ⟨name, params, locals, entry, fin⟩ ⟨18, a, s, keys⟩)) ∧ Below wx.heap.size wx w') := Lib.hid hOP0
 clear hOP0
 have HX := Lib.hid (Blk.new ((w.alloc (.cells #[.slice A nf ncap, .slice B ni icap] 25)).alloc (.cells #[.string name, .int .i64 params, .int .i64 locals, .int .i64 entry, .int .i64 fin] 55)) 59 #[.int .i64 18, .int .i64 a, .string s, kv])
 obtain ⟨kA, kcap, rfl, _, _⟩ := hk
 obtain ⟨P, hP⟩ : ∃ P : Ending → World → Prop, (fun e w' => (∃ b, e = .returned (.bool b) ∧ (b = true ↔ FormedP nf ⟨name, params, locals, entry, fin⟩ ⟨18, a, s, keys⟩)) ∧ Below w.heap.size w w') = P := ⟨_, rfl⟩
 rw [hP]
 have HP := Lib.hid hP
 unfold FnD.val
 clear hP hb3 hks
 by_cases hkl : keys.length = 0
 ·have HKL := Lib.hid hkl
  have hkl1 : ¬ 0 < keys.length := by omega
  clear hkl
  go_enter Tryz.func89, Tryz.ntmps89
  go_wp2_with (first
   | (go_at_call 124; (with_reducible refine (HOP.out _ HKV.out).mono ?_); rintro e w1 ⟨⟨b1, rfl, hb⟩, hb1⟩; have HB1 := Lib.hid (below_call hb1 HB3.out); have HX1 := Lib.hid (HX.out.below hb1); have HKV1 := Lib.hid (HKV.out.below hb1); have p := blk4 HX1.out; simp only [World.size_alloc] at p; have HQ1 := Lib.hid hb; clear hb hb1; cases b1)
   | (go_at_call 125; (with_reducible refine (ascend_any keys _ _ (by omega) (fun k hk => by have := HKS.out k hk; omega) HKV1.out).mono ?_); rintro e w2 ⟨⟨b2, rfl, hb⟩, hb2⟩; have HB2 := Lib.hid (below_call' hb2 HB1.out HB1.out.size); have HX2 := Lib.hid (HX1.out.below hb2); clear p; have p := blk4 HX2.out; simp only [World.size_alloc] at p; have HQ2 := Lib.hid hb; clear hb hb2; cases b2)
   | fail)
  all_goals rw [← HP.out]
  ·exact ⟨⟨false, rfl, by rw [rformedP_18]; exact ⟨fun h => (by cases h), fun h => (by have := HQ1.out.2 h.1.1; cases this)⟩⟩, HB1.out⟩
  ·exact ⟨⟨false, rfl, by rw [rformedP_18]; exact ⟨fun h => (by cases h), fun h => (by have := HQ2.out.2 h.1.2; cases this)⟩⟩, HB2.out⟩
  ·exact ⟨⟨true, rfl, by rw [rformedP_18]; exact ⟨fun h => ⟨⟨HQ1.out.1 (by trivial), HQ2.out.1 (by trivial)⟩, HKL.out, trivial⟩, fun h => rfl⟩⟩, HB2.out⟩
 ·have HKL := Lib.hid hkl
  have hkl1 : 0 < keys.length := by omega
  clear hkl
  go_enter Tryz.func89, Tryz.ntmps89
  go_wp2_with (first
   | (go_at_call 124; (with_reducible refine (HOP.out _ HKV.out).mono ?_); rintro e w1 ⟨⟨b1, rfl, hb⟩, hb1⟩; have HB1 := Lib.hid (below_call hb1 HB3.out); have HX1 := Lib.hid (HX.out.below hb1); have HKV1 := Lib.hid (HKV.out.below hb1); have p := blk4 HX1.out; simp only [World.size_alloc] at p; have HQ1 := Lib.hid hb; clear hb hb1; cases b1)
   | (go_at_call 125; (with_reducible refine (ascend_any keys _ _ (by omega) (fun k hk => by have := HKS.out k hk; omega) HKV1.out).mono ?_); rintro e w2 ⟨⟨b2, rfl, hb⟩, hb2⟩; have HB2 := Lib.hid (below_call' hb2 HB1.out HB1.out.size); have HX2 := Lib.hid (HX1.out.below hb2); clear p; have p := blk4 HX2.out; simp only [World.size_alloc] at p; have HQ2 := Lib.hid hb; clear hb hb2; cases b2)
   | fail)
  all_goals rw [← HP.out]
  ·exact ⟨⟨false, rfl, by rw [rformedP_18]; exact ⟨fun h => (by cases h), fun h => (by have := HQ1.out.2 h.1.1; cases this)⟩⟩, HB1.out⟩
  ·exact ⟨⟨false, rfl, by rw [rformedP_18]; exact ⟨fun h => (by cases h), fun h => (by have := HQ2.out.2 h.1.2; cases this)⟩⟩, HB2.out⟩
  ·exact ⟨⟨false, rfl, by rw [rformedP_18]; exact ⟨fun h => (by cases h), fun h => absurd h.2.1 HKL.out⟩⟩, HB2.out⟩
theorem rformedP_19 (nf : Int) (f : FnD) (a : Int) (s : ByteArray) (keys : List ByteArray) : FormedP nf f ⟨19, a, s, keys⟩ ↔ (OperandP nf f ⟨19, a, s, keys⟩ ∧ AscOk keys) ∧ keys.length = 0 ∧ True := by
 unfold FormedP KeysP
 have hst : StrP ⟨19, a, s, keys⟩ ↔ True := by simp [StrP]
 rw [hst]
 simp only [List.length_eq_zero_iff]
 constructor
 ·rintro ⟨_, ho, hs, hk⟩
  have e : keys = [] := hk.2 (by simp)
  subst e
  exact ⟨⟨ho, ascOk_nil⟩, rfl, hs⟩
 ·rintro ⟨⟨ho, ha⟩, he, hs⟩
  exact ⟨⟨by simp, by simp⟩, ho, hs, ⟨fun _ => ha, fun h => he⟩⟩
set_option maxHeartbeats 4000000 in
theorem rformed_19 (nf ncap : Nat) (A B : Option Addr) (f : FnD) (a : Int) (s : ByteArray) (keys : List ByteArray) (kv : Value) (w : World) (hnf : nf ≤ 40) (hf : FnSmall f) (hi : InsOk ⟨19, a, s, keys⟩) (hk : KeysV w kv keys) (ni : Nat) (icap : Nat) :
  Calls Tryz.prog 89 #[.agg #[.slice A nf ncap, .slice B ni icap], f.val, .agg #[.int .i64 19, .int .i64 a, .string s, kv]] w fun e w' => (∃ b, e = .returned (.bool b) ∧ (b = true ↔ FormedP nf f ⟨19, a, s, keys⟩)) ∧ Below w.heap.size w w' := by
 have hOP0 := fun wx hkx => roperand_19 nf ncap A B f a s keys kv wx hnf hf hi hkx ni icap
 obtain ⟨name, params, locals, entry, fin⟩ := f
 obtain ⟨⟨_, _⟩, ⟨hl0, hl1⟩, ⟨he0, he1, he2⟩⟩ := hf
 obtain ⟨hs1, hk1, hks⟩ := hi
 dsimp only at hl0 hl1 he0 he1 he2 hs1 hk1 hks
 have hb3 := below_3 w (.cells #[.slice A nf ncap, .slice B ni icap] 25) (.cells #[.string name, .int .i64 params, .int .i64 locals, .int .i64 entry, .int .i64 fin] 55) (.cells #[.int .i64 19, .int .i64 a, .string s, kv] 59)
 have HB3 := Lib.hid hb3
 have HKV := Lib.hid (hk.below hb3)
 have HKS := Lib.hid hks
 have HS1 := Lib.hid hs1
 have hnf0 : (0 : Int) ≤ (nf : Int) := by omega
 have hnf9 : (nf : Int) ≤ 40 := by omega
 have HOP : Hid (∀ wx, KeysV wx kv keys → Calls Tryz.prog 124 #[.agg #[.slice A nf ncap, .slice B ni icap], .agg #[.string name, .int .i64 params, .int .i64 locals, .int .i64 entry, .int .i64 fin], .agg #[.int .i64 19, .int .i64 a, .string s, kv]] wx fun e w' => (∃ b, e = .returned (.bool b) ∧ (b = true ↔ OperandP nf ⟨name, params, locals, entry, fin⟩ ⟨19, a, s, keys⟩)) ∧ Below wx.heap.size wx w') := Lib.hid hOP0
 clear hOP0
 have HX := Lib.hid (Blk.new ((w.alloc (.cells #[.slice A nf ncap, .slice B ni icap] 25)).alloc (.cells #[.string name, .int .i64 params, .int .i64 locals, .int .i64 entry, .int .i64 fin] 55)) 59 #[.int .i64 19, .int .i64 a, .string s, kv])
 obtain ⟨kA, kcap, rfl, _, _⟩ := hk
 obtain ⟨P, hP⟩ : ∃ P : Ending → World → Prop, (fun e w' => (∃ b, e = .returned (.bool b) ∧ (b = true ↔ FormedP nf ⟨name, params, locals, entry, fin⟩ ⟨19, a, s, keys⟩)) ∧ Below w.heap.size w w') = P := ⟨_, rfl⟩
 rw [hP]
 have HP := Lib.hid hP
 unfold FnD.val
 clear hP hb3 hks
 by_cases hkl : keys.length = 0
 ·have HKL := Lib.hid hkl
  have hkl1 : ¬ 0 < keys.length := by omega
  clear hkl
  go_enter Tryz.func89, Tryz.ntmps89
  go_wp2_with (first
   | (go_at_call 124; (with_reducible refine (HOP.out _ HKV.out).mono ?_); rintro e w1 ⟨⟨b1, rfl, hb⟩, hb1⟩; have HB1 := Lib.hid (below_call hb1 HB3.out); have HX1 := Lib.hid (HX.out.below hb1); have HKV1 := Lib.hid (HKV.out.below hb1); have p := blk4 HX1.out; simp only [World.size_alloc] at p; have HQ1 := Lib.hid hb; clear hb hb1; cases b1)
   | (go_at_call 125; (with_reducible refine (ascend_any keys _ _ (by omega) (fun k hk => by have := HKS.out k hk; omega) HKV1.out).mono ?_); rintro e w2 ⟨⟨b2, rfl, hb⟩, hb2⟩; have HB2 := Lib.hid (below_call' hb2 HB1.out HB1.out.size); have HX2 := Lib.hid (HX1.out.below hb2); clear p; have p := blk4 HX2.out; simp only [World.size_alloc] at p; have HQ2 := Lib.hid hb; clear hb hb2; cases b2)
   | fail)
  all_goals rw [← HP.out]
  ·exact ⟨⟨false, rfl, by rw [rformedP_19]; exact ⟨fun h => (by cases h), fun h => (by have := HQ1.out.2 h.1.1; cases this)⟩⟩, HB1.out⟩
  ·exact ⟨⟨false, rfl, by rw [rformedP_19]; exact ⟨fun h => (by cases h), fun h => (by have := HQ2.out.2 h.1.2; cases this)⟩⟩, HB2.out⟩
  ·exact ⟨⟨true, rfl, by rw [rformedP_19]; exact ⟨fun h => ⟨⟨HQ1.out.1 (by trivial), HQ2.out.1 (by trivial)⟩, HKL.out, trivial⟩, fun h => rfl⟩⟩, HB2.out⟩
 ·have HKL := Lib.hid hkl
  have hkl1 : 0 < keys.length := by omega
  clear hkl
  go_enter Tryz.func89, Tryz.ntmps89
  go_wp2_with (first
   | (go_at_call 124; (with_reducible refine (HOP.out _ HKV.out).mono ?_); rintro e w1 ⟨⟨b1, rfl, hb⟩, hb1⟩; have HB1 := Lib.hid (below_call hb1 HB3.out); have HX1 := Lib.hid (HX.out.below hb1); have HKV1 := Lib.hid (HKV.out.below hb1); have p := blk4 HX1.out; simp only [World.size_alloc] at p; have HQ1 := Lib.hid hb; clear hb hb1; cases b1)
   | (go_at_call 125; (with_reducible refine (ascend_any keys _ _ (by omega) (fun k hk => by have := HKS.out k hk; omega) HKV1.out).mono ?_); rintro e w2 ⟨⟨b2, rfl, hb⟩, hb2⟩; have HB2 := Lib.hid (below_call' hb2 HB1.out HB1.out.size); have HX2 := Lib.hid (HX1.out.below hb2); clear p; have p := blk4 HX2.out; simp only [World.size_alloc] at p; have HQ2 := Lib.hid hb; clear hb hb2; cases b2)
   | fail)
  all_goals rw [← HP.out]
  ·exact ⟨⟨false, rfl, by rw [rformedP_19]; exact ⟨fun h => (by cases h), fun h => (by have := HQ1.out.2 h.1.1; cases this)⟩⟩, HB1.out⟩
  ·exact ⟨⟨false, rfl, by rw [rformedP_19]; exact ⟨fun h => (by cases h), fun h => (by have := HQ2.out.2 h.1.2; cases this)⟩⟩, HB2.out⟩
  ·exact ⟨⟨false, rfl, by rw [rformedP_19]; exact ⟨fun h => (by cases h), fun h => absurd h.2.1 HKL.out⟩⟩, HB2.out⟩
theorem rformed_any (nf ncap : Nat) (A B : Option Addr) (f : FnD) (i : InsD) (kv : Value) (w : World) (hnf : nf ≤ 40) (hf : FnSmall f) (hi : InsOk i) (hk : KeysV w kv i.keys) (ni : Nat) (icap : Nat) :
  Calls Tryz.prog 89 #[.agg #[.slice A nf ncap, .slice B ni icap], f.val, .agg #[.int .i64 i.op, .int .i64 i.a, .string i.s, kv]] w fun e w' => (∃ b, e = .returned (.bool b) ∧ (b = true ↔ FormedP nf f i)) ∧ Below w.heap.size w w' := by
 obtain ⟨op, a, s, keys⟩ := i
 by_cases h : 1 ≤ op ∧ op ≤ 20
 ·have : op = 1 ∨ op = 2 ∨ op = 3 ∨ op = 4 ∨ op = 5 ∨ op = 6 ∨ op = 7 ∨ op = 8 ∨ op = 9 ∨ op = 10 ∨ op = 11 ∨ op = 12 ∨ op = 13 ∨ op = 14 ∨ op = 15 ∨ op = 16 ∨ op = 17 ∨ op = 18 ∨ op = 19 ∨ op = 20 := by omega
  rcases this with rfl | rfl | rfl | rfl | rfl | rfl | rfl | rfl | rfl | rfl | rfl | rfl | rfl | rfl | rfl | rfl | rfl | rfl | rfl | rfl
  ·exact rformed_k9 _ (by simp) nf ncap A B f a s keys kv w hnf hf hi hk ni icap
  ·exact rformed_k9 _ (by simp) nf ncap A B f a s keys kv w hnf hf hi hk ni icap
  ·exact rformed_k9 _ (by simp) nf ncap A B f a s keys kv w hnf hf hi hk ni icap
  ·exact rformed_4 nf ncap A B f a s keys kv w hnf hf hi hk ni icap
  ·exact rformed_k9 _ (by simp) nf ncap A B f a s keys kv w hnf hf hi hk ni icap
  ·exact rformed_k9 _ (by simp) nf ncap A B f a s keys kv w hnf hf hi hk ni icap
  ·exact rformed_k9 _ (by simp) nf ncap A B f a s keys kv w hnf hf hi hk ni icap
  ·exact rformed_8 nf ncap A B f a s keys kv w hnf hf hi hk ni icap
  ·exact rformed_9 nf ncap A B f a s keys kv w hnf hf hi hk ni icap
  ·exact rformed_k9 _ (by simp) nf ncap A B f a s keys kv w hnf hf hi hk ni icap
  ·exact rformed_k9 _ (by simp) nf ncap A B f a s keys kv w hnf hf hi hk ni icap
  ·exact rformed_12 nf ncap A B f a s keys kv w hnf hf hi hk ni icap
  ·exact rformed_k9 _ (by simp) nf ncap A B f a s keys kv w hnf hf hi hk ni icap
  ·exact rformed_k9 _ (by simp) nf ncap A B f a s keys kv w hnf hf hi hk ni icap
  ·exact rformed_k9 _ (by simp) nf ncap A B f a s keys kv w hnf hf hi hk ni icap
  ·exact rformed_k9 _ (by simp) nf ncap A B f a s keys kv w hnf hf hi hk ni icap
  ·exact rformed_k9 _ (by simp) nf ncap A B f a s keys kv w hnf hf hi hk ni icap
  ·exact rformed_18 nf ncap A B f a s keys kv w hnf hf hi hk ni icap
  ·exact rformed_19 nf ncap A B f a s keys kv w hnf hf hi hk ni icap
  ·exact rformed_k9 _ (by simp) nf ncap A B f a s keys kv w hnf hf hi hk ni icap
 ·have HN : Hid (¬ FormedP nf f ⟨op, a, s, keys⟩) := Lib.hid (fun hh => h hh.1)
  have hb3 := below_3 w (.cells #[.slice A nf ncap, .slice B ni icap] 25) (.cells #[.string f.name, .int .i64 f.params, .int .i64 f.locals, .int .i64 f.entry, .int .i64 f.fin] 55) (.cells #[.int .i64 op, .int .i64 a, .string s, kv] 59)
  have HB3 := Lib.hid hb3
  obtain ⟨P, hP⟩ : ∃ P : Ending → World → Prop, (fun e w' => (∃ b, e = .returned (.bool b) ∧ (b = true ↔ FormedP nf f ⟨op, a, s, keys⟩)) ∧ Below w.heap.size w w') = P := ⟨_, rfl⟩
  rw [hP]
  have HP := Lib.hid hP
  unfold FnD.val
  clear hP hb3 hk
  by_cases h1 : 1 ≤ op
  ·have h2 : 20 < op := by omega
   have h1' : ¬ op < 1 := by omega
   clear h
   go_enter Tryz.func89, Tryz.ntmps89
   go_wp2_with (fail)
   rw [← HP.out]
   exact ⟨⟨false, rfl, ⟨fun h => (by cases h), fun h => absurd h HN.out⟩⟩, HB3.out⟩
  ·have h1' : op < 1 := by omega
   clear h
   go_enter Tryz.func89, Tryz.ntmps89
   go_wp2_with (fail)
   rw [← HP.out]
   exact ⟨⟨false, rfl, ⟨fun h => (by cases h), fun h => absurd h HN.out⟩⟩, HB3.out⟩
end Go.Proofs.YtmljohbialacfaaGreatDoor
