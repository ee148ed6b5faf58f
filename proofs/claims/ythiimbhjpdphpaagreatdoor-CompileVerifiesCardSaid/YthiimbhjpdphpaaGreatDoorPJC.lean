/- W16, JC -/
import Derived.Test.YthiimbhjpdphpaaGreatDoorPPA
import Derived.Test.YthiimbhjpdphpaaGreatDoorPK3
set_option linter.unusedVariables false
set_option linter.unusedSimpArgs false
set_option linter.unusedVariables false
namespace Go.Proofs.YthiimbhjpdphpaaGreatDoor
open Go.RowKit
theorem lvl_size {s : ByteArray} (h : 0 < lvlF s) : s.toList.length ≤ 3 := by
 unfold lvlF at h
 by_cases h1 : s.toList = [111, 114]
 ·rw [h1]; decide
 rw [if_neg h1] at h
 by_cases h2 : s.toList = [97, 110, 100]
 ·rw [h2]; decide
 rw [if_neg h2] at h
 by_cases h3 : s.toList ∈ ([[61, 61], [33, 61], [60], [60, 61], [62], [62, 61]] : List (List UInt8))
 ·simp only [List.mem_cons, List.not_mem_nil, or_false] at h3
  rcases h3 with h3 | h3 | h3 | h3 | h3 | h3 <;> rw [h3] <;> decide
 rw [if_neg h3] at h
 by_cases h4 : s.toList ∈ ([[43], [45]] : List (List UInt8))
 ·simp only [List.mem_cons, List.not_mem_nil, or_false] at h4
  rcases h4 with h4 | h4 <;> rw [h4] <;> decide
 rw [if_neg h4] at h
 by_cases h5 : s.toList ∈ ([[42], [47], [37]] : List (List UInt8))
 ·simp only [List.mem_cons, List.not_mem_nil, or_false] at h5
  rcases h5 with h5 | h5 | h5 <;> rw [h5] <;> decide
 rw [if_neg h5] at h
 omega
theorem size_toL (s : ByteArray) : s.toList.length = s.size := by
 rw [ByteArray.toList_eq, Array.length_toList]
 rfl
theorem run_small {s : ByteArray} (h : runB s = true) : s.size ≤ 24 := by
 unfold runB at h
 simp only [Bool.and_eq_true, decide_eq_true_eq] at h
 exact h.1
theorem str_small {s : ByteArray} (h : strB s = true) : s.size ≤ 200 := by
 unfold strB at h
 simp only [Bool.and_eq_true, decide_eq_true_eq] at h
 exact h.2
theorem name_small {s : ByteArray} (h : nameB s = true) : s.size ≤ 24 := by
 unfold nameB at h
 simp only [Bool.and_eq_true] at h
 exact run_small h.1
theorem keys_small {l : List ByteArray} (h : keysB l = true) : ∀ k ∈ l, k.size ≤ 200 := by
 intro k hk
 obtain ⟨i, hi, rfl⟩ := List.getElem_of_mem hk
 unfold keysB at h
 rw [List.all_eq_true] at h
 have := h i (List.mem_range.2 hi)
 unfold keyAtB at this
 simp only [Bool.and_eq_true] at this
 have h2 := str_small this.1
 rwa [getD_at hi] at h2
theorem fields_small {n : NodeD} (h : fieldsB n = true) : n.text.size ≤ 200 ∧ ∀ k ∈ n.keys, k.size ≤ 200 := by
 unfold fieldsB at h
 by_cases h0 : (n.kind ≠ 7 ∧ n.keys ≠ []) ∨ (n.kind ≠ 2 ∧ n.kind ≠ 3 ∧ n.int ≠ 0)
 ·rw [if_pos h0] at h; cases h
 rw [if_neg h0] at h
 have hk : n.kind ≠ 7 → ∀ k ∈ n.keys, k.size ≤ 200 := by
  intro h7 k hk
  by_cases he : n.keys = []
  ·rw [he] at hk; cases hk
  ·exact absurd (.inl ⟨h7, he⟩) h0
 have he : ∀ {l : List UInt8}, n.text.toList = l → l.length ≤ 200 → n.text.size ≤ 200 := by
  intro l h1 h2
  rw [← size_toL, h1]
  exact h2
 by_cases h2 : n.kind = 2
 ·rw [if_pos h2] at h
  simp only [Bool.and_eq_true, decide_eq_true_eq] at h
  exact ⟨he h.1 (by decide), hk (by omega)⟩
 rw [if_neg h2] at h
 by_cases h3 : n.kind = 3
 ·rw [if_pos h3] at h
  simp only [Bool.and_eq_true, decide_eq_true_eq] at h
  exact ⟨he h.1 (by decide), hk (by omega)⟩
 rw [if_neg h3] at h
 by_cases h4 : n.kind = 4
 ·rw [if_pos h4] at h
  exact ⟨str_small h, hk (by omega)⟩
 rw [if_neg h4] at h
 by_cases h5 : n.kind = 5 ∨ n.kind = 11 ∨ n.kind = 13 ∨ n.kind = 14
 ·rw [if_pos h5] at h
  exact ⟨by have := name_small h; omega, hk (by omega)⟩
 rw [if_neg h5] at h
 by_cases h6 : n.kind = 12
 ·rw [if_pos h6] at h
  exact ⟨by have := run_small h; omega, hk (by omega)⟩
 rw [if_neg h6] at h
 by_cases h7 : n.kind = 7
 ·rw [if_pos h7] at h
  simp only [Bool.and_eq_true, decide_eq_true_eq] at h
  exact ⟨he h.1 (by decide), keys_small h.2.2⟩
 rw [if_neg h7] at h
 by_cases h8 : n.kind = 8
 ·rw [if_pos h8] at h
  simp only [Bool.or_eq_true, decide_eq_true_eq] at h
  rcases h with h | h
  ·exact ⟨he h (by decide), hk h7⟩
  ·exact ⟨he h (by decide), hk h7⟩
 rw [if_neg h8] at h
 by_cases h9 : n.kind = 9
 ·rw [if_pos h9] at h
  have := lvl_size (of_decide_eq_true h)
  rw [size_toL] at this
  exact ⟨by omega, hk h7⟩
 rw [if_neg h9] at h
 exact ⟨he (of_decide_eq_true h) (by decide), hk h7⟩
theorem ok_O (op a : Int) : InsOk (insO op a) := ⟨by show (0 : Nat) ≤ 1000; omega, by show (0 : Nat) ≤ 1000; omega, fun k hk => by cases hk⟩
theorem ok_T (op a : Int) {s : ByteArray} (h : s.size ≤ 200) : InsOk ⟨op, a, s, []⟩ := ⟨by show s.size ≤ 1000; omega, by show (0 : Nat) ≤ 1000; omega, fun k hk => by cases hk⟩
theorem last_small {p : ProgD} {sl : List Int} {n : NodeD} {i : Nat} {x : InsD} (h : lastF p sl n i = some x) (hf : fieldsB n = true) (hk : n.keys.length ≤ 1000) : InsOk x := by
 obtain ⟨ht, hks⟩ := fields_small hf
 unfold lastF at h
 by_cases k0 : n.kind = 1
 ·rw [if_pos k0] at h; cases h; exact ok_O _ _
 rw [if_neg k0] at h
 by_cases k1 : n.kind = 2
 ·rw [if_pos k1] at h; cases h; exact ok_O _ _
 rw [if_neg k1] at h
 by_cases k2 : n.kind = 3
 ·rw [if_pos k2] at h; cases h; exact ok_O _ _
 rw [if_neg k2] at h
 by_cases k3 : n.kind = 4
 ·rw [if_pos k3] at h; cases h; exact ok_T _ _ ht
 rw [if_neg k3] at h
 by_cases k4 : n.kind = 5
 ·rw [if_pos k4] at h; cases h; exact ok_O _ _
 rw [if_neg k4] at h
 by_cases k5 : n.kind = 6
 ·rw [if_pos k5] at h; cases h; exact ok_O _ _
 rw [if_neg k5] at h
 by_cases k6 : n.kind = 7
 ·rw [if_pos k6] at h; cases h
  exact ⟨by show (0 : Nat) ≤ 1000; omega, hk, fun k hk => by have := hks k hk; omega⟩
 rw [if_neg k6] at h
 by_cases k7 : n.kind = 8
 ·rw [if_pos k7] at h; cases h; exact ok_T _ _ ht
 rw [if_neg k7] at h
 by_cases k8 : n.kind = 10
 ·rw [if_pos k8] at h; cases h; exact ok_O _ _
 rw [if_neg k8] at h
 by_cases k9 : n.kind = 11
 ·rw [if_pos k9] at h; cases h
  split
  ·exact ok_O _ _
  ·exact ok_T _ _ ht
 rw [if_neg k9] at h
 by_cases k10 : n.kind = 12
 ·rw [if_pos k10] at h; cases h; exact ok_T _ _ ht
 rw [if_neg k10] at h
 by_cases k11 : n.kind = 13 ∨ n.kind = 14
 ·rw [if_pos k11] at h; cases h; exact ok_O _ _
 rw [if_neg k11] at h
 by_cases k12 : n.kind = 17
 ·rw [if_pos k12] at h; cases h; exact ok_O _ _
 rw [if_neg k12] at h
 by_cases k13 : n.kind = 18
 ·rw [if_pos k13] at h; cases h; exact ok_O _ _
 rw [if_neg k13] at h
 cases h
theorem seq_mem {l : List NodeD} {f : Nat} {rec : Nat → Int → List InsD} {Q : InsD → Prop} (hr : ∀ i s b, firstF l f i = some s → ∀ x ∈ rec i b, Q x) {r : List Int} {s e : Nat} (h : Cover l f r s e) : ∀ b, ∀ x ∈ seqF rec r b, Q x := by
 induction h with
 | nil s => intro b x hx; cases hx
 | cons r s m e h1 h2 ih =>
  intro b x hx
  simp only [seqF, Int.toNat_natCast, List.mem_append] at hx
  rcases hx with hx | hx
  ·exact hr m s b h1 x hx
  ·exact ih _ x hx
theorem seg_small (p : ProgD) (sl : List Int) (hkl : ∀ i, (p.at_ i).keys.length ≤ 1000) : ∀ f i s b, firstF p.nodes f i = some s → ∀ x ∈ segF p sl f i b, InsOk x := by
 intro f
 induction f with
 | zero => intro i s b h; cases h
 | succ f ih =>
  intro i s b h
  have T := first_tree h
  have hn : p.nodes.getD i noNode = p.at_ i := rfl
  have hq := fun b => seq_mem ih T.cover b
  have hc := T.cover
  have hct := T.count
  have hfi := T.fields
  rw [hn] at hq hc hct hfi
  have hts := (fields_small hfi).1
  intro x hx
  simp only [segF] at hx
  split at hx
  ·rename_i hk
   by_cases h16 : (p.at_ i).kind = 16
   ·rw [if_pos h16] at hx
    obtain ⟨a, c, hl⟩ := list_two (cnt_two hct (.inr (.inr h16)))
    rw [hl] at hc hx
    obtain ⟨m, rfl, rfl, h1, h2, h3, h4⟩ := hc.two
    simp only [List.mem_append, List.mem_singleton, List.getD_cons_zero, List.getD_cons_succ, Int.toNat_natCast] at hx
    rw [show ((i : Int) - 1).toNat = i - 1 by omega] at hx
    rcases hx with ((hx | rfl) | hx) | rfl
    ·exact ih _ _ _ h3 x hx
    ·exact ok_O _ _
    ·exact ih _ _ _ h4 x hx
    ·exact ok_O _ _
   ·rw [if_neg h16] at hx
    have h15 : (p.at_ i).kind = 15 := by omega
    rcases cnt_if hct h15 with hl2 | hl3
    ·rw [if_neg (by omega)] at hx
     obtain ⟨a, c, hl⟩ := list_two hl2
     rw [hl] at hc hx
     obtain ⟨m, rfl, rfl, h1, h2, h3, h4⟩ := hc.two
     simp only [List.mem_append, List.mem_singleton, List.getD_cons_zero, List.getD_cons_succ, Int.toNat_natCast] at hx
     rw [show ((i : Int) - 1).toNat = i - 1 by omega] at hx
     rcases hx with (hx | rfl) | hx
     ·exact ih _ _ _ h3 x hx
     ·exact ok_O _ _
     ·exact ih _ _ _ h4 x hx
    ·rw [if_pos (by omega)] at hx
     obtain ⟨a, c, d, hl⟩ := list_three hl3
     rw [hl] at hc hx
     obtain ⟨m, k, rfl, rfl, rfl, h0, h1, h2, h3, h4, h5⟩ := hc.three
     simp only [List.mem_append, List.mem_singleton, List.getD_cons_zero, List.getD_cons_succ, Int.toNat_natCast] at hx
     rw [show ((i : Int) - 1).toNat = i - 1 by omega] at hx
     rcases hx with (((hx | rfl) | hx) | rfl) | hx
     ·exact ih _ _ _ h3 x hx
     ·exact ok_O _ _
     ·exact ih _ _ _ h4 x hx
     ·exact ok_O _ _
     ·exact ih _ _ _ h5 x hx
  ·split at hx
   ·rename_i hk
    split at hx
    ·obtain ⟨a, c, hl⟩ := list_two (cnt_two hct (.inl hk))
     rw [hl] at hc hx
     obtain ⟨m, rfl, rfl, h1, h2, h3, h4⟩ := hc.two
     simp only [List.getD_cons_zero, List.getD_cons_succ, Int.toNat_natCast] at hx
     rw [show ((i : Int) - 1).toNat = i - 1 by omega] at hx
     rcases List.mem_append.1 hx with hx | hx
     ·rcases List.mem_append.1 hx with hx | hx
      ·rcases List.mem_append.1 hx with hx | hx
       ·rcases List.mem_append.1 hx with hx | hx
        ·exact ih _ _ _ h3 x hx
        ·rcases List.mem_append.1 hx with hx | hx
         ·simp only [List.mem_cons, List.not_mem_nil, or_false] at hx
          rcases hx with rfl | rfl <;> exact ok_O _ _
         ·split at hx
          ·simp only [List.mem_singleton] at hx
           subst hx
           exact ok_T _ _ (by decide)
          ·cases hx
       ·simp only [List.mem_cons, List.not_mem_nil, or_false] at hx
        rcases hx with rfl | rfl <;> exact ok_O _ _
      ·exact ih _ _ _ h4 x hx
     ·simp only [List.mem_singleton] at hx
      subst hx
      exact ok_O _ _
    ·rcases List.mem_append.1 hx with hx | hx
     ·exact hq _ x hx
     ·simp only [List.mem_singleton] at hx
      subst hx
      exact ok_T _ _ hts
   ·rcases List.mem_append.1 hx with hx | hx
    ·exact hq _ x hx
    ·cases hl : lastF p sl (p.at_ i) i with
     | none => rw [hl] at hx; cases hx
     | some y =>
      rw [hl] at hx
      simp only [List.mem_singleton] at hx
      subst hx
      exact last_small hl hfi (hkl i)
theorem SynOk.small {p : ProgD} (h : SynOk p) (sl : List Int) (hkl : ∀ i, (p.at_ i).keys.length ≤ 1000) : ∀ k, k ≤ p.funcs.length → ∀ x ∈ allSeg p sl k, InsOk x := by
 intro k
 induction k with
 | zero => intro _ x hx; cases hx
 | succ k ih =>
  intro hk x hx
  simp only [allSeg] at hx
  rcases List.mem_append.1 hx with hx | hx
  ·exact ih (by omega) x hx
  ·unfold funcSeg at hx
   rcases List.mem_append.1 hx with hx | hx
   ·obtain ⟨b, hfo, _, hb⟩ := h.func (k := k) (by omega)
    rw [hb] at hx
    exact seg_small p sl hkl 600 b _ _ hfo.first x hx
   ·simp only [List.mem_cons, List.not_mem_nil, or_false] at hx
    rcases hx with rfl | rfl <;> exact ok_O _ _
end Go.Proofs.YthiimbhjpdphpaaGreatDoor
set_option linter.unusedVariables false
namespace Go.Proofs.YthiimbhjpdphpaaGreatDoor
open Go.RowKit
/-- Where a jump leads. -/
def JmpIn (b : Int) (n : Nat) (x : InsD) : Prop := (x.op = 13 ∨ x.op = 14) → b ≤ x.a ∧ x.a ≤ b + n + 1
theorem JmpIn.wide {b c : Int} {n m : Nat} {x : InsD} (h : JmpIn b n x) (h1 : c ≤ b) (h2 : b + n ≤ c + m) : JmpIn c m x := fun hx => by
 have := h hx
 omega
theorem jmp_not {b : Int} {n : Nat} {x : InsD} (h : x.op ≠ 13 ∧ x.op ≠ 14) : JmpIn b n x := fun hx => by
 rcases hx with hx | hx
 ·exact absurd hx h.1
 ·exact absurd hx h.2
theorem last_jmp {p : ProgD} {sl : List Int} {n : NodeD} {i : Nat} {x : InsD} (h : lastF p sl n i = some x) {b : Int} {k : Nat} : JmpIn b k x := by
 have hs : ∀ e, shiftI e x = x := fun e => shift_last e p sl n i x h
 intro hx
 exfalso
 have := congrArg InsD.a (hs 1)
 unfold shiftI at this
 rw [if_pos hx] at this
 change x.a + 1 = x.a at this
 omega
theorem seq_jmp {l : List NodeD} {f : Nat} {rec : Nat → Int → List InsD} (hr : ∀ i b, ∀ x ∈ rec i b, JmpIn b (rec i b).length x) : ∀ (r : List Int) (b : Int), ∀ x ∈ seqF rec r b, JmpIn b (seqF rec r b).length x := by
 intro r
 induction r with
 | nil => intro b x hx; cases hx
 | cons k r ih =>
  intro b x hx
  simp only [seqF, List.mem_append] at hx ⊢
  rw [List.length_append]
  rcases hx with hx | hx
  ·exact (hr _ _ x hx).wide (Int.le_refl _) (by omega)
  ·exact (ih _ x hx).wide (by omega) (by omega)
theorem seg_jmp (p : ProgD) (sl : List Int) : ∀ f i b, ∀ x ∈ segF p sl f i b, JmpIn b (segF p sl f i b).length x := by
 intro f
 induction f with
 | zero => intro i b x hx; cases hx
 | succ f ih =>
  intro i b x hx
  have hq := seq_jmp (l := []) (f := f) ih
  simp only [segF] at hx ⊢
  split at hx
  ·rename_i hk
   by_cases h16 : (p.at_ i).kind = 16
   ·rw [if_pos h16] at hx
    rw [if_pos hk, if_pos h16]
    simp only [List.mem_append, List.mem_singleton] at hx
    simp only [List.length_append, List.length_singleton]
    rcases hx with ((hx | rfl) | hx) | rfl
    ·exact (ih _ _ x hx).wide (Int.le_refl _) (by omega)
    ·intro _; constructor <;> (show _ ≤ _) <;> simp only [insO] <;> omega
    ·exact (ih _ _ x hx).wide (by omega) (by omega)
    ·intro _; constructor <;> (show _ ≤ _) <;> simp only [insO] <;> omega
   ·rw [if_neg h16] at hx
    rw [if_pos hk, if_neg h16]
    by_cases h2 : 2 < (p.at_ i).kids.length
    ·rw [if_pos h2] at hx ⊢
     simp only [List.mem_append, List.mem_singleton] at hx
     simp only [List.length_append, List.length_singleton]
     rcases hx with (((hx | rfl) | hx) | rfl) | hx
     ·exact (ih _ _ x hx).wide (Int.le_refl _) (by omega)
     ·intro _; constructor <;> (show _ ≤ _) <;> simp only [insO] <;> omega
     ·exact (ih _ _ x hx).wide (by omega) (by omega)
     ·intro _; constructor <;> (show _ ≤ _) <;> simp only [insO] <;> omega
     ·exact (ih _ _ x hx).wide (by omega) (by omega)
    ·rw [if_neg h2] at hx ⊢
     simp only [List.mem_append, List.mem_singleton] at hx
     simp only [List.length_append, List.length_singleton]
     rcases hx with (hx | rfl) | hx
     ·exact (ih _ _ x hx).wide (Int.le_refl _) (by omega)
     ·intro _; constructor <;> (show _ ≤ _) <;> simp only [insO] <;> omega
     ·exact (ih _ _ x hx).wide (by omega) (by omega)
  ·rename_i hk
   rw [if_neg hk]
   by_cases h9 : (p.at_ i).kind = 9
   ·rw [if_pos h9] at hx ⊢
    by_cases ho : (isAnd (p.at_ i) || isOr (p.at_ i)) = true
    ·rw [if_pos ho] at hx ⊢
     obtain ⟨m, hm⟩ : ∃ m, [insO 15 0, insO 16 0] ++ (if isOr (p.at_ i) = true then [insT 8 notS] else []) = m := ⟨_, rfl⟩
     have hmj : ∀ y ∈ m, y.op ≠ 13 ∧ y.op ≠ 14 := by
      rw [← hm]
      intro y hy
      rcases List.mem_append.1 hy with hy | hy
      ·simp only [List.mem_cons, List.not_mem_nil, or_false] at hy
       rcases hy with rfl | rfl <;> exact ⟨by decide, by decide⟩
      ·split at hy
       ·simp only [List.mem_singleton] at hy
        subst hy
        exact ⟨by decide, by decide⟩
       ·cases hy
     rw [hm] at hx ⊢
     simp only [List.mem_append, List.mem_cons, List.not_mem_nil, or_false] at hx
     simp only [List.length_append, List.length_cons, List.length_nil]
     rcases hx with (((hx | hx) | rfl | rfl) | hx) | rfl
     ·exact (ih _ _ x hx).wide (Int.le_refl _) (by omega)
     ·exact jmp_not (hmj x hx)
     ·intro _; constructor <;> (show _ ≤ _) <;> simp only [insO] <;> omega
     ·exact jmp_not ⟨by decide, by decide⟩
     ·exact (ih _ _ x hx).wide (by omega) (by omega)
     ·exact jmp_not ⟨by decide, by decide⟩
    ·rw [if_neg ho] at hx ⊢
     rw [List.length_append]
     rcases List.mem_append.1 hx with hx | hx
     ·exact (hq _ _ x hx).wide (Int.le_refl _) (by omega)
     ·simp only [List.mem_singleton] at hx
      subst hx
      exact jmp_not ⟨by show (9 : Int) ≠ 13; omega, by show (9 : Int) ≠ 14; omega⟩
   ·rw [if_neg h9] at hx ⊢
    rw [List.length_append]
    rcases List.mem_append.1 hx with hx | hx
    ·exact (hq _ _ x hx).wide (Int.le_refl _) (by omega)
    ·cases hl : lastF p sl (p.at_ i) i with
     | none => rw [hl] at hx; cases hx
     | some y =>
      rw [hl] at hx
      simp only [List.mem_singleton] at hx
      subst hx
      exact last_jmp hl
theorem fseg_shift (p : ProgD) (sl : List Int) (k : Nat) (e : Int) : funcSeg p sl k e = (funcSeg p sl k 0).map (shiftI e) := by
 unfold funcSeg
 rw [List.map_append, ← seg_shift, Int.zero_add]
 rfl
theorem fn_shift (p : ProgD) (f e : Int) (he : 0 ≤ e ∧ e ≤ 4000) : functionF p f e = ((functionF p f 0).1.map (shiftI e), (functionF p f 0).2) := by
 unfold functionF
 by_cases h1 : (studyF p).err ≠ 0
 ·rw [if_pos h1, if_pos h1]; rfl
 ·rw [if_neg h1, if_neg h1]
  by_cases h2 : f < 0 ∨ (p.funcs.length : Int) ≤ f
  ·rw [if_pos (by omega), if_pos (by omega)]; rfl
  ·rw [if_neg (by omega), if_neg (by omega), fseg_shift]
theorem fn_jmp {p : ProgD} (f : Int) : ∀ x ∈ (functionF p f 0).1, (x.op = 13 ∨ x.op = 14) → 0 ≤ x.a ∧ x.a ≤ 10000 := by
 intro x hx
 unfold functionF at hx
 by_cases h1 : (studyF p).err ≠ 0
 ·rw [if_pos h1] at hx; cases hx
 rw [if_neg h1] at hx
 by_cases h2 : f < 0 ∨ (p.funcs.length : Int) ≤ f ∨ (0 : Int) < 0 ∨ (4000 : Int) < 0
 ·rw [if_pos h2] at hx; cases hx
 rw [if_neg h2] at hx
 change x ∈ funcSeg p (studyF p).slots f.toNat 0 at hx
 have hok := (study_ok (p := p) (by omega)).1
 have hl := hok.seg_le (studyF p).slots (k := f.toNat) (by omega) 0
 unfold funcSeg at hx hl
 rw [List.length_append] at hl
 rcases List.mem_append.1 hx with hx | hx
 ·intro hj
  have := seg_jmp p _ 600 _ _ x hx hj
  omega
 ·simp only [List.mem_cons, List.not_mem_nil, or_false] at hx
  rcases hx with rfl | rfl <;> (intro hj; rcases hj with hj | hj <;> exact absurd hj (by decide))
theorem fn_len {p : ProgD} (f : Int) : (functionF p f 0).1.length ≤ 3602 := by
 unfold functionF
 by_cases h1 : (studyF p).err ≠ 0
 ·rw [if_pos h1]; show (0 : Nat) ≤ 3602; omega
 rw [if_neg h1]
 by_cases h2 : f < 0 ∨ (p.funcs.length : Int) ≤ f ∨ (0 : Int) < 0 ∨ (4000 : Int) < 0
 ·rw [if_pos h2]; show (0 : Nat) ≤ 3602; omega
 rw [if_neg h2]
 exact (study_ok (p := p) (by omega)).1.seg_le (studyF p).slots (k := f.toNat) (by omega) 0
theorem fn_ok {p : ProgD} (hkl : ∀ i, (p.at_ i).keys.length ≤ 1000) (f : Int) : ∀ x ∈ (functionF p f 0).1, InsOk x := by
 intro x hx
 unfold functionF at hx
 by_cases h1 : (studyF p).err ≠ 0
 ·rw [if_pos h1] at hx; cases hx
 rw [if_neg h1] at hx
 by_cases h2 : f < 0 ∨ (p.funcs.length : Int) ≤ f ∨ (0 : Int) < 0 ∨ (4000 : Int) < 0
 ·rw [if_pos h2] at hx; cases hx
 rw [if_neg h2] at hx
 have hok := (study_ok (p := p) (by omega)).1
 change x ∈ funcSeg p (studyF p).slots f.toNat 0 at hx
 unfold funcSeg at hx
 rcases List.mem_append.1 hx with hx | hx
 ·obtain ⟨b, hfo, _, hb⟩ := hok.func (k := f.toNat) (by omega)
  rw [hb] at hx
  exact seg_small p _ hkl 600 b _ _ hfo.first x hx
 ·simp only [List.mem_cons, List.not_mem_nil, or_false] at hx
  rcases hx with rfl | rfl <;> exact ok_O _ _
end Go.Proofs.YthiimbhjpdphpaaGreatDoor
