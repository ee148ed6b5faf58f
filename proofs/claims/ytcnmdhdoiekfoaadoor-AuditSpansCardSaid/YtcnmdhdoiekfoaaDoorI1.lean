/- The walks of identifiers: ident.small, digit, letter, ID and the reference's small, digit, part, ID. -/
import Derived.Test.YtcnmdhdoiekfoaaDoorRows
import Derived.Test.YtcnmdhdoiekfoaaDoorBase
import Derived.Deep.QuietTactic
import Derived.BigQuiet
import Derived.Laws.RangeString
import Derived.Laws.RangeAny
namespace Go.Proofs.YtcnmdhdoiekfoaaDoor
open Go.RowKit
set_option maxRecDepth 100000

/-- A character or a byte that may be one of an identifier. -/
def partI (c : Int) : Bool :=
  (decide (97 ≤ c) && decide (c ≤ 122)) || (decide (48 ≤ c) && decide (c ≤ 57)) || (decide (65 ≤ c) && decide (c ≤ 90)) || decide (c = 45) || decide (c = 95) || decide (c = 46) || decide (c = 58) || decide (c = 47)

theorem small_any (c : Int) (w : World) :
    Calls Tryd.prog 26 #[.int .i32 c] w fun e w' => e = .returned (.bool (decide (97 ≤ c) && decide (c ≤ 122))) ∧ w' = w := by
  go_enter Tryd.func26, Tryd.ntmps26
  by_cases h1 : 97 ≤ c
  · go_wp2
    all_goals (go_ret; refine ⟨congrArg Ending.returned (congrArg Value.bool (Bool.eq_iff_iff.2 ?_)), rfl⟩; simp only [Bool.and_eq_true, decide_eq_true_eq, Bool.false_eq_true, true_iff, false_iff, or_true, true_or]; try omega)
  · go_wp2
    all_goals (go_ret; refine ⟨congrArg Ending.returned (congrArg Value.bool (Bool.eq_iff_iff.2 ?_)), rfl⟩; simp only [Bool.and_eq_true, decide_eq_true_eq, Bool.false_eq_true, true_iff, false_iff, or_true, true_or]; try omega)

theorem digit_any (c : Int) (w : World) :
    Calls Tryd.prog 27 #[.int .i32 c] w fun e w' => e = .returned (.bool (decide (48 ≤ c) && decide (c ≤ 57))) ∧ w' = w := by
  go_enter Tryd.func27, Tryd.ntmps27
  by_cases h1 : 48 ≤ c
  · go_wp2
    all_goals (go_ret; refine ⟨congrArg Ending.returned (congrArg Value.bool (Bool.eq_iff_iff.2 ?_)), rfl⟩; simp only [Bool.and_eq_true, decide_eq_true_eq, Bool.false_eq_true, true_iff, false_iff, or_true, true_or]; try omega)
  · go_wp2
    all_goals (go_ret; refine ⟨congrArg Ending.returned (congrArg Value.bool (Bool.eq_iff_iff.2 ?_)), rfl⟩; simp only [Bool.and_eq_true, decide_eq_true_eq, Bool.false_eq_true, true_iff, false_iff, or_true, true_or]; try omega)

theorem rsmall_any (c : Int) (w : World) :
    Calls Tryd.prog 31 #[.int .u8 c] w fun e w' => e = .returned (.bool (decide (97 ≤ c) && decide (c ≤ 122))) ∧ w' = w := by
  go_enter Tryd.func31, Tryd.ntmps31
  by_cases h1 : 97 ≤ c
  · go_wp2
    all_goals (go_ret; refine ⟨congrArg Ending.returned (congrArg Value.bool (Bool.eq_iff_iff.2 ?_)), rfl⟩; simp only [Bool.and_eq_true, decide_eq_true_eq, Bool.false_eq_true, true_iff, false_iff, or_true, true_or]; try omega)
  · go_wp2
    all_goals (go_ret; refine ⟨congrArg Ending.returned (congrArg Value.bool (Bool.eq_iff_iff.2 ?_)), rfl⟩; simp only [Bool.and_eq_true, decide_eq_true_eq, Bool.false_eq_true, true_iff, false_iff, or_true, true_or]; try omega)

theorem rdigit_any (c : Int) (w : World) :
    Calls Tryd.prog 32 #[.int .u8 c] w fun e w' => e = .returned (.bool (decide (48 ≤ c) && decide (c ≤ 57))) ∧ w' = w := by
  go_enter Tryd.func32, Tryd.ntmps32
  by_cases h1 : 48 ≤ c
  · go_wp2
    all_goals (go_ret; refine ⟨congrArg Ending.returned (congrArg Value.bool (Bool.eq_iff_iff.2 ?_)), rfl⟩; simp only [Bool.and_eq_true, decide_eq_true_eq, Bool.false_eq_true, true_iff, false_iff, or_true, true_or]; try omega)
  · go_wp2
    all_goals (go_ret; refine ⟨congrArg Ending.returned (congrArg Value.bool (Bool.eq_iff_iff.2 ?_)), rfl⟩; simp only [Bool.and_eq_true, decide_eq_true_eq, Bool.false_eq_true, true_iff, false_iff, or_true, true_or]; try omega)

theorem letter_any (c : Int) (w : World) :
    Calls Tryd.prog 22 #[.int .i32 c] w fun e w' => e = .returned (.bool (partI c)) ∧ w' = w := by
  go_enter Tryd.func22, Tryd.ntmps22
  go_wp2_with (first
    | (go_at_call 26; refine (small_any _ _).mono ?_; rintro e w' ⟨rfl, rfl⟩)
    | (go_at_call 27; refine (digit_any _ _).mono ?_; rintro e w' ⟨rfl, rfl⟩))
  all_goals (go_ret; refine ⟨congrArg Ending.returned (congrArg Value.bool (Bool.eq_iff_iff.2 ?_)), rfl⟩; simp only [partI, Bool.or_eq_true, Bool.and_eq_true, decide_eq_true_eq, Bool.false_eq_true, beq_iff_eq, true_iff, false_iff, or_true, true_or]; try omega)

theorem part_any (c : Int) (w : World) :
    Calls Tryd.prog 24 #[.int .u8 c] w fun e w' => e = .returned (.bool (partI c)) ∧ w' = w := by
  go_enter Tryd.func24, Tryd.ntmps24
  go_wp2_with (first
    | (go_at_call 31; refine (rsmall_any _ _).mono ?_; rintro e w' ⟨rfl, rfl⟩)
    | (go_at_call 32; refine (rdigit_any _ _).mono ?_; rintro e w' ⟨rfl, rfl⟩))
  all_goals (go_ret; refine ⟨congrArg Ending.returned (congrArg Value.bool (Bool.eq_iff_iff.2 ?_)), rfl⟩; simp only [partI, Bool.or_eq_true, Bool.and_eq_true, decide_eq_true_eq, Bool.false_eq_true, beq_iff_eq, true_iff, false_iff, or_true, true_or]; try omega)

/-- The bytes of an identifier. -/
def idB (s : ByteArray) : Bool := decide (1 ≤ s.size) && decide (s.size ≤ 64) && s.data.toList.all fun c => partI c.toNat

theorem idB_size {s : ByteArray} (h : idB s = true) : s.size ≤ 64 := by
  simp only [idB, Bool.and_eq_true, decide_eq_true_eq] at h; omega

theorem all_at (s : ByteArray) : (s.data.toList.all fun c => partI c.toNat) = true ↔ ∀ i (h : i < s.size), partI (s[i]'h).toNat = true := by
  rw [List.all_eq_true]
  constructor
  · intro h i hi
    exact h _ (List.mem_iff_getElem.2 ⟨i, by simpa using hi, rfl⟩)
  · intro h x hx
    obtain ⟨i, hi, rfl⟩ := List.mem_iff_getElem.1 hx
    exact h i (by simpa using hi)

theorem high_not (c : Int) (h : 128 ≤ c) : partI c = false := by
  simp only [partI, Bool.or_eq_false_iff, Bool.and_eq_false_iff, decide_eq_false_iff_not]; omega

/-- One rune decoded says of the byte what it says of the rune. -/
theorem part_rune (s : ByteArray) (pos : Nat) (h : pos < s.size) : partI (Utf8.decode s pos).1 = partI (s[pos]'h).toNat ∧ 1 ≤ (Utf8.decode s pos).2 ∧ (partI (s[pos]'h).toNat = true → (Utf8.decode s pos).2 = 1) := by
  by_cases ha : (s[pos]'h).toNat < 128
  · rw [decode_ascii s pos h ha]; simp
  · have hd := decode_high s pos h (by omega)
    have h1 := high_not (Utf8.decode s pos).1 (by omega)
    have h2 := high_not (s[pos]'h).toNat (by omega)
    exact ⟨by rw [h1, h2], hd.2, by rw [h2]; simp⟩

theorem id_any (s : ByteArray) (w : World) (hs : s.size ≤ 140737488351232) :
    Calls Tryd.prog 12 #[.string s] w fun e w' => e = .returned (.bool (idB s)) ∧ Below w.heap.size w w' := by
  go_enter Tryd.func12, Tryd.ntmps12
  go_wp2
  go_loopw [] (fun w' => ∃ pos : Nat, w' = w.iter s pos ∧ pos ≤ s.size ∧ ∀ i (h : i < s.size), i < pos → partI (s[i]'h).toNat = true) (fun w' => s.size - w'.iterPos w.heap.size)
  case atStart => exact ⟨0, rfl, by omega, fun i _ h => absurd h (Nat.not_lt_zero _)⟩
  case round =>
    obtain ⟨pos, rfl, hle, hall⟩ := hrel
    by_cases hp : pos < s.size
    · have hnx : ∀ ty, (Instr.next (.pointer (some ⟨w.heap.size, 0, none⟩)) true ty).run Tryd.prog (w.iter s pos) = _ := fun ty => run_next_any w s pos ty hp
      obtain ⟨q1, q2, q3⟩ := part_rune s pos hp
      by_cases hb : partI (s[pos]'hp).toNat = true
      · rw [q3 hb] at hnx
        rw [hb] at q1
        generalize (Utf8.decode s pos).1 = r at *
        go_wp2_with (first | (go_at_call 22; refine (letter_any _ _).mono ?_; rintro e w' ⟨rfl, rfl⟩; rw [q1]))
        go_roundw
        case rel => 
          refine ⟨pos + 1, rfl, by omega, fun i h hi => ?_⟩
          by_cases hh : i = pos
          · subst hh; exact hb
          · exact hall i h (by omega)
        case measure => simp; omega
      · have hb' : partI (s[pos]'hp).toNat = false := by simpa using hb
        rw [hb'] at q1
        generalize Utf8.decode s pos = r at *
        go_wp2_with (first | (go_at_call 22; refine (letter_any _ _).mono ?_; rintro e w' ⟨rfl, rfl⟩; rw [q1]))
        go_ret
        refine ⟨congrArg Ending.returned (congrArg Value.bool ?_), below_new _ _⟩
        have : (s.data.toList.all fun c => partI c.toNat) = false := by
          rw [← Bool.not_eq_true, all_at]
          intro h; rw [h pos hp] at hb'; cases hb'
        simp [idB, this]
    · have hnx : ∀ ty, (Instr.next (.pointer (some ⟨w.heap.size, 0, none⟩)) true ty).run Tryd.prog (w.iter s pos) = _ := fun ty => run_next_end w s pos ty hp
      have hA : (s.data.toList.all fun c => partI c.toNat) = true := (all_at s).2 fun i h => hall i h (by omega)
      go_wp2
      all_goals (go_ret; refine ⟨congrArg Ending.returned (congrArg Value.bool (Bool.eq_iff_iff.2 ?_)), below_new _ _⟩; simp only [idB, hA, Bool.and_true, Bool.and_eq_true, decide_eq_true_eq, Bool.false_eq_true, true_iff, false_iff, or_true, true_or]; try omega)

theorem rid_any (s : ByteArray) (w : World) (hs : s.size ≤ 140737488351232) :
    Calls Tryd.prog 16 #[.string s] w fun e w' => e = .returned (.bool (idB s)) ∧ w' = w := by
  go_enter Tryd.func16, Tryd.ntmps16
  by_cases h1 : 1 ≤ s.size ∧ s.size ≤ 64
  · obtain ⟨h1, h2⟩ := h1
    go_wp2
    go_loop [3] (fun i => ∃ n : Nat, n ≤ s.size ∧ i = .int .i64 n ∧ ∀ i (h : i < s.size), i < n → partI (s[i]'h).toNat = true) (fun i => s.size - (intOf i).toNat)
    case atStart => exact ⟨0, Nat.zero_le _, rfl, fun i _ h => absurd h (Nat.not_lt_zero _)⟩
    case round =>
      obtain ⟨n, hn, rfl, hall⟩ := hrel
      by_cases hlt : n < s.size
      · by_cases hb : partI (s[n]'hlt).toNat = true
        · go_wp2_with (first | (go_at_call 24; refine (part_any _ _).mono ?_; rintro e w' ⟨rfl, rfl⟩; simp only [Int.toNat_natCast, hb]))
          go_round
          case rel =>
            refine ⟨n + 1, by omega, by go_num, fun i h hi => ?_⟩
            by_cases hh : i = n
            · subst hh; exact hb
            · exact hall i h (by omega)
          case measure => simp [intOf]; omega
        · have hb' : partI (s[n]'hlt).toNat = false := by simpa using hb
          go_wp2_with (first | (go_at_call 24; refine (part_any _ _).mono ?_; rintro e w' ⟨rfl, rfl⟩; simp only [Int.toNat_natCast, hb']))
          go_ret
          refine ⟨congrArg Ending.returned (congrArg Value.bool ?_), rfl⟩
          have : (s.data.toList.all fun c => partI c.toNat) = false := by
            rw [← Bool.not_eq_true, all_at]
            intro h; rw [h n hlt] at hb'; cases hb'
          simp [idB, this]
      · have hA : (s.data.toList.all fun c => partI c.toNat) = true := (all_at s).2 fun i h => hall i h (by omega)
        go_wp2
        go_ret
        exact ⟨congrArg Ending.returned (congrArg Value.bool (by simp [idB, hA, h1, h2])), rfl⟩
  · have hA : idB s = false := by
      rw [← Bool.not_eq_true]; intro h
      simp only [idB, Bool.and_eq_true, decide_eq_true_eq] at h
      exact h1 h.1
    have HA := Lib.hid hA; clear hA
    by_cases h2 : 1 ≤ s.size
    · have h3 : 64 < s.size := by omega
      clear h1
      go_wp2
      go_ret
      exact ⟨congrArg Ending.returned (congrArg Value.bool HA.out.symm), rfl⟩
    · have h3 : s.size = 0 := by omega
      clear h1 h2
      go_wp2
      go_ret
      exact ⟨congrArg Ending.returned (congrArg Value.bool HA.out.symm), rfl⟩

end Go.Proofs.YtcnmdhdoiekfoaaDoor
