/- The walks of decimal forms: num.decimal and the reference's form. -/
import Derived.Test.YtcnmdhdoiekfoaaDoorI1
namespace Go.Proofs.YtcnmdhdoiekfoaaDoor
open Go.RowKit
set_option maxRecDepth 100000

def digI (c : Nat) : Bool := decide (48 ≤ c) && decide (c ≤ 57)
def digs (s : ByteArray) : Bool := s.data.toList.all fun c => digI c.toNat

/-- The bytes of the decimal form of an integer. -/
def decL : List UInt8 → Bool
  | [] => false
  | c :: r => if c.toNat = 45 then (match r with | [] => false | d :: _ => decide (d.toNat ≠ 48) && r.all fun c => digI c.toNat)
    else (decide (c.toNat ≠ 48) || r.isEmpty) && (c :: r).all fun c => digI c.toNat
def decB (s : ByteArray) : Bool := decL s.data.toList

theorem ret_b {a b : Bool} (h : a = b) : Ending.returned (.bool a) = .returned (.bool b) := by rw [h]

theorem digs_at (s : ByteArray) : digs s = true ↔ ∀ i (h : i < s.size), digI (s[i]'h).toNat = true := by
  rw [digs, List.all_eq_true]
  constructor
  · intro h i hi
    exact h _ (List.mem_iff_getElem.2 ⟨i, by simpa using hi, rfl⟩)
  · intro h x hx
    obtain ⟨i, hi, rfl⟩ := List.mem_iff_getElem.1 hx
    exact h i (by simpa using hi)

theorem digs_no {s : ByteArray} {n : Nat} (h : n < s.size) (hb : digI (s[n]'h).toNat = false) : digs s = false := by
  rw [← Bool.not_eq_true, digs_at]
  intro hh; rw [hh n h] at hb; cases hb

theorem len_data (s : ByteArray) : s.data.toList.length = s.size := by simp
theorem ne_nil {s : ByteArray} (h : 0 < s.size) : ¬ s.toList = [] := by
  rw [ByteArray.toList_eq]; intro e; rw [← len_data, e] at h; simp at h
theorem ne_nil' {s : ByteArray} (h : 0 < s.size) : s.toList.isEmpty = false := by
  rw [← Bool.not_eq_true, List.isEmpty_iff]; exact ne_nil h
theorem is_nil {s : ByteArray} (h : ¬ 0 < s.size) : s.toList = [] := by
  rw [ByteArray.toList_eq]; exact List.length_eq_zero_iff.1 (by rw [len_data]; omega)

theorem cons_of {s t : ByteArray} (h0 : 0 < s.size) (hx : s.extract 1 s.size = t) : s.data.toList = s[0]'h0 :: t.data.toList := by
  subst hx
  have h1 : 0 < s.data.toList.length := by simpa using h0
  have h2 : (s.extract 1 s.size).data.toList = s.data.toList.drop 1 := by
    simp only [ByteArray.data_extract, Array.toList_extract, List.extract_eq_take_drop]
    exact List.take_of_length_le (by simp)
  rw [h2]
  conv => lhs; rw [← List.drop_zero (l := s.data.toList), List.drop_eq_getElem_cons h1]
  rfl

theorem self_of (s : ByteArray) (h0 : 0 < s.size) : s.data.toList = s[0]'h0 :: (s.extract 1 s.size).data.toList := cons_of h0 rfl

theorem dec_neg0 {s t : ByteArray} (h0 : 0 < s.size) (ht : 0 < t.size) (hx : s.extract 1 s.size = t) (hm : (s[0]'h0).toNat = 45) (h48 : (t[0]'ht).toNat = 48) : decB s = false := by
  rw [decB, cons_of h0 hx, self_of t ht]; simp [decL, hm, h48]
theorem dec_neg {s t : ByteArray} (h0 : 0 < s.size) (ht : 0 < t.size) (hx : s.extract 1 s.size = t) (hm : (s[0]'h0).toNat = 45) (h48 : ¬ (t[0]'ht).toNat = 48) : decB s = digs t := by
  rw [decB, digs, cons_of h0 hx, self_of t ht]; simp [decL, hm, h48]
theorem dec_nege {s t : ByteArray} (h0 : 0 < s.size) (ht : ¬ 0 < t.size) (hx : s.extract 1 s.size = t) (hm : (s[0]'h0).toNat = 45) : decB s = false := by
  have : t.data.toList = [] := List.length_eq_zero_iff.1 (by rw [len_data]; omega)
  rw [decB, cons_of h0 hx, this]; simp [decL, hm]
theorem dec_pos {s : ByteArray} (h0 : 0 < s.size) (hm : ¬ (s[0]'h0).toNat = 45) (h48 : ¬ (s[0]'h0).toNat = 48) : decB s = digs s := by
  rw [decB, digs, self_of s h0]; simp [decL, hm, h48]
theorem dec_one {s : ByteArray} (h0 : 0 < s.size) (h1 : ¬ 1 < s.size) (hm : ¬ (s[0]'h0).toNat = 45) : decB s = digs s := by
  have : (s.extract 1 s.size).data.toList = [] := List.length_eq_zero_iff.1 (by rw [len_data]; simp; omega)
  rw [decB, digs, self_of s h0, this]; simp [decL, hm]
theorem dec_nil {s : ByteArray} (h0 : ¬ 0 < s.size) : decB s = false := by
  have : s.data.toList = [] := List.length_eq_zero_iff.1 (by rw [len_data]; omega)
  rw [decB, this]; rfl
theorem not_zero {s : ByteArray} (h0 : 0 < s.size) (h : ¬ (s[0]'h0).toNat = 48) : (s.toList == [48]) = false := by
  rw [beq_eq_false_iff_ne, ByteArray.toList_eq, self_of s h0]
  intro e
  injection e with e1 _
  exact h (by rw [e1]; rfl)
theorem long_zero {s : ByteArray} (h1 : 1 < s.size) : (s.toList == [48]) = false := by
  rw [beq_eq_false_iff_ne, ByteArray.toList_eq]
  intro e
  have := congrArg List.length e
  rw [len_data] at this; simp at this; omega
theorem dec_zero {s : ByteArray} (h0 : 0 < s.size) (hz : (s.toList == [48]) = true) : decB s = digs s := by
  rw [beq_iff_eq, ByteArray.toList_eq] at hz
  rw [decB, digs, hz]; rfl
theorem dec_0 {s : ByteArray} (h0 : 0 < s.size) (h48 : (s[0]'h0).toNat = 48) (hz : (s.toList == [48]) = false) : decB s = false := by
  rw [beq_eq_false_iff_ne, ByteArray.toList_eq, self_of s h0] at hz
  rw [decB, self_of s h0]
  have h2 : s[0]'h0 = 48 := UInt8.toNat_inj.1 h48
  have : ¬ (s.extract 1 s.size).data.toList = [] := fun e => hz (by rw [e, h2])
  simp only [decL, h48, if_neg (by decide : ¬ 48 = 45), ne_eq, not_true_eq_false, decide_false, Bool.false_or, Bool.and_eq_false_iff]
  left
  rw [← Bool.not_eq_true, List.isEmpty_iff]; exact this


theorem decimal_any (s : ByteArray) (w : World) (hs : s.size ≤ 140737488351232) :
    Calls Tryd.prog 36 #[.string s] w fun e w' => e = .returned (.bool (decB s)) ∧ w' = w := by
  go_enter Tryd.func36, Tryd.ntmps36
  by_cases h0 : 0 < s.size
  · obtain ⟨t, hx⟩ : ∃ t, s.extract 1 s.size = t := ⟨_, rfl⟩
    have hts : t.size ≤ 140737488351232 := by rw [← hx]; simp; omega
    have hne : ¬ s.toList = [] := ne_nil h0
    have hne' : s.toList.isEmpty = false := ne_nil' h0
    by_cases hm : (s[0]'h0).toNat = 45
    · have hz : (s.toList == [48]) = false := not_zero h0 (by omega)
      by_cases ht : 0 < t.size
      · have hte : ¬ t.toList = [] := ne_nil ht
        have hte' : t.toList.isEmpty = false := ne_nil' ht
        by_cases h48 : (t[0]'ht).toNat = 48
        · have HD := Lib.hid (dec_neg0 h0 ht hx hm h48)
          go_wp2
          go_ret
          exact ⟨ret_b HD.out.symm, rfl⟩
        · have HD := Lib.hid (dec_neg h0 ht hx hm h48)
          go_wp2
          go_loop [29] (fun i => ∃ n : Nat, n ≤ t.size ∧ i = .int .i64 n ∧ ∀ i (h : i < t.size), i < n → digI (t[i]'h).toNat = true) (fun i => t.size - (intOf i).toNat)
          case atStart => exact ⟨0, Nat.zero_le _, rfl, fun i _ h => absurd h (Nat.not_lt_zero _)⟩
          case round =>
            obtain ⟨n, hn, rfl, hall⟩ := hrel
            by_cases hlt : n < t.size
            · by_cases hb : digI (t[n]'hlt).toNat = true
              · have hb1 : 48 ≤ (t[n]'hlt).toNat := by simp only [digI, Bool.and_eq_true, decide_eq_true_eq] at hb; omega
                have hb2 : (t[n]'hlt).toNat ≤ 57 := by simp only [digI, Bool.and_eq_true, decide_eq_true_eq] at hb; omega
                go_wp2
                go_round
                case rel =>
                  have hN : ∀ i (h : i < t.size), i < n + 1 → digI (t[i]'h).toNat = true := fun i h hi => by
                    by_cases hh : i = n
                    · subst hh; exact hb
                    · exact hall i h (by omega)
                  first
                    | exact ⟨n + 1, by omega, by go_num, hN⟩
                    | exact ⟨_, _, .int .i64 ((n : Int) + 1), ⟨n + 1, by omega, by simp, hN⟩, rfl, rfl, rfl⟩
                case measure => simp [intOf]; omega
              · have hB := Lib.hid (digs_no hlt (by simpa using hb))
                have hb3 : (t[n]'hlt).toNat < 48 ∨ 57 < (t[n]'hlt).toNat := by simp only [digI, Bool.and_eq_true, decide_eq_true_eq] at hb; omega
                clear hb
                rcases hb3 with hb3 | hb3
                · go_wp2
                  go_ret
                  exact ⟨ret_b (HD.out.trans hB.out).symm, rfl⟩
                · have hb4 : 48 ≤ (t[n]'hlt).toNat := by omega
                  go_wp2
                  go_ret
                  exact ⟨ret_b (HD.out.trans hB.out).symm, rfl⟩
            · have hA := Lib.hid ((digs_at t).2 fun i h => hall i h (by omega))
              go_wp2
              go_ret
              exact ⟨ret_b (HD.out.trans hA.out).symm, rfl⟩
      · have hte : t.toList = [] := is_nil ht
        have HD := Lib.hid (dec_nege h0 ht hx hm)
        go_wp2
        go_ret
        exact ⟨ret_b HD.out.symm, rfl⟩
    · clear hx
      by_cases h48 : (s[0]'h0).toNat = 48
      · by_cases hz : (s.toList == [48]) = true
        · have HD := Lib.hid (dec_zero h0 hz)
          go_wp2
          go_loop [29] (fun i => ∃ n : Nat, n ≤ s.size ∧ i = .int .i64 n ∧ ∀ i (h : i < s.size), i < n → digI (s[i]'h).toNat = true) (fun i => s.size - (intOf i).toNat)
          case atStart => exact ⟨0, Nat.zero_le _, rfl, fun i _ h => absurd h (Nat.not_lt_zero _)⟩
          case round =>
            obtain ⟨n, hn, rfl, hall⟩ := hrel
            by_cases hlt : n < s.size
            · by_cases hb : digI (s[n]'hlt).toNat = true
              · have hb1 : 48 ≤ (s[n]'hlt).toNat := by simp only [digI, Bool.and_eq_true, decide_eq_true_eq] at hb; omega
                have hb2 : (s[n]'hlt).toNat ≤ 57 := by simp only [digI, Bool.and_eq_true, decide_eq_true_eq] at hb; omega
                go_wp2
                go_round
                case rel =>
                  have hN : ∀ i (h : i < s.size), i < n + 1 → digI (s[i]'h).toNat = true := fun i h hi => by
                    by_cases hh : i = n
                    · subst hh; exact hb
                    · exact hall i h (by omega)
                  first
                    | exact ⟨n + 1, by omega, by go_num, hN⟩
                    | exact ⟨_, _, .int .i64 ((n : Int) + 1), ⟨n + 1, by omega, by simp, hN⟩, rfl, rfl, rfl⟩
                case measure => simp [intOf]; omega
              · have hB := Lib.hid (digs_no hlt (by simpa using hb))
                have hb3 : (s[n]'hlt).toNat < 48 ∨ 57 < (s[n]'hlt).toNat := by simp only [digI, Bool.and_eq_true, decide_eq_true_eq] at hb; omega
                clear hb
                rcases hb3 with hb3 | hb3
                · go_wp2
                  go_ret
                  exact ⟨ret_b (HD.out.trans hB.out).symm, rfl⟩
                · have hb4 : 48 ≤ (s[n]'hlt).toNat := by omega
                  go_wp2
                  go_ret
                  exact ⟨ret_b (HD.out.trans hB.out).symm, rfl⟩
            · have hA := Lib.hid ((digs_at s).2 fun i h => hall i h (by omega))
              go_wp2
              go_ret
              exact ⟨ret_b (HD.out.trans hA.out).symm, rfl⟩
        · have hz' : (s.toList == [48]) = false := by simpa using hz
          have HD := Lib.hid (dec_0 h0 h48 hz')
          clear hz
          go_wp2
          go_ret
          exact ⟨ret_b HD.out.symm, rfl⟩
      · have HD := Lib.hid (dec_pos h0 hm h48)
        go_wp2
        go_loop [29] (fun i => ∃ n : Nat, n ≤ s.size ∧ i = .int .i64 n ∧ ∀ i (h : i < s.size), i < n → digI (s[i]'h).toNat = true) (fun i => s.size - (intOf i).toNat)
        case atStart => exact ⟨0, Nat.zero_le _, rfl, fun i _ h => absurd h (Nat.not_lt_zero _)⟩
        case round =>
          obtain ⟨n, hn, rfl, hall⟩ := hrel
          by_cases hlt : n < s.size
          · by_cases hb : digI (s[n]'hlt).toNat = true
            · have hb1 : 48 ≤ (s[n]'hlt).toNat := by simp only [digI, Bool.and_eq_true, decide_eq_true_eq] at hb; omega
              have hb2 : (s[n]'hlt).toNat ≤ 57 := by simp only [digI, Bool.and_eq_true, decide_eq_true_eq] at hb; omega
              go_wp2
              go_round
              case rel =>
                have hN : ∀ i (h : i < s.size), i < n + 1 → digI (s[i]'h).toNat = true := fun i h hi => by
                  by_cases hh : i = n
                  · subst hh; exact hb
                  · exact hall i h (by omega)
                first
                  | exact ⟨n + 1, by omega, by go_num, hN⟩
                  | exact ⟨_, _, .int .i64 ((n : Int) + 1), ⟨n + 1, by omega, by simp, hN⟩, rfl, rfl, rfl⟩
              case measure => simp [intOf]; omega
            · have hB := Lib.hid (digs_no hlt (by simpa using hb))
              have hb3 : (s[n]'hlt).toNat < 48 ∨ 57 < (s[n]'hlt).toNat := by simp only [digI, Bool.and_eq_true, decide_eq_true_eq] at hb; omega
              clear hb
              rcases hb3 with hb3 | hb3
              · go_wp2
                go_ret
                exact ⟨ret_b (HD.out.trans hB.out).symm, rfl⟩
              · have hb4 : 48 ≤ (s[n]'hlt).toNat := by omega
                go_wp2
                go_ret
                exact ⟨ret_b (HD.out.trans hB.out).symm, rfl⟩
          · have hA := Lib.hid ((digs_at s).2 fun i h => hall i h (by omega))
            go_wp2
            go_ret
            exact ⟨ret_b (HD.out.trans hA.out).symm, rfl⟩
  · have hne : s.toList = [] := is_nil h0
    have h1 : s.size = 0 := by omega
    have HD := Lib.hid (dec_nil h0)
    clear h0
    go_wp2
    go_ret
    exact ⟨ret_b HD.out.symm, rfl⟩

set_option maxHeartbeats 1000000 in
theorem form_any (s : ByteArray) (w : World) (hs : s.size ≤ 140737488351232) :
    Calls Tryd.prog 40 #[.string s] w fun e w' => e = .returned (.bool (decB s)) ∧ w' = w := by
  go_enter Tryd.func40, Tryd.ntmps40
  by_cases h0 : 0 < s.size
  · obtain ⟨t, hx⟩ : ∃ t, s.extract 1 s.size = t := ⟨_, rfl⟩
    have hts : t.size ≤ 140737488351232 := by rw [← hx]; simp; omega
    by_cases hm : (s[0]'h0).toNat = 45
    · by_cases ht : 0 < t.size
      · by_cases h48 : (t[0]'ht).toNat = 48
        · have HD := Lib.hid (dec_neg0 h0 ht hx hm h48)
          go_wp2
          go_ret
          exact ⟨ret_b HD.out.symm, rfl⟩
        · have HD := Lib.hid (dec_neg h0 ht hx hm h48)
          have htz : ¬ t.size = 0 := by omega
          by_cases h1 : 1 < t.size
          · go_wp2
            go_loop [39] (fun i => ∃ n : Nat, n ≤ t.size ∧ i = .int .i64 n ∧ ∀ i (h : i < t.size), i < n → digI (t[i]'h).toNat = true) (fun i => t.size - (intOf i).toNat)
            case atStart => exact ⟨0, Nat.zero_le _, rfl, fun i _ h => absurd h (Nat.not_lt_zero _)⟩
            case round =>
              obtain ⟨n, hn, rfl, hall⟩ := hrel
              by_cases hlt : n < t.size
              · by_cases hb : digI (t[n]'hlt).toNat = true
                · have hb1 : 48 ≤ (t[n]'hlt).toNat := by simp only [digI, Bool.and_eq_true, decide_eq_true_eq] at hb; omega
                  have hb2 : (t[n]'hlt).toNat ≤ 57 := by simp only [digI, Bool.and_eq_true, decide_eq_true_eq] at hb; omega
                  go_wp2
                  go_round
                  case rel =>
                    have hN : ∀ i (h : i < t.size), i < n + 1 → digI (t[i]'h).toNat = true := fun i h hi => by
                      by_cases hh : i = n
                      · subst hh; exact hb
                      · exact hall i h (by omega)
                    first
                      | exact ⟨n + 1, by omega, by go_num, hN⟩
                      | exact ⟨_, _, .int .i64 ((n : Int) + 1), ⟨n + 1, by omega, by simp, hN⟩, rfl, rfl, rfl⟩
                  case measure => simp [intOf]; omega
                · have hB := Lib.hid (digs_no hlt (by simpa using hb))
                  have hb3 : (t[n]'hlt).toNat < 48 ∨ 57 < (t[n]'hlt).toNat := by simp only [digI, Bool.and_eq_true, decide_eq_true_eq] at hb; omega
                  clear hb
                  rcases hb3 with hb3 | hb3
                  · go_wp2
                    go_ret
                    exact ⟨ret_b (HD.out.trans hB.out).symm, rfl⟩
                  · have hb4 : 48 ≤ (t[n]'hlt).toNat := by omega
                    go_wp2
                    go_ret
                    exact ⟨ret_b (HD.out.trans hB.out).symm, rfl⟩
              · have hA := Lib.hid ((digs_at t).2 fun i h => hall i h (by omega))
                go_wp2
                go_ret
                exact ⟨ret_b (HD.out.trans hA.out).symm, rfl⟩
          · go_wp2
            go_loop [39] (fun i => ∃ n : Nat, n ≤ t.size ∧ i = .int .i64 n ∧ ∀ i (h : i < t.size), i < n → digI (t[i]'h).toNat = true) (fun i => t.size - (intOf i).toNat)
            case atStart => exact ⟨0, Nat.zero_le _, rfl, fun i _ h => absurd h (Nat.not_lt_zero _)⟩
            case round =>
              obtain ⟨n, hn, rfl, hall⟩ := hrel
              by_cases hlt : n < t.size
              · by_cases hb : digI (t[n]'hlt).toNat = true
                · have hb1 : 48 ≤ (t[n]'hlt).toNat := by simp only [digI, Bool.and_eq_true, decide_eq_true_eq] at hb; omega
                  have hb2 : (t[n]'hlt).toNat ≤ 57 := by simp only [digI, Bool.and_eq_true, decide_eq_true_eq] at hb; omega
                  go_wp2
                  go_round
                  case rel =>
                    have hN : ∀ i (h : i < t.size), i < n + 1 → digI (t[i]'h).toNat = true := fun i h hi => by
                      by_cases hh : i = n
                      · subst hh; exact hb
                      · exact hall i h (by omega)
                    first
                      | exact ⟨n + 1, by omega, by go_num, hN⟩
                      | exact ⟨_, _, .int .i64 ((n : Int) + 1), ⟨n + 1, by omega, by simp, hN⟩, rfl, rfl, rfl⟩
                  case measure => simp [intOf]; omega
                · have hB := Lib.hid (digs_no hlt (by simpa using hb))
                  have hb3 : (t[n]'hlt).toNat < 48 ∨ 57 < (t[n]'hlt).toNat := by simp only [digI, Bool.and_eq_true, decide_eq_true_eq] at hb; omega
                  clear hb
                  rcases hb3 with hb3 | hb3
                  · go_wp2
                    go_ret
                    exact ⟨ret_b (HD.out.trans hB.out).symm, rfl⟩
                  · have hb4 : 48 ≤ (t[n]'hlt).toNat := by omega
                    go_wp2
                    go_ret
                    exact ⟨ret_b (HD.out.trans hB.out).symm, rfl⟩
              · have hA := Lib.hid ((digs_at t).2 fun i h => hall i h (by omega))
                go_wp2
                go_ret
                exact ⟨ret_b (HD.out.trans hA.out).symm, rfl⟩
      · have htz : t.size = 0 := by omega
        have HD := Lib.hid (dec_nege h0 ht hx hm)
        clear ht
        go_wp2
        go_ret
        exact ⟨ret_b HD.out.symm, rfl⟩
    · clear hx
      have hsz : ¬ s.size = 0 := by omega
      have e0 : ((s.size : Int) == 0) = false := by rw [beq_eq_false_iff_ne]; omega
      by_cases h1 : 1 < s.size
      · by_cases h48 : (s[0]'h0).toNat = 48
        · have HD := Lib.hid (dec_0 h0 h48 (long_zero h1))
          go_wp2
          go_ret
          exact ⟨ret_b HD.out.symm, rfl⟩
        · have HD := Lib.hid (dec_pos h0 hm h48)
          have e48 : (((s[0]'h0).toNat : Int) == 48) = false := by rw [beq_eq_false_iff_ne]; omega
          go_wp2
          go_loop [39] (fun i => ∃ n : Nat, n ≤ s.size ∧ i = .int .i64 n ∧ ∀ i (h : i < s.size), i < n → digI (s[i]'h).toNat = true) (fun i => s.size - (intOf i).toNat)
          case atStart => exact ⟨0, Nat.zero_le _, rfl, fun i _ h => absurd h (Nat.not_lt_zero _)⟩
          case round =>
            obtain ⟨n, hn, rfl, hall⟩ := hrel
            by_cases hlt : n < s.size
            · by_cases hb : digI (s[n]'hlt).toNat = true
              · have hb1 : 48 ≤ (s[n]'hlt).toNat := by simp only [digI, Bool.and_eq_true, decide_eq_true_eq] at hb; omega
                have hb2 : (s[n]'hlt).toNat ≤ 57 := by simp only [digI, Bool.and_eq_true, decide_eq_true_eq] at hb; omega
                go_wp2
                go_round
                case rel =>
                  have hN : ∀ i (h : i < s.size), i < n + 1 → digI (s[i]'h).toNat = true := fun i h hi => by
                    by_cases hh : i = n
                    · subst hh; exact hb
                    · exact hall i h (by omega)
                  first
                    | exact ⟨n + 1, by omega, by go_num, hN⟩
                    | exact ⟨_, _, .int .i64 ((n : Int) + 1), ⟨n + 1, by omega, by simp, hN⟩, rfl, rfl, rfl⟩
                case measure => simp [intOf]; omega
              · have hB := Lib.hid (digs_no hlt (by simpa using hb))
                have hb3 : (s[n]'hlt).toNat < 48 ∨ 57 < (s[n]'hlt).toNat := by simp only [digI, Bool.and_eq_true, decide_eq_true_eq] at hb; omega
                clear hb
                rcases hb3 with hb3 | hb3
                · go_wp2
                  go_ret
                  exact ⟨ret_b (HD.out.trans hB.out).symm, rfl⟩
                · have hb4 : 48 ≤ (s[n]'hlt).toNat := by omega
                  go_wp2
                  go_ret
                  exact ⟨ret_b (HD.out.trans hB.out).symm, rfl⟩
            · have hA := Lib.hid ((digs_at s).2 fun i h => hall i h (by omega))
              go_wp2
              go_ret
              exact ⟨ret_b (HD.out.trans hA.out).symm, rfl⟩
      · have HD := Lib.hid (dec_one h0 h1 hm)
        go_wp2
        go_loop [39] (fun i => ∃ n : Nat, n ≤ s.size ∧ i = .int .i64 n ∧ ∀ i (h : i < s.size), i < n → digI (s[i]'h).toNat = true) (fun i => s.size - (intOf i).toNat)
        case atStart => exact ⟨0, Nat.zero_le _, rfl, fun i _ h => absurd h (Nat.not_lt_zero _)⟩
        case round =>
          obtain ⟨n, hn, rfl, hall⟩ := hrel
          by_cases hlt : n < s.size
          · by_cases hb : digI (s[n]'hlt).toNat = true
            · have hb1 : 48 ≤ (s[n]'hlt).toNat := by simp only [digI, Bool.and_eq_true, decide_eq_true_eq] at hb; omega
              have hb2 : (s[n]'hlt).toNat ≤ 57 := by simp only [digI, Bool.and_eq_true, decide_eq_true_eq] at hb; omega
              go_wp2
              go_round
              case rel =>
                have hN : ∀ i (h : i < s.size), i < n + 1 → digI (s[i]'h).toNat = true := fun i h hi => by
                  by_cases hh : i = n
                  · subst hh; exact hb
                  · exact hall i h (by omega)
                first
                  | exact ⟨n + 1, by omega, by go_num, hN⟩
                  | exact ⟨_, _, .int .i64 ((n : Int) + 1), ⟨n + 1, by omega, by simp, hN⟩, rfl, rfl, rfl⟩
              case measure => simp [intOf]; omega
            · have hB := Lib.hid (digs_no hlt (by simpa using hb))
              have hb3 : (s[n]'hlt).toNat < 48 ∨ 57 < (s[n]'hlt).toNat := by simp only [digI, Bool.and_eq_true, decide_eq_true_eq] at hb; omega
              clear hb
              rcases hb3 with hb3 | hb3
              · go_wp2
                go_ret
                exact ⟨ret_b (HD.out.trans hB.out).symm, rfl⟩
              · have hb4 : 48 ≤ (s[n]'hlt).toNat := by omega
                go_wp2
                go_ret
                exact ⟨ret_b (HD.out.trans hB.out).symm, rfl⟩
          · have hA := Lib.hid ((digs_at s).2 fun i h => hall i h (by omega))
            go_wp2
            go_ret
            exact ⟨ret_b (HD.out.trans hA.out).symm, rfl⟩
  · have h1 : s.size = 0 := by omega
    have HD := Lib.hid (dec_nil h0)
    clear h0
    go_wp2
    go_ret
    exact ⟨ret_b HD.out.symm, rfl⟩

end Go.Proofs.YtcnmdhdoiekfoaaDoor
