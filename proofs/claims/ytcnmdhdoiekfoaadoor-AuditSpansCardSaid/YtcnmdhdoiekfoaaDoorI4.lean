/- The walks of num.Format and of the reference's Format. -/
import Derived.Test.YtcnmdhdoiekfoaaDoorI3
namespace Go.Proofs.YtcnmdhdoiekfoaaDoor
open Go.RowKit Go.Sort
set_option maxRecDepth 100000

def fmtB (n : Nat) : ByteArray := ⟨(Lib.decDigits n).toArray⟩

theorem format_any (n : Nat) (w : World) (hn : n ≤ 1000000000000) (hL : Laid w) :
    Calls Tryd.prog 39 #[.int .i64 (n : Int)] w fun e w' => e = .returned (.string (fmtB n)) ∧ Below w.heap.size w w' := by
  go_enter Tryd.func39, Tryd.ntmps39
  have HT := Lib.hid hL.ht
  have HI := Lib.hid (show Lib.itoa (n : Int) = Lib.decDigits n by rw [Lib.itoa, if_neg (by omega)]; rfl)
  go_wp2_with (first
    | (go_at_call 44; refine (Tryd.strconv_Itoa (n : Int) (by omega) (by omega) _ HT.out).mono ?_; rintro e w1 ⟨rfl, k, os, rfl⟩; rw [HI.out]))
  go_ret
  exact ⟨rfl, below_grow _ _ _⟩

theorem dig_extract : ∀ d : Nat, d < 10 → (⟨#[48, 49, 50, 51, 52, 53, 54, 55, 56, 57]⟩ : ByteArray).extract d (d + 1) = ⟨#[UInt8.ofNat (48 + d)]⟩ := by decide

def fmtMz (u i : Value) : Nat := (intOf i).toNat + (match u with | .string s => if s.size = 0 then 1 else 0 | _ => 0)
theorem fmtMz_mk (s : ByteArray) (m : Nat) : fmtMz (.string s) (.int .i64 (m : Int)) = m + if s.size = 0 then 1 else 0 := by simp [fmtMz, intOf]

def fmtInv (n m : Nat) (s : ByteArray) : Prop := (s.data.toList = [] ∧ m = n) ∨ (s.data.toList ≠ [] ∧ Lib.decDigits n = (if m = 0 then [] else Lib.decDigits m) ++ s.data.toList)

theorem dec_step (m : Nat) : Lib.decDigits m = (if m / 10 = 0 then [] else Lib.decDigits (m / 10)) ++ [UInt8.ofNat (48 + m % 10)] := by
  rw [Lib.decDigits]
  by_cases h : m < 10
  · rw [dif_pos h, if_pos (by omega), Nat.mod_eq_of_lt h]; rfl
  · rw [dif_neg h, if_neg (by omega)]

def dig1 (m : Nat) : ByteArray := (⟨#[48, 49, 50, 51, 52, 53, 54, 55, 56, 57]⟩ : ByteArray).extract (m % 10) (m % 10 + 1)
theorem dig1_list (m : Nat) (s : ByteArray) : (dig1 m ++ s).data.toList = UInt8.ofNat (48 + m % 10) :: s.data.toList := by
  rw [dig1, dig_extract _ (by omega)]; simp
theorem dig1_size (m : Nat) (s : ByteArray) : (dig1 m ++ s).size = s.size + 1 := by
  rw [← len_data, dig1_list, List.length_cons, len_data]

theorem fmt_step {n m : Nat} {s : ByteArray} (h : fmtInv n m s) (h0 : m = 0 → s.size = 0) : fmtInv n (m / 10) (dig1 m ++ s) := by
  right
  rw [dig1_list]
  refine ⟨by simp, ?_⟩
  rcases h with ⟨h1, h2⟩ | ⟨h1, h2⟩
  · rw [h1, ← h2, dec_step]
  · by_cases hm : m = 0
    · exact absurd (List.length_eq_zero_iff.1 (by rw [len_data]; exact h0 hm)) h1
    · rw [if_neg hm, dec_step m] at h2
      rw [h2]; simp

set_option maxHeartbeats 1000000 in
theorem rformat_any (n : Nat) (w : World) (hn : n ≤ 1000000000000) :
    Calls Tryd.prog 41 #[.int .i64 (n : Int)] w fun e w' => e = .returned (.string (fmtB n)) ∧ w' = w := by
  go_enter Tryd.func41, Tryd.ntmps41
  go_wp2
  go_loop [4, 5] (fun u i => ∃ (m : Nat) (s : ByteArray), u = .string s ∧ i = .int .i64 (m : Int) ∧ m ≤ 1000000000000 ∧ s.size ≤ 100 + n ∧ s.size + m ≤ 100 + n ∧ fmtInv n m s) (fun u i => fmtMz u i)
  case atStart => exact ⟨n, _, rfl, rfl, hn, by simp [ByteArray.size], by simp [ByteArray.size], .inl ⟨rfl, rfl⟩⟩
  case round =>
    obtain ⟨m, s, rfl, rfl, hm, hsz1, hsz, hinv⟩ := hrel
    have HI := Lib.hid hinv
    clear hinv
    by_cases h0 : m = 0
    · by_cases hs : 0 < s.size
      · subst h0
        have hs1 : ¬ s.toList = [] := ne_nil hs
        have hs2 : s.toList.isEmpty = false := ne_nil' hs
        go_wp2
        go_ret
        refine ⟨?_, rfl⟩
        rcases HI.out with ⟨e, _⟩ | ⟨_, e⟩
        · exact absurd (by rw [ByteArray.toList_eq]; exact e) hs1
        · rw [fmtB, e]; rfl
      · subst h0
        have hs0 : s.size = 0 := by omega
        have hs1 : s.toList = [] := is_nil hs
        clear hs
        go_wp2
        refine ⟨⟨0, dig1 0 ++ s, rfl, rfl, by omega, by rw [dig1_size]; omega, by rw [dig1_size]; omega, fmt_step HI.out (fun _ => hs0)⟩, ?_⟩
        rw [show (Value.int .i64 0) = Value.int .i64 ((0 : Nat) : Int) from rfl]
        first
          | (refine Nat.lt_of_le_of_lt (Nat.le_of_eq (fmtMz_mk (dig1 0 ++ s) 0)) ?_; rw [fmtMz_mk, if_neg (by rw [dig1_size]; omega), if_pos hs0]; omega)
    · have h1 : (0 : Int) < (m : Int) := by omega
      have h2 : ¬ (m : Int) = 0 := by omega
      go_wp2
      refine ⟨⟨m / 10, dig1 m ++ s, rfl, by simp, by omega, by rw [dig1_size]; omega, by rw [dig1_size]; omega, fmt_step HI.out (fun h => absurd h h0)⟩, ?_⟩
      rw [show ((m : Int) / 10) = ((m / 10 : Nat) : Int) by simp]
      refine Nat.lt_of_le_of_lt (Nat.le_of_eq (fmtMz_mk (dig1 m ++ s) (m / 10))) ?_
      rw [fmtMz_mk, if_neg (by rw [dig1_size]; omega)]
      omega

end Go.Proofs.YtcnmdhdoiekfoaaDoor
