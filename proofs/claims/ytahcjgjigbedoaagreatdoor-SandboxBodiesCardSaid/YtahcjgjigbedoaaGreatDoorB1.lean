/- Identifiers: the program's ident.ID and the reference's answer alike. -/
import Derived.Test.YtahcjgjigbedoaaGreatDoorGB9
import Derived.Laws.RangeString
import Derived.Laws.RangeAny
import Derived.Handy
set_option linter.unusedVariables false
set_option linter.unusedSimpArgs false
namespace Go.Proofs.YtahcjgjigbedoaaGreatDoor
open Go.RowKit
set_option maxRecDepth 100000
set_option linter.unusedSimpArgs false
/-- A sign that an identifier may have. -/
def idN (n : Int) : Bool := decide ((97 ≤ n ∧ n ≤ 122) ∨ (48 ≤ n ∧ n ≤ 57) ∨ (65 ≤ n ∧ n ≤ 90) ∨ n = 45 ∨ n = 95 ∨ n = 46 ∨ n = 58 ∨ n = 47)
def idL (s : ByteArray) : Bool := s.data.toList.all fun b => idN b.toNat
def idB (s : ByteArray) : Bool := idL s && (decide (1 ≤ s.size) && decide (s.size ≤ 64))
theorem small_rune (n : Int) (w : World) : Calls Tryz.prog 59 #[.int .i32 n] w fun e w' => e = .returned (.bool (decide (97 ≤ n ∧ n ≤ 122))) ∧ w' = w := by
 by_cases h1 : 97 ≤ n
 all_goals by_cases h2 : n ≤ 122
 all_goals
  go_enter Tryz.func59, Tryz.ntmps59
  go_wp2
  go_ret
  exact ⟨by simp [h1, h2], rfl⟩
theorem digit_rune (n : Int) (w : World) : Calls Tryz.prog 60 #[.int .i32 n] w fun e w' => e = .returned (.bool (decide (48 ≤ n ∧ n ≤ 57))) ∧ w' = w := by
 by_cases h1 : 48 ≤ n
 all_goals by_cases h2 : n ≤ 57
 all_goals
  go_enter Tryz.func60, Tryz.ntmps60
  go_wp2
  go_ret
  exact ⟨by simp [h1, h2], rfl⟩
theorem small_byte (b : UInt8) (w : World) : Calls Tryz.prog 66 #[.int .u8 b.toNat] w fun e w' => e = .returned (.bool (decide (97 ≤ (b.toNat : Int) ∧ (b.toNat : Int) ≤ 122))) ∧ w' = w := by
 obtain ⟨n, hn⟩ : ∃ n : Int, (b.toNat : Int) = n := ⟨_, rfl⟩
 rw [hn]
 by_cases h1 : 97 ≤ n
 all_goals by_cases h2 : n ≤ 122
 all_goals
  go_enter Tryz.func66, Tryz.ntmps66
  go_wp2
  go_ret
  exact ⟨by simp [h1, h2], rfl⟩
theorem digit_byte (b : UInt8) (w : World) : Calls Tryz.prog 67 #[.int .u8 b.toNat] w fun e w' => e = .returned (.bool (decide (48 ≤ (b.toNat : Int) ∧ (b.toNat : Int) ≤ 57))) ∧ w' = w := by
 obtain ⟨n, hn⟩ : ∃ n : Int, (b.toNat : Int) = n := ⟨_, rfl⟩
 rw [hn]
 by_cases h1 : 48 ≤ n
 all_goals by_cases h2 : n ≤ 57
 all_goals
  go_enter Tryz.func67, Tryz.ntmps67
  go_wp2
  go_ret
  exact ⟨by simp [h1, h2], rfl⟩
set_option maxHeartbeats 2000000 in
theorem letter_rune (n : Int) (w : World) : Calls Tryz.prog 41 #[.int .i32 n] w fun e w' => e = .returned (.bool (idN n)) ∧ w' = w := by
 have HS := Lib.hid (small_rune n w)
 have HD := Lib.hid (digit_rune n w)
 obtain ⟨r, hr⟩ : ∃ r, idN n = r := ⟨_, rfl⟩
 rw [hr]
 have HR : Hid (r = decide ((97 ≤ n ∧ n ≤ 122) ∨ (48 ≤ n ∧ n ≤ 57) ∨ (65 ≤ n ∧ n ≤ 90) ∨ n = 45 ∨ n = 95 ∨ n = 46 ∨ n = 58 ∨ n = 47)) := Lib.hid hr.symm
 clear hr
 by_cases h1 : 97 ≤ n ∧ n ≤ 122
 all_goals by_cases h2 : 48 ≤ n ∧ n ≤ 57
 all_goals by_cases h3 : 65 ≤ n
 all_goals by_cases h4 : n ≤ 90
 all_goals try (exfalso; omega)
 all_goals
  simp only [h1, h2, decide_true, decide_false] at HS HD
  have H1 := Lib.hid h1
  have H2 := Lib.hid h2
  clear h1 h2
  go_enter Tryz.func41, Tryz.ntmps41
  go_wp2_with (first
   | (go_at_call 59; (with_reducible refine HS.out.mono ?_); rintro e w1 ⟨rfl, rfl⟩)
   | (go_at_call 60; (with_reducible refine HD.out.mono ?_); rintro e w1 ⟨rfl, rfl⟩))
  all_goals
   go_returns
   refine ⟨congrArg (fun b => Ending.returned (.bool b)) ?_, rfl⟩
   have G1 := H1.out
   have G2 := H2.out
   rw [HR.out, Bool.eq_iff_iff]
   simp only [decide_eq_true_eq, beq_iff_eq, true_iff, Bool.or_eq_true, Bool.false_eq_true, false_iff]
   omega
set_option maxHeartbeats 2000000 in
theorem part_byte (b : UInt8) (w : World) : Calls Tryz.prog 43 #[.int .u8 b.toNat] w fun e w' => e = .returned (.bool (idN b.toNat)) ∧ w' = w := by
 have HS := Lib.hid (small_byte b w)
 have HD := Lib.hid (digit_byte b w)
 obtain ⟨n, hn⟩ : ∃ n : Int, (b.toNat : Int) = n := ⟨_, rfl⟩
 rw [hn] at HS HD ⊢
 clear hn
 obtain ⟨r, hr⟩ : ∃ r, idN n = r := ⟨_, rfl⟩
 rw [hr]
 have HR : Hid (r = decide ((97 ≤ n ∧ n ≤ 122) ∨ (48 ≤ n ∧ n ≤ 57) ∨ (65 ≤ n ∧ n ≤ 90) ∨ n = 45 ∨ n = 95 ∨ n = 46 ∨ n = 58 ∨ n = 47)) := Lib.hid hr.symm
 clear hr
 by_cases h1 : 97 ≤ n ∧ n ≤ 122
 all_goals by_cases h2 : 48 ≤ n ∧ n ≤ 57
 all_goals by_cases h3 : 65 ≤ n
 all_goals by_cases h4 : n ≤ 90
 all_goals try (exfalso; omega)
 all_goals
  simp only [h1, h2, decide_true, decide_false] at HS HD
  have H1 := Lib.hid h1
  have H2 := Lib.hid h2
  clear h1 h2
  go_enter Tryz.func43, Tryz.ntmps43
  go_wp2_with (first
   | (go_at_call 66; (with_reducible refine HS.out.mono ?_); rintro e w1 ⟨rfl, rfl⟩)
   | (go_at_call 67; (with_reducible refine HD.out.mono ?_); rintro e w1 ⟨rfl, rfl⟩))
  all_goals
   go_returns
   refine ⟨congrArg (fun b => Ending.returned (.bool b)) ?_, rfl⟩
   have G1 := H1.out
   have G2 := H2.out
   rw [HR.out, Bool.eq_iff_iff]
   simp only [decide_eq_true_eq, beq_iff_eq, true_iff, Bool.or_eq_true, Bool.false_eq_true, false_iff]
   omega
theorem idL_snoc (s : ByteArray) (k : Nat) (h : k < s.size) (ha : (s.data.toList.take k).all (fun b => idN b.toNat) = true) (hb : idN s[k].toNat = true) : (s.data.toList.take (k + 1)).all (fun b => idN b.toNat) = true := by
 have hl : k < s.data.toList.length := by simpa using h
 rw [List.take_succ_eq_append_getElem hl, List.all_append, ha]
 simp only [List.all_cons, List.all_nil, Bool.true_and, Bool.and_true]
 exact hb
theorem idL_bad (s : ByteArray) (k : Nat) (h : k < s.size) (hb : idN s[k].toNat = false) : idL s = false := by
 have hl : k < s.data.toList.length := by simpa using h
 unfold idL
 rw [List.all_eq_false]
 refine ⟨s.data.toList[k], List.getElem_mem hl, ?_⟩
 rw [show s.data.toList[k] = s[k] from rfl, hb]
 simp
theorem idN_big {n : Int} (h : 128 ≤ n) : idN n = false := by unfold idN; exact decide_eq_false (by omega)
theorem idL_all (s : ByteArray) (ha : (s.data.toList.take s.size).all (fun b => idN b.toNat) = true) : idL s = true := by
 rw [List.take_of_length_le (by simp)] at ha
 exact ha
attribute [local go_sem] cell_alloc_is
set_option maxHeartbeats 4000000 in
theorem rid_any (s : ByteArray) (w : World) (hs : s.size ≤ 140737488351232) : Calls Tryz.prog 28 #[.string s] w fun e w' => e = .returned (.bool (idB s)) ∧ w' = w := by
 obtain ⟨r, hr⟩ : ∃ r, idB s = r := ⟨_, rfl⟩
 rw [hr]
 have HR := Lib.hid hr
 clear hr
 by_cases h1 : (1 : Int) ≤ (s.size : Int)
 ·by_cases h2 : (s.size : Int) ≤ 64
  ·go_enter Tryz.func28, Tryz.ntmps28
   go_wp2
   go_loop [3] (fun i => ∃ k : Nat, k ≤ s.size ∧ i = .int .i64 k ∧ Hid ((s.data.toList.take k).all (fun b => idN b.toNat) = true)) (fun i => s.size - (intOf i).toNat)
   case atStart => exact ⟨0, Nat.zero_le _, rfl, Lib.hid rfl⟩
   case round =>
    obtain ⟨k, hk, rfl, HA⟩ := hrel
    have hk0 : (0 : Int) ≤ (k : Int) := by omega
    by_cases hlt : k < s.size
    ·have hlt' : (k : Int) < (s.size : Int) := by omega
     have HP := Lib.hid (part_byte s[k] w)
     obtain ⟨p, hp⟩ : ∃ p, idN s[k].toNat = p := ⟨_, rfl⟩
     rw [hp] at HP
     have HPP := Lib.hid hp
     clear hp
     cases p
     ·go_wp2_with (first | (go_at_call 43; (with_reducible refine HP.out.mono ?_); rintro e w1 ⟨rfl, rfl⟩))
      go_ret
      exact ⟨by rw [← HR.out]; unfold idB; rw [idL_bad s k hlt HPP.out]; rfl, rfl⟩
     ·go_wp2_with (first | (go_at_call 43; (with_reducible refine HP.out.mono ?_); rintro e w1 ⟨rfl, rfl⟩))
      exact ⟨⟨k + 1, by omega, by simp, Lib.hid (idL_snoc s k hlt HA.out HPP.out)⟩, by simp [intOf]; omega⟩
    ·have e : k = s.size := by omega
     subst e
     go_wp2
     go_ret
     exact ⟨by rw [← HR.out]; unfold idB; rw [idL_all s HA.out, decide_eq_true (p := 1 ≤ s.size) (by omega), decide_eq_true (p := s.size ≤ 64) (by omega)]; rfl, rfl⟩
  ·have h3 : (64 : Int) < (s.size : Int) := by omega
   go_enter Tryz.func28, Tryz.ntmps28
   go_wp2
   go_ret
   exact ⟨by rw [← HR.out]; unfold idB; rw [decide_eq_false (p := s.size ≤ 64) (by omega), Bool.and_false, Bool.and_false]; rfl, rfl⟩
 ·have h3 : (s.size : Int) < 1 := by omega
  go_enter Tryz.func28, Tryz.ntmps28
  go_wp2
  go_ret
  exact ⟨by rw [← HR.out]; unfold idB; rw [decide_eq_false (p := 1 ≤ s.size) (by omega), Bool.false_and, Bool.and_false]; rfl, rfl⟩
set_option maxHeartbeats 4000000 in
theorem cid_any (s : ByteArray) (w : World) (hs : s.size ≤ 140737488351232) : Calls Tryz.prog 25 #[.string s] w fun e w' => e = .returned (.bool (idB s)) ∧ Below w.heap.size w w' := by
 obtain ⟨r, hr⟩ : ∃ r, idB s = r := ⟨_, rfl⟩
 rw [hr]
 have HR := Lib.hid hr
 clear hr
 go_enter Tryz.func25, Tryz.ntmps25
 go_wp2
 go_loopw [4] (fun _ w' => ∃ k : Nat, k ≤ s.size ∧ w' = w.iter s k ∧ Hid ((s.data.toList.take k).all (fun b => idN b.toNat) = true)) (fun _ w' => s.size - w'.iterPos w.heap.size)
 case atStart => exact ⟨0, Nat.zero_le _, rfl, Lib.hid rfl⟩
 case round =>
  obtain ⟨k, hk, rfl, HA⟩ := hrel
  by_cases hlt : k < s.size
  ·by_cases ha : s[k].toNat < 128
   ·have hnx := fun ty => run_next_ascii (P := Tryz.prog) w s k ty hlt ha
    have HP := Lib.hid (letter_rune s[k].toNat (w.iter s (k + 1)))
    obtain ⟨p, hp⟩ : ∃ p, idN s[k].toNat = p := ⟨_, rfl⟩
    rw [hp] at HP
    have HPP := Lib.hid hp
    clear hp
    cases p
    ·go_wp2_with (first | (go_at_call 41; (with_reducible refine HP.out.mono ?_); rintro e w1 ⟨rfl, rfl⟩))
     go_ret
     exact ⟨by rw [← HR.out]; unfold idB; rw [idL_bad s k hlt HPP.out]; rfl, below_new _ _⟩
    ·go_wp2_with (first | (go_at_call 41; (with_reducible refine HP.out.mono ?_); rintro e w1 ⟨rfl, rfl⟩))
     exact ⟨⟨k + 1, by omega, rfl, Lib.hid (idL_snoc s k hlt HA.out HPP.out)⟩, by simp; omega⟩
   ·have hnx := fun ty => run_next_any (P := Tryz.prog) w s k ty hlt
    have hd := decode_high s k hlt (by omega)
    have HP := Lib.hid (letter_rune (Utf8.decode s k).1 (w.iter s (k + (Utf8.decode s k).2)))
    rw [idN_big (by omega)] at HP
    go_wp2_with (first | (go_at_call 41; (with_reducible refine HP.out.mono ?_); rintro e w1 ⟨rfl, rfl⟩))
    go_ret
    exact ⟨by rw [← HR.out]; unfold idB; rw [idL_bad s k hlt (idN_big (by omega))]; rfl, below_new _ _⟩
  ·have e : k = s.size := by omega
   subst e
   have hnx := fun ty => run_next_end (P := Tryz.prog) w s s.size ty (by omega)
   by_cases h1 : (1 : Int) ≤ (s.size : Int)
   all_goals by_cases h2 : (s.size : Int) ≤ 64
   all_goals
    go_wp2
    go_ret
    refine ⟨?_, below_new _ _⟩
    rw [← HR.out]
    unfold idB
    rw [idL_all s HA.out]
    simp
    omega
end Go.Proofs.YtahcjgjigbedoaaGreatDoor
