/- The walk of the reference's Parse: it answers as num.Parse does. -/
import Derived.Test.YtcnmdhdoiekfoaaDoorI4
namespace Go.Proofs.YtcnmdhdoiekfoaaDoor
open Go.RowKit Go.Sort
set_option maxRecDepth 100000

def stepV (a : Nat) (c : UInt8) : Nat := if c.toNat = 45 then a else 10 * a + (c.toNat - 48)
def valS (l : List UInt8) : Nat := l.foldl stepV 0
def foldD (acc : Nat) (l : List UInt8) : Nat := l.foldl (fun a c => 10 * a + (c.toNat - 48)) acc

theorem stepV_ge (a : Nat) (c : UInt8) : a ≤ stepV a c := by unfold stepV; split <;> omega
theorem foldV_ge (l : List UInt8) : ∀ a, a ≤ l.foldl stepV a := by
  induction l with
  | nil => intro a; exact Nat.le_refl _
  | cons c r ih => intro a; exact Nat.le_trans (stepV_ge a c) (ih _)
theorem valS_take (l : List UInt8) (k : Nat) : valS (l.take k) ≤ valS l := by
  conv => rhs; rw [← List.take_append_drop k l]
  rw [valS, valS, List.foldl_append]
  exact foldV_ge _ _
theorem valS_snoc (l : List UInt8) (k : Nat) (h : k < l.length) : valS (l.take (k + 1)) = stepV (valS (l.take k)) l[k] := by
  rw [valS, valS, List.take_succ_eq_append_getElem h, List.foldl_append]; rfl

theorem foldD_ge (l : List UInt8) : ∀ a, a ≤ foldD a l := by
  induction l with
  | nil => intro a; exact Nat.le_refl _
  | cons c r ih => intro a; exact Nat.le_trans (by show a ≤ 10 * a + (c.toNat - 48); omega) (ih _)

theorem pu10 (l : List UInt8) : ∀ acc, (l.all fun c => digI c.toNat) = true → acc < 18446744073709551616 →
    Lib.parseUint10 acc l = if foldD acc l < 18446744073709551616 then .ok (foldD acc l) else .range := by
  induction l with
  | nil => intro acc _ h; rw [if_pos (show foldD acc [] < _ from h)]; rfl
  | cons c r ih =>
    intro acc hd ha
    simp only [List.all_cons, Bool.and_eq_true, digI, decide_eq_true_eq] at hd
    obtain ⟨⟨h1, h2⟩, hr⟩ := hd
    have e : foldD acc (c :: r) = foldD (acc * 10 + (c.toNat - 48)) r := by
      show foldD (10 * acc + (c.toNat - 48)) r = _
      rw [Nat.mul_comm]
    have hge := foldD_ge r (acc * 10 + (c.toNat - 48))
    rw [Lib.parseUint10, if_pos ⟨h1, h2⟩, e]
    by_cases q1 : 1844674407370955162 ≤ acc
    · rw [if_pos q1, if_neg (by omega)]
    · rw [if_neg q1]
      by_cases q2 : 18446744073709551616 ≤ acc * 10 + (c.toNat - 48)
      · rw [if_pos q2, if_neg (by omega)]
      · rw [if_neg q2]
        exact ih _ (by simpa [List.all_eq_true, digI] using hr) (by omega)

theorem foldV_dig (l : List UInt8) : ∀ acc, (l.all fun c => digI c.toNat) = true → l.foldl stepV acc = foldD acc l := by
  induction l with
  | nil => intro acc _; rfl
  | cons c r ih =>
    intro acc hd
    simp only [List.all_cons, Bool.and_eq_true, digI, decide_eq_true_eq] at hd
    show r.foldl stepV (stepV acc c) = foldD (10 * acc + (c.toNat - 48)) r
    rw [stepV, if_neg (by omega)]
    exact ih _ (by simpa [List.all_eq_true, digI] using hd.2)

theorem parseMag_dig {l : List UInt8} (h : l ≠ []) (hd : (l.all fun c => digI c.toNat) = true) :
    Lib.parseMag l = if foldD 0 l < 18446744073709551616 then .ok (foldD 0 l) else .range := by
  rw [Lib.parseMag, if_neg h, pu10 l 0 hd (by omega)]

def negB (s : ByteArray) : Bool := decide ((s.data.toList.head?.map (·.toNat)) = some 45)

theorem parseR_eq {s : ByteArray} (h : decB s = true) : parseR s = if 1000000000000 < valS s.data.toList then (0, 2) else ((if negB s = true then -(valS s.data.toList : Int) else (valS s.data.toList : Int)), 0) := by
  have hd := h
  rw [parseR, h]
  unfold decB at hd
  unfold negB
  generalize s.data.toList = l at *
  match l, hd with
  | c :: r, hd =>
    simp only [decL] at hd
    by_cases hc : c.toNat = 45
    · rw [if_pos hc] at hd
      have hr : r ≠ [] := by rintro rfl; simp at hd
      have ha : (r.all fun c => digI c.toNat) = true := by
        match r, hd with
        | d :: r', hd => simp only [Bool.and_eq_true] at hd; exact hd.2
      have hv : valS (c :: r) = foldD 0 r := by
        show r.foldl stepV (stepV 0 c) = _
        rw [stepV, if_pos hc]; exact foldV_dig r 0 ha
      simp only [Lib.atoiAll, hc, or_true, if_true, parseMag_dig hr ha, hv, List.head?_cons, Option.map_some, decide_true]
      generalize foldD 0 r = v
      by_cases q : v < 18446744073709551616
      · simp only [if_pos q, not_true_eq_false, false_and, if_false, true_and]
        by_cases q2 : 9223372036854775808 < v
        · simp only [if_pos q2, Bool.true_eq_false, if_false]
          rw [if_pos (by omega)]
        · simp only [if_neg q2, Bool.true_eq_false, if_false]
          by_cases q3 : 1000000000000 < v
          · rw [if_pos q3, if_neg (by simp [validB]; omega)]
          · rw [if_neg q3, if_pos (by simp [validB]; omega)]
      · simp only [if_neg q, Bool.true_eq_false, if_false]
        rw [if_pos (by omega)]
    · rw [if_neg hc] at hd
      simp only [Bool.and_eq_true] at hd
      have ha := hd.2
      have hd0 : digI c.toNat = true := by simp only [List.all_cons, Bool.and_eq_true] at ha; exact ha.1
      have h43 : ¬ c.toNat = 43 := by simp only [digI, Bool.and_eq_true, decide_eq_true_eq] at hd0; omega
      have hv : valS (c :: r) = foldD 0 (c :: r) := foldV_dig _ 0 ha
      simp only [Lib.atoiAll, hc, h43, or_self, if_false, parseMag_dig (l := c :: r) (by simp) ha, hv, List.head?_cons, Option.map_some]
      generalize foldD 0 (c :: r) = v
      have hn : ¬ (some c.toNat = some 45) := by simpa using hc
      by_cases q : v < 18446744073709551616
      · simp only [if_pos q, not_false_eq_true, true_and, false_and, if_false]
        by_cases q2 : 9223372036854775808 ≤ v
        · simp only [if_pos q2, Bool.true_eq_false, if_false]
          rw [if_pos (by omega)]
        · simp only [if_neg q2, Bool.true_eq_false, if_false, hn, decide_false, Bool.false_eq_true]
          by_cases q3 : 1000000000000 < v
          · rw [if_pos q3, if_neg (by simp [validB]; omega)]
          · rw [if_neg q3, if_pos (by simp [validB]; omega)]
      · simp only [if_neg q, Bool.true_eq_false, if_false]
        rw [if_pos (by omega)]

theorem dec_bytes {s : ByteArray} (h : decB s = true) (i : Nat) (hi : i < s.size) : (s[i]'hi).toNat = 45 ∨ (48 ≤ (s[i]'hi).toNat ∧ (s[i]'hi).toNat ≤ 57) := by
  have hm : s[i]'hi ∈ s.data.toList := List.mem_iff_getElem.2 ⟨i, by simpa using hi, rfl⟩
  generalize s[i]'hi = x at *
  unfold decB at h
  generalize s.data.toList = l at *
  match l, h with
  | c :: r, h =>
    simp only [decL] at h
    by_cases hc : c.toNat = 45
    · rw [if_pos hc] at h
      rcases List.mem_cons.1 hm with rfl | hm
      · exact .inl hc
      · right
        match r, h with
        | d :: r', h =>
          simp only [Bool.and_eq_true] at h
          have := List.all_eq_true.1 h.2 x hm
          simpa only [digI, Bool.and_eq_true, decide_eq_true_eq] using this
    · rw [if_neg hc] at h
      simp only [Bool.and_eq_true] at h
      right
      have := List.all_eq_true.1 h.2 x hm
      simpa only [digI, Bool.and_eq_true, decide_eq_true_eq] using this

set_option maxHeartbeats 1000000 in
theorem rparse_any (s : ByteArray) (w : World) (hs : s.size ≤ 140737488351232) :
    Calls Tryd.prog 33 #[.string s] w fun e w' => e = .returned (.tuple #[.int .i64 (parseR s).1, .int .i64 (parseR s).2]) ∧ w' = w := by
  go_enter Tryd.func33, Tryd.ntmps33
  by_cases hd : decB s = true
  · have HD := Lib.hid hd
    have h0 : 0 < s.size := by
      by_cases h : 0 < s.size
      · exact h
      · rw [dec_nil h] at hd; cases hd
    have HR := Lib.hid (parseR_eq hd)
    clear hd
    by_cases hm : (s[0]'h0).toNat = 45
    · have HN := Lib.hid (show negB s = true by rw [negB, self_of s h0]; simpa using hm)
      go_wp2_with (first | (go_at_call 40; refine (form_any _ _ hs).mono ?_; rintro e w' ⟨rfl, rfl⟩; rw [HD.out]))
      go_loop [5, 20] (fun a i => ∃ k : Nat, k ≤ s.size ∧ i = .int .i64 k ∧ a = .int .i64 (valS (s.data.toList.take k) : Int) ∧ valS (s.data.toList.take k) ≤ 1000000000000) (fun a i => s.size - (intOf i).toNat)
      case atStart => exact ⟨0, Nat.zero_le _, rfl, rfl, by simp [valS]⟩
      case round =>
        obtain ⟨k, hk, rfl, rfl, hv⟩ := hrel
        by_cases hlt : k < s.size
        · have hstep : valS (s.data.toList.take (k + 1)) = stepV (valS (s.data.toList.take k)) (s[k]'hlt) := valS_snoc _ _ (by simpa using hlt)
          have hle := valS_take s.data.toList (k + 1)
          have HS := Lib.hid hstep
          have HLE := Lib.hid hle
          have hby := dec_bytes HD.out k hlt
          clear hstep hle
          by_cases hc : (s[k]'hlt).toNat = 45
          · obtain ⟨v, hvv⟩ : ∃ v, valS (s.data.toList.take k) = v := ⟨_, rfl⟩
            rw [hvv] at HS hv ⊢
            have HVV := Lib.hid hvv
            clear hvv hby
            go_wp2
            go_round
            case rel =>
              have e1 : valS (s.data.toList.take (k + 1)) = v := by rw [HS.out, stepV, if_pos hc]
              first
                | exact ⟨k + 1, by omega, by go_num, by rw [e1], by rw [e1]; exact hv⟩
            case measure => simp [intOf]; omega
          · obtain ⟨v, hvv⟩ : ∃ v, valS (s.data.toList.take k) = v := ⟨_, rfl⟩
            rw [hvv] at HS hv ⊢
            have h48 : 48 ≤ (s[k]'hlt).toNat := by omega
            have h57 : (s[k]'hlt).toNat ≤ 57 := by omega
            have e1 : valS (s.data.toList.take (k + 1)) = 10 * v + ((s[k]'hlt).toNat - 48) := by rw [HS.out, stepV, if_neg hc]
            have E1 := Lib.hid e1
            clear hvv hby e1
            by_cases hb : 1000000000000 < 10 * v + ((s[k]'hlt).toNat - 48)
            · have hbv : 1000000000000 < valS s.data.toList := Nat.lt_of_lt_of_le (by rw [E1.out]; exact hb) HLE.out
              have HB := Lib.hid hbv
              clear hbv
              go_wp2
              go_ret2
              have E : parseR s = (0, 2) := by rw [HR.out, if_pos HB.out]
              exact ⟨(ret_p E).symm, rfl⟩
            · go_wp2
              have hb' : 10 * v + ((s[k]'hlt).toNat - 48) ≤ 1000000000000 := by omega
              refine ⟨⟨k + 1, by omega, by simp, ?_, by rw [E1.out]; exact hb'⟩, by simp [intOf]; omega⟩
              rw [E1.out]
              exact congrArg (Value.int IntKind.i64) (by omega)
        · have e2 : s.data.toList.take k = s.data.toList := List.take_of_length_le (by rw [len_data]; omega)
          rw [e2] at hv ⊢
          obtain ⟨v, hvv⟩ : ∃ v, valS s.data.toList = v := ⟨_, rfl⟩
          rw [hvv] at HR hv ⊢
          clear e2 hvv
          go_wp2
          go_ret2
          have E : parseR s = (-(v : Int), 0) := by rw [HR.out, if_neg (by omega), if_pos HN.out]
          exact ⟨(ret_p E).symm, rfl⟩
    · have HN := Lib.hid (show negB s = false by rw [negB, self_of s h0]; simpa using hm)
      go_wp2_with (first | (go_at_call 40; refine (form_any _ _ hs).mono ?_; rintro e w' ⟨rfl, rfl⟩; rw [HD.out]))
      go_loop [5, 20] (fun a i => ∃ k : Nat, k ≤ s.size ∧ i = .int .i64 k ∧ a = .int .i64 (valS (s.data.toList.take k) : Int) ∧ valS (s.data.toList.take k) ≤ 1000000000000) (fun a i => s.size - (intOf i).toNat)
      case atStart => exact ⟨0, Nat.zero_le _, rfl, rfl, by simp [valS]⟩
      case round =>
        obtain ⟨k, hk, rfl, rfl, hv⟩ := hrel
        by_cases hlt : k < s.size
        · have hstep : valS (s.data.toList.take (k + 1)) = stepV (valS (s.data.toList.take k)) (s[k]'hlt) := valS_snoc _ _ (by simpa using hlt)
          have hle := valS_take s.data.toList (k + 1)
          have HS := Lib.hid hstep
          have HLE := Lib.hid hle
          have hby := dec_bytes HD.out k hlt
          clear hstep hle
          by_cases hc : (s[k]'hlt).toNat = 45
          · obtain ⟨v, hvv⟩ : ∃ v, valS (s.data.toList.take k) = v := ⟨_, rfl⟩
            rw [hvv] at HS hv ⊢
            have HVV := Lib.hid hvv
            clear hvv hby
            go_wp2
            go_round
            case rel =>
              have e1 : valS (s.data.toList.take (k + 1)) = v := by rw [HS.out, stepV, if_pos hc]
              first
                | exact ⟨k + 1, by omega, by go_num, by rw [e1], by rw [e1]; exact hv⟩
            case measure => simp [intOf]; omega
          · obtain ⟨v, hvv⟩ : ∃ v, valS (s.data.toList.take k) = v := ⟨_, rfl⟩
            rw [hvv] at HS hv ⊢
            have h48 : 48 ≤ (s[k]'hlt).toNat := by omega
            have h57 : (s[k]'hlt).toNat ≤ 57 := by omega
            have e1 : valS (s.data.toList.take (k + 1)) = 10 * v + ((s[k]'hlt).toNat - 48) := by rw [HS.out, stepV, if_neg hc]
            have E1 := Lib.hid e1
            clear hvv hby e1
            by_cases hb : 1000000000000 < 10 * v + ((s[k]'hlt).toNat - 48)
            · have hbv : 1000000000000 < valS s.data.toList := Nat.lt_of_lt_of_le (by rw [E1.out]; exact hb) HLE.out
              have HB := Lib.hid hbv
              clear hbv
              go_wp2
              go_ret2
              have E : parseR s = (0, 2) := by rw [HR.out, if_pos HB.out]
              exact ⟨(ret_p E).symm, rfl⟩
            · go_wp2
              have hb' : 10 * v + ((s[k]'hlt).toNat - 48) ≤ 1000000000000 := by omega
              refine ⟨⟨k + 1, by omega, by simp, ?_, by rw [E1.out]; exact hb'⟩, by simp [intOf]; omega⟩
              rw [E1.out]
              exact congrArg (Value.int IntKind.i64) (by omega)
        · have e2 : s.data.toList.take k = s.data.toList := List.take_of_length_le (by rw [len_data]; omega)
          rw [e2] at hv ⊢
          obtain ⟨v, hvv⟩ : ∃ v, valS s.data.toList = v := ⟨_, rfl⟩
          rw [hvv] at HR hv ⊢
          clear e2 hvv
          go_wp2
          go_ret2
          have E : parseR s = ((v : Int), 0) := by rw [HR.out, if_neg (by omega), if_neg (by rw [HN.out]; simp)]
          exact ⟨(ret_p E).symm, rfl⟩
  · have hd' : decB s = false := by simpa using hd
    have HD := Lib.hid hd'
    have HR := Lib.hid (show parseR s = (0, 1) by rw [parseR, hd']; simp)
    clear hd hd'
    by_cases h0 : 0 < s.size
    · go_wp2_with (first | (go_at_call 40; refine (form_any _ _ hs).mono ?_; rintro e w' ⟨rfl, rfl⟩; rw [HD.out]))
      all_goals (go_ret2; exact ⟨ret_p HR.out.symm, rfl⟩)
    · have hz : s.size = 0 := by omega
      clear h0
      go_wp2_with (first | (go_at_call 40; refine (form_any _ _ hs).mono ?_; rintro e w' ⟨rfl, rfl⟩; rw [HD.out]))
      all_goals (go_ret2; exact ⟨ret_p HR.out.symm, rfl⟩)

end Go.Proofs.YtcnmdhdoiekfoaaDoor
