/- The walks of ident.Child, Parent and of the reference's Child, Parent. -/
import Derived.Test.YtcnmdhdoiekfoaaDoorI5
namespace Go.Proofs.YtcnmdhdoiekfoaaDoor
open Go.RowKit Go.Sort
set_option maxRecDepth 100000

theorem dec_len : ∀ k n, n < 10 ^ (k + 1) → (Lib.decDigits n).length ≤ k + 1
  | 0, n, h => by rw [Lib.decDigits, dif_pos (by omega)]; simp
  | k + 1, n, h => by
    rw [Lib.decDigits]
    by_cases q : n < 10
    · rw [dif_pos q]; simp
    · rw [dif_neg q, List.length_append]
      have := dec_len k (n / 10) (by rw [Nat.pow_succ] at h; omega)
      simp; omega
theorem fmtB_size {n : Nat} (h : n ≤ 1000000000000) : (fmtB n).size ≤ 13 := by
  have := dec_len 12 n (by omega)
  simpa [fmtB, ByteArray.size] using this

def dot : ByteArray := ⟨#[46]⟩
def kidB (s : ByteArray) (n : Nat) : ByteArray := s ++ dot ++ fmtB n

theorem kid_size (s : ByteArray) (k : Nat) : (kidB s k).size = s.size + 1 + (fmtB k).size := by
  rw [kidB, ByteArray.size_append, ByteArray.size_append]; rfl

/-- What Child answers. -/
def childR (s : ByteArray) (n : Int) : ByteArray × Int :=
  if idB s = false then (ByteArray.empty, 4) else if n < 0 ∨ 1000000000000 < n then (ByteArray.empty, 2)
  else if 64 < (kidB s n.toNat).size then (ByteArray.empty, 3) else (kidB s n.toNat, 0)

theorem ret_c {a b : ByteArray × Int} (h : a = b) : Ending.returned (.tuple #[.string a.1, .int .i64 a.2]) = .returned (.tuple #[.string b.1, .int .i64 b.2]) := by rw [h]

set_option maxHeartbeats 1000000 in
theorem child_any (s : ByteArray) (n : Int) (w : World) (hs : s.size ≤ 140737488351232) (hL : Laid w) :
    Calls Tryd.prog 30 #[.string s, .int .i64 n] w fun e w' => e = .returned (.tuple #[.string (childR s n).1, .int .i64 (childR s n).2]) ∧ Below w.heap.size w w' := by
  go_enter Tryd.func30, Tryd.ntmps30
  by_cases hi : idB s = true
  · have HI := Lib.hid hi
    have hs64 := idB_size hi
    by_cases h1 : n < 0
    · have E := Lib.hid (show childR s n = (ByteArray.empty, 2) by rw [childR, hi]; simp [h1])
      clear hi
      go_wp2_with (first | (go_at_call 12; refine (id_any s _ hs).mono ?_; rintro e w1 ⟨rfl, HB⟩; rw [HI.out]))
      go_ret2
      exact ⟨(ret_c E.out).symm, HB⟩
    · by_cases h2 : 1000000000000 < n
      · have E := Lib.hid (show childR s n = (ByteArray.empty, 2) by rw [childR, hi]; simp [h2])
        clear hi
        have h1' : 0 ≤ n := by omega
        clear h1
        go_wp2_with (first | (go_at_call 12; refine (id_any s _ hs).mono ?_; rintro e w1 ⟨rfl, HB⟩; rw [HI.out]))
        go_ret2
        exact ⟨(ret_c E.out).symm, HB⟩
      · obtain ⟨k, rfl⟩ : ∃ k : Nat, n = (k : Int) := ⟨n.toNat, by omega⟩
        have hk : k ≤ 1000000000000 := by omega
        have hf := fmtB_size hk
        by_cases h3 : 64 < (kidB s k).size
        · have E := Lib.hid (show childR s (k : Int) = (ByteArray.empty, 3) by rw [childR, hi, if_neg (by simp), if_neg (by omega)]; simp [h3])
          have h3' : 64 < s.size + 1 + (fmtB k).size := by rw [kid_size] at h3; exact h3
          clear hi h1 h2 h3
          go_wp2_with (first
            | (go_at_call 12; refine (id_any s _ hs).mono ?_; rintro e w1 ⟨rfl, HB⟩; rw [HI.out])
            | (go_at_call 39; refine (format_any k _ hk (hL.below HB)).mono ?_; rintro e w2 ⟨rfl, HB2⟩))
          go_ret2
          exact ⟨(ret_c E.out).symm, below_call HB2 HB⟩
        · have E := Lib.hid (show childR s (k : Int) = (kidB s k, 0) by rw [childR, hi, if_neg (by simp), if_neg (by omega)]; simp [h3])
          have h3' : ¬ 64 < s.size + 1 + (fmtB k).size := by rw [kid_size] at h3; exact h3
          clear hi h1 h2 h3
          go_wp2_with (first
            | (go_at_call 12; refine (id_any s _ hs).mono ?_; rintro e w1 ⟨rfl, HB⟩; rw [HI.out])
            | (go_at_call 39; refine (format_any k _ hk (hL.below HB)).mono ?_; rintro e w2 ⟨rfl, HB2⟩))
          go_ret2
          exact ⟨(ret_c E.out).symm, below_call HB2 HB⟩
  · have hi' : idB s = false := by simpa using hi
    have HI := Lib.hid hi'
    have E := Lib.hid (show childR s n = (ByteArray.empty, 4) by rw [childR, hi']; simp)
    clear hi hi'
    go_wp2_with (first | (go_at_call 12; refine (id_any s _ hs).mono ?_; rintro e w1 ⟨rfl, HB⟩; rw [HI.out]))
    go_ret2
    exact ⟨(ret_c E.out).symm, HB⟩

set_option maxHeartbeats 1000000 in
theorem rchild_any (s : ByteArray) (n : Int) (w : World) (hs : s.size ≤ 140737488351232) :
    Calls Tryd.prog 34 #[.string s, .int .i64 n] w fun e w' => e = .returned (.tuple #[.string (childR s n).1, .int .i64 (childR s n).2]) ∧ w' = w := by
  go_enter Tryd.func34, Tryd.ntmps34
  by_cases hi : idB s = true
  · have HI := Lib.hid hi
    have hs64 := idB_size hi
    by_cases h1 : n < 0
    · have E := Lib.hid (show childR s n = (ByteArray.empty, 2) by rw [childR, hi]; simp [h1])
      clear hi
      go_wp2_with (first | (go_at_call 16; refine (rid_any s _ hs).mono ?_; rintro e w1 ⟨rfl, rfl⟩; rw [HI.out]))
      go_ret2
      exact ⟨(ret_c E.out).symm, rfl⟩
    · by_cases h2 : 1000000000000 < n
      · have E := Lib.hid (show childR s n = (ByteArray.empty, 2) by rw [childR, hi]; simp [h2])
        clear hi
        have h1' : 0 ≤ n := by omega
        clear h1
        go_wp2_with (first | (go_at_call 16; refine (rid_any s _ hs).mono ?_; rintro e w1 ⟨rfl, rfl⟩; rw [HI.out]))
        go_ret2
        exact ⟨(ret_c E.out).symm, rfl⟩
      · obtain ⟨k, rfl⟩ : ∃ k : Nat, n = (k : Int) := ⟨n.toNat, by omega⟩
        have hk : k ≤ 1000000000000 := by omega
        have hf := fmtB_size hk
        by_cases h3 : 64 < (kidB s k).size
        · have E := Lib.hid (show childR s (k : Int) = (ByteArray.empty, 3) by rw [childR, hi, if_neg (by simp), if_neg (by omega)]; simp [h3])
          have h3' : 64 < s.size + 1 + (fmtB k).size := by rw [kid_size] at h3; exact h3
          clear hi h1 h2 h3
          go_wp2_with (first
            | (go_at_call 16; refine (rid_any s _ hs).mono ?_; rintro e w1 ⟨rfl, rfl⟩; rw [HI.out])
            | (go_at_call 41; refine (rformat_any k _ hk).mono ?_; rintro e w2 ⟨rfl, rfl⟩))
          go_ret2
          exact ⟨(ret_c E.out).symm, rfl⟩
        · have E := Lib.hid (show childR s (k : Int) = (kidB s k, 0) by rw [childR, hi, if_neg (by simp), if_neg (by omega)]; simp [h3])
          have h3' : ¬ 64 < s.size + 1 + (fmtB k).size := by rw [kid_size] at h3; exact h3
          clear hi h1 h2 h3
          go_wp2_with (first
            | (go_at_call 16; refine (rid_any s _ hs).mono ?_; rintro e w1 ⟨rfl, rfl⟩; rw [HI.out])
            | (go_at_call 41; refine (rformat_any k _ hk).mono ?_; rintro e w2 ⟨rfl, rfl⟩))
          go_ret2
          exact ⟨(ret_c E.out).symm, rfl⟩
  · have hi' : idB s = false := by simpa using hi
    have HI := Lib.hid hi'
    have E := Lib.hid (show childR s n = (ByteArray.empty, 4) by rw [childR, hi']; simp)
    clear hi hi'
    go_wp2_with (first | (go_at_call 16; refine (rid_any s _ hs).mono ?_; rintro e w1 ⟨rfl, rfl⟩; rw [HI.out]))
    go_ret2
    exact ⟨(ret_c E.out).symm, rfl⟩


/-- What Parent answers. -/
def parR (s : ByteArray) : ByteArray × Int × Bool := match Lib.lastIndexByte s 46 with
  | .ofNat a =>
    if (parseR (s.extract (a + 1) s.size)).2 ≠ 0 then (ByteArray.empty, 0, false)
    else if (childR (s.extract 0 a) (parseR (s.extract (a + 1) s.size)).1).2 ≠ 0 ∨ (childR (s.extract 0 a) (parseR (s.extract (a + 1) s.size)).1).1 ≠ s then (ByteArray.empty, 0, false)
    else (s.extract 0 a, (parseR (s.extract (a + 1) s.size)).1, true)
  | _ => (ByteArray.empty, 0, false)

theorem ret_t {a b : ByteArray × Int × Bool} (h : a = b) : Ending.returned (.tuple #[.string a.1, .int .i64 a.2.1, .bool a.2.2]) = .returned (.tuple #[.string b.1, .int .i64 b.2.1, .bool b.2.2]) := by rw [h]

theorem last_cases (s : ByteArray) : Lib.lastIndexByte s 46 = -1 ∨ ∃ a : Nat, a < s.size ∧ Lib.lastIndexByte s 46 = a := by
  rcases Lib.lastIdx_spec s 46 s.size with ⟨h, _⟩ | ⟨i, h1, h2, _⟩
  · exact .inl h
  · exact .inr ⟨i, h1, h2⟩

theorem lastIdx_at (s : ByteArray) {a : Nat} (h : a < s.size) : Lib.lastIdx s 46 (a + 1) = if ((s[a]'h).toNat : Int) = 46 then (a : Int) else Lib.lastIdx s 46 a := by
  have e : s.data[a]! = s[a]'h := by
    rw [getElem!_pos s.data a (by simpa using h)]; rfl
  rw [Lib.lastIdx, e]

theorem toList_beq' (a b : ByteArray) : (a.toList == b.toList) = decide (a = b) := by
  rw [Bool.eq_iff_iff]
  simp only [beq_iff_eq, decide_eq_true_eq]
  constructor
  · intro h
    have : a.data.toList = b.data.toList := by simpa [ByteArray.toList_eq] using h
    cases a; cases b; simp at this; simpa using this
  · rintro rfl; rfl

set_option maxHeartbeats 1000000 in
theorem parent_any (s : ByteArray) (w : World) (hs : s.size ≤ 140737488351232) (hL : Laid w) :
    Calls Tryd.prog 23 #[.string s] w fun e w' => e = .returned (.tuple #[.string (parR s).1, .int .i64 (parR s).2.1, .bool (parR s).2.2]) ∧ Below w.heap.size w w' := by
  go_enter Tryd.func23, Tryd.ntmps23
  rcases last_cases s with ha | ⟨a, hlt, ha⟩
  · have HA := Lib.hid ha
    have E := Lib.hid (show parR s = (ByteArray.empty, 0, false) by rw [parR, ha]; rfl)
    clear ha
    go_wp2_with (first | (go_at_call 28; refine (Tryd.strings_LastIndexByte s 46 (by omega) _).mono ?_; rintro e w1 ⟨rfl, rfl⟩; rw [HA.out]))
    go_ret3
    exact ⟨(ret_t E.out).symm, Below.refl _ _⟩
  · have HA := Lib.hid ha
    obtain ⟨t, ht⟩ : ∃ t, s.extract (a + 1) s.size = t := ⟨_, rfl⟩
    obtain ⟨u, hu⟩ : ∃ u, s.extract 0 a = u := ⟨_, rfl⟩
    have hts : t.size ≤ 140737488351232 := by rw [← ht]; simp; omega
    have hus : u.size ≤ 140737488351232 := by rw [← hu]; simp; omega
    have E0 : parR s = if (parseR t).2 ≠ 0 then (ByteArray.empty, 0, false) else if (childR u (parseR t).1).2 ≠ 0 ∨ (childR u (parseR t).1).1 ≠ s then (ByteArray.empty, 0, false) else (u, (parseR t).1, true) := by
      rw [parR, ha, ← ht, ← hu]
    obtain ⟨⟨n, er⟩, hp⟩ : ∃ p, parseR t = p := ⟨_, rfl⟩
    obtain ⟨⟨x, ec⟩, hc⟩ : ∃ p, childR u n = p := ⟨_, rfl⟩
    rw [hp] at E0
    simp only [hc] at E0
    have HP := Lib.hid hp
    have HC := Lib.hid hc
    clear ha hp hc
    by_cases h1 : er = 0
    · by_cases h2 : ec = 0
      · by_cases h3 : x = s
        · have E := Lib.hid (show parR s = (u, n, true) by rw [E0, if_neg (by simpa using h1), if_neg (by simp [h2, h3])])
          have h3' : (x.toList == s.toList) = true := by rw [toList_beq']; simpa using h3
          subst h1 h2
          clear E0 h3
          go_wp2_with (first
            | (go_at_call 28; refine (Tryd.strings_LastIndexByte s 46 (by omega) _).mono ?_; rintro e w1 ⟨rfl, rfl⟩; rw [HA.out])
            | (go_at_call 29; refine (parse_any t _ hts hL).mono ?_; rintro e w2 ⟨rfl, HB⟩; rw [HP.out])
            | (go_at_call 30; refine (child_any u n _ hus (hL.below HB)).mono ?_; rintro e w3 ⟨rfl, HB2⟩; rw [HC.out]))
          go_ret3
          exact ⟨(ret_t E.out).symm, below_call HB2 HB⟩
        · have E := Lib.hid (show parR s = (ByteArray.empty, 0, false) by rw [E0, if_neg (by simpa using h1), if_pos (.inr h3)])
          have h3' : (x.toList == s.toList) = false := by rw [toList_beq']; simpa using h3
          subst h1 h2
          clear E0 h3
          go_wp2_with (first
            | (go_at_call 28; refine (Tryd.strings_LastIndexByte s 46 (by omega) _).mono ?_; rintro e w1 ⟨rfl, rfl⟩; rw [HA.out])
            | (go_at_call 29; refine (parse_any t _ hts hL).mono ?_; rintro e w2 ⟨rfl, HB⟩; rw [HP.out])
            | (go_at_call 30; refine (child_any u n _ hus (hL.below HB)).mono ?_; rintro e w3 ⟨rfl, HB2⟩; rw [HC.out]))
          go_ret3
          exact ⟨(ret_t E.out).symm, below_call HB2 HB⟩
      · have E := Lib.hid (show parR s = (ByteArray.empty, 0, false) by rw [E0, if_neg (by simpa using h1), if_pos (.inl h2)])
        subst h1
        clear E0
        go_wp2_with (first
          | (go_at_call 28; refine (Tryd.strings_LastIndexByte s 46 (by omega) _).mono ?_; rintro e w1 ⟨rfl, rfl⟩; rw [HA.out])
          | (go_at_call 29; refine (parse_any t _ hts hL).mono ?_; rintro e w2 ⟨rfl, HB⟩; rw [HP.out])
          | (go_at_call 30; refine (child_any u n _ hus (hL.below HB)).mono ?_; rintro e w3 ⟨rfl, HB2⟩; rw [HC.out]))
        go_ret3
        exact ⟨(ret_t E.out).symm, below_call HB2 HB⟩
    · have E := Lib.hid (show parR s = (ByteArray.empty, 0, false) by rw [E0, if_pos h1])
      clear E0
      go_wp2_with (first
        | (go_at_call 28; refine (Tryd.strings_LastIndexByte s 46 (by omega) _).mono ?_; rintro e w1 ⟨rfl, rfl⟩; rw [HA.out])
        | (go_at_call 29; refine (parse_any t _ hts hL).mono ?_; rintro e w2 ⟨rfl, HB⟩; rw [HP.out])
        | (go_at_call 30; refine (child_any u n _ hus (hL.below HB)).mono ?_; rintro e w3 ⟨rfl, HB2⟩; rw [HC.out]))
      go_ret3
      exact ⟨(ret_t E.out).symm, HB⟩

set_option maxHeartbeats 1000000 in
theorem rparent_any (s : ByteArray) (w : World) (hs : s.size ≤ 140737488351232) :
    Calls Tryd.prog 25 #[.string s] w fun e w' => e = .returned (.tuple #[.string (parR s).1, .int .i64 (parR s).2.1, .bool (parR s).2.2]) ∧ w' = w := by
  go_enter Tryd.func25, Tryd.ntmps25
  go_wp2
  go_loop [5] (fun i => ∃ k : Nat, k ≤ s.size ∧ i = .int .i64 ((k : Int) - 1) ∧ Lib.lastIndexByte s 46 = Lib.lastIdx s 46 k) (fun i => (intOf i + 1).toNat)
  case atStart => exact ⟨s.size, Nat.le_refl _, rfl, rfl⟩
  case round =>
    obtain ⟨k, hk, rfl, hli⟩ := hrel
    match k, hk, hli with
    | 0, _, hli =>
      have ha : Lib.lastIndexByte s 46 = -1 := hli
      have E := Lib.hid (show parR s = (ByteArray.empty, 0, false) by rw [parR, ha]; rfl)
      clear hli ha
      go_wp2
      go_ret3
      exact ⟨(ret_t E.out).symm, rfl⟩
    | a + 1, hk, hli =>
      have hlt : a < s.size := by omega
      have hx : Lib.lastIdx s 46 (a + 1) = if ((s[a]'hlt).toNat : Int) = 46 then (a : Int) else Lib.lastIdx s 46 a := lastIdx_at s hlt
      have hd : ((a + 1 : Nat) : Int) - 1 = (a : Int) := by omega
      by_cases hc : (s[a]'hlt).toNat = 46
      · have ha : Lib.lastIndexByte s 46 = (a : Int) := by rw [hli, hx, if_pos (by omega)]
        clear hli hx
        obtain ⟨t, ht⟩ : ∃ t, s.extract (a + 1) s.size = t := ⟨_, rfl⟩
        obtain ⟨u, hu⟩ : ∃ u, s.extract 0 a = u := ⟨_, rfl⟩
        have hts : t.size ≤ 140737488351232 := by rw [← ht]; simp; omega
        have hus : u.size ≤ 140737488351232 := by rw [← hu]; simp; omega
        have E0 : parR s = if (parseR t).2 ≠ 0 then (ByteArray.empty, 0, false) else if (childR u (parseR t).1).2 ≠ 0 ∨ (childR u (parseR t).1).1 ≠ s then (ByteArray.empty, 0, false) else (u, (parseR t).1, true) := by
          rw [parR, ha, ← ht, ← hu]
        obtain ⟨⟨n, er⟩, hp⟩ : ∃ p, parseR t = p := ⟨_, rfl⟩
        obtain ⟨⟨x, ec⟩, hc⟩ : ∃ p, childR u n = p := ⟨_, rfl⟩
        rw [hp] at E0
        simp only [hc] at E0
        have HP := Lib.hid hp
        have HC := Lib.hid hc
        clear ha hp hc
        by_cases h1 : er = 0
        · by_cases h2 : ec = 0
          · by_cases h3 : x = s
            · have E := Lib.hid (show parR s = (u, n, true) by rw [E0, if_neg (by simpa using h1), if_neg (by simp [h2, h3])])
              have h3' : (x.toList == s.toList) = true := by rw [toList_beq']; simpa using h3
              subst h1 h2
              clear E0 h3
              go_wp2_with (first
                | (go_at_call 33; refine (rparse_any t _ hts).mono ?_; rintro e w2 ⟨rfl, rfl⟩; rw [HP.out])
                | (go_at_call 34; refine (rchild_any u n _ hus).mono ?_; rintro e w3 ⟨rfl, rfl⟩; rw [HC.out]))
              go_ret3
              exact ⟨(ret_t E.out).symm, rfl⟩
            · have E := Lib.hid (show parR s = (ByteArray.empty, 0, false) by rw [E0, if_neg (by simpa using h1), if_pos (.inr h3)])
              have h3' : (x.toList == s.toList) = false := by rw [toList_beq']; simpa using h3
              subst h1 h2
              clear E0 h3
              go_wp2_with (first
                | (go_at_call 33; refine (rparse_any t _ hts).mono ?_; rintro e w2 ⟨rfl, rfl⟩; rw [HP.out])
                | (go_at_call 34; refine (rchild_any u n _ hus).mono ?_; rintro e w3 ⟨rfl, rfl⟩; rw [HC.out]))
              go_ret3
              exact ⟨(ret_t E.out).symm, rfl⟩
          · have E := Lib.hid (show parR s = (ByteArray.empty, 0, false) by rw [E0, if_neg (by simpa using h1), if_pos (.inl h2)])
            subst h1
            clear E0
            go_wp2_with (first
              | (go_at_call 33; refine (rparse_any t _ hts).mono ?_; rintro e w2 ⟨rfl, rfl⟩; rw [HP.out])
              | (go_at_call 34; refine (rchild_any u n _ hus).mono ?_; rintro e w3 ⟨rfl, rfl⟩; rw [HC.out]))
            go_ret3
            exact ⟨(ret_t E.out).symm, rfl⟩
        · have E := Lib.hid (show parR s = (ByteArray.empty, 0, false) by rw [E0, if_pos h1])
          clear E0
          go_wp2_with (first
            | (go_at_call 33; refine (rparse_any t _ hts).mono ?_; rintro e w2 ⟨rfl, rfl⟩; rw [HP.out])
            | (go_at_call 34; refine (rchild_any u n _ hus).mono ?_; rintro e w3 ⟨rfl, rfl⟩; rw [HC.out]))
          go_ret3
          exact ⟨(ret_t E.out).symm, rfl⟩
      · have HX := Lib.hid (show Lib.lastIndexByte s 46 = Lib.lastIdx s 46 a by rw [hli, hx, if_neg (by omega)])
        clear hli hx
        go_wp2
        first
          | (go_round
             case rel => exact ⟨a, by omega, rfl, HX.out⟩
             case measure => simp [intOf])
          | (refine ⟨⟨a, by omega, rfl, HX.out⟩, ?_⟩; simp [intOf])

end Go.Proofs.YtcnmdhdoiekfoaaDoor
