/- The walks of audit.cause and of the reference's ancestor. -/
import Derived.Test.YtcnmdhdoiekfoaaDoorI6
import Derived.Test.YtcnmdhdoiekfoaaDoorW12
namespace Go.Proofs.YtcnmdhdoiekfoaaDoor
open Go.RowKit Go.Sort
set_option maxRecDepth 100000

/-- The nearest ancestor that was accepted. -/
def causeN (l : List FactD) : Nat → ByteArray → ByteArray
  | 0, _ => ByteArray.empty
  | n + 1, s => if (parR s).2.2 = true then (if 0 ≤ firstN l 1 (parR s).1 0 then (parR s).1 else causeN l n (parR s).1) else ByteArray.empty

theorem parR_size {s : ByteArray} (h : (parR s).2.2 = true) : (parR s).1.size < s.size := by
  rcases last_cases s with ha | ⟨a, hlt, ha⟩
  · have E : parR s = (ByteArray.empty, 0, false) := by rw [parR, ha]; rfl
    rw [E] at h; cases h
  · have E0 : parR s = if (parseR (s.extract (a + 1) s.size)).2 ≠ 0 then (ByteArray.empty, 0, false) else if (childR (s.extract 0 a) (parseR (s.extract (a + 1) s.size)).1).2 ≠ 0 ∨ (childR (s.extract 0 a) (parseR (s.extract (a + 1) s.size)).1).1 ≠ s then (ByteArray.empty, 0, false) else (s.extract 0 a, (parseR (s.extract (a + 1) s.size)).1, true) := by
      rw [parR, ha]
    rw [E0] at h ⊢
    split at h
    · cases h
    · split at h
      · cases h
      · rename_i q1 q2
        rw [if_neg q1, if_neg q2]
        simp; omega

theorem parR_no {s x : ByteArray} {n : Int} (h : parR s = (x, n, false)) : x = ByteArray.empty := by
  rcases last_cases s with ha | ⟨a, hlt, ha⟩
  · have E : parR s = (ByteArray.empty, 0, false) := by rw [parR, ha]; rfl
    rw [E] at h; injection h with h _; exact h.symm
  · have E0 : parR s = if (parseR (s.extract (a + 1) s.size)).2 ≠ 0 then (ByteArray.empty, 0, false) else if (childR (s.extract 0 a) (parseR (s.extract (a + 1) s.size)).1).2 ≠ 0 ∨ (childR (s.extract 0 a) (parseR (s.extract (a + 1) s.size)).1).1 ≠ s then (ByteArray.empty, 0, false) else (s.extract 0 a, (parseR (s.extract (a + 1) s.size)).1, true) := by
      rw [parR, ha]
    rw [E0] at h
    split at h
    · injection h with h _; exact h.symm
    · split at h
      · injection h with h _; exact h.symm
      · simp at h

theorem causeN_fuel (l : List FactD) : ∀ n m s, s.size < n → s.size < m → causeN l n s = causeN l m s
  | 0, _, _, h, _ => absurd h (Nat.not_lt_zero _)
  | _ + 1, 0, _, _, h => absurd h (Nat.not_lt_zero _)
  | n + 1, m + 1, s, h1, h2 => by
    rw [causeN, causeN]
    by_cases hp : (parR s).2.2 = true
    · have := parR_size hp
      rw [if_pos hp, if_pos hp, causeN_fuel l n m (parR s).1 (by omega) (by omega)]
    · rw [if_neg hp, if_neg hp]

def causeR (l : List FactD) (s : ByteArray) : ByteArray := causeN l (s.size + 1) s
theorem cause_no {l : List FactD} {s : ByteArray} (h : (parR s).2.2 = false) : causeR l s = ByteArray.empty := by
  rw [causeR, causeN, if_neg (by rw [h]; simp)]
theorem cause_yes {l : List FactD} {s : ByteArray} (h : (parR s).2.2 = true) (h2 : 0 ≤ firstN l 1 (parR s).1 0) : causeR l s = (parR s).1 := by
  rw [causeR, causeN, if_pos h, if_pos h2]
theorem cause_up {l : List FactD} {s : ByteArray} (h : (parR s).2.2 = true) (h2 : ¬ 0 ≤ firstN l 1 (parR s).1 0) : causeR l s = causeR l (parR s).1 := by
  rw [causeR, causeN, if_pos h, if_neg h2]
  exact causeN_fuel l _ _ _ (parR_size h) (by omega)

def strMz (v : Value) : Nat := match v with | .string s => s.size | _ => 0
def boolMz (v : Value) : Nat := match v with | .bool true => 1 | _ => 0

set_option maxHeartbeats 1000000 in
theorem ancestor_any (A : Option Addr) (cap : Nat) (l : List FactD) (s : ByteArray) (w : World) (hl : l.length ≤ 4000) (hs : s.size ≤ 140737488351232) (hf : FactsAt w A l) :
    Calls Tryd.prog 17 #[.slice A l.length cap, .string s] w fun e w' => e = .returned (.string (causeR l s)) ∧ w' = w := by
  go_enter Tryd.func17, Tryd.ntmps17
  have HF := Lib.hid hf
  clear hf
  go_wp2
  go_loop [1] (fun v => ∃ q : ByteArray, v = .string q ∧ q.size ≤ s.size ∧ causeR l s = causeR l q) (fun v => strMz v)
  case atStart => exact ⟨s, rfl, Nat.le_refl _, rfl⟩
  case round =>
    obtain ⟨q, rfl, hq, hc⟩ := hrel
    have HC := Lib.hid hc
    clear hc
    obtain ⟨⟨x, n, ok⟩, hp⟩ : ∃ p, parR q = p := ⟨_, rfl⟩
    have HP := Lib.hid hp
    cases ok with
    | false =>
      have E := Lib.hid (show causeR l s = ByteArray.empty by rw [HC.out]; exact cause_no (by rw [hp]))
      clear hp
      go_wp2_with (first
        | (go_at_call 25; refine (rparent_any q _ (by omega)).mono ?_; rintro e w2 ⟨rfl, rfl⟩; rw [HP.out]))
      go_ret
      exact ⟨by rw [E.out]; rfl, rfl⟩
    | true =>
      have hsz : x.size < q.size := by have := parR_size (s := q) (by rw [hp]); rw [hp] at this; exact this
      by_cases h2 : 0 ≤ firstN l 1 x 0
      · have E := Lib.hid (show causeR l s = x by rw [HC.out, cause_yes (by rw [hp]) (by rw [hp]; exact h2), hp])
        clear hp
        go_wp2_with (first
          | (go_at_call 25; refine (rparent_any q _ (by omega)).mono ?_; rintro e w2 ⟨rfl, rfl⟩; rw [HP.out])
          | (go_at_call 15; refine (first_any _ _ _ _ _ _ hl HF.out).mono ?_; rintro e w2 ⟨rfl, rfl⟩))
        go_ret
        exact ⟨by rw [E.out]; rfl, rfl⟩
      · have E := Lib.hid (show causeR l s = causeR l x by rw [HC.out, cause_up (by rw [hp]) (by rw [hp]; exact h2), hp])
        clear hp
        go_wp2_with (first
          | (go_at_call 25; refine (rparent_any q _ (by omega)).mono ?_; rintro e w2 ⟨rfl, rfl⟩; rw [HP.out])
          | (go_at_call 15; refine (first_any _ _ _ _ _ _ hl HF.out).mono ?_; rintro e w2 ⟨rfl, rfl⟩))
        go_round
        case rel => exact ⟨x, rfl, by omega, E.out⟩
        case measure => exact hsz

set_option maxHeartbeats 1000000 in
theorem has_nil_any (A : Option Addr) (cap : Nat) (k : Int) (w : World) (hs : SlAt w A 1 intCells [k]) :
    Calls Tryd.prog 20 #[.agg #[.map none, .map none], .slice A 1 cap] w fun e w' => e = .returned (.bool false) ∧ Below w.heap.size w w' := by
  have hln : ∀ w, (Instr.lookup 42 (.map none) (.int .i64 k) false).run Tryd.prog w = .ok (.int .i64 0) w := fun w => look_nil w Tryd.kI Tryd.underlying42 (Tryd.zero3 w) k
  have HS := Lib.hid (hs.alloc (.cells #[.map none, .map none] 44))
  obtain ⟨b, off, rfl, _⟩ := hs.ptr (n := 0) (by simp)
  have h0 := hs.cell0 (n := 0) (by simp) (v := .int .i64 k) rfl
  rw [Nat.zero_mul, Nat.add_zero] at h0
  clear hs
  go_enter Tryd.func20, Tryd.ntmps20
  go_wp2
  go_loop [9] (fun i => i = .int .i64 0) (fun i => 1)
  case atStart => rfl
  case round =>
    subst hrel
    go_wp2
    go_ret
    exact ⟨rfl, below_new _ _⟩

theorem cnt_of {l : List FactD} {hs : List (ByteArray × HR)} (h : absH hs = hist l l.length) {e : ByteArray} {r : HR} (hr : alGet hs e = some r) : (alGet r.cm 1).getD 0 = countN l 1 e := by
  have h1 := cntOf_hist l e 1 l.length (Nat.le_refl _)
  rw [List.take_length, ← h, cntOf, absH_get, hr] at h1
  exact h1
theorem cnt_none {l : List FactD} {hs : List (ByteArray × HR)} (h : absH hs = hist l l.length) {e : ByteArray} (hr : alGet hs e = none) : countN l 1 e = 0 := by
  have h1 := cntOf_hist l e 1 l.length (Nat.le_refl _)
  rw [List.take_length, ← h, cntOf, absH_get, hr] at h1
  have : (0 : Int) = countN l 1 e := h1
  omega
theorem at_of {l : List FactD} {hs : List (ByteArray × HR)} (h : absH hs = hist l l.length) {e : ByteArray} {r : HR} (hr : alGet hs e = some r) : (alGet r.am 1).getD 0 = if firstN l 1 e 0 < 0 then 0 else firstN l 1 e 0 := by
  have h1 := atOf_hist l e 1 l.length (Nat.le_refl _)
  rw [List.take_length, ← h, atOf, absH_get, hr] at h1
  exact h1

set_option maxHeartbeats 2000000 in
theorem cause_any (B o : Nat) (l : List FactD) (hs : List (ByteArray × HR)) (s : ByteArray) (w : World) (hsz : s.size ≤ 140737488351232) (hh : HistW w B o hs) (habs : absH hs = hist l l.length) (hL : Laid w) :
    Calls Tryd.prog 13 #[.map (some o), .string s] w fun e w' => e = .returned (.string (causeR l s)) ∧ Below w.heap.size w w' := by
  go_enter Tryd.func13, Tryd.ntmps13
  have HH := Lib.hid hh
  have HA := Lib.hid habs
  obtain ⟨⟨x0, n0, ok0⟩, hp0⟩ : ∃ p, parR s = p := ⟨_, rfl⟩
  have HP0 := Lib.hid hp0
  clear hh habs hp0
  go_wp2_with (first
    | (go_at_call 23; refine (parent_any s _ hsz hL).mono ?_; rintro e w1 ⟨rfl, HB0⟩; rw [HP0.out]))
  go_loopw [5, 7] (fun v k wr => ∃ (q x : ByteArray) (n : Int) (ok : Bool), v = .string x ∧ k = .bool ok ∧ parR q = (x, n, ok) ∧ q.size ≤ s.size ∧ causeR l s = causeR l q ∧ Below w.heap.size w wr) (fun v k _ => strMz v + boolMz k)
  case atStart => exact ⟨s, x0, n0, ok0, rfl, rfl, HP0.out, Nat.le_refl _, rfl, HB0⟩
  case round =>
    obtain ⟨q, x, n, ok, rfl, rfl, hp, hq, hc, hb⟩ := hrel
    have HP := Lib.hid hp
    have HC := Lib.hid hc
    have HB := Lib.hid hb
    clear hc hb
    cases ok with
    | false =>
      have E := Lib.hid (show causeR l s = ByteArray.empty by rw [HC.out]; exact cause_no (by rw [hp]))
      clear hp
      go_wp2
      go_ret
      exact ⟨by rw [E.out]; rfl, HB.out⟩
    | true =>
      have hxz : x.size < q.size := by have := parR_size (s := q) (by rw [hp]); rw [hp] at this; exact this
      have HHr := Lib.hid (HH.out.below HB.out)
      by_cases h2 : 0 ≤ firstN l 1 x 0
      · have E := Lib.hid (show causeR l s = x by rw [HC.out, cause_yes (by rw [hp]) (by rw [hp]; exact h2), hp])
        have hcz := (firstN_ge l 1 x).1 h2
        cases hr : alGet hs x with
        | none => exact absurd (cnt_none HA.out hr) hcz
        | some r =>
          have HG := Lib.hid (show alGet (hs.map fun p => (p.1, (some p.2.ab, some p.2.cb))) x = some (some r.ab, some r.cb) by rw [alGet_map hs (fun r : HR => (some r.ab, some r.cb)), hr]; rfl)
          have HM := Lib.hid (HHr.out.get hr)
          have HT := Lib.hid (show hasB r.cm [1] = true by simp [hasB, cnt_of HA.out hr]; omega)
          clear hp hr h2
          go_wp2_with (first
            | (at_lookup; refine wpList_look' rfl (.tmp 21) (.tmp 22) rfl Tryd.kS Tryd.underlying39 (none, none) (Tryd.zero44 _) rfl x rfl HHr.out.1 (some (some r.ab, some r.cb)) HG.out (.agg #[.map (some r.ab), .map (some r.cb)]) rfl ?_))
          refine (has_any r.ab r.cb r.cm _ _ [1] _ (by simp) (HM.out.2.1.alloc _) (one_new (by simp) _ _)).mono ?_
          rintro e w3 ⟨rfl, hb3⟩
          rw [HT.out]
          go_wp2
          go_ret
          exact ⟨by rw [E.out]; rfl, below_call hb3 (below_call (below_new _ _) HB.out)⟩
      · have E := Lib.hid (show causeR l s = causeR l x by rw [HC.out, cause_up (by rw [hp]) (by rw [hp]; exact h2), hp])
        have hcz : countN l 1 x = 0 := by
          by_cases hz : countN l 1 x = 0
          · exact hz
          · exact absurd ((firstN_ge l 1 x).2 hz) h2
        obtain ⟨⟨x1, n1, ok1⟩, hp1⟩ : ∃ p, parR x = p := ⟨_, rfl⟩
        have HP1 := Lib.hid hp1
        clear hp1
        cases hr : alGet hs x with
        | none =>
          have HG := Lib.hid (show alGet (hs.map fun p => (p.1, (some p.2.ab, some p.2.cb))) x = none by rw [alGet_map hs (fun r : HR => (some r.ab, some r.cb)), hr]; rfl)
          clear hp hr h2
          go_wp2_with (first
            | (at_lookup; refine wpList_look' rfl (.tmp 21) (.tmp 22) rfl Tryd.kS Tryd.underlying39 (none, none) (Tryd.zero44 _) rfl x rfl HHr.out.1 none HG.out (.agg #[.map none, .map none]) rfl ?_))
          refine (has_nil_any _ _ 1 _ (one_new (by simp) _ _)).mono ?_
          rintro e w3 ⟨rfl, hb3⟩
          have HB3 := Lib.hid (below_call hb3 (below_call (below_new _ _) HB.out))
          go_wp2_with (first
            | (go_at_call 23; refine (parent_any x _ (by omega) (hL.below HB3.out)).mono ?_; rintro e w4 ⟨rfl, HB4⟩; rw [HP1.out]))
          go_roundw
          case rel => exact ⟨x, x1, n1, ok1, rfl, rfl, HP1.out, by omega, E.out, below_call HB4 HB3.out⟩
          case measure =>
            have hm : strMz (.string x1) + boolMz (.bool ok1) < x.size + 1 := by
              cases ok1 with
              | true =>
                have := parR_size (s := x) (by rw [HP1.out])
                rw [HP1.out] at this
                exact Nat.add_lt_add_right this 1
              | false =>
                have h0 : x1 = ByteArray.empty := parR_no HP1.out
                subst h0
                show 0 + 0 < x.size + 1
                omega
            exact hm
        | some r =>
          have HG := Lib.hid (show alGet (hs.map fun p => (p.1, (some p.2.ab, some p.2.cb))) x = some (some r.ab, some r.cb) by rw [alGet_map hs (fun r : HR => (some r.ab, some r.cb)), hr]; rfl)
          have HM := Lib.hid (HHr.out.get hr)
          have HT := Lib.hid (show hasB r.cm [1] = false by simp [hasB, cnt_of HA.out hr]; omega)
          clear hp hr h2
          go_wp2_with (first
            | (at_lookup; refine wpList_look' rfl (.tmp 21) (.tmp 22) rfl Tryd.kS Tryd.underlying39 (none, none) (Tryd.zero44 _) rfl x rfl HHr.out.1 (some (some r.ab, some r.cb)) HG.out (.agg #[.map (some r.ab), .map (some r.cb)]) rfl ?_))
          refine (has_any r.ab r.cb r.cm _ _ [1] _ (by simp) (HM.out.2.1.alloc _) (one_new (by simp) _ _)).mono ?_
          rintro e w3 ⟨rfl, hb3⟩
          rw [HT.out]
          have HB3 := Lib.hid (below_call hb3 (below_call (below_new _ _) HB.out))
          go_wp2_with (first
            | (go_at_call 23; refine (parent_any x _ (by omega) (hL.below HB3.out)).mono ?_; rintro e w4 ⟨rfl, HB4⟩; rw [HP1.out]))
          go_roundw
          case rel => exact ⟨x, x1, n1, ok1, rfl, rfl, HP1.out, by omega, E.out, below_call HB4 HB3.out⟩
          case measure =>
            have hm : strMz (.string x1) + boolMz (.bool ok1) < x.size + 1 := by
              cases ok1 with
              | true =>
                have := parR_size (s := x) (by rw [HP1.out])
                rw [HP1.out] at this
                exact Nat.add_lt_add_right this 1
              | false =>
                have h0 : x1 = ByteArray.empty := parR_no HP1.out
                subst h0
                show 0 + 0 < x.size + 1
                omega
            exact hm

end Go.Proofs.YtcnmdhdoiekfoaaDoor
