/- The walk of the reference's overtaken. -/
import Derived.Test.YtcnmdhdoiekfoaaW2
namespace Go.Proofs.Ytcnmdhdoiekfoaa
open Go.RowKit

theorem firstN_lo (l : List FactD) (k : Int) (id : ByteArray) : ∀ n : Nat, firstN l k id n = -1 ∨ ∃ m : Nat, firstN l k id n = (m : Int) ∧ n ≤ m ∧ m < n + l.length := by
  induction l with
  | nil => intro n; exact .inl rfl
  | cons f r ih =>
    intro n
    unfold firstN
    split
    · exact .inr ⟨n, rfl, by omega, by simp⟩
    · rcases ih (n + 1) with h | ⟨m, h1, h2, h3⟩
      · exact .inl h
      · exact .inr ⟨m, h1, by omega, by simp only [List.length_cons]; omega⟩

def anyUpto (p : Nat → Bool) : Nat → Bool
  | 0 => false
  | n + 1 => anyUpto p n || p n

def overAt (l : List FactD) (c : Int) (x : FactD) (i : Nat) : Bool :=
  match l[i]? with
  | some g => decide (g.kind = 1) && decide (g.tenant = x.tenant) && decide (g.source = x.source) && decide (g.key = x.key) && decide (firstN l 1 g.event 0 = (i : Int)) && decide (c < firstN l 5 g.event 0)
  | none => false

def overB (l : List FactD) (id : ByteArray) : Bool :=
  if firstN l 1 id 0 < 0 ∨ firstN l 5 id 0 < 0 then false else
  match l[(firstN l 1 id 0).toNat]? with
  | some x => anyUpto (overAt l (firstN l 5 id 0) x) (firstN l 1 id 0).toNat
  | none => false

theorem anyUpto_hit {p : Nat → Bool} {n m : Nat} (hn : n < m) (h : p n = true) : anyUpto p m = true := by
  induction m with
  | zero => omega
  | succ m ih =>
    unfold anyUpto
    by_cases hm : n = m
    · subst hm; simp [h]
    · rw [ih (by omega)]; rfl

set_option maxHeartbeats 1000000 in
set_option maxRecDepth 100000 in
theorem over_any (A : Option Addr) (cap : Nat) (l : List FactD) (id : ByteArray) (w : World) (hl : l.length ≤ 4000) (hf : FactsAt w A l) :
    Calls Try.prog 31 #[.slice A l.length cap, .string id] w fun e w' => e = .returned (.bool (overB l id)) ∧ ∃ q, w' = w.drewN q := by
  by_cases hA0 : firstN l 1 id 0 < 0
  · have hO := Lib.hid (show overB l id = false by unfold overB; rw [if_pos (.inl hA0)])
    go_enter Try.func31, Try.ntmps31
    go_wp2_with (first
      | (go_at_call 28; refine (first_any _ _ _ _ _ _ hl hf).mono ?_; rintro e w' ⟨rfl, rfl⟩))
    go_ret
    exact ⟨by rw [hO.out]; rfl, 0, rfl⟩
  by_cases hC0 : firstN l 5 id 0 < 0
  · have hO := Lib.hid (show overB l id = false by unfold overB; rw [if_pos (.inr hC0)])
    go_enter Try.func31, Try.ntmps31
    go_wp2_with (first
      | (go_at_call 28; refine (first_any _ _ _ _ _ _ hl hf).mono ?_; rintro e w' ⟨rfl, rfl⟩))
    go_ret
    exact ⟨by rw [hO.out]; rfl, 0, rfl⟩
  obtain ⟨m, hm1, _, hm2⟩ : ∃ m : Nat, firstN l 1 id 0 = (m : Int) ∧ 0 ≤ m ∧ m < 0 + l.length := by
    rcases firstN_lo l 1 id 0 with h | h
    · omega
    · exact h
  rw [Nat.zero_add] at hm2
  obtain ⟨c, hc1, _, hc2⟩ : ∃ c : Nat, firstN l 5 id 0 = (c : Int) ∧ 0 ≤ c ∧ c < 0 + l.length := by
    rcases firstN_lo l 5 id 0 with h | h
    · omega
    · exact h
  have hO := Lib.hid (show overB l id = anyUpto (overAt l c l[m]) m by
    unfold overB; rw [if_neg (by omega), hm1, hc1]; simp [hm2])
  have hM := Lib.hid hm1
  have hC := Lib.hid hc1
  clear hA0 hC0 hm1 hc1
  obtain ⟨b, off, rfl, _⟩ := hf.ptr hm2
  have m2 := hf.cell hm2 (j := 2) (v := _) rfl
  have m3 := hf.cell hm2 (j := 3) (v := _) rfl
  have m4 := hf.cell hm2 (j := 4) (v := _) rfl
  have HF := Lib.hid hf
  clear hf
  go_enter Try.func31, Try.ntmps31
  go_wp2_with (fail)
  refine (first_any _ _ _ _ _ _ hl HF.out).mono ?_
  rintro e w' ⟨rfl, rfl⟩
  rw [hM.out]
  go_wp2_with (fail)
  refine (first_any _ _ _ _ _ _ hl HF.out).mono ?_
  rintro e w' ⟨rfl, rfl⟩
  rw [hC.out]
  go_wp2_with (fail)
  go_loopw [7] (fun i wr => ∃ n q : Nat, n ≤ m ∧ i = .int .i64 n ∧ anyUpto (overAt l c l[m]) n = false ∧ wr = w.drewN q) (fun i _ => m - (intOf i).toNat)
  case atStart => exact ⟨0, 0, Nat.zero_le _, rfl, rfl, rfl⟩
  case round =>
    obtain ⟨n, q, hn, rfl, hall, rfl⟩ := hrel
    have HA := Lib.hid hall; clear hall
    by_cases hlt : n < m
    · have hln : n < l.length := by omega
      have h0 := HF.out.cell0 hln (v := _) rfl
      have h2 := HF.out.cell hln (j := 2) (v := _) rfl
      have h3 := HF.out.cell hln (j := 3) (v := _) rfl
      have h4 := HF.out.cell hln (j := 4) (v := _) rfl
      have h5 := HF.out.cell hln (j := 5) (v := _) rfl
      have HX := Lib.hid (show overAt l c l[m] n = (decide (l[n].kind = 1) && decide (l[n].tenant = l[m].tenant) && decide (l[n].source = l[m].source) && decide (l[n].key = l[m].key) && decide (firstN l 1 l[n].event 0 = (n : Int)) && decide ((c : Int) < firstN l 5 l[n].event 0)) by
        simp only [overAt, List.getElem?_eq_getElem hln])
      have HS : overAt l c l[m] n = false → Hid (anyUpto (overAt l c l[m]) (n + 1) = false) := fun h => by
        show _ = _
        unfold anyUpto; rw [HA.out, h]; rfl
      by_cases hk : l[n].kind = 1
      · have hk0 : (l[n].kind != 1) = false := by simp [hk]
        cases ht : (l[n].tenant.toList == l[m].tenant.toList)
        · have HN := HS (by rw [HX.out]; rw [toList_beq] at ht; simp at ht; simp [ht])
          clear HS HX
          go_wp2
          go_quiet (fail)
          go_wp2
          go_roundw
          case rel => exact ⟨n + 1, _, by omega, by go_num, HN.out, rfl⟩
          case measure => simp [intOf]; omega
        cases hs : (l[n].source.toList == l[m].source.toList)
        · have HN := HS (by rw [HX.out]; rw [toList_beq] at hs; simp at hs; simp [hs])
          clear HS HX
          go_wp2
          go_quiet (fail)
          go_wp2
          go_roundw
          case rel => exact ⟨n + 1, _, by omega, by go_num, HN.out, rfl⟩
          case measure => simp [intOf]; omega
        cases hy : (l[n].key.toList == l[m].key.toList)
        · have HN := HS (by rw [HX.out]; rw [toList_beq] at hy; simp at hy; simp [hy])
          clear HS HX
          go_wp2
          go_quiet (fail)
          go_wp2
          go_roundw
          case rel => exact ⟨n + 1, _, by omega, by go_num, HN.out, rfl⟩
          case measure => simp [intOf]; omega
        have ht' := ht
        have hs' := hs
        have hy' := hy
        rw [toList_beq, decide_eq_true_eq] at ht' hs' hy'
        have HX2 := Lib.hid (show overAt l c l[m] n = (decide (firstN l 1 l[n].event 0 = (n : Int)) && decide ((c : Int) < firstN l 5 l[n].event 0)) by rw [HX.out]; simp [hk, ht', hs', hy'])
        clear HX ht' hs' hy'
        by_cases hq : firstN l 1 l[n].event 0 = (n : Int)
        · have hq' : (firstN l 1 l[n].event 0 == (n : Int)) = true := by simp [hq]
          by_cases hr : (c : Int) < firstN l 5 l[n].event 0
          · have HT := Lib.hid (anyUpto_hit hlt (show overAt l c l[m] n = true by rw [HX2.out]; simp [hq, hr]))
            clear HS HX2 hq
            go_wp2
            go_quiet (fail)
            go_wp2_with (first
              | (go_at_call 28; refine (first_any _ _ _ _ _ _ hl (HF.out.drewN _)).mono ?_; rintro e w' ⟨rfl, rfl⟩))

            go_ret
            exact ⟨by rw [hO.out, HT.out]; rfl, _, rfl⟩
          · have HN := HS (by rw [HX2.out]; simp [hr])
            have hr' : decide ((c : Int) < firstN l 5 l[n].event 0) = false := by simpa using hr
            clear HS HX2 hq hr
            go_wp2
            go_quiet (fail)
            go_wp2_with (first
              | (go_at_call 28; refine (first_any _ _ _ _ _ _ hl (HF.out.drewN _)).mono ?_; rintro e w' ⟨rfl, rfl⟩))

            go_roundw
            case rel => exact ⟨n + 1, _, by omega, by go_num, HN.out, rfl⟩
            case measure => simp [intOf]; omega
        · have hq' : (firstN l 1 l[n].event 0 == (n : Int)) = false := by simpa using hq
          have HN := HS (by rw [HX2.out]; simp [hq])
          clear HS HX2 hq
          go_wp2
          go_quiet (fail)
          go_wp2_with (first
            | (go_at_call 28; refine (first_any _ _ _ _ _ _ hl (HF.out.drewN _)).mono ?_; rintro e w' ⟨rfl, rfl⟩))

          go_roundw
          case rel => exact ⟨n + 1, _, by omega, by go_num, HN.out, rfl⟩
          case measure => simp [intOf]; omega
      · have hk' : (l[n].kind != 1) = true := by rw [bne_iff_ne]; exact hk
        have HN := HS (by rw [HX.out]; simp [hk])
        clear HS HX
        go_wp2
        go_quiet (fail)
        go_wp2
        go_roundw
        case rel => exact ⟨n + 1, _, by omega, by go_num, HN.out, rfl⟩
        case measure => simp [intOf]; omega
    · go_wp2
      go_ret
      have hA := HA.out
      obtain rfl : n = m := by omega
      exact ⟨by rw [hO.out, hA]; rfl, _, rfl⟩
end Go.Proofs.Ytcnmdhdoiekfoaa
