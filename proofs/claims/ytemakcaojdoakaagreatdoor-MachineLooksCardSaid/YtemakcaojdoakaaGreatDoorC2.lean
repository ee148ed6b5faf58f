/- Equality of lists of values. -/
import Derived.Test.YtemakcaojdoakaaGreatDoorC1
namespace Go.Proofs.YtemakcaojdoakaaGreatDoor
open Go.RowKit
set_option maxRecDepth 100000

def eqVs (a b : List ValD) : Bool := decide (a = b)
attribute [local go_sem] cell_alloc_is

set_option maxHeartbeats 1000000 in
theorem values_any (a b : List ValD) (va vb : Value) (w : World) (ha : ValsV w va a) (hb : ValsV w vb b) :
    Calls Tryz.prog 28 #[va, vb] w fun e w' => e = .returned (.bool (eqVs a b)) ∧ ∃ q, w' = w.drewN q := by
  obtain ⟨A, cap, vs1, rfl, hca, hma, hsa, hla, hva⟩ := ha.at
  obtain ⟨B, cbp, vs2, rfl, hcb, hmb, hsb, hlb, hvb⟩ := hb.at
  have HVA := Lib.hid hva
  have HVB := Lib.hid hvb
  clear ha hb hva hvb
  by_cases hl : b.length = a.length
  · rw [hl]
    have HL := Lib.hid hl
    have HLA := Lib.hid hla
    have HLB := Lib.hid hlb
    clear hl hla hlb
    go_enter Tryz.func28, Tryz.ntmps28
    go_wp2
    go_loopw [13] (fun i wr => ∃ n q : Nat, n ≤ a.length ∧ i = .int .i64 n ∧ wr = w.drewN q ∧ Hid (a.take n = b.take n)) (fun i _ => a.length - (intOf i).toNat)
    case atStart => exact ⟨0, 0, Nat.zero_le _, rfl, rfl, Lib.hid rfl⟩
    case round =>
      obtain ⟨n, q, hn, rfl, rfl, HT⟩ := hrel
      by_cases hlt : n < a.length
      · have hltb : n < b.length := by rw [HL.out]; exact hlt
        have hna : n < vs1.length := by rw [HLA.out]; exact hlt
        have hnb : n < vs2.length := by rw [HLB.out]; exact hltb
        have hlt' : (n : Int) < (a.length : Int) := by omega
        have hn0 : (0 : Int) ≤ (n : Int) := by omega
        obtain ⟨bA, off, rfl, _⟩ := hsa.ptr hna
        obtain ⟨bB, off', rfl, _⟩ := hsb.ptr hnb
        obtain ⟨x, hx⟩ : ∃ x, vs1[n] = x := ⟨_, rfl⟩
        obtain ⟨y, hy⟩ : ∃ y, vs2[n] = y := ⟨_, rfl⟩
        have c0 := hsa.cell0 hna (v := x) (by rw [hx]; rfl)
        have d0 := hsb.cell0 hnb (v := y) (by rw [hy]; rfl)
        have hvx : ValV w x a[n] := hx ▸ HVA.out n hna hlt
        have hvy : ValV w y b[n] := hy ▸ HVB.out n hnb hltb
        rw [Nat.mul_one] at c0 d0
        clear hx hy
        obtain ⟨t, ht⟩ : ∃ t, eqV a[n] b[n] = t := ⟨_, rfl⟩
        have HTT := Lib.hid ht
        have HC : Hid (∀ k, Calls Tryz.prog 14 #[x, y] (w.drewN k) fun e w' => e = .returned (.bool t) ∧ ∃ q, w' = (w.drewN k).drewN q) := Lib.hid (fun k => by
          have := cells_any a[n] b[n] x y (w.drewN k) hvx hvy
          rw [ht] at this; exact this)
        clear hvx hvy ht
        cases t
        · have HE : Hid (eqVs a b = false) := Lib.hid (by
            unfold eqVs; rw [decide_eq_false_iff_not]; rintro rfl
            have := HTT.out
            simp [eqV] at this)
          go_wp2
          go_quiet ((go_at_call 14; exact quiet_add (HC.out _)))
          go_wp2
          go_ret
          exact ⟨by rw [HE.out]; rfl, _, (by first | rfl | exact World.drewN_drewN _ _ _)⟩
        · have HT2 := Lib.hid (take_succ_eq hlt hltb HT.out (by have := HTT.out; simpa [eqV] using this))
          go_wp2
          go_quiet ((go_at_call 14; exact quiet_add (HC.out _)))
          go_wp2
          refine ⟨⟨n + 1, _, by omega, by simp, (by first | rfl | exact World.drewN_drewN _ _ _), HT2⟩, by simp [intOf]; omega⟩
      · have e : n = a.length := by omega
        subst e
        have HE : Hid (eqVs a b = true) := Lib.hid (by
          have := HT.out
          rw [List.take_length, ← HL.out, List.take_length] at this
          simp [eqVs, this])
        go_wp2
        go_ret
        exact ⟨by rw [HE.out]; rfl, q, rfl⟩
  · have e : eqVs a b = false := by
      unfold eqVs; rw [decide_eq_false_iff_not]; rintro rfl; exact hl rfl
    have HE := Lib.hid e
    have hl' : ((a.length : Int) != (b.length : Int)) = true := by simp; omega
    clear hl e
    go_enter Tryz.func28, Tryz.ntmps28
    go_wp2
    go_ret
    exact ⟨by rw [HE.out]; rfl, 0, rfl⟩

set_option maxHeartbeats 1000000 in
theorem eqfunc_any (a b : List ValD) (va vb : Value) (w : World) (ha : ValsV w va a) (hb : ValsV w vb b) :
    Calls Tryz.prog 40 #[va, vb, .func (.func 27) #[] #[]] w fun e w' => e = .returned (.bool (eqVs a b)) ∧ ∃ q, w' = w.drewN q := by
  obtain ⟨A, cap, vs1, rfl, hca, hma, hsa, hla, hva⟩ := ha.at
  obtain ⟨B, cbp, vs2, rfl, hcb, hmb, hsb, hlb, hvb⟩ := hb.at
  have HVA := Lib.hid hva
  have HVB := Lib.hid hvb
  clear ha hb hva hvb
  by_cases hl : b.length = a.length
  · rw [hl]
    have HL := Lib.hid hl
    have HLA := Lib.hid hla
    have HLB := Lib.hid hlb
    clear hl hla hlb
    go_enter Tryz.func40, Tryz.ntmps40
    go_wp2
    go_loopw [17] (fun i wr => ∃ n q : Nat, n ≤ a.length ∧ i = .int .i64 n ∧ wr = w.drewN q ∧ Hid (a.take n = b.take n)) (fun i _ => a.length - (intOf i).toNat)
    case atStart => exact ⟨0, 0, Nat.zero_le _, rfl, rfl, Lib.hid rfl⟩
    case round =>
      obtain ⟨n, q, hn, rfl, rfl, HT⟩ := hrel
      by_cases hlt : n < a.length
      · have hltb : n < b.length := by rw [HL.out]; exact hlt
        have hna : n < vs1.length := by rw [HLA.out]; exact hlt
        have hnb : n < vs2.length := by rw [HLB.out]; exact hltb
        have hlt' : (n : Int) < (a.length : Int) := by omega
        have hn0 : (0 : Int) ≤ (n : Int) := by omega
        obtain ⟨bA, off, rfl, _⟩ := hsa.ptr hna
        obtain ⟨bB, off', rfl, _⟩ := hsb.ptr hnb
        obtain ⟨x, hx⟩ : ∃ x, vs1[n] = x := ⟨_, rfl⟩
        obtain ⟨y, hy⟩ : ∃ y, vs2[n] = y := ⟨_, rfl⟩
        have c0 := hsa.cell0 hna (v := x) (by rw [hx]; rfl)
        have d0 := hsb.cell0 hnb (v := y) (by rw [hy]; rfl)
        have hvx : ValV w x a[n] := hx ▸ HVA.out n hna hlt
        have hvy : ValV w y b[n] := hy ▸ HVB.out n hnb hltb
        rw [Nat.mul_one] at c0 d0
        clear hx hy
        obtain ⟨t, ht⟩ : ∃ t, eqV a[n] b[n] = t := ⟨_, rfl⟩
        have HTT := Lib.hid ht
        have HC : Hid (∀ k, Calls Tryz.prog 27 #[x, y] (w.drewN k) fun e w' => e = .returned (.bool t) ∧ ∃ q, w' = (w.drewN k).drewN q) := Lib.hid (fun k => by
          have := vsame_any a[n] b[n] x y (w.drewN k) hvx hvy
          rw [ht] at this; exact this)
        clear hvx hvy ht
        cases t
        · have HE : Hid (eqVs a b = false) := Lib.hid (by
            unfold eqVs; rw [decide_eq_false_iff_not]; rintro rfl
            have := HTT.out
            simp [eqV] at this)
          go_wp2_with (first | (go_at_call 27; refine (HC.out _).mono ?_; rintro e w1 ⟨rfl, q1, rfl⟩))
          go_ret
          exact ⟨by rw [HE.out]; rfl, _, (by first | rfl | exact World.drewN_drewN _ _ _)⟩
        · have HT2 := Lib.hid (take_succ_eq hlt hltb HT.out (by have := HTT.out; simpa [eqV] using this))
          go_wp2_with (first | (go_at_call 27; refine (HC.out _).mono ?_; rintro e w1 ⟨rfl, q1, rfl⟩))
          refine ⟨⟨n + 1, _, by omega, by simp, (by first | rfl | exact World.drewN_drewN _ _ _), HT2⟩, by simp [intOf]; omega⟩
      · have e : n = a.length := by omega
        subst e
        have HE : Hid (eqVs a b = true) := Lib.hid (by
          have := HT.out
          rw [List.take_length, ← HL.out, List.take_length] at this
          simp [eqVs, this])
        go_wp2
        go_ret
        exact ⟨by rw [HE.out]; rfl, q, rfl⟩
  · have e : eqVs a b = false := by
      unfold eqVs; rw [decide_eq_false_iff_not]; rintro rfl; exact hl rfl
    have HE := Lib.hid e
    have hl' : ((a.length : Int) != (b.length : Int)) = true := by simp; omega
    clear hl e
    go_enter Tryz.func40, Tryz.ntmps40
    go_wp2
    go_ret
    exact ⟨by rw [HE.out]; rfl, 0, rfl⟩

theorem malike_any (a b : List ValD) (va vb : Value) (w : World) (ha : ValsV w va a) (hb : ValsV w vb b) :
    Calls Tryz.prog 24 #[va, vb] w fun e w' => e = .returned (.bool (eqVs a b)) ∧ ∃ q, w' = w.drewN q := by
  go_enter Tryz.func24, Tryz.ntmps24
  go_wp2_with (first | (go_at_call 40; refine (eqfunc_any a b _ _ _ ha hb).mono ?_; rintro e w1 ⟨rfl, q, rfl⟩))
  go_ret
  exact ⟨rfl, q, rfl⟩
end Go.Proofs.YtemakcaojdoakaaGreatDoor
