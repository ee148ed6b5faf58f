/- Equality of requests as the reference decides it. -/
import Derived.Test.YtemakcaojdoakaaGreatDoorC5
namespace Go.Proofs.YtemakcaojdoakaaGreatDoor
open Go.RowKit
set_option maxRecDepth 100000

attribute [local go_sem] cell_alloc_is
set_option maxHeartbeats 4000000 in
theorem sreq_any (a b : List ReqD) (va vb : Value) (w : World) (ha : ReqsV w va a) (hb : ReqsV w vb b) :
    Calls Tryz.prog 21 #[va, vb] w fun e w' => e = .returned (.bool (eqQs a b)) ∧ ∃ q, w' = w.drewN q := by
  obtain ⟨A, cap, rs1, rfl, hca, hma, hsa0, hla, hva⟩ := ha
  obtain ⟨B, cbp, rs2, rfl, hcb, hmb, hsb0, hlb, hvb⟩ := hb
  have HVA := Lib.hid hva
  have HVB := Lib.hid hvb
  have HSA := Lib.hid hsa0
  have HSB := Lib.hid hsb0
  clear hva hvb hsa0 hsb0
  by_cases hl : b.length = a.length
  · rw [hl]
    have HL := Lib.hid hl
    have HLA := Lib.hid hla
    have HLB := Lib.hid hlb
    clear hl hla hlb
    go_enter Tryz.func21, Tryz.ntmps21
    go_wp2
    go_loopw [14] (fun i wr => ∃ n q : Nat, n ≤ a.length ∧ i = .int .i64 n ∧ wr = w.drewN q ∧ Hid (a.take n = b.take n)) (fun i _ => a.length - (intOf i).toNat)
    case atStart => exact ⟨0, 0, Nat.zero_le _, rfl, rfl, Lib.hid rfl⟩
    case round =>
      obtain ⟨n, q, hn, rfl, rfl, HT⟩ := hrel
      by_cases hlt : n < a.length
      · have hltb : n < b.length := by rw [HL.out]; exact hlt
        have hna : n < rs1.length := by rw [HLA.out]; exact hlt
        have hnb : n < rs2.length := by rw [HLB.out]; exact hltb
        have hlt' : (n : Int) < (a.length : Int) := by omega
        have hn0 : (0 : Int) ≤ (n : Int) := by omega
        have hsa := HSA.out
        have hsb := HSB.out
        obtain ⟨bA, off, rfl, _⟩ := hsa.ptr hna
        obtain ⟨bB, off', rfl, _⟩ := hsb.ptr hnb
        obtain ⟨la, hra, hla⟩ := HVA.out n hna hlt
        obtain ⟨lb, hrb, hlb⟩ := HVB.out n hnb hltb
        obtain ⟨fa, hfa⟩ : ∃ x, a[n].op = x := ⟨_, rfl⟩
        obtain ⟨fb, hfb⟩ : ∃ x, b[n].op = x := ⟨_, rfl⟩
        obtain ⟨xa, hxa⟩ : ∃ x, a[n].args = x := ⟨_, rfl⟩
        obtain ⟨xb, hxb⟩ : ∃ x, b[n].args = x := ⟨_, rfl⟩
        rw [hxa] at hla
        rw [hxb] at hlb
        obtain ⟨A1, k1, vs1, rfl, hc1, hm1, hs1, hl1, hv1⟩ := hla.at
        obtain ⟨B1, k2, vs2, rfl, hc2, hm2, hs2, hl2, hv2⟩ := hlb.at
        rw [hfa] at hra
        rw [hfb] at hrb
        have c0 := hsa.cell0 hna (v := .string fa) (by rw [hra]; rfl)
        have c1 := hsa.cell hna (j := 1) (v := .slice A1 xa.length k1) (by rw [hra]; rfl)
        have d0 := hsb.cell0 hnb (v := .string fb) (by rw [hrb]; rfl)
        have d1 := hsb.cell hnb (j := 1) (v := .slice B1 xb.length k2) (by rw [hrb]; rfl)
        have HFA := Lib.hid hfa
        have HFB := Lib.hid hfb
        have HXA := Lib.hid hxa
        have HXB := Lib.hid hxb
        have HS1 := Lib.hid hs1
        have HS2 := Lib.hid hs2
        have HL1 := Lib.hid hl1
        have HL2 := Lib.hid hl2
        have HV1 := Lib.hid hv1
        have HV2 := Lib.hid hv2
        clear hfa hfb hxa hxb hra hrb hsa hsb hla hlb hs1 hs2 hl1 hl2 hv1 hv2
        by_cases he : fa = fb
        · subst he
          by_cases hx : xb.length = xa.length
          · rw [hx] at d1
            have HXL := Lib.hid hx
            clear hx
            go_wp2
            go_quiet (fail)
            go_wp2
            go_loopw [49] (fun i wi => ∃ k p : Nat, k ≤ xa.length ∧ i = .int .i64 k ∧ wi = w.drewN p ∧ Hid (xa.take k = xb.take k)) (fun i _ => xa.length - (intOf i).toNat)
            case atStart => exact ⟨0, _, Nat.zero_le _, rfl, (by first | rfl | exact World.drewN_drewN _ _ _), Lib.hid rfl⟩
            case round =>
              obtain ⟨k, p, hk, rfl, rfl, HK⟩ := hrel
              by_cases hkl : k < xa.length
              · have hkb : k < xb.length := by rw [HXL.out]; exact hkl
                have hka : k < vs1.length := by rw [HL1.out]; exact hkl
                have hkb' : k < vs2.length := by rw [HL2.out]; exact hkb
                have hkl' : (k : Int) < (xa.length : Int) := by omega
                have hk0 : (0 : Int) ≤ (k : Int) := by omega
                have hs1 := HS1.out
                have hs2 := HS2.out
                obtain ⟨b3, off3, rfl, _⟩ := hs1.ptr hka
                obtain ⟨b4, off4, rfl, _⟩ := hs2.ptr hkb'
                obtain ⟨x, hx⟩ : ∃ x, vs1[k] = x := ⟨_, rfl⟩
                obtain ⟨y, hy⟩ : ∃ y, vs2[k] = y := ⟨_, rfl⟩
                have e0 := hs1.cell0 hka (v := x) (by rw [hx]; rfl)
                have e1 := hs2.cell0 hkb' (v := y) (by rw [hy]; rfl)
                have hvx : ValV w x xa[k] := hx ▸ HV1.out k hka hkl
                have hvy : ValV w y xb[k] := hy ▸ HV2.out k hkb' hkb
                rw [Nat.mul_one] at e0 e1
                clear hx hy hs1 hs2
                obtain ⟨t, ht⟩ : ∃ t, eqV xa[k] xb[k] = t := ⟨_, rfl⟩
                have HTT := Lib.hid ht
                have HC : Hid (∀ k, Calls Tryz.prog 14 #[x, y] (w.drewN k) fun e w' => e = .returned (.bool t) ∧ ∃ q, w' = (w.drewN k).drewN q) := Lib.hid (fun j => by
                  have := cells_any xa[k] xb[k] x y (w.drewN j) hvx hvy
                  rw [ht] at this; exact this)
                clear hvx hvy ht
                cases t
                · have HE : Hid (eqQs a b = false) := Lib.hid (by
                    unfold eqQs; rw [decide_eq_false_iff_not]; rintro rfl
                    have h1 := HTT.out
                    have h2 := HXA.out.symm.trans HXB.out
                    subst h2
                    simp [eqV] at h1)
                  go_wp2
                  go_quiet ((go_at_call 14; exact quiet_add (HC.out _)))
                  go_wp2
                  go_ret
                  exact ⟨by rw [HE.out]; rfl, _, (by first | rfl | exact World.drewN_drewN _ _ _)⟩
                · have HK2 := Lib.hid (take_succ_eq hkl hkb HK.out (by have := HTT.out; simpa [eqV] using this))
                  go_wp2
                  go_quiet ((go_at_call 14; exact quiet_add (HC.out _)))
                  go_wp2
                  refine ⟨⟨k + 1, _, by omega, by simp, (by first | rfl | exact World.drewN_drewN _ _ _), HK2⟩, by simp [intOf]; omega⟩
              · have e : k = xa.length := by omega
                subst e
                have HT2 := Lib.hid (take_succ_eq hlt hltb HT.out (by
                  have h1 := HK.out
                  rw [List.take_length, ← HXL.out, List.take_length] at h1
                  have h2 := HFA.out
                  have h3 := HFB.out
                  have h4 := HXA.out
                  have h5 := HXB.out
                  subst h1
                  generalize a[n] = p1 at h2 h4 ⊢
                  generalize b[n] = p2 at h3 h5 ⊢
                  cases p1; cases p2; simp_all))
                go_wp2
                refine ⟨⟨n + 1, _, by omega, by simp, rfl, HT2⟩, by simp [intOf]; omega⟩
          · have HE : Hid (eqQs a b = false) := Lib.hid (by
              unfold eqQs; rw [decide_eq_false_iff_not]; rintro rfl
              exact hx (by rw [← HXA.out, ← HXB.out]))
            have hx' : ((xa.length : Int) != (xb.length : Int)) = true := by simp; omega
            clear hx
            go_wp2
            go_quiet (fail)
            go_wp2
            go_ret
            exact ⟨by rw [HE.out]; rfl, _, (by first | rfl | exact World.drewN_drewN _ _ _)⟩
        · have HE : Hid (eqQs a b = false) := Lib.hid (by
            unfold eqQs; rw [decide_eq_false_iff_not]; rintro rfl
            exact he (by rw [← HFA.out, ← HFB.out]))
          have he' : (fa.toList == fb.toList) = false := by rw [toList_beq]; simpa using he
          clear he
          go_wp2
          go_quiet (fail)
          go_wp2
          go_ret
          exact ⟨by rw [HE.out]; rfl, _, (by first | rfl | exact World.drewN_drewN _ _ _)⟩
      · have e : n = a.length := by omega
        subst e
        have HE : Hid (eqQs a b = true) := Lib.hid (by
          have := HT.out
          rw [List.take_length, ← HL.out, List.take_length] at this
          simp [eqQs, this])
        go_wp2
        go_ret
        exact ⟨by rw [HE.out]; rfl, q, rfl⟩
  · have e : eqQs a b = false := by
      unfold eqQs; rw [decide_eq_false_iff_not]; rintro rfl; exact hl rfl
    have HE := Lib.hid e
    have hl' : ((a.length : Int) != (b.length : Int)) = true := by simp; omega
    clear hl e hla hlb
    go_enter Tryz.func21, Tryz.ntmps21
    go_wp2
    go_ret
    exact ⟨by rw [HE.out]; rfl, 0, rfl⟩
end Go.Proofs.YtemakcaojdoakaaGreatDoor
