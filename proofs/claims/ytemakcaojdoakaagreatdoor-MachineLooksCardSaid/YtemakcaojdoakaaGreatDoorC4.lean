/- Equality of lists of frames and of requests, as slices.EqualFunc decides it. -/
import Derived.Test.YtemakcaojdoakaaGreatDoorC3
namespace Go.Proofs.YtemakcaojdoakaaGreatDoor
open Go.RowKit
set_option maxRecDepth 100000

def eqFs (a b : List FrameD) : Bool := decide (a = b)
def eqQs (a b : List ReqD) : Bool := decide (a = b)
attribute [local go_sem] cell_alloc_is

set_option maxHeartbeats 1000000 in
theorem eff_any (a b : List FrameD) (va vb : Value) (w : World) (ha : FramesV w va a) (hb : FramesV w vb b) :
    Calls Tryz.prog 22 #[va, vb, .func (.func 23) #[] #[]] w fun e w' => e = .returned (.bool (eqFs a b)) ∧ Below w.heap.size w w' := by
  obtain ⟨A, cap, rs1, rfl, hca, hma, hsa0, hla, hva⟩ := ha
  obtain ⟨B, cbp, rs2, rfl, hcb, hmb, hsb0, hlb, hvb⟩ := hb
  have HVA := Lib.hid hva
  have HVB := Lib.hid hvb
  have HSA := Lib.hid hsa0
  have HSB := Lib.hid hsb0
  clear hva hvb hsa0 hsb0
  by_cases hl : b.length = a.length
  · rw [hl]
    have HL := Lib.hid hl
    have HLA := Lib.hid hla
    have HLB := Lib.hid hlb
    clear hl hla hlb
    go_enter Tryz.func22, Tryz.ntmps22
    go_wp2
    go_loopw [17] (fun i wr => ∃ n : Nat, n ≤ a.length ∧ i = .int .i64 n ∧ Below w.heap.size w wr ∧ Hid (a.take n = b.take n)) (fun i _ => a.length - (intOf i).toNat)
    case atStart => exact ⟨0, Nat.zero_le _, rfl, Below.refl _ _, Lib.hid rfl⟩
    case round =>
      obtain ⟨n, hn, rfl, hbel, HT⟩ := hrel
      have HB := Lib.hid hbel
      clear hbel
      by_cases hlt : n < a.length
      · have hltb : n < b.length := by rw [HL.out]; exact hlt
        have hna : n < rs1.length := by rw [HLA.out]; exact hlt
        have hnb : n < rs2.length := by rw [HLB.out]; exact hltb
        have hlt' : (n : Int) < (a.length : Int) := by omega
        have hn0 : (0 : Int) ≤ (n : Int) := by omega
        have hsa := HSA.out.below HB.out
        have hsb := HSB.out.below HB.out
        obtain ⟨bA, off, rfl, _⟩ := hsa.ptr hna
        obtain ⟨bB, off', rfl, _⟩ := hsb.ptr hnb
        obtain ⟨la, sa, hra, hla, hssa⟩ := HVA.out n hna hlt
        obtain ⟨lb, sb, hrb, hlb, hssb⟩ := HVB.out n hnb hltb
        obtain ⟨A1, q1, k1, rfl⟩ := hla.shape
        obtain ⟨A2, q2, k2, rfl⟩ := hssa.shape
        obtain ⟨A3, q3, k3, rfl⟩ := hlb.shape
        obtain ⟨A4, q4, k4, rfl⟩ := hssb.shape
        obtain ⟨fa, hfa⟩ : ∃ x, a[n].func = x := ⟨_, rfl⟩
        obtain ⟨pa, hpa⟩ : ∃ x, a[n].pc = x := ⟨_, rfl⟩
        obtain ⟨fb, hfb⟩ : ∃ x, b[n].func = x := ⟨_, rfl⟩
        obtain ⟨pb, hpb⟩ : ∃ x, b[n].pc = x := ⟨_, rfl⟩
        have hxa : FrameV w (.agg #[.int .i64 fa, .int .i64 pa, .slice A1 q1 k1, .slice A2 q2 k2]) a[n] := ⟨_, _, by rw [hfa, hpa], hla, hssa⟩
        have hxb : FrameV w (.agg #[.int .i64 fb, .int .i64 pb, .slice A3 q3 k3, .slice A4 q4 k4]) b[n] := ⟨_, _, by rw [hfb, hpb], hlb, hssb⟩
        rw [hfa, hpa] at hra
        rw [hfb, hpb] at hrb
        clear hfa hpa hfb hpb hla hlb hssa hssb
        have c0 := hsa.cell0 hna (v := .int .i64 fa) (by rw [hra]; rfl)
        have c1 := hsa.cell hna (j := 1) (v := .int .i64 pa) (by rw [hra]; rfl)
        have c2 := hsa.cell hna (j := 2) (v := .slice A1 q1 k1) (by rw [hra]; rfl)
        have c3 := hsa.cell hna (j := 3) (v := .slice A2 q2 k2) (by rw [hra]; rfl)
        have d0 := hsb.cell0 hnb (v := .int .i64 fb) (by rw [hrb]; rfl)
        have d1 := hsb.cell hnb (j := 1) (v := .int .i64 pb) (by rw [hrb]; rfl)
        have d2 := hsb.cell hnb (j := 2) (v := .slice A3 q3 k3) (by rw [hrb]; rfl)
        have d3 := hsb.cell hnb (j := 3) (v := .slice A4 q4 k4) (by rw [hrb]; rfl)
        clear hra hrb hsa hsb
        obtain ⟨t, ht⟩ : ∃ t, eqF a[n] b[n] = t := ⟨_, rfl⟩
        have HTT := Lib.hid ht
        have HC : Hid (∀ wx, Below wr.heap.size wr wx → Calls Tryz.prog 23 #[.agg #[.int .i64 fa, .int .i64 pa, .slice A1 q1 k1, .slice A2 q2 k2], .agg #[.int .i64 fb, .int .i64 pb, .slice A3 q3 k3, .slice A4 q4 k4]] wx fun e w' => e = .returned (.bool t) ∧ Below wx.heap.size wx w') := Lib.hid (fun wx hx => by
          have := same1_any a[n] b[n] _ _ wx ((hxa.below HB.out).below hx) ((hxb.below HB.out).below hx)
          rw [ht] at this; exact this)
        clear hxa hxb ht
        cases t
        · have HE : Hid (eqFs a b = false) := Lib.hid (by
            unfold eqFs; rw [decide_eq_false_iff_not]; rintro rfl
            have := HTT.out
            simp [eqF] at this)
          go_wp2_with (first | (go_at_call 23; with_reducible refine (HC.out _ (below_2 _ _ _)).mono ?_; rintro e w1 ⟨rfl, hb1⟩))
          go_ret
          exact ⟨by rw [HE.out]; rfl, below_call (below_call hb1 (below_2 _ _ _)) HB.out⟩
        · have HT2 := Lib.hid (take_succ_eq hlt hltb HT.out (by have := HTT.out; simpa [eqF] using this))
          go_wp2_with (first | (go_at_call 23; with_reducible refine (HC.out _ (below_2 _ _ _)).mono ?_; rintro e w1 ⟨rfl, hb1⟩))
          refine ⟨⟨n + 1, by omega, by simp, below_call (below_call hb1 (below_2 _ _ _)) HB.out, HT2⟩, by simp [intOf]; omega⟩
      · have e : n = a.length := by omega
        subst e
        have HE : Hid (eqFs a b = true) := Lib.hid (by
          have := HT.out
          rw [List.take_length, ← HL.out, List.take_length] at this
          simp [eqFs, this])
        go_wp2
        go_ret
        exact ⟨by rw [HE.out]; rfl, HB.out⟩
  · have e : eqFs a b = false := by
      unfold eqFs; rw [decide_eq_false_iff_not]; rintro rfl; exact hl rfl
    have HE := Lib.hid e
    have hl' : ((a.length : Int) != (b.length : Int)) = true := by simp; omega
    clear hl e hla hlb
    go_enter Tryz.func22, Tryz.ntmps22
    go_wp2
    go_ret
    exact ⟨by rw [HE.out]; rfl, Below.refl _ _⟩

set_option maxHeartbeats 1000000 in
theorem efq_any (a b : List ReqD) (va vb : Value) (w : World) (ha : ReqsV w va a) (hb : ReqsV w vb b) :
    Calls Tryz.prog 25 #[va, vb, .func (.func 26) #[] #[]] w fun e w' => e = .returned (.bool (eqQs a b)) ∧ Below w.heap.size w w' := by
  obtain ⟨A, cap, rs1, rfl, hca, hma, hsa0, hla, hva⟩ := ha
  obtain ⟨B, cbp, rs2, rfl, hcb, hmb, hsb0, hlb, hvb⟩ := hb
  have HVA := Lib.hid hva
  have HVB := Lib.hid hvb
  have HSA := Lib.hid hsa0
  have HSB := Lib.hid hsb0
  clear hva hvb hsa0 hsb0
  by_cases hl : b.length = a.length
  · rw [hl]
    have HL := Lib.hid hl
    have HLA := Lib.hid hla
    have HLB := Lib.hid hlb
    clear hl hla hlb
    go_enter Tryz.func25, Tryz.ntmps25
    go_wp2
    go_loopw [17] (fun i wr => ∃ n : Nat, n ≤ a.length ∧ i = .int .i64 n ∧ Below w.heap.size w wr ∧ Hid (a.take n = b.take n)) (fun i _ => a.length - (intOf i).toNat)
    case atStart => exact ⟨0, Nat.zero_le _, rfl, Below.refl _ _, Lib.hid rfl⟩
    case round =>
      obtain ⟨n, hn, rfl, hbel, HT⟩ := hrel
      have HB := Lib.hid hbel
      clear hbel
      by_cases hlt : n < a.length
      · have hltb : n < b.length := by rw [HL.out]; exact hlt
        have hna : n < rs1.length := by rw [HLA.out]; exact hlt
        have hnb : n < rs2.length := by rw [HLB.out]; exact hltb
        have hlt' : (n : Int) < (a.length : Int) := by omega
        have hn0 : (0 : Int) ≤ (n : Int) := by omega
        have hsa := HSA.out.below HB.out
        have hsb := HSB.out.below HB.out
        obtain ⟨bA, off, rfl, _⟩ := hsa.ptr hna
        obtain ⟨bB, off', rfl, _⟩ := hsb.ptr hnb
        obtain ⟨la, hra, hla⟩ := HVA.out n hna hlt
        obtain ⟨lb, hrb, hlb⟩ := HVB.out n hnb hltb
        obtain ⟨A1, q1, k1, rfl⟩ := hla.shape
        obtain ⟨A3, q3, k3, rfl⟩ := hlb.shape
        obtain ⟨fa, hfa⟩ : ∃ x, a[n].op = x := ⟨_, rfl⟩
        obtain ⟨fb, hfb⟩ : ∃ x, b[n].op = x := ⟨_, rfl⟩
        have hxa : ReqV w (.agg #[.string fa, .slice A1 q1 k1]) a[n] := ⟨_, by rw [hfa], hla⟩
        have hxb : ReqV w (.agg #[.string fb, .slice A3 q3 k3]) b[n] := ⟨_, by rw [hfb], hlb⟩
        rw [hfa] at hra
        rw [hfb] at hrb
        clear hfa hfb hla hlb
        have c0 := hsa.cell0 hna (v := .string fa) (by rw [hra]; rfl)
        have c1 := hsa.cell hna (j := 1) (v := .slice A1 q1 k1) (by rw [hra]; rfl)
        have d0 := hsb.cell0 hnb (v := .string fb) (by rw [hrb]; rfl)
        have d1 := hsb.cell hnb (j := 1) (v := .slice A3 q3 k3) (by rw [hrb]; rfl)
        clear hra hrb hsa hsb
        obtain ⟨t, ht⟩ : ∃ t, eqQ a[n] b[n] = t := ⟨_, rfl⟩
        have HTT := Lib.hid ht
        have HC : Hid (∀ wx, Below wr.heap.size wr wx → Calls Tryz.prog 26 #[.agg #[.string fa, .slice A1 q1 k1], .agg #[.string fb, .slice A3 q3 k3]] wx fun e w' => e = .returned (.bool t) ∧ Below wx.heap.size wx w') := Lib.hid (fun wx hx => by
          have := same2_any a[n] b[n] _ _ wx ((hxa.below HB.out).below hx) ((hxb.below HB.out).below hx)
          rw [ht] at this; exact this)
        clear hxa hxb ht
        cases t
        · have HE : Hid (eqQs a b = false) := Lib.hid (by
            unfold eqQs; rw [decide_eq_false_iff_not]; rintro rfl
            have := HTT.out
            simp [eqQ] at this)
          go_wp2_with (first | (go_at_call 26; with_reducible refine (HC.out _ (below_2 _ _ _)).mono ?_; rintro e w1 ⟨rfl, hb1⟩))
          go_ret
          exact ⟨by rw [HE.out]; rfl, below_call (below_call hb1 (below_2 _ _ _)) HB.out⟩
        · have HT2 := Lib.hid (take_succ_eq hlt hltb HT.out (by have := HTT.out; simpa [eqQ] using this))
          go_wp2_with (first | (go_at_call 26; with_reducible refine (HC.out _ (below_2 _ _ _)).mono ?_; rintro e w1 ⟨rfl, hb1⟩))
          refine ⟨⟨n + 1, by omega, by simp, below_call (below_call hb1 (below_2 _ _ _)) HB.out, HT2⟩, by simp [intOf]; omega⟩
      · have e : n = a.length := by omega
        subst e
        have HE : Hid (eqQs a b = true) := Lib.hid (by
          have := HT.out
          rw [List.take_length, ← HL.out, List.take_length] at this
          simp [eqQs, this])
        go_wp2
        go_ret
        exact ⟨by rw [HE.out]; rfl, HB.out⟩
  · have e : eqQs a b = false := by
      unfold eqQs; rw [decide_eq_false_iff_not]; rintro rfl; exact hl rfl
    have HE := Lib.hid e
    have hl' : ((a.length : Int) != (b.length : Int)) = true := by simp; omega
    clear hl e hla hlb
    go_enter Tryz.func25, Tryz.ntmps25
    go_wp2
    go_ret
    exact ⟨by rw [HE.out]; rfl, Below.refl _ _⟩
end Go.Proofs.YtemakcaojdoakaaGreatDoor
