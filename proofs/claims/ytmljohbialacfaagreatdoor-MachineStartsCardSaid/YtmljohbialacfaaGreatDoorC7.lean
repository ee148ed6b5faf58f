/- Equality of outcomes and of machines as the reference decides it. -/
import Derived.Test.YtmljohbialacfaaGreatDoorGC6
set_option linter.unusedVariables false
set_option linter.unusedSimpArgs false
namespace Go.Proofs.YtmljohbialacfaaGreatDoor
open Go.RowKit
set_option maxRecDepth 100000

structure OutD where
 done : Bool
 err : Int
 value : ValD
 requests : List ReqD
def OutV (w : World) (v : Value) (o : OutD) : Prop := ∃ vv qv, v = .agg #[.bool o.done, .int .i64 o.err, vv, qv] ∧ ValV w vv o.value ∧ ReqsV w qv o.requests
theorem OutV.below {w w' : World} {v : Value} {m : OutD} (h : OutV w v m) (hb : Below w.heap.size w w') : OutV w' v m := by
 obtain ⟨vv, qv, rfl, h1, h3⟩ := h; exact ⟨vv, qv, rfl, h1.below hb, h3.below hb⟩

attribute [local go_sem] cell_alloc_is
set_option maxHeartbeats 2000000 in
/-- Two outcomes with the same parts are the same. -/
theorem osame_any (o : OutD) (va vb : Value) (w : World) (ha : OutV w va o) (hb : OutV w vb o) :
  Calls Tryz.prog 44 #[va, vb] w fun e w' => e = .returned (.bool true) ∧ Below w.heap.size w w' := by
 obtain ⟨va, qa, rfl, hva, hqa⟩ := ha
 obtain ⟨vb, qb, rfl, hvb, hqb⟩ := hb
 have HQ : Hid (∀ wx, Below w.heap.size w wx → Calls Tryz.prog 33 #[qa, qb] wx fun e w' => e = .returned (.bool true) ∧ ∃ q, w' = wx.drewN q) := Lib.hid (fun wx hx => by
  have := sreq_any _ _ _ _ wx (hqa.below hx) (hqb.below hx); rw [show eqQs o.requests o.requests = true by simp [eqQs]] at this; exact this)
 have HV : Hid (∀ wx, Below w.heap.size w wx → Calls Tryz.prog 21 #[va, vb] wx fun e w' => e = .returned (.bool true) ∧ ∃ q, w' = wx.drewN q) := Lib.hid (fun wx hx => by
  have := cells_any _ _ _ _ wx (hva.below hx) (hvb.below hx); rw [show eqV o.value o.value = true by simp [eqV]] at this; exact this)
 obtain ⟨A1, n1, k1, rfl⟩ := hva.shape
 obtain ⟨A2, n2, k2, rfl⟩ := hvb.shape
 obtain ⟨A5, n5, k5, rfl⟩ := hqa.shape
 obtain ⟨A6, n6, k6, rfl⟩ := hqb.shape
 clear hva hvb hqa hqb
 obtain ⟨d, er, _, _⟩ := o
 dsimp only
 cases d
 all_goals
  go_enter Tryz.func44, Tryz.ntmps44
  go_wp2_with (first
   | (go_at_call 21; with_reducible refine (HV.out _ (below_2 _ _ _)).mono ?_; rintro e w1 ⟨rfl, q1, rfl⟩)
   | (go_at_call 33; with_reducible refine (HQ.out _ (below_drewN (below_2 _ _ _) _)).mono ?_; rintro e w1 ⟨rfl, q2, rfl⟩))
  go_ret
  exact ⟨rfl, below_drewN (below_2 _ _ _) _⟩

set_option maxHeartbeats 4000000 in
theorem rsame_any (a b : MachD) (va vb : Value) (w : World) (ha : MachV w va a) (hb : MachV w vb b) :
  Calls Tryz.prog 12 #[va, vb] w fun e w' => e = .returned (.bool (eqM a b)) ∧ Below w.heap.size w w' := by
 obtain ⟨va, fa, qa, rfl, hva, hfa, hqa⟩ := ha
 obtain ⟨vb, fb, qb, rfl, hvb, hfb, hqb⟩ := hb
 obtain ⟨t2, ht2⟩ : ∃ t, eqQs a.requests b.requests = t := ⟨_, rfl⟩
 obtain ⟨t3, ht3⟩ : ∃ t, eqV a.value b.value = t := ⟨_, rfl⟩
 have HQ : Hid (∀ wx, Below w.heap.size w wx → Calls Tryz.prog 33 #[qa, qb] wx fun e w' => e = .returned (.bool t2) ∧ ∃ q, w' = wx.drewN q) := Lib.hid (fun wx hx => by
  have := sreq_any _ _ _ _ wx (hqa.below hx) (hqb.below hx); rw [ht2] at this; exact this)
 have HV : Hid (∀ wx, Below w.heap.size w wx → Calls Tryz.prog 21 #[va, vb] wx fun e w' => e = .returned (.bool t3) ∧ ∃ q, w' = wx.drewN q) := Lib.hid (fun wx hx => by
  have := cells_any _ _ _ _ wx (hva.below hx) (hvb.below hx); rw [ht3] at this; exact this)
 obtain ⟨A1, n1, k1, rfl⟩ := hva.shape
 obtain ⟨A2, n2, k2, rfl⟩ := hvb.shape
 obtain ⟨A5, n5, k5, rfl⟩ := hqa.shape
 obtain ⟨A6, n6, k6, rfl⟩ := hqb.shape
 obtain ⟨r, hr⟩ : ∃ r, eqM a b = r := ⟨_, rfl⟩
 have HR : Hid ((eqFs a.frames b.frames && (t2 && (decide (a.status = b.status) && (decide (a.err = b.err) && (t3 && (decide (a.lsteps = b.lsteps ∧ a.lmem = b.lmem) && (decide (a.steps = b.steps) && decide (a.peak = b.peak)))))))) = r) := Lib.hid (by rw [← hr, ← ht2, ← ht3]; rfl)
 rw [hr]
 clear hva hvb hqa hqb ht2 ht3 hr
 obtain ⟨A3, k3, rs1, rfl, hca, hma, hsa0, hla, hva⟩ := hfa
 obtain ⟨A4, k4, rs2, rfl, hcb, hmb, hsb0, hlb, hvb⟩ := hfb
 obtain ⟨sa, ea, _, xa, _, la, ma, pa, ka⟩ := a
 obtain ⟨sb, eb, _, xb, _, lb, mb, pb, kb⟩ := b
 dsimp only at HR hca hma hla hva hcb hmb hlb hvb ⊢
 have HVA := Lib.hid hva
 have HVB := Lib.hid hvb
 have HSA := Lib.hid hsa0
 have HSB := Lib.hid hsb0
 clear hva hvb hsa0 hsb0
 by_cases hsa : sa = sb
 ·subst hsa
  by_cases hea : ea = eb
  ·subst hea
   cases t3
   ·have e : r = false := by rw [← HR.out]; simp
    subst e
    go_enter Tryz.func12, Tryz.ntmps12
    go_wp2_with (first
     | (go_at_call 21; with_reducible refine (HV.out _ (below_2 _ _ _)).mono ?_; rintro e w3 ⟨rfl, q, rfl⟩)
     | (go_at_call 33; with_reducible refine (HQ.out _ (below_drewN (below_2 _ _ _) _)).mono ?_; rintro e w3 ⟨rfl, q2, rfl⟩))
    go_ret
    exact ⟨rfl, below_drewN (below_2 _ _ _) _⟩
   ·cases t2
    ·have e : r = false := by rw [← HR.out]; simp
     subst e
     go_enter Tryz.func12, Tryz.ntmps12
     go_wp2_with (first
      | (go_at_call 21; with_reducible refine (HV.out _ (below_2 _ _ _)).mono ?_; rintro e w3 ⟨rfl, q, rfl⟩)
      | (go_at_call 33; with_reducible refine (HQ.out _ (below_drewN (below_2 _ _ _) _)).mono ?_; rintro e w3 ⟨rfl, q2, rfl⟩))
     go_ret
     exact ⟨rfl, below_drewN (below_2 _ _ _) _⟩
    ·by_cases hla : la = lb
     ·subst hla
      by_cases hma : ma = mb
      ·subst hma
       by_cases hpa : pa = pb
       ·subst hpa
        by_cases hka : ka = kb
        ·subst hka
         by_cases hl : xb.length = xa.length
         ·rw [hl]
          have HL := Lib.hid hl
          have HLA := Lib.hid hla
          have HLB := Lib.hid hlb
          clear hl hla hlb
          have HR2 : Hid (eqFs xa xb = r) := Lib.hid (by rw [← HR.out]; simp)
          go_enter Tryz.func12, Tryz.ntmps12
          go_wp2_with (first
           | (go_at_call 21; with_reducible refine (HV.out _ (below_2 _ _ _)).mono ?_; rintro e w3 ⟨rfl, q, rfl⟩)
           | (go_at_call 33; with_reducible refine (HQ.out _ (below_drewN (below_2 _ _ _) _)).mono ?_; rintro e w3 ⟨rfl, q2, rfl⟩))
          go_loopw [69] (fun i wr => ∃ n : Nat, n ≤ xa.length ∧ i = .int .i64 n ∧ Below w.heap.size w wr ∧ Blk wr w.heap.size 37 #[.int .i64 sa, .int .i64 ea, .slice A1 n1 k1, .slice A3 xa.length k3, .slice A5 n5 k5, .int .i64 la, .int .i64 ma, .int .i64 pa, .int .i64 ka] ∧ Blk wr (w.heap.size + 1) 37 #[.int .i64 sa, .int .i64 ea, .slice A2 n2 k2, .slice A4 xa.length k4, .slice A6 n6 k6, .int .i64 la, .int .i64 ma, .int .i64 pa, .int .i64 ka] ∧ Hid (xa.take n = xb.take n)) (fun i _ => xa.length - (intOf i).toNat)
          case atStart => exact ⟨0, Nat.zero_le _, rfl, below_drewN (below_2 _ _ _) _, ((Blk.new w _ _).alloc _).drewN _, (Blk.second w _ _ _).drewN _, Lib.hid rfl⟩
          case round =>
           obtain ⟨n, hn, rfl, hbel, hxa, hxb, HT⟩ := hrel
           have HB := Lib.hid hbel
           have HBA := Lib.hid hxa
           have HBB := Lib.hid hxb
           clear hbel hxa hxb
           by_cases hlt : n < xa.length
           ·have hltb : n < xb.length := by rw [HL.out]; exact hlt
            have hna : n < rs1.length := by rw [HLA.out]; exact hlt
            have hnb : n < rs2.length := by rw [HLB.out]; exact hltb
            have hlt' : (n : Int) < (xa.length : Int) := by omega
            have hn0 : (0 : Int) ≤ (n : Int) := by omega
            have hsa := HSA.out.below HB.out
            have hsb := HSB.out.below HB.out
            obtain ⟨bA, off, rfl, _⟩ := hsa.ptr hna
            obtain ⟨bB, off', rfl, _⟩ := hsb.ptr hnb
            obtain ⟨lva, sva, hra, hla, hssa⟩ := HVA.out n hna hlt
            obtain ⟨lvb, svb, hrb, hlb, hssb⟩ := HVB.out n hnb hltb
            obtain ⟨B1, z1, y1, rfl⟩ := hla.shape
            obtain ⟨B2, z2, y2, rfl⟩ := hssa.shape
            obtain ⟨B3, z3, y3, rfl⟩ := hlb.shape
            obtain ⟨B4, z4, y4, rfl⟩ := hssb.shape
            obtain ⟨f1, hf1⟩ : ∃ x, xa[n].func = x := ⟨_, rfl⟩
            obtain ⟨c1, hc1⟩ : ∃ x, xa[n].pc = x := ⟨_, rfl⟩
            obtain ⟨f2, hf2⟩ : ∃ x, xb[n].func = x := ⟨_, rfl⟩
            obtain ⟨c2, hc2⟩ : ∃ x, xb[n].pc = x := ⟨_, rfl⟩
            rw [hf1, hc1] at hra
            rw [hf2, hc2] at hrb
            have g0 := hsa.cell0 hna (v := .int .i64 f1) (by rw [hra]; rfl)
            have g1 := hsa.cell hna (j := 1) (v := .int .i64 c1) (by rw [hra]; rfl)
            have g2 := hsa.cell hna (j := 2) (v := .slice B1 z1 y1) (by rw [hra]; rfl)
            have g3 := hsa.cell hna (j := 3) (v := .slice B2 z2 y2) (by rw [hra]; rfl)
            have j0 := hsb.cell0 hnb (v := .int .i64 f2) (by rw [hrb]; rfl)
            have j1 := hsb.cell hnb (j := 1) (v := .int .i64 c2) (by rw [hrb]; rfl)
            have j2 := hsb.cell hnb (j := 2) (v := .slice B3 z3 y3) (by rw [hrb]; rfl)
            have j3 := hsb.cell hnb (j := 3) (v := .slice B4 z4 y4) (by rw [hrb]; rfl)
            obtain ⟨t4, ht4⟩ : ∃ t, eqVs xa[n].locals xb[n].locals = t := ⟨_, rfl⟩
            obtain ⟨t5, ht5⟩ : ∃ t, eqVs xa[n].stack xb[n].stack = t := ⟨_, rfl⟩
            have HC4 : Hid (∀ wx, Below wr.heap.size wr wx → Calls Tryz.prog 34 #[.slice B1 z1 y1, .slice B3 z3 y3] wx fun e w' => e = .returned (.bool t4) ∧ ∃ q, w' = wx.drewN q) := Lib.hid (fun wx hx => by
             have := values_any _ _ _ _ wx ((hla.below HB.out).below hx) ((hlb.below HB.out).below hx); rw [ht4] at this; exact this)
            have HC5 : Hid (∀ wx, Below wr.heap.size wr wx → Calls Tryz.prog 34 #[.slice B2 z2 y2, .slice B4 z4 y4] wx fun e w' => e = .returned (.bool t5) ∧ ∃ q, w' = wx.drewN q) := Lib.hid (fun wx hx => by
             have := values_any _ _ _ _ wx ((hssa.below HB.out).below hx) ((hssb.below HB.out).below hx); rw [ht5] at this; exact this)
            have HF1 := Lib.hid hf1
            have HF2 := Lib.hid hf2
            have HP1 := Lib.hid hc1
            have HP2 := Lib.hid hc2
            have HT4 := Lib.hid ht4
            have HT5 := Lib.hid ht5
            have u3 := HBA.out.cell 3 (.slice (some ⟨bA, off, none⟩) xa.length k3) rfl
            have v3 := HBB.out.cell 3 (.slice (some ⟨bB, off', none⟩) xa.length k4) rfl
            clear hsa hsb hra hrb hla hlb hssa hssb hf1 hf2 hc1 hc2 ht4 ht5
            go_upto_region 6 with fail
            go_cut [6, 7] from 72 to 81 (fun u v wx => TwoBlk wr 74 #[.int .i64 f1, .int .i64 c1, .slice B1 z1 y1, .slice B2 z2 y2] #[.int .i64 f2, .int .i64 c2, .slice B3 z3 y3, .slice B4 z4 y4] u v wx)
            case first =>
             go_region_held3 (fun w' => w'.cell? ⟨w.heap.size, 3, none⟩ = some (.slice (some ⟨bA, off, none⟩) xa.length k3) ∧ w'.cell? ⟨w.heap.size + 1, 3, none⟩ = some (.slice (some ⟨bB, off', none⟩) xa.length k4) ∧ w'.cell? ⟨bA, off + n * 4, none⟩ = some (.int .i64 f1) ∧ w'.cell? ⟨bA, off + n * 4 + 1, none⟩ = some (.int .i64 c1) ∧ w'.cell? ⟨bA, off + n * 4 + 2, none⟩ = some (.slice B1 z1 y1) ∧ w'.cell? ⟨bA, off + n * 4 + 3, none⟩ = some (.slice B2 z2 y2) ∧ w'.cell? ⟨bB, off' + n * 4, none⟩ = some (.int .i64 f2) ∧ w'.cell? ⟨bB, off' + n * 4 + 1, none⟩ = some (.int .i64 c2) ∧ w'.cell? ⟨bB, off' + n * 4 + 2, none⟩ = some (.slice B3 z3 y3) ∧ w'.cell? ⟨bB, off' + n * 4 + 3, none⟩ = some (.slice B4 z4 y4)) (first | assumption | go_keep) (fail)
             all_goals (go_wp2_with fail; go_meet; first | exact twoBlk_12 _ _ _ _ | exact twoBlk_21 _ _ _ _)
            case rest =>
             obtain ⟨p1, p2, rfl, rfl, hb1, hb2, hbw⟩ := hcut
             have HBW := Lib.hid hbw
             have HG1 := Lib.hid hb1
             have HG2 := Lib.hid hb2
             have HKA := Lib.hid (HBA.out.below hbw)
             have HKB := Lib.hid (HBB.out.below hbw)
             clear g0 g1 g2 g3 j0 j1 j2 j3 u3 v3 hb1 hb2 hbw
             have s1 := blk4 HG1.out
             have s2 := blk4 HG2.out
             by_cases h1 : f1 = f2
             ·subst h1
              by_cases h2 : c1 = c2
              ·subst h2
               cases t4
               ·have e : r = false := by
                 rw [← HR2.out, eqFs, decide_eq_false_iff_not]; rintro rfl
                 have := HT4.out; simp [eqVs] at this
                subst e
                go_wp2_with (first
                 | (go_at_call 34; with_reducible refine (HC4.out _ HBW.out).mono ?_; rintro e w3 ⟨rfl, p1, rfl⟩)
                 | (go_at_call 34; with_reducible refine (HC5.out _ (below_drewN HBW.out _)).mono ?_; rintro e w3 ⟨rfl, p2, rfl⟩))
                go_ret
                exact ⟨rfl, below_drewN (below_call' HBW.out HB.out HB.out.size) _⟩
               ·cases t5
                ·have e : r = false := by
                  rw [← HR2.out, eqFs, decide_eq_false_iff_not]; rintro rfl
                  have := HT5.out; simp [eqVs] at this
                 subst e
                 go_wp2_with (first
                  | (go_at_call 34; with_reducible refine (HC4.out _ HBW.out).mono ?_; rintro e w3 ⟨rfl, p1, rfl⟩)
                  | (go_at_call 34; with_reducible refine (HC5.out _ (below_drewN HBW.out _)).mono ?_; rintro e w3 ⟨rfl, p2, rfl⟩))
                 go_ret
                 exact ⟨rfl, below_drewN (below_call' HBW.out HB.out HB.out.size) _⟩
                ·have HT2 := Lib.hid (take_succ_eq hlt hltb HT.out (by
                  have h1 := HF1.out.trans HF2.out.symm
                  have h2 := HP1.out.trans HP2.out.symm
                  have h3 := HT4.out
                  have h4 := HT5.out
                  simp only [eqVs, decide_eq_true_eq] at h3 h4
                  generalize xa[n] = m1 at h1 h2 h3 h4 ⊢
                  generalize xb[n] = m2 at h1 h2 h3 h4 ⊢
                  cases m1; cases m2; simp_all))
                 go_wp2_with (first
                  | (go_at_call 34; with_reducible refine (HC4.out _ HBW.out).mono ?_; rintro e w3 ⟨rfl, p1, rfl⟩)
                  | (go_at_call 34; with_reducible refine (HC5.out _ (below_drewN HBW.out _)).mono ?_; rintro e w3 ⟨rfl, p2, rfl⟩))
                 refine ⟨⟨n + 1, by omega, by simp, below_drewN (below_call' HBW.out HB.out HB.out.size) _, HKA.out.drewN _, HKB.out.drewN _, HT2⟩, by simp [intOf]; omega⟩
              ·have h2' : (c1 == c2) = false := by simpa using h2
               have e : r = false := by
                rw [← HR2.out, eqFs, decide_eq_false_iff_not]; rintro rfl
                exact h2 (HP1.out.symm.trans HP2.out)
               subst e
               go_wp2_with (first
                | (go_at_call 34; with_reducible refine (HC4.out _ HBW.out).mono ?_; rintro e w3 ⟨rfl, p1, rfl⟩)
                | (go_at_call 34; with_reducible refine (HC5.out _ (below_drewN HBW.out _)).mono ?_; rintro e w3 ⟨rfl, p2, rfl⟩))
               go_ret
               exact ⟨rfl, below_call' HBW.out HB.out HB.out.size⟩
             ·have h1' : (f1 == f2) = false := by simpa using h1
              have e : r = false := by
               rw [← HR2.out, eqFs, decide_eq_false_iff_not]; rintro rfl
               exact h1 (HF1.out.symm.trans HF2.out)
              subst e
              go_wp2_with (first
               | (go_at_call 34; with_reducible refine (HC4.out _ HBW.out).mono ?_; rintro e w3 ⟨rfl, p1, rfl⟩)
               | (go_at_call 34; with_reducible refine (HC5.out _ (below_drewN HBW.out _)).mono ?_; rintro e w3 ⟨rfl, p2, rfl⟩))
              go_ret
              exact ⟨rfl, below_call' HBW.out HB.out HB.out.size⟩
           ·have e : n = xa.length := by omega
            subst e
            have e : r = true := by
             have := HT.out
             rw [List.take_length, ← HL.out, List.take_length] at this
             rw [← HR2.out, this]; simp [eqFs]
            subst e
            go_wp2
            go_ret
            exact ⟨rfl, HB.out⟩
         ·have hl' : ((xa.length : Int) != (xb.length : Int)) = true := by simp; omega
          have e : r = false := by rw [← HR.out]; rw [show eqFs xa xb = false by unfold eqFs; rw [decide_eq_false_iff_not]; rintro rfl; exact hl rfl]; simp
          clear hl
          subst e
          go_enter Tryz.func12, Tryz.ntmps12
          go_wp2_with (first
           | (go_at_call 21; with_reducible refine (HV.out _ (below_2 _ _ _)).mono ?_; rintro e w3 ⟨rfl, q, rfl⟩)
           | (go_at_call 33; with_reducible refine (HQ.out _ (below_drewN (below_2 _ _ _) _)).mono ?_; rintro e w3 ⟨rfl, q2, rfl⟩))
          go_ret
          exact ⟨rfl, below_drewN (below_2 _ _ _) _⟩
        ·have hka' : (ka == kb) = false := by simpa using hka
         have e : r = false := by rw [← HR.out]; simp [hka]
         subst e
         go_enter Tryz.func12, Tryz.ntmps12
         go_wp2_with (first
          | (go_at_call 21; with_reducible refine (HV.out _ (below_2 _ _ _)).mono ?_; rintro e w3 ⟨rfl, q, rfl⟩)
          | (go_at_call 33; with_reducible refine (HQ.out _ (below_drewN (below_2 _ _ _) _)).mono ?_; rintro e w3 ⟨rfl, q2, rfl⟩))
         go_ret
         exact ⟨rfl, below_drewN (below_2 _ _ _) _⟩
       ·have hpa' : (pa == pb) = false := by simpa using hpa
        have e : r = false := by rw [← HR.out]; simp [hpa]
        subst e
        go_enter Tryz.func12, Tryz.ntmps12
        go_wp2_with (first
         | (go_at_call 21; with_reducible refine (HV.out _ (below_2 _ _ _)).mono ?_; rintro e w3 ⟨rfl, q, rfl⟩)
         | (go_at_call 33; with_reducible refine (HQ.out _ (below_drewN (below_2 _ _ _) _)).mono ?_; rintro e w3 ⟨rfl, q2, rfl⟩))
        go_ret
        exact ⟨rfl, below_drewN (below_2 _ _ _) _⟩
      ·have hma' : (ma == mb) = false := by simpa using hma
       have e : r = false := by rw [← HR.out]; simp [hma]
       subst e
       go_enter Tryz.func12, Tryz.ntmps12
       go_wp2_with (first
        | (go_at_call 21; with_reducible refine (HV.out _ (below_2 _ _ _)).mono ?_; rintro e w3 ⟨rfl, q, rfl⟩)
        | (go_at_call 33; with_reducible refine (HQ.out _ (below_drewN (below_2 _ _ _) _)).mono ?_; rintro e w3 ⟨rfl, q2, rfl⟩))
       go_ret
       exact ⟨rfl, below_drewN (below_2 _ _ _) _⟩
     ·have hla' : (la == lb) = false := by simpa using hla
      have e : r = false := by rw [← HR.out]; simp [hla]
      subst e
      go_enter Tryz.func12, Tryz.ntmps12
      go_wp2_with (first
       | (go_at_call 21; with_reducible refine (HV.out _ (below_2 _ _ _)).mono ?_; rintro e w3 ⟨rfl, q, rfl⟩)
       | (go_at_call 33; with_reducible refine (HQ.out _ (below_drewN (below_2 _ _ _) _)).mono ?_; rintro e w3 ⟨rfl, q2, rfl⟩))
      go_ret
      exact ⟨rfl, below_drewN (below_2 _ _ _) _⟩
  ·have hea' : (ea == eb) = false := by simpa using hea
   have e : r = false := by rw [← HR.out]; simp [hea]
   subst e
   go_enter Tryz.func12, Tryz.ntmps12
   go_wp2_with (first
    | (go_at_call 21; with_reducible refine (HV.out _ (below_2 _ _ _)).mono ?_; rintro e w3 ⟨rfl, q, rfl⟩)
    | (go_at_call 33; with_reducible refine (HQ.out _ (below_drewN (below_2 _ _ _) _)).mono ?_; rintro e w3 ⟨rfl, q2, rfl⟩))
   go_ret
   exact ⟨rfl, below_2 _ _ _⟩
 ·have hsa' : (sa == sb) = false := by simpa using hsa
  have e : r = false := by rw [← HR.out]; simp [hsa]
  subst e
  go_enter Tryz.func12, Tryz.ntmps12
  go_wp2_with (first
   | (go_at_call 21; with_reducible refine (HV.out _ (below_2 _ _ _)).mono ?_; rintro e w3 ⟨rfl, q, rfl⟩)
   | (go_at_call 33; with_reducible refine (HQ.out _ (below_drewN (below_2 _ _ _) _)).mono ?_; rintro e w3 ⟨rfl, q2, rfl⟩))
  go_ret
  exact ⟨rfl, below_2 _ _ _⟩
end Go.Proofs.YtmljohbialacfaaGreatDoor
