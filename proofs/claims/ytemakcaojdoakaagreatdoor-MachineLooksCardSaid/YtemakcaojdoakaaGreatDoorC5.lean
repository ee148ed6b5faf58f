/- Equality of machines, as the program decides it. -/
import Derived.Test.YtemakcaojdoakaaGreatDoorC4
namespace Go.Proofs.YtemakcaojdoakaaGreatDoor
open Go.RowKit
set_option maxRecDepth 100000

/-- A machine as a value. -/
def MachV (w : World) (v : Value) (m : MachD) : Prop := ∃ vv fv qv, v = .agg #[.int .i64 m.status, .int .i64 m.err, vv, fv, qv, .int .i64 m.lsteps, .int .i64 m.lmem, .int .i64 m.steps, .int .i64 m.peak] ∧ ValV w vv m.value ∧ FramesV w fv m.frames ∧ ReqsV w qv m.requests
theorem MachV.below {w w' : World} {v : Value} {m : MachD} (h : MachV w v m) (hb : Below w.heap.size w w') : MachV w' v m := by
  obtain ⟨vv, fv, qv, rfl, h1, h2, h3⟩ := h; exact ⟨vv, fv, qv, rfl, h1.below hb, h2.below hb, h3.below hb⟩

def eqM (a b : MachD) : Bool := eqFs a.frames b.frames && (eqQs a.requests b.requests && (decide (a.status = b.status) && (decide (a.err = b.err) && (eqV a.value b.value && (decide (a.lsteps = b.lsteps ∧ a.lmem = b.lmem) && (decide (a.steps = b.steps) && decide (a.peak = b.peak)))))))
theorem eqV_comm (a b : ValD) : eqV a b = eqV b a := by simp [eqV, eq_comm]
theorem eqFs_comm (a b : List FrameD) : eqFs a b = eqFs b a := by simp [eqFs, eq_comm]
theorem eqQs_comm (a b : List ReqD) : eqQs a b = eqQs b a := by simp [eqQs, eq_comm]
theorem eqM_comm (a b : MachD) : eqM a b = eqM b a := by
  simp only [eqM, eqV_comm a.value, eqFs_comm a.frames, eqQs_comm a.requests, eq_comm]
theorem eqM_self (a : MachD) : eqM a a = true := by simp [eqM, eqV, eqFs, eqQs]

attribute [local go_sem] cell_alloc_is
set_option maxHeartbeats 4000000 in
theorem msame_any (a b : MachD) (va vb : Value) (w : World) (ha : MachV w va a) (hb : MachV w vb b) :
    Calls Tryz.prog 7 #[va, vb] w fun e w' => e = .returned (.bool (eqM a b)) ∧ Below w.heap.size w w' := by
  obtain ⟨va, fa, qa, rfl, hva, hfa, hqa⟩ := ha
  obtain ⟨vb, fb, qb, rfl, hvb, hfb, hqb⟩ := hb
  obtain ⟨t1, ht1⟩ : ∃ t, eqFs a.frames b.frames = t := ⟨_, rfl⟩
  obtain ⟨t2, ht2⟩ : ∃ t, eqQs a.requests b.requests = t := ⟨_, rfl⟩
  obtain ⟨t3, ht3⟩ : ∃ t, eqV a.value b.value = t := ⟨_, rfl⟩
  have HF : Hid (∀ wx, Below w.heap.size w wx → Calls Tryz.prog 22 #[fa, fb, .func (.func 23) #[] #[]] wx fun e w' => e = .returned (.bool t1) ∧ Below wx.heap.size wx w') := Lib.hid (fun wx hx => by
    have := eff_any _ _ _ _ wx (hfa.below hx) (hfb.below hx); rw [ht1] at this; exact this)
  have HQ : Hid (∀ wx, Below w.heap.size w wx → Calls Tryz.prog 25 #[qa, qb, .func (.func 26) #[] #[]] wx fun e w' => e = .returned (.bool t2) ∧ Below wx.heap.size wx w') := Lib.hid (fun wx hx => by
    have := efq_any _ _ _ _ wx (hqa.below hx) (hqb.below hx); rw [ht2] at this; exact this)
  have HV : Hid (∀ wx, Below w.heap.size w wx → Calls Tryz.prog 27 #[va, vb] wx fun e w' => e = .returned (.bool t3) ∧ ∃ q, w' = wx.drewN q) := Lib.hid (fun wx hx => by
    have := vsame_any _ _ _ _ wx (hva.below hx) (hvb.below hx); rw [ht3] at this; exact this)
  obtain ⟨A1, n1, k1, rfl⟩ := hva.shape
  obtain ⟨A2, n2, k2, rfl⟩ := hvb.shape
  obtain ⟨A3, n3, k3, rfl⟩ := hfa.shape
  obtain ⟨A4, n4, k4, rfl⟩ := hfb.shape
  obtain ⟨A5, n5, k5, rfl⟩ := hqa.shape
  obtain ⟨A6, n6, k6, rfl⟩ := hqb.shape
  obtain ⟨r, hr⟩ : ∃ r, eqM a b = r := ⟨_, rfl⟩
  have HR : Hid ((t1 && (t2 && (decide (a.status = b.status) && (decide (a.err = b.err) && (t3 && (decide (a.lsteps = b.lsteps ∧ a.lmem = b.lmem) && (decide (a.steps = b.steps) && decide (a.peak = b.peak)))))))) = r) := Lib.hid (by rw [← hr, ← ht1, ← ht2, ← ht3]; rfl)
  rw [hr]
  clear hva hvb hfa hfb hqa hqb ht1 ht2 ht3 hr
  obtain ⟨sa, ea, _, _, _, la, ma, pa, ka⟩ := a
  obtain ⟨sb, eb, _, _, _, lb, mb, pb, kb⟩ := b
  dsimp only at HR ⊢
  go_enter Tryz.func7, Tryz.ntmps7
  go_wp2_with (fail)
  with_reducible refine (HF.out _ (below_2 _ _ _)).mono ?_
  rintro e w1 ⟨rfl, hb1⟩
  have HXa := Lib.hid (((Blk.new w 30 #[.int .i64 sa, .int .i64 ea, .slice A1 n1 k1, .slice A3 n3 k3, .slice A5 n5 k5, .int .i64 la, .int .i64 ma, .int .i64 pa, .int .i64 ka]).alloc (.cells #[.int .i64 sb, .int .i64 eb, .slice A2 n2 k2, .slice A4 n4 k4, .slice A6 n6 k6, .int .i64 lb, .int .i64 mb, .int .i64 pb, .int .i64 kb] 30)).below hb1)
  have HXb := Lib.hid ((Blk.second w (.cells #[.int .i64 sa, .int .i64 ea, .slice A1 n1 k1, .slice A3 n3 k3, .slice A5 n5 k5, .int .i64 la, .int .i64 ma, .int .i64 pa, .int .i64 ka] 30) 30 #[.int .i64 sb, .int .i64 eb, .slice A2 n2 k2, .slice A4 n4 k4, .slice A6 n6 k6, .int .i64 lb, .int .i64 mb, .int .i64 pb, .int .i64 kb]).below hb1)
  have HB1 := Lib.hid (below_call hb1 (below_2 _ _ _))
  clear hb1
  have ca := blk9 HXa.out
  have cb := blk9 HXb.out
  go_wp2_with (fail)
  with_reducible refine (HQ.out _ HB1.out).mono ?_
  rintro e w2 ⟨rfl, hb2⟩
  clear ca cb
  have HYa := Lib.hid (HXa.out.below hb2)
  have HYb := Lib.hid (HXb.out.below hb2)
  have HB2 := Lib.hid (below_call hb2 HB1.out)
  clear hb2
  have ca := blk9 HYa.out
  have cb := blk9 HYb.out
  cases t1
  · have e : r = false := by rw [← HR.out]; simp [Bool.false_and]
    subst e
    go_wp2_with (first | (go_at_call 27; with_reducible refine (HV.out _ HB2.out).mono ?_; rintro e w3 ⟨rfl, q, rfl⟩))
    go_ret
    exact ⟨rfl, HB2.out⟩
  · cases t2
    · have e : r = false := by rw [← HR.out]; simp [Bool.false_and]
      subst e
      go_wp2_with (first | (go_at_call 27; with_reducible refine (HV.out _ HB2.out).mono ?_; rintro e w3 ⟨rfl, q, rfl⟩))
      go_ret
      exact ⟨rfl, HB2.out⟩
    · by_cases hsa : sa = sb
      · subst hsa
        by_cases hea : ea = eb
        · subst hea
          cases t3
          · have e : r = false := by rw [← HR.out]; simp [Bool.false_and]
            subst e
            go_wp2_with (first | (go_at_call 27; with_reducible refine (HV.out _ HB2.out).mono ?_; rintro e w3 ⟨rfl, q, rfl⟩))
            go_ret
            exact ⟨rfl, below_drewN HB2.out _⟩
          · by_cases hla : la = lb
            · subst hla
              by_cases hma : ma = mb
              · subst hma
                by_cases hpa : pa = pb
                · subst hpa
                  by_cases hka : ka = kb
                  · subst hka
                    have e : r = true := by rw [← HR.out]; simp
                    subst e
                    go_wp2_with (first | (go_at_call 27; with_reducible refine (HV.out _ HB2.out).mono ?_; rintro e w3 ⟨rfl, q, rfl⟩))
                    go_ret
                    exact ⟨rfl, below_drewN HB2.out _⟩
                  · have hka' : (ka == kb) = false := by simpa using hka
                    have e : r = false := by rw [← HR.out]; simp [hka]
                    clear hka
                    subst e
                    go_wp2_with (first | (go_at_call 27; with_reducible refine (HV.out _ HB2.out).mono ?_; rintro e w3 ⟨rfl, q, rfl⟩))
                    go_ret
                    exact ⟨rfl, below_drewN HB2.out _⟩
                · have hpa' : (pa == pb) = false := by simpa using hpa
                  have e : r = false := by rw [← HR.out]; simp [hpa]
                  clear hpa
                  subst e
                  go_wp2_with (first | (go_at_call 27; with_reducible refine (HV.out _ HB2.out).mono ?_; rintro e w3 ⟨rfl, q, rfl⟩))
                  go_ret
                  exact ⟨rfl, below_drewN HB2.out _⟩
              · have hma' : (ma == mb) = false := by simpa using hma
                have e : r = false := by rw [← HR.out]; simp [hma]
                clear hma
                subst e
                go_wp2_with (first | (go_at_call 27; with_reducible refine (HV.out _ HB2.out).mono ?_; rintro e w3 ⟨rfl, q, rfl⟩))
                go_ret
                exact ⟨rfl, below_drewN HB2.out _⟩
            · have hla' : (la == lb) = false := by simpa using hla
              have e : r = false := by rw [← HR.out]; simp [hla]
              clear hla
              subst e
              go_wp2_with (first | (go_at_call 27; with_reducible refine (HV.out _ HB2.out).mono ?_; rintro e w3 ⟨rfl, q, rfl⟩))
              go_ret
              exact ⟨rfl, below_drewN HB2.out _⟩
        · have hea' : (ea == eb) = false := by simpa using hea
          have e : r = false := by rw [← HR.out]; simp [hea]
          clear hea
          subst e
          go_wp2_with (first | (go_at_call 27; with_reducible refine (HV.out _ HB2.out).mono ?_; rintro e w3 ⟨rfl, q, rfl⟩))
          go_ret
          exact ⟨rfl, HB2.out⟩
      · have hsa' : (sa == sb) = false := by simpa using hsa
        have e : r = false := by rw [← HR.out]; simp [hsa]
        clear hsa
        subst e
        go_wp2_with (first | (go_at_call 27; with_reducible refine (HV.out _ HB2.out).mono ?_; rintro e w3 ⟨rfl, q, rfl⟩))
        go_ret
        exact ⟨rfl, HB2.out⟩
end Go.Proofs.YtemakcaojdoakaaGreatDoor
