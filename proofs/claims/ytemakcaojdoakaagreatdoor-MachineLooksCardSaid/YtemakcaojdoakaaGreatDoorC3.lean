/- Equality of frames, requests, as the program's closures decide it. -/
import Derived.Test.YtemakcaojdoakaaGreatDoorC2
namespace Go.Proofs.YtemakcaojdoakaaGreatDoor
open Go.RowKit
set_option maxRecDepth 100000

def eqF (a b : FrameD) : Bool := decide (a = b)
def eqQ (a b : ReqD) : Bool := decide (a = b)
/-- A frame as a value. -/
def FrameV (w : World) (v : Value) (f : FrameD) : Prop := ∃ lv sv, v = .agg #[.int .i64 f.func, .int .i64 f.pc, lv, sv] ∧ ValsV w lv f.locals ∧ ValsV w sv f.stack
def ReqV (w : World) (v : Value) (r : ReqD) : Prop := ∃ av, v = .agg #[.string r.op, av] ∧ ValsV w av r.args
theorem FrameV.below {w w' : World} {v : Value} {f : FrameD} (h : FrameV w v f) (hb : Below w.heap.size w w') : FrameV w' v f := by
  obtain ⟨lv, sv, rfl, h1, h2⟩ := h; exact ⟨lv, sv, rfl, h1.below hb, h2.below hb⟩
theorem ReqV.below {w w' : World} {v : Value} {f : ReqD} (h : ReqV w v f) (hb : Below w.heap.size w w') : ReqV w' v f := by
  obtain ⟨av, rfl, h1⟩ := h; exact ⟨av, rfl, h1.below hb⟩


attribute [local go_sem] cell_alloc_is
set_option maxHeartbeats 1000000 in
theorem same1_any (a b : FrameD) (va vb : Value) (w : World) (ha : FrameV w va a) (hb : FrameV w vb b) :
    Calls Tryz.prog 23 #[va, vb] w fun e w' => e = .returned (.bool (eqF a b)) ∧ Below w.heap.size w w' := by
  obtain ⟨la, sa, rfl, hla, hsa⟩ := ha
  obtain ⟨lb, sb, rfl, hlb, hsb⟩ := hb
  obtain ⟨t1, ht1⟩ : ∃ t, eqVs a.locals b.locals = t := ⟨_, rfl⟩
  obtain ⟨t2, ht2⟩ : ∃ t, eqVs a.stack b.stack = t := ⟨_, rfl⟩
  have HL : Hid (∀ wx, Below w.heap.size w wx → Calls Tryz.prog 24 #[la, lb] wx fun e w' => e = .returned (.bool t1) ∧ ∃ q, w' = wx.drewN q) := Lib.hid (fun wx hx => by
    have := malike_any _ _ _ _ wx (hla.below hx) (hlb.below hx); rw [ht1] at this; exact this)
  have HS : Hid (∀ wx, Below w.heap.size w wx → Calls Tryz.prog 24 #[sa, sb] wx fun e w' => e = .returned (.bool t2) ∧ ∃ q, w' = wx.drewN q) := Lib.hid (fun wx hx => by
    have := malike_any _ _ _ _ wx (hsa.below hx) (hsb.below hx); rw [ht2] at this; exact this)
  have HT1 := Lib.hid ht1
  have HT2 := Lib.hid ht2
  clear hla hlb hsa hsb ht1 ht2
  obtain ⟨r, hr⟩ : ∃ r, eqF a b = r := ⟨_, rfl⟩
  have HR := Lib.hid hr
  rw [hr]
  clear hr
  obtain ⟨fa, pa, lla, ssa⟩ := a
  obtain ⟨fb, pb, llb, ssb⟩ := b
  dsimp only
  by_cases h1 : fa = fb
  · subst h1
    by_cases h2 : pa = pb
    · subst h2
      cases t1
      · have e : r = false := by
          rw [← HR.out, eqF, decide_eq_false_iff_not]; intro h; have := HT1.out; simp [eqVs] at this; simp at h; exact this h.1
        subst e
        go_enter Tryz.func23, Tryz.ntmps23
        go_wp2_with (first | (go_at_call 24; with_reducible refine (HL.out _ (below_2 _ _ _)).mono ?_; rintro e w1 ⟨rfl, q, rfl⟩))
        go_ret
        exact ⟨rfl, below_drewN (below_2 _ _ _) _⟩
      · have e : r = t2 := by
          rw [← HR.out, ← HT2.out, eqF, eqVs]
          have := HT1.out
          simp [eqVs] at this
          simp [this]
        subst e
        cases r
        all_goals
          go_enter Tryz.func23, Tryz.ntmps23
          go_wp2_with (first
            | (go_at_call 24; with_reducible refine (HL.out _ (below_2 _ _ _)).mono ?_; rintro e w1 ⟨rfl, q, rfl⟩)
            | (go_at_call 24; with_reducible refine (HS.out _ (below_drewN (below_2 _ _ _) _)).mono ?_; rintro e w1 ⟨rfl, q2, rfl⟩))
          go_ret
          exact ⟨rfl, below_drewN (below_2 _ _ _) _⟩
    · have e : r = false := by
        rw [← HR.out, eqF, decide_eq_false_iff_not]; intro h; simp at h; exact h2 h.1
      subst e
      have h2' : (pa == pb) = false := by simpa using h2
      clear h2
      go_enter Tryz.func23, Tryz.ntmps23
      go_wp2
      go_ret
      exact ⟨rfl, below_2 _ _ _⟩
  · have e : r = false := by
      rw [← HR.out, eqF, decide_eq_false_iff_not]; intro h; simp at h; exact h1 h.1
    subst e
    have h1' : (fa == fb) = false := by simpa using h1
    clear h1
    go_enter Tryz.func23, Tryz.ntmps23
    go_wp2
    go_ret
    exact ⟨rfl, below_2 _ _ _⟩

set_option maxHeartbeats 1000000 in
theorem same2_any (a b : ReqD) (va vb : Value) (w : World) (ha : ReqV w va a) (hb : ReqV w vb b) :
    Calls Tryz.prog 26 #[va, vb] w fun e w' => e = .returned (.bool (eqQ a b)) ∧ Below w.heap.size w w' := by
  obtain ⟨la, rfl, hla⟩ := ha
  obtain ⟨lb, rfl, hlb⟩ := hb
  obtain ⟨t1, ht1⟩ : ∃ t, eqVs a.args b.args = t := ⟨_, rfl⟩
  have HL : Hid (∀ wx, Below w.heap.size w wx → Calls Tryz.prog 24 #[la, lb] wx fun e w' => e = .returned (.bool t1) ∧ ∃ q, w' = wx.drewN q) := Lib.hid (fun wx hx => by
    have := malike_any _ _ _ _ wx (hla.below hx) (hlb.below hx); rw [ht1] at this; exact this)
  have HT1 := Lib.hid ht1
  clear hla hlb ht1
  obtain ⟨r, hr⟩ : ∃ r, eqQ a b = r := ⟨_, rfl⟩
  have HR := Lib.hid hr
  rw [hr]
  clear hr
  obtain ⟨fa, lla⟩ := a
  obtain ⟨fb, llb⟩ := b
  dsimp only
  by_cases h1 : fa = fb
  · subst h1
    have e : r = t1 := by
      rw [← HR.out, ← HT1.out, eqQ, eqVs]
      simp
    subst e
    cases r
    all_goals
      go_enter Tryz.func26, Tryz.ntmps26
      go_wp2_with (first | (go_at_call 24; with_reducible refine (HL.out _ (below_2 _ _ _)).mono ?_; rintro e w1 ⟨rfl, q, rfl⟩))
      go_ret
      exact ⟨rfl, below_drewN (below_2 _ _ _) _⟩
  · have e : r = false := by
      rw [← HR.out, eqQ, decide_eq_false_iff_not]; intro h; simp at h; exact h1 h.1
    subst e
    have h1' : (fa.toList == fb.toList) = false := by rw [toList_beq]; simpa using h1
    clear h1
    go_enter Tryz.func26, Tryz.ntmps26
    go_wp2
    go_ret
    exact ⟨rfl, below_2 _ _ _⟩
end Go.Proofs.YtemakcaojdoakaaGreatDoor
