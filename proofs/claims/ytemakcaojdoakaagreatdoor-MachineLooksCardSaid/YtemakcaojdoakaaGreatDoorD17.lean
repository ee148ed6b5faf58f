/- The machines wake: what a step needs of memory. -/
import Derived.Test.YtemakcaojdoakaaGreatDoorD16
import Derived.BigRegion
namespace Go.Proofs.YtemakcaojdoakaaGreatDoor
open Go.RowKit
set_option maxRecDepth 100000

/-- A list of one value in a block whose first cell is known. -/
theorem valsOneBlk {w : World} {g k : Nat} {t : TypeId} {cl : Array Value} {v : Value} {l : ValD} (h : Blk w g t cl) (h0 : cl[0]? = some v) (hk : 1 ≤ k) (hv : ValV w v l) : ValsV w (.slice (some ⟨g, 0, none⟩) 1 k) [l] := by
  refine ⟨_, k, [[v]], rfl, by simpa using hk, by simp, ?_, rfl, fun i hi hi' => ?_⟩
  · intro i row hr
    have hi : i = 0 := by
      by_cases h0 : i = 0
      · exact h0
      · rw [List.getElem?_eq_none (by simp; omega)] at hr; cases hr
    subst hi
    simp at hr
    subst hr
    refine ⟨g, 0, rfl, lt_of_block h, fun j u hv => ?_⟩
    have hj : j = 0 := by
      cases j with
      | zero => rfl
      | succ j => simp at hv
    subst hj
    simp at hv
    subst hv
    simpa using h.cell 0 _ h0
  · have : i = 0 := by simp at hi; omega
    subst this
    exact ⟨v, rfl, hv⟩
/-- One frame in a block whose first cells are known. -/
theorem framesOneBlk {w : World} {g k : Nat} {cs : Array Value} {a b : Int} {lv sv : Value} {L S : List ValD} (h : Blk w g 37 cs) (h0 : cs[0]? = some (.int .i64 a)) (h1 : cs[1]? = some (.int .i64 b)) (h2 : cs[2]? = some lv) (h3 : cs[3]? = some sv) (hk : 1 ≤ k)
    (hl : ValsV w lv L) (hs : ValsV w sv S) : FramesV w (.slice (some ⟨g, 0, none⟩) 1 k) [⟨a, b, L, S⟩] := by
  refine ⟨_, k, [[.int .i64 a, .int .i64 b, lv, sv]], rfl, by simpa using hk, by simp, ?_, rfl, fun i hi hi' => ?_⟩
  · intro i row hr
    have hi : i = 0 := by
      by_cases h0 : i = 0
      · exact h0
      · rw [List.getElem?_eq_none (by simp; omega)] at hr; cases hr
    subst hi
    simp at hr
    subst hr
    refine ⟨g, 0, rfl, lt_of_block h, fun j u hv => ?_⟩
    have hc : cs[j]? = some u := by
      match j, hv with
      | 0, hv => simp at hv; subst hv; exact h0
      | 1, hv => simp at hv; subst hv; exact h1
      | 2, hv => simp at hv; subst hv; exact h2
      | 3, hv => simp at hv; subst hv; exact h3
      | j + 4, hv => simp at hv
    simpa using h.cell j _ hc
  · have : i = 0 := by simp at hi; omega
    subst this
    exact ⟨lv, sv, rfl, hl, hs⟩

/-- An executor at the law's code with one frame. -/
structure XSt (w : World) (base gF gI gE gR kR gL kL : Nat) (vv qv : Value) (ls lm sp pk pc : Int) (sv : Value) (A : Option Addr) (k : Nat) (cs cl : Array Value) : Prop where
  hE : Blk w gE 76 (exC gF gI 1 0 vv (.slice (some ⟨gR, 0, none⟩) 1 kR) qv ls lm sp pk)
  hC : CodeAt w gF gI
  hR : Blk w gR 37 cs
  c0 : cs[0]? = some (.int .i64 0)
  c1 : cs[1]? = some (.int .i64 pc)
  c2 : cs[2]? = some (.slice (some ⟨gL, 0, none⟩) 1 kL)
  c3 : cs[3]? = some sv
  hL : Blk w gL 24 cl
  l0 : cl[0]? = some (.slice A 1 k)
  hV : OVal w base (.slice A 1 k) [c7]
  kR1 : 1 ≤ kR
  kL1 : 1 ≤ kL
theorem CodeAt.kt {t : TypeId} {w w' : World} {gF gI : Nat} (h : CodeAt w gF gI) (k : KT t w w') (h1 : 41 ≠ t) (h2 : 46 ≠ t) : CodeAt w' gF gI := ⟨k.blk h1 h.1, k.blk h2 h.2⟩
theorem XSt.below {w w' : World} {base gF gI gE gR kR gL kL : Nat} {vv qv : Value} {ls lm sp pk pc : Int} {sv : Value} {A : Option Addr} {k : Nat} {cs cl : Array Value} (h : XSt w base gF gI gE gR kR gL kL vv qv ls lm sp pk pc sv A k cs cl) (hb : Below w.heap.size w w') : XSt w' base gF gI gE gR kR gL kL vv qv ls lm sp pk pc sv A k cs cl :=
  ⟨h.hE.below hb, h.hC.below hb, h.hR.below hb, h.c0, h.c1, h.c2, h.c3, h.hL.below hb, h.l0, h.hV.below hb, h.kR1, h.kL1⟩
/-- The steps are counted. -/
theorem XSt.setSp {w : World} {base gF gI gE gR kR gL kL : Nat} {vv qv : Value} {ls lm sp pk pc : Int} {sv : Value} {A : Option Addr} {k : Nat} {cs cl : Array Value} (h : XSt w base gF gI gE gR kR gL kL vv qv ls lm sp pk pc sv A k cs cl) (sp' : Int) : XSt (w.setCell ⟨gE, 9, none⟩ (.int .i64 sp')) base gF gI gE gR kR gL kL vv qv ls lm sp' pk pc sv A k cs cl :=
  have K := KT.set h.hE 9 (.int .i64 sp')
  ⟨h.hE.set_ 9 _, h.hC.kt K (by decide) (by decide), K.blk (by decide) h.hR, h.c0, h.c1, h.c2, h.c3, K.blk (by decide) h.hL, h.l0, K.oval (by decide) h.hV, h.kR1, h.kL1⟩
/-- The counter goes on. -/
theorem XSt.setPc {w : World} {base gF gI gE gR kR gL kL : Nat} {vv qv : Value} {ls lm sp pk pc : Int} {sv : Value} {A : Option Addr} {k : Nat} {cs cl : Array Value} (h : XSt w base gF gI gE gR kR gL kL vv qv ls lm sp pk pc sv A k cs cl) (pc' : Int) : XSt (w.setCell ⟨gR, 1, none⟩ (.int .i64 pc')) base gF gI gE gR kR gL kL vv qv ls lm sp pk pc' sv A k (cs.setIfInBounds 1 (.int .i64 pc')) cl :=
  have K := KT.set h.hR 1 (.int .i64 pc')
  have hz : 1 < cs.size := by
    have := h.c1
    exact (Array.getElem?_eq_some_iff.1 this).1
  ⟨K.blk (by decide) h.hE, h.hC.kt K (by decide) (by decide), h.hR.set_ 1 _, by rw [Array.getElem?_setIfInBounds_ne (by decide)]; exact h.c0, by rw [Array.getElem?_setIfInBounds_self_of_lt hz], by rw [Array.getElem?_setIfInBounds_ne (by decide)]; exact h.c2, by rw [Array.getElem?_setIfInBounds_ne (by decide)]; exact h.c3, K.blk (by decide) h.hL, h.l0, K.oval (by decide) h.hV, h.kR1, h.kL1⟩
theorem XSt.facts {w : World} {base gF gI gE gR kR gL kL : Nat} {vv qv : Value} {ls lm sp pk pc : Int} {sv : Value} {A : Option Addr} {k : Nat} {cs cl : Array Value} (h : XSt w base gF gI gE gR kR gL kL vv qv ls lm sp pk pc sv A k cs cl) :
    w.cell? ⟨gR, 1, none⟩ = some (.int .i64 pc) ∧ w.frozen? ⟨gR, 1, none⟩ = false ∧ w.frozen? ⟨gE, 9, none⟩ = false := ⟨h.hR.cell 1 _ h.c1, h.hR.frozen 1, h.hE.frozen 9⟩
/-- Only blocks of executors have turned. -/
theorem XSt.ktE {w w' : World} {base gF gI gE gR kR gL kL : Nat} {vv qv : Value} {ls lm sp pk pc : Int} {sv : Value} {A : Option Addr} {k : Nat} {cs cl : Array Value} (h : XSt w base gF gI gE gR kR gL kL vv qv ls lm sp pk pc sv A k cs cl) (K : KT 76 w w') {pk' : Int}
    (hE : Blk w' gE 76 (exC gF gI 1 0 vv (.slice (some ⟨gR, 0, none⟩) 1 kR) qv ls lm sp pk')) : XSt w' base gF gI gE gR kR gL kL vv qv ls lm sp pk' pc sv A k cs cl :=
  ⟨hE, h.hC.kt K (by decide) (by decide), K.blk (by decide) h.hR, h.c0, h.c1, h.c2, h.c3, K.blk (by decide) h.hL, h.l0, K.oval (by decide) h.hV, h.kR1, h.kL1⟩
/-- A value has been pushed. -/
theorem XSt.g2 {w w' : World} {base gF gI gE gR kR gL kL : Nat} {vv qv : Value} {ls lm sp pk pc : Int} {sv sv' : Value} {A : Option Addr} {k : Nat} {cs cl : Array Value} (h : XSt w base gF gI gE gR kR gL kL vv qv ls lm sp pk pc sv A k cs cl) (K : G2 w w' gR sv.ownBlock)
    (hsv : w.ownsRow base 24 1 sv 0 []) (hne : some gL ≠ sv.ownBlock) (hR : Blk w' gR 37 (cs.setIfInBounds 3 sv')) : XSt w' base gF gI gE gR kR gL kL vv qv ls lm sp pk pc sv' A k (cs.setIfInBounds 3 sv') cl :=
  have hz : 3 < cs.size := by
    have := h.c3
    exact (Array.getElem?_eq_some_iff.1 this).1
  ⟨K.blk h.hE (blk_ne h.hE h.hR (by decide)) (own_ne_blk hsv h.hE (by decide)), ⟨K.blk h.hC.1 (blk_ne h.hC.1 h.hR (by decide)) (own_ne_blk hsv h.hC.1 (by decide)), K.blk h.hC.2 (blk_ne h.hC.2 h.hR (by decide)) (own_ne_blk hsv h.hC.2 (by decide))⟩, hR,
   by rw [Array.getElem?_setIfInBounds_ne (by decide)]; exact h.c0, by rw [Array.getElem?_setIfInBounds_ne (by decide)]; exact h.c1, by rw [Array.getElem?_setIfInBounds_ne (by decide)]; exact h.c2, by rw [Array.getElem?_setIfInBounds_self_of_lt hz], K.blk h.hL (blk_ne h.hL h.hR (by decide)) hne, h.l0,
   K.own h.hV (fun e => own_ne_blk h.hV h.hR (by decide) e.symm) (fun g hg => own_apart h.hV hsv (by decide) hg), h.kR1, h.kL1⟩
theorem ownBlk1 {w : World} {base g k : Nat} {t : TypeId} {x : Value} (h : w.ownsRow base t 1 (.slice (some ⟨g, 0, none⟩) 1 k) 1 [x]) : ∃ cl, Blk w g t cl ∧ cl[0]? = some x ∧ 1 ≤ k := by
  rcases h.2 with ⟨_, h1⟩ | ⟨g', cap, cur, e, _, h2, h3, _, _, h5⟩
  · cases h1
  · injection e with e1 _ e3
    injection e1 with e1
    injection e1 with e1
    subst e1; subst e3
    refine ⟨cur, h2, ?_, h3⟩
    have : (cur.toList.take 1)[0]? = some x := by
      rw [show (1 : Nat) = 1 * 1 from rfl, h5]; rfl
    rw [List.getElem?_take] at this
    simpa using this
/-- The machine of an executor. -/
theorem XSt.frames {w : World} {base gF gI gE gR kR gL kL gS kS : Nat} {vv qv : Value} {ls lm sp pk pc : Int} {A : Option Addr} {k : Nat} {cs cl cl' : Array Value} (h : XSt w base gF gI gE gR kR gL kL vv qv ls lm sp pk pc (.slice (some ⟨gS, 0, none⟩) 1 kS) A k cs cl)
    (hS : Blk w gS 24 cl') (h0 : cl'[0]? = some (.slice A 1 k)) (hk : 1 ≤ kS) : FramesV w (.slice (some ⟨gR, 0, none⟩) 1 kR) [⟨0, pc, [[c7]], [[c7]]⟩] :=
  have hv : ValV w (.slice A 1 k) [c7] := h.hV.val (by simp)
  framesOneBlk h.hR h.c0 h.c1 h.c2 h.c3 h.kR1 (valsOneBlk h.hL h.l0 h.kL1 hv) (valsOneBlk hS h0 hk hv)
end Go.Proofs.YtemakcaojdoakaaGreatDoor
