/- The machines wake: what a step needs of memory. The machines wake: a step that loads. -/
import Derived.Test.YtahcjgjigbedoaaGreatDoorGD16
import Derived.BigRegion
set_option linter.unusedVariables false
set_option linter.unusedSimpArgs false
namespace Go.Proofs.YtahcjgjigbedoaaGreatDoor
open Go.RowKit
set_option maxRecDepth 100000
variable {vd : ValD}

/-- A list of one value in a block whose first cell is known. -/
theorem valsOneBlk {w : World} {g k : Nat} {t : TypeId} {cl : Array Value} {v : Value} {l : ValD} (h : Blk w g t cl) (h0 : cl[0]? = some v) (hk : 1 ≤ k) (hv : ValV w v l) : ValsV w (.slice (some ⟨g, 0, none⟩) 1 k) [l] := by
 refine ⟨_, k, [[v]], rfl, by simpa using hk, by simp, ?_, rfl, fun i hi hi' => ?_⟩
 ·intro i row hr
  have hi : i = 0 := by
   by_cases h0 : i = 0
   ·exact h0
   ·rw [List.getElem?_eq_none (by simp; omega)] at hr; cases hr
  subst hi
  simp at hr
  subst hr
  refine ⟨g, 0, rfl, lt_of_block h, fun j u hv => ?_⟩
  have hj : j = 0 := by
   cases j with
   | zero => rfl
   | succ j => simp at hv
  subst hj
  simp at hv
  subst hv
  simpa using h.cell 0 _ h0
 ·have : i = 0 := by simp at hi; omega
  subst this
  exact ⟨v, rfl, hv⟩
/-- One frame in a block whose first cells are known. -/
theorem framesOneBlk {w : World} {g k : Nat} {cs : Array Value} {a b : Int} {lv sv : Value} {L S : List ValD} (h : Blk w g 108 cs) (h0 : cs[0]? = some (.int .i64 a)) (h1 : cs[1]? = some (.int .i64 b)) (h2 : cs[2]? = some lv) (h3 : cs[3]? = some sv) (hk : 1 ≤ k)
  (hl : ValsV w lv L) (hs : ValsV w sv S) : FramesV w (.slice (some ⟨g, 0, none⟩) 1 k) [⟨a, b, L, S⟩] := by
 refine ⟨_, k, [[.int .i64 a, .int .i64 b, lv, sv]], rfl, by simpa using hk, by simp, ?_, rfl, fun i hi hi' => ?_⟩
 ·intro i row hr
  have hi : i = 0 := by
   by_cases h0 : i = 0
   ·exact h0
   ·rw [List.getElem?_eq_none (by simp; omega)] at hr; cases hr
  subst hi
  simp at hr
  subst hr
  refine ⟨g, 0, rfl, lt_of_block h, fun j u hv => ?_⟩
  have hc : cs[j]? = some u := by
   match j, hv with
   | 0, hv => simp at hv; subst hv; exact h0
   | 1, hv => simp at hv; subst hv; exact h1
   | 2, hv => simp at hv; subst hv; exact h2
   | 3, hv => simp at hv; subst hv; exact h3
   | j + 4, hv => simp at hv
  simpa using h.cell j _ hc
 ·have : i = 0 := by simp at hi; omega
  subst this
  exact ⟨lv, sv, rfl, hl, hs⟩

/-- An executor at the law's code with one frame. -/
structure XSt (vd : ValD) (w : World) (base gF gI gE gR kR gL kL : Nat) (vv qv : Value) (ls lm sp pk pc : Int) (sv : Value) (A : Option Addr) (k : Nat) (cs cl : Array Value) : Prop where
 hE : Blk w gE 84 (exC gF gI 1 0 vv (.slice (some ⟨gR, 0, none⟩) 1 kR) qv ls lm sp pk)
 hC : CodeAt w gF gI
 hR : Blk w gR 108 cs
 c0 : cs[0]? = some (.int .i64 0)
 c1 : cs[1]? = some (.int .i64 pc)
 c2 : cs[2]? = some (.slice (some ⟨gL, 0, none⟩) 1 kL)
 c3 : cs[3]? = some sv
 hL : Blk w gL 22 cl
 l0 : cl[0]? = some (.slice A vd.length k)
 hV : OVal w base (.slice A vd.length k) vd
 kR1 : 1 ≤ kR
 kL1 : 1 ≤ kL
 hz : vd.length ≤ 200
theorem CodeAt.kt {t : TypeId} {w w' : World} {gF gI : Nat} (h : CodeAt w gF gI) (k : KT t w w') (h1 : 72 ≠ t) (h2 : 75 ≠ t) : CodeAt w' gF gI := ⟨k.blk h1 h.1, k.blk h2 h.2⟩
theorem XSt.below {w w' : World} {base gF gI gE gR kR gL kL : Nat} {vv qv : Value} {ls lm sp pk pc : Int} {sv : Value} {A : Option Addr} {k : Nat} {cs cl : Array Value} (h : XSt vd w base gF gI gE gR kR gL kL vv qv ls lm sp pk pc sv A k cs cl) (hb : Below w.heap.size w w') : XSt vd w' base gF gI gE gR kR gL kL vv qv ls lm sp pk pc sv A k cs cl :=
 ⟨h.hE.below hb, h.hC.below hb, h.hR.below hb, h.c0, h.c1, h.c2, h.c3, h.hL.below hb, h.l0, h.hV.below hb, h.kR1, h.kL1, h.hz⟩
/-- The steps are counted. -/
theorem XSt.setSp {w : World} {base gF gI gE gR kR gL kL : Nat} {vv qv : Value} {ls lm sp pk pc : Int} {sv : Value} {A : Option Addr} {k : Nat} {cs cl : Array Value} (h : XSt vd w base gF gI gE gR kR gL kL vv qv ls lm sp pk pc sv A k cs cl) (sp' : Int) : XSt vd (w.setCell ⟨gE, 9, none⟩ (.int .i64 sp')) base gF gI gE gR kR gL kL vv qv ls lm sp' pk pc sv A k cs cl :=
 have K := KT.set h.hE 9 (.int .i64 sp')
 ⟨h.hE.set_ 9 _, h.hC.kt K (by decide) (by decide), K.blk (by decide) h.hR, h.c0, h.c1, h.c2, h.c3, K.blk (by decide) h.hL, h.l0, K.oval (by decide) h.hV, h.kR1, h.kL1, h.hz⟩
/-- The counter goes on. -/
theorem XSt.setPc {w : World} {base gF gI gE gR kR gL kL : Nat} {vv qv : Value} {ls lm sp pk pc : Int} {sv : Value} {A : Option Addr} {k : Nat} {cs cl : Array Value} (h : XSt vd w base gF gI gE gR kR gL kL vv qv ls lm sp pk pc sv A k cs cl) (pc' : Int) : XSt vd (w.setCell ⟨gR, 1, none⟩ (.int .i64 pc')) base gF gI gE gR kR gL kL vv qv ls lm sp pk pc' sv A k (cs.setIfInBounds 1 (.int .i64 pc')) cl :=
 have K := KT.set h.hR 1 (.int .i64 pc')
 have hz : 1 < cs.size := by
  have := h.c1
  exact (Array.getElem?_eq_some_iff.1 this).1
 ⟨K.blk (by decide) h.hE, h.hC.kt K (by decide) (by decide), h.hR.set_ 1 _, by rw [Array.getElem?_setIfInBounds_ne (by decide)]; exact h.c0, by rw [Array.getElem?_setIfInBounds_self_of_lt hz], by rw [Array.getElem?_setIfInBounds_ne (by decide)]; exact h.c2, by rw [Array.getElem?_setIfInBounds_ne (by decide)]; exact h.c3, K.blk (by decide) h.hL, h.l0, K.oval (by decide) h.hV, h.kR1, h.kL1, h.hz⟩
theorem XSt.facts {w : World} {base gF gI gE gR kR gL kL : Nat} {vv qv : Value} {ls lm sp pk pc : Int} {sv : Value} {A : Option Addr} {k : Nat} {cs cl : Array Value} (h : XSt vd w base gF gI gE gR kR gL kL vv qv ls lm sp pk pc sv A k cs cl) :
  w.cell? ⟨gR, 1, none⟩ = some (.int .i64 pc) ∧ w.frozen? ⟨gR, 1, none⟩ = false ∧ w.frozen? ⟨gE, 9, none⟩ = false := ⟨h.hR.cell 1 _ h.c1, h.hR.frozen 1, h.hE.frozen 9⟩
/-- Only blocks of executors have turned. -/
theorem XSt.ktE {w w' : World} {base gF gI gE gR kR gL kL : Nat} {vv qv : Value} {ls lm sp pk pc : Int} {sv : Value} {A : Option Addr} {k : Nat} {cs cl : Array Value} (h : XSt vd w base gF gI gE gR kR gL kL vv qv ls lm sp pk pc sv A k cs cl) (K : KT 84 w w') {pk' : Int}
  (hE : Blk w' gE 84 (exC gF gI 1 0 vv (.slice (some ⟨gR, 0, none⟩) 1 kR) qv ls lm sp pk')) : XSt vd w' base gF gI gE gR kR gL kL vv qv ls lm sp pk' pc sv A k cs cl :=
 ⟨hE, h.hC.kt K (by decide) (by decide), K.blk (by decide) h.hR, h.c0, h.c1, h.c2, h.c3, K.blk (by decide) h.hL, h.l0, K.oval (by decide) h.hV, h.kR1, h.kL1, h.hz⟩
/-- A value has been pushed. -/
theorem XSt.g2 {w w' : World} {base gF gI gE gR kR gL kL : Nat} {vv qv : Value} {ls lm sp pk pc : Int} {sv sv' : Value} {A : Option Addr} {k : Nat} {cs cl : Array Value} (h : XSt vd w base gF gI gE gR kR gL kL vv qv ls lm sp pk pc sv A k cs cl) (K : G2 w w' gR sv.ownBlock)
  (hsv : w.ownsRow base 22 1 sv 0 []) (hne : some gL ≠ sv.ownBlock) (hR : Blk w' gR 108 (cs.setIfInBounds 3 sv')) : XSt vd w' base gF gI gE gR kR gL kL vv qv ls lm sp pk pc sv' A k (cs.setIfInBounds 3 sv') cl :=
 have hz : 3 < cs.size := by
  have := h.c3
  exact (Array.getElem?_eq_some_iff.1 this).1
 ⟨K.blk h.hE (blk_ne h.hE h.hR (by decide)) (own_ne_blk hsv h.hE (by decide)), ⟨K.blk h.hC.1 (blk_ne h.hC.1 h.hR (by decide)) (own_ne_blk hsv h.hC.1 (by decide)), K.blk h.hC.2 (blk_ne h.hC.2 h.hR (by decide)) (own_ne_blk hsv h.hC.2 (by decide))⟩, hR,
  by rw [Array.getElem?_setIfInBounds_ne (by decide)]; exact h.c0, by rw [Array.getElem?_setIfInBounds_ne (by decide)]; exact h.c1, by rw [Array.getElem?_setIfInBounds_ne (by decide)]; exact h.c2, by rw [Array.getElem?_setIfInBounds_self_of_lt hz], K.blk h.hL (blk_ne h.hL h.hR (by decide)) hne, h.l0,
  K.own h.hV (fun e => own_ne_blk h.hV h.hR (by decide) e.symm) (fun g hg => own_apart h.hV hsv (by decide) hg), h.kR1, h.kL1, h.hz⟩
theorem ownBlk1 {w : World} {base g k : Nat} {t : TypeId} {x : Value} (h : w.ownsRow base t 1 (.slice (some ⟨g, 0, none⟩) 1 k) 1 [x]) : ∃ cl, Blk w g t cl ∧ cl[0]? = some x ∧ 1 ≤ k := by
 rcases h.2 with ⟨_, h1⟩ | ⟨g', cap, cur, e, _, h2, h3, _, _, h5⟩
 ·cases h1
 ·injection e with e1 _ e3
  injection e1 with e1
  injection e1 with e1
  subst e1; subst e3
  refine ⟨cur, h2, ?_, h3⟩
  have : (cur.toList.take 1)[0]? = some x := by
   rw [show (1 : Nat) = 1 * 1 from rfl, h5]; rfl
  rw [List.getElem?_take] at this
  simpa using this
/-- The machine of an executor. -/
theorem XSt.frames {w : World} {base gF gI gE gR kR gL kL gS kS : Nat} {vv qv : Value} {ls lm sp pk pc : Int} {A : Option Addr} {k : Nat} {cs cl cl' : Array Value} (h : XSt vd w base gF gI gE gR kR gL kL vv qv ls lm sp pk pc (.slice (some ⟨gS, 0, none⟩) 1 kS) A k cs cl)
  (hS : Blk w gS 22 cl') (h0 : cl'[0]? = some (.slice A vd.length k)) (hk : 1 ≤ kS) : FramesV w (.slice (some ⟨gR, 0, none⟩) 1 kR) [⟨0, pc, [vd], [vd]⟩] :=
 have hv : ValV w (.slice A vd.length k) vd := h.hV.val (by have := h.hz; omega)
 framesOneBlk h.hR h.c0 h.c1 h.c2 h.c3 h.kR1 (valsOneBlk h.hL h.l0 h.kL1 hv) (valsOneBlk hS h0 hk hv)
end Go.Proofs.YtahcjgjigbedoaaGreatDoor
namespace Go.Proofs.YtahcjgjigbedoaaGreatDoor
open Go.RowKit
set_option maxRecDepth 100000
variable {vd : ValD}

attribute [local go_sem] cell_alloc_is
set_option maxHeartbeats 4000000 in
theorem step_load (base gF gI gE gR kR gL kL gT k1 k2 k k' : Nat) (lm pk : Int) (A1 A2 A A' : Option Addr) (cs cl : Array Value) (w : World) (h : XSt vd w base gF gI gE gR kR gL kL (.slice A1 0 k1) (.slice A2 0 k2) 10 lm 0 pk 0 (.slice A' 0 k') A k cs cl)
  (hsv : w.ownsRow base 22 1 (.slice A' 0 k') 0 []) (hne : some gL ≠ (Value.slice A' 0 k').ownBlock) (hT : Blk w gT 136 (actsN 20)) (hbE : base ≤ gE) (hbR : base ≤ gR) (hbw : base ≤ w.heap.size) (hlm : 2 * (vd.length : Int) ≤ lm) :
  Calls Tryz.prog 56 #[.pointer (some ⟨gE, 0, none⟩), .slice (some ⟨gT, 0, none⟩) 21 21] w fun e w' => e = .returned (.tuple #[]) ∧ ∃ gS kS cs' cl', XSt vd w' base gF gI gE gR kR gL kL (.slice A1 0 k1) (.slice A2 0 k2) 10 lm 1 (max pk (2 * (vd.length : Int))) 1 (.slice (some ⟨gS, 0, none⟩) 1 kS) A k cs' cl ∧
   Blk w' gS 22 cl' ∧ cl'[0]? = some (.slice A vd.length k) ∧ 1 ≤ kS ∧ Blk w' gT 136 (actsN 20) ∧ Below base w w' := by
 have HX := Lib.hid h
 have HT := Lib.hid hT
 have HV := Lib.hid hsv
 have e0 := blkE h.hE
 have i0 := h.hC.i0
 have p0 := h.hR.cell 1 _ h.c1
 clear h hT hsv
 go_enter Tryz.func56, Tryz.ntmps56
 go_upto_region 0 with fail
 go_quiet (fail)
 obtain ⟨W0, hW0⟩ : ∃ W0, w.drewN nq = W0 := ⟨_, rfl⟩
 rw [hW0]
 have HX0 : Hid (XSt vd W0 base gF gI gE gR kR gL kL (.slice A1 0 k1) (.slice A2 0 k2) 10 lm 0 pk 0 (.slice A' 0 k') A k cs cl) := Lib.hid (by rw [← hW0]; exact HX.out.below (below_drewN (Below.refl _ _) _))
 have HT0 : Hid (Blk W0 gT 136 (actsN 20)) := Lib.hid (by rw [← hW0]; exact HT.out)
 have HV0 : Hid (W0.ownsRow base 22 1 (.slice A' 0 k') 0 []) := Lib.hid (by rw [← hW0]; exact HV.out)
 have HB0 : Hid (Below base w W0) := Lib.hid (by rw [← hW0]; exact below_drewN (Below.refl _ _) _)
 clear hW0 e0 i0 p0 HX HT HV nq
 have e0 := blkE HX0.out.hE
 have i0 := HX0.out.hC.i0
 have p0 := HX0.out.hR.cell 1 _ HX0.out.c1
 go_upto_region 5 with (first
  | (go_at_call 90; with_reducible refine (frame_ok gF gI gE gR kR _ _ _ _ _ _ _ _ _ HX0.out.hE).mono ?_; rintro e W1 ⟨rfl, q, rfl⟩))
 go_quiet (fail)
 go_upto_region 7 with fail
 obtain ⟨W2, hW2⟩ : ∃ W2, (W0.drewN q).drewN nq = W2 := ⟨_, rfl⟩
 rw [hW2]
 have HX2 : Hid (XSt vd W2 base gF gI gE gR kR gL kL (.slice A1 0 k1) (.slice A2 0 k2) 10 lm 0 pk 0 (.slice A' 0 k') A k cs cl) := Lib.hid (by rw [← hW2, World.drewN_drewN]; exact HX0.out.below (below_drewN (Below.refl _ _) _))
 have HT2 : Hid (Blk W2 gT 136 (actsN 20)) := Lib.hid (by rw [← hW2]; exact HT0.out)
 have HV2 : Hid (W2.ownsRow base 22 1 (.slice A' 0 k') 0 []) := Lib.hid (by rw [← hW2]; exact HV0.out)
 have HB2 : Hid (Below base w W2) := Lib.hid (by rw [← hW2, World.drewN_drewN]; exact below_drewN HB0.out _)
 clear hW2 e0 i0 p0 HX0 HT0 HV0 HB0 nq
 have e2 := blkE HX2.out.hE
 have i2 := HX2.out.hC.i0
 have p2 := HX2.out.hR.cell 1 _ HX2.out.c1
 go_region
 obtain ⟨W3, hW3⟩ : ∃ W3, (W2.alloc (.cells #[.int .i64 5, .int .i64 0, .string ⟨#[]⟩, .slice none 0 0] 75)).drew = W3 := ⟨_, rfl⟩
 obtain ⟨gN, hgN⟩ : ∃ g, W2.heap.size = g := ⟨_, rfl⟩
 have hb3 : Below W2.heap.size W2 W3 := by rw [← hW3]; exact (below_new _ _).drew
 have HX3 := Lib.hid (HX2.out.below hb3)
 have HT3 := Lib.hid (HT2.out.below hb3)
 have HV3 := Lib.hid (own_below HV2.out hb3)
 have HB3 : Hid (Below base w W3) := Lib.hid (HB2.out.trans (hb3.mono (Nat.le_trans hbw HB2.out.size)))
 have HI3 : Hid (Blk W3 gN 75 #[.int .i64 5, .int .i64 0, .string ⟨#[]⟩, .slice none 0 0]) := Lib.hid (by rw [← hW3, ← hgN]; exact (Blk.new W2 _ _).drew)
 rw [hW3, hgN]
 clear hW3 hgN hb3 e2 i2 p2 HX2 HT2 HV2 HB2
 have e3 := blkE HX3.out.hE
 have q3 := HX3.out.facts
 go_upto_region 9 with fail
 have HX4 := Lib.hid (HX3.out.setSp 1)
 have K4 := KT.set HX3.out.hE 9 (.int .i64 1)
 have HT4 := Lib.hid (K4.blk (by decide) HT3.out)
 have HV4 := Lib.hid (K4.own (by decide) HV3.out)
 have HI4 := Lib.hid (K4.blk (by decide) HI3.out)
 have HB4 := Lib.hid (HB3.out.setCell (p := ⟨gE, 9, none⟩) hbE (.int .i64 1))
 obtain ⟨W4, hW4⟩ : ∃ W4, W3.setCell ⟨gE, 9, none⟩ (.int .i64 1) = W4 := ⟨_, rfl⟩
 rw [hW4] at HX4 HT4 HV4 HI4 HB4 ⊢
 clear hW4 K4 e3 q3 HX3 HT3 HV3 HI3 HB3
 have q4 := HX4.out.facts
 go_upto_region 10 with fail
 have HX5 := Lib.hid (HX4.out.setPc 1)
 have K5 := KT.set HX4.out.hR 1 (.int .i64 1)
 have HT5 := Lib.hid (K5.blk (by decide) HT4.out)
 have HV5 := Lib.hid (K5.own (by decide) HV4.out)
 have HI5 := Lib.hid (K5.blk (by decide) HI4.out)
 have HB5 := Lib.hid (HB4.out.setCell (p := ⟨gR, 1, none⟩) hbR (.int .i64 1))
 obtain ⟨W5, hW5⟩ : ∃ W5, W4.setCell ⟨gR, 1, none⟩ (.int .i64 1) = W5 := ⟨_, rfl⟩
 rw [hW5] at HX5 HT5 HV5 HI5 HB5 ⊢
 clear hW5 K5 q4 HX4 HT4 HV4 HI4 HB4
 have i5 := blk4 HI5.out
 have t5 := HT5.out.cell 5 (.func (.func 79) #[] #[]) rfl
 have hN0 := i5.1
 have hN1 := i5.2.1
 have hN2 := i5.2.2.1
 have hN3 := i5.2.2.2
 clear i5
 have hbase5 : base ≤ W5.drew.heap.size := Nat.le_trans hbw HB5.out.size
 have HLD := Lib.hid (load_ok base gF gI gE gR kR gL kL 1 0 10 lm 1 pk (.slice A1 0 k1) (.slice A2 0 k2) A A' vd.length k k' (cs.setIfInBounds 1 (.int .i64 1)) cl W5.drew HX5.out.hE.drew HX5.out.hR.drew HX5.out.c2 HX5.out.c3 HV5.out hbase5 hne HX5.out.hL.drew HX5.out.l0)
 have HNN := Lib.hid (blk_ne HI5.out HX5.out.hR (by decide))
 have HNT := Lib.hid (blk_ne HT5.out HX5.out.hR (by decide))
 have HON := Lib.hid (own_ne_blk HV5.out HI5.out (by decide))
 have HOT := Lib.hid (own_ne_blk HV5.out HT5.out (by decide))
 go_region_held3 (fun w' => w'.cell? ⟨gN, 0, none⟩ = some (.int .i64 5) ∧ w'.cell? ⟨gN, 1, none⟩ = some (.int .i64 0) ∧ w'.cell? ⟨gN, 2, none⟩ = some (.string ⟨#[]⟩) ∧ w'.cell? ⟨gN, 3, none⟩ = some (.slice none 0 0) ∧ w'.cell? ⟨gT, 5, none⟩ = some (.func (.func 79) #[] #[])) (refine ⟨?_, ?_, ?_, ?_, ?_⟩ <;> first | assumption | go_keep) (first
  | (go_at_call 79; with_reducible refine HLD.out.mono ?_; rintro e W6 ⟨rfl, g6, k6, hb6, ho6, hg6⟩; have HI6 := Lib.hid (hg6.blk HI5.out.drew HNN.out HON.out); have HT6 := Lib.hid (hg6.blk HT5.out.drew HNT.out HOT.out); have s0 := HI6.out.cell 0 _ rfl; have s1 := HI6.out.cell 1 _ rfl; have s2 := HI6.out.cell 2 _ rfl; have s3 := HI6.out.cell 3 _ rfl; have s5 := HT6.out.cell 5 (.func (.func 79) #[] #[]) rfl; have HB6 := Lib.hid hb6; have HO6 := Lib.hid ho6; have HG6 := Lib.hid hg6; clear hb6 ho6 hg6))
 clear s0 s1 s2 s3 s5 hN0 hN1 hN2 hN3 t5 HLD
 have HX6 := Lib.hid ((HX5.out.below (below_drew _)).g2 HG6.out HV5.out hne HB6.out)
 obtain ⟨cl6, hs6, hs60, hk6⟩ := ownBlk1 HO6.out
 have HS6 := Lib.hid hs6
 have HF6 := Lib.hid (HX6.out.frames hs6 hs60 hk6)
 have HZ6 : Hid (Below base w W6) := Lib.hid (HG6.out.bel HB5.out.drew (Nat.le_trans hbw HB5.out.size) hbR (fun j hj => (HV5.out.lt j hj).1))
 clear hs6
 have hct : Calls Tryz.prog 36 #[.pointer (some ⟨gE, 0, none⟩)] W6 fun e w' => e = .returned (.tuple #[]) ∧ Blk w' gE 84 (exC gF gI 1 0 (.slice A1 0 k1) (.slice (some ⟨gR, 0, none⟩) 1 kR) (.slice A2 0 k2) 10 lm 1 (max pk (2 * (vd.length : Int)))) ∧ W6.grownBy w' (some gE) ∧ KT 84 W6 w' :=
  by
   have hmem : ((memN [⟨0, 1, [vd], [vd]⟩] : Nat) : Int) = 2 * (vd.length : Int) := by simp [memN, cellsN]; omega
   have := count_ok ⟨1, 0, [], [⟨0, 1, [vd], [vd]⟩], [], 10, lm, 1, pk⟩ gF gI gE _ _ _ W6 rfl HX6.out.hE (RowsV.nil A1 k1) HF6.out (RowsV.nil A2 k2) ⟨by simp, by simp⟩ (by dsimp only; rw [hmem]; exact hlm)
   dsimp only at this
   rwa [hmem] at this
 have HCT := Lib.hid hct
 clear hct
 go_wp2_with (first
  | (go_at_call 36; with_reducible refine HCT.out.mono ?_; rintro e W7 ⟨rfl, hE7, hg7, hk7⟩; have HE7 := Lib.hid hE7; have HG7 := Lib.hid hg7; have HK7 := Lib.hid hk7; clear hE7 hg7 hk7))
 go_returns
 refine ⟨rfl, g6, k6, _, cl6, HX6.out.ktE HK7.out HE7.out, HK7.out.blk (by decide) HS6.out, hs60, hk6, HK7.out.blk (by decide) HT6.out, HZ6.out.grown HG7.out (Nat.le_trans hbw HZ6.out.size |> fun h => h) (fun j hj => by injection hj with hj; omega)⟩
end Go.Proofs.YtahcjgjigbedoaaGreatDoor
