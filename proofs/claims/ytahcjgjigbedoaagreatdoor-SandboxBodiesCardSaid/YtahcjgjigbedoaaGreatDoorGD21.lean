/- The machines wake: a step that returns. The machines wake: a machine that own has made, opened. -/
import Derived.Test.YtahcjgjigbedoaaGreatDoorGD18
import Derived.Test.YtahcjgjigbedoaaGreatDoorC11
import Derived.Test.YtahcjgjigbedoaaGreatDoorGB13
set_option linter.unusedVariables false
set_option linter.unusedSimpArgs false
namespace Go.Proofs.YtahcjgjigbedoaaGreatDoor
open Go.RowKit
set_option maxRecDepth 100000
variable {vd : ValD}

theorem count_done (gF gI gE : Nat) (er ls lm sp pk : Int) (vv fv qv : Value) (w : World) (hE : Blk w gE 84 (exC gF gI 3 er vv fv qv ls lm sp pk)) :
  Calls Tryz.prog 36 #[.pointer (some ⟨gE, 0, none⟩)] w fun e w' => e = .returned (.tuple #[]) ∧ w' = w := by
 have e0 := blkE hE
 clear hE
 go_enter Tryz.func36, Tryz.ntmps36
 go_wp2_with (fail)
 go_returns
 exact ⟨rfl, rfl⟩
attribute [local go_sem] cell_alloc_is
set_option maxHeartbeats 4000000 in
theorem step_back (base gF gI gE gR kR gL kL gT gS kS k1 k2 k : Nat) (lm pk : Int) (A1 A2 A : Option Addr) (cs cl cl' : Array Value) (w : World) (h : XSt vd w base gF gI gE gR kR gL kL (.slice A1 0 k1) (.slice A2 0 k2) 10 lm 1 pk 1 (.slice (some ⟨gS, 0, none⟩) 1 kS) A k cs cl)
  (hT : Blk w gT 136 (actsN 20)) (hbE : base ≤ gE) (hbR : base ≤ gR) (hbw : base ≤ w.heap.size) (hS : Blk w gS 22 cl') (hs0 : cl'[0]? = some (.slice A vd.length k)) (hkS : 1 ≤ kS) :
  Calls Tryz.prog 56 #[.pointer (some ⟨gE, 0, none⟩), .slice (some ⟨gT, 0, none⟩) 21 21] w fun e w' => e = .returned (.tuple #[]) ∧ Blk w' gE 84 (exC gF gI 3 0 (.slice A vd.length k) (.slice none 0 0) (.slice A2 0 k2) 10 lm 2 pk) ∧ OVal w' base (.slice A vd.length k) vd ∧ Below base w w' := by
 have HX := Lib.hid h
 have HT := Lib.hid hT
 have HS := Lib.hid hS
 have e0 := blkE h.hE
 have i0 := h.hC.i0
 have p0 := h.hR.cell 1 _ h.c1
 clear h hT hS
 go_enter Tryz.func56, Tryz.ntmps56
 go_upto_region 0 with fail
 go_quiet (fail)
 obtain ⟨W0, hW0⟩ : ∃ W0, w.drewN nq = W0 := ⟨_, rfl⟩
 rw [hW0]
 have HX0 : Hid (XSt vd W0 base gF gI gE gR kR gL kL (.slice A1 0 k1) (.slice A2 0 k2) 10 lm 1 pk 1 (.slice (some ⟨gS, 0, none⟩) 1 kS) A k cs cl) := Lib.hid (by rw [← hW0]; exact HX.out.below (below_drewN (Below.refl _ _) _))
 have HT0 : Hid (Blk W0 gT 136 (actsN 20)) := Lib.hid (by rw [← hW0]; exact HT.out)
 have HS0 : Hid (Blk W0 gS 22 cl') := Lib.hid (by rw [← hW0]; exact HS.out)
 have HB0 : Hid (Below base w W0) := Lib.hid (by rw [← hW0]; exact below_drewN (Below.refl _ _) _)
 clear hW0 e0 i0 p0 HX HT HS nq
 have e0 := blkE HX0.out.hE
 have i0 := HX0.out.hC.i0
 have p0 := HX0.out.hR.cell 1 _ HX0.out.c1
 go_upto_region 5 with (first
  | (go_at_call 90; with_reducible refine (frame_ok gF gI gE gR kR _ _ _ _ _ _ _ _ _ HX0.out.hE).mono ?_; rintro e W1 ⟨rfl, q, rfl⟩))
 go_quiet (fail)
 go_upto_region 7 with fail
 obtain ⟨W2, hW2⟩ : ∃ W2, (W0.drewN q).drewN nq = W2 := ⟨_, rfl⟩
 rw [hW2]
 have HX2 : Hid (XSt vd W2 base gF gI gE gR kR gL kL (.slice A1 0 k1) (.slice A2 0 k2) 10 lm 1 pk 1 (.slice (some ⟨gS, 0, none⟩) 1 kS) A k cs cl) := Lib.hid (by rw [← hW2, World.drewN_drewN]; exact HX0.out.below (below_drewN (Below.refl _ _) _))
 have HT2 : Hid (Blk W2 gT 136 (actsN 20)) := Lib.hid (by rw [← hW2]; exact HT0.out)
 have HS2 : Hid (Blk W2 gS 22 cl') := Lib.hid (by rw [← hW2]; exact HS0.out)
 have HB2 : Hid (Below base w W2) := Lib.hid (by rw [← hW2, World.drewN_drewN]; exact below_drewN HB0.out _)
 clear hW2 e0 i0 p0 HX0 HT0 HS0 HB0 nq
 have e2 := blkE HX2.out.hE
 have i2 := HX2.out.hC.i0
 have p2 := HX2.out.hR.cell 1 _ HX2.out.c1
 go_region
 obtain ⟨W3, hW3⟩ : ∃ W3, (W2.alloc (.cells #[.int .i64 20, .int .i64 0, .string ⟨#[]⟩, .slice none 0 0] 75)).drew = W3 := ⟨_, rfl⟩
 obtain ⟨gN, hgN⟩ : ∃ g, W2.heap.size = g := ⟨_, rfl⟩
 have hb3 : Below W2.heap.size W2 W3 := by rw [← hW3]; exact (below_new _ _).drew
 have HX3 := Lib.hid (HX2.out.below hb3)
 have HT3 := Lib.hid (HT2.out.below hb3)
 have HS3 := Lib.hid (HS2.out.below hb3)
 have HB3 : Hid (Below base w W3) := Lib.hid (HB2.out.trans (hb3.mono (Nat.le_trans hbw HB2.out.size)))
 have HI3 : Hid (Blk W3 gN 75 #[.int .i64 20, .int .i64 0, .string ⟨#[]⟩, .slice none 0 0]) := Lib.hid (by rw [← hW3, ← hgN]; exact (Blk.new W2 _ _).drew)
 rw [hW3, hgN]
 clear hW3 hgN hb3 e2 i2 p2 HX2 HT2 HS2 HB2
 have e3 := blkE HX3.out.hE
 have q3 := HX3.out.facts
 go_upto_region 9 with fail
 have HX4 := Lib.hid (HX3.out.setSp 2)
 have K4 := KT.set HX3.out.hE 9 (.int .i64 2)
 have HT4 := Lib.hid (K4.blk (by decide) HT3.out)
 have HS4 := Lib.hid (K4.blk (by decide) HS3.out)
 have HI4 := Lib.hid (K4.blk (by decide) HI3.out)
 have HB4 := Lib.hid (HB3.out.setCell (p := ⟨gE, 9, none⟩) hbE (.int .i64 2))
 obtain ⟨W4, hW4⟩ : ∃ W4, W3.setCell ⟨gE, 9, none⟩ (.int .i64 2) = W4 := ⟨_, rfl⟩
 rw [hW4] at HX4 HT4 HS4 HI4 HB4 ⊢
 clear hW4 K4 e3 q3 HX3 HT3 HS3 HI3 HB3
 have q4 := HX4.out.facts
 go_upto_region 10 with fail
 have HX5 := Lib.hid (HX4.out.setPc 2)
 have K5 := KT.set HX4.out.hR 1 (.int .i64 2)
 have HT5 := Lib.hid (K5.blk (by decide) HT4.out)
 have HS5 := Lib.hid (K5.blk (by decide) HS4.out)
 have HI5 := Lib.hid (K5.blk (by decide) HI4.out)
 have HB5 := Lib.hid (HB4.out.setCell (p := ⟨gR, 1, none⟩) hbR (.int .i64 2))
 obtain ⟨W5, hW5⟩ : ∃ W5, W4.setCell ⟨gR, 1, none⟩ (.int .i64 2) = W5 := ⟨_, rfl⟩
 rw [hW5] at HX5 HT5 HS5 HI5 HB5 ⊢
 clear hW5 K5 q4 HX4 HT4 HS4 HI4 HB4
 have i5 := blk4 HI5.out
 have t5 := HT5.out.cell 20 (.func (.func 89) #[] #[]) rfl
 have hN0 := i5.1
 have hN1 := i5.2.1
 have hN2 := i5.2.2.1
 have hN3 := i5.2.2.2
 clear i5
 have HLD := Lib.hid (back_ok gF gI gE gR kR gS kS 1 0 10 lm 2 pk (.slice A1 0 k1) (.slice A2 0 k2) A vd.length k (cs.setIfInBounds 1 (.int .i64 2)) cl' W5.drew HX5.out.hE.drew HX5.out.kR1 HX5.out.hR.drew HX5.out.c3 hkS HS5.out.drew hs0)
 go_region_held3 (fun w' => w'.cell? ⟨gN, 0, none⟩ = some (.int .i64 20) ∧ w'.cell? ⟨gN, 1, none⟩ = some (.int .i64 0) ∧ w'.cell? ⟨gN, 2, none⟩ = some (.string ⟨#[]⟩) ∧ w'.cell? ⟨gN, 3, none⟩ = some (.slice none 0 0) ∧ w'.cell? ⟨gT, 20, none⟩ = some (.func (.func 89) #[] #[])) (refine ⟨?_, ?_, ?_, ?_, ?_⟩ <;> first | assumption | go_keep) (first
  | (go_at_call 89; with_reducible refine HLD.out.mono ?_; rintro e W6 ⟨rfl, hE6, w1, hg1, hk1, hg6, hk6⟩; have HI6 := Lib.hid (hk6.blk (e := 75) (by decide) (hk1.blk (e := 75) (by decide) HI5.out.drew)); have HT6 := Lib.hid (hk6.blk (e := 136) (by decide) (hk1.blk (e := 136) (by decide) HT5.out.drew)); have s0 := HI6.out.cell 0 _ rfl; have s1 := HI6.out.cell 1 _ rfl; have s2 := HI6.out.cell 2 _ rfl; have s3 := HI6.out.cell 3 _ rfl; have s5 := HT6.out.cell 20 (.func (.func 89) #[] #[]) rfl; have HE6 := Lib.hid hE6; have HG1 := Lib.hid hg1; have HK1 := Lib.hid hk1; have HG6 := Lib.hid hg6; have HK6 := Lib.hid hk6; clear hE6 hg1 hk1 hg6 hk6))
 clear s0 s1 s2 s3 s5 hN0 hN1 hN2 hN3 t5 HLD
 have HZ1 : Hid (Below base w w1) := Lib.hid ((HB5.out.drew).grown HG1.out (Nat.le_trans hbw HB5.out.size) (fun j hj => by injection hj with hj; omega))
 have HZ6 : Hid (Below base w W6) := Lib.hid (HZ1.out.grown HG6.out (Nat.le_trans hbw HZ1.out.size) (fun j hj => by injection hj with hj; omega))
 have HV6 := Lib.hid (HK6.out.oval (by decide) (HK1.out.oval (by decide) (HX5.out.hV.below (below_drew _))))
 go_wp2_with (first
  | (go_at_call 36; with_reducible refine (count_done gF gI gE _ _ _ _ _ _ _ _ _ HE6.out).mono ?_; rintro e W7 ⟨rfl, hw7⟩; rw [hw7]; clear hw7 W7))
 go_returns
 exact ⟨rfl, HE6.out, HV6.out, HZ6.out⟩
end Go.Proofs.YtahcjgjigbedoaaGreatDoor
namespace Go.Proofs.YtahcjgjigbedoaaGreatDoor
open Go.RowKit
set_option maxRecDepth 100000
variable {vd : ValD}

/-- What a started machine is made of in memory. -/
structure Own1 (vd : ValD) (w : World) (base gR kR gL kL : Nat) (A A' : Option Addr) (k k' : Nat) (cs cl : Array Value) : Prop where
 hR : Blk w gR 108 cs
 c0 : cs[0]? = some (.int .i64 0)
 c1 : cs[1]? = some (.int .i64 0)
 c2 : cs[2]? = some (.slice (some ⟨gL, 0, none⟩) 1 kL)
 c3 : cs[3]? = some (.slice A' 0 k')
 hL : Blk w gL 22 cl
 l0 : cl[0]? = some (.slice A vd.length k)
 hV : OVal w base (.slice A vd.length k) vd
 kR1 : 1 ≤ kR
 kL1 : 1 ≤ kL
 hsv : w.ownsRow base 22 1 (.slice A' 0 k') 0 []
 hne : some gL ≠ (Value.slice A' 0 k').ownBlock
 bR : base ≤ gR
theorem Own1.below {w w' : World} {base gR kR gL kL : Nat} {A A' : Option Addr} {k k' : Nat} {cs cl : Array Value} (h : Own1 vd w base gR kR gL kL A A' k k' cs cl) (hb : Below w.heap.size w w') : Own1 vd w' base gR kR gL kL A A' k k' cs cl :=
 ⟨h.hR.below hb, h.c0, h.c1, h.c2, h.c3, h.hL.below hb, h.l0, h.hV.below hb, h.kR1, h.kL1, own_below h.hsv hb, h.hne, h.bR⟩
theorem Own1.kt {w w' : World} {base gR kR gL kL : Nat} {A A' : Option Addr} {k k' : Nat} {cs cl : Array Value} (h : Own1 vd w base gR kR gL kL A A' k k' cs cl) (K : KT 84 w w') : Own1 vd w' base gR kR gL kL A A' k k' cs cl :=
 ⟨K.blk (by decide) h.hR, h.c0, h.c1, h.c2, h.c3, K.blk (by decide) h.hL, h.l0, K.oval (by decide) h.hV, h.kR1, h.kL1, K.own (by decide) h.hsv, h.hne, h.bR⟩
theorem Own1.base {w : World} {base base' gR kR gL kL : Nat} {A A' : Option Addr} {k k' : Nat} {cs cl : Array Value} (h : Own1 vd w base gR kR gL kL A A' k k' cs cl) (hb : base' ≤ base) : Own1 vd w base' gR kR gL kL A A' k k' cs cl :=
 ⟨h.hR, h.c0, h.c1, h.c2, h.c3, h.hL, h.l0, h.hV.base hb, h.kR1, h.kL1, own_base h.hsv hb, h.hne, Nat.le_trans hb h.bR⟩
theorem ownBlk4 {w : World} {base : Nat} {t : TypeId} {v a b c d : Value} (h : w.ownsRow base t 4 v 1 [a, b, c, d]) : ∃ g k cs, v = .slice (some ⟨g, 0, none⟩) 1 k ∧ Blk w g t cs ∧ cs[0]? = some a ∧ cs[1]? = some b ∧ cs[2]? = some c ∧ cs[3]? = some d ∧ 1 ≤ k ∧ base ≤ g := by
 rcases h.2 with ⟨_, h1⟩ | ⟨g', cap, cur, e, hb, h2, h3, _, _, h5⟩
 ·cases h1
 ·have ha : ∀ j, j < 4 → cur[j]? = ([a, b, c, d] : List Value)[j]? := fun j hj => by
   rw [← h5, List.getElem?_take, if_pos (by omega)]
   simp
  exact ⟨g', cap, cur, e, h2, (ha 0 (by omega)).trans rfl, (ha 1 (by omega)).trans rfl, (ha 2 (by omega)).trans rfl, (ha 3 (by omega)).trans rfl, h3, hb⟩
theorem own1_of {w : World} {base : Nat} {v : Value} {lm : Int} (h : OMach w base v (m1 vd lm)) : ∃ gR kR gL kL A1 k1 A2 k2 A k A' k' cs cl, v = .agg #[.int .i64 1, .int .i64 0, .slice A1 0 k1, .slice (some ⟨gR, 0, none⟩) 1 kR, .slice A2 0 k2, .int .i64 10, .int .i64 lm, .int .i64 0, .int .i64 vd.length] ∧ Own1 vd w base gR kR gL kL A A' k k' cs cl := by
 obtain ⟨vv, fv, qv, ps, rfl, hvv, hfv, vs, hvl, hqv, _⟩ := h
 obtain ⟨A1, k1, rfl⟩ := own_shape (show w.ownsRow base _ _ vv 0 _ from hvv)
 obtain ⟨A2, k2, rfl⟩ := own_shape (show w.ownsRow base _ _ qv 0 _ from hqv)
 obtain ⟨hpl, hfo, hnd, hps⟩ := hfv
 match ps, hpl with
 | [(lv, sv)], _ =>
  obtain ⟨h1, h2⟩ := hps 0 (by simp) (by simp [m1])
  obtain ⟨vl, e1, e2, e3⟩ : OVals w base lv [vd] := h1
  obtain ⟨vk, f1, f2, _⟩ : OVals w base sv [] := h2
  obtain ⟨x, rfl⟩ : ∃ x, vl = [x] := by
   match vl, e2 with
   | [x], _ => exact ⟨x, rfl⟩
  have hx : OVal w base x vd := e3 0 (by simp) (by simp)
  obtain ⟨A, k, rfl⟩ := own_shape (show w.ownsRow base 47 4 x vd.length _ from hx)
  obtain ⟨gL, kL, rfl⟩ := oneShape (show w.ownsRow base _ 1 lv 1 _ from e1)
  obtain ⟨cl, hL, hl0, hkL⟩ := ownBlk1 e1
  obtain ⟨A', k', rfl⟩ := own_shape (show w.ownsRow base _ 1 sv 0 _ from f1)
  obtain ⟨gR, kR, cs, rfl, hR, q0, q1, q2, q3, hkR, hbR⟩ := ownBlk4 (show w.ownsRow base _ 4 fv 1 [.int .i64 0, .int .i64 0, .slice (some ⟨gL, 0, none⟩) 1 kL, .slice A' 0 k'] from hfo)
  have hvk : vk = [] := List.eq_nil_of_length_eq_zero f2
  subst hvk
  refine ⟨gR, kR, gL, kL, A1, k1, A2, k2, A, k, A', k', cs, cl, rfl, hR, q0, q1, q2, q3, hL, hl0, hx, hkR, hkL, f1, ?_, hbR⟩
  intro e
  have : (blocks [((Value.slice (some ⟨gL, 0, none⟩) 1 kL), (Value.slice A' 0 k'))]).Nodup := hnd
  simp only [blocks, List.flatMap_cons, List.flatMap_nil, List.append_nil] at this
  rw [← e] at this
  simp [Value.ownBlock] at this

/-- Behind the statement that makes the executor. -/
def RunCut (vd : ValD) (w0 W : World) (gF gI : Nat) (lm : Int) (u : Value) (wx : World) : Prop :=
 ∃ gE gR kR gL kL A1 k1 A2 k2 A k A' k' cs cl, u = .pointer (some ⟨gE, 0, none⟩) ∧ w0.heap.size ≤ gE ∧ Blk wx gE 84 (exC gF gI 1 0 (.slice A1 0 k1) (.slice (some ⟨gR, 0, none⟩) 1 kR) (.slice A2 0 k2) 10 lm 0 vd.length) ∧ Own1 vd wx w0.heap.size gR kR gL kL A A' k k' cs cl ∧ Below W.heap.size W wx
def exZ : Array Value := #[.slice none 0 0, .slice none 0 0, .int .i64 0, .int .i64 0, .slice none 0 0, .slice none 0 0, .slice none 0 0, .int .i64 0, .int .i64 0, .int .i64 0, .int .i64 0]
theorem OMach.base {w : World} {base base' : Nat} {v : Value} {m : MachD} (h : OMach w base v m) (hb : base' ≤ base) : OMach w base' v m := by
 obtain ⟨vv, fv, qv, ps, e, hvv, ⟨f1, f2, f3, f4⟩, vs, q1, q2, q3⟩ := h
 exact ⟨vv, fv, qv, ps, e, hvv.base hb, ⟨f1, own_base f2 hb, f3, fun i a b => ⟨(f4 i a b).1.base hb, (f4 i a b).2.base hb⟩⟩, vs, q1, own_base q2 hb, fun i a b => (q3 i a b).base hb⟩
theorem OMach.kt {w w' : World} {base : Nat} {v : Value} {m : MachD} (h : OMach w base v m) (K : KT 61 w w') : OMach w' base v m := by
 obtain ⟨vv, fv, qv, ps, e, hvv, hfv, hqv⟩ := h
 exact ⟨vv, fv, qv, ps, e, K.oval (by decide) hvv, K.oframes (by decide) (by decide) (by decide) hfv, K.oreqs (by decide) (by decide) (by decide) hqv⟩
theorem OMach.shape {w : World} {base : Nat} {v : Value} {m : MachD} (h : OMach w base v m) : ∃ A1 n1 k1 A2 n2 k2 A3 n3 k3, v = .agg #[.int .i64 m.status, .int .i64 m.err, .slice A1 n1 k1, .slice A2 n2 k2, .slice A3 n3 k3, .int .i64 m.lsteps, .int .i64 m.lmem, .int .i64 m.steps, .int .i64 m.peak] := by
 obtain ⟨vv, fv, qv, ps, rfl, hvv, hfv, vs, _, hqv, _⟩ := h
 obtain ⟨A1, k1, rfl⟩ := own_shape hvv
 obtain ⟨A2, k2, rfl⟩ := own_shape hfv.2.1
 obtain ⟨A3, k3, rfl⟩ := own_shape hqv
 exact ⟨_, _, _, _, _, _, _, _, _, rfl⟩
/-- The facts of the two boxes, as the region reads them. -/
theorem blkCM {w : World} {g h : Nat} {u0 u1 v0 v1 v2 v3 v4 v5 v6 v7 v8 : Value} (h1 : Blk w g 41 #[u0, u1]) (h2 : Blk w h 61 #[v0, v1, v2, v3, v4, v5, v6, v7, v8]) :
  w.cell? ⟨g, 0, none⟩ = some u0 ∧ w.cell? ⟨g, 1, none⟩ = some u1 ∧ w.cell? ⟨h, 0, none⟩ = some v0 ∧ w.cell? ⟨h, 1, none⟩ = some v1 ∧ w.cell? ⟨h, 2, none⟩ = some v2 ∧ w.cell? ⟨h, 3, none⟩ = some v3 ∧ w.cell? ⟨h, 4, none⟩ = some v4 ∧ w.cell? ⟨h, 5, none⟩ = some v5 ∧ w.cell? ⟨h, 6, none⟩ = some v6 ∧ w.cell? ⟨h, 7, none⟩ = some v7 ∧ w.cell? ⟨h, 8, none⟩ = some v8 :=
 ⟨h1.cell 0 _ rfl, h1.cell 1 _ rfl, h2.cell 0 _ rfl, h2.cell 1 _ rfl, h2.cell 2 _ rfl, h2.cell 3 _ rfl, h2.cell 4 _ rfl, h2.cell 5 _ rfl, h2.cell 6 _ rfl, h2.cell 7 _ rfl, h2.cell 8 _ rfl⟩
theorem mach_none {w : World} {base : Nat} {v : Value} {va : ValD} {st er ls lm sp pk : Int} (h : OMach w base v ⟨st, er, va, [], [], ls, lm, sp, pk⟩) (hl : va.length ≤ 200) : MachV w v ⟨st, er, va, [], [], ls, lm, sp, pk⟩ := by
 obtain ⟨vv, fv, qv, ps, rfl, hvv, hfv, vs, hvl, hqv, _⟩ := h
 obtain ⟨A2, k2, rfl⟩ := own_shape (show w.ownsRow base _ _ qv 0 _ from hqv)
 obtain ⟨A3, k3, rfl⟩ := own_shape (show w.ownsRow base _ _ fv 0 _ from hfv.2.1)
 exact ⟨_, _, _, rfl, hvv.val (by simp; omega), RowsV.nil _ _, RowsV.nil _ _⟩
end Go.Proofs.YtahcjgjigbedoaaGreatDoor
