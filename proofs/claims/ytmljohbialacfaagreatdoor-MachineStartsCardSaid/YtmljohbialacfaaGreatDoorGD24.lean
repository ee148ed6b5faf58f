/- The machines wake: a machine that own has made, opened. The machines wake: Run, a step beyond the memory. -/
import Derived.Test.YtmljohbialacfaaGreatDoorGD19
import Derived.Test.YtmljohbialacfaaGreatDoorGC15
set_option linter.unusedVariables false
set_option linter.unusedSimpArgs false
namespace Go.Proofs.YtmljohbialacfaaGreatDoor
open Go.RowKit
set_option maxRecDepth 100000

/-- What a started machine is made of in memory. -/
structure Own1 (w : World) (base gR kR gL kL : Nat) (A A' : Option Addr) (k k' : Nat) (cs cl : Array Value) : Prop where
 hR : Blk w gR 74 cs
 c0 : cs[0]? = some (.int .i64 0)
 c1 : cs[1]? = some (.int .i64 0)
 c2 : cs[2]? = some (.slice (some ⟨gL, 0, none⟩) 1 kL)
 c3 : cs[3]? = some (.slice A' 0 k')
 hL : Blk w gL 26 cl
 l0 : cl[0]? = some (.slice A 1 k)
 hV : OVal w base (.slice A 1 k) [c7]
 kR1 : 1 ≤ kR
 kL1 : 1 ≤ kL
 hsv : w.ownsRow base 26 1 (.slice A' 0 k') 0 []
 hne : some gL ≠ (Value.slice A' 0 k').ownBlock
 bR : base ≤ gR
theorem Own1.below {w w' : World} {base gR kR gL kL : Nat} {A A' : Option Addr} {k k' : Nat} {cs cl : Array Value} (h : Own1 w base gR kR gL kL A A' k k' cs cl) (hb : Below w.heap.size w w') : Own1 w' base gR kR gL kL A A' k k' cs cl :=
 ⟨h.hR.below hb, h.c0, h.c1, h.c2, h.c3, h.hL.below hb, h.l0, h.hV.below hb, h.kR1, h.kL1, own_below h.hsv hb, h.hne, h.bR⟩
theorem Own1.kt {w w' : World} {base gR kR gL kL : Nat} {A A' : Option Addr} {k k' : Nat} {cs cl : Array Value} (h : Own1 w base gR kR gL kL A A' k k' cs cl) (K : KT 69 w w') : Own1 w' base gR kR gL kL A A' k k' cs cl :=
 ⟨K.blk (by decide) h.hR, h.c0, h.c1, h.c2, h.c3, K.blk (by decide) h.hL, h.l0, K.oval (by decide) h.hV, h.kR1, h.kL1, K.own (by decide) h.hsv, h.hne, h.bR⟩
theorem Own1.base {w : World} {base base' gR kR gL kL : Nat} {A A' : Option Addr} {k k' : Nat} {cs cl : Array Value} (h : Own1 w base gR kR gL kL A A' k k' cs cl) (hb : base' ≤ base) : Own1 w base' gR kR gL kL A A' k k' cs cl :=
 ⟨h.hR, h.c0, h.c1, h.c2, h.c3, h.hL, h.l0, h.hV.base hb, h.kR1, h.kL1, own_base h.hsv hb, h.hne, Nat.le_trans hb h.bR⟩
theorem ownBlk4 {w : World} {base : Nat} {t : TypeId} {v a b c d : Value} (h : w.ownsRow base t 4 v 1 [a, b, c, d]) : ∃ g k cs, v = .slice (some ⟨g, 0, none⟩) 1 k ∧ Blk w g t cs ∧ cs[0]? = some a ∧ cs[1]? = some b ∧ cs[2]? = some c ∧ cs[3]? = some d ∧ 1 ≤ k ∧ base ≤ g := by
 rcases h.2 with ⟨_, h1⟩ | ⟨g', cap, cur, e, hb, h2, h3, _, _, h5⟩
 ·cases h1
 ·have ha : ∀ j, j < 4 → cur[j]? = ([a, b, c, d] : List Value)[j]? := fun j hj => by
   rw [← h5, List.getElem?_take, if_pos (by omega)]
   simp
  exact ⟨g', cap, cur, e, h2, (ha 0 (by omega)).trans rfl, (ha 1 (by omega)).trans rfl, (ha 2 (by omega)).trans rfl, (ha 3 (by omega)).trans rfl, h3, hb⟩
theorem own1_of {w : World} {base : Nat} {v : Value} {lm : Int} (h : OMach w base v (m1 lm)) : ∃ gR kR gL kL A1 k1 A2 k2 A k A' k' cs cl, v = .agg #[.int .i64 1, .int .i64 0, .slice A1 0 k1, .slice (some ⟨gR, 0, none⟩) 1 kR, .slice A2 0 k2, .int .i64 10, .int .i64 lm, .int .i64 0, .int .i64 1] ∧ Own1 w base gR kR gL kL A A' k k' cs cl := by
 obtain ⟨vv, fv, qv, ps, rfl, hvv, hfv, vs, hvl, hqv, _⟩ := h
 obtain ⟨A1, k1, rfl⟩ := own_shape (show w.ownsRow base _ _ vv 0 _ from hvv)
 obtain ⟨A2, k2, rfl⟩ := own_shape (show w.ownsRow base _ _ qv 0 _ from hqv)
 obtain ⟨hpl, hfo, hnd, hps⟩ := hfv
 match ps, hpl with
 | [(lv, sv)], _ =>
  obtain ⟨h1, h2⟩ := hps 0 (by simp) (by simp [m1])
  obtain ⟨vl, e1, e2, e3⟩ : OVals w base lv [[c7]] := h1
  obtain ⟨vk, f1, f2, _⟩ : OVals w base sv [] := h2
  obtain ⟨x, rfl⟩ : ∃ x, vl = [x] := by
   match vl, e2 with
   | [x], _ => exact ⟨x, rfl⟩
  have hx : OVal w base x [c7] := e3 0 (by simp) (by simp)
  obtain ⟨A, k, rfl⟩ := OVal.one hx
  obtain ⟨gL, kL, rfl⟩ := oneShape (show w.ownsRow base _ 1 lv 1 _ from e1)
  obtain ⟨cl, hL, hl0, hkL⟩ := ownBlk1 e1
  obtain ⟨A', k', rfl⟩ := own_shape (show w.ownsRow base _ 1 sv 0 _ from f1)
  obtain ⟨gR, kR, cs, rfl, hR, q0, q1, q2, q3, hkR, hbR⟩ := ownBlk4 (show w.ownsRow base _ 4 fv 1 [.int .i64 0, .int .i64 0, .slice (some ⟨gL, 0, none⟩) 1 kL, .slice A' 0 k'] from hfo)
  have hvk : vk = [] := List.eq_nil_of_length_eq_zero f2
  subst hvk
  refine ⟨gR, kR, gL, kL, A1, k1, A2, k2, A, k, A', k', cs, cl, rfl, hR, q0, q1, q2, q3, hL, hl0, hx, hkR, hkL, f1, ?_, hbR⟩
  intro e
  have : (blocks [((Value.slice (some ⟨gL, 0, none⟩) 1 kL), (Value.slice A' 0 k'))]).Nodup := hnd
  simp only [blocks, List.flatMap_cons, List.flatMap_nil, List.append_nil] at this
  rw [← e] at this
  simp [Value.ownBlock] at this

/-- Behind the statement that makes the executor. -/
def RunCut (w0 W : World) (gF gI : Nat) (lm : Int) (u : Value) (wx : World) : Prop :=
 ∃ gE gR kR gL kL A1 k1 A2 k2 A k A' k' cs cl, u = .pointer (some ⟨gE, 0, none⟩) ∧ w0.heap.size ≤ gE ∧ Blk wx gE 69 (exC gF gI 1 0 (.slice A1 0 k1) (.slice (some ⟨gR, 0, none⟩) 1 kR) (.slice A2 0 k2) 10 lm 0 1) ∧ Own1 wx w0.heap.size gR kR gL kL A A' k k' cs cl ∧ Below W.heap.size W wx
def exZ : Array Value := #[.slice none 0 0, .slice none 0 0, .int .i64 0, .int .i64 0, .slice none 0 0, .slice none 0 0, .slice none 0 0, .int .i64 0, .int .i64 0, .int .i64 0, .int .i64 0]
theorem OMach.base {w : World} {base base' : Nat} {v : Value} {m : MachD} (h : OMach w base v m) (hb : base' ≤ base) : OMach w base' v m := by
 obtain ⟨vv, fv, qv, ps, e, hvv, ⟨f1, f2, f3, f4⟩, vs, q1, q2, q3⟩ := h
 exact ⟨vv, fv, qv, ps, e, hvv.base hb, ⟨f1, own_base f2 hb, f3, fun i a b => ⟨(f4 i a b).1.base hb, (f4 i a b).2.base hb⟩⟩, vs, q1, own_base q2 hb, fun i a b => (q3 i a b).base hb⟩
theorem OMach.kt {w w' : World} {base : Nat} {v : Value} {m : MachD} (h : OMach w base v m) (K : KT 37 w w') : OMach w' base v m := by
 obtain ⟨vv, fv, qv, ps, e, hvv, hfv, hqv⟩ := h
 exact ⟨vv, fv, qv, ps, e, K.oval (by decide) hvv, K.oframes (by decide) (by decide) (by decide) hfv, K.oreqs (by decide) (by decide) (by decide) hqv⟩
theorem OMach.shape {w : World} {base : Nat} {v : Value} {m : MachD} (h : OMach w base v m) : ∃ A1 n1 k1 A2 n2 k2 A3 n3 k3, v = .agg #[.int .i64 m.status, .int .i64 m.err, .slice A1 n1 k1, .slice A2 n2 k2, .slice A3 n3 k3, .int .i64 m.lsteps, .int .i64 m.lmem, .int .i64 m.steps, .int .i64 m.peak] := by
 obtain ⟨vv, fv, qv, ps, rfl, hvv, hfv, vs, _, hqv, _⟩ := h
 obtain ⟨A1, k1, rfl⟩ := own_shape hvv
 obtain ⟨A2, k2, rfl⟩ := own_shape hfv.2.1
 obtain ⟨A3, k3, rfl⟩ := own_shape hqv
 exact ⟨_, _, _, _, _, _, _, _, _, rfl⟩
/-- The facts of the two boxes, as the region reads them. -/
theorem blkCM {w : World} {g h : Nat} {u0 u1 v0 v1 v2 v3 v4 v5 v6 v7 v8 : Value} (h1 : Blk w g 25 #[u0, u1]) (h2 : Blk w h 37 #[v0, v1, v2, v3, v4, v5, v6, v7, v8]) :
  w.cell? ⟨g, 0, none⟩ = some u0 ∧ w.cell? ⟨g, 1, none⟩ = some u1 ∧ w.cell? ⟨h, 0, none⟩ = some v0 ∧ w.cell? ⟨h, 1, none⟩ = some v1 ∧ w.cell? ⟨h, 2, none⟩ = some v2 ∧ w.cell? ⟨h, 3, none⟩ = some v3 ∧ w.cell? ⟨h, 4, none⟩ = some v4 ∧ w.cell? ⟨h, 5, none⟩ = some v5 ∧ w.cell? ⟨h, 6, none⟩ = some v6 ∧ w.cell? ⟨h, 7, none⟩ = some v7 ∧ w.cell? ⟨h, 8, none⟩ = some v8 :=
 ⟨h1.cell 0 _ rfl, h1.cell 1 _ rfl, h2.cell 0 _ rfl, h2.cell 1 _ rfl, h2.cell 2 _ rfl, h2.cell 3 _ rfl, h2.cell 4 _ rfl, h2.cell 5 _ rfl, h2.cell 6 _ rfl, h2.cell 7 _ rfl, h2.cell 8 _ rfl⟩
/-- What own hands on, with one frame or none, as a machine. -/
theorem mach_one {w : World} {base : Nat} {v : Value} {ls lm sp pk pc : Int} (h : OMach w base v ⟨1, 0, [], [⟨0, pc, [[c7]], [[c7]]⟩], [], ls, lm, sp, pk⟩) : MachV w v ⟨1, 0, [], [⟨0, pc, [[c7]], [[c7]]⟩], [], ls, lm, sp, pk⟩ := by
 obtain ⟨vv, fv, qv, ps, rfl, hvv, hfv, vs, hvl, hqv, _⟩ := h
 obtain ⟨A1, k1, rfl⟩ := own_shape (show w.ownsRow base _ _ vv 0 _ from hvv)
 obtain ⟨A2, k2, rfl⟩ := own_shape (show w.ownsRow base _ _ qv 0 _ from hqv)
 obtain ⟨hpl, hfo, hnd, hps⟩ := hfv
 match ps, hpl with
 | [(lv, sv)], _ =>
  obtain ⟨h1, h2⟩ := hps 0 (by simp) (by simp)
  obtain ⟨gR, kR, cs, rfl, _⟩ := ownBlk4 (show w.ownsRow base _ 4 fv 1 [.int .i64 0, .int .i64 pc, lv, sv] from hfo)
  exact ⟨_, _, _, rfl, RowsV.nil _ _, framesOne hfo (OVals.vals h1 (by simp) (by simp)) (OVals.vals h2 (by simp) (by simp)), RowsV.nil _ _⟩
theorem mach_none {w : World} {base : Nat} {v : Value} {va : ValD} {st er ls lm sp pk : Int} (h : OMach w base v ⟨st, er, va, [], [], ls, lm, sp, pk⟩) (hl : va.length ≤ 1) : MachV w v ⟨st, er, va, [], [], ls, lm, sp, pk⟩ := by
 obtain ⟨vv, fv, qv, ps, rfl, hvv, hfv, vs, hvl, hqv, _⟩ := h
 obtain ⟨A2, k2, rfl⟩ := own_shape (show w.ownsRow base _ _ qv 0 _ from hqv)
 obtain ⟨A3, k3, rfl⟩ := own_shape (show w.ownsRow base _ _ fv 0 _ from hfv.2.1)
 exact ⟨_, _, _, rfl, hvv.val (by simp; omega), RowsV.nil _ _, RowsV.nil _ _⟩
end Go.Proofs.YtmljohbialacfaaGreatDoor
namespace Go.Proofs.YtmljohbialacfaaGreatDoor
open Go.RowKit
set_option maxRecDepth 100000

attribute [local go_sem] cell_alloc_is
set_option maxHeartbeats 8000000 in
theorem run_over (gF gI : Nat) (v : Value) (w : World) (h : CodeAt w gF gI) (hm : MachV w v (m1 1)) :
  Calls Tryz.prog 13 #[.agg #[.slice (some ⟨gF, 0, none⟩) 1 1, .slice (some ⟨gI, 0, none⟩) 2 2], v, .int .i64 1] w fun e w' => ∃ x, e = .returned x ∧ OMach w' w.heap.size x ⟨4, 16, [], [], [], 10, 1, 1, 2⟩ ∧ Below w.heap.size w w' := by
 have HM := Lib.hid hm
 have HC := Lib.hid h
 obtain ⟨vv, fv, qv, rfl, hv, hf, hq⟩ := hm
 obtain ⟨A1, n1, k1, rfl⟩ := hv.shape
 obtain ⟨A2, n2, k2, rfl⟩ := hf.shape
 obtain ⟨A3, n3, k3, rfl⟩ := hq.shape
 clear hv hf hq h
 have hm1 : (m1 1) = ⟨1, 0, [], [⟨0, 0, [[c7]], []⟩], [], 10, 1, 0, 1⟩ := rfl
 dsimp only [m1] at HM ⊢
 clear hm1
 go_enter Tryz.func13, Tryz.ntmps13
 go_upto_region 1 with fail
 have HB := Lib.hid (below_3 w (.cells #[.slice (some ⟨gF, 0, none⟩) 1 1, .slice (some ⟨gI, 0, none⟩) 2 2] 25) (.cells #[.int .i64 1, .int .i64 0, .slice A1 n1 k1, .slice A2 n2 k2, .slice A3 n3 k3, .int .i64 10, .int .i64 1, .int .i64 0, .int .i64 1] 37) (.cells #[.int .i64 0, .int .i64 0, .slice none 0 0, .slice none 0 0, .slice none 0 0, .int .i64 0, .int .i64 0, .int .i64 0, .int .i64 0] 37))
 have HGC := Lib.hid (((Blk.new w 25 #[.slice (some ⟨gF, 0, none⟩) 1 1, .slice (some ⟨gI, 0, none⟩) 2 2]).alloc (.cells #[.int .i64 1, .int .i64 0, .slice A1 n1 k1, .slice A2 n2 k2, .slice A3 n3 k3, .int .i64 10, .int .i64 1, .int .i64 0, .int .i64 1] 37)).alloc (.cells #[.int .i64 0, .int .i64 0, .slice none 0 0, .slice none 0 0, .slice none 0 0, .int .i64 0, .int .i64 0, .int .i64 0, .int .i64 0] 37))
 have HGM := Lib.hid ((Blk.second w (.cells #[.slice (some ⟨gF, 0, none⟩) 1 1, .slice (some ⟨gI, 0, none⟩) 2 2] 25) 37 #[.int .i64 1, .int .i64 0, .slice A1 n1 k1, .slice A2 n2 k2, .slice A3 n3 k3, .int .i64 10, .int .i64 1, .int .i64 0, .int .i64 1]).alloc (.cells #[.int .i64 0, .int .i64 0, .slice none 0 0, .slice none 0 0, .slice none 0 0, .int .i64 0, .int .i64 0, .int .i64 0, .int .i64 0] 37))
 have HGZ := Lib.hid (Blk.third w (.cells #[.slice (some ⟨gF, 0, none⟩) 1 1, .slice (some ⟨gI, 0, none⟩) 2 2] 25) (.cells #[.int .i64 1, .int .i64 0, .slice A1 n1 k1, .slice A2 n2 k2, .slice A3 n3 k3, .int .i64 10, .int .i64 1, .int .i64 0, .int .i64 1] 37) 37 #[.int .i64 0, .int .i64 0, .slice none 0 0, .slice none 0 0, .slice none 0 0, .int .i64 0, .int .i64 0, .int .i64 0, .int .i64 0])
 obtain ⟨W, hW⟩ : ∃ W, ((w.alloc (.cells #[.slice (some ⟨gF, 0, none⟩) 1 1, .slice (some ⟨gI, 0, none⟩) 2 2] 25)).alloc (.cells #[.int .i64 1, .int .i64 0, .slice A1 n1 k1, .slice A2 n2 k2, .slice A3 n3 k3, .int .i64 10, .int .i64 1, .int .i64 0, .int .i64 1] 37)).alloc (.cells #[.int .i64 0, .int .i64 0, .slice none 0 0, .slice none 0 0, .slice none 0 0, .int .i64 0, .int .i64 0, .int .i64 0, .int .i64 0] 37) = W := ⟨_, rfl⟩
 rw [hW] at HB HGC HGM HGZ ⊢
 obtain ⟨gC, hgC⟩ : ∃ g, w.heap.size = g := ⟨_, rfl⟩
 obtain ⟨gM, hgM⟩ : ∃ g, w.heap.size + 1 = g := ⟨_, rfl⟩
 obtain ⟨gZ, hgZ⟩ : ∃ g, w.heap.size + 1 + 1 = g := ⟨_, rfl⟩
 have HGCe := Lib.hid hgC
 have HCC : Hid (Blk W gC 25 #[.slice (some ⟨gF, 0, none⟩) 1 1, .slice (some ⟨gI, 0, none⟩) 2 2]) := Lib.hid (by rw [← hgC]; exact HGC.out)
 have HMM : Hid (Blk W gM 37 #[.int .i64 1, .int .i64 0, .slice A1 n1 k1, .slice A2 n2 k2, .slice A3 n3 k3, .int .i64 10, .int .i64 1, .int .i64 0, .int .i64 1]) := Lib.hid (by rw [← hgM]; exact HGM.out)
 have HZZ : Hid (Blk W gZ 37 #[.int .i64 0, .int .i64 0, .slice none 0 0, .slice none 0 0, .slice none 0 0, .int .i64 0, .int .i64 0, .int .i64 0, .int .i64 0]) := Lib.hid (by rw [← hgZ]; exact HGZ.out)
 have HLZ : Hid (w.heap.size ≤ gZ) := Lib.hid (by rw [← hgZ]; omega)
 have HLZ2 : Hid (gZ < W.heap.size) := Lib.hid HZZ.out.lt
 rw [hgZ, hgM, hgC]
 have HCW := Lib.hid (HC.out.below HB.out)
 have HMW := Lib.hid (HM.out.below HB.out)
 clear hW hgC hgM hgZ HGC HGM HGZ HC HM
 have HO1 : Hid (Calls Tryz.prog 35 #[.agg #[.int .i64 1, .int .i64 0, .slice A1 n1 k1, .slice A2 n2 k2, .slice A3 n3 k3, .int .i64 10, .int .i64 1, .int .i64 0, .int .i64 1]] W.drew fun e w' => ∃ v', e = .returned v' ∧ OMach w' W.heap.size v' (m1 1) ∧ Below W.heap.size W w') :=
  Lib.hid ((own_any _ _ W.drew HMW.out (by simp) (by simp)).mono fun e w' ⟨v', he, ho, hb⟩ => ⟨v', he, ho, below_call hb (below_drew W)⟩)
 have HO2 : Hid (Calls Tryz.prog 35 #[.agg #[.int .i64 1, .int .i64 0, .slice A1 n1 k1, .slice A2 n2 k2, .slice A3 n3 k3, .int .i64 10, .int .i64 1, .int .i64 0, .int .i64 1]] (W.alloc (.cells #[.slice none 0 0, .slice none 0 0, .int .i64 0, .int .i64 0, .slice none 0 0, .slice none 0 0, .slice none 0 0, .int .i64 0, .int .i64 0, .int .i64 0, .int .i64 0] 69)).drew fun e w' => ∃ v', e = .returned v' ∧ OMach w' W.heap.size v' (m1 1) ∧ Below W.heap.size W w' ∧ Blk w' W.heap.size 69 #[.slice none 0 0, .slice none 0 0, .int .i64 0, .int .i64 0, .slice none 0 0, .slice none 0 0, .slice none 0 0, .int .i64 0, .int .i64 0, .int .i64 0, .int .i64 0]) :=
  Lib.hid ((own_any _ _ (W.alloc (.cells #[.slice none 0 0, .slice none 0 0, .int .i64 0, .int .i64 0, .slice none 0 0, .slice none 0 0, .slice none 0 0, .int .i64 0, .int .i64 0, .int .i64 0, .int .i64 0] 69)).drew (HMW.out.below (below_new W _).drew) (by simp) (by simp)).mono fun e w' ⟨v', he, ho, hb⟩ => ⟨v', he, ho.base (by simp), below_call hb (below_new W _).drew, (Blk.new W 69 #[.slice none 0 0, .slice none 0 0, .int .i64 0, .int .i64 0, .slice none 0 0, .slice none 0 0, .slice none 0 0, .int .i64 0, .int .i64 0, .int .i64 0, .int .i64 0]).drew.below hb⟩)
 have gx := blkCM HCC.out HMM.out
 have gxc := gx
 obtain ⟨x0, x1, y0, y1', y2', y3, y4, y5, y6, y7, y8⟩ := gxc
 clear gx
 go_cut [7] from 9 to 12 (fun u wx => RunCut W W gF gI 1 u wx)
 case first =>
  refine wp_region_held_drew (S := fun w' => w'.cell? ⟨gC, 0, none⟩ = some (.slice (some ⟨gF, 0, none⟩) 1 1) ∧ w'.cell? ⟨gC, 1, none⟩ = some (.slice (some ⟨gI, 0, none⟩) 2 2) ∧ w'.cell? ⟨gM, 0, none⟩ = some (.int .i64 1) ∧ w'.cell? ⟨gM, 1, none⟩ = some (.int .i64 0) ∧ w'.cell? ⟨gM, 2, none⟩ = some (.slice A1 n1 k1) ∧ w'.cell? ⟨gM, 3, none⟩ = some (.slice A2 n2 k2) ∧ w'.cell? ⟨gM, 4, none⟩ = some (.slice A3 n3 k3) ∧ w'.cell? ⟨gM, 5, none⟩ = some (.int .i64 10) ∧ w'.cell? ⟨gM, 6, none⟩ = some (.int .i64 1) ∧ w'.cell? ⟨gM, 7, none⟩ = some (.int .i64 0) ∧ w'.cell? ⟨gM, 8, none⟩ = some (.int .i64 1)) (by kernel_rfl) ⟨x0, x1, y0, y1', y2', y3, y4, y5, y6, y7, y8⟩ (fun hHeld => ?_)
  refine wpAnyH_take (i := 0) (oi := _) (v := .agg #[.slice (some ⟨gF, 0, none⟩) 1 1, .slice (some ⟨gI, 0, none⟩) 2 2]) rfl (by kernel_rfl) (by kernel_rfl) (by kernel_rfl) (fun _ _ _ h => h) (Or.inl ⟨by rfl, by intro w hSw; (try dsimp only at hSw); go_simp⟩) (by assumption) ?_
  simp only [Act.put, List.setIfInBounds_toArray, List.set_cons_zero, List.set_cons_succ]
  refine wpAnyH_take (i := 1) (oi := _) (v := .agg #[.int .i64 1, .int .i64 0, .slice A1 n1 k1, .slice A2 n2 k2, .slice A3 n3 k3, .int .i64 10, .int .i64 1, .int .i64 0, .int .i64 1]) rfl (by kernel_rfl) (by kernel_rfl) (by kernel_rfl) (fun _ _ _ h => h) (Or.inl ⟨by rfl, by intro w hSw; (try dsimp only at hSw); go_simp⟩) (by assumption) ?_
  simp only [Act.put, List.setIfInBounds_toArray, List.set_cons_zero, List.set_cons_succ]
  refine wpAnyH_ready (rs := [2, 4]) (by kernel_rfl) (by simp) ?_
  refine AllReadyH.cons (o := _) rfl (fun K hK => ?_) ?_
  ·go_simp
   with_reducible refine HO1.out.mono ?_
   rintro e w4 ⟨v4, rfl, hom, hb4⟩
   obtain ⟨gR, kR, gL, kL, B1, y1, B2, y2, A, k, A', k', cs, cl, rfl, hown⟩ := own1_of hom
   have HOW4 := Lib.hid hown
   have HC4 := Lib.hid (HCC.out.below hb4)
   have HM4 := Lib.hid (HMM.out.below hb4)
   have HB4 := Lib.hid hb4
   clear hom hown hb4
   go_wp2_with fail
   refine hK.out _ _ (blkCM HC4.out HM4.out) (fun hHeld => ?_)
   clear hK K
   try simp only [Act.put, List.setIfInBounds_toArray, List.set_cons_zero, List.set_cons_succ]
   refine wpAnyH_take (i := 3) (oi := _) (v := .agg #[.slice (some ⟨gF, 0, none⟩) 1 1, .slice (some ⟨gI, 0, none⟩) 2 2, .int .i64 1, .int .i64 0, .slice B1 0 y1, .slice (some ⟨gR, 0, none⟩) 1 kR, .slice B2 0 y2, .int .i64 10, .int .i64 1, .int .i64 0, .int .i64 1]) rfl (by kernel_rfl) (by kernel_rfl) (by kernel_rfl) (fun _ _ _ h => h) (Or.inl ⟨by rfl, by intro w hSw; (try dsimp only at hSw); go_simp⟩) (by assumption) ?_
   simp only [Act.put, List.setIfInBounds_toArray, List.set_cons_zero, List.set_cons_succ]
   refine wpAnyH_ready (rs := [4]) (by kernel_rfl) (by simp) ?_
   refine AllReadyH.cons (o := _) rfl (fun K hK => ?_) AllReadyH.nil
   go_simp
   have HC5 := Lib.hid (HC4.out.alloc (.cells #[.slice none 0 0, .slice none 0 0, .int .i64 0, .int .i64 0, .slice none 0 0, .slice none 0 0, .slice none 0 0, .int .i64 0, .int .i64 0, .int .i64 0, .int .i64 0] 69))
   have HM5 := Lib.hid (HM4.out.alloc (.cells #[.slice none 0 0, .slice none 0 0, .int .i64 0, .int .i64 0, .slice none 0 0, .slice none 0 0, .slice none 0 0, .int .i64 0, .int .i64 0, .int .i64 0, .int .i64 0] 69))
   refine hK.out _ _ (blkCM HC5.out HM5.out) (fun hHeld => ?_)
   clear hK K
   try simp only [Act.put, List.setIfInBounds_toArray, List.set_cons_zero, List.set_cons_succ]
   refine wpAnyH_ready (rs := [5]) (by kernel_rfl) (by simp) ?_
   refine AllReadyH.cons (o := _) rfl (fun K hK => ?_) AllReadyH.nil
   rw [if_pos (by rfl)]
   refine wp_store_row _ _ _ rfl w4.heap.size #[.slice (some ⟨gF, 0, none⟩) 1 1, .slice (some ⟨gI, 0, none⟩) 2 2, .int .i64 1, .int .i64 0, .slice B1 0 y1, .slice (some ⟨gR, 0, none⟩) 1 kR, .slice B2 0 y2, .int .i64 10, .int .i64 1, .int .i64 0, .int .i64 1] rfl rfl 69 _ (Blk.new w4 69 _) (by kernel_rfl) rfl (by simp [Value.oneCell']) ?_
   have HC6 := Lib.hid (HC5.out.row_far (cs' := #[.slice (some ⟨gF, 0, none⟩) 1 1, .slice (some ⟨gI, 0, none⟩) 2 2, .int .i64 1, .int .i64 0, .slice B1 0 y1, .slice (some ⟨gR, 0, none⟩) 1 kR, .slice B2 0 y2, .int .i64 10, .int .i64 1, .int .i64 0, .int .i64 1]) (Nat.ne_of_lt HC4.out.lt))
   have HM6 := Lib.hid (HM5.out.row_far (cs' := #[.slice (some ⟨gF, 0, none⟩) 1 1, .slice (some ⟨gI, 0, none⟩) 2 2, .int .i64 1, .int .i64 0, .slice B1 0 y1, .slice (some ⟨gR, 0, none⟩) 1 kR, .slice B2 0 y2, .int .i64 10, .int .i64 1, .int .i64 0, .int .i64 1]) (Nat.ne_of_lt HM4.out.lt))
   refine hK.out _ _ (blkCM HC6.out HM6.out) (fun hHeld => ?_)
   refine wpAnyH_done (by kernel_rfl) ?_ _
   dsimp only [List.getElem_toArray, List.getElem_cons_succ, List.getElem_cons_zero, Act.put]
   go_wp2_with fail
   go_meet
   exact ⟨w4.heap.size, gR, kR, gL, kL, B1, y1, B2, y2, A, k, A', k', cs, cl, rfl, HB4.out.size, (Blk.new w4 69 _).setRow, (HOW4.out.below (below_new w4 (.cells #[.slice none 0 0, .slice none 0 0, .int .i64 0, .int .i64 0, .slice none 0 0, .slice none 0 0, .slice none 0 0, .int .i64 0, .int .i64 0, .int .i64 0, .int .i64 0] 69))).kt (KT.row (Blk.new w4 69 _) _), below_setRow (HB4.out.alloc HB4.out.size _) HB4.out.size _⟩
  ·refine AllReadyH.cons (o := _) rfl (fun K hK => ?_) AllReadyH.nil
   go_simp
   have HC3 := Lib.hid (HCC.out.alloc (.cells #[.slice none 0 0, .slice none 0 0, .int .i64 0, .int .i64 0, .slice none 0 0, .slice none 0 0, .slice none 0 0, .int .i64 0, .int .i64 0, .int .i64 0, .int .i64 0] 69))
   have HM3 := Lib.hid (HMM.out.alloc (.cells #[.slice none 0 0, .slice none 0 0, .int .i64 0, .int .i64 0, .slice none 0 0, .slice none 0 0, .slice none 0 0, .int .i64 0, .int .i64 0, .int .i64 0, .int .i64 0] 69))
   refine hK.out _ _ (blkCM HC3.out HM3.out) (fun hHeld => ?_)
   clear hK K
   try simp only [Act.put, List.setIfInBounds_toArray, List.set_cons_zero, List.set_cons_succ]
   refine wpAnyH_ready (rs := [2]) (by kernel_rfl) (by simp) ?_
   refine AllReadyH.cons (o := _) rfl (fun K hK => ?_) AllReadyH.nil
   go_simp
   with_reducible refine HO2.out.mono ?_
   rintro e w4 ⟨v4, rfl, hom, hb4, BZ⟩
   obtain ⟨gR, kR, gL, kL, B1, y1, B2, y2, A, k, A', k', cs, cl, rfl, hown⟩ := own1_of hom
   have HOW4 := Lib.hid hown
   have HC4 := Lib.hid (HCC.out.below hb4)
   have HM4 := Lib.hid (HMM.out.below hb4)
   have HB4 := Lib.hid hb4
   have HBZ := Lib.hid BZ
   clear hom hown hb4 BZ
   go_wp2_with fail
   refine hK.out _ _ (blkCM HC4.out HM4.out) (fun hHeld => ?_)
   clear hK K
   try simp only [Act.put, List.setIfInBounds_toArray, List.set_cons_zero, List.set_cons_succ]
   refine wpAnyH_take (i := 3) (oi := _) (v := .agg #[.slice (some ⟨gF, 0, none⟩) 1 1, .slice (some ⟨gI, 0, none⟩) 2 2, .int .i64 1, .int .i64 0, .slice B1 0 y1, .slice (some ⟨gR, 0, none⟩) 1 kR, .slice B2 0 y2, .int .i64 10, .int .i64 1, .int .i64 0, .int .i64 1]) rfl (by kernel_rfl) (by kernel_rfl) (by kernel_rfl) (fun _ _ _ h => h) (Or.inl ⟨by rfl, by intro w hSw; (try dsimp only at hSw); go_simp⟩) (by assumption) ?_
   simp only [Act.put, List.setIfInBounds_toArray, List.set_cons_zero, List.set_cons_succ]
   refine wpAnyH_ready (rs := [5]) (by kernel_rfl) (by simp) ?_
   refine AllReadyH.cons (o := _) rfl (fun K hK => ?_) AllReadyH.nil
   rw [if_pos (by rfl)]
   refine wp_store_row _ _ _ rfl W.heap.size #[.slice (some ⟨gF, 0, none⟩) 1 1, .slice (some ⟨gI, 0, none⟩) 2 2, .int .i64 1, .int .i64 0, .slice B1 0 y1, .slice (some ⟨gR, 0, none⟩) 1 kR, .slice B2 0 y2, .int .i64 10, .int .i64 1, .int .i64 0, .int .i64 1] rfl rfl 69 _ HBZ.out (by kernel_rfl) rfl (by simp [Value.oneCell']) ?_
   have HC6 := Lib.hid (HC4.out.row_far (cs' := #[.slice (some ⟨gF, 0, none⟩) 1 1, .slice (some ⟨gI, 0, none⟩) 2 2, .int .i64 1, .int .i64 0, .slice B1 0 y1, .slice (some ⟨gR, 0, none⟩) 1 kR, .slice B2 0 y2, .int .i64 10, .int .i64 1, .int .i64 0, .int .i64 1]) (Nat.ne_of_lt HCC.out.lt))
   have HM6 := Lib.hid (HM4.out.row_far (cs' := #[.slice (some ⟨gF, 0, none⟩) 1 1, .slice (some ⟨gI, 0, none⟩) 2 2, .int .i64 1, .int .i64 0, .slice B1 0 y1, .slice (some ⟨gR, 0, none⟩) 1 kR, .slice B2 0 y2, .int .i64 10, .int .i64 1, .int .i64 0, .int .i64 1]) (Nat.ne_of_lt HMM.out.lt))
   refine hK.out _ _ (blkCM HC6.out HM6.out) (fun hHeld => ?_)
   refine wpAnyH_done (by kernel_rfl) ?_ _
   dsimp only [List.getElem_toArray, List.getElem_cons_succ, List.getElem_cons_zero, Act.put]
   go_wp2_with fail
   go_meet
   exact ⟨W.heap.size, gR, kR, gL, kL, B1, y1, B2, y2, A, k, A', k', cs, cl, rfl, Nat.le_refl _, HBZ.out.setRow, HOW4.out.kt (KT.row HBZ.out _), below_setRow HB4.out (Nat.le_refl _) _⟩
 case rest =>
  obtain ⟨gE, gR, kR, gL, kL, B1, y1, B2, y2, A, k, A', k', cs, cl, rfl, hgE, hE, hown, hbc⟩ := hcut
  have HE := Lib.hid hE
  have HOW := Lib.hid hown
  have HBc := Lib.hid hbc
  have HCc := Lib.hid (HCW.out.below hbc)
  have HZc := Lib.hid (HZZ.out.below hbc)
  have HWc : Hid (Below w.heap.size w wc) := Lib.hid (below_call hbc HB.out)
  clear hE hown hbc x0 x1 y0 y1' y2' y3 y4 y5 y6 y7 y8
  have hb : W.heap.size ≤ wc.heap.size := HBc.out.size
  go_wp2_with (first
   | (go_at_call 36; with_reducible refine (actions_ok _).mono ?_; rintro e w2 ⟨gT, rfl, hT, hb2⟩; have HT2 := Lib.hid hT; have HB2 := Lib.hid (below_call hb2 HBc.out); have HE2 := Lib.hid (HE.out.below hb2); have HOW2 := Lib.hid (HOW.out.below hb2); have HC2 := Lib.hid (HCc.out.below hb2); clear hT hb2))
  have HX2 : Hid (XSt w2 W.heap.size gF gI gE gR kR gL kL (.slice B1 0 y1) (.slice B2 0 y2) 10 1 0 1 0 (.slice A' 0 k') A k cs cl) := Lib.hid ⟨HE2.out, HC2.out, HOW2.out.hR, HOW2.out.c0, HOW2.out.c1, HOW2.out.c2, HOW2.out.c3, HOW2.out.hL, HOW2.out.l0, HOW2.out.hV, HOW2.out.kR1, HOW2.out.kL1⟩
  have e2 := blkE HE2.out
  have HS2 := Lib.hid (step_over W.heap.size gF gI gE gR kR gL kL gT y1 y2 k k' 1 B1 B2 A A' cs cl w2 HX2.out HOW2.out.hsv HOW2.out.hne HT2.out hgE HOW2.out.bR HB2.out.size)
  refine wp_loop_rounds 2 ?_
  rw [rounds_succ]
  go_wp2_with (first
   | (go_at_call 37; (with_reducible refine HS2.out.mono ?_); rintro e w3 ⟨rfl, hE3, hb3⟩; have HE3 : Hid (Blk w3 gE 69 (exC gF gI 4 16 (.slice none 0 0) (.slice none 0 0) (.slice B2 0 y2) 10 1 1 2)) := Lib.hid hE3; have HB3 := Lib.hid (HB2.out.trans hb3); clear hE3 hb3 e2 HS2))
  rw [rounds_succ]
  have e3 := blkE HE3.out
  have HZ3 : Hid (Blk w3 gZ 37 _) := Lib.hid ((HB3.out.block gZ HLZ2.out).trans HZZ.out)
  have HO3 : Hid (Calls Tryz.prog 35 #[.agg #[.int .i64 4, .int .i64 16, .slice none 0 0, .slice none 0 0, .slice B2 0 y2, .int .i64 10, .int .i64 1, .int .i64 1, .int .i64 2]] w3 fun e w' => ∃ v', e = .returned v' ∧ OMach w' w3.heap.size v' ⟨4, 16, [], [], [], 10, 1, 1, 2⟩ ∧ Below w3.heap.size w3 w') := Lib.hid (own_any ⟨4, 16, [], [], [], 10, 1, 1, 2⟩ _ w3 ⟨_, _, _, rfl, RowsV.nil _ _, RowsV.nil _ _, RowsV.nil _ _⟩ (by simp) (by simp))
  have HW3 : Hid (Below w.heap.size w w3) := Lib.hid (below_call HB3.out HB.out)
  go_wp2_with (first
   | (go_at_call 35; (with_reducible refine HO3.out.mono ?_); rintro e w4 ⟨v4, rfl, ho4, hb4⟩; obtain ⟨C1, l1, z1, C2, l2, z2, C3, l3, z3, rfl⟩ := ho4.shape; have HO4 := Lib.hid ho4; have HZ4 := Lib.hid (HZ3.out.below hb4); have HW4 := Lib.hid (below_call hb4 HW3.out); clear ho4 hb4)
   | (refine wpList_store_row rfl 37 (.tmp 6) (.tmp 28) rfl gZ #[.int .i64 4, .int .i64 16, .slice C1 l1 z1, .slice C2 l2 z2, .slice C3 l3 z3, .int .i64 10, .int .i64 1, .int .i64 1, .int .i64 2] rfl rfl 37 _ HZ4.out (by kernel_rfl) rfl (by simp [Value.oneCell']) ?_))
  have HZ5 := Lib.hid (HZ4.out.setRow (cs' := #[.int .i64 4, .int .i64 16, .slice C1 l1 z1, .slice C2 l2 z2, .slice C3 l3 z3, .int .i64 10, .int .i64 1, .int .i64 1, .int .i64 2]))
  have HO5 := Lib.hid (HO4.out.kt (KT.row HZ4.out #[.int .i64 4, .int .i64 16, .slice C1 l1 z1, .slice C2 l2 z2, .slice C3 l3 z3, .int .i64 10, .int .i64 1, .int .i64 1, .int .i64 2]))
  have HW5 := Lib.hid (below_setRow HW4.out HLZ.out #[.int .i64 4, .int .i64 16, .slice C1 l1 z1, .slice C2 l2 z2, .slice C3 l3 z3, .int .i64 10, .int .i64 1, .int .i64 1, .int .i64 2])
  obtain ⟨w5, hw5⟩ : ∃ w5, w4.setRow gZ #[.int .i64 4, .int .i64 16, .slice C1 l1 z1, .slice C2 l2 z2, .slice C3 l3 z3, .int .i64 10, .int .i64 1, .int .i64 1, .int .i64 2] = w5 := ⟨_, rfl⟩
  rw [hw5] at HZ5 HO5 HW5
  try rw [hw5]
  clear hw5
  have gz := blk9 HZ5.out
  refine bodyPost_ret (v := .agg #[.int .i64 4, .int .i64 16, .slice C1 l1 z1, .slice C2 l2 z2, .slice C3 l3 z3, .int .i64 10, .int .i64 1, .int .i64 1, .int .i64 2]) (by simp [results, Tryz.results13, go_sem, gz]) rfl ?_
  exact ⟨_, rfl, HO5.out.base HW3.out.size, HW5.out⟩
end Go.Proofs.YtmljohbialacfaaGreatDoor
