/- The machines wake: a machine that own has made, opened. -/
import Derived.Test.YtemakcaojdoakaaGreatDoorD20
import Derived.Test.YtemakcaojdoakaaGreatDoorD19
import Derived.Test.YtemakcaojdoakaaGreatDoorC11
import Derived.Test.YtemakcaojdoakaaGreatDoorC15
namespace Go.Proofs.YtemakcaojdoakaaGreatDoor
open Go.RowKit
set_option maxRecDepth 100000

/-- What a started machine is made of in memory. -/
structure Own1 (w : World) (base gR kR gL kL : Nat) (A A' : Option Addr) (k k' : Nat) (cs cl : Array Value) : Prop where
  hR : Blk w gR 37 cs
  c0 : cs[0]? = some (.int .i64 0)
  c1 : cs[1]? = some (.int .i64 0)
  c2 : cs[2]? = some (.slice (some ⟨gL, 0, none⟩) 1 kL)
  c3 : cs[3]? = some (.slice A' 0 k')
  hL : Blk w gL 24 cl
  l0 : cl[0]? = some (.slice A 1 k)
  hV : OVal w base (.slice A 1 k) [c7]
  kR1 : 1 ≤ kR
  kL1 : 1 ≤ kL
  hsv : w.ownsRow base 24 1 (.slice A' 0 k') 0 []
  hne : some gL ≠ (Value.slice A' 0 k').ownBlock
  bR : base ≤ gR
theorem Own1.below {w w' : World} {base gR kR gL kL : Nat} {A A' : Option Addr} {k k' : Nat} {cs cl : Array Value} (h : Own1 w base gR kR gL kL A A' k k' cs cl) (hb : Below w.heap.size w w') : Own1 w' base gR kR gL kL A A' k k' cs cl :=
  ⟨h.hR.below hb, h.c0, h.c1, h.c2, h.c3, h.hL.below hb, h.l0, h.hV.below hb, h.kR1, h.kL1, own_below h.hsv hb, h.hne, h.bR⟩
theorem Own1.kt {w w' : World} {base gR kR gL kL : Nat} {A A' : Option Addr} {k k' : Nat} {cs cl : Array Value} (h : Own1 w base gR kR gL kL A A' k k' cs cl) (K : KT 76 w w') : Own1 w' base gR kR gL kL A A' k k' cs cl :=
  ⟨K.blk (by decide) h.hR, h.c0, h.c1, h.c2, h.c3, K.blk (by decide) h.hL, h.l0, K.oval (by decide) h.hV, h.kR1, h.kL1, K.own (by decide) h.hsv, h.hne, h.bR⟩
theorem Own1.base {w : World} {base base' gR kR gL kL : Nat} {A A' : Option Addr} {k k' : Nat} {cs cl : Array Value} (h : Own1 w base gR kR gL kL A A' k k' cs cl) (hb : base' ≤ base) : Own1 w base' gR kR gL kL A A' k k' cs cl :=
  ⟨h.hR, h.c0, h.c1, h.c2, h.c3, h.hL, h.l0, h.hV.base hb, h.kR1, h.kL1, own_base h.hsv hb, h.hne, Nat.le_trans hb h.bR⟩
theorem ownBlk4 {w : World} {base : Nat} {t : TypeId} {v a b c d : Value} (h : w.ownsRow base t 4 v 1 [a, b, c, d]) : ∃ g k cs, v = .slice (some ⟨g, 0, none⟩) 1 k ∧ Blk w g t cs ∧ cs[0]? = some a ∧ cs[1]? = some b ∧ cs[2]? = some c ∧ cs[3]? = some d ∧ 1 ≤ k ∧ base ≤ g := by
  rcases h.2 with ⟨_, h1⟩ | ⟨g', cap, cur, e, hb, h2, h3, _, _, h5⟩
  · cases h1
  · have ha : ∀ j, j < 4 → cur[j]? = ([a, b, c, d] : List Value)[j]? := fun j hj => by
      rw [← h5, List.getElem?_take, if_pos (by omega)]
      simp
    exact ⟨g', cap, cur, e, h2, (ha 0 (by omega)).trans rfl, (ha 1 (by omega)).trans rfl, (ha 2 (by omega)).trans rfl, (ha 3 (by omega)).trans rfl, h3, hb⟩
theorem own1_of {w : World} {base : Nat} {v : Value} {lm : Int} (h : OMach w base v (m1 lm)) : ∃ gR kR gL kL A1 k1 A2 k2 A k A' k' cs cl, v = .agg #[.int .i64 1, .int .i64 0, .slice A1 0 k1, .slice (some ⟨gR, 0, none⟩) 1 kR, .slice A2 0 k2, .int .i64 10, .int .i64 lm, .int .i64 0, .int .i64 1] ∧ Own1 w base gR kR gL kL A A' k k' cs cl := by
  obtain ⟨vv, fv, qv, ps, rfl, hvv, hfv, vs, hvl, hqv, _⟩ := h
  obtain ⟨A1, k1, rfl⟩ := own_shape (show w.ownsRow base _ _ vv 0 _ from hvv)
  obtain ⟨A2, k2, rfl⟩ := own_shape (show w.ownsRow base _ _ qv 0 _ from hqv)
  obtain ⟨hpl, hfo, hnd, hps⟩ := hfv
  match ps, hpl with
  | [(lv, sv)], _ =>
    obtain ⟨h1, h2⟩ := hps 0 (by simp) (by simp [m1])
    obtain ⟨vl, e1, e2, e3⟩ : OVals w base lv [[c7]] := h1
    obtain ⟨vk, f1, f2, _⟩ : OVals w base sv [] := h2
    obtain ⟨x, rfl⟩ : ∃ x, vl = [x] := by
      match vl, e2 with
      | [x], _ => exact ⟨x, rfl⟩
    have hx : OVal w base x [c7] := e3 0 (by simp) (by simp)
    obtain ⟨A, k, rfl⟩ := OVal.one hx
    obtain ⟨gL, kL, rfl⟩ := oneShape (show w.ownsRow base _ 1 lv 1 _ from e1)
    obtain ⟨cl, hL, hl0, hkL⟩ := ownBlk1 e1
    obtain ⟨A', k', rfl⟩ := own_shape (show w.ownsRow base _ 1 sv 0 _ from f1)
    obtain ⟨gR, kR, cs, rfl, hR, q0, q1, q2, q3, hkR, hbR⟩ := ownBlk4 (show w.ownsRow base _ 4 fv 1 [.int .i64 0, .int .i64 0, .slice (some ⟨gL, 0, none⟩) 1 kL, .slice A' 0 k'] from hfo)
    have hvk : vk = [] := List.eq_nil_of_length_eq_zero f2
    subst hvk
    refine ⟨gR, kR, gL, kL, A1, k1, A2, k2, A, k, A', k', cs, cl, rfl, hR, q0, q1, q2, q3, hL, hl0, hx, hkR, hkL, f1, ?_, hbR⟩
    intro e
    have : (blocks [((Value.slice (some ⟨gL, 0, none⟩) 1 kL), (Value.slice A' 0 k'))]).Nodup := hnd
    simp only [blocks, List.flatMap_cons, List.flatMap_nil, List.append_nil] at this
    rw [← e] at this
    simp [Value.ownBlock] at this

/-- Behind the statement that makes the executor. -/
def RunCut (w0 W : World) (gF gI : Nat) (lm : Int) (u : Value) (wx : World) : Prop :=
  ∃ gE gR kR gL kL A1 k1 A2 k2 A k A' k' cs cl, u = .pointer (some ⟨gE, 0, none⟩) ∧ w0.heap.size ≤ gE ∧ Blk wx gE 76 (exC gF gI 1 0 (.slice A1 0 k1) (.slice (some ⟨gR, 0, none⟩) 1 kR) (.slice A2 0 k2) 10 lm 0 1) ∧ Own1 wx w0.heap.size gR kR gL kL A A' k k' cs cl ∧ Below W.heap.size W wx
def exZ : Array Value := #[.slice none 0 0, .slice none 0 0, .int .i64 0, .int .i64 0, .slice none 0 0, .slice none 0 0, .slice none 0 0, .int .i64 0, .int .i64 0, .int .i64 0, .int .i64 0]
theorem OMach.base {w : World} {base base' : Nat} {v : Value} {m : MachD} (h : OMach w base v m) (hb : base' ≤ base) : OMach w base' v m := by
  obtain ⟨vv, fv, qv, ps, e, hvv, ⟨f1, f2, f3, f4⟩, vs, q1, q2, q3⟩ := h
  exact ⟨vv, fv, qv, ps, e, hvv.base hb, ⟨f1, own_base f2 hb, f3, fun i a b => ⟨(f4 i a b).1.base hb, (f4 i a b).2.base hb⟩⟩, vs, q1, own_base q2 hb, fun i a b => (q3 i a b).base hb⟩
theorem OMach.kt {w w' : World} {base : Nat} {v : Value} {m : MachD} (h : OMach w base v m) (K : KT 30 w w') : OMach w' base v m := by
  obtain ⟨vv, fv, qv, ps, e, hvv, hfv, hqv⟩ := h
  exact ⟨vv, fv, qv, ps, e, K.oval (by decide) hvv, K.oframes (by decide) (by decide) (by decide) hfv, K.oreqs (by decide) (by decide) (by decide) hqv⟩
theorem OMach.shape {w : World} {base : Nat} {v : Value} {m : MachD} (h : OMach w base v m) : ∃ A1 n1 k1 A2 n2 k2 A3 n3 k3, v = .agg #[.int .i64 m.status, .int .i64 m.err, .slice A1 n1 k1, .slice A2 n2 k2, .slice A3 n3 k3, .int .i64 m.lsteps, .int .i64 m.lmem, .int .i64 m.steps, .int .i64 m.peak] := by
  obtain ⟨vv, fv, qv, ps, rfl, hvv, hfv, vs, _, hqv, _⟩ := h
  obtain ⟨A1, k1, rfl⟩ := own_shape hvv
  obtain ⟨A2, k2, rfl⟩ := own_shape hfv.2.1
  obtain ⟨A3, k3, rfl⟩ := own_shape hqv
  exact ⟨_, _, _, _, _, _, _, _, _, rfl⟩
/-- The facts of the two boxes, as the region reads them. -/
theorem blkCM {w : World} {g h : Nat} {u0 u1 v0 v1 v2 v3 v4 v5 v6 v7 v8 : Value} (h1 : Blk w g 49 #[u0, u1]) (h2 : Blk w h 30 #[v0, v1, v2, v3, v4, v5, v6, v7, v8]) :
    w.cell? ⟨g, 0, none⟩ = some u0 ∧ w.cell? ⟨g, 1, none⟩ = some u1 ∧ w.cell? ⟨h, 0, none⟩ = some v0 ∧ w.cell? ⟨h, 1, none⟩ = some v1 ∧ w.cell? ⟨h, 2, none⟩ = some v2 ∧ w.cell? ⟨h, 3, none⟩ = some v3 ∧ w.cell? ⟨h, 4, none⟩ = some v4 ∧ w.cell? ⟨h, 5, none⟩ = some v5 ∧ w.cell? ⟨h, 6, none⟩ = some v6 ∧ w.cell? ⟨h, 7, none⟩ = some v7 ∧ w.cell? ⟨h, 8, none⟩ = some v8 :=
  ⟨h1.cell 0 _ rfl, h1.cell 1 _ rfl, h2.cell 0 _ rfl, h2.cell 1 _ rfl, h2.cell 2 _ rfl, h2.cell 3 _ rfl, h2.cell 4 _ rfl, h2.cell 5 _ rfl, h2.cell 6 _ rfl, h2.cell 7 _ rfl, h2.cell 8 _ rfl⟩
/-- What own hands on, with one frame or none, as a machine. -/
theorem mach_one {w : World} {base : Nat} {v : Value} {ls lm sp pk pc : Int} (h : OMach w base v ⟨1, 0, [], [⟨0, pc, [[c7]], [[c7]]⟩], [], ls, lm, sp, pk⟩) : MachV w v ⟨1, 0, [], [⟨0, pc, [[c7]], [[c7]]⟩], [], ls, lm, sp, pk⟩ := by
  obtain ⟨vv, fv, qv, ps, rfl, hvv, hfv, vs, hvl, hqv, _⟩ := h
  obtain ⟨A1, k1, rfl⟩ := own_shape (show w.ownsRow base _ _ vv 0 _ from hvv)
  obtain ⟨A2, k2, rfl⟩ := own_shape (show w.ownsRow base _ _ qv 0 _ from hqv)
  obtain ⟨hpl, hfo, hnd, hps⟩ := hfv
  match ps, hpl with
  | [(lv, sv)], _ =>
    obtain ⟨h1, h2⟩ := hps 0 (by simp) (by simp)
    obtain ⟨gR, kR, cs, rfl, _⟩ := ownBlk4 (show w.ownsRow base _ 4 fv 1 [.int .i64 0, .int .i64 pc, lv, sv] from hfo)
    exact ⟨_, _, _, rfl, RowsV.nil _ _, framesOne hfo (OVals.vals h1 (by simp) (by simp)) (OVals.vals h2 (by simp) (by simp)), RowsV.nil _ _⟩
theorem mach_none {w : World} {base : Nat} {v : Value} {va : ValD} {st er ls lm sp pk : Int} (h : OMach w base v ⟨st, er, va, [], [], ls, lm, sp, pk⟩) (hl : va.length ≤ 1) : MachV w v ⟨st, er, va, [], [], ls, lm, sp, pk⟩ := by
  obtain ⟨vv, fv, qv, ps, rfl, hvv, hfv, vs, hvl, hqv, _⟩ := h
  obtain ⟨A2, k2, rfl⟩ := own_shape (show w.ownsRow base _ _ qv 0 _ from hqv)
  obtain ⟨A3, k3, rfl⟩ := own_shape (show w.ownsRow base _ _ fv 0 _ from hfv.2.1)
  exact ⟨_, _, _, rfl, hvv.val (by simp; omega), RowsV.nil _ _, RowsV.nil _ _⟩
end Go.Proofs.YtemakcaojdoakaaGreatDoor
