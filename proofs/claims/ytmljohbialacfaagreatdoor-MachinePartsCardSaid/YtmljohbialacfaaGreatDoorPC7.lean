/- GC4, GC6, C7 -/
import Derived.Test.YtmljohbialacfaaGreatDoorPGN0
import Derived.ArgAppend
import Derived.BigQuiet
import Derived.Deep.DeepCutAuto
import Derived.Deep.LoopGhost
import Derived.Deep.QuietTactic
import Derived.Deep.RegionHeld3
import Derived.Laws.CopyOwn
import Derived.Laws.Rows
import Derived.Test.YtmljohbialacfaaGreatDoorProg
set_option linter.unusedVariables false
set_option linter.unusedSimpArgs false
set_option linter.unusedVariables false
set_option linter.unusedSimpArgs false
namespace Go.Proofs.YtmljohbialacfaaGreatDoor
open Go.RowKit
theorem below_drewN {B : Nat} {a w : World} (h : Below B a w) (n : Nat) : Below B a (w.drewN n) := ⟨h.os, h.tape, h.output, h.size, h.block⟩
theorem below_drew (w : World) : Below w.heap.size w w.drew := ⟨rfl, rfl, rfl, Nat.le_refl _, fun _ _ => rfl⟩
theorem toList_beq (a b : ByteArray) : (a.toList == b.toList) = decide (a = b) := by
 rw [Bool.eq_iff_iff]
 simp only [beq_iff_eq, decide_eq_true_eq]
 constructor
 ·intro h
  have : a.data.toList = b.data.toList := by simpa [ByteArray.toList_eq] using h
  cases a; cases b; simp at this; simpa using this
 ·rintro rfl; rfl
/-- A quiet call behind draws. -/
theorem quiet_add {P : Program} {f : FuncId} {args : Array Value} {w : World} {a n : Nat} {v : Value}
  (h : Calls P f args (w.drewN (a + n)) fun e w' => e = .returned v ∧ ∃ m, w' = (w.drewN (a + n)).drewN m) :
  Calls P f args (w.drewN (a + n)) fun e w'' => e = .returned v ∧ ∃ m, w'' = w.drewN (a + m) :=
 h.mono fun _ _ ⟨he, m, hm⟩ => ⟨he, n + m, by rw [hm, World.drewN_drewN, Nat.add_assoc]⟩
theorem Blk.setRow {w : World} {g : Nat} {t : TypeId} {cs cs' : Array Value} (h : Blk w g t cs) : Blk (w.setRow g cs') g t cs' := setRow_heap w g cs cs' t (0, 0) h
theorem Blk.row_far {w : World} {g g' : Nat} {t : TypeId} {cs cs' : Array Value} (h : Blk w g t cs) (hne : g ≠ g') : Blk (w.setRow g' cs') g t cs := (setRow_other w g' g cs' hne).trans h
theorem below_2 (w : World) (o1 o2 : Obj) : Below w.heap.size w ((w.alloc o1).alloc o2) := ((Below.refl _ _).alloc (Nat.le_refl _) o1).alloc (by simp) o2
theorem below_3 (w : World) (o1 o2 o3 : Obj) : Below w.heap.size w (((w.alloc o1).alloc o2).alloc o3) := (((Below.refl _ _).alloc (Nat.le_refl _) o1).alloc (by simp) o2).alloc (by simp; omega) o3
theorem Blk.second (w : World) (o : Obj) (t : TypeId) (cs : Array Value) : Blk ((w.alloc o).alloc (.cells cs t)) (w.heap.size + 1) t cs := by
 have := Blk.new (w.alloc o) t cs
 simpa using this
theorem blk2 {w : World} {g : Nat} {t : TypeId} {v0 v1 : Value} (h : Blk w g t #[v0, v1]) : w.cell? ⟨g, 0, none⟩ = some v0 ∧ w.cell? ⟨g, 1, none⟩ = some v1 := ⟨h.cell 0 _ rfl, h.cell 1 _ rfl⟩
theorem blk4 {w : World} {g : Nat} {t : TypeId} {v0 v1 v2 v3 : Value} (h : Blk w g t #[v0, v1, v2, v3]) : w.cell? ⟨g, 0, none⟩ = some v0 ∧ w.cell? ⟨g, 1, none⟩ = some v1 ∧ w.cell? ⟨g, 2, none⟩ = some v2 ∧ w.cell? ⟨g, 3, none⟩ = some v3 :=
 ⟨h.cell 0 _ rfl, h.cell 1 _ rfl, h.cell 2 _ rfl, h.cell 3 _ rfl⟩
theorem blk9 {w : World} {g : Nat} {t : TypeId} {v0 v1 v2 v3 v4 v5 v6 v7 v8 : Value} (h : Blk w g t #[v0, v1, v2, v3, v4, v5, v6, v7, v8]) :
  w.cell? ⟨g, 0, none⟩ = some v0 ∧ w.cell? ⟨g, 1, none⟩ = some v1 ∧ w.cell? ⟨g, 2, none⟩ = some v2 ∧ w.cell? ⟨g, 3, none⟩ = some v3 ∧ w.cell? ⟨g, 4, none⟩ = some v4 ∧ w.cell? ⟨g, 5, none⟩ = some v5 ∧ w.cell? ⟨g, 6, none⟩ = some v6 ∧ w.cell? ⟨g, 7, none⟩ = some v7 ∧ w.cell? ⟨g, 8, none⟩ = some v8 :=
 ⟨h.cell 0 _ rfl, h.cell 1 _ rfl, h.cell 2 _ rfl, h.cell 3 _ rfl, h.cell 4 _ rfl, h.cell 5 _ rfl, h.cell 6 _ rfl, h.cell 7 _ rfl, h.cell 8 _ rfl⟩
/-- Two variables that were made in some order. -/
def TwoBlk (w : World) (t : TypeId) (ca cb : Array Value) (u v : Value) (wx : World) : Prop :=
 ∃ g1 g2, u = .pointer (some ⟨g1, 0, none⟩) ∧ v = .pointer (some ⟨g2, 0, none⟩) ∧ Blk wx g1 t ca ∧ Blk wx g2 t cb ∧ Below w.heap.size w wx
theorem twoBlk_12 (w : World) (t : TypeId) (ca cb : Array Value) : TwoBlk w t ca cb (.pointer (some ⟨w.heap.size, 0, none⟩)) (.pointer (some ⟨w.heap.size + 1, 0, none⟩)) ((w.alloc (.cells ca t)).alloc (.cells cb t)).drew :=
 ⟨_, _, rfl, rfl, (Blk.new w t ca).alloc _, Blk.second _ _ _ _, (below_2 _ _ _).drew⟩
theorem twoBlk_21 (w : World) (t : TypeId) (ca cb : Array Value) : TwoBlk w t ca cb (.pointer (some ⟨w.heap.size + 1, 0, none⟩)) (.pointer (some ⟨w.heap.size, 0, none⟩)) ((w.alloc (.cells cb t)).alloc (.cells ca t)).drew :=
 ⟨_, _, rfl, rfl, Blk.second _ _ _ _, (Blk.new w t cb).alloc _, (below_2 _ _ _).drew⟩
end Go.Proofs.YtmljohbialacfaaGreatDoor
namespace Go.Proofs.YtmljohbialacfaaGreatDoor
open Go.RowKit
set_option maxRecDepth 100000
def eqV (a b : ValD) : Bool := decide (a = b)
theorem take_succ_eq {α : Type} {a b : List α} {n : Nat} (ha : n < a.length) (hb : n < b.length) (h : a.take n = b.take n) (e : a[n] = b[n]) : a.take (n + 1) = b.take (n + 1) := by
 rw [List.take_succ_eq_append_getElem ha, List.take_succ_eq_append_getElem hb, h, e]
/-- Two cells that are not equal: the first field that tells them apart, as the walk spells the test. -/
theorem cell_ne {k1 k2 i1 i2 n1 n2 : Int} {s1 s2 : ByteArray} (h : ¬ (k1 = k2 ∧ i1 = i2 ∧ s1 = s2 ∧ n1 = n2)) :
  (k1 == k2) = false ∨ (k1 = k2 ∧ (i1 == i2) = false) ∨ (k1 = k2 ∧ i1 = i2 ∧ (s1.toList == s2.toList) = false) ∨ (k1 = k2 ∧ i1 = i2 ∧ s1 = s2 ∧ (n1 == n2) = false) := by
 by_cases a : k1 = k2
 ·by_cases b : i1 = i2
  ·by_cases c : s1 = s2
   ·exact .inr (.inr (.inr ⟨a, b, c, by simpa using fun d => h ⟨a, b, c, d⟩⟩))
   ·exact .inr (.inr (.inl ⟨a, b, by rw [toList_beq]; simpa using c⟩))
  ·exact .inr (.inl ⟨a, by simpa using b⟩)
 ·exact .inl (by simpa using a)
attribute [local go_sem] cell_alloc_is
set_option maxHeartbeats 1000000 in
theorem cells_any (a b : ValD) (va vb : Value) (w : World) (ha : ValV w va a) (hb : ValV w vb b) :
  Calls Tryz.prog 21 #[va, vb] w fun e w' => e = .returned (.bool (eqV a b)) ∧ ∃ q, w' = w.drewN q := by
 obtain ⟨A, cap, rfl, hca, hma, hsa⟩ := ha.at
 obtain ⟨B, cbp, rfl, hcb, hmb, hsb⟩ := hb.at
 clear ha hb
 by_cases hl : b.length = a.length
 ·rw [hl]
  have HL := Lib.hid hl
  clear hl
  go_enter Tryz.func21, Tryz.ntmps21
  go_wp2
  go_loopw [13] (fun i wr => ∃ n q : Nat, n ≤ a.length ∧ i = .int .i64 n ∧ wr = w.drewN q ∧ Hid (a.take n = b.take n)) (fun i _ => a.length - (intOf i).toNat)
  case atStart => exact ⟨0, 0, Nat.zero_le _, rfl, rfl, Lib.hid rfl⟩
  case round =>
   obtain ⟨n, q, hn, rfl, rfl, HT⟩ := hrel
   by_cases hlt : n < a.length
   ·have hltb : n < b.length := by rw [HL.out]; exact hlt
    have hlt' : (n : Int) < (a.length : Int) := by omega
    have hn0 : (0 : Int) ≤ (n : Int) := by omega
    obtain ⟨bA, off, rfl, _⟩ := hsa.ptr hlt
    obtain ⟨bB, off', rfl, _⟩ := hsb.ptr hltb
    obtain ⟨⟨k1, i1, s1, n1⟩, h1⟩ : ∃ c, a[n] = c := ⟨_, rfl⟩
    obtain ⟨⟨k2, i2, s2, n2⟩, h2⟩ : ∃ c, b[n] = c := ⟨_, rfl⟩
    have c0 := hsa.cell0 hlt (v := .int .i64 k1) (by rw [h1]; rfl)
    have c1 := hsa.cell hlt (j := 1) (v := .int .i64 i1) (by rw [h1]; rfl)
    have c2 := hsa.cell hlt (j := 2) (v := .string s1) (by rw [h1]; rfl)
    have c3 := hsa.cell hlt (j := 3) (v := .int .i64 n1) (by rw [h1]; rfl)
    have d0 := hsb.cell0 hltb (v := .int .i64 k2) (by rw [h2]; rfl)
    have d1 := hsb.cell hltb (j := 1) (v := .int .i64 i2) (by rw [h2]; rfl)
    have d2 := hsb.cell hltb (j := 2) (v := .string s2) (by rw [h2]; rfl)
    have d3 := hsb.cell hltb (j := 3) (v := .int .i64 n2) (by rw [h2]; rfl)
    have H1 := Lib.hid h1
    have H2 := Lib.hid h2
    clear h1 h2
    by_cases he : k1 = k2 ∧ i1 = i2 ∧ s1 = s2 ∧ n1 = n2
    ·obtain ⟨rfl, rfl, rfl, rfl⟩ := he
     have HT2 := Lib.hid (take_succ_eq hlt hltb HT.out (H1.out.trans H2.out.symm))
     go_wp2
     go_quiet (fail)
     go_wp2
     refine ⟨⟨n + 1, _, by omega, by simp, rfl, HT2⟩, by simp [intOf]; omega⟩
    ·have HE : Hid (eqV a b = false) := Lib.hid (by
      unfold eqV; rw [decide_eq_false_iff_not]; rintro rfl
      have := H1.out.symm.trans H2.out
      simp at this; exact he this)
     rcases cell_ne he with ha | ⟨rfl, ha⟩ | ⟨rfl, rfl, ha⟩ | ⟨rfl, rfl, rfl, ha⟩
     all_goals
      clear he
      go_wp2
      go_quiet (fail)
      go_wp2
      go_ret
      exact ⟨by rw [HE.out]; rfl, _, World.drewN_drewN _ _ _⟩
   ·have e : n = a.length := by omega
    subst e
    have HE : Hid (eqV a b = true) := Lib.hid (by
     have := HT.out
     rw [List.take_length, ← HL.out, List.take_length] at this
     simp [eqV, this])
    go_wp2
    go_ret
    exact ⟨by rw [HE.out]; rfl, q, rfl⟩
 ·have e : eqV a b = false := by
   unfold eqV; rw [decide_eq_false_iff_not]; rintro rfl; exact hl rfl
  have HE := Lib.hid e
  have hl' : ((a.length : Int) != (b.length : Int)) = true := by simp; omega
  clear hl e
  go_enter Tryz.func21, Tryz.ntmps21
  go_wp2
  go_ret
  exact ⟨by rw [HE.out]; rfl, 0, rfl⟩
set_option maxHeartbeats 1000000 in
theorem equal_any (a b : ValD) (va vb : Value) (w : World) (ha : ValV w va a) (hb : ValV w vb b) :
  Calls Tryz.prog 186 #[va, vb] w fun e w' => e = .returned (.bool (eqV a b)) ∧ ∃ q, w' = w.drewN q := by
 obtain ⟨A, cap, rfl, hca, hma, hsa⟩ := ha.at
 obtain ⟨B, cbp, rfl, hcb, hmb, hsb⟩ := hb.at
 clear ha hb
 by_cases hl : b.length = a.length
 ·rw [hl]
  have HL := Lib.hid hl
  clear hl
  go_enter Tryz.func186, Tryz.ntmps186
  go_wp2
  go_loopw [13] (fun i wr => ∃ n q : Nat, n ≤ a.length ∧ i = .int .i64 n ∧ wr = w.drewN q ∧ Hid (a.take n = b.take n)) (fun i _ => a.length - (intOf i).toNat)
  case atStart => exact ⟨0, 0, Nat.zero_le _, rfl, rfl, Lib.hid rfl⟩
  case round =>
   obtain ⟨n, q, hn, rfl, rfl, HT⟩ := hrel
   by_cases hlt : n < a.length
   ·have hltb : n < b.length := by rw [HL.out]; exact hlt
    have hlt' : (n : Int) < (a.length : Int) := by omega
    have hn0 : (0 : Int) ≤ (n : Int) := by omega
    obtain ⟨bA, off, rfl, _⟩ := hsa.ptr hlt
    obtain ⟨bB, off', rfl, _⟩ := hsb.ptr hltb
    obtain ⟨⟨k1, i1, s1, n1⟩, h1⟩ : ∃ c, a[n] = c := ⟨_, rfl⟩
    obtain ⟨⟨k2, i2, s2, n2⟩, h2⟩ : ∃ c, b[n] = c := ⟨_, rfl⟩
    have c0 := hsa.cell0 hlt (v := .int .i64 k1) (by rw [h1]; rfl)
    have c1 := hsa.cell hlt (j := 1) (v := .int .i64 i1) (by rw [h1]; rfl)
    have c2 := hsa.cell hlt (j := 2) (v := .string s1) (by rw [h1]; rfl)
    have c3 := hsa.cell hlt (j := 3) (v := .int .i64 n1) (by rw [h1]; rfl)
    have d0 := hsb.cell0 hltb (v := .int .i64 k2) (by rw [h2]; rfl)
    have d1 := hsb.cell hltb (j := 1) (v := .int .i64 i2) (by rw [h2]; rfl)
    have d2 := hsb.cell hltb (j := 2) (v := .string s2) (by rw [h2]; rfl)
    have d3 := hsb.cell hltb (j := 3) (v := .int .i64 n2) (by rw [h2]; rfl)
    have H1 := Lib.hid h1
    have H2 := Lib.hid h2
    clear h1 h2
    by_cases he : k1 = k2 ∧ i1 = i2 ∧ s1 = s2 ∧ n1 = n2
    ·obtain ⟨rfl, rfl, rfl, rfl⟩ := he
     have HT2 := Lib.hid (take_succ_eq hlt hltb HT.out (H1.out.trans H2.out.symm))
     go_wp2
     go_quiet (fail)
     go_wp2
     refine ⟨⟨n + 1, _, by omega, by simp, rfl, HT2⟩, by simp [intOf]; omega⟩
    ·have HE : Hid (eqV a b = false) := Lib.hid (by
      unfold eqV; rw [decide_eq_false_iff_not]; rintro rfl
      have := H1.out.symm.trans H2.out
      simp at this; exact he this)
     rcases cell_ne he with ha | ⟨rfl, ha⟩ | ⟨rfl, rfl, ha⟩ | ⟨rfl, rfl, rfl, ha⟩
     all_goals
      clear he
      go_wp2
      go_quiet (fail)
      go_wp2
      go_ret
      exact ⟨by rw [HE.out]; rfl, _, World.drewN_drewN _ _ _⟩
   ·have e : n = a.length := by omega
    subst e
    have HE : Hid (eqV a b = true) := Lib.hid (by
     have := HT.out
     rw [List.take_length, ← HL.out, List.take_length] at this
     simp [eqV, this])
    go_wp2
    go_ret
    exact ⟨by rw [HE.out]; rfl, q, rfl⟩
 ·have e : eqV a b = false := by
   unfold eqV; rw [decide_eq_false_iff_not]; rintro rfl; exact hl rfl
  have HE := Lib.hid e
  have hl' : ((a.length : Int) != (b.length : Int)) = true := by simp; omega
  clear hl e
  go_enter Tryz.func186, Tryz.ntmps186
  go_wp2
  go_ret
  exact ⟨by rw [HE.out]; rfl, 0, rfl⟩
theorem vsame_any (a b : ValD) (va vb : Value) (w : World) (ha : ValV w va a) (hb : ValV w vb b) :
  Calls Tryz.prog 141 #[va, vb] w fun e w' => e = .returned (.bool (eqV a b)) ∧ ∃ q, w' = w.drewN q := by
 go_enter Tryz.func141, Tryz.ntmps141
 go_wp2_with (first | (go_at_call 186; refine (equal_any a b _ _ _ ha hb).mono ?_; rintro e w1 ⟨rfl, q, rfl⟩))
 go_ret
 exact ⟨rfl, q, rfl⟩
end Go.Proofs.YtmljohbialacfaaGreatDoor
namespace Go.Proofs.YtmljohbialacfaaGreatDoor
open Go.RowKit
set_option maxRecDepth 100000
def eqVs (a b : List ValD) : Bool := decide (a = b)
attribute [local go_sem] cell_alloc_is
set_option maxHeartbeats 1000000 in
theorem values_any (a b : List ValD) (va vb : Value) (w : World) (ha : ValsV w va a) (hb : ValsV w vb b) :
  Calls Tryz.prog 34 #[va, vb] w fun e w' => e = .returned (.bool (eqVs a b)) ∧ ∃ q, w' = w.drewN q := by
 obtain ⟨A, cap, vs1, rfl, hca, hma, hsa, hla, hva⟩ := ha.at
 obtain ⟨B, cbp, vs2, rfl, hcb, hmb, hsb, hlb, hvb⟩ := hb.at
 have HVA := Lib.hid hva
 have HVB := Lib.hid hvb
 clear ha hb hva hvb
 by_cases hl : b.length = a.length
 ·rw [hl]
  have HL := Lib.hid hl
  have HLA := Lib.hid hla
  have HLB := Lib.hid hlb
  clear hl hla hlb
  go_enter Tryz.func34, Tryz.ntmps34
  go_wp2
  go_loopw [13] (fun i wr => ∃ n q : Nat, n ≤ a.length ∧ i = .int .i64 n ∧ wr = w.drewN q ∧ Hid (a.take n = b.take n)) (fun i _ => a.length - (intOf i).toNat)
  case atStart => exact ⟨0, 0, Nat.zero_le _, rfl, rfl, Lib.hid rfl⟩
  case round =>
   obtain ⟨n, q, hn, rfl, rfl, HT⟩ := hrel
   by_cases hlt : n < a.length
   ·have hltb : n < b.length := by rw [HL.out]; exact hlt
    have hna : n < vs1.length := by rw [HLA.out]; exact hlt
    have hnb : n < vs2.length := by rw [HLB.out]; exact hltb
    have hlt' : (n : Int) < (a.length : Int) := by omega
    have hn0 : (0 : Int) ≤ (n : Int) := by omega
    obtain ⟨bA, off, rfl, _⟩ := hsa.ptr hna
    obtain ⟨bB, off', rfl, _⟩ := hsb.ptr hnb
    obtain ⟨x, hx⟩ : ∃ x, vs1[n] = x := ⟨_, rfl⟩
    obtain ⟨y, hy⟩ : ∃ y, vs2[n] = y := ⟨_, rfl⟩
    have c0 := hsa.cell0 hna (v := x) (by rw [hx]; rfl)
    have d0 := hsb.cell0 hnb (v := y) (by rw [hy]; rfl)
    have hvx : ValV w x a[n] := hx ▸ HVA.out n hna hlt
    have hvy : ValV w y b[n] := hy ▸ HVB.out n hnb hltb
    rw [Nat.mul_one] at c0 d0
    clear hx hy
    obtain ⟨t, ht⟩ : ∃ t, eqV a[n] b[n] = t := ⟨_, rfl⟩
    have HTT := Lib.hid ht
    have HC : Hid (∀ k, Calls Tryz.prog 21 #[x, y] (w.drewN k) fun e w' => e = .returned (.bool t) ∧ ∃ q, w' = (w.drewN k).drewN q) := Lib.hid (fun k => by
     have := cells_any a[n] b[n] x y (w.drewN k) hvx hvy
     rw [ht] at this; exact this)
    clear hvx hvy ht
    cases t
    ·have HE : Hid (eqVs a b = false) := Lib.hid (by
      unfold eqVs; rw [decide_eq_false_iff_not]; rintro rfl
      have := HTT.out
      simp [eqV] at this)
     go_wp2
     go_quiet ((go_at_call 21; exact quiet_add (HC.out _)))
     go_wp2
     go_ret
     exact ⟨by rw [HE.out]; rfl, _, (by first | rfl | exact World.drewN_drewN _ _ _)⟩
    ·have HT2 := Lib.hid (take_succ_eq hlt hltb HT.out (by have := HTT.out; simpa [eqV] using this))
     go_wp2
     go_quiet ((go_at_call 21; exact quiet_add (HC.out _)))
     go_wp2
     refine ⟨⟨n + 1, _, by omega, by simp, (by first | rfl | exact World.drewN_drewN _ _ _), HT2⟩, by simp [intOf]; omega⟩
   ·have e : n = a.length := by omega
    subst e
    have HE : Hid (eqVs a b = true) := Lib.hid (by
     have := HT.out
     rw [List.take_length, ← HL.out, List.take_length] at this
     simp [eqVs, this])
    go_wp2
    go_ret
    exact ⟨by rw [HE.out]; rfl, q, rfl⟩
 ·have e : eqVs a b = false := by
   unfold eqVs; rw [decide_eq_false_iff_not]; rintro rfl; exact hl rfl
  have HE := Lib.hid e
  have hl' : ((a.length : Int) != (b.length : Int)) = true := by simp; omega
  clear hl e
  go_enter Tryz.func34, Tryz.ntmps34
  go_wp2
  go_ret
  exact ⟨by rw [HE.out]; rfl, 0, rfl⟩
end Go.Proofs.YtmljohbialacfaaGreatDoor
namespace Go.Proofs.YtmljohbialacfaaGreatDoor
open Go.RowKit
set_option maxRecDepth 100000
attribute [local go_sem] cell_alloc_is
end Go.Proofs.YtmljohbialacfaaGreatDoor
namespace Go.Proofs.YtmljohbialacfaaGreatDoor
open Go.RowKit
set_option maxRecDepth 100000
def eqFs (a b : List FrameD) : Bool := decide (a = b)
def eqQs (a b : List ReqD) : Bool := decide (a = b)
attribute [local go_sem] cell_alloc_is
end Go.Proofs.YtmljohbialacfaaGreatDoor
set_option linter.unusedVariables false
set_option linter.unusedSimpArgs false
namespace Go.Proofs.YtmljohbialacfaaGreatDoor
open Go.RowKit
set_option maxRecDepth 100000
/-- A machine as a value. -/
def MachV (w : World) (v : Value) (m : MachD) : Prop := ∃ vv fv qv, v = .agg #[.int .i64 m.status, .int .i64 m.err, vv, fv, qv, .int .i64 m.lsteps, .int .i64 m.lmem, .int .i64 m.steps, .int .i64 m.peak] ∧ ValV w vv m.value ∧ FramesV w fv m.frames ∧ ReqsV w qv m.requests
theorem MachV.below {w w' : World} {v : Value} {m : MachD} (h : MachV w v m) (hb : Below w.heap.size w w') : MachV w' v m := by
 obtain ⟨vv, fv, qv, rfl, h1, h2, h3⟩ := h; exact ⟨vv, fv, qv, rfl, h1.below hb, h2.below hb, h3.below hb⟩
def eqM (a b : MachD) : Bool := eqFs a.frames b.frames && (eqQs a.requests b.requests && (decide (a.status = b.status) && (decide (a.err = b.err) && (eqV a.value b.value && (decide (a.lsteps = b.lsteps ∧ a.lmem = b.lmem) && (decide (a.steps = b.steps) && decide (a.peak = b.peak)))))))
theorem eqM_self (a : MachD) : eqM a a = true := by simp [eqM, eqV, eqFs, eqQs]
end Go.Proofs.YtmljohbialacfaaGreatDoor
namespace Go.Proofs.YtmljohbialacfaaGreatDoor
open Go.RowKit
set_option maxRecDepth 100000
theorem cellsN_bd {w : World} {v : Value} {l : List ValD} (h : ValsV w v l) (hl : l.length ≤ 10000) (n : Nat) : cellsN (l.take n) ≤ 87960930222080000 := by
 have h1 := cellsN_take_le l n
 have h2 := cellsN_le l _ h.short
 have h3 : l.length * 8796093022208 ≤ 10000 * 8796093022208 := Nat.mul_le_mul_right _ hl
 omega
attribute [local go_sem] cell_alloc_is
set_option maxHeartbeats 1000000 in
theorem cells38_any (l : List ValD) (v : Value) (w : World) (h : ValsV w v l) (hl : l.length ≤ 10000) :
  Calls Tryz.prog 38 #[v] w fun e w' => e = .returned (.int .i64 (cellsN l)) ∧ w' = w := by
 have HB := Lib.hid (cellsN_bd h hl)
 obtain ⟨A, cap, vs, rfl, hca, hma, hsa, hla, hva⟩ := h.at
 have HV := Lib.hid hva
 have HLA := Lib.hid hla
 clear h hva hla
 go_enter Tryz.func38, Tryz.ntmps38
 go_wp2
 go_loop [3, 8] (fun s i => ∃ n : Nat, n ≤ l.length ∧ i = .int .i64 n ∧ s = .int .i64 (cellsN (l.take n))) (fun _ i => l.length - (intOf i).toNat)
 case atStart => exact ⟨0, Nat.zero_le _, rfl, rfl⟩
 case round =>
  obtain ⟨n, hn, rfl, rfl⟩ := hrel
  by_cases hlt : n < l.length
  ·have hna : n < vs.length := by rw [HLA.out]; exact hlt
   obtain ⟨bA, off, rfl, _⟩ := hsa.ptr hna
   obtain ⟨x, hx⟩ : ∃ x, vs[n] = x := ⟨_, rfl⟩
   have hvx : ValV w x l[n] := hx ▸ HV.out n hna hlt
   obtain ⟨A1, k1, rfl, hc1, hm1, _⟩ := hvx.at
   have c0 := hsa.cell0 hna (v := .slice A1 l[n].length k1) (by rw [hx]; rfl)
   rw [Nat.mul_one] at c0
   have HS := Lib.hid (cellsN_snoc l n hlt)
   have hb1 := HB.out n
   have hb0 : (0 : Int) ≤ (cellsN (l.take n) : Int) := by omega
   have hb2 : (cellsN (l.take n) : Int) ≤ 87960930222080000 := by omega
   clear hx hvx
   go_wp2
   refine ⟨⟨n + 1, by omega, by simp, by rw [HS.out]; simp⟩, by simp [intOf]; omega⟩
  ·have e : n = l.length := by omega
   subst e
   have HT := Lib.hid (show l.take l.length = l from List.take_length)
   go_wp2
   go_ret
   exact ⟨by rw [← HT.out]; simp [List.take_length], rfl⟩
/-- Frames that are gone through. -/
def SmallF (l : List FrameD) : Prop := l.length ≤ 40 ∧ ∀ f ∈ l, f.locals.length ≤ 10000 ∧ f.stack.length ≤ 10000
theorem memN_bd {w : World} {v : Value} {l : List FrameD} (h : FramesV w v l) (hl : SmallF l) (n : Nat) : memN (l.take n) ≤ 7036874417766400000 := by
 refine Nat.le_trans (memN_take_le l n) ?_
 have hall : ∀ f ∈ l, cellsN f.locals + cellsN f.stack ≤ 175921860444160000 := fun f hf => by
  obtain ⟨A, cap, rows, _, _, _, _, h5, h6⟩ := h
  obtain ⟨i, hi, rfl⟩ := List.getElem_of_mem hf
  obtain ⟨lv, sv, _, h1, h2⟩ := h6 i (by omega) hi
  have b1 := cellsN_bd h1 (hl.2 _ hf).1 l[i].locals.length
  have b2 := cellsN_bd h2 (hl.2 _ hf).2 l[i].stack.length
  rw [List.take_length] at b1 b2
  omega
 have key : ∀ l : List FrameD, (∀ f ∈ l, cellsN f.locals + cellsN f.stack ≤ 175921860444160000) → memN l ≤ l.length * 175921860444160000 := by
  intro l
  induction l with
  | nil => intro _; simp [memN]
  | cons f r ih =>
   intro hh
   have := ih (fun x hx => hh x (by simp [hx]))
   have h1 := hh f (by simp)
   simp only [memN, List.map_cons, List.sum_cons, List.length_cons, Nat.succ_mul] at this ⊢
   omega
 have := key l hall
 have h3 : l.length * 175921860444160000 ≤ 40 * 175921860444160000 := Nat.mul_le_mul_right _ hl.1
 omega
set_option maxHeartbeats 2000000 in
theorem memory_any (m : MachD) (v : Value) (w : World) (h : MachV w v m) (hm : SmallF m.frames) :
  Calls Tryz.prog 16 #[v] w fun e w' => e = .returned (.int .i64 (memN m.frames)) ∧ Below w.heap.size w w' := by
 obtain ⟨vv, fv, qv, rfl, hvv, hfv, hqv⟩ := h
 have HBD := Lib.hid (memN_bd hfv hm)
 obtain ⟨A1, n1, k1, rfl⟩ := hvv.shape
 obtain ⟨A2, n2, k2, rfl⟩ := hqv.shape
 have HSM := Lib.hid hm.2
 clear hvv hqv hm
 obtain ⟨A, cap, rows, rfl, hca, hma, hsa, hla, hva⟩ := hfv
 have HV := Lib.hid hva
 have HLA := Lib.hid hla
 have HSA := Lib.hid hsa
 clear hva hla hsa
 go_enter Tryz.func16, Tryz.ntmps16
 go_wp2
 go_loopw [3, 9] (fun s i wr => ∃ n : Nat, n ≤ m.frames.length ∧ i = .int .i64 n ∧ s = .int .i64 (memN (m.frames.take n)) ∧ Below w.heap.size w wr) (fun _ i _ => m.frames.length - (intOf i).toNat)
 case atStart => exact ⟨0, Nat.zero_le _, rfl, rfl, below_new _ _⟩
 case round =>
  obtain ⟨n, hn, rfl, rfl, hbel⟩ := hrel
  have HB := Lib.hid hbel
  clear hbel
  by_cases hlt : n < m.frames.length
  ·have hna : n < rows.length := by rw [HLA.out]; exact hlt
   have hsa := HSA.out.below HB.out
   obtain ⟨bA, off, rfl, _⟩ := hsa.ptr hna
   obtain ⟨lv, sv, hrow, hlv, hsv⟩ := HV.out n hna hlt
   obtain ⟨B1, z1, y1, rfl⟩ := hlv.shape
   obtain ⟨B2, z2, y2, rfl⟩ := hsv.shape
   obtain ⟨f1, hf1⟩ : ∃ x, m.frames[n].func = x := ⟨_, rfl⟩
   obtain ⟨c1, hc1⟩ : ∃ x, m.frames[n].pc = x := ⟨_, rfl⟩
   rw [hf1, hc1] at hrow
   have c0 := hsa.cell0 hna (v := .int .i64 f1) (by rw [hrow]; rfl)
   have c1' := hsa.cell hna (j := 1) (v := .int .i64 c1) (by rw [hrow]; rfl)
   have c2 := hsa.cell hna (j := 2) (v := .slice B1 z1 y1) (by rw [hrow]; rfl)
   have c3 := hsa.cell hna (j := 3) (v := .slice B2 z2 y2) (by rw [hrow]; rfl)
   have hsm := HSM.out _ (List.getElem_mem hlt)
   have HS := Lib.hid (memN_snoc m.frames n hlt)
   obtain ⟨x1, hx1⟩ : ∃ x, cellsN m.frames[n].locals = x := ⟨_, rfl⟩
   obtain ⟨x2, hx2⟩ : ∃ x, cellsN m.frames[n].stack = x := ⟨_, rfl⟩
   have b1 := cellsN_bd hlv hsm.1 m.frames[n].locals.length
   have b2 := cellsN_bd hsv hsm.2 m.frames[n].stack.length
   rw [List.take_length, hx1] at b1
   rw [List.take_length, hx2] at b2
   have HC1 : Hid (∀ wx, Below wr.heap.size wr wx → Calls Tryz.prog 38 #[.slice B1 z1 y1] wx fun e w' => e = .returned (.int .i64 x1) ∧ w' = wx) := Lib.hid (fun wx hx => by
    have := cells38_any _ _ wx ((hlv.below HB.out).below hx) hsm.1; rw [hx1] at this; exact this)
   have HC2 : Hid (∀ wx, Below wr.heap.size wr wx → Calls Tryz.prog 38 #[.slice B2 z2 y2] wx fun e w' => e = .returned (.int .i64 x2) ∧ w' = wx) := Lib.hid (fun wx hx => by
    have := cells38_any _ _ wx ((hsv.below HB.out).below hx) hsm.2; rw [hx2] at this; exact this)
   have HX : Hid (memN (m.frames.take (n + 1)) = memN (m.frames.take n) + (x1 + x2)) := Lib.hid (by rw [HS.out, hx1, hx2])
   obtain ⟨s, hs⟩ : ∃ s, memN (m.frames.take n) = s := ⟨_, rfl⟩
   have hb1 := HBD.out n
   rw [hs] at hb1
   rw [hs]
   have HSS := Lib.hid hs
   clear hf1 hc1 hrow hlv hsv hsm hx1 hx2 hsa hs
   have k0 : (0 : Int) ≤ (s : Int) := by omega
   have k1' : (s : Int) ≤ 7036874417766400000 := by omega
   have k2' : (0 : Int) ≤ (x1 : Int) := by omega
   have k3 : (x1 : Int) ≤ 87960930222080000 := by omega
   have k4 : (0 : Int) ≤ (x2 : Int) := by omega
   have k5 : (x2 : Int) ≤ 87960930222080000 := by omega
   go_wp2
   go_quiet (first
    | (go_at_call 38; with_reducible exact Calls.quiet_of_same (HC1.out _ (by first | exact below_new _ _ | exact below_drewN (below_new _ _) _)))
    | (go_at_call 38; with_reducible exact Calls.quiet_of_same (HC2.out _ (by first | exact below_new _ _ | exact below_drewN (below_new _ _) _))))
   go_wp2
   refine ⟨⟨n + 1, by omega, by simp, by rw [HX.out, HSS.out]; simp, below_drewN (below_call (below_new _ _) HB.out) _⟩, by simp [intOf]; omega⟩
  ·have e : n = m.frames.length := by omega
   subst e
   have HT := Lib.hid (show m.frames.take m.frames.length = m.frames from List.take_length)
   go_wp2
   go_ret
   exact ⟨by rw [← HT.out]; simp [List.take_length], HB.out⟩
end Go.Proofs.YtmljohbialacfaaGreatDoor
namespace Go.Proofs.YtmljohbialacfaaGreatDoor
open Go.RowKit
set_option maxRecDepth 100000
attribute [local go_sem] cell_alloc_is
def smallB (l : ValD) : Bool := decide (l.length ≤ 300) && l.all (fun c => decide (c.str.size ≤ 5000))
set_option maxHeartbeats 1000000 in
theorem small_any (l : ValD) (v : Value) (w : World) (h : ValV w v l) (hs : ∀ c ∈ l, c.str.size ≤ 140737488351232) :
  Calls Tryz.prog 8 #[v] w fun e w' => e = .returned (.bool (smallB l)) ∧ w' = w := by
 obtain ⟨A, cap, rfl, hca, hma, hsa⟩ := h.at
 have HSA := Lib.hid hsa
 have HSS := Lib.hid hs
 clear h hsa hs
 by_cases hl : l.length ≤ 300
 ·have hl' : ((l.length : Int) > 300) = False := by simp; omega
  go_enter Tryz.func8, Tryz.ntmps8
  go_wp2
  go_loop [9] (fun i => ∃ n : Nat, n ≤ l.length ∧ i = .int .i64 n ∧ Hid (∀ c ∈ l.take n, c.str.size ≤ 5000)) (fun i => l.length - (intOf i).toNat)
  case atStart => exact ⟨0, Nat.zero_le _, rfl, Lib.hid (by simp)⟩
  case round =>
   obtain ⟨n, hn, rfl, HT⟩ := hrel
   by_cases hlt : n < l.length
   ·have hlt' : (n : Int) < (l.length : Int) := by omega
    have hn0 : (0 : Int) ≤ (n : Int) := by omega
    have hsa := HSA.out
    obtain ⟨b, off, rfl, _⟩ := hsa.ptr hlt
    obtain ⟨s, hs⟩ : ∃ s, l[n].str = s := ⟨_, rfl⟩
    have c2 := hsa.cell hlt (j := 2) (v := .string s) (by rw [← hs]; rfl)
    have hsz := HSS.out _ (List.getElem_mem hlt)
    rw [hs] at hsz
    have HS := Lib.hid hs
    clear hsa hs
    by_cases h5 : s.size ≤ 5000
    ·have HT2 : Hid (∀ c ∈ l.take (n + 1), c.str.size ≤ 5000) := Lib.hid (by
      rw [List.take_succ_eq_append_getElem hlt]
      intro c hc
      rcases List.mem_append.1 hc with hc | hc
      ·exact HT.out c hc
      ·simp at hc; subst hc; rw [HS.out]; exact h5)
     go_wp2
     refine ⟨⟨n + 1, by omega, by simp, HT2⟩, by simp [intOf]; omega⟩
    ·have e : smallB l = false := by
      unfold smallB
      rw [Bool.and_eq_false_iff]
      right
      rw [List.all_eq_false]
      exact ⟨l[n], List.getElem_mem hlt, by rw [HS.out]; simpa using h5⟩
     have HE := Lib.hid e
     have h5' : (5000 : Int) < (s.size : Int) := by omega
     clear h5 e
     go_wp2
     go_ret
     exact ⟨by rw [HE.out]; rfl, rfl⟩
   ·have e : n = l.length := by omega
    subst e
    have HE : Hid (smallB l = true) := Lib.hid (by
     have := HT.out
     rw [List.take_length] at this
     simp only [smallB, Bool.and_eq_true, decide_eq_true_eq, List.all_eq_true]
     exact ⟨hl, this⟩)
    go_wp2
    go_ret
    exact ⟨by rw [HE.out]; rfl, rfl⟩
 ·have e : smallB l = false := by unfold smallB; simp; intro h; omega
  have HE := Lib.hid e
  have hl' : (300 : Int) < (l.length : Int) := by omega
  clear hl e
  go_enter Tryz.func8, Tryz.ntmps8
  go_wp2
  go_ret
  exact ⟨by rw [HE.out]; rfl, rfl⟩
end Go.Proofs.YtmljohbialacfaaGreatDoor
namespace Go.Proofs.YtmljohbialacfaaGreatDoor
open Go.RowKit
set_option maxRecDepth 100000
attribute [local go_sem] cell_alloc_is
set_option maxHeartbeats 4000000 in
theorem sreq_any (a b : List ReqD) (va vb : Value) (w : World) (ha : ReqsV w va a) (hb : ReqsV w vb b) :
  Calls Tryz.prog 33 #[va, vb] w fun e w' => e = .returned (.bool (eqQs a b)) ∧ ∃ q, w' = w.drewN q := by
 obtain ⟨A, cap, rs1, rfl, hca, hma, hsa0, hla, hva⟩ := ha
 obtain ⟨B, cbp, rs2, rfl, hcb, hmb, hsb0, hlb, hvb⟩ := hb
 have HVA := Lib.hid hva
 have HVB := Lib.hid hvb
 have HSA := Lib.hid hsa0
 have HSB := Lib.hid hsb0
 clear hva hvb hsa0 hsb0
 by_cases hl : b.length = a.length
 ·rw [hl]
  have HL := Lib.hid hl
  have HLA := Lib.hid hla
  have HLB := Lib.hid hlb
  clear hl hla hlb
  go_enter Tryz.func33, Tryz.ntmps33
  go_wp2
  go_loopw [14] (fun i wr => ∃ n q : Nat, n ≤ a.length ∧ i = .int .i64 n ∧ wr = w.drewN q ∧ Hid (a.take n = b.take n)) (fun i _ => a.length - (intOf i).toNat)
  case atStart => exact ⟨0, 0, Nat.zero_le _, rfl, rfl, Lib.hid rfl⟩
  case round =>
   obtain ⟨n, q, hn, rfl, rfl, HT⟩ := hrel
   by_cases hlt : n < a.length
   ·have hltb : n < b.length := by rw [HL.out]; exact hlt
    have hna : n < rs1.length := by rw [HLA.out]; exact hlt
    have hnb : n < rs2.length := by rw [HLB.out]; exact hltb
    have hlt' : (n : Int) < (a.length : Int) := by omega
    have hn0 : (0 : Int) ≤ (n : Int) := by omega
    have hsa := HSA.out
    have hsb := HSB.out
    obtain ⟨bA, off, rfl, _⟩ := hsa.ptr hna
    obtain ⟨bB, off', rfl, _⟩ := hsb.ptr hnb
    obtain ⟨la, hra, hla⟩ := HVA.out n hna hlt
    obtain ⟨lb, hrb, hlb⟩ := HVB.out n hnb hltb
    obtain ⟨fa, hfa⟩ : ∃ x, a[n].op = x := ⟨_, rfl⟩
    obtain ⟨fb, hfb⟩ : ∃ x, b[n].op = x := ⟨_, rfl⟩
    obtain ⟨xa, hxa⟩ : ∃ x, a[n].args = x := ⟨_, rfl⟩
    obtain ⟨xb, hxb⟩ : ∃ x, b[n].args = x := ⟨_, rfl⟩
    rw [hxa] at hla
    rw [hxb] at hlb
    obtain ⟨A1, k1, vs1, rfl, hc1, hm1, hs1, hl1, hv1⟩ := hla.at
    obtain ⟨B1, k2, vs2, rfl, hc2, hm2, hs2, hl2, hv2⟩ := hlb.at
    rw [hfa] at hra
    rw [hfb] at hrb
    have c0 := hsa.cell0 hna (v := .string fa) (by rw [hra]; rfl)
    have c1 := hsa.cell hna (j := 1) (v := .slice A1 xa.length k1) (by rw [hra]; rfl)
    have d0 := hsb.cell0 hnb (v := .string fb) (by rw [hrb]; rfl)
    have d1 := hsb.cell hnb (j := 1) (v := .slice B1 xb.length k2) (by rw [hrb]; rfl)
    have HFA := Lib.hid hfa
    have HFB := Lib.hid hfb
    have HXA := Lib.hid hxa
    have HXB := Lib.hid hxb
    have HS1 := Lib.hid hs1
    have HS2 := Lib.hid hs2
    have HL1 := Lib.hid hl1
    have HL2 := Lib.hid hl2
    have HV1 := Lib.hid hv1
    have HV2 := Lib.hid hv2
    clear hfa hfb hxa hxb hra hrb hsa hsb hla hlb hs1 hs2 hl1 hl2 hv1 hv2
    by_cases he : fa = fb
    ·subst he
     by_cases hx : xb.length = xa.length
     ·rw [hx] at d1
      have HXL := Lib.hid hx
      clear hx
      go_wp2
      go_quiet (fail)
      go_wp2
      go_loopw [49] (fun i wi => ∃ k p : Nat, k ≤ xa.length ∧ i = .int .i64 k ∧ wi = w.drewN p ∧ Hid (xa.take k = xb.take k)) (fun i _ => xa.length - (intOf i).toNat)
      case atStart => exact ⟨0, _, Nat.zero_le _, rfl, (by first | rfl | exact World.drewN_drewN _ _ _), Lib.hid rfl⟩
      case round =>
       obtain ⟨k, p, hk, rfl, rfl, HK⟩ := hrel
       by_cases hkl : k < xa.length
       ·have hkb : k < xb.length := by rw [HXL.out]; exact hkl
        have hka : k < vs1.length := by rw [HL1.out]; exact hkl
        have hkb' : k < vs2.length := by rw [HL2.out]; exact hkb
        have hkl' : (k : Int) < (xa.length : Int) := by omega
        have hk0 : (0 : Int) ≤ (k : Int) := by omega
        have hs1 := HS1.out
        have hs2 := HS2.out
        obtain ⟨b3, off3, rfl, _⟩ := hs1.ptr hka
        obtain ⟨b4, off4, rfl, _⟩ := hs2.ptr hkb'
        obtain ⟨x, hx⟩ : ∃ x, vs1[k] = x := ⟨_, rfl⟩
        obtain ⟨y, hy⟩ : ∃ y, vs2[k] = y := ⟨_, rfl⟩
        have e0 := hs1.cell0 hka (v := x) (by rw [hx]; rfl)
        have e1 := hs2.cell0 hkb' (v := y) (by rw [hy]; rfl)
        have hvx : ValV w x xa[k] := hx ▸ HV1.out k hka hkl
        have hvy : ValV w y xb[k] := hy ▸ HV2.out k hkb' hkb
        rw [Nat.mul_one] at e0 e1
        clear hx hy hs1 hs2
        obtain ⟨t, ht⟩ : ∃ t, eqV xa[k] xb[k] = t := ⟨_, rfl⟩
        have HTT := Lib.hid ht
        have HC : Hid (∀ k, Calls Tryz.prog 21 #[x, y] (w.drewN k) fun e w' => e = .returned (.bool t) ∧ ∃ q, w' = (w.drewN k).drewN q) := Lib.hid (fun j => by
         have := cells_any xa[k] xb[k] x y (w.drewN j) hvx hvy
         rw [ht] at this; exact this)
        clear hvx hvy ht
        cases t
        ·have HE : Hid (eqQs a b = false) := Lib.hid (by
          unfold eqQs; rw [decide_eq_false_iff_not]; rintro rfl
          have h1 := HTT.out
          have h2 := HXA.out.symm.trans HXB.out
          subst h2
          simp [eqV] at h1)
         go_wp2
         go_quiet ((go_at_call 21; exact quiet_add (HC.out _)))
         go_wp2
         go_ret
         exact ⟨by rw [HE.out]; rfl, _, (by first | rfl | exact World.drewN_drewN _ _ _)⟩
        ·have HK2 := Lib.hid (take_succ_eq hkl hkb HK.out (by have := HTT.out; simpa [eqV] using this))
         go_wp2
         go_quiet ((go_at_call 21; exact quiet_add (HC.out _)))
         go_wp2
         refine ⟨⟨k + 1, _, by omega, by simp, (by first | rfl | exact World.drewN_drewN _ _ _), HK2⟩, by simp [intOf]; omega⟩
       ·have e : k = xa.length := by omega
        subst e
        have HT2 := Lib.hid (take_succ_eq hlt hltb HT.out (by
         have h1 := HK.out
         rw [List.take_length, ← HXL.out, List.take_length] at h1
         have h2 := HFA.out
         have h3 := HFB.out
         have h4 := HXA.out
         have h5 := HXB.out
         subst h1
         generalize a[n] = p1 at h2 h4 ⊢
         generalize b[n] = p2 at h3 h5 ⊢
         cases p1; cases p2; simp_all))
        go_wp2
        refine ⟨⟨n + 1, _, by omega, by simp, rfl, HT2⟩, by simp [intOf]; omega⟩
     ·have HE : Hid (eqQs a b = false) := Lib.hid (by
       unfold eqQs; rw [decide_eq_false_iff_not]; rintro rfl
       exact hx (by rw [← HXA.out, ← HXB.out]))
      have hx' : ((xa.length : Int) != (xb.length : Int)) = true := by simp; omega
      clear hx
      go_wp2
      go_quiet (fail)
      go_wp2
      go_ret
      exact ⟨by rw [HE.out]; rfl, _, (by first | rfl | exact World.drewN_drewN _ _ _)⟩
    ·have HE : Hid (eqQs a b = false) := Lib.hid (by
      unfold eqQs; rw [decide_eq_false_iff_not]; rintro rfl
      exact he (by rw [← HFA.out, ← HFB.out]))
     have he' : (fa.toList == fb.toList) = false := by rw [toList_beq]; simpa using he
     clear he
     go_wp2
     go_quiet (fail)
     go_wp2
     go_ret
     exact ⟨by rw [HE.out]; rfl, _, (by first | rfl | exact World.drewN_drewN _ _ _)⟩
   ·have e : n = a.length := by omega
    subst e
    have HE : Hid (eqQs a b = true) := Lib.hid (by
     have := HT.out
     rw [List.take_length, ← HL.out, List.take_length] at this
     simp [eqQs, this])
    go_wp2
    go_ret
    exact ⟨by rw [HE.out]; rfl, q, rfl⟩
 ·have e : eqQs a b = false := by
   unfold eqQs; rw [decide_eq_false_iff_not]; rintro rfl; exact hl rfl
  have HE := Lib.hid e
  have hl' : ((a.length : Int) != (b.length : Int)) = true := by simp; omega
  clear hl e hla hlb
  go_enter Tryz.func33, Tryz.ntmps33
  go_wp2
  go_ret
  exact ⟨by rw [HE.out]; rfl, 0, rfl⟩
end Go.Proofs.YtmljohbialacfaaGreatDoor
set_option linter.unusedVariables false
set_option linter.unusedSimpArgs false
namespace Go.Proofs.YtmljohbialacfaaGreatDoor
open Go.RowKit
set_option maxRecDepth 100000
attribute [local go_sem] cell_alloc_is
set_option maxHeartbeats 4000000 in
theorem rsame_any (a b : MachD) (va vb : Value) (w : World) (ha : MachV w va a) (hb : MachV w vb b) :
  Calls Tryz.prog 12 #[va, vb] w fun e w' => e = .returned (.bool (eqM a b)) ∧ Below w.heap.size w w' := by
 obtain ⟨va, fa, qa, rfl, hva, hfa, hqa⟩ := ha
 obtain ⟨vb, fb, qb, rfl, hvb, hfb, hqb⟩ := hb
 obtain ⟨t2, ht2⟩ : ∃ t, eqQs a.requests b.requests = t := ⟨_, rfl⟩
 obtain ⟨t3, ht3⟩ : ∃ t, eqV a.value b.value = t := ⟨_, rfl⟩
 have HQ : Hid (∀ wx, Below w.heap.size w wx → Calls Tryz.prog 33 #[qa, qb] wx fun e w' => e = .returned (.bool t2) ∧ ∃ q, w' = wx.drewN q) := Lib.hid (fun wx hx => by
  have := sreq_any _ _ _ _ wx (hqa.below hx) (hqb.below hx); rw [ht2] at this; exact this)
 have HV : Hid (∀ wx, Below w.heap.size w wx → Calls Tryz.prog 21 #[va, vb] wx fun e w' => e = .returned (.bool t3) ∧ ∃ q, w' = wx.drewN q) := Lib.hid (fun wx hx => by
  have := cells_any _ _ _ _ wx (hva.below hx) (hvb.below hx); rw [ht3] at this; exact this)
 obtain ⟨A1, n1, k1, rfl⟩ := hva.shape
 obtain ⟨A2, n2, k2, rfl⟩ := hvb.shape
 obtain ⟨A5, n5, k5, rfl⟩ := hqa.shape
 obtain ⟨A6, n6, k6, rfl⟩ := hqb.shape
 obtain ⟨r, hr⟩ : ∃ r, eqM a b = r := ⟨_, rfl⟩
 have HR : Hid ((eqFs a.frames b.frames && (t2 && (decide (a.status = b.status) && (decide (a.err = b.err) && (t3 && (decide (a.lsteps = b.lsteps ∧ a.lmem = b.lmem) && (decide (a.steps = b.steps) && decide (a.peak = b.peak)))))))) = r) := Lib.hid (by rw [← hr, ← ht2, ← ht3]; rfl)
 rw [hr]
 clear hva hvb hqa hqb ht2 ht3 hr
 obtain ⟨A3, k3, rs1, rfl, hca, hma, hsa0, hla, hva⟩ := hfa
 obtain ⟨A4, k4, rs2, rfl, hcb, hmb, hsb0, hlb, hvb⟩ := hfb
 obtain ⟨sa, ea, _, xa, _, la, ma, pa, ka⟩ := a
 obtain ⟨sb, eb, _, xb, _, lb, mb, pb, kb⟩ := b
 dsimp only at HR hca hma hla hva hcb hmb hlb hvb ⊢
 have HVA := Lib.hid hva
 have HVB := Lib.hid hvb
 have HSA := Lib.hid hsa0
 have HSB := Lib.hid hsb0
 clear hva hvb hsa0 hsb0
 by_cases hsa : sa = sb
 ·subst hsa
  by_cases hea : ea = eb
  ·subst hea
   cases t3
   ·have e : r = false := by rw [← HR.out]; simp
    subst e
    go_enter Tryz.func12, Tryz.ntmps12
    go_wp2_with (first
     | (go_at_call 21; with_reducible refine (HV.out _ (below_2 _ _ _)).mono ?_; rintro e w3 ⟨rfl, q, rfl⟩)
     | (go_at_call 33; with_reducible refine (HQ.out _ (below_drewN (below_2 _ _ _) _)).mono ?_; rintro e w3 ⟨rfl, q2, rfl⟩))
    go_ret
    exact ⟨rfl, below_drewN (below_2 _ _ _) _⟩
   ·cases t2
    ·have e : r = false := by rw [← HR.out]; simp
     subst e
     go_enter Tryz.func12, Tryz.ntmps12
     go_wp2_with (first
      | (go_at_call 21; with_reducible refine (HV.out _ (below_2 _ _ _)).mono ?_; rintro e w3 ⟨rfl, q, rfl⟩)
      | (go_at_call 33; with_reducible refine (HQ.out _ (below_drewN (below_2 _ _ _) _)).mono ?_; rintro e w3 ⟨rfl, q2, rfl⟩))
     go_ret
     exact ⟨rfl, below_drewN (below_2 _ _ _) _⟩
    ·by_cases hla : la = lb
     ·subst hla
      by_cases hma : ma = mb
      ·subst hma
       by_cases hpa : pa = pb
       ·subst hpa
        by_cases hka : ka = kb
        ·subst hka
         by_cases hl : xb.length = xa.length
         ·rw [hl]
          have HL := Lib.hid hl
          have HLA := Lib.hid hla
          have HLB := Lib.hid hlb
          clear hl hla hlb
          have HR2 : Hid (eqFs xa xb = r) := Lib.hid (by rw [← HR.out]; simp)
          go_enter Tryz.func12, Tryz.ntmps12
          go_wp2_with (first
           | (go_at_call 21; with_reducible refine (HV.out _ (below_2 _ _ _)).mono ?_; rintro e w3 ⟨rfl, q, rfl⟩)
           | (go_at_call 33; with_reducible refine (HQ.out _ (below_drewN (below_2 _ _ _) _)).mono ?_; rintro e w3 ⟨rfl, q2, rfl⟩))
          go_loopw [69] (fun i wr => ∃ n : Nat, n ≤ xa.length ∧ i = .int .i64 n ∧ Below w.heap.size w wr ∧ Blk wr w.heap.size 37 #[.int .i64 sa, .int .i64 ea, .slice A1 n1 k1, .slice A3 xa.length k3, .slice A5 n5 k5, .int .i64 la, .int .i64 ma, .int .i64 pa, .int .i64 ka] ∧ Blk wr (w.heap.size + 1) 37 #[.int .i64 sa, .int .i64 ea, .slice A2 n2 k2, .slice A4 xa.length k4, .slice A6 n6 k6, .int .i64 la, .int .i64 ma, .int .i64 pa, .int .i64 ka] ∧ Hid (xa.take n = xb.take n)) (fun i _ => xa.length - (intOf i).toNat)
          case atStart => exact ⟨0, Nat.zero_le _, rfl, below_drewN (below_2 _ _ _) _, ((Blk.new w _ _).alloc _).drewN _, (Blk.second w _ _ _).drewN _, Lib.hid rfl⟩
          case round =>
           obtain ⟨n, hn, rfl, hbel, hxa, hxb, HT⟩ := hrel
           have HB := Lib.hid hbel
           have HBA := Lib.hid hxa
           have HBB := Lib.hid hxb
           clear hbel hxa hxb
           by_cases hlt : n < xa.length
           ·have hltb : n < xb.length := by rw [HL.out]; exact hlt
            have hna : n < rs1.length := by rw [HLA.out]; exact hlt
            have hnb : n < rs2.length := by rw [HLB.out]; exact hltb
            have hlt' : (n : Int) < (xa.length : Int) := by omega
            have hn0 : (0 : Int) ≤ (n : Int) := by omega
            have hsa := HSA.out.below HB.out
            have hsb := HSB.out.below HB.out
            obtain ⟨bA, off, rfl, _⟩ := hsa.ptr hna
            obtain ⟨bB, off', rfl, _⟩ := hsb.ptr hnb
            obtain ⟨lva, sva, hra, hla, hssa⟩ := HVA.out n hna hlt
            obtain ⟨lvb, svb, hrb, hlb, hssb⟩ := HVB.out n hnb hltb
            obtain ⟨B1, z1, y1, rfl⟩ := hla.shape
            obtain ⟨B2, z2, y2, rfl⟩ := hssa.shape
            obtain ⟨B3, z3, y3, rfl⟩ := hlb.shape
            obtain ⟨B4, z4, y4, rfl⟩ := hssb.shape
            obtain ⟨f1, hf1⟩ : ∃ x, xa[n].func = x := ⟨_, rfl⟩
            obtain ⟨c1, hc1⟩ : ∃ x, xa[n].pc = x := ⟨_, rfl⟩
            obtain ⟨f2, hf2⟩ : ∃ x, xb[n].func = x := ⟨_, rfl⟩
            obtain ⟨c2, hc2⟩ : ∃ x, xb[n].pc = x := ⟨_, rfl⟩
            rw [hf1, hc1] at hra
            rw [hf2, hc2] at hrb
            have g0 := hsa.cell0 hna (v := .int .i64 f1) (by rw [hra]; rfl)
            have g1 := hsa.cell hna (j := 1) (v := .int .i64 c1) (by rw [hra]; rfl)
            have g2 := hsa.cell hna (j := 2) (v := .slice B1 z1 y1) (by rw [hra]; rfl)
            have g3 := hsa.cell hna (j := 3) (v := .slice B2 z2 y2) (by rw [hra]; rfl)
            have j0 := hsb.cell0 hnb (v := .int .i64 f2) (by rw [hrb]; rfl)
            have j1 := hsb.cell hnb (j := 1) (v := .int .i64 c2) (by rw [hrb]; rfl)
            have j2 := hsb.cell hnb (j := 2) (v := .slice B3 z3 y3) (by rw [hrb]; rfl)
            have j3 := hsb.cell hnb (j := 3) (v := .slice B4 z4 y4) (by rw [hrb]; rfl)
            obtain ⟨t4, ht4⟩ : ∃ t, eqVs xa[n].locals xb[n].locals = t := ⟨_, rfl⟩
            obtain ⟨t5, ht5⟩ : ∃ t, eqVs xa[n].stack xb[n].stack = t := ⟨_, rfl⟩
            have HC4 : Hid (∀ wx, Below wr.heap.size wr wx → Calls Tryz.prog 34 #[.slice B1 z1 y1, .slice B3 z3 y3] wx fun e w' => e = .returned (.bool t4) ∧ ∃ q, w' = wx.drewN q) := Lib.hid (fun wx hx => by
             have := values_any _ _ _ _ wx ((hla.below HB.out).below hx) ((hlb.below HB.out).below hx); rw [ht4] at this; exact this)
            have HC5 : Hid (∀ wx, Below wr.heap.size wr wx → Calls Tryz.prog 34 #[.slice B2 z2 y2, .slice B4 z4 y4] wx fun e w' => e = .returned (.bool t5) ∧ ∃ q, w' = wx.drewN q) := Lib.hid (fun wx hx => by
             have := values_any _ _ _ _ wx ((hssa.below HB.out).below hx) ((hssb.below HB.out).below hx); rw [ht5] at this; exact this)
            have HF1 := Lib.hid hf1
            have HF2 := Lib.hid hf2
            have HP1 := Lib.hid hc1
            have HP2 := Lib.hid hc2
            have HT4 := Lib.hid ht4
            have HT5 := Lib.hid ht5
            have u3 := HBA.out.cell 3 (.slice (some ⟨bA, off, none⟩) xa.length k3) rfl
            have v3 := HBB.out.cell 3 (.slice (some ⟨bB, off', none⟩) xa.length k4) rfl
            clear hsa hsb hra hrb hla hlb hssa hssb hf1 hf2 hc1 hc2 ht4 ht5
            go_upto_region 6 with fail
            go_cut [6, 7] from 72 to 81 (fun u v wx => TwoBlk wr 74 #[.int .i64 f1, .int .i64 c1, .slice B1 z1 y1, .slice B2 z2 y2] #[.int .i64 f2, .int .i64 c2, .slice B3 z3 y3, .slice B4 z4 y4] u v wx)
            case first =>
             go_region_held3 (fun w' => w'.cell? ⟨w.heap.size, 3, none⟩ = some (.slice (some ⟨bA, off, none⟩) xa.length k3) ∧ w'.cell? ⟨w.heap.size + 1, 3, none⟩ = some (.slice (some ⟨bB, off', none⟩) xa.length k4) ∧ w'.cell? ⟨bA, off + n * 4, none⟩ = some (.int .i64 f1) ∧ w'.cell? ⟨bA, off + n * 4 + 1, none⟩ = some (.int .i64 c1) ∧ w'.cell? ⟨bA, off + n * 4 + 2, none⟩ = some (.slice B1 z1 y1) ∧ w'.cell? ⟨bA, off + n * 4 + 3, none⟩ = some (.slice B2 z2 y2) ∧ w'.cell? ⟨bB, off' + n * 4, none⟩ = some (.int .i64 f2) ∧ w'.cell? ⟨bB, off' + n * 4 + 1, none⟩ = some (.int .i64 c2) ∧ w'.cell? ⟨bB, off' + n * 4 + 2, none⟩ = some (.slice B3 z3 y3) ∧ w'.cell? ⟨bB, off' + n * 4 + 3, none⟩ = some (.slice B4 z4 y4)) (first | assumption | go_keep) (fail)
             all_goals (go_wp2_with fail; go_meet; first | exact twoBlk_12 _ _ _ _ | exact twoBlk_21 _ _ _ _)
            case rest =>
             obtain ⟨p1, p2, rfl, rfl, hb1, hb2, hbw⟩ := hcut
             have HBW := Lib.hid hbw
             have HG1 := Lib.hid hb1
             have HG2 := Lib.hid hb2
             have HKA := Lib.hid (HBA.out.below hbw)
             have HKB := Lib.hid (HBB.out.below hbw)
             clear g0 g1 g2 g3 j0 j1 j2 j3 u3 v3 hb1 hb2 hbw
             have s1 := blk4 HG1.out
             have s2 := blk4 HG2.out
             by_cases h1 : f1 = f2
             ·subst h1
              by_cases h2 : c1 = c2
              ·subst h2
               cases t4
               ·have e : r = false := by
                 rw [← HR2.out, eqFs, decide_eq_false_iff_not]; rintro rfl
                 have := HT4.out; simp [eqVs] at this
                subst e
                go_wp2_with (first
                 | (go_at_call 34; with_reducible refine (HC4.out _ HBW.out).mono ?_; rintro e w3 ⟨rfl, p1, rfl⟩)
                 | (go_at_call 34; with_reducible refine (HC5.out _ (below_drewN HBW.out _)).mono ?_; rintro e w3 ⟨rfl, p2, rfl⟩))
                go_ret
                exact ⟨rfl, below_drewN (below_call' HBW.out HB.out HB.out.size) _⟩
               ·cases t5
                ·have e : r = false := by
                  rw [← HR2.out, eqFs, decide_eq_false_iff_not]; rintro rfl
                  have := HT5.out; simp [eqVs] at this
                 subst e
                 go_wp2_with (first
                  | (go_at_call 34; with_reducible refine (HC4.out _ HBW.out).mono ?_; rintro e w3 ⟨rfl, p1, rfl⟩)
                  | (go_at_call 34; with_reducible refine (HC5.out _ (below_drewN HBW.out _)).mono ?_; rintro e w3 ⟨rfl, p2, rfl⟩))
                 go_ret
                 exact ⟨rfl, below_drewN (below_call' HBW.out HB.out HB.out.size) _⟩
                ·have HT2 := Lib.hid (take_succ_eq hlt hltb HT.out (by
                  have h1 := HF1.out.trans HF2.out.symm
                  have h2 := HP1.out.trans HP2.out.symm
                  have h3 := HT4.out
                  have h4 := HT5.out
                  simp only [eqVs, decide_eq_true_eq] at h3 h4
                  generalize xa[n] = m1 at h1 h2 h3 h4 ⊢
                  generalize xb[n] = m2 at h1 h2 h3 h4 ⊢
                  cases m1; cases m2; simp_all))
                 go_wp2_with (first
                  | (go_at_call 34; with_reducible refine (HC4.out _ HBW.out).mono ?_; rintro e w3 ⟨rfl, p1, rfl⟩)
                  | (go_at_call 34; with_reducible refine (HC5.out _ (below_drewN HBW.out _)).mono ?_; rintro e w3 ⟨rfl, p2, rfl⟩))
                 refine ⟨⟨n + 1, by omega, by simp, below_drewN (below_call' HBW.out HB.out HB.out.size) _, HKA.out.drewN _, HKB.out.drewN _, HT2⟩, by simp [intOf]; omega⟩
              ·have h2' : (c1 == c2) = false := by simpa using h2
               have e : r = false := by
                rw [← HR2.out, eqFs, decide_eq_false_iff_not]; rintro rfl
                exact h2 (HP1.out.symm.trans HP2.out)
               subst e
               go_wp2_with (first
                | (go_at_call 34; with_reducible refine (HC4.out _ HBW.out).mono ?_; rintro e w3 ⟨rfl, p1, rfl⟩)
                | (go_at_call 34; with_reducible refine (HC5.out _ (below_drewN HBW.out _)).mono ?_; rintro e w3 ⟨rfl, p2, rfl⟩))
               go_ret
               exact ⟨rfl, below_call' HBW.out HB.out HB.out.size⟩
             ·have h1' : (f1 == f2) = false := by simpa using h1
              have e : r = false := by
               rw [← HR2.out, eqFs, decide_eq_false_iff_not]; rintro rfl
               exact h1 (HF1.out.symm.trans HF2.out)
              subst e
              go_wp2_with (first
               | (go_at_call 34; with_reducible refine (HC4.out _ HBW.out).mono ?_; rintro e w3 ⟨rfl, p1, rfl⟩)
               | (go_at_call 34; with_reducible refine (HC5.out _ (below_drewN HBW.out _)).mono ?_; rintro e w3 ⟨rfl, p2, rfl⟩))
              go_ret
              exact ⟨rfl, below_call' HBW.out HB.out HB.out.size⟩
           ·have e : n = xa.length := by omega
            subst e
            have e : r = true := by
             have := HT.out
             rw [List.take_length, ← HL.out, List.take_length] at this
             rw [← HR2.out, this]; simp [eqFs]
            subst e
            go_wp2
            go_ret
            exact ⟨rfl, HB.out⟩
         ·have hl' : ((xa.length : Int) != (xb.length : Int)) = true := by simp; omega
          have e : r = false := by rw [← HR.out]; rw [show eqFs xa xb = false by unfold eqFs; rw [decide_eq_false_iff_not]; rintro rfl; exact hl rfl]; simp
          clear hl
          subst e
          go_enter Tryz.func12, Tryz.ntmps12
          go_wp2_with (first
           | (go_at_call 21; with_reducible refine (HV.out _ (below_2 _ _ _)).mono ?_; rintro e w3 ⟨rfl, q, rfl⟩)
           | (go_at_call 33; with_reducible refine (HQ.out _ (below_drewN (below_2 _ _ _) _)).mono ?_; rintro e w3 ⟨rfl, q2, rfl⟩))
          go_ret
          exact ⟨rfl, below_drewN (below_2 _ _ _) _⟩
        ·have hka' : (ka == kb) = false := by simpa using hka
         have e : r = false := by rw [← HR.out]; simp [hka]
         subst e
         go_enter Tryz.func12, Tryz.ntmps12
         go_wp2_with (first
          | (go_at_call 21; with_reducible refine (HV.out _ (below_2 _ _ _)).mono ?_; rintro e w3 ⟨rfl, q, rfl⟩)
          | (go_at_call 33; with_reducible refine (HQ.out _ (below_drewN (below_2 _ _ _) _)).mono ?_; rintro e w3 ⟨rfl, q2, rfl⟩))
         go_ret
         exact ⟨rfl, below_drewN (below_2 _ _ _) _⟩
       ·have hpa' : (pa == pb) = false := by simpa using hpa
        have e : r = false := by rw [← HR.out]; simp [hpa]
        subst e
        go_enter Tryz.func12, Tryz.ntmps12
        go_wp2_with (first
         | (go_at_call 21; with_reducible refine (HV.out _ (below_2 _ _ _)).mono ?_; rintro e w3 ⟨rfl, q, rfl⟩)
         | (go_at_call 33; with_reducible refine (HQ.out _ (below_drewN (below_2 _ _ _) _)).mono ?_; rintro e w3 ⟨rfl, q2, rfl⟩))
        go_ret
        exact ⟨rfl, below_drewN (below_2 _ _ _) _⟩
      ·have hma' : (ma == mb) = false := by simpa using hma
       have e : r = false := by rw [← HR.out]; simp [hma]
       subst e
       go_enter Tryz.func12, Tryz.ntmps12
       go_wp2_with (first
        | (go_at_call 21; with_reducible refine (HV.out _ (below_2 _ _ _)).mono ?_; rintro e w3 ⟨rfl, q, rfl⟩)
        | (go_at_call 33; with_reducible refine (HQ.out _ (below_drewN (below_2 _ _ _) _)).mono ?_; rintro e w3 ⟨rfl, q2, rfl⟩))
       go_ret
       exact ⟨rfl, below_drewN (below_2 _ _ _) _⟩
     ·have hla' : (la == lb) = false := by simpa using hla
      have e : r = false := by rw [← HR.out]; simp [hla]
      subst e
      go_enter Tryz.func12, Tryz.ntmps12
      go_wp2_with (first
       | (go_at_call 21; with_reducible refine (HV.out _ (below_2 _ _ _)).mono ?_; rintro e w3 ⟨rfl, q, rfl⟩)
       | (go_at_call 33; with_reducible refine (HQ.out _ (below_drewN (below_2 _ _ _) _)).mono ?_; rintro e w3 ⟨rfl, q2, rfl⟩))
      go_ret
      exact ⟨rfl, below_drewN (below_2 _ _ _) _⟩
  ·have hea' : (ea == eb) = false := by simpa using hea
   have e : r = false := by rw [← HR.out]; simp [hea]
   subst e
   go_enter Tryz.func12, Tryz.ntmps12
   go_wp2_with (first
    | (go_at_call 21; with_reducible refine (HV.out _ (below_2 _ _ _)).mono ?_; rintro e w3 ⟨rfl, q, rfl⟩)
    | (go_at_call 33; with_reducible refine (HQ.out _ (below_drewN (below_2 _ _ _) _)).mono ?_; rintro e w3 ⟨rfl, q2, rfl⟩))
   go_ret
   exact ⟨rfl, below_2 _ _ _⟩
 ·have hsa' : (sa == sb) = false := by simpa using hsa
  have e : r = false := by rw [← HR.out]; simp [hsa]
  subst e
  go_enter Tryz.func12, Tryz.ntmps12
  go_wp2_with (first
   | (go_at_call 21; with_reducible refine (HV.out _ (below_2 _ _ _)).mono ?_; rintro e w3 ⟨rfl, q, rfl⟩)
   | (go_at_call 33; with_reducible refine (HQ.out _ (below_drewN (below_2 _ _ _) _)).mono ?_; rintro e w3 ⟨rfl, q2, rfl⟩))
  go_ret
  exact ⟨rfl, below_2 _ _ _⟩
end Go.Proofs.YtmljohbialacfaaGreatDoor
