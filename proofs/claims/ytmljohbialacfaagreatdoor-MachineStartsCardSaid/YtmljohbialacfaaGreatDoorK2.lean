/- Code: keys that ascend, operators, ranges. -/
import Derived.Test.YtmljohbialacfaaGreatDoorGK1
import Derived.Test.YtmljohbialacfaaGreatDoorGQ2
import Derived.Deep.QuietTactic
set_option linter.unusedVariables false
set_option linter.unusedSimpArgs false
namespace Go.Proofs.YtmljohbialacfaaGreatDoor
open Go.RowKit
set_option maxRecDepth 100000
attribute [local go_sem] cell_alloc_is
def strCs (k : ByteArray) : List Value := [.string k]
/-- A slice of strings. -/
def KeysV (w : World) (v : Value) (l : List ByteArray) : Prop := ∃ A cap, v = .slice A l.length cap ∧ l.length ≤ cap ∧ SlAt w A 1 strCs l
theorem KeysV.below {w w' : World} {v : Value} {l : List ByteArray} (h : KeysV w v l) (hb : Below w.heap.size w w') : KeysV w' v l := by
 obtain ⟨A, cap, h1, h2, h3⟩ := h
 exact ⟨A, cap, h1, h2, h3.below hb⟩
set_option maxHeartbeats 4000000 in
theorem keys_any (l : List ByteArray) (v : Value) (w : World) (hl : l.length ≤ 1000000) (hok : ∀ k ∈ l, k.size ≤ 4294967296) (hp : Pow w) (h : KeysV w v l) :
  Calls Tryz.prog 173 #[v] w fun e w' => (∃ b, e = .returned (.bool b) ∧ (b = true ↔ AscOk l)) ∧ Below w.heap.size w w' := by
 obtain ⟨P, hP⟩ : ∃ P : Ending → World → Prop, (fun e w' => (∃ b, e = .returned (.bool b) ∧ (b = true ↔ AscOk l)) ∧ Below w.heap.size w w') = P := ⟨_, rfl⟩
 rw [hP]
 have HP := Lib.hid hP
 obtain ⟨A, cap, rfl, hcap, hs⟩ := h
 have HA := Lib.hid hs
 have HW := Lib.hid hp
 have HK := Lib.hid hok
 clear hP hs hp hok
 go_enter Tryz.func173, Tryz.ntmps173
 go_wp2_with (fail)
 go_loopw [3, 4, 7] (fun _ _ iv wr => ∃ k : Nat, k ≤ l.length ∧ iv = .int .i64 k ∧ Hid (∀ i (h : i < l.length), i < k → AscAt l i h) ∧ Below w.heap.size w wr) (fun _ _ iv _ => l.length - (intOf iv).toNat)
 case atStart => exact ⟨0, Nat.zero_le _, rfl, Lib.hid (fun i h h2 => by omega), Below.refl _ _⟩
 case round =>
  obtain ⟨k, hk, rfl, HR, hbel⟩ := hrel
  have HB := Lib.hid hbel
  clear hbel
  have hk0 : (0 : Int) ≤ (k : Int) := by omega
  by_cases hlt : k < l.length
  ·have hlt' : (k : Int) < (l.length : Int) := by omega
   have hsa := HA.out.below HB.out
   obtain ⟨x, hx⟩ : ∃ x, l[k] = x := ⟨_, rfl⟩
   obtain ⟨bA, off, rfl, _⟩ := hsa.ptr hlt
   have c0 := hsa.cell0 hlt (v := .string x) (by rw [hx]; rfl)
   have HT : Hid (∀ wx, Pow wx → Calls Tryz.prog 172 #[.string x] wx fun e w' => (∃ b, e = .returned (.bool b) ∧ (b = true ↔ StrOk x)) ∧ Below wx.heap.size wx w') := Lib.hid (fun wx hpx => ctext_any x wx (HK.out x (hx ▸ List.getElem_mem hlt)) hpx)
   have HX := Lib.hid hx
   simp only [Nat.mul_one] at c0
   clear hsa hx
   by_cases hp0 : 0 < k
   ·have hp0' : (0 : Int) < (k : Int) := by omega
    have hk1 : (0 : Int) ≤ (k : Int) - 1 := by omega
    have hlt1 : k - 1 < l.length := by omega
    have hlt1' : (k : Int) - 1 < (l.length : Int) := by omega
    obtain ⟨y, hy⟩ : ∃ y, l[k - 1] = y := ⟨_, rfl⟩
    have HY := Lib.hid hy
    have HC1 : Hid (∀ wx, SlAt wx (some ⟨bA, off, none⟩) 1 strCs l → wx.cell? ⟨bA, off + (k - 1), none⟩ = some (.string y)) := Lib.hid (fun wx hx => by
     have := hx.cell0 hlt1 (v := .string y) (by rw [hy]; rfl)
     simpa only [Nat.mul_one] using this)
    have htn : ((k : Int) - 1).toNat = k - 1 := by omega
    clear hy
    cases hle : sleB x y with
    | true =>
     have h5 : (Op.bytesLess x.toList y.toList || x.toList == y.toList) = true := hle
     have HNO : Hid (¬ AscOk l) := Lib.hid (fun h => by
      have := (h k hlt).2 hp0
      rw [HX.out, HY.out, hle] at this
      cases this)
     clear hle
     go_wp2_with (first
      | (go_at_call 172; (with_reducible refine (HT.out _ (HW.out.below HB.out)).mono ?_); rintro e w1 ⟨⟨b, rfl, hb⟩, hb1⟩; have hy1 := below_call' hb1 HB.out HB.out.size; have HB1 := Lib.hid hy1; have d1 := HC1.out _ (HA.out.below hy1); clear hb1 hy1 hb; cases b))
     all_goals
      rw [← HP.out]
      exact ⟨⟨false, rfl, by simp; exact HNO.out⟩, HB1.out⟩
    | false =>
     have h5 : (Op.bytesLess x.toList y.toList || x.toList == y.toList) = false := hle
     have HLE := Lib.hid hle
     clear hle
     go_wp2_with (first
      | (go_at_call 172; (with_reducible refine (HT.out _ (HW.out.below HB.out)).mono ?_); rintro e w1 ⟨⟨b, rfl, hb⟩, hb1⟩; have hy1 := below_call' hb1 HB.out HB.out.size; have HB1 := Lib.hid hy1; have d1 := HC1.out _ (HA.out.below hy1); have HBQ := Lib.hid hb; clear hb1 hy1 hb; cases b))
     ·rw [← HP.out]
      exact ⟨⟨false, rfl, by simp; intro h; have := HBQ.out.2 (by have := (h k hlt).1; rwa [HX.out] at this); cases this⟩, HB1.out⟩
     ·exact ⟨⟨k + 1, by omega, by simp, Lib.hid (fun i h h2 => by
       by_cases e : i = k
       ·subst e
        refine ⟨by rw [HX.out]; exact HBQ.out.1 (by trivial), fun _ => by rw [HX.out, HY.out]; exact HLE.out⟩
       ·exact HR.out i h (by omega)), HB1.out⟩, by simp [intOf]; omega⟩
   ·have hp0' : ¬ (0 : Int) < (k : Int) := by omega
    go_wp2_with (first
     | (go_at_call 172; (with_reducible refine (HT.out _ (HW.out.below HB.out)).mono ?_); rintro e w1 ⟨⟨b, rfl, hb⟩, hb1⟩; have HB1 := Lib.hid (below_call' hb1 HB.out HB.out.size); have HBQ := Lib.hid hb; clear hb1 hb; cases b))
    ·rw [← HP.out]
     exact ⟨⟨false, rfl, by simp; intro h; have := HBQ.out.2 (by have := (h k hlt).1; rwa [HX.out] at this); cases this⟩, HB1.out⟩
    ·exact ⟨⟨k + 1, by omega, by simp, Lib.hid (fun i h h2 => by
      by_cases e : i = k
      ·subst e
       exact ⟨by rw [HX.out]; exact HBQ.out.1 (by trivial), fun h => absurd h hp0⟩
      ·exact HR.out i h (by omega)), HB1.out⟩, by simp [intOf]; omega⟩
  ·have e : k = l.length := by omega
   subst e
   go_wp2_with (fail)
   rw [← HP.out]
   exact ⟨⟨true, rfl, by simp; exact fun i h => HR.out i h h⟩, HB.out⟩
set_option maxHeartbeats 4000000 in
theorem ascend_any (l : List ByteArray) (v : Value) (w : World) (hl : l.length ≤ 1000000) (hok : ∀ k ∈ l, k.size ≤ 4294967296) (h : KeysV w v l) :
  Calls Tryz.prog 125 #[v] w fun e w' => (∃ b, e = .returned (.bool b) ∧ (b = true ↔ AscOk l)) ∧ Below w.heap.size w w' := by
 obtain ⟨P, hP⟩ : ∃ P : Ending → World → Prop, (fun e w' => (∃ b, e = .returned (.bool b) ∧ (b = true ↔ AscOk l)) ∧ Below w.heap.size w w') = P := ⟨_, rfl⟩
 rw [hP]
 have HP := Lib.hid hP
 obtain ⟨A, cap, rfl, hcap, hs⟩ := h
 have HA := Lib.hid hs
 have HK := Lib.hid hok
 clear hP hs hok
 go_enter Tryz.func125, Tryz.ntmps125
 go_wp2_with (fail)
 go_loopw [3] (fun iv wr => ∃ k : Nat, k ≤ l.length ∧ iv = .int .i64 k ∧ Hid (∀ i (h : i < l.length), i < k → AscAt l i h) ∧ Below w.heap.size w wr) (fun iv _ => l.length - (intOf iv).toNat)
 case atStart => exact ⟨0, Nat.zero_le _, rfl, Lib.hid (fun i h h2 => by omega), Below.refl _ _⟩
 case round =>
  obtain ⟨k, hk, rfl, HR, hbel⟩ := hrel
  have HB := Lib.hid hbel
  clear hbel
  have hk0 : (0 : Int) ≤ (k : Int) := by omega
  by_cases hlt : k < l.length
  ·have hlt' : (k : Int) < (l.length : Int) := by omega
   have hsa := HA.out.below HB.out
   obtain ⟨x, hx⟩ : ∃ x, l[k] = x := ⟨_, rfl⟩
   obtain ⟨bA, off, rfl, _⟩ := hsa.ptr hlt
   have c0 := hsa.cell0 hlt (v := .string x) (by rw [hx]; rfl)
   have C0H : Hid (∀ wx, SlAt wx (some ⟨bA, off, none⟩) 1 strCs l → wx.cell? ⟨bA, off + k, none⟩ = some (.string x)) := Lib.hid (fun wx hx2 => by
    have := hx2.cell0 hlt (v := .string x) (by rw [hx]; rfl)
    simpa only [Nat.mul_one] using this)
   have HT : Hid (∀ wx, Calls Tryz.prog 126 #[.string x] wx fun e w' => (∃ t b, e = .returned (.tuple #[.string t, .bool b]) ∧ (b = true ↔ StrOk x)) ∧ Below wx.heap.size wx w') := Lib.hid (fun wx => rtoken_any x wx (HK.out x (hx ▸ List.getElem_mem hlt)))
   have HX := Lib.hid hx
   simp only [Nat.mul_one] at c0
   clear hsa hx
   by_cases hp0 : 0 < k
   ·have hp0' : (0 : Int) < (k : Int) := by omega
    have hk1 : (0 : Int) ≤ (k : Int) - 1 := by omega
    have hlt1 : k - 1 < l.length := by omega
    have hlt1' : (k : Int) - 1 < (l.length : Int) := by omega
    obtain ⟨y, hy⟩ : ∃ y, l[k - 1] = y := ⟨_, rfl⟩
    have HY := Lib.hid hy
    have HC1 : Hid (∀ wx, SlAt wx (some ⟨bA, off, none⟩) 1 strCs l → wx.cell? ⟨bA, off + (k - 1), none⟩ = some (.string y)) := Lib.hid (fun wx hx => by
     have := hx.cell0 hlt1 (v := .string y) (by rw [hy]; rfl)
     simpa only [Nat.mul_one] using this)
    have htn : ((k : Int) - 1).toNat = k - 1 := by omega
    clear hy
    cases hle : sleB x y with
    | true =>
     have h5 : (Op.bytesLess x.toList y.toList || x.toList == y.toList) = true := hle
     have HNO : Hid (¬ AscOk l) := Lib.hid (fun h => by
      have := (h k hlt).2 hp0
      rw [HX.out, HY.out, hle] at this
      cases this)
     clear hle
     go_upto_region 5 with (first
      | (go_at_call 126; (with_reducible refine (HT.out _).mono ?_); rintro e w1 ⟨⟨t, b, rfl, hb⟩, hb1⟩; have hy1 := below_call' hb1 HB.out HB.out.size; have HB1 := Lib.hid hy1; have d1 := HC1.out _ (HA.out.below hy1); clear hb1 hy1 hb; have c1 := C0H.out _ (HA.out.below HB1.out); clear c0; cases b))
     all_goals (go_quiet (fail); go_wp2_with (fail))
     all_goals
      rw [← HP.out]
      exact ⟨⟨false, rfl, by simp; exact HNO.out⟩, below_drewN HB1.out _⟩
    | false =>
     have h5 : (Op.bytesLess x.toList y.toList || x.toList == y.toList) = false := hle
     have HLE := Lib.hid hle
     clear hle
     go_upto_region 5 with (first
      | (go_at_call 126; (with_reducible refine (HT.out _).mono ?_); rintro e w1 ⟨⟨t, b, rfl, hb⟩, hb1⟩; have hy1 := below_call' hb1 HB.out HB.out.size; have HB1 := Lib.hid hy1; have d1 := HC1.out _ (HA.out.below hy1); have HBQ := Lib.hid hb; clear hb1 hy1 hb; have c1 := C0H.out _ (HA.out.below HB1.out); clear c0; cases b))
     all_goals (go_quiet (fail); go_wp2_with (fail))
     ·rw [← HP.out]
      exact ⟨⟨false, rfl, by simp; intro h; have := HBQ.out.2 (by have := (h k hlt).1; rwa [HX.out] at this); cases this⟩, below_drewN HB1.out _⟩
     ·exact ⟨⟨k + 1, by omega, by simp, Lib.hid (fun i h h2 => by
       by_cases e : i = k
       ·subst e
        refine ⟨by rw [HX.out]; exact HBQ.out.1 (by trivial), fun _ => by rw [HX.out, HY.out]; exact HLE.out⟩
       ·exact HR.out i h (by omega)), below_drewN HB1.out _⟩, by simp [intOf]; omega⟩
   ·have hp0' : ¬ (0 : Int) < (k : Int) := by omega
    go_upto_region 5 with (first
     | (go_at_call 126; (with_reducible refine (HT.out _).mono ?_); rintro e w1 ⟨⟨t, b, rfl, hb⟩, hb1⟩; have HB1 := Lib.hid (below_call' hb1 HB.out HB.out.size); have HBQ := Lib.hid hb; clear hb1 hb; have c1 := C0H.out _ (HA.out.below HB1.out); clear c0; cases b))
    all_goals (go_quiet (fail); go_wp2_with (fail))
    ·rw [← HP.out]
     exact ⟨⟨false, rfl, by simp; intro h; have := HBQ.out.2 (by have := (h k hlt).1; rwa [HX.out] at this); cases this⟩, below_drewN HB1.out _⟩
    ·exact ⟨⟨k + 1, by omega, by simp, Lib.hid (fun i h h2 => by
      by_cases e : i = k
      ·subst e
       exact ⟨by rw [HX.out]; exact HBQ.out.1 (by trivial), fun h => absurd h hp0⟩
      ·exact HR.out i h (by omega)), below_drewN HB1.out _⟩, by simp [intOf]; omega⟩
  ·have e : k = l.length := by omega
   subst e
   go_wp2_with (fail)
   rw [← HP.out]
   exact ⟨⟨true, rfl, by simp; exact fun i h => HR.out i h h⟩, HB.out⟩
theorem rbinary_any (s : ByteArray) (w : World) : Calls Tryz.prog 127 #[.string s] w fun e w' => (∃ b, e = .returned (.bool b) ∧ (b = true ↔ s.toList ∈ binL)) ∧ w' = w := by
 go_enter Tryz.func127, Tryz.ntmps127
 go_wp2
 all_goals
  go_returns
  refine ⟨⟨_, rfl, ?_⟩, rfl⟩
  simp_all [binL]
end Go.Proofs.YtmljohbialacfaaGreatDoor
