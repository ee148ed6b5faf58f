/- The machines wake: the table of actions. -/
import Derived.Test.YtemakcaojdoakaaGreatDoorD13
import Derived.Laws.EntriesVeiled
namespace Go.Proofs.YtemakcaojdoakaaGreatDoor
open Go.RowKit
set_option maxRecDepth 100000

def actFn (i : Nat) : Value := .func (.func i) #[] #[]
/-- Operation and function of each row of the table. -/
def actL : List (Nat × Nat) := [(1, 48), (2, 48), (3, 48), (4, 48), (5, 49), (6, 50), (7, 51), (16, 52), (8, 53), (9, 53), (10, 53), (18, 53), (11, 54), (12, 54), (13, 55), (14, 55), (15, 56), (17, 57), (19, 58), (20, 59)]
def actRow (p : Nat × Nat) : List Value := [.int .i64 p.1, .func (.func p.2) #[] #[]]
theorem act_lt : ∀ p ∈ actL, p.1 < 21 := by decide

theorem Tryz.infoAct : (Tryz.prog.info? 98).map (fun i => (i.zero, i.size, i.bytes)) = some (some .nilFunc, 1, 8) := by kernel_rfl
def noActs : Array Value := Array.replicate 21 .nilFunc
/-- The table after k rows. -/
def actsN : Nat → Array Value
  | 0 => noActs
  | k + 1 => (actsN k).setIfInBounds (actL.getD k (0, 0)).1 (actFn (actL.getD k (0, 0)).2)
theorem actsN_size (k : Nat) : (actsN k).size = 21 := by
  induction k with
  | zero => rfl
  | succ k ih => simp [actsN, ih]
theorem mc_a : madeCells (Value.nilFunc).cells (21 * 1) = noActs := by kernel_rfl
theorem mk_acts (w : World) : (Instr.makeSlice 80 (.int .i64 21) (.int .i64 21)).run Tryz.prog w = .ok (.slice (some ⟨w.heap.size, 0, none⟩) 21 21) (w.alloc (.cells noActs 98)) := by
  obtain ⟨i0, hi, hz0, hz1, hz2⟩ := info_parts Tryz.infoAct
  have h := run_makeSlice (P := Tryz.prog) w 80 98 i0 _ Tryz.underlying80 hi hz0 .i64 .i64 21 21 (by omega) (by omega) (by rw [hz1]; decide) (by rw [hz2]; decide) (by omega)
  rw [hz1] at h
  rw [h]
  congr 3
  exact mc_a
attribute [local go_sem] cell_alloc_is
set_option maxHeartbeats 4000000 in
theorem actions_ok (w : World) :
    Calls Tryz.prog 36 #[] w fun e w' => ∃ g, e = .returned (.slice (some ⟨g, 0, none⟩) 21 21) ∧ Blk w' g 98 (actsN 20) ∧ Below w.heap.size w w' := by
  have hmk := mk_acts
  go_enter Tryz.func36, Tryz.ntmps36
  go_upto_region 2 with fail
  clear hmk
  go_upto_region 3 with fail
  have HA0 := Lib.hid ((Blk.new w 98 noActs).alloc (.cells (actL.flatMap actRow).toArray 101))
  have HB0 := Lib.hid (rows_new (g := w.heap.size + 1) (w := w.alloc (.cells noActs 98)) (sz := 2) (c := actRow) (by simp) (actL.flatMap actRow).toArray 101 actL rfl (fun _ => rfl) (by omega) (by decide))
  have HC0 := Lib.hid (below_2 w (.cells noActs 98) (.cells (actL.flatMap actRow).toArray 101))
  go_loopw [27] (fun i wr => ∃ k : Nat, k ≤ 20 ∧ i = .int .i64 k ∧ Blk wr w.heap.size 98 (actsN k) ∧ SlAt wr (some ⟨w.heap.size + 1, 0, none⟩) 2 actRow actL ∧ Below w.heap.size w wr) (fun i _ => 20 - (intOf i).toNat)
  case atStart => exact ⟨0, by omega, rfl, HA0.out, HB0.out, HC0.out⟩
  case round =>
    obtain ⟨k, hk, rfl, hba, hsb, hbel⟩ := hrel
    have HA := Lib.hid hba
    have HS := Lib.hid hsb
    have HB := Lib.hid hbel
    clear hba hsb hbel HA0 HB0 HC0
    by_cases hlt : k < 20
    · have hna : k < actL.length := hlt
      have hlt' : (k : Int) < 20 := by omega
      have hk0 : (0 : Int) ≤ (k : Int) := by omega
      obtain ⟨o, f, hof⟩ : ∃ o f, actL[k] = (o, f) := ⟨_, _, rfl⟩
      have ho : o < 21 := act_lt (o, f) (hof ▸ List.getElem_mem hna)
      have ho1 : (o : Int) < 21 := by omega
      have ho0 : (0 : Int) ≤ (o : Int) := by omega
      have c0 := HS.out.cell0 hna (v := .int .i64 o) (by rw [hof]; rfl)
      have c1 := HS.out.cell hna (j := 1) (v := .func (.func f) #[] #[]) (by rw [hof]; rfl)
      simp only [Nat.zero_add] at c0 c1
      have z0 := HA.out.frozen o
      have q0 := HA.out.cell o ((actsN k)[o]'(by rw [actsN_size]; exact ho)) (Array.getElem?_eq_getElem _)
      have HN : Hid (actsN (k + 1) = (actsN k).setIfInBounds o (actFn f)) := Lib.hid (by simp [actsN, List.getD_eq_getElem?_getD, List.getElem?_eq_getElem hna, hof])
      have hlt2 := HA.out.lt
      have HO := Lib.hid hof
      clear hof
      go_wp2_with (fail)
      refine ⟨⟨k + 1, by omega, by simp, ?_, ?_, ?_⟩, by simp [intOf]; omega⟩
      · rw [HN.out]
        exact (HA.out.set_ o _).alloc _
      · refine SlAt.alloc (fun i row hi => ?_) _
        obtain ⟨b, off, h1, h2, h3⟩ := HS.out i row hi
        injection h1 with h1
        injection h1 with h1 h4
        subst h1
        subst h4
        exact ⟨_, _, rfl, by simpa using h2, fun j v hv => by rw [World.cell?_setCell_far _ _ _ _ (by simp)]; exact h3 j v hv⟩
      · exact (HB.out.setCell (p := ⟨w.heap.size, o, none⟩) (Nat.le_refl _) _).alloc (by simpa using HB.out.size) _
    · have e : k = 20 := by omega
      subst e
      go_wp2
      go_ret
      exact ⟨w.heap.size, rfl, HA.out, HB.out⟩
end Go.Proofs.YtemakcaojdoakaaGreatDoor
