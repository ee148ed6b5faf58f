/- The law's own helpers: same, fact, awake. -/
import Derived.Test.YtcnmdhdoiekfoaaDoorW11
namespace Go.Proofs.YtcnmdhdoiekfoaaDoor
open Go.RowKit
set_option maxRecDepth 100000

theorem probs_slice {w : World} {base : Nat} {v : Value} {rule : ByteArray} {l : List ByteArray} (h : ProbsAt w base v rule l) : ∃ A cap, v = .slice A l.length cap ∧ SlAt w A 2 (probRow rule) l := by
  obtain ⟨A, cap, rfl⟩ := own_shape h
  exact ⟨A, cap, rfl, SlAt.of_own h rfl (fun _ => rfl) (by omega)⟩

attribute [local go_sem] cell_alloc_is

/-- A fact of the law's examples. -/
def factOf (k : Int) (id : ByteArray) : FactD := ⟨k, 0, ⟨#[97, 99, 109, 101]⟩, ⟨#[105, 110]⟩, ByteArray.empty, id, 0, 0, ByteArray.empty, 0⟩

set_option maxHeartbeats 1000000 in
theorem fact_any (k : Int) (id : ByteArray) (w : World) :
    Calls Tryd.prog 8 #[.int .i64 k, .string id] w fun e w' => e = .returned (.agg #[.int .i64 k, .int .i64 0, .string ⟨#[97, 99, 109, 101]⟩, .string ⟨#[105, 110]⟩, .string ByteArray.empty, .string id, .int .i64 0, .int .i64 0, .string ByteArray.empty, .int .i64 0]) ∧ Below w.heap.size w w' := by
  go_enter Tryd.func8, Tryd.ntmps8
  go_wp2
  refine bodyPost_ret (v := .agg #[.int .i64 k, .int .i64 0, .string ⟨#[97, 99, 109, 101]⟩, .string ⟨#[105, 110]⟩, .string ByteArray.empty, .string id, .int .i64 0, .int .i64 0, .string ByteArray.empty, .int .i64 0]) (by simp [results, Tryd.results8, go_sem]; rfl) rfl ⟨rfl, below_new _ _⟩

def exA : List FactD := [factOf 1 ⟨#[97]⟩, factOf 5 ⟨#[97]⟩, factOf 5 ⟨#[97]⟩]
def exB : List FactD := [factOf 1 ⟨#[97]⟩, factOf 1 ⟨#[98]⟩, factOf 5 ⟨#[98]⟩, factOf 5 ⟨#[97]⟩]
theorem exA_once : selN exA (onceB exA) exA.length = [⟨#[97]⟩] := by decide +kernel
theorem exB_order : selN exB (overB exB) exB.length = [⟨#[98]⟩] := by decide +kernel

set_option maxHeartbeats 1000000 in
theorem awake_any (w : World) : Calls Tryd.prog 4 #[] w fun e w' => e = .returned (.bool true) ∧ Below w.heap.size w w' := by
  go_enter Tryd.func4, Tryd.ntmps4
  go_wp2_with (fail)
  refine (fact_any _ _ _).mono ?_
  rintro e w1 ⟨rfl, hb1⟩
  have HB1 := Lib.hid hb1
  clear hb1
  go_wp2_with (fail)
  refine (fact_any _ _ _).mono ?_
  rintro e w2 ⟨rfl, hb2⟩
  have HB2 := Lib.hid (below_call hb2 HB1.out)
  clear hb2
  go_wp2_with (fail)
  refine (fact_any _ _ _).mono ?_
  rintro e w3 ⟨rfl, hb3⟩
  have HB3 := Lib.hid (below_call hb3 HB2.out)
  clear hb3
  go_wp2_with (fail)
  refine (ponce_any _ 3 exA _ (by decide) (by decide) (rows_new (by simp) _ _ exA rfl (fun _ => rfl) (by omega) (by unfold maxLen; decide))).mono ?_
  rintro e w4 ⟨v, rfl, hp, hb4⟩
  rw [exA_once] at hp
  obtain ⟨A, cap, rfl, hsl⟩ := probs_slice hp
  have HB4 := Lib.hid (below_call hb4 (below_call (below_new _ _) HB3.out))
  have HS := Lib.hid hsl
  obtain ⟨b, off, rfl, _⟩ := hsl.ptr (n := 0) (by simp)
  clear hb4 hp hsl
  go_wp2_with (fail)
  refine (fact_any _ _ _).mono ?_
  rintro e w1 ⟨rfl, hb1⟩
  have HB5 := Lib.hid (below_call hb1 HB4.out)
  have HS1 := Lib.hid (HS.out.below hb1)
  clear hb1
  go_wp2_with (fail)
  refine (fact_any _ _ _).mono ?_
  rintro e w2 ⟨rfl, hb1⟩
  have HB6 := Lib.hid (below_call hb1 HB5.out)
  have HS2 := Lib.hid (HS1.out.below hb1)
  clear hb1
  go_wp2_with (fail)
  refine (fact_any _ _ _).mono ?_
  rintro e w3 ⟨rfl, hb1⟩
  have HB7 := Lib.hid (below_call hb1 HB6.out)
  have HS3 := Lib.hid (HS2.out.below hb1)
  clear hb1
  go_wp2_with (fail)
  refine (fact_any _ _ _).mono ?_
  rintro e w4 ⟨rfl, hb1⟩
  have HB8 := Lib.hid (below_call hb1 HB7.out)
  have HS4 := Lib.hid (HS3.out.below hb1)
  clear hb1
  go_wp2_with (fail)
  refine (pordered_any _ 4 exB _ (by decide) (by decide) (rows_new (by simp) _ _ exB rfl (fun _ => rfl) (by omega) (by unfold maxLen; decide))).mono ?_
  rintro e w5 ⟨v, rfl, hp, hb1⟩
  rw [exB_order] at hp
  obtain ⟨A, cap2, rfl, hsl⟩ := probs_slice hp
  have HB9 := Lib.hid (below_call hb1 (below_call (below_new _ _) HB8.out))
  have HS5 := Lib.hid ((HS4.out.alloc _).below hb1)
  obtain ⟨b2, off2, rfl, _⟩ := hsl.ptr (n := 0) (by simp)
  have c0 := HS5.out.cell0 (n := 0) (by simp) (v := .string sOnce) rfl
  have c1 := HS5.out.cell (n := 0) (by simp) (j := 1) (v := .string ⟨#[97]⟩) rfl
  have d0 := hsl.cell0 (n := 0) (by simp) (v := .string sOrder) rfl
  have d1 := hsl.cell (n := 0) (by simp) (j := 1) (v := .string ⟨#[98]⟩) rfl
  simp only [Nat.zero_mul, Nat.add_zero, sOnce, sOrder] at c0 c1 d0 d1
  clear hb1 hp hsl
  go_wp2_with (fail)
  go_ways
  go_ret
  exact ⟨rfl, HB9.out⟩
end Go.Proofs.YtcnmdhdoiekfoaaDoor
