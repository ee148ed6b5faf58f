/- The walks of the reference's small functions over facts. -/
import Derived.Test.YtcnmdhdoiekfoaaDoorRows
import Derived.Test.YtcnmdhdoiekfoaaDoorBase
import Derived.Deep.QuietTactic
import Derived.BigQuiet
namespace Go.Proofs.YtcnmdhdoiekfoaaDoor
open Go.RowKit

structure FactD where
  kind : Int
  at_ : Int
  tenant : ByteArray
  source : ByteArray
  key : ByteArray
  event : ByteArray
  attempt : Int
  version : Int
  worker : ByteArray
  units : Int

def FactD.cells (f : FactD) : List Value :=
  [.int .i64 f.kind, .int .i64 f.at_, .string f.tenant, .string f.source, .string f.key, .string f.event, .int .i64 f.attempt, .int .i64 f.version, .string f.worker, .int .i64 f.units]

abbrev FactsAt (w : World) (A : Option Addr) (l : List FactD) : Prop := SlAt w A 10 FactD.cells l

def firstN : List FactD → Int → ByteArray → Nat → Int
  | [], _, _, _ => -1
  | f :: r, k, id, n => if f.kind = k ∧ f.event = id then n else firstN r k id (n + 1)

def countN : List FactD → Int → ByteArray → Nat
  | [], _, _ => 0
  | f :: r, k, id => (if f.kind = k ∧ f.event = id then 1 else 0) + countN r k id

theorem toList_beq (a b : ByteArray) : (a.toList == b.toList) = decide (a = b) := by
  rw [Bool.eq_iff_iff]
  simp only [beq_iff_eq, decide_eq_true_eq]
  constructor
  · intro h
    have : a.data.toList = b.data.toList := by simpa [ByteArray.toList_eq] using h
    cases a; cases b; simp at this; simpa using this
  · rintro rfl; rfl

theorem countN_le (l : List FactD) (k : Int) (id : ByteArray) : countN l k id ≤ l.length := by
  induction l with
  | nil => simp [countN]
  | cons f r ih => unfold countN; simp only [List.length_cons]; split <;> omega
theorem countN_append (l r : List FactD) (k : Int) (id : ByteArray) : countN (l ++ r) k id = countN l k id + countN r k id := by
  induction l with
  | nil => simp [countN]
  | cons f t ih => simp only [List.cons_append, countN, ih]; omega
theorem countN_snoc (l : List FactD) (n : Nat) (h : n < l.length) (k : Int) (id : ByteArray) : countN (l.take (n + 1)) k id = countN (l.take n) k id + if l[n].kind = k ∧ l[n].event = id then 1 else 0 := by
  rw [List.take_succ_eq_append_getElem h, countN_append]; simp [countN]

theorem ret_int {k : IntKind} {a b : Int} (h : a = b) : Ending.returned (.int k a) = .returned (.int k b) := by rw [h]

set_option maxHeartbeats 400000 in
theorem first_any (A : Option Addr) (cap : Nat) (l : List FactD) (k : Int) (id : ByteArray) (w : World) (hl : l.length ≤ 4000) (hf : FactsAt w A l) :
    Calls Tryd.prog 15 #[.slice A l.length cap, .int .i64 k, .string id] w fun e w' => e = .returned (.int .i64 (firstN l k id 0)) ∧ w = w' := by
  go_enter Tryd.func15, Tryd.ntmps15
  go_wp2
  go_loop [7] (fun i => ∃ n : Nat, n ≤ l.length ∧ i = .int .i64 n ∧ firstN l k id 0 = firstN (l.drop n) k id n) (fun i => l.length - (intOf i).toNat)
  case atStart => exact ⟨0, Nat.zero_le _, rfl, rfl⟩
  case round =>
    obtain ⟨n, hn, rfl, hfn⟩ := hrel
    have H := Lib.hid hfn; clear hfn
    by_cases hlt : n < l.length
    · obtain ⟨b, off, rfl, _⟩ := hf.ptr hlt
      have h0 := hf.cell0 hlt (v := _) rfl
      have h5 := hf.cell hlt (j := 5) (v := _) rfl
      have H2 : firstN (l.drop n) k id n = if l[n].kind = k ∧ l[n].event = id then (n : Int) else firstN (l.drop (n + 1)) k id (n + 1) := by
        rw [List.drop_eq_getElem_cons hlt]; rfl
      replace H2 := Lib.hid (H.out.trans H2)
      clear H
      go_wp2
      · have h1 : l[n].kind = k := by assumption
        have h2 : (l[n].event.toList == id.toList) = true := by assumption
        rw [toList_beq] at h2
        go_ret
        exact ⟨ret_int (by rw [H2.out, if_pos ⟨h1, by simpa using h2⟩]), rfl⟩
      · have h2 : (l[n].event.toList == id.toList) = false := by assumption
        rw [toList_beq] at h2
        go_round
        case rel => exact ⟨n + 1, by omega, by go_num, by rw [H2.out, if_neg (fun h => by simp [h.2] at h2)]⟩
        case measure => simp [intOf]; omega
      · have h1 : ¬ l[n].kind = k := by assumption
        go_round
        case rel => exact ⟨n + 1, by omega, by go_num, by rw [H2.out, if_neg (fun h => h1 h.1)]⟩
        case measure => simp [intOf]; omega
    · go_wp2
      go_ret
      exact ⟨ret_int (by rw [H.out, List.drop_of_length_le (by omega)]; rfl), rfl⟩


def freshB (l : List FactD) (at_ : Nat) : Bool := match l[at_]? with
  | some f => (l.take at_).all fun g => decide (g.event ≠ f.event)
  | none => false

theorem freshB_eq (l : List FactD) (n : Nat) (h : n < l.length) : freshB l n = (l.take n).all fun g => decide (g.event ≠ l[n].event) := by simp [freshB, h]


set_option maxHeartbeats 400000 in
theorem counted_any (A : Option Addr) (cap : Nat) (l : List FactD) (w : World) (hl : l.length ≤ 4000) :
    Calls Tryd.prog 14 #[.slice A l.length cap] w fun e w' => e = .returned (.slice A l.length cap) ∧ w = w' := by
  go_enter Tryd.func14, Tryd.ntmps14
  go_wp2
  go_ret
  exact ⟨rfl, rfl⟩

theorem SlAt_nil_ptr {α : Type} {w : World} {sz : Nat} {c : α → List Value} {l : List α} (h : SlAt w none sz c l) : l = [] := by
  cases l with
  | nil => rfl
  | cons a r => obtain ⟨b, off, h1, _⟩ := h.ptr (n := 0) (by simp); cases h1

set_option maxHeartbeats 400000 in
theorem pfirst_any (A : Option Addr) (cap : Nat) (l : List FactD) (w : World) (hl : l.length ≤ 4000) (hc : l.length ≤ cap) :
    Calls Tryd.prog 10 #[.slice A l.length cap] w fun e w' => e = .returned (.slice A l.length cap) ∧ w = w' := by
  go_enter Tryd.func10, Tryd.ntmps10
  go_wp2
  go_ret
  exact ⟨rfl, rfl⟩
end Go.Proofs.YtcnmdhdoiekfoaaDoor
