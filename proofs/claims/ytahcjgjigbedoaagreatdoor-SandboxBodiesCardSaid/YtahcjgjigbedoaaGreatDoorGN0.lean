/- Slices of slices and of structs in memory: what a value reads as, whatever else the world holds. Equality of machines, and what the functions that look at them answer. Names: runs of bytes and keywords, in plain Lean. -/
import Derived.Test.YtahcjgjigbedoaaGreatDoorBase
set_option linter.unusedVariables false
set_option linter.unusedSimpArgs false
namespace Go.Proofs.YtahcjgjigbedoaaGreatDoor
open Go.RowKit

/-- The value v is a slice whose elements (sz cells each) are related to the elements of l. -/
def RowsV {α : Type} (lim sz : Nat) (R : World → List Value → α → Prop) (w : World) (v : Value) (l : List α) : Prop :=
 ∃ (A : Option Addr) (cap : Nat) (rows : List (List Value)), v = .slice A l.length cap ∧ l.length ≤ cap ∧ l.length ≤ lim ∧ SlAt w A sz (fun r => r) rows ∧ rows.length = l.length ∧ ∀ i (h : i < rows.length) (h' : i < l.length), R w rows[i] l[i]

/-- R holds on behind whatever makes memory and turns nothing. -/
def Stays {α : Type} (R : World → α → Prop) : Prop := ∀ w w' a, R w a → Below w.heap.size w w' → R w' a
def Stays2 {α β : Type} (R : World → α → β → Prop) : Prop := ∀ w w' a b, R w a b → Below w.heap.size w w' → R w' a b

theorem RowsV.below {α : Type} {lim sz : Nat} {R : World → List Value → α → Prop} (hR : Stays2 R) {w w' : World} {v : Value} {l : List α} (h : RowsV lim sz R w v l) (hb : Below w.heap.size w w') : RowsV lim sz R w' v l := by
 obtain ⟨A, cap, rows, h1, h2, h3, h4, h5, h6⟩ := h
 exact ⟨A, cap, rows, h1, h2, h3, h4.below hb, h5, fun i h h' => hR _ _ _ _ (h6 i h h') hb⟩
theorem stays_rows {α : Type} {lim sz : Nat} {R : World → List Value → α → Prop} (hR : Stays2 R) : Stays2 (RowsV lim sz R) := fun _ _ _ _ h hb => h.below hR hb

theorem RowsV.nil {α : Type} {lim sz : Nat} {R : World → List Value → α → Prop} {w : World} (A : Option Addr) (cap : Nat) : RowsV lim sz R w (.slice A 0 cap) ([] : List α) :=
 ⟨A, cap, [], rfl, Nat.zero_le _, by simp, SlAt.nil, rfl, fun i h => absurd h (by simp)⟩

/-- A cell of the program's values. -/
structure CellD where
 kind : Int
 int : Int
 str : ByteArray
 n : Int
def CellD.cells (c : CellD) : List Value := [.int .i64 c.kind, .int .i64 c.int, .string c.str, .int .i64 c.n]
def cellR (_ : World) (row : List Value) (c : CellD) : Prop := row = c.cells
abbrev ValD := List CellD
def ValV := RowsV 3518437208780 4 cellR
theorem stays_cell : Stays2 cellR := fun _ _ _ _ h _ => h
theorem stays_val : Stays2 ValV := stays_rows stays_cell
/-- A value's cells as a list. -/
theorem ValV.at {w : World} {v : Value} {l : ValD} (h : ValV w v l) : ∃ A cap, v = .slice A l.length cap ∧ l.length ≤ cap ∧ l.length ≤ 3518437208780 ∧ SlAt w A 4 CellD.cells l := by
 obtain ⟨A, cap, rows, h1, h2, h3, h4, h5, h6⟩ := h
 refine ⟨A, cap, h1, h2, h3, ?_⟩
 have e : rows = l.map CellD.cells := by
  apply List.ext_getElem
  ·simpa using h5
  ·intro i hi hi'
   rw [List.getElem_map]
   exact h6 i hi (by simpa using hi')
 subst e
 unfold SlAt at h4 ⊢
 rwa [List.map_map] at h4
theorem ValV.mk {w : World} {A : Option Addr} {cap : Nat} {l : ValD} (hc : l.length ≤ cap) (hm : l.length ≤ 3518437208780) (h : SlAt w A 4 CellD.cells l) : ValV w (.slice A l.length cap) l :=
 ⟨A, cap, l.map CellD.cells, rfl, hc, hm, by unfold SlAt at h ⊢; rwa [List.map_map], by simp, fun i _ _ => by simp [cellR]⟩

/-- A list of values. -/
def valR (w : World) (row : List Value) (l : ValD) : Prop := ∃ v, row = [v] ∧ ValV w v l
def ValsV := RowsV 5864062014634 1 valR
theorem stays_valR : Stays2 valR := fun _ _ _ _ ⟨v, h1, h2⟩ hb => ⟨v, h1, stays_val _ _ _ _ h2 hb⟩
theorem stays_vals : Stays2 ValsV := stays_rows stays_valR

structure FrameD where
 func : Int
 pc : Int
 locals : List ValD
 stack : List ValD
def frameR (w : World) (row : List Value) (f : FrameD) : Prop := ∃ lv sv, row = [.int .i64 f.func, .int .i64 f.pc, lv, sv] ∧ ValsV w lv f.locals ∧ ValsV w sv f.stack
def FramesV := RowsV 2199023255488 4 frameR
theorem stays_frameR : Stays2 frameR := fun _ _ _ _ ⟨lv, sv, h1, h2, h3⟩ hb => ⟨lv, sv, h1, stays_vals _ _ _ _ h2 hb, stays_vals _ _ _ _ h3 hb⟩
theorem stays_frames : Stays2 FramesV := stays_rows stays_frameR

structure ReqD where
 op : ByteArray
 args : List ValD
def reqR (w : World) (row : List Value) (r : ReqD) : Prop := ∃ av, row = [.string r.op, av] ∧ ValsV w av r.args
def ReqsV := RowsV 3518437208780 2 reqR
theorem stays_reqR : Stays2 reqR := fun _ _ _ _ ⟨av, h1, h2⟩ hb => ⟨av, h1, stays_vals _ _ _ _ h2 hb⟩
theorem stays_reqs : Stays2 ReqsV := stays_rows stays_reqR

structure MachD where
 status : Int
 err : Int
 value : ValD
 frames : List FrameD
 requests : List ReqD
 lsteps : Int
 lmem : Int
 steps : Int
 peak : Int

theorem ValsV.below {w w' : World} {v : Value} {l : List ValD} (h : ValsV w v l) (hb : Below w.heap.size w w') : ValsV w' v l := stays_vals _ _ _ _ h hb
theorem ValV.below {w w' : World} {v : Value} {l : ValD} (h : ValV w v l) (hb : Below w.heap.size w w') : ValV w' v l := stays_val _ _ _ _ h hb
theorem FramesV.below {w w' : World} {v : Value} {l : List FrameD} (h : FramesV w v l) (hb : Below w.heap.size w w') : FramesV w' v l := stays_frames _ _ _ _ h hb
theorem ReqsV.below {w w' : World} {v : Value} {l : List ReqD} (h : ReqsV w v l) (hb : Below w.heap.size w w') : ReqsV w' v l := stays_reqs _ _ _ _ h hb
theorem ValsV.drewN {w : World} {v : Value} {l : List ValD} (h : ValsV w v l) (n : Nat) : ValsV (w.drewN n) v l := h
theorem ValV.drewN {w : World} {v : Value} {l : ValD} (h : ValV w v l) (n : Nat) : ValV (w.drewN n) v l := h

theorem ValsV.at {w : World} {v : Value} {l : List ValD} (h : ValsV w v l) : ∃ A cap vs, v = .slice A l.length cap ∧ l.length ≤ cap ∧ l.length ≤ 5864062014634 ∧ SlAt w A 1 (fun x => [x]) vs ∧ vs.length = l.length ∧ ∀ i (h : i < vs.length) (h' : i < l.length), ValV w vs[i] l[i] := by
 obtain ⟨A, cap, rows, h1, h2, h3, h4, h5, h6⟩ := h
 have e : ∃ vs : List Value, rows = vs.map (fun x => [x]) := by
  clear h4
  have : ∀ row ∈ rows, ∃ x, row = [x] := fun row hr => by
   obtain ⟨i, hi, rfl⟩ := List.getElem_of_mem hr
   obtain ⟨x, hx, _⟩ := h6 i hi (by omega)
   exact ⟨x, hx⟩
  clear h6 h5
  induction rows with
  | nil => exact ⟨[], rfl⟩
  | cons r rs ih =>
   obtain ⟨x, rfl⟩ := this r (by simp)
   obtain ⟨vs, rfl⟩ := ih (fun row hr => this row (by simp [hr]))
   exact ⟨x :: vs, rfl⟩
 obtain ⟨vs, rfl⟩ := e
 refine ⟨A, cap, vs, h1, h2, h3, by unfold SlAt at h4 ⊢; rwa [List.map_map] at h4, by simpa using h5, fun i h h' => ?_⟩
 obtain ⟨x, hx, hv⟩ := h6 i (by simpa using h) h'
 simp only [List.getElem_map, List.cons.injEq, and_true] at hx
 subst hx
 exact hv
end Go.Proofs.YtahcjgjigbedoaaGreatDoor
namespace Go.Proofs.YtahcjgjigbedoaaGreatDoor
open Go.RowKit

instance : DecidableEq CellD := fun a b =>
 if h : a.kind = b.kind ∧ a.int = b.int ∧ a.str = b.str ∧ a.n = b.n then isTrue (by cases a; cases b; simp_all) else isFalse (fun e => h (by subst e; simp))
instance : DecidableEq FrameD := fun a b =>
 if h : a.func = b.func ∧ a.pc = b.pc ∧ a.locals = b.locals ∧ a.stack = b.stack then isTrue (by cases a; cases b; simp_all) else isFalse (fun e => h (by subst e; simp))
instance : DecidableEq ReqD := fun a b =>
 if h : a.op = b.op ∧ a.args = b.args then isTrue (by cases a; cases b; simp_all) else isFalse (fun e => h (by subst e; simp))

def cellsN (l : List ValD) : Nat := (l.map List.length).sum
def memN (l : List FrameD) : Nat := (l.map fun f => cellsN f.locals + cellsN f.stack).sum

theorem cellsN_snoc (l : List ValD) (n : Nat) (h : n < l.length) : cellsN (l.take (n + 1)) = cellsN (l.take n) + l[n].length := by
 unfold cellsN; rw [List.take_succ_eq_append_getElem h, List.map_append, List.sum_append]; rfl
theorem memN_snoc (l : List FrameD) (n : Nat) (h : n < l.length) : memN (l.take (n + 1)) = memN (l.take n) + (cellsN l[n].locals + cellsN l[n].stack) := by
 unfold memN; rw [List.take_succ_eq_append_getElem h, List.map_append, List.sum_append]; rfl

theorem cellsN_le (l : List ValD) (B : Nat) (h : ∀ v ∈ l, v.length ≤ B) : cellsN l ≤ l.length * B := by
 induction l with
 | nil => simp [cellsN]
 | cons v r ih =>
  have := ih (fun x hx => h x (by simp [hx]))
  have h1 := h v (by simp)
  simp only [cellsN, List.map_cons, List.sum_cons, List.length_cons, Nat.succ_mul] at this ⊢
  omega
theorem cellsN_take_le (l : List ValD) (n : Nat) : cellsN (l.take n) ≤ cellsN l := by
 have : cellsN l = cellsN (l.take n) + cellsN (l.drop n) := by
  unfold cellsN
  rw [← List.sum_append, ← List.map_append, List.take_append_drop]
 omega
theorem memN_take_le (l : List FrameD) (n : Nat) : memN (l.take n) ≤ memN l := by
 have : memN l = memN (l.take n) + memN (l.drop n) := by
  unfold memN
  rw [← List.sum_append, ← List.map_append, List.take_append_drop]
 omega

/-- The values of a list of values in memory are short. -/
theorem ValsV.short {w : World} {v : Value} {l : List ValD} (h : ValsV w v l) : ∀ x ∈ l, x.length ≤ 8796093022208 := by
 obtain ⟨A, cap, vs, _, _, _, _, hl, hv⟩ := h.at
 intro x hx
 obtain ⟨i, hi, rfl⟩ := List.getElem_of_mem hx
 obtain ⟨_, _, _, _, h3, _⟩ := (hv i (by omega) hi).at
 exact Nat.le_trans h3 (by omega)
theorem ValsV.shape {w : World} {v : Value} {l : List ValD} (h : ValsV w v l) : ∃ A n cap, v = .slice A n cap := by
 obtain ⟨A, cap, _, rfl, _⟩ := h; exact ⟨A, _, cap, rfl⟩
theorem ValV.shape {w : World} {v : Value} {l : ValD} (h : ValV w v l) : ∃ A n cap, v = .slice A n cap := by
 obtain ⟨A, cap, _, rfl, _⟩ := h; exact ⟨A, _, cap, rfl⟩
theorem FramesV.shape {w : World} {v : Value} {l : List FrameD} (h : FramesV w v l) : ∃ A n cap, v = .slice A n cap := by
 obtain ⟨A, cap, _, rfl, _⟩ := h; exact ⟨A, _, cap, rfl⟩
theorem ReqsV.shape {w : World} {v : Value} {l : List ReqD} (h : ReqsV w v l) : ∃ A n cap, v = .slice A n cap := by
 obtain ⟨A, cap, _, rfl, _⟩ := h; exact ⟨A, _, cap, rfl⟩
end Go.Proofs.YtahcjgjigbedoaaGreatDoor
namespace Go.Proofs.YtahcjgjigbedoaaGreatDoor
open Go.RowKit
def letB (b : UInt8) : Bool := (decide (97 ≤ b.toNat) && decide (b.toNat ≤ 122)) || decide (b.toNat = 95)
def digB (b : UInt8) : Bool := decide (48 ≤ b.toNat) && decide (b.toNat ≤ 57)
def wrdB (b : UInt8) : Bool := letB b || digB b
/-- The bytes of the keywords. -/
def kwL : List (List UInt8) := [[102, 117, 110, 99], [108, 101, 116], [105, 102], [101, 108, 115, 101], [119, 104, 105, 108, 101], [114, 101, 116, 117, 114, 110], [97, 110, 100], [111, 114], [110, 111, 116], [110, 117, 108, 108], [116, 114, 117, 101], [102, 97, 108, 115, 101]]
def kwB (s : ByteArray) : Bool := kwL.any fun k => s.toList == k
/-- All of s is one run. -/
def Whole (s : ByteArray) : Prop := 0 < s.size ∧ (∀ h : 0 < s.size, letB s[0] = true) ∧ ∀ i (h : i < s.size), wrdB s[i] = true
/-- The run at the beginning of s has n bytes. -/
def RunAt (s : ByteArray) (n : Nat) : Prop := n ≤ s.size ∧ (∀ i (h : i < s.size), i < n → wrdB s[i] = true) ∧ (0 < n → ∀ h : 0 < s.size, letB s[0] = true) ∧ (∀ h : n < s.size, (n = 0 → letB s[n] = false) ∧ (0 < n → wrdB s[n] = false))
/-- s is a name: a run of 1 to 24 bytes, and no keyword. -/
def NameOk (s : ByteArray) : Prop := Whole s ∧ s.size ≤ 24 ∧ kwB s = false
theorem RunAt.whole {s : ByteArray} {n : Nat} (h : RunAt s n) (h0 : 0 < s.size) : n = s.size ↔ Whole s := by
 obtain ⟨h1, h2, h3, h4⟩ := h
 constructor
 ·intro e
  exact ⟨h0, fun h => h3 (by omega) h, fun i hi => h2 i hi (by omega)⟩
 ·rintro ⟨_, w1, w2⟩
  by_cases hlt : n < s.size
  ·obtain ⟨a, b⟩ := h4 hlt
   by_cases hn : n = 0
   ·subst hn
    have := a rfl
    rw [w1 h0] at this
    cases this
   ·have := b (by omega)
    rw [w2 n hlt] at this
    cases this
  ·omega
theorem let_wrd {b : UInt8} (h : letB b = true) : wrdB b = true := by unfold wrdB; rw [h]; rfl
theorem RunAt.zero {s : ByteArray} : RunAt s 0 → ∀ h : 0 < s.size, letB s[0] = false := fun h h0 => (h.2.2.2 h0).1 rfl
theorem RunAt.unique {s : ByteArray} {a b : Nat} (ha : RunAt s a) (hb : RunAt s b) : a = b := by
 have key : ∀ {a b : Nat}, RunAt s a → RunAt s b → ¬ a < b := by
  intro a b ha hb hlt
  have hs : a < s.size := by have := hb.1; omega
  obtain ⟨p, q⟩ := ha.2.2.2 hs
  by_cases h0 : a = 0
  ·subst h0
   have := hb.2.2.1 hlt hs
   rw [p rfl] at this
   cases this
  ·have := hb.2.1 a hs hlt
   rw [q (by omega)] at this
   cases this
 have h1 := key ha hb
 have h2 := key hb ha
 omega
theorem wrap32_byte (b : UInt8) : wrap32 (b.toNat : Int) = b.toNat := by
 have : b.toNat < 256 := UInt8.toNat_lt b
 unfold wrap32
 omega
end Go.Proofs.YtahcjgjigbedoaaGreatDoor
