/- Slices of slices and of structs in memory: what a value reads as, whatever else the world holds. -/
import Derived.Test.YtemakcaojdoakaaGreatDoorBase
namespace Go.Proofs.YtemakcaojdoakaaGreatDoor
open Go.RowKit

/-- The value v is a slice whose elements (sz cells each) are related to the elements of l. -/
def RowsV {α : Type} (lim sz : Nat) (R : World → List Value → α → Prop) (w : World) (v : Value) (l : List α) : Prop :=
  ∃ (A : Option Addr) (cap : Nat) (rows : List (List Value)), v = .slice A l.length cap ∧ l.length ≤ cap ∧ l.length ≤ lim ∧ SlAt w A sz (fun r => r) rows ∧ rows.length = l.length ∧ ∀ i (h : i < rows.length) (h' : i < l.length), R w rows[i] l[i]

/-- R holds on behind whatever makes memory and turns nothing. -/
def Stays {α : Type} (R : World → α → Prop) : Prop := ∀ w w' a, R w a → Below w.heap.size w w' → R w' a
def Stays2 {α β : Type} (R : World → α → β → Prop) : Prop := ∀ w w' a b, R w a b → Below w.heap.size w w' → R w' a b

theorem RowsV.below {α : Type} {lim sz : Nat} {R : World → List Value → α → Prop} (hR : Stays2 R) {w w' : World} {v : Value} {l : List α} (h : RowsV lim sz R w v l) (hb : Below w.heap.size w w') : RowsV lim sz R w' v l := by
  obtain ⟨A, cap, rows, h1, h2, h3, h4, h5, h6⟩ := h
  exact ⟨A, cap, rows, h1, h2, h3, h4.below hb, h5, fun i h h' => hR _ _ _ _ (h6 i h h') hb⟩
theorem stays_rows {α : Type} {lim sz : Nat} {R : World → List Value → α → Prop} (hR : Stays2 R) : Stays2 (RowsV lim sz R) := fun _ _ _ _ h hb => h.below hR hb

theorem RowsV.nil {α : Type} {lim sz : Nat} {R : World → List Value → α → Prop} {w : World} (A : Option Addr) (cap : Nat) : RowsV lim sz R w (.slice A 0 cap) ([] : List α) :=
  ⟨A, cap, [], rfl, Nat.zero_le _, by simp, SlAt.nil, rfl, fun i h => absurd h (by simp)⟩

/-- A cell of the program's values. -/
structure CellD where
  kind : Int
  int : Int
  str : ByteArray
  n : Int
def CellD.cells (c : CellD) : List Value := [.int .i64 c.kind, .int .i64 c.int, .string c.str, .int .i64 c.n]
def cellR (_ : World) (row : List Value) (c : CellD) : Prop := row = c.cells
abbrev ValD := List CellD
def ValV := RowsV 3518437208780 4 cellR
theorem stays_cell : Stays2 cellR := fun _ _ _ _ h _ => h
theorem stays_val : Stays2 ValV := stays_rows stays_cell
/-- A value's cells as a list. -/
theorem ValV.at {w : World} {v : Value} {l : ValD} (h : ValV w v l) : ∃ A cap, v = .slice A l.length cap ∧ l.length ≤ cap ∧ l.length ≤ 3518437208780 ∧ SlAt w A 4 CellD.cells l := by
  obtain ⟨A, cap, rows, h1, h2, h3, h4, h5, h6⟩ := h
  refine ⟨A, cap, h1, h2, h3, ?_⟩
  have e : rows = l.map CellD.cells := by
    apply List.ext_getElem
    · simpa using h5
    · intro i hi hi'
      rw [List.getElem_map]
      exact h6 i hi (by simpa using hi')
  subst e
  unfold SlAt at h4 ⊢
  rwa [List.map_map] at h4
theorem ValV.mk {w : World} {A : Option Addr} {cap : Nat} {l : ValD} (hc : l.length ≤ cap) (hm : l.length ≤ 3518437208780) (h : SlAt w A 4 CellD.cells l) : ValV w (.slice A l.length cap) l :=
  ⟨A, cap, l.map CellD.cells, rfl, hc, hm, by unfold SlAt at h ⊢; rwa [List.map_map], by simp, fun i _ _ => by simp [cellR]⟩

/-- A list of values. -/
def valR (w : World) (row : List Value) (l : ValD) : Prop := ∃ v, row = [v] ∧ ValV w v l
def ValsV := RowsV 5864062014634 1 valR
theorem stays_valR : Stays2 valR := fun _ _ _ _ ⟨v, h1, h2⟩ hb => ⟨v, h1, stays_val _ _ _ _ h2 hb⟩
theorem stays_vals : Stays2 ValsV := stays_rows stays_valR

structure FrameD where
  func : Int
  pc : Int
  locals : List ValD
  stack : List ValD
def frameR (w : World) (row : List Value) (f : FrameD) : Prop := ∃ lv sv, row = [.int .i64 f.func, .int .i64 f.pc, lv, sv] ∧ ValsV w lv f.locals ∧ ValsV w sv f.stack
def FramesV := RowsV 2199023255488 4 frameR
theorem stays_frameR : Stays2 frameR := fun _ _ _ _ ⟨lv, sv, h1, h2, h3⟩ hb => ⟨lv, sv, h1, stays_vals _ _ _ _ h2 hb, stays_vals _ _ _ _ h3 hb⟩
theorem stays_frames : Stays2 FramesV := stays_rows stays_frameR

structure ReqD where
  op : ByteArray
  args : List ValD
def reqR (w : World) (row : List Value) (r : ReqD) : Prop := ∃ av, row = [.string r.op, av] ∧ ValsV w av r.args
def ReqsV := RowsV 3518437208780 2 reqR
theorem stays_reqR : Stays2 reqR := fun _ _ _ _ ⟨av, h1, h2⟩ hb => ⟨av, h1, stays_vals _ _ _ _ h2 hb⟩
theorem stays_reqs : Stays2 ReqsV := stays_rows stays_reqR

structure MachD where
  status : Int
  err : Int
  value : ValD
  frames : List FrameD
  requests : List ReqD
  lsteps : Int
  lmem : Int
  steps : Int
  peak : Int

theorem ValsV.below {w w' : World} {v : Value} {l : List ValD} (h : ValsV w v l) (hb : Below w.heap.size w w') : ValsV w' v l := stays_vals _ _ _ _ h hb
theorem ValV.below {w w' : World} {v : Value} {l : ValD} (h : ValV w v l) (hb : Below w.heap.size w w') : ValV w' v l := stays_val _ _ _ _ h hb
theorem FramesV.below {w w' : World} {v : Value} {l : List FrameD} (h : FramesV w v l) (hb : Below w.heap.size w w') : FramesV w' v l := stays_frames _ _ _ _ h hb
theorem ReqsV.below {w w' : World} {v : Value} {l : List ReqD} (h : ReqsV w v l) (hb : Below w.heap.size w w') : ReqsV w' v l := stays_reqs _ _ _ _ h hb
theorem ValsV.drewN {w : World} {v : Value} {l : List ValD} (h : ValsV w v l) (n : Nat) : ValsV (w.drewN n) v l := h
theorem ValV.drewN {w : World} {v : Value} {l : ValD} (h : ValV w v l) (n : Nat) : ValV (w.drewN n) v l := h

theorem ValsV.at {w : World} {v : Value} {l : List ValD} (h : ValsV w v l) : ∃ A cap vs, v = .slice A l.length cap ∧ l.length ≤ cap ∧ l.length ≤ 5864062014634 ∧ SlAt w A 1 (fun x => [x]) vs ∧ vs.length = l.length ∧ ∀ i (h : i < vs.length) (h' : i < l.length), ValV w vs[i] l[i] := by
  obtain ⟨A, cap, rows, h1, h2, h3, h4, h5, h6⟩ := h
  have e : ∃ vs : List Value, rows = vs.map (fun x => [x]) := by
    clear h4
    have : ∀ row ∈ rows, ∃ x, row = [x] := fun row hr => by
      obtain ⟨i, hi, rfl⟩ := List.getElem_of_mem hr
      obtain ⟨x, hx, _⟩ := h6 i hi (by omega)
      exact ⟨x, hx⟩
    clear h6 h5
    induction rows with
    | nil => exact ⟨[], rfl⟩
    | cons r rs ih =>
      obtain ⟨x, rfl⟩ := this r (by simp)
      obtain ⟨vs, rfl⟩ := ih (fun row hr => this row (by simp [hr]))
      exact ⟨x :: vs, rfl⟩
  obtain ⟨vs, rfl⟩ := e
  refine ⟨A, cap, vs, h1, h2, h3, by unfold SlAt at h4 ⊢; rwa [List.map_map] at h4, by simpa using h5, fun i h h' => ?_⟩
  obtain ⟨x, hx, hv⟩ := h6 i (by simpa using h) h'
  simp only [List.getElem_map, List.cons.injEq, and_true] at hx
  subst hx
  exact hv
end Go.Proofs.YtemakcaojdoakaaGreatDoor
