/- Equality of machines, and what the functions that look at them answer. -/
import Derived.Test.YtemakcaojdoakaaGreatDoorM0
namespace Go.Proofs.YtemakcaojdoakaaGreatDoor
open Go.RowKit

instance : DecidableEq CellD := fun a b =>
  if h : a.kind = b.kind ∧ a.int = b.int ∧ a.str = b.str ∧ a.n = b.n then isTrue (by cases a; cases b; simp_all) else isFalse (fun e => h (by subst e; simp))
instance : DecidableEq FrameD := fun a b =>
  if h : a.func = b.func ∧ a.pc = b.pc ∧ a.locals = b.locals ∧ a.stack = b.stack then isTrue (by cases a; cases b; simp_all) else isFalse (fun e => h (by subst e; simp))
instance : DecidableEq ReqD := fun a b =>
  if h : a.op = b.op ∧ a.args = b.args then isTrue (by cases a; cases b; simp_all) else isFalse (fun e => h (by subst e; simp))

def cellsN (l : List ValD) : Nat := (l.map List.length).sum
def memN (l : List FrameD) : Nat := (l.map fun f => cellsN f.locals + cellsN f.stack).sum

theorem cellsN_snoc (l : List ValD) (n : Nat) (h : n < l.length) : cellsN (l.take (n + 1)) = cellsN (l.take n) + l[n].length := by
  unfold cellsN; rw [List.take_succ_eq_append_getElem h, List.map_append, List.sum_append]; rfl
theorem memN_snoc (l : List FrameD) (n : Nat) (h : n < l.length) : memN (l.take (n + 1)) = memN (l.take n) + (cellsN l[n].locals + cellsN l[n].stack) := by
  unfold memN; rw [List.take_succ_eq_append_getElem h, List.map_append, List.sum_append]; rfl

theorem cellsN_le (l : List ValD) (B : Nat) (h : ∀ v ∈ l, v.length ≤ B) : cellsN l ≤ l.length * B := by
  induction l with
  | nil => simp [cellsN]
  | cons v r ih =>
    have := ih (fun x hx => h x (by simp [hx]))
    have h1 := h v (by simp)
    simp only [cellsN, List.map_cons, List.sum_cons, List.length_cons, Nat.succ_mul] at this ⊢
    omega
theorem cellsN_take_le (l : List ValD) (n : Nat) : cellsN (l.take n) ≤ cellsN l := by
  have : cellsN l = cellsN (l.take n) + cellsN (l.drop n) := by
    unfold cellsN
    rw [← List.sum_append, ← List.map_append, List.take_append_drop]
  omega
theorem memN_take_le (l : List FrameD) (n : Nat) : memN (l.take n) ≤ memN l := by
  have : memN l = memN (l.take n) + memN (l.drop n) := by
    unfold memN
    rw [← List.sum_append, ← List.map_append, List.take_append_drop]
  omega

/-- The values of a list of values in memory are short. -/
theorem ValsV.short {w : World} {v : Value} {l : List ValD} (h : ValsV w v l) : ∀ x ∈ l, x.length ≤ 8796093022208 := by
  obtain ⟨A, cap, vs, _, _, _, _, hl, hv⟩ := h.at
  intro x hx
  obtain ⟨i, hi, rfl⟩ := List.getElem_of_mem hx
  obtain ⟨_, _, _, _, h3, _⟩ := (hv i (by omega) hi).at
  exact Nat.le_trans h3 (by omega)
theorem ValsV.shape {w : World} {v : Value} {l : List ValD} (h : ValsV w v l) : ∃ A n cap, v = .slice A n cap := by
  obtain ⟨A, cap, _, rfl, _⟩ := h; exact ⟨A, _, cap, rfl⟩
theorem ValV.shape {w : World} {v : Value} {l : ValD} (h : ValV w v l) : ∃ A n cap, v = .slice A n cap := by
  obtain ⟨A, cap, _, rfl, _⟩ := h; exact ⟨A, _, cap, rfl⟩
theorem FramesV.shape {w : World} {v : Value} {l : List FrameD} (h : FramesV w v l) : ∃ A n cap, v = .slice A n cap := by
  obtain ⟨A, cap, _, rfl, _⟩ := h; exact ⟨A, _, cap, rfl⟩
theorem ReqsV.shape {w : World} {v : Value} {l : List ReqD} (h : ReqsV w v l) : ∃ A n cap, v = .slice A n cap := by
  obtain ⟨A, cap, _, rfl, _⟩ := h; exact ⟨A, _, cap, rfl⟩
end Go.Proofs.YtemakcaojdoakaaGreatDoor
