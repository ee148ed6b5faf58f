/- The walk of the reference's overtaken. -/
import Derived.Test.YtcnmdhdoiekfoaaDoorW2
namespace Go.Proofs.YtcnmdhdoiekfoaaDoor
open Go.RowKit

theorem firstN_lo (l : List FactD) (k : Int) (id : ByteArray) : ∀ n : Nat, firstN l k id n = -1 ∨ ∃ m : Nat, firstN l k id n = (m : Int) ∧ n ≤ m ∧ m < n + l.length := by
  induction l with
  | nil => intro n; exact .inl rfl
  | cons f r ih =>
    intro n
    unfold firstN
    split
    · exact .inr ⟨n, rfl, by omega, by simp⟩
    · rcases ih (n + 1) with h | ⟨m, h1, h2, h3⟩
      · exact .inl h
      · exact .inr ⟨m, h1, by omega, by simp only [List.length_cons]; omega⟩

def anyUpto (p : Nat → Bool) : Nat → Bool
  | 0 => false
  | n + 1 => anyUpto p n || p n

def overAt (l : List FactD) (c : Int) (x : FactD) (i : Nat) : Bool :=
  match l[i]? with
  | some g => decide (g.kind = 1) && decide (g.tenant = x.tenant) && decide (g.source = x.source) && decide (g.key = x.key) && decide (firstN l 1 g.event 0 = (i : Int)) && decide (c < firstN l 5 g.event 0)
  | none => false

def overB (l : List FactD) (id : ByteArray) : Bool :=
  if firstN l 1 id 0 < 0 ∨ firstN l 5 id 0 < 0 then false else
  match l[(firstN l 1 id 0).toNat]? with
  | some x => anyUpto (overAt l (firstN l 5 id 0) x) (firstN l 1 id 0).toNat
  | none => false

theorem anyUpto_hit {p : Nat → Bool} {n m : Nat} (hn : n < m) (h : p n = true) : anyUpto p m = true := by
  induction m with
  | zero => omega
  | succ m ih =>
    unfold anyUpto
    by_cases hm : n = m
    · subst hm; simp [h]
    · rw [ih (by omega)]; rfl

end Go.Proofs.YtcnmdhdoiekfoaaDoor
