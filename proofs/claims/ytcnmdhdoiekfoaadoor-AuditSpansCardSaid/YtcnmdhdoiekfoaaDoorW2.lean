/- The walks of the reference's Once, Ordered, Settled. -/
import Derived.Test.YtcnmdhdoiekfoaaDoorW1
namespace Go.Proofs.YtcnmdhdoiekfoaaDoor
open Go.RowKit

def probRow (rule : ByteArray) (s : ByteArray) : List Value := [.string rule, .string s]
def sOnce : ByteArray := ⟨#[111, 110, 99, 101]⟩
def sOrder : ByteArray := ⟨#[111, 114, 100, 101, 114]⟩
def sSettled : ByteArray := ⟨#[115, 101, 116, 116, 108, 101, 100]⟩

/-- The events of the first n facts, each at its first occurrence, for which p holds. -/
def selN (l : List FactD) (p : ByteArray → Bool) : Nat → List ByteArray
  | 0 => []
  | n + 1 => selN l p n ++ (match l[n]? with | some f => if freshB l n && p f.event then [f.event] else [] | none => [])

theorem selN_yes {l : List FactD} {p : ByteArray → Bool} {n : Nat} (h : n < l.length) (h1 : freshB l n = true) (h2 : p l[n].event = true) : selN l p (n + 1) = selN l p n ++ [l[n].event] := by simp [selN, h, h1, h2]
theorem selN_no {l : List FactD} {p : ByteArray → Bool} {n : Nat} (h : n < l.length) (h1 : (freshB l n && p l[n].event) = false) : selN l p (n + 1) = selN l p n := by
  have : l[n]? = some l[n] := by simp [h]
  simp only [selN, this]
  rw [h1]; simp
theorem selN_len (l : List FactD) (p : ByteArray → Bool) : ∀ n, (selN l p n).length ≤ n
  | 0 => by simp [selN]
  | n + 1 => by
    have := selN_len l p n
    unfold selN
    rw [List.length_append]
    split
    · split <;> simp <;> omega
    · simp; omega

theorem flat_snoc (rule : ByteArray) (l : List ByteArray) (s : ByteArray) : (l ++ [s]).flatMap (probRow rule) = l.flatMap (probRow rule) ++ [.string rule, .string s] := by simp [probRow]
theorem flat_len (rule : ByteArray) (l : List ByteArray) : (l.flatMap (probRow rule)).length = l.length * 2 := by
  induction l with
  | nil => rfl
  | cons a r ih => simp [probRow, ih]; omega

theorem one2 (a b : ByteArray) : ∀ u ∈ [Value.string a, Value.string b], u.oneCell' = true := by simp [Value.oneCell']

def onceB (l : List FactD) (e : ByteArray) : Bool := decide (1 < countN l 5 e) || (decide (countN l 5 e = 1) && decide (0 ≤ firstN l 8 e 0))

theorem Tryd.infoProb : (Tryd.prog.info? 36).map (fun i => (i.zero, i.size, i.bytes)) = some (some (.agg #[.string ByteArray.empty, .string ByteArray.empty]), 2, 32) := by kernel_rfl

/-- What the audits hand back: a slice of problems with one rule. -/
def ProbsAt (w : World) (base : Nat) (v : Value) (rule : ByteArray) (l : List ByteArray) : Prop := w.ownsRow base 36 2 v l.length (l.flatMap (probRow rule))

end Go.Proofs.YtcnmdhdoiekfoaaDoor
