/- Code: what the check of a code finds, in plain Lean: instructions, depths, functions. -/
import Derived.Test.YtahcjgjigbedoaaGreatDoorGN0
import Derived.Test.YtahcjgjigbedoaaGreatDoorV0
set_option linter.unusedVariables false
set_option linter.unusedSimpArgs false
namespace Go.Proofs.YtahcjgjigbedoaaGreatDoor
open Go.RowKit
structure FnD where
 name : ByteArray
 params : Int
 locals : Int
 entry : Int
 fin : Int
structure InsD where
 op : Int
 a : Int
 s : ByteArray
 keys : List ByteArray
structure CodeD where
 fns : List FnD
 ins : List InsD
/-- A string that a token can have. -/
def StrOk (s : ByteArray) : Prop := txtB s = true ∧ s.size ≤ 200
def AscAt (l : List ByteArray) (i : Nat) (h : i < l.length) : Prop := StrOk l[i] ∧ (0 < i → sleB l[i] (l[i - 1]'(by omega)) = false)
def AscOk (l : List ByteArray) : Prop := ∀ i (h : i < l.length), AscAt l i h
def builtL : List (List UInt8 × Int) := [([108, 101, 110], 1), ([115, 116, 114], 1), ([105, 110, 116], 1), ([112, 117, 115, 104], 2), ([112, 117, 116], 3), ([107, 101, 121, 115], 1), ([104, 97, 115], 2), ([102, 97, 105, 108], 1)]
def hostL : List (List UInt8 × Int) := [([103, 101, 116], 1), ([112, 117, 116], 2), ([100, 101, 108, 101, 116, 101], 1), ([115, 101, 110, 100], 2), ([116, 105, 109, 101, 114], 3), ([115, 105, 103, 110, 97, 108], 2), ([115, 101, 99, 114, 101, 116], 1), ([102, 101, 116, 99, 104], 2), ([110, 111, 119], 0), ([108, 111, 103], 1)]
def lookL (l : List (List UInt8 × Int)) (s : ByteArray) : Option Int := l.lookup s.toList
def binL : List (List UInt8) := [[43], [45], [42], [47], [37], [61, 61], [33, 61], [60], [60, 61], [62], [62, 61]]
/-- Operations without the operand A. -/
def bareB (op : Int) : Bool := decide (op = 1) || decide (op = 4) || decide (op = 7) || decide (op = 8) || decide (op = 9) || decide (op = 10) || decide (op = 15) || decide (op = 16) || decide (op = 20)
def OperandP (nf : Int) (f : FnD) (i : InsD) : Prop :=
 (bareB i.op = true → i.a = 0) ∧ (i.op = 2 → i.a = 0 ∨ i.a = 1) ∧ (i.op = 3 → -1000000000000 ≤ i.a ∧ i.a ≤ 1000000000000) ∧ (i.op = 5 ∨ i.op = 6 → 0 ≤ i.a ∧ i.a < f.locals) ∧
 (i.op = 11 → 0 ≤ i.a ∧ i.a ≤ 64) ∧ (i.op = 12 → i.a = i.keys.length ∧ i.a ≤ 64) ∧ (i.op = 13 ∨ i.op = 14 → f.entry ≤ i.a ∧ i.a < f.fin) ∧ (i.op = 17 → 0 ≤ i.a ∧ i.a < nf) ∧ (i.op = 18 → lookL builtL i.s = some i.a) ∧ (i.op = 19 → lookL hostL i.s = some i.a)
def StrP (i : InsD) : Prop :=
 (i.op = 4 → StrOk i.s) ∧ (i.op = 8 → i.s.toList = [45] ∨ i.s.toList = [110, 111, 116]) ∧ (i.op = 9 → i.s.toList ∈ binL) ∧ (i.op ≠ 4 ∧ i.op ≠ 8 ∧ i.op ≠ 9 ∧ i.op ≠ 18 ∧ i.op ≠ 19 → i.s.size = 0)
def KeysP (i : InsD) : Prop := (i.op = 12 → AscOk i.keys) ∧ (i.op ≠ 12 → i.keys = [])
/-- A well-formed instruction of the function f; nf functions there are. -/
def FormedP (nf : Int) (f : FnD) (i : InsD) : Prop := (1 ≤ i.op ∧ i.op ≤ 20) ∧ OperandP nf f i ∧ StrP i ∧ KeysP i

def popF (c : CodeD) (i : InsD) : Int :=
 if i.op = 6 ∨ i.op = 7 ∨ i.op = 8 ∨ i.op = 14 ∨ i.op = 15 ∨ i.op = 16 ∨ i.op = 20 then 1
 else if i.op = 9 ∨ i.op = 10 then 2
 else if i.op = 11 ∨ i.op = 12 ∨ i.op = 18 ∨ i.op = 19 then i.a
 else if i.op = 17 then (match c.fns[i.a.toNat]? with | some f => f.params | none => 0)
 else 0
def pushF (op : Int) : Int := if op = 6 ∨ op = 7 ∨ op = 13 ∨ op = 14 ∨ op = 20 then 0 else if op = 16 then 2 else 1
def sucF (i : InsD) (k : Nat) : List Nat := if i.op = 20 then [] else if i.op = 13 then [i.a.toNat] else if i.op = 14 then [k + 1, i.a.toNat] else [k + 1]
def getD (d : List Int) (k : Nat) : Int := d.getD k (-1)
def setS (n : Int) : List Nat → List Int → Option Nat × List Int
 | [], d => (none, d)
 | k :: r, d => if 0 ≤ getD d k ∧ getD d k ≠ n then (some k, d) else setS n r (d.set k n)
/-- k is the lowest index from e on that is not done and has a depth; b if there is none. -/
def IsNext (done : List Bool) (d : List Int) (e b k : Nat) : Prop := e ≤ k ∧ k ≤ b ∧ (∀ j, e ≤ j → j < k → done.getD j false = true ∨ getD d j < 0) ∧ (k < b → done.getD k false = false ∧ 0 ≤ getD d k)
theorem IsNext.unique {done : List Bool} {d : List Int} {e b k m : Nat} (h : IsNext done d e b k) (g : IsNext done d e b m) : k = m := by
 have key : ∀ {k m}, IsNext done d e b k → IsNext done d e b m → ¬ k < m := by
  intro k m h g hlt
  have h1 := h.2.2.2 (by have := g.2.1; omega)
  rcases g.2.2.1 k h.1 hlt with h2 | h2
  ·rw [h1.1] at h2; cases h2
  ·omega
 have a := key h g
 have b := key g h
 omega
def Faulty (c : CodeD) (i : InsD) (d : Int) : Prop := d < popF c i ∨ (i.op = 20 ∧ d ≠ 1) ∨ 64 < d - popF c i + pushF i.op
inductive FollowR (c : CodeD) (e b : Nat) : List Bool → List Int → Int × List Int → Prop
 | stop (done : List Bool) (d : List Int) : IsNext done d e b b → FollowR c e b done d (-1, d)
 | bad (done : List Bool) (d : List Int) (k : Nat) (i : InsD) : IsNext done d e b k → k < b → c.ins[k]? = some i → Faulty c i (getD d k) → FollowR c e b done d (k, d)
 | two (done : List Bool) (d d' : List Int) (k m : Nat) (i : InsD) : IsNext done d e b k → k < b → c.ins[k]? = some i → ¬ Faulty c i (getD d k) → setS (getD d k - popF c i + pushF i.op) (sucF i k) d = (some m, d') → FollowR c e b done d (m, d')
 | go (done : List Bool) (d d' : List Int) (k : Nat) (i : InsD) (R : Int × List Int) : IsNext done d e b k → k < b → c.ins[k]? = some i → ¬ Faulty c i (getD d k) → setS (getD d k - popF c i + pushF i.op) (sucF i k) d = (none, d') → FollowR c e b (done.set k true) d' R → FollowR c e b done d R
theorem FollowR.det {c : CodeD} {e b : Nat} {done : List Bool} {d : List Int} {R S : Int × List Int} (h : FollowR c e b done d R) (g : FollowR c e b done d S) : R = S := by
 induction h with
 | stop done d hn =>
  cases g with
  | stop _ _ _ => rfl
  | bad _ _ k i hk hlt _ _ => have := hn.unique hk; omega
  | two _ _ _ k m i hk hlt _ _ _ => have := hn.unique hk; omega
  | go _ _ _ k i _ hk hlt _ _ _ _ => have := hn.unique hk; omega
 | bad done d k i hn hlt hi hf =>
  cases g with
  | stop _ _ hk => have := hn.unique hk; omega
  | bad _ _ k' i' hk hlt' hi' hf' => have := hn.unique hk; subst this; rfl
  | two _ _ _ k' m i' hk hlt' hi' hf' _ => have := hn.unique hk; subst this; rw [hi] at hi'; injection hi' with hi'; subst hi'; exact absurd hf hf'
  | go _ _ _ k' i' _ hk hlt' hi' hf' _ _ => have := hn.unique hk; subst this; rw [hi] at hi'; injection hi' with hi'; subst hi'; exact absurd hf hf'
 | two done d d' k m i hn hlt hi hf hs =>
  cases g with
  | stop _ _ hk => have := hn.unique hk; omega
  | bad _ _ k' i' hk hlt' hi' hf' => have := hn.unique hk; subst this; rw [hi] at hi'; injection hi' with hi'; subst hi'; exact absurd hf' hf
  | two _ _ _ k' m' i' hk hlt' hi' hf' hs' => have := hn.unique hk; subst this; rw [hi] at hi'; injection hi' with hi'; subst hi'; rw [hs] at hs'; simp at hs'; obtain ⟨rfl, rfl⟩ := hs'; rfl
  | go _ _ _ k' i' _ hk hlt' hi' hf' hs' _ => have := hn.unique hk; subst this; rw [hi] at hi'; injection hi' with hi'; subst hi'; rw [hs] at hs'; simp at hs'
 | go done d d' k i R hn hlt hi hf hs hr ih =>
  cases g with
  | stop _ _ hk => have := hn.unique hk; omega
  | bad _ _ k' i' hk hlt' hi' hf' => have := hn.unique hk; subst this; rw [hi] at hi'; injection hi' with hi'; subst hi'; exact absurd hf' hf
  | two _ _ _ k' m' i' hk hlt' hi' hf' hs' => have := hn.unique hk; subst this; rw [hi] at hi'; injection hi' with hi'; subst hi'; rw [hs] at hs'; simp at hs'
  | go _ _ _ k' i' _ hk hlt' hi' hf' hs' hr' => have := hn.unique hk; subst this; rw [hi] at hi'; injection hi' with hi'; subst hi'; rw [hs] at hs'; simp at hs'; subst hs'; exact ih hr'
inductive AllR (c : CodeD) : List FnD → List Int → Int × List Int → Prop
 | nil (d : List Int) : AllR c [] d (-1, d)
 | bad (f : FnD) (r : List FnD) (d d' : List Int) (k : Int) : FollowR c f.entry.toNat f.fin.toNat (List.replicate c.ins.length false) (d.set f.entry.toNat 0) (k, d') → 0 ≤ k → AllR c (f :: r) d (k, d')
 | go (f : FnD) (r : List FnD) (d d' : List Int) (R : Int × List Int) : FollowR c f.entry.toNat f.fin.toNat (List.replicate c.ins.length false) (d.set f.entry.toNat 0) (-1, d') → AllR c r d' R → AllR c (f :: r) d R
theorem AllR.det {c : CodeD} {l : List FnD} {d : List Int} {R S : Int × List Int} (h : AllR c l d R) (g : AllR c l d S) : R = S := by
 induction h with
 | nil d => cases g; rfl
 | bad f r d d' k hf hk =>
  cases g with
  | bad _ _ _ d2 k2 hf2 hk2 => exact hf.det hf2
  | go _ _ _ d2 _ hf2 _ => have := hf.det hf2; simp at this; omega
 | go f r d d' R hf hr ih =>
  cases g with
  | bad _ _ _ d2 k2 hf2 hk2 => have := hf.det hf2; simp at this; omega
  | go _ _ _ d2 _ hf2 hr2 => have := hf.det hf2; simp at this; subst this; exact ih hr2
/-- What the functions of a code are found to be: an index and an error. -/
noncomputable def fnsF (c : CodeD) : List FnD → Nat → Int → Int × Int
 | [], _, e => if e ≠ (c.ins.length : Nat) then ((c.fns.length : Nat), 11) else (0, 0)
 | f :: r, k, e => open Classical in
  if ¬ NameOk f.name ∨ (∃ j, j < k ∧ (c.fns[j]?.map FnD.name) = some f.name) then ((k : Nat), 4)
  else if ¬ ((0 ≤ f.params ∧ f.params ≤ 8) ∧ (f.params ≤ f.locals ∧ f.locals ≤ 32)) then ((k : Nat), 2)
  else if f.entry ≠ e ∨ f.fin ≤ f.entry ∨ (c.ins.length : Nat) < f.fin then ((k : Nat), 11)
  else fnsF c r (k + 1) f.fin
noncomputable def insF (c : CodeD) (f : FnD) : Nat → Nat → Option (Int × Int)
 | 0, _ => none
 | n + 1, k => match c.ins[k]? with
  | none => none
  | some x => open Classical in
   if ¬ FormedP (c.fns.length : Nat) f x then some ((k : Nat), 1)
   else if n = 0 ∧ x.op ≠ 20 ∧ x.op ≠ 13 then some ((k : Nat), 10)
   else insF c f n (k + 1)
noncomputable def insAll (c : CodeD) : List FnD → Option (Int × Int)
 | [] => none
 | f :: r => match insF c f (f.fin - f.entry).toNat f.entry.toNat with
  | some R => some R
  | none => insAll c r
def Big (c : CodeD) : Prop := 16 < c.fns.length ∨ 4000 < c.ins.length
/-- What the check of a code finds. -/
inductive CodeR (c : CodeD) : Int × Int → Prop
 | big : Big c → CodeR c (0, 3)
 | fn (R : Int × Int) : ¬ Big c → fnsF c c.fns 0 0 = R → R.2 ≠ 0 → CodeR c R
 | ins (R : Int × Int) : ¬ Big c → (fnsF c c.fns 0 0).2 = 0 → insAll c c.fns = some R → CodeR c R
 | stack (k : Int) (d' : List Int) : ¬ Big c → (fnsF c c.fns 0 0).2 = 0 → insAll c c.fns = none → AllR c c.fns (List.replicate c.ins.length (-1)) (k, d') → 0 ≤ k → CodeR c (k, 21)
 | ok (d' : List Int) : ¬ Big c → (fnsF c c.fns 0 0).2 = 0 → insAll c c.fns = none → AllR c c.fns (List.replicate c.ins.length (-1)) (-1, d') → CodeR c (0, 0)
theorem CodeR.det {c : CodeD} {R S : Int × Int} (h : CodeR c R) (g : CodeR c S) : R = S := by
 cases h with
 | big hb =>
  cases g with
  | big _ => rfl
  | fn _ h _ _ => exact absurd hb h
  | ins _ h _ _ => exact absurd hb h
  | stack _ _ h _ _ _ _ => exact absurd hb h
  | ok _ h _ _ _ => exact absurd hb h
 | fn _ hb h1 h2 =>
  cases g with
  | big h => exact absurd h hb
  | fn _ _ g1 _ => rw [← h1, ← g1]
  | ins _ _ g1 _ => rw [h1] at g1; exact absurd g1 h2
  | stack _ _ _ g1 _ _ _ => rw [h1] at g1; exact absurd g1 h2
  | ok _ _ g1 _ _ => rw [h1] at g1; exact absurd g1 h2
 | ins _ hb h1 h2 =>
  cases g with
  | big h => exact absurd h hb
  | fn _ _ g1 g2 => rw [g1] at h1; exact absurd h1 g2
  | ins _ _ g1 g2 => rw [h2] at g2; injection g2
  | stack _ _ _ g1 g2 _ _ => rw [h2] at g2; cases g2
  | ok _ _ g1 g2 _ => rw [h2] at g2; cases g2
 | stack k d hb h1 h2 h3 h4 =>
  cases g with
  | big h => exact absurd h hb
  | fn _ _ g1 g2 => rw [g1] at h1; exact absurd h1 g2
  | ins _ _ g1 g2 => rw [h2] at g2; cases g2
  | stack _ _ _ g1 g2 g3 _ => have := h3.det g3; simp at this; rw [this.1]
  | ok _ _ g1 g2 g3 => have := h3.det g3; simp at this; omega
 | ok d hb h1 h2 h3 =>
  cases g with
  | big h => exact absurd h hb
  | fn _ _ g1 g2 => rw [g1] at h1; exact absurd h1 g2
  | ins _ _ g1 g2 => rw [h2] at g2; cases g2
  | stack _ _ _ g1 g2 g3 _ => have := h3.det g3; simp at this; omega
  | ok _ _ _ _ _ => rfl
end Go.Proofs.YtahcjgjigbedoaaGreatDoor
