/- Values as cells: what a well-formed one is, where it ends, its levels, the length of its text; the machine with a stack reads the same. In plain Lean. -/
import Derived.Test.YtahcjgjigbedoaaGreatDoorGN0
import Derived.Lib.ItoaNum
import Derived.Laws.Cover1
set_option linter.unusedVariables false
set_option linter.unusedSimpArgs false
namespace Go.Proofs.YtahcjgjigbedoaaGreatDoor
open Go.RowKit
def itoaLen (n : Int) : Nat := (Lib.itoa n).length
def sleB (a b : ByteArray) : Bool := Op.bytesLess a.toList b.toList || a.toList == b.toList
def eSyntax : Int := 1
def eRange : Int := 2
def eLimit : Int := 3
/-! ### Values as cells, in plain Lean -/
def txtB (s : ByteArray) : Bool := s.data.toList.all fun b => decide (32 ≤ b.toNat) && decide (b.toNat ≤ 126)
def quotedN (s : ByteArray) : Int := (s.size : Int) + 2 + (s.data.toList.count 34 : Nat) + (s.data.toList.count 92 : Nat)
/-- Has a cell nothing in the fields that its kind does not use? -/
def plainB (c : CellD) : Bool :=
 if c.kind = 1 then decide (c.int = 0) && (decide (c.str.size = 0) && decide (c.n = 0))
 else if c.kind = 2 then (decide (c.int = 0) || decide (c.int = 1)) && (decide (c.str.size = 0) && decide (c.n = 0))
 else if c.kind = 3 then decide (c.str.size = 0) && decide (c.n = 0)
 else if c.kind = 4 then decide (c.int = 0) && (decide (c.n = 0) && txtB c.str)
 else if c.kind = 5 ∨ c.kind = 6 then decide (c.int = 0) && (decide (c.str.size = 0) && decide (0 ≤ c.n))
 else false
def sizeN (c : CellD) : Int :=
 if c.kind = 1 then 4 else if c.kind = 2 then 5 - c.int else if c.kind = 3 then (itoaLen c.int : Nat) else if c.kind = 4 then quotedN c.str else 2 + max 0 (c.n - 1)
def keyOk (last : Option ByteArray) (c : CellD) : Bool := plainB c && (decide (c.kind = 4) && (match last with | none => true | some l => !sleB c.str l))

/-- Where a value ends, its levels, the bytes of its text. -/
structure Sh where
 j : Nat
 d : Nat
 b : Int

def elems (g : Nat → Option Sh) (L : Nat) : Nat → Sh → Option Sh
 | 0, s => some s
 | k + 1, s => (g s.j).bind fun r => elems g L k ⟨r.j, max s.d (L + r.d), s.b + r.b⟩
def pairs (v : List CellD) (g : Nat → Option Sh) (L : Nat) : Nat → Option ByteArray → Sh → Option Sh
 | 0, _, s => some s
 | k + 1, last, s => match v[s.j]? with
  | none => none
  | some c => if keyOk last c then (g (s.j + 1)).bind fun r => pairs v g L k (some c.str) ⟨r.j, max s.d (L + r.d), s.b + (quotedN c.str + 1) + r.b⟩ else none
/-- One cell, given how its parts are read. -/
def pstep (v : List CellD) (g : Nat → Option Sh) (i : Nat) : Option Sh :=
 match v[i]? with
 | none => none
 | some c =>
  if plainB c = false then none
  else if c.kind = 5 then (elems g 0 c.n.toNat ⟨i + 1, 0, 0⟩).map fun s => ⟨s.j, s.d + 1, sizeN c + s.b⟩
  else if c.kind = 6 then (pairs v g 0 c.n.toNat none ⟨i + 1, 0, 0⟩).map fun s => ⟨s.j, s.d + 1, sizeN c + s.b⟩
  else some ⟨i + 1, 1, sizeN c⟩
def parse (v : List CellD) : Nat → Nat → Option Sh
 | 0, _ => none
 | f + 1, i => pstep v (parse v f) i
/-- The value that begins at i. -/
def px (v : List CellD) (i : Nat) : Option Sh := parse v (v.length + 1) i

theorem elems_adv {g : Nat → Option Sh} {N : Nat} (hg : ∀ j s, g j = some s → j < s.j ∧ s.j ≤ N) (L : Nat) : ∀ k s t, s.j ≤ N → elems g L k s = some t → s.j + k ≤ t.j ∧ t.j ≤ N
 | 0, s, t, hs, h => by simp [elems] at h; subst h; exact ⟨by omega, hs⟩
 | k + 1, s, t, hs, h => by
  simp only [elems] at h
  cases hr : g s.j with
  | none => rw [hr] at h; cases h
  | some r =>
   rw [hr] at h
   have h1 := hg _ _ hr
   have h2 := elems_adv hg L k ⟨r.j, max s.d (L + r.d), s.b + r.b⟩ t h1.2 h
   exact ⟨by have := h2.1; simp at this; omega, h2.2⟩
theorem pairs_adv {v : List CellD} {g : Nat → Option Sh} {N : Nat} (hg : ∀ j s, g j = some s → j < s.j ∧ s.j ≤ N) (L : Nat) : ∀ k last s t, s.j ≤ N → pairs v g L k last s = some t → s.j + k ≤ t.j ∧ t.j ≤ N
 | 0, last, s, t, hs, h => by simp [pairs] at h; subst h; exact ⟨by omega, hs⟩
 | k + 1, last, s, t, hs, h => by
  simp only [pairs] at h
  cases hc : v[s.j]? with
  | none => rw [hc] at h; cases h
  | some c =>
   rw [hc] at h
   simp only at h
   split at h
   ·cases hr : g (s.j + 1) with
    | none => rw [hr] at h; cases h
    | some r =>
     rw [hr] at h
     have h1 := hg _ _ hr
     have h2 := pairs_adv hg L k (some c.str) ⟨r.j, max s.d (L + r.d), s.b + (quotedN c.str + 1) + r.b⟩ t h1.2 h
     exact ⟨by have := h2.1; simp at this; omega, h2.2⟩
   ·cases h
theorem parse_adv (v : List CellD) : ∀ f i s, parse v f i = some s → i < s.j ∧ s.j ≤ v.length
 | 0, i, s, h => by cases h
 | f + 1, i, s, h => by
  simp only [parse, pstep] at h
  cases hc : v[i]? with
  | none => rw [hc] at h; cases h
  | some c =>
   have hi : i < v.length := (List.getElem?_eq_some_iff.1 hc).1
   rw [hc] at h
   simp only at h
   split at h
   ·cases h
   split at h
   ·cases ht : elems (parse v f) 0 c.n.toNat ⟨i + 1, 0, 0⟩ with
    | none => rw [ht] at h; cases h
    | some t =>
     rw [ht] at h
     simp at h
     have := elems_adv (parse_adv v f) 0 _ _ _ (show (⟨i + 1, 0, 0⟩ : Sh).j ≤ v.length from hi) ht
     subst h
     exact ⟨by have := this.1; simp at this ⊢; omega, this.2⟩
   split at h
   ·cases ht : pairs v (parse v f) 0 c.n.toNat none ⟨i + 1, 0, 0⟩ with
    | none => rw [ht] at h; cases h
    | some t =>
     rw [ht] at h
     simp at h
     have := pairs_adv (parse_adv v f) 0 _ _ _ _ (show (⟨i + 1, 0, 0⟩ : Sh).j ≤ v.length from hi) ht
     subst h
     exact ⟨by have := this.1; simp at this ⊢; omega, this.2⟩
   ·simp at h
    subst h
    exact ⟨by simp, hi⟩
theorem elems_congr {g g' : Nat → Option Sh} {a : Nat} (he : ∀ j, a ≤ j → g j = g' j) (hg : ∀ j s, g j = some s → j < s.j) (L : Nat) : ∀ k s, a ≤ s.j → elems g L k s = elems g' L k s
 | 0, s, _ => rfl
 | k + 1, s, hs => by
  simp only [elems]
  rw [← he _ hs]
  cases hr : g s.j with
  | none => rfl
  | some r =>
   have := hg _ _ hr
   exact elems_congr he hg L k _ (by simp; omega)
theorem pairs_congr {v : List CellD} {g g' : Nat → Option Sh} {a : Nat} (he : ∀ j, a ≤ j → g j = g' j) (hg : ∀ j s, g j = some s → j < s.j) (L : Nat) : ∀ k last s, a ≤ s.j → pairs v g L k last s = pairs v g' L k last s
 | 0, last, s, _ => rfl
 | k + 1, last, s, hs => by
  simp only [pairs]
  cases v[s.j]? with
  | none => rfl
  | some c =>
   simp only
   split
   ·rw [← he _ (by omega : a ≤ s.j + 1)]
    cases hr : g (s.j + 1) with
    | none => rfl
    | some r =>
     have := hg _ _ hr
     exact pairs_congr he hg L k _ _ (by simp; omega)
   ·rfl
theorem parse_fuel (v : List CellD) : ∀ f f' i, v.length - i < f → v.length - i < f' → parse v f i = parse v f' i
 | 0, _, i, h, _ => by omega
 | _ + 1, 0, i, _, h => by omega
 | f + 1, f' + 1, i, h, h' => by
  simp only [parse, pstep]
  cases hc : v[i]? with
  | none => rfl
  | some c =>
   have hi : i < v.length := (List.getElem?_eq_some_iff.1 hc).1
   have he : ∀ j, i + 1 ≤ j → parse v f j = parse v f' j := fun j hj => parse_fuel v f f' j (by omega) (by omega)
   simp only
   rw [elems_congr he (fun j s hs => (parse_adv v f j s hs).1) 0 _ ⟨i + 1, 0, 0⟩ (Nat.le_refl _), pairs_congr he (fun j s hs => (parse_adv v f j s hs).1) 0 _ _ ⟨i + 1, 0, 0⟩ (Nat.le_refl _)]
theorem px_adv {v : List CellD} {i : Nat} {s : Sh} (h : px v i = some s) : i < s.j ∧ s.j ≤ v.length := parse_adv v _ i s h
theorem px_eq (v : List CellD) (i : Nat) : px v i = pstep v (px v) i := by
 have h1 : px v i = pstep v (parse v v.length) i := rfl
 rw [h1]
 unfold pstep
 cases hc : v[i]? with
 | none => rfl
 | some c =>
  have hi : i < v.length := (List.getElem?_eq_some_iff.1 hc).1
  have he : ∀ j, i + 1 ≤ j → parse v v.length j = px v j := fun j hj => parse_fuel v _ _ j (by omega) (by omega)
  simp only
  rw [elems_congr he (fun j s hs => (parse_adv v _ j s hs).1) 0 _ ⟨i + 1, 0, 0⟩ (Nat.le_refl _), pairs_congr he (fun j s hs => (parse_adv v _ j s hs).1) 0 _ _ ⟨i + 1, 0, 0⟩ (Nat.le_refl _)]
theorem elems_off (g : Nat → Option Sh) (L : Nat) : ∀ k i d0 b0 D B, elems g L k ⟨i, max D (L + d0), B + b0⟩ = (elems g 0 k ⟨i, d0, b0⟩).map fun t => ⟨t.j, max D (L + t.d), B + t.b⟩
 | 0, i, d0, b0, D, B => rfl
 | k + 1, i, d0, b0, D, B => by
  simp only [elems]
  cases g i with
  | none => rfl
  | some r =>
   simp only [Option.bind_some]
   rw [← elems_off g L k r.j (max d0 (0 + r.d)) (b0 + r.b) D B]
   congr 2
   ·omega
   ·omega
theorem pairs_off (v : List CellD) (g : Nat → Option Sh) (L : Nat) : ∀ k last i d0 b0 D B, pairs v g L k last ⟨i, max D (L + d0), B + b0⟩ = (pairs v g 0 k last ⟨i, d0, b0⟩).map fun t => ⟨t.j, max D (L + t.d), B + t.b⟩
 | 0, last, i, d0, b0, D, B => rfl
 | k + 1, last, i, d0, b0, D, B => by
  simp only [pairs]
  cases v[i]? with
  | none => rfl
  | some c =>
   simp only
   split
   ·cases g (i + 1) with
    | none => rfl
    | some r =>
     simp only [Option.bind_some]
     rw [← pairs_off v g L k (some c.str) r.j (max d0 (0 + r.d)) (b0 + (quotedN c.str + 1) + r.b) D B]
     congr 2
     ·omega
     ·omega
   ·rfl

/-! ### The machine that reads with a stack -/
structure OpenD where
 pairs : Bool
 left : Nat
 key : Bool
 last : ByteArray
 started : Bool
/-- Behind a value that is complete. -/
def cont (v : List CellD) : List OpenD → Sh → Option Sh
 | [], s => some s
 | o :: st, s => (if o.pairs then pairs v (px v) (st.length + 1) (o.left - 1) (some o.last) s else elems (px v) (st.length + 1) (o.left - 1) s).bind (cont v st)
def resumeV (v : List CellD) (st : List OpenD) (s : Sh) : Option Sh := (px v s.j).bind fun r => cont v st ⟨r.j, max s.d (st.length + r.d), s.b + r.b⟩
def resumeK (v : List CellD) (o : OpenD) (st : List OpenD) (s : Sh) : Option Sh := (pairs v (px v) (st.length + 1) o.left (if o.started then some o.last else none) s).bind (cont v st)
def resume (v : List CellD) : List OpenD → Sh → Option Sh
 | [], s => resumeV v [] s
 | o :: st, s => if o.key then resumeK v o st s else resumeV v (o :: st) s
def good (o : OpenD) : Prop := o.key = false ∧ 1 ≤ o.left ∧ (o.pairs = true → o.started = true)
def closedF : List OpenD → List OpenD
 | [] => []
 | o :: st => if o.left - 1 = 0 then closedF st else ⟨o.pairs, o.left - 1, o.pairs, o.last, o.started⟩ :: st
theorem cont_closed (v : List CellD) : ∀ st s, (∀ o ∈ st, good o) → cont v st s = if closedF st = [] then some s else resume v (closedF st) s
 | [], s, _ => rfl
 | o :: st, s, h => by
  have ho := h o (by simp)
  have hst := cont_closed v st s (fun x hx => h x (by simp [hx]))
  by_cases h0 : o.left - 1 = 0
  ·rw [show closedF (o :: st) = closedF st by simp only [closedF]; rw [if_pos h0], ← hst]
   simp only [cont]
   rw [h0]
   cases o.pairs <;> rfl
  ·rw [show closedF (o :: st) = ⟨o.pairs, o.left - 1, o.pairs, o.last, o.started⟩ :: st by simp only [closedF]; rw [if_neg h0], if_neg (by simp)]
   simp only [cont, resume]
   cases hp : o.pairs with
   | true =>
    simp only [if_true, resumeK]
    rw [ho.2.2 hp]
    rfl
   | false =>
    simp only [resumeV, cont, Bool.false_eq_true, if_false]
    obtain ⟨k, hk⟩ : ∃ k, o.left - 1 = k + 1 := ⟨o.left - 1 - 1, by omega⟩
    rw [hk]
    simp only [elems, List.length_cons, Nat.add_sub_cancel]
    cases px v s.j <;> rfl

theorem plain_kind {c : CellD} (h : plainB c = true) : c.kind = 1 ∨ c.kind = 2 ∨ c.kind = 3 ∨ c.kind = 4 ∨ c.kind = 5 ∨ c.kind = 6 := by
 unfold plainB at h
 split at h
 ·omega
 split at h
 ·omega
 split at h
 ·omega
 split at h
 ·omega
 split at h
 ·omega
 ·cases h
theorem plain_n {c : CellD} (h : plainB c = true) (hk : c.kind = 5 ∨ c.kind = 6) : 0 ≤ c.n := by
 unfold plainB at h
 rw [if_neg (by omega), if_neg (by omega), if_neg (by omega), if_neg (by omega), if_pos hk] at h
 simp at h
 omega
theorem plain_n0 {c : CellD} (h : plainB c = true) (hk : ¬ (c.kind = 5 ∨ c.kind = 6)) : c.n = 0 := by
 unfold plainB at h
 split at h
 ·simp at h; omega
 split at h
 ·simp at h; omega
 split at h
 ·simp at h; omega
 split at h
 ·simp at h; omega
 ·cases h
theorem resumeV_end {v : List CellD} {st : List OpenD} {s : Sh} (h : v[s.j]? = none) : resumeV v st s = none := by
 unfold resumeV
 rw [px_eq, pstep, h]
 rfl
theorem resumeK_end {v : List CellD} {o : OpenD} {st : List OpenD} {s : Sh} (hl : 1 ≤ o.left) (h : v[s.j]? = none) : resumeK v o st s = none := by
 obtain ⟨k, hk⟩ : ∃ k, o.left = k + 1 := ⟨o.left - 1, by omega⟩
 unfold resumeK
 rw [hk, pairs, h]
 rfl
theorem resumeV_bad {v : List CellD} {st : List OpenD} {s : Sh} {c : CellD} (h : v[s.j]? = some c) (hp : plainB c = false) : resumeV v st s = none := by
 unfold resumeV
 rw [px_eq, pstep, h]
 simp only
 rw [if_pos hp]
 rfl
theorem resumeK_bad {v : List CellD} {o : OpenD} {st : List OpenD} {s : Sh} {c : CellD} (hl : 1 ≤ o.left) (h : v[s.j]? = some c) (hk : keyOk (if o.started then some o.last else none) c = false) : resumeK v o st s = none := by
 obtain ⟨k, hk'⟩ : ∃ k, o.left = k + 1 := ⟨o.left - 1, by omega⟩
 unfold resumeK
 rw [hk', pairs, h]
 simp only
 rw [if_neg (by rw [hk]; simp)]
 rfl
theorem resumeK_ok {v : List CellD} {o : OpenD} {st : List OpenD} {s : Sh} {c : CellD} (hl : 1 ≤ o.left) (hp : o.pairs = true) (h : v[s.j]? = some c) (hk : keyOk (if o.started then some o.last else none) c = true) :
  resumeK v o st s = resumeV v (⟨o.pairs, o.left, false, c.str, true⟩ :: st) ⟨s.j + 1, s.d, s.b + (quotedN c.str + 1)⟩ := by
 obtain ⟨k, hk'⟩ : ∃ k, o.left = k + 1 := ⟨o.left - 1, by omega⟩
 unfold resumeK resumeV
 rw [hk', pairs, h]
 simp only [if_pos hk, cont, hp, if_true, Nat.add_sub_cancel, List.length_cons]
 cases px v (s.j + 1) <;> rfl
theorem resumeV_big {v : List CellD} {st : List OpenD} {s : Sh} {c : CellD} (h : v[s.j]? = some c) (hn : (v.length : Int) < c.n) : resumeV v st s = none := by
 cases hr : px v s.j with
 | none => unfold resumeV; rw [hr]; rfl
 | some r =>
  exfalso
  have hi : s.j < v.length := (List.getElem?_eq_some_iff.1 h).1
  rw [px_eq, pstep, h] at hr
  simp only at hr
  split at hr
  ·cases hr
  rename_i hp
  have hp' : plainB c = true := by simpa using hp
  split at hr
  ·cases ht : elems (px v) 0 c.n.toNat ⟨s.j + 1, 0, 0⟩ with
   | none => rw [ht] at hr; cases hr
   | some t =>
    have := elems_adv (fun j s => px_adv (v := v)) 0 _ _ _ (show (⟨s.j + 1, 0, 0⟩ : Sh).j ≤ v.length from hi) ht
    omega
  split at hr
  ·cases ht : pairs v (px v) 0 c.n.toNat none ⟨s.j + 1, 0, 0⟩ with
   | none => rw [ht] at hr; cases hr
   | some t =>
    have := pairs_adv (fun j s => px_adv (v := v)) 0 _ _ _ _ (show (⟨s.j + 1, 0, 0⟩ : Sh).j ≤ v.length from hi) ht
    omega
  ·have := plain_n0 hp' (by omega)
   omega
theorem resumeV_leaf {v : List CellD} {st : List OpenD} {s : Sh} {c : CellD} (h : v[s.j]? = some c) (hp : plainB c = true) (hn : c.n ≤ 0) : resumeV v st s = cont v st ⟨s.j + 1, max s.d (st.length + 1), s.b + sizeN c⟩ := by
 unfold resumeV
 rw [px_eq, pstep, h]
 simp only
 rw [if_neg (by rw [hp]; simp)]
 have h0 : c.n.toNat = 0 := by omega
 rw [h0]
 split
 ·simp [elems]
 split
 ·simp [pairs]
 ·rfl
theorem resumeV_list {v : List CellD} {st : List OpenD} {s : Sh} {c : CellD} (h : v[s.j]? = some c) (hp : plainB c = true) (hk : c.kind = 5) (hn : 0 < c.n) :
  resumeV v st s = resumeV v (⟨false, c.n.toNat, false, ByteArray.empty, false⟩ :: st) ⟨s.j + 1, max s.d (st.length + 1), s.b + sizeN c⟩ := by
 obtain ⟨m, hm⟩ : ∃ m, c.n.toNat = m + 1 := ⟨c.n.toNat - 1, by omega⟩
 have h1 : resumeV v (⟨false, c.n.toNat, false, ByteArray.empty, false⟩ :: st) ⟨s.j + 1, max s.d (st.length + 1), s.b + sizeN c⟩ = (elems (px v) (st.length + 1) c.n.toNat ⟨s.j + 1, max s.d (st.length + 1), s.b + sizeN c⟩).bind (cont v st) := by
  rw [hm]
  simp only [resumeV, cont, elems, Bool.false_eq_true, if_false, Nat.add_sub_cancel, List.length_cons]
  cases px v (s.j + 1) <;> rfl
 rw [h1]
 have h2 := elems_off (px v) (st.length + 1) c.n.toNat (s.j + 1) 0 0 (max s.d (st.length + 1)) (s.b + sizeN c)
 rw [show max (max s.d (st.length + 1)) (st.length + 1 + 0) = max s.d (st.length + 1) by omega, show s.b + sizeN c + 0 = s.b + sizeN c by omega] at h2
 rw [h2]
 unfold resumeV
 rw [px_eq, pstep, h]
 simp only
 rw [if_neg (by rw [hp]; simp), if_pos hk]
 cases elems (px v) 0 c.n.toNat ⟨s.j + 1, 0, 0⟩ with
 | none => rfl
 | some t =>
  simp only [Option.map_some, Option.bind_some]
  congr 2
  ·omega
  ·omega
theorem resumeV_map {v : List CellD} {st : List OpenD} {s : Sh} {c : CellD} (h : v[s.j]? = some c) (hp : plainB c = true) (hk : c.kind = 6) (_ : 0 < c.n) :
  resumeV v st s = resumeK v ⟨true, c.n.toNat, true, ByteArray.empty, false⟩ st ⟨s.j + 1, max s.d (st.length + 1), s.b + sizeN c⟩ := by
 unfold resumeK
 have h2 := pairs_off v (px v) (st.length + 1) c.n.toNat none (s.j + 1) 0 0 (max s.d (st.length + 1)) (s.b + sizeN c)
 rw [show max (max s.d (st.length + 1)) (st.length + 1 + 0) = max s.d (st.length + 1) by omega, show s.b + sizeN c + 0 = s.b + sizeN c by omega] at h2
 simp only [Bool.false_eq_true, if_false]
 rw [h2]
 unfold resumeV
 rw [px_eq, pstep, h]
 simp only
 rw [if_neg (by rw [hp]; simp), if_neg (by omega), if_pos hk]
 cases pairs v (px v) 0 c.n.toNat none ⟨s.j + 1, 0, 0⟩ with
 | none => rfl
 | some t =>
  simp only [Option.map_some, Option.bind_some]
  congr 2
  ·omega
  ·omega
/-- The beginning. -/
theorem resume_start (v : List CellD) : resumeV v [] ⟨0, 0, 0⟩ = px v 0 := by
 unfold resumeV
 cases px v 0 with
 | none => rfl
 | some r => simp [cont]

/-! ### The error of a value -/
def outB (c : CellD) : Bool := decide (c.kind = 3) && !(decide (-1000000000000 ≤ c.int) && decide (c.int ≤ 1000000000000))
def longB (c : CellD) : Bool := decide (200 < c.str.size)
/-- value.Check. -/
def checkF (v : List CellD) : Int :=
 match px v 0 with
 | none => eSyntax
 | some r => if r.j ≠ v.length then eSyntax else if v.any outB then eRange else if v.any longB || (decide (200 < v.length) || (decide (8 < r.d) || decide (4000 < r.b))) then eLimit else 0
end Go.Proofs.YtahcjgjigbedoaaGreatDoor
