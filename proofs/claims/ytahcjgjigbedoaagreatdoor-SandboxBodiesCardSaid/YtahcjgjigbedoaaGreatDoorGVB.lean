/- Values: px taken apart, in plain Lean. Values: no more levels than cells, in plain Lean. Values: a bound on the bytes, in plain Lean. Values: the sizes of cells, in plain Lean. -/
import Derived.Test.YtahcjgjigbedoaaGreatDoorV0
set_option linter.unusedVariables false
set_option linter.unusedSimpArgs false
namespace Go.Proofs.YtahcjgjigbedoaaGreatDoor
open Go.RowKit
def nextR (l : List CellD) (i : Nat) : Int := match px l i with
 | some r => (r.j : Int)
 | none => -1
def shR : Option Sh → Int
 | some r => (r.j : Int)
 | none => -1
theorem nextR_sh (l : List CellD) (i : Nat) : nextR l i = shR (px l i) := by unfold nextR shR; cases px l i <;> rfl
theorem px_cases {l : List CellD} {i : Nat} {r : Sh} {c : CellD} (hr : px l i = some r) (hc : l[i]? = some c) : plainB c = true ∧
  ((c.kind = 5 ∧ ∃ t, elems (px l) 0 c.n.toNat ⟨i + 1, 0, 0⟩ = some t ∧ r = ⟨t.j, t.d + 1, sizeN c + t.b⟩) ∨ (c.kind = 6 ∧ ∃ t, pairs l (px l) 0 c.n.toNat none ⟨i + 1, 0, 0⟩ = some t ∧ r = ⟨t.j, t.d + 1, sizeN c + t.b⟩) ∨ (¬ c.kind = 5 ∧ ¬ c.kind = 6 ∧ r = ⟨i + 1, 1, sizeN c⟩)) := by
 rw [px_eq, pstep, hc] at hr
 simp only at hr
 split at hr
 ·cases hr
 rename_i hp
 refine ⟨by simpa using hp, ?_⟩
 split at hr
 ·rename_i h5
  cases ht : elems (px l) 0 c.n.toNat ⟨i + 1, 0, 0⟩ with
  | none => rw [ht] at hr; cases hr
  | some t => rw [ht] at hr; simp at hr; exact .inl ⟨h5, t, rfl, hr.symm⟩
 split at hr
 ·rename_i h6
  cases ht : pairs l (px l) 0 c.n.toNat none ⟨i + 1, 0, 0⟩ with
  | none => rw [ht] at hr; cases hr
  | some t => rw [ht] at hr; simp at hr; exact .inr (.inl ⟨h6, t, rfl, hr.symm⟩)
 ·rename_i h5 h6
  simp at hr
  exact .inr (.inr ⟨h5, h6, hr.symm⟩)
theorem elems_cons {g : Nat → Option Sh} {L k : Nat} {s t : Sh} (h : elems g L (k + 1) s = some t) : ∃ r, g s.j = some r ∧ elems g L k ⟨r.j, max s.d (L + r.d), s.b + r.b⟩ = some t := by
 simp only [elems] at h
 cases hr : g s.j with
 | none => rw [hr] at h; cases h
 | some r => rw [hr] at h; exact ⟨r, rfl, h⟩
theorem pairs_cons {v : List CellD} {g : Nat → Option Sh} {L k : Nat} {last : Option ByteArray} {s t : Sh} (h : pairs v g L (k + 1) last s = some t) :
  ∃ c r, v[s.j]? = some c ∧ keyOk last c = true ∧ g (s.j + 1) = some r ∧ pairs v g L k (some c.str) ⟨r.j, max s.d (L + r.d), s.b + (quotedN c.str + 1) + r.b⟩ = some t := by
 simp only [pairs] at h
 cases hc : v[s.j]? with
 | none => rw [hc] at h; cases h
 | some c =>
  rw [hc] at h
  simp only at h
  split at h
  ·rename_i hk
   cases hr : g (s.j + 1) with
   | none => rw [hr] at h; cases h
   | some r => rw [hr] at h; exact ⟨c, r, rfl, hk, rfl, h⟩
  ·cases h
/-- One round of elements. -/
theorem elems_none {g : Nat → Option Sh} {L k : Nat} {s : Sh} (h : g s.j = none) : elems g L (k + 1) s = none := by simp only [elems]; rw [h]; rfl
theorem elems_some {g : Nat → Option Sh} {L k : Nat} {s r : Sh} (h : g s.j = some r) : elems g L (k + 1) s = elems g L k ⟨r.j, max s.d (L + r.d), s.b + r.b⟩ := by simp only [elems]; rw [h]; rfl
theorem pairs_none {v : List CellD} {g : Nat → Option Sh} {L k : Nat} {last : Option ByteArray} {s : Sh} (h : ∀ c, v[s.j]? = some c → keyOk last c = false) : pairs v g L (k + 1) last s = none := by
 simp only [pairs]
 cases hc : v[s.j]? with
 | none => rfl
 | some c => simp only; rw [if_neg (by rw [h c hc]; simp)]
theorem pairs_none2 {v : List CellD} {g : Nat → Option Sh} {L k : Nat} {last : Option ByteArray} {s : Sh} (h : g (s.j + 1) = none) : pairs v g L (k + 1) last s = none := by
 simp only [pairs]
 cases hc : v[s.j]? with
 | none => rfl
 | some c => simp only; rw [h]; split <;> rfl
theorem pairs_some {v : List CellD} {g : Nat → Option Sh} {L k : Nat} {last : Option ByteArray} {s r : Sh} {c : CellD} (hc : v[s.j]? = some c) (hk : keyOk last c = true) (h : g (s.j + 1) = some r) :
  pairs v g L (k + 1) last s = pairs v g L k (some c.str) ⟨r.j, max s.d (L + r.d), s.b + (quotedN c.str + 1) + r.b⟩ := by
 simp only [pairs]; rw [hc]; simp only; rw [if_pos hk, h]; rfl
end Go.Proofs.YtahcjgjigbedoaaGreatDoor
namespace Go.Proofs.YtahcjgjigbedoaaGreatDoor
open Go.RowKit
theorem elems_d {g : Nat → Option Sh} {a : Nat} (hg : ∀ j s, g j = some s → j + s.d ≤ s.j) (hj : ∀ j s, g j = some s → j < s.j) : ∀ k s t, a ≤ s.j → a + s.d ≤ s.j → elems g 0 k s = some t → a + t.d ≤ t.j
 | 0, s, t, _, h, e => by simp [elems] at e; subst e; exact h
 | k + 1, s, t, ha, h, e => by
  obtain ⟨r, hr, e'⟩ := elems_cons e
  have h1 := hg _ _ hr
  have h2 := hj _ _ hr
  exact elems_d hg hj k ⟨r.j, max s.d (0 + r.d), s.b + r.b⟩ t (by show a ≤ r.j; omega) (by show a + max s.d (0 + r.d) ≤ r.j; omega) e'
theorem pairs_d {v : List CellD} {g : Nat → Option Sh} {a : Nat} (hg : ∀ j s, g j = some s → j + s.d ≤ s.j) (hj : ∀ j s, g j = some s → j < s.j) : ∀ k last s t, a ≤ s.j → a + s.d ≤ s.j → pairs v g 0 k last s = some t → a + t.d ≤ t.j
 | 0, last, s, t, _, h, e => by simp [pairs] at e; subst e; exact h
 | k + 1, last, s, t, ha, h, e => by
  obtain ⟨c, r, _, _, hr, e'⟩ := pairs_cons e
  have h1 := hg _ _ hr
  have h2 := hj _ _ hr
  exact pairs_d hg hj k (some c.str) ⟨r.j, max s.d (0 + r.d), s.b + (quotedN c.str + 1) + r.b⟩ t (by show a ≤ r.j; omega) (by show a + max s.d (0 + r.d) ≤ r.j; omega) e'
theorem parse_d (v : List CellD) : ∀ f i s, parse v f i = some s → i + s.d ≤ s.j
 | 0, i, s, h => by cases h
 | f + 1, i, s, h => by
  simp only [parse, pstep] at h
  cases hc : v[i]? with
  | none => rw [hc] at h; cases h
  | some c =>
   rw [hc] at h
   simp only at h
   split at h
   ·cases h
   split at h
   ·cases ht : elems (parse v f) 0 c.n.toNat ⟨i + 1, 0, 0⟩ with
    | none => rw [ht] at h; cases h
    | some t =>
     rw [ht] at h
     simp at h
     have := elems_d (a := i + 1) (parse_d v f) (fun j s hs => (parse_adv v f j s hs).1) _ _ _ (Nat.le_refl _) (Nat.le_refl _) ht
     subst h
     show i + (t.d + 1) ≤ t.j
     omega
   split at h
   ·cases ht : pairs v (parse v f) 0 c.n.toNat none ⟨i + 1, 0, 0⟩ with
    | none => rw [ht] at h; cases h
    | some t =>
     rw [ht] at h
     simp at h
     have := pairs_d (a := i + 1) (parse_d v f) (fun j s hs => (parse_adv v f j s hs).1) _ _ _ _ (Nat.le_refl _) (Nat.le_refl _) ht
     subst h
     show i + (t.d + 1) ≤ t.j
     omega
   ·simp at h
    subst h
    exact Nat.le_refl _
theorem px_d {l : List CellD} {i : Nat} {r : Sh} (h : px l i = some r) : i + r.d ≤ r.j := parse_d l _ i r h
end Go.Proofs.YtahcjgjigbedoaaGreatDoor
namespace Go.Proofs.YtahcjgjigbedoaaGreatDoor
open Go.RowKit
/-- Bytes of one cell alone are few. -/
def SmallC (c : CellD) : Prop := (plainB c = true → c.kind ≠ 5 → c.kind ≠ 6 → 0 ≤ sizeN c ∧ sizeN c ≤ 17179869184) ∧ (0 ≤ quotedN c.str ∧ quotedN c.str ≤ 17179869183)
theorem elems_b {g : Nat → Option Sh} (hg : ∀ j s, g j = some s → 0 ≤ s.b ∧ s.b ≤ 17179869184 * ((s.j : Int) - j)) (hj : ∀ j s, g j = some s → j < s.j) : ∀ k s t, elems g 0 k s = some t → s.j + k ≤ t.j ∧ s.b ≤ t.b ∧ t.b ≤ s.b + 17179869184 * ((t.j : Int) - s.j)
 | 0, s, t, e => by simp [elems] at e; subst e; exact ⟨Nat.le_refl _, Int.le_refl _, by omega⟩
 | k + 1, s, t, e => by
  obtain ⟨r, hr, e'⟩ := elems_cons e
  have h1 := hg _ _ hr
  have h2 := hj _ _ hr
  have h3 := elems_b hg hj k _ t e'
  dsimp only at h3
  omega
theorem pairs_b {v : List CellD} {g : Nat → Option Sh} (hv : ∀ c ∈ v, SmallC c) (hg : ∀ j s, g j = some s → 0 ≤ s.b ∧ s.b ≤ 17179869184 * ((s.j : Int) - j)) (hj : ∀ j s, g j = some s → j < s.j) : ∀ k last s t, pairs v g 0 k last s = some t → s.j + k ≤ t.j ∧ s.b ≤ t.b ∧ t.b ≤ s.b + 17179869184 * ((t.j : Int) - s.j)
 | 0, last, s, t, e => by simp [pairs] at e; subst e; exact ⟨Nat.le_refl _, Int.le_refl _, by omega⟩
 | k + 1, last, s, t, e => by
  obtain ⟨c, r, hc, _, hr, e'⟩ := pairs_cons e
  have h1 := hg _ _ hr
  have h2 := hj _ _ hr
  have h3 := pairs_b hv hg hj k _ _ t e'
  have h4 := (hv c (List.mem_of_getElem? hc)).2
  dsimp only at h3
  omega
theorem parse_b (v : List CellD) (hl : v.length ≤ 1000000) (hv : ∀ c ∈ v, SmallC c) : ∀ f i s, parse v f i = some s → 0 ≤ s.b ∧ s.b ≤ 17179869184 * ((s.j : Int) - i)
 | 0, i, s, h => by cases h
 | f + 1, i, s, h => by
  have hadv := parse_adv v (f + 1) i s h
  simp only [parse, pstep] at h
  cases hc : v[i]? with
  | none => rw [hc] at h; cases h
  | some c =>
   rw [hc] at h
   simp only at h
   have hsm := hv c (List.mem_of_getElem? hc)
   split at h
   ·cases h
   rename_i hp
   have hp' : plainB c = true := by simpa using hp
   split at h
   ·rename_i h5
    cases ht : elems (parse v f) 0 c.n.toNat ⟨i + 1, 0, 0⟩ with
    | none => rw [ht] at h; cases h
    | some t =>
     rw [ht] at h
     simp at h
     have := elems_b (parse_b v hl hv f) (fun j s hs => (parse_adv v f j s hs).1) _ _ _ ht
     have hz : sizeN c = 2 + max 0 (c.n - 1) := by simp [sizeN, h5]
     subst h
     dsimp only at this hadv ⊢
     omega
   split at h
   ·rename_i h5 h6
    cases ht : pairs v (parse v f) 0 c.n.toNat none ⟨i + 1, 0, 0⟩ with
    | none => rw [ht] at h; cases h
    | some t =>
     rw [ht] at h
     simp at h
     have := pairs_b hv (parse_b v hl hv f) (fun j s hs => (parse_adv v f j s hs).1) _ _ _ _ ht
     have hz : sizeN c = 2 + max 0 (c.n - 1) := by simp [sizeN, h6]
     subst h
     dsimp only at this hadv ⊢
     omega
   ·rename_i h5 h6
    simp at h
    subst h
    have := hsm.1 hp' h5 h6
    dsimp only
    omega
theorem px_b {l : List CellD} (hl : l.length ≤ 1000000) (hv : ∀ c ∈ l, SmallC c) {i : Nat} {r : Sh} (h : px l i = some r) : 0 ≤ r.b ∧ r.b ≤ 17179869184 * ((r.j : Int) - i) := parse_b l hl hv _ i r h
end Go.Proofs.YtahcjgjigbedoaaGreatDoor
namespace Go.Proofs.YtahcjgjigbedoaaGreatDoor
open Go.RowKit
/-- A cell as the machine holds it. -/
def okC (c : CellD) : Prop := c.str.size ≤ 4294967296 ∧ (-9223372036854775808 ≤ c.int ∧ c.int ≤ 9223372036854775807) ∧ c.n ≤ 9223372036854775807
def outs (l : List CellD) : Bool := l.any outB
def longs (l : List CellD) : Bool := l.any longB
theorem outs_snoc (l : List CellD) (k : Nat) (h : k < l.length) : outs (l.take (k + 1)) = (outs (l.take k) || outB l[k]) := by
 unfold outs; rw [List.take_succ_eq_append_getElem h, List.any_append]; simp
theorem longs_snoc (l : List CellD) (k : Nat) (h : k < l.length) : longs (l.take (k + 1)) = (longs (l.take k) || longB l[k]) := by
 unfold longs; rw [List.take_succ_eq_append_getElem h, List.any_append]; simp

theorem nDigits_le : ∀ k u : Nat, u < 10 ^ (k + 1) → Lib.nDigits u ≤ k + 1
 | 0, u, h => by rw [Lib.nDigits_small (by simpa using h)]; exact Nat.le_refl _
 | k + 1, u, h => by
  by_cases h10 : u < 10
  ·rw [Lib.nDigits_small h10]; omega
  ·rw [Lib.nDigits_big h10]
   have := nDigits_le k (u / 10) (by
    rw [Nat.pow_succ] at h
    exact Nat.div_lt_of_lt_mul (by omega))
   omega
theorem itoa_len (n : Int) (h : -9223372036854775808 ≤ n ∧ n ≤ 9223372036854775807) : itoaLen n ≤ 1000000 := by
 unfold itoaLen Lib.itoa
 split
 ·rw [List.length_cons, Lib.decDigits_length]
  have := nDigits_le 19 n.natAbs (by omega)
  omega
 ·rw [Lib.decDigits_length]
  have := nDigits_le 19 n.toNat (by omega)
  omega
theorem size_bd {c : CellD} (hp : plainB c = true) (ho : okC c) (hn : c.n ≤ 1000000) : 0 ≤ sizeN c ∧ sizeN c ≤ 18000000000 := by
 have h1 : c.str.data.toList.count 34 ≤ c.str.size := by have := List.count_le_length (a := (34 : UInt8)) (l := c.str.data.toList); simpa using this
 have h2 : c.str.data.toList.count 92 ≤ c.str.size := by have := List.count_le_length (a := (92 : UInt8)) (l := c.str.data.toList); simpa using this
 have h3 := ho.1
 have h4 := itoa_len c.int ho.2.1
 unfold sizeN
 split
 ·omega
 split
 ·rename_i hk
  unfold plainB at hp
  rw [if_neg (by omega), if_pos hk] at hp
  simp at hp
  omega
 split
 ·omega
 split
 ·unfold quotedN; omega
 ·omega
theorem smallC_of {c : CellD} (h : okC c) : SmallC c := by
 have h1 : c.str.data.toList.count 34 ≤ c.str.size := by have := List.count_le_length (a := (34 : UInt8)) (l := c.str.data.toList); simpa using this
 have h2 : c.str.data.toList.count 92 ≤ c.str.size := by have := List.count_le_length (a := (92 : UInt8)) (l := c.str.data.toList); simpa using this
 have h3 := h.1
 refine ⟨fun hp h5 h6 => ?_, by unfold quotedN; omega⟩
 have h4 := itoa_len c.int h.2.1
 unfold sizeN
 split
 ·omega
 split
 ·rename_i hk
  unfold plainB at hp
  rw [if_neg (by omega), if_pos hk] at hp
  simp at hp
  omega
 split
 ·omega
 split
 ·unfold quotedN; omega
 ·rename_i k1 k2 k3 k4
  unfold plainB at hp
  rw [if_neg k1, if_neg k2, if_neg k3, if_neg k4, if_neg (by omega)] at hp
  cases hp
end Go.Proofs.YtahcjgjigbedoaaGreatDoor
