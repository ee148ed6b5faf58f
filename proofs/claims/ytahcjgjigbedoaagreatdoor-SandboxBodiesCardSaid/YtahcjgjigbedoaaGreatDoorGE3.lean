/- Values put together, in plain Lean: a list of values is a value, unless a limit is passed; joining. Values put together, in plain Lean: joining, pushing, keys; strings; maps. -/
import Derived.Test.YtahcjgjigbedoaaGreatDoorGE1
set_option linter.unusedVariables false
set_option linter.unusedSimpArgs false
namespace Go.Proofs.YtahcjgjigbedoaaGreatDoor
open Go.RowKit
def shE (n : Nat) (s : Sh) : Sh := ⟨n + s.j, s.d, s.b⟩
def LikeE (n : Nat) (g g' : Nat → Option Sh) : Prop := ∀ i s, g i = some s → g' (n + i) = some (shE n s)
theorem elems_ext {n : Nat} {g g' : Nat → Option Sh} (hl : LikeE n g g') : ∀ k s t, elems g 0 k s = some t → elems g' 0 k (shE n s) = some (shE n t)
 | 0, s, t, h => by
  simp only [elems, Option.some.injEq] at h ⊢
  rw [h]
 | k + 1, s, t, h => by
  obtain ⟨r, hr, h2⟩ := elems_cons h
  have h4 := elems_ext hl k ⟨r.j, max s.d (0 + r.d), s.b + r.b⟩ t h2
  rw [elems_some (show g' (shE n s).j = some (shE n r) from hl _ _ hr)]
  exact h4
theorem mid_get (p u q : ValD) (i : Nat) (h : i < u.length) : (p ++ u ++ q)[p.length + i]? = u[i]? := by
 rw [List.append_assoc, List.getElem?_append_right (by omega), show p.length + i - p.length = i by omega, List.getElem?_append_left h]
theorem pairs_ext {p u q : ValD} {g g' : Nat → Option Sh} (hl : LikeE p.length g g') : ∀ k last s t, pairs u g 0 k last s = some t → pairs (p ++ u ++ q) g' 0 k last (shE p.length s) = some (shE p.length t)
 | 0, last, s, t, h => by
  simp only [pairs, Option.some.injEq] at h ⊢
  rw [h]
 | k + 1, last, s, t, h => by
  obtain ⟨c, r, hc, hk, hr, h2⟩ := pairs_cons h
  have h3 := hl _ _ hr
  have h4 := pairs_ext (q := q) hl k (some c.str) ⟨r.j, max s.d (0 + r.d), s.b + (quotedN c.str + 1) + r.b⟩ t h2
  have hc' : (p ++ u ++ q)[(shE p.length s).j]? = some c := by
   show (p ++ u ++ q)[p.length + s.j]? = some c
   rw [mid_get p u q _ (List.getElem?_eq_some_iff.1 hc).1]
   exact hc
  rw [pairs_some hc' hk (show g' ((shE p.length s).j + 1) = some (shE p.length r) from h3)]
  exact h4
theorem parse_ext (p u q : ValD) : ∀ f i s, parse u f i = some s → px (p ++ u ++ q) (p.length + i) = some (shE p.length s)
 | 0, i, s, h => by cases h
 | f + 1, i, s, h => by
  have hl : LikeE p.length (parse u f) (px (p ++ u ++ q)) := fun j r hr => parse_ext p u q f j r hr
  simp only [parse, pstep] at h
  cases hc : u[i]? with
  | none => rw [hc] at h; cases h
  | some c =>
   rw [px_eq, pstep, mid_get p u q i (List.getElem?_eq_some_iff.1 hc).1, hc]
   rw [hc] at h
   simp only at h ⊢
   split at h
   ·cases h
   rename_i hp
   rw [if_neg hp]
   split at h
   ·rename_i h5
    rw [if_pos h5]
    cases ht : elems (parse u f) 0 c.n.toNat ⟨i + 1, 0, 0⟩ with
    | none => rw [ht] at h; cases h
    | some t =>
     rw [ht] at h
     simp at h
     subst h
     have h6 := elems_ext hl _ ⟨i + 1, 0, 0⟩ t ht
     have e : shE p.length ⟨i + 1, 0, 0⟩ = ⟨p.length + i + 1, 0, 0⟩ := rfl
     rw [e] at h6
     rw [h6]
     rfl
   rename_i h5
   rw [if_neg h5]
   split at h
   ·rename_i h6
    rw [if_pos h6]
    cases ht : pairs u (parse u f) 0 c.n.toNat none ⟨i + 1, 0, 0⟩ with
    | none => rw [ht] at h; cases h
    | some t =>
     rw [ht] at h
     simp at h
     subst h
     have h7 := pairs_ext (q := q) hl _ none ⟨i + 1, 0, 0⟩ t ht
     have e : shE p.length ⟨i + 1, 0, 0⟩ = ⟨p.length + i + 1, 0, 0⟩ := rfl
     rw [e] at h7
     rw [h7]
     rfl
   ·rename_i h6
    rw [if_neg h6]
    simp at h
    subst h
    simp only [shE, Option.some.injEq, Sh.mk.injEq, and_true]
    omega
theorem px_ext (p q : ValD) {u : ValD} {r : Sh} (h : px u 0 = some r) : px (p ++ u ++ q) p.length = some ⟨p.length + r.j, r.d, r.b⟩ := parse_ext p u q _ 0 r h
theorem elems_build : ∀ (l : List ValD) (p q : ValD) (d : Nat) (b : Int), (∀ x ∈ l, ∃ r, px x 0 = some r ∧ r.j = x.length) → ∃ t, elems (px (p ++ l.flatten ++ q)) 0 l.length ⟨p.length, d, b⟩ = some t ∧ t.j = p.length + l.flatten.length
 | [], p, q, d, b, _ => ⟨_, rfl, by simp⟩
 | x :: l, p, q, d, b, h => by
  obtain ⟨r, hr, hj⟩ := h x (by simp)
  have h1 := px_ext p (l.flatten ++ q) hr
  have e : p ++ (x :: l).flatten ++ q = p ++ x ++ (l.flatten ++ q) := by simp
  obtain ⟨t, ht, htj⟩ := elems_build l (p ++ x) q (max d (0 + r.d)) (b + r.b) (fun y hy => h y (by simp [hy]))
  refine ⟨t, ?_, ?_⟩
  ·rw [List.length_cons, elems_some (r := ⟨p.length + r.j, r.d, r.b⟩) (by rw [e]; exact h1)]
   rw [e, ← List.append_assoc]
   rw [List.length_append] at ht
   rw [hj]
   exact ht
  ·rw [htj]; simp; omega
theorem firstBad_zero {l : List ValD} (h : ∀ x ∈ l, checkF x = 0) : firstBad l = 0 := by
 induction l with
 | nil => rfl
 | cons x r ih =>
  unfold firstBad
  rw [if_neg (by simp [h x])]
  exact ih (fun y hy => h y (by simp [hy]))
theorem any_flatten {p : CellD → Bool} {l : List ValD} (h : ∀ x ∈ l, x.any p = false) : l.flatten.any p = false := by
 rw [List.any_eq_false]
 intro c hc
 obtain ⟨x, hx, hcx⟩ := List.mem_flatten.1 hc
 exact List.any_eq_false.1 (h x hx) c hcx
theorem check_cases {v : ValD} {r : Sh} (h : px v 0 = some r) (hj : r.j = v.length) (ho : v.any outB = false) : checkF v = 0 ∨ checkF v = 3 := by
 unfold checkF
 rw [h]
 simp only
 rw [if_neg (by simpa using hj), if_neg (by simp [ho])]
 split
 ·exact .inr rfl
 ·exact .inl rfl
/-- A list of checked values is a value, unless it passes a limit. -/
theorem check_listV {l : List ValD} (h : ∀ x ∈ l, checkF x = 0) : checkF (listV l) = 0 ∨ checkF (listV l) = 3 := by
 have hx : ∀ x ∈ l, ∃ r, px x 0 = some r ∧ r.j = x.length := fun x hx => by
  obtain ⟨r, a, b, _⟩ := checkF_zero.1 (h x hx); exact ⟨r, a, b⟩
 have ho : ∀ x ∈ l, x.any outB = false := fun x hx => by
  obtain ⟨r, _, _, a, _⟩ := checkF_zero.1 (h x hx); exact a
 obtain ⟨t, ht, hj⟩ := elems_build l [⟨5, 0, ⟨#[]⟩, (l.length : Nat)⟩] [] 0 0 hx
 have e : [(⟨5, 0, ⟨#[]⟩, (l.length : Nat)⟩ : CellD)] ++ l.flatten ++ [] = listV l := by simp [listV]
 rw [e] at ht
 have hp : px (listV l) 0 = some ⟨t.j, t.d + 1, sizeN ⟨5, 0, ⟨#[]⟩, (l.length : Nat)⟩ + t.b⟩ := by
  rw [px_eq, pstep]
  have hc : (listV l)[0]? = some ⟨5, 0, ⟨#[]⟩, (l.length : Nat)⟩ := rfl
  rw [hc]
  simp only
  have hpl : plainB ⟨5, 0, ⟨#[]⟩, (l.length : Nat)⟩ = true := by
   simp [plainB]
   rfl
  rw [if_neg (by rw [hpl]; simp), if_pos trivial]
  have ht' : elems (px (listV l)) 0 ((l.length : Nat) : Int).toNat ⟨0 + 1, 0, 0⟩ = some t := by simpa using ht
  rw [ht']
  rfl
 refine check_cases hp ?_ ?_
 ·show t.j = _
  rw [hj]
  simp [listV]
  omega
 ·unfold listV
  rw [List.any_cons, any_flatten ho]
  rfl
theorem listR_eq {l : List ValD} (h : ∀ x ∈ l, checkF x = 0) : listR l = limR (listV l) := by
 unfold listR okR limR
 rw [if_neg (by simp [firstBad_zero h])]
 rcases check_listV h with e | e
 ·rw [if_pos e, if_pos e]
 ·rw [if_neg (by omega), if_neg (by omega), e]
/-! ### The cells of the parts -/
theorem sec_split (v : ValD) (a c b : Nat) (h1 : a ≤ c) (h2 : c ≤ b) : sec v a b = sec v a c ++ sec v c b := by
 unfold sec
 have e : b - a = (c - a) + (b - c) := by omega
 rw [e, List.take_add, List.drop_drop, show a + (c - a) = c by omega]
theorem ChainV.le {v : ValD} {m : Bool} {D : Nat} {B : Int} {a b : Nat} {l : List (ByteArray × ValD)} (h : ChainV v m D B a l b) : a ≤ b := by
 induction h with
 | nil a => exact Nat.le_refl _
 | cons hp _ ih =>
  obtain ⟨r, _, hr, _, ha, _, _⟩ := hp
  have := (px_adv hr).1
  omega
theorem ChainV.flat {v : ValD} {D : Nat} {B : Int} {a b : Nat} {l : List (ByteArray × ValD)} (h : ChainV v false D B a l b) : (l.map (·.2)).flatten = sec v a b := by
 induction h with
 | nil a => simp [sec]
 | @cons a a2 b key x l hp hc ih =>
  obtain ⟨r, _, hr, hx, ha, _, _⟩ := hp
  have hx' : x = sec v a r.j := hx
  have h1 : a < r.j := (px_adv hr).1
  have h2 := hc.le
  simp only [List.map_cons, List.flatten_cons]
  rw [ih, hx', ha, ← sec_split v a r.j b (by omega) (by omega)]
theorem ChainV.flatK {v : ValD} {D : Nat} {B : Int} {a b : Nat} {l : List (ByteArray × ValD)} (h : ChainV v true D B a l b) : (l.flatMap fun p => sCel p.1 :: p.2) = sec v a b := by
 induction h with
 | nil a => simp [sec]
 | @cons a a2 b key x l hp hc ih =>
  obtain ⟨r, hk, hr, hx, ha, _, _⟩ := hp
  rw [if_pos rfl] at hk
  obtain ⟨c, hcc, hk4, hpl, hke⟩ := hk
  have h1 := (px_adv hr).1
  have h2 := hc.le
  have h3 : a + 1 < r.j := h1
  have ec : sCel key = c := by
   subst hke
   obtain ⟨kd, it, st, n⟩ := c
   simp only at hk4
   subst hk4
   simp [plainB] at hpl
   simp [sCel, hpl.1, hpl.2.1]
  simp only [List.flatMap_cons]
  rw [ih, hx, ha, ec, sec_split v a r.j _ (by omega) (by omega), sec_split v a (a + 1) r.j (by omega) (by omega)]
  have e1 : sec v a (a + 1) = [c] := by
   unfold sec
   rw [show a + 1 - a = 1 by omega]
   have hlt : a < v.length := (List.getElem?_eq_some_iff.1 hcc).1
   rw [List.drop_eq_getElem_cons hlt, List.take_succ_cons, List.take_zero]
   rw [List.getElem?_eq_getElem hlt] at hcc
   injection hcc with hcc
   rw [hcc]
  rw [e1]
  rfl
theorem sec_one (v : ValD) : sec v 1 v.length = v.tail := by
 unfold sec
 cases v with
 | nil => rfl
 | cons c t => simp
end Go.Proofs.YtahcjgjigbedoaaGreatDoor
namespace Go.Proofs.YtahcjgjigbedoaaGreatDoor
open Go.RowKit
theorem parts_list {v : ValD} {c : CellD} {t : ValD} (hv : checkF v = 0) (hs : ∀ x ∈ v, SmallC x) (he : v = c :: t) (hk : c.kind = 5) :
  ((partsOf v).map (·.2)).flatten = t ∧ ((partsOf v).length : Int) = c.n ∧ ∀ x ∈ (partsOf v).map (·.2), checkF x = 0 := by
 obtain ⟨h1, h2, h3, _⟩ := parts_chain hv hs (c := c) (by rw [he]; rfl) (.inl hk)
 rw [show decide (c.kind = 6) = false by simp; omega] at h3
 refine ⟨?_, by omega, fun x hx => ?_⟩
 ·rw [h3.flat, sec_one, he]; rfl
 ·obtain ⟨p, hp, rfl⟩ := List.mem_map.1 hx
  exact parts_check hv h3 p hp
/-- Joining two lists. -/
theorem join_eq {a b : ValD} {x y : CellD} {a' b' : ValD} (ha : checkF a = 0) (hb : checkF b = 0) (sa : ∀ c ∈ a, SmallC c) (sb : ∀ c ∈ b, SmallC c) (ea : a = x :: a') (eb : b = y :: b') (kx : x.kind = 5) (ky : y.kind = 5) :
  listR ((partsOf a).map (·.2) ++ (partsOf b).map (·.2)) = limR (⟨5, 0, ⟨#[]⟩, x.n + y.n⟩ :: (a' ++ b')) := by
 obtain ⟨a1, a2, a3⟩ := parts_list ha sa ea kx
 obtain ⟨b1, b2, b3⟩ := parts_list hb sb eb ky
 rw [listR_eq (fun z hz => by
  rcases List.mem_append.1 hz with h | h
  ·exact a3 z h
  ·exact b3 z h)]
 congr 1
 unfold listV
 rw [List.flatten_append, a1, b1]
 congr 2
 simp
 omega
/-- One more element. -/
theorem push_eq {a v : ValD} {x : CellD} {a' : ValD} (ha : checkF a = 0) (hv : checkF v = 0) (sa : ∀ c ∈ a, SmallC c) (ea : a = x :: a') (kx : x.kind = 5) :
  listR ((partsOf a).map (·.2) ++ [v]) = limR (⟨5, 0, ⟨#[]⟩, x.n + 1⟩ :: (a' ++ v)) := by
 obtain ⟨a1, a2, a3⟩ := parts_list ha sa ea kx
 rw [listR_eq (fun z hz => by
  rcases List.mem_append.1 hz with h | h
  ·exact a3 z h
  ·have : z = v := by simpa using h
   rw [this]; exact hv)]
 congr 1
 unfold listV
 rw [List.flatten_append, a1]
 simp
 omega
theorem px_sCel (s : ByteArray) (h : txtB s = true) : px [sCel s] 0 = some ⟨1, 1, quotedN s⟩ := by
 rw [px_eq, pstep]
 have hp : plainB (sCel s) = true := by simp [plainB, sCel, h]
 have hc : ([sCel s] : ValD)[0]? = some (sCel s) := rfl
 rw [hc]
 simp only
 rw [if_neg (by rw [hp]; simp), if_neg (by simp [sCel]), if_neg (by simp [sCel])]
 simp [sizeN, sCel]
theorem check_str_cases (s : ByteArray) (h : txtB s = true) : checkF [sCel s] = 0 ∨ checkF [sCel s] = 3 :=
 check_cases (px_sCel s h) rfl (by simp [outB, sCel])
theorem okR_str (s : ByteArray) (h : txtB s = true) : okR [sCel s] = limR [sCel s] := by
 unfold okR limR
 rcases check_str_cases s h with e | e
 ·rw [if_pos e, if_pos e]
 ·rw [if_neg (by omega), if_neg (by omega), e]
theorem count_two (l : List UInt8) : l.count 34 + l.count 92 ≤ l.length := by
 induction l with
 | nil => simp
 | cons c r ih =>
  simp only [List.count_cons, List.length_cons]
  by_cases h1 : c = 34
  ·subst h1; simp; omega
  ·by_cases h2 : c = 92
   ·subst h2; simp; omega
   ·simp [h1, h2]; omega
theorem quoted_le (s : ByteArray) : quotedN s ≤ 2 + 2 * (s.size : Int) := by
 unfold quotedN
 have := count_two s.data.toList
 have e : s.data.toList.length = s.size := by rw [Array.length_toList]; rfl
 omega
/-- A short string of printing bytes is a value. -/
theorem check_str {s : ByteArray} (h : txtB s = true) (hl : s.size ≤ 200) : checkF [sCel s] = 0 := by
 rw [checkF_zero]
 have hlb : longB (sCel s) = false := by unfold longB; exact decide_eq_false (by show ¬ 200 < s.size; omega)
 have hob : outB (sCel s) = false := rfl
 refine ⟨_, px_sCel s h, rfl, by rw [List.any_cons, hob]; rfl, by rw [List.any_cons, hlb]; rfl, by show 1 ≤ 200; omega, by show 1 ≤ 8; omega, ?_⟩
 have := quoted_le s
 simp only
 omega
theorem px_int (n : Int) : px [iCel n] 0 = some ⟨1, 1, (itoaLen n : Nat)⟩ := by
 rw [px_eq, pstep]
 have hp : plainB (iCel n) = true := by
  simp [plainB, iCel]
  rfl
 have hc : ([iCel n] : ValD)[0]? = some (iCel n) := rfl
 rw [hc]
 simp only
 rw [if_neg (by rw [hp]; simp), if_neg (by simp [iCel]), if_neg (by simp [iCel])]
 simp [sizeN, iCel]
theorem parts_map {v : ValD} {c : CellD} {t : ValD} (hv : checkF v = 0) (hs : ∀ x ∈ v, SmallC x) (he : v = c :: t) (hk : c.kind = 6) :
  ((partsOf v).flatMap fun p => sCel p.1 :: p.2) = t ∧ ((partsOf v).length : Int) = c.n ∧ (∀ p ∈ partsOf v, checkF p.2 = 0) ∧ AscFrom none ((partsOf v).map (·.1)) := by
 obtain ⟨h1, h2, h3, h4⟩ := parts_chain hv hs (c := c) (by rw [he]; rfl) (.inr hk)
 rw [show decide (c.kind = 6) = true by simp [hk]] at h3
 refine ⟨?_, by omega, fun p hp => parts_check hv h3 p hp, h4 hk⟩
 rw [h3.flatK, sec_one, he]
 rfl
end Go.Proofs.YtahcjgjigbedoaaGreatDoor
