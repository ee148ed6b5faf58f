/- The program's histories: plain laws. -/
import Derived.Test.YtcnmdhdoiekfoaaDoorW5
import Derived.Test.YtcnmdhdoiekfoaaDoorW2
import Derived.Test.YtcnmdhdoiekfoaaDoorW3
namespace Go.Proofs.YtcnmdhdoiekfoaaDoor
open Go.RowKit

abbrev HS := List (ByteArray × (IM × IM))
def cntOf (S : HS) (e : ByteArray) (k : Int) : Int := (alGet ((alGet S e).getD ([], [])).2 k).getD 0
def atOf (S : HS) (e : ByteArray) (k : Int) : Int := (alGet ((alGet S e).getD ([], [])).1 k).getD 0

theorem cntOf_step (S : HS) (i : Nat) (f : FactD) (e : ByteArray) (k : Int) : cntOf (histStep S i f) e k = cntOf S e k + if f.kind = k ∧ f.event = e then 1 else 0 := by
  unfold cntOf histStep
  rw [alGet_set]
  by_cases he : f.event = e
  · subst he
    simp only [if_true, Option.getD_some, and_true]
    rw [alGet_set]
    by_cases hk : f.kind = k
    · subst hk; simp
    · simp [hk]
  · simp [he]

theorem atOf_step (S : HS) (i : Nat) (f : FactD) (e : ByteArray) (k : Int) : atOf (histStep S i f) e k = if (f.kind = k ∧ f.event = e) ∧ cntOf S e k = 0 then (i : Int) else atOf S e k := by
  unfold atOf cntOf histStep
  rw [alGet_set]
  by_cases he : f.event = e
  · subst he
    simp only [if_true, Option.getD_some, and_true]
    by_cases hk : f.kind = k
    · subst hk
      by_cases hc : (alGet ((alGet S f.event).getD ([], [])).2 f.kind).getD 0 = 0
      · simp [hc, alGet_set]
      · simp [hc]
    · split
      · rw [alGet_set]; simp [hk]
      · simp [hk]
  · simp [he]

theorem cntOf_hist (l : List FactD) (e : ByteArray) (k : Int) : ∀ n, n ≤ l.length → cntOf (hist l n) e k = countN (l.take n) k e := by
  intro n
  induction n with
  | zero => intro _; simp [hist, cntOf, alGet, countN]
  | succ n ih =>
    intro h
    rw [hist_succ (by omega), cntOf_step, ih (by omega), countN_snoc l n (by omega)]
    split <;> simp

theorem countN_pos (l : List FactD) (k : Int) (e : ByteArray) : ∀ n, (countN l k e = 0 ↔ firstN l k e n < 0) := by
  induction l with
  | nil => intro n; simp [countN, firstN]
  | cons f r ih =>
    intro n
    unfold countN firstN
    by_cases h : f.kind = k ∧ f.event = e
    · rw [if_pos h, if_pos h]; omega
    · rw [if_neg h, if_neg h, ← ih (n + 1)]; omega

theorem firstN_append (l r : List FactD) (k : Int) (e : ByteArray) : ∀ n, firstN (l ++ r) k e n = if firstN l k e n < 0 then firstN r k e (n + l.length) else firstN l k e n := by
  induction l with
  | nil => intro n; simp [firstN]
  | cons f t ih =>
    intro n
    simp only [List.cons_append, firstN]
    split
    · rw [if_neg (by omega)]
    · rw [ih (n + 1)]; simp only [List.length_cons]
      rw [show n + 1 + t.length = n + (t.length + 1) by omega]

theorem atOf_hist (l : List FactD) (e : ByteArray) (k : Int) : ∀ n, n ≤ l.length → atOf (hist l n) e k = if firstN (l.take n) k e 0 < 0 then 0 else firstN (l.take n) k e 0 := by
  intro n
  induction n with
  | zero => intro _; simp [hist, atOf, alGet, firstN]
  | succ n ih =>
    intro h
    rw [hist_succ (by omega), atOf_step, ih (by omega), cntOf_hist l e k n (by omega)]
    have hc := countN_pos (l.take n) k e 0
    have hln : (l.take n).length = n := by rw [List.length_take]; omega
    rw [List.take_succ_eq_append_getElem (show n < l.length by omega), firstN_append, hln, Nat.zero_add]
    by_cases h1 : firstN (l.take n) k e 0 < 0
    · have h0 := hc.2 h1
      rw [if_pos h1, h0]
      by_cases h2 : l[n].kind = k ∧ l[n].event = e
      · simp only [h2, firstN, and_self, if_true, Int.ofNat_zero]
        rw [if_neg (by omega)]; simp; intro hh; omega
      · simp only [firstN, if_neg h2]
        simp [h1]
        intro a b; exact absurd ⟨a, b⟩ h2
    · have h0 : countN (l.take n) k e ≠ 0 := fun hh => h1 (hc.1 hh)
      have h0' : ¬ ((countN (l.take n) k e : Int) = 0) := by omega
      simp only [if_neg h1]; rw [if_neg (fun hh => h0' hh.2)]

theorem hist_mem (l : List FactD) (e : ByteArray) : ∀ n, n ≤ l.length → ((alGet (hist l n) e).isSome = true ↔ ∃ f ∈ l.take n, f.event = e) := by
  intro n
  induction n with
  | zero => intro _; simp [hist, alGet]
  | succ n ih =>
    intro h
    rw [hist_succ (by omega), List.take_succ_eq_append_getElem (show n < l.length by omega)]
    unfold histStep
    rw [alGet_set]
    have := ih (by omega)
    simp only [List.mem_append, List.mem_singleton, or_and_right, exists_or, exists_eq_left]
    by_cases he : l[n].event = e
    · simp only [if_pos he, Option.isSome_some, true_iff]; exact .inr he
    · simp only [if_neg he, this]
      exact ⟨.inl, fun hh => hh.resolve_right he⟩

/-- The keys of the histories are the events, each at its first occurrence. -/
theorem hist_keys (l : List FactD) : ∀ n, n ≤ l.length → (hist l n).map (·.1) = selN l (fun _ => true) n := by
  intro n
  induction n with
  | zero => intro _; rfl
  | succ n ih =>
    intro h
    have hlt : n < l.length := by omega
    rw [hist_succ hlt]
    unfold histStep
    rw [alSet_keys, ih (by omega)]
    have hm := hist_mem l l[n].event n (by omega)
    cases hf : freshB l n with
    | true =>
      rw [selN_yes hlt hf rfl, if_neg]
      intro hs
      obtain ⟨f, hf1, hf2⟩ := hm.1 hs
      rw [freshB_eq l n hlt, List.all_eq_true] at hf
      exact (by simpa using hf f hf1 : ¬ f.event = l[n].event) hf2
    | false =>
      rw [selN_no hlt (by rw [hf]; rfl), if_pos]
      rw [freshB_eq l n hlt, List.all_eq_false] at hf
      obtain ⟨f, hf1, hf2⟩ := hf
      exact hm.2 ⟨f, hf1, by simpa using hf2⟩

theorem selN_filter (l : List FactD) (p : ByteArray → Bool) : ∀ n, (selN l (fun _ => true) n).filter p = selN l p n
  | 0 => rfl
  | n + 1 => by
    unfold selN
    rw [List.filter_append, selN_filter l p n]
    congr 1
    split
    · rename_i f _
      cases freshB l n <;> cases hp : p f.event <;> simp [hp]
    · rfl

def absH (hs : List (ByteArray × HR)) : HS := hs.map fun p => (p.1, (p.2.am, p.2.cm))

theorem absH_get (hs : List (ByteArray × HR)) (e : ByteArray) : alGet (absH hs) e = (alGet hs e).map fun r => (r.am, r.cm) := alGet_map hs (fun r : HR => (r.am, r.cm)) e
theorem absH_set (hs : List (ByteArray × HR)) (e : ByteArray) (r : HR) : absH (alSet hs e r) = alSet (absH hs) e (r.am, r.cm) := alSet_map hs (fun r : HR => (r.am, r.cm)) e r

theorem alSet_twice {α β : Type} [DecidableEq α] (l : List (α × β)) (a : α) (x y : β) : alSet (alSet l a x) a y = alSet l a y := by
  induction l with
  | nil => simp [alSet]
  | cons p r ih =>
    obtain ⟨k, v⟩ := p
    by_cases h : k = a
    · simp only [alSet, if_pos h]
    · simp only [alSet, if_neg h, ih]

/-- A round of the histories at an event that has been before. -/
theorem abs_old {l : List FactD} {n : Nat} (hn : n < l.length) {hs : List (ByteArray × HR)} (h : absH hs = hist l n) {r : HR} (hr : alGet hs l[n].event = some r) {am cm : IM}
    (ha : am = if (alGet r.cm l[n].kind).getD 0 = 0 then alSet r.am l[n].kind (n : Int) else r.am) (hc : cm = alSet r.cm l[n].kind ((alGet r.cm l[n].kind).getD 0 + 1)) :
    absH (alSet hs l[n].event ⟨r.ab, r.cb, am, cm⟩) = hist l (n + 1) := by
  rw [absH_set, hist_succ hn, h]
  unfold histStep
  rw [← h, absH_get, hr]
  simp only [Option.map_some, Option.getD_some]
  rw [ha, hc]

/-- A round of the histories at a new event. -/
theorem abs_new {l : List FactD} {n : Nat} (hn : n < l.length) {hs : List (ByteArray × HR)} (h : absH hs = hist l n) (hr : alGet hs l[n].event = none) (a c : Nat) :
    absH (hs ++ [(l[n].event, ⟨a, c, [(l[n].kind, (n : Int))], [(l[n].kind, 1)]⟩)]) = hist l (n + 1) := by
  rw [hist_succ hn, ← h]
  unfold histStep
  have hr2 : alGet (absH hs) l[n].event = none := by rw [absH_get, hr]; rfl
  rw [hr2, alSet_none _ _ _ hr2]
  simp [absH, alGet, alSet]
end Go.Proofs.YtcnmdhdoiekfoaaDoor
