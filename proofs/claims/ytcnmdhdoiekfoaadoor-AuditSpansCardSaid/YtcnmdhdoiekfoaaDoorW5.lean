/- The program's histories: what the maps hold (plain part and memory part). -/
import Derived.Test.YtcnmdhdoiekfoaaDoorW1
namespace Go.Proofs.YtcnmdhdoiekfoaaDoor
open Go.RowKit

abbrev IM := List (Int × Int)

/-- What the histories of events hold: for each event, where the first fact of each kind is, and how many there are. -/
def histStep (S : List (ByteArray × (IM × IM))) (i : Nat) (f : FactD) : List (ByteArray × (IM × IM)) :=
  alSet S f.event
    (if (alGet ((alGet S f.event).getD ([], [])).2 f.kind).getD 0 = 0 then alSet ((alGet S f.event).getD ([], [])).1 f.kind i else ((alGet S f.event).getD ([], [])).1,
     alSet ((alGet S f.event).getD ([], [])).2 f.kind ((alGet ((alGet S f.event).getD ([], [])).2 f.kind).getD 0 + 1))

def hist (l : List FactD) : Nat → List (ByteArray × (IM × IM))
  | 0 => []
  | n + 1 => match l[n]? with | some f => histStep (hist l n) n f | none => hist l n

theorem hist_succ {l : List FactD} {n : Nat} (h : n < l.length) : hist l (n + 1) = histStep (hist l n) n l[n] := by simp [hist, h]

theorem hist_len (l : List FactD) : ∀ n, (hist l n).length ≤ n
  | 0 => by simp [hist]
  | n + 1 => by
    have := hist_len l n
    unfold hist
    split
    · unfold histStep; have h2 := alSet_length_le (hist l n); exact Nat.le_trans (h2 _ _) (by omega)
    · omega

structure HR where
  ab : Nat
  cb : Nat
  am : IM
  cm : IM

/-- A history as a value: two maps. -/
def hv (p : Option Nat × Option Nat) : Value := .agg #[.map p.1, .map p.2]

def HistW (w : World) (B o : Nat) (hs : List (ByteArray × HR)) : Prop :=
  MapAt w o Value.string hv (hs.map fun p => (p.1, (some p.2.ab, some p.2.cb))) ∧ B ≤ o ∧
  (∀ p ∈ hs, MapAt w p.2.ab (Value.int .i64) (Value.int .i64) p.2.am ∧ MapAt w p.2.cb (Value.int .i64) (Value.int .i64) p.2.cm ∧ B ≤ p.2.ab ∧ B ≤ p.2.cb) ∧
  (o :: hs.flatMap fun p => [p.2.ab, p.2.cb]).Nodup

theorem HistW.keep {w w' : World} {B o : Nat} {hs : List (ByteArray × HR)} (h : HistW w B o hs) (hk : ∀ b, b ∈ (o :: hs.flatMap fun p => [p.2.ab, p.2.cb]) → b < w.heap.size → w'.heap[b]? = w.heap[b]?) : HistW w' B o hs := by
  obtain ⟨h1, h2, h3, h4⟩ := h
  refine ⟨h1.keep (hk _ (by simp) h1.lt), h2, fun p hp => ?_, h4⟩
  obtain ⟨a1, a2, a3, a4⟩ := h3 p hp
  refine ⟨a1.keep (hk _ ?_ a1.lt), a2.keep (hk _ ?_ a2.lt), a3, a4⟩
  · exact List.mem_cons_of_mem _ (List.mem_flatMap.2 ⟨p, hp, by simp⟩)
  · exact List.mem_cons_of_mem _ (List.mem_flatMap.2 ⟨p, hp, by simp⟩)

theorem HistW.below {w w' : World} {B o : Nat} {hs : List (ByteArray × HR)} (h : HistW w B o hs) (hb : Below w.heap.size w w') : HistW w' B o hs :=
  h.keep fun b _ hb' => hb.block b hb'
theorem HistW.alloc {w : World} {B o : Nat} {hs : List (ByteArray × HR)} (h : HistW w B o hs) (x : Obj) : HistW (w.alloc x) B o hs := h.below ((Below.refl _ _).alloc (Nat.le_refl _) x)

theorem HistW.is_map {w : World} {B o : Nat} {hs : List (ByteArray × HR)} (h : HistW w B o hs) {b : Nat} (hb : b ∈ (o :: hs.flatMap fun p => [p.2.ab, p.2.cb])) : ∃ es c, w.heap[b]? = some (.map es c) := by
  obtain ⟨h1, h2, h3, h4⟩ := h
  rcases List.mem_cons.1 hb with rfl | hb
  · obtain ⟨es, c, h, _⟩ := h1; exact ⟨es, c, h⟩
  · obtain ⟨p, hp, hpb⟩ := List.mem_flatMap.1 hb
    obtain ⟨⟨es, c, a1, _⟩, ⟨es', c', a2, _⟩, _⟩ := h3 p hp
    simp only [List.mem_cons, List.not_mem_nil, or_false] at hpb
    rcases hpb with rfl | rfl
    · exact ⟨es, c, a1⟩
    · exact ⟨es', c', a2⟩

/-- A row of cells of the call's own turns: the histories stand. -/
theorem HistW.own_grown {w w' : World} {B o : Nat} {hs : List (ByteArray × HR)} (h : HistW w B o hs) {base : Nat} {e : TypeId} {size n : Nat} {v : Value} {xs : List Value} (hown : w.ownsRow base e size v n xs) (hg : w.grownBy w' v.ownBlock) : HistW w' B o hs := by
  refine h.keep fun b hb hlt => hg.block b hlt ?_
  intro he
  obtain ⟨es, c, hm⟩ := h.is_map hb
  rcases hown.2 with ⟨rfl, _⟩ | ⟨g, cap, cur, rfl, _, hh, _⟩
  · cases he
  · have : b = g := by simpa [Value.ownBlock] using he
    subst this
    rw [hm] at hh; cases hh

theorem nodup_mid {l1 l2 : List Nat} {a c : Nat} (h : (l1 ++ ([a, c] ++ l2)).Nodup) : a ≠ c ∧ ∀ b, b ∈ l1 ∨ b ∈ l2 → b ≠ a ∧ b ≠ c := by
  rw [List.nodup_append] at h
  obtain ⟨_, h2, h3⟩ := h
  rw [List.nodup_append] at h2
  obtain ⟨h4, _, h5⟩ := h2
  refine ⟨by simpa using h4, fun b hb => ?_⟩
  rcases hb with hb | hb
  · exact ⟨h3 b hb a (by simp), h3 b hb c (by simp)⟩
  · exact ⟨fun e => h5 a (by simp) b hb e.symm, fun e => h5 c (by simp) b hb e.symm⟩

theorem hist_apart {o : Nat} {l1 l2 : List (ByteArray × HR)} {e : ByteArray} {r : HR} (h : (o :: (l1 ++ (e, r) :: l2).flatMap fun p => [p.2.ab, p.2.cb]).Nodup) :
    r.ab ≠ r.cb ∧ o ≠ r.ab ∧ o ≠ r.cb ∧ ∀ p, p ∈ l1 ∨ p ∈ l2 → p.2.ab ≠ r.ab ∧ p.2.ab ≠ r.cb ∧ p.2.cb ≠ r.ab ∧ p.2.cb ≠ r.cb := by
  have h' : ((o :: l1.flatMap fun p => [p.2.ab, p.2.cb]) ++ ([r.ab, r.cb] ++ l2.flatMap fun p => [p.2.ab, p.2.cb])).Nodup := by simpa using h
  obtain ⟨h1, h2⟩ := nodup_mid h'
  refine ⟨h1, (h2 o (by simp)).1, (h2 o (by simp)).2, fun p hp => ?_⟩
  have m : ∀ b, b ∈ [p.2.ab, p.2.cb] → b ≠ r.ab ∧ b ≠ r.cb := fun b hb => h2 b (by
    rcases hp with hp | hp
    · exact .inl (List.mem_cons_of_mem _ (List.mem_flatMap.2 ⟨p, hp, hb⟩))
    · exact .inr (List.mem_flatMap.2 ⟨p, hp, hb⟩))
  exact ⟨(m p.2.ab (by simp)).1, (m p.2.ab (by simp)).2, (m p.2.cb (by simp)).1, (m p.2.cb (by simp)).2⟩

theorem HistW.get {w : World} {B o : Nat} {hs : List (ByteArray × HR)} (h : HistW w B o hs) {e : ByteArray} {r : HR} (hr : alGet hs e = some r) :
    MapAt w r.ab (Value.int .i64) (Value.int .i64) r.am ∧ MapAt w r.cb (Value.int .i64) (Value.int .i64) r.cm ∧ B ≤ r.ab ∧ B ≤ r.cb ∧ r.ab ≠ r.cb ∧ o ≠ r.ab ∧ o ≠ r.cb := by
  obtain ⟨h1, h2, h3, h4⟩ := h
  obtain ⟨l1, l2, rfl, _⟩ := al_split hs e r hr
  obtain ⟨a1, a2, a3, a4⟩ := h3 (e, r) (by simp)
  obtain ⟨n1, n2, n3, _⟩ := hist_apart h4
  exact ⟨a1, a2, a3, a4, n1, n2, n3⟩

/-- The first map of one event turns. -/
theorem HistW.set_at {w w' : World} {B o : Nat} {hs : List (ByteArray × HR)} (h : HistW w B o hs) {e : ByteArray} {r : HR} (hr : alGet hs e = some r) {am : IM} (hm : MapAt w' r.ab (Value.int .i64) (Value.int .i64) am) (hg : w.grownBy w' (some r.ab)) :
    HistW w' B o (alSet hs e { r with am := am }) := by
  have hget := h.get hr
  obtain ⟨h1, h2, h3, h4⟩ := h
  obtain ⟨l1, l2, rfl, hset⟩ := al_split hs e r hr
  rw [hset]
  obtain ⟨g1, g2, g3, g4, g5, g6, g7⟩ := hget
  obtain ⟨_, _, _, hap⟩ := hist_apart h4
  refine ⟨?_, h2, ?_, by simpa using h4⟩
  · have := h1.grown hg (by intro he; exact g6 (by simpa using he))
    simpa using this
  · intro p hp
    simp only [List.mem_append, List.mem_cons] at hp
    by_cases hpe : p = (e, { r with am := am })
    · subst hpe
      exact ⟨hm, g2.grown hg (fun he => g5 (by simpa using he.symm)), g3, g4⟩
    · have hp2 : p ∈ l1 ∨ p ∈ l2 := by
        rcases hp with hp | hp | hp
        · exact .inl hp
        · exact absurd hp hpe
        · exact .inr hp
      obtain ⟨a1, a2, a3, a4⟩ := h3 p (by rcases hp2 with h | h <;> simp [h])
      obtain ⟨n1, _, n3, _⟩ := hap p hp2
      exact ⟨a1.grown hg (fun he => n1 (by simpa using he)), a2.grown hg (fun he => n3 (by simpa using he)), a3, a4⟩

/-- The second map of one event turns. -/
theorem HistW.set_count {w w' : World} {B o : Nat} {hs : List (ByteArray × HR)} (h : HistW w B o hs) {e : ByteArray} {r : HR} (hr : alGet hs e = some r) {cm : IM} (hm : MapAt w' r.cb (Value.int .i64) (Value.int .i64) cm) (hg : w.grownBy w' (some r.cb)) :
    HistW w' B o (alSet hs e { r with cm := cm }) := by
  have hget := h.get hr
  obtain ⟨h1, h2, h3, h4⟩ := h
  obtain ⟨l1, l2, rfl, hset⟩ := al_split hs e r hr
  rw [hset]
  obtain ⟨g1, g2, g3, g4, g5, g6, g7⟩ := hget
  obtain ⟨_, _, _, hap⟩ := hist_apart h4
  refine ⟨?_, h2, ?_, by simpa using h4⟩
  · have := h1.grown hg (by intro he; exact g7 (by simpa using he))
    simpa using this
  · intro p hp
    simp only [List.mem_append, List.mem_cons] at hp
    by_cases hpe : p = (e, { r with cm := cm })
    · subst hpe
      exact ⟨g1.grown hg (fun he => g5 (by simpa using he)), hm, g3, g4⟩
    · have hp2 : p ∈ l1 ∨ p ∈ l2 := by
        rcases hp with hp | hp | hp
        · exact .inl hp
        · exact absurd hp hpe
        · exact .inr hp
      obtain ⟨a1, a2, a3, a4⟩ := h3 p (by rcases hp2 with h | h <;> simp [h])
      obtain ⟨_, n2, _, n4⟩ := hap p hp2
      exact ⟨a1.grown hg (fun he => n2 (by simpa using he)), a2.grown hg (fun he => n4 (by simpa using he)), a3, a4⟩

/-- A new event comes: two new maps, and the map of the events turns. -/
theorem HistW.add {w w0 w' : World} {B o : Nat} {hs : List (ByteArray × HR)} (h : HistW w B o hs) {e : ByteArray} (hr : alGet hs e = none) {a c : Nat} (hb : Below w.heap.size w w0) (_hB : B ≤ w.heap.size)
    (ha : w.heap.size ≤ a) (hc : w.heap.size ≤ c) (hac : a ≠ c) (ma : MapAt w0 a (Value.int .i64) (Value.int .i64) ([] : IM)) (mc : MapAt w0 c (Value.int .i64) (Value.int .i64) ([] : IM))
    (mo : MapAt w' o Value.string hv (alSet (hs.map fun p => (p.1, (some p.2.ab, some p.2.cb))) e (some a, some c))) (hg : w0.grownBy w' (some o)) :
    HistW w' B o (hs ++ [(e, ⟨a, c, [], []⟩)]) := by
  have h0 := h
  obtain ⟨h1, h2, h3, h4⟩ := h
  have hlo : o < w.heap.size := h1.lt
  have hne : ∀ k, k ∈ (o :: hs.flatMap fun p => [p.2.ab, p.2.cb]) → k < w.heap.size := fun k hk => by
    obtain ⟨es, cl, hm⟩ := h0.is_map hk
    exact lt_of_block hm
  refine ⟨?_, h2, ?_, ?_⟩
  · have hn : alGet (hs.map fun p => (p.1, (some p.2.ab, some p.2.cb))) e = none := by
      rw [alGet_map hs (fun r => (some r.ab, some r.cb)), hr]; rfl
    rw [alSet_none _ _ _ hn] at mo
    simpa using mo
  · intro p hp
    rcases List.mem_append.1 hp with hp | hp
    · obtain ⟨a1, a2, a3, a4⟩ := h3 p hp
      have m1 : p.2.ab ∈ (hs.flatMap fun p => [p.2.ab, p.2.cb]) := List.mem_flatMap.2 ⟨p, hp, by simp⟩
      have m2 : p.2.cb ∈ (hs.flatMap fun p => [p.2.ab, p.2.cb]) := List.mem_flatMap.2 ⟨p, hp, by simp⟩
      obtain ⟨hno, _⟩ := List.nodup_cons.1 h4
      refine ⟨(a1.below' hb).grown hg (fun he => hno ?_), (a2.below' hb).grown hg (fun he => hno ?_), a3, a4⟩
      · have : p.2.ab = o := by simpa using he
        rw [← this]; exact m1
      · have : p.2.cb = o := by simpa using he
        rw [← this]; exact m2
    · simp only [List.mem_singleton] at hp
      subst hp
      exact ⟨ma.grown hg (fun he => by have : a = o := by simpa using he
                                       omega), mc.grown hg (fun he => by have : c = o := by simpa using he
                                                                         omega), by show B ≤ a; omega, by show B ≤ c; omega⟩
  · rw [List.flatMap_append, ← List.cons_append, List.nodup_append]
    refine ⟨h4, by simp [hac], fun x hx y hy => ?_⟩
    have := hne x hx
    simp only [List.flatMap_cons, List.flatMap_nil, List.append_nil, List.mem_cons, List.not_mem_nil, or_false] at hy
    rcases hy with rfl | rfl <;> omega
end Go.Proofs.YtcnmdhdoiekfoaaDoor
