/- Code: depths, what the walks of both sides carry; in plain Lean but for the blocks in memory. The machine that runs, in memory: the executor's block, frames, stacks, requests. -/
import Derived.Test.YtmljohbialacfaaGreatDoorGK8
import Derived.Test.YtmljohbialacfaaGreatDoorGD6
import Derived.Deep.OwnRows
import Derived.Test.YtmljohbialacfaaGreatDoorGC10
import Derived.Test.YtmljohbialacfaaGreatDoorGC6
set_option linter.unusedVariables false
set_option linter.unusedSimpArgs false
namespace Go.Proofs.YtmljohbialacfaaGreatDoor
open Go.RowKit
set_option maxRecDepth 100000
/-- A function whose instructions are well-formed. -/
def GoodF (c : CodeD) (f : FnD) : Prop := FnSmall f ∧ f.fin.toNat ≤ c.ins.length ∧ ∀ k, f.entry.toNat ≤ k → k < f.fin.toNat → ∃ i, c.ins[k]? = some i ∧ FormedP c.fns.length f i ∧ (k + 1 = f.fin.toNat → i.op = 20 ∨ i.op = 13)
def AllSmall (c : CodeD) : Prop := ∀ f ∈ c.fns, FnSmall f
theorem lookL_bd {l : List (List UInt8 × Int)} (hl : ∀ p ∈ l, 0 ≤ p.2 ∧ p.2 ≤ 3) {s : ByteArray} {n : Int} (h : lookL l s = some n) : 0 ≤ n ∧ n ≤ 3 := by
 unfold lookL at h
 induction l with
 | nil => simp at h
 | cons p r ih =>
  obtain ⟨k, v⟩ := p
  simp only [List.lookup] at h
  split at h
  ·injection h with h
   have := hl (k, v) (by simp)
   dsimp only at this
   omega
  ·exact ih (fun p hp => hl p (by simp [hp])) h
theorem pop_bd {c : CodeD} {f : FnD} {i : InsD} (hc : AllSmall c) (h : FormedP c.fns.length f i) : 0 ≤ popF c i ∧ popF c i ≤ 64 := by
 obtain ⟨h1, ho, _, _⟩ := h
 obtain ⟨_, _, _, _, h11, h12, _, h17, h18, h19⟩ := ho
 unfold popF
 split
 ·omega
 split
 ·omega
 split
 ·rename_i h
  rcases h with h | h | h | h
  ·have := h11 h; omega
  ·have := h12 h; omega
  ·have := lookL_bd (by decide) (h18 h); omega
  ·have := lookL_bd (by decide) (h19 h); omega
 split
 ·rename_i h
  have h2 := h17 h
  split
  ·rename_i f' hf'
   have := hc f' (List.mem_of_getElem? hf')
   have := this.1
   omega
  ·omega
 ·omega
theorem push_bd (op : Int) : 0 ≤ pushF op ∧ pushF op ≤ 2 := by
 unfold pushF
 split
 ·omega
 split <;> omega
theorem pops_p {c : CodeD} {f : FnD} {i : InsD} (h : FormedP c.fns.length f i) : PopsP c i := ⟨h.1, fun e => h.2.1.2.2.2.2.2.2.2.1 e⟩
theorem jump_in {c : CodeD} {f : FnD} {i : InsD} (h : FormedP c.fns.length f i) (e : i.op = 13 ∨ i.op = 14) : f.entry ≤ i.a ∧ i.a < f.fin := h.2.1.2.2.2.2.2.2.1 e
theorem suc_in {c : CodeD} {f : FnD} (hg : GoodF c f) {k : Nat} {i : InsD} (h1 : f.entry.toNat ≤ k) (h2 : k < f.fin.toNat) (hi : c.ins[k]? = some i) : ∀ m ∈ sucF i k, f.entry.toNat ≤ m ∧ m < f.fin.toNat := by
 obtain ⟨hs, _, h3⟩ := hg
 obtain ⟨i', hi', hf, hl⟩ := h3 k h1 h2
 rw [hi] at hi'
 injection hi' with hi'
 subst hi'
 have he := hs.2.2
 intro m hm
 have hnext : i.op ≠ 20 → i.op ≠ 13 → k + 1 < f.fin.toNat := fun a b => by
  by_cases e : k + 1 = f.fin.toNat
  ·have := hl e; omega
  ·omega
 unfold sucF at hm
 split at hm
 ·cases hm
 rename_i n20
 split at hm
 ·rename_i h13
  have := jump_in hf (.inl h13)
  simp at hm
  omega
 rename_i n13
 split at hm
 ·rename_i h14
  have := jump_in hf (.inr h14)
  have := hnext n20 n13
  simp at hm
  omega
 ·have := hnext n20 n13
  simp at hm
  omega
/-- Depths are small. -/
def DBd (d : List Int) : Prop := ∀ j, -1 ≤ getD d j ∧ getD d j ≤ 64
theorem DBd.set {d : List Int} (h : DBd d) (k : Nat) (n : Int) (h1 : -1 ≤ n) (h2 : n ≤ 64) : DBd (d.set k n) := by
 intro j
 have hj := h j
 unfold getD at hj ⊢
 rw [List.getD_eq_getElem?_getD, List.getElem?_set]
 split
 ·split
  ·simp; omega
  ·simp
 ·rw [← List.getD_eq_getElem?_getD]; exact hj
theorem getD_set (d : List Int) (k j : Nat) (n : Int) (hk : k < d.length) : getD (d.set k n) j = if k = j then n else getD d j := by
 unfold getD
 rw [List.getD_eq_getElem?_getD, List.getElem?_set]
 by_cases e : k = j
 ·subst e; simp [hk]
 ·simp [e, List.getD_eq_getElem?_getD]
theorem getD_lt (d : List Int) (k : Nat) (hk : k < d.length) : getD d k = d[k] := by
 unfold getD
 rw [List.getD_eq_getElem?_getD, List.getElem?_eq_getElem hk]
 rfl
theorem done_lt (l : List Bool) (k : Nat) (hk : k < l.length) : l.getD k false = l[k] := by
 rw [List.getD_eq_getElem?_getD, List.getElem?_eq_getElem hk]
 rfl
theorem setS_len (n : Int) : ∀ (l : List Nat) (d : List Int), (setS n l d).2.length = d.length
 | [], d => rfl
 | k :: r, d => by
  simp only [setS]
  split
  ·rfl
  ·rw [setS_len n r]; simp
theorem setS_cons (n : Int) (k : Nat) (r : List Nat) (d : List Int) : setS n (k :: r) d = if 0 ≤ getD d k ∧ getD d k ≠ n then (some k, d) else setS n r (d.set k n) := rfl
/-- The depths in memory. -/
def DepAt (w : World) (b : Nat) (d : List Int) : Prop := ∃ cells : Array Value, Blk w b 3 cells ∧ ∀ i (h : i < d.length), cells[i]? = some (.int .i64 d[i])
theorem DepAt.cell {w : World} {b : Nat} {d : List Int} (h : DepAt w b d) {k : Nat} (hk : k < d.length) : w.cell? ⟨b, k, none⟩ = some (.int .i64 d[k]) := by
 obtain ⟨cells, h1, h2⟩ := h
 exact h1.cell k _ (h2 k hk)
theorem DepAt.frozen {w : World} {b : Nat} {d : List Int} (h : DepAt w b d) (k : Nat) : w.frozen? ⟨b, k, none⟩ = false := by
 obtain ⟨cells, h1, _⟩ := h
 exact h1.frozen k
theorem DepAt.below {w w' : World} {b : Nat} {d : List Int} (h : DepAt w b d) (hb : Below w.heap.size w w') : DepAt w' b d := by
 obtain ⟨cells, h1, h2⟩ := h
 exact ⟨cells, h1.below hb, h2⟩
theorem DepAt.set {w : World} {b : Nat} {d : List Int} (h : DepAt w b d) (k : Nat) (n : Int) : DepAt (w.setCell ⟨b, k, none⟩ (.int .i64 n)) b (d.set k n) := by
 obtain ⟨cells, h1, h2⟩ := h
 refine ⟨_, h1.set_ k (.int .i64 n), fun i hi => ?_⟩
 have hi' : i < d.length := by simpa using hi
 have hc : i < cells.size := by
  have := h2 i hi'
  exact (Array.getElem?_eq_some_iff.1 this).1
 rw [Array.getElem?_setIfInBounds]
 rw [List.getElem_set]
 by_cases e : k = i
 ·subst e; simp [hc]
 ·rw [if_neg e, if_neg e]; exact h2 i hi'
theorem DepAt.far {w : World} {b : Nat} {d : List Int} (h : DepAt w b d) {p : Addr} (hp : b ≠ p.block) (u : Value) : DepAt (w.setCell p u) b d := by
 obtain ⟨cells, h1, h2⟩ := h
 exact ⟨cells, h1.far hp u, h2⟩
/-- Flags in memory. -/
def FlagAt (w : World) (b : Nat) (l : List Bool) : Prop := Blk w b 4 (l.map Value.bool).toArray
theorem FlagAt.cell {w : World} {b : Nat} {l : List Bool} (h : FlagAt w b l) {k : Nat} (hk : k < l.length) : w.cell? ⟨b, k, none⟩ = some (.bool l[k]) := Blk.cell h k _ (by simp [hk])
theorem FlagAt.set {w : World} {b : Nat} {l : List Bool} (h : FlagAt w b l) (k : Nat) (v : Bool) : FlagAt (w.setCell ⟨b, k, none⟩ (.bool v)) b (l.set k v) := by
 have := Blk.set_ h k (.bool v)
 unfold FlagAt
 rw [List.map_set]
 simpa using this
/-- Where the walks over the depths stand. -/
structure FSt (w wr : World) (c0 c1 : Array Value) (g0 g1 gd bD : Nat) (done : List Bool) (d : List Int) : Prop where
 b0 : Blk wr g0 25 c0
 b1 : Blk wr g1 55 c1
 fl : FlagAt wr gd done
 dp : DepAt wr bD d
 hg : w.grownBy wr (some bD)
theorem grown_below {w wr w' : World} {b : Nat} (h : w.grownBy wr (some b)) (hb : Below wr.heap.size wr w') : w.grownBy w' (some b) :=
 ⟨hb.os.trans h.os, hb.tape.trans h.tape, hb.output.trans h.output, Nat.le_trans h.size hb.size, fun k hk hne => (hb.block k (Nat.lt_of_lt_of_le hk h.size)).trans (h.block k hk hne)⟩
theorem grown_set {w wr : World} {b : Nat} (h : w.grownBy wr (some b)) (p : Addr) (hp : p.block = b ∨ w.heap.size ≤ p.block) (u : Value) : w.grownBy (wr.setCell p u) (some b) :=
 ⟨h.os, h.tape, h.output, by simpa using h.size, fun k hk hne => (Below.heap_setCell wr p u k (fun e => by rcases hp with hp | hp; (exact hne (by rw [e, hp])); omega)).trans (h.block k hk hne)⟩
theorem FSt.below {w wr w' : World} {c0 c1 : Array Value} {g0 g1 gd bD : Nat} {done : List Bool} {d : List Int} (h : FSt w wr c0 c1 g0 g1 gd bD done d) (hb : Below wr.heap.size wr w') : FSt w w' c0 c1 g0 g1 gd bD done d :=
 ⟨h.b0.below hb, h.b1.below hb, Blk.below h.fl hb, h.dp.below hb, grown_below h.hg hb⟩
theorem FSt.setD {w wr : World} {c0 c1 : Array Value} {g0 g1 gd bD : Nat} {done : List Bool} {d : List Int} (h : FSt w wr c0 c1 g0 g1 gd bD done d) (h0 : g0 ≠ bD) (h1 : g1 ≠ bD) (h2 : gd ≠ bD) (k : Nat) (n : Int) : FSt w (wr.setCell ⟨bD, k, none⟩ (.int .i64 n)) c0 c1 g0 g1 gd bD done (d.set k n) :=
 ⟨h.b0.far (p := ⟨bD, k, none⟩) h0 _, h.b1.far (p := ⟨bD, k, none⟩) h1 _, Blk.far h.fl (p := ⟨bD, k, none⟩) h2 _, h.dp.set k n, grown_set h.hg ⟨bD, k, none⟩ (.inl rfl) _⟩
theorem FSt.setF {w wr : World} {c0 c1 : Array Value} {g0 g1 gd bD : Nat} {done : List Bool} {d : List Int} (h : FSt w wr c0 c1 g0 g1 gd bD done d) (h0 : g0 ≠ gd) (h1 : g1 ≠ gd) (h2 : bD ≠ gd) (hw : w.heap.size ≤ gd) (k : Nat) (v : Bool) : FSt w (wr.setCell ⟨gd, k, none⟩ (.bool v)) c0 c1 g0 g1 gd bD (done.set k v) d :=
 ⟨h.b0.far (p := ⟨gd, k, none⟩) h0 _, h.b1.far (p := ⟨gd, k, none⟩) h1 _, FlagAt.set h.fl k v, h.dp.far (p := ⟨gd, k, none⟩) h2 _, grown_set h.hg ⟨gd, k, none⟩ (.inr hw) _⟩
theorem made_rep (z : Value) (n : Nat) : madeCells #[z] n = (List.replicate n z).toArray := by
 apply Array.ext
 ·simp [size_madeCells]
 ·intro i h1 h2
  have : (madeCells #[z] n)[i]? = some z := by
   have hi : i < n := by simpa using h2
   simp [madeCells, hi, Nat.mod_one]
  rw [Array.getElem?_eq_getElem h1] at this
  injection this with this
  rw [this]
  simp
theorem mk_boolsL (n : Nat) (hn : n ≤ 4100) (w : World) : (Instr.makeSlice 160 (.int .i64 n) (.int .i64 n)).run Tryz.prog w = .ok (.slice (some ⟨w.heap.size, 0, none⟩) n n) (w.alloc (.cells ((List.replicate n false).map Value.bool).toArray 4)) := by
 obtain ⟨i0, hi, hz0, hz1, hz2⟩ := info_parts Tryz.infoBool
 have h := run_makeSlice (P := Tryz.prog) w 160 4 i0 _ Tryz.underlying160 hi hz0 .i64 .i64 n n (by omega) (by omega) (by rw [hz1]; omega) (by rw [hz2]; omega) (by omega)
 rw [hz1] at h
 rw [Int.toNat_natCast] at h
 have e : madeCells (Value.bool false).cells (n * 1) = ((List.replicate n false).map Value.bool).toArray := by
  rw [Nat.mul_one]
  have := made_rep (.bool false) n
  simpa [Value.cells] using this
 rw [e] at h
 simpa using h
/-- How many functions' flags are not set, as the memory has them. -/
def undoneW (w : World) (g L : Nat) : Nat := (List.range L).countP fun j => match w.cell? ⟨g, j, none⟩ with | some (.bool false) => true | _ => false
theorem undone_eq {w : World} {g : Nat} {l : List Bool} (h : FlagAt w g l) : undoneW w g l.length = l.count false := by
 unfold undoneW
 have : ∀ L, L ≤ l.length → (List.range L).countP (fun j => match w.cell? ⟨g, j, none⟩ with | some (.bool false) => true | _ => false) = (l.take L).count false := by
  intro L
  induction L with
  | zero => intro _; rfl
  | succ L ih =>
   intro hL
   have hlt : L < l.length := by omega
   rw [List.range_succ, List.countP_append, ih (by omega), List.take_succ_eq_append_getElem hlt, List.count_append]
   congr 1
   simp only [List.countP_cons, List.countP_nil]
   rw [h.cell hlt]
   cases l[L] <;> simp
 have := this l.length (Nat.le_refl _)
 rwa [List.take_length] at this
theorem count_set (l : List Bool) (k : Nat) (hk : k < l.length) (hf : l[k] = false) : (l.set k true).count false + 1 = l.count false := by
 have h1 : l = l.take k ++ l[k] :: l.drop (k + 1) := by simp
 have h2 : l.set k true = l.take k ++ true :: l.drop (k + 1) := by
  rw [List.set_eq_take_append_cons_drop, if_pos hk]
 rw [h2]
 conv => rhs; rw [h1]
 rw [List.count_append, List.count_append, List.count_cons, List.count_cons, hf]
 simp
 omega
end Go.Proofs.YtmljohbialacfaaGreatDoor
namespace Go.Proofs.YtmljohbialacfaaGreatDoor
open Go.RowKit
set_option maxRecDepth 100000

/-! ### Blocks of cells stay as they are -/
def CK (w w' : World) : Prop := w.heap.size ≤ w'.heap.size ∧ ∀ (k : Nat) (cs : Array Value) (fz : Nat × Nat), w.heap[k]? = some (.cells cs 62 fz) → w'.heap[k]? = w.heap[k]?
section
variable {w w1 w' : World}
theorem CK.refl (w : World) : CK w w := ⟨Nat.le_refl _, fun _ _ _ _ => rfl⟩
theorem CK.trans (h : CK w w1) (g : CK w1 w') : CK w w' := ⟨Nat.le_trans h.1 g.1, fun k cs fz hk => by
 have h1 := h.2 k cs fz hk
 rw [← h1]
 exact g.2 k cs fz (h1.trans hk)⟩
theorem CK.of_below (h : Below w.heap.size w w') : CK w w' := ⟨h.size, fun k _ _ hk => h.block k (lt_of_block hk)⟩
theorem CK.own {base n size : Nat} {e : TypeId} {v : Value} {xs : List Value} (h : w.ownsRow base e size v n xs) (he : e ≠ 62) (hg : w.grownBy w' v.ownBlock) : CK w w' :=
 ⟨hg.size, fun k cs fz hk => hg.block k (lt_of_block hk) (fun e' => by
  rcases h.2 with ⟨rfl, _⟩ | ⟨g, cap, cur, rfl, _, hh, _⟩
  ·cases e'
  ·have : k = g := by simpa [Value.ownBlock] using e'
   subst this
   rw [hh] at hk
   injection hk with hk
   injection hk with _ ht
   exact he ht)⟩
theorem CK.blk {g : Nat} {t : TypeId} {cs : Array Value} (h : Blk w g t cs) (he : t ≠ 62) (hg : w.grownBy w' (some g)) : CK w w' :=
 ⟨hg.size, fun k cs' fz hk => hg.block k (lt_of_block hk) (fun e' => by
  have : k = g := by simpa using e'
  subst this
  unfold Blk at h
  rw [h] at hk
  injection hk with hk
  injection hk with _ ht
  exact he ht)⟩
theorem grown_setc (w : World) (g i : Nat) (u : Value) : w.grownBy (w.setCell ⟨g, i, none⟩ u) (some g) :=
 ⟨rfl, rfl, rfl, by simp, fun k _ hne => Below.heap_setCell w ⟨g, i, none⟩ u k (fun e => hne (by rw [e]))⟩
theorem grown_of_below {row : Option Nat} (hb : Below w.heap.size w w') : w.grownBy w' row := ⟨hb.os, hb.tape, hb.output, hb.size, fun k hk _ => hb.block k hk⟩
theorem own_heap {base n size : Nat} {e : TypeId} {v : Value} {xs : List Value} (h : w.ownsRow base e size v n xs) (hk : ∀ g, v.ownBlock = some g → w'.heap[g]? = w.heap[g]?) : w'.ownsRow base e size v n xs := by
 refine ⟨h.1, ?_⟩
 rcases h.2 with h' | ⟨g, cap, cur, rfl, h1, h2, h3⟩
 ·exact .inl h'
 ·exact .inr ⟨g, cap, cur, rfl, h1, (hk g rfl).trans h2, h3⟩
end

/-! ### A value in blocks of cells -/
def ValT (w : World) (v : Value) (l : ValD) : Prop := ValV w v l ∧ ∀ (b off n cap : Nat), v = .slice (some ⟨b, off, none⟩) n cap → l ≠ [] → ∃ cs fz, w.heap[b]? = some (.cells cs 62 fz)
theorem ValT.keep {w w' : World} {v : Value} {l : ValD} (h : ValT w v l) (hk : CK w w') : ValT w' v l := by
 obtain ⟨A, cap, rfl, hc, hm, hsl⟩ := h.1.at
 refine ⟨ValV.mk hc hm ?_, fun b off n cap' e hl => ?_⟩
 ·intro i row hi
  obtain ⟨b, off, rfl, hb, hcells⟩ := hsl i row hi
  have hl : l ≠ [] := by rintro rfl; simp at hi
  obtain ⟨cs, fz, ht⟩ := h.2 b off _ _ rfl hl
  have he := hk.2 b cs fz ht
  refine ⟨b, off, rfl, Nat.lt_of_lt_of_le hb hk.1, fun j u hj => ?_⟩
  rw [← hcells j u hj]
  exact World.cell?_of_block he
 ·obtain ⟨cs, fz, ht⟩ := h.2 b off n cap' e hl
  exact ⟨cs, fz, (hk.2 b cs fz ht).trans ht⟩
theorem ValT.below {w w' : World} {v : Value} {l : ValD} (h : ValT w v l) (hb : Below w.heap.size w w') : ValT w' v l := h.keep (CK.of_below hb)
theorem ValT.shape {w : World} {v : Value} {l : ValD} (h : ValT w v l) : ∃ A n cap, v = .slice A n cap := h.1.shape
theorem ValT.none (w : World) : ValT w (.slice none 0 0) [] := ⟨RowsV.nil Option.none 0, fun _ _ _ _ e => by cases e⟩
theorem OVal.valT {w : World} {base : Nat} {v : Value} {l : ValD} (h : OVal w base v l) (hm : l.length ≤ 3518437208780) : ValT w v l := by
 refine ⟨h.val hm, fun b off n cap e hl => ?_⟩
 rcases (show w.ownsRow base 62 4 v l.length _ from h).2 with ⟨rfl, _⟩ | ⟨g, cap', cur, rfl, _, hh, _⟩
 ·cases e
 ·injection e with e _ _
  injection e with e
  injection e with e _
  subst e
  exact ⟨_, _, hh⟩

/-! ### Rows of values of the call's own -/
def ValsO (w : World) (base : Nat) (v : Value) (l : List ValD) : Prop :=
 ∃ vs : List Value, w.ownsRow base 26 1 v l.length vs ∧ vs.length = l.length ∧ ∀ i (h : i < vs.length) (h' : i < l.length), ValT w vs[i] l[i]
section
variable {w w' : World} {base : Nat} {v : Value} {l : List ValD}
theorem ValsO.keep (h : ValsO w base v l) (hk : CK w w') (hb : ∀ g, v.ownBlock = some g → w'.heap[g]? = w.heap[g]?) : ValsO w' base v l := by
 obtain ⟨vs, h1, h2, h3⟩ := h
 exact ⟨vs, own_heap h1 hb, h2, fun i a b => (h3 i a b).keep hk⟩
theorem ValsO.lt (h : ValsO w base v l) {g : Nat} (hg : v.ownBlock = some g) : base ≤ g ∧ g < w.heap.size := by
 obtain ⟨vs, h1, _⟩ := h
 exact h1.lt g hg
theorem ValsO.below (h : ValsO w base v l) (hb : Below w.heap.size w w') : ValsO w' base v l := h.keep (CK.of_below hb) (fun _ hg => hb.block _ (h.lt hg).2)
theorem ValsO.rebase {base' : Nat} (h : ValsO w base v l) (hb : base' ≤ base) : ValsO w base' v l := by
 obtain ⟨vs, h1, h2, h3⟩ := h
 exact ⟨vs, own_base h1 hb, h2, h3⟩
theorem ValsO.nil (w : World) (base : Nat) : ValsO w base (.slice none 0 0) [] := ⟨[], World.ownsRow_nil _ _ _ _, rfl, fun i h => absurd h (by simp)⟩
theorem ValsO.shape (h : ValsO w base v l) : ∃ A cap, v = .slice A l.length cap := by
 obtain ⟨vs, h1, _⟩ := h
 exact own_shape h1
theorem ValsO.vals (h : ValsO w base v l) (hm : l.length ≤ 5864062014634) : ValsV w v l := by
 obtain ⟨vs, h1, h2, h3⟩ := h
 obtain ⟨A, cap, rfl⟩ := own_shape h1
 have hc : l.length ≤ cap := by
  rcases h1.2 with ⟨e, hn⟩ | ⟨g, cap', cur, e, _, _, h3, _⟩
  ·omega
  ·injection e with _ _ e; omega
 have hsl : SlAt w A 1 (fun x => [x]) vs := SlAt.of_own h1 (by induction vs with
  | nil => rfl
  | cons x r ih => simp) (fun _ => rfl) (by omega)
 refine ⟨A, cap, vs.map (fun x => [x]), rfl, hc, hm, ?_, by simpa using h2, fun i h h' => ?_⟩
 ·unfold SlAt at hsl ⊢
  rw [List.map_map]
  exact hsl
 ·rw [List.getElem_map]
  exact ⟨_, rfl, (h3 i (by simpa using h) h').1⟩
theorem ValsO.blk {g : Nat} {t : TypeId} {cs : Array Value} (h : ValsO w base v l) (hb : Blk w g t cs) (hne : t ≠ 26) : some g ≠ v.ownBlock := by
 obtain ⟨vs, h1, _⟩ := h
 exact own_ne_blk h1 hb (fun e => hne e.symm)
end

/-! ### Frames and requests -/
def rowF (p : Value × Value) (f : FrameD) : List Value := [.int .i64 f.func, .int .i64 f.pc, p.1, p.2]
def rowsF : List (Value × Value) → List FrameD → List Value
 | p :: ps, f :: fs => rowF p f ++ rowsF ps fs
 | _, _ => []
def rowQ (a : Value) (r : ReqD) : List Value := [.string r.op, a]
def rowsQ : List Value → List ReqD → List Value
 | a :: ass, r :: rs => rowQ a r ++ rowsQ ass rs
 | _, _ => []
def blocksF (LS : List (Value × Value)) : List Nat := LS.flatMap fun p => p.1.ownBlock.toList ++ p.2.ownBlock.toList
def blocksQ (avs : List Value) : List Nat := avs.flatMap fun a => a.ownBlock.toList
def ParkedO (w : World) (base : Nat) : List (Value × Value) → List FrameD → Prop
 | [], [] => True
 | p :: ps, f :: fs => (ValsO w base p.1 f.locals ∧ ValsO w base p.2 f.stack) ∧ ParkedO w base ps fs
 | _, _ => False
def ReqsO (w : World) (base : Nat) : List Value → List ReqD → Prop
 | [], [] => True
 | a :: ass, r :: rs => ValsO w base a r.args ∧ ReqsO w base ass rs
 | _, _ => False
theorem ParkedO.len {w : World} {base : Nat} : ∀ {LS : List (Value × Value)} {fs : List FrameD}, ParkedO w base LS fs → LS.length = fs.length
 | [], [], _ => rfl
 | _ :: _, _ :: _, h => by simp [ParkedO.len h.2]
 | [], _ :: _, h => h.elim
 | _ :: _, [], h => h.elim
theorem ReqsO.len {w : World} {base : Nat} : ∀ {LS : List Value} {fs : List ReqD}, ReqsO w base LS fs → LS.length = fs.length
 | [], [], _ => rfl
 | _ :: _, _ :: _, h => by simp [ReqsO.len h.2]
 | [], _ :: _, h => h.elim
 | _ :: _, [], h => h.elim
theorem rowsF_snoc {p : Value × Value} {f : FrameD} : ∀ {LS : List (Value × Value)} {fs : List FrameD}, LS.length = fs.length → rowsF (LS ++ [p]) (fs ++ [f]) = rowsF LS fs ++ rowF p f
 | [], [], _ => by simp [rowsF]
 | _ :: _, _ :: _, h => by simp only [List.cons_append, rowsF]; rw [rowsF_snoc (by simpa using h), List.append_assoc]
 | [], _ :: _, h => by simp at h
 | _ :: _, [], h => by simp at h
theorem rowsF_len : ∀ {LS : List (Value × Value)} {fs : List FrameD}, LS.length = fs.length → (rowsF LS fs).length = fs.length * 4
 | [], [], _ => rfl
 | _ :: _, _ :: fs, h => by simp only [rowsF, List.length_append, List.length_cons]; rw [rowsF_len (by simpa using h)]; simp [rowF]; omega
 | [], _ :: _, h => by simp at h
 | _ :: _, [], h => by simp at h
theorem rowsQ_snoc {p : Value} {f : ReqD} : ∀ {LS : List Value} {fs : List ReqD}, LS.length = fs.length → rowsQ (LS ++ [p]) (fs ++ [f]) = rowsQ LS fs ++ rowQ p f
 | [], [], _ => by simp [rowsQ]
 | _ :: _, _ :: _, h => by simp only [List.cons_append, rowsQ]; rw [rowsQ_snoc (by simpa using h), List.append_assoc]
 | [], _ :: _, h => by simp at h
 | _ :: _, [], h => by simp at h
theorem ParkedO.snoc {w : World} {base : Nat} {p : Value × Value} {f : FrameD} : ∀ {LS : List (Value × Value)} {fs : List FrameD}, ParkedO w base LS fs → ValsO w base p.1 f.locals → ValsO w base p.2 f.stack → ParkedO w base (LS ++ [p]) (fs ++ [f])
 | [], [], _, h1, h2 => ⟨⟨h1, h2⟩, trivial⟩
 | _ :: _, _ :: _, h, h1, h2 => ⟨h.1, ParkedO.snoc h.2 h1 h2⟩
 | [], _ :: _, h, _, _ => h.elim
 | _ :: _, [], h, _, _ => h.elim
theorem ParkedO.last {w : World} {base : Nat} {p : Value × Value} {f : FrameD} : ∀ {LS : List (Value × Value)} {fs : List FrameD}, LS.length = fs.length → ParkedO w base (LS ++ [p]) (fs ++ [f]) → ParkedO w base LS fs ∧ ValsO w base p.1 f.locals ∧ ValsO w base p.2 f.stack
 | [], [], _, h => ⟨trivial, h.1⟩
 | _ :: _, _ :: _, hl, h => ⟨⟨h.1, (ParkedO.last (by simpa using hl) h.2).1⟩, (ParkedO.last (by simpa using hl) h.2).2⟩
 | [], _ :: _, hl, _ => by simp at hl
 | _ :: _, [], hl, _ => by simp at hl
theorem ReqsO.snoc {w : World} {base : Nat} {p : Value} {f : ReqD} : ∀ {LS : List Value} {fs : List ReqD}, ReqsO w base LS fs → ValsO w base p f.args → ReqsO w base (LS ++ [p]) (fs ++ [f])
 | [], [], _, h1 => ⟨h1, trivial⟩
 | _ :: _, _ :: _, h, h1 => ⟨h.1, ReqsO.snoc h.2 h1⟩
 | [], _ :: _, h, _ => h.elim
 | _ :: _, [], h, _ => h.elim
theorem ParkedO.keep {w w' : World} {base : Nat} (hk : CK w w') : ∀ {LS : List (Value × Value)} {fs : List FrameD}, ParkedO w base LS fs → (∀ g ∈ blocksF LS, w'.heap[g]? = w.heap[g]?) → ParkedO w' base LS fs
 | [], [], _, _ => trivial
 | p :: ps, _ :: _, h, hb => ⟨⟨h.1.1.keep hk (fun g hg => hb g (by simp [blocksF, hg])), h.1.2.keep hk (fun g hg => hb g (by simp [blocksF, hg]))⟩, ParkedO.keep hk h.2 (fun g hg => hb g (by simp only [blocksF, List.flatMap_cons, List.mem_append] at hg ⊢; exact .inr hg))⟩
 | [], _ :: _, h, _ => h.elim
 | _ :: _, [], h, _ => h.elim
theorem ReqsO.keep {w w' : World} {base : Nat} (hk : CK w w') : ∀ {LS : List Value} {fs : List ReqD}, ReqsO w base LS fs → (∀ g ∈ blocksQ LS, w'.heap[g]? = w.heap[g]?) → ReqsO w' base LS fs
 | [], [], _, _ => trivial
 | p :: ps, _ :: _, h, hb => ⟨h.1.keep hk (fun g hg => hb g (by simp [blocksQ, hg])), ReqsO.keep hk h.2 (fun g hg => hb g (by simp only [blocksQ, List.flatMap_cons, List.mem_append] at hg ⊢; exact .inr hg))⟩
 | [], _ :: _, h, _ => h.elim
 | _ :: _, [], h, _ => h.elim
theorem ParkedO.mem {w : World} {base : Nat} : ∀ {LS : List (Value × Value)} {fs : List FrameD}, ParkedO w base LS fs → ∀ g ∈ blocksF LS, base ≤ g ∧ g < w.heap.size ∧ ∃ cs, Blk w g 26 cs
 | [], [], _, g, hg => by simp [blocksF] at hg
 | p :: ps, f :: fs, h, g, hg => by
  simp only [blocksF, List.flatMap_cons, List.mem_append] at hg
  have key : ∀ {v : Value} {l : List ValD}, ValsO w base v l → g ∈ v.ownBlock.toList → base ≤ g ∧ g < w.heap.size ∧ ∃ cs, Blk w g 26 cs := by
   intro v l ⟨vs, h1, _⟩ hm
   have hm' : v.ownBlock = some g := by simpa using hm
   refine ⟨(h1.lt g hm').1, (h1.lt g hm').2, ?_⟩
   rcases h1.2 with ⟨rfl, _⟩ | ⟨g', cap, cur, rfl, _, hh, _⟩
   ·cases hm'
   ·have : g' = g := by simpa [Value.ownBlock] using hm'
    subst this
    exact ⟨cur, hh⟩
  rcases hg with (hg | hg) | hg
  ·exact key h.1.1 hg
  ·exact key h.1.2 hg
  ·exact ParkedO.mem h.2 g hg
 | [], _ :: _, h, _, _ => h.elim
 | _ :: _, [], h, _, _ => h.elim
theorem ReqsO.mem {w : World} {base : Nat} : ∀ {LS : List Value} {fs : List ReqD}, ReqsO w base LS fs → ∀ g ∈ blocksQ LS, base ≤ g ∧ g < w.heap.size ∧ ∃ cs, Blk w g 26 cs
 | [], [], _, g, hg => by simp [blocksQ] at hg
 | p :: ps, f :: fs, h, g, hg => by
  simp only [blocksQ, List.flatMap_cons, List.mem_append] at hg
  rcases hg with hg | hg
  ·obtain ⟨vs, h1, _⟩ := h.1
   have hm' : p.ownBlock = some g := by simpa using hg
   refine ⟨(h1.lt g hm').1, (h1.lt g hm').2, ?_⟩
   rcases h1.2 with ⟨rfl, _⟩ | ⟨g', cap, cur, rfl, _, hh, _⟩
   ·cases hm'
   ·have : g' = g := by simpa [Value.ownBlock] using hm'
    subst this
    exact ⟨cur, hh⟩
  ·exact ReqsO.mem h.2 g hg
 | [], _ :: _, h, _, _ => h.elim
 | _ :: _, [], h, _, _ => h.elim

/-! ### The executor -/
/-- A code in memory. -/
structure CodeS where
 A : Option Addr
 B : Option Addr
 ncap : Nat
 icap : Nat
 c : CodeD
structure CodeV (w : World) (C : CodeS) : Prop where
 fns : SlAt w C.A 5 FnD.cells C.c.fns
 ins : InsV w C.B C.c.ins
theorem CodeV.below {w w' : World} {C : CodeS} (h : CodeV w C) (hb : Below w.heap.size w w') : CodeV w' C := ⟨h.fns.below hb, h.ins.below hb⟩
/-- The cells of an executor. -/
def exA (C : CodeS) (m : MachD) (vv fv qv : Value) : Array Value :=
 #[.slice C.A C.c.fns.length C.ncap, .slice C.B C.c.ins.length C.icap, .int .i64 m.status, .int .i64 m.err, vv, fv, qv, .int .i64 m.lsteps, .int .i64 m.lmem, .int .i64 m.steps, .int .i64 m.peak]
/-- All but the row of frames; fs: the frames of LS. -/
structure XP (w0 : World) (C : CodeS) (gE : Nat) (w : World) (m : MachD) (vv fv qv : Value) (LS : List (Value × Value)) (fs : List FrameD) (avs : List Value) : Prop where
 bel : Below w0.heap.size w0 w
 hE : w0.heap.size ≤ gE
 ex : Blk w gE 69 (exA C m vv fv qv)
 val : ValT w vv m.value
 fr : ParkedO w w0.heap.size LS fs
 rq : ReqsO w w0.heap.size avs m.requests
 qrow : w.ownsRow w0.heap.size 86 2 qv m.requests.length (rowsQ avs m.requests)
 nd : (blocksF LS ++ blocksQ avs).Nodup
/-- An executor with its machine. -/
structure XM (w0 : World) (C : CodeS) (gE : Nat) (w : World) (m : MachD) (vv fv qv : Value) (LS : List (Value × Value)) (avs : List Value) : Prop where
 p : XP w0 C gE w m vv fv qv LS m.frames avs
 frow : w.ownsRow w0.heap.size 74 4 fv m.frames.length (rowsF LS m.frames)
theorem blk_ne {w : World} {g g' : Nat} {t t' : TypeId} {cs cs' : Array Value} (h : Blk w g t cs) (h' : Blk w g' t' cs') (hne : t ≠ t') : g ≠ g' := by
 rintro rfl
 unfold Blk at h h'
 rw [h] at h'
 injection h' with h'
 injection h' with _ ht
 exact hne ht
section
variable {w0 w w' : World} {C : CodeS} {gE : Nat} {m : MachD} {vv fv qv : Value} {LS : List (Value × Value)} {fs : List FrameD} {avs : List Value}
/-- A block that is none of these has turned. -/
theorem XP.turn (h : XP w0 C gE w m vv fv qv LS fs avs) {row : Option Nat} (hg : w.grownBy w' row)
  (hr : ∀ g, row = some g → w0.heap.size ≤ g ∧ ∃ t cs, Blk w g t cs ∧ t ≠ 62 ∧ t ≠ 69 ∧ t ≠ 86 ∧ (t = 26 → g ∉ blocksF LS ++ blocksQ avs)) : XP w0 C gE w' m vv fv qv LS fs avs := by
 have hck : CK w w' := by
  cases row with
  | none => exact ⟨hg.size, fun k _ _ hk => hg.block k (lt_of_block hk) (by simp)⟩
  | some g => obtain ⟨_, t, cs, hb, h1, _⟩ := hr g rfl; exact CK.blk hb h1 hg
 have hC : ∀ g, (∃ cs, Blk w g 26 cs) → g ∈ blocksF LS ++ blocksQ avs → some g ≠ row := by
  rintro g ⟨cs, hb⟩ hm rfl
  obtain ⟨_, t, cs', hb', _, _, _, hn⟩ := hr g rfl
  by_cases e : t = 26
  ·exact hn e hm
  ·exact blk_ne hb' hb e rfl
 refine ⟨h.bel.grown hg h.bel.size (fun k hk => (hr k hk).1), h.hE, h.ex.grown hg ?_, h.val.keep hck, h.fr.keep hck (fun g hm => ?_), h.rq.keep hck (fun g hm => ?_), h.qrow.kept hg ?_, h.nd⟩
 ·rintro rfl
  obtain ⟨_, t, cs', hb', _, hn, _⟩ := hr gE rfl
  exact blk_ne hb' h.ex hn rfl
 ·obtain ⟨_, h2, h3⟩ := h.fr.mem g hm
  exact hg.block g h2 (hC g h3 (by simp [hm]))
 ·obtain ⟨_, h2, h3⟩ := h.rq.mem g hm
  exact hg.block g h2 (hC g h3 (by simp [hm]))
 ·by_cases e : qv.ownBlock = none
  ·exact .inl e
  ·refine .inr (fun e' => ?_)
   cases row with
   | none => exact e e'
   | some g =>
    obtain ⟨_, t, cs', hb', _, _, hn, _⟩ := hr g rfl
    exact own_ne_blk h.qrow hb' (fun e => hn e.symm) e'.symm
theorem XP.below (h : XP w0 C gE w m vv fv qv LS fs avs) (hb : Below w.heap.size w w') : XP w0 C gE w' m vv fv qv LS fs avs := h.turn (row := none) (grown_of_below hb) (fun g e => by cases e)
theorem XM.below (h : XM w0 C gE w m vv fv qv LS avs) (hb : Below w.heap.size w w') : XM w0 C gE w' m vv fv qv LS avs := ⟨h.p.below hb, own_below h.frow hb⟩
theorem XM.lt (h : XM w0 C gE w m vv fv qv LS avs) : gE < w.heap.size := lt_of_block h.p.ex
/-- The executor's block has turned, nothing else. -/
theorem XP.turnE (h : XP w0 C gE w m vv fv qv LS fs avs) (hg : w.grownBy w' (some gE)) {m' : MachD} {vv' fv' : Value} (hx : Blk w' gE 69 (exA C m' vv' fv' qv)) (hv : ValT w' vv' m'.value) (h2 : m'.requests = m.requests) : XP w0 C gE w' m' vv' fv' qv LS fs avs := by
 have hck : CK w w' := CK.blk h.ex (by decide) hg
 refine ⟨h.bel.grown hg h.bel.size (fun k hk => by injection hk with hk; have := h.hE; omega), h.hE, hx, hv, h.fr.keep hck (fun g hm => ?_), h2 ▸ h.rq.keep hck (fun g hm => ?_), h2 ▸ h.qrow.kept hg ?_, h.nd⟩
 ·obtain ⟨_, h2, cs, h3⟩ := h.fr.mem g hm
  exact hg.block g h2 (fun e => blk_ne h3 h.ex (by decide) (by simpa using e))
 ·obtain ⟨_, h2, cs, h3⟩ := h.rq.mem g hm
  exact hg.block g h2 (fun e => blk_ne h3 h.ex (by decide) (by simpa using e))
 ·exact .inr (fun e => own_ne_blk h.qrow h.ex (by decide) e.symm)
theorem XM.ck (h : XP w0 C gE w m vv fv qv LS fs avs) (j : Nat) (u : Value) : CK w (w.setCell ⟨gE, j, none⟩ u) := CK.blk h.ex (by decide) (grown_setc w gE j u)
/-- A field of the executor is set: the frames and the requests stay. -/
theorem XM.setE (h : XM w0 C gE w m vv fv qv LS avs) (j : Nat) (u : Value) (m' : MachD) (vv' : Value) (hc : (exA C m vv fv qv).setIfInBounds j u = exA C m' vv' fv qv) (hv : ∀ wx, CK w wx → ValT wx vv' m'.value) (h1 : m'.frames = m.frames) (h2 : m'.requests = m.requests) :
  XM w0 C gE (w.setCell ⟨gE, j, none⟩ u) m' vv' fv qv LS avs := by
 have hg := grown_setc w gE j u
 refine ⟨h1 ▸ h.p.turnE hg (hc ▸ h.p.ex.set_ j u) (hv _ (XM.ck h.p j u)) h2, h1 ▸ h.frow.kept hg ?_⟩
 exact .inr (fun e => own_ne_blk h.frow h.p.ex (by decide) e.symm)
theorem own_blk {base n size : Nat} {e : TypeId} {v : Value} {xs : List Value} (h : w.ownsRow base e size v n xs) {g : Nat} (hg : v.ownBlock = some g) : base ≤ g ∧ ∃ cs, Blk w g e cs := by
 rcases h.2 with ⟨rfl, _⟩ | ⟨g', cap, cur, rfl, hb, hh, _⟩
 ·cases hg
 ·have : g' = g := by simpa [Value.ownBlock] using hg
  subst this
  exact ⟨hb, cur, hh⟩
/-- The row of frames has turned. -/
theorem XP.turnF (h : XP w0 C gE w m vv fv qv LS fs avs) {n : Nat} {xs : List Value} (hr : w.ownsRow w0.heap.size 74 4 fv n xs) (hg : w.grownBy w' fv.ownBlock) : XP w0 C gE w' m vv fv qv LS fs avs :=
 h.turn hg (fun g e => by
  obtain ⟨h1, cs, h2⟩ := own_blk hr e
  exact ⟨h1, _, cs, h2, by decide, by decide, by decide, fun e => absurd e (by decide)⟩)
/-- Another row of frames is set. -/
theorem XP.setF (h : XP w0 C gE w m vv fv qv LS fs avs) {fv' : Value} {fs' : List FrameD} {n : Nat} {xs : List Value} (hr : w.ownsRow w0.heap.size 74 4 fv' n xs) : XP w0 C gE (w.setCell ⟨gE, 5, none⟩ fv') { m with frames := fs' } vv fv' qv LS fs avs ∧ (w.setCell ⟨gE, 5, none⟩ fv').ownsRow w0.heap.size 74 4 fv' n xs := by
 have hg := grown_setc w gE 5 fv'
 have hx : Blk (w.setCell ⟨gE, 5, none⟩ fv') gE 69 (exA C { m with frames := fs' } vv fv' qv) := h.ex.set_ 5 fv'
 exact ⟨h.turnE hg hx (h.val.keep (XM.ck h 5 fv')) rfl, hr.kept hg (.inr (fun e => own_ne_blk hr h.ex (by decide) e.symm))⟩
theorem XM.open_ {f : FrameD} (h : XM w0 C gE w m vv fv qv LS avs) (hm : m.frames = fs ++ [f]) : ∃ LS0 lv sv, LS = LS0 ++ [(lv, sv)] ∧ XP w0 C gE w m vv fv qv LS0 fs avs ∧ ValsO w w0.heap.size lv f.locals ∧ ValsO w w0.heap.size sv f.stack ∧ LS0.length = fs.length ∧ (blocksF LS0 ++ (lv.ownBlock.toList ++ sv.ownBlock.toList) ++ blocksQ avs).Nodup := by
 have hl := h.p.fr.len
 rw [hm] at hl
 have hne : LS ≠ [] := by rintro rfl; simp at hl
 obtain ⟨LS0, p, rfl⟩ : ∃ a b, LS = a ++ [b] := ⟨LS.dropLast, LS.getLast hne, (List.dropLast_concat_getLast hne).symm⟩
 obtain ⟨lv, sv⟩ := p
 have hl' : LS0.length = fs.length := by simpa using hl
 have hp := h.p.fr
 rw [hm] at hp
 obtain ⟨a, b, c⟩ := hp.last hl'
 have hnd : (blocksF LS0 ++ (lv.ownBlock.toList ++ sv.ownBlock.toList) ++ blocksQ avs).Nodup := by
  have := h.p.nd
  simpa [blocksF] using this
 refine ⟨LS0, lv, sv, rfl, ⟨h.p.bel, h.p.hE, h.p.ex, h.p.val, a, h.p.rq, h.p.qrow, ?_⟩, b, c, hl', hnd⟩
 refine hnd.sublist ?_
 exact List.Sublist.append (List.sublist_append_left _ _) (List.Sublist.refl _)
theorem XM.close {f : FrameD} {LS0 : List (Value × Value)} {lv sv : Value} (h : XP w0 C gE w m vv fv qv LS0 fs avs) (hm : m.frames = fs ++ [f]) (hl : ValsO w w0.heap.size lv f.locals) (hs : ValsO w w0.heap.size sv f.stack) (hr : w.ownsRow w0.heap.size 74 4 fv (fs.length + 1) (rowsF LS0 fs ++ rowF (lv, sv) f)) (hnd : (blocksF LS0 ++ (lv.ownBlock.toList ++ sv.ownBlock.toList) ++ blocksQ avs).Nodup) : XM w0 C gE w m vv fv qv (LS0 ++ [(lv, sv)]) avs := by
 refine ⟨⟨h.bel, h.hE, h.ex, h.val, hm ▸ h.fr.snoc hl hs, h.rq, h.qrow, by simpa [blocksF] using hnd⟩, ?_⟩
 rw [hm, rowsF_snoc h.fr.len]
 simpa using hr
end
end Go.Proofs.YtmljohbialacfaaGreatDoor
