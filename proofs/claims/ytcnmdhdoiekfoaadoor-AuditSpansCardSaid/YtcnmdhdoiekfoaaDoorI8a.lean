/- The spans that both sides answer, and the walk of the program's Spans. -/
import Derived.Test.YtcnmdhdoiekfoaaDoorI7
import Derived.Deep.RegionHeld3
import Derived.Deep.DeepCutAuto
import Derived.Deep.LoopGhost
import Derived.Laws.CopyOwn
import Derived.Laws.Rows
import Derived.Deep.RegionWith
namespace Go.Proofs.YtcnmdhdoiekfoaaDoor
open Go.RowKit Go.Sort
set_option maxRecDepth 100000

structure SpanD where
  id : ByteArray
  cause : ByteArray
  name : ByteArray
  from_ : Int
  to_ : Int
def SpanD.cells (s : SpanD) : List Value := [.string s.id, .string ByteArray.empty, .string s.cause, .string s.name, .int .i64 s.from_, .int .i64 s.to_]

def minA (l : List FactD) (e : ByteArray) (a : Int) : Int := l.foldl (fun a x => if x.event = e then min a x.at_ else a) a
def maxA (l : List FactD) (e : ByteArray) (a : Int) : Int := l.foldl (fun a x => if x.event = e then max a x.at_ else a) a
theorem minA_snoc (l : List FactD) (e : ByteArray) (a : Int) (n : Nat) (h : n < l.length) : minA (l.take (n + 1)) e a = if l[n].event = e then min (minA (l.take n) e a) l[n].at_ else minA (l.take n) e a := by
  rw [minA, List.take_succ_eq_append_getElem h, List.foldl_append]; rfl
theorem maxA_snoc (l : List FactD) (e : ByteArray) (a : Int) (n : Nat) (h : n < l.length) : maxA (l.take (n + 1)) e a = if l[n].event = e then max (maxA (l.take n) e a) l[n].at_ else maxA (l.take n) e a := by
  rw [maxA, List.take_succ_eq_append_getElem h, List.foldl_append]; rfl

def keepB (l : List FactD) (n : Nat) (f : FactD) : Bool := decide (f.kind = 1) && decide (firstN l 1 f.event 0 = n) && idB f.event
def spanOf (l : List FactD) (f : FactD) : SpanD := ⟨f.event, causeR l f.event, f.source, minA l f.event f.at_, maxA l f.event f.at_⟩
def spansN (l : List FactD) : Nat → List SpanD
  | 0 => []
  | n + 1 => match l[n]? with
    | some f => if keepB l n f = true then spansN l n ++ [spanOf l f] else spansN l n
    | none => spansN l n
theorem spansN_no {l : List FactD} {n : Nat} (h : n < l.length) (hk : keepB l n l[n] = false) : spansN l (n + 1) = spansN l n := by simp [spansN, h, hk]
theorem spansN_yes {l : List FactD} {n : Nat} (h : n < l.length) (hk : keepB l n l[n] = true) : spansN l (n + 1) = spansN l n ++ [spanOf l l[n]] := by simp [spansN, h, hk]
theorem spansN_len (l : List FactD) : ∀ n, (spansN l n).length ≤ n
  | 0 => by simp [spansN]
  | n + 1 => by
    have := spansN_len l n
    unfold spansN
    split
    · split
      · simp; omega
      · omega
    · omega

def SpansAt (w : World) (base : Nat) (v : Value) (l : List SpanD) : Prop := w.ownsRow base 27 6 v l.length (l.flatMap SpanD.cells)
theorem flat_spans (l : List SpanD) (s : SpanD) : (l ++ [s]).flatMap SpanD.cells = l.flatMap SpanD.cells ++ s.cells := by simp
theorem flat_spans_len (l : List SpanD) : (l.flatMap SpanD.cells).length = l.length * 6 := by
  induction l with
  | nil => rfl
  | cons s r ih => rw [List.flatMap_cons, List.length_append, ih, List.length_cons]; simp [SpanD.cells]; omega

theorem Tryd.infoSpan : (Tryd.prog.info? 27).map (fun i => (i.zero, i.size, i.bytes)) = some (some (.agg #[.string ByteArray.empty, .string ByteArray.empty, .string ByteArray.empty, .string ByteArray.empty, .int .i64 0, .int .i64 0]), 6, 80) := by kernel_rfl

theorem ev_some {l : List FactD} {hs : List (ByteArray × HR)} (h : absH hs = hist l l.length) {n : Nat} (hn : n < l.length) : ∃ r, alGet hs l[n].event = some r := by
  have h1 := (hist_mem l l[n].event l.length (Nat.le_refl _)).2 ⟨l[n], by rw [List.take_length]; exact List.getElem_mem _, rfl⟩
  rw [← h, absH_get] at h1
  cases hr : alGet hs l[n].event with
  | some r => exact ⟨r, rfl⟩
  | none => rw [hr] at h1; simp at h1

theorem first_ge {l : List FactD} {n : Nat} (hn : n < l.length) (hk : l[n].kind = 1) : 0 ≤ firstN l 1 l[n].event 0 := by
  rw [firstN_ge]
  have h1 : countN (l.take (n + 1)) 1 l[n].event ≠ 0 := by rw [countN_snoc l n hn, if_pos ⟨hk, rfl⟩]; omega
  intro h2
  apply h1
  have : countN l 1 l[n].event = countN (l.take (n + 1)) 1 l[n].event + countN (l.drop (n + 1)) 1 l[n].event := by rw [← countN_append, List.take_append_drop]
  omega

theorem below_drew (w : World) : Below w.heap.size w w.drew := ⟨rfl, rfl, rfl, Nat.le_refl _, fun _ _ => rfl⟩
theorem below_new_drew (w : World) (o : Obj) : Below w.heap.size w (w.alloc o).drew := (below_new w o).trans ⟨rfl, rfl, rfl, Nat.le_refl _, fun _ _ => rfl⟩

theorem one6 (a b c d : ByteArray) (x y : Int) : ∀ u ∈ ([.string a, .string b, .string c, .string d, .int .i64 x, .int .i64 y] : List Value), u.oneCell' = true := by simp [Value.oneCell']
/-- Behind the statement that makes a span: slot 9 points to a block of the call's own that holds it. -/
def SpanVar (w3 : World) (e s c : ByteArray) (f t : Int) (v : Value) (wx : World) : Prop :=
  ∃ g, v = .pointer (some ⟨g, 0, none⟩) ∧ w3.heap.size ≤ g ∧ Blk wx g 27 #[.string e, .string ByteArray.empty, .string c, .string s, .int .i64 f, .int .i64 t] ∧ Below w3.heap.size w3 wx
theorem Blk.setRow {w : World} {g : Nat} {t : TypeId} {cs cs' : Array Value} (h : Blk w g t cs) : Blk (w.setRow g cs') g t cs' := setRow_heap w g cs cs' t (0, 0) h
theorem Blk.row_far {w : World} {g g' : Nat} {t : TypeId} {cs cs' : Array Value} (h : Blk w g t cs) (hne : g ≠ g') : Blk (w.setRow g' cs') g t cs := (setRow_other w g' g cs' hne).trans h
end Go.Proofs.YtcnmdhdoiekfoaaDoor
