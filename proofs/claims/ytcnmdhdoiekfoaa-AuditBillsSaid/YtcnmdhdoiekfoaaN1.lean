/- The law AuditNotices: plain part, told. -/
import Derived.Test.YtcnmdhdoiekfoaaW12
import Derived.Deep.RegionHeld3
namespace Go.Proofs.Ytcnmdhdoiekfoaa
open Go.RowKit

def memB (name : ByteArray) (l : List ByteArray) : Bool := l.any fun s => decide (s = name)
theorem memB_iff (name : ByteArray) (l : List ByteArray) : memB name l = true ↔ name ∈ l := by simp [memB]
theorem memB_not (name : ByteArray) (l : List ByteArray) : memB name l = false ↔ name ∉ l := by rw [← memB_iff]; simp

set_option maxHeartbeats 1000000 in
theorem told_any (A : Option Addr) (cap : Nat) (rule : ByteArray) (l : List ByteArray) (name : ByteArray) (w : World) (hl : l.length ≤ 4000) (hs : SlAt w A 2 (probRow rule) l) :
    Calls Try.prog 15 #[.slice A l.length cap, .string name] w fun e w' => e = .returned (.bool (memB name l)) ∧ w = w' := by
  go_enter Try.func15, Try.ntmps15
  go_wp2
  go_loop [5] (fun i => ∃ n : Nat, n ≤ l.length ∧ i = .int .i64 n ∧ name ∉ l.take n) (fun i => l.length - (intOf i).toNat)
  case atStart => exact ⟨0, Nat.zero_le _, rfl, by simp⟩
  case round =>
    obtain ⟨n, hn, rfl, hno⟩ := hrel
    have HN := Lib.hid hno
    clear hno
    by_cases hlt : n < l.length
    · obtain ⟨b, off, rfl, _⟩ := hs.ptr hlt
      have c1 := hs.cell hlt (j := 1) (v := .string l[n]) rfl
      cases he : (l[n].toList == name.toList)
      · have HE := Lib.hid he
        go_wp2
        go_round
        case rel =>
          refine ⟨n + 1, by omega, by go_num, ?_⟩
          have := HE.out
          rw [toList_beq, decide_eq_false_iff_not] at this
          rw [List.take_succ_eq_append_getElem hlt, List.mem_append, not_or]
          exact ⟨HN.out, by simpa using fun h => this h.symm⟩
        case measure => simp [intOf]; omega
      · have HE := Lib.hid he
        go_wp2
        go_ret
        have := HE.out
        rw [toList_beq, decide_eq_true_eq] at this
        have hm : memB name l = true := by rw [memB_iff, ← this]; exact List.getElem_mem _
        exact ⟨by rw [hm]; rfl, rfl⟩
    · go_wp2
      go_ret
      have hN := HN.out
      rw [List.take_of_length_le (by omega)] at hN
      have hm : memB name l = false := (memB_not _ _).2 hN
      exact ⟨by rw [hm]; rfl, rfl⟩

/-- The facts of the first n that stay: those of other events, and those that are neither committed nor dead. -/
def stays (e : ByteArray) (f : FactD) : Bool := decide (f.event ≠ e) || (decide (f.kind ≠ 5) && decide (f.kind ≠ 8))
def keepN (l : List FactD) (e : ByteArray) (n : Nat) : List FactD := (l.take n).filter (stays e)

theorem keepN_snoc (l : List FactD) (e : ByteArray) (n : Nat) (hn : n < l.length) : keepN l e (n + 1) = keepN l e n ++ (if stays e l[n] then [l[n]] else []) := by
  unfold keepN
  rw [List.take_succ_eq_append_getElem hn, List.filter_append]
  congr 1
  by_cases h : stays e l[n] = true <;> simp [h]
theorem keepN_len (l : List FactD) (e : ByteArray) (n : Nat) : (keepN l e n).length ≤ n := Nat.le_trans (List.length_filter_le _ _) (List.length_take_le _ _)

def accOf (e : ByteArray) : FactD := ⟨1, 0, ByteArray.empty, ByteArray.empty, ByteArray.empty, e, 0, 0, ByteArray.empty, 0⟩

theorem count_keep (l : List FactD) (e : ByteArray) (k : Int) (hk : k = 5 ∨ k = 8) : countN (l.filter (stays e)) k e = 0 := by
  induction l with
  | nil => rfl
  | cons f r ih =>
    rw [List.filter_cons]
    split
    · rename_i hs
      unfold countN
      rw [ih, if_neg]
      rintro ⟨h1, h2⟩
      unfold stays at hs
      simp only [Bool.or_eq_true, decide_eq_true_eq, Bool.and_eq_true] at hs
      rcases hs with hs | ⟨h3, h4⟩
      · exact hs h2
      · rcases hk with rfl | rfl
        · exact h3 h1
        · exact h4 h1
    · exact ih

theorem mem_selN (l : List FactD) (p : ByteArray → Bool) (e : ByteArray) : e ∈ selN l p l.length ↔ (∃ f ∈ l, f.event = e) ∧ p e = true := by
  rw [← selN_filter, List.mem_filter, ← hist_keys l l.length (Nat.le_refl _), mem_keys]

theorem settled_tells (l : List FactD) (e : ByteArray) (m : List FactD) (hm : m = l.filter (stays e) ++ [accOf e]) : e ∈ selN m (settledB m) m.length := by
  rw [mem_selN]
  refine ⟨⟨accOf e, by simp [hm], rfl⟩, ?_⟩
  have c1 : countN m 1 e ≠ 0 := by rw [hm, countN_append]; simp [countN, accOf]
  have c5 : countN m 5 e = 0 := by rw [hm, countN_append, count_keep l e 5 (.inl rfl)]; simp [countN, accOf]
  have c8 : countN m 8 e = 0 := by rw [hm, countN_append, count_keep l e 8 (.inr rfl)]; simp [countN, accOf]
  unfold settledB
  simp only [Bool.and_eq_true, decide_eq_true_eq]
  exact ⟨⟨(firstN_ge m 1 e).2 c1, (countN_pos m 5 e 0).1 c5⟩, (countN_pos m 8 e 0).1 c8⟩

theorem once_tells (l : List FactD) (e : ByteArray) (x : FactD) (hx : x.event = e) (hk : x.kind = 5) (m : List FactD) (hm : m = l ++ [x, x]) :
    e ∈ selN m (onceB m) m.length ∧ e ∉ selN m (settledB m) m.length := by
  have c5 : 2 ≤ countN m 5 e := by rw [hm, countN_append]; simp [countN, hx, hk]
  constructor
  · rw [mem_selN]
    refine ⟨⟨x, by simp [hm], hx⟩, ?_⟩
    unfold onceB
    have : 1 < countN m 5 e := by omega
    simp [this]
  · rw [mem_selN]
    rintro ⟨_, h⟩
    unfold settledB at h
    simp only [Bool.and_eq_true, decide_eq_true_eq] at h
    have := (countN_pos m 5 e 0).2 h.1.2
    omega
end Go.Proofs.Ytcnmdhdoiekfoaa
