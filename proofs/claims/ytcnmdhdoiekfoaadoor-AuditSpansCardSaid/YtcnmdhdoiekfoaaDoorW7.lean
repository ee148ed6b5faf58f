/- The walks of has, of the conditions, of problems. -/
import Derived.Test.YtcnmdhdoiekfoaaDoorW6
namespace Go.Proofs.YtcnmdhdoiekfoaaDoor
open Go.RowKit
set_option maxRecDepth 100000

def hasB (cm : IM) (ks : List Int) : Bool := ks.all fun k => decide ((alGet cm k).getD 0 ≠ 0)

def intCells (k : Int) : List Value := [.int .i64 k]

set_option maxHeartbeats 1000000 in
theorem has_any (a c : Nat) (cm : IM) (A : Option Addr) (cap : Nat) (ks : List Int) (w : World) (hk : ks.length ≤ 1000) (hm : MapAt w c (Value.int .i64) (Value.int .i64) cm) (hs : SlAt w A 1 intCells ks) :
    Calls Tryd.prog 20 #[.agg #[.map (some a), .map (some c)], .slice A ks.length cap] w fun e w' => e = .returned (.bool (hasB cm ks)) ∧ Below w.heap.size w w' := by
  have HM := Lib.hid (hm.alloc (.cells #[.map (some a), .map (some c)] 44))
  have HS := Lib.hid (hs.alloc (.cells #[.map (some a), .map (some c)] 44))
  clear hm
  go_enter Tryd.func20, Tryd.ntmps20
  go_wp2
  go_loop [9] (fun i => ∃ n : Nat, n ≤ ks.length ∧ i = .int .i64 n ∧ hasB cm (ks.take n) = true) (fun i => ks.length - (intOf i).toNat)
  case atStart => exact ⟨0, Nat.zero_le _, rfl, rfl⟩
  case round =>
    obtain ⟨n, hn, rfl, hall⟩ := hrel
    have HA := Lib.hid hall; clear hall
    by_cases hlt : n < ks.length
    · obtain ⟨b, off, rfl, _⟩ := hs.ptr hlt
      have h0 := HS.out.cell0 hlt (v := .int .i64 ks[n]) rfl
      rw [Nat.mul_one] at h0
      have HN : hasB cm (ks.take (n + 1)) = decide ((alGet cm ks[n]).getD 0 ≠ 0) := by
        unfold hasB at *
        rw [List.take_succ_eq_append_getElem hlt, List.all_append, HA.out]; simp
      clear hs
      by_cases hz : (alGet cm ks[n]).getD 0 = 0
      · have HZ := Lib.hid hz
        have HF : Hid (hasB cm ks = false) := by
          show _ = _
          unfold hasB; rw [List.all_eq_false]
          exact ⟨ks[n], List.getElem_mem _, by simp [hz]⟩
        clear hz HN
        go_wp2_with (first
          | (at_lookup; refine wpList_look' rfl (.tmp 14) (.tmp 15) rfl Tryd.kI Tryd.underlying42 0 (Tryd.zero3 _) rfl ks[n] rfl HM.out _ rfl (.int .i64 0) (congrArg (Value.int .i64) HZ.out) ?_))
        go_ret
        exact ⟨by rw [HF.out]; rfl, (Below.refl _ _).alloc (Nat.le_refl _) _⟩
      · have HZ : Hid (hasB cm (ks.take (n + 1)) = true) := by show _ = _; rw [HN]; simpa using hz
        clear HN
        obtain ⟨d, hd⟩ : ∃ d, (alGet cm ks[n]).getD 0 = d := ⟨_, rfl⟩
        have hd0 : (d == 0) = false := by rw [← hd]; simpa using hz
        have HD := Lib.hid hd
        clear hz hd
        go_wp2_with (first
          | (at_lookup; refine wpList_look' rfl (.tmp 14) (.tmp 15) rfl Tryd.kI Tryd.underlying42 0 (Tryd.zero3 _) rfl ks[n] rfl HM.out _ rfl (.int .i64 d) (congrArg (Value.int .i64) HD.out) ?_))
        go_round
        case rel => exact ⟨n + 1, by omega, by go_num, HZ.out⟩
        case measure => simp [intOf]; omega
    · go_wp2
      go_ret
      refine ⟨?_, (Below.refl _ _).alloc (Nat.le_refl _) _⟩
      have hA := HA.out
      rw [List.take_of_length_le (by omega)] at hA
      rw [hA]; rfl

/-- A new row of two numbers. -/
theorem two_new {g : Nat} {w : World} (hg : g = w.heap.size) (x y : Int) (t : TypeId) : SlAt (w.alloc (.cells #[.int .i64 x, .int .i64 y] t)) (some ⟨g, 0, none⟩) 1 intCells [x, y] := by
  subst hg
  have hb := Blk.new w t #[.int .i64 x, .int .i64 y]
  intro i row hi
  refine ⟨w.heap.size, 0, rfl, by simp, fun j v hj => ?_⟩
  match i, hi with
  | 0, hi =>
    simp [intCells] at hi; subst hi
    match j, hj with
    | 0, hj => simp at hj; subst hj; exact hb.cell 0 _ rfl
  | 1, hi =>
    simp [intCells] at hi; subst hi
    match j, hj with
    | 0, hj => simp at hj; subst hj; exact hb.cell 1 _ rfl
  | i + 2, hi => simp at hi

theorem one_new {g : Nat} {w : World} (hg : g = w.heap.size) (x : Int) (t : TypeId) : SlAt (w.alloc (.cells #[.int .i64 x] t)) (some ⟨g, 0, none⟩) 1 intCells [x] := by
  subst hg
  have hb := Blk.new w t #[.int .i64 x]
  intro i row hi
  refine ⟨w.heap.size, 0, rfl, by simp, fun j v hj => ?_⟩
  match i, hi with
  | 0, hi =>
    simp [intCells] at hi; subst hi
    match j, hj with
    | 0, hj => simp at hj; subst hj; exact hb.cell 0 _ rfl
  | i + 1, hi => simp at hi

def pOnceB (cm : IM) : Bool := decide (1 < (alGet cm 5).getD 0) || hasB cm [5, 8]
def pSettledB (cm : IM) : Bool := hasB cm [1] && !hasB cm [5] && !hasB cm [8]

set_option maxHeartbeats 1000000 in
theorem ponce1_any (s : ByteArray) (a c : Nat) (cm : IM) (w : World) (hm : MapAt w c (Value.int .i64) (Value.int .i64) cm) :
    Calls Tryd.prog 19 #[.string s, .agg #[.map (some a), .map (some c)]] w fun e w' => e = .returned (.bool (pOnceB cm)) ∧ Below w.heap.size w w' := by
  have HM := Lib.hid (hm.alloc (.cells #[.map (some a), .map (some c)] 44))
  clear hm
  obtain ⟨d, hd⟩ : ∃ d, (alGet cm 5).getD 0 = d := ⟨_, rfl⟩
  have HD := Lib.hid hd
  clear hd
  by_cases h : 1 < d
  · have HO : Hid (pOnceB cm = true) := by show _ = _; unfold pOnceB; rw [HD.out]; simp [h]
    go_enter Tryd.func19, Tryd.ntmps19
    go_wp2_with (first
      | (at_lookup; refine wpList_look' rfl (.tmp 6) (.const (.int .i64 5)) rfl Tryd.kI Tryd.underlying42 0 (Tryd.zero3 _) rfl 5 rfl HM.out _ rfl (.int .i64 d) (congrArg (Value.int .i64) HD.out) ?_))
    go_ret
    exact ⟨by rw [HO.out]; rfl, (Below.refl _ _).alloc (Nat.le_refl _) _⟩
  · have HO : Hid (pOnceB cm = hasB cm [5, 8]) := by show _ = _; unfold pOnceB; rw [HD.out]; simp [h]
    go_enter Tryd.func19, Tryd.ntmps19
    go_wp2_with (first
      | (at_lookup; refine wpList_look' rfl (.tmp 6) (.const (.int .i64 5)) rfl Tryd.kI Tryd.underlying42 0 (Tryd.zero3 _) rfl 5 rfl HM.out _ rfl (.int .i64 d) (congrArg (Value.int .i64) HD.out) ?_)
      | (go_at_call 20; refine (has_any a c cm _ _ [5, 8] _ (by simp) (HM.out.alloc _) (two_new (by simp) _ _ _)).mono ?_; rintro e w1 ⟨rfl, hb⟩))
    go_ret
    exact ⟨by rw [HO.out]; rfl, below_call hb (below_call (below_new _ _) (below_new _ _))⟩

end Go.Proofs.YtcnmdhdoiekfoaaDoor
