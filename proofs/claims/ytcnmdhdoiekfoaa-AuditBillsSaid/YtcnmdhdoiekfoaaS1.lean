/- The law AuditShares: plain part, in, told. -/
import Derived.Test.YtcnmdhdoiekfoaaN1
namespace Go.Proofs.Ytcnmdhdoiekfoaa
open Go.RowKit

def inN : List ByteArray → ByteArray → Nat → Int
  | [], _, _ => -1
  | t :: r, s, n => if t = s then n else inN r s (n + 1)

theorem inN_lo (l : List ByteArray) (s : ByteArray) : ∀ n : Nat, (inN l s n = -1 ∧ s ∉ l) ∨ ∃ m : Nat, inN l s n = (m : Int) ∧ n ≤ m ∧ l[m - n]? = some s ∧ ∀ j, j < m - n → l[j]? ≠ some s := by
  induction l with
  | nil => intro n; exact .inl ⟨rfl, by simp⟩
  | cons t r ih =>
    intro n
    unfold inN
    by_cases h : t = s
    · rw [if_pos h]
      exact .inr ⟨n, rfl, Nat.le_refl _, by simp [h], fun j hj => by omega⟩
    · rw [if_neg h]
      rcases ih (n + 1) with ⟨h1, h2⟩ | ⟨m, h1, h2, h3, h4⟩
      · exact .inl ⟨h1, by simp [h2]; exact fun e => h e.symm⟩
      · refine .inr ⟨m, h1, by omega, ?_, fun j hj => ?_⟩
        · rw [show m - n = (m - (n + 1)) + 1 by omega]; simpa using h3
        · cases j with
          | zero => simpa using h
          | succ j => simpa using h4 j (by omega)

theorem inN_some {l : List ByteArray} {s : ByteArray} (h : s ∈ l) : ∃ m : Nat, inN l s 0 = (m : Int) ∧ l[m]? = some s ∧ ∀ j, j < m → l[j]? ≠ some s := by
  rcases inN_lo l s 0 with ⟨_, h2⟩ | ⟨m, h1, _, h3, h4⟩
  · exact absurd h h2
  · exact ⟨m, h1, by simpa using h3, fun j hj => h4 j (by omega)⟩
theorem inN_none {l : List ByteArray} {s : ByteArray} (h : s ∉ l) : inN l s 0 = -1 := by
  rcases inN_lo l s 0 with ⟨h1, _⟩ | ⟨m, _, _, h3, _⟩
  · exact h1
  · exact absurd (List.mem_of_getElem? h3) h

set_option maxHeartbeats 400000 in
theorem in_any (A : Option Addr) (cap : Nat) (l : List ByteArray) (s : ByteArray) (w : World) (hl : l.length ≤ 4000) (hf : SlAt w A 1 strCells l) :
    Calls Try.prog 33 #[.slice A l.length cap, .string s] w fun e w' => e = .returned (.int .i64 (inN l s 0)) ∧ w = w' := by
  go_enter Try.func33, Try.ntmps33
  go_wp2
  go_loop [5] (fun i => ∃ n : Nat, n ≤ l.length ∧ i = .int .i64 n ∧ inN l s 0 = inN (l.drop n) s n) (fun i => l.length - (intOf i).toNat)
  case atStart => exact ⟨0, Nat.zero_le _, rfl, rfl⟩
  case round =>
    obtain ⟨n, hn, rfl, hfn⟩ := hrel
    have H := Lib.hid hfn; clear hfn
    by_cases hlt : n < l.length
    · obtain ⟨b, off, rfl, _⟩ := hf.ptr hlt
      have h0 := hf.cell0 hlt (v := .string l[n]) rfl
      rw [Nat.mul_one] at h0
      have H2 : inN (l.drop n) s n = if l[n] = s then (n : Int) else inN (l.drop (n + 1)) s (n + 1) := by
        rw [List.drop_eq_getElem_cons hlt]; rfl
      replace H2 := Lib.hid (H.out.trans H2)
      clear H
      go_wp2
      · have h2 : (l[n].toList == s.toList) = true := by assumption
        rw [toList_beq, decide_eq_true_eq] at h2
        go_ret
        exact ⟨ret_int (by rw [H2.out, if_pos h2]), rfl⟩
      · have h2 : (l[n].toList == s.toList) = false := by assumption
        rw [toList_beq, decide_eq_false_iff_not] at h2
        go_round
        case rel => exact ⟨n + 1, by omega, by go_num, by rw [H2.out, if_neg h2]⟩
        case measure => simp [intOf]; omega
    · go_wp2
      go_ret
      exact ⟨ret_int (by rw [H.out, List.drop_of_length_le (by omega)]; rfl), rfl⟩

set_option maxHeartbeats 1000000 in
theorem rtold_any (A : Option Addr) (cap : Nat) (rule : ByteArray) (l : List ByteArray) (name : ByteArray) (w : World) (hl : l.length ≤ 4000) (hs : SlAt w A 2 (probRow rule) l) :
    Calls Try.prog 34 #[.slice A l.length cap, .string name] w fun e w' => e = .returned (.bool (memB name l)) ∧ w = w' := by
  go_enter Try.func34, Try.ntmps34
  go_wp2
  go_loop [5] (fun i => ∃ n : Nat, n ≤ l.length ∧ i = .int .i64 n ∧ name ∉ l.take n) (fun i => l.length - (intOf i).toNat)
  case atStart => exact ⟨0, Nat.zero_le _, rfl, by simp⟩
  case round =>
    obtain ⟨n, hn, rfl, hno⟩ := hrel
    have HN := Lib.hid hno
    clear hno
    by_cases hlt : n < l.length
    · obtain ⟨b, off, rfl, _⟩ := hs.ptr hlt
      have c1 := hs.cell hlt (j := 1) (v := .string l[n]) rfl
      cases he : (l[n].toList == name.toList)
      · have HE := Lib.hid he
        go_wp2
        go_round
        case rel =>
          refine ⟨n + 1, by omega, by go_num, ?_⟩
          have := HE.out
          rw [toList_beq, decide_eq_false_iff_not] at this
          rw [List.take_succ_eq_append_getElem hlt, List.mem_append, not_or]
          exact ⟨HN.out, by simpa using fun h => this h.symm⟩
        case measure => simp [intOf]; omega
      · have HE := Lib.hid he
        go_wp2
        go_ret
        have := HE.out
        rw [toList_beq, decide_eq_true_eq] at this
        have hm : memB name l = true := by rw [memB_iff, ← this]; exact List.getElem_mem _
        exact ⟨by rw [hm]; rfl, rfl⟩
    · go_wp2
      go_ret
      have hN := HN.out
      rw [List.take_of_length_le (by omega)] at hN
      have hm : memB name l = false := (memB_not _ _).2 hN
      exact ⟨by rw [hm]; rfl, rfl⟩

/-- How often a tenant was started in the first i facts. -/
def stC (l : List FactD) : Nat → ByteArray → Int
  | 0, _ => 0
  | i + 1, t => stC l i t + (match l[i]? with | some f => if f.kind = 3 ∧ f.tenant = t then 1 else 0 | none => 0)

theorem stC_succ {l : List FactD} {i : Nat} (h : i < l.length) (t : ByteArray) : stC l (i + 1) t = stC l i t + if l[i].kind = 3 ∧ l[i].tenant = t then 1 else 0 := by simp [stC, h]
theorem stC_bd (l : List FactD) (t : ByteArray) : ∀ i, 0 ≤ stC l i t ∧ stC l i t ≤ i
  | 0 => by simp [stC]
  | i + 1 => by
    have := stC_bd l t i
    unfold stC
    split
    · split <;> omega
    · omega
theorem stC_skip {l : List FactD} {i : Nat} (h : i < l.length) (hk : ¬ l[i].kind = 3) (t : ByteArray) : stC l (i + 1) t = stC l i t := by
  rw [stC_succ h, if_neg (fun hh => hk hh.1)]; omega

/-- One tenant was started more often than another, by more than B. -/
def ahead (l : List FactD) (ts : List ByteArray) (B : Int) (i : Nat) (s : ByteArray) (j : Nat) : Bool :=
  match ts[j]? with | some t => decide (B < stC l (i + 1) s - stC l (i + 1) t) | none => false

/-- The list of problems behind the first j of the tenants. -/
def inner (out : List ByteArray) (s : ByteArray) (p : Nat → Bool) (j : Nat) : List ByteArray :=
  if memB s out then out else if anyUpto p j then out ++ [s] else out

def fairN (l : List FactD) (ts : List ByteArray) (B : Int) : Nat → List ByteArray
  | 0 => []
  | i + 1 => match l[i]? with
    | some f => if f.kind = 3 ∧ memB f.tenant ts then inner (fairN l ts B i) f.tenant (ahead l ts B i f.tenant) ts.length else fairN l ts B i
    | none => fairN l ts B i

theorem fairN_yes {l : List FactD} {ts : List ByteArray} {B : Int} {i : Nat} (h : i < l.length) (hk : l[i].kind = 3) (hm : memB l[i].tenant ts = true) : fairN l ts B (i + 1) = inner (fairN l ts B i) l[i].tenant (ahead l ts B i l[i].tenant) ts.length := by
  simp [fairN, h, hk, hm]
theorem fairN_no {l : List FactD} {ts : List ByteArray} {B : Int} {i : Nat} (h : i < l.length) (hk : ¬ (l[i].kind = 3 ∧ memB l[i].tenant ts = true)) : fairN l ts B (i + 1) = fairN l ts B i := by
  have : l[i]? = some l[i] := by simp [h]
  simp only [fairN, this]
  rw [if_neg hk]
theorem inner_len (out : List ByteArray) (s : ByteArray) (p : Nat → Bool) (j : Nat) : (inner out s p j).length ≤ out.length + 1 := by
  unfold inner; split
  · omega
  · split <;> simp
theorem fairN_len (l : List FactD) (ts : List ByteArray) (B : Int) : ∀ i, (fairN l ts B i).length ≤ i
  | 0 => by simp [fairN]
  | i + 1 => by
    have := fairN_len l ts B i
    unfold fairN
    split
    · split
      · have h2 := inner_len (fairN l ts B i) (l[i]?.elim (⟨#[]⟩) (·.tenant)) (fun _ => true) 0
        exact Nat.le_trans (inner_len _ _ _ _) (by omega)
      · omega
    · omega

theorem inner_zero (out : List ByteArray) (s : ByteArray) (p : Nat → Bool) : inner out s p 0 = out := by unfold inner; simp [anyUpto]
/-- A tenant that is not ahead of the next one, or is told already. -/
theorem inner_same {out : List ByteArray} {s : ByteArray} {p : Nat → Bool} {j : Nat} (h : p j = false ∨ memB s (inner out s p j) = true) : inner out s p (j + 1) = inner out s p j := by
  unfold inner at *
  by_cases hm : memB s out = true
  · simp [hm]
  · simp only [if_neg hm] at *
    rcases h with h | h
    · simp [anyUpto, h]
    · by_cases ha : anyUpto p j = true
      · simp [anyUpto, ha]
      · rw [if_neg ha] at h; exact absurd h hm
theorem inner_more {out : List ByteArray} {s : ByteArray} {p : Nat → Bool} {j : Nat} (h : p j = true) (hm : memB s (inner out s p j) = false) : inner out s p (j + 1) = inner out s p j ++ [s] := by
  unfold inner at *
  by_cases hmo : memB s out = true
  · rw [if_pos hmo] at hm; rw [hm] at hmo; cases hmo
  · simp only [if_neg hmo] at *
    by_cases ha : anyUpto p j = true
    · rw [if_pos ha] at hm
      have : memB s (out ++ [s]) = true := by rw [memB_iff]; simp
      rw [this] at hm; cases hm
    · rw [if_neg ha, if_pos (by simp [anyUpto, h])]
end Go.Proofs.Ytcnmdhdoiekfoaa
