/- The reference's values: Next. The reference's values: formed, levels. -/
import Derived.Test.YtahcjgjigbedoaaGreatDoorR3
set_option linter.unusedVariables false
set_option linter.unusedSimpArgs false
namespace Go.Proofs.YtahcjgjigbedoaaGreatDoor
open Go.RowKit
set_option maxRecDepth 100000

def okC6 (c : CellD) : Prop := c.str.size ≤ 4294967296 ∧ c.n ≤ 9223372036854775807
theorem px_end {l : List CellD} {j : Nat} (h : l[j]? = none) : px l j = none := by rw [px_eq, pstep, h]
theorem px_sc {l : List CellD} {j : Nat} {c : CellD} (h : l[j]? = some c) (h5 : ¬ c.kind = 5) (h6 : ¬ c.kind = 6) : shR (px l j) = if plainB c then ((j + 1 : Nat) : Int) else -1 := by
 rw [px_eq, pstep, h]
 simp only
 cases hp : plainB c with
 | false => rfl
 | true => simp only [Bool.true_eq_false, if_false, if_neg h5, if_neg h6, if_true]; rfl
theorem px_bad {l : List CellD} {j : Nat} {c : CellD} (h : l[j]? = some c) (hp : plainB c = false) : shR (px l j) = -1 := by
 rw [px_eq, pstep, h]
 simp only
 rw [if_pos hp]
 rfl
theorem px_list {l : List CellD} {j : Nat} {c : CellD} (h : l[j]? = some c) (hp : plainB c = true) (h5 : c.kind = 5) : shR (px l j) = shR (elems (px l) 0 c.n.toNat ⟨j + 1, 0, 0⟩) := by
 rw [px_eq, pstep, h]
 simp only
 rw [if_neg (by rw [hp]; simp), if_pos h5]
 cases elems (px l) 0 c.n.toNat ⟨j + 1, 0, 0⟩ <;> rfl
theorem px_map {l : List CellD} {j : Nat} {c : CellD} (h : l[j]? = some c) (hp : plainB c = true) (h6 : c.kind = 6) : shR (px l j) = shR (pairs l (px l) 0 c.n.toNat none ⟨j + 1, 0, 0⟩) := by
 rw [px_eq, pstep, h]
 simp only
 rw [if_neg (by rw [hp]; simp), if_neg (by omega), if_pos h6]
 cases pairs l (px l) 0 c.n.toNat none ⟨j + 1, 0, 0⟩ <;> rfl
theorem ret_i64 {a b : Int} (h : a = b) : Ending.returned (.int .i64 a) = .returned (.int .i64 b) := by rw [h]

attribute [local go_sem] cell_alloc_is
set_option maxHeartbeats 8000000 in
theorem next_at (l : List CellD) (A : Option Addr) (cap : Nat) (hl : l.length ≤ 1000000) (hok : ∀ c ∈ l, okC6 c) (j : Nat) (hj : j ≤ l.length) (hN : NextFrom l A cap (j + 1)) (w : World) (h : SlAt w A 4 CellD.cells l) :
  Calls Tryz.prog 68 #[.slice A l.length cap, .int .i64 j] w fun e w' => e = .returned (.int .i64 (shR (px l j))) ∧ Below w.heap.size w w' := by
 have hj0 : (0 : Int) ≤ (j : Int) := by omega
 have hj1 : (j : Int) ≤ 1000000 := by omega
 have HN := Lib.hid hN
 have HA := Lib.hid h
 have HK := Lib.hid hok
 obtain ⟨X, hX⟩ : ∃ x, shR (px l j) = x := ⟨_, rfl⟩
 have HX := Lib.hid hX
 rw [hX]
 by_cases hend : j = l.length
 ·have hx : X = -1 := by rw [← HX.out, px_end (by rw [hend]; simp)]; rfl
  subst hx
  have hge : (l.length : Int) ≤ (j : Int) := by omega
  clear hN h hok hX hend
  go_enter Tryz.func68, Tryz.ntmps68
  go_wp2_with (fail)
  go_ret
  exact ⟨rfl, Below.refl _ _⟩
 ·have hjl : j < l.length := by omega
  have hji : (j : Int) < (l.length : Int) := by omega
  obtain ⟨c, hc⟩ : ∃ c, l[j] = c := ⟨_, rfl⟩
  have hcl : l[j]? = some c := by rw [List.getElem?_eq_getElem hjl, hc]
  have hck := hok c (hc ▸ List.getElem_mem hjl)
  obtain ⟨bA, off, rfl, _⟩ := h.ptr hjl
  have c0 := h.cell0 hjl (v := .int .i64 c.kind) (by rw [hc]; rfl)
  have c1 := h.cell hjl (j := 1) (v := .int .i64 c.int) (by rw [hc]; rfl)
  have c2 := h.cell hjl (j := 2) (v := .string c.str) (by rw [hc]; rfl)
  have c3 := h.cell hjl (j := 3) (v := .int .i64 c.n) (by rw [hc]; rfl)
  have HCL := Lib.hid hcl
  have HB0 := Lib.hid (below_new w (.cells #[.int .i64 c.kind, .int .i64 c.int, .string c.str, .int .i64 c.n] 47))
  have HKY : Hid (∀ wx, Calls Tryz.prog 95 #[.agg #[.int .i64 c.kind, .int .i64 c.int, .string c.str, .int .i64 c.n]] wx fun e w' => e = .returned (.bool (keyB c)) ∧ Below wx.heap.size wx w') := Lib.hid (fun wx => key6_any c wx hck.1)
  clear hN h hok hX hc hcl hend
  have hjm : j ≤ 1000000 := by omega
  obtain ⟨k, i, s, n⟩ := c
  dsimp only at c0 c1 c2 c3 HKY
  have hn9 := hck.2
  dsimp only at hn9
  clear hck
  by_cases h1 : k = 1
  ·subst h1
   have HPX : Hid (X = if plainB ⟨1, i, s, n⟩ then ((j + 1 : Nat) : Int) else -1) := Lib.hid (by rw [← HX.out]; exact px_sc HCL.out (by simp) (by simp))
   by_cases hi0 : i = 0
   all_goals by_cases hs0 : s.size = 0
   all_goals by_cases hn0 : n = 0
   all_goals first | (exfalso; omega) | skip
   all_goals
    have hs1 := hs0
    rw [← toList_nil] at hs1
    have HS0 := Lib.hid hs0
    clear hs0 
    go_enter Tryz.func68, Tryz.ntmps68
    go_wp2_with (first
     | (go_at_call 94; (with_reducible refine (after6_any _ j _ hjm).mono ?_); rintro e w1 ⟨rfl, hw1⟩; rw [hw1]; clear hw1 w1))
    all_goals
     go_returns
     exact ⟨ret_i64 (by rw [HPX.out]; simp [plainB, hi0, hn0, HS0.out]), below_new w _⟩
  by_cases h2 : k = 2
  ·subst h2
   have HPX : Hid (X = if plainB ⟨2, i, s, n⟩ then ((j + 1 : Nat) : Int) else -1) := Lib.hid (by rw [← HX.out]; exact px_sc HCL.out (by simp) (by simp))
   by_cases hi0 : i = 0
   all_goals by_cases hi1 : i = 1
   all_goals by_cases hs0 : s.size = 0
   all_goals by_cases hn0 : n = 0
   all_goals first | (exfalso; omega) | skip
   all_goals
    have hs1 := hs0
    rw [← toList_nil] at hs1
    have HS0 := Lib.hid hs0
    clear hs0 h1
    go_enter Tryz.func68, Tryz.ntmps68
    go_wp2_with (first
     | (go_at_call 94; (with_reducible refine (after6_any _ j _ hjm).mono ?_); rintro e w1 ⟨rfl, hw1⟩; rw [hw1]; clear hw1 w1))
    all_goals
     go_returns
     exact ⟨ret_i64 (by rw [HPX.out]; simp [plainB, hi0, hi1, hn0, HS0.out]), below_new w _⟩
  by_cases h3 : k = 3
  ·subst h3
   have HPX : Hid (X = if plainB ⟨3, i, s, n⟩ then ((j + 1 : Nat) : Int) else -1) := Lib.hid (by rw [← HX.out]; exact px_sc HCL.out (by simp) (by simp))
   by_cases hs0 : s.size = 0
   all_goals by_cases hn0 : n = 0
   all_goals first | (exfalso; omega) | skip
   all_goals
    have hs1 := hs0
    rw [← toList_nil] at hs1
    have HS0 := Lib.hid hs0
    clear hs0 h1 h2
    go_enter Tryz.func68, Tryz.ntmps68
    go_wp2_with (first
     | (go_at_call 94; (with_reducible refine (after6_any _ j _ hjm).mono ?_); rintro e w1 ⟨rfl, hw1⟩; rw [hw1]; clear hw1 w1))
    all_goals
     go_returns
     exact ⟨ret_i64 (by rw [HPX.out]; simp [plainB, hn0, HS0.out]), below_new w _⟩
  by_cases h4 : k = 4
  ·subst h4
   have HPX : Hid (X = if keyB ⟨4, i, s, n⟩ then ((j + 1 : Nat) : Int) else -1) := Lib.hid (by rw [← HX.out, px_sc HCL.out (by simp) (by simp), keyB_eq]; simp)
   obtain ⟨kb, hkb⟩ : ∃ b, keyB ⟨4, i, s, n⟩ = b := ⟨_, rfl⟩
   rw [hkb] at HKY HPX
   clear h1 h2 h3 hkb
   cases kb
   all_goals
    go_enter Tryz.func68, Tryz.ntmps68
    go_wp2_with (first
     | (go_at_call 95; (with_reducible refine (HKY.out _).mono ?_); rintro e w1 ⟨rfl, hb1⟩; have HB1 := Lib.hid (below_call hb1 (below_new w _)); clear hb1)
     | (go_at_call 94; (with_reducible refine (after6_any _ j _ hjm).mono ?_); rintro e w1 ⟨rfl, hw1⟩; rw [hw1]; clear hw1 w1))
    all_goals
     go_returns
     exact ⟨ret_i64 (by rw [HPX.out]; simp), HB1.out⟩
  by_cases h5 : k = 5
  ·subst h5
   by_cases hi0 : i = 0
   all_goals by_cases hs0 : s.size = 0
   all_goals by_cases hn0 : 0 ≤ n
   all_goals
    have hs1 := hs0
    rw [← toList_nil] at hs1
   ·have HPX : Hid (X = shR (elems (px l) 0 n.toNat ⟨j + 1, 0, 0⟩)) := Lib.hid (by rw [← HX.out]; exact px_list HCL.out (by simp [plainB, hi0, hs0, hn0]) rfl)
    have HEL : Hid (∀ wx, SlAt wx (some ⟨bA, off, none⟩) 4 CellD.cells l → Calls Tryz.prog 96 #[.slice (some ⟨bA, off, none⟩) l.length cap, .int .i64 ((j : Int) + 1), .int .i64 n] wx fun e w' => e = .returned (.int .i64 X) ∧ Below wx.heap.size wx w') := Lib.hid (fun wx hx => by
     have := elements_of l (some ⟨bA, off, none⟩) cap (j + 1) (j + 1) n.toNat wx HN.out hx (Nat.le_refl _) (by omega) hl (by omega)
     rw [show ((n.toNat : Nat) : Int) = n by omega, ← HPX.out] at this
     push_cast at this
     exact this)
    clear hs0
    go_enter Tryz.func68, Tryz.ntmps68
    go_wp2_with (first
     | (go_at_call 96; (with_reducible refine (HEL.out _ (HA.out.alloc _)).mono ?_); rintro e w1 ⟨rfl, hb1⟩; have HB1 := Lib.hid (below_call hb1 (below_new w _)); clear hb1))
    go_returns
    exact ⟨rfl, HB1.out⟩
   all_goals
    have HPX : Hid (X = -1) := Lib.hid (by rw [← HX.out]; exact px_bad HCL.out (by simp [plainB, hi0, hs0, hn0]))
    clear hs0
    go_enter Tryz.func68, Tryz.ntmps68
    go_wp2_with (fail)
    all_goals
     go_returns
     exact ⟨ret_i64 HPX.out.symm, below_new w _⟩
  by_cases h6 : k = 6
  ·subst h6
   by_cases hi0 : i = 0
   all_goals by_cases hs0 : s.size = 0
   all_goals by_cases hn0 : 0 ≤ n
   all_goals
    have hs1 := hs0
    rw [← toList_nil] at hs1
   ·have HPX : Hid (X = shR (pairs l (px l) 0 n.toNat none ⟨j + 1, 0, 0⟩)) := Lib.hid (by rw [← HX.out]; exact px_map HCL.out (by simp [plainB, hi0, hs0, hn0]) rfl)
    have HEL : Hid (∀ wx, SlAt wx (some ⟨bA, off, none⟩) 4 CellD.cells l → Calls Tryz.prog 97 #[.slice (some ⟨bA, off, none⟩) l.length cap, .int .i64 ((j : Int) + 1), .int .i64 n] wx fun e w' => e = .returned (.int .i64 X) ∧ Below wx.heap.size wx w') := Lib.hid (fun wx hx => by
     have := pairs_of l (some ⟨bA, off, none⟩) cap (j + 1) (j + 1) n.toNat wx HN.out hx (Nat.le_refl _) (by omega) hl (by omega) (fun c hc => (HK.out c hc).1)
     rw [show ((n.toNat : Nat) : Int) = n by omega, ← HPX.out] at this
     push_cast at this
     exact this)
    clear hs0
    go_enter Tryz.func68, Tryz.ntmps68
    go_wp2_with (first
     | (go_at_call 97; (with_reducible refine (HEL.out _ (HA.out.alloc _)).mono ?_); rintro e w1 ⟨rfl, hb1⟩; have HB1 := Lib.hid (below_call hb1 (below_new w _)); clear hb1))
    go_returns
    exact ⟨rfl, HB1.out⟩
   all_goals
    have HPX : Hid (X = -1) := Lib.hid (by rw [← HX.out]; exact px_bad HCL.out (by simp [plainB, hi0, hs0, hn0]))
    clear hs0
    go_enter Tryz.func68, Tryz.ntmps68
    go_wp2_with (fail)
    all_goals
     go_returns
     exact ⟨ret_i64 HPX.out.symm, below_new w _⟩
  have HPX : Hid (X = -1) := Lib.hid (by rw [← HX.out]; exact px_bad HCL.out (by simp [plainB, h1, h2, h3, h4, h5, h6]))
  go_enter Tryz.func68, Tryz.ntmps68
  go_wp2_with (fail)
  all_goals
   go_returns
   exact ⟨ret_i64 HPX.out.symm, below_new w _⟩
theorem next_from (l : List CellD) (A : Option Addr) (cap : Nat) (hl : l.length ≤ 1000000) (hok : ∀ c ∈ l, okC6 c) : ∀ n a, l.length + 1 - a ≤ n → NextFrom l A cap a
 | 0, a, h => fun j h1 h2 => by omega
 | n + 1, a, h => fun j h1 h2 wx hx => next_at l A cap hl hok j h2 (next_from l A cap hl hok n (j + 1) (by omega)) wx hx
theorem next_any (l : List CellD) (A : Option Addr) (cap : Nat) (hl : l.length ≤ 1000000) (hok : ∀ c ∈ l, okC6 c) : NextFrom l A cap 0 := next_from l A cap hl hok (l.length + 1) 0 (by omega)
end Go.Proofs.YtahcjgjigbedoaaGreatDoor
namespace Go.Proofs.YtahcjgjigbedoaaGreatDoor
open Go.RowKit
set_option maxRecDepth 100000

def formedF (l : List CellD) : Bool := match px l 0 with
 | none => false
 | some r => decide (r.j = l.length)
attribute [local go_sem] cell_alloc_is
set_option maxHeartbeats 2000000 in
theorem formed_any (l : List CellD) (A : Option Addr) (cap : Nat) (hl : l.length ≤ 1000000) (hok : ∀ c ∈ l, okC6 c) (w : World) (h : SlAt w A 4 CellD.cells l) :
  Calls Tryz.prog 44 #[.slice A l.length cap] w fun e w' => e = .returned (.bool (formedF l)) ∧ Below w.heap.size w w' := by
 obtain ⟨X, hX⟩ : ∃ x, formedF l = x := ⟨_, rfl⟩
 rw [hX]
 have HX := Lib.hid hX
 clear hX
 have HC := Lib.hid (next_any l A cap hl hok 0 (Nat.le_refl _) (Nat.zero_le _) w h)
 cases hr : px l 0 with
 | none =>
  have hx : X = false := by rw [← HX.out]; unfold formedF; rw [hr]
  subst hx
  have HC2 : Hid (Calls Tryz.prog 68 #[.slice A l.length cap, .int .i64 0] w fun e w' => e = .returned (.int .i64 (-1)) ∧ Below w.heap.size w w') := Lib.hid (by have := HC.out; rw [hr] at this; exact this)
  clear hr HC h hok
  by_cases h0 : (0 : Int) < (l.length : Int)
  ·have hne : ((-1 : Int) == (l.length : Int)) = false := by simp
   go_enter Tryz.func44, Tryz.ntmps44
   go_wp2_with (first
    | (go_at_call 68; (with_reducible refine HC2.out.mono ?_); rintro e w1 ⟨rfl, hb1⟩; have HB1 := Lib.hid hb1; clear hb1))
   go_returns
   exact ⟨rfl, HB1.out⟩
  ·go_enter Tryz.func44, Tryz.ntmps44
   go_wp2_with (fail)
   go_returns
   exact ⟨rfl, Below.refl _ _⟩
 | some r =>
  have had := px_adv hr
  have h0 : (0 : Int) < (l.length : Int) := by omega
  have HC2 : Hid (Calls Tryz.prog 68 #[.slice A l.length cap, .int .i64 0] w fun e w' => e = .returned (.int .i64 (r.j : Nat)) ∧ Below w.heap.size w w') := Lib.hid (by have := HC.out; rw [hr] at this; exact this)
  have hx : X = decide (r.j = l.length) := by rw [← HX.out]; unfold formedF; rw [hr]
  have HXX := Lib.hid hx
  clear hr HC h hok had hx HX
  by_cases hj : r.j = l.length
  ·have hje : ((r.j : Int) == (l.length : Int)) = true := by simp; omega
   obtain rfl : X = true := by rw [HXX.out]; simpa using hj
   clear hj HXX
   go_enter Tryz.func44, Tryz.ntmps44
   go_wp2_with (first
    | (go_at_call 68; (with_reducible refine HC2.out.mono ?_); rintro e w1 ⟨rfl, hb1⟩; have HB1 := Lib.hid hb1; clear hb1))
   go_returns
   exact ⟨rfl, HB1.out⟩
  ·have hje : ((r.j : Int) == (l.length : Int)) = false := by simp; omega
   obtain rfl : X = false := by rw [HXX.out]; simpa using hj
   clear hj HXX
   go_enter Tryz.func44, Tryz.ntmps44
   go_wp2_with (first
    | (go_at_call 68; (with_reducible refine HC2.out.mono ?_); rintro e w1 ⟨rfl, hb1⟩; have HB1 := Lib.hid hb1; clear hb1))
   go_returns
   exact ⟨rfl, HB1.out⟩
end Go.Proofs.YtahcjgjigbedoaaGreatDoor
