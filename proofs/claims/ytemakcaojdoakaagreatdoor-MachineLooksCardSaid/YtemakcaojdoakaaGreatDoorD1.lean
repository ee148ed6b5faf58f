/- The machines wake: the lexer at the name main. -/
import Derived.Test.YtemakcaojdoakaaGreatDoorPre
import Derived.Handy
import Derived.Test.YtemakcaojdoakaaGreatDoorC9
namespace Go.Proofs.YtemakcaojdoakaaGreatDoor
open Go.RowKit
set_option maxRecDepth 100000

theorem of_letter (c : Int) (w : World) (h : 97 ≤ c) (h2 : c ≤ 122) :
    Calls Tryz.prog 153 #[.int .i32 c] w fun e w' => e = .returned (.int .i64 2) ∧ w' = w := by
  have h3 : (c == 32) = false := by simp; omega
  have h4 : (c == 9) = false := by simp; omega
  have h5 : (c == 10) = false := by simp; omega
  go_enter Tryz.func153, Tryz.ntmps153
  go_wp2
  go_ret
  exact ⟨rfl, rfl⟩

def bMain : ByteArray := ⟨#[109, 97, 105, 110]⟩
def bEmpty : ByteArray := ⟨#[]⟩

theorem mb (i : Nat) (h : i < (⟨#[109, 97, 105, 110]⟩ : ByteArray).size) : (wrap32 (((⟨#[109, 97, 105, 110]⟩ : ByteArray)[i]'h).toNat : Int)) = if i = 0 then 109 else if i = 1 then 97 else if i = 2 then 105 else 110 := by
  have h4 : i < 4 := h
  have : i = 0 ∨ i = 1 ∨ i = 2 ∨ i = 3 := by omega
  rcases this with rfl | rfl | rfl | rfl
  · rw [show ((⟨#[109, 97, 105, 110]⟩ : ByteArray)[0]'h) = (109 : UInt8) from rfl]; decide +kernel
  · rw [show ((⟨#[109, 97, 105, 110]⟩ : ByteArray)[1]'h) = (97 : UInt8) from rfl]; decide +kernel
  · rw [show ((⟨#[109, 97, 105, 110]⟩ : ByteArray)[2]'h) = (105 : UInt8) from rfl]; decide +kernel
  · rw [show ((⟨#[109, 97, 105, 110]⟩ : ByteArray)[3]'h) = (110 : UInt8) from rfl]; decide +kernel
theorem mx : (((⟨#[109, 97, 105, 110]⟩ : ByteArray).extract 0 2).toList == [47, 47]) = false := by kernel_rfl
attribute [local go_sem] mb mx
theorem has_main (w : World) : Calls Tryz.prog 154 #[.string ⟨#[109, 97, 105, 110]⟩, .string ⟨#[47, 47]⟩] w fun e w' => e = .returned (.bool false) ∧ w' = w := by
  go_enter Tryz.func154, Tryz.ntmps154
  go_wp2_with (fail)
  have h : Calls Tryz.prog 174 #[.string ⟨#[109, 97, 105, 110]⟩, .string ⟨#[47, 47]⟩] w fun e w' => e = .returned (.bool false) ∧ w' = w := by
    go_enter Tryz.func174, Tryz.ntmps174
    go_wp2
    go_ret
    exact ⟨rfl, rfl⟩
  refine h.mono ?_
  rintro e w' ⟨rfl, rfl⟩
  go_wp2
  go_ret
  exact ⟨rfl, rfl⟩

theorem keyword_main (w : World) : Calls Tryz.prog 157 #[.string ⟨#[109, 97, 105, 110]⟩] w fun e w' => e = .returned (.bool false) ∧ w' = w := by
  go_enter Tryz.func157, Tryz.ntmps157
  go_wp2
  go_ret
  exact ⟨rfl, rfl⟩

theorem skip_main (w : World) : Calls Tryz.prog 135 #[.string ⟨#[109, 97, 105, 110]⟩] w fun e w' => e = .returned (.int .i64 0) ∧ w' = w := by
  go_enter Tryz.func135, Tryz.ntmps135
  go_wp2_with (fail)
  refine wp_loop_rounds 1 ?_
  rw [rounds_succ]
  go_wp2_with (first
    | (go_at_call 153; with_reducible refine (of_letter _ _ (by decide) (by decide)).mono ?_; rintro e w1 ⟨rfl, rfl⟩)
    | (go_at_call 154; refine (has_main _).mono ?_; rintro e w1 ⟨rfl, rfl⟩))
  go_ret
  exact ⟨rfl, rfl⟩

theorem skip_empty (b : ByteArray) (w : World) (hb : b.size = 0) : Calls Tryz.prog 135 #[.string b] w fun e w' => e = .returned (.int .i64 0) ∧ w' = w := by
  go_enter Tryz.func135, Tryz.ntmps135
  go_wp2_with (fail)
  refine wp_loop_rounds 1 ?_
  rw [rounds_succ]
  go_wp2
  go_ret
  exact ⟨rfl, rfl⟩

theorem run_main (w : World) : Calls Tryz.prog 156 #[.string ⟨#[109, 97, 105, 110]⟩] w fun e w' => e = .returned (.int .i64 4) ∧ w' = w := by
  go_enter Tryz.func156, Tryz.ntmps156
  go_wp2_with (fail)
  refine wp_loop_rounds 5 ?_
  rw [rounds_succ]
  go_wp2_with (first
    | (go_at_call 153; with_reducible refine (of_letter _ _ (by decide) (by decide)).mono ?_; rintro e w1 ⟨rfl, rfl⟩))
  rw [rounds_succ]
  go_wp2_with (first
    | (go_at_call 153; with_reducible refine (of_letter _ _ (by decide) (by decide)).mono ?_; rintro e w1 ⟨rfl, rfl⟩))
  rw [rounds_succ]
  go_wp2_with (first
    | (go_at_call 153; with_reducible refine (of_letter _ _ (by decide) (by decide)).mono ?_; rintro e w1 ⟨rfl, rfl⟩))
  rw [rounds_succ]
  go_wp2_with (first
    | (go_at_call 153; with_reducible refine (of_letter _ _ (by decide) (by decide)).mono ?_; rintro e w1 ⟨rfl, rfl⟩))
  rw [rounds_succ]
  go_wp2
  go_ret
  exact ⟨rfl, rfl⟩

attribute [local go_sem] cell_alloc_is
theorem mf : (⟨#[109, 97, 105, 110]⟩ : ByteArray).extract 0 4 = ⟨#[109, 97, 105, 110]⟩ := by decide +kernel
attribute [local go_sem] mf
set_option maxHeartbeats 2000000 in
theorem token_main (w : World) : Calls Tryz.prog 136 #[.string ⟨#[109, 97, 105, 110]⟩] w fun e w' => e = .returned (.tuple #[.agg #[.int .i64 1, .string ⟨#[109, 97, 105, 110]⟩, .int .i64 0, .int .i64 0], .int .i64 4, .int .i64 0]) ∧ Below w.heap.size w w' := by
  go_enter Tryz.func136, Tryz.ntmps136
  go_wp2_with (first
    | (go_at_call 153; with_reducible refine (of_letter _ _ (by decide) (by decide)).mono ?_; rintro e w1 ⟨rfl, hw1⟩; subst hw1)
    | (go_at_call 156; with_reducible refine (run_main _).mono ?_; rintro e w1 ⟨rfl, hw2⟩; subst hw2)
    | (go_at_call 157; with_reducible refine (keyword_main _).mono ?_; rintro e w1 ⟨rfl, hw3⟩; subst hw3))
  go_returns
  exact ⟨rfl, by go_grown⟩

theorem Tryz.infoTok : (Tryz.prog.info? 162).map (fun i => (i.zero, i.size, i.bytes)) = some (some (.agg #[.int .i64 0, .string ByteArray.empty, .int .i64 0, .int .i64 0]), 4, 40) := by kernel_rfl
theorem mx4 : (⟨#[109, 97, 105, 110]⟩ : ByteArray).extract 4 4 = ⟨#[]⟩ := by decide +kernel
attribute [local go_sem] mx4
/-- One token, the name main. -/
def TokPost (w : World) (e : Ending) (w' : World) : Prop :=
  ∃ g cap, e = .returned (.tuple #[.slice (some ⟨g, 0, none⟩) 1 cap, .int .i64 0, .int .i64 0]) ∧ w'.cell? ⟨g, 0, none⟩ = some (.int .i64 1) ∧ w'.cell? ⟨g, 1, none⟩ = some (.string ⟨#[109, 97, 105, 110]⟩) ∧ 1 ≤ cap ∧ Below w.heap.size w w'
theorem one_own {w : World} {base : Nat} {t : TypeId} {v a b c d : Value} (h : w.ownsRow base t 4 v 1 [a, b, c, d]) : ∃ g cap, v = .slice (some ⟨g, 0, none⟩) 1 cap ∧ 1 ≤ cap ∧ w.cell? ⟨g, 0, none⟩ = some a ∧ w.cell? ⟨g, 1, none⟩ = some b := by
  have h0 := h
  rcases h.2 with ⟨_, h1⟩ | ⟨g, cap, cur, rfl, _, _, h3, _⟩
  · cases h1
  · have hs : SlAt w (some ⟨g, 0, none⟩) 4 (fun _ : Unit => [a, b, c, d]) [()] := SlAt.of_own h0 rfl (fun _ => rfl) (by omega)
    refine ⟨g, cap, rfl, h3, ?_, ?_⟩
    · have := hs.cell (n := 0) (by simp) (j := 0) (v := a) rfl; simpa using this
    · have := hs.cell (n := 0) (by simp) (j := 1) (v := b) rfl; simpa using this
set_option maxHeartbeats 2000000 in
theorem tokens_main (w : World) : Calls Tryz.prog 111 #[.string ⟨#[109, 97, 105, 110]⟩] w (TokPost w) := by
  obtain ⟨i0, hi, hz0, hz1, hz2⟩ := info_parts Tryz.infoTok
  obtain ⟨P, hP⟩ : ∃ P, TokPost w = P := ⟨_, rfl⟩
  rw [hP]
  have HP := Lib.hid hP
  clear hP
  go_enter Tryz.func111, Tryz.ntmps111
  go_wp2_with (first
    | (go_at_call 135; with_reducible refine (skip_main _).mono ?_; rintro e w1 ⟨rfl, hw1⟩; rw [hw1]; clear hw1 w1))
  refine wp_loop_rounds 2 ?_
  rw [rounds_succ]
  go_wp2_with (first
    | (go_at_call 136; with_reducible refine (token_main _).mono ?_; rintro e w2 ⟨rfl, hb2⟩; have HB2 := Lib.hid hb2; have hsz : w.heap.size ≤ (w2.alloc (.cells #[.int .i64 1, .string ⟨#[109, 97, 105, 110]⟩, .int .i64 0, .int .i64 0] 162)).heap.size := Nat.le_trans hb2.size (by simp); clear hb2)
    | (at_builtin; refine wpList_app1 rfl (.tmp 45) (.tmp 47) 157 rfl i0 _ 40 Tryz.underlying157 hi hz0 hz1 hz2 rfl (by omega) rfl (World.ownsRow_nil _ w.heap.size _ _) [.int .i64 1, .string ⟨#[109, 97, 105, 110]⟩, .int .i64 0, .int .i64 0] (by simp [go_sem]) rfl (by simp [Value.oneCell']) (by omega) (by omega) hsz ?_; intro v' w3 hown3 hb3 hs3 hg3; obtain ⟨g3, k3, rfl, hk3, hc0, hc1⟩ := one_own hown3; have HO3 := Lib.hid (And.intro hc0 (And.intro hc1 hk3)); clear hc0 hc1 hk3; have HB3 := Lib.hid hb3; clear hown3 hb3 hs3 hg3)
    | (go_at_call 135; with_reducible refine (skip_empty _ _ (by decide)).mono ?_; rintro e w4 ⟨rfl, hw4⟩; rw [hw4]; clear hw4 w4))
  rw [rounds_succ]
  go_wp2
  rw [← HP.out]
  exact ⟨g3, k3, rfl, HO3.out.1, HO3.out.2.1, HO3.out.2.2, (HB2.out.alloc HB2.out.size _).trans HB3.out⟩

set_option maxHeartbeats 2000000 in
theorem name_main (w : World) : Calls Tryz.prog 82 #[.string ⟨#[109, 97, 105, 110]⟩] w fun e w' => e = .returned (.bool true) ∧ Below w.heap.size w w' := by
  go_enter Tryz.func82, Tryz.ntmps82
  go_wp2_with (fail)
  refine (tokens_main _).mono ?_
  rintro e w1 ⟨g, cap, rfl, h0, h1, h2, hb⟩
  have HB := Lib.hid hb
  clear hb
  go_wp2
  go_returns
  exact ⟨rfl, HB.out⟩
end Go.Proofs.YtemakcaojdoakaaGreatDoor
