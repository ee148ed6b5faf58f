/- The machines wake: the lexer at the name main. The machines wake: the code, Find, functions. The machines wake: the shapes of operations, formed. -/
import Derived.Test.YtahcjgjigbedoaaGreatDoorGB9
import Derived.Handy
import Derived.Test.YtahcjgjigbedoaaGreatDoorC9
set_option linter.unusedVariables false
set_option linter.unusedSimpArgs false
namespace Go.Proofs.YtahcjgjigbedoaaGreatDoor
open Go.RowKit
set_option maxRecDepth 100000

theorem of_letter (c : Int) (w : World) (h : 97 ≤ c) (h2 : c ≤ 122) :
  Calls Tryz.prog 148 #[.int .i32 c] w fun e w' => e = .returned (.int .i64 2) ∧ w' = w := by
 have h3 : (c == 32) = false := by simp; omega
 have h4 : (c == 9) = false := by simp; omega
 have h5 : (c == 10) = false := by simp; omega
 go_enter Tryz.func148, Tryz.ntmps148
 go_wp2
 go_ret
 exact ⟨rfl, rfl⟩

def bMain : ByteArray := ⟨#[109, 97, 105, 110]⟩
def bEmpty : ByteArray := ⟨#[]⟩

theorem mb (i : Nat) (h : i < (⟨#[109, 97, 105, 110]⟩ : ByteArray).size) : (wrap32 (((⟨#[109, 97, 105, 110]⟩ : ByteArray)[i]'h).toNat : Int)) = if i = 0 then 109 else if i = 1 then 97 else if i = 2 then 105 else 110 := by
 have h4 : i < 4 := h
 have : i = 0 ∨ i = 1 ∨ i = 2 ∨ i = 3 := by omega
 rcases this with rfl | rfl | rfl | rfl
 ·rw [show ((⟨#[109, 97, 105, 110]⟩ : ByteArray)[0]'h) = (109 : UInt8) from rfl]; decide +kernel
 ·rw [show ((⟨#[109, 97, 105, 110]⟩ : ByteArray)[1]'h) = (97 : UInt8) from rfl]; decide +kernel
 ·rw [show ((⟨#[109, 97, 105, 110]⟩ : ByteArray)[2]'h) = (105 : UInt8) from rfl]; decide +kernel
 ·rw [show ((⟨#[109, 97, 105, 110]⟩ : ByteArray)[3]'h) = (110 : UInt8) from rfl]; decide +kernel
theorem mx : (((⟨#[109, 97, 105, 110]⟩ : ByteArray).extract 0 2).toList == [47, 47]) = false := by kernel_rfl
attribute [local go_sem] mb mx
theorem has_main (w : World) : Calls Tryz.prog 149 #[.string ⟨#[109, 97, 105, 110]⟩, .string ⟨#[47, 47]⟩] w fun e w' => e = .returned (.bool false) ∧ w' = w := by
 go_enter Tryz.func149, Tryz.ntmps149
 go_wp2_with (fail)
 have h : Calls Tryz.prog 181 #[.string ⟨#[109, 97, 105, 110]⟩, .string ⟨#[47, 47]⟩] w fun e w' => e = .returned (.bool false) ∧ w' = w := by
  go_enter Tryz.func181, Tryz.ntmps181
  go_wp2
  go_ret
  exact ⟨rfl, rfl⟩
 refine h.mono ?_
 rintro e w' ⟨rfl, rfl⟩
 go_wp2
 go_ret
 exact ⟨rfl, rfl⟩

theorem keyword_main (w : World) : Calls Tryz.prog 152 #[.string ⟨#[109, 97, 105, 110]⟩] w fun e w' => e = .returned (.bool false) ∧ w' = w := by
 go_enter Tryz.func152, Tryz.ntmps152
 go_wp2
 go_ret
 exact ⟨rfl, rfl⟩

theorem skip_main (w : World) : Calls Tryz.prog 121 #[.string ⟨#[109, 97, 105, 110]⟩] w fun e w' => e = .returned (.int .i64 0) ∧ w' = w := by
 go_enter Tryz.func121, Tryz.ntmps121
 go_wp2_with (fail)
 refine wp_loop_rounds 1 ?_
 rw [rounds_succ]
 go_wp2_with (first
  | (go_at_call 148; with_reducible refine (of_letter _ _ (by decide) (by decide)).mono ?_; rintro e w1 ⟨rfl, rfl⟩)
  | (go_at_call 149; refine (has_main _).mono ?_; rintro e w1 ⟨rfl, rfl⟩))
 go_ret
 exact ⟨rfl, rfl⟩

theorem skip_empty (b : ByteArray) (w : World) (hb : b.size = 0) : Calls Tryz.prog 121 #[.string b] w fun e w' => e = .returned (.int .i64 0) ∧ w' = w := by
 go_enter Tryz.func121, Tryz.ntmps121
 go_wp2_with (fail)
 refine wp_loop_rounds 1 ?_
 rw [rounds_succ]
 go_wp2
 go_ret
 exact ⟨rfl, rfl⟩

theorem run_main (w : World) : Calls Tryz.prog 151 #[.string ⟨#[109, 97, 105, 110]⟩] w fun e w' => e = .returned (.int .i64 4) ∧ w' = w := by
 go_enter Tryz.func151, Tryz.ntmps151
 go_wp2_with (fail)
 refine wp_loop_rounds 5 ?_
 rw [rounds_succ]
 go_wp2_with (first
  | (go_at_call 148; with_reducible refine (of_letter _ _ (by decide) (by decide)).mono ?_; rintro e w1 ⟨rfl, rfl⟩))
 rw [rounds_succ]
 go_wp2_with (first
  | (go_at_call 148; with_reducible refine (of_letter _ _ (by decide) (by decide)).mono ?_; rintro e w1 ⟨rfl, rfl⟩))
 rw [rounds_succ]
 go_wp2_with (first
  | (go_at_call 148; with_reducible refine (of_letter _ _ (by decide) (by decide)).mono ?_; rintro e w1 ⟨rfl, rfl⟩))
 rw [rounds_succ]
 go_wp2_with (first
  | (go_at_call 148; with_reducible refine (of_letter _ _ (by decide) (by decide)).mono ?_; rintro e w1 ⟨rfl, rfl⟩))
 rw [rounds_succ]
 go_wp2
 go_ret
 exact ⟨rfl, rfl⟩

attribute [local go_sem] cell_alloc_is
theorem mf : (⟨#[109, 97, 105, 110]⟩ : ByteArray).extract 0 4 = ⟨#[109, 97, 105, 110]⟩ := by decide +kernel
attribute [local go_sem] mf
set_option maxHeartbeats 2000000 in
theorem token_main (w : World) : Calls Tryz.prog 122 #[.string ⟨#[109, 97, 105, 110]⟩] w fun e w' => e = .returned (.tuple #[.agg #[.int .i64 1, .string ⟨#[109, 97, 105, 110]⟩, .int .i64 0, .int .i64 0], .int .i64 4, .int .i64 0]) ∧ Below w.heap.size w w' := by
 go_enter Tryz.func122, Tryz.ntmps122
 go_wp2_with (first
  | (go_at_call 148; with_reducible refine (of_letter _ _ (by decide) (by decide)).mono ?_; rintro e w1 ⟨rfl, hw1⟩; subst hw1)
  | (go_at_call 151; with_reducible refine (run_main _).mono ?_; rintro e w1 ⟨rfl, hw2⟩; subst hw2)
  | (go_at_call 152; with_reducible refine (keyword_main _).mono ?_; rintro e w1 ⟨rfl, hw3⟩; subst hw3))
 go_returns
 exact ⟨rfl, by go_grown⟩

theorem Tryz.infoTok : (Tryz.prog.info? 151).map (fun i => (i.zero, i.size, i.bytes)) = some (some (.agg #[.int .i64 0, .string ByteArray.empty, .int .i64 0, .int .i64 0]), 4, 40) := by kernel_rfl
theorem mx4 : (⟨#[109, 97, 105, 110]⟩ : ByteArray).extract 4 4 = ⟨#[]⟩ := by decide +kernel
attribute [local go_sem] mx4
/-- One token, the name main. -/
def TokPost (w : World) (e : Ending) (w' : World) : Prop :=
 ∃ g cap, e = .returned (.tuple #[.slice (some ⟨g, 0, none⟩) 1 cap, .int .i64 0, .int .i64 0]) ∧ w'.cell? ⟨g, 0, none⟩ = some (.int .i64 1) ∧ w'.cell? ⟨g, 1, none⟩ = some (.string ⟨#[109, 97, 105, 110]⟩) ∧ 1 ≤ cap ∧ Below w.heap.size w w'
theorem one_own {w : World} {base : Nat} {t : TypeId} {v a b c d : Value} (h : w.ownsRow base t 4 v 1 [a, b, c, d]) : ∃ g cap, v = .slice (some ⟨g, 0, none⟩) 1 cap ∧ 1 ≤ cap ∧ w.cell? ⟨g, 0, none⟩ = some a ∧ w.cell? ⟨g, 1, none⟩ = some b := by
 have h0 := h
 rcases h.2 with ⟨_, h1⟩ | ⟨g, cap, cur, rfl, _, _, h3, _⟩
 ·cases h1
 ·have hs : SlAt w (some ⟨g, 0, none⟩) 4 (fun _ : Unit => [a, b, c, d]) [()] := SlAt.of_own h0 rfl (fun _ => rfl) (by omega)
  refine ⟨g, cap, rfl, h3, ?_, ?_⟩
  ·have := hs.cell (n := 0) (by simp) (j := 0) (v := a) rfl; simpa using this
  ·have := hs.cell (n := 0) (by simp) (j := 1) (v := b) rfl; simpa using this
set_option maxHeartbeats 2000000 in
theorem tokens_main (w : World) : Calls Tryz.prog 99 #[.string ⟨#[109, 97, 105, 110]⟩] w (TokPost w) := by
 obtain ⟨i0, hi, hz0, hz1, hz2⟩ := info_parts Tryz.infoTok
 obtain ⟨P, hP⟩ : ∃ P, TokPost w = P := ⟨_, rfl⟩
 rw [hP]
 have HP := Lib.hid hP
 clear hP
 go_enter Tryz.func99, Tryz.ntmps99
 go_wp2_with (first
  | (go_at_call 121; with_reducible refine (skip_main _).mono ?_; rintro e w1 ⟨rfl, hw1⟩; rw [hw1]; clear hw1 w1))
 refine wp_loop_rounds 2 ?_
 rw [rounds_succ]
 go_wp2_with (first
  | (go_at_call 122; with_reducible refine (token_main _).mono ?_; rintro e w2 ⟨rfl, hb2⟩; have HB2 := Lib.hid hb2; have hsz : w.heap.size ≤ (w2.alloc (.cells #[.int .i64 1, .string ⟨#[109, 97, 105, 110]⟩, .int .i64 0, .int .i64 0] 151)).heap.size := Nat.le_trans hb2.size (by simp); clear hb2)
  | (at_builtin; refine wpList_app1 rfl (.tmp 45) (.tmp 47) 146 rfl i0 _ 40 Tryz.underlying146 hi hz0 hz1 hz2 rfl (by omega) rfl (World.ownsRow_nil _ w.heap.size _ _) [.int .i64 1, .string ⟨#[109, 97, 105, 110]⟩, .int .i64 0, .int .i64 0] (by simp [go_sem]) rfl (by simp [Value.oneCell']) (by omega) (by omega) hsz ?_; intro v' w3 hown3 hb3 hs3 hg3; obtain ⟨g3, k3, rfl, hk3, hc0, hc1⟩ := one_own hown3; have HO3 := Lib.hid (And.intro hc0 (And.intro hc1 hk3)); clear hc0 hc1 hk3; have HB3 := Lib.hid hb3; clear hown3 hb3 hs3 hg3)
  | (go_at_call 121; with_reducible refine (skip_empty _ _ (by decide)).mono ?_; rintro e w4 ⟨rfl, hw4⟩; rw [hw4]; clear hw4 w4))
 rw [rounds_succ]
 go_wp2
 rw [← HP.out]
 exact ⟨g3, k3, rfl, HO3.out.1, HO3.out.2.1, HO3.out.2.2, (HB2.out.alloc HB2.out.size _).trans HB3.out⟩

set_option maxHeartbeats 2000000 in
theorem name_main (w : World) : Calls Tryz.prog 71 #[.string ⟨#[109, 97, 105, 110]⟩] w fun e w' => e = .returned (.bool true) ∧ Below w.heap.size w w' := by
 go_enter Tryz.func71, Tryz.ntmps71
 go_wp2_with (fail)
 refine (tokens_main _).mono ?_
 rintro e w1 ⟨g, cap, rfl, h0, h1, h2, hb⟩
 have HB := Lib.hid hb
 clear hb
 go_wp2
 go_returns
 exact ⟨rfl, HB.out⟩
end Go.Proofs.YtahcjgjigbedoaaGreatDoor
namespace Go.Proofs.YtahcjgjigbedoaaGreatDoor
open Go.RowKit
set_option maxRecDepth 100000

/-- The code that the law runs: one function main of one parameter; load 0, return. -/
def CodeAt (w : World) (gF gI : Nat) : Prop :=
 Blk w gF 72 #[.string ⟨#[109, 97, 105, 110]⟩, .int .i64 1, .int .i64 1, .int .i64 0, .int .i64 2] ∧
 Blk w gI 75 #[.int .i64 5, .int .i64 0, .string ⟨#[]⟩, .slice none 0 0, .int .i64 20, .int .i64 0, .string ⟨#[]⟩, .slice none 0 0]
theorem CodeAt.below {w w' : World} {gF gI : Nat} (h : CodeAt w gF gI) (hb : Below w.heap.size w w') : CodeAt w' gF gI := ⟨h.1.below hb, h.2.below hb⟩
theorem CodeAt.f {w : World} {gF gI : Nat} (h : CodeAt w gF gI) :
  w.cell? ⟨gF, 0, none⟩ = some (.string ⟨#[109, 97, 105, 110]⟩) ∧ w.cell? ⟨gF, 1, none⟩ = some (.int .i64 1) ∧ w.cell? ⟨gF, 2, none⟩ = some (.int .i64 1) ∧ w.cell? ⟨gF, 3, none⟩ = some (.int .i64 0) ∧ w.cell? ⟨gF, 4, none⟩ = some (.int .i64 2) :=
 ⟨h.1.cell 0 _ rfl, h.1.cell 1 _ rfl, h.1.cell 2 _ rfl, h.1.cell 3 _ rfl, h.1.cell 4 _ rfl⟩
theorem CodeAt.i0 {w : World} {gF gI : Nat} (h : CodeAt w gF gI) :
  w.cell? ⟨gI, 0, none⟩ = some (.int .i64 5) ∧ w.cell? ⟨gI, 1, none⟩ = some (.int .i64 0) ∧ w.cell? ⟨gI, 2, none⟩ = some (.string ⟨#[]⟩) ∧ w.cell? ⟨gI, 3, none⟩ = some (.slice none 0 0) ∧
  w.cell? ⟨gI, 4, none⟩ = some (.int .i64 20) ∧ w.cell? ⟨gI, 5, none⟩ = some (.int .i64 0) ∧ w.cell? ⟨gI, 6, none⟩ = some (.string ⟨#[]⟩) ∧ w.cell? ⟨gI, 7, none⟩ = some (.slice none 0 0) :=
 ⟨h.2.cell 0 _ rfl, h.2.cell 1 _ rfl, h.2.cell 2 _ rfl, h.2.cell 3 _ rfl, h.2.cell 4 _ rfl, h.2.cell 5 _ rfl, h.2.cell 6 _ rfl, h.2.cell 7 _ rfl⟩

theorem blk5 {w : World} {g : Nat} {t : TypeId} {v0 v1 v2 v3 v4 : Value} (h : Blk w g t #[v0, v1, v2, v3, v4]) : w.cell? ⟨g, 0, none⟩ = some v0 ∧ w.cell? ⟨g, 1, none⟩ = some v1 ∧ w.cell? ⟨g, 2, none⟩ = some v2 ∧ w.cell? ⟨g, 3, none⟩ = some v3 ∧ w.cell? ⟨g, 4, none⟩ = some v4 :=
 ⟨h.cell 0 _ rfl, h.cell 1 _ rfl, h.cell 2 _ rfl, h.cell 3 _ rfl, h.cell 4 _ rfl⟩
attribute [local go_sem] cell_alloc_is
set_option maxHeartbeats 2000000 in
theorem find_main (gF gI : Nat) (w : World) (h : CodeAt w gF gI) :
  Calls Tryz.prog 33 #[.agg #[.slice (some ⟨gF, 0, none⟩) 1 1, .slice (some ⟨gI, 0, none⟩) 2 2], .string ⟨#[109, 97, 105, 110]⟩] w fun e w' => e = .returned (.int .i64 0) ∧ Below w.heap.size w w' := by
 have hf := h.f
 have HC := Lib.hid h
 clear h
 go_enter Tryz.func33, Tryz.ntmps33
 go_wp2_with (fail)
 go_enter Tryz.func50, Tryz.ntmps50
 go_wp2_with (fail)
 refine wp_loop_rounds 1 ?_
 rw [rounds_succ]
 go_wp2_with (first
  | (go_at_call 51; go_enter Tryz.func51, Tryz.ntmps51))
 go_returns
 exact ⟨rfl, by go_grown⟩

set_option maxHeartbeats 2000000 in
theorem functions_ok (gF gI : Nat) (w : World) (h : CodeAt w gF gI) :
  Calls Tryz.prog 47 #[.agg #[.slice (some ⟨gF, 0, none⟩) 1 1, .slice (some ⟨gI, 0, none⟩) 2 2]] w fun e w' => e = .returned (.tuple #[.int .i64 0, .int .i64 0]) ∧ Below w.heap.size w w' := by
 have hf := h.f
 have HC := Lib.hid h
 clear h
 go_enter Tryz.func47, Tryz.ntmps47
 go_wp2_with (fail)
 have HX := Lib.hid ((Blk.new w 41 #[.slice (some ⟨gF, 0, none⟩) 1 1, .slice (some ⟨gI, 0, none⟩) 2 2]).alloc (.cells #[.string ⟨#[109, 97, 105, 110]⟩, .int .i64 1, .int .i64 1, .int .i64 0, .int .i64 2] 72))
 have HY := Lib.hid (Blk.second w (.cells #[.slice (some ⟨gF, 0, none⟩) 1 1, .slice (some ⟨gI, 0, none⟩) 2 2] 41) 72 #[.string ⟨#[109, 97, 105, 110]⟩, .int .i64 1, .int .i64 1, .int .i64 0, .int .i64 2])
 refine wp_loop_rounds 2 ?_
 rw [rounds_succ]
 go_wp2_with (first
  | (go_at_call 71; with_reducible refine (name_main _).mono ?_; rintro e w1 ⟨rfl, hb1⟩; have HB1 := Lib.hid (below_call hb1 (below_2 w _ _)); have HC1 := Lib.hid (HC.out.below HB1.out); have hf1 := HC1.out.f; have HX1 := Lib.hid (HX.out.below hb1); have HY1 := Lib.hid (HY.out.below hb1); have gx1 := blk2 HX1.out; have gy1 := blk5 HY1.out; clear hb1)
  | (go_at_call 33; with_reducible refine (find_main _ _ _ HC1.out).mono ?_; rintro e w2 ⟨rfl, hb2⟩; have HB2 := Lib.hid (below_call hb2 HB1.out); have HC2 := Lib.hid (HC.out.below HB2.out); have hf2 := HC2.out.f; have HX2 := Lib.hid (HX1.out.below hb2); have HY2 := Lib.hid (HY1.out.below hb2); have gx2 := blk2 HX2.out; have gy2 := blk5 HY2.out; clear hb2)
  | (go_at_call 72; go_enter Tryz.func72, Tryz.ntmps72))
 rw [rounds_succ]
 go_wp2
 go_returns
 exact ⟨rfl, HB2.out⟩
end Go.Proofs.YtahcjgjigbedoaaGreatDoor
namespace Go.Proofs.YtahcjgjigbedoaaGreatDoor
open Go.RowKit
set_option maxRecDepth 100000

def shapeCells : List Value := [
 .string ⟨#[]⟩, .bool false, .bool false, .bool false, .int .i64 0, .int .i64 0,
 .string ⟨#[110, 117, 108, 108]⟩, .bool false, .bool false, .bool false, .int .i64 0, .int .i64 1,
 .string ⟨#[98, 111, 111, 108]⟩, .bool true, .bool false, .bool false, .int .i64 0, .int .i64 1,
 .string ⟨#[105, 110, 116]⟩, .bool true, .bool false, .bool false, .int .i64 0, .int .i64 1,
 .string ⟨#[115, 116, 114]⟩, .bool false, .bool true, .bool false, .int .i64 0, .int .i64 1,
 .string ⟨#[108, 111, 97, 100]⟩, .bool true, .bool false, .bool false, .int .i64 0, .int .i64 1,
 .string ⟨#[115, 116, 111, 114, 101]⟩, .bool true, .bool false, .bool false, .int .i64 1, .int .i64 0,
 .string ⟨#[112, 111, 112]⟩, .bool false, .bool false, .bool false, .int .i64 1, .int .i64 0,
 .string ⟨#[117, 110, 97, 114, 121]⟩, .bool false, .bool true, .bool false, .int .i64 1, .int .i64 1,
 .string ⟨#[98, 105, 110, 97, 114, 121]⟩, .bool false, .bool true, .bool false, .int .i64 2, .int .i64 1,
 .string ⟨#[105, 110, 100, 101, 120]⟩, .bool false, .bool false, .bool false, .int .i64 2, .int .i64 1,
 .string ⟨#[108, 105, 115, 116]⟩, .bool true, .bool false, .bool false, .int .i64 (-1), .int .i64 1,
 .string ⟨#[109, 97, 112]⟩, .bool true, .bool false, .bool true, .int .i64 (-1), .int .i64 1,
 .string ⟨#[106, 117, 109, 112]⟩, .bool true, .bool false, .bool false, .int .i64 0, .int .i64 0,
 .string ⟨#[102, 97, 108, 115, 101]⟩, .bool true, .bool false, .bool false, .int .i64 1, .int .i64 0,
 .string ⟨#[116, 101, 115, 116]⟩, .bool false, .bool false, .bool false, .int .i64 1, .int .i64 1,
 .string ⟨#[100, 117, 112]⟩, .bool false, .bool false, .bool false, .int .i64 1, .int .i64 2,
 .string ⟨#[99, 97, 108, 108]⟩, .bool true, .bool false, .bool false, .int .i64 (-1), .int .i64 1,
 .string ⟨#[98, 117, 105, 108, 116]⟩, .bool true, .bool true, .bool false, .int .i64 (-1), .int .i64 1,
 .string ⟨#[104, 111, 115, 116]⟩, .bool true, .bool true, .bool false, .int .i64 (-1), .int .i64 1,
 .string ⟨#[114, 101, 116, 117, 114, 110]⟩, .bool false, .bool false, .bool false, .int .i64 1, .int .i64 0]
/-- The table of the operations' shapes stands. -/
def Shaped (w : World) : Prop := ∀ (i : Nat) (v : Value), shapeCells[i]? = some v → w.cell? ⟨0, i, none⟩ = some v
theorem Shaped.below {w w' : World} (h : Shaped w) (hb : Below w.heap.size w w') : Shaped w' := fun i v hv => by
 have := h i v hv
 rw [hb.cell (p := ⟨_, i, none⟩) (World.block_lt_of_cell? w _ (by rw [this]))]
 exact this
theorem Shaped.s5 {w : World} (h : Shaped w) : w.cell? ⟨0, 30, none⟩ = some (.string ⟨#[108, 111, 97, 100]⟩) ∧ w.cell? ⟨0, 31, none⟩ = some (.bool true) ∧ w.cell? ⟨0, 32, none⟩ = some (.bool false) ∧ w.cell? ⟨0, 33, none⟩ = some (.bool false) ∧ w.cell? ⟨0, 34, none⟩ = some (.int .i64 0) ∧ w.cell? ⟨0, 35, none⟩ = some (.int .i64 1) := ⟨h 30 _ rfl, h 31 _ rfl, h 32 _ rfl, h 33 _ rfl, h 34 _ rfl, h 35 _ rfl⟩
theorem Shaped.s20 {w : World} (h : Shaped w) : w.cell? ⟨0, 120, none⟩ = some (.string ⟨#[114, 101, 116, 117, 114, 110]⟩) ∧ w.cell? ⟨0, 121, none⟩ = some (.bool false) ∧ w.cell? ⟨0, 122, none⟩ = some (.bool false) ∧ w.cell? ⟨0, 123, none⟩ = some (.bool false) ∧ w.cell? ⟨0, 124, none⟩ = some (.int .i64 1) ∧ w.cell? ⟨0, 125, none⟩ = some (.int .i64 0) := ⟨h 120 _ rfl, h 121 _ rfl, h 122 _ rfl, h 123 _ rfl, h 124 _ rfl, h 125 _ rfl⟩

attribute [local go_sem] cell_alloc_is
set_option maxHeartbeats 2000000 in
theorem formed_load (gF gI : Nat) (w : World) (h : Shaped w) :
  Calls Tryz.prog 48 #[.agg #[.slice (some ⟨gF, 0, none⟩) 1 1, .slice (some ⟨gI, 0, none⟩) 2 2], .agg #[.string ⟨#[109, 97, 105, 110]⟩, .int .i64 1, .int .i64 1, .int .i64 0, .int .i64 2], .agg #[.int .i64 5, .int .i64 0, .string ⟨#[]⟩, .slice none 0 0]] w fun e w' => e = .returned (.bool true) ∧ Below w.heap.size w w' := by
 have hs := h.s5
 have HS := Lib.hid h
 clear h
 go_enter Tryz.func48, Tryz.ntmps48
 go_wp2_with (first
  | (go_at_call 73; go_enter Tryz.func73, Tryz.ntmps73)
  | (go_at_call 74; go_enter Tryz.func74, Tryz.ntmps74)
  | (go_at_call 72; go_enter Tryz.func72, Tryz.ntmps72))
 go_returns
 exact ⟨rfl, by go_grown⟩

set_option maxHeartbeats 2000000 in
theorem formed_ret (gF gI : Nat) (w : World) (h : Shaped w) :
  Calls Tryz.prog 48 #[.agg #[.slice (some ⟨gF, 0, none⟩) 1 1, .slice (some ⟨gI, 0, none⟩) 2 2], .agg #[.string ⟨#[109, 97, 105, 110]⟩, .int .i64 1, .int .i64 1, .int .i64 0, .int .i64 2], .agg #[.int .i64 20, .int .i64 0, .string ⟨#[]⟩, .slice none 0 0]] w fun e w' => e = .returned (.bool true) ∧ Below w.heap.size w w' := by
 have hs := h.s20
 have HS := Lib.hid h
 clear h
 go_enter Tryz.func48, Tryz.ntmps48
 go_wp2_with (first
  | (go_at_call 73; go_enter Tryz.func73, Tryz.ntmps73)
  | (go_at_call 74; go_enter Tryz.func74, Tryz.ntmps74))
 go_returns
 exact ⟨rfl, by go_grown⟩
end Go.Proofs.YtahcjgjigbedoaaGreatDoor
