/- The machines wake: enter, count. The machines wake: count. -/
import Derived.Test.YtahcjgjigbedoaaGreatDoorD5
import Derived.Test.YtahcjgjigbedoaaGreatDoorGC7
import Derived.Deep.AppendLies
set_option linter.unusedVariables false
set_option linter.unusedSimpArgs false
namespace Go.Proofs.YtahcjgjigbedoaaGreatDoor
open Go.RowKit
set_option maxRecDepth 100000

/-- The cells of an executor of the law's code. -/
def exC (gF gI : Nat) (st er : Int) (vv fv qv : Value) (ls lm sp pk : Int) : Array Value :=
 #[.slice (some ⟨gF, 0, none⟩) 1 1, .slice (some ⟨gI, 0, none⟩) 2 2, .int .i64 st, .int .i64 er, vv, fv, qv, .int .i64 ls, .int .i64 lm, .int .i64 sp, .int .i64 pk]
theorem blkE {w : World} {gE gF gI : Nat} {t : TypeId} {st er ls lm sp pk : Int} {vv fv qv : Value} (h : Blk w gE t (exC gF gI st er vv fv qv ls lm sp pk)) :
  w.cell? ⟨gE, 0, none⟩ = some (.slice (some ⟨gF, 0, none⟩) 1 1) ∧ w.cell? ⟨gE, 1, none⟩ = some (.slice (some ⟨gI, 0, none⟩) 2 2) ∧ w.cell? ⟨gE, 2, none⟩ = some (.int .i64 st) ∧ w.cell? ⟨gE, 3, none⟩ = some (.int .i64 er) ∧
  w.cell? ⟨gE, 4, none⟩ = some vv ∧ w.cell? ⟨gE, 5, none⟩ = some fv ∧ w.cell? ⟨gE, 6, none⟩ = some qv ∧ w.cell? ⟨gE, 7, none⟩ = some (.int .i64 ls) ∧ w.cell? ⟨gE, 8, none⟩ = some (.int .i64 lm) ∧ w.cell? ⟨gE, 9, none⟩ = some (.int .i64 sp) ∧ w.cell? ⟨gE, 10, none⟩ = some (.int .i64 pk) :=
 ⟨h.cell 0 _ rfl, h.cell 1 _ rfl, h.cell 2 _ rfl, h.cell 3 _ rfl, h.cell 4 _ rfl, h.cell 5 _ rfl, h.cell 6 _ rfl, h.cell 7 _ rfl, h.cell 8 _ rfl, h.cell 9 _ rfl, h.cell 10 _ rfl⟩

attribute [local go_sem] cell_alloc_is
set_option maxHeartbeats 4000000 in
theorem enter_ok (gF gI gE : Nat) (lm : Int) (A : Option Addr) (k : Nat) (w : World) (h : CodeAt w gF gI) (hE : Blk w gE 84 (exC gF gI 1 0 (.slice none 0 0) (.slice none 0 0) (.slice none 0 0) 10 lm 0 0)) :
  Calls Tryz.prog 34 #[.pointer (some ⟨gE, 0, none⟩), .int .i64 0, .slice A 1 k] w fun e w' => e = .returned (.tuple #[]) ∧ ∃ g' k', Blk w' gE 84 (exC gF gI 1 0 (.slice none 0 0) (.slice (some ⟨g', 0, none⟩) 1 k') (.slice none 0 0) 10 lm 0 0) ∧
   w'.ownsRow w.heap.size 108 4 (.slice (some ⟨g', 0, none⟩) 1 k') 1 [.int .i64 0, .int .i64 0, .slice A 1 k, .slice none 0 0] ∧ w.grownBy w' (some gE) ∧ KT 84 w w' := by
 obtain ⟨i0, hi, hz0, hz1, hz2⟩ := info_parts Tryz.infoFrame
 have hlt : gE < w.heap.size := lt_of_block hE
 have HE := Lib.hid hE
 have HC := Lib.hid h
 have f0 := h.f
 have e0 := blkE hE
 have z0 := hE.frozen 5
 clear h hE
 go_enter Tryz.func34, Tryz.ntmps34
 go_wp2_with (fail)
 refine wp_loop_rounds 1 ?_
 rw [rounds_succ]
 go_wp2_with (fail)
 obtain ⟨W1, hW1⟩ : ∃ W1, w.alloc (.cells #[.string ⟨#[109, 97, 105, 110]⟩, .int .i64 1, .int .i64 1, .int .i64 0, .int .i64 2] 72) = W1 := ⟨_, rfl⟩
 obtain ⟨g1, hg1⟩ : ∃ g, w.heap.size = g := ⟨_, rfl⟩
 have HE1 : Hid (Blk W1 gE 84 (exC gF gI 1 0 (.slice none 0 0) (.slice none 0 0) (.slice none 0 0) 10 lm 0 0)) := Lib.hid (by rw [← hW1]; exact HE.out.alloc _)
 have HF1 : Hid (Blk W1 g1 72 #[.string ⟨#[109, 97, 105, 110]⟩, .int .i64 1, .int .i64 1, .int .i64 0, .int .i64 2]) := Lib.hid (by rw [← hW1, ← hg1]; exact Blk.new w _ _)
 have HB1 : Hid (Below w.heap.size w W1) := Lib.hid (by rw [← hW1]; exact below_new w _)
 rw [hW1]
 rw [hg1] at hlt ⊢
 have HG1 := Lib.hid hg1
 clear hW1 hg1 f0 e0 z0
 have hsz : g1 ≤ (W1.drew.alloc (.cells #[.int .i64 0, .int .i64 0, .slice A 1 k, .slice none 0 0] 108)).heap.size := by
  have := HB1.out.size; rw [HG1.out] at this; exact Nat.le_trans this (by simp)
 have e1 := blkE HE1.out
 have z1 := HE1.out.frozen 5
 have f1 := blk5 HF1.out
 have HEa := Lib.hid (HE1.out.drew.alloc (.cells #[.int .i64 0, .int .i64 0, .slice A 1 k, .slice none 0 0] 108))
 go_region_law (first
  | (rw [if_pos (by rfl)]; refine wp_append_lies _ (.tmp 31) (.tmp 37) 59 rfl g1 108 i0 _ 4 64 Tryz.underlying59 hi hz0 hz1 hz2 rfl ?k1 (.slice none 0 0) 0 [] rfl (World.ownsRow_nil _ _ _ _) ⟨W1.heap.size, 0, none⟩ 1 1 [.int .i64 0, .int .i64 0, .slice A 1 k, .slice none 0 0] rfl rfl (cells_new W1.drew _ 108) ?k2 ?k3 ?k4 ?k5 ?k6 _ rfl ?_; (case k1 => decide); (case k2 => simp [Value.oneCell']); (case k3 => decide); (case k4 => (unfold maxLen; omega)); (case k5 => omega); (case k6 => exact hsz); intro g6 cap6 w6 hown6 hgr6 _ hlt6; have HE6 := Lib.hid (HEa.out.grown hgr6 (by simp [Value.ownBlock])); have e6 := blkE HE6.out; have z6 := HE6.out.frozen 5; have HO6 := Lib.hid hown6; have HG6 : Hid ((W1.drew.alloc (.cells #[.int .i64 0, .int .i64 0, .slice A 1 k, .slice none 0 0] 108)).grownBy w6 none) := Lib.hid hgr6; clear hown6 hgr6))
 all_goals
  go_wp2_with (fail)
  go_returns
  have hne : g6 ≠ gE := by
   intro he
   rcases HO6.out.2 with ⟨h, _⟩ | ⟨g', c', cur', h, hb, _⟩
   ·cases h
   ·injection h with h1 _ _
    injection h1 with h1
    injection h1 with h1
    omega
  have KE : KT 84 w6 (w6.setCell ⟨gE, 5, none⟩ (.slice (some ⟨g6, 0, none⟩) 1 cap6)) := KT.set HE6.out 5 _
  have hb : Below w.heap.size w w6 := ((HB1.out.drew.alloc HB1.out.size _).grown HG6.out (by rw [HG1.out]; exact hsz) (fun _ h => by cases h))
  refine ⟨rfl, g6, cap6, HE6.out.set_ 5 _, ?_, ?_, (KT.of_below hb).trans KE⟩
  ·rw [HG1.out]; exact KE.own (by decide) HO6.out
  ·exact ⟨hb.os, hb.tape, hb.output, by simpa using hb.size, fun j hj hne' => (Below.heap_setCell _ _ _ _ (fun e => hne' (by rw [e]))).trans (hb.block j hj)⟩
end Go.Proofs.YtahcjgjigbedoaaGreatDoor
namespace Go.Proofs.YtahcjgjigbedoaaGreatDoor
open Go.RowKit
set_option maxRecDepth 100000

attribute [local go_sem] cell_alloc_is
set_option maxHeartbeats 4000000 in
theorem count_ok (m : MachD) (gF gI gE : Nat) (vv fv qv : Value) (w : World) (hst : m.status = 1) (hE : Blk w gE 84 (exC gF gI m.status m.err vv fv qv m.lsteps m.lmem m.steps m.peak))
  (hv : ValV w vv m.value) (hf : FramesV w fv m.frames) (hq : ReqsV w qv m.requests) (hs : SmallF m.frames) (hn : (memN m.frames : Int) ≤ m.lmem) :
  Calls Tryz.prog 36 #[.pointer (some ⟨gE, 0, none⟩)] w fun e w' => e = .returned (.tuple #[]) ∧ Blk w' gE 84 (exC gF gI m.status m.err vv fv qv m.lsteps m.lmem m.steps (max m.peak (memN m.frames))) ∧ w.grownBy w' (some gE) ∧ KT 84 w w' := by
 have HM := Lib.hid (memory_any m _ w ⟨vv, fv, qv, rfl, hv, hf, hq⟩ hs)
 obtain ⟨A1, n1, k1, rfl⟩ := hv.shape
 obtain ⟨A2, n2, k2, rfl⟩ := hf.shape
 obtain ⟨A3, n3, k3, rfl⟩ := hq.shape
 obtain ⟨N, hN⟩ : ∃ N : Int, (memN m.frames : Int) = N := ⟨_, rfl⟩
 rw [hN] at HM hn ⊢
 rw [hst] at hE HM ⊢
 obtain ⟨st, er, va, fr, rq, ls, lm, sp, pk⟩ := m
 dsimp only at HM hE hn ⊢
 have HE := Lib.hid hE
 have hlt : gE < w.heap.size := lt_of_block hE
 have hno : ¬ lm < N := by omega
 clear hE hv hf hq hs hN hst hn
 have e0 := blkE HE.out
 go_enter Tryz.func36, Tryz.ntmps36
 go_wp2_with (first
  | (go_at_call 53; with_reducible refine HM.out.mono ?_; rintro e W1 ⟨rfl, hb1⟩; have HE1 := Lib.hid (HE.out.below hb1); have e1 := blkE HE1.out; have z1 := HE1.out.frozen 10; have HB1 := Lib.hid hb1; clear hb1))
 all_goals
  go_returns
  refine ⟨rfl, ?_, ?_, (KT.of_below HB1.out).trans (KT.set HE1.out 10 _)⟩
  ·first
    | (rw [show max pk N = N by omega]; exact HE1.out.set_ 10 (.int .i64 N))
    | (rw [show max pk N = pk by omega]; exact HE1.out.set_ 10 (.int .i64 pk))
  ·exact ⟨HB1.out.os, HB1.out.tape, HB1.out.output, by simpa using HB1.out.size, fun j hj hne' => (Below.heap_setCell _ _ _ _ (fun e => hne' (by rw [e]))).trans (HB1.out.block j hj)⟩
end Go.Proofs.YtahcjgjigbedoaaGreatDoor
