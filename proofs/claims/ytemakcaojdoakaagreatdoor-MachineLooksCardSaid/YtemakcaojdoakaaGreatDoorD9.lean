/- The machines wake: count. -/
import Derived.Test.YtemakcaojdoakaaGreatDoorD8
namespace Go.Proofs.YtemakcaojdoakaaGreatDoor
open Go.RowKit
set_option maxRecDepth 100000

attribute [local go_sem] cell_alloc_is
set_option maxHeartbeats 4000000 in
theorem count_ok (m : MachD) (gF gI gE : Nat) (vv fv qv : Value) (w : World) (hst : m.status = 1) (hE : Blk w gE 76 (exC gF gI m.status m.err vv fv qv m.lsteps m.lmem m.steps m.peak))
    (hv : ValV w vv m.value) (hf : FramesV w fv m.frames) (hq : ReqsV w qv m.requests) (hs : SmallF m.frames) (hn : (memN m.frames : Int) ≤ m.lmem) :
    Calls Tryz.prog 34 #[.pointer (some ⟨gE, 0, none⟩)] w fun e w' => e = .returned (.tuple #[]) ∧ Blk w' gE 76 (exC gF gI m.status m.err vv fv qv m.lsteps m.lmem m.steps (max m.peak (memN m.frames))) ∧ w.grownBy w' (some gE) ∧ KT 76 w w' := by
  have HM := Lib.hid (memory_any m _ w ⟨vv, fv, qv, rfl, hv, hf, hq⟩ hs)
  obtain ⟨A1, n1, k1, rfl⟩ := hv.shape
  obtain ⟨A2, n2, k2, rfl⟩ := hf.shape
  obtain ⟨A3, n3, k3, rfl⟩ := hq.shape
  obtain ⟨N, hN⟩ : ∃ N : Int, (memN m.frames : Int) = N := ⟨_, rfl⟩
  rw [hN] at HM hn ⊢
  rw [hst] at hE HM ⊢
  obtain ⟨st, er, va, fr, rq, ls, lm, sp, pk⟩ := m
  dsimp only at HM hE hn ⊢
  have HE := Lib.hid hE
  have hlt : gE < w.heap.size := lt_of_block hE
  have hno : ¬ lm < N := by omega
  clear hE hv hf hq hs hN hst hn
  have e0 := blkE HE.out
  go_enter Tryz.func34, Tryz.ntmps34
  go_wp2_with (first
    | (go_at_call 13; with_reducible refine HM.out.mono ?_; rintro e W1 ⟨rfl, hb1⟩; have HE1 := Lib.hid (HE.out.below hb1); have e1 := blkE HE1.out; have z1 := HE1.out.frozen 10; have HB1 := Lib.hid hb1; clear hb1))
  all_goals
    go_returns
    refine ⟨rfl, ?_, ?_, (KT.of_below HB1.out).trans (KT.set HE1.out 10 _)⟩
    · first
        | (rw [show max pk N = N by omega]; exact HE1.out.set_ 10 (.int .i64 N))
        | (rw [show max pk N = pk by omega]; exact HE1.out.set_ 10 (.int .i64 pk))
    · exact ⟨HB1.out.os, HB1.out.tape, HB1.out.output, by simpa using HB1.out.size, fun j hj hne' => (Below.heap_setCell _ _ _ _ (fun e => hne' (by rw [e]))).trans (HB1.out.block j hj)⟩
end Go.Proofs.YtemakcaojdoakaaGreatDoor
