/- The machines wake: back. -/
import Derived.Test.YtemakcaojdoakaaGreatDoorD15
namespace Go.Proofs.YtemakcaojdoakaaGreatDoor
open Go.RowKit
set_option maxRecDepth 100000

theorem grown_set1 (w : World) (g i : Nat) (u : Value) : w.grownBy ((w.setCell ⟨g, i, none⟩ u).drew) (some g) :=
  ⟨rfl, rfl, rfl, by simp, fun k hk hne => Below.heap_setCell _ _ _ _ (fun e => hne (by rw [e]))⟩
attribute [local go_sem] cell_alloc_is
set_option maxHeartbeats 4000000 in
theorem back_ok (gF gI gE gR kR gS kS : Nat) (st er ls lm sp pk : Int) (vv qv : Value) (A : Option Addr) (n k : Nat) (cs cl : Array Value) (w : World) (hE : Blk w gE 76 (exC gF gI st er vv (.slice (some ⟨gR, 0, none⟩) 1 kR) qv ls lm sp pk)) (hkR : 1 ≤ kR)
    (hR : Blk w gR 37 cs) (h3 : cs[3]? = some (.slice (some ⟨gS, 0, none⟩) 1 kS)) (hk : 1 ≤ kS) (hS : Blk w gS 24 cl) (hl0 : cl[0]? = some (.slice A n k)) :
    Calls Tryz.prog 59 #[.pointer (some ⟨gE, 0, none⟩), .agg #[.int .i64 20, .int .i64 0, .string ⟨#[]⟩, .slice none 0 0]] w fun e w' => e = .returned (.int .i64 0) ∧ Blk w' gE 76 (exC gF gI 3 er (.slice A n k) (.slice none 0 0) qv ls lm sp pk) ∧
      ∃ w1, w.grownBy w1 (some gR) ∧ KT 37 w w1 ∧ w1.grownBy w' (some gE) ∧ KT 76 w1 w' := by
  have HE := Lib.hid (hE.alloc (.cells #[.int .i64 20, .int .i64 0, .string ⟨#[]⟩, .slice none 0 0] 46))
  have HR := Lib.hid (hR.alloc (.cells #[.int .i64 20, .int .i64 0, .string ⟨#[]⟩, .slice none 0 0] 46))
  have HS := Lib.hid (hS.alloc (.cells #[.int .i64 20, .int .i64 0, .string ⟨#[]⟩, .slice none 0 0] 46))
  have HI := Lib.hid (Blk.new w 46 #[.int .i64 20, .int .i64 0, .string ⟨#[]⟩, .slice none 0 0])
  have hlt : gE < w.heap.size := lt_of_block hE
  have hltR : gR < w.heap.size := lt_of_block hR
  clear hE hR hS
  go_enter Tryz.func59, Tryz.ntmps59
  go_upto_region 4 with (first
    | (go_at_call 74; with_reducible refine (pop_ok gF gI gE gR kR gS kS _ _ _ _ _ _ _ _ (.slice A n k) cs cl _ HE.out HR.out h3 hk HS.out hl0 rfl).mono ?_; rintro e W1 ⟨g1, k1, v1, rfl, hb1, hc1, hg1, hl1, hgr1, hk1⟩; have HE1 := Lib.hid (hk1.blk (by decide) HE.out); have HR1 := Lib.hid hb1; have HG1 := Lib.hid hgr1; have HK1 := Lib.hid hk1; have HL1 := Lib.hid hg1; have e1 := blkE HE1.out; have z1 := HE1.out.frozen 5; clear hb1 hgr1 hk1))
  have hw0 : IntKind.i64.wrap 0 = 0 := by decide
  have hk0 : (0 : Int) ≤ (kR : Int) := by omega
  go_region
  have hE5 := (HE1.out.set_ 5 (.slice (some ⟨gR, 0, none⟩) 0 kR)).drew
  have K5 := (KT.set HE1.out 5 (.slice (some ⟨gR, 0, none⟩) 0 kR)).trans (KT.of_below (below_drew _))
  have hne1 : gE ≠ g1 := by
    have := hg1
    simp at this
    omega
  have hc5 : ((W1.setCell ⟨gE, 5, none⟩ (.slice (some ⟨gR, 0, none⟩) 0 kR)).drew).cell? ⟨g1, 0, none⟩ = some (.slice A n k) := by
    have : (W1.setCell ⟨gE, 5, none⟩ (.slice (some ⟨gR, 0, none⟩) 0 kR)).cell? ⟨g1, 0, none⟩ = some (.slice A n k) := by
      rw [World.cell?_setCell_far _ _ _ _ (by simpa using fun e => hne1 e)]; exact hc1
    exact this
  have hg5 : W1.grownBy ((W1.setCell ⟨gE, 5, none⟩ (.slice (some ⟨gR, 0, none⟩) 0 kR)).drew) (some gE) := grown_set1 W1 gE 5 _
  obtain ⟨W5, hW5⟩ : ∃ W5, (W1.setCell ⟨gE, 5, none⟩ (.slice (some ⟨gR, 0, none⟩) 0 kR)).drew = W5 := ⟨_, rfl⟩
  rw [hW5] at hE5 K5 hc5 hg5 ⊢
  clear hW5 e1 z1 hw0 hk0 hc1
  have HE5 : Hid (Blk W5 gE 76 (exC gF gI st er vv (.slice (some ⟨gR, 0, none⟩) 0 kR) qv ls lm sp pk)) := Lib.hid hE5
  have HK5 := Lib.hid K5
  have HG5 := Lib.hid hg5
  clear hE5 K5 hg5
  have e5 := blkE HE5.out
  have z2 := HE5.out.frozen 0
  have z2' := HE5.out.frozen 2
  have z4 := HE5.out.frozen 4
  have z5 := HE5.out.frozen 5
  go_wp2_with (fail)
  go_returns
  have b2 := HE5.out.set_ 2 (.int .i64 3)
  have b4 := b2.set_ 4 (.slice A n k)
  have b5 := b4.set_ 5 (.slice none 0 0)
  refine ⟨rfl, b5, W1, ?_, (KT.of_below (below_new w _)).trans HK1.out, ?_, (HK5.out.trans (KT.set HE5.out 2 _)).trans ((KT.set b2 4 _).trans (KT.set b4 5 _))⟩
  · exact ⟨HG1.out.os, HG1.out.tape, HG1.out.output, Nat.le_trans (by simp) HG1.out.size, fun j hj hne => (HG1.out.block j (Nat.lt_of_lt_of_le hj (by simp)) hne).trans (Below.heap_alloc w _ j hj)⟩
  · exact Lib.Hx.grownBy_set (Lib.Hx.grownBy_set (Lib.Hx.grownBy_set HG5.out ⟨gE, 2, none⟩ rfl _) ⟨gE, 4, none⟩ rfl _) ⟨gE, 5, none⟩ rfl _
end Go.Proofs.YtemakcaojdoakaaGreatDoor
