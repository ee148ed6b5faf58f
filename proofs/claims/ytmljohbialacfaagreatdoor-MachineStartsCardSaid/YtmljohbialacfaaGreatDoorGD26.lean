/- The machines wake: Run, one step. The machines wake: Step; awake. The machines wake: awake. -/
import Derived.Test.YtmljohbialacfaaGreatDoorGD24
import Derived.Test.YtmljohbialacfaaGreatDoorD23
set_option linter.unusedVariables false
set_option linter.unusedSimpArgs false
namespace Go.Proofs.YtmljohbialacfaaGreatDoor
open Go.RowKit
set_option maxRecDepth 100000

attribute [local go_sem] cell_alloc_is
set_option maxHeartbeats 8000000 in
theorem run_one (gF gI : Nat) (v : Value) (w : World) (h : CodeAt w gF gI) (hm : MachV w v (m1 10)) :
  Calls Tryz.prog 13 #[.agg #[.slice (some ⟨gF, 0, none⟩) 1 1, .slice (some ⟨gI, 0, none⟩) 2 2], v, .int .i64 1] w fun e w' => ∃ x, e = .returned x ∧ OMach w' w.heap.size x ⟨1, 0, [], [⟨0, 1, [[c7]], [[c7]]⟩], [], 10, 10, 1, 2⟩ ∧ Below w.heap.size w w' := by
 have HM := Lib.hid hm
 have HC := Lib.hid h
 obtain ⟨vv, fv, qv, rfl, hv, hf, hq⟩ := hm
 obtain ⟨A1, n1, k1, rfl⟩ := hv.shape
 obtain ⟨A2, n2, k2, rfl⟩ := hf.shape
 obtain ⟨A3, n3, k3, rfl⟩ := hq.shape
 clear hv hf hq h
 have hm1 : (m1 10) = ⟨1, 0, [], [⟨0, 0, [[c7]], []⟩], [], 10, 10, 0, 1⟩ := rfl
 dsimp only [m1] at HM ⊢
 clear hm1
 go_enter Tryz.func13, Tryz.ntmps13
 go_upto_region 1 with fail
 have HB := Lib.hid (below_3 w (.cells #[.slice (some ⟨gF, 0, none⟩) 1 1, .slice (some ⟨gI, 0, none⟩) 2 2] 25) (.cells #[.int .i64 1, .int .i64 0, .slice A1 n1 k1, .slice A2 n2 k2, .slice A3 n3 k3, .int .i64 10, .int .i64 10, .int .i64 0, .int .i64 1] 37) (.cells #[.int .i64 0, .int .i64 0, .slice none 0 0, .slice none 0 0, .slice none 0 0, .int .i64 0, .int .i64 0, .int .i64 0, .int .i64 0] 37))
 have HGC := Lib.hid (((Blk.new w 25 #[.slice (some ⟨gF, 0, none⟩) 1 1, .slice (some ⟨gI, 0, none⟩) 2 2]).alloc (.cells #[.int .i64 1, .int .i64 0, .slice A1 n1 k1, .slice A2 n2 k2, .slice A3 n3 k3, .int .i64 10, .int .i64 10, .int .i64 0, .int .i64 1] 37)).alloc (.cells #[.int .i64 0, .int .i64 0, .slice none 0 0, .slice none 0 0, .slice none 0 0, .int .i64 0, .int .i64 0, .int .i64 0, .int .i64 0] 37))
 have HGM := Lib.hid ((Blk.second w (.cells #[.slice (some ⟨gF, 0, none⟩) 1 1, .slice (some ⟨gI, 0, none⟩) 2 2] 25) 37 #[.int .i64 1, .int .i64 0, .slice A1 n1 k1, .slice A2 n2 k2, .slice A3 n3 k3, .int .i64 10, .int .i64 10, .int .i64 0, .int .i64 1]).alloc (.cells #[.int .i64 0, .int .i64 0, .slice none 0 0, .slice none 0 0, .slice none 0 0, .int .i64 0, .int .i64 0, .int .i64 0, .int .i64 0] 37))
 have HGZ := Lib.hid (Blk.third w (.cells #[.slice (some ⟨gF, 0, none⟩) 1 1, .slice (some ⟨gI, 0, none⟩) 2 2] 25) (.cells #[.int .i64 1, .int .i64 0, .slice A1 n1 k1, .slice A2 n2 k2, .slice A3 n3 k3, .int .i64 10, .int .i64 10, .int .i64 0, .int .i64 1] 37) 37 #[.int .i64 0, .int .i64 0, .slice none 0 0, .slice none 0 0, .slice none 0 0, .int .i64 0, .int .i64 0, .int .i64 0, .int .i64 0])
 obtain ⟨W, hW⟩ : ∃ W, ((w.alloc (.cells #[.slice (some ⟨gF, 0, none⟩) 1 1, .slice (some ⟨gI, 0, none⟩) 2 2] 25)).alloc (.cells #[.int .i64 1, .int .i64 0, .slice A1 n1 k1, .slice A2 n2 k2, .slice A3 n3 k3, .int .i64 10, .int .i64 10, .int .i64 0, .int .i64 1] 37)).alloc (.cells #[.int .i64 0, .int .i64 0, .slice none 0 0, .slice none 0 0, .slice none 0 0, .int .i64 0, .int .i64 0, .int .i64 0, .int .i64 0] 37) = W := ⟨_, rfl⟩
 rw [hW] at HB HGC HGM HGZ ⊢
 obtain ⟨gC, hgC⟩ : ∃ g, w.heap.size = g := ⟨_, rfl⟩
 obtain ⟨gM, hgM⟩ : ∃ g, w.heap.size + 1 = g := ⟨_, rfl⟩
 obtain ⟨gZ, hgZ⟩ : ∃ g, w.heap.size + 1 + 1 = g := ⟨_, rfl⟩
 have HGCe := Lib.hid hgC
 have HCC : Hid (Blk W gC 25 #[.slice (some ⟨gF, 0, none⟩) 1 1, .slice (some ⟨gI, 0, none⟩) 2 2]) := Lib.hid (by rw [← hgC]; exact HGC.out)
 have HMM : Hid (Blk W gM 37 #[.int .i64 1, .int .i64 0, .slice A1 n1 k1, .slice A2 n2 k2, .slice A3 n3 k3, .int .i64 10, .int .i64 10, .int .i64 0, .int .i64 1]) := Lib.hid (by rw [← hgM]; exact HGM.out)
 have HZZ : Hid (Blk W gZ 37 #[.int .i64 0, .int .i64 0, .slice none 0 0, .slice none 0 0, .slice none 0 0, .int .i64 0, .int .i64 0, .int .i64 0, .int .i64 0]) := Lib.hid (by rw [← hgZ]; exact HGZ.out)
 have HLZ : Hid (w.heap.size ≤ gZ) := Lib.hid (by rw [← hgZ]; omega)
 have HLZ2 : Hid (gZ < W.heap.size) := Lib.hid HZZ.out.lt
 rw [hgZ, hgM, hgC]
 have HCW := Lib.hid (HC.out.below HB.out)
 have HMW := Lib.hid (HM.out.below HB.out)
 clear hW hgC hgM hgZ HGC HGM HGZ HC HM
 have HO1 : Hid (Calls Tryz.prog 35 #[.agg #[.int .i64 1, .int .i64 0, .slice A1 n1 k1, .slice A2 n2 k2, .slice A3 n3 k3, .int .i64 10, .int .i64 10, .int .i64 0, .int .i64 1]] W.drew fun e w' => ∃ v', e = .returned v' ∧ OMach w' W.heap.size v' (m1 10) ∧ Below W.heap.size W w') :=
  Lib.hid ((own_any _ _ W.drew HMW.out (by simp) (by simp)).mono fun e w' ⟨v', he, ho, hb⟩ => ⟨v', he, ho, below_call hb (below_drew W)⟩)
 have HO2 : Hid (Calls Tryz.prog 35 #[.agg #[.int .i64 1, .int .i64 0, .slice A1 n1 k1, .slice A2 n2 k2, .slice A3 n3 k3, .int .i64 10, .int .i64 10, .int .i64 0, .int .i64 1]] (W.alloc (.cells #[.slice none 0 0, .slice none 0 0, .int .i64 0, .int .i64 0, .slice none 0 0, .slice none 0 0, .slice none 0 0, .int .i64 0, .int .i64 0, .int .i64 0, .int .i64 0] 69)).drew fun e w' => ∃ v', e = .returned v' ∧ OMach w' W.heap.size v' (m1 10) ∧ Below W.heap.size W w' ∧ Blk w' W.heap.size 69 #[.slice none 0 0, .slice none 0 0, .int .i64 0, .int .i64 0, .slice none 0 0, .slice none 0 0, .slice none 0 0, .int .i64 0, .int .i64 0, .int .i64 0, .int .i64 0]) :=
  Lib.hid ((own_any _ _ (W.alloc (.cells #[.slice none 0 0, .slice none 0 0, .int .i64 0, .int .i64 0, .slice none 0 0, .slice none 0 0, .slice none 0 0, .int .i64 0, .int .i64 0, .int .i64 0, .int .i64 0] 69)).drew (HMW.out.below (below_new W _).drew) (by simp) (by simp)).mono fun e w' ⟨v', he, ho, hb⟩ => ⟨v', he, ho.base (by simp), below_call hb (below_new W _).drew, (Blk.new W 69 #[.slice none 0 0, .slice none 0 0, .int .i64 0, .int .i64 0, .slice none 0 0, .slice none 0 0, .slice none 0 0, .int .i64 0, .int .i64 0, .int .i64 0, .int .i64 0]).drew.below hb⟩)
 have gx := blkCM HCC.out HMM.out
 have gxc := gx
 obtain ⟨x0, x1, y0, y1', y2', y3, y4, y5, y6, y7, y8⟩ := gxc
 clear gx
 go_cut [7] from 9 to 12 (fun u wx => RunCut W W gF gI 10 u wx)
 case first =>
  refine wp_region_held_drew (S := fun w' => w'.cell? ⟨gC, 0, none⟩ = some (.slice (some ⟨gF, 0, none⟩) 1 1) ∧ w'.cell? ⟨gC, 1, none⟩ = some (.slice (some ⟨gI, 0, none⟩) 2 2) ∧ w'.cell? ⟨gM, 0, none⟩ = some (.int .i64 1) ∧ w'.cell? ⟨gM, 1, none⟩ = some (.int .i64 0) ∧ w'.cell? ⟨gM, 2, none⟩ = some (.slice A1 n1 k1) ∧ w'.cell? ⟨gM, 3, none⟩ = some (.slice A2 n2 k2) ∧ w'.cell? ⟨gM, 4, none⟩ = some (.slice A3 n3 k3) ∧ w'.cell? ⟨gM, 5, none⟩ = some (.int .i64 10) ∧ w'.cell? ⟨gM, 6, none⟩ = some (.int .i64 10) ∧ w'.cell? ⟨gM, 7, none⟩ = some (.int .i64 0) ∧ w'.cell? ⟨gM, 8, none⟩ = some (.int .i64 1)) (by kernel_rfl) ⟨x0, x1, y0, y1', y2', y3, y4, y5, y6, y7, y8⟩ (fun hHeld => ?_)
  refine wpAnyH_take (i := 0) (oi := _) (v := .agg #[.slice (some ⟨gF, 0, none⟩) 1 1, .slice (some ⟨gI, 0, none⟩) 2 2]) rfl (by kernel_rfl) (by kernel_rfl) (by kernel_rfl) (fun _ _ _ h => h) (Or.inl ⟨by rfl, by intro w hSw; (try dsimp only at hSw); go_simp⟩) (by assumption) ?_
  simp only [Act.put, List.setIfInBounds_toArray, List.set_cons_zero, List.set_cons_succ]
  refine wpAnyH_take (i := 1) (oi := _) (v := .agg #[.int .i64 1, .int .i64 0, .slice A1 n1 k1, .slice A2 n2 k2, .slice A3 n3 k3, .int .i64 10, .int .i64 10, .int .i64 0, .int .i64 1]) rfl (by kernel_rfl) (by kernel_rfl) (by kernel_rfl) (fun _ _ _ h => h) (Or.inl ⟨by rfl, by intro w hSw; (try dsimp only at hSw); go_simp⟩) (by assumption) ?_
  simp only [Act.put, List.setIfInBounds_toArray, List.set_cons_zero, List.set_cons_succ]
  refine wpAnyH_ready (rs := [2, 4]) (by kernel_rfl) (by simp) ?_
  refine AllReadyH.cons (o := _) rfl (fun K hK => ?_) ?_
  ·go_simp
   with_reducible refine HO1.out.mono ?_
   rintro e w4 ⟨v4, rfl, hom, hb4⟩
   obtain ⟨gR, kR, gL, kL, B1, y1, B2, y2, A, k, A', k', cs, cl, rfl, hown⟩ := own1_of hom
   have HOW4 := Lib.hid hown
   have HC4 := Lib.hid (HCC.out.below hb4)
   have HM4 := Lib.hid (HMM.out.below hb4)
   have HB4 := Lib.hid hb4
   clear hom hown hb4
   go_wp2_with fail
   refine hK.out _ _ (blkCM HC4.out HM4.out) (fun hHeld => ?_)
   clear hK K
   try simp only [Act.put, List.setIfInBounds_toArray, List.set_cons_zero, List.set_cons_succ]
   refine wpAnyH_take (i := 3) (oi := _) (v := .agg #[.slice (some ⟨gF, 0, none⟩) 1 1, .slice (some ⟨gI, 0, none⟩) 2 2, .int .i64 1, .int .i64 0, .slice B1 0 y1, .slice (some ⟨gR, 0, none⟩) 1 kR, .slice B2 0 y2, .int .i64 10, .int .i64 10, .int .i64 0, .int .i64 1]) rfl (by kernel_rfl) (by kernel_rfl) (by kernel_rfl) (fun _ _ _ h => h) (Or.inl ⟨by rfl, by intro w hSw; (try dsimp only at hSw); go_simp⟩) (by assumption) ?_
   simp only [Act.put, List.setIfInBounds_toArray, List.set_cons_zero, List.set_cons_succ]
   refine wpAnyH_ready (rs := [4]) (by kernel_rfl) (by simp) ?_
   refine AllReadyH.cons (o := _) rfl (fun K hK => ?_) AllReadyH.nil
   go_simp
   have HC5 := Lib.hid (HC4.out.alloc (.cells #[.slice none 0 0, .slice none 0 0, .int .i64 0, .int .i64 0, .slice none 0 0, .slice none 0 0, .slice none 0 0, .int .i64 0, .int .i64 0, .int .i64 0, .int .i64 0] 69))
   have HM5 := Lib.hid (HM4.out.alloc (.cells #[.slice none 0 0, .slice none 0 0, .int .i64 0, .int .i64 0, .slice none 0 0, .slice none 0 0, .slice none 0 0, .int .i64 0, .int .i64 0, .int .i64 0, .int .i64 0] 69))
   refine hK.out _ _ (blkCM HC5.out HM5.out) (fun hHeld => ?_)
   clear hK K
   try simp only [Act.put, List.setIfInBounds_toArray, List.set_cons_zero, List.set_cons_succ]
   refine wpAnyH_ready (rs := [5]) (by kernel_rfl) (by simp) ?_
   refine AllReadyH.cons (o := _) rfl (fun K hK => ?_) AllReadyH.nil
   rw [if_pos (by rfl)]
   refine wp_store_row _ _ _ rfl w4.heap.size #[.slice (some ⟨gF, 0, none⟩) 1 1, .slice (some ⟨gI, 0, none⟩) 2 2, .int .i64 1, .int .i64 0, .slice B1 0 y1, .slice (some ⟨gR, 0, none⟩) 1 kR, .slice B2 0 y2, .int .i64 10, .int .i64 10, .int .i64 0, .int .i64 1] rfl rfl 69 _ (Blk.new w4 69 _) (by kernel_rfl) rfl (by simp [Value.oneCell']) ?_
   have HC6 := Lib.hid (HC5.out.row_far (cs' := #[.slice (some ⟨gF, 0, none⟩) 1 1, .slice (some ⟨gI, 0, none⟩) 2 2, .int .i64 1, .int .i64 0, .slice B1 0 y1, .slice (some ⟨gR, 0, none⟩) 1 kR, .slice B2 0 y2, .int .i64 10, .int .i64 10, .int .i64 0, .int .i64 1]) (Nat.ne_of_lt HC4.out.lt))
   have HM6 := Lib.hid (HM5.out.row_far (cs' := #[.slice (some ⟨gF, 0, none⟩) 1 1, .slice (some ⟨gI, 0, none⟩) 2 2, .int .i64 1, .int .i64 0, .slice B1 0 y1, .slice (some ⟨gR, 0, none⟩) 1 kR, .slice B2 0 y2, .int .i64 10, .int .i64 10, .int .i64 0, .int .i64 1]) (Nat.ne_of_lt HM4.out.lt))
   refine hK.out _ _ (blkCM HC6.out HM6.out) (fun hHeld => ?_)
   refine wpAnyH_done (by kernel_rfl) ?_ _
   dsimp only [List.getElem_toArray, List.getElem_cons_succ, List.getElem_cons_zero, Act.put]
   go_wp2_with fail
   go_meet
   exact ⟨w4.heap.size, gR, kR, gL, kL, B1, y1, B2, y2, A, k, A', k', cs, cl, rfl, HB4.out.size, (Blk.new w4 69 _).setRow, (HOW4.out.below (below_new w4 (.cells #[.slice none 0 0, .slice none 0 0, .int .i64 0, .int .i64 0, .slice none 0 0, .slice none 0 0, .slice none 0 0, .int .i64 0, .int .i64 0, .int .i64 0, .int .i64 0] 69))).kt (KT.row (Blk.new w4 69 _) _), below_setRow (HB4.out.alloc HB4.out.size _) HB4.out.size _⟩
  ·refine AllReadyH.cons (o := _) rfl (fun K hK => ?_) AllReadyH.nil
   go_simp
   have HC3 := Lib.hid (HCC.out.alloc (.cells #[.slice none 0 0, .slice none 0 0, .int .i64 0, .int .i64 0, .slice none 0 0, .slice none 0 0, .slice none 0 0, .int .i64 0, .int .i64 0, .int .i64 0, .int .i64 0] 69))
   have HM3 := Lib.hid (HMM.out.alloc (.cells #[.slice none 0 0, .slice none 0 0, .int .i64 0, .int .i64 0, .slice none 0 0, .slice none 0 0, .slice none 0 0, .int .i64 0, .int .i64 0, .int .i64 0, .int .i64 0] 69))
   refine hK.out _ _ (blkCM HC3.out HM3.out) (fun hHeld => ?_)
   clear hK K
   try simp only [Act.put, List.setIfInBounds_toArray, List.set_cons_zero, List.set_cons_succ]
   refine wpAnyH_ready (rs := [2]) (by kernel_rfl) (by simp) ?_
   refine AllReadyH.cons (o := _) rfl (fun K hK => ?_) AllReadyH.nil
   go_simp
   with_reducible refine HO2.out.mono ?_
   rintro e w4 ⟨v4, rfl, hom, hb4, BZ⟩
   obtain ⟨gR, kR, gL, kL, B1, y1, B2, y2, A, k, A', k', cs, cl, rfl, hown⟩ := own1_of hom
   have HOW4 := Lib.hid hown
   have HC4 := Lib.hid (HCC.out.below hb4)
   have HM4 := Lib.hid (HMM.out.below hb4)
   have HB4 := Lib.hid hb4
   have HBZ := Lib.hid BZ
   clear hom hown hb4 BZ
   go_wp2_with fail
   refine hK.out _ _ (blkCM HC4.out HM4.out) (fun hHeld => ?_)
   clear hK K
   try simp only [Act.put, List.setIfInBounds_toArray, List.set_cons_zero, List.set_cons_succ]
   refine wpAnyH_take (i := 3) (oi := _) (v := .agg #[.slice (some ⟨gF, 0, none⟩) 1 1, .slice (some ⟨gI, 0, none⟩) 2 2, .int .i64 1, .int .i64 0, .slice B1 0 y1, .slice (some ⟨gR, 0, none⟩) 1 kR, .slice B2 0 y2, .int .i64 10, .int .i64 10, .int .i64 0, .int .i64 1]) rfl (by kernel_rfl) (by kernel_rfl) (by kernel_rfl) (fun _ _ _ h => h) (Or.inl ⟨by rfl, by intro w hSw; (try dsimp only at hSw); go_simp⟩) (by assumption) ?_
   simp only [Act.put, List.setIfInBounds_toArray, List.set_cons_zero, List.set_cons_succ]
   refine wpAnyH_ready (rs := [5]) (by kernel_rfl) (by simp) ?_
   refine AllReadyH.cons (o := _) rfl (fun K hK => ?_) AllReadyH.nil
   rw [if_pos (by rfl)]
   refine wp_store_row _ _ _ rfl W.heap.size #[.slice (some ⟨gF, 0, none⟩) 1 1, .slice (some ⟨gI, 0, none⟩) 2 2, .int .i64 1, .int .i64 0, .slice B1 0 y1, .slice (some ⟨gR, 0, none⟩) 1 kR, .slice B2 0 y2, .int .i64 10, .int .i64 10, .int .i64 0, .int .i64 1] rfl rfl 69 _ HBZ.out (by kernel_rfl) rfl (by simp [Value.oneCell']) ?_
   have HC6 := Lib.hid (HC4.out.row_far (cs' := #[.slice (some ⟨gF, 0, none⟩) 1 1, .slice (some ⟨gI, 0, none⟩) 2 2, .int .i64 1, .int .i64 0, .slice B1 0 y1, .slice (some ⟨gR, 0, none⟩) 1 kR, .slice B2 0 y2, .int .i64 10, .int .i64 10, .int .i64 0, .int .i64 1]) (Nat.ne_of_lt HCC.out.lt))
   have HM6 := Lib.hid (HM4.out.row_far (cs' := #[.slice (some ⟨gF, 0, none⟩) 1 1, .slice (some ⟨gI, 0, none⟩) 2 2, .int .i64 1, .int .i64 0, .slice B1 0 y1, .slice (some ⟨gR, 0, none⟩) 1 kR, .slice B2 0 y2, .int .i64 10, .int .i64 10, .int .i64 0, .int .i64 1]) (Nat.ne_of_lt HMM.out.lt))
   refine hK.out _ _ (blkCM HC6.out HM6.out) (fun hHeld => ?_)
   refine wpAnyH_done (by kernel_rfl) ?_ _
   dsimp only [List.getElem_toArray, List.getElem_cons_succ, List.getElem_cons_zero, Act.put]
   go_wp2_with fail
   go_meet
   exact ⟨W.heap.size, gR, kR, gL, kL, B1, y1, B2, y2, A, k, A', k', cs, cl, rfl, Nat.le_refl _, HBZ.out.setRow, HOW4.out.kt (KT.row HBZ.out _), below_setRow HB4.out (Nat.le_refl _) _⟩
 case rest =>
  obtain ⟨gE, gR, kR, gL, kL, B1, y1, B2, y2, A, k, A', k', cs, cl, rfl, hgE, hE, hown, hbc⟩ := hcut
  have HE := Lib.hid hE
  have HOW := Lib.hid hown
  have HBc := Lib.hid hbc
  have HCc := Lib.hid (HCW.out.below hbc)
  have HZc := Lib.hid (HZZ.out.below hbc)
  have HWc : Hid (Below w.heap.size w wc) := Lib.hid (below_call hbc HB.out)
  clear hE hown hbc x0 x1 y0 y1' y2' y3 y4 y5 y6 y7 y8
  have hb : W.heap.size ≤ wc.heap.size := HBc.out.size
  go_wp2_with (first
   | (go_at_call 36; with_reducible refine (actions_ok _).mono ?_; rintro e w2 ⟨gT, rfl, hT, hb2⟩; have HT2 := Lib.hid hT; have HB2 := Lib.hid (below_call hb2 HBc.out); have HE2 := Lib.hid (HE.out.below hb2); have HOW2 := Lib.hid (HOW.out.below hb2); have HC2 := Lib.hid (HCc.out.below hb2); clear hT hb2))
  have HX2 : Hid (XSt w2 W.heap.size gF gI gE gR kR gL kL (.slice B1 0 y1) (.slice B2 0 y2) 10 10 0 1 0 (.slice A' 0 k') A k cs cl) := Lib.hid ⟨HE2.out, HC2.out, HOW2.out.hR, HOW2.out.c0, HOW2.out.c1, HOW2.out.c2, HOW2.out.c3, HOW2.out.hL, HOW2.out.l0, HOW2.out.hV, HOW2.out.kR1, HOW2.out.kL1⟩
  have e2 := blkE HE2.out
  have HS2 := Lib.hid (step_load W.heap.size gF gI gE gR kR gL kL gT y1 y2 k k' 10 1 B1 B2 A A' cs cl w2 HX2.out HOW2.out.hsv HOW2.out.hne HT2.out hgE HOW2.out.bR HB2.out.size (by omega))
  refine wp_loop_rounds 2 ?_
  rw [rounds_succ]
  go_wp2_with (first
   | (go_at_call 37; (with_reducible refine HS2.out.mono ?_); rintro e w3 ⟨rfl, gS, kS, cs3, cl3, hx3, hs3, hs30, hk3, ht3, hb3⟩; have HX3 : Hid (XSt w3 W.heap.size gF gI gE gR kR gL kL (.slice B1 0 y1) (.slice B2 0 y2) 10 10 1 2 1 (.slice (some ⟨gS, 0, none⟩) 1 kS) A k cs3 cl) := Lib.hid hx3; have HF3 := Lib.hid (hx3.frames hs3 hs30 hk3); have HB3 := Lib.hid (HB2.out.trans hb3); clear hx3 hs3 hs30 hk3 ht3 hb3 e2 HS2))
  rw [rounds_succ]
  have e3 := blkE HX3.out.hE
  have HZ3 : Hid (Blk w3 gZ 37 _) := Lib.hid ((HB3.out.block gZ HLZ2.out).trans HZZ.out)
  have HO3 : Hid (Calls Tryz.prog 35 #[.agg #[.int .i64 1, .int .i64 0, .slice B1 0 y1, .slice (some ⟨gR, 0, none⟩) 1 kR, .slice B2 0 y2, .int .i64 10, .int .i64 10, .int .i64 1, .int .i64 2]] w3 fun e w' => ∃ v', e = .returned v' ∧ OMach w' w3.heap.size v' ⟨1, 0, [], [⟨0, 1, [[c7]], [[c7]]⟩], [], 10, 10, 1, 2⟩ ∧ Below w3.heap.size w3 w') := Lib.hid (own_any ⟨1, 0, [], [⟨0, 1, [[c7]], [[c7]]⟩], [], 10, 10, 1, 2⟩ _ w3 ⟨_, _, _, rfl, RowsV.nil _ _, HF3.out, RowsV.nil _ _⟩ (by simp) (by simp))
  have HW3 : Hid (Below w.heap.size w w3) := Lib.hid (below_call HB3.out HB.out)
  go_wp2_with (first
   | (go_at_call 35; (with_reducible refine HO3.out.mono ?_); rintro e w4 ⟨v4, rfl, ho4, hb4⟩; obtain ⟨C1, l1, z1, C2, l2, z2, C3, l3, z3, rfl⟩ := ho4.shape; have HO4 := Lib.hid ho4; have HZ4 := Lib.hid (HZ3.out.below hb4); have HW4 := Lib.hid (below_call hb4 HW3.out); clear ho4 hb4)
   | (refine wpList_store_row rfl 37 (.tmp 6) (.tmp 28) rfl gZ #[.int .i64 1, .int .i64 0, .slice C1 l1 z1, .slice C2 l2 z2, .slice C3 l3 z3, .int .i64 10, .int .i64 10, .int .i64 1, .int .i64 2] rfl rfl 37 _ HZ4.out (by kernel_rfl) rfl (by simp [Value.oneCell']) ?_))
  have HZ5 := Lib.hid (HZ4.out.setRow (cs' := #[.int .i64 1, .int .i64 0, .slice C1 l1 z1, .slice C2 l2 z2, .slice C3 l3 z3, .int .i64 10, .int .i64 10, .int .i64 1, .int .i64 2]))
  have HO5 := Lib.hid (HO4.out.kt (KT.row HZ4.out #[.int .i64 1, .int .i64 0, .slice C1 l1 z1, .slice C2 l2 z2, .slice C3 l3 z3, .int .i64 10, .int .i64 10, .int .i64 1, .int .i64 2]))
  have HW5 := Lib.hid (below_setRow HW4.out HLZ.out #[.int .i64 1, .int .i64 0, .slice C1 l1 z1, .slice C2 l2 z2, .slice C3 l3 z3, .int .i64 10, .int .i64 10, .int .i64 1, .int .i64 2])
  obtain ⟨w5, hw5⟩ : ∃ w5, w4.setRow gZ #[.int .i64 1, .int .i64 0, .slice C1 l1 z1, .slice C2 l2 z2, .slice C3 l3 z3, .int .i64 10, .int .i64 10, .int .i64 1, .int .i64 2] = w5 := ⟨_, rfl⟩
  rw [hw5] at HZ5 HO5 HW5
  try rw [hw5]
  clear hw5
  have gz := blk9 HZ5.out
  refine bodyPost_ret (v := .agg #[.int .i64 1, .int .i64 0, .slice C1 l1 z1, .slice C2 l2 z2, .slice C3 l3 z3, .int .i64 10, .int .i64 10, .int .i64 1, .int .i64 2]) (by simp [results, Tryz.results13, go_sem, gz]) rfl ?_
  exact ⟨_, rfl, HO5.out.base HW3.out.size, HW5.out⟩
end Go.Proofs.YtmljohbialacfaaGreatDoor
namespace Go.Proofs.YtmljohbialacfaaGreatDoor
open Go.RowKit
set_option maxRecDepth 100000

theorem MachV.shape {w : World} {v : Value} {m : MachD} (h : MachV w v m) : ∃ A1 n1 k1 A2 n2 k2 A3 n3 k3, v = .agg #[.int .i64 m.status, .int .i64 m.err, .slice A1 n1 k1, .slice A2 n2 k2, .slice A3 n3 k3, .int .i64 m.lsteps, .int .i64 m.lmem, .int .i64 m.steps, .int .i64 m.peak] := by
 obtain ⟨vv, fv, qv, rfl, h1, h2, h3⟩ := h
 obtain ⟨A1, n1, k1, rfl⟩ := h1.shape
 obtain ⟨A2, n2, k2, rfl⟩ := h2.shape
 obtain ⟨A3, n3, k3, rfl⟩ := h3.shape
 exact ⟨_, _, _, _, _, _, _, _, _, rfl⟩
attribute [local go_sem] cell_alloc_is
set_option maxHeartbeats 8000000 in
theorem step_t (gF gI : Nat) (v : Value) (w : World) (h : CodeAt w gF gI) (hm : MachV w v (m1 1)) :
  Calls Tryz.prog 14 #[.agg #[.slice (some ⟨gF, 0, none⟩) 1 1, .slice (some ⟨gI, 0, none⟩) 2 2], v] w fun e w' => ∃ x, e = .returned x ∧ OMach w' w.heap.size x ⟨4, 16, [], [], [], 10, 1, 1, 2⟩ ∧ Below w.heap.size w w' := by
 obtain ⟨A1, n1, k1, A2, n2, k2, A3, n3, k3, rfl⟩ := hm.shape
 replace hm : MachV w (.agg #[.int .i64 1, .int .i64 0, .slice A1 n1 k1, .slice A2 n2 k2, .slice A3 n3 k3, .int .i64 10, .int .i64 1, .int .i64 0, .int .i64 1]) (m1 1) := hm
 dsimp only [m1]
 have HB := Lib.hid (below_3 w (.cells #[.slice (some ⟨gF, 0, none⟩) 1 1, .slice (some ⟨gI, 0, none⟩) 2 2] 25) (.cells #[.int .i64 1, .int .i64 0, .slice A1 n1 k1, .slice A2 n2 k2, .slice A3 n3 k3, .int .i64 10, .int .i64 1, .int .i64 0, .int .i64 1] 37) (.cells #[.int .i64 0, .int .i64 0, .slice none 0 0, .slice none 0 0, .slice none 0 0, .int .i64 0, .int .i64 0, .int .i64 0, .int .i64 0] 37))
 have HR := Lib.hid (run_over gF gI (.agg #[.int .i64 1, .int .i64 0, .slice A1 n1 k1, .slice A2 n2 k2, .slice A3 n3 k3, .int .i64 10, .int .i64 1, .int .i64 0, .int .i64 1]) _ (h.below HB.out) (hm.below HB.out))
 have HZ := Lib.hid (Blk.third w (.cells #[.slice (some ⟨gF, 0, none⟩) 1 1, .slice (some ⟨gI, 0, none⟩) 2 2] 25) (.cells #[.int .i64 1, .int .i64 0, .slice A1 n1 k1, .slice A2 n2 k2, .slice A3 n3 k3, .int .i64 10, .int .i64 1, .int .i64 0, .int .i64 1] 37) 37 #[.int .i64 0, .int .i64 0, .slice none 0 0, .slice none 0 0, .slice none 0 0, .int .i64 0, .int .i64 0, .int .i64 0, .int .i64 0])
 clear h hm
 go_enter Tryz.func14, Tryz.ntmps14
 go_wp2_with (first
  | (go_at_call 13; (with_reducible refine HR.out.mono ?_); rintro e w4 ⟨v4, rfl, ho4, hb4⟩; obtain ⟨C1, l1, z1, C2, l2, z2, C3, l3, z3, rfl⟩ := ho4.shape; have HO4 := Lib.hid ho4; have HZ4 := Lib.hid (HZ.out.below hb4); have HW4 := Lib.hid (below_call hb4 HB.out); clear ho4 hb4)
  | (refine wpList_store_row rfl 37 (.tmp 4) (.tmp 7) rfl (w.heap.size + 1 + 1) #[.int .i64 4, .int .i64 16, .slice C1 l1 z1, .slice C2 l2 z2, .slice C3 l3 z3, .int .i64 10, .int .i64 1, .int .i64 1, .int .i64 2] rfl rfl 37 _ HZ4.out (by kernel_rfl) rfl (by simp [Value.oneCell']) ?_))
 have HZ5 := Lib.hid (HZ4.out.setRow (cs' := #[.int .i64 4, .int .i64 16, .slice C1 l1 z1, .slice C2 l2 z2, .slice C3 l3 z3, .int .i64 10, .int .i64 1, .int .i64 1, .int .i64 2]))
 have HO5 := Lib.hid (HO4.out.kt (KT.row HZ4.out #[.int .i64 4, .int .i64 16, .slice C1 l1 z1, .slice C2 l2 z2, .slice C3 l3 z3, .int .i64 10, .int .i64 1, .int .i64 1, .int .i64 2]))
 have HW5 := Lib.hid (below_setRow HW4.out (show w.heap.size ≤ w.heap.size + 1 + 1 by omega) #[.int .i64 4, .int .i64 16, .slice C1 l1 z1, .slice C2 l2 z2, .slice C3 l3 z3, .int .i64 10, .int .i64 1, .int .i64 1, .int .i64 2])
 obtain ⟨w5, hw5⟩ : ∃ w5, w4.setRow (w.heap.size + 1 + 1) #[.int .i64 4, .int .i64 16, .slice C1 l1 z1, .slice C2 l2 z2, .slice C3 l3 z3, .int .i64 10, .int .i64 1, .int .i64 1, .int .i64 2] = w5 := ⟨_, rfl⟩
 rw [hw5] at HZ5 HO5 HW5
 try rw [hw5]
 clear hw5
 have gz := blk9 HZ5.out
 refine bodyPost_ret (v := .agg #[.int .i64 4, .int .i64 16, .slice C1 l1 z1, .slice C2 l2 z2, .slice C3 l3 z3, .int .i64 10, .int .i64 1, .int .i64 1, .int .i64 2]) (by simp [results, Tryz.results14, go_sem, gz]) rfl ?_
 exact ⟨_, rfl, HO5.out.base HB.out.size, HW5.out⟩
end Go.Proofs.YtmljohbialacfaaGreatDoor
namespace Go.Proofs.YtmljohbialacfaaGreatDoor
open Go.RowKit
set_option maxRecDepth 100000

/-- What awake holds in memory. -/
structure AwSt (w W : World) (gF gI gC gV : Nat) : Prop where
 hC : CodeAt W gF gI
 hB : Blk W gC 25 #[.slice (some ⟨gF, 0, none⟩) 1 1, .slice (some ⟨gI, 0, none⟩) 2 2]
 hV : Blk W gV 62 #[.int .i64 3, .int .i64 7, .string ⟨#[]⟩, .int .i64 0]
 hS : Shaped W
 hW : Below w.heap.size w W
theorem AwSt.below {w W W' : World} {gF gI gC gV : Nat} (h : AwSt w W gF gI gC gV) (hb : Below W.heap.size W W') : AwSt w W' gF gI gC gV :=
 ⟨h.hC.below hb, h.hB.below hb, h.hV.below hb, h.hS.below hb, below_call hb h.hW⟩
theorem Blk.nth (w : World) (o1 o2 o3 : Obj) (t : TypeId) (cs : Array Value) : Blk ((((w.alloc o1).alloc o2).alloc o3).alloc (.cells cs t)) (w.heap.size + 1 + 1 + 1) t cs := by
 have := Blk.new (((w.alloc o1).alloc o2).alloc o3) t cs
 simpa using this
theorem MachV.val {w : World} {a b A B C c d e f : Value} {m : MachD} (h : MachV w (.agg #[a, b, A, B, C, c, d, e, f]) m) : ValV w A m.value := by
 obtain ⟨vv, fv, qv, e, h1, _⟩ := h
 injection e with e
 simp at e
 rw [e.2.2.1]
 exact h1
attribute [local go_sem] cell_alloc_is
set_option maxHeartbeats 8000000 in
theorem awake_ok (w : World) (hs : Shaped w) : Calls Tryz.prog 9 #[] w fun e w' => e = .returned (.bool true) ∧ Below w.heap.size w w' := by
 have HS := Lib.hid hs
 clear hs
 go_enter Tryz.func9, Tryz.ntmps9
 go_upto_region 3 with fail
 obtain ⟨W, hW⟩ : ∃ W, (((w.alloc (.cells #[.string ⟨#[109, 97, 105, 110]⟩, .int .i64 1, .int .i64 1, .int .i64 0, .int .i64 2] 55)).alloc (.cells #[.int .i64 5, .int .i64 0, .string ⟨#[]⟩, .slice none 0 0, .int .i64 20, .int .i64 0, .string ⟨#[]⟩, .slice none 0 0] 59)).alloc (.cells #[.slice (some ⟨w.heap.size, 0, none⟩) 1 1, .slice (some ⟨w.heap.size + 1, 0, none⟩) 2 2] 25)).alloc (.cells #[.int .i64 3, .int .i64 7, .string ⟨#[]⟩, .int .i64 0] 62) = W := ⟨_, rfl⟩
 have hbw : Below w.heap.size w W := by rw [← hW]; exact (below_3 w _ _ _).alloc (by simp; omega) _
 have HC0 : Hid (CodeAt W w.heap.size (w.heap.size + 1)) := Lib.hid (by rw [← hW]; exact ⟨(((Blk.new w _ _).alloc _).alloc _).alloc _, ((Blk.second w _ _ _).alloc _).alloc _⟩)
 have HB0 : Hid (Blk W (w.heap.size + 1 + 1) 25 #[.slice (some ⟨w.heap.size, 0, none⟩) 1 1, .slice (some ⟨w.heap.size + 1, 0, none⟩) 2 2]) := Lib.hid (by rw [← hW]; exact (Blk.third w _ _ _ _).alloc _)
 have HV0 : Hid (Blk W (w.heap.size + 1 + 1 + 1) 62 #[.int .i64 3, .int .i64 7, .string ⟨#[]⟩, .int .i64 0]) := Lib.hid (by rw [← hW]; exact Blk.nth w _ _ _ _ _)
 obtain ⟨gV, hgV⟩ : ∃ g, w.heap.size + 1 + 1 + 1 = g := ⟨_, rfl⟩
 obtain ⟨gC, hgC⟩ : ∃ g, w.heap.size + 1 + 1 = g := ⟨_, rfl⟩
 obtain ⟨gI, hgI⟩ : ∃ g, w.heap.size + 1 = g := ⟨_, rfl⟩
 obtain ⟨gF, hgF⟩ : ∃ g, w.heap.size = g := ⟨_, rfl⟩
 have HA : Hid (AwSt w W gF gI gC gV) := Lib.hid ⟨by rw [← hgF, ← hgI]; exact HC0.out, by rw [← hgF, ← hgI, ← hgC]; exact HB0.out, by rw [← hgV]; exact HV0.out, HS.out.below hbw, hbw⟩
 rw [hW, hgV, hgC, hgI, hgF]
 have HGF := Lib.hid hgF
 clear hW hgV hgC hgI hgF hbw HC0 HB0 HV0 HS
 have HT3 := Lib.hid (start_ok gF gI gV 10 W HA.out.hC HA.out.hS HA.out.hV (by omega) (by omega))
 have b0 := blk2 HA.out.hB
 go_upto_region 4 with (first
  | (go_at_call 10; (with_reducible refine HT3.out.mono ?_); rintro e w3 ⟨x3, rfl, hm3, hb3⟩; obtain ⟨aa1, aan1, aak1, aa2, aan2, aak2, aa3, aan3, aak3, rfl⟩ := hm3.shape; have HM3 : Hid (MachV w3 (.agg #[.int .i64 1, .int .i64 0, .slice aa1 aan1 aak1, .slice aa2 aan2 aak2, .slice aa3 aan3 aak3, .int .i64 10, .int .i64 10, .int .i64 0, .int .i64 1]) (m1 10)) := Lib.hid hm3; have HA3 := Lib.hid (HA.out.below hb3); clear hm3 hb3 b0))
 dsimp only [m1]
 obtain ⟨X3, hX3⟩ : ∃ X, w3.alloc (.cells #[.int .i64 1, .int .i64 0, .slice aa1 aan1 aak1, .slice aa2 aan2 aak2, .slice aa3 aan3 aak3, .int .i64 10, .int .i64 10, .int .i64 0, .int .i64 1] 37) = X := ⟨_, rfl⟩
 obtain ⟨g3, hg3⟩ : ∃ g, w3.heap.size = g := ⟨_, rfl⟩
 rw [hX3, hg3]
 have hbx3 : Below w3.heap.size w3 X3 := by rw [← hX3]; exact below_new _ _
 have HN3 : Hid (Blk X3 g3 37 #[.int .i64 1, .int .i64 0, .slice aa1 aan1 aak1, .slice aa2 aan2 aak2, .slice aa3 aan3 aak3, .int .i64 10, .int .i64 10, .int .i64 0, .int .i64 1]) := Lib.hid (by rw [← hX3, ← hg3]; exact Blk.new _ _ _)
 have HL3 : Hid (MachV X3 (.agg #[.int .i64 1, .int .i64 0, .slice aa1 aan1 aak1, .slice aa2 aan2 aak2, .slice aa3 aan3 aak3, .int .i64 10, .int .i64 10, .int .i64 0, .int .i64 1]) (m1 10)) := Lib.hid (HM3.out.below hbx3)
 have HQ3 := Lib.hid (HA3.out.below hbx3)
 clear hX3 hg3 hbx3
 have b3 := blk2 HQ3.out.hB
 have n3 := blk9 HN3.out
 have HT4 := Lib.hid (run_one gF gI _ X3 HQ3.out.hC HL3.out)
 go_upto_region 5 with (first
  | (go_at_call 13; (with_reducible refine HT4.out.mono ?_); rintro e w4 ⟨x4, rfl, hm4, hb4⟩; have hm4 := mach_one hm4; obtain ⟨bb1, bbn1, bbk1, bb2, bbn2, bbk2, bb3, bbn3, bbk3, rfl⟩ := hm4.shape; have HM4 : Hid (MachV w4 (.agg #[.int .i64 1, .int .i64 0, .slice bb1 bbn1 bbk1, .slice bb2 bbn2 bbk2, .slice bb3 bbn3 bbk3, .int .i64 10, .int .i64 10, .int .i64 1, .int .i64 2]) ⟨1, 0, [], [⟨0, 1, [[c7]], [[c7]]⟩], [], 10, 10, 1, 2⟩) := Lib.hid hm4; have HY4 := Lib.hid hb4; have HA4 := Lib.hid (HQ3.out.below hb4); clear hm4 hb4 b3))
 obtain ⟨X4, hX4⟩ : ∃ X, w4.alloc (.cells #[.int .i64 1, .int .i64 0, .slice bb1 bbn1 bbk1, .slice bb2 bbn2 bbk2, .slice bb3 bbn3 bbk3, .int .i64 10, .int .i64 10, .int .i64 1, .int .i64 2] 37) = X := ⟨_, rfl⟩
 obtain ⟨g4, hg4⟩ : ∃ g, w4.heap.size = g := ⟨_, rfl⟩
 rw [hX4, hg4]
 have hbx4 : Below w4.heap.size w4 X4 := by rw [← hX4]; exact below_new _ _
 have HN4 : Hid (Blk X4 g4 37 #[.int .i64 1, .int .i64 0, .slice bb1 bbn1 bbk1, .slice bb2 bbn2 bbk2, .slice bb3 bbn3 bbk3, .int .i64 10, .int .i64 10, .int .i64 1, .int .i64 2]) := Lib.hid (by rw [← hX4, ← hg4]; exact Blk.new _ _ _)
 have HL4 : Hid (MachV X4 (.agg #[.int .i64 1, .int .i64 0, .slice bb1 bbn1 bbk1, .slice bb2 bbn2 bbk2, .slice bb3 bbn3 bbk3, .int .i64 10, .int .i64 10, .int .i64 1, .int .i64 2]) ⟨1, 0, [], [⟨0, 1, [[c7]], [[c7]]⟩], [], 10, 10, 1, 2⟩) := Lib.hid (HM4.out.below hbx4)
 have HQ4 := Lib.hid (HA4.out.below hbx4)
 have HN34 := Lib.hid (HN3.out.below (below_call hbx4 HY4.out))
 have HL34 := Lib.hid (HL3.out.below (below_call hbx4 HY4.out))
 clear hX4 hg4 hbx4
 have b4 := blk2 HQ4.out.hB
 have n34 := blk9 HN34.out
 have n4 := blk9 HN4.out
 have HT5 := Lib.hid (run_five gF gI _ X4 HQ4.out.hC HL34.out)
 go_upto_region 6 with (first
  | (go_at_call 13; (with_reducible refine HT5.out.mono ?_); rintro e w5 ⟨x5, rfl, hm5, hb5⟩; have hm5 := mach_none hm5 (by simp); obtain ⟨cc1, ccn1, cck1, cc2, ccn2, cck2, cc3, ccn3, cck3, rfl⟩ := hm5.shape; have HM5 : Hid (MachV w5 (.agg #[.int .i64 3, .int .i64 0, .slice cc1 ccn1 cck1, .slice cc2 ccn2 cck2, .slice cc3 ccn3 cck3, .int .i64 10, .int .i64 10, .int .i64 2, .int .i64 2]) ⟨3, 0, [c7], [], [], 10, 10, 2, 2⟩) := Lib.hid hm5; have HY5 := Lib.hid hb5; have HA5 := Lib.hid (HQ4.out.below hb5); clear hm5 hb5 b4))
 obtain ⟨X5, hX5⟩ : ∃ X, w5.alloc (.cells #[.int .i64 3, .int .i64 0, .slice cc1 ccn1 cck1, .slice cc2 ccn2 cck2, .slice cc3 ccn3 cck3, .int .i64 10, .int .i64 10, .int .i64 2, .int .i64 2] 37) = X := ⟨_, rfl⟩
 obtain ⟨g5, hg5⟩ : ∃ g, w5.heap.size = g := ⟨_, rfl⟩
 rw [hX5, hg5]
 have hbx5 : Below w5.heap.size w5 X5 := by rw [← hX5]; exact below_new _ _
 have HN5 : Hid (Blk X5 g5 37 #[.int .i64 3, .int .i64 0, .slice cc1 ccn1 cck1, .slice cc2 ccn2 cck2, .slice cc3 ccn3 cck3, .int .i64 10, .int .i64 10, .int .i64 2, .int .i64 2]) := Lib.hid (by rw [← hX5, ← hg5]; exact Blk.new _ _ _)
 have HL5 : Hid (MachV X5 (.agg #[.int .i64 3, .int .i64 0, .slice cc1 ccn1 cck1, .slice cc2 ccn2 cck2, .slice cc3 ccn3 cck3, .int .i64 10, .int .i64 10, .int .i64 2, .int .i64 2]) ⟨3, 0, [c7], [], [], 10, 10, 2, 2⟩) := Lib.hid (HM5.out.below hbx5)
 have HQ5 := Lib.hid (HA5.out.below hbx5)
 have HN35 := Lib.hid (HN34.out.below (below_call hbx5 HY5.out))
 have HL35 := Lib.hid (HL34.out.below (below_call hbx5 HY5.out))
 have HN45 := Lib.hid (HN4.out.below (below_call hbx5 HY5.out))
 have HL45 := Lib.hid (HL4.out.below (below_call hbx5 HY5.out))
 clear hX5 hg5 hbx5
 have b5 := blk2 HQ5.out.hB
 have n35 := blk9 HN35.out
 have n45 := blk9 HN45.out
 have n5 := blk9 HN5.out
 have HT6 := Lib.hid (start_ok gF gI gV 1 X5 HQ5.out.hC HQ5.out.hS HQ5.out.hV (by omega) (by omega))
 go_upto_region 7 with (first
  | (go_at_call 10; (with_reducible refine HT6.out.mono ?_); rintro e w6 ⟨x6, rfl, hm6, hb6⟩; have hm6 := hm6; obtain ⟨dd1, ddn1, ddk1, dd2, ddn2, ddk2, dd3, ddn3, ddk3, rfl⟩ := hm6.shape; have HM6 : Hid (MachV w6 (.agg #[.int .i64 1, .int .i64 0, .slice dd1 ddn1 ddk1, .slice dd2 ddn2 ddk2, .slice dd3 ddn3 ddk3, .int .i64 10, .int .i64 1, .int .i64 0, .int .i64 1]) (m1 1)) := Lib.hid hm6; have HY6 := Lib.hid hb6; have HA6 := Lib.hid (HQ5.out.below hb6); clear hm6 hb6 b5))
 dsimp only [m1]
 obtain ⟨X6, hX6⟩ : ∃ X, w6.alloc (.cells #[.int .i64 1, .int .i64 0, .slice dd1 ddn1 ddk1, .slice dd2 ddn2 ddk2, .slice dd3 ddn3 ddk3, .int .i64 10, .int .i64 1, .int .i64 0, .int .i64 1] 37) = X := ⟨_, rfl⟩
 obtain ⟨g6, hg6⟩ : ∃ g, w6.heap.size = g := ⟨_, rfl⟩
 rw [hX6, hg6]
 have hbx6 : Below w6.heap.size w6 X6 := by rw [← hX6]; exact below_new _ _
 have HN6 : Hid (Blk X6 g6 37 #[.int .i64 1, .int .i64 0, .slice dd1 ddn1 ddk1, .slice dd2 ddn2 ddk2, .slice dd3 ddn3 ddk3, .int .i64 10, .int .i64 1, .int .i64 0, .int .i64 1]) := Lib.hid (by rw [← hX6, ← hg6]; exact Blk.new _ _ _)
 have HL6 : Hid (MachV X6 (.agg #[.int .i64 1, .int .i64 0, .slice dd1 ddn1 ddk1, .slice dd2 ddn2 ddk2, .slice dd3 ddn3 ddk3, .int .i64 10, .int .i64 1, .int .i64 0, .int .i64 1]) (m1 1)) := Lib.hid (HM6.out.below hbx6)
 have HQ6 := Lib.hid (HA6.out.below hbx6)
 have HN36 := Lib.hid (HN35.out.below (below_call hbx6 HY6.out))
 have HL36 := Lib.hid (HL35.out.below (below_call hbx6 HY6.out))
 have HN46 := Lib.hid (HN45.out.below (below_call hbx6 HY6.out))
 have HL46 := Lib.hid (HL45.out.below (below_call hbx6 HY6.out))
 have HN56 := Lib.hid (HN5.out.below (below_call hbx6 HY6.out))
 have HL56 := Lib.hid (HL5.out.below (below_call hbx6 HY6.out))
 clear hX6 hg6 hbx6
 have b6 := blk2 HQ6.out.hB
 have n36 := blk9 HN36.out
 have n46 := blk9 HN46.out
 have n56 := blk9 HN56.out
 have n6 := blk9 HN6.out
 have HT7 := Lib.hid (step_t gF gI _ X6 HQ6.out.hC HL6.out)
 go_upto_region 8 with (first
  | (go_at_call 14; (with_reducible refine HT7.out.mono ?_); rintro e w7 ⟨x7, rfl, hm7, hb7⟩; have hm7 := mach_none hm7 (by simp); obtain ⟨ee1, een1, eek1, ee2, een2, eek2, ee3, een3, eek3, rfl⟩ := hm7.shape; have HM7 : Hid (MachV w7 (.agg #[.int .i64 4, .int .i64 16, .slice ee1 een1 eek1, .slice ee2 een2 eek2, .slice ee3 een3 eek3, .int .i64 10, .int .i64 1, .int .i64 1, .int .i64 2]) ⟨4, 16, [], [], [], 10, 1, 1, 2⟩) := Lib.hid hm7; have HY7 := Lib.hid hb7; have HA7 := Lib.hid (HQ6.out.below hb7); clear hm7 hb7 b6))
 obtain ⟨X7, hX7⟩ : ∃ X, w7.alloc (.cells #[.int .i64 4, .int .i64 16, .slice ee1 een1 eek1, .slice ee2 een2 eek2, .slice ee3 een3 eek3, .int .i64 10, .int .i64 1, .int .i64 1, .int .i64 2] 37) = X := ⟨_, rfl⟩
 obtain ⟨g7, hg7⟩ : ∃ g, w7.heap.size = g := ⟨_, rfl⟩
 rw [hX7, hg7]
 have hbx7 : Below w7.heap.size w7 X7 := by rw [← hX7]; exact below_new _ _
 have HN7 : Hid (Blk X7 g7 37 #[.int .i64 4, .int .i64 16, .slice ee1 een1 eek1, .slice ee2 een2 eek2, .slice ee3 een3 eek3, .int .i64 10, .int .i64 1, .int .i64 1, .int .i64 2]) := Lib.hid (by rw [← hX7, ← hg7]; exact Blk.new _ _ _)
 have HL7 : Hid (MachV X7 (.agg #[.int .i64 4, .int .i64 16, .slice ee1 een1 eek1, .slice ee2 een2 eek2, .slice ee3 een3 eek3, .int .i64 10, .int .i64 1, .int .i64 1, .int .i64 2]) ⟨4, 16, [], [], [], 10, 1, 1, 2⟩) := Lib.hid (HM7.out.below hbx7)
 have HQ7 := Lib.hid (HA7.out.below hbx7)
 have HN37 := Lib.hid (HN36.out.below (below_call hbx7 HY7.out))
 have HL37 := Lib.hid (HL36.out.below (below_call hbx7 HY7.out))
 have HN47 := Lib.hid (HN46.out.below (below_call hbx7 HY7.out))
 have HL47 := Lib.hid (HL46.out.below (below_call hbx7 HY7.out))
 have HN57 := Lib.hid (HN56.out.below (below_call hbx7 HY7.out))
 have HL57 := Lib.hid (HL56.out.below (below_call hbx7 HY7.out))
 have HN67 := Lib.hid (HN6.out.below (below_call hbx7 HY7.out))
 have HL67 := Lib.hid (HL6.out.below (below_call hbx7 HY7.out))
 clear hX7 hg7 hbx7
 have b7 := blk2 HQ7.out.hB
 have n37 := blk9 HN37.out
 have n47 := blk9 HN47.out
 have n57 := blk9 HN57.out
 have n67 := blk9 HN67.out
 have n7 := blk9 HN7.out
 have HT8 : Hid (Calls Tryz.prog 16 #[.agg #[.int .i64 1, .int .i64 0, .slice aa1 aan1 aak1, .slice aa2 aan2 aak2, .slice aa3 aan3 aak3, .int .i64 10, .int .i64 10, .int .i64 0, .int .i64 1]] X7 fun e w' => e = .returned (.int .i64 1) ∧ Below X7.heap.size X7 w') := Lib.hid (memory_any (m1 10) _ X7 HL37.out ⟨by simp [m1], by simp [m1]⟩)
 have HT9 : Hid (∀ wx, Below X7.heap.size X7 wx → Calls Tryz.prog 16 #[.agg #[.int .i64 1, .int .i64 0, .slice bb1 bbn1 bbk1, .slice bb2 bbn2 bbk2, .slice bb3 bbn3 bbk3, .int .i64 10, .int .i64 10, .int .i64 1, .int .i64 2]] wx fun e w' => e = .returned (.int .i64 2) ∧ Below wx.heap.size wx w') := Lib.hid (fun wx hx => memory_any ⟨1, 0, [], [⟨0, 1, [[c7]], [[c7]]⟩], [], 10, 10, 1, 2⟩ _ wx (HL47.out.below hx) ⟨by simp, by simp⟩)
 have HTC : Hid (∀ wx, Below X7.heap.size X7 wx → Calls Tryz.prog 21 #[.slice cc1 ccn1 cck1, .slice (some ⟨gV, 0, none⟩) 1 1] wx fun e w' => e = .returned (.bool true) ∧ ∃ q, w' = wx.drewN q) := Lib.hid (fun wx hx => cells_any [c7] [c7] _ _ wx (HL57.out.val.below hx) ((valOne HQ7.out.hV).below hx))
 go_wp2_with (first
  | (go_at_call 16; (with_reducible refine HT8.out.mono ?_); rintro e w8 ⟨rfl, hb8⟩; have HY8 := Lib.hid hb8; have n8 := blk9 (HN47.out.below hb8); clear hb8)
  | (go_at_call 16; (with_reducible refine (HT9.out _ HY8.out).mono ?_); rintro e w9 ⟨rfl, hb9⟩; have hy9 := below_call hb9 HY8.out; have HY9 := Lib.hid hy9; have n9 := blk9 (HN57.out.below hy9); have m9 := blk9 (HN7.out.below hy9); clear hb9 hy9)
  | (go_at_call 21; (with_reducible refine (HTC.out _ HY9.out).mono ?_); rintro e w10 ⟨rfl, q, rfl⟩))
 go_returns
 exact ⟨rfl, below_drewN (below_call HY9.out HQ7.out.hW) q⟩
end Go.Proofs.YtmljohbialacfaaGreatDoor
