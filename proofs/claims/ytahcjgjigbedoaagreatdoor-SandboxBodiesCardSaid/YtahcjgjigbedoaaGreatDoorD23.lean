/- The machines wake: Run, up to five steps. -/
import Derived.Test.YtahcjgjigbedoaaGreatDoorGD21
set_option linter.unusedVariables false
set_option linter.unusedSimpArgs false
namespace Go.Proofs.YtahcjgjigbedoaaGreatDoor
open Go.RowKit
set_option maxRecDepth 100000
variable {vd : ValD}

attribute [local go_sem] cell_alloc_is
set_option maxHeartbeats 8000000 in
theorem run_five (gF gI : Nat) (v : Value) (w : World) (h : CodeAt w gF gI) (hm : MachV w v (m1 vd 100)) (hl : vd.length ≤ 50) :
  Calls Tryz.prog 37 #[.agg #[.slice (some ⟨gF, 0, none⟩) 1 1, .slice (some ⟨gI, 0, none⟩) 2 2], v, .int .i64 20001] w fun e w' => ∃ x, e = .returned x ∧ OMach w' w.heap.size x ⟨3, 0, vd, [], [], 10, 100, 2, max (vd.length : Int) (2 * (vd.length : Int))⟩ ∧ Below w.heap.size w w' := by
 have HM := Lib.hid hm
 have HC := Lib.hid h
 have HL := Lib.hid hl
 obtain ⟨vv, fv, qv, rfl, hv, hf, hq⟩ := hm
 obtain ⟨A1, n1, k1, rfl⟩ := hv.shape
 obtain ⟨A2, n2, k2, rfl⟩ := hf.shape
 obtain ⟨A3, n3, k3, rfl⟩ := hq.shape
 clear hv hf hq h
 dsimp only [m1] at HM ⊢
 obtain ⟨pk, hpk⟩ : ∃ p : Int, max (vd.length : Int) (2 * (vd.length : Int)) = p := ⟨_, rfl⟩
 rw [hpk]
 have HPK := Lib.hid hpk
 clear hl hpk
 go_enter Tryz.func37, Tryz.ntmps37
 go_upto_region 1 with fail
 have HB := Lib.hid (below_3 w (.cells #[.slice (some ⟨gF, 0, none⟩) 1 1, .slice (some ⟨gI, 0, none⟩) 2 2] 41) (.cells #[.int .i64 1, .int .i64 0, .slice A1 n1 k1, .slice A2 n2 k2, .slice A3 n3 k3, .int .i64 10, .int .i64 100, .int .i64 0, .int .i64 vd.length] 61) (.cells #[.int .i64 0, .int .i64 0, .slice none 0 0, .slice none 0 0, .slice none 0 0, .int .i64 0, .int .i64 0, .int .i64 0, .int .i64 0] 61))
 have HGC := Lib.hid (((Blk.new w 41 #[.slice (some ⟨gF, 0, none⟩) 1 1, .slice (some ⟨gI, 0, none⟩) 2 2]).alloc (.cells #[.int .i64 1, .int .i64 0, .slice A1 n1 k1, .slice A2 n2 k2, .slice A3 n3 k3, .int .i64 10, .int .i64 100, .int .i64 0, .int .i64 vd.length] 61)).alloc (.cells #[.int .i64 0, .int .i64 0, .slice none 0 0, .slice none 0 0, .slice none 0 0, .int .i64 0, .int .i64 0, .int .i64 0, .int .i64 0] 61))
 have HGM := Lib.hid ((Blk.second w (.cells #[.slice (some ⟨gF, 0, none⟩) 1 1, .slice (some ⟨gI, 0, none⟩) 2 2] 41) 61 #[.int .i64 1, .int .i64 0, .slice A1 n1 k1, .slice A2 n2 k2, .slice A3 n3 k3, .int .i64 10, .int .i64 100, .int .i64 0, .int .i64 vd.length]).alloc (.cells #[.int .i64 0, .int .i64 0, .slice none 0 0, .slice none 0 0, .slice none 0 0, .int .i64 0, .int .i64 0, .int .i64 0, .int .i64 0] 61))
 have HGZ := Lib.hid (Blk.third w (.cells #[.slice (some ⟨gF, 0, none⟩) 1 1, .slice (some ⟨gI, 0, none⟩) 2 2] 41) (.cells #[.int .i64 1, .int .i64 0, .slice A1 n1 k1, .slice A2 n2 k2, .slice A3 n3 k3, .int .i64 10, .int .i64 100, .int .i64 0, .int .i64 vd.length] 61) 61 #[.int .i64 0, .int .i64 0, .slice none 0 0, .slice none 0 0, .slice none 0 0, .int .i64 0, .int .i64 0, .int .i64 0, .int .i64 0])
 obtain ⟨W, hW⟩ : ∃ W, ((w.alloc (.cells #[.slice (some ⟨gF, 0, none⟩) 1 1, .slice (some ⟨gI, 0, none⟩) 2 2] 41)).alloc (.cells #[.int .i64 1, .int .i64 0, .slice A1 n1 k1, .slice A2 n2 k2, .slice A3 n3 k3, .int .i64 10, .int .i64 100, .int .i64 0, .int .i64 vd.length] 61)).alloc (.cells #[.int .i64 0, .int .i64 0, .slice none 0 0, .slice none 0 0, .slice none 0 0, .int .i64 0, .int .i64 0, .int .i64 0, .int .i64 0] 61) = W := ⟨_, rfl⟩
 rw [hW] at HB HGC HGM HGZ ⊢
 obtain ⟨gC, hgC⟩ : ∃ g, w.heap.size = g := ⟨_, rfl⟩
 obtain ⟨gM, hgM⟩ : ∃ g, w.heap.size + 1 = g := ⟨_, rfl⟩
 obtain ⟨gZ, hgZ⟩ : ∃ g, w.heap.size + 1 + 1 = g := ⟨_, rfl⟩
 have HGCe := Lib.hid hgC
 have HCC : Hid (Blk W gC 41 #[.slice (some ⟨gF, 0, none⟩) 1 1, .slice (some ⟨gI, 0, none⟩) 2 2]) := Lib.hid (by rw [← hgC]; exact HGC.out)
 have HMM : Hid (Blk W gM 61 #[.int .i64 1, .int .i64 0, .slice A1 n1 k1, .slice A2 n2 k2, .slice A3 n3 k3, .int .i64 10, .int .i64 100, .int .i64 0, .int .i64 vd.length]) := Lib.hid (by rw [← hgM]; exact HGM.out)
 have HZZ : Hid (Blk W gZ 61 #[.int .i64 0, .int .i64 0, .slice none 0 0, .slice none 0 0, .slice none 0 0, .int .i64 0, .int .i64 0, .int .i64 0, .int .i64 0]) := Lib.hid (by rw [← hgZ]; exact HGZ.out)
 have HLZ : Hid (w.heap.size ≤ gZ) := Lib.hid (by rw [← hgZ]; omega)
 have HLZ2 : Hid (gZ < W.heap.size) := Lib.hid HZZ.out.lt
 rw [hgZ, hgM, hgC]
 have HCW := Lib.hid (HC.out.below HB.out)
 have HMW := Lib.hid (HM.out.below HB.out)
 clear hW hgC hgM hgZ HGC HGM HGZ HC HM
 have HO1 : Hid (Calls Tryz.prog 40 #[.agg #[.int .i64 1, .int .i64 0, .slice A1 n1 k1, .slice A2 n2 k2, .slice A3 n3 k3, .int .i64 10, .int .i64 100, .int .i64 0, .int .i64 vd.length]] W.drew fun e w' => ∃ v', e = .returned v' ∧ OMach w' W.heap.size v' (m1 vd 100) ∧ Below W.heap.size W w') :=
  Lib.hid ((own_any _ _ W.drew HMW.out (by simp) (by simp)).mono fun e w' ⟨v', he, ho, hb⟩ => ⟨v', he, ho, below_call hb (below_drew W)⟩)
 have HO2 : Hid (Calls Tryz.prog 40 #[.agg #[.int .i64 1, .int .i64 0, .slice A1 n1 k1, .slice A2 n2 k2, .slice A3 n3 k3, .int .i64 10, .int .i64 100, .int .i64 0, .int .i64 vd.length]] (W.alloc (.cells #[.slice none 0 0, .slice none 0 0, .int .i64 0, .int .i64 0, .slice none 0 0, .slice none 0 0, .slice none 0 0, .int .i64 0, .int .i64 0, .int .i64 0, .int .i64 0] 84)).drew fun e w' => ∃ v', e = .returned v' ∧ OMach w' W.heap.size v' (m1 vd 100) ∧ Below W.heap.size W w' ∧ Blk w' W.heap.size 84 #[.slice none 0 0, .slice none 0 0, .int .i64 0, .int .i64 0, .slice none 0 0, .slice none 0 0, .slice none 0 0, .int .i64 0, .int .i64 0, .int .i64 0, .int .i64 0]) :=
  Lib.hid ((own_any _ _ (W.alloc (.cells #[.slice none 0 0, .slice none 0 0, .int .i64 0, .int .i64 0, .slice none 0 0, .slice none 0 0, .slice none 0 0, .int .i64 0, .int .i64 0, .int .i64 0, .int .i64 0] 84)).drew (HMW.out.below (below_new W _).drew) (by simp) (by simp)).mono fun e w' ⟨v', he, ho, hb⟩ => ⟨v', he, ho.base (by simp), below_call hb (below_new W _).drew, (Blk.new W 84 #[.slice none 0 0, .slice none 0 0, .int .i64 0, .int .i64 0, .slice none 0 0, .slice none 0 0, .slice none 0 0, .int .i64 0, .int .i64 0, .int .i64 0, .int .i64 0]).drew.below hb⟩)
 have gx := blkCM HCC.out HMM.out
 have gxc := gx
 obtain ⟨x0, x1, y0, y1', y2', y3, y4, y5, y6, y7, y8⟩ := gxc
 clear gx
 go_cut [7] from 9 to 12 (fun u wx => RunCut vd W W gF gI 100 u wx)
 case first =>
  refine wp_region_held_drew (S := fun w' => w'.cell? ⟨gC, 0, none⟩ = some (.slice (some ⟨gF, 0, none⟩) 1 1) ∧ w'.cell? ⟨gC, 1, none⟩ = some (.slice (some ⟨gI, 0, none⟩) 2 2) ∧ w'.cell? ⟨gM, 0, none⟩ = some (.int .i64 1) ∧ w'.cell? ⟨gM, 1, none⟩ = some (.int .i64 0) ∧ w'.cell? ⟨gM, 2, none⟩ = some (.slice A1 n1 k1) ∧ w'.cell? ⟨gM, 3, none⟩ = some (.slice A2 n2 k2) ∧ w'.cell? ⟨gM, 4, none⟩ = some (.slice A3 n3 k3) ∧ w'.cell? ⟨gM, 5, none⟩ = some (.int .i64 10) ∧ w'.cell? ⟨gM, 6, none⟩ = some (.int .i64 100) ∧ w'.cell? ⟨gM, 7, none⟩ = some (.int .i64 0) ∧ w'.cell? ⟨gM, 8, none⟩ = some (.int .i64 vd.length)) (by kernel_rfl) ⟨x0, x1, y0, y1', y2', y3, y4, y5, y6, y7, y8⟩ (fun hHeld => ?_)
  refine wpAnyH_take (i := 0) (oi := _) (v := .agg #[.slice (some ⟨gF, 0, none⟩) 1 1, .slice (some ⟨gI, 0, none⟩) 2 2]) rfl (by kernel_rfl) (by kernel_rfl) (by kernel_rfl) (fun _ _ _ h => h) (Or.inl ⟨by rfl, by intro w hSw; (try dsimp only at hSw); go_simp⟩) (by assumption) ?_
  simp only [Act.put, List.setIfInBounds_toArray, List.set_cons_zero, List.set_cons_succ]
  refine wpAnyH_take (i := 1) (oi := _) (v := .agg #[.int .i64 1, .int .i64 0, .slice A1 n1 k1, .slice A2 n2 k2, .slice A3 n3 k3, .int .i64 10, .int .i64 100, .int .i64 0, .int .i64 vd.length]) rfl (by kernel_rfl) (by kernel_rfl) (by kernel_rfl) (fun _ _ _ h => h) (Or.inl ⟨by rfl, by intro w hSw; (try dsimp only at hSw); go_simp⟩) (by assumption) ?_
  simp only [Act.put, List.setIfInBounds_toArray, List.set_cons_zero, List.set_cons_succ]
  refine wpAnyH_ready (rs := [2, 4]) (by kernel_rfl) (by simp) ?_
  refine AllReadyH.cons (o := _) rfl (fun K hK => ?_) ?_
  ·go_simp
   with_reducible refine HO1.out.mono ?_
   rintro e w4 ⟨v4, rfl, hom, hb4⟩
   obtain ⟨gR, kR, gL, kL, B1, y1, B2, y2, A, k, A', k', cs, cl, rfl, hown⟩ := own1_of hom
   have HOW4 := Lib.hid hown
   have HC4 := Lib.hid (HCC.out.below hb4)
   have HM4 := Lib.hid (HMM.out.below hb4)
   have HB4 := Lib.hid hb4
   clear hom hown hb4
   go_wp2_with fail
   refine hK.out _ _ (blkCM HC4.out HM4.out) (fun hHeld => ?_)
   clear hK K
   try simp only [Act.put, List.setIfInBounds_toArray, List.set_cons_zero, List.set_cons_succ]
   refine wpAnyH_take (i := 3) (oi := _) (v := .agg #[.slice (some ⟨gF, 0, none⟩) 1 1, .slice (some ⟨gI, 0, none⟩) 2 2, .int .i64 1, .int .i64 0, .slice B1 0 y1, .slice (some ⟨gR, 0, none⟩) 1 kR, .slice B2 0 y2, .int .i64 10, .int .i64 100, .int .i64 0, .int .i64 vd.length]) rfl (by kernel_rfl) (by kernel_rfl) (by kernel_rfl) (fun _ _ _ h => h) (Or.inl ⟨by rfl, by intro w hSw; (try dsimp only at hSw); go_simp⟩) (by assumption) ?_
   simp only [Act.put, List.setIfInBounds_toArray, List.set_cons_zero, List.set_cons_succ]
   refine wpAnyH_ready (rs := [4]) (by kernel_rfl) (by simp) ?_
   refine AllReadyH.cons (o := _) rfl (fun K hK => ?_) AllReadyH.nil
   go_simp
   have HC5 := Lib.hid (HC4.out.alloc (.cells #[.slice none 0 0, .slice none 0 0, .int .i64 0, .int .i64 0, .slice none 0 0, .slice none 0 0, .slice none 0 0, .int .i64 0, .int .i64 0, .int .i64 0, .int .i64 0] 84))
   have HM5 := Lib.hid (HM4.out.alloc (.cells #[.slice none 0 0, .slice none 0 0, .int .i64 0, .int .i64 0, .slice none 0 0, .slice none 0 0, .slice none 0 0, .int .i64 0, .int .i64 0, .int .i64 0, .int .i64 0] 84))
   refine hK.out _ _ (blkCM HC5.out HM5.out) (fun hHeld => ?_)
   clear hK K
   try simp only [Act.put, List.setIfInBounds_toArray, List.set_cons_zero, List.set_cons_succ]
   refine wpAnyH_ready (rs := [5]) (by kernel_rfl) (by simp) ?_
   refine AllReadyH.cons (o := _) rfl (fun K hK => ?_) AllReadyH.nil
   rw [if_pos (by rfl)]
   refine wp_store_row _ _ _ rfl w4.heap.size #[.slice (some ⟨gF, 0, none⟩) 1 1, .slice (some ⟨gI, 0, none⟩) 2 2, .int .i64 1, .int .i64 0, .slice B1 0 y1, .slice (some ⟨gR, 0, none⟩) 1 kR, .slice B2 0 y2, .int .i64 10, .int .i64 100, .int .i64 0, .int .i64 vd.length] rfl rfl 84 _ (Blk.new w4 84 _) (by kernel_rfl) rfl (by simp [Value.oneCell']) ?_
   have HC6 := Lib.hid (HC5.out.row_far (cs' := #[.slice (some ⟨gF, 0, none⟩) 1 1, .slice (some ⟨gI, 0, none⟩) 2 2, .int .i64 1, .int .i64 0, .slice B1 0 y1, .slice (some ⟨gR, 0, none⟩) 1 kR, .slice B2 0 y2, .int .i64 10, .int .i64 100, .int .i64 0, .int .i64 vd.length]) (Nat.ne_of_lt HC4.out.lt))
   have HM6 := Lib.hid (HM5.out.row_far (cs' := #[.slice (some ⟨gF, 0, none⟩) 1 1, .slice (some ⟨gI, 0, none⟩) 2 2, .int .i64 1, .int .i64 0, .slice B1 0 y1, .slice (some ⟨gR, 0, none⟩) 1 kR, .slice B2 0 y2, .int .i64 10, .int .i64 100, .int .i64 0, .int .i64 vd.length]) (Nat.ne_of_lt HM4.out.lt))
   refine hK.out _ _ (blkCM HC6.out HM6.out) (fun hHeld => ?_)
   refine wpAnyH_done (by kernel_rfl) ?_ _
   dsimp only [List.getElem_toArray, List.getElem_cons_succ, List.getElem_cons_zero, Act.put]
   go_wp2_with fail
   go_meet
   exact ⟨w4.heap.size, gR, kR, gL, kL, B1, y1, B2, y2, A, k, A', k', cs, cl, rfl, HB4.out.size, (Blk.new w4 84 _).setRow, (HOW4.out.below (below_new w4 (.cells #[.slice none 0 0, .slice none 0 0, .int .i64 0, .int .i64 0, .slice none 0 0, .slice none 0 0, .slice none 0 0, .int .i64 0, .int .i64 0, .int .i64 0, .int .i64 0] 84))).kt (KT.row (Blk.new w4 84 _) _), below_setRow (HB4.out.alloc HB4.out.size _) HB4.out.size _⟩
  ·refine AllReadyH.cons (o := _) rfl (fun K hK => ?_) AllReadyH.nil
   go_simp
   have HC3 := Lib.hid (HCC.out.alloc (.cells #[.slice none 0 0, .slice none 0 0, .int .i64 0, .int .i64 0, .slice none 0 0, .slice none 0 0, .slice none 0 0, .int .i64 0, .int .i64 0, .int .i64 0, .int .i64 0] 84))
   have HM3 := Lib.hid (HMM.out.alloc (.cells #[.slice none 0 0, .slice none 0 0, .int .i64 0, .int .i64 0, .slice none 0 0, .slice none 0 0, .slice none 0 0, .int .i64 0, .int .i64 0, .int .i64 0, .int .i64 0] 84))
   refine hK.out _ _ (blkCM HC3.out HM3.out) (fun hHeld => ?_)
   clear hK K
   try simp only [Act.put, List.setIfInBounds_toArray, List.set_cons_zero, List.set_cons_succ]
   refine wpAnyH_ready (rs := [2]) (by kernel_rfl) (by simp) ?_
   refine AllReadyH.cons (o := _) rfl (fun K hK => ?_) AllReadyH.nil
   go_simp
   with_reducible refine HO2.out.mono ?_
   rintro e w4 ⟨v4, rfl, hom, hb4, BZ⟩
   obtain ⟨gR, kR, gL, kL, B1, y1, B2, y2, A, k, A', k', cs, cl, rfl, hown⟩ := own1_of hom
   have HOW4 := Lib.hid hown
   have HC4 := Lib.hid (HCC.out.below hb4)
   have HM4 := Lib.hid (HMM.out.below hb4)
   have HB4 := Lib.hid hb4
   have HBZ := Lib.hid BZ
   clear hom hown hb4 BZ
   go_wp2_with fail
   refine hK.out _ _ (blkCM HC4.out HM4.out) (fun hHeld => ?_)
   clear hK K
   try simp only [Act.put, List.setIfInBounds_toArray, List.set_cons_zero, List.set_cons_succ]
   refine wpAnyH_take (i := 3) (oi := _) (v := .agg #[.slice (some ⟨gF, 0, none⟩) 1 1, .slice (some ⟨gI, 0, none⟩) 2 2, .int .i64 1, .int .i64 0, .slice B1 0 y1, .slice (some ⟨gR, 0, none⟩) 1 kR, .slice B2 0 y2, .int .i64 10, .int .i64 100, .int .i64 0, .int .i64 vd.length]) rfl (by kernel_rfl) (by kernel_rfl) (by kernel_rfl) (fun _ _ _ h => h) (Or.inl ⟨by rfl, by intro w hSw; (try dsimp only at hSw); go_simp⟩) (by assumption) ?_
   simp only [Act.put, List.setIfInBounds_toArray, List.set_cons_zero, List.set_cons_succ]
   refine wpAnyH_ready (rs := [5]) (by kernel_rfl) (by simp) ?_
   refine AllReadyH.cons (o := _) rfl (fun K hK => ?_) AllReadyH.nil
   rw [if_pos (by rfl)]
   refine wp_store_row _ _ _ rfl W.heap.size #[.slice (some ⟨gF, 0, none⟩) 1 1, .slice (some ⟨gI, 0, none⟩) 2 2, .int .i64 1, .int .i64 0, .slice B1 0 y1, .slice (some ⟨gR, 0, none⟩) 1 kR, .slice B2 0 y2, .int .i64 10, .int .i64 100, .int .i64 0, .int .i64 vd.length] rfl rfl 84 _ HBZ.out (by kernel_rfl) rfl (by simp [Value.oneCell']) ?_
   have HC6 := Lib.hid (HC4.out.row_far (cs' := #[.slice (some ⟨gF, 0, none⟩) 1 1, .slice (some ⟨gI, 0, none⟩) 2 2, .int .i64 1, .int .i64 0, .slice B1 0 y1, .slice (some ⟨gR, 0, none⟩) 1 kR, .slice B2 0 y2, .int .i64 10, .int .i64 100, .int .i64 0, .int .i64 vd.length]) (Nat.ne_of_lt HCC.out.lt))
   have HM6 := Lib.hid (HM4.out.row_far (cs' := #[.slice (some ⟨gF, 0, none⟩) 1 1, .slice (some ⟨gI, 0, none⟩) 2 2, .int .i64 1, .int .i64 0, .slice B1 0 y1, .slice (some ⟨gR, 0, none⟩) 1 kR, .slice B2 0 y2, .int .i64 10, .int .i64 100, .int .i64 0, .int .i64 vd.length]) (Nat.ne_of_lt HMM.out.lt))
   refine hK.out _ _ (blkCM HC6.out HM6.out) (fun hHeld => ?_)
   refine wpAnyH_done (by kernel_rfl) ?_ _
   dsimp only [List.getElem_toArray, List.getElem_cons_succ, List.getElem_cons_zero, Act.put]
   go_wp2_with fail
   go_meet
   exact ⟨W.heap.size, gR, kR, gL, kL, B1, y1, B2, y2, A, k, A', k', cs, cl, rfl, Nat.le_refl _, HBZ.out.setRow, HOW4.out.kt (KT.row HBZ.out _), below_setRow HB4.out (Nat.le_refl _) _⟩
 case rest =>
  obtain ⟨gE, gR, kR, gL, kL, B1, y1, B2, y2, A, k, A', k', cs, cl, rfl, hgE, hE, hown, hbc⟩ := hcut
  have HE := Lib.hid hE
  have HOW := Lib.hid hown
  have HBc := Lib.hid hbc
  have HCc := Lib.hid (HCW.out.below hbc)
  have HZc := Lib.hid (HZZ.out.below hbc)
  have HWc : Hid (Below w.heap.size w wc) := Lib.hid (below_call hbc HB.out)
  clear hE hown hbc x0 x1 y0 y1' y2' y3 y4 y5 y6 y7 y8
  have hb : W.heap.size ≤ wc.heap.size := HBc.out.size
  go_wp2_with (first
   | (go_at_call 55; with_reducible refine (actions_ok _).mono ?_; rintro e w2 ⟨gT, rfl, hT, hb2⟩; have HT2 := Lib.hid hT; have HB2 := Lib.hid (below_call hb2 HBc.out); have HE2 := Lib.hid (HE.out.below hb2); have HOW2 := Lib.hid (HOW.out.below hb2); have HC2 := Lib.hid (HCc.out.below hb2); clear hT hb2))
  have HX2 : Hid (XSt vd w2 W.heap.size gF gI gE gR kR gL kL (.slice B1 0 y1) (.slice B2 0 y2) 10 100 0 vd.length 0 (.slice A' 0 k') A k cs cl) := Lib.hid ⟨HE2.out, HC2.out, HOW2.out.hR, HOW2.out.c0, HOW2.out.c1, HOW2.out.c2, HOW2.out.c3, HOW2.out.hL, HOW2.out.l0, HOW2.out.hV, HOW2.out.kR1, HOW2.out.kL1, by have := HL.out; omega⟩
  have e2 := blkE HE2.out
  have HS2 := Lib.hid (step_load W.heap.size gF gI gE gR kR gL kL gT y1 y2 k k' 100 vd.length B1 B2 A A' cs cl w2 HX2.out HOW2.out.hsv HOW2.out.hne HT2.out hgE HOW2.out.bR HB2.out.size (by have := HL.out; omega))
  rw [HPK.out] at HS2
  refine wp_loop_rounds 3 ?_
  rw [rounds_succ]
  go_wp2_with (first
   | (go_at_call 56; (with_reducible refine HS2.out.mono ?_); rintro e w3 ⟨rfl, gS, kS, cs3, cl3, hx3, hs3, hs30, hk3, ht3, hb3⟩; have HX3 : Hid (XSt vd w3 W.heap.size gF gI gE gR kR gL kL (.slice B1 0 y1) (.slice B2 0 y2) 10 100 1 pk 1 (.slice (some ⟨gS, 0, none⟩) 1 kS) A k cs3 cl) := Lib.hid hx3; have HT3 := Lib.hid ht3; have HBB := Lib.hid (HB2.out.trans hb3); have HS3 := Lib.hid (step_back W.heap.size gF gI gE gR kR gL kL gT gS kS y1 y2 k 100 pk B1 B2 A cs3 cl cl3 w3 hx3 ht3 hgE HOW2.out.bR (HB2.out.trans hb3).size hs3 hs30 hk3); clear hx3 hs3 hs30 hk3 ht3 hb3 e2 HS2))
  have e3 := blkE HX3.out.hE
  rw [rounds_succ]
  go_wp2_with (first
   | (go_at_call 56; (with_reducible refine HS3.out.mono ?_); rintro e w3' ⟨rfl, hE3, hV3, hb3⟩; have HE3 : Hid (Blk w3' gE 84 (exC gF gI 3 0 (.slice A vd.length k) (.slice none 0 0) (.slice B2 0 y2) 10 100 2 pk)) := Lib.hid hE3; have HV3 := Lib.hid hV3; have HB3 := Lib.hid (HBB.out.trans hb3); clear hE3 hV3 hb3 e3 HS3))
  rw [rounds_succ]
  have e4 := blkE HE3.out
  have HZ3 : Hid (Blk w3' gZ 61 _) := Lib.hid ((HB3.out.block gZ HLZ2.out).trans HZZ.out)
  have HO3 : Hid (Calls Tryz.prog 40 #[.agg #[.int .i64 3, .int .i64 0, .slice A vd.length k, .slice none 0 0, .slice B2 0 y2, .int .i64 10, .int .i64 100, .int .i64 2, .int .i64 pk]] w3' fun e w' => ∃ v', e = .returned v' ∧ OMach w' w3'.heap.size v' ⟨3, 0, vd, [], [], 10, 100, 2, pk⟩ ∧ Below w3'.heap.size w3' w') := Lib.hid (own_any ⟨3, 0, vd, [], [], 10, 100, 2, pk⟩ _ w3' ⟨_, _, _, rfl, HV3.out.val (by have := HL.out; omega), RowsV.nil _ _, RowsV.nil _ _⟩ (by simp) (by simp))
  have HW3 : Hid (Below w.heap.size w w3') := Lib.hid (below_call HB3.out HB.out)
  go_wp2_with (first
   | (go_at_call 40; (with_reducible refine HO3.out.mono ?_); rintro e w4 ⟨v4, rfl, ho4, hb4⟩; obtain ⟨C1, l1, z1, C2, l2, z2, C3, l3, z3, rfl⟩ := ho4.shape; have HO4 := Lib.hid ho4; have HZ4 := Lib.hid (HZ3.out.below hb4); have HW4 := Lib.hid (below_call hb4 HW3.out); clear ho4 hb4)
   | (refine wpList_store_row rfl 61 (.tmp 6) (.tmp 28) rfl gZ #[.int .i64 3, .int .i64 0, .slice C1 l1 z1, .slice C2 l2 z2, .slice C3 l3 z3, .int .i64 10, .int .i64 100, .int .i64 2, .int .i64 pk] rfl rfl 61 _ HZ4.out (by kernel_rfl) rfl (by simp [Value.oneCell']) ?_))
  have HZ5 := Lib.hid (HZ4.out.setRow (cs' := #[.int .i64 3, .int .i64 0, .slice C1 l1 z1, .slice C2 l2 z2, .slice C3 l3 z3, .int .i64 10, .int .i64 100, .int .i64 2, .int .i64 pk]))
  have HO5 := Lib.hid (HO4.out.kt (KT.row HZ4.out #[.int .i64 3, .int .i64 0, .slice C1 l1 z1, .slice C2 l2 z2, .slice C3 l3 z3, .int .i64 10, .int .i64 100, .int .i64 2, .int .i64 pk]))
  have HW5 := Lib.hid (below_setRow HW4.out HLZ.out #[.int .i64 3, .int .i64 0, .slice C1 l1 z1, .slice C2 l2 z2, .slice C3 l3 z3, .int .i64 10, .int .i64 100, .int .i64 2, .int .i64 pk])
  obtain ⟨w5, hw5⟩ : ∃ w5, w4.setRow gZ #[.int .i64 3, .int .i64 0, .slice C1 l1 z1, .slice C2 l2 z2, .slice C3 l3 z3, .int .i64 10, .int .i64 100, .int .i64 2, .int .i64 pk] = w5 := ⟨_, rfl⟩
  rw [hw5] at HZ5 HO5 HW5
  try rw [hw5]
  clear hw5
  have gz := blk9 HZ5.out
  refine bodyPost_ret (v := .agg #[.int .i64 3, .int .i64 0, .slice C1 l1 z1, .slice C2 l2 z2, .slice C3 l3 z3, .int .i64 10, .int .i64 100, .int .i64 2, .int .i64 pk]) (by simp [results, Tryz.results37, go_sem, gz]) rfl ?_
  exact ⟨_, rfl, HO5.out.base HW3.out.size, HW5.out⟩
end Go.Proofs.YtahcjgjigbedoaaGreatDoor
