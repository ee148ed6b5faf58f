/- Outcome on both sides. The law wakes: the outcome of a machine that is done. -/
import Derived.Test.YtahcjgjigbedoaaGreatDoorC11
import Derived.Test.YtahcjgjigbedoaaGreatDoorGC7
set_option linter.unusedVariables false
set_option linter.unusedSimpArgs false
namespace Go.Proofs.YtahcjgjigbedoaaGreatDoor
open Go.RowKit
set_option maxRecDepth 100000

def outR (m : MachD) : OutD := ⟨decide (m.status = 3) || decide (m.status = 4), if m.status = 4 then m.err else 0, if m.status = 3 then m.value else [], m.requests⟩
def OutPost (m : MachD) (w : World) (e : Ending) (w' : World) : Prop := ∃ v', e = .returned v' ∧ OutV w' v' (outR m) ∧ Below w.heap.size w w'

attribute [local go_sem] cell_alloc_is
theorem zip_flat {α β γ : Type} (f : α → β → List γ) (l : List α) (ps : List β) : (List.zipWith f l ps).flatten = (l.zip ps).flatMap (fun p => f p.1 p.2) := by
 induction l generalizing ps with
 | nil => simp
 | cons a r ih =>
  cases ps with
  | nil => simp
  | cons b s => simp [ih]
theorem zip_rows {α β γ : Type} (f : α → β → List γ) (l : List α) (ps : List β) : (l.zip ps).map (fun p => f p.1 p.2) = List.zipWith f l ps := by
 induction l generalizing ps with
 | nil => simp
 | cons a r ih =>
  cases ps with
  | nil => simp
  | cons b s => simp [ih]
theorem OReqs.reqs {w : World} {base : Nat} {v : Value} {l : List ReqD} (h : OReqs w base v l) (hm : l.length ≤ 3518437208780) (hs : ∀ r ∈ l, r.args.length ≤ 5864062014634 ∧ ∀ x ∈ r.args, x.length ≤ 3518437208780) : ReqsV w v l := by
 obtain ⟨vs, h1, h2, h3⟩ := h
 obtain ⟨A, cap, rfl⟩ := own_shape h2
 have hc : l.length ≤ cap := by
  rcases h2.2 with ⟨e, hn⟩ | ⟨g, cap', cur, e, _, _, h3, _⟩
  ·omega
  ·injection e with _ _ e; omega
 have hsl : SlAt w A 2 (fun x : ReqD × Value => reqRow x.1 x.2) (l.zip vs) := SlAt.of_own h2 (zip_flat reqRow l vs) (fun _ => rfl) (by omega)
 refine ⟨A, cap, List.zipWith reqRow l vs, rfl, hc, hm, ?_, by simp [h1], fun i hi hi' => ?_⟩
 ·rw [← zip_rows reqRow l vs]
  unfold SlAt at hsl ⊢
  rwa [List.map_map]
 ·have hv : i < vs.length := by omega
  refine ⟨vs[i], by simp [reqRow], (h3 i hv hi').vals ?_ ?_⟩
  ·exact (hs _ (List.getElem_mem hi')).1
  ·exact (hs _ (List.getElem_mem hi')).2
theorem ReqsV.bounds {w : World} {v : Value} {l : List ReqD} (h : ReqsV w v l) : l.length ≤ 3518437208780 ∧ ∀ r ∈ l, r.args.length ≤ 5864062014634 ∧ ∀ x ∈ r.args, x.length ≤ 3518437208780 := by
 obtain ⟨A, cap, rows, _, _, hm, _, hl, hv⟩ := h
 refine ⟨hm, fun x hx => ?_⟩
 obtain ⟨i, hi, rfl⟩ := List.getElem_of_mem hx
 obtain ⟨av, _, hav⟩ := hv i (by omega) hi
 exact hav.bounds
theorem ValV.bound {w : World} {v : Value} {l : ValD} (h : ValV w v l) : l.length ≤ 3518437208780 := by
 obtain ⟨_, _, _, _, h3, _⟩ := h.at
 exact h3

theorem OFrames.shape {w : World} {base : Nat} {v : Value} {l : List FrameD} {ps : List (Value × Value)} (h : OFrames w base v l ps) : ∃ A n cap, v = .slice A n cap := by
 obtain ⟨A, cap, e⟩ := own_shape h.2.1; exact ⟨A, _, cap, e⟩
set_option maxHeartbeats 4000000 in
theorem moutcome_any (m : MachD) (v : Value) (w : World) (h : MachV w v m) (hf : m.frames.length ≤ 1000) (hq : m.requests.length ≤ 1000) :
  Calls Tryz.prog 24 #[v] w (OutPost m w) := by
 obtain ⟨st, er, va, fr, rq, ls, lm, sp, pk⟩ := m
 have HOWN := Lib.hid (fun wx (hb : Below w.heap.size w wx) => own_any _ _ wx (h.below hb) hf hq)
 obtain ⟨vv, fv, qv, rfl, hvv, hfv, hqv⟩ := h
 dsimp only at hf hq hvv hfv hqv ⊢
 have HBQ := Lib.hid hqv.bounds
 have HBV := Lib.hid hvv.bound
 obtain ⟨A1, n1, k1, rfl⟩ := hvv.shape
 obtain ⟨A2, n2, k2, rfl⟩ := hfv.shape
 obtain ⟨A3, n3, k3, rfl⟩ := hqv.shape
 obtain ⟨P, hP⟩ : ∃ P, OutPost ⟨st, er, va, fr, rq, ls, lm, sp, pk⟩ w = P := ⟨_, rfl⟩
 rw [hP]
 have HP := Lib.hid hP
 clear hP hvv hfv hqv hf hq
 go_enter Tryz.func24, Tryz.ntmps24
 go_wp2_with (fail)
 refine (HOWN.out _ (below_2 _ _ _)).mono ?_
 rintro e w1 ⟨v1, rfl, ⟨vv, fv, qv, ps, rfl, hov, hof, hoq⟩, hb1⟩
 dsimp only at hov hof hoq ⊢
 have HX1 := Lib.hid ((((Blk.new w 61 #[.int .i64 st, .int .i64 er, .slice A1 n1 k1, .slice A2 n2 k2, .slice A3 n3 k3, .int .i64 ls, .int .i64 lm, .int .i64 sp, .int .i64 pk]).alloc _)).below hb1)
 have HR1 := Lib.hid ((Blk.second w _ 35 #[.bool false, .int .i64 0, .slice none 0 0, .slice none 0 0]).below hb1)
 have HB1 := Lib.hid (below_call hb1 (below_2 w _ _))
 have HOV := Lib.hid (hov.val HBV.out)
 have HOQ := Lib.hid (hoq.reqs HBQ.out.1 HBQ.out.2)
 obtain ⟨A5, n5, k5, rfl⟩ := hof.shape
 have HOO := Lib.hid hov
 have HOR := Lib.hid hoq
 clear hov hof hoq hb1
 obtain ⟨A4, n4, k4, rfl⟩ := HOV.out.shape
 obtain ⟨A6, n6, k6, rfl⟩ := HOQ.out.shape
 obtain ⟨wz, hwz⟩ : ∃ wz, w1.setRow w.heap.size #[.int .i64 st, .int .i64 er, .slice A4 n4 k4, .slice A5 n5 k5, .slice A6 n6 k6, .int .i64 ls, .int .i64 lm, .int .i64 sp, .int .i64 pk] = wz := ⟨_, rfl⟩
 have HK := Lib.hid (KT.row HX1.out #[.int .i64 st, .int .i64 er, .slice A4 n4 k4, .slice A5 n5 k5, .slice A6 n6 k6, .int .i64 ls, .int .i64 lm, .int .i64 sp, .int .i64 pk])
 have HZ := Lib.hid (HX1.out.setRow (cs' := #[.int .i64 st, .int .i64 er, .slice A4 n4 k4, .slice A5 n5 k5, .slice A6 n6 k6, .int .i64 ls, .int .i64 lm, .int .i64 sp, .int .i64 pk]))
 have HB2 := Lib.hid (below_setRow HB1.out (Nat.le_refl _) #[.int .i64 st, .int .i64 er, .slice A4 n4 k4, .slice A5 n5 k5, .slice A6 n6 k6, .int .i64 ls, .int .i64 lm, .int .i64 sp, .int .i64 pk])
 rw [hwz] at HK HZ HB2
 have HRZ := Lib.hid (HK.out.blk (by decide) HR1.out)
 have HWZ := Lib.hid hwz
 clear hwz
 have gz := blk9 HZ.out
 by_cases h3 : st = 3
 ·subst h3
  have HR : Hid (outR ⟨3, er, va, fr, rq, ls, lm, sp, pk⟩ = ⟨true, 0, va, rq⟩) := Lib.hid (by simp [outR])
  have HQ := Lib.hid (HRZ.out.alloc (.cells #[.bool true, .int .i64 0, .slice A4 n4 k4, .slice A6 n6 k6] 35))
  have HE := Lib.hid (HQ.out.setRow (cs' := #[.bool true, .int .i64 0, .slice A4 n4 k4, .slice A6 n6 k6]))
  have HBE := Lib.hid (below_setRow (HB2.out.alloc (Nat.le_trans HB1.out.size HK.out.1) (.cells #[.bool true, .int .i64 0, .slice A4 n4 k4, .slice A6 n6 k6] 35)) (Nat.le_succ _) #[.bool true, .int .i64 0, .slice A4 n4 k4, .slice A6 n6 k6])
  have KE := Lib.hid ((KT.of_below (t := 35) (below_new wz (.cells #[.bool true, .int .i64 0, .slice A4 n4 k4, .slice A6 n6 k6] 35))).trans (KT.row HQ.out #[.bool true, .int .i64 0, .slice A4 n4 k4, .slice A6 n6 k6]))
  have ge := blk4 HE.out
  go_wp2_with (first
   | (refine wpList_store_row rfl 61 (.tmp 1) (.tmp 5) rfl w.heap.size #[.int .i64 3, .int .i64 er, .slice A4 n4 k4, .slice A5 n5 k5, .slice A6 n6 k6, .int .i64 ls, .int .i64 lm, .int .i64 sp, .int .i64 pk] rfl rfl 61 _ HX1.out (by kernel_rfl) rfl (by simp [Value.oneCell']) ?_; rw [HWZ.out])
   | (refine wpList_store_row rfl 35 (.tmp 2) (.tmp 29) rfl (w.heap.size + 1) #[.bool true, .int .i64 0, .slice A4 n4 k4, .slice A6 n6 k6] rfl rfl 35 _ HQ.out (by kernel_rfl) rfl (by simp [Value.oneCell']) ?_))
  refine bodyPost_ret (v := .agg #[.bool true, .int .i64 0, .slice A4 n4 k4, .slice A6 n6 k6]) (by simp [results, Tryz.results24, go_sem, ge]) rfl ?_
  rw [← HP.out]
  exact ⟨_, rfl, by rw [HR.out]; exact ⟨_, _, rfl, (KE.out.oval (by decide) (HK.out.oval (by decide) HOO.out)).val HBV.out, (KE.out.oreqs (by decide) (by decide) (by decide) (HK.out.oreqs (by decide) (by decide) (by decide) HOR.out)).reqs HBQ.out.1 HBQ.out.2⟩, HBE.out⟩
 ·by_cases h4 : st = 4
  ·subst h4
   clear h3
   have HR : Hid (outR ⟨4, er, va, fr, rq, ls, lm, sp, pk⟩ = ⟨true, er, [], rq⟩) := Lib.hid (by simp [outR])
   have HQ := Lib.hid (HRZ.out.alloc (.cells #[.bool true, .int .i64 er, .slice none 0 0, .slice A6 n6 k6] 35))
   have HE := Lib.hid (HQ.out.setRow (cs' := #[.bool true, .int .i64 er, .slice none 0 0, .slice A6 n6 k6]))
   have HBE := Lib.hid (below_setRow (HB2.out.alloc (Nat.le_trans HB1.out.size HK.out.1) (.cells #[.bool true, .int .i64 er, .slice none 0 0, .slice A6 n6 k6] 35)) (Nat.le_succ _) #[.bool true, .int .i64 er, .slice none 0 0, .slice A6 n6 k6])
   have KE := Lib.hid ((KT.of_below (t := 35) (below_new wz (.cells #[.bool true, .int .i64 er, .slice none 0 0, .slice A6 n6 k6] 35))).trans (KT.row HQ.out #[.bool true, .int .i64 er, .slice none 0 0, .slice A6 n6 k6]))
   have ge := blk4 HE.out
   go_wp2_with (first
    | (refine wpList_store_row rfl 61 (.tmp 1) (.tmp 5) rfl w.heap.size #[.int .i64 4, .int .i64 er, .slice A4 n4 k4, .slice A5 n5 k5, .slice A6 n6 k6, .int .i64 ls, .int .i64 lm, .int .i64 sp, .int .i64 pk] rfl rfl 61 _ HX1.out (by kernel_rfl) rfl (by simp [Value.oneCell']) ?_; rw [HWZ.out])
    | (refine wpList_store_row rfl 35 (.tmp 2) (.tmp 29) rfl (w.heap.size + 1) #[.bool true, .int .i64 er, .slice none 0 0, .slice A6 n6 k6] rfl rfl 35 _ HQ.out (by kernel_rfl) rfl (by simp [Value.oneCell']) ?_))
   refine bodyPost_ret (v := .agg #[.bool true, .int .i64 er, .slice none 0 0, .slice A6 n6 k6]) (by simp [results, Tryz.results24, go_sem, ge]) rfl ?_
   rw [← HP.out]
   exact ⟨_, rfl, by rw [HR.out]; exact ⟨_, _, rfl, RowsV.nil none 0, (KE.out.oreqs (by decide) (by decide) (by decide) (HK.out.oreqs (by decide) (by decide) (by decide) HOR.out)).reqs HBQ.out.1 HBQ.out.2⟩, HBE.out⟩
  ·have h3' : (st == 3) = false := by simpa using h3
   have h4' : (st == 4) = false := by simpa using h4
   have HR : Hid (outR ⟨st, er, va, fr, rq, ls, lm, sp, pk⟩ = ⟨false, 0, [], rq⟩) := Lib.hid (by simp [outR, h3, h4])
   have HQ := Lib.hid (HRZ.out.alloc (.cells #[.bool false, .int .i64 0, .slice none 0 0, .slice A6 n6 k6] 35))
   have HE := Lib.hid (HQ.out.setRow (cs' := #[.bool false, .int .i64 0, .slice none 0 0, .slice A6 n6 k6]))
   have HBE := Lib.hid (below_setRow (HB2.out.alloc (Nat.le_trans HB1.out.size HK.out.1) (.cells #[.bool false, .int .i64 0, .slice none 0 0, .slice A6 n6 k6] 35)) (Nat.le_succ _) #[.bool false, .int .i64 0, .slice none 0 0, .slice A6 n6 k6])
   have KE := Lib.hid ((KT.of_below (t := 35) (below_new wz (.cells #[.bool false, .int .i64 0, .slice none 0 0, .slice A6 n6 k6] 35))).trans (KT.row HQ.out #[.bool false, .int .i64 0, .slice none 0 0, .slice A6 n6 k6]))
   have ge := blk4 HE.out
   go_wp2_with (first
    | (refine wpList_store_row rfl 61 (.tmp 1) (.tmp 5) rfl w.heap.size #[.int .i64 st, .int .i64 er, .slice A4 n4 k4, .slice A5 n5 k5, .slice A6 n6 k6, .int .i64 ls, .int .i64 lm, .int .i64 sp, .int .i64 pk] rfl rfl 61 _ HX1.out (by kernel_rfl) rfl (by simp [Value.oneCell']) ?_; rw [HWZ.out])
    | (refine wpList_store_row rfl 35 (.tmp 2) (.tmp 29) rfl (w.heap.size + 1) #[.bool false, .int .i64 0, .slice none 0 0, .slice A6 n6 k6] rfl rfl 35 _ HQ.out (by kernel_rfl) rfl (by simp [Value.oneCell']) ?_))
   refine bodyPost_ret (v := .agg #[.bool false, .int .i64 0, .slice none 0 0, .slice A6 n6 k6]) (by simp [results, Tryz.results24, go_sem, ge]) rfl ?_
   rw [← HP.out]
   exact ⟨_, rfl, by rw [HR.out]; exact ⟨_, _, rfl, RowsV.nil none 0, (KE.out.oreqs (by decide) (by decide) (by decide) (HK.out.oreqs (by decide) (by decide) (by decide) HOR.out)).reqs HBQ.out.1 HBQ.out.2⟩, HBE.out⟩
end Go.Proofs.YtahcjgjigbedoaaGreatDoor
namespace Go.Proofs.YtahcjgjigbedoaaGreatDoor
open Go.RowKit
set_option maxRecDepth 100000
def OutDone (va : ValD) (w : World) (e : Ending) (w' : World) : Prop := ∃ A4 n4 k4 A6 n6 k6, e = .returned (.agg #[.bool true, .int .i64 0, .slice A4 n4 k4, .slice A6 n6 k6]) ∧ OVal w' w.heap.size (.slice A4 n4 k4) va ∧ Below w.heap.size w w'
attribute [local go_sem] cell_alloc_is
set_option maxHeartbeats 4000000 in
theorem outcome_done (m : MachD) (v : Value) (w : World) (h : MachV w v m) (hst : m.status = 3) (hf : m.frames.length ≤ 1000) (hq : m.requests.length ≤ 1000) :
  Calls Tryz.prog 24 #[v] w (OutDone m.value w) := by
 obtain ⟨st, er, va, fr, rq, ls, lm, sp, pk⟩ := m
 dsimp only at hst
 subst hst
 have HOWN := Lib.hid (fun wx (hb : Below w.heap.size w wx) => own_any _ _ wx (h.below hb) hf hq)
 obtain ⟨vv, fv, qv, rfl, hvv, hfv, hqv⟩ := h
 dsimp only at hf hq hvv hfv hqv ⊢
 have HBQ := Lib.hid hqv.bounds
 have HBV := Lib.hid hvv.bound
 obtain ⟨A1, n1, k1, rfl⟩ := hvv.shape
 obtain ⟨A2, n2, k2, rfl⟩ := hfv.shape
 obtain ⟨A3, n3, k3, rfl⟩ := hqv.shape
 obtain ⟨P, hP⟩ : ∃ P, OutDone va w = P := ⟨_, rfl⟩
 rw [hP]
 have HP := Lib.hid hP
 clear hP hvv hfv hqv hf hq
 go_enter Tryz.func24, Tryz.ntmps24
 go_wp2_with (fail)
 refine (HOWN.out _ (below_2 _ _ _)).mono ?_
 rintro e w1 ⟨v1, rfl, ⟨vv, fv, qv, ps, rfl, hov, hof, hoq⟩, hb1⟩
 dsimp only at hov hof hoq ⊢
 have HX1 := Lib.hid ((((Blk.new w 61 #[.int .i64 3, .int .i64 er, .slice A1 n1 k1, .slice A2 n2 k2, .slice A3 n3 k3, .int .i64 ls, .int .i64 lm, .int .i64 sp, .int .i64 pk]).alloc _)).below hb1)
 have HR1 := Lib.hid ((Blk.second w _ 35 #[.bool false, .int .i64 0, .slice none 0 0, .slice none 0 0]).below hb1)
 have HB1 := Lib.hid (below_call hb1 (below_2 w _ _))
 have HOV := Lib.hid (hov.val HBV.out)
 have HOQ := Lib.hid (hoq.reqs HBQ.out.1 HBQ.out.2)
 obtain ⟨A5, n5, k5, rfl⟩ := hof.shape
 have HOO := Lib.hid hov
 have HOR := Lib.hid hoq
 clear hov hof hoq hb1
 obtain ⟨A4, n4, k4, rfl⟩ := HOV.out.shape
 obtain ⟨A6, n6, k6, rfl⟩ := HOQ.out.shape
 obtain ⟨wz, hwz⟩ : ∃ wz, w1.setRow w.heap.size #[.int .i64 3, .int .i64 er, .slice A4 n4 k4, .slice A5 n5 k5, .slice A6 n6 k6, .int .i64 ls, .int .i64 lm, .int .i64 sp, .int .i64 pk] = wz := ⟨_, rfl⟩
 have HK := Lib.hid (KT.row HX1.out #[.int .i64 3, .int .i64 er, .slice A4 n4 k4, .slice A5 n5 k5, .slice A6 n6 k6, .int .i64 ls, .int .i64 lm, .int .i64 sp, .int .i64 pk])
 have HZ := Lib.hid (HX1.out.setRow (cs' := #[.int .i64 3, .int .i64 er, .slice A4 n4 k4, .slice A5 n5 k5, .slice A6 n6 k6, .int .i64 ls, .int .i64 lm, .int .i64 sp, .int .i64 pk]))
 have HB2 := Lib.hid (below_setRow HB1.out (Nat.le_refl _) #[.int .i64 3, .int .i64 er, .slice A4 n4 k4, .slice A5 n5 k5, .slice A6 n6 k6, .int .i64 ls, .int .i64 lm, .int .i64 sp, .int .i64 pk])
 rw [hwz] at HK HZ HB2
 have HRZ := Lib.hid (HK.out.blk (by decide) HR1.out)
 have HWZ := Lib.hid hwz
 clear hwz
 have gz := blk9 HZ.out
 have HQ := Lib.hid (HRZ.out.alloc (.cells #[.bool true, .int .i64 0, .slice A4 n4 k4, .slice A6 n6 k6] 35))
 have HE := Lib.hid (HQ.out.setRow (cs' := #[.bool true, .int .i64 0, .slice A4 n4 k4, .slice A6 n6 k6]))
 have HBE := Lib.hid (below_setRow (HB2.out.alloc (Nat.le_trans HB1.out.size HK.out.1) (.cells #[.bool true, .int .i64 0, .slice A4 n4 k4, .slice A6 n6 k6] 35)) (Nat.le_succ _) #[.bool true, .int .i64 0, .slice A4 n4 k4, .slice A6 n6 k6])
 have KE := Lib.hid ((KT.of_below (t := 35) (below_new wz (.cells #[.bool true, .int .i64 0, .slice A4 n4 k4, .slice A6 n6 k6] 35))).trans (KT.row HQ.out #[.bool true, .int .i64 0, .slice A4 n4 k4, .slice A6 n6 k6]))
 have ge := blk4 HE.out
 go_wp2_with (first
  | (refine wpList_store_row rfl 61 (.tmp 1) (.tmp 5) rfl w.heap.size #[.int .i64 3, .int .i64 er, .slice A4 n4 k4, .slice A5 n5 k5, .slice A6 n6 k6, .int .i64 ls, .int .i64 lm, .int .i64 sp, .int .i64 pk] rfl rfl 61 _ HX1.out (by kernel_rfl) rfl (by simp [Value.oneCell']) ?_; rw [HWZ.out])
  | (refine wpList_store_row rfl 35 (.tmp 2) (.tmp 29) rfl (w.heap.size + 1) #[.bool true, .int .i64 0, .slice A4 n4 k4, .slice A6 n6 k6] rfl rfl 35 _ HQ.out (by kernel_rfl) rfl (by simp [Value.oneCell']) ?_))
 refine bodyPost_ret (v := .agg #[.bool true, .int .i64 0, .slice A4 n4 k4, .slice A6 n6 k6]) (by simp [results, Tryz.results24, go_sem, ge]) rfl ?_
 rw [← HP.out]
 exact ⟨A4, n4, k4, A6, n6, k6, rfl, (KE.out.oval (by decide) (HK.out.oval (by decide) HOO.out)).base (by simp <;> omega), HBE.out⟩
end Go.Proofs.YtahcjgjigbedoaaGreatDoor
