/- A machine in memory of its own: own. Outcome on both sides. -/
import Derived.Test.YtmljohbialacfaaGreatDoorGC10
import Derived.Deep.RegionWith
import Derived.Deep.RegionLaw
import Derived.Deep.AppendLies
import Derived.Test.YtmljohbialacfaaGreatDoorC7
set_option linter.unusedVariables false
set_option linter.unusedSimpArgs false
namespace Go.Proofs.YtmljohbialacfaaGreatDoor
open Go.RowKit
set_option maxRecDepth 100000

theorem zipRow_one (l : List FrameD) (ps : List (Value × Value)) : ∀ u ∈ (List.zipWith frameRow l ps).flatten, u.oneCell' = true ∨ True := fun _ _ => .inr trivial
theorem MachV.small {w : World} {v : Value} {m : MachD} (h : MachV w v m) : m.value.length ≤ 3518437208780 := by
 obtain ⟨vv, fv, qv, _, h1, _, _⟩ := h
 exact (h1.at).choose_spec.choose_spec.2.2.1

/-- What own holds while it copies the requests. -/
def OwnAt (w : World) (S : Nat) (st er ls lm sp pk : Int) (vv fv qv : Value) (va : ValD) (fr : List FrameD) (ps : List (Value × Value)) (rq : List ReqD) : Prop :=
 Blk w S 37 #[.int .i64 st, .int .i64 er, vv, fv, qv, .int .i64 ls, .int .i64 lm, .int .i64 sp, .int .i64 pk] ∧ Blk w (S + 1) 37 #[.int .i64 0, .int .i64 0, .slice none 0 0, .slice none 0 0, .slice none 0 0, .int .i64 0, .int .i64 0, .int .i64 0, .int .i64 0] ∧ OVal w S vv va ∧ OFrames w S fv fr ps ∧ OReqs w S qv rq

attribute [local go_sem] cell_alloc_is
set_option maxHeartbeats 4000000 in
theorem own_any (m : MachD) (v : Value) (w : World) (h : MachV w v m) (hf : m.frames.length ≤ 1000) (hq : m.requests.length ≤ 1000) :
  Calls Tryz.prog 35 #[v] w fun e w' => ∃ v', e = .returned v' ∧ OMach w' w.heap.size v' m ∧ Below w.heap.size w w' := by
 obtain ⟨i0, hi, hz0, hz1, hz2⟩ := info_parts Tryz.infoFrame
 obtain ⟨j0, hj, hy0, hy1, hy2⟩ := info_parts Tryz.infoReq
 obtain ⟨vv, fv, qv, rfl, hvv, hfv, hqv⟩ := h
 have HVV := Lib.hid hvv
 obtain ⟨A1, n1, k1, rfl⟩ := hvv.shape
 obtain ⟨A2, kf, rows, rfl, hcf, hmf, hsf, hlf, hvf⟩ := hfv
 obtain ⟨A3, kq, rowq, rfl, hcq, hmq, hsq, hlq, hvq⟩ := hqv
 have HSF := Lib.hid hsf
 have HLF := Lib.hid hlf
 have HVF := Lib.hid hvf
 have HSQ := Lib.hid hsq
 have HLQ := Lib.hid hlq
 have HVQ := Lib.hid hvq
 clear hvv hsf hlf hvf hsq hlq hvq
 obtain ⟨st, er, va, fr, rq, ls, lm, sp, pk⟩ := m
 dsimp only at hf hq hcf hmf hcq hmq HVV HLF HVF HLQ HVQ ⊢
 go_enter Tryz.func35, Tryz.ntmps35
 go_wp2_with (fail)
 go_quiet (fail)
 go_wp2_with (fail)
 refine (clone_any va _ _ ((HVV.out.below (below_2 w _ _)).drewN _)).mono ?_
 rintro e w1 ⟨v1, rfl, ho1, hb1⟩
 obtain ⟨A4, k4, rfl⟩ := own_shape ho1
 have HX1 := Lib.hid ((((Blk.new w 37 #[.int .i64 st, .int .i64 er, .slice A1 n1 k1, .slice A2 fr.length kf, .slice A3 rq.length kq, .int .i64 ls, .int .i64 lm, .int .i64 sp, .int .i64 pk]).alloc _).drewN _).below hb1)
 have HR1 := Lib.hid (((Blk.second w _ 37 #[.int .i64 0, .int .i64 0, .slice none 0 0, .slice none 0 0, .slice none 0 0, .int .i64 0, .int .i64 0, .int .i64 0, .int .i64 0]).drewN _).below hb1)
 have HO1 := Lib.hid (ho1.base (base' := w.heap.size) (by simp; omega))
 have HB1 := Lib.hid (below_call hb1 (below_drewN (below_2 w _ _) _))
 clear ho1 hb1
 have cx := blk9 HX1.out
 have z2 := HX1.out.frozen 2
 have z3 := HX1.out.frozen 3
 have z4 := HX1.out.frozen 4
 go_wp2_with (fail)
 clear cx z2 z3 z4
 obtain ⟨nv, hnv⟩ : ∃ nv, va.length = nv := ⟨_, rfl⟩
 go_loopw [21] (fun i wr => ∃ (k : Nat) (fv : Value) (ps : List (Value × Value)), k ≤ fr.length ∧ i = .int .i64 k ∧ Blk wr w.heap.size 37 #[.int .i64 st, .int .i64 er, .slice A4 va.length k4, fv, .slice none 0 0, .int .i64 ls, .int .i64 lm, .int .i64 sp, .int .i64 pk] ∧ Blk wr (w.heap.size + 1) 37 #[.int .i64 0, .int .i64 0, .slice none 0 0, .slice none 0 0, .slice none 0 0, .int .i64 0, .int .i64 0, .int .i64 0, .int .i64 0] ∧ OVal wr w.heap.size (.slice A4 va.length k4) va ∧ OFrames wr w.heap.size fv (fr.take k) ps ∧ Below w.heap.size w wr) (fun i _ => fr.length - (intOf i).toNat)
 case atStart =>
  have b1 := HX1.out.set_ 2 (.slice A4 va.length k4)
  have b2 := b1.set_ 3 (.slice none 0 0)
  have b3 := b2.set_ 4 (.slice none 0 0)
  have K := (KT.set HX1.out 2 (.slice A4 va.length k4)).trans ((KT.set b1 3 (.slice none 0 0)).trans (KT.set b2 4 (.slice none 0 0)))
  exact ⟨0, _, [], Nat.zero_le _, rfl, b3, ((HR1.out.far (p := ⟨w.heap.size, 2, none⟩) (by simp) _).far (p := ⟨w.heap.size, 3, none⟩) (by simp) _).far (p := ⟨w.heap.size, 4, none⟩) (by simp) _, K.oval (by decide) HO1.out, OFrames.nil _ _, ((HB1.out.setCell (p := ⟨w.heap.size, 2, none⟩) (Nat.le_refl _) _).setCell (p := ⟨w.heap.size, 3, none⟩) (Nat.le_refl _) _).setCell (p := ⟨w.heap.size, 4, none⟩) (Nat.le_refl _) _⟩
 case round =>
  obtain ⟨k, fv, ps, hk, rfl, hbx, hbr, hov, hof, hbel⟩ := hrel
  obtain ⟨L, hL⟩ : ∃ L, fr.take k = L := ⟨_, rfl⟩
  rw [hL] at hof
  obtain ⟨A5, k5, rfl⟩ := own_shape hof.2.1
  have HLL := Lib.hid hL
  have HTL : Hid (L.length = k) := Lib.hid (by rw [← hL]; simp; omega)
  have hLk : L.length ≤ 1000 := by have := HTL.out; omega
  have HBX := Lib.hid hbx
  have HBR := Lib.hid hbr
  have HOV := Lib.hid hov
  have HOF := Lib.hid hof
  have HB := Lib.hid hbel
  clear hbx hbr hov hof hbel hnv hL
  by_cases hlt : k < fr.length
  ·have hna : k < rows.length := by rw [HLF.out]; exact hlt
   have hlt' : (k : Int) < (fr.length : Int) := by omega
   have hk0 : (0 : Int) ≤ (k : Int) := by omega
   have hsa := HSF.out.below HB.out
   obtain ⟨bA, off, rfl, _⟩ := hsa.ptr hna
   obtain ⟨lv, sv, hrow, hlv, hsv⟩ := HVF.out k hna hlt
   obtain ⟨B1, z1, y1, rfl⟩ := hlv.shape
   obtain ⟨B2, z2, y2, rfl⟩ := hsv.shape
   obtain ⟨f1, hf1⟩ : ∃ x, fr[k].func = x := ⟨_, rfl⟩
   obtain ⟨c1, hc1⟩ : ∃ x, fr[k].pc = x := ⟨_, rfl⟩
   rw [hf1, hc1] at hrow
   have c0 := hsa.cell0 hna (v := .int .i64 f1) (by rw [hrow]; rfl)
   have c1' := hsa.cell hna (j := 1) (v := .int .i64 c1) (by rw [hrow]; rfl)
   have c2 := hsa.cell hna (j := 2) (v := .slice B1 z1 y1) (by rw [hrow]; rfl)
   have c3 := hsa.cell hna (j := 3) (v := .slice B2 z2 y2) (by rw [hrow]; rfl)
   have HL : Hid (∀ wx, Below wr.heap.size wr wx → Calls Tryz.prog 61 #[.slice B1 z1 y1] wx fun e w' => ∃ v', e = .returned v' ∧ OVals w' wx.heap.size v' fr[k].locals ∧ Below wx.heap.size wx w') := Lib.hid (fun wx hx => mvalues_any _ _ wx ((hlv.below HB.out).below hx))
   have HS : Hid (∀ wx, Below wr.heap.size wr wx → Calls Tryz.prog 61 #[.slice B2 z2 y2] wx fun e w' => ∃ v', e = .returned v' ∧ OVals w' wx.heap.size v' fr[k].stack ∧ Below wx.heap.size wx w') := Lib.hid (fun wx hx => mvalues_any _ _ wx ((hsv.below HB.out).below hx))
   have HF1 := Lib.hid hf1
   have HC1 := Lib.hid hc1
   clear hsa hrow hlv hsv hf1 hc1
   go_upto_region 6 with fail
   go_cut [] from 25 to 32 (fun wx => FrameCut wr wr.heap.size fr[k] wx)
   case first =>
    have HG0 := Lib.hid ((Blk.new wr 74 #[.int .i64 f1, .int .i64 c1, .slice B1 z1 y1, .slice B2 z2 y2]).drew)
    go_region_with (first
     | (go_at_call 61; with_reducible refine (HL.out _ (below_new _ _).drew).mono ?_; rintro e w3 ⟨v3, rfl, ho3, hb3⟩; have HG3 := Lib.hid (HG0.out.below hb3); have g2 := HG3.out.cell 2 (.slice B1 z1 y1) rfl; have g3 := HG3.out.cell 3 (.slice B2 z2 y2) rfl; have HO3 := Lib.hid ho3; have HB3 := Lib.hid (below_call hb3 (below_new _ _).drew); have HQ3 := Lib.hid hb3; clear ho3 hb3)
     | (go_at_call 61; with_reducible refine (HS.out _ HB3.out).mono ?_; rintro e w4 ⟨v4, rfl, ho4, hb4⟩; have HG4 := Lib.hid (HG3.out.below hb4); have g2 := HG4.out.cell 2 (.slice B1 z1 y1) rfl; have g3 := HG4.out.cell 3 (.slice B2 z2 y2) rfl; have y2' := HG4.out.frozen 2; have y3' := HG4.out.frozen 3; obtain ⟨A6, k6, rfl⟩ := HO3.out.shape; obtain ⟨A7, k7, rfl⟩ := ho4.shape; have HO4 := Lib.hid ho4; have HB4 := Lib.hid (below_call hb4 HB3.out); have HQ4 := Lib.hid hb4; clear ho4 hb4))
    all_goals
     go_wp2_with fail
     go_meet
     exact frameCut_mk HG4.out HF1.out HC1.out HO3.out (by simp) HQ4.out HO4.out HB4.out HB3.out.size
   case rest =>
    obtain ⟨lv, sv, hbg, hol, hos, hnd, hbw⟩ := hcut
    have HLO := Lib.hid (fun g hg => (hol.lt (g := g) hg).1)
    have HSO := Lib.hid (fun g hg => (hos.lt (g := g) hg).1)
    have hwb : w.heap.size ≤ wr.heap.size := HB.out.size
    have HOL := Lib.hid (hol.base hwb)
    have HOS := Lib.hid (hos.base hwb)
    obtain ⟨A6, k6, rfl⟩ := hol.shape
    obtain ⟨A7, k7, rfl⟩ := hos.shape
    rw [HF1.out, HC1.out] at hbg
    have HG := Lib.hid hbg
    have HBW := Lib.hid hbw
    have HND := Lib.hid hnd
    have HXc := Lib.hid (HBX.out.below hbw)
    have HRc := Lib.hid (HBR.out.below hbw)
    have HOc := Lib.hid (own_below HOF.out.2.1 hbw)
    have hsz : w.heap.size ≤ wc.heap.size := Nat.le_trans hwb hbw.size
    clear hbg hol hos hnd hbw c0 c1' c2 c3
    have g6 := blk4 HG.out
    have gx := blk9 HXc.out
    go_wp2_with (first
     | (at_builtin; refine wpList_app1 rfl (.tmp 34) (.tmp 36) 34 rfl i0 _ 64 Tryz.underlying34 hi hz0 hz1 hz2 rfl (by omega) rfl HOc.out [.int .i64 f1, .int .i64 c1, .slice A6 fr[k].locals.length k6, .slice A7 fr[k].stack.length k7] rfl rfl (by simp [Value.oneCell']) (by omega) (by omega) hsz ?_; intro v' w5 hown5 hb5 hs5 hg5; obtain ⟨A8, k8, rfl⟩ := own_shape hown5; have K5 := Lib.hid (KT.grown HOc.out hg5); have HX5 := Lib.hid (K5.out.blk (by decide) HXc.out); have gx5 := blk9 HX5.out; have z3 := HX5.out.frozen 3; have HO5 := Lib.hid hown5; have HB5 := Lib.hid hb5; clear hown5 hb5 hg5 gx))
    have K6 := Lib.hid (KT.set HX5.out 3 (.slice A8 (L.length + 1) k8))
    refine ⟨⟨k + 1, _, ps ++ [(.slice A6 fr[k].locals.length k6, .slice A7 fr[k].stack.length k7)], by omega, by simp, HX5.out.set_ 3 _, (K5.out.blk (by decide) HRc.out).far (p := ⟨w.heap.size, 3, none⟩) (by simp) _, K6.out.oval (by decide) (K5.out.oval (by decide) (HOV.out.below HBW.out)), ?_, ?_⟩, by simp [intOf]; omega⟩
    ·rw [List.take_succ_eq_append_getElem hlt, HLL.out]
     refine OFrames.snoc HOF.out (fun ho => K6.out.ovals (by decide) (by decide) (K5.out.ovals (by decide) (by decide) (ho.below HBW.out))) ?_ (K6.out.ovals (by decide) (by decide) (K5.out.ovals (by decide) (by decide) HOL.out)) (K6.out.ovals (by decide) (by decide) (K5.out.ovals (by decide) (by decide) HOS.out)) HND.out (fun g hg => hg.elim (HLO.out g) (HSO.out g))
     have h := K6.out.own (by decide) HO5.out
     unfold frameRow
     rw [HF1.out, HC1.out]
     exact h
    ·exact ((below_call' HBW.out HB.out HB.out.size).trans HB5.out).setCell (p := ⟨w.heap.size, 3, none⟩) (Nat.le_refl _) _
  ·have e : k = fr.length := by omega
   subst e
   have HOFF : Hid (OFrames wr w.heap.size (.slice A5 L.length k5) fr ps) := Lib.hid (by
    have h1 := HLL.out
    rw [List.take_length] at h1
    have h2 := HOF.out
    rw [← h1] at h2 ⊢
    exact h2)
   have gx := blk9 HBX.out
   go_wp2_with (fail)
   clear gx
   go_loopw [42] (fun i wr => ∃ (k : Nat) (qv : Value), k ≤ rq.length ∧ i = .int .i64 k ∧ OwnAt wr w.heap.size st er ls lm sp pk (.slice A4 va.length k4) (.slice A5 L.length k5) qv va fr ps (rq.take k) ∧ Below w.heap.size w wr) (fun i _ => rq.length - (intOf i).toNat)
   case atStart => exact ⟨0, _, Nat.zero_le _, rfl, ⟨HBX.out, HBR.out, HOV.out, HOFF.out, OReqs.nil _ _⟩, HB.out⟩
   case round =>
    obtain ⟨k, qv, hk, rfl, ⟨hbx, hbr, hov, hof, hoq⟩, hbel⟩ := hrel
    obtain ⟨R, hR⟩ : ∃ R, rq.take k = R := ⟨_, rfl⟩
    rw [hR] at hoq
    obtain ⟨vs, hvl, hqo, hqa⟩ := hoq
    obtain ⟨A8, k8, rfl⟩ := own_shape hqo
    have HRR := Lib.hid hR
    have HTR : Hid (R.length = k) := Lib.hid (by rw [← hR]; simp; omega)
    have hRk : R.length ≤ 1000 := by have := HTR.out; omega
    have HBX2 := Lib.hid hbx
    have HBR2 := Lib.hid hbr
    have HOV2 := Lib.hid hov
    have HOF2 := Lib.hid hof
    have HQO := Lib.hid hqo
    have HQA := Lib.hid hqa
    have HVL := Lib.hid hvl
    have HB2 := Lib.hid hbel
    clear hbx hbr hov hof hqo hqa hvl hbel hR
    by_cases hlt2 : k < rq.length
    ·have hna : k < rowq.length := by rw [HLQ.out]; exact hlt2
     have hlt' : (k : Int) < (rq.length : Int) := by omega
     have hk0 : (0 : Int) ≤ (k : Int) := by omega
     have hsa := HSQ.out.below HB2.out
     obtain ⟨bA, off, rfl, _⟩ := hsa.ptr hna
     obtain ⟨lv, hrow, hlv⟩ := HVQ.out k hna hlt2
     obtain ⟨B1, z1, y1, rfl⟩ := hlv.shape
     obtain ⟨op, hop⟩ : ∃ x, rq[k].op = x := ⟨_, rfl⟩
     rw [hop] at hrow
     have c0 := hsa.cell0 hna (v := .string op) (by rw [hrow]; rfl)
     have c1' := hsa.cell hna (j := 1) (v := .slice B1 z1 y1) (by rw [hrow]; rfl)
     have HL : Hid (∀ wx, Below wr.heap.size wr wx → Calls Tryz.prog 61 #[.slice B1 z1 y1] wx fun e w' => ∃ v', e = .returned v' ∧ OVals w' wx.heap.size v' rq[k].args ∧ Below wx.heap.size wx w') := Lib.hid (fun wx hx => mvalues_any _ _ wx ((hlv.below HB2.out).below hx))
     have HOP := Lib.hid hop
     have gx := HBX2.out.cell 4 (.slice A8 R.length k8) rfl
     clear hsa hrow hlv hop
     go_upto_region 12 with fail
     have HG0 := Lib.hid ((Blk.new wr 86 #[.string op, .slice B1 z1 y1]).drew)
     go_region_law (first
      | (go_simp; go_at_call 61; with_reducible refine (HL.out _ (below_new _ _).drew).mono ?_; rintro e w3 ⟨v3, rfl, ho3, hb3⟩; have HG3 := Lib.hid (HG0.out.below hb3); have g2 := HG3.out.cell 0 (.string op) rfl; have HB3 := Lib.hid (below_call hb3 (below_new _ _).drew); have HX3 := Lib.hid (HBX2.out.below HB3.out); have gx3 := HX3.out.cell 4 (.slice A8 R.length k8) rfl; obtain ⟨A9, k9, rfl⟩ := ho3.shape; have HO3 := Lib.hid (ho3.base (base' := w.heap.size) (Nat.le_trans HB2.out.size (by simp))); have hsz3 : w.heap.size ≤ w3.heap.size := Nat.le_trans HB2.out.size HB3.out.size; have HQ3 := Lib.hid (own_below (own_below HQO.out HB3.out) (below_new w3 (.cells #[.string op, .slice A9 rq[k].args.length k9] 86))); clear ho3 hb3)
      | (rw [if_pos (by rfl)]; refine wp_append_lies _ (.tmp 47) (.tmp 54) 35 rfl w.heap.size 86 j0 _ 2 40 Tryz.underlying35 hj hy0 hy1 hy2 rfl ?k1 _ R.length _ rfl HQ3.out ⟨w3.heap.size, 0, none⟩ 1 1 [.string op, .slice A9 rq[k].args.length k9] rfl rfl (cells_new w3 _ 86) ?k2 ?k3 ?k4 ?k5 ?k6 _ rfl ?_; (case k1 => decide); (case k2 => simp [Value.oneCell']); (case k3 => decide); (case k4 => (unfold maxLen; omega)); (case k5 => omega); (case k6 => exact Nat.le_trans hsz3 (by simp)); intro g6 cap6 w6 hown6 hgr6 _ hlt6; have K6 := Lib.hid (KT.grown HQ3.out hgr6); have HX6 := Lib.hid (K6.out.blk (by decide) (HX3.out.alloc (.cells #[.string op, .slice A9 rq[k].args.length k9] 86))); have gx6 := HX6.out.cell 4 (.slice A8 R.length k8) rfl; have z6 := HX6.out.frozen 4; have HO6 := Lib.hid hown6; have HG6 := Lib.hid hgr6; clear hown6 hgr6))
     all_goals
      go_wp2_with fail
      have K3 : KT 37 wr (w3.alloc (.cells #[.string op, .slice A9 rq[k].args.length k9] 86)) := KT.of_below (below_call (below_new w3 _) HB3.out)
      have K7 := KT.set HX6.out 4 (.slice (some ⟨g6, 0, none⟩) (R.length + 1) cap6)
      refine ⟨⟨k + 1, _, by omega, by simp, ⟨HX6.out.set_ 4 _, (K6.out.blk (by decide) ((HBR2.out.below HB3.out).alloc _)).far (p := ⟨w.heap.size, 4, none⟩) (by simp) _, K7.oval (by decide) (K6.out.oval (by decide) (K3.oval (by decide) HOV2.out)), K7.oframes (by decide) (by decide) (by decide) (K6.out.oframes (by decide) (by decide) (by decide) (K3.oframes (by decide) (by decide) (by decide) HOF2.out)), ?_⟩, ?_⟩, by simp [intOf]; omega⟩
      ·rw [List.take_succ_eq_append_getElem hlt2, HRR.out]
       refine OReqs.snoc HVL.out (fun i a b => K7.ovals (by decide) (by decide) (K6.out.ovals (by decide) (by decide) (K3.ovals (by decide) (by decide) (HQA.out i a b)))) ?_ (K7.ovals (by decide) (by decide) (K6.out.ovals (by decide) (by decide) (HO3.out.below (below_new w3 _))))
       have h := K7.own (by decide) HO6.out
       unfold reqRow
       rw [HOP.out]
       exact h
      ·exact ((((below_call' HB3.out HB2.out HB2.out.size).alloc hsz3 _).grown HG6.out (Nat.le_trans hsz3 (by simp)) (fun g hg => (HQ3.out.lt g hg).1))).setCell (p := ⟨w.heap.size, 4, none⟩) (Nat.le_refl _) _
    ·have e : k = rq.length := by omega
     subst e
     have HQF : Hid (OReqs wr w.heap.size (.slice A8 R.length k8) rq) := Lib.hid (by
      have h1 := HRR.out
      rw [List.take_length] at h1
      subst h1
      exact ⟨vs, HVL.out, HQO.out, HQA.out⟩)
     have gx := blk9 HBX2.out
     clear hf hq
     go_wp2_with (refine wpList_store_row rfl 37 (.tmp 2) (.tmp 58) rfl (w.heap.size + 1) #[.int .i64 st, .int .i64 er, .slice A4 va.length k4, .slice A5 L.length k5, .slice A8 R.length k8, .int .i64 ls, .int .i64 lm, .int .i64 sp, .int .i64 pk] rfl rfl 37 _ HBR2.out (by kernel_rfl) rfl (by simp [Value.oneCell']) ?_)
     have HZ := Lib.hid (HBR2.out.setRow (cs' := #[.int .i64 st, .int .i64 er, .slice A4 va.length k4, .slice A5 L.length k5, .slice A8 R.length k8, .int .i64 ls, .int .i64 lm, .int .i64 sp, .int .i64 pk]))
     have KZ : KT 37 wr (wr.setRow (w.heap.size + 1) #[.int .i64 st, .int .i64 er, .slice A4 va.length k4, .slice A5 L.length k5, .slice A8 R.length k8, .int .i64 ls, .int .i64 lm, .int .i64 sp, .int .i64 pk]) := KT.row HBR2.out _
     have HKZ := Lib.hid KZ
     have hBZ := below_setRow HB2.out (Nat.le_succ _) #[.int .i64 st, .int .i64 er, .slice A4 va.length k4, .slice A5 L.length k5, .slice A8 R.length k8, .int .i64 ls, .int .i64 lm, .int .i64 sp, .int .i64 pk]
     have HBZ := Lib.hid hBZ
     clear KZ hBZ gx
     obtain ⟨wz, hwz⟩ : ∃ wz, wr.setRow (w.heap.size + 1) #[.int .i64 st, .int .i64 er, .slice A4 va.length k4, .slice A5 L.length k5, .slice A8 R.length k8, .int .i64 ls, .int .i64 lm, .int .i64 sp, .int .i64 pk] = wz := ⟨_, rfl⟩
     rw [hwz] at HZ HKZ HBZ ⊢
     clear hwz
     have gz := blk9 HZ.out
     refine bodyPost_ret (v := .agg #[.int .i64 st, .int .i64 er, .slice A4 va.length k4, .slice A5 L.length k5, .slice A8 R.length k8, .int .i64 ls, .int .i64 lm, .int .i64 sp, .int .i64 pk]) (by simp [results, Tryz.results35, go_sem, gz]) rfl ⟨_, rfl, ⟨_, _, _, ps, rfl, HKZ.out.oval (by decide) HOV2.out, HKZ.out.oframes (by decide) (by decide) (by decide) HOF2.out, HKZ.out.oreqs (by decide) (by decide) (by decide) HQF.out⟩, HBZ.out⟩
end Go.Proofs.YtmljohbialacfaaGreatDoor
namespace Go.Proofs.YtmljohbialacfaaGreatDoor
open Go.RowKit
set_option maxRecDepth 100000

def outR (m : MachD) : OutD := ⟨decide (m.status = 3) || decide (m.status = 4), if m.status = 4 then m.err else 0, if m.status = 3 then m.value else [], m.requests⟩
def OutPost (m : MachD) (w : World) (e : Ending) (w' : World) : Prop := ∃ v', e = .returned v' ∧ OutV w' v' (outR m) ∧ Below w.heap.size w w'

attribute [local go_sem] cell_alloc_is
set_option maxHeartbeats 2000000 in
theorem routcome_any (m : MachD) (v : Value) (w : World) (h : MachV w v m) :
  Calls Tryz.prog 46 #[v] w (OutPost m w) := by
 obtain ⟨vv, fv, qv, rfl, hvv, hfv, hqv⟩ := h
 obtain ⟨P, hP⟩ : ∃ P, OutPost m w = P := ⟨_, rfl⟩
 have HVV := Lib.hid hvv
 have HQV := Lib.hid hqv
 obtain ⟨A1, n1, k1, rfl⟩ := hvv.shape
 obtain ⟨A2, n2, k2, rfl⟩ := hfv.shape
 obtain ⟨A3, n3, k3, rfl⟩ := hqv.shape
 rw [hP]
 have HP := Lib.hid hP
 clear hP hvv hfv hqv
 by_cases h3 : m.status = 3
 ·have HR : Hid (outR m = ⟨true, 0, m.value, m.requests⟩) := Lib.hid (by simp [outR, h3])
  rw [h3]
  clear h3
  go_enter Tryz.func46, Tryz.ntmps46
  go_wp2
  refine bodyPost_ret (v := .agg #[.bool true, .int .i64 0, .slice A1 n1 k1, .slice A3 n3 k3]) (by simp [results, Tryz.results46, go_sem]) rfl ?_
  rw [← HP.out]
  exact ⟨_, rfl, by rw [HR.out]; exact ⟨_, _, rfl, HVV.out.below (below_3 _ _ _ _), HQV.out.below (below_3 _ _ _ _)⟩, below_3 _ _ _ _⟩
 ·by_cases h4 : m.status = 4
  ·have HR : Hid (outR m = ⟨true, m.err, [], m.requests⟩) := Lib.hid (by simp [outR, h4])
   rw [h4]
   clear h3 h4
   go_enter Tryz.func46, Tryz.ntmps46
   go_wp2
   refine bodyPost_ret (v := .agg #[.bool true, .int .i64 m.err, .slice none 0 0, .slice A3 n3 k3]) (by simp [results, Tryz.results46, go_sem]) rfl ?_
   rw [← HP.out]
   exact ⟨_, rfl, by rw [HR.out]; exact ⟨_, _, rfl, RowsV.nil none 0, HQV.out.below (below_3 _ _ _ _)⟩, below_3 _ _ _ _⟩
  ·have HR : Hid (outR m = ⟨false, 0, [], m.requests⟩) := Lib.hid (by simp [outR, h3, h4])
   have h3' : (m.status == 3) = false := by simpa using h3
   have h4' : (m.status == 4) = false := by simpa using h4
   go_enter Tryz.func46, Tryz.ntmps46
   go_wp2
   refine bodyPost_ret (v := .agg #[.bool false, .int .i64 0, .slice none 0 0, .slice A3 n3 k3]) (by simp [results, Tryz.results46, go_sem]) rfl ?_
   rw [← HP.out]
   exact ⟨_, rfl, by rw [HR.out]; exact ⟨_, _, rfl, RowsV.nil none 0, HQV.out.below (below_3 _ _ _ _)⟩, below_3 _ _ _ _⟩

theorem zip_flat {α β γ : Type} (f : α → β → List γ) (l : List α) (ps : List β) : (List.zipWith f l ps).flatten = (l.zip ps).flatMap (fun p => f p.1 p.2) := by
 induction l generalizing ps with
 | nil => simp
 | cons a r ih =>
  cases ps with
  | nil => simp
  | cons b s => simp [ih]
theorem zip_rows {α β γ : Type} (f : α → β → List γ) (l : List α) (ps : List β) : (l.zip ps).map (fun p => f p.1 p.2) = List.zipWith f l ps := by
 induction l generalizing ps with
 | nil => simp
 | cons a r ih =>
  cases ps with
  | nil => simp
  | cons b s => simp [ih]
theorem OReqs.reqs {w : World} {base : Nat} {v : Value} {l : List ReqD} (h : OReqs w base v l) (hm : l.length ≤ 3518437208780) (hs : ∀ r ∈ l, r.args.length ≤ 5864062014634 ∧ ∀ x ∈ r.args, x.length ≤ 3518437208780) : ReqsV w v l := by
 obtain ⟨vs, h1, h2, h3⟩ := h
 obtain ⟨A, cap, rfl⟩ := own_shape h2
 have hc : l.length ≤ cap := by
  rcases h2.2 with ⟨e, hn⟩ | ⟨g, cap', cur, e, _, _, h3, _⟩
  ·omega
  ·injection e with _ _ e; omega
 have hsl : SlAt w A 2 (fun x : ReqD × Value => reqRow x.1 x.2) (l.zip vs) := SlAt.of_own h2 (zip_flat reqRow l vs) (fun _ => rfl) (by omega)
 refine ⟨A, cap, List.zipWith reqRow l vs, rfl, hc, hm, ?_, by simp [h1], fun i hi hi' => ?_⟩
 ·rw [← zip_rows reqRow l vs]
  unfold SlAt at hsl ⊢
  rwa [List.map_map]
 ·have hv : i < vs.length := by omega
  refine ⟨vs[i], by simp [reqRow], (h3 i hv hi').vals ?_ ?_⟩
  ·exact (hs _ (List.getElem_mem hi')).1
  ·exact (hs _ (List.getElem_mem hi')).2
theorem ReqsV.bounds {w : World} {v : Value} {l : List ReqD} (h : ReqsV w v l) : l.length ≤ 3518437208780 ∧ ∀ r ∈ l, r.args.length ≤ 5864062014634 ∧ ∀ x ∈ r.args, x.length ≤ 3518437208780 := by
 obtain ⟨A, cap, rows, _, _, hm, _, hl, hv⟩ := h
 refine ⟨hm, fun x hx => ?_⟩
 obtain ⟨i, hi, rfl⟩ := List.getElem_of_mem hx
 obtain ⟨av, _, hav⟩ := hv i (by omega) hi
 exact hav.bounds
theorem ValV.bound {w : World} {v : Value} {l : ValD} (h : ValV w v l) : l.length ≤ 3518437208780 := by
 obtain ⟨_, _, _, _, h3, _⟩ := h.at
 exact h3

theorem OFrames.shape {w : World} {base : Nat} {v : Value} {l : List FrameD} {ps : List (Value × Value)} (h : OFrames w base v l ps) : ∃ A n cap, v = .slice A n cap := by
 obtain ⟨A, cap, e⟩ := own_shape h.2.1; exact ⟨A, _, cap, e⟩
set_option maxHeartbeats 4000000 in
theorem moutcome_any (m : MachD) (v : Value) (w : World) (h : MachV w v m) (hf : m.frames.length ≤ 1000) (hq : m.requests.length ≤ 1000) :
  Calls Tryz.prog 45 #[v] w (OutPost m w) := by
 obtain ⟨st, er, va, fr, rq, ls, lm, sp, pk⟩ := m
 have HOWN := Lib.hid (fun wx (hb : Below w.heap.size w wx) => own_any _ _ wx (h.below hb) hf hq)
 obtain ⟨vv, fv, qv, rfl, hvv, hfv, hqv⟩ := h
 dsimp only at hf hq hvv hfv hqv ⊢
 have HBQ := Lib.hid hqv.bounds
 have HBV := Lib.hid hvv.bound
 obtain ⟨A1, n1, k1, rfl⟩ := hvv.shape
 obtain ⟨A2, n2, k2, rfl⟩ := hfv.shape
 obtain ⟨A3, n3, k3, rfl⟩ := hqv.shape
 obtain ⟨P, hP⟩ : ∃ P, OutPost ⟨st, er, va, fr, rq, ls, lm, sp, pk⟩ w = P := ⟨_, rfl⟩
 rw [hP]
 have HP := Lib.hid hP
 clear hP hvv hfv hqv hf hq
 go_enter Tryz.func45, Tryz.ntmps45
 go_wp2_with (fail)
 refine (HOWN.out _ (below_2 _ _ _)).mono ?_
 rintro e w1 ⟨v1, rfl, ⟨vv, fv, qv, ps, rfl, hov, hof, hoq⟩, hb1⟩
 dsimp only at hov hof hoq ⊢
 have HX1 := Lib.hid ((((Blk.new w 37 #[.int .i64 st, .int .i64 er, .slice A1 n1 k1, .slice A2 n2 k2, .slice A3 n3 k3, .int .i64 ls, .int .i64 lm, .int .i64 sp, .int .i64 pk]).alloc _)).below hb1)
 have HR1 := Lib.hid ((Blk.second w _ 91 #[.bool false, .int .i64 0, .slice none 0 0, .slice none 0 0]).below hb1)
 have HB1 := Lib.hid (below_call hb1 (below_2 w _ _))
 have HOV := Lib.hid (hov.val HBV.out)
 have HOQ := Lib.hid (hoq.reqs HBQ.out.1 HBQ.out.2)
 obtain ⟨A5, n5, k5, rfl⟩ := hof.shape
 have HOO := Lib.hid hov
 have HOR := Lib.hid hoq
 clear hov hof hoq hb1
 obtain ⟨A4, n4, k4, rfl⟩ := HOV.out.shape
 obtain ⟨A6, n6, k6, rfl⟩ := HOQ.out.shape
 obtain ⟨wz, hwz⟩ : ∃ wz, w1.setRow w.heap.size #[.int .i64 st, .int .i64 er, .slice A4 n4 k4, .slice A5 n5 k5, .slice A6 n6 k6, .int .i64 ls, .int .i64 lm, .int .i64 sp, .int .i64 pk] = wz := ⟨_, rfl⟩
 have HK := Lib.hid (KT.row HX1.out #[.int .i64 st, .int .i64 er, .slice A4 n4 k4, .slice A5 n5 k5, .slice A6 n6 k6, .int .i64 ls, .int .i64 lm, .int .i64 sp, .int .i64 pk])
 have HZ := Lib.hid (HX1.out.setRow (cs' := #[.int .i64 st, .int .i64 er, .slice A4 n4 k4, .slice A5 n5 k5, .slice A6 n6 k6, .int .i64 ls, .int .i64 lm, .int .i64 sp, .int .i64 pk]))
 have HB2 := Lib.hid (below_setRow HB1.out (Nat.le_refl _) #[.int .i64 st, .int .i64 er, .slice A4 n4 k4, .slice A5 n5 k5, .slice A6 n6 k6, .int .i64 ls, .int .i64 lm, .int .i64 sp, .int .i64 pk])
 rw [hwz] at HK HZ HB2
 have HRZ := Lib.hid (HK.out.blk (by decide) HR1.out)
 have HWZ := Lib.hid hwz
 clear hwz
 have gz := blk9 HZ.out
 by_cases h3 : st = 3
 ·subst h3
  have HR : Hid (outR ⟨3, er, va, fr, rq, ls, lm, sp, pk⟩ = ⟨true, 0, va, rq⟩) := Lib.hid (by simp [outR])
  have HQ := Lib.hid (HRZ.out.alloc (.cells #[.bool true, .int .i64 0, .slice A4 n4 k4, .slice A6 n6 k6] 91))
  have HE := Lib.hid (HQ.out.setRow (cs' := #[.bool true, .int .i64 0, .slice A4 n4 k4, .slice A6 n6 k6]))
  have HBE := Lib.hid (below_setRow (HB2.out.alloc (Nat.le_trans HB1.out.size HK.out.1) (.cells #[.bool true, .int .i64 0, .slice A4 n4 k4, .slice A6 n6 k6] 91)) (Nat.le_succ _) #[.bool true, .int .i64 0, .slice A4 n4 k4, .slice A6 n6 k6])
  have KE := Lib.hid ((KT.of_below (t := 91) (below_new wz (.cells #[.bool true, .int .i64 0, .slice A4 n4 k4, .slice A6 n6 k6] 91))).trans (KT.row HQ.out #[.bool true, .int .i64 0, .slice A4 n4 k4, .slice A6 n6 k6]))
  have ge := blk4 HE.out
  go_wp2_with (first
   | (refine wpList_store_row rfl 37 (.tmp 1) (.tmp 5) rfl w.heap.size #[.int .i64 3, .int .i64 er, .slice A4 n4 k4, .slice A5 n5 k5, .slice A6 n6 k6, .int .i64 ls, .int .i64 lm, .int .i64 sp, .int .i64 pk] rfl rfl 37 _ HX1.out (by kernel_rfl) rfl (by simp [Value.oneCell']) ?_; rw [HWZ.out])
   | (refine wpList_store_row rfl 91 (.tmp 2) (.tmp 29) rfl (w.heap.size + 1) #[.bool true, .int .i64 0, .slice A4 n4 k4, .slice A6 n6 k6] rfl rfl 91 _ HQ.out (by kernel_rfl) rfl (by simp [Value.oneCell']) ?_))
  refine bodyPost_ret (v := .agg #[.bool true, .int .i64 0, .slice A4 n4 k4, .slice A6 n6 k6]) (by simp [results, Tryz.results45, go_sem, ge]) rfl ?_
  rw [← HP.out]
  exact ⟨_, rfl, by rw [HR.out]; exact ⟨_, _, rfl, (KE.out.oval (by decide) (HK.out.oval (by decide) HOO.out)).val HBV.out, (KE.out.oreqs (by decide) (by decide) (by decide) (HK.out.oreqs (by decide) (by decide) (by decide) HOR.out)).reqs HBQ.out.1 HBQ.out.2⟩, HBE.out⟩
 ·by_cases h4 : st = 4
  ·subst h4
   clear h3
   have HR : Hid (outR ⟨4, er, va, fr, rq, ls, lm, sp, pk⟩ = ⟨true, er, [], rq⟩) := Lib.hid (by simp [outR])
   have HQ := Lib.hid (HRZ.out.alloc (.cells #[.bool true, .int .i64 er, .slice none 0 0, .slice A6 n6 k6] 91))
   have HE := Lib.hid (HQ.out.setRow (cs' := #[.bool true, .int .i64 er, .slice none 0 0, .slice A6 n6 k6]))
   have HBE := Lib.hid (below_setRow (HB2.out.alloc (Nat.le_trans HB1.out.size HK.out.1) (.cells #[.bool true, .int .i64 er, .slice none 0 0, .slice A6 n6 k6] 91)) (Nat.le_succ _) #[.bool true, .int .i64 er, .slice none 0 0, .slice A6 n6 k6])
   have KE := Lib.hid ((KT.of_below (t := 91) (below_new wz (.cells #[.bool true, .int .i64 er, .slice none 0 0, .slice A6 n6 k6] 91))).trans (KT.row HQ.out #[.bool true, .int .i64 er, .slice none 0 0, .slice A6 n6 k6]))
   have ge := blk4 HE.out
   go_wp2_with (first
    | (refine wpList_store_row rfl 37 (.tmp 1) (.tmp 5) rfl w.heap.size #[.int .i64 4, .int .i64 er, .slice A4 n4 k4, .slice A5 n5 k5, .slice A6 n6 k6, .int .i64 ls, .int .i64 lm, .int .i64 sp, .int .i64 pk] rfl rfl 37 _ HX1.out (by kernel_rfl) rfl (by simp [Value.oneCell']) ?_; rw [HWZ.out])
    | (refine wpList_store_row rfl 91 (.tmp 2) (.tmp 29) rfl (w.heap.size + 1) #[.bool true, .int .i64 er, .slice none 0 0, .slice A6 n6 k6] rfl rfl 91 _ HQ.out (by kernel_rfl) rfl (by simp [Value.oneCell']) ?_))
   refine bodyPost_ret (v := .agg #[.bool true, .int .i64 er, .slice none 0 0, .slice A6 n6 k6]) (by simp [results, Tryz.results45, go_sem, ge]) rfl ?_
   rw [← HP.out]
   exact ⟨_, rfl, by rw [HR.out]; exact ⟨_, _, rfl, RowsV.nil none 0, (KE.out.oreqs (by decide) (by decide) (by decide) (HK.out.oreqs (by decide) (by decide) (by decide) HOR.out)).reqs HBQ.out.1 HBQ.out.2⟩, HBE.out⟩
  ·have h3' : (st == 3) = false := by simpa using h3
   have h4' : (st == 4) = false := by simpa using h4
   have HR : Hid (outR ⟨st, er, va, fr, rq, ls, lm, sp, pk⟩ = ⟨false, 0, [], rq⟩) := Lib.hid (by simp [outR, h3, h4])
   have HQ := Lib.hid (HRZ.out.alloc (.cells #[.bool false, .int .i64 0, .slice none 0 0, .slice A6 n6 k6] 91))
   have HE := Lib.hid (HQ.out.setRow (cs' := #[.bool false, .int .i64 0, .slice none 0 0, .slice A6 n6 k6]))
   have HBE := Lib.hid (below_setRow (HB2.out.alloc (Nat.le_trans HB1.out.size HK.out.1) (.cells #[.bool false, .int .i64 0, .slice none 0 0, .slice A6 n6 k6] 91)) (Nat.le_succ _) #[.bool false, .int .i64 0, .slice none 0 0, .slice A6 n6 k6])
   have KE := Lib.hid ((KT.of_below (t := 91) (below_new wz (.cells #[.bool false, .int .i64 0, .slice none 0 0, .slice A6 n6 k6] 91))).trans (KT.row HQ.out #[.bool false, .int .i64 0, .slice none 0 0, .slice A6 n6 k6]))
   have ge := blk4 HE.out
   go_wp2_with (first
    | (refine wpList_store_row rfl 37 (.tmp 1) (.tmp 5) rfl w.heap.size #[.int .i64 st, .int .i64 er, .slice A4 n4 k4, .slice A5 n5 k5, .slice A6 n6 k6, .int .i64 ls, .int .i64 lm, .int .i64 sp, .int .i64 pk] rfl rfl 37 _ HX1.out (by kernel_rfl) rfl (by simp [Value.oneCell']) ?_; rw [HWZ.out])
    | (refine wpList_store_row rfl 91 (.tmp 2) (.tmp 29) rfl (w.heap.size + 1) #[.bool false, .int .i64 0, .slice none 0 0, .slice A6 n6 k6] rfl rfl 91 _ HQ.out (by kernel_rfl) rfl (by simp [Value.oneCell']) ?_))
   refine bodyPost_ret (v := .agg #[.bool false, .int .i64 0, .slice none 0 0, .slice A6 n6 k6]) (by simp [results, Tryz.results45, go_sem, ge]) rfl ?_
   rw [← HP.out]
   exact ⟨_, rfl, by rw [HR.out]; exact ⟨_, _, rfl, RowsV.nil none 0, (KE.out.oreqs (by decide) (by decide) (by decide) (HK.out.oreqs (by decide) (by decide) (by decide) HOR.out)).reqs HBQ.out.1 HBQ.out.2⟩, HBE.out⟩
end Go.Proofs.YtmljohbialacfaaGreatDoor
