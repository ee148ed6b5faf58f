/- A machine in memory of its own: own. -/
import Derived.Test.YtahcjgjigbedoaaGreatDoorC10
import Derived.Deep.RegionWith
import Derived.Deep.RegionLaw
import Derived.Deep.AppendLies
set_option linter.unusedVariables false
set_option linter.unusedSimpArgs false
namespace Go.Proofs.YtahcjgjigbedoaaGreatDoor
open Go.RowKit
set_option maxRecDepth 100000

theorem zipRow_one (l : List FrameD) (ps : List (Value × Value)) : ∀ u ∈ (List.zipWith frameRow l ps).flatten, u.oneCell' = true ∨ True := fun _ _ => .inr trivial
theorem MachV.small {w : World} {v : Value} {m : MachD} (h : MachV w v m) : m.value.length ≤ 3518437208780 := by
 obtain ⟨vv, fv, qv, _, h1, _, _⟩ := h
 exact (h1.at).choose_spec.choose_spec.2.2.1

/-- What own holds while it copies the requests. -/
def OwnAt (w : World) (S : Nat) (st er ls lm sp pk : Int) (vv fv qv : Value) (va : ValD) (fr : List FrameD) (ps : List (Value × Value)) (rq : List ReqD) : Prop :=
 Blk w S 61 #[.int .i64 st, .int .i64 er, vv, fv, qv, .int .i64 ls, .int .i64 lm, .int .i64 sp, .int .i64 pk] ∧ Blk w (S + 1) 61 #[.int .i64 0, .int .i64 0, .slice none 0 0, .slice none 0 0, .slice none 0 0, .int .i64 0, .int .i64 0, .int .i64 0, .int .i64 0] ∧ OVal w S vv va ∧ OFrames w S fv fr ps ∧ OReqs w S qv rq

attribute [local go_sem] cell_alloc_is
set_option maxHeartbeats 4000000 in
theorem own_any (m : MachD) (v : Value) (w : World) (h : MachV w v m) (hf : m.frames.length ≤ 1000) (hq : m.requests.length ≤ 1000) :
  Calls Tryz.prog 40 #[v] w fun e w' => ∃ v', e = .returned v' ∧ OMach w' w.heap.size v' m ∧ Below w.heap.size w w' := by
 obtain ⟨i0, hi, hz0, hz1, hz2⟩ := info_parts Tryz.infoFrame
 obtain ⟨j0, hj, hy0, hy1, hy2⟩ := info_parts Tryz.infoReq
 obtain ⟨vv, fv, qv, rfl, hvv, hfv, hqv⟩ := h
 have HVV := Lib.hid hvv
 obtain ⟨A1, n1, k1, rfl⟩ := hvv.shape
 obtain ⟨A2, kf, rows, rfl, hcf, hmf, hsf, hlf, hvf⟩ := hfv
 obtain ⟨A3, kq, rowq, rfl, hcq, hmq, hsq, hlq, hvq⟩ := hqv
 have HSF := Lib.hid hsf
 have HLF := Lib.hid hlf
 have HVF := Lib.hid hvf
 have HSQ := Lib.hid hsq
 have HLQ := Lib.hid hlq
 have HVQ := Lib.hid hvq
 clear hvv hsf hlf hvf hsq hlq hvq
 obtain ⟨st, er, va, fr, rq, ls, lm, sp, pk⟩ := m
 dsimp only at hf hq hcf hmf hcq hmq HVV HLF HVF HLQ HVQ ⊢
 go_enter Tryz.func40, Tryz.ntmps40
 go_wp2_with (fail)
 go_quiet (fail)
 go_wp2_with (fail)
 refine (clone_any va _ _ ((HVV.out.below (below_2 w _ _)).drewN _)).mono ?_
 rintro e w1 ⟨v1, rfl, ho1, hb1⟩
 obtain ⟨A4, k4, rfl⟩ := own_shape ho1
 have HX1 := Lib.hid ((((Blk.new w 61 #[.int .i64 st, .int .i64 er, .slice A1 n1 k1, .slice A2 fr.length kf, .slice A3 rq.length kq, .int .i64 ls, .int .i64 lm, .int .i64 sp, .int .i64 pk]).alloc _).drewN _).below hb1)
 have HR1 := Lib.hid (((Blk.second w _ 61 #[.int .i64 0, .int .i64 0, .slice none 0 0, .slice none 0 0, .slice none 0 0, .int .i64 0, .int .i64 0, .int .i64 0, .int .i64 0]).drewN _).below hb1)
 have HO1 := Lib.hid (ho1.base (base' := w.heap.size) (by simp; omega))
 have HB1 := Lib.hid (below_call hb1 (below_drewN (below_2 w _ _) _))
 clear ho1 hb1
 have cx := blk9 HX1.out
 have z2 := HX1.out.frozen 2
 have z3 := HX1.out.frozen 3
 have z4 := HX1.out.frozen 4
 go_wp2_with (fail)
 clear cx z2 z3 z4
 obtain ⟨nv, hnv⟩ : ∃ nv, va.length = nv := ⟨_, rfl⟩
 go_loopw [21] (fun i wr => ∃ (k : Nat) (fv : Value) (ps : List (Value × Value)), k ≤ fr.length ∧ i = .int .i64 k ∧ Blk wr w.heap.size 61 #[.int .i64 st, .int .i64 er, .slice A4 va.length k4, fv, .slice none 0 0, .int .i64 ls, .int .i64 lm, .int .i64 sp, .int .i64 pk] ∧ Blk wr (w.heap.size + 1) 61 #[.int .i64 0, .int .i64 0, .slice none 0 0, .slice none 0 0, .slice none 0 0, .int .i64 0, .int .i64 0, .int .i64 0, .int .i64 0] ∧ OVal wr w.heap.size (.slice A4 va.length k4) va ∧ OFrames wr w.heap.size fv (fr.take k) ps ∧ Below w.heap.size w wr) (fun i _ => fr.length - (intOf i).toNat)
 case atStart =>
  have b1 := HX1.out.set_ 2 (.slice A4 va.length k4)
  have b2 := b1.set_ 3 (.slice none 0 0)
  have b3 := b2.set_ 4 (.slice none 0 0)
  have K := (KT.set HX1.out 2 (.slice A4 va.length k4)).trans ((KT.set b1 3 (.slice none 0 0)).trans (KT.set b2 4 (.slice none 0 0)))
  exact ⟨0, _, [], Nat.zero_le _, rfl, b3, ((HR1.out.far (p := ⟨w.heap.size, 2, none⟩) (by simp) _).far (p := ⟨w.heap.size, 3, none⟩) (by simp) _).far (p := ⟨w.heap.size, 4, none⟩) (by simp) _, K.oval (by decide) HO1.out, OFrames.nil _ _, ((HB1.out.setCell (p := ⟨w.heap.size, 2, none⟩) (Nat.le_refl _) _).setCell (p := ⟨w.heap.size, 3, none⟩) (Nat.le_refl _) _).setCell (p := ⟨w.heap.size, 4, none⟩) (Nat.le_refl _) _⟩
 case round =>
  obtain ⟨k, fv, ps, hk, rfl, hbx, hbr, hov, hof, hbel⟩ := hrel
  obtain ⟨L, hL⟩ : ∃ L, fr.take k = L := ⟨_, rfl⟩
  rw [hL] at hof
  obtain ⟨A5, k5, rfl⟩ := own_shape hof.2.1
  have HLL := Lib.hid hL
  have HTL : Hid (L.length = k) := Lib.hid (by rw [← hL]; simp; omega)
  have hLk : L.length ≤ 1000 := by have := HTL.out; omega
  have HBX := Lib.hid hbx
  have HBR := Lib.hid hbr
  have HOV := Lib.hid hov
  have HOF := Lib.hid hof
  have HB := Lib.hid hbel
  clear hbx hbr hov hof hbel hnv hL
  by_cases hlt : k < fr.length
  ·have hna : k < rows.length := by rw [HLF.out]; exact hlt
   have hlt' : (k : Int) < (fr.length : Int) := by omega
   have hk0 : (0 : Int) ≤ (k : Int) := by omega
   have hsa := HSF.out.below HB.out
   obtain ⟨bA, off, rfl, _⟩ := hsa.ptr hna
   obtain ⟨lv, sv, hrow, hlv, hsv⟩ := HVF.out k hna hlt
   obtain ⟨B1, z1, y1, rfl⟩ := hlv.shape
   obtain ⟨B2, z2, y2, rfl⟩ := hsv.shape
   obtain ⟨f1, hf1⟩ : ∃ x, fr[k].func = x := ⟨_, rfl⟩
   obtain ⟨c1, hc1⟩ : ∃ x, fr[k].pc = x := ⟨_, rfl⟩
   rw [hf1, hc1] at hrow
   have c0 := hsa.cell0 hna (v := .int .i64 f1) (by rw [hrow]; rfl)
   have c1' := hsa.cell hna (j := 1) (v := .int .i64 c1) (by rw [hrow]; rfl)
   have c2 := hsa.cell hna (j := 2) (v := .slice B1 z1 y1) (by rw [hrow]; rfl)
   have c3 := hsa.cell hna (j := 3) (v := .slice B2 z2 y2) (by rw [hrow]; rfl)
   have HL : Hid (∀ wx, Below wr.heap.size wr wx → Calls Tryz.prog 57 #[.slice B1 z1 y1] wx fun e w' => ∃ v', e = .returned v' ∧ OVals w' wx.heap.size v' fr[k].locals ∧ Below wx.heap.size wx w') := Lib.hid (fun wx hx => mvalues_any _ _ wx ((hlv.below HB.out).below hx))
   have HS : Hid (∀ wx, Below wr.heap.size wr wx → Calls Tryz.prog 57 #[.slice B2 z2 y2] wx fun e w' => ∃ v', e = .returned v' ∧ OVals w' wx.heap.size v' fr[k].stack ∧ Below wx.heap.size wx w') := Lib.hid (fun wx hx => mvalues_any _ _ wx ((hsv.below HB.out).below hx))
   have HF1 := Lib.hid hf1
   have HC1 := Lib.hid hc1
   clear hsa hrow hlv hsv hf1 hc1
   go_upto_region 6 with fail
   go_cut [] from 25 to 32 (fun wx => FrameCut wr wr.heap.size fr[k] wx)
   case first =>
    have HG0 := Lib.hid ((Blk.new wr 108 #[.int .i64 f1, .int .i64 c1, .slice B1 z1 y1, .slice B2 z2 y2]).drew)
    go_region_with (first
     | (go_at_call 57; with_reducible refine (HL.out _ (below_new _ _).drew).mono ?_; rintro e w3 ⟨v3, rfl, ho3, hb3⟩; have HG3 := Lib.hid (HG0.out.below hb3); have g2 := HG3.out.cell 2 (.slice B1 z1 y1) rfl; have g3 := HG3.out.cell 3 (.slice B2 z2 y2) rfl; have HO3 := Lib.hid ho3; have HB3 := Lib.hid (below_call hb3 (below_new _ _).drew); have HQ3 := Lib.hid hb3; clear ho3 hb3)
     | (go_at_call 57; with_reducible refine (HS.out _ HB3.out).mono ?_; rintro e w4 ⟨v4, rfl, ho4, hb4⟩; have HG4 := Lib.hid (HG3.out.below hb4); have g2 := HG4.out.cell 2 (.slice B1 z1 y1) rfl; have g3 := HG4.out.cell 3 (.slice B2 z2 y2) rfl; have y2' := HG4.out.frozen 2; have y3' := HG4.out.frozen 3; obtain ⟨A6, k6, rfl⟩ := HO3.out.shape; obtain ⟨A7, k7, rfl⟩ := ho4.shape; have HO4 := Lib.hid ho4; have HB4 := Lib.hid (below_call hb4 HB3.out); have HQ4 := Lib.hid hb4; clear ho4 hb4))
    all_goals
     go_wp2_with fail
     go_meet
     exact frameCut_mk HG4.out HF1.out HC1.out HO3.out (by simp) HQ4.out HO4.out HB4.out HB3.out.size
   case rest =>
    obtain ⟨lv, sv, hbg, hol, hos, hnd, hbw⟩ := hcut
    have HLO := Lib.hid (fun g hg => (hol.lt (g := g) hg).1)
    have HSO := Lib.hid (fun g hg => (hos.lt (g := g) hg).1)
    have hwb : w.heap.size ≤ wr.heap.size := HB.out.size
    have HOL := Lib.hid (hol.base hwb)
    have HOS := Lib.hid (hos.base hwb)
    obtain ⟨A6, k6, rfl⟩ := hol.shape
    obtain ⟨A7, k7, rfl⟩ := hos.shape
    rw [HF1.out, HC1.out] at hbg
    have HG := Lib.hid hbg
    have HBW := Lib.hid hbw
    have HND := Lib.hid hnd
    have HXc := Lib.hid (HBX.out.below hbw)
    have HRc := Lib.hid (HBR.out.below hbw)
    have HOc := Lib.hid (own_below HOF.out.2.1 hbw)
    have hsz : w.heap.size ≤ wc.heap.size := Nat.le_trans hwb hbw.size
    clear hbg hol hos hnd hbw c0 c1' c2 c3
    have g6 := blk4 HG.out
    have gx := blk9 HXc.out
    go_wp2_with (first
     | (at_builtin; refine wpList_app1 rfl (.tmp 34) (.tmp 36) 59 rfl i0 _ 64 Tryz.underlying59 hi hz0 hz1 hz2 rfl (by omega) rfl HOc.out [.int .i64 f1, .int .i64 c1, .slice A6 fr[k].locals.length k6, .slice A7 fr[k].stack.length k7] rfl rfl (by simp [Value.oneCell']) (by omega) (by omega) hsz ?_; intro v' w5 hown5 hb5 hs5 hg5; obtain ⟨A8, k8, rfl⟩ := own_shape hown5; have K5 := Lib.hid (KT.grown HOc.out hg5); have HX5 := Lib.hid (K5.out.blk (by decide) HXc.out); have gx5 := blk9 HX5.out; have z3 := HX5.out.frozen 3; have HO5 := Lib.hid hown5; have HB5 := Lib.hid hb5; clear hown5 hb5 hg5 gx))
    have K6 := Lib.hid (KT.set HX5.out 3 (.slice A8 (L.length + 1) k8))
    refine ⟨⟨k + 1, _, ps ++ [(.slice A6 fr[k].locals.length k6, .slice A7 fr[k].stack.length k7)], by omega, by simp, HX5.out.set_ 3 _, (K5.out.blk (by decide) HRc.out).far (p := ⟨w.heap.size, 3, none⟩) (by simp) _, K6.out.oval (by decide) (K5.out.oval (by decide) (HOV.out.below HBW.out)), ?_, ?_⟩, by simp [intOf]; omega⟩
    ·rw [List.take_succ_eq_append_getElem hlt, HLL.out]
     refine OFrames.snoc HOF.out (fun ho => K6.out.ovals (by decide) (by decide) (K5.out.ovals (by decide) (by decide) (ho.below HBW.out))) ?_ (K6.out.ovals (by decide) (by decide) (K5.out.ovals (by decide) (by decide) HOL.out)) (K6.out.ovals (by decide) (by decide) (K5.out.ovals (by decide) (by decide) HOS.out)) HND.out (fun g hg => hg.elim (HLO.out g) (HSO.out g))
     have h := K6.out.own (by decide) HO5.out
     unfold frameRow
     rw [HF1.out, HC1.out]
     exact h
    ·exact ((below_call' HBW.out HB.out HB.out.size).trans HB5.out).setCell (p := ⟨w.heap.size, 3, none⟩) (Nat.le_refl _) _
  ·have e : k = fr.length := by omega
   subst e
   have HOFF : Hid (OFrames wr w.heap.size (.slice A5 L.length k5) fr ps) := Lib.hid (by
    have h1 := HLL.out
    rw [List.take_length] at h1
    have h2 := HOF.out
    rw [← h1] at h2 ⊢
    exact h2)
   have gx := blk9 HBX.out
   go_wp2_with (fail)
   clear gx
   go_loopw [42] (fun i wr => ∃ (k : Nat) (qv : Value), k ≤ rq.length ∧ i = .int .i64 k ∧ OwnAt wr w.heap.size st er ls lm sp pk (.slice A4 va.length k4) (.slice A5 L.length k5) qv va fr ps (rq.take k) ∧ Below w.heap.size w wr) (fun i _ => rq.length - (intOf i).toNat)
   case atStart => exact ⟨0, _, Nat.zero_le _, rfl, ⟨HBX.out, HBR.out, HOV.out, HOFF.out, OReqs.nil _ _⟩, HB.out⟩
   case round =>
    obtain ⟨k, qv, hk, rfl, ⟨hbx, hbr, hov, hof, hoq⟩, hbel⟩ := hrel
    obtain ⟨R, hR⟩ : ∃ R, rq.take k = R := ⟨_, rfl⟩
    rw [hR] at hoq
    obtain ⟨vs, hvl, hqo, hqa⟩ := hoq
    obtain ⟨A8, k8, rfl⟩ := own_shape hqo
    have HRR := Lib.hid hR
    have HTR : Hid (R.length = k) := Lib.hid (by rw [← hR]; simp; omega)
    have hRk : R.length ≤ 1000 := by have := HTR.out; omega
    have HBX2 := Lib.hid hbx
    have HBR2 := Lib.hid hbr
    have HOV2 := Lib.hid hov
    have HOF2 := Lib.hid hof
    have HQO := Lib.hid hqo
    have HQA := Lib.hid hqa
    have HVL := Lib.hid hvl
    have HB2 := Lib.hid hbel
    clear hbx hbr hov hof hqo hqa hvl hbel hR
    by_cases hlt2 : k < rq.length
    ·have hna : k < rowq.length := by rw [HLQ.out]; exact hlt2
     have hlt' : (k : Int) < (rq.length : Int) := by omega
     have hk0 : (0 : Int) ≤ (k : Int) := by omega
     have hsa := HSQ.out.below HB2.out
     obtain ⟨bA, off, rfl, _⟩ := hsa.ptr hna
     obtain ⟨lv, hrow, hlv⟩ := HVQ.out k hna hlt2
     obtain ⟨B1, z1, y1, rfl⟩ := hlv.shape
     obtain ⟨op, hop⟩ : ∃ x, rq[k].op = x := ⟨_, rfl⟩
     rw [hop] at hrow
     have c0 := hsa.cell0 hna (v := .string op) (by rw [hrow]; rfl)
     have c1' := hsa.cell hna (j := 1) (v := .slice B1 z1 y1) (by rw [hrow]; rfl)
     have HL : Hid (∀ wx, Below wr.heap.size wr wx → Calls Tryz.prog 57 #[.slice B1 z1 y1] wx fun e w' => ∃ v', e = .returned v' ∧ OVals w' wx.heap.size v' rq[k].args ∧ Below wx.heap.size wx w') := Lib.hid (fun wx hx => mvalues_any _ _ wx ((hlv.below HB2.out).below hx))
     have HOP := Lib.hid hop
     have gx := HBX2.out.cell 4 (.slice A8 R.length k8) rfl
     clear hsa hrow hlv hop
     go_upto_region 12 with fail
     have HG0 := Lib.hid ((Blk.new wr 66 #[.string op, .slice B1 z1 y1]).drew)
     go_region_law (first
      | (go_simp; go_at_call 57; with_reducible refine (HL.out _ (below_new _ _).drew).mono ?_; rintro e w3 ⟨v3, rfl, ho3, hb3⟩; have HG3 := Lib.hid (HG0.out.below hb3); have g2 := HG3.out.cell 0 (.string op) rfl; have HB3 := Lib.hid (below_call hb3 (below_new _ _).drew); have HX3 := Lib.hid (HBX2.out.below HB3.out); have gx3 := HX3.out.cell 4 (.slice A8 R.length k8) rfl; obtain ⟨A9, k9, rfl⟩ := ho3.shape; have HO3 := Lib.hid (ho3.base (base' := w.heap.size) (Nat.le_trans HB2.out.size (by simp))); have hsz3 : w.heap.size ≤ w3.heap.size := Nat.le_trans HB2.out.size HB3.out.size; have HQ3 := Lib.hid (own_below (own_below HQO.out HB3.out) (below_new w3 (.cells #[.string op, .slice A9 rq[k].args.length k9] 66))); clear ho3 hb3)
      | (rw [if_pos (by rfl)]; refine wp_append_lies _ (.tmp 47) (.tmp 54) 33 rfl w.heap.size 66 j0 _ 2 40 Tryz.underlying33 hj hy0 hy1 hy2 rfl ?k1 _ R.length _ rfl HQ3.out ⟨w3.heap.size, 0, none⟩ 1 1 [.string op, .slice A9 rq[k].args.length k9] rfl rfl (cells_new w3 _ 66) ?k2 ?k3 ?k4 ?k5 ?k6 _ rfl ?_; (case k1 => decide); (case k2 => simp [Value.oneCell']); (case k3 => decide); (case k4 => (unfold maxLen; omega)); (case k5 => omega); (case k6 => exact Nat.le_trans hsz3 (by simp)); intro g6 cap6 w6 hown6 hgr6 _ hlt6; have K6 := Lib.hid (KT.grown HQ3.out hgr6); have HX6 := Lib.hid (K6.out.blk (by decide) (HX3.out.alloc (.cells #[.string op, .slice A9 rq[k].args.length k9] 66))); have gx6 := HX6.out.cell 4 (.slice A8 R.length k8) rfl; have z6 := HX6.out.frozen 4; have HO6 := Lib.hid hown6; have HG6 := Lib.hid hgr6; clear hown6 hgr6))
     all_goals
      go_wp2_with fail
      have K3 : KT 61 wr (w3.alloc (.cells #[.string op, .slice A9 rq[k].args.length k9] 66)) := KT.of_below (below_call (below_new w3 _) HB3.out)
      have K7 := KT.set HX6.out 4 (.slice (some ⟨g6, 0, none⟩) (R.length + 1) cap6)
      refine ⟨⟨k + 1, _, by omega, by simp, ⟨HX6.out.set_ 4 _, (K6.out.blk (by decide) ((HBR2.out.below HB3.out).alloc _)).far (p := ⟨w.heap.size, 4, none⟩) (by simp) _, K7.oval (by decide) (K6.out.oval (by decide) (K3.oval (by decide) HOV2.out)), K7.oframes (by decide) (by decide) (by decide) (K6.out.oframes (by decide) (by decide) (by decide) (K3.oframes (by decide) (by decide) (by decide) HOF2.out)), ?_⟩, ?_⟩, by simp [intOf]; omega⟩
      ·rw [List.take_succ_eq_append_getElem hlt2, HRR.out]
       refine OReqs.snoc HVL.out (fun i a b => K7.ovals (by decide) (by decide) (K6.out.ovals (by decide) (by decide) (K3.ovals (by decide) (by decide) (HQA.out i a b)))) ?_ (K7.ovals (by decide) (by decide) (K6.out.ovals (by decide) (by decide) (HO3.out.below (below_new w3 _))))
       have h := K7.own (by decide) HO6.out
       unfold reqRow
       rw [HOP.out]
       exact h
      ·exact ((((below_call' HB3.out HB2.out HB2.out.size).alloc hsz3 _).grown HG6.out (Nat.le_trans hsz3 (by simp)) (fun g hg => (HQ3.out.lt g hg).1))).setCell (p := ⟨w.heap.size, 4, none⟩) (Nat.le_refl _) _
    ·have e : k = rq.length := by omega
     subst e
     have HQF : Hid (OReqs wr w.heap.size (.slice A8 R.length k8) rq) := Lib.hid (by
      have h1 := HRR.out
      rw [List.take_length] at h1
      subst h1
      exact ⟨vs, HVL.out, HQO.out, HQA.out⟩)
     have gx := blk9 HBX2.out
     clear hf hq
     go_wp2_with (refine wpList_store_row rfl 61 (.tmp 2) (.tmp 58) rfl (w.heap.size + 1) #[.int .i64 st, .int .i64 er, .slice A4 va.length k4, .slice A5 L.length k5, .slice A8 R.length k8, .int .i64 ls, .int .i64 lm, .int .i64 sp, .int .i64 pk] rfl rfl 61 _ HBR2.out (by kernel_rfl) rfl (by simp [Value.oneCell']) ?_)
     have HZ := Lib.hid (HBR2.out.setRow (cs' := #[.int .i64 st, .int .i64 er, .slice A4 va.length k4, .slice A5 L.length k5, .slice A8 R.length k8, .int .i64 ls, .int .i64 lm, .int .i64 sp, .int .i64 pk]))
     have KZ : KT 61 wr (wr.setRow (w.heap.size + 1) #[.int .i64 st, .int .i64 er, .slice A4 va.length k4, .slice A5 L.length k5, .slice A8 R.length k8, .int .i64 ls, .int .i64 lm, .int .i64 sp, .int .i64 pk]) := KT.row HBR2.out _
     have HKZ := Lib.hid KZ
     have hBZ := below_setRow HB2.out (Nat.le_succ _) #[.int .i64 st, .int .i64 er, .slice A4 va.length k4, .slice A5 L.length k5, .slice A8 R.length k8, .int .i64 ls, .int .i64 lm, .int .i64 sp, .int .i64 pk]
     have HBZ := Lib.hid hBZ
     clear KZ hBZ gx
     obtain ⟨wz, hwz⟩ : ∃ wz, wr.setRow (w.heap.size + 1) #[.int .i64 st, .int .i64 er, .slice A4 va.length k4, .slice A5 L.length k5, .slice A8 R.length k8, .int .i64 ls, .int .i64 lm, .int .i64 sp, .int .i64 pk] = wz := ⟨_, rfl⟩
     rw [hwz] at HZ HKZ HBZ ⊢
     clear hwz
     have gz := blk9 HZ.out
     refine bodyPost_ret (v := .agg #[.int .i64 st, .int .i64 er, .slice A4 va.length k4, .slice A5 L.length k5, .slice A8 R.length k8, .int .i64 ls, .int .i64 lm, .int .i64 sp, .int .i64 pk]) (by simp [results, Tryz.results40, go_sem, gz]) rfl ⟨_, rfl, ⟨_, _, _, ps, rfl, HKZ.out.oval (by decide) HOV2.out, HKZ.out.oframes (by decide) (by decide) (by decide) HOF2.out, HKZ.out.oreqs (by decide) (by decide) (by decide) HQF.out⟩, HBZ.out⟩
end Go.Proofs.YtahcjgjigbedoaaGreatDoor
