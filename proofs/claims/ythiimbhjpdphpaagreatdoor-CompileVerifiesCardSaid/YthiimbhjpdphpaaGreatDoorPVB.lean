/- VB -/
import Derived.Test.YthiimbhjpdphpaaGreatDoorPVA
import Derived.Test.YthiimbhjpdphpaaGreatDoorPW18
set_option linter.unusedVariables false
set_option linter.unusedSimpArgs false
set_option linter.unusedVariables false
set_option linter.unusedSimpArgs false
namespace Go.Proofs.YthiimbhjpdphpaaGreatDoor
open Go.RowKit
set_option maxRecDepth 100000
theorem ProgR.bad {p : ProgD} {c : CodeD} {e : Int} (h : ProgR p c e) (he : e ≠ 0) : c = noCode := by
 rcases h with ⟨_, rfl, _⟩ | ⟨_, R, _, ⟨_, rfl, _⟩ | ⟨_, _, rfl⟩⟩
 ·rfl
 ·rfl
 ·exact absurd rfl he
theorem ProgR.good {p : ProgD} {c : CodeD} (h : ProgR p c 0) : (studyF p).err = 0 ∧ c = codeP p (studyF p).slots (studyF p).locals ∧ ∃ R, CodeR c R ∧ R.2 = 0 := by
 rcases h with ⟨h1, _, h2⟩ | ⟨h1, R, h2, ⟨h3, _, h4⟩ | ⟨h3, rfl, _⟩⟩
 ·exact absurd h2.symm h1
 ·exact absurd h4.symm h3
 ·exact ⟨h1, rfl, R, h2, h3⟩
theorem function_ok {p : ProgD} {k : Nat} {e : Int} (h : (studyF p).err = 0) (hk : k < p.funcs.length) (he : 0 ≤ e ∧ e ≤ 4000) : functionF p k e = (funcSeg p (studyF p).slots k e, 0) := by
 unfold functionF
 rw [if_neg (by rw [h]; simp), if_neg (by omega), Int.toNat_natCast]
theorem seg_two (p : ProgD) (sl : List Int) (k : Nat) (b : Int) : 2 ≤ (funcSeg p sl k b).length := by
 unfold funcSeg
 simp
attribute [local go_sem] cell_alloc_is
set_option maxHeartbeats 16000000 in
theorem verifies_s (S : ProgS) (w : World) (hS : ProgV w S) (hp : Pow w) (hv : Sent w) (hsh : Shaped w) (ht : TextsOk S.p) (hA : ∀ wx, Below w.heap.size w wx → Calls Tryz.prog 10 #[] wx fun r w' => r = .returned (.bool true) ∧ Below wx.heap.size wx w') :
  Calls Tryz.prog 7 #[S.val] w fun r w' => r = .returned (.bool true) ∧ Below w.heap.size w w' := by
 obtain ⟨P, hP⟩ : ∃ P : Ending → World → Prop, (fun r w' => r = .returned (.bool true) ∧ Below w.heap.size w w') = P := ⟨_, rfl⟩
 rw [hP]
 have HP : Hid (∀ w', Below w.heap.size w w' → P (.returned (.bool true)) w') := Lib.hid (fun w' h2 => by rw [← hP]; exact ⟨rfl, h2⟩)
 obtain ⟨W1, hW1⟩ : ∃ W, w.alloc (.cells #[.slice S.A S.p.nodes.length S.ncap, .slice S.B S.p.funcs.length S.fcap] 25) = W := ⟨_, rfl⟩
 obtain ⟨g, hg⟩ : ∃ g, w.heap.size = g := ⟨_, rfl⟩
 have hb1 : Below w.heap.size w W1 := by rw [← hW1]; exact below_new _ _
 have HB1 := Lib.hid hb1
 have HX1 : Hid (Blk W1 g 25 #[.slice S.A S.p.nodes.length S.ncap, .slice S.B S.p.funcs.length S.fcap]) := Lib.hid (by rw [← hW1, ← hg]; exact Blk.new _ _ _)
 have HCS : Hid (Calls Tryz.prog 9 #[S.val] W1 fun e w' => (∃ b, e = .returned (.bool b) ∧ (b = true → SmallPr S.p)) ∧ Below W1.heap.size W1 w') := Lib.hid (small_s S W1 (hS.below hb1))
 have HCF : Hid (SmallPr S.p → ∀ f e wx, Below w.heap.size w wx → Calls Tryz.prog 19 #[S.val, .int .i64 f, .int .i64 e] wx (FunctionP S f e wx)) := Lib.hid (fun hs f e wx hb => cfunction_s S f e wx (hS.below hb) (hp.below hb) (hs.ok ht))
 have HCP : Hid (SmallPr S.p → ∀ wx, Below w.heap.size w wx → Calls Tryz.prog 11 #[S.val] wx (ProgramP S wx)) := Lib.hid (fun hs wx hb => cprogram_s S wx (hS.below hb) (hp.below hb) (hs.ok ht) (hv.below hb) (hsh.below hb) hs.keys)
 have HCL : Hid (SmallPr S.p → ∀ wx, Below w.heap.size w wx → Calls Tryz.prog 21 #[S.val] wx fun r w' => r = .returned (.tuple #[.int .i64 (lengthF S.p).1, .int .i64 (lengthF S.p).2]) ∧ Below wx.heap.size wx w') := Lib.hid (fun hs wx hb => clength_s S wx (hS.below hb) (hp.below hb) (hs.ok ht))
 have HA := Lib.hid hA
 have HS := Lib.hid hS
 have HPW := Lib.hid hp
 have HSE := Lib.hid hv
 have HSH := Lib.hid hsh
 unfold ProgS.val at HCS HCF HCP HCL ⊢
 have HG := Lib.hid hg
 have HW1 := Lib.hid hW1
 clear hP hS hp hv hsh ht hA hg hW1 hb1
 go_enter Tryz.func7, Tryz.ntmps7
 go_upto_region 1 with fail
 rw [HG.out, HW1.out]
 clear HG HW1
 have x1 := blk2 HX1.out
 go_upto_region 3 with (first
  | (go_at_call 9; (with_reducible refine HCS.out.mono ?_); rintro r w2 ⟨⟨b, rfl, hb⟩, hb2⟩; have HB12 := Lib.hid hb2; have HB2 := Lib.hid (below_call' hb2 HB1.out HB1.out.size); have HSM := Lib.hid hb; clear hb2 hb; cases b)
  | (go_at_call 10; (with_reducible refine (HA.out _ HB2.out).mono ?_); rintro r w3 ⟨rfl, hb3⟩; have HB3 := Lib.hid (below_call' hb3 HB2.out HB2.out.size); clear hb3))
 ·try go_wp2_with (fail)
  exact HP.out _ HB3.out
 have HSP := Lib.hid (HSM.out (by simp))
 have HX2 := Lib.hid (HX1.out.below HB12.out)
 clear x1
 have x2 := blk2 HX2.out
 have HC3 := Lib.hid (HCP.out HSP.out w2 HB2.out)
 go_upto_region 4 with (first
  | (go_at_call 11; (with_reducible refine HC3.out.mono ?_); rintro r w3 ⟨A, nc, B, ic, c, er, rfl, hR, hF, hI, hb3⟩; have HR := Lib.hid hR; have HF := Lib.hid hF; have HI := Lib.hid hI; have HB23 := Lib.hid hb3; have HB3 := Lib.hid (below_call' hb3 HB2.out HB2.out.size); clear hR hF hI hb3))
 clear x2 HC3
 obtain ⟨nf, hnf⟩ : ∃ x, c.fns.length = x := ⟨_, rfl⟩
 obtain ⟨lt, hlt0⟩ : ∃ x, c.ins.length = x := ⟨_, rfl⟩
 obtain ⟨gC, hgC⟩ : ∃ g, w3.heap.size = g := ⟨_, rfl⟩
 obtain ⟨W4, hW4⟩ : ∃ W, w3.alloc (.cells #[.slice A nf nc, .slice B lt ic] 31) = W := ⟨_, rfl⟩
 have hb4 : Below w3.heap.size w3 W4 := by rw [← hW4]; exact below_new _ _
 have HX4 : Hid (Blk W4 gC 31 #[.slice A nf nc, .slice B lt ic]) := Lib.hid (by rw [← hW4, ← hgC]; exact Blk.new _ _ _)
 have HB34 := Lib.hid hb4
 have HB4 := Lib.hid (below_call' hb4 HB3.out HB3.out.size)
 rw [hnf, hlt0, hgC, hW4]
 rw [hlt0] at HI
 have HNF := Lib.hid hnf
 have HLT := Lib.hid hlt0
 clear hnf hlt0 hgC hW4 hb4
 have x4 := blk2 HX4.out
 by_cases he : er = 0
 ·subst he
  obtain ⟨h0, hc, R, hcr, hr2⟩ := HR.out.good
  have HE0 := Lib.hid h0
  have HCD := Lib.hid hc
  have HCR := Lib.hid hcr
  have HR2 := Lib.hid hr2
  have hsy := (study_ok h0).1
  have HSY := Lib.hid hsy
  have hnf : nf = S.p.funcs.length := by rw [← HNF.out, HCD.out]; unfold codeP; simp
  have hnf16 : nf ≤ 16 := by rw [hnf]; exact hsy.funcs
  have hins : c.ins = allSeg S.p (studyF S.p).slots nf := by rw [HCD.out, hnf]; rfl
  have hltb : lt ≤ 3632 := by rw [← HLT.out, hins]; exact hsy.all_le _ (by rw [hnf]; exact Nat.le_refl _)
  obtain ⟨sl, hsl⟩ : ∃ x, (studyF S.p).slots = x := ⟨_, rfl⟩
  obtain ⟨lo, hlo⟩ : ∃ x, (studyF S.p).locals = x := ⟨_, rfl⟩
  rw [hsl] at hins
  have HINS := Lib.hid hins
  have HNFL := Lib.hid hnf
  have HFN : Hid (∀ k, (hk : k < c.fns.length) → c.fns[k] = fnAt S.p sl lo k) := Lib.hid (fun k hk => by
   have h1 : c.fns = (List.range S.p.funcs.length).map (fnAt S.p sl lo) := by rw [HCD.out, hsl, hlo]; rfl
   simp only [h1]
   simp)
  have HFO : Hid (∀ k e, k < nf → 0 ≤ e ∧ e ≤ 4000 → functionF S.p (k : Nat) e = (funcSeg S.p sl k e, 0)) := Lib.hid (fun k e hk he => by rw [function_ok h0 (by omega) he, hsl])
  have HLE : Hid (lengthF S.p = (((lt : Nat) : Int), 0)) := Lib.hid (by
   unfold lengthF
   rw [if_neg (by rw [h0]; simp), hsl, ← hnf, ← hins, HLT.out])
  have HFS := Lib.hid (HF.out.below HB34.out)
  have HIV : Hid (InsV W4 B c.ins) := Lib.hid ((HI.out.below HB34.out).insV.2)
  have hcap : lt ≤ ic := by
   obtain ⟨N, h1, h2, _⟩ := HI.out
   obtain ⟨A', c', e⟩ := own_shape h2
   injection e with e1 e2 e3
   subst e1 e2 e3
   rcases h2.2 with ⟨e, e2⟩ | ⟨_, _, _, e, _, _, hc, _⟩
   ·omega
   ·injection e with _ _ e4; omega
  have HOKI : Hid (∀ i ∈ c.ins, InsOk i) := Lib.hid (fun i hi => by rw [hins] at hi; exact hsy.small sl HSP.out.keys nf (by omega) i hi)
  have hck := ccheck_any c A B nc ic W4 (by rw [HNF.out]; omega) (by rw [HLT.out]; omega)
   (fun f hf => by
    obtain ⟨j, hj, rfl⟩ := List.getElem_of_mem hf
    rw [HFN.out j hj]
    have hj' : j < S.p.funcs.length := by rw [← hnf, ← HNF.out]; exact hj
    obtain ⟨b, hfo, _, _⟩ := hsy.func hj'
    have := name_small hfo.name
    show (S.p.funcs.getD j noFunc).name.size ≤ 1000
    rw [getD_at hj']
    omega)
   HOKI.out (HSE.out.below HB4.out) (HPW.out.below HB4.out) (HSH.out.below HB4.out) HFS.out HIV.out
  rw [HNF.out, HLT.out] at hck
  have HCK := Lib.hid hck
  have hsn : S.p.funcs.length = nf := hnf.symm
  clear h0 hc hcr hr2 hsy hins hsl hlo hck hnf
  obtain ⟨R1, R2⟩ := R
  have hr0 : R2 = 0 := HR2.out
  subst hr0
  obtain ⟨SB, hSB⟩ : ∃ x, S.B = x := ⟨_, rfl⟩
  rw [hSB, hsn] at HX2 HCF HCL
  have HSB := Lib.hid hSB
  clear hSB
  go_upto_region 7 with (first
   | (go_at_call 23; (refine HCK.out.mono ?_); rintro r w5 ⟨R', rfl, hR', hb5⟩; have hde := HCR.out.det hR'; subst hde; have HB45 := Lib.hid hb5; clear hR' hb5))
  have HB5 := Lib.hid (below_call' HB45.out HB4.out HB4.out.size)
  have HX5 := Lib.hid (HX4.out.below HB45.out)
  have HY5 := Lib.hid (((HX2.out.below HB23.out).below HB34.out).below HB45.out)
  have HFS5 := Lib.hid (HFS.out.below HB45.out)
  have HIV5 := Lib.hid (HIV.out.below HB45.out)
  clear x4
  have x5 := blk2 HX5.out
  have y5 := blk2 HY5.out
  have hnn : ((nf : Int) != (nf : Int)) = false := by simp
  go_upto_region 11 with (fail)
  try go_wp2_with (fail)
  clear x5 y5 hnn
  go_loopw [7, 56] (fun av kv wr => ∃ k : Nat, k ≤ nf ∧ kv = .int .i64 k ∧ av = .int .i64 ((allSeg S.p sl k).length : Nat) ∧ Hid (Below w5.heap.size w5 wr)) (fun _ kv _ => nf - (intOf kv).toNat)
  case atStart => exact ⟨0, Nat.zero_le _, rfl, rfl, Lib.hid (Below.refl _ _)⟩
  case round =>
   obtain ⟨k, hk, rfl, rfl, HBr⟩ := hrel
   have hk0 : (0 : Int) ≤ (k : Int) := by omega
   have HBw := Lib.hid (below_call' HBr.out HB5.out HB5.out.size)
   by_cases hlt : k < nf
   ·have hlt' : (k : Int) < (nf : Int) := by omega
    have hkl : k < S.p.funcs.length := by omega
    have hkc : k < c.fns.length := by rw [HNF.out]; exact hlt
    obtain ⟨bF, offF, kA, kc, hA, hbF, f0, f1, f2, hkv⟩ := func_at (HS.out.below HBw.out).funcs hkl
    clear f2
    clear hkv
    have hA' : SB = some ⟨bF, offF, none⟩ := HSB.out.symm.trans hA
    have hfs := HFS5.out.below HBr.out
    obtain ⟨bA, oA, hAA, _⟩ := hfs.ptr hkc
    subst hAA
    have hca := HFN.out k hkc
    have a0 := hfs.cell0 hkc (v := .string (fnAt S.p sl lo k).name) (by rw [hca]; rfl)
    have a1 := hfs.cell hkc (j := 1) (v := .int .i64 (fnAt S.p sl lo k).params) (by rw [hca]; rfl)
    have a2 := hfs.cell hkc (j := 2) (v := .int .i64 (fnAt S.p sl lo k).locals) (by rw [hca]; rfl)
    have a3 := hfs.cell hkc (j := 3) (v := .int .i64 ((allSeg S.p sl k).length : Nat)) (by rw [hca]; rfl)
    have a4 := hfs.cell hkc (j := 4) (v := .int .i64 ((allSeg S.p sl (k + 1)).length : Nat)) (by rw [hca]; rfl)
    have hgd : (S.p.funcs.getD k noFunc) = S.p.funcs[k] := getD_at hkl _
    have e1 : (fnAt S.p sl lo k).name = (S.p.funcs[k]).name := by unfold fnAt; rw [hgd]
    have e2 : (fnAt S.p sl lo k).params = ((S.p.funcs[k]).params.length : Nat) := by unfold fnAt; rw [hgd]
    rw [e1] at a0
    rw [e2] at a1
    obtain ⟨nm, hnm⟩ : ∃ x, (S.p.funcs[k]).name = x := ⟨_, rfl⟩
    obtain ⟨pn, hpn⟩ : ∃ x, (S.p.funcs[k]).params.length = x := ⟨_, rfl⟩
    obtain ⟨lk, hlk⟩ : ∃ x, (fnAt S.p sl lo k).locals = x := ⟨_, rfl⟩
    obtain ⟨ln, hln⟩ : ∃ x, (allSeg S.p sl k).length = x := ⟨_, rfl⟩
    obtain ⟨ln2, hln2⟩ : ∃ x, (allSeg S.p sl (k + 1)).length = x := ⟨_, rfl⟩
    rw [hnm] at a0 f0
    rw [hpn] at a1 f1
    rw [hlk] at a2
    rw [hln] at a3 ⊢
    rw [hln2] at a4
    obtain ⟨sg, hsg⟩ : ∃ x, funcSeg S.p sl k (ln : Nat) = x := ⟨_, rfl⟩
    have hseg : (c.ins.drop ln).take (ln2 - ln) = sg := by
     rw [HINS.out, ← hln, ← hln2, allSeg_part S.p sl hlt, hln, hsg]
    have hsl2 : ln2 = ln + sg.length := by
     rw [← hln2, ← hsg]
     simp only [allSeg, List.length_append]
     rw [hln]
    have hs2 : 2 ≤ sg.length := by rw [← hsg]; exact seg_two S.p sl k _
    have hll : ln2 ≤ lt := by
     obtain ⟨r, hr⟩ := allSeg_pre S.p sl (k := k + 1) (n := nf) (by omega)
     have := congrArg List.length hr
     rw [← HINS.out, HLT.out, List.length_append, hln2] at this
     omega
    have HFK := HFO.out k ln hlt (by omega)
    rw [hsg] at HFK
    have HFK2 := Lib.hid HFK
    obtain ⟨sn, hsn2⟩ : ∃ x, sg.length = x := ⟨_, rfl⟩
    rw [hsn2] at hsl2 hs2
    have HSL2 := Lib.hid hsl2
    have hlt2 : ln < ln2 := by omega
    clear hsl2 hs2
    subst hA'
    obtain ⟨gX, hgX⟩ : ∃ g, wr.heap.size = g := ⟨_, rfl⟩
    obtain ⟨W6, hW6⟩ : ∃ W, wr.alloc (.cells #[.string nm, .int .i64 (pn : Nat), .int .i64 lk, .int .i64 (ln : Nat), .int .i64 (ln2 : Nat)] 50) = W := ⟨_, rfl⟩
    have hb6 : Below wr.heap.size wr W6 := by rw [← hW6]; exact below_new _ _
    have HX6 : Hid (Blk W6 gX 50 #[.string nm, .int .i64 (pn : Nat), .int .i64 lk, .int .i64 (ln : Nat), .int .i64 (ln2 : Nat)]) := Lib.hid (by rw [← hW6, ← hgX]; exact Blk.new _ _ _)
    have HB6 := Lib.hid (below_call' hb6 HBw.out HBw.out.size)
    have HB56 := Lib.hid (below_call' hb6 HBr.out HBr.out.size)
    have HGX := Lib.hid hgX
    have HW6 := Lib.hid hW6
    have HSEG := Lib.hid hseg
    have HSN := Lib.hid hsn2
    have HLN2 := Lib.hid hln2
    have HF0 : Hid (∀ wx, Below wr.heap.size wr wx → wx.cell? ⟨bF, offF + k * 3, none⟩ = some (.string nm) ∧ wx.cell? ⟨bF, offF + k * 3 + 1, none⟩ = some (.slice kA pn kc)) := Lib.hid (fun wx hb => ⟨(hb.cell (World.block_lt_of_cell? wr _ f0)).trans f0, (hb.cell (World.block_lt_of_cell? wr _ f1)).trans f1⟩)
    have HB6r := Lib.hid hb6
    have HCK1 := Lib.hid (HCF.out HSP.out k ln W6 HB6.out)
    clear hA hbF f0 f1 hfs hca hgd e1 e2 hnm hpn hlk hln hln2 hsg hseg hsn2 HFK hgX hW6 hb6 hkl hkc
    have x6 := blk2 (HX5.out.below HBr.out)
    have y6 := blk2 (HY5.out.below HB56.out)
    go_upto_region 14 with (fail)
    rw [HGX.out, HW6.out]
    clear a0 a1 a2 a3 a4 x6
    have g6 := blk5n HX6.out
    go_upto_region 15 with (first
     | (go_at_call 19; (with_reducible refine HCK1.out.mono ?_); rintro r w7 ⟨v9, rfl, hi7, hb7⟩; have HI7 := Lib.hid hi7; have HB67 := Lib.hid hb7; clear hi7 hb7))
    rw [HFK2.out] at HI7 ⊢
    simp only [] at HI7 ⊢
    obtain ⟨A9, c9, rfl⟩ := HI7.out.shape
    rw [HSN.out] at HI7 ⊢
    clear g6 y6
    have HB57 := Lib.hid (below_call' HB67.out HB56.out HB56.out.size)
    have HBr7 := Lib.hid (below_call' HB67.out HB6r.out HB6r.out.size)
    have HX7 := Lib.hid (HX6.out.below HB67.out)
    have x7 := blk2 (HX5.out.below HB57.out)
    have y7 := blk2 (HY5.out.below HB57.out)
    have g7 := blk5n HX7.out
    have f7 := HF0.out w7 HBr7.out
    have HI9 : Hid (InsV w7 A9 sg) := Lib.hid (HI7.out.insV.2)
    have hki : 0 < c.ins.length := by rw [HLT.out]; omega
    obtain ⟨bB, oB, hB⟩ : ∃ bB oB, B = some ⟨bB, oB, none⟩ := by
     obtain ⟨bB, oB, _, _, hB, _⟩ := (HIV5.out.below HB57.out).atK hki
     exact ⟨bB, oB, hB⟩
    subst hB
    have HIP : Hid (InsV w7 (some ⟨bB, oB + ln * 4, none⟩) sg) := Lib.hid (by have := (HIV5.out.below HB57.out).part ln (ln2 - ln); rw [HSEG.out] at this; exact this)
    have hcl := list_s sg A9 (some ⟨bB, oB + ln * 4, none⟩) c9 (ic - ln) w7.drew HI9.out HIP.out (by rw [HSN.out]; have := HSL2.out; omega) (fun i hi => by
     rw [← HSEG.out] at hi
     have := (HOKI.out i (List.mem_of_mem_drop (List.mem_of_mem_take hi))).2.1
     omega)
    rw [HSN.out] at hcl
    have HCLI := Lib.hid hcl
    have n1 : ((pn : Int) != (pn : Int)) = false := by simp
    have n2 : ((ln : Int) != (ln : Int)) = false := by simp
    have n3 : decide ((ln2 : Int) < (ln : Int)) = false := by simp; omega
    have n4 : decide ((lt : Int) < (ln2 : Int)) = false := by simp; omega
    have m3 : decide (ln2 < ln) = false := by simp; omega
    have m4 : decide (lt < ln2) = false := by simp; omega
    have n5 : (nm.toList != nm.toList) = false := by simp
    have n6 : (0 : Int) ≤ (ln : Int) := by omega
    have n7 : (ln : Int) ≤ (ln2 : Int) := by omega
    have n8 : (ln2 : Int) ≤ (ic : Int) := by omega
    have n9 : ¬ ic = ln := by omega
    have n10 : ln2 - ln = sn := by have := HSL2.out; omega
    clear hcl hki
    go_still_tail 54, (by kernel_rfl)
    change wpList _ _ _ _ _ w7.drew
    clear x7 y7 g7 f7 n1 n2 n3 n4 n5 m3 m4
    go_wp2_with (first
     | (go_at_call 13; ((refine HCLI.out.mono ?_); rintro r w8 ⟨rfl, hb8⟩; have HB58 := Lib.hid (below_call' hb8 HB57.out.drew HB57.out.size); have g8 := blk5n (HX7.out.drew.below hb8); clear hb8)))
    exact ⟨⟨k + 1, by omega, by simp, by rw [HLN2.out], HB58⟩, by simp [intOf]; omega⟩
   ·have e9 : nf = k := by omega
    subst e9
    have hat : (allSeg S.p sl nf).length = lt := by rw [← HINS.out, HLT.out]
    rw [hat]
    have hcl := HCL.out HSP.out wr HBw.out
    rw [HLE.out] at hcl
    have HCL1 := Lib.hid hcl
    clear hcl hat
    have x9 := blk2 (HX5.out.below HBr.out)
    have y9 := blk2 (HY5.out.below HBr.out)
    have hnn2 : ((lt : Int) == (lt : Int)) = true := by simp
    go_wp2_with (first
     | (go_at_call 21; ((refine HCL1.out.mono ?_); rintro r w6 ⟨rfl, hb6⟩; have HB6 := Lib.hid (below_call' hb6 HBw.out HBw.out.size); have x6 := blk2 ((HX5.out.below HBr.out).below hb6); clear hb6))
     | (go_at_call 10; ((refine (HA.out _ HB6.out).mono ?_); rintro r w7 ⟨rfl, hb7⟩; have HB7 := Lib.hid (below_call' hb7 HB6.out HB6.out.size); clear hb7)))
    exact HP.out _ HB7.out
 ·have e0 : (er != 0) = true := by simp [he]
  have hc := HR.out.bad he
  have hn0 : nf = 0 := by rw [← HNF.out, hc]; rfl
  have hl0 : lt = 0 := by rw [← HLT.out, hc]; rfl
  clear hc he
  subst hn0 hl0
  go_wp2_with (first
   | (go_at_call 10; (with_reducible refine (HA.out _ HB4.out).mono ?_); rintro r w5 ⟨rfl, hb5⟩; have HB5 := Lib.hid (below_call' hb5 HB4.out HB4.out.size); clear hb5))
  exact HP.out _ HB5.out
end Go.Proofs.YthiimbhjpdphpaaGreatDoor
