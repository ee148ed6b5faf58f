/- The machine: Start, the reference's. -/
import Derived.Test.YtmljohbialacfaaGreatDoorGQ9
import Derived.Test.YtmljohbialacfaaGreatDoorQ7
import Derived.Test.YtmljohbialacfaaGreatDoorX5
import Derived.Test.YtmljohbialacfaaGreatDoorGR10
set_option linter.unusedVariables false
set_option linter.unusedSimpArgs false
namespace Go.Proofs.YtmljohbialacfaaGreatDoor
open Go.RowKit
set_option maxRecDepth 100000
theorem RowE.shape {w0 w : World} {base : Nat} {v : Value} {l : List ValD} {n : Nat} (h : RowE w0 base w v l n) : ∃ A c, v = .slice A n c := by
 obtain ⟨vs, h1, _⟩ := h
 exact own_shape h1
theorem fns_pl {c : CodeD} : ∀ (n k : Nat) (e : Int), k + n = c.fns.length → (fnsF c (c.fns.drop k) k e).2 = 0 → ∀ j (hj : j < c.fns.length), k ≤ j → c.fns[j].params ≤ c.fns[j].locals
 | 0, k, e, hn, _, j, hj, hk => by omega
 | n + 1, k, e, hn, hf, j, hj, hk => by
  obtain ⟨h1, h2, h3, h4, h5, h6⟩ := fns_step (by omega) hf
  by_cases ejk : j = k
  ·subst ejk
   exact h5.1
  ·exact fns_pl n (k + 1) _ (by omega) h6 j hj (by omega)
theorem CodeR.pl {c : CodeD} {R : Int × Int} (h : CodeR c R) (h0 : R.2 = 0) : ∀ f ∈ c.fns, f.params ≤ f.locals := by
 obtain ⟨_, h2, _⟩ := h.okk h0
 intro f hf
 obtain ⟨j, hj, rfl⟩ := List.getElem_of_mem hf
 exact fns_pl c.fns.length 0 0 (by omega) (by simpa using h2) j hj (by omega)
/-- One frame in a block of its own. -/
theorem framesV_one {w : World} {g : Nat} {t : TypeId} {a b : Int} {lv sv : Value} {L S : List ValD} (h : Blk w g t #[.int .i64 a, .int .i64 b, lv, sv]) (hl : ValsV w lv L) (hs : ValsV w sv S) : FramesV w (.slice (some ⟨g, 0, none⟩) 1 1) [⟨a, b, L, S⟩] := by
 refine ⟨_, 1, [[.int .i64 a, .int .i64 b, lv, sv]], rfl, by simp, by simp, ?_, rfl, fun i hi hi' => ?_⟩
 ·intro i row hr
  have hi : i = 0 := by
   by_cases h0 : i = 0
   ·exact h0
   ·rw [List.getElem?_eq_none (by simp; omega)] at hr; cases hr
  subst hi
  simp at hr
  subst hr
  refine ⟨g, 0, rfl, lt_of_block h, fun j u hu => ?_⟩
  have := h.cell j u (by rw [← hu, ← Array.getElem?_toList])
  simpa using this
 ·have : i = 0 := by simp at hi; omega
  subst this
  exact ⟨lv, sv, rfl, hl, hs⟩
/-- Where Start stands behind the making of the machine. -/
def CutS (w : World) (L k : Nat) (en : Int) (args : List ValD) (CA CB : Option Addr) (nf ncap ni icap : Nat) (ls lm : Int) (u : Value) (wx : World) : Prop :=
 ∃ gM gF lA lc base, u = .pointer (some ⟨gM, 0, none⟩) ∧ Blk wx gM 37 #[.int .i64 1, .int .i64 0, .slice none 0 0, .slice (some ⟨gF, 0, none⟩) 1 1, .slice none 0 0, .int .i64 ls, .int .i64 lm, .int .i64 0, .int .i64 0] ∧ Blk wx gF 74 #[.int .i64 k, .int .i64 en, .slice lA L lc, .slice none 0 0] ∧ RowE w base wx (.slice lA L lc) args L ∧ Blk wx (w.heap.size + 1 + 1) 37 #[.int .i64 0, .int .i64 0, .slice none 0 0, .slice none 0 0, .slice none 0 0, .int .i64 0, .int .i64 0, .int .i64 0, .int .i64 0] ∧ Below w.heap.size w wx

attribute [local go_sem] cell_alloc_is
set_option maxHeartbeats 16000000 in
theorem rstart_any (C : CodeS) (v : Value) (l : ValD) (ls lm : Int) (w : World) (hC : CodeV w C) (hl : C.c.fns.length ≤ 40) (hL : C.c.ins.length ≤ 4100) (hn : ∀ f ∈ C.c.fns, f.name.size ≤ 1000) (hok : ∀ i ∈ C.c.ins, InsOk i) (hp : Pow w) (hV : ValV w v l) (hvl : l.length ≤ 1000000) (hvo : ∀ c ∈ l, okC c) :
  Calls Tryz.prog 11 #[.agg #[.slice C.A C.c.fns.length C.ncap, .slice C.B C.c.ins.length C.icap], v, .agg #[.int .i64 ls, .int .i64 lm]] w fun e w' => ∃ x R r, e = .returned (.tuple #[x, .int .i64 (startO C.c l ls lm R r).2]) ∧ CodeR C.c R ∧ FindP C.c.fns sMain r ∧ MachV w' x (startO C.c l ls lm R r).1 ∧ Below w.heap.size w w' := by
 obtain ⟨P, hP⟩ : ∃ P : Ending → World → Prop, (fun e w' => ∃ x R r, e = .returned (.tuple #[x, .int .i64 (startO C.c l ls lm R r).2]) ∧ CodeR C.c R ∧ FindP C.c.fns sMain r ∧ MachV w' x (startO C.c l ls lm R r).1 ∧ Below w.heap.size w w') = P := ⟨_, rfl⟩
 rw [hP]
 have HP := Lib.hid hP
 obtain ⟨vA, vcap, rfl, hvc, hvm, hvs⟩ := hV.at
 have HCC : Hid (∀ wx, Below w.heap.size w wx → Calls Tryz.prog 28 #[.agg #[.slice C.A C.c.fns.length C.ncap, .slice C.B C.c.ins.length C.icap]] wx fun e w' => ∃ R, e = .returned (.tuple #[.int .i64 R.1, .int .i64 R.2]) ∧ CodeR C.c R ∧ Below wx.heap.size wx w') := Lib.hid (fun wx hb => rcheck11_any C.c C.A C.B C.ncap C.icap wx hl hL hn hok (hC.fns.below hb) (hC.ins.below hb))
 have HCF : Hid (∀ wx, Below w.heap.size w wx → Calls Tryz.prog 29 #[.agg #[.slice C.A C.c.fns.length C.ncap, .slice C.B C.c.ins.length C.icap], .string ⟨#[109, 97, 105, 110]⟩] wx fun e w' => (∃ r, e = .returned (.int .i64 r) ∧ FindP C.c.fns sMain r) ∧ Below wx.heap.size wx w') := Lib.hid (fun wx hb => rfind_any C.c.fns C.A C.B C.ncap C.c.ins.length C.icap sMain wx hl (hC.fns.below hb))
 obtain ⟨n, hln⟩ : ∃ n, l.length = n := ⟨_, rfl⟩
 have HCV : Hid (∀ wx, Below w.heap.size w wx → Calls Tryz.prog 30 #[.slice vA n vcap] wx fun e w' => e = .returned (.int .i64 (checkF l)) ∧ Below wx.heap.size wx w') := Lib.hid (fun wx hb => by rw [← hln]; exact rcheck_any l vA vcap wx (hvs.below hb) (hp.below hb) hvl hvo)
 have HVV : Hid (∀ wx, Below w.heap.size w wx → ValV wx (.slice vA n vcap) l) := Lib.hid (fun wx hb => by rw [← hln]; exact hV.below hb)
 rw [hln]
 have HLN := Lib.hid hln
 have HCO := Lib.hid hC
 have HFL := Lib.hid hl
 have HIL := Lib.hid hL
 have HVL := Lib.hid hvl
 obtain ⟨cn, hcn⟩ : ∃ n, C.c.ins.length = n := ⟨_, rfl⟩
 obtain ⟨ck, hck⟩ : ∃ n, checkF l = n := ⟨_, rfl⟩
 rw [hcn] at HCC HCF ⊢
 rw [hck] at HCV
 have HCN := Lib.hid hcn
 have HCK := Lib.hid hck
 have HB0 := Lib.hid (below_3 w (.cells #[.slice C.A C.c.fns.length C.ncap, .slice C.B cn C.icap] 25) (.cells #[.int .i64 ls, .int .i64 lm] 28) (.cells #[.int .i64 0, .int .i64 0, .slice none 0 0, .slice none 0 0, .slice none 0 0, .int .i64 0, .int .i64 0, .int .i64 0, .int .i64 0] 37))
 have HX0 := Lib.hid ((((Blk.new w 25 #[.slice C.A C.c.fns.length C.ncap, .slice C.B cn C.icap]).alloc (.cells #[.int .i64 ls, .int .i64 lm] 28)).alloc (.cells #[.int .i64 0, .int .i64 0, .slice none 0 0, .slice none 0 0, .slice none 0 0, .int .i64 0, .int .i64 0, .int .i64 0, .int .i64 0] 37)))
 have HY0 := Lib.hid ((Blk.second w (.cells #[.slice C.A C.c.fns.length C.ncap, .slice C.B cn C.icap] 25) 28 #[.int .i64 ls, .int .i64 lm]).alloc (.cells #[.int .i64 0, .int .i64 0, .slice none 0 0, .slice none 0 0, .slice none 0 0, .int .i64 0, .int .i64 0, .int .i64 0, .int .i64 0] 37))
 have HZ0 := Lib.hid (Blk.third w (.cells #[.slice C.A C.c.fns.length C.ncap, .slice C.B cn C.icap] 25) (.cells #[.int .i64 ls, .int .i64 lm] 28) 37 #[.int .i64 0, .int .i64 0, .slice none 0 0, .slice none 0 0, .slice none 0 0, .int .i64 0, .int .i64 0, .int .i64 0, .int .i64 0])
 clear hC hn hok hp hV hvs hvo hvc hvm hln hcn hck hP hl hL hvl
 go_enter Tryz.func11, Tryz.ntmps11
 go_upto_region 2 with (first
  | (go_at_call 28; (with_reducible refine (HCC.out _ HB0.out).mono ?_); rintro e W1 ⟨R, rfl, hcr, hb1⟩; have HCR := Lib.hid hcr; have HX1 := Lib.hid (HX0.out.below hb1); have HY1 := Lib.hid (HY0.out.below hb1); have HZ1 := Lib.hid (HZ0.out.below hb1); have HB1 := Lib.hid (below_call hb1 HB0.out); have x1 := blk2 HX1.out; clear hb1 hcr))
 obtain ⟨r1, r2⟩ := R
 by_cases hr2 : r2 = 0
 ·subst hr2
  go_upto_region 5 with (first
   | (go_at_call 29; (with_reducible refine (HCF.out _ HB1.out).mono ?_); rintro e W2 ⟨⟨rr, rfl, hfp⟩, hb2⟩; have HFP := Lib.hid hfp; have HX2 := Lib.hid (HX1.out.below hb2); have HY2 := Lib.hid (HY1.out.below hb2); have HZ2 := Lib.hid (HZ1.out.below hb2); have HB2 := Lib.hid (below_call hb2 HB1.out); have x2 := blk2 HX2.out; clear hb2 hfp x1))
  by_cases hr0 : rr < 0
  ·obtain ⟨r2, hr2⟩ : ∃ r2 : Int, r2 = 0 := ⟨0, rfl⟩
   rw [← hr2] at HCR
   have HR2 := Lib.hid hr2
   clear hr2
   have HRR : Hid (startO C.c l ls lm (r1, r2) rr = (zeroM, 5)) := Lib.hid (by unfold startO; rw [if_neg (by simp [HR2.out]), if_pos hr0])
   have HZe := Lib.hid (HZ2.out.setRow (cs' := #[.int .i64 0, .int .i64 0, .slice none 0 0, .slice none 0 0, .slice none 0 0, .int .i64 0, .int .i64 0, .int .i64 0, .int .i64 0]))
   have HBe := Lib.hid (below_setRow HB2.out (show w.heap.size ≤ w.heap.size + 1 + 1 by omega) #[.int .i64 0, .int .i64 0, .slice none 0 0, .slice none 0 0, .slice none 0 0, .int .i64 0, .int .i64 0, .int .i64 0, .int .i64 0])
   go_wp2_with (first
    | (refine wpList_store_row rfl 37 (.tmp 6) (.tmp 25) rfl (w.heap.size + 1 + 1) #[.int .i64 0, .int .i64 0, .slice none 0 0, .slice none 0 0, .slice none 0 0, .int .i64 0, .int .i64 0, .int .i64 0, .int .i64 0] rfl rfl 37 _ HZ2.out (by kernel_rfl) rfl (by simp [Value.oneCell']) ?_))
   have gz := blk9 HZe.out
   refine bodyPost_ret (v := .tuple #[.agg #[.int .i64 0, .int .i64 0, .slice none 0 0, .slice none 0 0, .slice none 0 0, .int .i64 0, .int .i64 0, .int .i64 0, .int .i64 0], .int .i64 5]) (by simp [results, Tryz.results11, go_sem, gz]) rfl ?_
   rw [← HP.out]
   exact ⟨_, (r1, r2), rr, by rw [HRR.out], HCR.out, HFP.out, by rw [HRR.out]; exact machV_zero _, HBe.out⟩
  ·have HFC : Hid (∃ k : Nat, ∃ h : k < C.c.fns.length, rr = k ∧ C.c.fns[k].name = sMain) := Lib.hid (by
    rcases HFP.out with ⟨h, _⟩ | ⟨k, hk, h, h1, _⟩
    ·omega
    ·exact ⟨k, hk, h, h1⟩)
   obtain ⟨k, hkl, hrk, hnm⟩ := HFC.out
   clear hnm HFC
   subst hrk
   obtain ⟨f, hf⟩ : ∃ f, C.c.fns[k] = f := ⟨_, rfl⟩
   have hkl' : (k : Int) < (C.c.fns.length : Int) := by omega
   have hk0 : (0 : Int) ≤ (k : Int) := by omega
   have hk9 : (k : Int) ≤ 40 := by have := HFL.out; omega
   have hsa := HCO.out.fns.below HB2.out
   obtain ⟨bF, oF, hAe, _⟩ := hsa.ptr hkl
   rw [hAe] at hsa x2
   have c1 := hsa.cell hkl (j := 1) (v := .int .i64 f.params) (by rw [hf]; rfl)
   have HKF : Hid (C.c.fns[k]? = some f) := Lib.hid (by rw [List.getElem?_eq_getElem hkl, hf])
   obtain ⟨fp, hfp⟩ : ∃ p, f.params = p := ⟨_, rfl⟩
   rw [hfp] at c1
   have HFPP := Lib.hid hfp
   have HO2 : Hid (∀ ev a b, startO C.c ev a b (r1, 0) (k : Int) = (if f.params ≠ 1 then (zeroM, (7 : Int)) else if checkF ev ≠ 0 then (zeroM, checkF ev) else if ¬ LimOk a b then (zeroM, 2) else (startM f k ev a b, 0))) := Lib.hid (fun ev a b => by
    unfold startO
    rw [if_neg (by simp), if_neg (by omega), Int.toNat_natCast, HKF.out])
   have HAE := Lib.hid hAe
   clear hsa hf hfp hkl hr0 hAe
   by_cases hp1 : fp = 1
   ·subst hp1
    go_upto_region 10 with (first
     | (go_at_call 30; (with_reducible refine (HCV.out _ HB2.out).mono ?_); rintro e W3 ⟨rfl, hb3⟩; have HX3 := Lib.hid (HX2.out.below hb3); have HY3 := Lib.hid (HY2.out.below hb3); have HZ3 := Lib.hid (HZ2.out.below hb3); have HB3 := Lib.hid (below_call hb3 HB2.out); have x3 := blk2 HX3.out; have y3' := blk2 HY3.out; clear hb3 x2 c1))
    by_cases hck : ck = 0
    ·have HO3 : Hid (startO C.c l ls lm (r1, 0) (k : Int) = if ¬ LimOk ls lm then (zeroM, 2) else (startM f k l ls lm, 0)) := Lib.hid (by rw [HO2.out, if_neg (by simp [HFPP.out]), if_neg (by simp [HCK.out, hck])])
     subst hck
     by_cases hlim : LimOk ls lm
     ·have HO4 := Lib.hid (HO3.out.trans (if_neg (fun h => h hlim)))
      obtain ⟨⟨l1, l2⟩, l3, l4⟩ := hlim
      have n1 : ¬ ls < 1 := by omega
      have n2 : ¬ 20000 < ls := by omega
      have n3 : ¬ lm < 1 := by omega
      have n4 : ¬ 4000 < lm := by omega
      clear l1 l2 l3 l4
      have HSF : Hid (FnSmall f ∧ f.params ≤ f.locals) := Lib.hid ⟨HCR.out.small rfl f (List.mem_of_getElem? HKF.out), HCR.out.pl rfl f (List.mem_of_getElem? HKF.out)⟩
      obtain ⟨M, hM⟩ : ∃ M, countF (enterF ⟨1, 0, [], [], [], ls, lm, 0, 0⟩ k f [l]) = M := ⟨_, rfl⟩
      have HO5 : Hid (startO C.c l ls lm (r1, 0) (k : Int) = (M, 0)) := Lib.hid (by rw [HO4.out, ← hM]; rfl)
      have HMM : Hid (measF ⟨1, 0, [], [⟨k, f.entry, locsF [l] f.locals.toNat, []⟩], [], ls, lm, 0, 0⟩ = M) := Lib.hid (by rw [measF_count (.inl rfl), ← hM]; rfl)
      clear hM
      have HFRM : Hid (∀ (gS : Nat) (WX : World), Below w.heap.size w WX → Blk WX gS 26 #[.slice vA n vcap] → Calls Tryz.prog 31 #[.agg #[.slice C.A C.c.fns.length C.ncap, .slice C.B cn C.icap], .int .i64 k, .slice (some ⟨gS, 0, none⟩) 1 1] WX fun e w' => ∃ lv, e = .returned (.agg #[.int .i64 k, .int .i64 f.entry, lv, .slice none 0 0]) ∧ RowE w WX.heap.size w' lv (locsF [l] f.locals.toNat) f.locals.toNat ∧ Below WX.heap.size WX w') := Lib.hid (fun gS WX hb hbk => by
       rw [← HCN.out]
       refine rframe_any C k f _ [l] (some ⟨gS, 0, none⟩) 1 [.slice vA n vcap] w WX (HCO.out.below hb) HKF.out HSF.out.1.2.1 HFL.out rfl ?_ rfl ?_ ?_
       ·intro i row hi
        have h0 : i = 0 := by
         by_cases h0 : i = 0
         ·exact h0
         ·rw [List.getElem?_eq_none (by simp; omega)] at hi; cases hi
        subst h0
        simp at hi
        subst hi
        refine ⟨gS, 0, rfl, lt_of_block hbk, fun j u hu => ?_⟩
        have := hbk.cell j u (by rw [← hu, ← Array.getElem?_toList])
        simpa using this
       ·intro i h1 h2
        have h0 : i = 0 := by simp at h1; omega
        subst h0
        exact HVV.out w (Below.refl _ _)
       ·have h1 := HSF.out.2; have h2 := HFPP.out; simp; omega)
      obtain ⟨L, hL⟩ : ∃ L, f.locals.toNat = L := ⟨_, rfl⟩
      have HLL : Hid (L ≤ 32) := Lib.hid (by have := HSF.out.1.2.1; omega)
      obtain ⟨en, hen⟩ : ∃ en, f.entry = en := ⟨_, rfl⟩
      rw [hL, hen] at HFRM HMM
      obtain ⟨args, hargs⟩ : ∃ a, locsF [l] L = a := ⟨_, rfl⟩
      rw [hargs] at HMM
      rw [hargs] at HFRM
      clear hL hen hargs
      go_upto_region 14 with fail
      clear n1 n2 n3 n4 x3 y3'
      have HG6 : Hid (w.heap.size + 1 + 1 < W3.heap.size) := Lib.hid (lt_of_block HZ3.out)
      have HC_0 := Lib.hid HX3.out.drew
      have HY_0 := Lib.hid HY3.out.drew
      have HZ_0 := Lib.hid HZ3.out.drew
      have HB_0 := Lib.hid HB3.out.drew
      go_cut [11] (fun u wx => CutS w L k en args C.A C.B C.c.fns.length C.ncap cn C.icap ls lm u wx)
      case first =>
       refine wp_region_held_drew (S := fun w' => (w'.cell? ⟨w.heap.size, 0, none⟩ = some (.slice C.A C.c.fns.length C.ncap) ∧ w'.cell? ⟨w.heap.size, 1, none⟩ = some (.slice C.B cn C.icap)) ∧ (w'.cell? ⟨w.heap.size + 1, 0, none⟩ = some (.int .i64 ls) ∧ w'.cell? ⟨w.heap.size + 1, 1, none⟩ = some (.int .i64 lm))) (by kernel_rfl) ⟨blk2 HC_0.out, blk2 HY_0.out⟩ (fun hHeld => ?_)
       obtain ⟨WD, hWD⟩ : ∃ W, W3.drew = W := ⟨_, rfl⟩
       have HGD : Hid (W3.heap.size = WD.heap.size) := Lib.hid (by rw [← hWD]; rfl)
       rw [hWD] at HC_0 HY_0 HZ_0 HB_0 hHeld ⊢
       clear hWD
       refine wpAnyH_take (i := 0) (oi := _) (v := .agg #[.int .i64 ls, .int .i64 lm]) rfl (by kernel_rfl) (by kernel_rfl) (by kernel_rfl) (fun _ _ _ h => h) (Or.inl ⟨by rfl, by intro w hSw; (try dsimp only at hSw); go_simp⟩) (by assumption) ?_
       simp only [Act.put, List.setIfInBounds_toArray, List.set_cons_zero, List.set_cons_succ]
       refine wpAnyH_take (i := 1) (oi := _) (v := .agg #[.slice C.A C.c.fns.length C.ncap, .slice C.B cn C.icap]) rfl (by kernel_rfl) (by kernel_rfl) (by kernel_rfl) (fun _ _ _ h => h) (Or.inl ⟨by rfl, by intro w hSw; (try dsimp only at hSw); go_simp⟩) (by assumption) ?_
       simp only [Act.put, List.setIfInBounds_toArray, List.set_cons_zero, List.set_cons_succ]
       refine wpAnyH_take (i := 2) (oi := _) (v := .int .i64 k) rfl (by kernel_rfl) (by kernel_rfl) (by kernel_rfl) (fun _ _ _ h => h) (Or.inl ⟨by rfl, by intro w hSw; (try dsimp only at hSw); go_simp⟩) (by assumption) ?_
       simp only [Act.put, List.setIfInBounds_toArray, List.set_cons_zero, List.set_cons_succ]
       refine wpAnyH_take (i := 3) (oi := _) (v := .slice vA n vcap) rfl (by kernel_rfl) (by kernel_rfl) (by kernel_rfl) (fun _ _ _ h => h) (Or.inl ⟨by rfl, by intro w hSw; (try dsimp only at hSw); go_simp⟩) (by assumption) ?_
       simp only [Act.put, List.setIfInBounds_toArray, List.set_cons_zero, List.set_cons_succ]
       refine wpAnyH_ready (rs := [4, 8]) (by kernel_rfl) (by simp) ?_
       refine AllReadyH.cons (o := _) rfl (fun K hK => ?_) ?_
       ·go_simp
        have HC_aq1 := Lib.hid (HC_0.out.alloc (.cells #[.slice vA n vcap] 26))
        have HY_aq1 := Lib.hid (HY_0.out.alloc (.cells #[.slice vA n vcap] 26))
        have HZ_aq1 := Lib.hid (HZ_0.out.alloc (.cells #[.slice vA n vcap] 26))
        have HB_aq1 := Lib.hid (HB_0.out.alloc HB_0.out.size (.cells #[.slice vA n vcap] 26))
        have HS_aq1 := Lib.hid (Blk.new WD 26 #[.slice vA n vcap])
        refine hK.out _ _ ⟨blk2 HC_aq1.out, blk2 HY_aq1.out⟩ (fun hHeld => ?_)
        clear hK K
        try simp only [Act.put, List.setIfInBounds_toArray, List.set_cons_zero, List.set_cons_succ]
        obtain ⟨gq2, hgq2⟩ : ∃ g, WD.heap.size = g := ⟨_, rfl⟩
        have Hgq2 := Lib.hid hgq2
        obtain ⟨Wq3, hWq3⟩ : ∃ W, WD.alloc (.cells #[.slice vA n vcap] 26) = W := ⟨_, rfl⟩
        rw [hWq3] at HC_aq1 HY_aq1 HZ_aq1 HB_aq1 HS_aq1 hHeld ⊢
        rw [hgq2] at HS_aq1
        try rw [hgq2]
        have hhgq2 := HB_aq1.out.size
        clear hWq3 hgq2 hhgq2
        refine wpAnyH_ready (rs := [5, 8]) (by kernel_rfl) (by simp) ?_
        refine AllReadyH.cons (o := _) rfl (fun K hK => ?_) ?_
        ·go_simp
         refine (HFRM.out gq2 _ HB_aq1.out HS_aq1.out).mono ?_
         rintro e1 Wq5 ⟨lv, rfl, hre, hb4⟩
         obtain ⟨lA, lc, rfl⟩ := RowE.shape hre
         have HLB_aq4 := Lib.hid hre
         have HC_aq4 := Lib.hid (HC_aq1.out.below hb4)
         have HY_aq4 := Lib.hid (HY_aq1.out.below hb4)
         have HZ_aq4 := Lib.hid (HZ_aq1.out.below hb4)
         have HB_aq4 := Lib.hid (below_call' hb4 HB_aq1.out HB_aq1.out.size)
         have HS_aq4 := Lib.hid (HS_aq1.out.below hb4)
         skip
         clear hre hb4
         go_wp2_with fail
         refine hK.out _ _ ⟨blk2 HC_aq4.out, blk2 HY_aq4.out⟩ (fun hHeld => ?_)
         clear hK K
         try simp only [Act.put, List.setIfInBounds_toArray, List.set_cons_zero, List.set_cons_succ]
         refine wpAnyH_ready (rs := [6, 8]) (by kernel_rfl) (by simp) ?_
         refine AllReadyH.cons (o := _) rfl (fun K hK => ?_) ?_
         ·go_simp
          have HC_aq6 := Lib.hid (HC_aq4.out.alloc (.cells #[.int .i64 k, .int .i64 en, .slice lA L lc, .slice none 0 0] 74))
          have HY_aq6 := Lib.hid (HY_aq4.out.alloc (.cells #[.int .i64 k, .int .i64 en, .slice lA L lc, .slice none 0 0] 74))
          have HZ_aq6 := Lib.hid (HZ_aq4.out.alloc (.cells #[.int .i64 k, .int .i64 en, .slice lA L lc, .slice none 0 0] 74))
          have HB_aq6 := Lib.hid (HB_aq4.out.alloc HB_aq4.out.size (.cells #[.int .i64 k, .int .i64 en, .slice lA L lc, .slice none 0 0] 74))
          have HS_aq6 := Lib.hid (HS_aq4.out.alloc (.cells #[.int .i64 k, .int .i64 en, .slice lA L lc, .slice none 0 0] 74))
          have HLB_aq6 := Lib.hid (HLB_aq4.out.below (below_new Wq5 (.cells #[.int .i64 k, .int .i64 en, .slice lA L lc, .slice none 0 0] 74)))
          have HF_aq6 := Lib.hid (Blk.new Wq5 74 #[.int .i64 k, .int .i64 en, .slice lA L lc, .slice none 0 0])
          refine hK.out _ _ ⟨blk2 HC_aq6.out, blk2 HY_aq6.out⟩ (fun hHeld => ?_)
          clear hK K
          try simp only [Act.put, List.setIfInBounds_toArray, List.set_cons_zero, List.set_cons_succ]
          obtain ⟨gq7, hgq7⟩ : ∃ g, Wq5.heap.size = g := ⟨_, rfl⟩
          have Hgq7 := Lib.hid hgq7
          obtain ⟨Wq8, hWq8⟩ : ∃ W, Wq5.alloc (.cells #[.int .i64 k, .int .i64 en, .slice lA L lc, .slice none 0 0] 74) = W := ⟨_, rfl⟩
          rw [hWq8] at HC_aq6 HY_aq6 HZ_aq6 HB_aq6 HS_aq6 HLB_aq6 HF_aq6 hHeld ⊢
          rw [hgq7] at HF_aq6
          try rw [hgq7]
          have hhgq7 := HB_aq6.out.size
          clear hWq8 hgq7 hhgq7
          refine wpAnyH_take (i := 7) (oi := _) (v := .agg #[.int .i64 1, .int .i64 0, .slice none 0 0, .slice (some ⟨gq7, 0, none⟩) 1 1, .slice none 0 0, .int .i64 ls, .int .i64 lm, .int .i64 0, .int .i64 0]) rfl (by kernel_rfl) (by kernel_rfl) (by kernel_rfl) (fun _ _ _ h => h) (Or.inl ⟨by rfl, by intro w hSw; (try dsimp only at hSw); go_simp⟩) (by assumption) ?_
          simp only [Act.put, List.setIfInBounds_toArray, List.set_cons_zero, List.set_cons_succ]
          refine wpAnyH_ready (rs := [8]) (by kernel_rfl) (by simp) ?_
          refine AllReadyH.cons (o := _) rfl (fun K hK => ?_) AllReadyH.nil
          go_simp
          have HC_aq9 := Lib.hid (HC_aq6.out.alloc (.cells #[.int .i64 0, .int .i64 0, .slice none 0 0, .slice none 0 0, .slice none 0 0, .int .i64 0, .int .i64 0, .int .i64 0, .int .i64 0] 37))
          have HY_aq9 := Lib.hid (HY_aq6.out.alloc (.cells #[.int .i64 0, .int .i64 0, .slice none 0 0, .slice none 0 0, .slice none 0 0, .int .i64 0, .int .i64 0, .int .i64 0, .int .i64 0] 37))
          have HZ_aq9 := Lib.hid (HZ_aq6.out.alloc (.cells #[.int .i64 0, .int .i64 0, .slice none 0 0, .slice none 0 0, .slice none 0 0, .int .i64 0, .int .i64 0, .int .i64 0, .int .i64 0] 37))
          have HB_aq9 := Lib.hid (HB_aq6.out.alloc HB_aq6.out.size (.cells #[.int .i64 0, .int .i64 0, .slice none 0 0, .slice none 0 0, .slice none 0 0, .int .i64 0, .int .i64 0, .int .i64 0, .int .i64 0] 37))
          have HS_aq9 := Lib.hid (HS_aq6.out.alloc (.cells #[.int .i64 0, .int .i64 0, .slice none 0 0, .slice none 0 0, .slice none 0 0, .int .i64 0, .int .i64 0, .int .i64 0, .int .i64 0] 37))
          have HLB_aq9 := Lib.hid (HLB_aq6.out.below (below_new Wq8 (.cells #[.int .i64 0, .int .i64 0, .slice none 0 0, .slice none 0 0, .slice none 0 0, .int .i64 0, .int .i64 0, .int .i64 0, .int .i64 0] 37)))
          have HF_aq9 := Lib.hid (HF_aq6.out.alloc (.cells #[.int .i64 0, .int .i64 0, .slice none 0 0, .slice none 0 0, .slice none 0 0, .int .i64 0, .int .i64 0, .int .i64 0, .int .i64 0] 37))
          have HM_aq9 := Lib.hid (Blk.new Wq8 37 #[.int .i64 0, .int .i64 0, .slice none 0 0, .slice none 0 0, .slice none 0 0, .int .i64 0, .int .i64 0, .int .i64 0, .int .i64 0])
          refine hK.out _ _ ⟨blk2 HC_aq9.out, blk2 HY_aq9.out⟩ (fun hHeld => ?_)
          clear hK K
          try simp only [Act.put, List.setIfInBounds_toArray, List.set_cons_zero, List.set_cons_succ]
          obtain ⟨gq10, hgq10⟩ : ∃ g, Wq8.heap.size = g := ⟨_, rfl⟩
          have Hgq10 := Lib.hid hgq10
          have HGT_gq10 : Hid (w.heap.size + 1 + 1 < gq10) := Lib.hid (by have := lt_of_block HZ_aq6.out; rw [Hgq10.out] at this; exact this)
          obtain ⟨Wq11, hWq11⟩ : ∃ W, Wq8.alloc (.cells #[.int .i64 0, .int .i64 0, .slice none 0 0, .slice none 0 0, .slice none 0 0, .int .i64 0, .int .i64 0, .int .i64 0, .int .i64 0] 37) = W := ⟨_, rfl⟩
          rw [hWq11] at HC_aq9 HY_aq9 HZ_aq9 HB_aq9 HS_aq9 HLB_aq9 HF_aq9 HM_aq9 hHeld ⊢
          rw [hgq10] at HM_aq9
          try rw [hgq10]
          have hhgq10 := HB_aq9.out.size
          clear hWq11 hgq10 hhgq10
          refine wpAnyH_ready (rs := [9]) (by kernel_rfl) (by simp) ?_
          refine AllReadyH.cons (o := _) rfl (fun K hK => ?_) AllReadyH.nil
          rw [if_pos (by rfl)]
          refine wp_store_row _ _ _ rfl gq10 #[.int .i64 1, .int .i64 0, .slice none 0 0, .slice (some ⟨gq7, 0, none⟩) 1 1, .slice none 0 0, .int .i64 ls, .int .i64 lm, .int .i64 0, .int .i64 0] rfl rfl 37 _ HM_aq9.out (by kernel_rfl) rfl (by simp [Value.oneCell']) ?_
          have hgm : w.heap.size + 1 + 1 < gq10 := HGT_gq10.out
          have HC_aq12 := Lib.hid (HC_aq9.out.row_far (g' := gq10) (cs' := #[.int .i64 1, .int .i64 0, .slice none 0 0, .slice (some ⟨gq7, 0, none⟩) 1 1, .slice none 0 0, .int .i64 ls, .int .i64 lm, .int .i64 0, .int .i64 0]) (by omega))
          have HY_aq12 := Lib.hid (HY_aq9.out.row_far (g' := gq10) (cs' := #[.int .i64 1, .int .i64 0, .slice none 0 0, .slice (some ⟨gq7, 0, none⟩) 1 1, .slice none 0 0, .int .i64 ls, .int .i64 lm, .int .i64 0, .int .i64 0]) (by omega))
          refine hK.out _ _ ⟨blk2 HC_aq12.out, blk2 HY_aq12.out⟩ (fun hHeld => ?_)
          refine wpAnyH_done (by kernel_rfl) ?_ _
          dsimp only [List.getElem_toArray, List.getElem_cons_succ, List.getElem_cons_zero, Act.put]
          go_wp2_with fail
          go_meet
          exact ⟨gq10, gq7, lA, lc, _, rfl, HM_aq9.out.setRow, HF_aq9.out.row_far (g' := gq10) (fun e => blk_ne HF_aq9.out HM_aq9.out (by decide) e), HLB_aq9.out.turn HM_aq9.out (by decide) (by decide) (grown_setRow _ _ _), HZ_aq9.out.row_far (g' := gq10) (by omega), below_setRow HB_aq9.out (show w.heap.size ≤ gq10 by omega) _⟩
         refine AllReadyH.cons (o := _) rfl (fun K hK => ?_) AllReadyH.nil
         go_simp
         have HC_aq13 := Lib.hid (HC_aq4.out.alloc (.cells #[.int .i64 0, .int .i64 0, .slice none 0 0, .slice none 0 0, .slice none 0 0, .int .i64 0, .int .i64 0, .int .i64 0, .int .i64 0] 37))
         have HY_aq13 := Lib.hid (HY_aq4.out.alloc (.cells #[.int .i64 0, .int .i64 0, .slice none 0 0, .slice none 0 0, .slice none 0 0, .int .i64 0, .int .i64 0, .int .i64 0, .int .i64 0] 37))
         have HZ_aq13 := Lib.hid (HZ_aq4.out.alloc (.cells #[.int .i64 0, .int .i64 0, .slice none 0 0, .slice none 0 0, .slice none 0 0, .int .i64 0, .int .i64 0, .int .i64 0, .int .i64 0] 37))
         have HB_aq13 := Lib.hid (HB_aq4.out.alloc HB_aq4.out.size (.cells #[.int .i64 0, .int .i64 0, .slice none 0 0, .slice none 0 0, .slice none 0 0, .int .i64 0, .int .i64 0, .int .i64 0, .int .i64 0] 37))
         have HS_aq13 := Lib.hid (HS_aq4.out.alloc (.cells #[.int .i64 0, .int .i64 0, .slice none 0 0, .slice none 0 0, .slice none 0 0, .int .i64 0, .int .i64 0, .int .i64 0, .int .i64 0] 37))
         have HLB_aq13 := Lib.hid (HLB_aq4.out.below (below_new Wq5 (.cells #[.int .i64 0, .int .i64 0, .slice none 0 0, .slice none 0 0, .slice none 0 0, .int .i64 0, .int .i64 0, .int .i64 0, .int .i64 0] 37)))
         have HM_aq13 := Lib.hid (Blk.new Wq5 37 #[.int .i64 0, .int .i64 0, .slice none 0 0, .slice none 0 0, .slice none 0 0, .int .i64 0, .int .i64 0, .int .i64 0, .int .i64 0])
         refine hK.out _ _ ⟨blk2 HC_aq13.out, blk2 HY_aq13.out⟩ (fun hHeld => ?_)
         clear hK K
         try simp only [Act.put, List.setIfInBounds_toArray, List.set_cons_zero, List.set_cons_succ]
         obtain ⟨gq14, hgq14⟩ : ∃ g, Wq5.heap.size = g := ⟨_, rfl⟩
         have Hgq14 := Lib.hid hgq14
         have HGT_gq14 : Hid (w.heap.size + 1 + 1 < gq14) := Lib.hid (by have := lt_of_block HZ_aq4.out; rw [Hgq14.out] at this; exact this)
         obtain ⟨Wq15, hWq15⟩ : ∃ W, Wq5.alloc (.cells #[.int .i64 0, .int .i64 0, .slice none 0 0, .slice none 0 0, .slice none 0 0, .int .i64 0, .int .i64 0, .int .i64 0, .int .i64 0] 37) = W := ⟨_, rfl⟩
         rw [hWq15] at HC_aq13 HY_aq13 HZ_aq13 HB_aq13 HS_aq13 HLB_aq13 HM_aq13 hHeld ⊢
         rw [hgq14] at HM_aq13
         try rw [hgq14]
         have hhgq14 := HB_aq13.out.size
         clear hWq15 hgq14 hhgq14
         refine wpAnyH_ready (rs := [6]) (by kernel_rfl) (by simp) ?_
         refine AllReadyH.cons (o := _) rfl (fun K hK => ?_) AllReadyH.nil
         go_simp
         have HC_aq16 := Lib.hid (HC_aq13.out.alloc (.cells #[.int .i64 k, .int .i64 en, .slice lA L lc, .slice none 0 0] 74))
         have HY_aq16 := Lib.hid (HY_aq13.out.alloc (.cells #[.int .i64 k, .int .i64 en, .slice lA L lc, .slice none 0 0] 74))
         have HZ_aq16 := Lib.hid (HZ_aq13.out.alloc (.cells #[.int .i64 k, .int .i64 en, .slice lA L lc, .slice none 0 0] 74))
         have HB_aq16 := Lib.hid (HB_aq13.out.alloc HB_aq13.out.size (.cells #[.int .i64 k, .int .i64 en, .slice lA L lc, .slice none 0 0] 74))
         have HS_aq16 := Lib.hid (HS_aq13.out.alloc (.cells #[.int .i64 k, .int .i64 en, .slice lA L lc, .slice none 0 0] 74))
         have HLB_aq16 := Lib.hid (HLB_aq13.out.below (below_new Wq15 (.cells #[.int .i64 k, .int .i64 en, .slice lA L lc, .slice none 0 0] 74)))
         have HM_aq16 := Lib.hid (HM_aq13.out.alloc (.cells #[.int .i64 k, .int .i64 en, .slice lA L lc, .slice none 0 0] 74))
         have HF_aq16 := Lib.hid (Blk.new Wq15 74 #[.int .i64 k, .int .i64 en, .slice lA L lc, .slice none 0 0])
         refine hK.out _ _ ⟨blk2 HC_aq16.out, blk2 HY_aq16.out⟩ (fun hHeld => ?_)
         clear hK K
         try simp only [Act.put, List.setIfInBounds_toArray, List.set_cons_zero, List.set_cons_succ]
         obtain ⟨gq17, hgq17⟩ : ∃ g, Wq15.heap.size = g := ⟨_, rfl⟩
         have Hgq17 := Lib.hid hgq17
         obtain ⟨Wq18, hWq18⟩ : ∃ W, Wq15.alloc (.cells #[.int .i64 k, .int .i64 en, .slice lA L lc, .slice none 0 0] 74) = W := ⟨_, rfl⟩
         rw [hWq18] at HC_aq16 HY_aq16 HZ_aq16 HB_aq16 HS_aq16 HLB_aq16 HM_aq16 HF_aq16 hHeld ⊢
         rw [hgq17] at HF_aq16
         try rw [hgq17]
         have hhgq17 := HB_aq16.out.size
         clear hWq18 hgq17 hhgq17
         refine wpAnyH_take (i := 7) (oi := _) (v := .agg #[.int .i64 1, .int .i64 0, .slice none 0 0, .slice (some ⟨gq17, 0, none⟩) 1 1, .slice none 0 0, .int .i64 ls, .int .i64 lm, .int .i64 0, .int .i64 0]) rfl (by kernel_rfl) (by kernel_rfl) (by kernel_rfl) (fun _ _ _ h => h) (Or.inl ⟨by rfl, by intro w hSw; (try dsimp only at hSw); go_simp⟩) (by assumption) ?_
         simp only [Act.put, List.setIfInBounds_toArray, List.set_cons_zero, List.set_cons_succ]
         refine wpAnyH_ready (rs := [9]) (by kernel_rfl) (by simp) ?_
         refine AllReadyH.cons (o := _) rfl (fun K hK => ?_) AllReadyH.nil
         rw [if_pos (by rfl)]
         refine wp_store_row _ _ _ rfl gq14 #[.int .i64 1, .int .i64 0, .slice none 0 0, .slice (some ⟨gq17, 0, none⟩) 1 1, .slice none 0 0, .int .i64 ls, .int .i64 lm, .int .i64 0, .int .i64 0] rfl rfl 37 _ HM_aq16.out (by kernel_rfl) rfl (by simp [Value.oneCell']) ?_
         have hgm : w.heap.size + 1 + 1 < gq14 := HGT_gq14.out
         have HC_aq19 := Lib.hid (HC_aq16.out.row_far (g' := gq14) (cs' := #[.int .i64 1, .int .i64 0, .slice none 0 0, .slice (some ⟨gq17, 0, none⟩) 1 1, .slice none 0 0, .int .i64 ls, .int .i64 lm, .int .i64 0, .int .i64 0]) (by omega))
         have HY_aq19 := Lib.hid (HY_aq16.out.row_far (g' := gq14) (cs' := #[.int .i64 1, .int .i64 0, .slice none 0 0, .slice (some ⟨gq17, 0, none⟩) 1 1, .slice none 0 0, .int .i64 ls, .int .i64 lm, .int .i64 0, .int .i64 0]) (by omega))
         refine hK.out _ _ ⟨blk2 HC_aq19.out, blk2 HY_aq19.out⟩ (fun hHeld => ?_)
         refine wpAnyH_done (by kernel_rfl) ?_ _
         dsimp only [List.getElem_toArray, List.getElem_cons_succ, List.getElem_cons_zero, Act.put]
         go_wp2_with fail
         go_meet
         exact ⟨gq14, gq17, lA, lc, _, rfl, HM_aq16.out.setRow, HF_aq16.out.row_far (g' := gq14) (fun e => blk_ne HF_aq16.out HM_aq16.out (by decide) e), HLB_aq16.out.turn HM_aq16.out (by decide) (by decide) (grown_setRow _ _ _), HZ_aq16.out.row_far (g' := gq14) (by omega), below_setRow HB_aq16.out (show w.heap.size ≤ gq14 by omega) _⟩
        refine AllReadyH.cons (o := _) rfl (fun K hK => ?_) AllReadyH.nil
        go_simp
        have HC_aq20 := Lib.hid (HC_aq1.out.alloc (.cells #[.int .i64 0, .int .i64 0, .slice none 0 0, .slice none 0 0, .slice none 0 0, .int .i64 0, .int .i64 0, .int .i64 0, .int .i64 0] 37))
        have HY_aq20 := Lib.hid (HY_aq1.out.alloc (.cells #[.int .i64 0, .int .i64 0, .slice none 0 0, .slice none 0 0, .slice none 0 0, .int .i64 0, .int .i64 0, .int .i64 0, .int .i64 0] 37))
        have HZ_aq20 := Lib.hid (HZ_aq1.out.alloc (.cells #[.int .i64 0, .int .i64 0, .slice none 0 0, .slice none 0 0, .slice none 0 0, .int .i64 0, .int .i64 0, .int .i64 0, .int .i64 0] 37))
        have HB_aq20 := Lib.hid (HB_aq1.out.alloc HB_aq1.out.size (.cells #[.int .i64 0, .int .i64 0, .slice none 0 0, .slice none 0 0, .slice none 0 0, .int .i64 0, .int .i64 0, .int .i64 0, .int .i64 0] 37))
        have HS_aq20 := Lib.hid (HS_aq1.out.alloc (.cells #[.int .i64 0, .int .i64 0, .slice none 0 0, .slice none 0 0, .slice none 0 0, .int .i64 0, .int .i64 0, .int .i64 0, .int .i64 0] 37))
        have HM_aq20 := Lib.hid (Blk.new Wq3 37 #[.int .i64 0, .int .i64 0, .slice none 0 0, .slice none 0 0, .slice none 0 0, .int .i64 0, .int .i64 0, .int .i64 0, .int .i64 0])
        refine hK.out _ _ ⟨blk2 HC_aq20.out, blk2 HY_aq20.out⟩ (fun hHeld => ?_)
        clear hK K
        try simp only [Act.put, List.setIfInBounds_toArray, List.set_cons_zero, List.set_cons_succ]
        obtain ⟨gq21, hgq21⟩ : ∃ g, Wq3.heap.size = g := ⟨_, rfl⟩
        have Hgq21 := Lib.hid hgq21
        have HGT_gq21 : Hid (w.heap.size + 1 + 1 < gq21) := Lib.hid (by have := lt_of_block HZ_aq1.out; rw [Hgq21.out] at this; exact this)
        obtain ⟨Wq22, hWq22⟩ : ∃ W, Wq3.alloc (.cells #[.int .i64 0, .int .i64 0, .slice none 0 0, .slice none 0 0, .slice none 0 0, .int .i64 0, .int .i64 0, .int .i64 0, .int .i64 0] 37) = W := ⟨_, rfl⟩
        rw [hWq22] at HC_aq20 HY_aq20 HZ_aq20 HB_aq20 HS_aq20 HM_aq20 hHeld ⊢
        rw [hgq21] at HM_aq20
        try rw [hgq21]
        have hhgq21 := HB_aq20.out.size
        clear hWq22 hgq21 hhgq21
        refine wpAnyH_ready (rs := [5]) (by kernel_rfl) (by simp) ?_
        refine AllReadyH.cons (o := _) rfl (fun K hK => ?_) AllReadyH.nil
        go_simp
        refine (HFRM.out gq2 _ HB_aq20.out HS_aq20.out).mono ?_
        rintro e1 Wq24 ⟨lv, rfl, hre, hb4⟩
        obtain ⟨lA, lc, rfl⟩ := RowE.shape hre
        have HLB_aq23 := Lib.hid hre
        have HC_aq23 := Lib.hid (HC_aq20.out.below hb4)
        have HY_aq23 := Lib.hid (HY_aq20.out.below hb4)
        have HZ_aq23 := Lib.hid (HZ_aq20.out.below hb4)
        have HB_aq23 := Lib.hid (below_call' hb4 HB_aq20.out HB_aq20.out.size)
        have HS_aq23 := Lib.hid (HS_aq20.out.below hb4)
        have HM_aq23 := Lib.hid (HM_aq20.out.below hb4)
        skip
        clear hre hb4
        go_wp2_with fail
        refine hK.out _ _ ⟨blk2 HC_aq23.out, blk2 HY_aq23.out⟩ (fun hHeld => ?_)
        clear hK K
        try simp only [Act.put, List.setIfInBounds_toArray, List.set_cons_zero, List.set_cons_succ]
        refine wpAnyH_ready (rs := [6]) (by kernel_rfl) (by simp) ?_
        refine AllReadyH.cons (o := _) rfl (fun K hK => ?_) AllReadyH.nil
        go_simp
        have HC_aq25 := Lib.hid (HC_aq23.out.alloc (.cells #[.int .i64 k, .int .i64 en, .slice lA L lc, .slice none 0 0] 74))
        have HY_aq25 := Lib.hid (HY_aq23.out.alloc (.cells #[.int .i64 k, .int .i64 en, .slice lA L lc, .slice none 0 0] 74))
        have HZ_aq25 := Lib.hid (HZ_aq23.out.alloc (.cells #[.int .i64 k, .int .i64 en, .slice lA L lc, .slice none 0 0] 74))
        have HB_aq25 := Lib.hid (HB_aq23.out.alloc HB_aq23.out.size (.cells #[.int .i64 k, .int .i64 en, .slice lA L lc, .slice none 0 0] 74))
        have HS_aq25 := Lib.hid (HS_aq23.out.alloc (.cells #[.int .i64 k, .int .i64 en, .slice lA L lc, .slice none 0 0] 74))
        have HM_aq25 := Lib.hid (HM_aq23.out.alloc (.cells #[.int .i64 k, .int .i64 en, .slice lA L lc, .slice none 0 0] 74))
        have HLB_aq25 := Lib.hid (HLB_aq23.out.below (below_new Wq24 (.cells #[.int .i64 k, .int .i64 en, .slice lA L lc, .slice none 0 0] 74)))
        have HF_aq25 := Lib.hid (Blk.new Wq24 74 #[.int .i64 k, .int .i64 en, .slice lA L lc, .slice none 0 0])
        refine hK.out _ _ ⟨blk2 HC_aq25.out, blk2 HY_aq25.out⟩ (fun hHeld => ?_)
        clear hK K
        try simp only [Act.put, List.setIfInBounds_toArray, List.set_cons_zero, List.set_cons_succ]
        obtain ⟨gq26, hgq26⟩ : ∃ g, Wq24.heap.size = g := ⟨_, rfl⟩
        have Hgq26 := Lib.hid hgq26
        obtain ⟨Wq27, hWq27⟩ : ∃ W, Wq24.alloc (.cells #[.int .i64 k, .int .i64 en, .slice lA L lc, .slice none 0 0] 74) = W := ⟨_, rfl⟩
        rw [hWq27] at HC_aq25 HY_aq25 HZ_aq25 HB_aq25 HS_aq25 HM_aq25 HLB_aq25 HF_aq25 hHeld ⊢
        rw [hgq26] at HF_aq25
        try rw [hgq26]
        have hhgq26 := HB_aq25.out.size
        clear hWq27 hgq26 hhgq26
        refine wpAnyH_take (i := 7) (oi := _) (v := .agg #[.int .i64 1, .int .i64 0, .slice none 0 0, .slice (some ⟨gq26, 0, none⟩) 1 1, .slice none 0 0, .int .i64 ls, .int .i64 lm, .int .i64 0, .int .i64 0]) rfl (by kernel_rfl) (by kernel_rfl) (by kernel_rfl) (fun _ _ _ h => h) (Or.inl ⟨by rfl, by intro w hSw; (try dsimp only at hSw); go_simp⟩) (by assumption) ?_
        simp only [Act.put, List.setIfInBounds_toArray, List.set_cons_zero, List.set_cons_succ]
        refine wpAnyH_ready (rs := [9]) (by kernel_rfl) (by simp) ?_
        refine AllReadyH.cons (o := _) rfl (fun K hK => ?_) AllReadyH.nil
        rw [if_pos (by rfl)]
        refine wp_store_row _ _ _ rfl gq21 #[.int .i64 1, .int .i64 0, .slice none 0 0, .slice (some ⟨gq26, 0, none⟩) 1 1, .slice none 0 0, .int .i64 ls, .int .i64 lm, .int .i64 0, .int .i64 0] rfl rfl 37 _ HM_aq25.out (by kernel_rfl) rfl (by simp [Value.oneCell']) ?_
        have hgm : w.heap.size + 1 + 1 < gq21 := HGT_gq21.out
        have HC_aq28 := Lib.hid (HC_aq25.out.row_far (g' := gq21) (cs' := #[.int .i64 1, .int .i64 0, .slice none 0 0, .slice (some ⟨gq26, 0, none⟩) 1 1, .slice none 0 0, .int .i64 ls, .int .i64 lm, .int .i64 0, .int .i64 0]) (by omega))
        have HY_aq28 := Lib.hid (HY_aq25.out.row_far (g' := gq21) (cs' := #[.int .i64 1, .int .i64 0, .slice none 0 0, .slice (some ⟨gq26, 0, none⟩) 1 1, .slice none 0 0, .int .i64 ls, .int .i64 lm, .int .i64 0, .int .i64 0]) (by omega))
        refine hK.out _ _ ⟨blk2 HC_aq28.out, blk2 HY_aq28.out⟩ (fun hHeld => ?_)
        refine wpAnyH_done (by kernel_rfl) ?_ _
        dsimp only [List.getElem_toArray, List.getElem_cons_succ, List.getElem_cons_zero, Act.put]
        go_wp2_with fail
        go_meet
        exact ⟨gq21, gq26, lA, lc, _, rfl, HM_aq25.out.setRow, HF_aq25.out.row_far (g' := gq21) (fun e => blk_ne HF_aq25.out HM_aq25.out (by decide) e), HLB_aq25.out.turn HM_aq25.out (by decide) (by decide) (grown_setRow _ _ _), HZ_aq25.out.row_far (g' := gq21) (by omega), below_setRow HB_aq25.out (show w.heap.size ≤ gq21 by omega) _⟩
       refine AllReadyH.cons (o := _) rfl (fun K hK => ?_) AllReadyH.nil
       go_simp
       have HC_aq29 := Lib.hid (HC_0.out.alloc (.cells #[.int .i64 0, .int .i64 0, .slice none 0 0, .slice none 0 0, .slice none 0 0, .int .i64 0, .int .i64 0, .int .i64 0, .int .i64 0] 37))
       have HY_aq29 := Lib.hid (HY_0.out.alloc (.cells #[.int .i64 0, .int .i64 0, .slice none 0 0, .slice none 0 0, .slice none 0 0, .int .i64 0, .int .i64 0, .int .i64 0, .int .i64 0] 37))
       have HZ_aq29 := Lib.hid (HZ_0.out.alloc (.cells #[.int .i64 0, .int .i64 0, .slice none 0 0, .slice none 0 0, .slice none 0 0, .int .i64 0, .int .i64 0, .int .i64 0, .int .i64 0] 37))
       have HB_aq29 := Lib.hid (HB_0.out.alloc HB_0.out.size (.cells #[.int .i64 0, .int .i64 0, .slice none 0 0, .slice none 0 0, .slice none 0 0, .int .i64 0, .int .i64 0, .int .i64 0, .int .i64 0] 37))
       have HM_aq29 := Lib.hid (Blk.new WD 37 #[.int .i64 0, .int .i64 0, .slice none 0 0, .slice none 0 0, .slice none 0 0, .int .i64 0, .int .i64 0, .int .i64 0, .int .i64 0])
       refine hK.out _ _ ⟨blk2 HC_aq29.out, blk2 HY_aq29.out⟩ (fun hHeld => ?_)
       clear hK K
       try simp only [Act.put, List.setIfInBounds_toArray, List.set_cons_zero, List.set_cons_succ]
       obtain ⟨gq30, hgq30⟩ : ∃ g, WD.heap.size = g := ⟨_, rfl⟩
       have Hgq30 := Lib.hid hgq30
       have HGT_gq30 : Hid (w.heap.size + 1 + 1 < gq30) := Lib.hid (by have := lt_of_block HZ_0.out; rw [Hgq30.out] at this; exact this)
       obtain ⟨Wq31, hWq31⟩ : ∃ W, WD.alloc (.cells #[.int .i64 0, .int .i64 0, .slice none 0 0, .slice none 0 0, .slice none 0 0, .int .i64 0, .int .i64 0, .int .i64 0, .int .i64 0] 37) = W := ⟨_, rfl⟩
       rw [hWq31] at HC_aq29 HY_aq29 HZ_aq29 HB_aq29 HM_aq29 hHeld ⊢
       rw [hgq30] at HM_aq29
       try rw [hgq30]
       have hhgq30 := HB_aq29.out.size
       clear hWq31 hgq30 hhgq30
       refine wpAnyH_ready (rs := [4]) (by kernel_rfl) (by simp) ?_
       refine AllReadyH.cons (o := _) rfl (fun K hK => ?_) AllReadyH.nil
       go_simp
       have HC_aq32 := Lib.hid (HC_aq29.out.alloc (.cells #[.slice vA n vcap] 26))
       have HY_aq32 := Lib.hid (HY_aq29.out.alloc (.cells #[.slice vA n vcap] 26))
       have HZ_aq32 := Lib.hid (HZ_aq29.out.alloc (.cells #[.slice vA n vcap] 26))
       have HB_aq32 := Lib.hid (HB_aq29.out.alloc HB_aq29.out.size (.cells #[.slice vA n vcap] 26))
       have HM_aq32 := Lib.hid (HM_aq29.out.alloc (.cells #[.slice vA n vcap] 26))
       have HS_aq32 := Lib.hid (Blk.new Wq31 26 #[.slice vA n vcap])
       refine hK.out _ _ ⟨blk2 HC_aq32.out, blk2 HY_aq32.out⟩ (fun hHeld => ?_)
       clear hK K
       try simp only [Act.put, List.setIfInBounds_toArray, List.set_cons_zero, List.set_cons_succ]
       obtain ⟨gq33, hgq33⟩ : ∃ g, Wq31.heap.size = g := ⟨_, rfl⟩
       have Hgq33 := Lib.hid hgq33
       obtain ⟨Wq34, hWq34⟩ : ∃ W, Wq31.alloc (.cells #[.slice vA n vcap] 26) = W := ⟨_, rfl⟩
       rw [hWq34] at HC_aq32 HY_aq32 HZ_aq32 HB_aq32 HM_aq32 HS_aq32 hHeld ⊢
       rw [hgq33] at HS_aq32
       try rw [hgq33]
       have hhgq33 := HB_aq32.out.size
       clear hWq34 hgq33 hhgq33
       refine wpAnyH_ready (rs := [5]) (by kernel_rfl) (by simp) ?_
       refine AllReadyH.cons (o := _) rfl (fun K hK => ?_) AllReadyH.nil
       go_simp
       refine (HFRM.out gq33 _ HB_aq32.out HS_aq32.out).mono ?_
       rintro e1 Wq36 ⟨lv, rfl, hre, hb4⟩
       obtain ⟨lA, lc, rfl⟩ := RowE.shape hre
       have HLB_aq35 := Lib.hid hre
       have HC_aq35 := Lib.hid (HC_aq32.out.below hb4)
       have HY_aq35 := Lib.hid (HY_aq32.out.below hb4)
       have HZ_aq35 := Lib.hid (HZ_aq32.out.below hb4)
       have HB_aq35 := Lib.hid (below_call' hb4 HB_aq32.out HB_aq32.out.size)
       have HM_aq35 := Lib.hid (HM_aq32.out.below hb4)
       have HS_aq35 := Lib.hid (HS_aq32.out.below hb4)
       skip
       clear hre hb4
       go_wp2_with fail
       refine hK.out _ _ ⟨blk2 HC_aq35.out, blk2 HY_aq35.out⟩ (fun hHeld => ?_)
       clear hK K
       try simp only [Act.put, List.setIfInBounds_toArray, List.set_cons_zero, List.set_cons_succ]
       refine wpAnyH_ready (rs := [6]) (by kernel_rfl) (by simp) ?_
       refine AllReadyH.cons (o := _) rfl (fun K hK => ?_) AllReadyH.nil
       go_simp
       have HC_aq37 := Lib.hid (HC_aq35.out.alloc (.cells #[.int .i64 k, .int .i64 en, .slice lA L lc, .slice none 0 0] 74))
       have HY_aq37 := Lib.hid (HY_aq35.out.alloc (.cells #[.int .i64 k, .int .i64 en, .slice lA L lc, .slice none 0 0] 74))
       have HZ_aq37 := Lib.hid (HZ_aq35.out.alloc (.cells #[.int .i64 k, .int .i64 en, .slice lA L lc, .slice none 0 0] 74))
       have HB_aq37 := Lib.hid (HB_aq35.out.alloc HB_aq35.out.size (.cells #[.int .i64 k, .int .i64 en, .slice lA L lc, .slice none 0 0] 74))
       have HM_aq37 := Lib.hid (HM_aq35.out.alloc (.cells #[.int .i64 k, .int .i64 en, .slice lA L lc, .slice none 0 0] 74))
       have HS_aq37 := Lib.hid (HS_aq35.out.alloc (.cells #[.int .i64 k, .int .i64 en, .slice lA L lc, .slice none 0 0] 74))
       have HLB_aq37 := Lib.hid (HLB_aq35.out.below (below_new Wq36 (.cells #[.int .i64 k, .int .i64 en, .slice lA L lc, .slice none 0 0] 74)))
       have HF_aq37 := Lib.hid (Blk.new Wq36 74 #[.int .i64 k, .int .i64 en, .slice lA L lc, .slice none 0 0])
       refine hK.out _ _ ⟨blk2 HC_aq37.out, blk2 HY_aq37.out⟩ (fun hHeld => ?_)
       clear hK K
       try simp only [Act.put, List.setIfInBounds_toArray, List.set_cons_zero, List.set_cons_succ]
       obtain ⟨gq38, hgq38⟩ : ∃ g, Wq36.heap.size = g := ⟨_, rfl⟩
       have Hgq38 := Lib.hid hgq38
       obtain ⟨Wq39, hWq39⟩ : ∃ W, Wq36.alloc (.cells #[.int .i64 k, .int .i64 en, .slice lA L lc, .slice none 0 0] 74) = W := ⟨_, rfl⟩
       rw [hWq39] at HC_aq37 HY_aq37 HZ_aq37 HB_aq37 HM_aq37 HS_aq37 HLB_aq37 HF_aq37 hHeld ⊢
       rw [hgq38] at HF_aq37
       try rw [hgq38]
       have hhgq38 := HB_aq37.out.size
       clear hWq39 hgq38 hhgq38
       refine wpAnyH_take (i := 7) (oi := _) (v := .agg #[.int .i64 1, .int .i64 0, .slice none 0 0, .slice (some ⟨gq38, 0, none⟩) 1 1, .slice none 0 0, .int .i64 ls, .int .i64 lm, .int .i64 0, .int .i64 0]) rfl (by kernel_rfl) (by kernel_rfl) (by kernel_rfl) (fun _ _ _ h => h) (Or.inl ⟨by rfl, by intro w hSw; (try dsimp only at hSw); go_simp⟩) (by assumption) ?_
       simp only [Act.put, List.setIfInBounds_toArray, List.set_cons_zero, List.set_cons_succ]
       refine wpAnyH_ready (rs := [9]) (by kernel_rfl) (by simp) ?_
       refine AllReadyH.cons (o := _) rfl (fun K hK => ?_) AllReadyH.nil
       rw [if_pos (by rfl)]
       refine wp_store_row _ _ _ rfl gq30 #[.int .i64 1, .int .i64 0, .slice none 0 0, .slice (some ⟨gq38, 0, none⟩) 1 1, .slice none 0 0, .int .i64 ls, .int .i64 lm, .int .i64 0, .int .i64 0] rfl rfl 37 _ HM_aq37.out (by kernel_rfl) rfl (by simp [Value.oneCell']) ?_
       have hgm : w.heap.size + 1 + 1 < gq30 := HGT_gq30.out
       have HC_aq40 := Lib.hid (HC_aq37.out.row_far (g' := gq30) (cs' := #[.int .i64 1, .int .i64 0, .slice none 0 0, .slice (some ⟨gq38, 0, none⟩) 1 1, .slice none 0 0, .int .i64 ls, .int .i64 lm, .int .i64 0, .int .i64 0]) (by omega))
       have HY_aq40 := Lib.hid (HY_aq37.out.row_far (g' := gq30) (cs' := #[.int .i64 1, .int .i64 0, .slice none 0 0, .slice (some ⟨gq38, 0, none⟩) 1 1, .slice none 0 0, .int .i64 ls, .int .i64 lm, .int .i64 0, .int .i64 0]) (by omega))
       refine hK.out _ _ ⟨blk2 HC_aq40.out, blk2 HY_aq40.out⟩ (fun hHeld => ?_)
       refine wpAnyH_done (by kernel_rfl) ?_ _
       dsimp only [List.getElem_toArray, List.getElem_cons_succ, List.getElem_cons_zero, Act.put]
       go_wp2_with fail
       go_meet
       exact ⟨gq30, gq38, lA, lc, _, rfl, HM_aq37.out.setRow, HF_aq37.out.row_far (g' := gq30) (fun e => blk_ne HF_aq37.out HM_aq37.out (by decide) e), HLB_aq37.out.turn HM_aq37.out (by decide) (by decide) (grown_setRow _ _ _), HZ_aq37.out.row_far (g' := gq30) (by omega), below_setRow HB_aq37.out (show w.heap.size ≤ gq30 by omega) _⟩
      case rest =>
       obtain ⟨gM, gF, lA, lc, base, rfl, hm, hf, hl, hz, hb⟩ := hcut
       have HMa := Lib.hid hm
       have HFa := Lib.hid hf
       have HLa := Lib.hid hl
       have HZa := Lib.hid hz
       have HBW := Lib.hid hb
       have HFV : Hid (∀ wx, Blk wx gF 74 #[.int .i64 k, .int .i64 en, .slice lA L lc, .slice none 0 0] → RowE w base wx (.slice lA L lc) args L → Below w.heap.size w wx → FramesV wx (.slice (some ⟨gF, 0, none⟩) 1 1) [⟨k, en, args, []⟩]) := Lib.hid (fun wx h1 h2 h3 => framesV_one h1 (h2.vals h3 (by have := HLL.out; omega)) (RowsV.nil none 0))
       have hal : args.length ≤ 32 := by obtain ⟨_, _, _, h3, _⟩ := hl; have := HLL.out; omega
       obtain ⟨N, hN⟩ : ∃ N : Int, (memN [(⟨k, en, args, []⟩ : FrameD)] : Int) = N := ⟨_, rfl⟩
       have hme := rmeasured_any ⟨1, 0, [], [⟨k, en, args, []⟩], [], ls, lm, 0, 0⟩ _ wc 1 0 ls lm 0 0 none (some ⟨gF, 0, none⟩) none 0 0 1 1 0 0 rfl ⟨_, _, _, rfl, RowsV.nil none 0, HFV.out wc hf hl hb, RowsV.nil none 0⟩ ⟨by simp, fun f' hf' => by
        have : f' = ⟨k, en, args, []⟩ := by simpa using hf'
        subst this
        exact ⟨by dsimp only; omega, by simp⟩⟩
       dsimp only at hme
       rw [hN] at hme
       have HMQ : Hid (M = if lm < N then failF ⟨1, 0, [], [⟨k, en, args, []⟩], [], ls, lm, 0, max 0 N⟩ 16 else ⟨1, 0, [], [⟨k, en, args, []⟩], [], ls, lm, 0, max 0 N⟩) := Lib.hid (by rw [← HMM.out, ← hN]; rfl)
       obtain ⟨q, hq⟩ : ∃ q, max 0 N = q := ⟨_, rfl⟩
       rw [hq] at hme HMQ
       have HMEAS := Lib.hid hme
       clear hme hm hf hl hz hb hN hq hal
       by_cases hlt : lm < N
       ·have HMQ2 := Lib.hid (HMQ.out.trans (if_pos hlt))
        have HCA : Hid (Calls Tryz.prog 32 #[.agg #[.int .i64 1, .int .i64 0, .slice none 0 0, .slice (some ⟨gF, 0, none⟩) 1 1, .slice none 0 0, .int .i64 ls, .int .i64 lm, .int .i64 0, .int .i64 0]] wc fun r w' => r = .returned (.agg #[.int .i64 4, .int .i64 16, .slice none 0 0, .slice none 0 0, .slice none 0 0, .int .i64 ls, .int .i64 lm, .int .i64 0, .int .i64 q]) ∧ Below wc.heap.size wc w') := Lib.hid (by have := HMEAS.out; rw [if_pos hlt] at this; exact this)
        clear HMQ HMEAS
        have m1 := blk9 HMa.out
        go_wp2_with (first
         | (go_at_call 32; (with_reducible refine HCA.out.mono ?_); rintro e5 W5 ⟨rfl, hb5⟩; have HZ5 := Lib.hid (HZa.out.below hb5); have HF5 := Lib.hid (HFa.out.below hb5); have HL5 := Lib.hid (HLa.out.below hb5); have HB5 := Lib.hid (below_call' hb5 HBW.out HBW.out.size); clear hb5)
         | (refine wpList_store_row rfl 37 (.tmp 6) (.tmp 68) rfl (w.heap.size + 1 + 1) #[.int .i64 4, .int .i64 16, .slice none 0 0, .slice none 0 0, .slice none 0 0, .int .i64 ls, .int .i64 lm, .int .i64 0, .int .i64 q] rfl rfl 37 _ HZ5.out (by kernel_rfl) rfl (by simp [Value.oneCell']) ?_))
        have HZ8 := Lib.hid (HZ5.out.setRow (cs' := #[.int .i64 4, .int .i64 16, .slice none 0 0, .slice none 0 0, .slice none 0 0, .int .i64 ls, .int .i64 lm, .int .i64 0, .int .i64 q]))
        have hb8 := below_setRow HB5.out (show w.heap.size ≤ w.heap.size + 1 + 1 by omega) #[.int .i64 4, .int .i64 16, .slice none 0 0, .slice none 0 0, .slice none 0 0, .int .i64 ls, .int .i64 lm, .int .i64 0, .int .i64 q]
        have gz := blk9 HZ8.out
        refine bodyPost_ret (v := .tuple #[.agg #[.int .i64 4, .int .i64 16, .slice none 0 0, .slice none 0 0, .slice none 0 0, .int .i64 ls, .int .i64 lm, .int .i64 0, .int .i64 q], .int .i64 0]) (by simp [results, Tryz.results11, go_sem, gz]) rfl ?_
        rw [← HP.out]
        refine ⟨_, (r1, 0), k, by rw [HO5.out], HCR.out, HFP.out, ?_, hb8⟩
        rw [HO5.out]
        dsimp only
        rw [HMQ2.out]
        exact ⟨_, _, _, rfl, RowsV.nil none 0, RowsV.nil none 0, RowsV.nil none 0⟩
       ·have HMQ2 := Lib.hid (HMQ.out.trans (if_neg hlt))
        have HCA : Hid (Calls Tryz.prog 32 #[.agg #[.int .i64 1, .int .i64 0, .slice none 0 0, .slice (some ⟨gF, 0, none⟩) 1 1, .slice none 0 0, .int .i64 ls, .int .i64 lm, .int .i64 0, .int .i64 0]] wc fun r w' => r = .returned (.agg #[.int .i64 1, .int .i64 0, .slice none 0 0, .slice (some ⟨gF, 0, none⟩) 1 1, .slice none 0 0, .int .i64 ls, .int .i64 lm, .int .i64 0, .int .i64 q]) ∧ Below wc.heap.size wc w') := Lib.hid (by have := HMEAS.out; rw [if_neg hlt] at this; exact this)
        clear HMQ HMEAS
        have m1 := blk9 HMa.out
        go_wp2_with (first
         | (go_at_call 32; (with_reducible refine HCA.out.mono ?_); rintro e5 W5 ⟨rfl, hb5⟩; have HZ5 := Lib.hid (HZa.out.below hb5); have HF5 := Lib.hid (HFa.out.below hb5); have HL5 := Lib.hid (HLa.out.below hb5); have HB5 := Lib.hid (below_call' hb5 HBW.out HBW.out.size); clear hb5)
         | (refine wpList_store_row rfl 37 (.tmp 6) (.tmp 68) rfl (w.heap.size + 1 + 1) #[.int .i64 1, .int .i64 0, .slice none 0 0, .slice (some ⟨gF, 0, none⟩) 1 1, .slice none 0 0, .int .i64 ls, .int .i64 lm, .int .i64 0, .int .i64 q] rfl rfl 37 _ HZ5.out (by kernel_rfl) rfl (by simp [Value.oneCell']) ?_))
        have HZ8 := Lib.hid (HZ5.out.setRow (cs' := #[.int .i64 1, .int .i64 0, .slice none 0 0, .slice (some ⟨gF, 0, none⟩) 1 1, .slice none 0 0, .int .i64 ls, .int .i64 lm, .int .i64 0, .int .i64 q]))
        have hb8 := below_setRow HB5.out (show w.heap.size ≤ w.heap.size + 1 + 1 by omega) #[.int .i64 1, .int .i64 0, .slice none 0 0, .slice (some ⟨gF, 0, none⟩) 1 1, .slice none 0 0, .int .i64 ls, .int .i64 lm, .int .i64 0, .int .i64 q]
        have gz := blk9 HZ8.out
        refine bodyPost_ret (v := .tuple #[.agg #[.int .i64 1, .int .i64 0, .slice none 0 0, .slice (some ⟨gF, 0, none⟩) 1 1, .slice none 0 0, .int .i64 ls, .int .i64 lm, .int .i64 0, .int .i64 q], .int .i64 0]) (by simp [results, Tryz.results11, go_sem, gz]) rfl ?_
        rw [← HP.out]
        refine ⟨_, (r1, 0), k, by rw [HO5.out], HCR.out, HFP.out, ?_, hb8⟩
        rw [HO5.out]
        dsimp only
        rw [HMQ2.out]
        exact ⟨_, _, _, rfl, RowsV.nil none 0, HFV.out _ (HF5.out.row_far (fun e => blk_ne HF5.out HZ5.out (by decide) e)) (HL5.out.turn HZ5.out (by decide) (by decide) (grown_setRow _ _ _)) hb8, RowsV.nil none 0⟩
     ·have hor : ls < 1 ∨ (1 ≤ ls ∧ 20000 < ls) ∨ (1 ≤ ls ∧ ls ≤ 20000 ∧ lm < 1) ∨ (1 ≤ ls ∧ ls ≤ 20000 ∧ 1 ≤ lm ∧ 4000 < lm) := by unfold LimOk at hlim; omega
      obtain ⟨r2, hr2⟩ : ∃ r2 : Int, r2 = 0 := ⟨0, rfl⟩
      obtain ⟨rr, hrr⟩ : ∃ rr : Int, rr = (k : Int) := ⟨_, rfl⟩
      rw [← hr2] at HCR
      rw [← hrr] at HFP
      have HRR : Hid (startO C.c l ls lm (r1, r2) rr = (zeroM, 2)) := Lib.hid (by rw [hr2, hrr, HO3.out, if_pos hlim])
      clear hlim hr2 hrr
      rcases hor with h1 | ⟨h1, h2⟩ | ⟨h1, h2, h3⟩ | ⟨h1, h2, h3, h4⟩
      all_goals
       skip
       have HZe := Lib.hid (HZ3.out.setRow (cs' := #[.int .i64 0, .int .i64 0, .slice none 0 0, .slice none 0 0, .slice none 0 0, .int .i64 0, .int .i64 0, .int .i64 0, .int .i64 0]))
       have HBe := Lib.hid (below_setRow HB3.out (show w.heap.size ≤ w.heap.size + 1 + 1 by omega) #[.int .i64 0, .int .i64 0, .slice none 0 0, .slice none 0 0, .slice none 0 0, .int .i64 0, .int .i64 0, .int .i64 0, .int .i64 0])
       go_wp2_with (first
        | (refine wpList_store_row rfl 37 (.tmp 6) (.tmp 58) rfl (w.heap.size + 1 + 1) #[.int .i64 0, .int .i64 0, .slice none 0 0, .slice none 0 0, .slice none 0 0, .int .i64 0, .int .i64 0, .int .i64 0, .int .i64 0] rfl rfl 37 _ HZ3.out (by kernel_rfl) rfl (by simp [Value.oneCell']) ?_))
       have gz := blk9 HZe.out
       refine bodyPost_ret (v := .tuple #[.agg #[.int .i64 0, .int .i64 0, .slice none 0 0, .slice none 0 0, .slice none 0 0, .int .i64 0, .int .i64 0, .int .i64 0, .int .i64 0], .int .i64 2]) (by simp [results, Tryz.results11, go_sem, gz]) rfl ?_
       rw [← HP.out]
       exact ⟨_, (r1, r2), rr, by rw [HRR.out], HCR.out, HFP.out, by rw [HRR.out]; exact machV_zero _, HBe.out⟩
    ·obtain ⟨r2, hr2⟩ : ∃ r2 : Int, r2 = 0 := ⟨0, rfl⟩
     obtain ⟨rr, hrr⟩ : ∃ rr : Int, rr = (k : Int) := ⟨_, rfl⟩
     rw [← hr2] at HCR
     rw [← hrr] at HFP
     have hcb : (ck != 0) = true := by simpa using hck
     have HRR : Hid (startO C.c l ls lm (r1, r2) rr = (zeroM, ck)) := Lib.hid (by rw [hr2, hrr, HO2.out, if_neg (by simp [HFPP.out]), if_pos (by rw [HCK.out]; exact hck), HCK.out])
     clear hck hr2 hrr
     skip
     have HZe := Lib.hid (HZ3.out.setRow (cs' := #[.int .i64 0, .int .i64 0, .slice none 0 0, .slice none 0 0, .slice none 0 0, .int .i64 0, .int .i64 0, .int .i64 0, .int .i64 0]))
     have HBe := Lib.hid (below_setRow HB3.out (show w.heap.size ≤ w.heap.size + 1 + 1 by omega) #[.int .i64 0, .int .i64 0, .slice none 0 0, .slice none 0 0, .slice none 0 0, .int .i64 0, .int .i64 0, .int .i64 0, .int .i64 0])
     go_wp2_with (first
      | (refine wpList_store_row rfl 37 (.tmp 6) (.tmp 38) rfl (w.heap.size + 1 + 1) #[.int .i64 0, .int .i64 0, .slice none 0 0, .slice none 0 0, .slice none 0 0, .int .i64 0, .int .i64 0, .int .i64 0, .int .i64 0] rfl rfl 37 _ HZ3.out (by kernel_rfl) rfl (by simp [Value.oneCell']) ?_))
     have gz := blk9 HZe.out
     refine bodyPost_ret (v := .tuple #[.agg #[.int .i64 0, .int .i64 0, .slice none 0 0, .slice none 0 0, .slice none 0 0, .int .i64 0, .int .i64 0, .int .i64 0, .int .i64 0], .int .i64 ck]) (by simp [results, Tryz.results11, go_sem, gz]) rfl ?_
     rw [← HP.out]
     exact ⟨_, (r1, r2), rr, by rw [HRR.out], HCR.out, HFP.out, by rw [HRR.out]; exact machV_zero _, HBe.out⟩
   ·obtain ⟨r2, hr2⟩ : ∃ r2 : Int, r2 = 0 := ⟨0, rfl⟩
    obtain ⟨rr, hrr⟩ : ∃ rr : Int, rr = (k : Int) := ⟨_, rfl⟩
    rw [← hr2] at HCR
    rw [← hrr] at HFP
    have hcb : (fp != 1) = true := by simpa using hp1
    have HRR : Hid (startO C.c l ls lm (r1, r2) rr = (zeroM, 7)) := Lib.hid (by rw [hr2, hrr, HO2.out, if_pos (by rw [HFPP.out]; exact hp1)])
    clear hp1 hr2 hrr
    skip
    have HZe := Lib.hid (HZ2.out.setRow (cs' := #[.int .i64 0, .int .i64 0, .slice none 0 0, .slice none 0 0, .slice none 0 0, .int .i64 0, .int .i64 0, .int .i64 0, .int .i64 0]))
    have HBe := Lib.hid (below_setRow HB2.out (show w.heap.size ≤ w.heap.size + 1 + 1 by omega) #[.int .i64 0, .int .i64 0, .slice none 0 0, .slice none 0 0, .slice none 0 0, .int .i64 0, .int .i64 0, .int .i64 0, .int .i64 0])
    go_wp2_with (first
     | (refine wpList_store_row rfl 37 (.tmp 6) (.tmp 33) rfl (w.heap.size + 1 + 1) #[.int .i64 0, .int .i64 0, .slice none 0 0, .slice none 0 0, .slice none 0 0, .int .i64 0, .int .i64 0, .int .i64 0, .int .i64 0] rfl rfl 37 _ HZ2.out (by kernel_rfl) rfl (by simp [Value.oneCell']) ?_))
    have gz := blk9 HZe.out
    refine bodyPost_ret (v := .tuple #[.agg #[.int .i64 0, .int .i64 0, .slice none 0 0, .slice none 0 0, .slice none 0 0, .int .i64 0, .int .i64 0, .int .i64 0, .int .i64 0], .int .i64 7]) (by simp [results, Tryz.results11, go_sem, gz]) rfl ?_
    rw [← HP.out]
    exact ⟨_, (r1, r2), rr, by rw [HRR.out], HCR.out, HFP.out, by rw [HRR.out]; exact machV_zero _, HBe.out⟩
 ·obtain ⟨rr, hfp⟩ := FindP.ex C.c.fns sMain
  have HFP := Lib.hid hfp
  have hrb : (r2 != 0) = true := by simpa using hr2
  have HRZ := Lib.hid hr2
  clear hfp hr2
  have HRR : Hid (startO C.c l ls lm (r1, r2) rr = (zeroM, r2)) := Lib.hid (by unfold startO; rw [if_pos HRZ.out])
  have HZe := Lib.hid (HZ1.out.setRow (cs' := #[.int .i64 0, .int .i64 0, .slice none 0 0, .slice none 0 0, .slice none 0 0, .int .i64 0, .int .i64 0, .int .i64 0, .int .i64 0]))
  have HBe := Lib.hid (below_setRow HB1.out (show w.heap.size ≤ w.heap.size + 1 + 1 by omega) #[.int .i64 0, .int .i64 0, .slice none 0 0, .slice none 0 0, .slice none 0 0, .int .i64 0, .int .i64 0, .int .i64 0, .int .i64 0])
  go_wp2_with (first
   | (refine wpList_store_row rfl 37 (.tmp 6) (.tmp 19) rfl (w.heap.size + 1 + 1) #[.int .i64 0, .int .i64 0, .slice none 0 0, .slice none 0 0, .slice none 0 0, .int .i64 0, .int .i64 0, .int .i64 0, .int .i64 0] rfl rfl 37 _ HZ1.out (by kernel_rfl) rfl (by simp [Value.oneCell']) ?_))
  have gz := blk9 HZe.out
  refine bodyPost_ret (v := .tuple #[.agg #[.int .i64 0, .int .i64 0, .slice none 0 0, .slice none 0 0, .slice none 0 0, .int .i64 0, .int .i64 0, .int .i64 0, .int .i64 0], .int .i64 r2]) (by simp [results, Tryz.results11, go_sem, gz]) rfl ?_
  rw [← HP.out]
  exact ⟨_, (r1, r2), rr, by rw [HRR.out], HCR.out, HFP.out, by rw [HRR.out]; exact machV_zero _, HBe.out⟩
end Go.Proofs.YtmljohbialacfaaGreatDoor
