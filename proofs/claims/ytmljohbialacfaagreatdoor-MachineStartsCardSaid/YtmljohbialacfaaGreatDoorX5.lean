/- The machine: Start, the program's. -/
import Derived.Test.YtmljohbialacfaaGreatDoorGQ9
set_option linter.unusedVariables false
set_option linter.unusedSimpArgs false
namespace Go.Proofs.YtmljohbialacfaaGreatDoor
open Go.RowKit
set_option maxRecDepth 100000
theorem machV_zero (w : World) : MachV w (.agg #[.int .i64 0, .int .i64 0, .slice none 0 0, .slice none 0 0, .slice none 0 0, .int .i64 0, .int .i64 0, .int .i64 0, .int .i64 0]) zeroM :=
 ⟨_, _, _, rfl, RowsV.nil none 0, RowsV.nil none 0, RowsV.nil none 0⟩
theorem OVal.shape3 {w : World} {base : Nat} {v : Value} {l : ValD} (h : OVal w base v l) : ∃ A n k, v = .slice A n k := by
 obtain ⟨A, k, e⟩ := own_shape (show w.ownsRow base 62 4 v l.length _ from h)
 exact ⟨A, _, k, e⟩
theorem own_fresh {g n k : Nat} {l : List Nat} (h : g ∉ l) : ∀ g', (Value.slice (some ⟨g, 0, none⟩) n k).ownBlock = some g' → g' ∉ l := by
 intro g' e
 have : g = g' := by simpa [Value.ownBlock] using e
 exact this ▸ h
theorem small_enter {m : MachD} {k : Int} {f : FnD} {args : List ValD} (hlo : 0 ≤ f.locals ∧ f.locals ≤ 32) (hm : m.frames = []) (hr : m.requests = []) (ha : args.length ≤ 100 := by simp) : SmallM (enterF m k f args) := by
 refine ⟨⟨by simp [enterF, hm], fun f' hf => ?_⟩, by simp [enterF, hr], fun r hr' => by simp [enterF, hr] at hr'⟩
 have : f' = ⟨k, f.entry, args ++ List.replicate (f.locals.toNat - args.length) [nulC], []⟩ := by simpa [enterF, hm] using hf
 subst this
 exact ⟨by simp; omega, by simp⟩
theorem SmallM.count {m : MachD} (h : SmallM m) : SmallM (countF m) := by
 unfold countF
 split
 ·split
  ·exact ⟨⟨by simp [failF], fun f hf => by simp [failF] at hf⟩, h.2⟩
  ·exact h
 ·exact h
theorem insF_ne {c : CodeD} {f : FnD} : ∀ (n k : Nat) (R : Int × Int), insF c f n k = some R → R.2 ≠ 0
 | 0, k, R, h => by cases h
 | n + 1, k, R, h => by
  unfold insF at h
  split at h
  ·cases h
  ·split at h
   ·injection h with h; subst h; simp
   split at h
   ·injection h with h; subst h; simp
   ·exact insF_ne n (k + 1) R h
theorem insAll_ne {c : CodeD} : ∀ (l : List FnD) (R : Int × Int), insAll c l = some R → R.2 ≠ 0
 | [], R, h => by cases h
 | f :: r, R, h => by
  unfold insAll at h
  split at h
  ·rename_i h'
   injection h with h
   subst h
   exact insF_ne _ _ _ h'
  ·exact insAll_ne r R h
theorem CodeR.okk {c : CodeD} {R : Int × Int} (h : CodeR c R) (h0 : R.2 = 0) : ¬ Big c ∧ (fnsF c c.fns 0 0).2 = 0 ∧ insAll c c.fns = none ∧ ∃ d', AllR c c.fns (List.replicate c.ins.length (-1)) (-1, d') := by
 cases h with
 | big => simp at h0
 | fn _ _ _ h2 => exact absurd h0 h2
 | ins _ _ _ h2 => exact absurd h0 (insAll_ne _ _ h2)
 | stack => simp at h0
 | ok d' h1 h2 h3 h4 => exact ⟨h1, h2, h3, d', h4⟩
theorem CodeR.small {c : CodeD} {R : Int × Int} (h : CodeR c R) (h0 : R.2 = 0) : ∀ f ∈ c.fns, FnSmall f := by
 obtain ⟨h1, h2, _⟩ := h.okk h0
 exact fun f hf => (fns_all (by unfold Big at h1; omega) h2 f hf).1
theorem XM.fshape {w0 w : World} {C : CodeS} {gE : Nat} {m : MachD} {vv fv qv : Value} {LS : List (Value × Value)} {avs : List Value} (h : XM w0 C gE w m vv fv qv LS avs) : ∃ A n k, fv = .slice A n k := by
 obtain ⟨A, k, e⟩ := own_shape h.frow
 exact ⟨A, _, k, e⟩

attribute [local go_sem] cell_alloc_is
set_option maxHeartbeats 16000000 in
theorem cstart_any (C : CodeS) (v : Value) (l : ValD) (ls lm : Int) (w : World) (hC : CodeV w C) (hl : C.c.fns.length ≤ 40) (hL : C.c.ins.length ≤ 4100) (hn : ∀ f ∈ C.c.fns, f.name.size ≤ 1000) (hok : ∀ i ∈ C.c.ins, InsOk i) (hv : Sent w) (hp : Pow w) (hS : Shaped w) (hV : ValV w v l) (hvl : l.length ≤ 1000000) (hvo : ∀ c ∈ l, okC c) :
  Calls Tryz.prog 10 #[.agg #[.slice C.A C.c.fns.length C.ncap, .slice C.B C.c.ins.length C.icap], v, .agg #[.int .i64 ls, .int .i64 lm]] w fun e w' => ∃ x R r, e = .returned (.tuple #[x, .int .i64 (startO C.c l ls lm R r).2]) ∧ CodeR C.c R ∧ FindP C.c.fns sMain r ∧ MachV w' x (startO C.c l ls lm R r).1 ∧ Below w.heap.size w w' := by
 obtain ⟨P, hP⟩ : ∃ P : Ending → World → Prop, (fun e w' => ∃ x R r, e = .returned (.tuple #[x, .int .i64 (startO C.c l ls lm R r).2]) ∧ CodeR C.c R ∧ FindP C.c.fns sMain r ∧ MachV w' x (startO C.c l ls lm R r).1 ∧ Below w.heap.size w w') = P := ⟨_, rfl⟩
 rw [hP]
 have HP := Lib.hid hP
 obtain ⟨vA, vcap, rfl, hvc, hvm, hvs⟩ := hV.at
 have HCC : Hid (∀ wx, Below w.heap.size w wx → Calls Tryz.prog 22 #[.agg #[.slice C.A C.c.fns.length C.ncap, .slice C.B C.c.ins.length C.icap]] wx fun e w' => ∃ R, e = .returned (.tuple #[.int .i64 R.1, .int .i64 R.2]) ∧ CodeR C.c R ∧ Below wx.heap.size wx w') := Lib.hid (fun wx hb => ccheck_any C.c C.A C.B C.ncap C.icap wx hl hL hn hok (hv.below hb) (hp.below hb) (hS.below hb) (hC.fns.below hb) (hC.ins.below hb))
 have HCF : Hid (∀ wx, Below w.heap.size w wx → Calls Tryz.prog 23 #[.agg #[.slice C.A C.c.fns.length C.ncap, .slice C.B C.c.ins.length C.icap], .string ⟨#[109, 97, 105, 110]⟩] wx fun e w' => (∃ r, e = .returned (.int .i64 r) ∧ FindP C.c.fns sMain r) ∧ Below wx.heap.size wx w') := Lib.hid (fun wx hb => cfind_any C.c.fns C.A C.B C.ncap C.c.ins.length C.icap sMain wx hl (hC.fns.below hb))
 obtain ⟨n, hln⟩ : ∃ n, l.length = n := ⟨_, rfl⟩
 have HCV : Hid (∀ wx, Below w.heap.size w wx → Calls Tryz.prog 24 #[.slice vA n vcap] wx fun e w' => e = .returned (.int .i64 (checkF l)) ∧ Below wx.heap.size wx w') := Lib.hid (fun wx hb => by rw [← hln]; exact vcheck_any l vA vcap wx (hvs.below hb) (hp.below hb) hvl hvc hvo)
 have HVV : Hid (∀ wx, Below w.heap.size w wx → ValV wx (.slice vA n vcap) l) := Lib.hid (fun wx hb => by rw [← hln]; exact hV.below hb)
 rw [hln]
 have HLN := Lib.hid hln
 have HCO := Lib.hid hC
 have HFL := Lib.hid hl
 have HIL := Lib.hid hL
 have HVL := Lib.hid hvl
 obtain ⟨cn, hcn⟩ : ∃ n, C.c.ins.length = n := ⟨_, rfl⟩
 obtain ⟨ck, hck⟩ : ∃ n, checkF l = n := ⟨_, rfl⟩
 rw [hcn] at HCC HCF ⊢
 rw [hck] at HCV
 have HCN := Lib.hid hcn
 have HCK := Lib.hid hck
 have HB0 := Lib.hid (below_3 w (.cells #[.slice C.A C.c.fns.length C.ncap, .slice C.B cn C.icap] 25) (.cells #[.int .i64 ls, .int .i64 lm] 28) (.cells #[.int .i64 0, .int .i64 0, .slice none 0 0, .slice none 0 0, .slice none 0 0, .int .i64 0, .int .i64 0, .int .i64 0, .int .i64 0] 37))
 have HX0 := Lib.hid ((((Blk.new w 25 #[.slice C.A C.c.fns.length C.ncap, .slice C.B cn C.icap]).alloc (.cells #[.int .i64 ls, .int .i64 lm] 28)).alloc (.cells #[.int .i64 0, .int .i64 0, .slice none 0 0, .slice none 0 0, .slice none 0 0, .int .i64 0, .int .i64 0, .int .i64 0, .int .i64 0] 37)))
 have HY0 := Lib.hid ((Blk.second w (.cells #[.slice C.A C.c.fns.length C.ncap, .slice C.B cn C.icap] 25) 28 #[.int .i64 ls, .int .i64 lm]).alloc (.cells #[.int .i64 0, .int .i64 0, .slice none 0 0, .slice none 0 0, .slice none 0 0, .int .i64 0, .int .i64 0, .int .i64 0, .int .i64 0] 37))
 have HZ0 := Lib.hid (Blk.third w (.cells #[.slice C.A C.c.fns.length C.ncap, .slice C.B cn C.icap] 25) (.cells #[.int .i64 ls, .int .i64 lm] 28) 37 #[.int .i64 0, .int .i64 0, .slice none 0 0, .slice none 0 0, .slice none 0 0, .int .i64 0, .int .i64 0, .int .i64 0, .int .i64 0])
 clear hC hn hok hv hp hS hV hvs hvo hvc hvm hln hcn hck hP hl hL hvl
 go_enter Tryz.func10, Tryz.ntmps10
 go_upto_region 2 with (first
  | (go_at_call 22; (with_reducible refine (HCC.out _ HB0.out).mono ?_); rintro e W1 ⟨R, rfl, hcr, hb1⟩; have HCR := Lib.hid hcr; have HX1 := Lib.hid (HX0.out.below hb1); have HY1 := Lib.hid (HY0.out.below hb1); have HZ1 := Lib.hid (HZ0.out.below hb1); have HB1 := Lib.hid (below_call hb1 HB0.out); have x1 := blk2 HX1.out; clear hb1 hcr))
 obtain ⟨r1, r2⟩ := R
 by_cases hr2 : r2 = 0
 ·subst hr2
  go_upto_region 5 with (first
   | (go_at_call 23; (with_reducible refine (HCF.out _ HB1.out).mono ?_); rintro e W2 ⟨⟨rr, rfl, hfp⟩, hb2⟩; have HFP := Lib.hid hfp; have HX2 := Lib.hid (HX1.out.below hb2); have HY2 := Lib.hid (HY1.out.below hb2); have HZ2 := Lib.hid (HZ1.out.below hb2); have HB2 := Lib.hid (below_call hb2 HB1.out); have x2 := blk2 HX2.out; clear hb2 hfp x1))
  by_cases hr0 : rr < 0
  ·obtain ⟨r2, hr2⟩ : ∃ r2 : Int, r2 = 0 := ⟨0, rfl⟩
   rw [← hr2] at HCR
   have HR2 := Lib.hid hr2
   clear hr2
   have HRR : Hid (startO C.c l ls lm (r1, r2) rr = (zeroM, 5)) := Lib.hid (by unfold startO; rw [if_neg (by simp [HR2.out]), if_pos hr0])
   have HZe := Lib.hid (HZ2.out.setRow (cs' := #[.int .i64 0, .int .i64 0, .slice none 0 0, .slice none 0 0, .slice none 0 0, .int .i64 0, .int .i64 0, .int .i64 0, .int .i64 0]))
   have HBe := Lib.hid (below_setRow HB2.out (show w.heap.size ≤ w.heap.size + 1 + 1 by omega) #[.int .i64 0, .int .i64 0, .slice none 0 0, .slice none 0 0, .slice none 0 0, .int .i64 0, .int .i64 0, .int .i64 0, .int .i64 0])
   go_wp2_with (first
    | (refine wpList_store_row rfl 37 (.tmp 6) (.tmp 27) rfl (w.heap.size + 1 + 1) #[.int .i64 0, .int .i64 0, .slice none 0 0, .slice none 0 0, .slice none 0 0, .int .i64 0, .int .i64 0, .int .i64 0, .int .i64 0] rfl rfl 37 _ HZ2.out (by kernel_rfl) rfl (by simp [Value.oneCell']) ?_))
   have gz := blk9 HZe.out
   refine bodyPost_ret (v := .tuple #[.agg #[.int .i64 0, .int .i64 0, .slice none 0 0, .slice none 0 0, .slice none 0 0, .int .i64 0, .int .i64 0, .int .i64 0, .int .i64 0], .int .i64 5]) (by simp [results, Tryz.results10, go_sem, gz]) rfl ?_
   rw [← HP.out]
   exact ⟨_, (r1, r2), rr, by rw [HRR.out], HCR.out, HFP.out, by rw [HRR.out]; exact machV_zero _, HBe.out⟩
  ·have HFC : Hid (∃ k : Nat, ∃ h : k < C.c.fns.length, rr = k ∧ C.c.fns[k].name = sMain) := Lib.hid (by
    rcases HFP.out with ⟨h, _⟩ | ⟨k, hk, h, h1, _⟩
    ·omega
    ·exact ⟨k, hk, h, h1⟩)
   obtain ⟨k, hkl, hrk, hnm⟩ := HFC.out
   clear hnm HFC
   subst hrk
   obtain ⟨f, hf⟩ : ∃ f, C.c.fns[k] = f := ⟨_, rfl⟩
   have hkl' : (k : Int) < (C.c.fns.length : Int) := by omega
   have hk0 : (0 : Int) ≤ (k : Int) := by omega
   have hk9 : (k : Int) ≤ 40 := by have := HFL.out; omega
   have hsa := HCO.out.fns.below HB2.out
   obtain ⟨bF, oF, hAe, _⟩ := hsa.ptr hkl
   rw [hAe] at hsa x2
   have c1 := hsa.cell hkl (j := 1) (v := .int .i64 f.params) (by rw [hf]; rfl)
   have HKF : Hid (C.c.fns[k]? = some f) := Lib.hid (by rw [List.getElem?_eq_getElem hkl, hf])
   obtain ⟨fp, hfp⟩ : ∃ p, f.params = p := ⟨_, rfl⟩
   rw [hfp] at c1
   have HFPP := Lib.hid hfp
   have HO2 : Hid (∀ ev a b, startO C.c ev a b (r1, 0) (k : Int) = (if f.params ≠ 1 then (zeroM, (7 : Int)) else if checkF ev ≠ 0 then (zeroM, checkF ev) else if ¬ LimOk a b then (zeroM, 2) else (startM f k ev a b, 0))) := Lib.hid (fun ev a b => by
    unfold startO
    rw [if_neg (by simp), if_neg (by omega), Int.toNat_natCast, HKF.out])
   have HAE := Lib.hid hAe
   clear hsa hf hfp hkl hr0 hAe
   by_cases hp1 : fp = 1
   ·subst hp1
    go_upto_region 10 with (first
     | (go_at_call 24; (with_reducible refine (HCV.out _ HB2.out).mono ?_); rintro e W3 ⟨rfl, hb3⟩; have HX3 := Lib.hid (HX2.out.below hb3); have HY3 := Lib.hid (HY2.out.below hb3); have HZ3 := Lib.hid (HZ2.out.below hb3); have HB3 := Lib.hid (below_call hb3 HB2.out); have x3 := blk2 HX3.out; have y3' := blk2 HY3.out; clear hb3 x2 c1))
    by_cases hck : ck = 0
    ·have HO3 : Hid (startO C.c l ls lm (r1, 0) (k : Int) = if ¬ LimOk ls lm then (zeroM, 2) else (startM f k l ls lm, 0)) := Lib.hid (by rw [HO2.out, if_neg (by simp [HFPP.out]), if_neg (by simp [HCK.out, hck])])
     subst hck
     by_cases hlim : LimOk ls lm
     ·have HO4 := Lib.hid (HO3.out.trans (if_neg (fun h => h hlim)))
      obtain ⟨⟨l1, l2⟩, l3, l4⟩ := hlim
      have n1 : ¬ ls < 1 := by omega
      have n2 : ¬ 20000 < ls := by omega
      have n3 : ¬ lm < 1 := by omega
      have n4 : ¬ 4000 < lm := by omega
      clear l1 l2 l3 l4
      have HSF : Hid (FnSmall f) := Lib.hid (HCR.out.small rfl f (List.mem_of_getElem? HKF.out))
      obtain ⟨M, hM⟩ : ∃ M, countF (enterF ⟨1, 0, [], [], [], ls, lm, 0, 0⟩ k f [l]) = M := ⟨_, rfl⟩
      have HMM := Lib.hid hM
      have HSM : Hid (SmallM M) := Lib.hid (by rw [← hM]; exact (small_enter HSF.out.2.1 rfl rfl).count)
      have HO5 : Hid (startO C.c l ls lm (r1, 0) (k : Int) = (M, 0)) := Lib.hid (by rw [HO4.out, ← hM]; rfl)
      clear hM
      go_upto_region 15 with fail
      obtain ⟨gE, hgE⟩ : ∃ g, W3.heap.size = g := ⟨_, rfl⟩
      have HXN := Lib.hid (XM.new_ (ls := ls) (lm := lm) (Below.refl W3.heap.size W3) C)
      unfold exA at HXN
      rw [HCN.out] at HXN
      have HC3 := Lib.hid (HCO.out.below HB3.out)
      have HGE := Lib.hid hgE
      obtain ⟨W4, hW4⟩ : ∃ W4, W3.alloc (.cells #[.slice C.A C.c.fns.length C.ncap, .slice C.B cn C.icap, .int .i64 1, .int .i64 0, .slice none 0 0, .slice none 0 0, .slice none 0 0, .int .i64 ls, .int .i64 lm, .int .i64 0, .int .i64 0] 69) = W4 := ⟨_, rfl⟩
      have HB4 : Hid (Below w.heap.size w W4) := Lib.hid (by rw [← hW4]; exact HB3.out.alloc HB3.out.size _)
      dsimp only at HXN
      rw [hW4, hgE] at HXN
      rw [hW4, hgE]
      have HXM4 : Hid (XM W3 C gE W4 ⟨1, 0, [], [], [], ls, lm, 0, 0⟩ (.slice none 0 0) (.slice none 0 0) (.slice none 0 0) [] []) := HXN
      clear hgE hW4 HXN x3 y3' n1 n2 n3 n4
      go_wp2_with (first
       | (go_at_call 26; (with_reducible refine (clone_any l _ _ (HVV.out _ HB4.out)).mono ?_); rintro e W5 ⟨v5, rfl, ho5, hb5⟩; obtain ⟨A5, n5, k5, rfl⟩ := OVal.shape3 ho5; have HXM5 := Lib.hid ((HXM4.out.below hb5).below (below_new W5 (.cells #[.slice A5 n5 k5] 26))); have HVO5 := Lib.hid (valsO_one (OVal.valT ho5 (by have := HVL.out; omega)) W3.heap.size (HXM4.out.below hb5).p.bel.size); have HFR5 := Lib.hid ((HXM4.out.below hb5).fresh (Nat.le_refl W5.heap.size)); clear ho5 hb5)
       | (go_at_call 25; (refine (enter_any HXM5.out HC3.out k f HKF.out HSF.out.2.1 HFL.out _ [l] HVO5.out (by simp) (by simp) (own_fresh HFR5.out)).mono ?_); rintro e W6 ⟨rfl, fv6, LS6, h6⟩; have HXM6 := Lib.hid h6; clear h6)
       | (go_at_call 27; (refine (count_any HXM6.out (small_enter HSF.out.2.1 rfl rfl)).mono ?_); rintro e W7 ⟨rfl, vv7, fv7, LS7, h7⟩; rw [HMM.out] at h7; obtain ⟨A7, n7, k7, rfl⟩ := h7.p.val.shape; obtain ⟨B7, m7, j7, rfl⟩ := XM.fshape h7; have HXM7 := Lib.hid h7; have HZ7 := Lib.hid (HZ3.out.below h7.p.bel); have e7 := blkX h7.p.ex; clear h7)
       | (refine wpList_store_row rfl 37 (.tmp 6) (.tmp 73) rfl (w.heap.size + 1 + 1) #[.int .i64 M.status, .int .i64 M.err, .slice A7 n7 k7, .slice B7 m7 j7, .slice none 0 0, .int .i64 M.lsteps, .int .i64 M.lmem, .int .i64 M.steps, .int .i64 M.peak] rfl rfl 37 _ HZ7.out (by kernel_rfl) rfl (by simp [Value.oneCell']) ?_))
      have HX8 := Lib.hid ((HXM7.out.rebase HB3.out).turnT HZ7.out (grown_setRow W7 (w.heap.size + 1 + 1) #[.int .i64 M.status, .int .i64 M.err, .slice A7 n7 k7, .slice B7 m7 j7, .slice none 0 0, .int .i64 M.lsteps, .int .i64 M.lmem, .int .i64 M.steps, .int .i64 M.peak]) (by omega) (by decide) (by decide) (by decide) (by decide) (by decide))
      have HZ8 := Lib.hid (HZ7.out.setRow (cs' := #[.int .i64 M.status, .int .i64 M.err, .slice A7 n7 k7, .slice B7 m7 j7, .slice none 0 0, .int .i64 M.lsteps, .int .i64 M.lmem, .int .i64 M.steps, .int .i64 M.peak]))
      have gz := blk9 HZ8.out
      refine bodyPost_ret (v := .tuple #[machA M (.slice A7 n7 k7) (.slice B7 m7 j7) (.slice none 0 0), .int .i64 0]) (by unfold machA; simp [results, Tryz.results10, go_sem, gz]) rfl ?_
      rw [← HP.out]
      exact ⟨_, (r1, 0), k, by rw [HO5.out], HCR.out, HFP.out, by rw [HO5.out]; exact HX8.out.mach HSM.out, HX8.out.p.bel⟩
     ·have hor : ls < 1 ∨ (1 ≤ ls ∧ 20000 < ls) ∨ (1 ≤ ls ∧ ls ≤ 20000 ∧ lm < 1) ∨ (1 ≤ ls ∧ ls ≤ 20000 ∧ 1 ≤ lm ∧ 4000 < lm) := by unfold LimOk at hlim; omega
      obtain ⟨r2, hr2⟩ : ∃ r2 : Int, r2 = 0 := ⟨0, rfl⟩
      obtain ⟨rr, hrr⟩ : ∃ rr : Int, rr = (k : Int) := ⟨_, rfl⟩
      rw [← hr2] at HCR
      rw [← hrr] at HFP
      have HRR : Hid (startO C.c l ls lm (r1, r2) rr = (zeroM, 2)) := Lib.hid (by rw [hr2, hrr, HO3.out, if_pos hlim])
      clear hlim hr2 hrr
      rcases hor with h1 | ⟨h1, h2⟩ | ⟨h1, h2, h3⟩ | ⟨h1, h2, h3, h4⟩
      all_goals
       skip
       have HZe := Lib.hid (HZ3.out.setRow (cs' := #[.int .i64 0, .int .i64 0, .slice none 0 0, .slice none 0 0, .slice none 0 0, .int .i64 0, .int .i64 0, .int .i64 0, .int .i64 0]))
       have HBe := Lib.hid (below_setRow HB3.out (show w.heap.size ≤ w.heap.size + 1 + 1 by omega) #[.int .i64 0, .int .i64 0, .slice none 0 0, .slice none 0 0, .slice none 0 0, .int .i64 0, .int .i64 0, .int .i64 0, .int .i64 0])
       go_wp2_with (first
        | (refine wpList_store_row rfl 37 (.tmp 6) (.tmp 61) rfl (w.heap.size + 1 + 1) #[.int .i64 0, .int .i64 0, .slice none 0 0, .slice none 0 0, .slice none 0 0, .int .i64 0, .int .i64 0, .int .i64 0, .int .i64 0] rfl rfl 37 _ HZ3.out (by kernel_rfl) rfl (by simp [Value.oneCell']) ?_))
       have gz := blk9 HZe.out
       refine bodyPost_ret (v := .tuple #[.agg #[.int .i64 0, .int .i64 0, .slice none 0 0, .slice none 0 0, .slice none 0 0, .int .i64 0, .int .i64 0, .int .i64 0, .int .i64 0], .int .i64 2]) (by simp [results, Tryz.results10, go_sem, gz]) rfl ?_
       rw [← HP.out]
       exact ⟨_, (r1, r2), rr, by rw [HRR.out], HCR.out, HFP.out, by rw [HRR.out]; exact machV_zero _, HBe.out⟩
    ·obtain ⟨r2, hr2⟩ : ∃ r2 : Int, r2 = 0 := ⟨0, rfl⟩
     obtain ⟨rr, hrr⟩ : ∃ rr : Int, rr = (k : Int) := ⟨_, rfl⟩
     rw [← hr2] at HCR
     rw [← hrr] at HFP
     have hcb : (ck != 0) = true := by simpa using hck
     have HRR : Hid (startO C.c l ls lm (r1, r2) rr = (zeroM, ck)) := Lib.hid (by rw [hr2, hrr, HO2.out, if_neg (by simp [HFPP.out]), if_pos (by rw [HCK.out]; exact hck), HCK.out])
     clear hck hr2 hrr
     skip
     have HZe := Lib.hid (HZ3.out.setRow (cs' := #[.int .i64 0, .int .i64 0, .slice none 0 0, .slice none 0 0, .slice none 0 0, .int .i64 0, .int .i64 0, .int .i64 0, .int .i64 0]))
     have HBe := Lib.hid (below_setRow HB3.out (show w.heap.size ≤ w.heap.size + 1 + 1 by omega) #[.int .i64 0, .int .i64 0, .slice none 0 0, .slice none 0 0, .slice none 0 0, .int .i64 0, .int .i64 0, .int .i64 0, .int .i64 0])
     go_wp2_with (first
      | (refine wpList_store_row rfl 37 (.tmp 6) (.tmp 41) rfl (w.heap.size + 1 + 1) #[.int .i64 0, .int .i64 0, .slice none 0 0, .slice none 0 0, .slice none 0 0, .int .i64 0, .int .i64 0, .int .i64 0, .int .i64 0] rfl rfl 37 _ HZ3.out (by kernel_rfl) rfl (by simp [Value.oneCell']) ?_))
     have gz := blk9 HZe.out
     refine bodyPost_ret (v := .tuple #[.agg #[.int .i64 0, .int .i64 0, .slice none 0 0, .slice none 0 0, .slice none 0 0, .int .i64 0, .int .i64 0, .int .i64 0, .int .i64 0], .int .i64 ck]) (by simp [results, Tryz.results10, go_sem, gz]) rfl ?_
     rw [← HP.out]
     exact ⟨_, (r1, r2), rr, by rw [HRR.out], HCR.out, HFP.out, by rw [HRR.out]; exact machV_zero _, HBe.out⟩
   ·obtain ⟨r2, hr2⟩ : ∃ r2 : Int, r2 = 0 := ⟨0, rfl⟩
    obtain ⟨rr, hrr⟩ : ∃ rr : Int, rr = (k : Int) := ⟨_, rfl⟩
    rw [← hr2] at HCR
    rw [← hrr] at HFP
    have hcb : (fp != 1) = true := by simpa using hp1
    have HRR : Hid (startO C.c l ls lm (r1, r2) rr = (zeroM, 7)) := Lib.hid (by rw [hr2, hrr, HO2.out, if_pos (by rw [HFPP.out]; exact hp1)])
    clear hp1 hr2 hrr
    skip
    have HZe := Lib.hid (HZ2.out.setRow (cs' := #[.int .i64 0, .int .i64 0, .slice none 0 0, .slice none 0 0, .slice none 0 0, .int .i64 0, .int .i64 0, .int .i64 0, .int .i64 0]))
    have HBe := Lib.hid (below_setRow HB2.out (show w.heap.size ≤ w.heap.size + 1 + 1 by omega) #[.int .i64 0, .int .i64 0, .slice none 0 0, .slice none 0 0, .slice none 0 0, .int .i64 0, .int .i64 0, .int .i64 0, .int .i64 0])
    go_wp2_with (first
     | (refine wpList_store_row rfl 37 (.tmp 6) (.tmp 36) rfl (w.heap.size + 1 + 1) #[.int .i64 0, .int .i64 0, .slice none 0 0, .slice none 0 0, .slice none 0 0, .int .i64 0, .int .i64 0, .int .i64 0, .int .i64 0] rfl rfl 37 _ HZ2.out (by kernel_rfl) rfl (by simp [Value.oneCell']) ?_))
    have gz := blk9 HZe.out
    refine bodyPost_ret (v := .tuple #[.agg #[.int .i64 0, .int .i64 0, .slice none 0 0, .slice none 0 0, .slice none 0 0, .int .i64 0, .int .i64 0, .int .i64 0, .int .i64 0], .int .i64 7]) (by simp [results, Tryz.results10, go_sem, gz]) rfl ?_
    rw [← HP.out]
    exact ⟨_, (r1, r2), rr, by rw [HRR.out], HCR.out, HFP.out, by rw [HRR.out]; exact machV_zero _, HBe.out⟩
 ·obtain ⟨rr, hfp⟩ := FindP.ex C.c.fns sMain
  have HFP := Lib.hid hfp
  have hrb : (r2 != 0) = true := by simpa using hr2
  have HRZ := Lib.hid hr2
  clear hfp hr2
  have HRR : Hid (startO C.c l ls lm (r1, r2) rr = (zeroM, r2)) := Lib.hid (by unfold startO; rw [if_pos HRZ.out])
  have HZe := Lib.hid (HZ1.out.setRow (cs' := #[.int .i64 0, .int .i64 0, .slice none 0 0, .slice none 0 0, .slice none 0 0, .int .i64 0, .int .i64 0, .int .i64 0, .int .i64 0]))
  have HBe := Lib.hid (below_setRow HB1.out (show w.heap.size ≤ w.heap.size + 1 + 1 by omega) #[.int .i64 0, .int .i64 0, .slice none 0 0, .slice none 0 0, .slice none 0 0, .int .i64 0, .int .i64 0, .int .i64 0, .int .i64 0])
  go_wp2_with (first
   | (refine wpList_store_row rfl 37 (.tmp 6) (.tmp 20) rfl (w.heap.size + 1 + 1) #[.int .i64 0, .int .i64 0, .slice none 0 0, .slice none 0 0, .slice none 0 0, .int .i64 0, .int .i64 0, .int .i64 0, .int .i64 0] rfl rfl 37 _ HZ1.out (by kernel_rfl) rfl (by simp [Value.oneCell']) ?_))
  have gz := blk9 HZe.out
  refine bodyPost_ret (v := .tuple #[.agg #[.int .i64 0, .int .i64 0, .slice none 0 0, .slice none 0 0, .slice none 0 0, .int .i64 0, .int .i64 0, .int .i64 0, .int .i64 0], .int .i64 r2]) (by simp [results, Tryz.results10, go_sem, gz]) rfl ?_
  rw [← HP.out]
  exact ⟨_, (r1, r2), rr, by rw [HRR.out], HCR.out, HFP.out, by rw [HRR.out]; exact machV_zero _, HBe.out⟩
end Go.Proofs.YtmljohbialacfaaGreatDoor
