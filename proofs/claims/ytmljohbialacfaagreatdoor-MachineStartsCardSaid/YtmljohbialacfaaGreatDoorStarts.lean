/- For every code, event and limits the law MachineStarts answers true and leaves its arguments as they were, the listed package variables reading as listed (which the card ties to the program's text). No condition. -/
import Derived.Test.YtmljohbialacfaaGreatDoorS6
import Derived.Test.YtmljohbialacfaaGreatDoorOpenC
import Derived.Test.YtmljohbialacfaaGreatDoorOpenT
import Derived.ProofKit
set_option linter.unusedVariables false
set_option linter.unusedSimpArgs false
namespace Go.Proofs.YtmljohbialacfaaGreatDoor
open Go.RowKit Go.ChangeShapes Go.WideShapes Go.ChangeAt Go.Deep
set_option maxRecDepth 100000

theorem Tryz.own : ownKnob Tryz.prog.godebug = none := by kernel_rfl
theorem Tryz.laidOut : laidOutB Tryz.prog = true := by kernel_rfl
def codeArg : Value := .agg #[.slice none 0 0, .slice none 0 0]
def limArg : Value := .agg #[.int .i64 0, .int .i64 0]
theorem machineStarts_lifted (os : Os) (started : os.Started) (H : Type) (enc : TypeId × Value → H) :
  ReturnsInHanded {} Tryz.checked os 3 .any (fun w args => (Rows.machineStartsSpec.pre enc Tryz.prog Tryz.f3 Rows.machineStartsRow.domain false w args ∧ laidMetH Tryz.prog Rows.machineStartsRow.laid w) ∧ sizedMet enc Tryz.prog Tryz.f3 (OpenSpec.ofChange Rows.machineStartsSpec) false w args)
   (Rows.machineStartsSpec.post enc Tryz.prog Tryz.f3 false true false false) := by
 refine returnsInHanded_of_change_and (C := Tryz.checked) (X := fun w _ => laidMetH Tryz.prog Rows.machineStartsRow.laid w) (fun _ _ _ hh h => h.of_heap hh) Tryz.own started (by kernel_rfl) Tryz.func3
  (ChangeSpec.witness_shaped (enc := enc) (C := Tryz.checked) (os := os) (X := fun w _ => laidMetH Tryz.prog Rows.machineStartsRow.laid w) false (World.laidAll Tryz.prog os Rows.machineStartsRow.laid) #[codeArg, .slice none 0 0, limArg] 8 (World.laidAll_os _ _ _)
   (World.shaped_of_ZipB (by kernel_rfl) (by kernel_rfl)) (by kernel_rfl) (by kernel_rfl) (by kernel_rfl)
   (by rw [MakeChecks.laidMetH_plain _ _ _ (by kernel_rfl)]; exact laidMet_laidAll _ (by kernel_rfl) (by kernel_rfl))) ?_
 intro W base args ds gs before hval0 hW _ hsz0 hL _
 have hsz : (DataW.weightsEach Tryz.prog (Tryz.f3.params.toList ++ Rows.machineStartsSpec.plain.varTypes Tryz.prog) (ds ++ gs)).all (· ≤ reachBytes) = true := hsz0
 clear hsz0
 have hval : ∀ (j : Nat) t v, Tryz.f3.params[j]? = some t → args[j]? = some v → Value.okWide Tryz.prog W .any base t v := hval0
 have hW' := hW
 obtain ⟨p, q, hA0, hV, rfl, hfz, hnd⟩ := hW
 have hA : DataW.TrodAll enc Tryz.prog W 0 (fun _ => true) true Tryz.f3.params.toList args.toList ds p := hA0
 rw [Tryz.params3] at hA hval hsz
 obtain ⟨v0, vs0, d0, ds0, p0, q0, hargs, rfl, rfl, h0, r0⟩ := trodAll_cons hA
 obtain ⟨v1, vs1, d1, ds1, p1, q1, rfl, rfl, rfl, h1, r1⟩ := trodAll_cons r0
 obtain ⟨v2, vs2, d2, ds2, p2, q2, rfl, rfl, rfl, h2, r2⟩ := trodAll_cons r1
 obtain ⟨rfl, rfl, rfl⟩ := trodAll_nil r2
 obtain rfl : args = #[v0, v1, v2] := by cases args; simp_all
 obtain ⟨rfl, rfl⟩ := trodVars_none hV
 obtain ⟨c0, rfl, l0⟩ := okWide_struct Tryz.underlying25 (hval 0 25 v0 rfl rfl)
 obtain ⟨a1, len1, cap1, rfl⟩ := okWide_slice Tryz.underlying26 (hval 1 26 v1 rfl rfl)
 obtain ⟨c2, rfl, l2⟩ := okWide_struct Tryz.underlying28 (hval 2 28 v2 rfl rfl)
 rw [Tryz.cells25] at l0
 rw [Tryz.cells28] at l2
 have k0 := h0
 have k1 := h1
 have k2 := h2
 have lt0 : ∀ x ∈ p0, x.block < W.heap.size := by obtain ⟨m, hm⟩ := k0; exact DataW.trod_lt m _ _ _ hm
 have lt1 : ∀ x ∈ p1, x.block < W.heap.size := by obtain ⟨m, hm⟩ := k1; exact DataW.trod_lt m _ _ _ hm
 have lt2 : ∀ x ∈ p2, x.block < W.heap.size := by obtain ⟨m, hm⟩ := k2; exact DataW.trod_lt m _ _ _ hm
 obtain ⟨C, hce, hC⟩ : ∃ C : CodeS, c0 = #[.slice C.A C.c.fns.length C.ncap, .slice C.B C.c.ins.length C.icap] ∧ CodeV W C := by
  obtain ⟨fuel, hf⟩ := h0
  refine code_open (by simpa using l0) (fun n hn => ?_) (by simpa [Value.cells] using hf)
  exact of_decide_eq_true (List.all_eq_true.1 hsz _ (DataW.weights_mem_each (j := 0) rfl rfl n hn))
 obtain ⟨l, hv, hls⟩ : ∃ l : ValD, ValV W (.slice a1 len1 cap1) l ∧ ∀ c ∈ l, c.str.size ≤ Rb ∧ IntsOk c := by
  obtain ⟨fuel, hf⟩ := h1
  obtain ⟨v, l, e, hv, hl⟩ := val_openI (fun n hn => of_decide_eq_true (List.all_eq_true.1 hsz _ (DataW.weights_mem_each (j := 1) rfl rfl n hn))) hf
  have e' : v = .slice a1 len1 cap1 := by simpa [Value.cells] using e.symm
  exact ⟨l, e' ▸ hv, hl⟩
 obtain ⟨ls, lm, hle⟩ : ∃ a b : Int, c2 = #[.int .i64 a, .int .i64 b] := by
  obtain ⟨fuel, hf⟩ := h2
  exact limits_open (by simpa using l2) (by simpa [Value.cells] using hf)
 subst hce hle
 clear hA0 hval0
 obtain ⟨hS, hp, hsn⟩ := laid3_of hL
 refine (starts_any C _ l ls lm W hC hsn hp hS hv (fun c hc => (hls c hc).1) (fun c hc => (hls c hc).2)).mono fun e W' ⟨he, bel⟩ => ?_
 subst he
 exact ⟨_, rfl, _, _, _, [], _, [], hW', trodAll_mk1 (shut_bool Tryz.underlying4 _), (trodAll_cons_mk (Below.trod Tryz.laidOut (by kernel_rfl) (of_decide_eq_true (by kernel_rfl)) k0 bel lt0) (trodAll_cons_mk (Below.trod Tryz.laidOut (by kernel_rfl) (of_decide_eq_true (by kernel_rfl)) k1 bel lt1) (trodAll_cons_mk (Below.trod Tryz.laidOut (by kernel_rfl) (of_decide_eq_true (by kernel_rfl)) k2 bel lt2) trodAll_mk0))), rfl, bel.frame _, fun h => by cases h⟩

theorem machineStarts_said : Rows.MachineStartsSaid :=
 OpenClaim.holds_of_wide 3 Tryz.f3 rfl rfl rfl rfl rfl rfl rfl ⟨rfl, rfl, rfl, rfl, rfl⟩ rfl rfl rfl rfl rfl (by kernel_rfl) Tryz.func3 (by kernel_rfl)
  (of_decide_eq_true (by kernel_rfl)) (by unfold Func.isWrapper; first | (rw [if_pos (by decide +kernel)]; kernel_rfl) | (rw [if_neg (by decide +kernel)]; exact ⟨rfl, rfl⟩))
  (fun os started H enc _ => machineStarts_lifted os started H enc)

theorem machineStarts_holds : Rows.MachineStartsCardSaid :=
 Claim7.holds_tied_plain_at .later [] [.data, .data, .data, .sentinel, .sentinel, .data] true (true, "6cfeae2233857f4628bf4ffbc1ab0704c52691b4ad452ab4cad443f9cca732e9") true
  machineStarts_said (fun _ h => by cases h) (by kernel_rfl) (fun _ h => by cases h) machineStarts_row_tie rfl ⟨rfl, rfl⟩ (by kernel_rfl) rfl
  (fun f fn hf hfn => by
   obtain rfl : f = 3 := Option.some.inj ((show Tryz.prog.funcNamed "faas/faaslaw13.MachineStarts" = some 3 by kernel_rfl).symm.trans hf) |>.symm
   obtain rfl : fn = Tryz.f3 := (Option.some.inj (Tryz.func3.symm.trans hfn)).symm
   exact ⟨by kernel_rfl, fun j t ht => by
    rw [Tryz.params3] at ht
    have hm : t ∈ [25, 26, 28] := by simpa using Array.mem_of_getElem? ht
    have hall : ([25, 26, 28].all fun u => !Tryz.prog.wantsStandIn u) = true := by kernel_rfl
    exact (show Tryz.prog.wantsStandIn t = false by simpa using List.all_eq_true.1 hall t hm)⟩)
  (by kernel_rfl)
#print axioms machineStarts_holds
end Go.Proofs.YtmljohbialacfaaGreatDoor
