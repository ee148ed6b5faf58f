/- Programs -/
import Derived.Test.YthiimbhjpdphpaaGreatDoorPU33
import Derived.Test.YthiimbhjpdphpaaGreatDoorPAX8
import Derived.Test.YthiimbhjpdphpaaGreatDoorPRowBase
set_option linter.unusedVariables false
set_option linter.unusedSimpArgs false
namespace Go.Proofs.YthiimbhjpdphpaaGreatDoor
set_option maxRecDepth 100000
open Go.Proofs.Tryz
open Go.RowKit Go.ChangeShapes Go.WideShapes Go.ChangeAt Go.Deep
theorem za5Y (os:Os) (started:os.Started) (H:Type) (enc:TypeId × Value→H) :
  ReturnsInHanded {} Tryz.checked os 3 .any (fun w args=>(Rows.compileProgramsSpec.pre enc prog Tryz.f3 Rows.compileProgramsRow.domain false w args∧laidMetH prog Rows.compileProgramsRow.laid w)∧sizedMet enc prog Tryz.f3 (OpenSpec.ofChange Rows.compileProgramsSpec) false w args)
   (Rows.compileProgramsSpec.post enc prog Tryz.f3 false true false false):=by
 refine wrap_shaped (C:=Tryz.checked) (X:=fun w _=>laidMetH prog Rows.compileProgramsRow.laid w) (fun _ _ _ hh h=>h.of_heap hh) Tryz.own started (by kernel_rfl) func3
  (ChangeSpec.witness_shaped (enc:=enc) (C:=Tryz.checked) (os:=os) (X:=fun w _=>laidMetH prog Rows.compileProgramsRow.laid w) false (World.laidAll prog os Rows.compileProgramsRow.laid) #[progArg] 8 (World.laidAll_os _ _ _)
   (World.shaped_of_ZipB (by kernel_rfl) (by kernel_rfl)) (by kernel_rfl) (by kernel_rfl) (by kernel_rfl)
   (by rw [MakeChecks.laidMetH_plain _ _ _ (by kernel_rfl)];exact laidMet_laidAll _ (by kernel_rfl) (by kernel_rfl))) ?_
 intro W base args ds gs before hval0 hW hsz0 hL hsh;have hsz:(DataW.weightsEach prog (Tryz.f3.params.toList ++ Rows.compileProgramsSpec.plain.varTypes prog) (ds ++ gs)).all (·≤reachBytes)=true:=hsz0;clear hsz0;have hval:∀ (j:Nat) t v,Tryz.f3.params[j]? = some t→args[j]? = some v→Value.okWide prog W .any base t v:=hval0
 have hW':=hW;obtain ⟨p,q,hA0,hV,rfl,hfz,hnd⟩:=hW;have hA:DataW.TrodAll enc prog W 0 (fun _=>true) true Tryz.f3.params.toList args.toList ds p:=hA0;rw [Tryz.params3] at hA hval hsz;obtain ⟨v0,vs0,d0,ds0,p0,q0,hargs,rfl,rfl,h0,r0⟩:=trodAll_cons hA;obtain ⟨rfl,rfl,rfl⟩:=trodAll_nil r0;obtain rfl:args=#[v0]:=by cases args;simp_all
 obtain ⟨rfl,rfl⟩:=trodVars_none hV;obtain ⟨c0,rfl,l0⟩:=okWide_struct underlying25 (hval 0 25 v0 rfl rfl);rw [Tryz.cellsP25] at l0;have k0:=h0;have lt0:∀ x∈p0,x.block<W.heap.size:=by obtain ⟨m,hm⟩:=k0;exact DataW.trod_lt m _ _ _ hm
 obtain ⟨S,hSe,hS,hT⟩:∃ S:ProgS,.agg c0=S.val∧ProgV W S∧TextsOk S.p:=by
  obtain ⟨fuel,hf⟩:=h0;exact prog_open (by simpa using l0) (fun n hn=>of_decide_eq_true (List.all_eq_true.1 hsz _ (DataW.weights_mem_each (j:=0) rfl rfl n hn))) (by simpa [Value.cells] using hf)
 clear hA0 hval0;obtain ⟨hsd,hp,hsn⟩:=laid3_of hL;rw [hSe];refine (lprograms_s S W hS hp hsn hsd hT (fun wx hb=>awakeP_s wx (hp.below hb) (hsn.below hb) (hsd.below hb))).mono fun e W' ⟨he,bel⟩=>?_
 rw [← hSe];subst he;exact ⟨_,rfl,_,_,_,[],_,[],hW',trodAll_mk1 (shut_bool underlying4 _),(trodAll_cons_mk (Below.trod Tryz.laidOut (by kernel_rfl) (of_decide_eq_true (by kernel_rfl)) k0 bel lt0) trodAll_mk0),rfl,bel.frame _,fun h=>by cases h⟩
theorem zbeY:Rows.CompileProgramsSaid :=
 OpenClaim.holds_of_wide 3 Tryz.f3 rfl rfl rfl rfl rfl rfl rfl ⟨rfl,rfl,rfl,rfl,rfl⟩ rfl rfl rfl rfl rfl (by kernel_rfl) func3 (by kernel_rfl)
  (of_decide_eq_true (by kernel_rfl)) (by unfold Func.isWrapper;first | (rw [if_pos (by decide +kernel)];kernel_rfl) | (rw [if_neg (by decide +kernel)];exact ⟨rfl,rfl⟩))
  (fun os started H enc _=>za5Y os started H enc)
theorem compilePrograms_holds:Rows.CompileProgramsCardSaid :=
 Claim7.holds_tied_plain_at .later [] [.data,.data,.data,.sentinel,.sentinel,.data] true (true,"3aaa0591e55cb95fa7e4598e9cdd07de1d0090d850d15732f9bb3354dad98c6f") true
  zbeY (fun _ h=>by cases h) (by kernel_rfl) (fun _ h=>by cases h) compilePrograms_row_tie rfl ⟨rfl,rfl⟩ (by kernel_rfl) rfl
  (fun f fn hf hfn=>by
   obtain rfl:f=3:=Option.some.inj ((show prog.funcNamed "faas/faaslaw12.CompilePrograms"=some 3 by kernel_rfl).symm.trans hf) |>.symm
   obtain rfl:fn=Tryz.f3:=(Option.some.inj (func3.symm.trans hfn)).symm
   exact ⟨by kernel_rfl,fun j t ht=>by
    rw [Tryz.params3] at ht;have hm:t∈[25]:=by simpa using Array.mem_of_getElem? ht
    have hall:([25].all fun u=>!prog.wantsStandIn u)=true:=by kernel_rfl
    exact (show prog.wantsStandIn t=false by simpa using List.all_eq_true.1 hall t hm)⟩)
  (by kernel_rfl)
#print axioms compilePrograms_holds
end Go.Proofs.YthiimbhjpdphpaaGreatDoor
