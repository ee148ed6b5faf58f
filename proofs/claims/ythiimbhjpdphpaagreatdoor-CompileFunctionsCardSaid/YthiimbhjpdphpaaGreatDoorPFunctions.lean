/- Functions -/
import Derived.Test.YthiimbhjpdphpaaGreatDoorPU30
import Derived.Test.YthiimbhjpdphpaaGreatDoorPRowBase
set_option linter.unusedVariables false
set_option linter.unusedSimpArgs false
namespace Go.Proofs.YthiimbhjpdphpaaGreatDoor
set_option maxRecDepth 100000
open Go.Proofs.Tryz
open Go.RowKit Go.ChangeShapes Go.WideShapes Go.ChangeAt Go.Deep
theorem za9Y (os:Os) (started:os.Started) (H:Type) (enc:TypeId × Value→H) :
  ReturnsInHanded {} Tryz.checked os 6 .any (fun w args=>(Rows.compileFunctionsSpec.pre enc prog Tryz.f6 Rows.compileFunctionsRow.domain false w args∧laidMetH prog Rows.compileFunctionsRow.laid w)∧sizedMet enc prog Tryz.f6 (OpenSpec.ofChange Rows.compileFunctionsSpec) false w args)
   (Rows.compileFunctionsSpec.post enc prog Tryz.f6 false true false false):=by
 refine wrap_shaped (C:=Tryz.checked) (X:=fun w _=>laidMetH prog Rows.compileFunctionsRow.laid w) (fun _ _ _ hh h=>h.of_heap hh) Tryz.own started (by kernel_rfl) func6
  (ChangeSpec.witness_shaped (enc:=enc) (C:=Tryz.checked) (os:=os) (X:=fun w _=>laidMetH prog Rows.compileFunctionsRow.laid w) false (World.laidAll prog os Rows.compileFunctionsRow.laid) #[progArg,.int .i64 0,.int .i64 0] 8 (World.laidAll_os _ _ _)
   (World.shaped_of_ZipB (by kernel_rfl) (by kernel_rfl)) (by kernel_rfl) (by kernel_rfl) (by kernel_rfl)
   (by rw [MakeChecks.laidMetH_plain _ _ _ (by kernel_rfl)];exact laidMet_laidAll _ (by kernel_rfl) (by kernel_rfl))) ?_
 intro W base args ds gs before hval0 hW hsz0 hL hsh;have hsz:(DataW.weightsEach prog (Tryz.f6.params.toList ++ Rows.compileFunctionsSpec.plain.varTypes prog) (ds ++ gs)).all (·≤reachBytes)=true:=hsz0;clear hsz0;have hval:∀ (j:Nat) t v,Tryz.f6.params[j]? = some t→args[j]? = some v→Value.okWide prog W .any base t v:=hval0
 have hW':=hW;obtain ⟨p,q,hA0,hV,rfl,hfz,hnd⟩:=hW;have hA:DataW.TrodAll enc prog W 0 (fun _=>true) true Tryz.f6.params.toList args.toList ds p:=hA0;rw [Tryz.params6] at hA hval hsz;obtain ⟨v0,vs0,d0,ds0,p0,q0,hargs,rfl,rfl,h0,r0⟩:=trodAll_cons hA;obtain ⟨v1,vs1,d1,ds1,p1,q1,rfl,rfl,rfl,h1,r1⟩:=trodAll_cons r0;obtain ⟨v2,vs2,d2,ds2,p2,q2,rfl,rfl,rfl,h2,r2⟩:=trodAll_cons r1;obtain ⟨rfl,rfl,rfl⟩:=trodAll_nil r2;obtain rfl:args=#[v0,v1,v2]:=by cases args;simp_all
 obtain ⟨rfl,rfl⟩:=trodVars_none hV;obtain ⟨c0,rfl,l0⟩:=okWide_struct underlying25 (hval 0 25 v0 rfl rfl);rw [Tryz.cellsP25] at l0;have k0:=h0;have lt0:∀ x∈p0,x.block<W.heap.size:=by obtain ⟨m,hm⟩:=k0;exact DataW.trod_lt m _ _ _ hm
 have lt1:∀ x∈p1,x.block<W.heap.size:=by obtain ⟨m,hm⟩:=h1;exact DataW.trod_lt m _ _ _ hm
 have lt2:∀ x∈p2,x.block<W.heap.size:=by obtain ⟨m,hm⟩:=h2;exact DataW.trod_lt m _ _ _ hm
 obtain ⟨a1,ha1⟩:∃ a:Int,v1=.int .i64 a:=by
  obtain ⟨fuel,hf⟩:=h1;obtain ⟨a,e,_,_⟩:=DataW.trod_int underlying3 hf;obtain ⟨a',rfl⟩:=okWide_int underlying3 (hval 1 3 v1 rfl rfl);exact ⟨a',rfl⟩
 obtain ⟨a2,ha2⟩:∃ a:Int,v2=.int .i64 a:=by
  obtain ⟨a',rfl⟩:=okWide_int underlying3 (hval 2 3 v2 rfl rfl);exact ⟨a',rfl⟩
 subst ha1 ha2
 obtain ⟨S,hSe,hS,hT⟩:∃ S:ProgS,.agg c0=S.val∧ProgV W S∧TextsOk S.p:=by
  obtain ⟨fuel,hf⟩:=h0;exact prog_open (by simpa using l0) (fun n hn=>of_decide_eq_true (List.all_eq_true.1 hsz _ (DataW.weights_mem_each (j:=0) rfl rfl n hn))) (by simpa [Value.cells] using hf)
 clear hA0 hval0;obtain ⟨hsd,hp,hsn⟩:=laid3_of hL;rw [hSe];refine (lfunctions_s S a1 a2 W hS hp hT (fun wx hb=>awake12_s wx (hp.below hb) (hsn.below hb) (hsd.below hb))).mono fun e W' ⟨he,bel⟩=>?_
 rw [← hSe];subst he;exact ⟨_,rfl,_,_,_,[],_,[],hW',trodAll_mk1 (shut_bool underlying4 _),(trodAll_cons_mk (Below.trod Tryz.laidOut (by kernel_rfl) (of_decide_eq_true (by kernel_rfl)) k0 bel lt0) (trodAll_cons_mk (Below.trod Tryz.laidOut (by kernel_rfl) (of_decide_eq_true (by kernel_rfl)) h1 bel lt1) (trodAll_cons_mk (Below.trod Tryz.laidOut (by kernel_rfl) (of_decide_eq_true (by kernel_rfl)) h2 bel lt2) trodAll_mk0))),rfl,bel.frame _,fun h=>by cases h⟩
theorem zbhY:Rows.CompileFunctionsSaid :=
 OpenClaim.holds_of_wide 6 Tryz.f6 rfl rfl rfl rfl rfl rfl rfl ⟨rfl,rfl,rfl,rfl,rfl⟩ rfl rfl rfl rfl rfl (by kernel_rfl) func6 (by kernel_rfl)
  (of_decide_eq_true (by kernel_rfl)) (by unfold Func.isWrapper;first | (rw [if_pos (by decide +kernel)];kernel_rfl) | (rw [if_neg (by decide +kernel)];exact ⟨rfl,rfl⟩))
  (fun os started H enc _=>za9Y os started H enc)
theorem compileFunctions_holds:Rows.CompileFunctionsCardSaid :=
 Claim7.holds_tied_plain_at .later [] [.data,.data,.data,.sentinel,.sentinel,.data] true (true,"3aaa0591e55cb95fa7e4598e9cdd07de1d0090d850d15732f9bb3354dad98c6f") true
  zbhY (fun _ h=>by cases h) (by kernel_rfl) (fun _ h=>by cases h) compileFunctions_row_tie rfl ⟨rfl,rfl⟩ (by kernel_rfl) rfl
  (fun f fn hf hfn=>by
   obtain rfl:f=6:=Option.some.inj ((show prog.funcNamed "faas/faaslaw12.CompileFunctions"=some 6 by kernel_rfl).symm.trans hf) |>.symm
   obtain rfl:fn=Tryz.f6:=(Option.some.inj (func6.symm.trans hfn)).symm
   exact ⟨by kernel_rfl,fun j t ht=>by
    rw [Tryz.params6] at ht;have hm:t∈[25,3,3]:=by simpa using Array.mem_of_getElem? ht
    have hall:([25,3,3].all fun u=>!prog.wantsStandIn u)=true:=by kernel_rfl
    exact (show prog.wantsStandIn t=false by simpa using List.all_eq_true.1 hall t hm)⟩)
  (by kernel_rfl)
#print axioms compileFunctions_holds
end Go.Proofs.YthiimbhjpdphpaaGreatDoor
