/- RFunL -/
import Derived.Test.YtekdhlfapejijaaGreatDoorPRowF
import Derived.Test.YtekdhlfapejijaaGreatDoorPAK8
set_option linter.unusedVariables false
set_option linter.unusedSimpArgs false
namespace Go.Proofs.YtekdhlfapejijaaGreatDoor
set_option maxRecDepth 100000
open Go.Proofs.Tryz
open Go.RowKit Go.ChangeShapes Go.WideShapes Go.ChangeAt Go.Deep
theorem valsI_open {H:Type} {enc:TypeId × Value→H} {w:World} {base:Nat} {spare:Nat→Bool} {held:Bool} {fuel:Nat} {cs:List Value} {x:DataW H × List MemPlace} (hR:∀ m∈x.1.weights prog 31,m≤Rb) (h:DataW.trod enc prog w base spare held fuel 31 cs=some x):∃ (v:Value) (l:List ValD),cs=[v]∧ValsV w v l∧∀ y∈l,∀ c∈y,c.str.size≤Rb∧IntOk c :=
 open_rowsV 5864062014634 Rb 24 1 valR (fun y:ValD=>∀ c∈y,c.str.size≤Rb∧IntOk c) underlying31 Tryz.cells22 Tryz.bytes22 (by omega) (fun n hn=>by unfold Rb at hn;omega)
  (fun n cs y _ hy hw=>by
   obtain ⟨v,l,e,hv,hl⟩:=val_openI hw hy;exact ⟨l,⟨v,e,hv⟩,hl⟩) hR h
theorem zbzY (os:Os) (started:os.Started) (H:Type) (enc:TypeId × Value→H) :
  ReturnsInHanded {} Tryz.checked os 4 .any (fun w args=>(Rows.evalFunctionsSpec.pre enc prog Tryz.f4 Rows.evalFunctionsRow.domain false w args∧laidMetH prog Rows.evalFunctionsRow.laid w)∧sizedMet enc prog Tryz.f4 (OpenSpec.ofChange Rows.evalFunctionsSpec) false w args)
   (Rows.evalFunctionsSpec.post enc prog Tryz.f4 false true false false):=by
 refine wrap_shaped (C:=Tryz.checked) (X:=fun w _=>laidMetH prog Rows.evalFunctionsRow.laid w) (fun _ _ _ hh h=>h.of_heap hh) Tryz.own started (by kernel_rfl) func4
  (ChangeSpec.witness_shaped (enc:=enc) (C:=Tryz.checked) (os:=os) (X:=fun w _=>laidMetH prog Rows.evalFunctionsRow.laid w) false (World.laidAll prog os Rows.evalFunctionsRow.laid) #[.string ⟨#[]⟩,.slice none 0 0,.slice none 0 0,.slice none 0 0] 9 (World.laidAll_os _ _ _)
   (World.shaped_of_ZipB (by kernel_rfl) (by kernel_rfl)) (by kernel_rfl) (by kernel_rfl) (by kernel_rfl)
   (by rw [MakeChecks.laidMetH_plain _ _ _ (by kernel_rfl)];exact laidMet_laidAll _ (by kernel_rfl) (by kernel_rfl))) ?_
 intro W base args ds gs before hval0 hW hsz0 hL hsh;have hsz:(DataW.weightsEach prog (Tryz.f4.params.toList ++ Rows.evalFunctionsSpec.plain.varTypes prog) (ds ++ gs)).all (·≤reachBytes)=true:=hsz0;clear hsz0;have hval:∀ (j:Nat) t v,Tryz.f4.params[j]? = some t→args[j]? = some v→Value.okWide prog W .any base t v:=hval0
 have hW':=hW;obtain ⟨p,q,hA0,hV,rfl,hfz,hnd⟩:=hW;have hA:DataW.TrodAll enc prog W 0 (fun _=>true) true Tryz.f4.params.toList args.toList ds p:=hA0;rw [Tryz.params4] at hA hval hsz;obtain ⟨v0,vs0,d0,ds0,p0,q0,hargs,rfl,rfl,h0,r0⟩:=trodAll_cons hA;obtain ⟨v1,vs1,d1,ds1,p1,q1,rfl,rfl,rfl,h1,r1⟩:=trodAll_cons r0;obtain ⟨v2,vs2,d2,ds2,p2,q2,rfl,rfl,rfl,h2,r2⟩:=trodAll_cons r1;obtain ⟨v3,vs3,d3,ds3,p3,q3,rfl,rfl,rfl,h3,r3⟩:=trodAll_cons r2;obtain ⟨rfl,rfl,rfl⟩:=trodAll_nil r3;obtain rfl:args=#[v0,v1,v2,v3]:=by cases args;simp_all
 obtain ⟨rfl,rfl⟩:=trodVars_none hV;obtain ⟨s0,rfl⟩:=okWide_string underlying9 (hval 0 9 v0 rfl rfl);obtain ⟨a1,len1,cap1,rfl⟩:=okWide_slice underlying31 (hval 1 31 v1 rfl rfl);obtain ⟨a2,len2,cap2,rfl⟩:=okWide_slice underlying22 (hval 2 22 v2 rfl rfl);obtain ⟨a3,len3,cap3,rfl⟩:=okWide_slice underlying22 (hval 3 22 v3 rfl rfl);have k0:=h0;have k1:=h1;have k2:=h2;have k3:=h3;have lt0:∀ x∈p0,x.block<W.heap.size:=by obtain ⟨m,hm⟩:=k0;exact DataW.trod_lt m _ _ _ hm
 have lt1:∀ x∈p1,x.block<W.heap.size:=by obtain ⟨m,hm⟩:=k1;exact DataW.trod_lt m _ _ _ hm
 have lt2:∀ x∈p2,x.block<W.heap.size:=by obtain ⟨m,hm⟩:=k2;exact DataW.trod_lt m _ _ _ hm
 have lt3:∀ x∈p3,x.block<W.heap.size:=by obtain ⟨m,hm⟩:=k3;exact DataW.trod_lt m _ _ _ hm
 obtain ⟨x1,hx1,hs1⟩:∃ l:List ValD,ValsV W (.slice a1 len1 cap1) l∧∀ y∈l,∀ c∈y,c.str.size≤Rb∧IntOk c:=by
  obtain ⟨fuel,hf⟩:=h1;obtain ⟨v,l,e,hv,hl⟩:=valsI_open (fun n hn=>of_decide_eq_true (List.all_eq_true.1 hsz _ (DataW.weights_mem_each (j:=1) rfl rfl n hn))) hf;have e':v=.slice a1 len1 cap1:=by simpa [Value.cells] using e.symm
  exact ⟨l,e' ▸ hv,hl⟩
 obtain ⟨x2,hx2,hs2⟩:∃ l:ValD,ValV W (.slice a2 len2 cap2) l∧∀ c∈l,c.str.size≤Rb∧IntOk c:=by
  obtain ⟨fuel,hf⟩:=h2;obtain ⟨v,l,e,hv,hl⟩:=val_openI (fun n hn=>of_decide_eq_true (List.all_eq_true.1 hsz _ (DataW.weights_mem_each (j:=2) rfl rfl n hn))) hf;have e':v=.slice a2 len2 cap2:=by simpa [Value.cells] using e.symm
  exact ⟨l,e' ▸ hv,hl⟩
 obtain ⟨x3,hx3,hs3⟩:∃ l:ValD,ValV W (.slice a3 len3 cap3) l∧∀ c∈l,c.str.size≤Rb∧IntOk c:=by
  obtain ⟨fuel,hf⟩:=h3;obtain ⟨v,l,e,hv,hl⟩:=val_openI (fun n hn=>of_decide_eq_true (List.all_eq_true.1 hsz _ (DataW.weights_mem_each (j:=3) rfl rfl n hn))) hf;have e':v=.slice a3 len3 cap3:=by simpa [Value.cells] using e.symm
  exact ⟨l,e' ▸ hv,hl⟩
 clear hA0 hval0;obtain ⟨hp,hsn⟩:=laid2_of hL;have hml:=maxl_of hsh;have hAW:∀ wx,Below W.heap.size W wx→Calls prog 10 #[] wx fun r w'=>r=.returned (.bool true)∧Below wx.heap.size wx w':=fun wx hb=>awake10_j wx (hp.below hb) (hsn.below hb) (hml.below hb)
 refine (functions_h s0 x1 x2 x3 _ _ _ W hp hsn hx1 hx2 hx3 (fun y hy c hc=>hs1 y hy c hc) hs2 hs3 hAW).mono fun e W' ⟨he,bel⟩=>?_
 subst he;exact ⟨_,rfl,_,_,_,[],_,[],hW',trodAll_mk1 (shut_bool underlying4 _),(trodAll_cons_mk (Below.trod Tryz.laidOut (by kernel_rfl) (of_decide_eq_true (by kernel_rfl)) k0 bel lt0) (trodAll_cons_mk (Below.trod Tryz.laidOut (by kernel_rfl) (of_decide_eq_true (by kernel_rfl)) k1 bel lt1) (trodAll_cons_mk (Below.trod Tryz.laidOut (by kernel_rfl) (of_decide_eq_true (by kernel_rfl)) k2 bel lt2) (trodAll_cons_mk (Below.trod Tryz.laidOut (by kernel_rfl) (of_decide_eq_true (by kernel_rfl)) k3 bel lt3) trodAll_mk0)))),rfl,bel.frame _,fun h=>by cases h⟩
end Go.Proofs.YtekdhlfapejijaaGreatDoor
