/- Limits -/
import Derived.Test.YtmljohbialacfaaGreatDoorPY26
import Derived.Test.YtmljohbialacfaaGreatDoorPOpenC
import Derived.Test.YtmljohbialacfaaGreatDoorPOpenT
import Derived.ProofKit
import Derived.Shelf.Vars
set_option linter.unusedVariables false
set_option linter.unusedSimpArgs false
namespace Go.Proofs.YtmljohbialacfaaGreatDoor
open Go.RowKit Go.ChangeShapes Go.WideShapes Go.ChangeAt Go.Deep
set_option maxRecDepth 100000
theorem Tryz.own:ownKnob Tryz.prog.godebug=none:=by kernel_rfl
theorem Tryz.laidOut:laidOutB Tryz.prog=true:=by kernel_rfl
def codeArg:Value:=.agg #[.slice none 0 0,.slice none 0 0]
def limArg:Value:=.agg #[.int .i64 0,.int .i64 0]
theorem maxl_of {W:World} (h:W.ShapedOpen Tryz.prog):MaxL W :=
 cell_of_shapedOpen_int (g:=1) (zero:=#[.int .i64 0]) (t:=3) h (of_decide_eq_true (by kernel_rfl)) (by kernel_rfl) rfl (by kernel_rfl) (by kernel_rfl) Tryz.underlying3
/-- The wrap of a row, with the listed variables and the world's shape handed on. -/
theorem wrap_shaped {H:Type} {enc:TypeId × Value→H} {a:Assume} {C:Checked} {os:Os} {f:FuncId} {fn:Func} {s:ChangeSpec} {conds:List PathCond} {apart fresh handsOn again:Bool} {X:World→Array Value→Prop}
  (hX:∀ (w w':World) (args:Array Value),w.heap=w'.heap→X w args→X w' args)
  (own:ownKnob C.prog.godebug=none) (started:os.Started) (noInit:C.prog.inits.idxOf? f=none) (hfn:C.prog.funcs[f]? = some fn)
  (witness:∃ (w:World) (tape:Tape) (i:Input),w.os=os∧(w.forCall tape i).Shaped C.prog∧i.vars=[]∧Input.okWide C.prog (w.forCall tape i) .any w.heap.size f i ∧
   ((s.pre enc C.prog fn conds apart (w.forCall tape i).memory i.args∧X (w.forCall tape i).memory i.args)∧sizedMet enc C.prog fn (OpenSpec.ofChange s) apart (w.forCall tape i).memory i.args)∧a.holds C.prog (lone (Frame.enter C.prog f i.args .normal) [] (w.forCall tape i)))
  (contract:∀ (W:World) (base:Nat) (args:Array Value) (ds gs:List (DataW H)) (before:List MemPlace),
   (∀ (j:Nat) t v,fn.params[j]? = some t→args[j]? = some v→Value.okWide C.prog W .any base t v) →
   DataW.Whole enc C.prog fn.params.toList s.vars apart W args.toList ds gs before →
   (DataW.weightsEach C.prog (fn.params.toList ++ s.plain.varTypes C.prog) (ds ++ gs)).all (·≤reachBytes)=true→X W args→W.ShapedOpen C.prog →
   Calls C.prog f args W fun e W'=>∃ v,e=.returned v∧s.post enc C.prog fn apart fresh handsOn again W args v W') :
  ReturnsInHanded a C os f .any (fun w args=>(s.pre enc C.prog fn conds apart w args∧X w args)∧sizedMet enc C.prog fn (OpenSpec.ofChange s) apart w args) (s.post enc C.prog fn apart fresh handsOn again):=by
 refine returnsInHanded_of_calls own started noInit witness ?_
 intro w tape i _ hsh _ hok hpre _
 obtain ⟨_,_,_,fn',hfn',_,_,_,_,hval⟩:=hok
 obtain rfl:fn'=fn:=Option.some.inj (hfn'.symm.trans hfn)
 obtain ⟨⟨⟨ds,gs,before,hw,_⟩,hx⟩,hz⟩:=hpre
 refine (contract (w.forCall tape i) w.heap.size i.args ds gs before hval (hw.of_heap (w':=w.forCall tape i) (by rfl)) (hz.weights hw) (hX _ _ _ (by rfl) hx) hsh).mono fun e W' ⟨v,he,hp⟩=>?_
 subst he
 exact ChangeSpec.post_blind hp
theorem Tryz.cells50:Tryz.prog.cellsOf 50=3:=by kernel_rfl
theorem Tryz.bytes50:Tryz.prog.bytesOf 50=40:=by kernel_rfl
section
variable {H:Type} {enc:TypeId × Value→H} {w:World} {base:Nat} {spare:Nat→Bool} {held:Bool}
def TurnOk (t:TurnD):Prop:=-9223372036854775808≤t.steps∧∀ c∈t.val,c.str.size≤Rb∧IntsOk c
theorem turn_elem (n:Nat) (cs:List Value) (y:DataW H × List MemPlace) (hl:cs.length=3) (h:DataW.trod enc Tryz.prog w base spare held n 50 cs=some y) (hw:∀ m∈y.1.weights Tryz.prog 50,m≤Rb):∃ t:TurnD,turnR w cs t∧TurnOk t:=by
 obtain ⟨xs,m,_,rfl,_,hxl,hg⟩:=DataW.trod_struct Tryz.underlying50 h
 match cs,hl with
 | [c0,c1,c2],_ =>
  match xs,hxl with
  | [x0,x1],_ =>
   have hww:DataW.weights Tryz.prog 50 (DataW.agg ([x0,x1].map (·.1)))=DataW.weightsEach Tryz.prog [3,48] ([x0,x1].map (·.1)):=by
    simp only [DataW.weights,Tryz.underlying50]
    rfl
   have hw':∀ m∈DataW.weights Tryz.prog 50 (DataW.agg ([x0,x1].map (·.1))),m≤Rb:=hw
   rw [hww] at hw'
   obtain ⟨a,e0,_,r0⟩:=DataW.trod_int Tryz.underlying3 (hg 0 _ rfl)
   have hw1:∀ m∈DataW.weights Tryz.prog 48 x1.1,m≤Rb:=fun m hm=>hw' m (DataW.weights_mem_each (j:=1) (t:=48) (d:=x1.1) rfl rfl _ hm)
   obtain ⟨ys,m2,_,hy,_,hyl,hh⟩:=DataW.trod_struct Tryz.underlying48 (hg 1 _ rfl)
   match ys,hyl with
   | [y0,y1],_ =>
    have hy1:x1.1=DataW.agg ([y0,y1].map (·.1)):=by rw [hy]
    rw [hy1] at hw1
    have hww2:DataW.weights Tryz.prog 48 (DataW.agg ([y0,y1].map (·.1)))=DataW.weightsEach Tryz.prog [33,26] ([y0,y1].map (·.1)):=by
     simp only [DataW.weights,Tryz.underlying48]
     rfl
    rw [hww2] at hw1
    obtain ⟨e,e1,_,_⟩:=DataW.trod_int Tryz.underlying33 (hh 0 _ rfl)
    obtain ⟨vv,V,e2,h2,q2⟩:=val_openI (fun m hm=>hw1 m (DataW.weights_mem_each (j:=1) (t:=26) (d:=y1.1) rfl rfl _ hm)) (hh 1 _ rfl)
    have n3:Tryz.prog.cellsOf 3=1:=by kernel_rfl
    have n23:Tryz.prog.cellsOf 33=1:=by kernel_rfl
    have n24:Tryz.prog.cellsOf 26=1:=by kernel_rfl
    have n28:Tryz.prog.cellsOf 48=2:=by kernel_rfl
    simp [n3,n23,n24,n28] at e0 e1 e2
    subst e0 e1 e2
    simp [Lit.wf,IntKind.min,IntKind.max,IntKind.signed,IntKind.bits] at r0
    exact ⟨⟨a,e,V⟩,⟨_,rfl,h2⟩,by show _≤a;omega,q2⟩
theorem turns_open {fuel:Nat} {cs:List Value} {x:DataW H × List MemPlace} (hR:∀ m∈x.1.weights Tryz.prog 45,m≤Rb) (h:DataW.trod enc Tryz.prog w base spare held fuel 45 cs=some x):∃ (v:Value) (l:List TurnD),cs=[v]∧TurnsV w v l∧∀ t∈l,TurnOk t :=
 open_rowsV 3518437208780 Rb 40 3 turnR TurnOk Tryz.underlying45 Tryz.cells50 Tryz.bytes50 (by omega) (fun n hn=>by unfold Rb at hn;omega) turn_elem hR h
end
theorem machineLimits_lifted (os:Os) (started:os.Started) (H:Type) (enc:TypeId × Value→H) :
  ReturnsInHanded {} Tryz.checked os 5 .any (fun w args=>(Rows.machineLimitsSpec.pre enc Tryz.prog Tryz.f5 Rows.machineLimitsRow.domain false w args∧laidMetH Tryz.prog Rows.machineLimitsRow.laid w)∧sizedMet enc Tryz.prog Tryz.f5 (OpenSpec.ofChange Rows.machineLimitsSpec) false w args)
   (Rows.machineLimitsSpec.post enc Tryz.prog Tryz.f5 false true false false):=by
 refine wrap_shaped (C:=Tryz.checked) (X:=fun w _=>laidMetH Tryz.prog Rows.machineLimitsRow.laid w) (fun _ _ _ hh h=>h.of_heap hh) Tryz.own started (by kernel_rfl) Tryz.func5
  (ChangeSpec.witness_shaped (enc:=enc) (C:=Tryz.checked) (os:=os) (X:=fun w _=>laidMetH Tryz.prog Rows.machineLimitsRow.laid w) false (World.laidAll Tryz.prog os Rows.machineLimitsRow.laid) #[codeArg,.slice none 0 0,limArg,.slice none 0 0] 8 (World.laidAll_os _ _ _)
   (World.shaped_of_ZipB (by kernel_rfl) (by kernel_rfl)) (by kernel_rfl) (by kernel_rfl) (by kernel_rfl)
   (by rw [MakeChecks.laidMetH_plain _ _ _ (by kernel_rfl)];exact laidMet_laidAll _ (by kernel_rfl) (by kernel_rfl))) ?_
 intro W base args ds gs before hval0 hW hsz0 hL hsh
 have hsz:(DataW.weightsEach Tryz.prog (Tryz.f5.params.toList ++ Rows.machineLimitsSpec.plain.varTypes Tryz.prog) (ds ++ gs)).all (·≤reachBytes)=true:=hsz0
 clear hsz0
 have hval:∀ (j:Nat) t v,Tryz.f5.params[j]? = some t→args[j]? = some v→Value.okWide Tryz.prog W .any base t v:=hval0
 have hW':=hW
 obtain ⟨p,q,hA0,hV,rfl,hfz,hnd⟩:=hW
 have hA:DataW.TrodAll enc Tryz.prog W 0 (fun _=>true) true Tryz.f5.params.toList args.toList ds p:=hA0
 rw [Tryz.params5] at hA hval hsz
 obtain ⟨v0,vs0,d0,ds0,p0,q0,hargs,rfl,rfl,h0,r0⟩:=trodAll_cons hA
 obtain ⟨v1,vs1,d1,ds1,p1,q1,rfl,rfl,rfl,h1,r1⟩:=trodAll_cons r0
 obtain ⟨v2,vs2,d2,ds2,p2,q2,rfl,rfl,rfl,h2,r2⟩:=trodAll_cons r1
 obtain ⟨v3,vs3,d3,ds3,p3,q3,rfl,rfl,rfl,h3,r3⟩:=trodAll_cons r2
 obtain ⟨rfl,rfl,rfl⟩:=trodAll_nil r3
 obtain rfl:args=#[v0,v1,v2,v3]:=by cases args;simp_all
 obtain ⟨rfl,rfl⟩:=trodVars_none hV
 obtain ⟨c0,rfl,l0⟩:=okWide_struct Tryz.underlying25 (hval 0 25 v0 rfl rfl)
 obtain ⟨a1,len1,cap1,rfl⟩:=okWide_slice Tryz.underlying26 (hval 1 26 v1 rfl rfl)
 obtain ⟨c2,rfl,l2⟩:=okWide_struct Tryz.underlying28 (hval 2 28 v2 rfl rfl)
 obtain ⟨a3,len3,cap3,rfl⟩:=okWide_slice Tryz.underlying45 (hval 3 45 v3 rfl rfl)
 rw [Tryz.cells25] at l0
 rw [Tryz.cells28] at l2
 have k0:=h0
 have k1:=h1
 have k2:=h2
 have lt0:∀ x∈p0,x.block<W.heap.size:=by obtain ⟨m,hm⟩:=k0;exact DataW.trod_lt m _ _ _ hm
 have lt1:∀ x∈p1,x.block<W.heap.size:=by obtain ⟨m,hm⟩:=k1;exact DataW.trod_lt m _ _ _ hm
 have lt2:∀ x∈p2,x.block<W.heap.size:=by obtain ⟨m,hm⟩:=k2;exact DataW.trod_lt m _ _ _ hm
 have lt3:∀ x∈p3,x.block<W.heap.size:=by obtain ⟨m,hm⟩:=h3;exact DataW.trod_lt m _ _ _ hm
 obtain ⟨C,hT,hce,hC⟩:∃ C:CodeS,C.T=none∧c0=#[.slice C.A C.c.fns.length C.ncap,.slice C.B C.c.ins.length C.icap]∧CodeV W C:=by
  obtain ⟨fuel,hf⟩:=h0
  obtain ⟨C,e,hC⟩:=code_open (by simpa using l0) (fun n hn=>of_decide_eq_true (List.all_eq_true.1 hsz _ (DataW.weights_mem_each (j:=0) rfl rfl n hn))) (by simpa [Value.cells] using hf)
  exact ⟨⟨C.A,C.B,C.ncap,C.icap,C.c,none⟩,rfl,e,⟨hC.fns,hC.ins⟩⟩
 obtain ⟨l,hv,hls⟩:∃ l:ValD,ValV W (.slice a1 len1 cap1) l∧∀ c∈l,c.str.size≤Rb∧IntsOk c:=by
  obtain ⟨fuel,hf⟩:=h1
  obtain ⟨v,l,e,hv,hl⟩:=val_openI (fun n hn=>of_decide_eq_true (List.all_eq_true.1 hsz _ (DataW.weights_mem_each (j:=1) rfl rfl n hn))) hf
  have e':v=.slice a1 len1 cap1:=by simpa [Value.cells] using e.symm
  exact ⟨l,e' ▸ hv,hl⟩
 obtain ⟨ls,lm,hle⟩:∃ a b:Int,c2=#[.int .i64 a,.int .i64 b]:=by
  obtain ⟨fuel,hf⟩:=h2
  exact limits_open (by simpa using l2) (by simpa [Value.cells] using hf)
 obtain ⟨ts,htv,hto⟩:∃ ts:List TurnD,TurnsV W (.slice a3 len3 cap3) ts∧∀ t∈ts,TurnOk t:=by
  obtain ⟨fuel,hf⟩:=h3
  obtain ⟨v,ts,e,hv,hl⟩:=turns_open (fun n hn=>of_decide_eq_true (List.all_eq_true.1 hsz _ (DataW.weights_mem_each (j:=3) rfl rfl n hn))) hf
  have e':v=.slice a3 len3 cap3:=by simpa [Value.cells] using e.symm
  exact ⟨ts,e' ▸ hv,hl⟩
 subst hce hle
 clear hA0 hval0
 obtain ⟨hS,hp,hsn⟩:=laid3_of hL
 refine (mlimits_any C hT _ l ls lm _ ts W hC hsn hp hS (maxl_of hsh) hv (fun c hc=>(hls c hc).1) (fun c hc=>(hls c hc).2) htv (fun t ht=>(hto t ht).1) (fun t ht c hc=>⟨((hto t ht).2 c hc).1,((hto t ht).2 c hc).2⟩)).mono fun e W' ⟨he,bel⟩=>?_
 subst he
 exact ⟨_,rfl,_,_,_,[],_,[],hW',trodAll_mk1 (shut_bool Tryz.underlying4 _),(trodAll_cons_mk (Below.trod Tryz.laidOut (by kernel_rfl) (of_decide_eq_true (by kernel_rfl)) k0 bel lt0) (trodAll_cons_mk (Below.trod Tryz.laidOut (by kernel_rfl) (of_decide_eq_true (by kernel_rfl)) k1 bel lt1) (trodAll_cons_mk (Below.trod Tryz.laidOut (by kernel_rfl) (of_decide_eq_true (by kernel_rfl)) k2 bel lt2) (trodAll_cons_mk (Below.trod Tryz.laidOut (by kernel_rfl) (of_decide_eq_true (by kernel_rfl)) h3 bel lt3) trodAll_mk0)))),rfl,bel.frame _,fun h=>by cases h⟩
theorem machineLimits_said:Rows.MachineLimitsSaid :=
 OpenClaim.holds_of_wide 5 Tryz.f5 rfl rfl rfl rfl rfl rfl rfl ⟨rfl,rfl,rfl,rfl,rfl⟩ rfl rfl rfl rfl rfl (by kernel_rfl) Tryz.func5 (by kernel_rfl)
  (of_decide_eq_true (by kernel_rfl)) (by unfold Func.isWrapper;first | (rw [if_pos (by decide +kernel)];kernel_rfl) | (rw [if_neg (by decide +kernel)];exact ⟨rfl,rfl⟩))
  (fun os started H enc _=>machineLimits_lifted os started H enc)
theorem machineLimits_holds:Rows.MachineLimitsCardSaid :=
 Claim7.holds_tied_plain_at .later [] [.data,.data,.data,.sentinel,.sentinel,.data] true (true,"6cfeae2233857f4628bf4ffbc1ab0704c52691b4ad452ab4cad443f9cca732e9") true
  machineLimits_said (fun _ h=>by cases h) (by kernel_rfl) (fun _ h=>by cases h) machineLimits_row_tie rfl ⟨rfl,rfl⟩ (by kernel_rfl) rfl
  (fun f fn hf hfn=>by
   obtain rfl:f=5:=Option.some.inj ((show Tryz.prog.funcNamed "faas/faaslaw13.MachineLimits"=some 5 by kernel_rfl).symm.trans hf) |>.symm
   obtain rfl:fn=Tryz.f5:=(Option.some.inj (Tryz.func5.symm.trans hfn)).symm
   exact ⟨by kernel_rfl,fun j t ht=>by
    rw [Tryz.params5] at ht
    have hm:t∈[25,26,28,45]:=by simpa using Array.mem_of_getElem? ht
    have hall:([25,26,28,45].all fun u=>!Tryz.prog.wantsStandIn u)=true:=by kernel_rfl
    exact (show Tryz.prog.wantsStandIn t=false by simpa using List.all_eq_true.1 hall t hm)⟩)
  (by kernel_rfl)
#print axioms machineLimits_holds
end Go.Proofs.YtmljohbialacfaaGreatDoor
