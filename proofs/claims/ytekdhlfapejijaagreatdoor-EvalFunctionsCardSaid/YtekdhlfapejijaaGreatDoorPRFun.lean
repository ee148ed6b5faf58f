/- RFun -/
import Derived.Test.YtekdhlfapejijaaGreatDoorPRFunL
set_option linter.unusedVariables false
set_option linter.unusedSimpArgs false
namespace Go.Proofs.YtekdhlfapejijaaGreatDoor
set_option maxRecDepth 100000
open Go.Proofs.Tryz
open Go.RowKit Go.ChangeShapes Go.WideShapes Go.ChangeAt Go.Deep
theorem zauY {a b:Bool} (ha:a=true) (hb:b=true):(a && b)=true:=by rw [ha,hb];rfl
set_option maxHeartbeats 16000000 in
theorem zb0Y:joinedFacts Tryz.pinned.checked.prog 4 Tryz.f4 Rows.evalFunctionsSpec Rows.evalFunctionsRow=true:=by
 unfold joinedFacts;refine zauY (zauY (zauY (zauY (zauY (zauY (zauY (zauY (zauY (zauY (zauY (zauY (zauY (zauY (zauY (zauY (zauY (zauY (zauY (zauY (zauY (zauY (zauY (zauY (zauY (zauY (zauY (zauY (zauY (zauY (zauY ?_ ?_) ?_) ?_) ?_) ?_) ?_) ?_) ?_) ?_) ?_) ?_) ?_) ?_) ?_) ?_) ?_) ?_) ?_) ?_) ?_) ?_) ?_) ?_) ?_) ?_) ?_) ?_) ?_) ?_) ?_) ?_
 all_goals (as_aux_lemma=>kernel_rfl)
theorem zclY:Rows.EvalFunctionsSaid :=
 OpenClaim.holds_of_wide 4 Tryz.f4 rfl rfl rfl rfl rfl rfl rfl ⟨rfl,rfl,rfl,rfl,rfl⟩ rfl rfl rfl rfl rfl (by kernel_rfl) func4 zb0Y
  (of_decide_eq_true (by kernel_rfl)) (by unfold Func.isWrapper;first | (rw [if_pos (by decide +kernel)];kernel_rfl) | (rw [if_neg (by decide +kernel)];exact ⟨rfl,rfl⟩))
  (fun os started H enc _=>zbzY os started H enc)
theorem evalFunctions_holds:Rows.EvalFunctionsCardSaid :=
 Claim7.holds_tied_plain_at .later [] [.data,.data,.data,.sentinel,.sentinel] true (true,"7fe2bc83ffe9c46f8db4fab32ff34b9f0de6d57aaadaebb5cd448b03382bd7e7") true
  zclY (fun _ h=>by cases h) (by kernel_rfl) (fun _ h=>by cases h) evalFunctions_row_tie rfl ⟨rfl,rfl⟩ (by kernel_rfl) rfl
  (fun f fn hf hfn=>by
   obtain rfl:f=4:=Option.some.inj ((show prog.funcNamed "faas/faaslaw10.EvalFunctions"=some 4 by kernel_rfl).symm.trans hf) |>.symm
   obtain rfl:fn=Tryz.f4:=(Option.some.inj (func4.symm.trans hfn)).symm
   exact ⟨by kernel_rfl,fun j t ht=>by
    rw [Tryz.params4] at ht;have hm:t∈[9,31,22,22]:=by simpa using Array.mem_of_getElem? ht
    have hall:([9,31,22,22].all fun u=>!prog.wantsStandIn u)=true:=by kernel_rfl
    exact (show prog.wantsStandIn t=false by simpa using List.all_eq_true.1 hall t hm)⟩)
  (by kernel_rfl)
#print axioms evalFunctions_holds
end Go.Proofs.YtekdhlfapejijaaGreatDoor
