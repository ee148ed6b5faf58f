/- E6 -/
import Derived.Test.YtekdhlfapejijaaGreatDoorQE3
import Derived.Lib.ItoaLen
set_option linter.unusedVariables false
set_option linter.unusedSimpArgs false
namespace Go.Proofs.YtekdhlfapejijaaGreatDoor
open Go.RowKit
theorem check_int {n:Int} (h:inRange n=true):checkF [iCel n]=0:=by
 simp only [inRange,Bool.and_eq_true,decide_eq_true_eq] at h;refine checkF_zero.2 ⟨_,px_int n,rfl,?_,by simp [longB,iCel];decide,by simp,by show 1≤8;omega,?_⟩
 ·simp [outB,iCel];omega
 ·have:itoaLen n≤21:=Lib.itoa_length_le n (by omega) (by omega)
  show ((itoaLen n:Nat):Int)≤4000;omega
theorem okR_int {n:Int} (h:inRange n=true):okR [iCel n]=([iCel n],0):=by unfold okR;rw [if_pos (check_int h)]
theorem zbzY {v:ValD} (h:checkF v=0) {c:CellD} (hc:c∈v) (hk:c.kind=3):inRange c.int=true:=by
 obtain ⟨_,_,_,h2,_⟩:=checkF_zero.1 h;have h3:=List.any_eq_false.1 h2 c hc;simpa [outB,hk,inRange] using h3
theorem inRange_neg {n:Int} (h:inRange n=true):inRange (-n)=true:=by
 simp only [inRange,Bool.and_eq_true,decide_eq_true_eq] at h ⊢;omega
theorem zadY {v:ValD} (h:checkF v=0):v≠[]:=by
 rintro rfl;have e:px ([]:ValD) 0=none:=by rw [px_eq,pstep];rfl
 simp [checkF,e,eSyntax] at h
end Go.Proofs.YtekdhlfapejijaaGreatDoor
