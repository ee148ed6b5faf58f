/- FA2 -/
import Derived.Test.YthiimbhjpdphpaaGreatDoorPFA1
import Derived.Test.YthiimbhjpdphpaaGreatDoorPFB6
import Derived.Test.YthiimbhjpdphpaaGreatDoorPW18
import Derived.Test.YthiimbhjpdphpaaGreatDoorPW17
set_option linter.unusedVariables false
set_option linter.unusedSimpArgs false
namespace Go.Proofs.YthiimbhjpdphpaaGreatDoor
open Go.RowKit
set_option maxRecDepth 100000
theorem ex_at (i:Nat):(exP.at_ i).kind=5∨(exP.at_ i).kind=17∨(exP.at_ i).kind=19∨(exP.at_ i).kind=0:=by
 match i with
 | 0=>exact .inl rfl
 | 1=>exact .inr (.inl rfl)
 | 2=>exact .inr (.inr (.inl rfl))
 | n+3=>exact .inr (.inr (.inr rfl))
theorem ex_keys (i:Nat):(exP.at_ i).keys.length≤1000:=by
 match i with
 | 0=>exact Nat.zero_le _
 | 1=>exact Nat.zero_le _
 | 2=>exact Nat.zero_le _
 | n+3=>exact Nat.zero_le _
theorem ex_ok:ProgOk exP:=by
 refine ⟨⟨by decide,fun n hn=>?_,fun n hn=>?_⟩,by decide,fun f hf=>?_⟩
 ·simp only [exP,List.mem_cons,List.not_mem_nil,or_false] at hn
  rcases hn with rfl | rfl | rfl <;> decide
 ·simp only [exP,List.mem_cons,List.not_mem_nil,or_false] at hn
  rcases hn with rfl | rfl | rfl <;> exact ⟨by decide,fun k hk=>by cases hk⟩
 ·simp only [exP,List.mem_cons,List.not_mem_nil,or_false] at hf
  subst hf
  refine ⟨by decide,by decide,fun s hs=>?_⟩
  simp only [List.mem_cons,List.not_mem_nil,or_false] at hs
  subst hs
  decide
theorem ex_err:(studyF exP).err=0:=by rw [ex_study];rfl
theorem ex_fold:(foldG exP).2=0∧(foldG exP).1.nodes.length=3∧(foldG exP).1.funcs.length=1:=by
 unfold foldG
 rw [if_neg (by rw [ex_err];simp)]
 exact ⟨rfl,by kernel_rfl,by kernel_rfl⟩
attribute [local go_sem] cell_alloc_is
end Go.Proofs.YthiimbhjpdphpaaGreatDoor
