/- V1 -/
import Derived.Test.YthiimbhjpdphpaaGreatDoorPGN1
import Derived.Test.YthiimbhjpdphpaaGreatDoorPGD6
import Derived.IntWalk
set_option linter.unusedVariables false
set_option linter.unusedSimpArgs false
namespace Go.Proofs.YthiimbhjpdphpaaGreatDoor
open Go.RowKit
set_option maxRecDepth 100000
open Go.Proofs.Tryz
theorem txtB_take (s:ByteArray) (k:Nat) (h:k<s.size):((s.data.toList.take (k+1)).all fun b=>decide (32≤b.toNat) && decide (b.toNat≤126))=(((s.data.toList.take k).all fun b=>decide (32≤b.toNat) && decide (b.toNat≤126)) && (decide (32≤s[k].toNat) && decide (s[k].toNat≤126))):=by
 rw [List.take_succ_eq_append_getElem (by simpa using h),List.all_append];simp
 rfl
theorem txtB_bad (s:ByteArray) (k:Nat) (h:k<s.size) (hb:¬ (32≤s[k].toNat∧s[k].toNat≤126)):txtB s=false:=by
 unfold txtB;rw [← Bool.not_eq_true,List.all_eq_true];intro ha
 have:=ha s[k] (by
  have:s[k]=s.data.toList[k]'(by simpa using h):=rfl
  rw [this];exact List.getElem_mem _)
 simp at this
 exact hb this
attribute [local go_sem] zabZ
set_option maxHeartbeats 1000000 in
theorem text_any (s:ByteArray) (w:World) (hs:s.size≤140737488351232) :
  Calls prog 234 #[.string s] w fun e w'=>e=.returned (.bool (txtB s))∧w'=w:=by
 obtain ⟨tt,htt⟩:∃ t,txtB s=t:=⟨_,rfl⟩
 rw [htt];have HT:=hZz htt;clear htt;go_enter func234,ntmps234
 go_wp2
 go_loop [6] (fun i=>∃ k:Nat,k≤s.size∧i=.int .i64 k∧Hid (((s.data.toList.take k).all fun b=>decide (32≤b.toNat) && decide (b.toNat≤126))=true)) (fun i=>s.size - (intOf i).toNat)
 case atStart=>exact ⟨0,Nat.zero_le _,rfl,hZz rfl⟩
 case round =>
  obtain ⟨k,hk,rfl,HA⟩:=hrel;by_cases hlt:k<s.size
  ·have hlt':(k:Int)<(s.size:Int):=by omega
   have hk0:(0:Int)≤(k:Int):=by omega
   by_cases hb:32≤s[k].toNat∧s[k].toNat≤126
   ·have h1:¬ ((s[k].toNat:Int)<32):=by omega
    have h2:¬ ((126:Int)<(s[k].toNat:Int)):=by omega
    have HB:=hZz hb;clear hb;go_wp2_with (fail)
    refine ⟨⟨k+1,by omega,by simp,hZz (by rw [txtB_take s k hlt,HA.out,Bool.true_and];simp;exact HB.out)⟩,by simp [intOf];omega⟩
   ·have HN:=hZz (txtB_bad s k hlt hb)
    by_cases h32:(s[k].toNat:Int)<32
    ·clear hb
     go_wp2_with (fail)
     go_ret;exact ⟨by rw [← HT.out,HN.out];rfl,rfl⟩
    ·have h2:(126:Int)<(s[k].toNat:Int):=by omega
     clear hb;go_wp2_with (fail)
     go_ret;exact ⟨by rw [← HT.out,HN.out];rfl,rfl⟩
  ·have e:k=s.size:=by omega
   subst e;have HE:Hid (txtB s=true):=hZz (by have:=HA.out;rw [List.take_of_length_le (by simp)] at this;exact this);go_wp2
   go_ret;exact ⟨by rw [← HT.out,HE.out];rfl,rfl⟩
theorem valid_any (n:Int) (w:World) :
  Calls prog 144 #[.int .i64 n] w fun e w'=>e=.returned (.bool (decide (-1000000000000≤n) && decide (n≤1000000000000)))∧w'=w:=by
 by_cases h1 : -1000000000000≤n
 ·by_cases h2:n≤1000000000000
  ·go_enter func144,ntmps144
   go_wp2
   go_ret;exact ⟨by simp [h1,h2],rfl⟩
  ·go_enter func144,ntmps144
   go_wp2
   go_ret;exact ⟨by simp [h2],rfl⟩
 ·go_enter func144,ntmps144
  go_wp2
  go_ret;exact ⟨by simp;intro h;omega,rfl⟩
end Go.Proofs.YthiimbhjpdphpaaGreatDoor
