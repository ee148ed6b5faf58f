/- RO2 -/
import Derived.Test.YtekdhlfapejijaaGreatDoorPEL
import Derived.Test.YtekdhlfapejijaaGreatDoorPGR10
set_option linter.unusedVariables false
set_option linter.unusedSimpArgs false
namespace Go.Proofs.YtekdhlfapejijaaGreatDoor
open Go.RowKit
set_option maxRecDepth 100000
open Go.Proofs.Tryz
attribute [local go_sem] zacZ
set_option maxHeartbeats 4000000 in
theorem ftruth_any (b:Bool) (w:World):Calls prog 43 #[.bool b] w fun e w'=>∃ u,e=.returned u∧ValV w' u [bCel b]∧FromC w w' [] u∧Below w.heap.size w w':=by
 obtain ⟨P,hP⟩:∃ P:Ending→World→Prop,(fun e w'=>∃ u,e=.returned u∧ValV w' u [bCel b]∧FromC w w' [] u∧Below w.heap.size w w')=P:=⟨_,rfl⟩
 rw [hP];have HP:=hZz hP;clear hP;cases b
 all_goals
  go_enter func43,ntmps43
  go_wp2_with (fail)
  rw [← HP.out];exact ⟨_,rfl,zaiY (Blk.new _ _ _),FromC.blk (Blk.new _ _ _) (Nat.le_refl _),zabZ _ _⟩
set_option maxHeartbeats 4000000 in
theorem zbvY (l:ValD) (v:Value) (w:World) (h:ValV w v l) (hp:Pow w) (ho:OkV l):Calls prog 48 #[v] w (RetR w [v] (limR l)):=by
 obtain ⟨A,cap,rfl,hc,hm,hs⟩:=h.at;have HV:=hZz h;have HC:=hZz (zarY l A cap w hs hp ho.1 ho.2);obtain ⟨P,hP⟩:∃ P:Ending→World→Prop,RetR w [.slice A l.length cap] (limR l)=P:=⟨_,rfl⟩
 rw [hP];have HP:=hZz hP;obtain ⟨n,hn⟩:∃ n,l.length=n:=⟨_,rfl⟩
 rw [hn] at HC HP HV ⊢;obtain ⟨ck,hck⟩:∃ c,checkF l=c:=⟨_,rfl⟩
 rw [hck] at HC;have HCK:=hZz hck;clear h hP hn hck hs hc hm ho hp;by_cases h0:ck=0
 ·have HO:Hid (limR l=(l,0)):=hZz (by unfold limR;rw [HCK.out,if_pos h0])
  subst h0;go_enter func48,ntmps48
  go_wp2_with (first
   | (go_at_call 34;(with_reducible refine HC.out.mono ?_);rintro e w1 ⟨rfl,hb1⟩;have HB:=hZz hb1;clear hb1))
  rw [← HP.out];exact ⟨.slice A n cap,by rw [HO.out];rfl,by rw [HO.out];exact HV.out.below HB.out,FromC.self (by simp),HB.out⟩
 ·have HO:Hid (limR l=([],3)):=hZz (by unfold limR;rw [HCK.out,if_neg h0])
  have h1:(ck != 0)=true:=by simpa using h0
  clear h0;go_enter func48,ntmps48
  go_wp2_with (first
   | (go_at_call 34;(with_reducible refine HC.out.mono ?_);rintro e w1 ⟨rfl,hb1⟩;have HB:=hZz hb1;clear hb1))
  rw [← HP.out];exact ⟨.slice none 0 0,by rw [HO.out];rfl,by rw [HO.out];exact RowsV.nil none 0,FromC.none,HB.out⟩
end Go.Proofs.YtekdhlfapejijaaGreatDoor
