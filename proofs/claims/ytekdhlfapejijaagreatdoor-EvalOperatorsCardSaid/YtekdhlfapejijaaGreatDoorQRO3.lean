/- RO2, RO3 -/
import Derived.Test.YtekdhlfapejijaaGreatDoorQRO1
import Derived.Test.YtekdhlfapejijaaGreatDoorQGR10
set_option linter.unusedVariables false
set_option linter.unusedSimpArgs false
namespace Go.Proofs.YtekdhlfapejijaaGreatDoor
open Go.RowKit
set_option maxRecDepth 100000
set_option maxHeartbeats 8000000
attribute [local go_sem] zacZ
open Go.Proofs.Tryz
set_option maxHeartbeats 4000000 in
theorem ftruth_any (b:Bool) (w:World):Calls prog 43 #[.bool b] w fun e w'=>∃ u,e=.returned u∧ValV w' u [bCel b]∧FromC w w' [] u∧Below w.heap.size w w':=by
 obtain ⟨P,hP⟩:∃ P:Ending→World→Prop,(fun e w'=>∃ u,e=.returned u∧ValV w' u [bCel b]∧FromC w w' [] u∧Below w.heap.size w w')=P:=⟨_,rfl⟩
 rw [hP];have HP:=hZz hP;clear hP;cases b
 all_goals
  go_enter func43,ntmps43
  go_wp2_with (fail)
  rw [← HP.out];exact ⟨_,rfl,zaoY (Blk.new _ _ _),FromC.blk (Blk.new _ _ _) (Nat.le_refl _),zaaZ _ _⟩
theorem zc6Y (op:ByteArray) (w:World):Calls prog 45 #[.string op] w fun e w'=>e=.returned (.bool (decide (op.toList∈cmpL)))∧w'=w:=by
 by_cases h0:op.toList=[60]
 ·have h:=h0
  have e0:(op.toList == [60])=true:=zagY h;have HT:Hid (decide (op.toList∈cmpL)=true):=hZz (by rw [h];decide);clear h h0;go_enter func45,ntmps45
  go_wp2_with (fail)
  go_returns;exact ⟨by rw [HT.out];rfl,rfl⟩
 by_cases h1:op.toList=[60,61]
 ·have h:=h1
  have e0:(op.toList == [60])=false:=zaiZ (by rw [h];decide);have e1:(op.toList == [60,61])=true:=zagY h;have HT:Hid (decide (op.toList∈cmpL)=true):=hZz (by rw [h];decide);clear h h1 h0;go_enter func45,ntmps45
  go_wp2_with (fail)
  go_returns;exact ⟨by rw [HT.out];rfl,rfl⟩
 by_cases h2:op.toList=[62]
 ·have h:=h2
  have e0:(op.toList == [60])=false:=zaiZ (by rw [h];decide);have e1:(op.toList == [60,61])=false:=zaiZ (by rw [h];decide);have e2:(op.toList == [62])=true:=zagY h;have HT:Hid (decide (op.toList∈cmpL)=true):=hZz (by rw [h];decide);clear h h2 h0 h1;go_enter func45,ntmps45
  go_wp2_with (fail)
  go_returns;exact ⟨by rw [HT.out];rfl,rfl⟩
 by_cases h3:op.toList=[62,61]
 ·have h:=h3
  have e0:(op.toList == [60])=false:=zaiZ (by rw [h];decide);have e1:(op.toList == [60,61])=false:=zaiZ (by rw [h];decide);have e2:(op.toList == [62])=false:=zaiZ (by rw [h];decide);have e3:(op.toList == [62,61])=true:=zagY h;have HT:Hid (decide (op.toList∈cmpL)=true):=hZz (by rw [h];decide);clear h h3 h0 h1 h2;go_enter func45,ntmps45
  go_wp2_with (fail)
  go_returns;exact ⟨by rw [HT.out];rfl,rfl⟩
 have e0:(op.toList == [60])=false:=zaiZ h0;have e1:(op.toList == [60,61])=false:=zaiZ h1;have e2:(op.toList == [62])=false:=zaiZ h2;have e3:(op.toList == [62,61])=false:=zaiZ h3;have HT:Hid (decide (op.toList∈cmpL)=false):=hZz (by simp [cmpL,h0,h1,h2,h3]);clear h0 h1 h2 h3;go_enter func45,ntmps45
 go_wp2_with (fail)
 go_returns;exact ⟨by rw [HT.out];rfl,rfl⟩
theorem foperator_any (op:ByteArray) (w:World):Calls prog 42 #[.string op] w fun e w'=>e=.returned (.bool (decide (op.toList∈binL)))∧w'=w:=by
 have HC:=hZz (zc6Y op w);by_cases h0:op.toList=[43]
 ·have h:=h0
  have e0:(op.toList == [43])=true:=zagY h;have HT:Hid (decide (op.toList∈binL)=true):=hZz (by rw [h];decide);clear h h0;go_enter func42,ntmps42
  go_wp2_with (fail)
  go_returns;exact ⟨by rw [HT.out];rfl,rfl⟩
 by_cases h1:op.toList=[45]
 ·have h:=h1
  have e0:(op.toList == [43])=false:=zaiZ (by rw [h];decide);have e1:(op.toList == [45])=true:=zagY h;have HT:Hid (decide (op.toList∈binL)=true):=hZz (by rw [h];decide);clear h h1 h0;go_enter func42,ntmps42
  go_wp2_with (fail)
  go_returns;exact ⟨by rw [HT.out];rfl,rfl⟩
 by_cases h2:op.toList=[42]
 ·have h:=h2
  have e0:(op.toList == [43])=false:=zaiZ (by rw [h];decide);have e1:(op.toList == [45])=false:=zaiZ (by rw [h];decide);have e2:(op.toList == [42])=true:=zagY h;have HT:Hid (decide (op.toList∈binL)=true):=hZz (by rw [h];decide);clear h h2 h0 h1;go_enter func42,ntmps42
  go_wp2_with (fail)
  go_returns;exact ⟨by rw [HT.out];rfl,rfl⟩
 by_cases h3:op.toList=[47]
 ·have h:=h3
  have e0:(op.toList == [43])=false:=zaiZ (by rw [h];decide);have e1:(op.toList == [45])=false:=zaiZ (by rw [h];decide);have e2:(op.toList == [42])=false:=zaiZ (by rw [h];decide);have e3:(op.toList == [47])=true:=zagY h;have HT:Hid (decide (op.toList∈binL)=true):=hZz (by rw [h];decide);clear h h3 h0 h1 h2;go_enter func42,ntmps42
  go_wp2_with (fail)
  go_returns;exact ⟨by rw [HT.out];rfl,rfl⟩
 by_cases h4:op.toList=[37]
 ·have h:=h4
  have e0:(op.toList == [43])=false:=zaiZ (by rw [h];decide);have e1:(op.toList == [45])=false:=zaiZ (by rw [h];decide);have e2:(op.toList == [42])=false:=zaiZ (by rw [h];decide);have e3:(op.toList == [47])=false:=zaiZ (by rw [h];decide);have e4:(op.toList == [37])=true:=zagY h;have HT:Hid (decide (op.toList∈binL)=true):=hZz (by rw [h];decide);clear h h4 h0 h1 h2 h3;go_enter func42,ntmps42
  go_wp2_with (fail)
  go_returns;exact ⟨by rw [HT.out];rfl,rfl⟩
 by_cases h5:op.toList=[61,61]
 ·have h:=h5
  have e0:(op.toList == [43])=false:=zaiZ (by rw [h];decide);have e1:(op.toList == [45])=false:=zaiZ (by rw [h];decide);have e2:(op.toList == [42])=false:=zaiZ (by rw [h];decide);have e3:(op.toList == [47])=false:=zaiZ (by rw [h];decide);have e4:(op.toList == [37])=false:=zaiZ (by rw [h];decide);have e5:(op.toList == [61,61])=true:=zagY h;have HT:Hid (decide (op.toList∈binL)=true):=hZz (by rw [h];decide);clear h h5 h0 h1 h2 h3 h4;go_enter func42,ntmps42
  go_wp2_with (fail)
  go_returns;exact ⟨by rw [HT.out];rfl,rfl⟩
 by_cases h6:op.toList=[33,61]
 ·have h:=h6
  have e0:(op.toList == [43])=false:=zaiZ (by rw [h];decide);have e1:(op.toList == [45])=false:=zaiZ (by rw [h];decide);have e2:(op.toList == [42])=false:=zaiZ (by rw [h];decide);have e3:(op.toList == [47])=false:=zaiZ (by rw [h];decide);have e4:(op.toList == [37])=false:=zaiZ (by rw [h];decide);have e5:(op.toList == [61,61])=false:=zaiZ (by rw [h];decide);have e6:(op.toList == [33,61])=true:=zagY h;have HT:Hid (decide (op.toList∈binL)=true):=hZz (by rw [h];decide);clear h h6 h0 h1 h2 h3 h4 h5;go_enter func42,ntmps42
  go_wp2_with (fail)
  go_returns;exact ⟨by rw [HT.out];rfl,rfl⟩
 have e0:(op.toList == [43])=false:=zaiZ h0;have e1:(op.toList == [45])=false:=zaiZ h1;have e2:(op.toList == [42])=false:=zaiZ h2;have e3:(op.toList == [47])=false:=zaiZ h3;have e4:(op.toList == [37])=false:=zaiZ h4;have e5:(op.toList == [61,61])=false:=zaiZ h5;have e6:(op.toList == [33,61])=false:=zaiZ h6;have HT:Hid (decide (op.toList∈binL)=decide (op.toList∈cmpL)):=hZz (by simp [binL,cmpL,h0,h1,h2,h3,h4,h5,h6]);obtain ⟨t,ht⟩:∃ t,decide (op.toList∈cmpL)=t:=⟨_,rfl⟩
 rw [ht] at HC HT;clear ht h0 h1 h2 h3 h4 h5 h6;go_enter func42,ntmps42
 go_wp2_with (first | (go_at_call 45;(with_reducible refine HC.out.mono ?_);rintro e w1 ⟨rfl,hw⟩;rw [hw];clear hw w1))
 go_returns;exact ⟨by rw [HT.out];rfl,rfl⟩
theorem fordered_any (op:ByteArray) (lt gt:Bool) (w:World):Calls prog 46 #[.string op,.bool lt,.bool gt] w fun e w'=>∃ u,e=.returned u∧ValV w' u [bCel (ordB op.toList lt gt)]∧FromC w w' [] u∧Below w.heap.size w w':=by
 obtain ⟨P,hP⟩:∃ P:Ending→World→Prop,(fun e w'=>∃ u,e=.returned u∧ValV w' u [bCel (ordB op.toList lt gt)]∧FromC w w' [] u∧Below w.heap.size w w')=P:=⟨_,rfl⟩
 rw [hP];have HP:=hZz hP;clear hP;have HC:Hid (∀ b,Calls prog 43 #[.bool b] w fun e w'=>∃ u,e=.returned u∧ValV w' u [bCel b]∧FromC w w' [] u∧Below w.heap.size w w'):=hZz (fun b=>ftruth_any b w);by_cases h0:op.toList=[60]
 ·have h:=h0
  have e0:(op.toList == [60])=true:=zagY h;have HT:Hid (ordB op.toList lt gt=lt):=hZz (by rw [h];rfl);clear h h0;go_enter func46,ntmps46
  go_wp2_with (first | (go_at_call 43;(with_reducible refine (HC.out _).mono ?_);rintro e w1 ⟨u,rfl,hv,hf,hb⟩;have HV:=hZz hv;have HF:=hZz hf;have HB:=hZz hb;clear hv hf hb))
  rw [← HP.out];exact ⟨u,rfl,by rw [HT.out];exact HV.out,HF.out,HB.out⟩
 by_cases h1:op.toList=[60,61]
 ·have h:=h1
  have e0:(op.toList == [60])=false:=zaiZ (by rw [h];decide);have e1:(op.toList == [60,61])=true:=zagY h;have HT:Hid (ordB op.toList lt gt=(!gt)):=hZz (by rw [h];rfl);clear h h1 h0;go_enter func46,ntmps46
  go_wp2_with (first | (go_at_call 43;(with_reducible refine (HC.out _).mono ?_);rintro e w1 ⟨u,rfl,hv,hf,hb⟩;have HV:=hZz hv;have HF:=hZz hf;have HB:=hZz hb;clear hv hf hb))
  rw [← HP.out];exact ⟨u,rfl,by rw [HT.out];exact HV.out,HF.out,HB.out⟩
 by_cases h2:op.toList=[62]
 ·have h:=h2
  have e0:(op.toList == [60])=false:=zaiZ (by rw [h];decide);have e1:(op.toList == [60,61])=false:=zaiZ (by rw [h];decide);have e2:(op.toList == [62])=true:=zagY h;have HT:Hid (ordB op.toList lt gt=gt):=hZz (by rw [h];rfl);clear h h2 h0 h1;go_enter func46,ntmps46
  go_wp2_with (first | (go_at_call 43;(with_reducible refine (HC.out _).mono ?_);rintro e w1 ⟨u,rfl,hv,hf,hb⟩;have HV:=hZz hv;have HF:=hZz hf;have HB:=hZz hb;clear hv hf hb))
  rw [← HP.out];exact ⟨u,rfl,by rw [HT.out];exact HV.out,HF.out,HB.out⟩
 have e0:(op.toList == [60])=false:=zaiZ h0;have e1:(op.toList == [60,61])=false:=zaiZ h1;have e2:(op.toList == [62])=false:=zaiZ h2;have HT:Hid (ordB op.toList lt gt=(!lt)):=hZz (by simp [ordB,h0,h1,h2]);clear h0 h1 h2;go_enter func46,ntmps46
 go_wp2_with (first | (go_at_call 43;(with_reducible refine (HC.out _).mono ?_);rintro e w1 ⟨u,rfl,hv,hf,hb⟩;have HV:=hZz hv;have HF:=hZz hf;have HB:=hZz hb;clear hv hf hb))
 rw [← HP.out];exact ⟨u,rfl,by rw [HT.out];exact HV.out,HF.out,HB.out⟩
set_option maxHeartbeats 4000000 in
theorem zdzY (l:ValD) (v:Value) (w:World) (h:ValV w v l) (hp:Pow w) (ho:OkV l):Calls prog 48 #[v] w (RetR w [v] (limR l)):=by
 obtain ⟨A,cap,rfl,hc,hm,hs⟩:=h.at;have HV:=hZz h;have HC:=hZz (zciY l A cap w hs hp ho.1 ho.2);obtain ⟨P,hP⟩:∃ P:Ending→World→Prop,RetR w [.slice A l.length cap] (limR l)=P:=⟨_,rfl⟩
 rw [hP];have HP:=hZz hP;obtain ⟨n,hn⟩:∃ n,l.length=n:=⟨_,rfl⟩
 rw [hn] at HC HP HV ⊢;obtain ⟨ck,hck⟩:∃ c,checkF l=c:=⟨_,rfl⟩
 rw [hck] at HC;have HCK:=hZz hck;clear h hP hn hck hs hc hm ho hp;by_cases h0:ck=0
 ·have HO:Hid (limR l=(l,0)):=hZz (by unfold limR;rw [HCK.out,if_pos h0])
  subst h0;go_enter func48,ntmps48
  go_wp2_with (first
   | (go_at_call 34;(with_reducible refine HC.out.mono ?_);rintro e w1 ⟨rfl,hb1⟩;have HB:=hZz hb1;clear hb1))
  rw [← HP.out];exact ⟨.slice A n cap,by rw [HO.out];rfl,by rw [HO.out];exact HV.out.below HB.out,FromC.self (by simp),HB.out⟩
 ·have HO:Hid (limR l=([],3)):=hZz (by unfold limR;rw [HCK.out,if_neg h0])
  have h1:(ck != 0)=true:=by simpa using h0
  clear h0;go_enter func48,ntmps48
  go_wp2_with (first
   | (go_at_call 34;(with_reducible refine HC.out.mono ?_);rintro e w1 ⟨rfl,hb1⟩;have HB:=hZz hb1;clear hb1))
  rw [← HP.out];exact ⟨.slice none 0 0,by rw [HO.out];rfl,by rw [HO.out];exact RowsV.nil none 0,FromC.none,HB.out⟩
theorem fintegers_any (op:ByteArray) (a b:Int) (w:World) (ha:inRange a=true) (hb:inRange b=true) (hop:op.toList=[43]∨op.toList=[45]∨op.toList=[42]∨op.toList=[47]∨op.toList=[37]):Calls prog 47 #[.string op,.int .i64 a,.int .i64 b] w (RetR w [] (arithR op.toList a b)):=by
 obtain ⟨P,hP⟩:∃ P:Ending→World→Prop,RetR w [] (arithR op.toList a b)=P:=⟨_,rfl⟩
 rw [hP];have HP:=hZz hP
 have numR_I:∀ n,numR n=if (numI n).2≠0 then ([],8) else ([iCel (numI n).1],0):=fun n=>by
  unfold numR numI;by_cases h:inRange n=true
  ·rw [if_pos h,if_pos h];rfl
  ·rw [if_neg h,if_neg h];rfl
 have numI_2:∀ n,(numI n).2=0∨(numI n).2=8:=fun n=>by
  unfold numI;by_cases h:inRange n=true
  ·rw [if_pos h];exact .inl rfl
  ·rw [if_neg h];exact .inr rfl
 have HAD:=hZz (fadd_any a b w ha hb);have HSU:=hZz (fsub_any a b w ha hb);have HMU:=hZz (fmul_any a b w ha hb);have HDI:=hZz (fdiv_any a b w ha hb);clear hP;rcases hop with h | h | h | h | h
 ·have HR:Hid (arithR op.toList a b=numR (a+b)):=hZz (by rw [h];rfl)
  have e0:(op.toList == [43])=true:=zagY h;have e1:(op.toList == [45])=false:=zaiZ (by rw [h];decide);have e2:(op.toList == [42])=false:=zaiZ (by rw [h];decide);have e3:(op.toList == [47])=false:=zaiZ (by rw [h];decide);have e4:(op.toList == [37])=false:=zaiZ (by rw [h];decide);obtain ⟨⟨n1,n2⟩,hn⟩:∃ n,numI (a+b)=n:=⟨_,rfl⟩
  have hR:=numR_I (a+b);have h2:=numI_2 (a+b);rw [hn] at hR h2 HAD;simp only at hR h2 HAD;clear h ha hb numR_I numI_2 hn;rcases h2 with rfl | rfl
  ·have HR2:Hid (arithR op.toList a b=([iCel n1],0)):=hZz (by rw [HR.out,hR];rfl)
   clear hR;go_enter func47,ntmps47
   go_wp2_with (first | (go_at_call 95;(with_reducible refine HAD.out.mono ?_);rintro e w1 ⟨rfl,hw⟩;rw [hw];clear hw w1))
   rw [← HP.out];exact ⟨_,by rw [HR2.out];rfl,by rw [HR2.out];exact zaoY (c:=iCel n1) (Blk.new _ _ _),FromC.blk (Blk.new _ _ _) (Nat.le_refl _),zaaZ _ _⟩
  ·have HR2:Hid (arithR op.toList a b=([],8)):=hZz (by rw [HR.out,hR];rfl)
   clear hR;go_enter func47,ntmps47
   go_wp2_with (first | (go_at_call 95;(with_reducible refine HAD.out.mono ?_);rintro e w1 ⟨rfl,hw⟩;rw [hw];clear hw w1))
   rw [← HP.out];exact RetR.err HR2.out (Below.refl _ _)
 ·have HR:Hid (arithR op.toList a b=numR (a - b)):=hZz (by rw [h];rfl)
  have e0:(op.toList == [43])=false:=zaiZ (by rw [h];decide);have e1:(op.toList == [45])=true:=zagY h;have e2:(op.toList == [42])=false:=zaiZ (by rw [h];decide);have e3:(op.toList == [47])=false:=zaiZ (by rw [h];decide);have e4:(op.toList == [37])=false:=zaiZ (by rw [h];decide);obtain ⟨⟨n1,n2⟩,hn⟩:∃ n,numI (a - b)=n:=⟨_,rfl⟩
  have hR:=numR_I (a - b);have h2:=numI_2 (a - b);rw [hn] at hR h2 HSU;simp only at hR h2 HSU;clear h ha hb numR_I numI_2 hn;rcases h2 with rfl | rfl
  ·have HR2:Hid (arithR op.toList a b=([iCel n1],0)):=hZz (by rw [HR.out,hR];rfl)
   clear hR;go_enter func47,ntmps47
   go_wp2_with (first | (go_at_call 96;(with_reducible refine HSU.out.mono ?_);rintro e w1 ⟨rfl,hw⟩;rw [hw];clear hw w1))
   rw [← HP.out];exact ⟨_,by rw [HR2.out];rfl,by rw [HR2.out];exact zaoY (c:=iCel n1) (Blk.new _ _ _),FromC.blk (Blk.new _ _ _) (Nat.le_refl _),zaaZ _ _⟩
  ·have HR2:Hid (arithR op.toList a b=([],8)):=hZz (by rw [HR.out,hR];rfl)
   clear hR;go_enter func47,ntmps47
   go_wp2_with (first | (go_at_call 96;(with_reducible refine HSU.out.mono ?_);rintro e w1 ⟨rfl,hw⟩;rw [hw];clear hw w1))
   rw [← HP.out];exact RetR.err HR2.out (Below.refl _ _)
 ·have HR:Hid (arithR op.toList a b=numR (a * b)):=hZz (by rw [h];rfl)
  have e0:(op.toList == [43])=false:=zaiZ (by rw [h];decide);have e1:(op.toList == [45])=false:=zaiZ (by rw [h];decide);have e2:(op.toList == [42])=true:=zagY h;have e3:(op.toList == [47])=false:=zaiZ (by rw [h];decide);have e4:(op.toList == [37])=false:=zaiZ (by rw [h];decide);obtain ⟨⟨n1,n2⟩,hn⟩:∃ n,numI (a * b)=n:=⟨_,rfl⟩
  have hR:=numR_I (a * b);have h2:=numI_2 (a * b);rw [hn] at hR h2 HMU;simp only at hR h2 HMU;clear h ha hb numR_I numI_2 hn;rcases h2 with rfl | rfl
  ·have HR2:Hid (arithR op.toList a b=([iCel n1],0)):=hZz (by rw [HR.out,hR];rfl)
   clear hR;go_enter func47,ntmps47
   go_wp2_with (first | (go_at_call 97;(with_reducible refine HMU.out.mono ?_);rintro e w1 ⟨rfl,hw⟩;rw [hw];clear hw w1))
   rw [← HP.out];exact ⟨_,by rw [HR2.out];rfl,by rw [HR2.out];exact zaoY (c:=iCel n1) (Blk.new _ _ _),FromC.blk (Blk.new _ _ _) (Nat.le_refl _),zaaZ _ _⟩
  ·have HR2:Hid (arithR op.toList a b=([],8)):=hZz (by rw [HR.out,hR];rfl)
   clear hR;go_enter func47,ntmps47
   go_wp2_with (first | (go_at_call 97;(with_reducible refine HMU.out.mono ?_);rintro e w1 ⟨rfl,hw⟩;rw [hw];clear hw w1))
   rw [← HP.out];exact RetR.err HR2.out (Below.refl _ _)
 ·by_cases h0:b=0
  ·have HR:Hid (arithR op.toList a b=([],9)):=hZz (by rw [h,h0];rfl)
   have hd:dmI a b=(0,0,9):=by unfold dmI;rw [if_pos h0]
   rw [hd] at HDI;simp only at HDI;have e0:(op.toList == [43])=false:=zaiZ (by rw [h];decide);have e1:(op.toList == [45])=false:=zaiZ (by rw [h];decide);have e2:(op.toList == [42])=false:=zaiZ (by rw [h];decide);have e3:(op.toList == [47])=true:=zagY h;have e4:(op.toList == [37])=false:=zaiZ (by rw [h];decide);clear h ha hb numR_I numI_2 hd h0;go_enter func47,ntmps47
   go_wp2_with (first | (go_at_call 98;(with_reducible refine HDI.out.mono ?_);rintro e w1 ⟨rfl,hb1⟩;have HB:=hZz hb1;clear hb1))
   rw [← HP.out];exact RetR.err HR.out HB.out
  ·have HR:Hid (arithR op.toList a b=([iCel (a.fdiv b)],0)):=hZz (by rw [h];unfold arithR;simp [h0])
   have hd:dmI a b=(a.fdiv b,a.fmod b,0):=by unfold dmI;rw [if_neg h0]
   rw [hd] at HDI;simp only at HDI;generalize a.fdiv b=q at HDI HR;generalize a.fmod b=m at HDI HR;have e0:(op.toList == [43])=false:=zaiZ (by rw [h];decide);have e1:(op.toList == [45])=false:=zaiZ (by rw [h];decide);have e2:(op.toList == [42])=false:=zaiZ (by rw [h];decide);have e3:(op.toList == [47])=true:=zagY h;have e4:(op.toList == [37])=false:=zaiZ (by rw [h];decide);clear h ha hb numR_I numI_2 hd h0;go_enter func47,ntmps47
   go_wp2_with (first | (go_at_call 98;(with_reducible refine HDI.out.mono ?_);rintro e w1 ⟨rfl,hb1⟩;have HB:=hZz hb1;clear hb1))
   rw [← HP.out];exact ⟨_,by rw [HR.out];rfl,by rw [HR.out];exact zaoY (c:=iCel q) (Blk.new _ _ _),FromC.blk (Blk.new _ _ _) HB.out.size,HB.out.alloc HB.out.size _⟩
 ·by_cases h0:b=0
  ·have HR:Hid (arithR op.toList a b=([],9)):=hZz (by rw [h,h0];rfl)
   have hd:dmI a b=(0,0,9):=by unfold dmI;rw [if_pos h0]
   rw [hd] at HDI;simp only at HDI;have e0:(op.toList == [43])=false:=zaiZ (by rw [h];decide);have e1:(op.toList == [45])=false:=zaiZ (by rw [h];decide);have e2:(op.toList == [42])=false:=zaiZ (by rw [h];decide);have e3:(op.toList == [47])=false:=zaiZ (by rw [h];decide);have e4:(op.toList == [37])=true:=zagY h;clear h ha hb numR_I numI_2 hd h0;go_enter func47,ntmps47
   go_wp2_with (first | (go_at_call 98;(with_reducible refine HDI.out.mono ?_);rintro e w1 ⟨rfl,hb1⟩;have HB:=hZz hb1;clear hb1))
   rw [← HP.out];exact RetR.err HR.out HB.out
  ·have HR:Hid (arithR op.toList a b=([iCel (a.fmod b)],0)):=hZz (by rw [h];unfold arithR;simp [h0])
   have hd:dmI a b=(a.fdiv b,a.fmod b,0):=by unfold dmI;rw [if_neg h0]
   rw [hd] at HDI;simp only at HDI;generalize a.fdiv b=q at HDI HR;generalize a.fmod b=m at HDI HR;have e0:(op.toList == [43])=false:=zaiZ (by rw [h];decide);have e1:(op.toList == [45])=false:=zaiZ (by rw [h];decide);have e2:(op.toList == [42])=false:=zaiZ (by rw [h];decide);have e3:(op.toList == [47])=false:=zaiZ (by rw [h];decide);have e4:(op.toList == [37])=true:=zagY h;clear h ha hb numR_I numI_2 hd h0;go_enter func47,ntmps47
   go_wp2_with (first | (go_at_call 98;(with_reducible refine HDI.out.mono ?_);rintro e w1 ⟨rfl,hb1⟩;have HB:=hZz hb1;clear hb1))
   rw [← HP.out];exact ⟨_,by rw [HR.out];rfl,by rw [HR.out];exact zaoY (c:=iCel m) (Blk.new _ _ _),FromC.blk (Blk.new _ _ _) HB.out.size,HB.out.alloc HB.out.size _⟩
theorem bool_range {c:CellD} {r:ValD} (h:checkF (c :: r)=0) (hk:c.kind=2):c.int=0∨c.int=1:=by
 obtain ⟨s,h0,_⟩:=checkF_zero.1 h;obtain ⟨hp,_⟩:=zdnY h0 (c:=c) rfl;unfold plainB at hp;rw [if_neg (by omega),if_pos hk] at hp;simp only [Bool.and_eq_true,Bool.or_eq_true,decide_eq_true_eq] at hp;exact hp.1
theorem funary_any (op:ByteArray) (l:ValD) (v:Value) (w:World) (h:ValV w v l) (hp:Pow w) (ho:OkV l) :
  Calls prog 12 #[.string op,v] w (RetR w [] (unaryR op l)):=by
 obtain ⟨P,hP⟩:∃ P:Ending→World→Prop,RetR w [] (unaryR op l)=P:=⟨_,rfl⟩
 rw [hP];have HP:=hZz hP;obtain ⟨A,cap,rfl,hcp,hm,hs⟩:=h.at;have HCK0:=zciY l A cap w hs hp ho.1 ho.2;by_cases hop:op.toList=[45]∨op.toList=[110,111,116]
 case neg =>
  have h1:¬ op.toList=[45]:=fun e=>hop (.inl e)
  have h2:¬ op.toList=[110,111,116]:=fun e=>hop (.inr e)
  have h1':=zaiZ h1;have h2':=zaiZ h2;have HR:Hid (unaryR op l=([],4)):=hZz (by unfold unaryR;rw [if_pos hop]);clear hop h hp ho hP HCK0 hs hcp hm;go_enter func12,ntmps12
  go_wp2_with (fail)
  rw [← HP.out];exact RetR.err HR.out (Below.refl _ _)
 by_cases hck:checkF l=0
 case neg =>
  have HR:Hid (unaryR op l=([],checkF l)):=hZz (by unfold unaryR;rw [if_neg (not_not_intro hop),if_pos hck]);obtain ⟨ck,hc⟩:∃ c,checkF l=c:=⟨_,rfl⟩
  obtain ⟨n,hn⟩:∃ n,l.length=n:=⟨_,rfl⟩
  rw [hc] at HCK0 HR hck;rw [hn] at HCK0 ⊢;have HCK:=hZz HCK0;have hck':(ck != 0)=true:=by simpa using hck
  clear hck h hp ho hP hc HCK0 hs hcp hm hn;rcases hop with h1 | h1
  all_goals
   have h1':=zagY h1;go_enter func12,ntmps12
   go_wp2_with (first
    | (go_at_call 34;((with_reducible refine HCK.out.mono ?_);rintro e w1 ⟨rfl,hb1⟩;have HB1:=hZz hb1;clear hb1)))
   rw [← HP.out];exact RetR.err HR.out HB1.out
 obtain ⟨c,r,rfl⟩:∃ c r,l=c :: r:=by
  cases l with
  | nil=>exact absurd rfl (zadY hck)
  | cons c r=>exact ⟨c,r,rfl⟩
 rw [hck] at HCK0;obtain ⟨b,off,n',cap',e,hn',c0,c1,c2,c3⟩:=zaaY h;injection e with e1 e2 e3
 subst e1 e2 e3;have HC0:=hZz c0;have HC1:=hZz c1;have HIR:Hid (c.kind=3→inRange c.int=true):=hZz fun hk=>zbzY hck (by simp) hk
 have HIB:Hid (c.kind=2→c.int=0∨c.int=1):=hZz fun hk=>bool_range hck hk
 have hpos:(0:Int)<(((c :: r).length:Nat):Int):=by simp
 obtain ⟨N,hN⟩:∃ N,(c :: r).length=N:=⟨_,rfl⟩
 rw [hN] at HCK0 hpos ⊢;have HCK:=hZz HCK0
 have HU:Hid (unaryR op (c :: r)=if op.toList=[110,111,116]∧c.kind=2 then ([bCel (decide (c.int=0))],0) else if op.toList=[45]∧c.kind=3 then ([iCel (-c.int)],0) else ([],7)):=hZz (by
  unfold unaryR;rw [if_neg (not_not_intro hop),if_neg (by simpa using hck)])
 obtain ⟨k,i,s,nn⟩:=c;dsimp only at HU HIR HIB HC0 HC1;clear hck h hp ho hP hN c0 c1 c2 c3 HCK0 hs hcp hm hn';rcases hop with h1 | h1
 ·have h1':=zagY h1
  have h2':(op.toList == [110,111,116])=false:=by rw [h1];rfl
  have hne:¬ op.toList=[110,111,116]:=by rw [h1];decide
  have HU2:Hid (unaryR op (⟨k,i,s,nn⟩ :: r)=if k=3 then ([iCel (-i)],0) else ([],7)):=hZz (by rw [HU.out,if_neg (fun e=>hne e.1)];by_cases hk:k=3 <;> simp [h1,hk]);clear h1 hne HU;by_cases hk:k=3
  ·subst hk
   have hir:=HIR.out rfl;simp only [inRange,Bool.and_eq_true,decide_eq_true_eq] at hir;have hw1 : -9223372036854775808≤-i:=by omega
   have hw2 : -i≤9223372036854775807:=by omega
   have HR:Hid (unaryR op (⟨3,i,s,nn⟩ :: r)=([iCel (-i)],0)):=hZz (by rw [HU2.out,if_pos rfl]);clear hir HIR HU2 HIB;go_enter func12,ntmps12
   go_wp2_with (first
    | (go_at_call 34;((with_reducible refine HCK.out.mono ?_);rintro e w1 ⟨rfl,hb1⟩;have HB1:=hZz hb1;have c0:=(hb1.cell (p:=⟨b,off,none⟩) (bLZ HC0.out)).trans HC0.out;have c1:=(hb1.cell (p:=⟨b,off+1,none⟩) (bLZ HC1.out)).trans HC1.out;clear hb1)))
   rw [← HP.out,HR.out];exact ⟨_,rfl,zaoY (c:=iCel (-i)) (Blk.new _ _ _),FromC.blk (Blk.new _ _ _) HB1.out.size,HB1.out.alloc HB1.out.size _⟩
  ·have hk':(k == 3)=false:=by simpa using hk
   have HR:Hid (unaryR op (⟨k,i,s,nn⟩ :: r)=([],7)):=hZz (by rw [HU2.out,if_neg hk]);clear HU2 hk;go_enter func12,ntmps12
   go_wp2_with (first
    | (go_at_call 34;((with_reducible refine HCK.out.mono ?_);rintro e w1 ⟨rfl,hb1⟩;have HB1:=hZz hb1;have c0:=(hb1.cell (p:=⟨b,off,none⟩) (bLZ HC0.out)).trans HC0.out;clear hb1)))
   rw [← HP.out];exact RetR.err HR.out HB1.out
 ·have h1':(op.toList == [45])=false:=by rw [h1];rfl
  have h2':=zagY h1;have hne:¬ op.toList=[45]:=by rw [h1];decide
  have HU2:Hid (unaryR op (⟨k,i,s,nn⟩ :: r)=if k=2 then ([bCel (decide (i=0))],0) else ([],7)):=hZz (by
   rw [HU.out];by_cases hk:k=2
   ·rw [if_pos ⟨h1,hk⟩,if_pos hk]
   ·rw [if_neg (fun e=>hk e.2),if_neg (fun e=>hne e.1),if_neg hk])
  clear h1 hne HU;by_cases hk:k=2
  ·subst hk
   have HR:Hid (unaryR op (⟨2,i,s,nn⟩ :: r)=([bCel (decide (i=0))],0)):=hZz (by rw [HU2.out,if_pos rfl]);rcases HIB.out rfl with rfl | rfl
   all_goals
    clear HU2 HIB HIR;go_enter func12,ntmps12
    go_wp2_with (first
     | (go_at_call 34;((with_reducible refine HCK.out.mono ?_);rintro e w1 ⟨rfl,hb1⟩;have HB1:=hZz hb1;have c0:=(hb1.cell (p:=⟨b,off,none⟩) (bLZ HC0.out)).trans HC0.out;have c1:=(hb1.cell (p:=⟨b,off+1,none⟩) (bLZ HC1.out)).trans HC1.out;clear hb1)))
    rw [← HP.out,HR.out];exact ⟨_,rfl,zaoY (Blk.new _ _ _),FromC.blk (Blk.new _ _ _) HB1.out.size,HB1.out.alloc HB1.out.size _⟩
  ·have hk':(k == 2)=false:=by simpa using hk
   have HR:Hid (unaryR op (⟨k,i,s,nn⟩ :: r)=([],7)):=hZz (by rw [HU2.out,if_neg hk]);clear HU2 hk;go_enter func12,ntmps12
   go_wp2_with (first
    | (go_at_call 34;((with_reducible refine HCK.out.mono ?_);rintro e w1 ⟨rfl,hb1⟩;have HB1:=hZz hb1;have c0:=(hb1.cell (p:=⟨b,off,none⟩) (bLZ HC0.out)).trans HC0.out;clear hb1)))
   rw [← HP.out];exact RetR.err HR.out HB1.out
end Go.Proofs.YtekdhlfapejijaaGreatDoor
