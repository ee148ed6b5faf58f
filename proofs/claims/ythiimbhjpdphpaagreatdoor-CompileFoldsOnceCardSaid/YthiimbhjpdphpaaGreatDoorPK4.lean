/- K4 -/
import Derived.Test.YthiimbhjpdphpaaGreatDoorPK3
import Derived.Test.YthiimbhjpdphpaaGreatDoorPGD6
set_option linter.unusedVariables false
set_option linter.unusedSimpArgs false
namespace Go.Proofs.YthiimbhjpdphpaaGreatDoor
open Go.RowKit
set_option maxRecDepth 100000
attribute [local go_sem] cell_alloc_is
theorem Shaped.row {w:World} (h:Shaped w) (i:Nat) (v0 v1 v2 v3 v4 v5:Value) (h0:shapeCells[i]? = some v0) (h1:shapeCells[i+1]? = some v1) (h2:shapeCells[i+2]? = some v2) (h3:shapeCells[i+3]? = some v3) (h4:shapeCells[i+4]? = some v4) (h5:shapeCells[i+5]? = some v5) :
  w.cell? ⟨0,i,none⟩=some v0∧w.cell? ⟨0,i+1,none⟩=some v1∧w.cell? ⟨0,i+2,none⟩=some v2∧w.cell? ⟨0,i+3,none⟩=some v3∧w.cell? ⟨0,i+4,none⟩=some v4∧w.cell? ⟨0,i+5,none⟩=some v5 :=
 ⟨h _ _ h0,h _ _ h1,h _ _ h2,h _ _ h3,h _ _ h4,h _ _ h5⟩
theorem sz_nil (s:ByteArray):(s.toList != [])=!decide (s.size=0):=by
 by_cases h:s.size=0
 ·rw [(toList_nil s).2 h];simp [h]
 ·have:¬ s.toList=[]:=fun e=>h ((toList_nil s).1 e)
  simp [this,h]
theorem operands_all (op:Int) (h9:1≤op∧op≤20) (nf cap ncap:Nat) (A B:Option Addr) (f:FnD) (a:Int) (s:ByteArray) (keys:List ByteArray) (kv:Value) (w:World) (hnf:nf≤40) (hf:FnSmall f) (hi:InsOk ⟨op,a,s,keys⟩) (hp:Pow w) (hk:KeysV w kv keys) (ni:Nat) (icap:Nat) :
  Calls Tryz.prog 97 #[.agg #[.slice A nf ncap,.slice B ni icap],f.val,.agg #[.int .i64 op,.int .i64 a,.string s,kv]] w fun e w'=>(∃ b,e=.returned (.bool b)∧(b=true↔OpsP nf f ⟨op,a,s,keys⟩))∧Below w.heap.size w w':=by
 have:op=1∨op=2∨op=3∨op=4∨op=5∨op=6∨op=7∨op=8∨op=9∨op=10∨op=11∨op=12∨op=13∨op=14∨op=15∨op=16∨op=17∨op=18∨op=19∨op=20:=by omega
 rcases this with rfl | rfl | rfl | rfl | rfl | rfl | rfl | rfl | rfl | rfl | rfl | rfl | rfl | rfl | rfl | rfl | rfl | rfl | rfl | rfl
 ·exact operands_1 nf cap ncap A B f a s keys kv w hnf hf hi hp hk ni icap
 ·exact operands_2 nf cap ncap A B f a s keys kv w hnf hf hi hp hk ni icap
 ·exact operands_3 nf cap ncap A B f a s keys kv w hnf hf hi hp hk ni icap
 ·exact operands_4 nf cap ncap A B f a s keys kv w hnf hf hi hp hk ni icap
 ·exact operands_5 nf cap ncap A B f a s keys kv w hnf hf hi hp hk ni icap
 ·exact operands_6 nf cap ncap A B f a s keys kv w hnf hf hi hp hk ni icap
 ·exact operands_7 nf cap ncap A B f a s keys kv w hnf hf hi hp hk ni icap
 ·exact operands_8 nf cap ncap A B f a s keys kv w hnf hf hi hp hk ni icap
 ·exact operands_9 nf cap ncap A B f a s keys kv w hnf hf hi hp hk ni icap
 ·exact operands_10 nf cap ncap A B f a s keys kv w hnf hf hi hp hk ni icap
 ·exact operands_11 nf cap ncap A B f a s keys kv w hnf hf hi hp hk ni icap
 ·exact operands_12 nf cap ncap A B f a s keys kv w hnf hf hi hp hk ni icap
 ·exact operands_13 nf cap ncap A B f a s keys kv w hnf hf hi hp hk ni icap
 ·exact operands_14 nf cap ncap A B f a s keys kv w hnf hf hi hp hk ni icap
 ·exact operands_15 nf cap ncap A B f a s keys kv w hnf hf hi hp hk ni icap
 ·exact operands_16 nf cap ncap A B f a s keys kv w hnf hf hi hp hk ni icap
 ·exact operands_17 nf cap ncap A B f a s keys kv w hnf hf hi hp hk ni icap
 ·exact operands_18 nf cap ncap A B f a s keys kv w hnf hf hi hp hk ni icap
 ·exact operands_19 nf cap ncap A B f a s keys kv w hnf hf hi hp hk ni icap
 ·exact operands_20 nf cap ncap A B f a s keys kv w hnf hf hi hp hk ni icap
theorem formedP_1 (op:Int) (h9:op=1∨op=7∨op=10∨op=15∨op=16∨op=20) (nf:Int) (f:FnD) (a:Int) (s:ByteArray) (keys:List ByteArray):FormedP nf f ⟨op,a,s,keys⟩↔a=0∧s.size=0∧keys.length=0∧OpsP nf f ⟨op,a,s,keys⟩:=by
 rcases h9 with rfl | rfl | rfl | rfl | rfl | rfl
 all_goals
  simp [FormedP,OperandP,StrP,KeysP,OpsP,bareB]
  try (constructor <;> (intro h;simp_all <;> omega))
  try (intro _;constructor <;> (rintro ⟨h1,h2⟩;exact ⟨h2,h1⟩))
set_option maxHeartbeats 60000000 in
theorem formed_1 (op:Int) (ix:Nat) (hx:op=1∧ix=6∨op=7∧ix=42∨op=10∧ix=60∨op=15∧ix=90∨op=16∧ix=96∨op=20∧ix=120) (nf ncap:Nat) (A B:Option Addr) (f:FnD) (a:Int) (s:ByteArray) (keys:List ByteArray) (kv:Value) (w:World) (hnf:nf≤40) (hf:FnSmall f) (hi:InsOk ⟨op,a,s,keys⟩) (hp:Pow w) (hS:Shaped w) (hk:KeysV w kv keys) (ni:Nat) (icap:Nat) :
  Calls Tryz.prog 61 #[.agg #[.slice A nf ncap,.slice B ni icap],f.val,.agg #[.int .i64 op,.int .i64 a,.string s,kv]] w fun e w'=>(∃ b,e=.returned (.bool b)∧(b=true↔FormedP nf f ⟨op,a,s,keys⟩))∧Below w.heap.size w w':=by
 have hks:=hi.2.1
 dsimp only at hks
 have hb3:=below_3 w (.cells #[.slice A nf ncap,.slice B ni icap] 31) (.cells #[.string f.name,.int .i64 f.params,.int .i64 f.locals,.int .i64 f.entry,.int .i64 f.fin] 50) (.cells #[.int .i64 op,.int .i64 a,.string s,kv] 53)
 have HB3:=Lib.hid hb3
 have HOP:Hid (∀ wx,Pow wx→KeysV wx kv keys→Calls Tryz.prog 97 #[.agg #[.slice A nf ncap,.slice B ni icap],.agg #[.string f.name,.int .i64 f.params,.int .i64 f.locals,.int .i64 f.entry,.int .i64 f.fin],.agg #[.int .i64 op,.int .i64 a,.string s,kv]] wx fun e w'=>(∃ b,e=.returned (.bool b)∧(b=true↔OpsP nf f ⟨op,a,s,keys⟩))∧Below wx.heap.size wx w'):=Lib.hid (fun wx hpx hkx=>operands_all op (by omega) nf 0 ncap A B f a s keys kv wx hnf hf hi hpx hkx ni icap)
 have HBW:∀ o:Obj,Below w.heap.size w ((((w.alloc (.cells #[.slice A nf ncap,.slice B ni icap] 31)).alloc (.cells #[.string f.name,.int .i64 f.params,.int .i64 f.locals,.int .i64 f.entry,.int .i64 f.fin] 50)).alloc (.cells #[.int .i64 op,.int .i64 a,.string s,kv] 53)).alloc o):=fun o=>hb3.alloc hb3.size o
 have HBO:=Lib.hid HBW
 have HPW:=Lib.hid hp
 have HKV:=Lib.hid hk
 obtain ⟨P,hP⟩:∃ P:Ending→World→Prop,(fun e w'=>(∃ b,e=.returned (.bool b)∧(b=true↔FormedP nf f ⟨op,a,s,keys⟩))∧Below w.heap.size w w')=P:=⟨_,rfl⟩
 rw [hP]
 have HP:=Lib.hid hP
 have HSZ:=Lib.hid (sz_nil s)
 obtain ⟨kA,kcap,rfl,_,_⟩:=hk
 unfold FnD.val
 clear hP hp hb3 HBW hi hf
 have hrow:=hS.row ix
 rcases hx with ⟨rfl,rfl⟩ | ⟨rfl,rfl⟩ | ⟨rfl,rfl⟩ | ⟨rfl,rfl⟩ | ⟨rfl,rfl⟩ | ⟨rfl,rfl⟩
 all_goals
  have hcell:=hrow _ _ _ _ _ _ rfl rfl rfl rfl rfl rfl
  simp only [Nat.reduceAdd] at hcell
  clear hS hrow
  by_cases hc0:a=0
  ·have H0:Hid (a=0):=Lib.hid hc0
   have hc0':(a != 0)=false:=by simpa using hc0
   clear hc0
   by_cases hc1:s.size=0
   ·have H1:Hid (s.size=0):=Lib.hid hc1
    have hc1':s.toList=[]:=(toList_nil s).2 hc1
    clear hc1
    by_cases hc2:keys.length=0
    ·have H2:Hid (keys.length=0):=Lib.hid hc2
     have hc2':¬ 0<keys.length:=by omega
     clear hc2
     go_enter Tryz.func61,Tryz.ntmps61
     go_wp2_with (first
      | (go_at_call 96;go_enter Tryz.func96,Tryz.ntmps96)
      | (go_at_call 97;(with_reducible refine (HOP.out _ (HPW.out.below (HBO.out _)) (HKV.out.below (HBO.out _))).mono ?_);rintro e w1 ⟨⟨b,rfl,hb⟩,hb1⟩;have HB1:=Lib.hid (below_call hb1 (HBO.out _));have HBQ:=Lib.hid hb;clear hb hb1))
     rw [← HP.out]
     exact ⟨⟨b,rfl,by rw [HBQ.out,formedP_1 _ (by simp)];simp [H0.out,H1.out,H2.out]⟩,HB1.out⟩
    ·have HN2:Hid (¬ keys.length=0):=Lib.hid hc2
     have hc2':0<keys.length:=by omega
     clear hc2
     go_enter Tryz.func61,Tryz.ntmps61
     go_wp2_with (first
      | (go_at_call 96;go_enter Tryz.func96,Tryz.ntmps96)
      | (go_at_call 97;(with_reducible refine (HOP.out _ (HPW.out.below (HBO.out _)) (HKV.out.below (HBO.out _))).mono ?_);rintro e w1 ⟨⟨b,rfl,hb⟩,hb1⟩;have HB1:=Lib.hid (below_call hb1 (HBO.out _));have HBQ:=Lib.hid hb;clear hb hb1))
     rw [← HP.out]
     exact ⟨⟨false,rfl,by rw [formedP_1 _ (by simp)];exact ⟨fun h=>(by cases h),fun h=>absurd h.2.2.1 HN2.out⟩⟩,HBO.out _⟩
   ·have HN1:Hid (¬ s.size=0):=Lib.hid hc1
    have hc1':¬ s.toList=[]:=fun e=>hc1 ((toList_nil s).1 e)
    clear hc1
    go_enter Tryz.func61,Tryz.ntmps61
    go_wp2_with (first
     | (go_at_call 96;go_enter Tryz.func96,Tryz.ntmps96)
     | (go_at_call 97;(with_reducible refine (HOP.out _ (HPW.out.below (HBO.out _)) (HKV.out.below (HBO.out _))).mono ?_);rintro e w1 ⟨⟨b,rfl,hb⟩,hb1⟩;have HB1:=Lib.hid (below_call hb1 (HBO.out _));have HBQ:=Lib.hid hb;clear hb hb1))
    rw [← HP.out]
    exact ⟨⟨false,rfl,by rw [formedP_1 _ (by simp)];exact ⟨fun h=>(by cases h),fun h=>absurd h.2.1 HN1.out⟩⟩,HBO.out _⟩
  ·have HN0:Hid (¬ a=0):=Lib.hid hc0
   have hc0':(a != 0)=true:=by simpa using hc0
   clear hc0
   go_enter Tryz.func61,Tryz.ntmps61
   go_wp2_with (first
    | (go_at_call 96;go_enter Tryz.func96,Tryz.ntmps96)
    | (go_at_call 97;(with_reducible refine (HOP.out _ (HPW.out.below (HBO.out _)) (HKV.out.below (HBO.out _))).mono ?_);rintro e w1 ⟨⟨b,rfl,hb⟩,hb1⟩;have HB1:=Lib.hid (below_call hb1 (HBO.out _));have HBQ:=Lib.hid hb;clear hb hb1))
   rw [← HP.out]
   exact ⟨⟨false,rfl,by rw [formedP_1 _ (by simp)];exact ⟨fun h=>(by cases h),fun h=>absurd h.1 HN0.out⟩⟩,HBO.out _⟩
theorem formedP_2 (op:Int) (h9:op=2∨op=3∨op=5∨op=6∨op=11∨op=13∨op=14∨op=17) (nf:Int) (f:FnD) (a:Int) (s:ByteArray) (keys:List ByteArray):FormedP nf f ⟨op,a,s,keys⟩↔s.size=0∧keys.length=0∧OpsP nf f ⟨op,a,s,keys⟩:=by
 rcases h9 with rfl | rfl | rfl | rfl | rfl | rfl | rfl | rfl
 all_goals
  simp [FormedP,OperandP,StrP,KeysP,OpsP,bareB]
  try (constructor <;> (intro h;simp_all <;> omega))
  try (intro _;constructor <;> (rintro ⟨h1,h2⟩;exact ⟨h2,h1⟩))
set_option maxHeartbeats 60000000 in
theorem formed_2 (op:Int) (ix:Nat) (hx:op=2∧ix=12∨op=3∧ix=18∨op=5∧ix=30∨op=6∧ix=36∨op=11∧ix=66∨op=13∧ix=78∨op=14∧ix=84∨op=17∧ix=102) (nf ncap:Nat) (A B:Option Addr) (f:FnD) (a:Int) (s:ByteArray) (keys:List ByteArray) (kv:Value) (w:World) (hnf:nf≤40) (hf:FnSmall f) (hi:InsOk ⟨op,a,s,keys⟩) (hp:Pow w) (hS:Shaped w) (hk:KeysV w kv keys) (ni:Nat) (icap:Nat) :
  Calls Tryz.prog 61 #[.agg #[.slice A nf ncap,.slice B ni icap],f.val,.agg #[.int .i64 op,.int .i64 a,.string s,kv]] w fun e w'=>(∃ b,e=.returned (.bool b)∧(b=true↔FormedP nf f ⟨op,a,s,keys⟩))∧Below w.heap.size w w':=by
 have hks:=hi.2.1
 dsimp only at hks
 have hb3:=below_3 w (.cells #[.slice A nf ncap,.slice B ni icap] 31) (.cells #[.string f.name,.int .i64 f.params,.int .i64 f.locals,.int .i64 f.entry,.int .i64 f.fin] 50) (.cells #[.int .i64 op,.int .i64 a,.string s,kv] 53)
 have HB3:=Lib.hid hb3
 have HOP:Hid (∀ wx,Pow wx→KeysV wx kv keys→Calls Tryz.prog 97 #[.agg #[.slice A nf ncap,.slice B ni icap],.agg #[.string f.name,.int .i64 f.params,.int .i64 f.locals,.int .i64 f.entry,.int .i64 f.fin],.agg #[.int .i64 op,.int .i64 a,.string s,kv]] wx fun e w'=>(∃ b,e=.returned (.bool b)∧(b=true↔OpsP nf f ⟨op,a,s,keys⟩))∧Below wx.heap.size wx w'):=Lib.hid (fun wx hpx hkx=>operands_all op (by omega) nf 0 ncap A B f a s keys kv wx hnf hf hi hpx hkx ni icap)
 have HBW:∀ o:Obj,Below w.heap.size w ((((w.alloc (.cells #[.slice A nf ncap,.slice B ni icap] 31)).alloc (.cells #[.string f.name,.int .i64 f.params,.int .i64 f.locals,.int .i64 f.entry,.int .i64 f.fin] 50)).alloc (.cells #[.int .i64 op,.int .i64 a,.string s,kv] 53)).alloc o):=fun o=>hb3.alloc hb3.size o
 have HBO:=Lib.hid HBW
 have HPW:=Lib.hid hp
 have HKV:=Lib.hid hk
 obtain ⟨P,hP⟩:∃ P:Ending→World→Prop,(fun e w'=>(∃ b,e=.returned (.bool b)∧(b=true↔FormedP nf f ⟨op,a,s,keys⟩))∧Below w.heap.size w w')=P:=⟨_,rfl⟩
 rw [hP]
 have HP:=Lib.hid hP
 have HSZ:=Lib.hid (sz_nil s)
 obtain ⟨kA,kcap,rfl,_,_⟩:=hk
 unfold FnD.val
 clear hP hp hb3 HBW hi hf
 have hrow:=hS.row ix
 rcases hx with ⟨rfl,rfl⟩ | ⟨rfl,rfl⟩ | ⟨rfl,rfl⟩ | ⟨rfl,rfl⟩ | ⟨rfl,rfl⟩ | ⟨rfl,rfl⟩ | ⟨rfl,rfl⟩ | ⟨rfl,rfl⟩
 all_goals
  have hcell:=hrow _ _ _ _ _ _ rfl rfl rfl rfl rfl rfl
  simp only [Nat.reduceAdd] at hcell
  clear hS hrow
  by_cases hc0:s.size=0
  ·have H0:Hid (s.size=0):=Lib.hid hc0
   have hc0':s.toList=[]:=(toList_nil s).2 hc0
   clear hc0
   by_cases hc1:keys.length=0
   ·have H1:Hid (keys.length=0):=Lib.hid hc1
    have hc1':¬ 0<keys.length:=by omega
    clear hc1
    go_enter Tryz.func61,Tryz.ntmps61
    go_wp2_with (first
     | (go_at_call 96;go_enter Tryz.func96,Tryz.ntmps96)
     | (go_at_call 97;(with_reducible refine (HOP.out _ (HPW.out.below (HBO.out _)) (HKV.out.below (HBO.out _))).mono ?_);rintro e w1 ⟨⟨b,rfl,hb⟩,hb1⟩;have HB1:=Lib.hid (below_call hb1 (HBO.out _));have HBQ:=Lib.hid hb;clear hb hb1))
    rw [← HP.out]
    exact ⟨⟨b,rfl,by rw [HBQ.out,formedP_2 _ (by simp)];simp [H0.out,H1.out]⟩,HB1.out⟩
   ·have HN1:Hid (¬ keys.length=0):=Lib.hid hc1
    have hc1':0<keys.length:=by omega
    clear hc1
    go_enter Tryz.func61,Tryz.ntmps61
    go_wp2_with (first
     | (go_at_call 96;go_enter Tryz.func96,Tryz.ntmps96)
     | (go_at_call 97;(with_reducible refine (HOP.out _ (HPW.out.below (HBO.out _)) (HKV.out.below (HBO.out _))).mono ?_);rintro e w1 ⟨⟨b,rfl,hb⟩,hb1⟩;have HB1:=Lib.hid (below_call hb1 (HBO.out _));have HBQ:=Lib.hid hb;clear hb hb1))
    rw [← HP.out]
    exact ⟨⟨false,rfl,by rw [formedP_2 _ (by simp)];exact ⟨fun h=>(by cases h),fun h=>absurd h.2.1 HN1.out⟩⟩,HBO.out _⟩
  ·have HN0:Hid (¬ s.size=0):=Lib.hid hc0
   have hc0':¬ s.toList=[]:=fun e=>hc0 ((toList_nil s).1 e)
   clear hc0
   go_enter Tryz.func61,Tryz.ntmps61
   go_wp2_with (first
    | (go_at_call 96;go_enter Tryz.func96,Tryz.ntmps96)
    | (go_at_call 97;(with_reducible refine (HOP.out _ (HPW.out.below (HBO.out _)) (HKV.out.below (HBO.out _))).mono ?_);rintro e w1 ⟨⟨b,rfl,hb⟩,hb1⟩;have HB1:=Lib.hid (below_call hb1 (HBO.out _));have HBQ:=Lib.hid hb;clear hb hb1))
   rw [← HP.out]
   exact ⟨⟨false,rfl,by rw [formedP_2 _ (by simp)];exact ⟨fun h=>(by cases h),fun h=>absurd h.1 HN0.out⟩⟩,HBO.out _⟩
theorem formedP_4 (op:Int) (h9:op=4∨op=8∨op=9) (nf:Int) (f:FnD) (a:Int) (s:ByteArray) (keys:List ByteArray):FormedP nf f ⟨op,a,s,keys⟩↔a=0∧keys.length=0∧OpsP nf f ⟨op,a,s,keys⟩:=by
 rcases h9 with rfl | rfl | rfl
 all_goals
  simp [FormedP,OperandP,StrP,KeysP,OpsP,bareB]
  try (constructor <;> (intro h;simp_all <;> omega))
  try (intro _;constructor <;> (rintro ⟨h1,h2⟩;exact ⟨h2,h1⟩))
set_option maxHeartbeats 60000000 in
theorem formed_4 (op:Int) (ix:Nat) (hx:op=4∧ix=24∨op=8∧ix=48∨op=9∧ix=54) (nf ncap:Nat) (A B:Option Addr) (f:FnD) (a:Int) (s:ByteArray) (keys:List ByteArray) (kv:Value) (w:World) (hnf:nf≤40) (hf:FnSmall f) (hi:InsOk ⟨op,a,s,keys⟩) (hp:Pow w) (hS:Shaped w) (hk:KeysV w kv keys) (ni:Nat) (icap:Nat) :
  Calls Tryz.prog 61 #[.agg #[.slice A nf ncap,.slice B ni icap],f.val,.agg #[.int .i64 op,.int .i64 a,.string s,kv]] w fun e w'=>(∃ b,e=.returned (.bool b)∧(b=true↔FormedP nf f ⟨op,a,s,keys⟩))∧Below w.heap.size w w':=by
 have hks:=hi.2.1
 dsimp only at hks
 have hb3:=below_3 w (.cells #[.slice A nf ncap,.slice B ni icap] 31) (.cells #[.string f.name,.int .i64 f.params,.int .i64 f.locals,.int .i64 f.entry,.int .i64 f.fin] 50) (.cells #[.int .i64 op,.int .i64 a,.string s,kv] 53)
 have HB3:=Lib.hid hb3
 have HOP:Hid (∀ wx,Pow wx→KeysV wx kv keys→Calls Tryz.prog 97 #[.agg #[.slice A nf ncap,.slice B ni icap],.agg #[.string f.name,.int .i64 f.params,.int .i64 f.locals,.int .i64 f.entry,.int .i64 f.fin],.agg #[.int .i64 op,.int .i64 a,.string s,kv]] wx fun e w'=>(∃ b,e=.returned (.bool b)∧(b=true↔OpsP nf f ⟨op,a,s,keys⟩))∧Below wx.heap.size wx w'):=Lib.hid (fun wx hpx hkx=>operands_all op (by omega) nf 0 ncap A B f a s keys kv wx hnf hf hi hpx hkx ni icap)
 have HBW:∀ o:Obj,Below w.heap.size w ((((w.alloc (.cells #[.slice A nf ncap,.slice B ni icap] 31)).alloc (.cells #[.string f.name,.int .i64 f.params,.int .i64 f.locals,.int .i64 f.entry,.int .i64 f.fin] 50)).alloc (.cells #[.int .i64 op,.int .i64 a,.string s,kv] 53)).alloc o):=fun o=>hb3.alloc hb3.size o
 have HBO:=Lib.hid HBW
 have HPW:=Lib.hid hp
 have HKV:=Lib.hid hk
 obtain ⟨P,hP⟩:∃ P:Ending→World→Prop,(fun e w'=>(∃ b,e=.returned (.bool b)∧(b=true↔FormedP nf f ⟨op,a,s,keys⟩))∧Below w.heap.size w w')=P:=⟨_,rfl⟩
 rw [hP]
 have HP:=Lib.hid hP
 have HSZ:=Lib.hid (sz_nil s)
 obtain ⟨kA,kcap,rfl,_,_⟩:=hk
 unfold FnD.val
 clear hP hp hb3 HBW hi hf
 have hrow:=hS.row ix
 rcases hx with ⟨rfl,rfl⟩ | ⟨rfl,rfl⟩ | ⟨rfl,rfl⟩
 all_goals
  have hcell:=hrow _ _ _ _ _ _ rfl rfl rfl rfl rfl rfl
  simp only [Nat.reduceAdd] at hcell
  clear hS hrow
  by_cases hc0:a=0
  ·have H0:Hid (a=0):=Lib.hid hc0
   have hc0':(a != 0)=false:=by simpa using hc0
   clear hc0
   by_cases hc1:keys.length=0
   ·have H1:Hid (keys.length=0):=Lib.hid hc1
    have hc1':¬ 0<keys.length:=by omega
    clear hc1
    go_enter Tryz.func61,Tryz.ntmps61
    go_wp2_with (first
     | (go_at_call 96;go_enter Tryz.func96,Tryz.ntmps96)
     | (go_at_call 97;(with_reducible refine (HOP.out _ (HPW.out.below (HBO.out _)) (HKV.out.below (HBO.out _))).mono ?_);rintro e w1 ⟨⟨b,rfl,hb⟩,hb1⟩;have HB1:=Lib.hid (below_call hb1 (HBO.out _));have HBQ:=Lib.hid hb;clear hb hb1))
    rw [← HP.out]
    exact ⟨⟨b,rfl,by rw [HBQ.out,formedP_4 _ (by simp)];simp [H0.out,H1.out]⟩,HB1.out⟩
   ·have HN1:Hid (¬ keys.length=0):=Lib.hid hc1
    have hc1':0<keys.length:=by omega
    clear hc1
    go_enter Tryz.func61,Tryz.ntmps61
    go_wp2_with (first
     | (go_at_call 96;go_enter Tryz.func96,Tryz.ntmps96)
     | (go_at_call 97;(with_reducible refine (HOP.out _ (HPW.out.below (HBO.out _)) (HKV.out.below (HBO.out _))).mono ?_);rintro e w1 ⟨⟨b,rfl,hb⟩,hb1⟩;have HB1:=Lib.hid (below_call hb1 (HBO.out _));have HBQ:=Lib.hid hb;clear hb hb1))
    rw [← HP.out]
    exact ⟨⟨false,rfl,by rw [formedP_4 _ (by simp)];exact ⟨fun h=>(by cases h),fun h=>absurd h.2.1 HN1.out⟩⟩,HBO.out _⟩
  ·have HN0:Hid (¬ a=0):=Lib.hid hc0
   have hc0':(a != 0)=true:=by simpa using hc0
   clear hc0
   go_enter Tryz.func61,Tryz.ntmps61
   go_wp2_with (first
    | (go_at_call 96;go_enter Tryz.func96,Tryz.ntmps96)
    | (go_at_call 97;(with_reducible refine (HOP.out _ (HPW.out.below (HBO.out _)) (HKV.out.below (HBO.out _))).mono ?_);rintro e w1 ⟨⟨b,rfl,hb⟩,hb1⟩;have HB1:=Lib.hid (below_call hb1 (HBO.out _));have HBQ:=Lib.hid hb;clear hb hb1))
   rw [← HP.out]
   exact ⟨⟨false,rfl,by rw [formedP_4 _ (by simp)];exact ⟨fun h=>(by cases h),fun h=>absurd h.1 HN0.out⟩⟩,HBO.out _⟩
theorem formedP_12 (op:Int) (h9:op=12) (nf:Int) (f:FnD) (a:Int) (s:ByteArray) (keys:List ByteArray):FormedP nf f ⟨op,a,s,keys⟩↔s.size=0∧OpsP nf f ⟨op,a,s,keys⟩:=by
 rcases h9 with rfl
 all_goals
  simp [FormedP,OperandP,StrP,KeysP,OpsP,bareB]
  try (constructor <;> (intro h;simp_all <;> omega))
  try (intro _;constructor <;> (rintro ⟨h1,h2⟩;exact ⟨h2,h1⟩))
set_option maxHeartbeats 60000000 in
theorem formed_12 (op:Int) (ix:Nat) (hx:op=12∧ix=72) (nf ncap:Nat) (A B:Option Addr) (f:FnD) (a:Int) (s:ByteArray) (keys:List ByteArray) (kv:Value) (w:World) (hnf:nf≤40) (hf:FnSmall f) (hi:InsOk ⟨op,a,s,keys⟩) (hp:Pow w) (hS:Shaped w) (hk:KeysV w kv keys) (ni:Nat) (icap:Nat) :
  Calls Tryz.prog 61 #[.agg #[.slice A nf ncap,.slice B ni icap],f.val,.agg #[.int .i64 op,.int .i64 a,.string s,kv]] w fun e w'=>(∃ b,e=.returned (.bool b)∧(b=true↔FormedP nf f ⟨op,a,s,keys⟩))∧Below w.heap.size w w':=by
 have hks:=hi.2.1
 dsimp only at hks
 have hb3:=below_3 w (.cells #[.slice A nf ncap,.slice B ni icap] 31) (.cells #[.string f.name,.int .i64 f.params,.int .i64 f.locals,.int .i64 f.entry,.int .i64 f.fin] 50) (.cells #[.int .i64 op,.int .i64 a,.string s,kv] 53)
 have HB3:=Lib.hid hb3
 have HOP:Hid (∀ wx,Pow wx→KeysV wx kv keys→Calls Tryz.prog 97 #[.agg #[.slice A nf ncap,.slice B ni icap],.agg #[.string f.name,.int .i64 f.params,.int .i64 f.locals,.int .i64 f.entry,.int .i64 f.fin],.agg #[.int .i64 op,.int .i64 a,.string s,kv]] wx fun e w'=>(∃ b,e=.returned (.bool b)∧(b=true↔OpsP nf f ⟨op,a,s,keys⟩))∧Below wx.heap.size wx w'):=Lib.hid (fun wx hpx hkx=>operands_all op (by omega) nf 0 ncap A B f a s keys kv wx hnf hf hi hpx hkx ni icap)
 have HBW:∀ o:Obj,Below w.heap.size w ((((w.alloc (.cells #[.slice A nf ncap,.slice B ni icap] 31)).alloc (.cells #[.string f.name,.int .i64 f.params,.int .i64 f.locals,.int .i64 f.entry,.int .i64 f.fin] 50)).alloc (.cells #[.int .i64 op,.int .i64 a,.string s,kv] 53)).alloc o):=fun o=>hb3.alloc hb3.size o
 have HBO:=Lib.hid HBW
 have HPW:=Lib.hid hp
 have HKV:=Lib.hid hk
 obtain ⟨P,hP⟩:∃ P:Ending→World→Prop,(fun e w'=>(∃ b,e=.returned (.bool b)∧(b=true↔FormedP nf f ⟨op,a,s,keys⟩))∧Below w.heap.size w w')=P:=⟨_,rfl⟩
 rw [hP]
 have HP:=Lib.hid hP
 have HSZ:=Lib.hid (sz_nil s)
 obtain ⟨kA,kcap,rfl,_,_⟩:=hk
 unfold FnD.val
 clear hP hp hb3 HBW hi hf
 have hrow:=hS.row ix
 rcases hx with ⟨rfl,rfl⟩
 all_goals
  have hcell:=hrow _ _ _ _ _ _ rfl rfl rfl rfl rfl rfl
  simp only [Nat.reduceAdd] at hcell
  clear hS hrow
  by_cases hc0:s.size=0
  ·have H0:Hid (s.size=0):=Lib.hid hc0
   have hc0':s.toList=[]:=(toList_nil s).2 hc0
   clear hc0
   go_enter Tryz.func61,Tryz.ntmps61
   go_wp2_with (first
    | (go_at_call 96;go_enter Tryz.func96,Tryz.ntmps96)
    | (go_at_call 97;(with_reducible refine (HOP.out _ (HPW.out.below (HBO.out _)) (HKV.out.below (HBO.out _))).mono ?_);rintro e w1 ⟨⟨b,rfl,hb⟩,hb1⟩;have HB1:=Lib.hid (below_call hb1 (HBO.out _));have HBQ:=Lib.hid hb;clear hb hb1))
   rw [← HP.out]
   exact ⟨⟨b,rfl,by rw [HBQ.out,formedP_12 _ (by simp)];simp [H0.out]⟩,HB1.out⟩
  ·have HN0:Hid (¬ s.size=0):=Lib.hid hc0
   have hc0':¬ s.toList=[]:=fun e=>hc0 ((toList_nil s).1 e)
   clear hc0
   go_enter Tryz.func61,Tryz.ntmps61
   go_wp2_with (first
    | (go_at_call 96;go_enter Tryz.func96,Tryz.ntmps96)
    | (go_at_call 97;(with_reducible refine (HOP.out _ (HPW.out.below (HBO.out _)) (HKV.out.below (HBO.out _))).mono ?_);rintro e w1 ⟨⟨b,rfl,hb⟩,hb1⟩;have HB1:=Lib.hid (below_call hb1 (HBO.out _));have HBQ:=Lib.hid hb;clear hb hb1))
   rw [← HP.out]
   exact ⟨⟨false,rfl,by rw [formedP_12 _ (by simp)];exact ⟨fun h=>(by cases h),fun h=>absurd h.1 HN0.out⟩⟩,HBO.out _⟩
theorem formedP_18 (op:Int) (h9:op=18∨op=19) (nf:Int) (f:FnD) (a:Int) (s:ByteArray) (keys:List ByteArray):FormedP nf f ⟨op,a,s,keys⟩↔keys.length=0∧OpsP nf f ⟨op,a,s,keys⟩:=by
 rcases h9 with rfl | rfl
 all_goals
  simp [FormedP,OperandP,StrP,KeysP,OpsP,bareB]
  try (constructor <;> (intro h;simp_all <;> omega))
  try (intro _;constructor <;> (rintro ⟨h1,h2⟩;exact ⟨h2,h1⟩))
set_option maxHeartbeats 60000000 in
theorem formed_18 (op:Int) (ix:Nat) (hx:op=18∧ix=108∨op=19∧ix=114) (nf ncap:Nat) (A B:Option Addr) (f:FnD) (a:Int) (s:ByteArray) (keys:List ByteArray) (kv:Value) (w:World) (hnf:nf≤40) (hf:FnSmall f) (hi:InsOk ⟨op,a,s,keys⟩) (hp:Pow w) (hS:Shaped w) (hk:KeysV w kv keys) (ni:Nat) (icap:Nat) :
  Calls Tryz.prog 61 #[.agg #[.slice A nf ncap,.slice B ni icap],f.val,.agg #[.int .i64 op,.int .i64 a,.string s,kv]] w fun e w'=>(∃ b,e=.returned (.bool b)∧(b=true↔FormedP nf f ⟨op,a,s,keys⟩))∧Below w.heap.size w w':=by
 have hks:=hi.2.1
 dsimp only at hks
 have hb3:=below_3 w (.cells #[.slice A nf ncap,.slice B ni icap] 31) (.cells #[.string f.name,.int .i64 f.params,.int .i64 f.locals,.int .i64 f.entry,.int .i64 f.fin] 50) (.cells #[.int .i64 op,.int .i64 a,.string s,kv] 53)
 have HB3:=Lib.hid hb3
 have HOP:Hid (∀ wx,Pow wx→KeysV wx kv keys→Calls Tryz.prog 97 #[.agg #[.slice A nf ncap,.slice B ni icap],.agg #[.string f.name,.int .i64 f.params,.int .i64 f.locals,.int .i64 f.entry,.int .i64 f.fin],.agg #[.int .i64 op,.int .i64 a,.string s,kv]] wx fun e w'=>(∃ b,e=.returned (.bool b)∧(b=true↔OpsP nf f ⟨op,a,s,keys⟩))∧Below wx.heap.size wx w'):=Lib.hid (fun wx hpx hkx=>operands_all op (by omega) nf 0 ncap A B f a s keys kv wx hnf hf hi hpx hkx ni icap)
 have HBW:∀ o:Obj,Below w.heap.size w ((((w.alloc (.cells #[.slice A nf ncap,.slice B ni icap] 31)).alloc (.cells #[.string f.name,.int .i64 f.params,.int .i64 f.locals,.int .i64 f.entry,.int .i64 f.fin] 50)).alloc (.cells #[.int .i64 op,.int .i64 a,.string s,kv] 53)).alloc o):=fun o=>hb3.alloc hb3.size o
 have HBO:=Lib.hid HBW
 have HPW:=Lib.hid hp
 have HKV:=Lib.hid hk
 obtain ⟨P,hP⟩:∃ P:Ending→World→Prop,(fun e w'=>(∃ b,e=.returned (.bool b)∧(b=true↔FormedP nf f ⟨op,a,s,keys⟩))∧Below w.heap.size w w')=P:=⟨_,rfl⟩
 rw [hP]
 have HP:=Lib.hid hP
 have HSZ:=Lib.hid (sz_nil s)
 obtain ⟨kA,kcap,rfl,_,_⟩:=hk
 unfold FnD.val
 clear hP hp hb3 HBW hi hf
 have hrow:=hS.row ix
 rcases hx with ⟨rfl,rfl⟩ | ⟨rfl,rfl⟩
 all_goals
  have hcell:=hrow _ _ _ _ _ _ rfl rfl rfl rfl rfl rfl
  simp only [Nat.reduceAdd] at hcell
  clear hS hrow
  by_cases hc0:keys.length=0
  ·have H0:Hid (keys.length=0):=Lib.hid hc0
   have hc0':¬ 0<keys.length:=by omega
   clear hc0
   go_enter Tryz.func61,Tryz.ntmps61
   go_wp2_with (first
    | (go_at_call 96;go_enter Tryz.func96,Tryz.ntmps96)
    | (go_at_call 97;(with_reducible refine (HOP.out _ (HPW.out.below (HBO.out _)) (HKV.out.below (HBO.out _))).mono ?_);rintro e w1 ⟨⟨b,rfl,hb⟩,hb1⟩;have HB1:=Lib.hid (below_call hb1 (HBO.out _));have HBQ:=Lib.hid hb;clear hb hb1))
   rw [← HP.out]
   exact ⟨⟨b,rfl,by rw [HBQ.out,formedP_18 _ (by simp)];simp [H0.out]⟩,HB1.out⟩
  ·have HN0:Hid (¬ keys.length=0):=Lib.hid hc0
   have hc0':0<keys.length:=by omega
   clear hc0
   go_enter Tryz.func61,Tryz.ntmps61
   go_wp2_with (first
    | (go_at_call 96;go_enter Tryz.func96,Tryz.ntmps96)
    | (go_at_call 97;(with_reducible refine (HOP.out _ (HPW.out.below (HBO.out _)) (HKV.out.below (HBO.out _))).mono ?_);rintro e w1 ⟨⟨b,rfl,hb⟩,hb1⟩;have HB1:=Lib.hid (below_call hb1 (HBO.out _));have HBQ:=Lib.hid hb;clear hb hb1))
   rw [← HP.out]
   exact ⟨⟨false,rfl,by rw [formedP_18 _ (by simp)];exact ⟨fun h=>(by cases h),fun h=>absurd h.1 HN0.out⟩⟩,HBO.out _⟩
theorem cformed_any (nf ncap:Nat) (A B:Option Addr) (f:FnD) (i:InsD) (kv:Value) (w:World) (hnf:nf≤40) (hf:FnSmall f) (hi:InsOk i) (hp:Pow w) (hS:Shaped w) (hk:KeysV w kv i.keys) (ni:Nat) (icap:Nat) :
  Calls Tryz.prog 61 #[.agg #[.slice A nf ncap,.slice B ni icap],f.val,.agg #[.int .i64 i.op,.int .i64 i.a,.string i.s,kv]] w fun e w'=>(∃ b,e=.returned (.bool b)∧(b=true↔FormedP nf f i))∧Below w.heap.size w w':=by
 obtain ⟨op,a,s,keys⟩:=i
 by_cases h:1≤op∧op≤20
 ·have:op=1∨op=2∨op=3∨op=4∨op=5∨op=6∨op=7∨op=8∨op=9∨op=10∨op=11∨op=12∨op=13∨op=14∨op=15∨op=16∨op=17∨op=18∨op=19∨op=20:=by omega
  rcases this with rfl | rfl | rfl | rfl | rfl | rfl | rfl | rfl | rfl | rfl | rfl | rfl | rfl | rfl | rfl | rfl | rfl | rfl | rfl | rfl
  ·exact formed_1 _ 6 (by simp) nf ncap A B f a s keys kv w hnf hf hi hp hS hk ni icap
  ·exact formed_2 _ 12 (by simp) nf ncap A B f a s keys kv w hnf hf hi hp hS hk ni icap
  ·exact formed_2 _ 18 (by simp) nf ncap A B f a s keys kv w hnf hf hi hp hS hk ni icap
  ·exact formed_4 _ 24 (by simp) nf ncap A B f a s keys kv w hnf hf hi hp hS hk ni icap
  ·exact formed_2 _ 30 (by simp) nf ncap A B f a s keys kv w hnf hf hi hp hS hk ni icap
  ·exact formed_2 _ 36 (by simp) nf ncap A B f a s keys kv w hnf hf hi hp hS hk ni icap
  ·exact formed_1 _ 42 (by simp) nf ncap A B f a s keys kv w hnf hf hi hp hS hk ni icap
  ·exact formed_4 _ 48 (by simp) nf ncap A B f a s keys kv w hnf hf hi hp hS hk ni icap
  ·exact formed_4 _ 54 (by simp) nf ncap A B f a s keys kv w hnf hf hi hp hS hk ni icap
  ·exact formed_1 _ 60 (by simp) nf ncap A B f a s keys kv w hnf hf hi hp hS hk ni icap
  ·exact formed_2 _ 66 (by simp) nf ncap A B f a s keys kv w hnf hf hi hp hS hk ni icap
  ·exact formed_12 _ 72 (by simp) nf ncap A B f a s keys kv w hnf hf hi hp hS hk ni icap
  ·exact formed_2 _ 78 (by simp) nf ncap A B f a s keys kv w hnf hf hi hp hS hk ni icap
  ·exact formed_2 _ 84 (by simp) nf ncap A B f a s keys kv w hnf hf hi hp hS hk ni icap
  ·exact formed_1 _ 90 (by simp) nf ncap A B f a s keys kv w hnf hf hi hp hS hk ni icap
  ·exact formed_1 _ 96 (by simp) nf ncap A B f a s keys kv w hnf hf hi hp hS hk ni icap
  ·exact formed_2 _ 102 (by simp) nf ncap A B f a s keys kv w hnf hf hi hp hS hk ni icap
  ·exact formed_18 _ 108 (by simp) nf ncap A B f a s keys kv w hnf hf hi hp hS hk ni icap
  ·exact formed_18 _ 114 (by simp) nf ncap A B f a s keys kv w hnf hf hi hp hS hk ni icap
  ·exact formed_1 _ 120 (by simp) nf ncap A B f a s keys kv w hnf hf hi hp hS hk ni icap
 ·have HN:Hid (¬ FormedP nf f ⟨op,a,s,keys⟩):=Lib.hid (fun hh=>h hh.1)
  have hb3:=below_3 w (.cells #[.slice A nf ncap,.slice B ni icap] 31) (.cells #[.string f.name,.int .i64 f.params,.int .i64 f.locals,.int .i64 f.entry,.int .i64 f.fin] 50) (.cells #[.int .i64 op,.int .i64 a,.string s,kv] 53)
  have HB3:=Lib.hid hb3
  obtain ⟨P,hP⟩:∃ P:Ending→World→Prop,(fun e w'=>(∃ b,e=.returned (.bool b)∧(b=true↔FormedP nf f ⟨op,a,s,keys⟩))∧Below w.heap.size w w')=P:=⟨_,rfl⟩
  rw [hP]
  have HP:=Lib.hid hP
  unfold FnD.val
  clear hP hb3 hS hp hk
  by_cases h1:1≤op
  ·have h2:¬ op≤20:=fun e=>h ⟨h1,e⟩
   clear h
   go_enter Tryz.func61,Tryz.ntmps61
   go_wp2_with (first
    | (go_at_call 96;go_enter Tryz.func96,Tryz.ntmps96))
   rw [← HP.out]
   exact ⟨⟨false,rfl,⟨fun h=>(by cases h),fun h=>absurd h HN.out⟩⟩,HB3.out⟩
  ·clear h
   go_enter Tryz.func61,Tryz.ntmps61
   go_wp2_with (first
    | (go_at_call 96;go_enter Tryz.func96,Tryz.ntmps96))
   rw [← HP.out]
   exact ⟨⟨false,rfl,⟨fun h=>(by cases h),fun h=>absurd h HN.out⟩⟩,HB3.out⟩
end Go.Proofs.YthiimbhjpdphpaaGreatDoor
