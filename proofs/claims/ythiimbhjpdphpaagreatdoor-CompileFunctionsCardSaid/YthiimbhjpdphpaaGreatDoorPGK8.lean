/- K4, GK8 -/
import Derived.Test.YthiimbhjpdphpaaGreatDoorPK3
set_option linter.unusedVariables false
set_option linter.unusedSimpArgs false
namespace Go.Proofs.YthiimbhjpdphpaaGreatDoor
open Go.RowKit
set_option maxRecDepth 100000
set_option maxHeartbeats 8000000
open Go.Proofs.Tryz
section
attribute [local go_sem] zabZ
theorem Shaped.row {w:World} (h:Shaped w) (i:Nat) (v0 v1 v2 v3 v4 v5:Value) (h0:shapeCells[i]? = some v0) (h1:shapeCells[i+1]? = some v1) (h2:shapeCells[i+2]? = some v2) (h3:shapeCells[i+3]? = some v3) (h4:shapeCells[i+4]? = some v4) (h5:shapeCells[i+5]? = some v5) :
  w.cell? ⟨0,i,none⟩=some v0∧w.cell? ⟨0,i+1,none⟩=some v1∧w.cell? ⟨0,i+2,none⟩=some v2∧w.cell? ⟨0,i+3,none⟩=some v3∧w.cell? ⟨0,i+4,none⟩=some v4∧w.cell? ⟨0,i+5,none⟩=some v5 :=
 ⟨h _ _ h0,h _ _ h1,h _ _ h2,h _ _ h3,h _ _ h4,h _ _ h5⟩
theorem sz_nil (s:ByteArray):(s.toList != [])=!decide (s.size=0):=by
 by_cases h:s.size=0
 ·rw [(zadY s).2 h];simp [h]
 ·have:¬ s.toList=[]:=fun e=>h ((zadY s).1 e)
  simp [this,h]
theorem za2Y (op:Int) (h9:1≤op∧op≤20) (nf cap ncap:Nat) (A B:Option Addr) (f:FnD) (a:Int) (s:ByteArray) (keys:List ByteArray) (kv:Value) (w:World) (hnf:nf≤40) (hf:FnSmall f) (hi:InsOk ⟨op,a,s,keys⟩) (hp:Pow w) (hk:KeysV w kv keys) (ni:Nat) (icap:Nat) :
  Calls prog 97 #[.agg #[.slice A nf ncap,.slice B ni icap],f.val,.agg #[.int .i64 op,.int .i64 a,.string s,kv]] w fun e w'=>(∃ b,e=.returned (.bool b)∧(b=true↔OpsP nf f ⟨op,a,s,keys⟩))∧Below w.heap.size w w':=by
 have:op=1∨op=2∨op=3∨op=4∨op=5∨op=6∨op=7∨op=8∨op=9∨op=10∨op=11∨op=12∨op=13∨op=14∨op=15∨op=16∨op=17∨op=18∨op=19∨op=20:=by omega
 rcases this with rfl | rfl | rfl | rfl | rfl | rfl | rfl | rfl | rfl | rfl | rfl | rfl | rfl | rfl | rfl | rfl | rfl | rfl | rfl | rfl
 ·exact operands_1 nf cap ncap A B f a s keys kv w hnf hf hi hp hk ni icap
 ·exact operands_2 nf cap ncap A B f a s keys kv w hnf hf hi hp hk ni icap
 ·exact operands_3 nf cap ncap A B f a s keys kv w hnf hf hi hp hk ni icap
 ·exact operands_4 nf cap ncap A B f a s keys kv w hnf hf hi hp hk ni icap
 ·exact operands_5 nf cap ncap A B f a s keys kv w hnf hf hi hp hk ni icap
 ·exact operands_6 nf cap ncap A B f a s keys kv w hnf hf hi hp hk ni icap
 ·exact operands_7 nf cap ncap A B f a s keys kv w hnf hf hi hp hk ni icap
 ·exact operands_8 nf cap ncap A B f a s keys kv w hnf hf hi hp hk ni icap
 ·exact operands_9 nf cap ncap A B f a s keys kv w hnf hf hi hp hk ni icap
 ·exact operands_10 nf cap ncap A B f a s keys kv w hnf hf hi hp hk ni icap
 ·exact operands_11 nf cap ncap A B f a s keys kv w hnf hf hi hp hk ni icap
 ·exact operands_12 nf cap ncap A B f a s keys kv w hnf hf hi hp hk ni icap
 ·exact operands_13 nf cap ncap A B f a s keys kv w hnf hf hi hp hk ni icap
 ·exact operands_14 nf cap ncap A B f a s keys kv w hnf hf hi hp hk ni icap
 ·exact operands_15 nf cap ncap A B f a s keys kv w hnf hf hi hp hk ni icap
 ·exact operands_16 nf cap ncap A B f a s keys kv w hnf hf hi hp hk ni icap
 ·exact operands_17 nf cap ncap A B f a s keys kv w hnf hf hi hp hk ni icap
 ·exact operands_18 nf cap ncap A B f a s keys kv w hnf hf hi hp hk ni icap
 ·exact operands_19 nf cap ncap A B f a s keys kv w hnf hf hi hp hk ni icap
 ·exact operands_20 nf cap ncap A B f a s keys kv w hnf hf hi hp hk ni icap
theorem zb8Y (op:Int) (h9:op=1∨op=7∨op=10∨op=15∨op=16∨op=20) (nf:Int) (f:FnD) (a:Int) (s:ByteArray) (keys:List ByteArray):FormedP nf f ⟨op,a,s,keys⟩↔a=0∧s.size=0∧keys.length=0∧OpsP nf f ⟨op,a,s,keys⟩:=by
 rcases h9 with rfl | rfl | rfl | rfl | rfl | rfl
 all_goals
  simp [FormedP,OperandP,StrP,KeysP,OpsP,bareB]
  try (constructor <;> (intro h;simp_all <;> omega))
  try (intro _;constructor <;> (rintro ⟨h1,h2⟩;exact ⟨h2,h1⟩))
set_option maxHeartbeats 60000000 in
theorem zb3Y (op:Int) (ix:Nat) (hx:op=1∧ix=6∨op=7∧ix=42∨op=10∧ix=60∨op=15∧ix=90∨op=16∧ix=96∨op=20∧ix=120) (nf ncap:Nat) (A B:Option Addr) (f:FnD) (a:Int) (s:ByteArray) (keys:List ByteArray) (kv:Value) (w:World) (hnf:nf≤40) (hf:FnSmall f) (hi:InsOk ⟨op,a,s,keys⟩) (hp:Pow w) (hS:Shaped w) (hk:KeysV w kv keys) (ni:Nat) (icap:Nat) :
  Calls prog 61 #[.agg #[.slice A nf ncap,.slice B ni icap],f.val,.agg #[.int .i64 op,.int .i64 a,.string s,kv]] w fun e w'=>(∃ b,e=.returned (.bool b)∧(b=true↔FormedP nf f ⟨op,a,s,keys⟩))∧Below w.heap.size w w':=by
 have hks:=hi.2.1;dsimp only at hks;have hb3:=zagY w (.cells #[.slice A nf ncap,.slice B ni icap] 31) (.cells #[.string f.name,.int .i64 f.params,.int .i64 f.locals,.int .i64 f.entry,.int .i64 f.fin] 50) (.cells #[.int .i64 op,.int .i64 a,.string s,kv] 53);have HB3:=hZz hb3;have HOP:Hid (∀ wx,Pow wx→KeysV wx kv keys→Calls prog 97 #[.agg #[.slice A nf ncap,.slice B ni icap],.agg #[.string f.name,.int .i64 f.params,.int .i64 f.locals,.int .i64 f.entry,.int .i64 f.fin],.agg #[.int .i64 op,.int .i64 a,.string s,kv]] wx fun e w'=>(∃ b,e=.returned (.bool b)∧(b=true↔OpsP nf f ⟨op,a,s,keys⟩))∧Below wx.heap.size wx w'):=hZz (fun wx hpx hkx=>za2Y op (by omega) nf 0 ncap A B f a s keys kv wx hnf hf hi hpx hkx ni icap);have HBW:∀ o:Obj,Below w.heap.size w ((((w.alloc (.cells #[.slice A nf ncap,.slice B ni icap] 31)).alloc (.cells #[.string f.name,.int .i64 f.params,.int .i64 f.locals,.int .i64 f.entry,.int .i64 f.fin] 50)).alloc (.cells #[.int .i64 op,.int .i64 a,.string s,kv] 53)).alloc o):=fun o=>hb3.alloc hb3.size o
 have HBO:=hZz HBW;have HPW:=hZz hp;have HKV:=hZz hk;obtain ⟨P,hP⟩:∃ P:Ending→World→Prop,(fun e w'=>(∃ b,e=.returned (.bool b)∧(b=true↔FormedP nf f ⟨op,a,s,keys⟩))∧Below w.heap.size w w')=P:=⟨_,rfl⟩
 rw [hP];have HP:=hZz hP;have HSZ:=hZz (sz_nil s);obtain ⟨kA,kcap,rfl,_,_⟩:=hk;unfold FnD.val;clear hP hp hb3 HBW hi hf;have hrow:=hS.row ix;rcases hx with ⟨rfl,rfl⟩ | ⟨rfl,rfl⟩ | ⟨rfl,rfl⟩ | ⟨rfl,rfl⟩ | ⟨rfl,rfl⟩ | ⟨rfl,rfl⟩
 all_goals
  have hcell:=hrow _ _ _ _ _ _ rfl rfl rfl rfl rfl rfl;simp only [Nat.reduceAdd] at hcell;clear hS hrow;by_cases hc0:a=0
  ·have H0:Hid (a=0):=hZz hc0
   have hc0':(a != 0)=false:=by simpa using hc0
   clear hc0;by_cases hc1:s.size=0
   ·have H1:Hid (s.size=0):=hZz hc1
    have hc1':s.toList=[]:=(zadY s).2 hc1;clear hc1;by_cases hc2:keys.length=0
    ·have H2:Hid (keys.length=0):=hZz hc2
     have hc2':¬ 0<keys.length:=by omega
     clear hc2;go_enter func61,ntmps61
     go_wp2_with (first
      | (go_at_call 96;go_enter func96,ntmps96)
      | (go_at_call 97;(with_reducible refine (HOP.out _ (HPW.out.below (HBO.out _)) (HKV.out.below (HBO.out _))).mono ?_);rintro e w1 ⟨⟨b,rfl,hb⟩,hb1⟩;have HB1:=hZz (zaeZ hb1 (HBO.out _));have HBQ:=hZz hb;clear hb hb1))
     rw [← HP.out];exact ⟨⟨b,rfl,by rw [HBQ.out,zb8Y _ (by simp)];simp [H0.out,H1.out,H2.out]⟩,HB1.out⟩
    ·have HN2:Hid (¬ keys.length=0):=hZz hc2
     have hc2':0<keys.length:=by omega
     clear hc2;go_enter func61,ntmps61
     go_wp2_with (first
      | (go_at_call 96;go_enter func96,ntmps96)
      | (go_at_call 97;(with_reducible refine (HOP.out _ (HPW.out.below (HBO.out _)) (HKV.out.below (HBO.out _))).mono ?_);rintro e w1 ⟨⟨b,rfl,hb⟩,hb1⟩;have HB1:=hZz (zaeZ hb1 (HBO.out _));have HBQ:=hZz hb;clear hb hb1))
     rw [← HP.out];exact ⟨⟨false,rfl,by rw [zb8Y _ (by simp)];exact ⟨fun h=>(by cases h),fun h=>absurd h.2.2.1 HN2.out⟩⟩,HBO.out _⟩
   ·have HN1:Hid (¬ s.size=0):=hZz hc1
    have hc1':¬ s.toList=[]:=fun e=>hc1 ((zadY s).1 e)
    clear hc1;go_enter func61,ntmps61
    go_wp2_with (first
     | (go_at_call 96;go_enter func96,ntmps96)
     | (go_at_call 97;(with_reducible refine (HOP.out _ (HPW.out.below (HBO.out _)) (HKV.out.below (HBO.out _))).mono ?_);rintro e w1 ⟨⟨b,rfl,hb⟩,hb1⟩;have HB1:=hZz (zaeZ hb1 (HBO.out _));have HBQ:=hZz hb;clear hb hb1))
    rw [← HP.out];exact ⟨⟨false,rfl,by rw [zb8Y _ (by simp)];exact ⟨fun h=>(by cases h),fun h=>absurd h.2.1 HN1.out⟩⟩,HBO.out _⟩
  ·have HN0:Hid (¬ a=0):=hZz hc0
   have hc0':(a != 0)=true:=by simpa using hc0
   clear hc0;go_enter func61,ntmps61
   go_wp2_with (first
    | (go_at_call 96;go_enter func96,ntmps96)
    | (go_at_call 97;(with_reducible refine (HOP.out _ (HPW.out.below (HBO.out _)) (HKV.out.below (HBO.out _))).mono ?_);rintro e w1 ⟨⟨b,rfl,hb⟩,hb1⟩;have HB1:=hZz (zaeZ hb1 (HBO.out _));have HBQ:=hZz hb;clear hb hb1))
   rw [← HP.out];exact ⟨⟨false,rfl,by rw [zb8Y _ (by simp)];exact ⟨fun h=>(by cases h),fun h=>absurd h.1 HN0.out⟩⟩,HBO.out _⟩
theorem formedP_2 (op:Int) (h9:op=2∨op=3∨op=5∨op=6∨op=11∨op=13∨op=14∨op=17) (nf:Int) (f:FnD) (a:Int) (s:ByteArray) (keys:List ByteArray):FormedP nf f ⟨op,a,s,keys⟩↔s.size=0∧keys.length=0∧OpsP nf f ⟨op,a,s,keys⟩:=by
 rcases h9 with rfl | rfl | rfl | rfl | rfl | rfl | rfl | rfl
 all_goals
  simp [FormedP,OperandP,StrP,KeysP,OpsP,bareB]
  try (constructor <;> (intro h;simp_all <;> omega))
  try (intro _;constructor <;> (rintro ⟨h1,h2⟩;exact ⟨h2,h1⟩))
set_option maxHeartbeats 60000000 in
theorem zbbY (op:Int) (ix:Nat) (hx:op=2∧ix=12∨op=3∧ix=18∨op=5∧ix=30∨op=6∧ix=36∨op=11∧ix=66∨op=13∧ix=78∨op=14∧ix=84∨op=17∧ix=102) (nf ncap:Nat) (A B:Option Addr) (f:FnD) (a:Int) (s:ByteArray) (keys:List ByteArray) (kv:Value) (w:World) (hnf:nf≤40) (hf:FnSmall f) (hi:InsOk ⟨op,a,s,keys⟩) (hp:Pow w) (hS:Shaped w) (hk:KeysV w kv keys) (ni:Nat) (icap:Nat) :
  Calls prog 61 #[.agg #[.slice A nf ncap,.slice B ni icap],f.val,.agg #[.int .i64 op,.int .i64 a,.string s,kv]] w fun e w'=>(∃ b,e=.returned (.bool b)∧(b=true↔FormedP nf f ⟨op,a,s,keys⟩))∧Below w.heap.size w w':=by
 have hks:=hi.2.1;dsimp only at hks;have hb3:=zagY w (.cells #[.slice A nf ncap,.slice B ni icap] 31) (.cells #[.string f.name,.int .i64 f.params,.int .i64 f.locals,.int .i64 f.entry,.int .i64 f.fin] 50) (.cells #[.int .i64 op,.int .i64 a,.string s,kv] 53);have HB3:=hZz hb3;have HOP:Hid (∀ wx,Pow wx→KeysV wx kv keys→Calls prog 97 #[.agg #[.slice A nf ncap,.slice B ni icap],.agg #[.string f.name,.int .i64 f.params,.int .i64 f.locals,.int .i64 f.entry,.int .i64 f.fin],.agg #[.int .i64 op,.int .i64 a,.string s,kv]] wx fun e w'=>(∃ b,e=.returned (.bool b)∧(b=true↔OpsP nf f ⟨op,a,s,keys⟩))∧Below wx.heap.size wx w'):=hZz (fun wx hpx hkx=>za2Y op (by omega) nf 0 ncap A B f a s keys kv wx hnf hf hi hpx hkx ni icap);have HBW:∀ o:Obj,Below w.heap.size w ((((w.alloc (.cells #[.slice A nf ncap,.slice B ni icap] 31)).alloc (.cells #[.string f.name,.int .i64 f.params,.int .i64 f.locals,.int .i64 f.entry,.int .i64 f.fin] 50)).alloc (.cells #[.int .i64 op,.int .i64 a,.string s,kv] 53)).alloc o):=fun o=>hb3.alloc hb3.size o
 have HBO:=hZz HBW;have HPW:=hZz hp;have HKV:=hZz hk;obtain ⟨P,hP⟩:∃ P:Ending→World→Prop,(fun e w'=>(∃ b,e=.returned (.bool b)∧(b=true↔FormedP nf f ⟨op,a,s,keys⟩))∧Below w.heap.size w w')=P:=⟨_,rfl⟩
 rw [hP];have HP:=hZz hP;have HSZ:=hZz (sz_nil s);obtain ⟨kA,kcap,rfl,_,_⟩:=hk;unfold FnD.val;clear hP hp hb3 HBW hi hf;have hrow:=hS.row ix;rcases hx with ⟨rfl,rfl⟩ | ⟨rfl,rfl⟩ | ⟨rfl,rfl⟩ | ⟨rfl,rfl⟩ | ⟨rfl,rfl⟩ | ⟨rfl,rfl⟩ | ⟨rfl,rfl⟩ | ⟨rfl,rfl⟩
 all_goals
  have hcell:=hrow _ _ _ _ _ _ rfl rfl rfl rfl rfl rfl;simp only [Nat.reduceAdd] at hcell;clear hS hrow;by_cases hc0:s.size=0
  ·have H0:Hid (s.size=0):=hZz hc0
   have hc0':s.toList=[]:=(zadY s).2 hc0;clear hc0;by_cases hc1:keys.length=0
   ·have H1:Hid (keys.length=0):=hZz hc1
    have hc1':¬ 0<keys.length:=by omega
    clear hc1;go_enter func61,ntmps61
    go_wp2_with (first
     | (go_at_call 96;go_enter func96,ntmps96)
     | (go_at_call 97;(with_reducible refine (HOP.out _ (HPW.out.below (HBO.out _)) (HKV.out.below (HBO.out _))).mono ?_);rintro e w1 ⟨⟨b,rfl,hb⟩,hb1⟩;have HB1:=hZz (zaeZ hb1 (HBO.out _));have HBQ:=hZz hb;clear hb hb1))
    rw [← HP.out];exact ⟨⟨b,rfl,by rw [HBQ.out,formedP_2 _ (by simp)];simp [H0.out,H1.out]⟩,HB1.out⟩
   ·have HN1:Hid (¬ keys.length=0):=hZz hc1
    have hc1':0<keys.length:=by omega
    clear hc1;go_enter func61,ntmps61
    go_wp2_with (first
     | (go_at_call 96;go_enter func96,ntmps96)
     | (go_at_call 97;(with_reducible refine (HOP.out _ (HPW.out.below (HBO.out _)) (HKV.out.below (HBO.out _))).mono ?_);rintro e w1 ⟨⟨b,rfl,hb⟩,hb1⟩;have HB1:=hZz (zaeZ hb1 (HBO.out _));have HBQ:=hZz hb;clear hb hb1))
    rw [← HP.out];exact ⟨⟨false,rfl,by rw [formedP_2 _ (by simp)];exact ⟨fun h=>(by cases h),fun h=>absurd h.2.1 HN1.out⟩⟩,HBO.out _⟩
  ·have HN0:Hid (¬ s.size=0):=hZz hc0
   have hc0':¬ s.toList=[]:=fun e=>hc0 ((zadY s).1 e)
   clear hc0;go_enter func61,ntmps61
   go_wp2_with (first
    | (go_at_call 96;go_enter func96,ntmps96)
    | (go_at_call 97;(with_reducible refine (HOP.out _ (HPW.out.below (HBO.out _)) (HKV.out.below (HBO.out _))).mono ?_);rintro e w1 ⟨⟨b,rfl,hb⟩,hb1⟩;have HB1:=hZz (zaeZ hb1 (HBO.out _));have HBQ:=hZz hb;clear hb hb1))
   rw [← HP.out];exact ⟨⟨false,rfl,by rw [formedP_2 _ (by simp)];exact ⟨fun h=>(by cases h),fun h=>absurd h.1 HN0.out⟩⟩,HBO.out _⟩
theorem formedP_4 (op:Int) (h9:op=4∨op=8∨op=9) (nf:Int) (f:FnD) (a:Int) (s:ByteArray) (keys:List ByteArray):FormedP nf f ⟨op,a,s,keys⟩↔a=0∧keys.length=0∧OpsP nf f ⟨op,a,s,keys⟩:=by
 rcases h9 with rfl | rfl | rfl
 all_goals
  simp [FormedP,OperandP,StrP,KeysP,OpsP,bareB]
  try (constructor <;> (intro h;simp_all <;> omega))
  try (intro _;constructor <;> (rintro ⟨h1,h2⟩;exact ⟨h2,h1⟩))
set_option maxHeartbeats 60000000 in
theorem formed_4 (op:Int) (ix:Nat) (hx:op=4∧ix=24∨op=8∧ix=48∨op=9∧ix=54) (nf ncap:Nat) (A B:Option Addr) (f:FnD) (a:Int) (s:ByteArray) (keys:List ByteArray) (kv:Value) (w:World) (hnf:nf≤40) (hf:FnSmall f) (hi:InsOk ⟨op,a,s,keys⟩) (hp:Pow w) (hS:Shaped w) (hk:KeysV w kv keys) (ni:Nat) (icap:Nat) :
  Calls prog 61 #[.agg #[.slice A nf ncap,.slice B ni icap],f.val,.agg #[.int .i64 op,.int .i64 a,.string s,kv]] w fun e w'=>(∃ b,e=.returned (.bool b)∧(b=true↔FormedP nf f ⟨op,a,s,keys⟩))∧Below w.heap.size w w':=by
 have hks:=hi.2.1;dsimp only at hks;have hb3:=zagY w (.cells #[.slice A nf ncap,.slice B ni icap] 31) (.cells #[.string f.name,.int .i64 f.params,.int .i64 f.locals,.int .i64 f.entry,.int .i64 f.fin] 50) (.cells #[.int .i64 op,.int .i64 a,.string s,kv] 53);have HB3:=hZz hb3;have HOP:Hid (∀ wx,Pow wx→KeysV wx kv keys→Calls prog 97 #[.agg #[.slice A nf ncap,.slice B ni icap],.agg #[.string f.name,.int .i64 f.params,.int .i64 f.locals,.int .i64 f.entry,.int .i64 f.fin],.agg #[.int .i64 op,.int .i64 a,.string s,kv]] wx fun e w'=>(∃ b,e=.returned (.bool b)∧(b=true↔OpsP nf f ⟨op,a,s,keys⟩))∧Below wx.heap.size wx w'):=hZz (fun wx hpx hkx=>za2Y op (by omega) nf 0 ncap A B f a s keys kv wx hnf hf hi hpx hkx ni icap);have HBW:∀ o:Obj,Below w.heap.size w ((((w.alloc (.cells #[.slice A nf ncap,.slice B ni icap] 31)).alloc (.cells #[.string f.name,.int .i64 f.params,.int .i64 f.locals,.int .i64 f.entry,.int .i64 f.fin] 50)).alloc (.cells #[.int .i64 op,.int .i64 a,.string s,kv] 53)).alloc o):=fun o=>hb3.alloc hb3.size o
 have HBO:=hZz HBW;have HPW:=hZz hp;have HKV:=hZz hk;obtain ⟨P,hP⟩:∃ P:Ending→World→Prop,(fun e w'=>(∃ b,e=.returned (.bool b)∧(b=true↔FormedP nf f ⟨op,a,s,keys⟩))∧Below w.heap.size w w')=P:=⟨_,rfl⟩
 rw [hP];have HP:=hZz hP;have HSZ:=hZz (sz_nil s);obtain ⟨kA,kcap,rfl,_,_⟩:=hk;unfold FnD.val;clear hP hp hb3 HBW hi hf;have hrow:=hS.row ix;rcases hx with ⟨rfl,rfl⟩ | ⟨rfl,rfl⟩ | ⟨rfl,rfl⟩
 all_goals
  have hcell:=hrow _ _ _ _ _ _ rfl rfl rfl rfl rfl rfl;simp only [Nat.reduceAdd] at hcell;clear hS hrow;by_cases hc0:a=0
  ·have H0:Hid (a=0):=hZz hc0
   have hc0':(a != 0)=false:=by simpa using hc0
   clear hc0;by_cases hc1:keys.length=0
   ·have H1:Hid (keys.length=0):=hZz hc1
    have hc1':¬ 0<keys.length:=by omega
    clear hc1;go_enter func61,ntmps61
    go_wp2_with (first
     | (go_at_call 96;go_enter func96,ntmps96)
     | (go_at_call 97;(with_reducible refine (HOP.out _ (HPW.out.below (HBO.out _)) (HKV.out.below (HBO.out _))).mono ?_);rintro e w1 ⟨⟨b,rfl,hb⟩,hb1⟩;have HB1:=hZz (zaeZ hb1 (HBO.out _));have HBQ:=hZz hb;clear hb hb1))
    rw [← HP.out];exact ⟨⟨b,rfl,by rw [HBQ.out,formedP_4 _ (by simp)];simp [H0.out,H1.out]⟩,HB1.out⟩
   ·have HN1:Hid (¬ keys.length=0):=hZz hc1
    have hc1':0<keys.length:=by omega
    clear hc1;go_enter func61,ntmps61
    go_wp2_with (first
     | (go_at_call 96;go_enter func96,ntmps96)
     | (go_at_call 97;(with_reducible refine (HOP.out _ (HPW.out.below (HBO.out _)) (HKV.out.below (HBO.out _))).mono ?_);rintro e w1 ⟨⟨b,rfl,hb⟩,hb1⟩;have HB1:=hZz (zaeZ hb1 (HBO.out _));have HBQ:=hZz hb;clear hb hb1))
    rw [← HP.out];exact ⟨⟨false,rfl,by rw [formedP_4 _ (by simp)];exact ⟨fun h=>(by cases h),fun h=>absurd h.2.1 HN1.out⟩⟩,HBO.out _⟩
  ·have HN0:Hid (¬ a=0):=hZz hc0
   have hc0':(a != 0)=true:=by simpa using hc0
   clear hc0;go_enter func61,ntmps61
   go_wp2_with (first
    | (go_at_call 96;go_enter func96,ntmps96)
    | (go_at_call 97;(with_reducible refine (HOP.out _ (HPW.out.below (HBO.out _)) (HKV.out.below (HBO.out _))).mono ?_);rintro e w1 ⟨⟨b,rfl,hb⟩,hb1⟩;have HB1:=hZz (zaeZ hb1 (HBO.out _));have HBQ:=hZz hb;clear hb hb1))
   rw [← HP.out];exact ⟨⟨false,rfl,by rw [formedP_4 _ (by simp)];exact ⟨fun h=>(by cases h),fun h=>absurd h.1 HN0.out⟩⟩,HBO.out _⟩
theorem formedP_12 (op:Int) (h9:op=12) (nf:Int) (f:FnD) (a:Int) (s:ByteArray) (keys:List ByteArray):FormedP nf f ⟨op,a,s,keys⟩↔s.size=0∧OpsP nf f ⟨op,a,s,keys⟩:=by
 rcases h9 with rfl
 all_goals
  simp [FormedP,OperandP,StrP,KeysP,OpsP,bareB]
  try (constructor <;> (intro h;simp_all <;> omega))
  try (intro _;constructor <;> (rintro ⟨h1,h2⟩;exact ⟨h2,h1⟩))
set_option maxHeartbeats 60000000 in
theorem formed_12 (op:Int) (ix:Nat) (hx:op=12∧ix=72) (nf ncap:Nat) (A B:Option Addr) (f:FnD) (a:Int) (s:ByteArray) (keys:List ByteArray) (kv:Value) (w:World) (hnf:nf≤40) (hf:FnSmall f) (hi:InsOk ⟨op,a,s,keys⟩) (hp:Pow w) (hS:Shaped w) (hk:KeysV w kv keys) (ni:Nat) (icap:Nat) :
  Calls prog 61 #[.agg #[.slice A nf ncap,.slice B ni icap],f.val,.agg #[.int .i64 op,.int .i64 a,.string s,kv]] w fun e w'=>(∃ b,e=.returned (.bool b)∧(b=true↔FormedP nf f ⟨op,a,s,keys⟩))∧Below w.heap.size w w':=by
 have hks:=hi.2.1;dsimp only at hks;have hb3:=zagY w (.cells #[.slice A nf ncap,.slice B ni icap] 31) (.cells #[.string f.name,.int .i64 f.params,.int .i64 f.locals,.int .i64 f.entry,.int .i64 f.fin] 50) (.cells #[.int .i64 op,.int .i64 a,.string s,kv] 53);have HB3:=hZz hb3;have HOP:Hid (∀ wx,Pow wx→KeysV wx kv keys→Calls prog 97 #[.agg #[.slice A nf ncap,.slice B ni icap],.agg #[.string f.name,.int .i64 f.params,.int .i64 f.locals,.int .i64 f.entry,.int .i64 f.fin],.agg #[.int .i64 op,.int .i64 a,.string s,kv]] wx fun e w'=>(∃ b,e=.returned (.bool b)∧(b=true↔OpsP nf f ⟨op,a,s,keys⟩))∧Below wx.heap.size wx w'):=hZz (fun wx hpx hkx=>za2Y op (by omega) nf 0 ncap A B f a s keys kv wx hnf hf hi hpx hkx ni icap);have HBW:∀ o:Obj,Below w.heap.size w ((((w.alloc (.cells #[.slice A nf ncap,.slice B ni icap] 31)).alloc (.cells #[.string f.name,.int .i64 f.params,.int .i64 f.locals,.int .i64 f.entry,.int .i64 f.fin] 50)).alloc (.cells #[.int .i64 op,.int .i64 a,.string s,kv] 53)).alloc o):=fun o=>hb3.alloc hb3.size o
 have HBO:=hZz HBW;have HPW:=hZz hp;have HKV:=hZz hk;obtain ⟨P,hP⟩:∃ P:Ending→World→Prop,(fun e w'=>(∃ b,e=.returned (.bool b)∧(b=true↔FormedP nf f ⟨op,a,s,keys⟩))∧Below w.heap.size w w')=P:=⟨_,rfl⟩
 rw [hP];have HP:=hZz hP;have HSZ:=hZz (sz_nil s);obtain ⟨kA,kcap,rfl,_,_⟩:=hk;unfold FnD.val;clear hP hp hb3 HBW hi hf;have hrow:=hS.row ix;rcases hx with ⟨rfl,rfl⟩
 all_goals
  have hcell:=hrow _ _ _ _ _ _ rfl rfl rfl rfl rfl rfl;simp only [Nat.reduceAdd] at hcell;clear hS hrow;by_cases hc0:s.size=0
  ·have H0:Hid (s.size=0):=hZz hc0
   have hc0':s.toList=[]:=(zadY s).2 hc0;clear hc0;go_enter func61,ntmps61
   go_wp2_with (first
    | (go_at_call 96;go_enter func96,ntmps96)
    | (go_at_call 97;(with_reducible refine (HOP.out _ (HPW.out.below (HBO.out _)) (HKV.out.below (HBO.out _))).mono ?_);rintro e w1 ⟨⟨b,rfl,hb⟩,hb1⟩;have HB1:=hZz (zaeZ hb1 (HBO.out _));have HBQ:=hZz hb;clear hb hb1))
   rw [← HP.out];exact ⟨⟨b,rfl,by rw [HBQ.out,formedP_12 _ (by simp)];simp [H0.out]⟩,HB1.out⟩
  ·have HN0:Hid (¬ s.size=0):=hZz hc0
   have hc0':¬ s.toList=[]:=fun e=>hc0 ((zadY s).1 e)
   clear hc0;go_enter func61,ntmps61
   go_wp2_with (first
    | (go_at_call 96;go_enter func96,ntmps96)
    | (go_at_call 97;(with_reducible refine (HOP.out _ (HPW.out.below (HBO.out _)) (HKV.out.below (HBO.out _))).mono ?_);rintro e w1 ⟨⟨b,rfl,hb⟩,hb1⟩;have HB1:=hZz (zaeZ hb1 (HBO.out _));have HBQ:=hZz hb;clear hb hb1))
   rw [← HP.out];exact ⟨⟨false,rfl,by rw [formedP_12 _ (by simp)];exact ⟨fun h=>(by cases h),fun h=>absurd h.1 HN0.out⟩⟩,HBO.out _⟩
theorem formedP_18 (op:Int) (h9:op=18∨op=19) (nf:Int) (f:FnD) (a:Int) (s:ByteArray) (keys:List ByteArray):FormedP nf f ⟨op,a,s,keys⟩↔keys.length=0∧OpsP nf f ⟨op,a,s,keys⟩:=by
 rcases h9 with rfl | rfl
 all_goals
  simp [FormedP,OperandP,StrP,KeysP,OpsP,bareB]
  try (constructor <;> (intro h;simp_all <;> omega))
  try (intro _;constructor <;> (rintro ⟨h1,h2⟩;exact ⟨h2,h1⟩))
set_option maxHeartbeats 60000000 in
theorem formed_18 (op:Int) (ix:Nat) (hx:op=18∧ix=108∨op=19∧ix=114) (nf ncap:Nat) (A B:Option Addr) (f:FnD) (a:Int) (s:ByteArray) (keys:List ByteArray) (kv:Value) (w:World) (hnf:nf≤40) (hf:FnSmall f) (hi:InsOk ⟨op,a,s,keys⟩) (hp:Pow w) (hS:Shaped w) (hk:KeysV w kv keys) (ni:Nat) (icap:Nat) :
  Calls prog 61 #[.agg #[.slice A nf ncap,.slice B ni icap],f.val,.agg #[.int .i64 op,.int .i64 a,.string s,kv]] w fun e w'=>(∃ b,e=.returned (.bool b)∧(b=true↔FormedP nf f ⟨op,a,s,keys⟩))∧Below w.heap.size w w':=by
 have hks:=hi.2.1;dsimp only at hks;have hb3:=zagY w (.cells #[.slice A nf ncap,.slice B ni icap] 31) (.cells #[.string f.name,.int .i64 f.params,.int .i64 f.locals,.int .i64 f.entry,.int .i64 f.fin] 50) (.cells #[.int .i64 op,.int .i64 a,.string s,kv] 53);have HB3:=hZz hb3;have HOP:Hid (∀ wx,Pow wx→KeysV wx kv keys→Calls prog 97 #[.agg #[.slice A nf ncap,.slice B ni icap],.agg #[.string f.name,.int .i64 f.params,.int .i64 f.locals,.int .i64 f.entry,.int .i64 f.fin],.agg #[.int .i64 op,.int .i64 a,.string s,kv]] wx fun e w'=>(∃ b,e=.returned (.bool b)∧(b=true↔OpsP nf f ⟨op,a,s,keys⟩))∧Below wx.heap.size wx w'):=hZz (fun wx hpx hkx=>za2Y op (by omega) nf 0 ncap A B f a s keys kv wx hnf hf hi hpx hkx ni icap);have HBW:∀ o:Obj,Below w.heap.size w ((((w.alloc (.cells #[.slice A nf ncap,.slice B ni icap] 31)).alloc (.cells #[.string f.name,.int .i64 f.params,.int .i64 f.locals,.int .i64 f.entry,.int .i64 f.fin] 50)).alloc (.cells #[.int .i64 op,.int .i64 a,.string s,kv] 53)).alloc o):=fun o=>hb3.alloc hb3.size o
 have HBO:=hZz HBW;have HPW:=hZz hp;have HKV:=hZz hk;obtain ⟨P,hP⟩:∃ P:Ending→World→Prop,(fun e w'=>(∃ b,e=.returned (.bool b)∧(b=true↔FormedP nf f ⟨op,a,s,keys⟩))∧Below w.heap.size w w')=P:=⟨_,rfl⟩
 rw [hP];have HP:=hZz hP;have HSZ:=hZz (sz_nil s);obtain ⟨kA,kcap,rfl,_,_⟩:=hk;unfold FnD.val;clear hP hp hb3 HBW hi hf;have hrow:=hS.row ix;rcases hx with ⟨rfl,rfl⟩ | ⟨rfl,rfl⟩
 all_goals
  have hcell:=hrow _ _ _ _ _ _ rfl rfl rfl rfl rfl rfl;simp only [Nat.reduceAdd] at hcell;clear hS hrow;by_cases hc0:keys.length=0
  ·have H0:Hid (keys.length=0):=hZz hc0
   have hc0':¬ 0<keys.length:=by omega
   clear hc0;go_enter func61,ntmps61
   go_wp2_with (first
    | (go_at_call 96;go_enter func96,ntmps96)
    | (go_at_call 97;(with_reducible refine (HOP.out _ (HPW.out.below (HBO.out _)) (HKV.out.below (HBO.out _))).mono ?_);rintro e w1 ⟨⟨b,rfl,hb⟩,hb1⟩;have HB1:=hZz (zaeZ hb1 (HBO.out _));have HBQ:=hZz hb;clear hb hb1))
   rw [← HP.out];exact ⟨⟨b,rfl,by rw [HBQ.out,formedP_18 _ (by simp)];simp [H0.out]⟩,HB1.out⟩
  ·have HN0:Hid (¬ keys.length=0):=hZz hc0
   have hc0':0<keys.length:=by omega
   clear hc0;go_enter func61,ntmps61
   go_wp2_with (first
    | (go_at_call 96;go_enter func96,ntmps96)
    | (go_at_call 97;(with_reducible refine (HOP.out _ (HPW.out.below (HBO.out _)) (HKV.out.below (HBO.out _))).mono ?_);rintro e w1 ⟨⟨b,rfl,hb⟩,hb1⟩;have HB1:=hZz (zaeZ hb1 (HBO.out _));have HBQ:=hZz hb;clear hb hb1))
   rw [← HP.out];exact ⟨⟨false,rfl,by rw [formedP_18 _ (by simp)];exact ⟨fun h=>(by cases h),fun h=>absurd h.1 HN0.out⟩⟩,HBO.out _⟩
theorem cformed_any (nf ncap:Nat) (A B:Option Addr) (f:FnD) (i:InsD) (kv:Value) (w:World) (hnf:nf≤40) (hf:FnSmall f) (hi:InsOk i) (hp:Pow w) (hS:Shaped w) (hk:KeysV w kv i.keys) (ni:Nat) (icap:Nat) :
  Calls prog 61 #[.agg #[.slice A nf ncap,.slice B ni icap],f.val,.agg #[.int .i64 i.op,.int .i64 i.a,.string i.s,kv]] w fun e w'=>(∃ b,e=.returned (.bool b)∧(b=true↔FormedP nf f i))∧Below w.heap.size w w':=by
 obtain ⟨op,a,s,keys⟩:=i;by_cases h:1≤op∧op≤20
 ·have:op=1∨op=2∨op=3∨op=4∨op=5∨op=6∨op=7∨op=8∨op=9∨op=10∨op=11∨op=12∨op=13∨op=14∨op=15∨op=16∨op=17∨op=18∨op=19∨op=20:=by omega
  rcases this with rfl | rfl | rfl | rfl | rfl | rfl | rfl | rfl | rfl | rfl | rfl | rfl | rfl | rfl | rfl | rfl | rfl | rfl | rfl | rfl
  ·exact zb3Y _ 6 (by simp) nf ncap A B f a s keys kv w hnf hf hi hp hS hk ni icap
  ·exact zbbY _ 12 (by simp) nf ncap A B f a s keys kv w hnf hf hi hp hS hk ni icap
  ·exact zbbY _ 18 (by simp) nf ncap A B f a s keys kv w hnf hf hi hp hS hk ni icap
  ·exact formed_4 _ 24 (by simp) nf ncap A B f a s keys kv w hnf hf hi hp hS hk ni icap
  ·exact zbbY _ 30 (by simp) nf ncap A B f a s keys kv w hnf hf hi hp hS hk ni icap
  ·exact zbbY _ 36 (by simp) nf ncap A B f a s keys kv w hnf hf hi hp hS hk ni icap
  ·exact zb3Y _ 42 (by simp) nf ncap A B f a s keys kv w hnf hf hi hp hS hk ni icap
  ·exact formed_4 _ 48 (by simp) nf ncap A B f a s keys kv w hnf hf hi hp hS hk ni icap
  ·exact formed_4 _ 54 (by simp) nf ncap A B f a s keys kv w hnf hf hi hp hS hk ni icap
  ·exact zb3Y _ 60 (by simp) nf ncap A B f a s keys kv w hnf hf hi hp hS hk ni icap
  ·exact zbbY _ 66 (by simp) nf ncap A B f a s keys kv w hnf hf hi hp hS hk ni icap
  ·exact formed_12 _ 72 (by simp) nf ncap A B f a s keys kv w hnf hf hi hp hS hk ni icap
  ·exact zbbY _ 78 (by simp) nf ncap A B f a s keys kv w hnf hf hi hp hS hk ni icap
  ·exact zbbY _ 84 (by simp) nf ncap A B f a s keys kv w hnf hf hi hp hS hk ni icap
  ·exact zb3Y _ 90 (by simp) nf ncap A B f a s keys kv w hnf hf hi hp hS hk ni icap
  ·exact zb3Y _ 96 (by simp) nf ncap A B f a s keys kv w hnf hf hi hp hS hk ni icap
  ·exact zbbY _ 102 (by simp) nf ncap A B f a s keys kv w hnf hf hi hp hS hk ni icap
  ·exact formed_18 _ 108 (by simp) nf ncap A B f a s keys kv w hnf hf hi hp hS hk ni icap
  ·exact formed_18 _ 114 (by simp) nf ncap A B f a s keys kv w hnf hf hi hp hS hk ni icap
  ·exact zb3Y _ 120 (by simp) nf ncap A B f a s keys kv w hnf hf hi hp hS hk ni icap
 ·have HN:Hid (¬ FormedP nf f ⟨op,a,s,keys⟩):=hZz (fun hh=>h hh.1)
  have hb3:=zagY w (.cells #[.slice A nf ncap,.slice B ni icap] 31) (.cells #[.string f.name,.int .i64 f.params,.int .i64 f.locals,.int .i64 f.entry,.int .i64 f.fin] 50) (.cells #[.int .i64 op,.int .i64 a,.string s,kv] 53);have HB3:=hZz hb3;obtain ⟨P,hP⟩:∃ P:Ending→World→Prop,(fun e w'=>(∃ b,e=.returned (.bool b)∧(b=true↔FormedP nf f ⟨op,a,s,keys⟩))∧Below w.heap.size w w')=P:=⟨_,rfl⟩
  rw [hP];have HP:=hZz hP;unfold FnD.val;clear hP hb3 hS hp hk;by_cases h1:1≤op
  ·have h2:¬ op≤20:=fun e=>h ⟨h1,e⟩
   clear h;go_enter func61,ntmps61
   go_wp2_with (first
    | (go_at_call 96;go_enter func96,ntmps96))
   rw [← HP.out];exact ⟨⟨false,rfl,⟨fun h=>(by cases h),fun h=>absurd h HN.out⟩⟩,HB3.out⟩
  ·clear h
   go_enter func61,ntmps61
   go_wp2_with (first
    | (go_at_call 96;go_enter func96,ntmps96))
   rw [← HP.out];exact ⟨⟨false,rfl,⟨fun h=>(by cases h),fun h=>absurd h HN.out⟩⟩,HB3.out⟩
end
section
attribute [local go_sem] zabZ
def FnD.cells (f:FnD):List Value:=[.string f.name,.int .i64 f.params,.int .i64 f.locals,.int .i64 f.entry,.int .i64 f.fin]
def natCs (n:Nat):List Value:=[.int .i64 n]
def insR (w:World) (row:List Value) (i:InsD):Prop:=∃ kv,row=[.int .i64 i.op,.int .i64 i.a,.string i.s,kv]∧KeysV w kv i.keys
def InsV (w:World) (B:Option Addr) (l:List InsD):Prop:=∃ rows:List (List Value),SlAt w B 4 (fun r=>r) rows∧rows.length=l.length∧∀ k (h:k<rows.length) (h':k<l.length),insR w rows[k] l[k]
theorem InsV.below {w w':World} {B:Option Addr} {l:List InsD} (h:InsV w B l) (hb:Below w.heap.size w w'):InsV w' B l:=by
 obtain ⟨rows,h1,h2,h3⟩:=h;refine ⟨rows,h1.below hb,h2,fun k hk hk'=>?_⟩
 obtain ⟨kv,e,hkv⟩:=h3 k hk hk';exact ⟨kv,e,hkv.below hb⟩
theorem InsV.at {w:World} {B:Option Addr} {l:List InsD} (h:InsV w B l) {k:Nat} (hk:k<l.length):∃ b off kv,B=some ⟨b,off,none⟩∧b<w.heap.size∧w.cell? ⟨b,off+k * 4,none⟩=some (.int .i64 l[k].op)∧w.cell? ⟨b,off+k * 4+1,none⟩=some (.int .i64 l[k].a)∧w.cell? ⟨b,off+k * 4+2,none⟩=some (.string l[k].s)∧w.cell? ⟨b,off+k * 4+3,none⟩=some kv∧KeysV w kv l[k].keys:=by
 obtain ⟨rows,h1,h2,h3⟩:=h;have hk':k<rows.length:=by omega
 obtain ⟨kv,e,hkv⟩:=h3 k hk' hk;obtain ⟨b,off,rfl,hb⟩:=h1.ptr hk';exact ⟨b,off,kv,rfl,hb,h1.cell0 hk' (by rw [e];rfl),h1.cell hk' (j:=1) (by rw [e];rfl),h1.cell hk' (j:=2) (by rw [e];rfl),h1.cell hk' (j:=3) (by rw [e];rfl),hkv⟩
def SucV (base:Nat) (w:World) (v:Value) (l:List Nat):Prop:=∃ A cap,v=.slice A l.length cap∧SlAt w A 1 natCs l∧∀ g off,A=some ⟨g,off,none⟩→base≤g
def PopsP (c:CodeD) (i:InsD):Prop:=(1≤i.op∧i.op≤20)∧(i.op=17→0≤i.a∧i.a<(c.fns.length:Nat))
theorem cpops_any (c:CodeD) (A B:Option Addr) (ncap ni icap:Nat) (i:InsD) (kv:Value) (w:World) (hnf:c.fns.length≤40) (hS:Shaped w) (hF:SlAt w A 5 FnD.cells c.fns) (hi:PopsP c i) :
  Calls prog 98 #[.agg #[.slice A c.fns.length ncap,.slice B ni icap],.agg #[.int .i64 i.op,.int .i64 i.a,.string i.s,kv]] w fun e w'=>e=.returned (.int .i64 (popF c i))∧Below w.heap.size w w':=by
 obtain ⟨op,a,s,keys⟩:=i;obtain ⟨h1,h17⟩:=hi;dsimp only at h1 h17;have hop:op=1∨op=2∨op=3∨op=4∨op=5∨op=6∨op=7∨op=8∨op=9∨op=10∨op=11∨op=12∨op=13∨op=14∨op=15∨op=16∨op=17∨op=18∨op=19∨op=20:=by omega
 have HB2:=hZz (za4Y w (.cells #[.slice A c.fns.length ncap,.slice B ni icap] 31) (.cells #[.int .i64 op,.int .i64 a,.string s,kv] 53));obtain ⟨r,hr⟩:∃ r,popF c ⟨op,a,s,keys⟩=r:=⟨_,rfl⟩
 rw [hr];have HR:=hZz hr;clear hr;rcases hop with rfl | rfl | rfl | rfl | rfl | rfl | rfl | rfl | rfl | rfl | rfl | rfl | rfl | rfl | rfl | rfl | rfl | rfl | rfl | rfl
 ·have hre:r=0:=by rw [← HR.out];simp [popF]
  subst hre;clear h17 hF HR h1;have hc:=hS.row 6 _ _ _ _ _ _ rfl rfl rfl rfl rfl rfl;simp only [Nat.reduceAdd] at hc;clear hS
  all_goals
   go_enter func98,ntmps98
   go_wp2
   go_returns;exact ⟨rfl,HB2.out⟩
 ·have hre:r=0:=by rw [← HR.out];simp [popF]
  subst hre;clear h17 hF HR h1;have hc:=hS.row 12 _ _ _ _ _ _ rfl rfl rfl rfl rfl rfl;simp only [Nat.reduceAdd] at hc;clear hS
  all_goals
   go_enter func98,ntmps98
   go_wp2
   go_returns;exact ⟨rfl,HB2.out⟩
 ·have hre:r=0:=by rw [← HR.out];simp [popF]
  subst hre;clear h17 hF HR h1;have hc:=hS.row 18 _ _ _ _ _ _ rfl rfl rfl rfl rfl rfl;simp only [Nat.reduceAdd] at hc;clear hS
  all_goals
   go_enter func98,ntmps98
   go_wp2
   go_returns;exact ⟨rfl,HB2.out⟩
 ·have hre:r=0:=by rw [← HR.out];simp [popF]
  subst hre;clear h17 hF HR h1;have hc:=hS.row 24 _ _ _ _ _ _ rfl rfl rfl rfl rfl rfl;simp only [Nat.reduceAdd] at hc;clear hS
  all_goals
   go_enter func98,ntmps98
   go_wp2
   go_returns;exact ⟨rfl,HB2.out⟩
 ·have hre:r=0:=by rw [← HR.out];simp [popF]
  subst hre;clear h17 hF HR h1;have hc:=hS.row 30 _ _ _ _ _ _ rfl rfl rfl rfl rfl rfl;simp only [Nat.reduceAdd] at hc;clear hS
  all_goals
   go_enter func98,ntmps98
   go_wp2
   go_returns;exact ⟨rfl,HB2.out⟩
 ·have hre:r=1:=by rw [← HR.out];simp [popF]
  subst hre;clear h17 hF HR h1;have hc:=hS.row 36 _ _ _ _ _ _ rfl rfl rfl rfl rfl rfl;simp only [Nat.reduceAdd] at hc;clear hS
  all_goals
   go_enter func98,ntmps98
   go_wp2
   go_returns;exact ⟨rfl,HB2.out⟩
 ·have hre:r=1:=by rw [← HR.out];simp [popF]
  subst hre;clear h17 hF HR h1;have hc:=hS.row 42 _ _ _ _ _ _ rfl rfl rfl rfl rfl rfl;simp only [Nat.reduceAdd] at hc;clear hS
  all_goals
   go_enter func98,ntmps98
   go_wp2
   go_returns;exact ⟨rfl,HB2.out⟩
 ·have hre:r=1:=by rw [← HR.out];simp [popF]
  subst hre;clear h17 hF HR h1;have hc:=hS.row 48 _ _ _ _ _ _ rfl rfl rfl rfl rfl rfl;simp only [Nat.reduceAdd] at hc;clear hS
  all_goals
   go_enter func98,ntmps98
   go_wp2
   go_returns;exact ⟨rfl,HB2.out⟩
 ·have hre:r=2:=by rw [← HR.out];simp [popF]
  subst hre;clear h17 hF HR h1;have hc:=hS.row 54 _ _ _ _ _ _ rfl rfl rfl rfl rfl rfl;simp only [Nat.reduceAdd] at hc;clear hS
  all_goals
   go_enter func98,ntmps98
   go_wp2
   go_returns;exact ⟨rfl,HB2.out⟩
 ·have hre:r=2:=by rw [← HR.out];simp [popF]
  subst hre;clear h17 hF HR h1;have hc:=hS.row 60 _ _ _ _ _ _ rfl rfl rfl rfl rfl rfl;simp only [Nat.reduceAdd] at hc;clear hS
  all_goals
   go_enter func98,ntmps98
   go_wp2
   go_returns;exact ⟨rfl,HB2.out⟩
 ·have hre:r=a:=by rw [← HR.out];simp [popF]
  subst hre;clear h17 hF HR h1;have hc:=hS.row 66 _ _ _ _ _ _ rfl rfl rfl rfl rfl rfl;simp only [Nat.reduceAdd] at hc;clear hS
  all_goals
   go_enter func98,ntmps98
   go_wp2
   go_returns;exact ⟨rfl,HB2.out⟩
 ·have hre:r=a:=by rw [← HR.out];simp [popF]
  subst hre;clear h17 hF HR h1;have hc:=hS.row 72 _ _ _ _ _ _ rfl rfl rfl rfl rfl rfl;simp only [Nat.reduceAdd] at hc;clear hS
  all_goals
   go_enter func98,ntmps98
   go_wp2
   go_returns;exact ⟨rfl,HB2.out⟩
 ·have hre:r=0:=by rw [← HR.out];simp [popF]
  subst hre;clear h17 hF HR h1;have hc:=hS.row 78 _ _ _ _ _ _ rfl rfl rfl rfl rfl rfl;simp only [Nat.reduceAdd] at hc;clear hS
  all_goals
   go_enter func98,ntmps98
   go_wp2
   go_returns;exact ⟨rfl,HB2.out⟩
 ·have hre:r=1:=by rw [← HR.out];simp [popF]
  subst hre;clear h17 hF HR h1;have hc:=hS.row 84 _ _ _ _ _ _ rfl rfl rfl rfl rfl rfl;simp only [Nat.reduceAdd] at hc;clear hS
  all_goals
   go_enter func98,ntmps98
   go_wp2
   go_returns;exact ⟨rfl,HB2.out⟩
 ·have hre:r=1:=by rw [← HR.out];simp [popF]
  subst hre;clear h17 hF HR h1;have hc:=hS.row 90 _ _ _ _ _ _ rfl rfl rfl rfl rfl rfl;simp only [Nat.reduceAdd] at hc;clear hS
  all_goals
   go_enter func98,ntmps98
   go_wp2
   go_returns;exact ⟨rfl,HB2.out⟩
 ·have hre:r=1:=by rw [← HR.out];simp [popF]
  subst hre;clear h17 hF HR h1;have hc:=hS.row 96 _ _ _ _ _ _ rfl rfl rfl rfl rfl rfl;simp only [Nat.reduceAdd] at hc;clear hS
  all_goals
   go_enter func98,ntmps98
   go_wp2
   go_returns;exact ⟨rfl,HB2.out⟩
 ·obtain ⟨ha0,ha1⟩:=h17 rfl
  obtain ⟨m,rfl⟩:∃ m:Nat,a=(m:Int):=⟨a.toNat,by omega⟩
  have hm:m<c.fns.length:=by omega
  have hm':(m:Int)<(c.fns.length:Int):=by omega
  have hre:r=c.fns[m].params:=by rw [← HR.out];simp [popF,hm]
  obtain ⟨b,off,rfl,_⟩:=hF.ptr hm;have cf:=hF.cell hm (j:=1) (v:=.int .i64 c.fns[m].params) rfl;obtain ⟨p,hp⟩:∃ p,c.fns[m].params=p:=⟨_,rfl⟩
  rw [hp] at cf hre;subst hre;clear h17 hF hp HR h1;have hc:=hS.row 102 _ _ _ _ _ _ rfl rfl rfl rfl rfl rfl;simp only [Nat.reduceAdd] at hc;clear hS;go_enter func98,ntmps98
  go_wp2
  go_returns;exact ⟨rfl,HB2.out⟩
 ·have hre:r=a:=by rw [← HR.out];simp [popF]
  subst hre;clear h17 hF HR h1;have hc:=hS.row 108 _ _ _ _ _ _ rfl rfl rfl rfl rfl rfl;simp only [Nat.reduceAdd] at hc;clear hS
  all_goals
   go_enter func98,ntmps98
   go_wp2
   go_returns;exact ⟨rfl,HB2.out⟩
 ·have hre:r=a:=by rw [← HR.out];simp [popF]
  subst hre;clear h17 hF HR h1;have hc:=hS.row 114 _ _ _ _ _ _ rfl rfl rfl rfl rfl rfl;simp only [Nat.reduceAdd] at hc;clear hS
  all_goals
   go_enter func98,ntmps98
   go_wp2
   go_returns;exact ⟨rfl,HB2.out⟩
 ·have hre:r=1:=by rw [← HR.out];simp [popF]
  subst hre;clear h17 hF HR h1;have hc:=hS.row 120 _ _ _ _ _ _ rfl rfl rfl rfl rfl rfl;simp only [Nat.reduceAdd] at hc;clear hS
  all_goals
   go_enter func98,ntmps98
   go_wp2
   go_returns;exact ⟨rfl,HB2.out⟩
set_option maxHeartbeats 4000000 in
theorem csuc_any (i:InsD) (kv:Value) (k:Nat) (w:World) (hk:k≤4000) (h1:1≤i.op∧i.op≤20) (ha:i.op=13∨i.op=14→0≤i.a) :
  Calls prog 99 #[.agg #[.int .i64 i.op,.int .i64 i.a,.string i.s,kv],.int .i64 k] w fun e w'=>(∃ v,e=.returned v∧SucV w.heap.size w' v (sucF i k))∧Below w.heap.size w w':=by
 obtain ⟨op,a,s,keys⟩:=i;dsimp only at h1 ha;have hk0:(0:Int)≤(k:Int):=by omega
 have hk9:(k:Int)≤4000:=by omega
 have HBW:=hZz (zacZ w (.cells #[.int .i64 op,.int .i64 a,.string s,kv] 53));have hop:op=1∨op=2∨op=3∨op=4∨op=5∨op=6∨op=7∨op=8∨op=9∨op=10∨op=11∨op=12∨op=13∨op=14∨op=15∨op=16∨op=17∨op=18∨op=19∨op=20:=by omega
 clear h1;have HA:=hZz ha;clear ha;obtain ⟨P,hP⟩:∃ P:Ending→World→Prop,(fun e w'=>(∃ v,e=.returned v∧SucV w.heap.size w' v (sucF ⟨op,a,s,keys⟩ k))∧Below w.heap.size w w')=P:=⟨_,rfl⟩
 rw [hP];have HP:=hZz hP;clear hP;rcases hop with rfl | rfl | rfl | rfl | rfl | rfl | rfl | rfl | rfl | rfl | rfl | rfl | rfl | rfl | rfl | rfl | rfl | rfl | rfl | rfl
 ·have hl:sucF ⟨1,a,s,keys⟩ k=[k+1]:=by simp [sucF]
  rw [hl] at HP
  skip
  skip
  skip
  go_enter func99,ntmps99
  go_wp2
  rw [← HP.out];exact ⟨⟨_,rfl,⟨some ⟨w.heap.size+1,0,none⟩,1,rfl,zafY (by simp) _ _ [k+1] (by simp [natCs]) (fun _=>rfl) (by omega) (by simp [maxLen]),fun g off h=>by injection h with h;injection h with h;omega⟩⟩,HBW.out.alloc HBW.out.size _⟩
 ·have hl:sucF ⟨2,a,s,keys⟩ k=[k+1]:=by simp [sucF]
  rw [hl] at HP
  skip
  skip
  skip
  go_enter func99,ntmps99
  go_wp2
  rw [← HP.out];exact ⟨⟨_,rfl,⟨some ⟨w.heap.size+1,0,none⟩,1,rfl,zafY (by simp) _ _ [k+1] (by simp [natCs]) (fun _=>rfl) (by omega) (by simp [maxLen]),fun g off h=>by injection h with h;injection h with h;omega⟩⟩,HBW.out.alloc HBW.out.size _⟩
 ·have hl:sucF ⟨3,a,s,keys⟩ k=[k+1]:=by simp [sucF]
  rw [hl] at HP
  skip
  skip
  skip
  go_enter func99,ntmps99
  go_wp2
  rw [← HP.out];exact ⟨⟨_,rfl,⟨some ⟨w.heap.size+1,0,none⟩,1,rfl,zafY (by simp) _ _ [k+1] (by simp [natCs]) (fun _=>rfl) (by omega) (by simp [maxLen]),fun g off h=>by injection h with h;injection h with h;omega⟩⟩,HBW.out.alloc HBW.out.size _⟩
 ·have hl:sucF ⟨4,a,s,keys⟩ k=[k+1]:=by simp [sucF]
  rw [hl] at HP
  skip
  skip
  skip
  go_enter func99,ntmps99
  go_wp2
  rw [← HP.out];exact ⟨⟨_,rfl,⟨some ⟨w.heap.size+1,0,none⟩,1,rfl,zafY (by simp) _ _ [k+1] (by simp [natCs]) (fun _=>rfl) (by omega) (by simp [maxLen]),fun g off h=>by injection h with h;injection h with h;omega⟩⟩,HBW.out.alloc HBW.out.size _⟩
 ·have hl:sucF ⟨5,a,s,keys⟩ k=[k+1]:=by simp [sucF]
  rw [hl] at HP
  skip
  skip
  skip
  go_enter func99,ntmps99
  go_wp2
  rw [← HP.out];exact ⟨⟨_,rfl,⟨some ⟨w.heap.size+1,0,none⟩,1,rfl,zafY (by simp) _ _ [k+1] (by simp [natCs]) (fun _=>rfl) (by omega) (by simp [maxLen]),fun g off h=>by injection h with h;injection h with h;omega⟩⟩,HBW.out.alloc HBW.out.size _⟩
 ·have hl:sucF ⟨6,a,s,keys⟩ k=[k+1]:=by simp [sucF]
  rw [hl] at HP
  skip
  skip
  skip
  go_enter func99,ntmps99
  go_wp2
  rw [← HP.out];exact ⟨⟨_,rfl,⟨some ⟨w.heap.size+1,0,none⟩,1,rfl,zafY (by simp) _ _ [k+1] (by simp [natCs]) (fun _=>rfl) (by omega) (by simp [maxLen]),fun g off h=>by injection h with h;injection h with h;omega⟩⟩,HBW.out.alloc HBW.out.size _⟩
 ·have hl:sucF ⟨7,a,s,keys⟩ k=[k+1]:=by simp [sucF]
  rw [hl] at HP
  skip
  skip
  skip
  go_enter func99,ntmps99
  go_wp2
  rw [← HP.out];exact ⟨⟨_,rfl,⟨some ⟨w.heap.size+1,0,none⟩,1,rfl,zafY (by simp) _ _ [k+1] (by simp [natCs]) (fun _=>rfl) (by omega) (by simp [maxLen]),fun g off h=>by injection h with h;injection h with h;omega⟩⟩,HBW.out.alloc HBW.out.size _⟩
 ·have hl:sucF ⟨8,a,s,keys⟩ k=[k+1]:=by simp [sucF]
  rw [hl] at HP
  skip
  skip
  skip
  go_enter func99,ntmps99
  go_wp2
  rw [← HP.out];exact ⟨⟨_,rfl,⟨some ⟨w.heap.size+1,0,none⟩,1,rfl,zafY (by simp) _ _ [k+1] (by simp [natCs]) (fun _=>rfl) (by omega) (by simp [maxLen]),fun g off h=>by injection h with h;injection h with h;omega⟩⟩,HBW.out.alloc HBW.out.size _⟩
 ·have hl:sucF ⟨9,a,s,keys⟩ k=[k+1]:=by simp [sucF]
  rw [hl] at HP
  skip
  skip
  skip
  go_enter func99,ntmps99
  go_wp2
  rw [← HP.out];exact ⟨⟨_,rfl,⟨some ⟨w.heap.size+1,0,none⟩,1,rfl,zafY (by simp) _ _ [k+1] (by simp [natCs]) (fun _=>rfl) (by omega) (by simp [maxLen]),fun g off h=>by injection h with h;injection h with h;omega⟩⟩,HBW.out.alloc HBW.out.size _⟩
 ·have hl:sucF ⟨10,a,s,keys⟩ k=[k+1]:=by simp [sucF]
  rw [hl] at HP
  skip
  skip
  skip
  go_enter func99,ntmps99
  go_wp2
  rw [← HP.out];exact ⟨⟨_,rfl,⟨some ⟨w.heap.size+1,0,none⟩,1,rfl,zafY (by simp) _ _ [k+1] (by simp [natCs]) (fun _=>rfl) (by omega) (by simp [maxLen]),fun g off h=>by injection h with h;injection h with h;omega⟩⟩,HBW.out.alloc HBW.out.size _⟩
 ·have hl:sucF ⟨11,a,s,keys⟩ k=[k+1]:=by simp [sucF]
  rw [hl] at HP
  skip
  skip
  skip
  go_enter func99,ntmps99
  go_wp2
  rw [← HP.out];exact ⟨⟨_,rfl,⟨some ⟨w.heap.size+1,0,none⟩,1,rfl,zafY (by simp) _ _ [k+1] (by simp [natCs]) (fun _=>rfl) (by omega) (by simp [maxLen]),fun g off h=>by injection h with h;injection h with h;omega⟩⟩,HBW.out.alloc HBW.out.size _⟩
 ·have hl:sucF ⟨12,a,s,keys⟩ k=[k+1]:=by simp [sucF]
  rw [hl] at HP
  skip
  skip
  skip
  go_enter func99,ntmps99
  go_wp2
  rw [← HP.out];exact ⟨⟨_,rfl,⟨some ⟨w.heap.size+1,0,none⟩,1,rfl,zafY (by simp) _ _ [k+1] (by simp [natCs]) (fun _=>rfl) (by omega) (by simp [maxLen]),fun g off h=>by injection h with h;injection h with h;omega⟩⟩,HBW.out.alloc HBW.out.size _⟩
 ·have hl:sucF ⟨13,a,s,keys⟩ k=[a.toNat]:=by simp [sucF]
  rw [hl] at HP;have hat:((a.toNat:Nat):Int)=a:=by have:=HA.out (by simp);omega
  have HAT:=hZz hat;clear hat;go_enter func99,ntmps99
  go_wp2
  rw [← HP.out];exact ⟨⟨_,rfl,⟨some ⟨w.heap.size+1,0,none⟩,1,rfl,zafY (by simp) _ _ [a.toNat] (by simp [natCs,HAT.out]) (fun _=>rfl) (by omega) (by simp [maxLen]),fun g off h=>by injection h with h;injection h with h;omega⟩⟩,HBW.out.alloc HBW.out.size _⟩
 ·have hl:sucF ⟨14,a,s,keys⟩ k=[k+1,a.toNat]:=by simp [sucF]
  rw [hl] at HP;have hat:((a.toNat:Nat):Int)=a:=by have:=HA.out (by simp);omega
  have HAT:=hZz hat;clear hat;go_enter func99,ntmps99
  go_wp2
  rw [← HP.out];exact ⟨⟨_,rfl,⟨some ⟨w.heap.size+1,0,none⟩,2,rfl,zafY (by simp) _ _ [k+1,a.toNat] (by simp [natCs,HAT.out]) (fun _=>rfl) (by omega) (by simp [maxLen]),fun g off h=>by injection h with h;injection h with h;omega⟩⟩,HBW.out.alloc HBW.out.size _⟩
 ·have hl:sucF ⟨15,a,s,keys⟩ k=[k+1]:=by simp [sucF]
  rw [hl] at HP
  skip
  skip
  skip
  go_enter func99,ntmps99
  go_wp2
  rw [← HP.out];exact ⟨⟨_,rfl,⟨some ⟨w.heap.size+1,0,none⟩,1,rfl,zafY (by simp) _ _ [k+1] (by simp [natCs]) (fun _=>rfl) (by omega) (by simp [maxLen]),fun g off h=>by injection h with h;injection h with h;omega⟩⟩,HBW.out.alloc HBW.out.size _⟩
 ·have hl:sucF ⟨16,a,s,keys⟩ k=[k+1]:=by simp [sucF]
  rw [hl] at HP
  skip
  skip
  skip
  go_enter func99,ntmps99
  go_wp2
  rw [← HP.out];exact ⟨⟨_,rfl,⟨some ⟨w.heap.size+1,0,none⟩,1,rfl,zafY (by simp) _ _ [k+1] (by simp [natCs]) (fun _=>rfl) (by omega) (by simp [maxLen]),fun g off h=>by injection h with h;injection h with h;omega⟩⟩,HBW.out.alloc HBW.out.size _⟩
 ·have hl:sucF ⟨17,a,s,keys⟩ k=[k+1]:=by simp [sucF]
  rw [hl] at HP
  skip
  skip
  skip
  go_enter func99,ntmps99
  go_wp2
  rw [← HP.out];exact ⟨⟨_,rfl,⟨some ⟨w.heap.size+1,0,none⟩,1,rfl,zafY (by simp) _ _ [k+1] (by simp [natCs]) (fun _=>rfl) (by omega) (by simp [maxLen]),fun g off h=>by injection h with h;injection h with h;omega⟩⟩,HBW.out.alloc HBW.out.size _⟩
 ·have hl:sucF ⟨18,a,s,keys⟩ k=[k+1]:=by simp [sucF]
  rw [hl] at HP
  skip
  skip
  skip
  go_enter func99,ntmps99
  go_wp2
  rw [← HP.out];exact ⟨⟨_,rfl,⟨some ⟨w.heap.size+1,0,none⟩,1,rfl,zafY (by simp) _ _ [k+1] (by simp [natCs]) (fun _=>rfl) (by omega) (by simp [maxLen]),fun g off h=>by injection h with h;injection h with h;omega⟩⟩,HBW.out.alloc HBW.out.size _⟩
 ·have hl:sucF ⟨19,a,s,keys⟩ k=[k+1]:=by simp [sucF]
  rw [hl] at HP
  skip
  skip
  skip
  go_enter func99,ntmps99
  go_wp2
  rw [← HP.out];exact ⟨⟨_,rfl,⟨some ⟨w.heap.size+1,0,none⟩,1,rfl,zafY (by simp) _ _ [k+1] (by simp [natCs]) (fun _=>rfl) (by omega) (by simp [maxLen]),fun g off h=>by injection h with h;injection h with h;omega⟩⟩,HBW.out.alloc HBW.out.size _⟩
 ·have hl:sucF ⟨20,a,s,keys⟩ k=[]:=by simp [sucF]
  rw [hl] at HP
  skip
  skip
  skip
  go_enter func99,ntmps99
  go_wp2
  rw [← HP.out];exact ⟨⟨_,rfl,⟨_,0,rfl,SlAt.nil,fun g off h=>by cases h⟩⟩,HBW.out⟩
end
section
attribute [local go_sem] zabZ
def FindP (l:List FnD) (s:ByteArray) (r:Int):Prop:=(r=-1∧∀ j (h:j<l.length),l[j].name≠s)∨(∃ k,∃ h:k<l.length,r=(k:Nat)∧l[k].name=s∧∀ j (hj:j<k),(l[j]'(by omega)).name≠s)
theorem bytes_ne {a b:ByteArray} (h:(a.toList == b.toList)=false):a≠b:=fun e=>by subst e;simp at h
theorem bytes_eq {a b:ByteArray} (h:(a.toList == b.toList)=true):a=b:=by
 have:=eq_of_beq h
 rw [Lib.toList_data,Lib.toList_data] at this;exact ByteArray.ext (Array.ext' this)
set_option maxHeartbeats 4000000 in
theorem rfind_any (l:List FnD) (A B:Option Addr) (ncap ni icap:Nat) (s:ByteArray) (w:World) (hl:l.length≤40) (hF:SlAt w A 5 FnD.cells l) :
  Calls prog 107 #[.agg #[.slice A l.length ncap,.slice B ni icap],.string s] w fun e w'=>(∃ r,e=.returned (.int .i64 r)∧FindP l s r)∧Below w.heap.size w w':=by
 obtain ⟨P,hP⟩:∃ P:Ending→World→Prop,(fun e w'=>(∃ r,e=.returned (.int .i64 r)∧FindP l s r)∧Below w.heap.size w w')=P:=⟨_,rfl⟩
 rw [hP];have HP:=hZz hP;have HF:=hZz hF;have HB0:=hZz (zacZ w (.cells #[.slice A l.length ncap,.slice B ni icap] 31));clear hP hF;go_enter func107,ntmps107
 go_wp2_with (fail)
 go_loop [5] (fun iv=>∃ k:Nat,k≤l.length∧iv=.int .i64 k∧Hid (∀ j (h:j<l.length),j<k→l[j].name≠s)) (fun iv=>l.length - (intOf iv).toNat)
 case atStart=>exact ⟨0,Nat.zero_le _,rfl,hZz (fun j h h2=>by omega)⟩
 case round =>
  obtain ⟨k,hk,rfl,HN⟩:=hrel;have hk0:(0:Int)≤(k:Int):=by omega
  by_cases hlt:k<l.length
  ·have hlt':(k:Int)<(l.length:Int):=by omega
   have hk9:(k:Int)≤40:=by omega
   obtain ⟨b,off,rfl,_⟩:=HF.out.ptr hlt;obtain ⟨x,hx⟩:∃ x,l[k].name=x:=⟨_,rfl⟩
   have c0:=HF.out.cell0 hlt (v:=.string x) (by rw [← hx];rfl);have HX:=hZz hx;clear hx;cases he:(x.toList == s.toList) with
   | true =>
    have HE:=hZz (bytes_eq he);go_wp2_with (fail)
    rw [← HP.out];exact ⟨⟨k,rfl,.inr ⟨k,hlt,rfl,by rw [HX.out];exact HE.out,fun j hj=>HN.out j (by omega) hj⟩⟩,HB0.out⟩
   | false =>
    have HE:=hZz (bytes_ne he);go_wp2_with (fail)
    exact ⟨⟨k+1,by omega,by simp,hZz (fun j h h2=>by
     by_cases e:j=k
     ·subst e;rw [HX.out];exact HE.out
     ·exact HN.out j h (by omega))⟩,by simp [intOf];omega⟩
  ·have e:k=l.length:=by omega
   subst e;go_wp2_with (fail)
   rw [← HP.out];exact ⟨⟨-1,rfl,.inl ⟨rfl,fun j h=>HN.out j h h⟩⟩,HB0.out⟩
set_option maxHeartbeats 4000000 in
theorem cfind_any (l:List FnD) (A B:Option Addr) (ncap ni icap:Nat) (s:ByteArray) (w:World) (hl:l.length≤40) (hF:SlAt w A 5 FnD.cells l) :
  Calls prog 94 #[.agg #[.slice A l.length ncap,.slice B ni icap],.string s] w fun e w'=>(∃ r,e=.returned (.int .i64 r)∧FindP l s r)∧Below w.heap.size w w':=by
 obtain ⟨P,hP⟩:∃ P:Ending→World→Prop,(fun e w'=>(∃ r,e=.returned (.int .i64 r)∧FindP l s r)∧Below w.heap.size w w')=P:=⟨_,rfl⟩
 rw [hP];have HP:=hZz hP;have HF:=hZz hF;have hb2:=za4Y w (.cells #[.slice A l.length ncap,.slice B ni icap] 31) (.cells #[.string s] 9);have HX2:=hZz (Blk.second w (.cells #[.slice A l.length ncap,.slice B ni icap] 31) 9 #[.string s]);obtain ⟨W2,hW2⟩:∃ W2,(w.alloc (.cells #[.slice A l.length ncap,.slice B ni icap] 31)).alloc (.cells #[.string s] 9)=W2:=⟨_,rfl⟩
 rw [hW2] at hb2 HX2;have HB2:=hZz hb2;obtain ⟨gs,hgs⟩:∃ g,w.heap.size+1=g:=⟨_,rfl⟩
 rw [hgs] at HX2;have HW2:=hZz hW2;have HGS:=hZz hgs;clear hP hF hb2 hW2 hgs;go_enter func94,ntmps94
 go_wp2_with (fail)
 rw [HW2.out,HGS.out];clear HW2 HGS;go_enter func142,ntmps142
 go_wp2_with (fail)
 go_loopw [5,8] (fun _ iv wr=>∃ k:Nat,k≤l.length∧iv=.int .i64 k∧Hid (∀ j (h:j<l.length),j<k→l[j].name≠s)∧Hid (Below W2.heap.size W2 wr)) (fun _ iv _=>l.length - (intOf iv).toNat)
 case atStart=>exact ⟨0,Nat.zero_le _,rfl,hZz (fun j h h2=>by omega),hZz (Below.refl _ _)⟩
 case round =>
  obtain ⟨k,hk,rfl,HN,HBR⟩:=hrel;have hk0:(0:Int)≤(k:Int):=by omega
  have HBW:Hid (Below w.heap.size w wr):=hZz (zaeZ HBR.out HB2.out);have s0:=(HX2.out.below HBR.out).cell 0 (.string s) rfl;by_cases hlt:k<l.length
  ·have hlt':(k:Int)<(l.length:Int):=by omega
   have hk9:(k:Int)≤40:=by omega
   have hsa:=HF.out.below HBW.out;obtain ⟨b,off,rfl,_⟩:=hsa.ptr hlt;obtain ⟨f,hf⟩:∃ f,l[k]=f:=⟨_,rfl⟩
   have c0:=hsa.cell0 hlt (v:=.string f.name) (by rw [hf];rfl);have c1:=hsa.cell hlt (j:=1) (v:=.int .i64 f.params) (by rw [hf];rfl);have c2:=hsa.cell hlt (j:=2) (v:=.int .i64 f.locals) (by rw [hf];rfl);have c3:=hsa.cell hlt (j:=3) (v:=.int .i64 f.entry) (by rw [hf];rfl);have c4:=hsa.cell hlt (j:=4) (v:=.int .i64 f.fin) (by rw [hf];rfl);have HX:=hZz hf;have HB3:∀ o:Obj,Below W2.heap.size W2 (wr.alloc o):=fun o=>HBR.out.alloc HBR.out.size o
   have HBO:=hZz HB3;clear hf hsa HB3;cases he:(f.name.toList == s.toList) with
   | true =>
    have HE:=hZz (bytes_eq he)
    go_wp2_with (first
     | (go_at_call 143;go_enter func143,ntmps143))
    rw [← HP.out];exact ⟨⟨k,rfl,.inr ⟨k,hlt,rfl,by rw [HX.out];exact HE.out,fun j hj=>HN.out j (by omega) hj⟩⟩,zaeZ (HBO.out _) HB2.out⟩
   | false =>
    have HE:=hZz (bytes_ne he)
    go_wp2_with (first
     | (go_at_call 143;go_enter func143,ntmps143))
    exact ⟨⟨k+1,by omega,by simp,hZz (fun j h h2=>by
     by_cases e:j=k
     ·subst e;rw [HX.out];exact HE.out
     ·exact HN.out j h (by omega)),hZz (HBO.out _)⟩,by simp [intOf];omega⟩
  ·have e:k=l.length:=by omega
   subst e;go_wp2_with (fail)
   rw [← HP.out];exact ⟨⟨-1,rfl,.inl ⟨rfl,fun j h=>HN.out j h h⟩⟩,HBW.out⟩
end
end Go.Proofs.YthiimbhjpdphpaaGreatDoor
