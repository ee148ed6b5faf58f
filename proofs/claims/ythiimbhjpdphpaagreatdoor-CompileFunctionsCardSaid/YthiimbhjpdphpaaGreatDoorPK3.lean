/- K3 -/
import Derived.Test.YthiimbhjpdphpaaGreatDoorPFA1
set_option linter.unusedVariables false
set_option linter.unusedSimpArgs false
namespace Go.Proofs.YthiimbhjpdphpaaGreatDoor
open Go.RowKit
set_option maxRecDepth 100000
open Go.Proofs.Tryz
attribute [local go_sem] zabZ
theorem in_any (n lo hi:Int) (w:World):Calls prog 95 #[.int .i64 n,.int .i64 lo,.int .i64 hi] w fun e w'=>(∃ b,e=.returned (.bool b)∧(b=true↔lo≤n∧n≤hi))∧w'=w:=by
 obtain ⟨P,hP⟩:∃ P:Ending→World→Prop,(fun e w'=>(∃ b,e=.returned (.bool b)∧(b=true↔lo≤n∧n≤hi))∧w'=w)=P:=⟨_,rfl⟩
 rw [hP];have HP:=hZz hP;clear hP;go_enter func95,ntmps95
 go_wp2
 all_goals
  rw [← HP.out];refine ⟨⟨_,rfl,?_⟩,rfl⟩
  first
   | (simp;done)
   | (simp;omega)
def OpsP (nf:Int) (f:FnD) (i:InsD):Prop :=
 (i.op=2→i.a=0∨i.a=1)∧(i.op=3→-1000000000000≤i.a∧i.a≤1000000000000)∧(i.op=4→StrOk i.s)∧(i.op=5∨i.op=6→0≤i.a∧i.a<f.locals)∧(i.op=8→i.s.toList=[45]∨i.s.toList=[110,111,116])∧(i.op=9→i.s.toList∈binL) ∧
 (i.op=11→0≤i.a∧i.a≤64)∧(i.op=12→(0≤i.a∧i.a≤64)∧i.a=i.keys.length∧AscOk i.keys)∧(i.op=13∨i.op=14→f.entry≤i.a∧i.a<f.fin)∧(i.op=17→0≤i.a∧i.a<nf)∧(i.op=18→lookL builtL i.s=some i.a)∧(i.op=19→lookL hostL i.s=some i.a)
def FnD.val (f:FnD):Value:=.agg #[.string f.name,.int .i64 f.params,.int .i64 f.locals,.int .i64 f.entry,.int .i64 f.fin]
def FnSmall (f:FnD):Prop:=(0≤f.params∧f.params≤8)∧(0≤f.locals∧f.locals≤32)∧(0≤f.entry∧f.entry<f.fin∧f.fin≤4000)
def InsOk (i:InsD):Prop:=i.s.size≤1000∧i.keys.length≤1000∧∀ k∈i.keys,k.size≤1000
theorem bin_lib (s:ByteArray):Lib.containsS [⟨#[43]⟩,⟨#[45]⟩,⟨#[42]⟩,⟨#[47]⟩,⟨#[37]⟩,⟨#[61,61]⟩,⟨#[33,61]⟩,⟨#[60]⟩,⟨#[60,61]⟩,⟨#[62]⟩,⟨#[62,61]⟩] s=true↔s.toList∈binL:=by
 rw [Lib.containsS_iff];simp only [List.mem_cons,List.not_mem_nil,bytes_lit,binL,or_false]
set_option maxHeartbeats 4000000 in
theorem operands_1 (nf cap ncap:Nat) (A B:Option Addr) (f:FnD) (a:Int) (s:ByteArray) (keys:List ByteArray) (kv:Value) (w:World) (hnf:nf≤40) (hf:FnSmall f) (hi:InsOk ⟨1,a,s,keys⟩) (hp:Pow w) (hk:KeysV w kv keys) (ni:Nat) (icap:Nat) :
  Calls prog 97 #[.agg #[.slice A nf ncap,.slice B ni icap],f.val,.agg #[.int .i64 1,.int .i64 a,.string s,kv]] w fun e w'=>(∃ b,e=.returned (.bool b)∧(b=true↔OpsP nf f ⟨1,a,s,keys⟩))∧Below w.heap.size w w':=by
 obtain ⟨name,params,locals,entry,fin⟩:=f;obtain ⟨⟨_,_⟩,⟨hl0,hl1⟩,⟨he0,he1,he2⟩⟩:=hf;obtain ⟨hs1,hk1,hks⟩:=hi;dsimp only at hl0 hl1 he0 he1 he2 hs1 hk1 hks;have hb3:=zagY w (.cells #[.slice A nf ncap,.slice B ni icap] 31) (.cells #[.string name,.int .i64 params,.int .i64 locals,.int .i64 entry,.int .i64 fin] 50) (.cells #[.int .i64 1,.int .i64 a,.string s,kv] 53);have HB3:=hZz hb3;have HPW:=hZz (hp.below hb3);have HKV:=hZz (hk.below hb3);have HKS:=hZz hks;have hnf0:(0:Int)≤(nf:Int):=by omega
 have hnf9:(nf:Int)≤40:=by omega
 obtain ⟨kA,kcap,rfl,_,_⟩:=hk;obtain ⟨P,hP⟩:∃ P:Ending→World→Prop,(fun e w'=>(∃ b,e=.returned (.bool b)∧(b=true↔OpsP nf ⟨name,params,locals,entry,fin⟩ ⟨1,a,s,keys⟩))∧Below w.heap.size w w')=P:=⟨_,rfl⟩
 rw [hP];have HP:=hZz hP;unfold FnD.val;clear hP hp hb3 hks;go_enter func97,ntmps97
 go_wp2_with (first
  | fail
  | fail)
 all_goals rw [← HP.out]
 exact ⟨⟨true,rfl,by simp [OpsP]⟩,HB3.out⟩
set_option maxHeartbeats 4000000 in
theorem operands_2 (nf cap ncap:Nat) (A B:Option Addr) (f:FnD) (a:Int) (s:ByteArray) (keys:List ByteArray) (kv:Value) (w:World) (hnf:nf≤40) (hf:FnSmall f) (hi:InsOk ⟨2,a,s,keys⟩) (hp:Pow w) (hk:KeysV w kv keys) (ni:Nat) (icap:Nat) :
  Calls prog 97 #[.agg #[.slice A nf ncap,.slice B ni icap],f.val,.agg #[.int .i64 2,.int .i64 a,.string s,kv]] w fun e w'=>(∃ b,e=.returned (.bool b)∧(b=true↔OpsP nf f ⟨2,a,s,keys⟩))∧Below w.heap.size w w':=by
 obtain ⟨name,params,locals,entry,fin⟩:=f;obtain ⟨⟨_,_⟩,⟨hl0,hl1⟩,⟨he0,he1,he2⟩⟩:=hf;obtain ⟨hs1,hk1,hks⟩:=hi;dsimp only at hl0 hl1 he0 he1 he2 hs1 hk1 hks;have hb3:=zagY w (.cells #[.slice A nf ncap,.slice B ni icap] 31) (.cells #[.string name,.int .i64 params,.int .i64 locals,.int .i64 entry,.int .i64 fin] 50) (.cells #[.int .i64 2,.int .i64 a,.string s,kv] 53);have HB3:=hZz hb3;have HPW:=hZz (hp.below hb3);have HKV:=hZz (hk.below hb3);have HKS:=hZz hks;have hnf0:(0:Int)≤(nf:Int):=by omega
 have hnf9:(nf:Int)≤40:=by omega
 obtain ⟨kA,kcap,rfl,_,_⟩:=hk;obtain ⟨P,hP⟩:∃ P:Ending→World→Prop,(fun e w'=>(∃ b,e=.returned (.bool b)∧(b=true↔OpsP nf ⟨name,params,locals,entry,fin⟩ ⟨2,a,s,keys⟩))∧Below w.heap.size w w')=P:=⟨_,rfl⟩
 rw [hP];have HP:=hZz hP;unfold FnD.val;clear hP hp hb3 hks;go_enter func97,ntmps97
 go_wp2_with (first
  | (go_at_call 95;(with_reducible refine (in_any _ _ _ _).mono ?_);rintro e w1 ⟨⟨b,rfl,hb⟩,hw1⟩;rw [hw1];clear hw1 w1;have HBQ:=hZz hb;clear hb)
  | fail)
 all_goals rw [← HP.out]
 exact ⟨⟨b,rfl,by rw [HBQ.out];first | (simp [OpsP];done) | (simp [OpsP];omega)⟩,HB3.out⟩
set_option maxHeartbeats 4000000 in
theorem operands_3 (nf cap ncap:Nat) (A B:Option Addr) (f:FnD) (a:Int) (s:ByteArray) (keys:List ByteArray) (kv:Value) (w:World) (hnf:nf≤40) (hf:FnSmall f) (hi:InsOk ⟨3,a,s,keys⟩) (hp:Pow w) (hk:KeysV w kv keys) (ni:Nat) (icap:Nat) :
  Calls prog 97 #[.agg #[.slice A nf ncap,.slice B ni icap],f.val,.agg #[.int .i64 3,.int .i64 a,.string s,kv]] w fun e w'=>(∃ b,e=.returned (.bool b)∧(b=true↔OpsP nf f ⟨3,a,s,keys⟩))∧Below w.heap.size w w':=by
 obtain ⟨name,params,locals,entry,fin⟩:=f;obtain ⟨⟨_,_⟩,⟨hl0,hl1⟩,⟨he0,he1,he2⟩⟩:=hf;obtain ⟨hs1,hk1,hks⟩:=hi;dsimp only at hl0 hl1 he0 he1 he2 hs1 hk1 hks;have hb3:=zagY w (.cells #[.slice A nf ncap,.slice B ni icap] 31) (.cells #[.string name,.int .i64 params,.int .i64 locals,.int .i64 entry,.int .i64 fin] 50) (.cells #[.int .i64 3,.int .i64 a,.string s,kv] 53);have HB3:=hZz hb3;have HPW:=hZz (hp.below hb3);have HKV:=hZz (hk.below hb3);have HKS:=hZz hks;have hnf0:(0:Int)≤(nf:Int):=by omega
 have hnf9:(nf:Int)≤40:=by omega
 obtain ⟨kA,kcap,rfl,_,_⟩:=hk;obtain ⟨P,hP⟩:∃ P:Ending→World→Prop,(fun e w'=>(∃ b,e=.returned (.bool b)∧(b=true↔OpsP nf ⟨name,params,locals,entry,fin⟩ ⟨3,a,s,keys⟩))∧Below w.heap.size w w')=P:=⟨_,rfl⟩
 rw [hP];have HP:=hZz hP;unfold FnD.val;clear hP hp hb3 hks;go_enter func97,ntmps97
 go_wp2_with (first
  | (go_at_call 144;(with_reducible refine (valid_any _ _).mono ?_);rintro e w1 ⟨rfl,hw1⟩;rw [hw1];clear hw1 w1)
  | fail)
 all_goals rw [← HP.out]
 exact ⟨⟨_,rfl,by simp [OpsP]⟩,HB3.out⟩
set_option maxHeartbeats 4000000 in
theorem operands_4 (nf cap ncap:Nat) (A B:Option Addr) (f:FnD) (a:Int) (s:ByteArray) (keys:List ByteArray) (kv:Value) (w:World) (hnf:nf≤40) (hf:FnSmall f) (hi:InsOk ⟨4,a,s,keys⟩) (hp:Pow w) (hk:KeysV w kv keys) (ni:Nat) (icap:Nat) :
  Calls prog 97 #[.agg #[.slice A nf ncap,.slice B ni icap],f.val,.agg #[.int .i64 4,.int .i64 a,.string s,kv]] w fun e w'=>(∃ b,e=.returned (.bool b)∧(b=true↔OpsP nf f ⟨4,a,s,keys⟩))∧Below w.heap.size w w':=by
 obtain ⟨name,params,locals,entry,fin⟩:=f;obtain ⟨⟨_,_⟩,⟨hl0,hl1⟩,⟨he0,he1,he2⟩⟩:=hf;obtain ⟨hs1,hk1,hks⟩:=hi;dsimp only at hl0 hl1 he0 he1 he2 hs1 hk1 hks;have hb3:=zagY w (.cells #[.slice A nf ncap,.slice B ni icap] 31) (.cells #[.string name,.int .i64 params,.int .i64 locals,.int .i64 entry,.int .i64 fin] 50) (.cells #[.int .i64 4,.int .i64 a,.string s,kv] 53);have HB3:=hZz hb3;have HPW:=hZz (hp.below hb3);have HKV:=hZz (hk.below hb3);have HKS:=hZz hks;have hnf0:(0:Int)≤(nf:Int):=by omega
 have hnf9:(nf:Int)≤40:=by omega
 obtain ⟨kA,kcap,rfl,_,_⟩:=hk;obtain ⟨P,hP⟩:∃ P:Ending→World→Prop,(fun e w'=>(∃ b,e=.returned (.bool b)∧(b=true↔OpsP nf ⟨name,params,locals,entry,fin⟩ ⟨4,a,s,keys⟩))∧Below w.heap.size w w')=P:=⟨_,rfl⟩
 rw [hP];have HP:=hZz hP;unfold FnD.val;clear hP hp hb3 hks;go_enter func97,ntmps97
 go_wp2_with (first
  | (go_at_call 145;(with_reducible refine (ctext_any _ _ (by omega) HPW.out).mono ?_);rintro e w1 ⟨⟨b,rfl,hb⟩,hb1⟩;have HB1:=hZz (zaeZ hb1 HB3.out);have HBQ:=hZz hb;clear hb hb1)
  | fail)
 all_goals rw [← HP.out]
 exact ⟨⟨b,rfl,by rw [HBQ.out];simp [OpsP]⟩,HB1.out⟩
set_option maxHeartbeats 4000000 in
theorem operands_5 (nf cap ncap:Nat) (A B:Option Addr) (f:FnD) (a:Int) (s:ByteArray) (keys:List ByteArray) (kv:Value) (w:World) (hnf:nf≤40) (hf:FnSmall f) (hi:InsOk ⟨5,a,s,keys⟩) (hp:Pow w) (hk:KeysV w kv keys) (ni:Nat) (icap:Nat) :
  Calls prog 97 #[.agg #[.slice A nf ncap,.slice B ni icap],f.val,.agg #[.int .i64 5,.int .i64 a,.string s,kv]] w fun e w'=>(∃ b,e=.returned (.bool b)∧(b=true↔OpsP nf f ⟨5,a,s,keys⟩))∧Below w.heap.size w w':=by
 obtain ⟨name,params,locals,entry,fin⟩:=f;obtain ⟨⟨_,_⟩,⟨hl0,hl1⟩,⟨he0,he1,he2⟩⟩:=hf;obtain ⟨hs1,hk1,hks⟩:=hi;dsimp only at hl0 hl1 he0 he1 he2 hs1 hk1 hks;have hb3:=zagY w (.cells #[.slice A nf ncap,.slice B ni icap] 31) (.cells #[.string name,.int .i64 params,.int .i64 locals,.int .i64 entry,.int .i64 fin] 50) (.cells #[.int .i64 5,.int .i64 a,.string s,kv] 53);have HB3:=hZz hb3;have HPW:=hZz (hp.below hb3);have HKV:=hZz (hk.below hb3);have HKS:=hZz hks;have hnf0:(0:Int)≤(nf:Int):=by omega
 have hnf9:(nf:Int)≤40:=by omega
 obtain ⟨kA,kcap,rfl,_,_⟩:=hk;obtain ⟨P,hP⟩:∃ P:Ending→World→Prop,(fun e w'=>(∃ b,e=.returned (.bool b)∧(b=true↔OpsP nf ⟨name,params,locals,entry,fin⟩ ⟨5,a,s,keys⟩))∧Below w.heap.size w w')=P:=⟨_,rfl⟩
 rw [hP];have HP:=hZz hP;unfold FnD.val;clear hP hp hb3 hks;go_enter func97,ntmps97
 go_wp2_with (first
  | (go_at_call 95;(with_reducible refine (in_any _ _ _ _).mono ?_);rintro e w1 ⟨⟨b,rfl,hb⟩,hw1⟩;rw [hw1];clear hw1 w1;have HBQ:=hZz hb;clear hb)
  | fail)
 all_goals rw [← HP.out]
 exact ⟨⟨b,rfl,by rw [HBQ.out];first | (simp [OpsP];done) | (simp [OpsP];omega)⟩,HB3.out⟩
set_option maxHeartbeats 4000000 in
theorem operands_6 (nf cap ncap:Nat) (A B:Option Addr) (f:FnD) (a:Int) (s:ByteArray) (keys:List ByteArray) (kv:Value) (w:World) (hnf:nf≤40) (hf:FnSmall f) (hi:InsOk ⟨6,a,s,keys⟩) (hp:Pow w) (hk:KeysV w kv keys) (ni:Nat) (icap:Nat) :
  Calls prog 97 #[.agg #[.slice A nf ncap,.slice B ni icap],f.val,.agg #[.int .i64 6,.int .i64 a,.string s,kv]] w fun e w'=>(∃ b,e=.returned (.bool b)∧(b=true↔OpsP nf f ⟨6,a,s,keys⟩))∧Below w.heap.size w w':=by
 obtain ⟨name,params,locals,entry,fin⟩:=f;obtain ⟨⟨_,_⟩,⟨hl0,hl1⟩,⟨he0,he1,he2⟩⟩:=hf;obtain ⟨hs1,hk1,hks⟩:=hi;dsimp only at hl0 hl1 he0 he1 he2 hs1 hk1 hks;have hb3:=zagY w (.cells #[.slice A nf ncap,.slice B ni icap] 31) (.cells #[.string name,.int .i64 params,.int .i64 locals,.int .i64 entry,.int .i64 fin] 50) (.cells #[.int .i64 6,.int .i64 a,.string s,kv] 53);have HB3:=hZz hb3;have HPW:=hZz (hp.below hb3);have HKV:=hZz (hk.below hb3);have HKS:=hZz hks;have hnf0:(0:Int)≤(nf:Int):=by omega
 have hnf9:(nf:Int)≤40:=by omega
 obtain ⟨kA,kcap,rfl,_,_⟩:=hk;obtain ⟨P,hP⟩:∃ P:Ending→World→Prop,(fun e w'=>(∃ b,e=.returned (.bool b)∧(b=true↔OpsP nf ⟨name,params,locals,entry,fin⟩ ⟨6,a,s,keys⟩))∧Below w.heap.size w w')=P:=⟨_,rfl⟩
 rw [hP];have HP:=hZz hP;unfold FnD.val;clear hP hp hb3 hks;go_enter func97,ntmps97
 go_wp2_with (first
  | (go_at_call 95;(with_reducible refine (in_any _ _ _ _).mono ?_);rintro e w1 ⟨⟨b,rfl,hb⟩,hw1⟩;rw [hw1];clear hw1 w1;have HBQ:=hZz hb;clear hb)
  | fail)
 all_goals rw [← HP.out]
 exact ⟨⟨b,rfl,by rw [HBQ.out];first | (simp [OpsP];done) | (simp [OpsP];omega)⟩,HB3.out⟩
set_option maxHeartbeats 4000000 in
theorem operands_7 (nf cap ncap:Nat) (A B:Option Addr) (f:FnD) (a:Int) (s:ByteArray) (keys:List ByteArray) (kv:Value) (w:World) (hnf:nf≤40) (hf:FnSmall f) (hi:InsOk ⟨7,a,s,keys⟩) (hp:Pow w) (hk:KeysV w kv keys) (ni:Nat) (icap:Nat) :
  Calls prog 97 #[.agg #[.slice A nf ncap,.slice B ni icap],f.val,.agg #[.int .i64 7,.int .i64 a,.string s,kv]] w fun e w'=>(∃ b,e=.returned (.bool b)∧(b=true↔OpsP nf f ⟨7,a,s,keys⟩))∧Below w.heap.size w w':=by
 obtain ⟨name,params,locals,entry,fin⟩:=f;obtain ⟨⟨_,_⟩,⟨hl0,hl1⟩,⟨he0,he1,he2⟩⟩:=hf;obtain ⟨hs1,hk1,hks⟩:=hi;dsimp only at hl0 hl1 he0 he1 he2 hs1 hk1 hks;have hb3:=zagY w (.cells #[.slice A nf ncap,.slice B ni icap] 31) (.cells #[.string name,.int .i64 params,.int .i64 locals,.int .i64 entry,.int .i64 fin] 50) (.cells #[.int .i64 7,.int .i64 a,.string s,kv] 53);have HB3:=hZz hb3;have HPW:=hZz (hp.below hb3);have HKV:=hZz (hk.below hb3);have HKS:=hZz hks;have hnf0:(0:Int)≤(nf:Int):=by omega
 have hnf9:(nf:Int)≤40:=by omega
 obtain ⟨kA,kcap,rfl,_,_⟩:=hk;obtain ⟨P,hP⟩:∃ P:Ending→World→Prop,(fun e w'=>(∃ b,e=.returned (.bool b)∧(b=true↔OpsP nf ⟨name,params,locals,entry,fin⟩ ⟨7,a,s,keys⟩))∧Below w.heap.size w w')=P:=⟨_,rfl⟩
 rw [hP];have HP:=hZz hP;unfold FnD.val;clear hP hp hb3 hks;go_enter func97,ntmps97
 go_wp2_with (first
  | fail
  | fail)
 all_goals rw [← HP.out]
 exact ⟨⟨true,rfl,by simp [OpsP]⟩,HB3.out⟩
set_option maxHeartbeats 4000000 in
theorem operands_8 (nf cap ncap:Nat) (A B:Option Addr) (f:FnD) (a:Int) (s:ByteArray) (keys:List ByteArray) (kv:Value) (w:World) (hnf:nf≤40) (hf:FnSmall f) (hi:InsOk ⟨8,a,s,keys⟩) (hp:Pow w) (hk:KeysV w kv keys) (ni:Nat) (icap:Nat) :
  Calls prog 97 #[.agg #[.slice A nf ncap,.slice B ni icap],f.val,.agg #[.int .i64 8,.int .i64 a,.string s,kv]] w fun e w'=>(∃ b,e=.returned (.bool b)∧(b=true↔OpsP nf f ⟨8,a,s,keys⟩))∧Below w.heap.size w w':=by
 obtain ⟨name,params,locals,entry,fin⟩:=f;obtain ⟨⟨_,_⟩,⟨hl0,hl1⟩,⟨he0,he1,he2⟩⟩:=hf;obtain ⟨hs1,hk1,hks⟩:=hi;dsimp only at hl0 hl1 he0 he1 he2 hs1 hk1 hks;have hb3:=zagY w (.cells #[.slice A nf ncap,.slice B ni icap] 31) (.cells #[.string name,.int .i64 params,.int .i64 locals,.int .i64 entry,.int .i64 fin] 50) (.cells #[.int .i64 8,.int .i64 a,.string s,kv] 53);have HB3:=hZz hb3;have HPW:=hZz (hp.below hb3);have HKV:=hZz (hk.below hb3);have HKS:=hZz hks;have hnf0:(0:Int)≤(nf:Int):=by omega
 have hnf9:(nf:Int)≤40:=by omega
 obtain ⟨kA,kcap,rfl,_,_⟩:=hk;obtain ⟨P,hP⟩:∃ P:Ending→World→Prop,(fun e w'=>(∃ b,e=.returned (.bool b)∧(b=true↔OpsP nf ⟨name,params,locals,entry,fin⟩ ⟨8,a,s,keys⟩))∧Below w.heap.size w w')=P:=⟨_,rfl⟩
 rw [hP];have HP:=hZz hP;unfold FnD.val;clear hP hp hb3 hks;go_enter func97,ntmps97
 go_wp2_with (first
  | fail
  | fail)
 all_goals rw [← HP.out]
 all_goals exact ⟨⟨_,rfl,by simp_all [OpsP]⟩,HB3.out⟩
set_option maxHeartbeats 4000000 in
theorem operands_9 (nf cap ncap:Nat) (A B:Option Addr) (f:FnD) (a:Int) (s:ByteArray) (keys:List ByteArray) (kv:Value) (w:World) (hnf:nf≤40) (hf:FnSmall f) (hi:InsOk ⟨9,a,s,keys⟩) (hp:Pow w) (hk:KeysV w kv keys) (ni:Nat) (icap:Nat) :
  Calls prog 97 #[.agg #[.slice A nf ncap,.slice B ni icap],f.val,.agg #[.int .i64 9,.int .i64 a,.string s,kv]] w fun e w'=>(∃ b,e=.returned (.bool b)∧(b=true↔OpsP nf f ⟨9,a,s,keys⟩))∧Below w.heap.size w w':=by
 obtain ⟨name,params,locals,entry,fin⟩:=f;obtain ⟨⟨_,_⟩,⟨hl0,hl1⟩,⟨he0,he1,he2⟩⟩:=hf;obtain ⟨hs1,hk1,hks⟩:=hi;dsimp only at hl0 hl1 he0 he1 he2 hs1 hk1 hks;have hb3:=zagY w (.cells #[.slice A nf ncap,.slice B ni icap] 31) (.cells #[.string name,.int .i64 params,.int .i64 locals,.int .i64 entry,.int .i64 fin] 50) (.cells #[.int .i64 9,.int .i64 a,.string s,kv] 53);have HB3:=hZz hb3;have HPW:=hZz (hp.below hb3);have HKV:=hZz (hk.below hb3);have HKS:=hZz hks;have hnf0:(0:Int)≤(nf:Int):=by omega
 have hnf9:(nf:Int)≤40:=by omega
 obtain ⟨kA,kcap,rfl,_,_⟩:=hk;obtain ⟨P,hP⟩:∃ P:Ending→World→Prop,(fun e w'=>(∃ b,e=.returned (.bool b)∧(b=true↔OpsP nf ⟨name,params,locals,entry,fin⟩ ⟨9,a,s,keys⟩))∧Below w.heap.size w w')=P:=⟨_,rfl⟩
 rw [hP];have HP:=hZz hP;unfold FnD.val;clear hP hp hb3 hks;go_enter func97,ntmps97
 have HC:Hid (∀ wx,(∀ j,j<11→wx.cell? ⟨w.heap.size+1+1+1,0+j,none⟩=some (.string ([⟨#[43]⟩,⟨#[45]⟩,⟨#[42]⟩,⟨#[47]⟩,⟨#[37]⟩,⟨#[61,61]⟩,⟨#[33,61]⟩,⟨#[60]⟩,⟨#[60,61]⟩,⟨#[62]⟩,⟨#[62,61]⟩].getD j ByteArray.empty)))→Calls prog 88 #[.slice (some ⟨w.heap.size+1+1+1,0,none⟩) 11 11,.string s] wx fun e w'=>(∃ b,e=.returned (.bool b)∧(b=true↔s.toList∈binL))∧w'=wx):=hZz (fun wx hx=>by
  refine (Tryz.slices_Contains_string (w.heap.size+1+1+1) 0 11 11 _ s wx (by decide) (by decide) (fun j hj=>hx j hj)).mono ?_
  rintro e w' ⟨rfl,rfl⟩;exact ⟨⟨_,rfl,bin_lib s⟩,rfl⟩)
 go_wp2_with (first
  | (go_at_call 88;(with_reducible refine (HC.out _ ?_).mono ?_);rotate_left;(rintro e w1 ⟨⟨b,rfl,hb⟩,hw1⟩;rw [hw1];clear hw1 w1;have HBQ:=hZz hb;clear hb)))
 ·rw [← HP.out]
  exact ⟨⟨b,rfl,by rw [HBQ.out];simp [OpsP]⟩,HB3.out.alloc HB3.out.size _⟩
 ·intro j hj
  have:j=0∨j=1∨j=2∨j=3∨j=4∨j=5∨j=6∨j=7∨j=8∨j=9∨j=10:=by omega
  rcases this with rfl | rfl | rfl | rfl | rfl | rfl | rfl | rfl | rfl | rfl | rfl
  all_goals rfl
set_option maxHeartbeats 4000000 in
theorem operands_10 (nf cap ncap:Nat) (A B:Option Addr) (f:FnD) (a:Int) (s:ByteArray) (keys:List ByteArray) (kv:Value) (w:World) (hnf:nf≤40) (hf:FnSmall f) (hi:InsOk ⟨10,a,s,keys⟩) (hp:Pow w) (hk:KeysV w kv keys) (ni:Nat) (icap:Nat) :
  Calls prog 97 #[.agg #[.slice A nf ncap,.slice B ni icap],f.val,.agg #[.int .i64 10,.int .i64 a,.string s,kv]] w fun e w'=>(∃ b,e=.returned (.bool b)∧(b=true↔OpsP nf f ⟨10,a,s,keys⟩))∧Below w.heap.size w w':=by
 obtain ⟨name,params,locals,entry,fin⟩:=f;obtain ⟨⟨_,_⟩,⟨hl0,hl1⟩,⟨he0,he1,he2⟩⟩:=hf;obtain ⟨hs1,hk1,hks⟩:=hi;dsimp only at hl0 hl1 he0 he1 he2 hs1 hk1 hks;have hb3:=zagY w (.cells #[.slice A nf ncap,.slice B ni icap] 31) (.cells #[.string name,.int .i64 params,.int .i64 locals,.int .i64 entry,.int .i64 fin] 50) (.cells #[.int .i64 10,.int .i64 a,.string s,kv] 53);have HB3:=hZz hb3;have HPW:=hZz (hp.below hb3);have HKV:=hZz (hk.below hb3);have HKS:=hZz hks;have hnf0:(0:Int)≤(nf:Int):=by omega
 have hnf9:(nf:Int)≤40:=by omega
 obtain ⟨kA,kcap,rfl,_,_⟩:=hk;obtain ⟨P,hP⟩:∃ P:Ending→World→Prop,(fun e w'=>(∃ b,e=.returned (.bool b)∧(b=true↔OpsP nf ⟨name,params,locals,entry,fin⟩ ⟨10,a,s,keys⟩))∧Below w.heap.size w w')=P:=⟨_,rfl⟩
 rw [hP];have HP:=hZz hP;unfold FnD.val;clear hP hp hb3 hks;go_enter func97,ntmps97
 go_wp2_with (first
  | fail
  | fail)
 all_goals rw [← HP.out]
 exact ⟨⟨true,rfl,by simp [OpsP]⟩,HB3.out⟩
set_option maxHeartbeats 4000000 in
theorem operands_11 (nf cap ncap:Nat) (A B:Option Addr) (f:FnD) (a:Int) (s:ByteArray) (keys:List ByteArray) (kv:Value) (w:World) (hnf:nf≤40) (hf:FnSmall f) (hi:InsOk ⟨11,a,s,keys⟩) (hp:Pow w) (hk:KeysV w kv keys) (ni:Nat) (icap:Nat) :
  Calls prog 97 #[.agg #[.slice A nf ncap,.slice B ni icap],f.val,.agg #[.int .i64 11,.int .i64 a,.string s,kv]] w fun e w'=>(∃ b,e=.returned (.bool b)∧(b=true↔OpsP nf f ⟨11,a,s,keys⟩))∧Below w.heap.size w w':=by
 obtain ⟨name,params,locals,entry,fin⟩:=f;obtain ⟨⟨_,_⟩,⟨hl0,hl1⟩,⟨he0,he1,he2⟩⟩:=hf;obtain ⟨hs1,hk1,hks⟩:=hi;dsimp only at hl0 hl1 he0 he1 he2 hs1 hk1 hks;have hb3:=zagY w (.cells #[.slice A nf ncap,.slice B ni icap] 31) (.cells #[.string name,.int .i64 params,.int .i64 locals,.int .i64 entry,.int .i64 fin] 50) (.cells #[.int .i64 11,.int .i64 a,.string s,kv] 53);have HB3:=hZz hb3;have HPW:=hZz (hp.below hb3);have HKV:=hZz (hk.below hb3);have HKS:=hZz hks;have hnf0:(0:Int)≤(nf:Int):=by omega
 have hnf9:(nf:Int)≤40:=by omega
 obtain ⟨kA,kcap,rfl,_,_⟩:=hk;obtain ⟨P,hP⟩:∃ P:Ending→World→Prop,(fun e w'=>(∃ b,e=.returned (.bool b)∧(b=true↔OpsP nf ⟨name,params,locals,entry,fin⟩ ⟨11,a,s,keys⟩))∧Below w.heap.size w w')=P:=⟨_,rfl⟩
 rw [hP];have HP:=hZz hP;unfold FnD.val;clear hP hp hb3 hks;go_enter func97,ntmps97
 go_wp2_with (first
  | (go_at_call 95;(with_reducible refine (in_any _ _ _ _).mono ?_);rintro e w1 ⟨⟨b,rfl,hb⟩,hw1⟩;rw [hw1];clear hw1 w1;have HBQ:=hZz hb;clear hb)
  | fail)
 all_goals rw [← HP.out]
 exact ⟨⟨b,rfl,by rw [HBQ.out];first | (simp [OpsP];done) | (simp [OpsP];omega)⟩,HB3.out⟩
set_option maxHeartbeats 4000000 in
theorem operands_12 (nf cap ncap:Nat) (A B:Option Addr) (f:FnD) (a:Int) (s:ByteArray) (keys:List ByteArray) (kv:Value) (w:World) (hnf:nf≤40) (hf:FnSmall f) (hi:InsOk ⟨12,a,s,keys⟩) (hp:Pow w) (hk:KeysV w kv keys) (ni:Nat) (icap:Nat) :
  Calls prog 97 #[.agg #[.slice A nf ncap,.slice B ni icap],f.val,.agg #[.int .i64 12,.int .i64 a,.string s,kv]] w fun e w'=>(∃ b,e=.returned (.bool b)∧(b=true↔OpsP nf f ⟨12,a,s,keys⟩))∧Below w.heap.size w w':=by
 obtain ⟨name,params,locals,entry,fin⟩:=f;obtain ⟨⟨_,_⟩,⟨hl0,hl1⟩,⟨he0,he1,he2⟩⟩:=hf;obtain ⟨hs1,hk1,hks⟩:=hi;dsimp only at hl0 hl1 he0 he1 he2 hs1 hk1 hks;have hb3:=zagY w (.cells #[.slice A nf ncap,.slice B ni icap] 31) (.cells #[.string name,.int .i64 params,.int .i64 locals,.int .i64 entry,.int .i64 fin] 50) (.cells #[.int .i64 12,.int .i64 a,.string s,kv] 53);have HB3:=hZz hb3;have HPW:=hZz (hp.below hb3);have HKV:=hZz (hk.below hb3);have HKS:=hZz hks;have hnf0:(0:Int)≤(nf:Int):=by omega
 have hnf9:(nf:Int)≤40:=by omega
 obtain ⟨kA,kcap,rfl,_,_⟩:=hk;obtain ⟨P,hP⟩:∃ P:Ending→World→Prop,(fun e w'=>(∃ b,e=.returned (.bool b)∧(b=true↔OpsP nf ⟨name,params,locals,entry,fin⟩ ⟨12,a,s,keys⟩))∧Below w.heap.size w w')=P:=⟨_,rfl⟩
 rw [hP];have HP:=hZz hP;unfold FnD.val;clear hP hp hb3 hks;go_enter func97,ntmps97
 have HKC:=hZz (keys_any keys _ _ (by omega) (fun k hk=>by have:=HKS.out k hk;omega) HPW.out HKV.out);by_cases ha:a=keys.length
 ·subst ha
  have hkk:((keys.length:Int) == (keys.length:Int))=true:=by simp
  go_wp2_with (first
   | (go_at_call 95;(with_reducible refine (in_any _ _ _ _).mono ?_);rintro e w1 ⟨⟨b,rfl,hb⟩,hw1⟩;rw [hw1];clear hw1 w1;have HBQ:=hZz hb;clear hb;cases b)
   | (go_at_call 146;(with_reducible refine HKC.out.mono ?_);rintro e w2 ⟨⟨b2,rfl,hb2⟩,hb1⟩;have HB1:=hZz (zaeZ hb1 HB3.out);have HBQ2:=hZz hb2;clear hb2 hb1))
  all_goals rw [← HP.out]
  ·exact ⟨⟨false,rfl,by simp [OpsP];intro h1 _;have:=HBQ.out.2 ⟨by omega,h1⟩;cases this⟩,HB3.out⟩
  ·exact ⟨⟨b2,rfl,by rw [HBQ2.out];have:=HBQ.out.1 (by trivial);simp [OpsP];intro _;omega⟩,HB1.out⟩
 ·have ha':(a == (keys.length:Int))=false:=by simpa using ha
  go_wp2_with (first
   | (go_at_call 95;(with_reducible refine (in_any _ _ _ _).mono ?_);rintro e w1 ⟨⟨b,rfl,hb⟩,hw1⟩;rw [hw1];clear hw1 w1;have HBQ:=hZz hb;clear hb;cases b))
  all_goals rw [← HP.out]
  all_goals exact ⟨⟨false,rfl,by simp [OpsP];intro h1 h2 h3;exact absurd h3 ha⟩,HB3.out⟩
set_option maxHeartbeats 4000000 in
theorem operands_13 (nf cap ncap:Nat) (A B:Option Addr) (f:FnD) (a:Int) (s:ByteArray) (keys:List ByteArray) (kv:Value) (w:World) (hnf:nf≤40) (hf:FnSmall f) (hi:InsOk ⟨13,a,s,keys⟩) (hp:Pow w) (hk:KeysV w kv keys) (ni:Nat) (icap:Nat) :
  Calls prog 97 #[.agg #[.slice A nf ncap,.slice B ni icap],f.val,.agg #[.int .i64 13,.int .i64 a,.string s,kv]] w fun e w'=>(∃ b,e=.returned (.bool b)∧(b=true↔OpsP nf f ⟨13,a,s,keys⟩))∧Below w.heap.size w w':=by
 obtain ⟨name,params,locals,entry,fin⟩:=f;obtain ⟨⟨_,_⟩,⟨hl0,hl1⟩,⟨he0,he1,he2⟩⟩:=hf;obtain ⟨hs1,hk1,hks⟩:=hi;dsimp only at hl0 hl1 he0 he1 he2 hs1 hk1 hks;have hb3:=zagY w (.cells #[.slice A nf ncap,.slice B ni icap] 31) (.cells #[.string name,.int .i64 params,.int .i64 locals,.int .i64 entry,.int .i64 fin] 50) (.cells #[.int .i64 13,.int .i64 a,.string s,kv] 53);have HB3:=hZz hb3;have HPW:=hZz (hp.below hb3);have HKV:=hZz (hk.below hb3);have HKS:=hZz hks;have hnf0:(0:Int)≤(nf:Int):=by omega
 have hnf9:(nf:Int)≤40:=by omega
 obtain ⟨kA,kcap,rfl,_,_⟩:=hk;obtain ⟨P,hP⟩:∃ P:Ending→World→Prop,(fun e w'=>(∃ b,e=.returned (.bool b)∧(b=true↔OpsP nf ⟨name,params,locals,entry,fin⟩ ⟨13,a,s,keys⟩))∧Below w.heap.size w w')=P:=⟨_,rfl⟩
 rw [hP];have HP:=hZz hP;unfold FnD.val;clear hP hp hb3 hks;go_enter func97,ntmps97
 go_wp2_with (first
  | (go_at_call 95;(with_reducible refine (in_any _ _ _ _).mono ?_);rintro e w1 ⟨⟨b,rfl,hb⟩,hw1⟩;rw [hw1];clear hw1 w1;have HBQ:=hZz hb;clear hb)
  | fail)
 all_goals rw [← HP.out]
 exact ⟨⟨b,rfl,by rw [HBQ.out];first | (simp [OpsP];done) | (simp [OpsP];omega)⟩,HB3.out⟩
set_option maxHeartbeats 4000000 in
theorem operands_14 (nf cap ncap:Nat) (A B:Option Addr) (f:FnD) (a:Int) (s:ByteArray) (keys:List ByteArray) (kv:Value) (w:World) (hnf:nf≤40) (hf:FnSmall f) (hi:InsOk ⟨14,a,s,keys⟩) (hp:Pow w) (hk:KeysV w kv keys) (ni:Nat) (icap:Nat) :
  Calls prog 97 #[.agg #[.slice A nf ncap,.slice B ni icap],f.val,.agg #[.int .i64 14,.int .i64 a,.string s,kv]] w fun e w'=>(∃ b,e=.returned (.bool b)∧(b=true↔OpsP nf f ⟨14,a,s,keys⟩))∧Below w.heap.size w w':=by
 obtain ⟨name,params,locals,entry,fin⟩:=f;obtain ⟨⟨_,_⟩,⟨hl0,hl1⟩,⟨he0,he1,he2⟩⟩:=hf;obtain ⟨hs1,hk1,hks⟩:=hi;dsimp only at hl0 hl1 he0 he1 he2 hs1 hk1 hks;have hb3:=zagY w (.cells #[.slice A nf ncap,.slice B ni icap] 31) (.cells #[.string name,.int .i64 params,.int .i64 locals,.int .i64 entry,.int .i64 fin] 50) (.cells #[.int .i64 14,.int .i64 a,.string s,kv] 53);have HB3:=hZz hb3;have HPW:=hZz (hp.below hb3);have HKV:=hZz (hk.below hb3);have HKS:=hZz hks;have hnf0:(0:Int)≤(nf:Int):=by omega
 have hnf9:(nf:Int)≤40:=by omega
 obtain ⟨kA,kcap,rfl,_,_⟩:=hk;obtain ⟨P,hP⟩:∃ P:Ending→World→Prop,(fun e w'=>(∃ b,e=.returned (.bool b)∧(b=true↔OpsP nf ⟨name,params,locals,entry,fin⟩ ⟨14,a,s,keys⟩))∧Below w.heap.size w w')=P:=⟨_,rfl⟩
 rw [hP];have HP:=hZz hP;unfold FnD.val;clear hP hp hb3 hks;go_enter func97,ntmps97
 go_wp2_with (first
  | (go_at_call 95;(with_reducible refine (in_any _ _ _ _).mono ?_);rintro e w1 ⟨⟨b,rfl,hb⟩,hw1⟩;rw [hw1];clear hw1 w1;have HBQ:=hZz hb;clear hb)
  | fail)
 all_goals rw [← HP.out]
 exact ⟨⟨b,rfl,by rw [HBQ.out];first | (simp [OpsP];done) | (simp [OpsP];omega)⟩,HB3.out⟩
set_option maxHeartbeats 4000000 in
theorem operands_15 (nf cap ncap:Nat) (A B:Option Addr) (f:FnD) (a:Int) (s:ByteArray) (keys:List ByteArray) (kv:Value) (w:World) (hnf:nf≤40) (hf:FnSmall f) (hi:InsOk ⟨15,a,s,keys⟩) (hp:Pow w) (hk:KeysV w kv keys) (ni:Nat) (icap:Nat) :
  Calls prog 97 #[.agg #[.slice A nf ncap,.slice B ni icap],f.val,.agg #[.int .i64 15,.int .i64 a,.string s,kv]] w fun e w'=>(∃ b,e=.returned (.bool b)∧(b=true↔OpsP nf f ⟨15,a,s,keys⟩))∧Below w.heap.size w w':=by
 obtain ⟨name,params,locals,entry,fin⟩:=f;obtain ⟨⟨_,_⟩,⟨hl0,hl1⟩,⟨he0,he1,he2⟩⟩:=hf;obtain ⟨hs1,hk1,hks⟩:=hi;dsimp only at hl0 hl1 he0 he1 he2 hs1 hk1 hks;have hb3:=zagY w (.cells #[.slice A nf ncap,.slice B ni icap] 31) (.cells #[.string name,.int .i64 params,.int .i64 locals,.int .i64 entry,.int .i64 fin] 50) (.cells #[.int .i64 15,.int .i64 a,.string s,kv] 53);have HB3:=hZz hb3;have HPW:=hZz (hp.below hb3);have HKV:=hZz (hk.below hb3);have HKS:=hZz hks;have hnf0:(0:Int)≤(nf:Int):=by omega
 have hnf9:(nf:Int)≤40:=by omega
 obtain ⟨kA,kcap,rfl,_,_⟩:=hk;obtain ⟨P,hP⟩:∃ P:Ending→World→Prop,(fun e w'=>(∃ b,e=.returned (.bool b)∧(b=true↔OpsP nf ⟨name,params,locals,entry,fin⟩ ⟨15,a,s,keys⟩))∧Below w.heap.size w w')=P:=⟨_,rfl⟩
 rw [hP];have HP:=hZz hP;unfold FnD.val;clear hP hp hb3 hks;go_enter func97,ntmps97
 go_wp2_with (first
  | fail
  | fail)
 all_goals rw [← HP.out]
 exact ⟨⟨true,rfl,by simp [OpsP]⟩,HB3.out⟩
set_option maxHeartbeats 4000000 in
theorem operands_16 (nf cap ncap:Nat) (A B:Option Addr) (f:FnD) (a:Int) (s:ByteArray) (keys:List ByteArray) (kv:Value) (w:World) (hnf:nf≤40) (hf:FnSmall f) (hi:InsOk ⟨16,a,s,keys⟩) (hp:Pow w) (hk:KeysV w kv keys) (ni:Nat) (icap:Nat) :
  Calls prog 97 #[.agg #[.slice A nf ncap,.slice B ni icap],f.val,.agg #[.int .i64 16,.int .i64 a,.string s,kv]] w fun e w'=>(∃ b,e=.returned (.bool b)∧(b=true↔OpsP nf f ⟨16,a,s,keys⟩))∧Below w.heap.size w w':=by
 obtain ⟨name,params,locals,entry,fin⟩:=f;obtain ⟨⟨_,_⟩,⟨hl0,hl1⟩,⟨he0,he1,he2⟩⟩:=hf;obtain ⟨hs1,hk1,hks⟩:=hi;dsimp only at hl0 hl1 he0 he1 he2 hs1 hk1 hks;have hb3:=zagY w (.cells #[.slice A nf ncap,.slice B ni icap] 31) (.cells #[.string name,.int .i64 params,.int .i64 locals,.int .i64 entry,.int .i64 fin] 50) (.cells #[.int .i64 16,.int .i64 a,.string s,kv] 53);have HB3:=hZz hb3;have HPW:=hZz (hp.below hb3);have HKV:=hZz (hk.below hb3);have HKS:=hZz hks;have hnf0:(0:Int)≤(nf:Int):=by omega
 have hnf9:(nf:Int)≤40:=by omega
 obtain ⟨kA,kcap,rfl,_,_⟩:=hk;obtain ⟨P,hP⟩:∃ P:Ending→World→Prop,(fun e w'=>(∃ b,e=.returned (.bool b)∧(b=true↔OpsP nf ⟨name,params,locals,entry,fin⟩ ⟨16,a,s,keys⟩))∧Below w.heap.size w w')=P:=⟨_,rfl⟩
 rw [hP];have HP:=hZz hP;unfold FnD.val;clear hP hp hb3 hks;go_enter func97,ntmps97
 go_wp2_with (first
  | fail
  | fail)
 all_goals rw [← HP.out]
 exact ⟨⟨true,rfl,by simp [OpsP]⟩,HB3.out⟩
set_option maxHeartbeats 4000000 in
theorem operands_17 (nf cap ncap:Nat) (A B:Option Addr) (f:FnD) (a:Int) (s:ByteArray) (keys:List ByteArray) (kv:Value) (w:World) (hnf:nf≤40) (hf:FnSmall f) (hi:InsOk ⟨17,a,s,keys⟩) (hp:Pow w) (hk:KeysV w kv keys) (ni:Nat) (icap:Nat) :
  Calls prog 97 #[.agg #[.slice A nf ncap,.slice B ni icap],f.val,.agg #[.int .i64 17,.int .i64 a,.string s,kv]] w fun e w'=>(∃ b,e=.returned (.bool b)∧(b=true↔OpsP nf f ⟨17,a,s,keys⟩))∧Below w.heap.size w w':=by
 obtain ⟨name,params,locals,entry,fin⟩:=f;obtain ⟨⟨_,_⟩,⟨hl0,hl1⟩,⟨he0,he1,he2⟩⟩:=hf;obtain ⟨hs1,hk1,hks⟩:=hi;dsimp only at hl0 hl1 he0 he1 he2 hs1 hk1 hks;have hb3:=zagY w (.cells #[.slice A nf ncap,.slice B ni icap] 31) (.cells #[.string name,.int .i64 params,.int .i64 locals,.int .i64 entry,.int .i64 fin] 50) (.cells #[.int .i64 17,.int .i64 a,.string s,kv] 53);have HB3:=hZz hb3;have HPW:=hZz (hp.below hb3);have HKV:=hZz (hk.below hb3);have HKS:=hZz hks;have hnf0:(0:Int)≤(nf:Int):=by omega
 have hnf9:(nf:Int)≤40:=by omega
 obtain ⟨kA,kcap,rfl,_,_⟩:=hk;obtain ⟨P,hP⟩:∃ P:Ending→World→Prop,(fun e w'=>(∃ b,e=.returned (.bool b)∧(b=true↔OpsP nf ⟨name,params,locals,entry,fin⟩ ⟨17,a,s,keys⟩))∧Below w.heap.size w w')=P:=⟨_,rfl⟩
 rw [hP];have HP:=hZz hP;unfold FnD.val;clear hP hp hb3 hks;go_enter func97,ntmps97
 go_wp2_with (first
  | (go_at_call 95;(with_reducible refine (in_any _ _ _ _).mono ?_);rintro e w1 ⟨⟨b,rfl,hb⟩,hw1⟩;rw [hw1];clear hw1 w1;have HBQ:=hZz hb;clear hb)
  | fail)
 all_goals rw [← HP.out]
 exact ⟨⟨b,rfl,by rw [HBQ.out];first | (simp [OpsP];done) | (simp [OpsP];omega)⟩,HB3.out⟩
set_option maxHeartbeats 4000000 in
theorem operands_18 (nf cap ncap:Nat) (A B:Option Addr) (f:FnD) (a:Int) (s:ByteArray) (keys:List ByteArray) (kv:Value) (w:World) (hnf:nf≤40) (hf:FnSmall f) (hi:InsOk ⟨18,a,s,keys⟩) (hp:Pow w) (hk:KeysV w kv keys) (ni:Nat) (icap:Nat) :
  Calls prog 97 #[.agg #[.slice A nf ncap,.slice B ni icap],f.val,.agg #[.int .i64 18,.int .i64 a,.string s,kv]] w fun e w'=>(∃ b,e=.returned (.bool b)∧(b=true↔OpsP nf f ⟨18,a,s,keys⟩))∧Below w.heap.size w w':=by
 obtain ⟨name,params,locals,entry,fin⟩:=f;obtain ⟨⟨_,_⟩,⟨hl0,hl1⟩,⟨he0,he1,he2⟩⟩:=hf;obtain ⟨hs1,hk1,hks⟩:=hi;dsimp only at hl0 hl1 he0 he1 he2 hs1 hk1 hks;have hb3:=zagY w (.cells #[.slice A nf ncap,.slice B ni icap] 31) (.cells #[.string name,.int .i64 params,.int .i64 locals,.int .i64 entry,.int .i64 fin] 50) (.cells #[.int .i64 18,.int .i64 a,.string s,kv] 53);have HB3:=hZz hb3;have HPW:=hZz (hp.below hb3);have HKV:=hZz (hk.below hb3);have HKS:=hZz hks;have hnf0:(0:Int)≤(nf:Int):=by omega
 have hnf9:(nf:Int)≤40:=by omega
 obtain ⟨kA,kcap,rfl,_,_⟩:=hk;obtain ⟨P,hP⟩:∃ P:Ending→World→Prop,(fun e w'=>(∃ b,e=.returned (.bool b)∧(b=true↔OpsP nf ⟨name,params,locals,entry,fin⟩ ⟨18,a,s,keys⟩))∧Below w.heap.size w w')=P:=⟨_,rfl⟩
 rw [hP];have HP:=hZz hP;unfold FnD.val;clear hP hp hb3 hks;go_enter func97,ntmps97
 obtain ⟨r,hr⟩:∃ r,lookL builtL s=r:=⟨_,rfl⟩
 have HR:=hZz hr;have HC:Hid (∀ wx,Calls prog 86 #[.string s] wx fun e w'=>e=.returned (.tuple #[.int .i64 (r.getD 0),.bool r.isSome])∧Below wx.heap.size wx w'):=hZz (fun wx=>by rw [← hr];exact built_any s wx);have HX:=hZz (Blk.new ((w.alloc (.cells #[.slice A nf ncap,.slice B ni icap] 31)).alloc (.cells #[.string name,.int .i64 params,.int .i64 locals,.int .i64 entry,.int .i64 fin] 50)) 53 #[.int .i64 18,.int .i64 a,.string s,.slice kA keys.length kcap]);clear hr;cases r with
 | none =>
  go_wp2_with (first
   | (go_at_call 86;(with_reducible refine (HC.out _).mono ?_);rintro e w1 ⟨rfl,hb1⟩;have HB1:=hZz (zaeZ hb1 HB3.out);clear hb1))
  rw [← HP.out];exact ⟨⟨_,rfl,by simp [OpsP,HR.out]⟩,HB1.out⟩
 | some n =>
  by_cases han:a=n
  ·subst han
   have han':(a == a)=true:=by simp
   go_wp2_with (first
    | (go_at_call 86;(with_reducible refine (HC.out _).mono ?_);rintro e w1 ⟨rfl,hb1⟩;have HB1:=hZz (zaeZ hb1 HB3.out);have p:=blk4 (HX.out.below hb1);simp only [World.size_alloc] at p;clear hb1))
   rw [← HP.out];exact ⟨⟨true,rfl,by simp [OpsP,HR.out]⟩,HB1.out⟩
  ·have han':(a == n)=false:=by simpa using han
   go_wp2_with (first
    | (go_at_call 86;(with_reducible refine (HC.out _).mono ?_);rintro e w1 ⟨rfl,hb1⟩;have HB1:=hZz (zaeZ hb1 HB3.out);have p:=blk4 (HX.out.below hb1);simp only [World.size_alloc] at p;clear hb1))
   rw [← HP.out];exact ⟨⟨_,rfl,by simp [OpsP,HR.out,han'];exact fun h=>han h.symm⟩,HB1.out⟩
set_option maxHeartbeats 4000000 in
theorem operands_19 (nf cap ncap:Nat) (A B:Option Addr) (f:FnD) (a:Int) (s:ByteArray) (keys:List ByteArray) (kv:Value) (w:World) (hnf:nf≤40) (hf:FnSmall f) (hi:InsOk ⟨19,a,s,keys⟩) (hp:Pow w) (hk:KeysV w kv keys) (ni:Nat) (icap:Nat) :
  Calls prog 97 #[.agg #[.slice A nf ncap,.slice B ni icap],f.val,.agg #[.int .i64 19,.int .i64 a,.string s,kv]] w fun e w'=>(∃ b,e=.returned (.bool b)∧(b=true↔OpsP nf f ⟨19,a,s,keys⟩))∧Below w.heap.size w w':=by
 obtain ⟨name,params,locals,entry,fin⟩:=f;obtain ⟨⟨_,_⟩,⟨hl0,hl1⟩,⟨he0,he1,he2⟩⟩:=hf;obtain ⟨hs1,hk1,hks⟩:=hi;dsimp only at hl0 hl1 he0 he1 he2 hs1 hk1 hks;have hb3:=zagY w (.cells #[.slice A nf ncap,.slice B ni icap] 31) (.cells #[.string name,.int .i64 params,.int .i64 locals,.int .i64 entry,.int .i64 fin] 50) (.cells #[.int .i64 19,.int .i64 a,.string s,kv] 53);have HB3:=hZz hb3;have HPW:=hZz (hp.below hb3);have HKV:=hZz (hk.below hb3);have HKS:=hZz hks;have hnf0:(0:Int)≤(nf:Int):=by omega
 have hnf9:(nf:Int)≤40:=by omega
 obtain ⟨kA,kcap,rfl,_,_⟩:=hk;obtain ⟨P,hP⟩:∃ P:Ending→World→Prop,(fun e w'=>(∃ b,e=.returned (.bool b)∧(b=true↔OpsP nf ⟨name,params,locals,entry,fin⟩ ⟨19,a,s,keys⟩))∧Below w.heap.size w w')=P:=⟨_,rfl⟩
 rw [hP];have HP:=hZz hP;unfold FnD.val;clear hP hp hb3 hks;go_enter func97,ntmps97
 obtain ⟨r,hr⟩:∃ r,lookL hostL s=r:=⟨_,rfl⟩
 have HR:=hZz hr;have HC:Hid (∀ wx,Calls prog 92 #[.string s] wx fun e w'=>e=.returned (.tuple #[.int .i64 (r.getD 0),.bool r.isSome])∧Below wx.heap.size wx w'):=hZz (fun wx=>by rw [← hr];exact host_any s wx);have HX:=hZz (Blk.new ((w.alloc (.cells #[.slice A nf ncap,.slice B ni icap] 31)).alloc (.cells #[.string name,.int .i64 params,.int .i64 locals,.int .i64 entry,.int .i64 fin] 50)) 53 #[.int .i64 19,.int .i64 a,.string s,.slice kA keys.length kcap]);clear hr;cases r with
 | none =>
  go_wp2_with (first
   | (go_at_call 92;(with_reducible refine (HC.out _).mono ?_);rintro e w1 ⟨rfl,hb1⟩;have HB1:=hZz (zaeZ hb1 HB3.out);clear hb1))
  rw [← HP.out];exact ⟨⟨_,rfl,by simp [OpsP,HR.out]⟩,HB1.out⟩
 | some n =>
  by_cases han:a=n
  ·subst han
   have han':(a == a)=true:=by simp
   go_wp2_with (first
    | (go_at_call 92;(with_reducible refine (HC.out _).mono ?_);rintro e w1 ⟨rfl,hb1⟩;have HB1:=hZz (zaeZ hb1 HB3.out);have p:=blk4 (HX.out.below hb1);simp only [World.size_alloc] at p;clear hb1))
   rw [← HP.out];exact ⟨⟨true,rfl,by simp [OpsP,HR.out]⟩,HB1.out⟩
  ·have han':(a == n)=false:=by simpa using han
   go_wp2_with (first
    | (go_at_call 92;(with_reducible refine (HC.out _).mono ?_);rintro e w1 ⟨rfl,hb1⟩;have HB1:=hZz (zaeZ hb1 HB3.out);have p:=blk4 (HX.out.below hb1);simp only [World.size_alloc] at p;clear hb1))
   rw [← HP.out];exact ⟨⟨_,rfl,by simp [OpsP,HR.out,han'];exact fun h=>han h.symm⟩,HB1.out⟩
set_option maxHeartbeats 4000000 in
theorem operands_20 (nf cap ncap:Nat) (A B:Option Addr) (f:FnD) (a:Int) (s:ByteArray) (keys:List ByteArray) (kv:Value) (w:World) (hnf:nf≤40) (hf:FnSmall f) (hi:InsOk ⟨20,a,s,keys⟩) (hp:Pow w) (hk:KeysV w kv keys) (ni:Nat) (icap:Nat) :
  Calls prog 97 #[.agg #[.slice A nf ncap,.slice B ni icap],f.val,.agg #[.int .i64 20,.int .i64 a,.string s,kv]] w fun e w'=>(∃ b,e=.returned (.bool b)∧(b=true↔OpsP nf f ⟨20,a,s,keys⟩))∧Below w.heap.size w w':=by
 obtain ⟨name,params,locals,entry,fin⟩:=f;obtain ⟨⟨_,_⟩,⟨hl0,hl1⟩,⟨he0,he1,he2⟩⟩:=hf;obtain ⟨hs1,hk1,hks⟩:=hi;dsimp only at hl0 hl1 he0 he1 he2 hs1 hk1 hks;have hb3:=zagY w (.cells #[.slice A nf ncap,.slice B ni icap] 31) (.cells #[.string name,.int .i64 params,.int .i64 locals,.int .i64 entry,.int .i64 fin] 50) (.cells #[.int .i64 20,.int .i64 a,.string s,kv] 53);have HB3:=hZz hb3;have HPW:=hZz (hp.below hb3);have HKV:=hZz (hk.below hb3);have HKS:=hZz hks;have hnf0:(0:Int)≤(nf:Int):=by omega
 have hnf9:(nf:Int)≤40:=by omega
 obtain ⟨kA,kcap,rfl,_,_⟩:=hk;obtain ⟨P,hP⟩:∃ P:Ending→World→Prop,(fun e w'=>(∃ b,e=.returned (.bool b)∧(b=true↔OpsP nf ⟨name,params,locals,entry,fin⟩ ⟨20,a,s,keys⟩))∧Below w.heap.size w w')=P:=⟨_,rfl⟩
 rw [hP];have HP:=hZz hP;unfold FnD.val;clear hP hp hb3 hks;go_enter func97,ntmps97
 go_wp2_with (first
  | fail
  | fail)
 all_goals rw [← HP.out]
 exact ⟨⟨true,rfl,by simp [OpsP]⟩,HB3.out⟩
end Go.Proofs.YthiimbhjpdphpaaGreatDoor
