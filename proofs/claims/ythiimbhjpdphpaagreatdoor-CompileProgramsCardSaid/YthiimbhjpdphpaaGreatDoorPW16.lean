/- K3, K4, Q3, Q4, W16 -/
import Derived.Test.YthiimbhjpdphpaaGreatDoorPS4
set_option linter.unusedVariables false
set_option linter.unusedSimpArgs false
namespace Go.Proofs.YthiimbhjpdphpaaGreatDoor
open Go.RowKit
set_option maxRecDepth 100000
open Go.Proofs.Tryz
section
attribute [local go_sem] zabZ
theorem in_any (n lo hi:Int) (w:World):Calls prog 95 #[.int .i64 n,.int .i64 lo,.int .i64 hi] w fun e w'=>(∃ b,e=.returned (.bool b)∧(b=true↔lo≤n∧n≤hi))∧w'=w:=by
 obtain ⟨P,hP⟩:∃ P:Ending→World→Prop,(fun e w'=>(∃ b,e=.returned (.bool b)∧(b=true↔lo≤n∧n≤hi))∧w'=w)=P:=⟨_,rfl⟩
 rw [hP];have HP:=hZz hP;clear hP;go_enter func95,ntmps95
 go_wp2
 all_goals
  rw [← HP.out];refine ⟨⟨_,rfl,?_⟩,rfl⟩
  first
   | (simp;done)
   | (simp;omega)
def OpsP (nf:Int) (f:FnD) (i:InsD):Prop :=
 (i.op=2→i.a=0∨i.a=1)∧(i.op=3→-1000000000000≤i.a∧i.a≤1000000000000)∧(i.op=4→StrOk i.s)∧(i.op=5∨i.op=6→0≤i.a∧i.a<f.locals)∧(i.op=8→i.s.toList=[45]∨i.s.toList=[110,111,116])∧(i.op=9→i.s.toList∈binL) ∧
 (i.op=11→0≤i.a∧i.a≤64)∧(i.op=12→(0≤i.a∧i.a≤64)∧i.a=i.keys.length∧AscOk i.keys)∧(i.op=13∨i.op=14→f.entry≤i.a∧i.a<f.fin)∧(i.op=17→0≤i.a∧i.a<nf)∧(i.op=18→lookL builtL i.s=some i.a)∧(i.op=19→lookL hostL i.s=some i.a)
def FnD.val (f:FnD):Value:=.agg #[.string f.name,.int .i64 f.params,.int .i64 f.locals,.int .i64 f.entry,.int .i64 f.fin]
def FnSmall (f:FnD):Prop:=(0≤f.params∧f.params≤8)∧(0≤f.locals∧f.locals≤32)∧(0≤f.entry∧f.entry<f.fin∧f.fin≤4000)
def InsOk (i:InsD):Prop:=i.s.size≤1000∧i.keys.length≤1000∧∀ k∈i.keys,k.size≤1000
theorem bin_lib (s:ByteArray):Lib.containsS [⟨#[43]⟩,⟨#[45]⟩,⟨#[42]⟩,⟨#[47]⟩,⟨#[37]⟩,⟨#[61,61]⟩,⟨#[33,61]⟩,⟨#[60]⟩,⟨#[60,61]⟩,⟨#[62]⟩,⟨#[62,61]⟩] s=true↔s.toList∈binL:=by
 rw [Lib.containsS_iff];simp only [List.mem_cons,List.not_mem_nil,bytes_lit,binL,or_false]
set_option maxHeartbeats 400000000 in
theorem operands_all (op:Int) (h9:1≤op∧op≤20) (nf cap ncap:Nat) (A B:Option Addr) (f:FnD) (a:Int) (s:ByteArray) (keys:List ByteArray) (kv:Value) (w:World) (hnf:nf≤40) (hf:FnSmall f) (hi:InsOk ⟨op,a,s,keys⟩) (hp:Pow w) (hk:KeysV w kv keys) (ni:Nat) (icap:Nat) :
  Calls prog 97 #[.agg #[.slice A nf ncap,.slice B ni icap],f.val,.agg #[.int .i64 op,.int .i64 a,.string s,kv]] w fun e w'=>(∃ b,e=.returned (.bool b)∧(b=true↔OpsP nf f ⟨op,a,s,keys⟩))∧Below w.heap.size w w':=by
 have H20:Hid ((op=1∨op=7∨op=10∨op=15∨op=16∨op=20)∨(op=2∨op=5∨op=6∨op=11∨op=13∨op=14∨op=17)∨op=3∨op=4∨op=8∨op=9∨op=12∨op=18∨op=19):=hZz (by omega);clear h9;obtain ⟨name,params,locals,entry,fin⟩:=f;obtain ⟨⟨_,_⟩,⟨hl0,hl1⟩,⟨he0,he1,he2⟩⟩:=hf;obtain ⟨hs1,hk1,hks⟩:=hi;dsimp only at hl0 hl1 he0 he1 he2 hs1 hk1 hks;have hb3:=zbzY w (.cells #[.slice A nf ncap,.slice B ni icap] 31) (.cells #[.string name,.int .i64 params,.int .i64 locals,.int .i64 entry,.int .i64 fin] 50) (.cells #[.int .i64 op,.int .i64 a,.string s,kv] 53);have HB3:=hZz hb3;have HPW:=hZz (hp.below hb3);have HKV:=hZz (hk.below hb3);have HKS:=hZz hks;have hnf0:(0:Int)≤(nf:Int):=by omega
 have hnf9:(nf:Int)≤40:=by omega
 obtain ⟨kA,kcap,rfl,_,_⟩:=hk;obtain ⟨P,hP⟩:∃ P:Ending→World→Prop,(fun e w'=>(∃ b,e=.returned (.bool b)∧(b=true↔OpsP nf ⟨name,params,locals,entry,fin⟩ ⟨op,a,s,keys⟩))∧Below w.heap.size w w')=P:=⟨_,rfl⟩
 rw [hP];have HP:=hZz hP;unfold FnD.val;clear hP hp hb3 hks;go_enter func97,ntmps97
 rcases H20.out with h | h | rfl | rfl | rfl | rfl | rfl | rfl | rfl
 ·rcases h with rfl | rfl | rfl | rfl | rfl | rfl
  all_goals
   go_wp2_with (first
    | fail
    | fail)
   all_goals rw [← HP.out]
   exact ⟨⟨true,rfl,by simp [OpsP]⟩,HB3.out⟩
 ·rcases h with rfl | rfl | rfl | rfl | rfl | rfl | rfl
  all_goals
   go_wp2_with (first
    | (go_at_call 95;(with_reducible refine (in_any _ _ _ _).mono ?_);rintro e w1 ⟨⟨b,rfl,hb⟩,hw1⟩;rw [hw1];clear hw1 w1;have HBQ:=hZz hb;clear hb)
    | fail)
   all_goals rw [← HP.out]
   exact ⟨⟨b,rfl,by rw [HBQ.out];first | (simp [OpsP];done) | (simp [OpsP];omega)⟩,HB3.out⟩
 ·go_wp2_with (first
   | (go_at_call 144;(with_reducible refine (valid_any _ _).mono ?_);rintro e w1 ⟨rfl,hw1⟩;rw [hw1];clear hw1 w1)
   | fail)
  all_goals rw [← HP.out]
  exact ⟨⟨_,rfl,by simp [OpsP]⟩,HB3.out⟩
 ·go_wp2_with (first
   | (go_at_call 145;(with_reducible refine (ctext_any _ _ (by omega) HPW.out).mono ?_);rintro e w1 ⟨⟨b,rfl,hb⟩,hb1⟩;have HB1:=hZz (zahZ hb1 HB3.out);have HBQ:=hZz hb;clear hb hb1)
   | fail)
  all_goals rw [← HP.out]
  exact ⟨⟨b,rfl,by rw [HBQ.out];simp [OpsP]⟩,HB1.out⟩
 ·go_wp2_with (first
   | fail
   | fail)
  all_goals rw [← HP.out]
  all_goals exact ⟨⟨_,rfl,by simp_all [OpsP]⟩,HB3.out⟩
 ·have HC:Hid (∀ wx,(∀ j,j<11→wx.cell? ⟨w.heap.size+1+1+1,0+j,none⟩=some (.string ([⟨#[43]⟩,⟨#[45]⟩,⟨#[42]⟩,⟨#[47]⟩,⟨#[37]⟩,⟨#[61,61]⟩,⟨#[33,61]⟩,⟨#[60]⟩,⟨#[60,61]⟩,⟨#[62]⟩,⟨#[62,61]⟩].getD j ByteArray.empty)))→Calls prog 88 #[.slice (some ⟨w.heap.size+1+1+1,0,none⟩) 11 11,.string s] wx fun e w'=>(∃ b,e=.returned (.bool b)∧(b=true↔s.toList∈binL))∧w'=wx):=hZz (fun wx hx=>by
   refine (Tryz.slices_Contains_string (w.heap.size+1+1+1) 0 11 11 _ s wx (by decide) (by decide) (fun j hj=>hx j hj)).mono ?_
   rintro e w' ⟨rfl,rfl⟩;exact ⟨⟨_,rfl,bin_lib s⟩,rfl⟩)
  go_wp2_with (first
   | (go_at_call 88;(with_reducible refine (HC.out _ ?_).mono ?_);rotate_left;(rintro e w1 ⟨⟨b,rfl,hb⟩,hw1⟩;rw [hw1];clear hw1 w1;have HBQ:=hZz hb;clear hb)))
  ·rw [← HP.out]
   exact ⟨⟨b,rfl,by rw [HBQ.out];simp [OpsP]⟩,HB3.out.alloc HB3.out.size _⟩
  ·intro j hj
   have:j=0∨j=1∨j=2∨j=3∨j=4∨j=5∨j=6∨j=7∨j=8∨j=9∨j=10:=by omega
   rcases this with rfl | rfl | rfl | rfl | rfl | rfl | rfl | rfl | rfl | rfl | rfl
   all_goals rfl
 ·have HKC:=hZz (keys_any keys _ _ (by omega) (fun k hk=>by have:=HKS.out k hk;omega) HPW.out HKV.out)
  by_cases ha:a=keys.length
  ·subst ha
   have hkk:((keys.length:Int) == (keys.length:Int))=true:=by simp
   go_wp2_with (first
    | (go_at_call 95;(with_reducible refine (in_any _ _ _ _).mono ?_);rintro e w1 ⟨⟨b,rfl,hb⟩,hw1⟩;rw [hw1];clear hw1 w1;have HBQ:=hZz hb;clear hb;cases b)
    | (go_at_call 146;(with_reducible refine HKC.out.mono ?_);rintro e w2 ⟨⟨b2,rfl,hb2⟩,hb1⟩;have HB1:=hZz (zahZ hb1 HB3.out);have HBQ2:=hZz hb2;clear hb2 hb1))
   all_goals rw [← HP.out]
   ·exact ⟨⟨false,rfl,by simp [OpsP];intro h1 _;have:=HBQ.out.2 ⟨by omega,h1⟩;cases this⟩,HB3.out⟩
   ·exact ⟨⟨b2,rfl,by rw [HBQ2.out];have:=HBQ.out.1 (by trivial);simp [OpsP];intro _;omega⟩,HB1.out⟩
  ·have ha':(a == (keys.length:Int))=false:=by simpa using ha
   go_wp2_with (first
    | (go_at_call 95;(with_reducible refine (in_any _ _ _ _).mono ?_);rintro e w1 ⟨⟨b,rfl,hb⟩,hw1⟩;rw [hw1];clear hw1 w1;have HBQ:=hZz hb;clear hb;cases b))
   all_goals rw [← HP.out]
   all_goals exact ⟨⟨false,rfl,by simp [OpsP];intro h1 h2 h3;exact absurd h3 ha⟩,HB3.out⟩
 ·obtain ⟨r,hr⟩:∃ r,lookL builtL s=r:=⟨_,rfl⟩
  have HR:=hZz hr;have HC:Hid (∀ wx,Calls prog 86 #[.string s] wx fun e w'=>e=.returned (.tuple #[.int .i64 (r.getD 0),.bool r.isSome])∧Below wx.heap.size wx w'):=hZz (fun wx=>by rw [← hr];exact built_any s wx);have HX:=hZz (Blk.new ((w.alloc (.cells #[.slice A nf ncap,.slice B ni icap] 31)).alloc (.cells #[.string name,.int .i64 params,.int .i64 locals,.int .i64 entry,.int .i64 fin] 50)) 53 #[.int .i64 18,.int .i64 a,.string s,.slice kA keys.length kcap]);clear hr;cases r with
  | none =>
   go_wp2_with (first
    | (go_at_call 86;(with_reducible refine (HC.out _).mono ?_);rintro e w1 ⟨rfl,hb1⟩;have HB1:=hZz (zahZ hb1 HB3.out);clear hb1))
   rw [← HP.out];exact ⟨⟨_,rfl,by simp [OpsP,HR.out]⟩,HB1.out⟩
  | some n =>
   by_cases han:a=n
   ·subst han
    have han':(a == a)=true:=by simp
    go_wp2_with (first
     | (go_at_call 86;(with_reducible refine (HC.out _).mono ?_);rintro e w1 ⟨rfl,hb1⟩;have HB1:=hZz (zahZ hb1 HB3.out);have p:=blk4 (HX.out.below hb1);simp only [World.size_alloc] at p;clear hb1))
    rw [← HP.out];exact ⟨⟨true,rfl,by simp [OpsP,HR.out]⟩,HB1.out⟩
   ·have han':(a == n)=false:=by simpa using han
    go_wp2_with (first
     | (go_at_call 86;(with_reducible refine (HC.out _).mono ?_);rintro e w1 ⟨rfl,hb1⟩;have HB1:=hZz (zahZ hb1 HB3.out);have p:=blk4 (HX.out.below hb1);simp only [World.size_alloc] at p;clear hb1))
    rw [← HP.out];exact ⟨⟨_,rfl,by simp [OpsP,HR.out,han'];exact fun h=>han h.symm⟩,HB1.out⟩
 ·obtain ⟨r,hr⟩:∃ r,lookL hostL s=r:=⟨_,rfl⟩
  have HR:=hZz hr;have HC:Hid (∀ wx,Calls prog 92 #[.string s] wx fun e w'=>e=.returned (.tuple #[.int .i64 (r.getD 0),.bool r.isSome])∧Below wx.heap.size wx w'):=hZz (fun wx=>by rw [← hr];exact host_any s wx);have HX:=hZz (Blk.new ((w.alloc (.cells #[.slice A nf ncap,.slice B ni icap] 31)).alloc (.cells #[.string name,.int .i64 params,.int .i64 locals,.int .i64 entry,.int .i64 fin] 50)) 53 #[.int .i64 19,.int .i64 a,.string s,.slice kA keys.length kcap]);clear hr;cases r with
  | none =>
   go_wp2_with (first
    | (go_at_call 92;(with_reducible refine (HC.out _).mono ?_);rintro e w1 ⟨rfl,hb1⟩;have HB1:=hZz (zahZ hb1 HB3.out);clear hb1))
   rw [← HP.out];exact ⟨⟨_,rfl,by simp [OpsP,HR.out]⟩,HB1.out⟩
  | some n =>
   by_cases han:a=n
   ·subst han
    have han':(a == a)=true:=by simp
    go_wp2_with (first
     | (go_at_call 92;(with_reducible refine (HC.out _).mono ?_);rintro e w1 ⟨rfl,hb1⟩;have HB1:=hZz (zahZ hb1 HB3.out);have p:=blk4 (HX.out.below hb1);simp only [World.size_alloc] at p;clear hb1))
    rw [← HP.out];exact ⟨⟨true,rfl,by simp [OpsP,HR.out]⟩,HB1.out⟩
   ·have han':(a == n)=false:=by simpa using han
    go_wp2_with (first
     | (go_at_call 92;(with_reducible refine (HC.out _).mono ?_);rintro e w1 ⟨rfl,hb1⟩;have HB1:=hZz (zahZ hb1 HB3.out);have p:=blk4 (HX.out.below hb1);simp only [World.size_alloc] at p;clear hb1))
    rw [← HP.out];exact ⟨⟨_,rfl,by simp [OpsP,HR.out,han'];exact fun h=>han h.symm⟩,HB1.out⟩
end
section
attribute [local go_sem] zabZ
theorem Shaped.row {w:World} (h:Shaped w) (i:Nat) (v0 v1 v2 v3 v4 v5:Value) (h0:shapeCells[i]? = some v0) (h1:shapeCells[i+1]? = some v1) (h2:shapeCells[i+2]? = some v2) (h3:shapeCells[i+3]? = some v3) (h4:shapeCells[i+4]? = some v4) (h5:shapeCells[i+5]? = some v5) :
  w.cell? ⟨0,i,none⟩=some v0∧w.cell? ⟨0,i+1,none⟩=some v1∧w.cell? ⟨0,i+2,none⟩=some v2∧w.cell? ⟨0,i+3,none⟩=some v3∧w.cell? ⟨0,i+4,none⟩=some v4∧w.cell? ⟨0,i+5,none⟩=some v5 :=
 ⟨h _ _ h0,h _ _ h1,h _ _ h2,h _ _ h3,h _ _ h4,h _ _ h5⟩
theorem sz_nil (s:ByteArray):(s.toList != [])=!decide (s.size=0):=by
 by_cases h:s.size=0
 ·rw [(zagY s).2 h];simp [h]
 ·have:¬ s.toList=[]:=fun e=>h ((zagY s).1 e)
  simp [this,h]
theorem formedP_all (op:Int) (h9:1≤op∧op≤20) (nf:Int) (f:FnD) (a:Int) (s:ByteArray) (keys:List ByteArray):FormedP nf f ⟨op,a,s,keys⟩↔((op∈[1,7,10,15,16,20,4,8,9]→a=0)∧(op ∉ [4,8,9,18,19]→s.toList=[])∧(op≠12→keys=[]))∧OpsP nf f ⟨op,a,s,keys⟩:=by
 rw [zagY];have h20:op=1∨op=2∨op=3∨op=4∨op=5∨op=6∨op=7∨op=8∨op=9∨op=10∨op=11∨op=12∨op=13∨op=14∨op=15∨op=16∨op=17∨op=18∨op=19∨op=20:=by omega
 rcases h20 with rfl | rfl | rfl | rfl | rfl | rfl | rfl | rfl | rfl | rfl | rfl | rfl | rfl | rfl | rfl | rfl | rfl | rfl | rfl | rfl
 all_goals
  simp [FormedP,OperandP,StrP,KeysP,OpsP,bareB]
  try (constructor <;> (intro h;simp_all <;> omega))
  try grind
set_option maxHeartbeats 400000000 in
theorem formed_all (op:Int) (h9:1≤op∧op≤20) (nf ncap:Nat) (A B:Option Addr) (f:FnD) (a:Int) (s:ByteArray) (keys:List ByteArray) (kv:Value) (w:World) (hnf:nf≤40) (hf:FnSmall f) (hi:InsOk ⟨op,a,s,keys⟩) (hp:Pow w) (hS:Shaped w) (hk:KeysV w kv keys) (ni:Nat) (icap:Nat) :
  Calls prog 61 #[.agg #[.slice A nf ncap,.slice B ni icap],f.val,.agg #[.int .i64 op,.int .i64 a,.string s,kv]] w fun e w'=>(∃ b,e=.returned (.bool b)∧(b=true↔FormedP nf f ⟨op,a,s,keys⟩))∧Below w.heap.size w w':=by
 have H20:Hid ((op=1∨op=7∨op=10∨op=15∨op=16∨op=20)∧((a != 0)=false∧s.toList=[]∧¬ 0<keys.length∨(a != 0)=false∧s.toList=[]∧0<keys.length∨(a != 0)=false∧¬ s.toList=[]∨(a != 0)=true)∨(op=2∨op=3∨op=5∨op=6∨op=11∨op=13∨op=14∨op=17)∧(s.toList=[]∧¬ 0<keys.length∨s.toList=[]∧0<keys.length∨¬ s.toList=[])∨(op=4∨op=8∨op=9)∧((a != 0)=false∧¬ 0<keys.length∨(a != 0)=false∧0<keys.length∨(a != 0)=true)∨op=12∧(s.toList=[]∨¬ s.toList=[])∨(op=18∨op=19)∧(¬ 0<keys.length∨0<keys.length)):=hZz (by
  have ha:(a != 0)=false∨(a != 0)=true:=by cases (a != 0) <;> simp
  have hs:=Classical.em (s.toList=[]);have hk:=Classical.em (0<keys.length);have h20:(op=1∨op=7∨op=10∨op=15∨op=16∨op=20)∨(op=2∨op=3∨op=5∨op=6∨op=11∨op=13∨op=14∨op=17)∨(op=4∨op=8∨op=9)∨op=12∨(op=18∨op=19):=by omega
  clear h9;rcases h20 with h | h | h | h | h <;> simp only [h,true_and] <;> (clear h;rcases ha with ha | ha <;> rcases hs with hs | hs <;> rcases hk with hk | hk <;> simp [ha,hs,hk]))
 have hks:=hi.2.1;dsimp only at hks;have hb3:=zbzY w (.cells #[.slice A nf ncap,.slice B ni icap] 31) (.cells #[.string f.name,.int .i64 f.params,.int .i64 f.locals,.int .i64 f.entry,.int .i64 f.fin] 50) (.cells #[.int .i64 op,.int .i64 a,.string s,kv] 53);have HB3:=hZz hb3;have HOP:Hid (∀ wx,Pow wx→KeysV wx kv keys→Calls prog 97 #[.agg #[.slice A nf ncap,.slice B ni icap],.agg #[.string f.name,.int .i64 f.params,.int .i64 f.locals,.int .i64 f.entry,.int .i64 f.fin],.agg #[.int .i64 op,.int .i64 a,.string s,kv]] wx fun e w'=>(∃ b,e=.returned (.bool b)∧(b=true↔OpsP nf f ⟨op,a,s,keys⟩))∧Below wx.heap.size wx w'):=hZz (fun wx hpx hkx=>operands_all op h9 nf 0 ncap A B f a s keys kv wx hnf hf hi hpx hkx ni icap);have HBW:∀ o:Obj,Below w.heap.size w ((((w.alloc (.cells #[.slice A nf ncap,.slice B ni icap] 31)).alloc (.cells #[.string f.name,.int .i64 f.params,.int .i64 f.locals,.int .i64 f.entry,.int .i64 f.fin] 50)).alloc (.cells #[.int .i64 op,.int .i64 a,.string s,kv] 53)).alloc o):=fun o=>hb3.alloc hb3.size o
 have HBO:=hZz HBW;have HPW:=hZz hp;have HKV:=hZz hk;obtain ⟨P,hP⟩:∃ P:Ending→World→Prop,(fun e w'=>(∃ b,e=.returned (.bool b)∧(b=true↔FormedP nf f ⟨op,a,s,keys⟩))∧Below w.heap.size w w')=P:=⟨_,rfl⟩
 rw [hP];have HP:=hZz hP;have HSZ:=hZz (sz_nil s);obtain ⟨kA,kcap,rfl,_,_⟩:=hk;unfold FnD.val;clear hP hp hb3 HBW hi hf;clear h9;have hrow:=hS.row (op * 6).toNat;rcases H20.out with ⟨(rfl | rfl | rfl | rfl | rfl | rfl),(⟨hc0,hc1,hc2⟩ | ⟨hc0,hc1,hc2⟩ | ⟨hc0,hc1⟩ | hc0)⟩ | ⟨(rfl | rfl | rfl | rfl | rfl | rfl | rfl | rfl),(⟨hc1,hc2⟩ | ⟨hc1,hc2⟩ | hc1)⟩ | ⟨(rfl | rfl | rfl),(⟨hc0,hc2⟩ | ⟨hc0,hc2⟩ | hc0)⟩ | ⟨rfl,(hc1 | hc1)⟩ | ⟨(rfl | rfl),(hc2 | hc2)⟩
 all_goals
  simp only [Int.reduceMul,Int.reduceToNat,Nat.reduceAdd] at hrow;have hcell:=hrow _ _ _ _ _ _ rfl rfl rfl rfl rfl rfl;clear hS hrow;go_enter func61,ntmps61
  go_wp2_with (first
   | (go_at_call 96;go_enter func96,ntmps96)
   | (go_at_call 97;(with_reducible refine (HOP.out _ (HPW.out.below (HBO.out _)) (HKV.out.below (HBO.out _))).mono ?_);rintro e w1 ⟨⟨b,rfl,hb⟩,hb1⟩;have HB1:=hZz (zahZ hb1 (HBO.out _));have HBQ:=hZz hb;clear hb hb1))
  rw [← HP.out]
  first
   | exact ⟨⟨b,rfl,by rw [HBQ.out,formedP_all _ (by simp)];clear hcell;simp_all [List.length_pos_iff]⟩,HB1.out⟩
   | exact ⟨⟨false,rfl,by rw [formedP_all _ (by simp)];clear hcell;simp_all [List.length_pos_iff]⟩,HBO.out _⟩
theorem cformed_any (nf ncap:Nat) (A B:Option Addr) (f:FnD) (i:InsD) (kv:Value) (w:World) (hnf:nf≤40) (hf:FnSmall f) (hi:InsOk i) (hp:Pow w) (hS:Shaped w) (hk:KeysV w kv i.keys) (ni:Nat) (icap:Nat) :
  Calls prog 61 #[.agg #[.slice A nf ncap,.slice B ni icap],f.val,.agg #[.int .i64 i.op,.int .i64 i.a,.string i.s,kv]] w fun e w'=>(∃ b,e=.returned (.bool b)∧(b=true↔FormedP nf f i))∧Below w.heap.size w w':=by
 obtain ⟨op,a,s,keys⟩:=i;by_cases h:1≤op∧op≤20
 ·exact formed_all op h nf ncap A B f a s keys kv w hnf hf hi hp hS hk ni icap
 ·have HN:Hid (¬ FormedP nf f ⟨op,a,s,keys⟩):=hZz (fun hh=>h hh.1)
  have hb3:=zbzY w (.cells #[.slice A nf ncap,.slice B ni icap] 31) (.cells #[.string f.name,.int .i64 f.params,.int .i64 f.locals,.int .i64 f.entry,.int .i64 f.fin] 50) (.cells #[.int .i64 op,.int .i64 a,.string s,kv] 53);have HB3:=hZz hb3;obtain ⟨P,hP⟩:∃ P:Ending→World→Prop,(fun e w'=>(∃ b,e=.returned (.bool b)∧(b=true↔FormedP nf f ⟨op,a,s,keys⟩))∧Below w.heap.size w w')=P:=⟨_,rfl⟩
  rw [hP];have HP:=hZz hP;unfold FnD.val;clear hP hb3 hS hp hk;by_cases h1:1≤op
  ·have h2:¬ op≤20:=fun e=>h ⟨h1,e⟩
   clear h;go_enter func61,ntmps61
   go_wp2_with (first
    | (go_at_call 96;go_enter func96,ntmps96))
   rw [← HP.out];exact ⟨⟨false,rfl,⟨fun h=>(by cases h),fun h=>absurd h HN.out⟩⟩,HB3.out⟩
  ·clear h
   go_enter func61,ntmps61
   go_wp2_with (first
    | (go_at_call 96;go_enter func96,ntmps96))
   rw [← HP.out];exact ⟨⟨false,rfl,⟨fun h=>(by cases h),fun h=>absurd h HN.out⟩⟩,HB3.out⟩
end
section
attribute [local go_sem] zabZ
theorem rvalid_any (n:Int) (w:World):Calls prog 151 #[.int .i64 n] w fun e w'=>(∃ b,e=.returned (.bool b)∧(b=true↔-1000000000000≤n∧n≤1000000000000))∧w'=w:=by
 obtain ⟨P,hP⟩:∃ P:Ending→World→Prop,(fun e w'=>(∃ b,e=.returned (.bool b)∧(b=true↔-1000000000000≤n∧n≤1000000000000))∧w'=w)=P:=⟨_,rfl⟩
 rw [hP];have HP:=hZz hP;clear hP;go_enter func151,ntmps151
 go_wp2
 all_goals
  rw [← HP.out];refine ⟨⟨_,rfl,?_⟩,rfl⟩
  first
   | (simp;done)
   | (simp;omega)
set_option maxHeartbeats 400000000 in
theorem roperand_all (op:Int) (h9:1≤op∧op≤20) (nf ncap:Nat) (A B:Option Addr) (f:FnD) (a:Int) (s:ByteArray) (keys:List ByteArray) (kv:Value) (w:World) (hnf:nf≤40) (hf:FnSmall f) (hi:InsOk ⟨op,a,s,keys⟩) (hk:KeysV w kv keys) (ni:Nat) (icap:Nat) :
  Calls prog 108 #[.agg #[.slice A nf ncap,.slice B ni icap],f.val,.agg #[.int .i64 op,.int .i64 a,.string s,kv]] w fun e w'=>(∃ b,e=.returned (.bool b)∧(b=true↔OperandP nf f ⟨op,a,s,keys⟩))∧Below w.heap.size w w':=by
 have H20:Hid ((op=1∨op=4∨op=5∨op=6∨op=7∨op=8∨op=9∨op=10∨op=11∨op=13∨op=14∨op=15∨op=16∨op=17∨op=20)∨op=2∨op=3∨op=12∨op=18∨op=19):=hZz (by omega);clear h9;obtain ⟨name,params,locals,entry,fin⟩:=f;obtain ⟨⟨_,_⟩,⟨hl0,hl1⟩,⟨he0,he1,he2⟩⟩:=hf;obtain ⟨hs1,hk1,hks⟩:=hi;dsimp only at hl0 hl1 he0 he1 he2 hs1 hk1 hks;have hb3:=zbzY w (.cells #[.slice A nf ncap,.slice B ni icap] 31) (.cells #[.string name,.int .i64 params,.int .i64 locals,.int .i64 entry,.int .i64 fin] 50) (.cells #[.int .i64 op,.int .i64 a,.string s,kv] 53);have HB3:=hZz hb3;have HKV:=hZz (hk.below hb3);have HKS:=hZz hks;have HS1:=hZz hs1;have hnf0:(0:Int)≤(nf:Int):=by omega
 have hnf9:(nf:Int)≤40:=by omega
 have HX:=hZz (Blk.new ((w.alloc (.cells #[.slice A nf ncap,.slice B ni icap] 31)).alloc (.cells #[.string name,.int .i64 params,.int .i64 locals,.int .i64 entry,.int .i64 fin] 50)) 53 #[.int .i64 op,.int .i64 a,.string s,kv]);obtain ⟨kA,kcap,rfl,_,_⟩:=hk;obtain ⟨P,hP⟩:∃ P:Ending→World→Prop,(fun e w'=>(∃ b,e=.returned (.bool b)∧(b=true↔OperandP nf ⟨name,params,locals,entry,fin⟩ ⟨op,a,s,keys⟩))∧Below w.heap.size w w')=P:=⟨_,rfl⟩
 rw [hP];have HP:=hZz hP;unfold FnD.val;clear hP hb3 hks;go_enter func108,ntmps108
 rcases H20.out with h | rfl | rfl | rfl | rfl | rfl
 ·rcases h with rfl | rfl | rfl | rfl | rfl | rfl | rfl | rfl | rfl | rfl | rfl | rfl | rfl | rfl | rfl
  all_goals
   go_wp2_with (first
    | (go_at_call 150;go_enter func150,ntmps150))
   all_goals rw [← HP.out]
   all_goals exact ⟨⟨_,rfl,by first | (simp_all [OperandP,bareB];done) | (simp_all [OperandP,bareB];omega)⟩,HB3.out⟩
 ·by_cases h0:a=0
  ·subst h0
   go_wp2_with (first
    | (go_at_call 150;go_enter func150,ntmps150))
   rw [← HP.out];exact ⟨⟨true,rfl,by simp [OperandP,bareB]⟩,HB3.out⟩
  ·have h0':(a == 0)=false:=by simpa using h0
   by_cases h1:a=1
   ·subst h1
    go_wp2_with (first
     | (go_at_call 150;go_enter func150,ntmps150))
    rw [← HP.out];exact ⟨⟨true,rfl,by simp [OperandP,bareB]⟩,HB3.out⟩
   ·have h1':(a == 1)=false:=by simpa using h1
    have HN:Hid (¬ (a=0∨a=1)):=hZz (by omega);clear h0 h1
    go_wp2_with (first
     | (go_at_call 150;go_enter func150,ntmps150))
    rw [← HP.out];exact ⟨⟨false,rfl,by simp [OperandP,bareB];have:=HN.out;omega⟩,HB3.out⟩
 ·go_wp2_with (first
   | (go_at_call 150;go_enter func150,ntmps150)
   | (go_at_call 151;(with_reducible refine (rvalid_any _ _).mono ?_);rintro e w1 ⟨⟨b,rfl,hb⟩,hw1⟩;rw [hw1];clear hw1 w1;have HBQ:=hZz hb;clear hb))
  rw [← HP.out];exact ⟨⟨b,rfl,by rw [HBQ.out];simp [OperandP,bareB]⟩,HB3.out⟩
 ·by_cases ha:a=keys.length
  ·subst ha
   have hkk:((keys.length:Int) == (keys.length:Int))=true:=by simp
   go_wp2_with (first
    | (go_at_call 150;go_enter func150,ntmps150))
   all_goals rw [← HP.out]
   all_goals exact ⟨⟨_,rfl,by first | (simp_all [OperandP,bareB];done) | (simp_all [OperandP,bareB];omega)⟩,HB3.out⟩
  ·have ha':(a == (keys.length:Int))=false:=by simpa using ha
   go_wp2_with (first
    | (go_at_call 150;go_enter func150,ntmps150))
   all_goals rw [← HP.out]
   all_goals exact ⟨⟨false,rfl,by simp [OperandP,bareB];intro h;exact absurd h ha⟩,HB3.out⟩
 ·obtain ⟨r,hr⟩:∃ r,lookL builtL s=r:=⟨_,rfl⟩
  obtain ⟨r0,hr0⟩:∃ r,lookL builtL s=r:=⟨_,rfl⟩
  have HR:=hZz hr;have HC0:Hid (∀ wx,Calls prog 52 #[.string s] wx fun e w'=>e=.returned (.tuple #[.int .i64 (r0.getD 0),.bool r0.isSome])∧w'=wx):=hZz (fun wx=>by rw [← hr0];exact rbuilt_any s wx);have HC1:Hid (∀ wx,Calls prog 148 #[.string s] wx fun e w'=>e=.returned (.tuple #[.int .i64 ((lookL hostL s).getD 0),.bool (lookL hostL s).isSome])∧w'=wx):=hZz (fun wx=>rhost_any s wx);have hrr:r=r0:=by rw [← hr,← hr0]
  subst hrr;clear hr hr0;cases r with
  | none =>
   go_wp2_with (first
    | (go_at_call 150;go_enter func150,ntmps150)
    | (go_at_call 52;(with_reducible refine (HC0.out _).mono ?_);rintro e w1 ⟨rfl,hw1⟩;rw [hw1];clear hw1 w1)
    | (go_at_call 148;(with_reducible refine (HC1.out _).mono ?_);rintro e w1 ⟨rfl,hw1⟩;rw [hw1];clear hw1 w1))
   rw [← HP.out];exact ⟨⟨_,rfl,by simp [OperandP,bareB,HR.out]⟩,HB3.out⟩
  | some n =>
   by_cases han:a=n
   ·subst han
    have han':(a == a)=true:=by simp
    go_wp2_with (first
     | (go_at_call 150;go_enter func150,ntmps150)
     | (go_at_call 52;(with_reducible refine (HC0.out _).mono ?_);rintro e w1 ⟨rfl,hw1⟩;rw [hw1];clear hw1 w1)
     | (go_at_call 148;(with_reducible refine (HC1.out _).mono ?_);rintro e w1 ⟨rfl,hw1⟩;rw [hw1];clear hw1 w1))
    rw [← HP.out];exact ⟨⟨true,rfl,by simp [OperandP,bareB,HR.out]⟩,HB3.out⟩
   ·have han':(a == n)=false:=by simpa using han
    go_wp2_with (first
     | (go_at_call 150;go_enter func150,ntmps150)
     | (go_at_call 52;(with_reducible refine (HC0.out _).mono ?_);rintro e w1 ⟨rfl,hw1⟩;rw [hw1];clear hw1 w1)
     | (go_at_call 148;(with_reducible refine (HC1.out _).mono ?_);rintro e w1 ⟨rfl,hw1⟩;rw [hw1];clear hw1 w1))
    rw [← HP.out];exact ⟨⟨false,rfl,by simp [OperandP,bareB,HR.out];exact fun h=>han h.symm⟩,HB3.out⟩
 ·obtain ⟨r,hr⟩:∃ r,lookL hostL s=r:=⟨_,rfl⟩
  obtain ⟨r0,hr0⟩:∃ r,lookL builtL s=r:=⟨_,rfl⟩
  have HR:=hZz hr;have HC0:Hid (∀ wx,Calls prog 52 #[.string s] wx fun e w'=>e=.returned (.tuple #[.int .i64 (r0.getD 0),.bool r0.isSome])∧w'=wx):=hZz (fun wx=>by rw [← hr0];exact rbuilt_any s wx);have HC1:Hid (∀ wx,Calls prog 148 #[.string s] wx fun e w'=>e=.returned (.tuple #[.int .i64 ((lookL hostL s).getD 0),.bool (lookL hostL s).isSome])∧w'=wx):=hZz (fun wx=>rhost_any s wx);rw [hr] at HC1;clear hr hr0;cases r with
  | none =>
   go_wp2_with (first
    | (go_at_call 150;go_enter func150,ntmps150)
    | (go_at_call 52;(with_reducible refine (HC0.out _).mono ?_);rintro e w1 ⟨rfl,hw1⟩;rw [hw1];clear hw1 w1)
    | (go_at_call 148;(with_reducible refine (HC1.out _).mono ?_);rintro e w1 ⟨rfl,hw1⟩;rw [hw1];clear hw1 w1))
   rw [← HP.out];exact ⟨⟨_,rfl,by simp [OperandP,bareB,HR.out]⟩,HB3.out⟩
  | some n =>
   by_cases han:a=n
   ·subst han
    have han':(a == a)=true:=by simp
    go_wp2_with (first
     | (go_at_call 150;go_enter func150,ntmps150)
     | (go_at_call 52;(with_reducible refine (HC0.out _).mono ?_);rintro e w1 ⟨rfl,hw1⟩;rw [hw1];clear hw1 w1)
     | (go_at_call 148;(with_reducible refine (HC1.out _).mono ?_);rintro e w1 ⟨rfl,hw1⟩;rw [hw1];clear hw1 w1))
    rw [← HP.out];exact ⟨⟨true,rfl,by simp [OperandP,bareB,HR.out]⟩,HB3.out⟩
   ·have han':(a == n)=false:=by simpa using han
    go_wp2_with (first
     | (go_at_call 150;go_enter func150,ntmps150)
     | (go_at_call 52;(with_reducible refine (HC0.out _).mono ?_);rintro e w1 ⟨rfl,hw1⟩;rw [hw1];clear hw1 w1)
     | (go_at_call 148;(with_reducible refine (HC1.out _).mono ?_);rintro e w1 ⟨rfl,hw1⟩;rw [hw1];clear hw1 w1))
    rw [← HP.out];exact ⟨⟨false,rfl,by simp [OperandP,bareB,HR.out];exact fun h=>han h.symm⟩,HB3.out⟩
end
section
attribute [local go_sem] zabZ
theorem ascOk_nil:AscOk []:=fun i h=>absurd h (by simp)
theorem rformedP (k9:Int) (h1:1≤k9∧k9≤20) (nf:Int) (f:FnD) (a:Int) (s:ByteArray) (keys:List ByteArray):FormedP nf f ⟨k9,a,s,keys⟩↔(OperandP nf f ⟨k9,a,s,keys⟩∧AscOk keys)∧(k9≠12→keys.length=0)∧StrP ⟨k9,a,s,keys⟩:=by
 unfold FormedP KeysP;simp only [List.length_eq_zero_iff];constructor
 ·rintro ⟨_,ho,hs,hk⟩
  refine ⟨⟨ho,?_⟩,hk.2,hs⟩
  by_cases e:k9=12
  ·exact hk.1 e
  ·have e2:keys=[]:=hk.2 e
   rw [e2];exact ascOk_nil
 ·rintro ⟨⟨ho,ha⟩,he,hs⟩
  exact ⟨h1,ho,hs,⟨fun _=>ha,he⟩⟩
set_option maxHeartbeats 400000000 in
theorem rformed_all (k9:Int) (h9:1≤k9∧k9≤20) (nf ncap:Nat) (A B:Option Addr) (f:FnD) (a:Int) (s:ByteArray) (keys:List ByteArray) (kv:Value) (w:World) (hnf:nf≤40) (hf:FnSmall f) (hi:InsOk ⟨k9,a,s,keys⟩) (hk:KeysV w kv keys) (ni:Nat) (icap:Nat) :
  Calls prog 74 #[.agg #[.slice A nf ncap,.slice B ni icap],f.val,.agg #[.int .i64 k9,.int .i64 a,.string s,kv]] w fun e w'=>(∃ b,e=.returned (.bool b)∧(b=true↔FormedP nf f ⟨k9,a,s,keys⟩))∧Below w.heap.size w w':=by
 have H20:Hid (k9=1∨k9=2∨k9=3∨k9=4∨k9=5∨k9=6∨k9=7∨k9=9∨k9=10∨k9=11∨k9=12∨k9=13∨k9=14∨k9=15∨k9=16∨k9=17∨k9=18∨k9=19∨k9=20∨(k9=8∧(s.toList == [45])=true)∨(k9=8∧(s.toList == [45])=false∧(s.toList == [110,111,116])=true)∨(k9=8∧(s.toList == [45])=false∧(s.toList == [110,111,116])=false)):=hZz (by
  cases s.toList == [45] <;> cases s.toList == [110,111,116] <;> simp <;> omega)
 have hOP0:=fun wx hkx=>roperand_all k9 h9 nf ncap A B f a s keys kv wx hnf hf hi hkx ni icap
 obtain ⟨name,params,locals,entry,fin⟩:=f;obtain ⟨⟨_,_⟩,⟨hl0,hl1⟩,⟨he0,he1,he2⟩⟩:=hf;obtain ⟨hs1,hk1,hks⟩:=hi;dsimp only at hl0 hl1 he0 he1 he2 hs1 hk1 hks;have hb3:=zbzY w (.cells #[.slice A nf ncap,.slice B ni icap] 31) (.cells #[.string name,.int .i64 params,.int .i64 locals,.int .i64 entry,.int .i64 fin] 50) (.cells #[.int .i64 k9,.int .i64 a,.string s,kv] 53);have HB3:=hZz hb3;have HKV:=hZz (hk.below hb3);have HKS:=hZz hks;have HS1:=hZz hs1;have hnf0:(0:Int)≤(nf:Int):=by omega
 have hnf9:(nf:Int)≤40:=by omega
 have HOP:Hid (∀ wx,KeysV wx kv keys→Calls prog 108 #[.agg #[.slice A nf ncap,.slice B ni icap],.agg #[.string name,.int .i64 params,.int .i64 locals,.int .i64 entry,.int .i64 fin],.agg #[.int .i64 k9,.int .i64 a,.string s,kv]] wx fun e w'=>(∃ b,e=.returned (.bool b)∧(b=true↔OperandP nf ⟨name,params,locals,entry,fin⟩ ⟨k9,a,s,keys⟩))∧Below wx.heap.size wx w'):=hZz hOP0;clear hOP0;have HX:=hZz (Blk.new ((w.alloc (.cells #[.slice A nf ncap,.slice B ni icap] 31)).alloc (.cells #[.string name,.int .i64 params,.int .i64 locals,.int .i64 entry,.int .i64 fin] 50)) 53 #[.int .i64 k9,.int .i64 a,.string s,kv]);obtain ⟨kA,kcap,rfl,_,_⟩:=hk;obtain ⟨P,hP⟩:∃ P:Ending→World→Prop,(fun e w'=>(∃ b,e=.returned (.bool b)∧(b=true↔FormedP nf ⟨name,params,locals,entry,fin⟩ ⟨k9,a,s,keys⟩))∧Below w.heap.size w w')=P:=⟨_,rfl⟩
 rw [hP];have HP:=hZz hP;unfold FnD.val;clear hP hb3 hks;clear h9;by_cases hkl:keys.length=0
 all_goals
  have HKL:=hZz hkl
  first | (have hkl1:¬ 0<keys.length:=by omega) | (have hkl1:0<keys.length:=by omega)
  clear hkl;go_enter func74,ntmps74
  rcases H20.out with rfl | rfl | rfl | rfl | rfl | rfl | rfl | rfl | rfl | rfl | rfl | rfl | rfl | rfl | rfl | rfl | rfl | rfl | rfl | ⟨rfl,hu1⟩ | ⟨rfl,hu1,hu2⟩ | ⟨rfl,hu1,hu2⟩
  all_goals
   go_wp2_with (first
    | (go_at_call 108;(with_reducible refine (HOP.out _ HKV.out).mono ?_);rintro e w1 ⟨⟨b1,rfl,hb⟩,hb1⟩;have HB1:=hZz (zahZ hb1 HB3.out);have HX1:=hZz (HX.out.below hb1);have HKV1:=hZz (HKV.out.below hb1);have p:=blk4 HX1.out;simp only [World.size_alloc] at p;have HQ1:=hZz hb;clear hb hb1;cases b1)
    | (go_at_call 109;(with_reducible refine (ascend_any keys _ _ (by omega) (fun k hk=>by have:=HKS.out k hk;omega) HKV1.out).mono ?_);rintro e w2 ⟨⟨b2,rfl,hb⟩,hb2⟩;have HB2:=hZz (zaaZ hb2 HB1.out HB1.out.size);have HX2:=hZz (HX1.out.below hb2);clear p;have p:=blk4 HX2.out;simp only [World.size_alloc] at p;have HQ2:=hZz hb;clear hb hb2;cases b2)
    | (go_at_call 110;(with_reducible refine (rtoken_any s _ (by have:=HS1.out;omega)).mono ?_);rintro e w3 ⟨⟨t,b3,rfl,hb⟩,hb3⟩;have HB4:=hZz (zaaZ hb3 HB2.out HB2.out.size);have HQ3:=hZz hb;clear hb hb3)
    | (go_at_call 111;(with_reducible refine (rbinary_any s _).mono ?_);rintro e w3 ⟨⟨b3,rfl,hb⟩,hw3⟩;rw [hw3];clear hw3 w3;have HB4:=HB2;have HQ3:=hZz hb;clear hb))
   all_goals rw [← HP.out]
   all_goals first
    | exact ⟨⟨false,rfl,by rw [rformedP _ (by simp)];exact ⟨fun h=>absurd h (by decide),fun h=>absurd (HQ1.out.2 h.1.1) (by decide)⟩⟩,HB1.out⟩
    | exact ⟨⟨false,rfl,by rw [rformedP _ (by simp)];exact ⟨fun h=>absurd h (by decide),fun h=>absurd (HQ2.out.2 h.1.2) (by decide)⟩⟩,HB2.out⟩
    | exact ⟨⟨false,rfl,by rw [rformedP _ (by simp)];exact ⟨fun h=>absurd h (by decide),fun h=>absurd (h.2.1 (by decide)) HKL.out⟩⟩,HB2.out⟩
    | exact ⟨⟨b3,rfl,by rw [rformedP _ (by simp),HQ3.out];simp only [HQ1.out.1 (by trivial),HQ2.out.1 (by trivial),HKL.out,StrP];simp;done⟩,HB4.out⟩
    | exact ⟨⟨_,rfl,by rw [rformedP _ (by simp)];simp only [HQ1.out.1 (by trivial),HQ2.out.1 (by trivial),StrP,← zagY];(try simp only [HKL.out]);simp_all;done⟩,HB2.out⟩
theorem rformed_any (nf ncap:Nat) (A B:Option Addr) (f:FnD) (i:InsD) (kv:Value) (w:World) (hnf:nf≤40) (hf:FnSmall f) (hi:InsOk i) (hk:KeysV w kv i.keys) (ni:Nat) (icap:Nat) :
  Calls prog 74 #[.agg #[.slice A nf ncap,.slice B ni icap],f.val,.agg #[.int .i64 i.op,.int .i64 i.a,.string i.s,kv]] w fun e w'=>(∃ b,e=.returned (.bool b)∧(b=true↔FormedP nf f i))∧Below w.heap.size w w':=by
 obtain ⟨op,a,s,keys⟩:=i;by_cases h:1≤op∧op≤20
 ·exact rformed_all op h nf ncap A B f a s keys kv w hnf hf hi hk ni icap
 ·have HN:Hid (¬ FormedP nf f ⟨op,a,s,keys⟩):=hZz (fun hh=>h hh.1)
  have hb3:=zbzY w (.cells #[.slice A nf ncap,.slice B ni icap] 31) (.cells #[.string f.name,.int .i64 f.params,.int .i64 f.locals,.int .i64 f.entry,.int .i64 f.fin] 50) (.cells #[.int .i64 op,.int .i64 a,.string s,kv] 53);have HB3:=hZz hb3;obtain ⟨P,hP⟩:∃ P:Ending→World→Prop,(fun e w'=>(∃ b,e=.returned (.bool b)∧(b=true↔FormedP nf f ⟨op,a,s,keys⟩))∧Below w.heap.size w w')=P:=⟨_,rfl⟩
  rw [hP];have HP:=hZz hP;unfold FnD.val;clear hP hb3 hk;by_cases h1:1≤op
  ·have h2:20<op:=by omega
   have h1':¬ op<1:=by omega
   clear h;go_enter func74,ntmps74
   go_wp2_with (fail)
   rw [← HP.out];exact ⟨⟨false,rfl,⟨fun h=>(by cases h),fun h=>absurd h HN.out⟩⟩,HB3.out⟩
  ·have h1':op<1:=by omega
   clear h;go_enter func74,ntmps74
   go_wp2_with (fail)
   rw [← HP.out];exact ⟨⟨false,rfl,⟨fun h=>(by cases h),fun h=>absurd h HN.out⟩⟩,HB3.out⟩
end
theorem lvl_size {s:ByteArray} (h:0<lvlF s):s.toList.length≤3:=by
 unfold lvlF at h;by_cases h1:s.toList=[111,114]
 ·rw [h1];decide
 rw [if_neg h1] at h;by_cases h2:s.toList=[97,110,100]
 ·rw [h2];decide
 rw [if_neg h2] at h;by_cases h3:s.toList∈([[61,61],[33,61],[60],[60,61],[62],[62,61]]:List (List UInt8))
 ·simp only [List.mem_cons,List.not_mem_nil,or_false] at h3
  rcases h3 with h3 | h3 | h3 | h3 | h3 | h3 <;> rw [h3] <;> decide
 rw [if_neg h3] at h;by_cases h4:s.toList∈([[43],[45]]:List (List UInt8))
 ·simp only [List.mem_cons,List.not_mem_nil,or_false] at h4
  rcases h4 with h4 | h4 <;> rw [h4] <;> decide
 rw [if_neg h4] at h;by_cases h5:s.toList∈([[42],[47],[37]]:List (List UInt8))
 ·simp only [List.mem_cons,List.not_mem_nil,or_false] at h5
  rcases h5 with h5 | h5 | h5 <;> rw [h5] <;> decide
 rw [if_neg h5] at h;omega
theorem size_toL (s:ByteArray):s.toList.length=s.size:=by
 rw [ByteArray.toList_eq,Array.length_toList];rfl
theorem run_small {s:ByteArray} (h:runB s=true):s.size≤24:=by
 unfold runB at h;simp only [Bool.and_eq_true,decide_eq_true_eq] at h;exact h.1
theorem str_small {s:ByteArray} (h:strB s=true):s.size≤200:=by
 unfold strB at h;simp only [Bool.and_eq_true,decide_eq_true_eq] at h;exact h.2
theorem zceY {s:ByteArray} (h:nameB s=true):s.size≤24:=by
 unfold nameB at h;simp only [Bool.and_eq_true] at h;exact run_small h.1
theorem keys_small {l:List ByteArray} (h:keysB l=true):∀ k∈l,k.size≤200:=by
 intro k hk;obtain ⟨i,hi,rfl⟩:=List.getElem_of_mem hk;unfold keysB at h;rw [List.all_eq_true] at h
 have:=h i (List.mem_range.2 hi)
 unfold keyAtB at this;simp only [Bool.and_eq_true] at this;have h2:=str_small this.1
 rwa [zaiZ hi] at h2
theorem zckY {n:NodeD} (h:fieldsB n=true):n.text.size≤200∧∀ k∈n.keys,k.size≤200:=by
 unfold fieldsB at h;by_cases h0:(n.kind≠7∧n.keys≠[])∨(n.kind≠2∧n.kind≠3∧n.int≠0)
 ·rw [if_pos h0] at h;cases h
 rw [if_neg h0] at h
 have hk:n.kind≠7→∀ k∈n.keys,k.size≤200:=by
  intro h7 k hk;by_cases he:n.keys=[]
  ·rw [he] at hk;cases hk
  ·exact absurd (.inl ⟨h7,he⟩) h0
 have he:∀ {l:List UInt8},n.text.toList=l→l.length≤200→n.text.size≤200:=by
  intro l h1 h2;rw [← size_toL,h1];exact h2
 by_cases h2:n.kind=2
 ·rw [if_pos h2] at h
  simp only [Bool.and_eq_true,decide_eq_true_eq] at h;exact ⟨he h.1 (by decide),hk (by omega)⟩
 rw [if_neg h2] at h;by_cases h3:n.kind=3
 ·rw [if_pos h3] at h
  simp only [Bool.and_eq_true,decide_eq_true_eq] at h;exact ⟨he h.1 (by decide),hk (by omega)⟩
 rw [if_neg h3] at h;by_cases h4:n.kind=4
 ·rw [if_pos h4] at h
  exact ⟨str_small h,hk (by omega)⟩
 rw [if_neg h4] at h;by_cases h5:n.kind=5∨n.kind=11∨n.kind=13∨n.kind=14
 ·rw [if_pos h5] at h
  exact ⟨by have:=zceY h;omega,hk (by omega)⟩
 rw [if_neg h5] at h;by_cases h6:n.kind=12
 ·rw [if_pos h6] at h
  exact ⟨by have:=run_small h;omega,hk (by omega)⟩
 rw [if_neg h6] at h;by_cases h7:n.kind=7
 ·rw [if_pos h7] at h
  simp only [Bool.and_eq_true,decide_eq_true_eq] at h;exact ⟨he h.1 (by decide),keys_small h.2.2⟩
 rw [if_neg h7] at h;by_cases h8:n.kind=8
 ·rw [if_pos h8] at h
  simp only [Bool.or_eq_true,decide_eq_true_eq] at h;rcases h with h | h
  ·exact ⟨he h (by decide),hk h7⟩
  ·exact ⟨he h (by decide),hk h7⟩
 rw [if_neg h8] at h;by_cases h9:n.kind=9
 ·rw [if_pos h9] at h
  have:=lvl_size (of_decide_eq_true h)
  rw [size_toL] at this;exact ⟨by omega,hk h7⟩
 rw [if_neg h9] at h;exact ⟨he (of_decide_eq_true h) (by decide),hk h7⟩
theorem ok_O (op a:Int):InsOk (insO op a):=⟨by show (0:Nat)≤1000;omega,by show (0:Nat)≤1000;omega,fun k hk=>by cases hk⟩
theorem ok_T (op a:Int) {s:ByteArray} (h:s.size≤200):InsOk ⟨op,a,s,[]⟩:=⟨by show s.size≤1000;omega,by show (0:Nat)≤1000;omega,fun k hk=>by cases hk⟩
theorem last_small {p:ProgD} {sl:List Int} {n:NodeD} {i:Nat} {x:InsD} (h:lastF p sl n i=some x) (hf:fieldsB n=true) (hk:n.keys.length≤1000):InsOk x:=by
 obtain ⟨ht,hks⟩:=zckY hf;unfold lastF at h;by_cases k0:n.kind=1
 ·rw [if_pos k0] at h;cases h;exact ok_O _ _
 rw [if_neg k0] at h;by_cases k1:n.kind=2
 ·rw [if_pos k1] at h;cases h;exact ok_O _ _
 rw [if_neg k1] at h;by_cases k2:n.kind=3
 ·rw [if_pos k2] at h;cases h;exact ok_O _ _
 rw [if_neg k2] at h;by_cases k3:n.kind=4
 ·rw [if_pos k3] at h;cases h;exact ok_T _ _ ht
 rw [if_neg k3] at h;by_cases k4:n.kind=5
 ·rw [if_pos k4] at h;cases h;exact ok_O _ _
 rw [if_neg k4] at h;by_cases k5:n.kind=6
 ·rw [if_pos k5] at h;cases h;exact ok_O _ _
 rw [if_neg k5] at h;by_cases k6:n.kind=7
 ·rw [if_pos k6] at h;cases h
  exact ⟨by show (0:Nat)≤1000;omega,hk,fun k hk=>by have:=hks k hk;omega⟩
 rw [if_neg k6] at h;by_cases k7:n.kind=8
 ·rw [if_pos k7] at h;cases h;exact ok_T _ _ ht
 rw [if_neg k7] at h;by_cases k8:n.kind=10
 ·rw [if_pos k8] at h;cases h;exact ok_O _ _
 rw [if_neg k8] at h;by_cases k9:n.kind=11
 ·rw [if_pos k9] at h;cases h
  split
  ·exact ok_O _ _
  ·exact ok_T _ _ ht
 rw [if_neg k9] at h;by_cases k10:n.kind=12
 ·rw [if_pos k10] at h;cases h;exact ok_T _ _ ht
 rw [if_neg k10] at h;by_cases k11:n.kind=13∨n.kind=14
 ·rw [if_pos k11] at h;cases h;exact ok_O _ _
 rw [if_neg k11] at h;by_cases k12:n.kind=17
 ·rw [if_pos k12] at h;cases h;exact ok_O _ _
 rw [if_neg k12] at h;by_cases k13:n.kind=18
 ·rw [if_pos k13] at h;cases h;exact ok_O _ _
 rw [if_neg k13] at h;cases h
theorem seq_mem {l:List NodeD} {f:Nat} {rec:Nat→Int→List InsD} {Q:InsD→Prop} (hr:∀ i s b,firstF l f i=some s→∀ x∈rec i b,Q x) {r:List Int} {s e:Nat} (h:Cover l f r s e):∀ b,∀ x∈seqF rec r b,Q x:=by
 induction h with
 | nil s=>intro b x hx;cases hx
 | cons r s m e h1 h2 ih =>
  intro b x hx;simp only [seqF,Int.toNat_natCast,List.mem_append] at hx;rcases hx with hx | hx
  ·exact hr m s b h1 x hx
  ·exact ih _ x hx
theorem seg_small (p:ProgD) (sl:List Int) (hkl:∀ i,(p.at_ i).keys.length≤1000):∀ f i s b,firstF p.nodes f i=some s→∀ x∈segF p sl f i b,InsOk x:=by
 intro f;induction f with
 | zero=>intro i s b h;cases h
 | succ f ih =>
  intro i s b h;have T:=zadY h;have hn:p.nodes.getD i noNode=p.at_ i:=rfl;have hq:=fun b=>seq_mem ih T.cover b
  have hc:=T.cover;have hct:=T.count;have hfi:=T.fields;rw [hn] at hq hc hct hfi;have hts:=(zckY hfi).1;intro x hx;simp only [segF] at hx;split at hx
  ·rename_i hk
   by_cases h16:(p.at_ i).kind=16
   ·rw [if_pos h16] at hx
    obtain ⟨a,c,hl⟩:=zatY (zbyY hct (.inr (.inr h16)));rw [hl] at hc hx;obtain ⟨m,rfl,rfl,h1,h2,h3,h4⟩:=hc.two;simp only [List.mem_append,List.mem_singleton,List.getD_cons_zero,List.getD_cons_succ,Int.toNat_natCast] at hx;rw [show ((i:Int) - 1).toNat=i - 1 by omega] at hx;rcases hx with ((hx | rfl) | hx) | rfl
    ·exact ih _ _ _ h3 x hx
    ·exact ok_O _ _
    ·exact ih _ _ _ h4 x hx
    ·exact ok_O _ _
   ·rw [if_neg h16] at hx
    have h15:(p.at_ i).kind=15:=by omega
    rcases cnt_if hct h15 with hl2 | hl3
    ·rw [if_neg (by omega)] at hx
     obtain ⟨a,c,hl⟩:=zatY hl2;rw [hl] at hc hx;obtain ⟨m,rfl,rfl,h1,h2,h3,h4⟩:=hc.two;simp only [List.mem_append,List.mem_singleton,List.getD_cons_zero,List.getD_cons_succ,Int.toNat_natCast] at hx;rw [show ((i:Int) - 1).toNat=i - 1 by omega] at hx;rcases hx with (hx | rfl) | hx
     ·exact ih _ _ _ h3 x hx
     ·exact ok_O _ _
     ·exact ih _ _ _ h4 x hx
    ·rw [if_pos (by omega)] at hx
     obtain ⟨a,c,d,hl⟩:=zbkY hl3;rw [hl] at hc hx;obtain ⟨m,k,rfl,rfl,rfl,h0,h1,h2,h3,h4,h5⟩:=hc.three;simp only [List.mem_append,List.mem_singleton,List.getD_cons_zero,List.getD_cons_succ,Int.toNat_natCast] at hx;rw [show ((i:Int) - 1).toNat=i - 1 by omega] at hx;rcases hx with (((hx | rfl) | hx) | rfl) | hx
     ·exact ih _ _ _ h3 x hx
     ·exact ok_O _ _
     ·exact ih _ _ _ h4 x hx
     ·exact ok_O _ _
     ·exact ih _ _ _ h5 x hx
  ·split at hx
   ·rename_i hk
    split at hx
    ·obtain ⟨a,c,hl⟩:=zatY (zbyY hct (.inl hk))
     rw [hl] at hc hx;obtain ⟨m,rfl,rfl,h1,h2,h3,h4⟩:=hc.two;simp only [List.getD_cons_zero,List.getD_cons_succ,Int.toNat_natCast] at hx;rw [show ((i:Int) - 1).toNat=i - 1 by omega] at hx;rcases List.mem_append.1 hx with hx | hx
     ·rcases List.mem_append.1 hx with hx | hx
      ·rcases List.mem_append.1 hx with hx | hx
       ·rcases List.mem_append.1 hx with hx | hx
        ·exact ih _ _ _ h3 x hx
        ·rcases List.mem_append.1 hx with hx | hx
         ·simp only [List.mem_cons,List.not_mem_nil,or_false] at hx
          rcases hx with rfl | rfl <;> exact ok_O _ _
         ·split at hx
          ·simp only [List.mem_singleton] at hx
           subst hx;exact ok_T _ _ (by decide)
          ·cases hx
       ·simp only [List.mem_cons,List.not_mem_nil,or_false] at hx
        rcases hx with rfl | rfl <;> exact ok_O _ _
      ·exact ih _ _ _ h4 x hx
     ·simp only [List.mem_singleton] at hx
      subst hx;exact ok_O _ _
    ·rcases List.mem_append.1 hx with hx | hx
     ·exact hq _ x hx
     ·simp only [List.mem_singleton] at hx
      subst hx;exact ok_T _ _ hts
   ·rcases List.mem_append.1 hx with hx | hx
    ·exact hq _ x hx
    ·cases hl:lastF p sl (p.at_ i) i with
     | none=>rw [hl] at hx;cases hx
     | some y =>
      rw [hl] at hx;simp only [List.mem_singleton] at hx;subst hx;exact last_small hl hfi (hkl i)
theorem SynOk.small {p:ProgD} (h:SynOk p) (sl:List Int) (hkl:∀ i,(p.at_ i).keys.length≤1000):∀ k,k≤p.funcs.length→∀ x∈allSeg p sl k,InsOk x:=by
 intro k;induction k with
 | zero=>intro _ x hx;cases hx
 | succ k ih =>
  intro hk x hx;simp only [allSeg] at hx;rcases List.mem_append.1 hx with hx | hx
  ·exact ih (by omega) x hx
  ·unfold funcSeg at hx
   rcases List.mem_append.1 hx with hx | hx
   ·obtain ⟨b,hfo,_,hb⟩:=h.func (k:=k) (by omega)
    rw [hb] at hx;exact seg_small p sl hkl 600 b _ _ hfo.first x hx
   ·simp only [List.mem_cons,List.not_mem_nil,or_false] at hx
    rcases hx with rfl | rfl <;> exact ok_O _ _
end Go.Proofs.YthiimbhjpdphpaaGreatDoor
