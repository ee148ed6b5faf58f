/- E24, E25, E26 -/
import Derived.Test.YtekdhlfapejijaaGreatDoorPE23
import Derived.Lib.IndexMore
import Derived.Lib.SlicesS
set_option linter.unusedVariables false
set_option linter.unusedSimpArgs false
namespace Go.Proofs.YtekdhlfapejijaaGreatDoor
open Go.RowKit
set_option maxRecDepth 100000
set_option maxHeartbeats 8000000
open Go.Proofs.Tryz
def MaxL (w:World):Prop:=∃ m,w.cell? ⟨0,0,none⟩=some (.int .i64 m)
theorem MaxL.below {w w':World} (h:MaxL w) (hb:Below w.heap.size w w'):MaxL w':=by
 obtain ⟨m,h⟩:=h;exact ⟨m,(hb.cell (bLZ h)).trans h⟩
theorem bytes_of {s:ByteArray} {l:List UInt8} (h:s.toList=l):s=⟨l.toArray⟩:=by
 obtain ⟨d⟩:=s;rw [Lib.toList_data] at h;subst h;simp
def binS:List ByteArray:=binL.map fun l=>⟨l.toArray⟩
theorem mem_binS (x:ByteArray):x∈binS↔x.toList∈binL:=by
 unfold binS;rw [List.mem_map];constructor
 ·rintro ⟨l,hl,rfl⟩
  rw [Lib.toList_data];simpa using hl
 ·intro h
  exact ⟨_,h,(bytes_of rfl).symm⟩
theorem opin_any (op:ByteArray) (g:Nat) (t:TypeId) (w:World) (hB:Blk w g t (binS.map Value.string).toArray) :
  Calls prog 35 #[.slice (some ⟨g,0,none⟩) 11 11,.string op] w fun e w'=>e=.returned (.bool (decide (op.toList∈binL)))∧w'=w:=by
 refine (Tryz.slices_Contains_string g 0 11 11 binS op w (by decide) (by decide) (fun j hj=>?_)).mono fun e w' ⟨he,hw⟩=>⟨?_,hw⟩
 ·rw [Nat.zero_add]
  refine hB.cell j _ ?_
  simp [List.getElem?_eq_getElem hj,List.getD]
 ·rw [he,List.take_of_length_le (by decide)]
  congr 2
  rw [Bool.eq_iff_iff,Lib.containsS_iff,mem_binS];simp
theorem cmpin_any (op:ByteArray) (w:World) (h:op.toList∈binL) (hm:MaxL w) :
  Calls prog 37 #[.string ⟨#[60,61,62,61]⟩,.string op] w fun e w'=>e=.returned (.bool (decide (op.toList∈cmpL)))∧w'=w:=by
 obtain ⟨m,hm⟩:=hm
 have one:∀ c:UInt8,op.toList=[c]→(decide (0≤Lib.indexByte [60,61,62,61] c)=decide ([c]∈cmpL))→Calls prog 37 #[.string ⟨#[60,61,62,61]⟩,.string op] w fun e w'=>e=.returned (.bool (decide (op.toList∈cmpL)))∧w'=w:=fun c h1 h2=>by
  rw [h1]
  have:=Tryz.strings_Contains_one ⟨#[60,61,62,61]⟩ c w
  rw [bytes_of h1];refine Calls.mono this fun e w' ⟨he,hw⟩=>⟨?_,hw⟩
  rw [he];exact congrArg (fun b=>Ending.returned (.bool b)) h2
 have two:∀ c d:UInt8,op.toList=[c,d]→(Lib.contains [60,61,62,61] [c,d]=decide ([c,d]∈cmpL))→Calls prog 37 #[.string ⟨#[60,61,62,61]⟩,.string op] w fun e w'=>e=.returned (.bool (decide (op.toList∈cmpL)))∧w'=w:=fun c d h1 h2=>by
  rw [h1]
  have:=Tryz.strings_Contains ⟨#[60,61,62,61]⟩ ⟨#[c,d]⟩ m w (by decide) hm
  rw [bytes_of h1];refine Calls.mono this fun e w' ⟨he,hw⟩=>⟨?_,hw⟩
  rw [he];exact congrArg (fun b=>Ending.returned (.bool b)) h2
 simp only [binL,List.mem_cons,List.not_mem_nil,or_false] at h;rcases h with h | h | h | h | h | h | h | h | h | h | h
 ·exact one _ h (by decide)
 ·exact one _ h (by decide)
 ·exact one _ h (by decide)
 ·exact one _ h (by decide)
 ·exact one _ h (by decide)
 ·exact two _ _ h (by decide)
 ·exact two _ _ h (by decide)
 ·exact one _ h (by decide)
 ·exact two _ _ h (by decide)
 ·exact one _ h (by decide)
 ·exact two _ _ h (by decide)
theorem za6Y (l:ValD) (v:Value) (w:World) (h:ValV w v l) (hp:Pow w) (ho:OkV l):Calls prog 79 #[v] w fun e w'=>e=.returned (.int .i64 (checkF l))∧Below w.heap.size w w':=by
 obtain ⟨A,cap,rfl,hc,hm,hs⟩:=h.at;exact zbeY l A cap w hs hp ho.1 hc ho.2
theorem cmp34_any (x y:CellD) (a b:ValD) (v1 v2:Value) (w:World) (h1:ValV w v1 (x :: a)) (h2:ValV w v2 (y :: b)) (hp:Pow w) (o1:OkV (x :: a)) (o2:OkV (y :: b)) (c1:checkF (x :: a)=0) (c2:checkF (y :: b)=0) (hk:x.kind=3∨x.kind=4) (hk2:y.kind=x.kind) :
  Calls prog 39 #[v1,v2] w fun e w'=>e=.returned (.int .i64 (cmpR x y))∧Below w.heap.size w w':=by
 obtain ⟨P,hP⟩:∃ P:Ending→World→Prop,(fun e w'=>e=.returned (.int .i64 (cmpR x y))∧Below w.heap.size w w')=P:=⟨_,rfl⟩
 rw [hP];have HP:=hZz hP
 have H1:Hid (∀ wx,Below w.heap.size w wx→Calls prog 79 #[v1] wx fun e w'=>e=.returned (.int .i64 0)∧Below wx.heap.size wx w'):=hZz fun wx hb=>by
  have:=za6Y _ v1 wx (h1.below hb) (hp.below hb) o1
  rwa [c1] at this
 have H2:Hid (∀ wx,Below w.heap.size w wx→Calls prog 79 #[v2] wx fun e w'=>e=.returned (.int .i64 0)∧Below wx.heap.size wx w'):=hZz fun wx hb=>by
  have:=za6Y _ v2 wx (h2.below hb) (hp.below hb) o2
  rwa [c2] at this
 have HC:Hid (∀ wx,Below w.heap.size w wx→Calls prog 87 #[v1,v2] wx fun e w'=>e=.returned (.int .i64 (cmpR x y))∧Below wx.heap.size wx w'):=hZz fun wx hb=>compare34_any x y a b v1 v2 wx (h1.below hb) (h2.below hb) hk hk2
 clear hP h1 h2 hp o1 o2 c1 c2 hk hk2;go_enter func39,ntmps39
 go_wp2_with (first
  | (go_at_call 79;first
   | ((with_reducible refine (H1.out _ (Below.refl _ _)).mono ?_);rintro e w1 ⟨rfl,hb1⟩;have HB1:=hZz hb1;clear hb1 H1)
   | ((with_reducible refine (H2.out _ HB1.out).mono ?_);rintro e w2 ⟨rfl,hb2⟩;have HB2:=hZz (zadZ hb2 HB1.out);clear hb2))
  | (go_at_call 87;((with_reducible refine (HC.out _ HB2.out).mono ?_);rintro e w3 ⟨rfl,hb3⟩;have HB3:=hZz (zadZ hb3 HB2.out);clear hb3)))
 rw [← HP.out];exact ⟨rfl,HB3.out⟩
section
theorem zayY (x y:ValD):firstBad [x,y]=if checkF x≠0 then checkF x else checkF y:=by
 unfold firstBad;rw [zbwY]
theorem txt_of {c:CellD} {r:ValD} (h:checkF (c :: r)=0) (hk:c.kind=4):txtB c.str=true:=by
 obtain ⟨s,h0,_⟩:=checkF_zero.1 h;obtain ⟨hp,_⟩:=zcyY (c:=c) h0 rfl;unfold plainB at hp;rw [if_neg (by omega),if_neg (by omega),if_neg (by omega),if_pos hk] at hp;simp only [Bool.and_eq_true] at hp;exact hp.2.2
theorem txt_app {a b:ByteArray} (ha:txtB a=true) (hb:txtB b=true):txtB (a ++ b)=true:=by
 unfold txtB at *;have e:(a ++ b).data.toList=a.data.toList ++ b.data.toList:=by simp [ByteArray.data_append]
 rw [e,List.all_append,ha,hb];rfl
attribute [local go_sem] zacZ
set_option maxHeartbeats 16000000 in
theorem zccY (op:ByteArray) (a b:ValD) (v1 v2:Value) (w:World) (h1:ValV w v1 a) (h2:ValV w v2 b) (hp:Pow w) (hm:MaxL w) (o1:OkV a) (o2:OkV b) :
  Calls prog 13 #[.string op,v1,v2] w (RetR w [] (binaryR op a b)):=by
 obtain ⟨P,hP⟩:∃ P:Ending→World→Prop,RetR w [] (binaryR op a b)=P:=⟨_,rfl⟩
 rw [hP];have HP:=hZz hP;have HIN0:Calls prog 35 #[.slice (some ⟨w.heap.size,0,none⟩) 11 11,.string op] (w.alloc (.cells #[.string ⟨#[43]⟩,.string ⟨#[45]⟩,.string ⟨#[42]⟩,.string ⟨#[47]⟩,.string ⟨#[37]⟩,.string ⟨#[61,61]⟩,.string ⟨#[33,61]⟩,.string ⟨#[60]⟩,.string ⟨#[60,61]⟩,.string ⟨#[62]⟩,.string ⟨#[62,61]⟩] 9)) fun e w'=>e=.returned (.bool (decide (op.toList∈binL)))∧w'=(w.alloc (.cells #[.string ⟨#[43]⟩,.string ⟨#[45]⟩,.string ⟨#[42]⟩,.string ⟨#[47]⟩,.string ⟨#[37]⟩,.string ⟨#[61,61]⟩,.string ⟨#[33,61]⟩,.string ⟨#[60]⟩,.string ⟨#[60,61]⟩,.string ⟨#[62]⟩,.string ⟨#[62,61]⟩] 9)):=opin_any op w.heap.size 9 _ (Blk.new w _ _)
 by_cases hop:op.toList∈binL
 case neg =>
  have HR:Hid (binaryR op a b=([],4)):=hZz (by unfold binaryR;rw [if_pos hop]);rw [decide_eq_false hop] at HIN0;have HIN:=hZz HIN0;clear hop HIN0 h1 h2 hp hm o1 o2 hP;go_enter func13,ntmps13
  go_wp2_with (first
   | (go_at_call 35;((with_reducible refine HIN.out.mono ?_);rintro e w1 ⟨rfl,hw1⟩;have HB1:Hid (Below w.heap.size w w1):=hZz (by rw [hw1];exact zabZ w _);clear hw1)))
  rw [← HP.out];exact RetR.err HR.out HB1.out
 rw [decide_eq_true hop] at HIN0;have HIN:=hZz HIN0;clear HIN0;obtain ⟨A1,n1,k1,rfl⟩:=h1.shape;obtain ⟨A2,n2,k2,rfl⟩:=h2.shape
 have HCK:Hid (∀ wx,Below w.heap.size w wx→Calls prog 30 #[.slice (some ⟨wx.heap.size,0,none⟩) 2 2] (wx.alloc (.cells #[.slice A1 n1 k1,.slice A2 n2 k2] 22)) fun e w'=>e=.returned (.int .i64 (firstBad [a,b]))∧Below w.heap.size w w'):=hZz fun wx hb=>by
  have:=zahY [a,b] _ (wx.alloc (.cells #[.slice A1 n1 k1,.slice A2 n2 k2] 22)) (vals2 (Blk.new _ _ _) ((h1.below hb).below (zabZ _ _)) ((h2.below hb).below (zabZ _ _))) ((hp.below hb).below (zabZ _ _)) (by simpa using ⟨o1,o2⟩)
  exact this.mono fun e w' ⟨he,hb'⟩=>⟨he,zaaZ (zadZ hb' (zabZ _ _)) hb hb.size⟩
 by_cases hck:firstBad [a,b]=0
 case neg =>
  have HR:Hid (binaryR op a b=([],firstBad [a,b])):=hZz (by
   rw [zayY] at hck ⊢;unfold binaryR;rw [if_neg (not_not_intro hop)];by_cases ha:checkF a=0
   ·rw [if_neg (not_not_intro ha)] at hck ⊢
    rw [if_neg (not_not_intro ha),if_pos hck]
   ·rw [if_pos ha,if_pos ha])
  obtain ⟨ck,hc⟩:∃ c,firstBad [a,b]=c:=⟨_,rfl⟩
  rw [hc] at HCK HR hck;have hck':(ck != 0)=true:=by simpa using hck
  clear hck h1 h2 hp hm o1 o2 hop hP hc;go_enter func13,ntmps13
  go_wp2_with (first
   | (go_at_call 35;((with_reducible refine HIN.out.mono ?_);rintro e w1 ⟨rfl,hw1⟩;have HB1:Hid (Below w.heap.size w w1):=hZz (by rw [hw1];exact zabZ w _);clear hw1))
   | (go_at_call 30;((with_reducible refine (HCK.out _ HB1.out).mono ?_);rintro e w2 ⟨rfl,hb2⟩;have HB2:=hZz hb2;clear hb2)))
  rw [← HP.out];exact RetR.err HR.out HB2.out
 have c1:checkF a=0:=by
  rw [zayY] at hck;by_cases ha:checkF a=0
  ·exact ha
  ·rw [if_pos ha] at hck;exact absurd hck ha
 have c2:checkF b=0:=by
  rw [zayY,if_neg (not_not_intro c1)] at hck;exact hck
 rw [hck] at HCK;clear hck
 obtain ⟨x,r,rfl⟩:∃ c r,a=c :: r:=by
  cases a with
  | nil=>exact absurd rfl (zaoZ c1)
  | cons c r=>exact ⟨c,r,rfl⟩
 obtain ⟨y,s,rfl⟩:∃ c r,b=c :: r:=by
  cases b with
  | nil=>exact absurd rfl (zaoZ c2)
  | cons c r=>exact ⟨c,r,rfl⟩
 obtain ⟨bA,oA,n1',k1',e1,hn1,p0,p1,p2,p3⟩:=zanZ h1;injection e1 with e1 e2 e3
 subst e1 e2 e3;obtain ⟨bB,oB,n2',k2',e1,hn2,q0,q1,q2,q3⟩:=zanZ h2;injection e1 with e1 e2 e3
 subst e1 e2 e3;have hposA:(0:Int)<(n1:Int):=by omega
 have hposB:(0:Int)<(n2:Int):=by omega
 have hnatA:0<n1:=by omega
 have hnatB:0<n2:=by omega
 have HP0:=hZz p0;have HP1:=hZz p1;have HQ0:=hZz q0;have HQ1:=hZz q1
 have HU:Hid (binaryR op (x :: r) (y :: s)=if op.toList=[61,61] then ([bCel (decide (x :: r=y :: s))],0) else if op.toList=[33,61] then ([bCel (!decide (x :: r=y :: s))],0) else if x.kind≠y.kind then ([],7)
   else if op.toList∈cmpL then
    (if x.kind=3 then ([bCel (ordB op.toList (decide (x.int<y.int)) (decide (y.int<x.int)))],0)
     else if x.kind=4 then ([bCel (ordB op.toList (sltB x.str y.str) (sltB y.str x.str))],0)
     else ([],7))
   else if x.kind=3 then arithR op.toList x.int y.int
   else if op.toList=[43]∧x.kind=4 then limR [sCel (x.str ++ y.str)]
   else if op.toList=[43]∧x.kind=5 then limR (⟨5,0,⟨#[]⟩,x.n+y.n⟩ :: (r ++ s))
   else ([],7)):=hZz (by
  unfold binaryR;rw [if_neg (not_not_intro hop),if_neg (not_not_intro c1),if_neg (not_not_intro c2)])
 have HBT:Hid (∀ bb wx,Calls prog 32 #[.bool bb] wx fun e w'=>∃ u,e=.returned u∧ValV w' u [bCel bb]∧FromC wx w' [] u∧Below wx.heap.size wx w'):=hZz cbool_any;have HSM:Hid (∀ wx,Below w.heap.size w wx→Calls prog 36 #[.slice (some ⟨bA,oA,none⟩) n1 k1,.slice (some ⟨bB,oB,none⟩) n2 k2] wx fun e w'=>e=.returned (.bool (eqV (x :: r) (y :: s)))∧∃ q,w'=wx.drewN q):=hZz fun wx hb=>vsame_any _ _ _ _ wx (h1.below hb) (h2.below hb)
 have HCI:Hid (∀ wx,Below w.heap.size w wx→Calls prog 37 #[.string ⟨#[60,61,62,61]⟩,.string op] wx fun e w'=>e=.returned (.bool (decide (op.toList∈cmpL)))∧w'=wx):=hZz fun wx hb=>cmpin_any op wx hop (hm.below hb)
 have HCM:Hid (∀ wx,Below w.heap.size w wx→x.kind=3∨x.kind=4→y.kind=x.kind→Calls prog 39 #[.slice (some ⟨bA,oA,none⟩) n1 k1,.slice (some ⟨bB,oB,none⟩) n2 k2] wx fun e w'=>e=.returned (.int .i64 (cmpR x y))∧Below wx.heap.size wx w'):=hZz fun wx hb hk hk2=>cmp34_any x y r s _ _ wx (h1.below hb) (h2.below hb) (hp.below hb) o1 o2 c1 c2 hk hk2
 have HAR:Hid (∀ wx,Below w.heap.size w wx→x.kind=3→y.kind=3→Calls prog 40 #[.string op,.int .i64 x.int,.int .i64 y.int] wx (RetR wx [] (arithR op.toList x.int y.int))):=hZz fun wx hb hk hk2=>arith_any op x.int y.int wx (hp.below hb) (int_range c1 (by simp) hk) (int_range c2 (by simp) hk2)
 have HJ4:Hid (∀ wx,Below w.heap.size w wx→x.kind=4→y.kind=4→Calls prog 41 #[.slice (some ⟨bA,oA,none⟩) n1 k1,.slice (some ⟨bB,oB,none⟩) n2 k2] wx (RetR wx [] (limR [sCel (x.str ++ y.str)]))):=hZz fun wx hb hk hk2=>by
  have:=join4_any x y r s _ _ wx (h1.below hb) (h2.below hb) (hp.below hb) c1 c2 hk
  rwa [okR_str _ (txt_app (txt_of c1 hk) (txt_of c2 hk2))] at this
 have HJ5:Hid (∀ wx,Below w.heap.size w wx→x.kind=5→y.kind=5→Calls prog 41 #[.slice (some ⟨bA,oA,none⟩) n1 k1,.slice (some ⟨bB,oB,none⟩) n2 k2] wx (RetR wx [] (limR (⟨5,0,⟨#[]⟩,x.n+y.n⟩ :: (r ++ s))))):=hZz fun wx hb hk hk2=>join5_any x y r s _ _ wx (h1.below hb) (h2.below hb) (hp.below hb) o1 o2 c1 c2 hk hk2
 have HEQ:Hid (eqV (x :: r) (y :: s)=decide (x :: r=y :: s)):=hZz rfl;clear h1 h2 hp hm o1 o2 c1 c2 hP hn1 hn2 p0 p1 p2 p3 q0 q1 q2 q3 hop;obtain ⟨tb,htb⟩:∃ t,eqV (x :: r) (y :: s)=t:=⟨_,rfl⟩
 rw [htb] at HSM HEQ;clear htb;obtain ⟨arR,harR⟩:∃ t,arithR op.toList x.int y.int=t:=⟨_,rfl⟩
 rw [harR] at HAR HU;obtain ⟨j4R,hj4R⟩:∃ t,limR [sCel (x.str ++ y.str)]=t:=⟨_,rfl⟩
 rw [hj4R] at HJ4 HU;obtain ⟨j5R,hj5R⟩:∃ t,limR (⟨5,0,⟨#[]⟩,x.n+y.n⟩ :: (r ++ s))=t:=⟨_,rfl⟩
 rw [hj5R] at HJ5 HU;have HCB:Hid (x.kind=3∨x.kind=4→cmpB op.toList (cmpR x y)=if x.kind=3 then ordB op.toList (decide (x.int<y.int)) (decide (y.int<x.int)) else ordB op.toList (sltB x.str y.str) (sltB y.str x.str)):=hZz fun hk=>cmpB_eq op.toList x y hk
 obtain ⟨cc,hcc⟩:∃ t,cmpR x y=t:=⟨_,rfl⟩
 rw [hcc] at HCM HCB;obtain ⟨o3,ho3⟩:∃ t,ordB op.toList (decide (x.int<y.int)) (decide (y.int<x.int))=t:=⟨_,rfl⟩
 rw [ho3] at HCB HU;obtain ⟨o4,ho4⟩:∃ t,ordB op.toList (sltB x.str y.str) (sltB y.str x.str)=t:=⟨_,rfl⟩
 rw [ho4] at HCB HU;obtain ⟨db,hdb⟩:∃ t,decide (x :: r=y :: s)=t:=⟨_,rfl⟩
 rw [hdb] at HEQ HU;obtain ⟨k,i,st,nn⟩:=x;obtain ⟨k',i',st',nn'⟩:=y;dsimp only at HP0 HP1 HQ0 HQ1 HU HCM HAR HJ4 HJ5 HCB;obtain ⟨BR,hBR⟩:∃ t,binaryR op (⟨k,i,st,nn⟩ :: r) (⟨k',i',st',nn'⟩ :: s)=t:=⟨_,rfl⟩
 rw [hBR] at HP HU;clear harR hj4R hj5R hcc ho3 ho4 hdb hBR;have HORD:Hid (op.toList∈cmpL→∀ c wx,Calls prog 38 #[.string op,.int .i64 c] wx fun e w'=>e=.returned (.bool (cmpB op.toList c))∧w'=wx):=hZz fun h c wx=>ordered_any op c wx h
 obtain ⟨L,hL⟩:∃ L,op.toList=L:=⟨_,rfl⟩
 by_cases e1:op.toList=[61,61]
 ·have t1:=zatY e1
  have HR:Hid (BR=([bCel db],0)):=hZz (by rw [HU.out,if_pos e1]);clear e1 hL HU;cases tb
  all_goals
   go_enter func13,ntmps13
   go_wp2_with (first
    | (go_at_call 35;((with_reducible refine HIN.out.mono ?_);rintro e w1 ⟨rfl,hw1⟩;have HB1:Hid (Below w.heap.size w w1):=hZz (by rw [hw1];exact zabZ w _);clear hw1))
    | (go_at_call 30;((with_reducible refine (HCK.out _ HB1.out).mono ?_);rintro e w2 ⟨rfl,hb2⟩;have HB2:=hZz hb2;have p0:=(hb2.cell (p:=⟨bA,oA,none⟩) (bLZ HP0.out)).trans HP0.out;have p1:=(hb2.cell (p:=⟨bA,oA+1,none⟩) (bLZ HP1.out)).trans HP1.out;have q0:=(hb2.cell (p:=⟨bB,oB,none⟩) (bLZ HQ0.out)).trans HQ0.out;have q1:=(hb2.cell (p:=⟨bB,oB+1,none⟩) (bLZ HQ1.out)).trans HQ1.out;clear hb2))
    | (go_at_call 36;((with_reducible refine (HSM.out _ HB2.out).mono ?_);rintro e w3 ⟨rfl,q,rfl⟩;have HB3:=hZz (zaqZ HB2.out q)))
    | (go_at_call 32;((with_reducible refine (HBT.out _ _).mono ?_);rintro e w5 ⟨u,rfl,hu,hf,hb5⟩;have HU5:=hZz hu;have HF5:=hZz hf;have HB5:=hZz (zadZ hb5 HB3.out);clear hu hf hb5)))
   rw [← HP.out,HR.out,← HEQ.out];exact ⟨u,rfl,HU5.out,HF5.out.up HB3.out.size (Below.refl _ _),HB5.out⟩
 have t1:=zalZ e1;by_cases e2:op.toList=[33,61]
 ·have t2:=zatY e2
  have HR:Hid (BR=([bCel (!db)],0)):=hZz (by rw [HU.out,if_neg e1,if_pos e2]);clear e1 e2 hL HU;cases tb
  all_goals
   go_enter func13,ntmps13
   go_wp2_with (first
    | (go_at_call 35;((with_reducible refine HIN.out.mono ?_);rintro e w1 ⟨rfl,hw1⟩;have HB1:Hid (Below w.heap.size w w1):=hZz (by rw [hw1];exact zabZ w _);clear hw1))
    | (go_at_call 30;((with_reducible refine (HCK.out _ HB1.out).mono ?_);rintro e w2 ⟨rfl,hb2⟩;have HB2:=hZz hb2;have p0:=(hb2.cell (p:=⟨bA,oA,none⟩) (bLZ HP0.out)).trans HP0.out;have p1:=(hb2.cell (p:=⟨bA,oA+1,none⟩) (bLZ HP1.out)).trans HP1.out;have q0:=(hb2.cell (p:=⟨bB,oB,none⟩) (bLZ HQ0.out)).trans HQ0.out;have q1:=(hb2.cell (p:=⟨bB,oB+1,none⟩) (bLZ HQ1.out)).trans HQ1.out;clear hb2))
    | (go_at_call 36;((with_reducible refine (HSM.out _ HB2.out).mono ?_);rintro e w3 ⟨rfl,q,rfl⟩;have HB3:=hZz (zaqZ HB2.out q)))
    | (go_at_call 32;((with_reducible refine (HBT.out _ _).mono ?_);rintro e w5 ⟨u,rfl,hu,hf,hb5⟩;have HU5:=hZz hu;have HF5:=hZz hf;have HB5:=hZz (zadZ hb5 HB3.out);clear hu hf hb5)))
   rw [← HP.out,HR.out,← HEQ.out];exact ⟨u,rfl,HU5.out,HF5.out.up HB3.out.size (Below.refl _ _),HB5.out⟩
 have t2:=zalZ e2;rw [if_neg e1,if_neg e2] at HU;clear e1 e2;by_cases hkk:k=k'
 case neg =>
  have hkk':(k != k')=true:=by simpa using hkk
  have HR:Hid (BR=([],7)):=hZz (by rw [HU.out,if_pos hkk]);clear hkk HU hL;go_enter func13,ntmps13
  go_wp2_with (first
   | (go_at_call 35;((with_reducible refine HIN.out.mono ?_);rintro e w1 ⟨rfl,hw1⟩;have HB1:Hid (Below w.heap.size w w1):=hZz (by rw [hw1];exact zabZ w _);clear hw1))
   | (go_at_call 30;((with_reducible refine (HCK.out _ HB1.out).mono ?_);rintro e w2 ⟨rfl,hb2⟩;have HB2:=hZz hb2;have p0:=(hb2.cell (p:=⟨bA,oA,none⟩) (bLZ HP0.out)).trans HP0.out;have p1:=(hb2.cell (p:=⟨bA,oA+1,none⟩) (bLZ HP1.out)).trans HP1.out;have q0:=(hb2.cell (p:=⟨bB,oB,none⟩) (bLZ HQ0.out)).trans HQ0.out;have q1:=(hb2.cell (p:=⟨bB,oB+1,none⟩) (bLZ HQ1.out)).trans HQ1.out;clear hb2)))
  rw [← HP.out];exact RetR.err HR.out HB2.out
 subst hkk
 have HU2:Hid (BR=if op.toList∈cmpL then
    (if k=3 then ([bCel o3],0)
     else if k=4 then ([bCel o4],0)
     else ([],7))
   else if k=3 then arR
   else if op.toList=[43]∧k=4 then j4R
   else if op.toList=[43]∧k=5 then j5R
   else ([],7)):=hZz (by rw [HU.out,if_neg (by simp)])
 clear HU;by_cases hc:op.toList∈cmpL
 ·have HORD2:=hZz (HORD.out hc)
  rw [decide_eq_true hc] at HCI;have HU3:Hid (BR=if k=3 then ([bCel o3],0) else if k=4 then ([bCel o4],0) else ([],7)):=hZz (by rw [HU2.out,if_pos hc]);clear HU2 hc hL;by_cases hk:k=3∨k=4
  ·have HR:Hid (BR=([bCel (cmpB op.toList cc)],0)):=hZz (by
    rw [HU3.out,HCB.out hk];rcases hk with hk | hk
    ·rw [if_pos hk,if_pos hk]
    ·rw [if_neg (by omega),if_pos hk,if_neg (by omega)])
   have HCM2:=hZz (fun wx hb=>HCM.out wx hb hk rfl);clear HU3 HCB HCM;obtain ⟨bb,hbb⟩:∃ t,cmpB op.toList cc=t:=⟨_,rfl⟩
   have HOC:Hid (∀ wx,Calls prog 38 #[.string op,.int .i64 cc] wx fun e w'=>e=.returned (.bool bb)∧w'=wx):=hZz fun wx=>by
    have:=HORD2.out cc wx
    rwa [hbb] at this
   rw [hbb] at HR;clear hbb;rcases hk with hk | hk
   all_goals
    subst hk;go_enter func13,ntmps13
    go_wp2_with (first
     | (go_at_call 35;((with_reducible refine HIN.out.mono ?_);rintro e w1 ⟨rfl,hw1⟩;have HB1:Hid (Below w.heap.size w w1):=hZz (by rw [hw1];exact zabZ w _);clear hw1))
     | (go_at_call 30;((with_reducible refine (HCK.out _ HB1.out).mono ?_);rintro e w2 ⟨rfl,hb2⟩;have HB2:=hZz hb2;have p0:=(hb2.cell (p:=⟨bA,oA,none⟩) (bLZ HP0.out)).trans HP0.out;have p1:=(hb2.cell (p:=⟨bA,oA+1,none⟩) (bLZ HP1.out)).trans HP1.out;have q0:=(hb2.cell (p:=⟨bB,oB,none⟩) (bLZ HQ0.out)).trans HQ0.out;have q1:=(hb2.cell (p:=⟨bB,oB+1,none⟩) (bLZ HQ1.out)).trans HQ1.out;clear hb2))
     | (go_at_call 37;((with_reducible refine (HCI.out _ HB2.out).mono ?_);rintro e w3 ⟨rfl,rfl⟩))
     | (go_at_call 39;((with_reducible refine (HCM2.out _ HB2.out).mono ?_);rintro e w4 ⟨rfl,hb4⟩;have HB3:=hZz (zadZ hb4 HB2.out);clear hb4))
     | (go_at_call 38;((with_reducible refine (HOC.out _).mono ?_);rintro e w4' ⟨rfl,rfl⟩))
     | (go_at_call 32;((with_reducible refine (HBT.out _ _).mono ?_);rintro e w5 ⟨u,rfl,hu,hf,hb5⟩;have HU5:=hZz hu;have HF5:=hZz hf;have HB5:=hZz (zadZ hb5 HB3.out);clear hu hf hb5)))
    rw [← HP.out,HR.out];exact ⟨u,rfl,HU5.out,HF5.out.up HB3.out.size (Below.refl _ _),HB5.out⟩
  ·have k3:(k != 3)=true:=by simp;omega
   have k4:(k != 4)=true:=by simp;omega
   have HR:Hid (BR=([],7)):=hZz (by rw [HU3.out,if_neg (by omega),if_neg (by omega)]);clear HU3 hk;go_enter func13,ntmps13
   go_wp2_with (first
    | (go_at_call 35;((with_reducible refine HIN.out.mono ?_);rintro e w1 ⟨rfl,hw1⟩;have HB1:Hid (Below w.heap.size w w1):=hZz (by rw [hw1];exact zabZ w _);clear hw1))
    | (go_at_call 30;((with_reducible refine (HCK.out _ HB1.out).mono ?_);rintro e w2 ⟨rfl,hb2⟩;have HB2:=hZz hb2;have p0:=(hb2.cell (p:=⟨bA,oA,none⟩) (bLZ HP0.out)).trans HP0.out;have p1:=(hb2.cell (p:=⟨bA,oA+1,none⟩) (bLZ HP1.out)).trans HP1.out;have q0:=(hb2.cell (p:=⟨bB,oB,none⟩) (bLZ HQ0.out)).trans HQ0.out;have q1:=(hb2.cell (p:=⟨bB,oB+1,none⟩) (bLZ HQ1.out)).trans HQ1.out;clear hb2))
    | (go_at_call 37;((with_reducible refine (HCI.out _ HB2.out).mono ?_);rintro e w3 ⟨rfl,rfl⟩)))
   rw [← HP.out];exact RetR.err HR.out HB2.out
 rw [decide_eq_false hc] at HCI
 have HU3:Hid (BR=if k=3 then arR
   else if op.toList=[43]∧k=4 then j4R
   else if op.toList=[43]∧k=5 then j5R
   else ([],7)):=hZz (by rw [HU2.out,if_neg hc])
 clear HU2 hc;by_cases hk3:k=3
 ·subst hk3
  have HR:Hid (BR=arR):=hZz (by rw [HU3.out,if_pos rfl]);have HAR2:=hZz (fun wx hb=>HAR.out wx hb rfl rfl);clear HU3 hL;go_enter func13,ntmps13
  go_upto_region 16 with (first
   | (go_at_call 35;((with_reducible refine HIN.out.mono ?_);rintro e w1 ⟨rfl,hw1⟩;have HB1:Hid (Below w.heap.size w w1):=hZz (by rw [hw1];exact zabZ w _);clear hw1))
   | (go_at_call 30;((with_reducible refine (HCK.out _ HB1.out).mono ?_);rintro e w2 ⟨rfl,hb2⟩;have HB2:=hZz hb2;have p0:=(hb2.cell (p:=⟨bA,oA,none⟩) (bLZ HP0.out)).trans HP0.out;have p1:=(hb2.cell (p:=⟨bA,oA+1,none⟩) (bLZ HP1.out)).trans HP1.out;have q0:=(hb2.cell (p:=⟨bB,oB,none⟩) (bLZ HQ0.out)).trans HQ0.out;have q1:=(hb2.cell (p:=⟨bB,oB+1,none⟩) (bLZ HQ1.out)).trans HQ1.out;clear hb2))
   | (go_at_call 37;((with_reducible refine (HCI.out _ HB2.out).mono ?_);rintro e w3 ⟨rfl,rfl⟩)))
  have p1':w3.drew.cell? ⟨bA,oA+1,none⟩=some (.int .i64 i):=p1;have q1':w3.drew.cell? ⟨bB,oB+1,none⟩=some (.int .i64 i'):=q1
  go_region_law (first
   | (go_simp;go_at_call 40;((with_reducible refine (HAR2.out _ HB2.out.drew).mono ?_);rintro e w4 ⟨u,rfl,hu,hf,hb3⟩;have HU3:=hZz hu;have HF3:=hZz hf;have HB3:=hZz (zadZ hb3 HB2.out.drew);clear hu hf hb3)))
  all_goals
   go_simp;go_wp2_with (fail)
   rw [← HP.out,HR.out];exact ⟨u,rfl,HU3.out,HF3.out.up HB2.out.drew.size (Below.refl _ _),HB3.out⟩
 have k3:(k == 3)=false:=by simpa using hk3
 by_cases e3:op.toList=[43]
 case neg =>
  have t3:=zalZ e3;have HR:Hid (BR=([],7)):=hZz (by rw [HU3.out,if_neg hk3,if_neg (fun h=>e3 h.1),if_neg (fun h=>e3 h.1)]);clear HU3 e3 hL hk3;go_enter func13,ntmps13
  go_wp2_with (first
   | (go_at_call 35;((with_reducible refine HIN.out.mono ?_);rintro e w1 ⟨rfl,hw1⟩;have HB1:Hid (Below w.heap.size w w1):=hZz (by rw [hw1];exact zabZ w _);clear hw1))
   | (go_at_call 30;((with_reducible refine (HCK.out _ HB1.out).mono ?_);rintro e w2 ⟨rfl,hb2⟩;have HB2:=hZz hb2;have p0:=(hb2.cell (p:=⟨bA,oA,none⟩) (bLZ HP0.out)).trans HP0.out;have p1:=(hb2.cell (p:=⟨bA,oA+1,none⟩) (bLZ HP1.out)).trans HP1.out;have q0:=(hb2.cell (p:=⟨bB,oB,none⟩) (bLZ HQ0.out)).trans HQ0.out;have q1:=(hb2.cell (p:=⟨bB,oB+1,none⟩) (bLZ HQ1.out)).trans HQ1.out;clear hb2))
   | (go_at_call 37;((with_reducible refine (HCI.out _ HB2.out).mono ?_);rintro e w3 ⟨rfl,rfl⟩)))
  rw [← HP.out];exact RetR.err HR.out HB2.out
 have t3:=zatY e3;by_cases hk4:k=4
 ·subst hk4
  have HR:Hid (BR=j4R):=hZz (by rw [HU3.out,if_neg hk3,if_pos ⟨e3,rfl⟩]);have HJ:=hZz (fun wx hb=>HJ4.out wx hb rfl rfl);clear HU3 e3 hL hk3 k3;go_enter func13,ntmps13
  go_wp2_with (first
   | (go_at_call 35;((with_reducible refine HIN.out.mono ?_);rintro e w1 ⟨rfl,hw1⟩;have HB1:Hid (Below w.heap.size w w1):=hZz (by rw [hw1];exact zabZ w _);clear hw1))
   | (go_at_call 30;((with_reducible refine (HCK.out _ HB1.out).mono ?_);rintro e w2 ⟨rfl,hb2⟩;have HB2:=hZz hb2;have p0:=(hb2.cell (p:=⟨bA,oA,none⟩) (bLZ HP0.out)).trans HP0.out;have p1:=(hb2.cell (p:=⟨bA,oA+1,none⟩) (bLZ HP1.out)).trans HP1.out;have q0:=(hb2.cell (p:=⟨bB,oB,none⟩) (bLZ HQ0.out)).trans HQ0.out;have q1:=(hb2.cell (p:=⟨bB,oB+1,none⟩) (bLZ HQ1.out)).trans HQ1.out;clear hb2))
   | (go_at_call 37;((with_reducible refine (HCI.out _ HB2.out).mono ?_);rintro e w3 ⟨rfl,rfl⟩))
   | (go_at_call 41;((with_reducible refine (HJ.out _ HB2.out).mono ?_);rintro e w3' ⟨u,rfl,hu,hf,hb3⟩;have HU3:=hZz hu;have HF3:=hZz hf;have HB3:=hZz (zadZ hb3 HB2.out);clear hu hf hb3)))
  rw [← HP.out,HR.out];exact ⟨u,rfl,HU3.out,HF3.out.up HB2.out.size (Below.refl _ _),HB3.out⟩
 by_cases hk5:k=5
 ·subst hk5
  have HR:Hid (BR=j5R):=hZz (by rw [HU3.out,if_neg hk3,if_neg (fun h=>hk4 h.2),if_pos ⟨e3,rfl⟩]);have HJ:=hZz (fun wx hb=>HJ5.out wx hb rfl rfl);clear HU3 e3 hL hk3 k3 hk4;go_enter func13,ntmps13
  go_wp2_with (first
   | (go_at_call 35;((with_reducible refine HIN.out.mono ?_);rintro e w1 ⟨rfl,hw1⟩;have HB1:Hid (Below w.heap.size w w1):=hZz (by rw [hw1];exact zabZ w _);clear hw1))
   | (go_at_call 30;((with_reducible refine (HCK.out _ HB1.out).mono ?_);rintro e w2 ⟨rfl,hb2⟩;have HB2:=hZz hb2;have p0:=(hb2.cell (p:=⟨bA,oA,none⟩) (bLZ HP0.out)).trans HP0.out;have p1:=(hb2.cell (p:=⟨bA,oA+1,none⟩) (bLZ HP1.out)).trans HP1.out;have q0:=(hb2.cell (p:=⟨bB,oB,none⟩) (bLZ HQ0.out)).trans HQ0.out;have q1:=(hb2.cell (p:=⟨bB,oB+1,none⟩) (bLZ HQ1.out)).trans HQ1.out;clear hb2))
   | (go_at_call 37;((with_reducible refine (HCI.out _ HB2.out).mono ?_);rintro e w3 ⟨rfl,rfl⟩))
   | (go_at_call 41;((with_reducible refine (HJ.out _ HB2.out).mono ?_);rintro e w3' ⟨u,rfl,hu,hf,hb3⟩;have HU3:=hZz hu;have HF3:=hZz hf;have HB3:=hZz (zadZ hb3 HB2.out);clear hu hf hb3)))
  rw [← HP.out,HR.out];exact ⟨u,rfl,HU3.out,HF3.out.up HB2.out.size (Below.refl _ _),HB3.out⟩
 have HR:Hid (BR=([],7)):=hZz (by rw [HU3.out,if_neg hk3,if_neg (fun h=>hk4 h.2),if_neg (fun h=>hk5 h.2)]);have k4:(k == 4)=false:=by simpa using hk4
 have k5:(k == 5)=false:=by simpa using hk5
 clear HU3 e3 hL hk3 hk4 hk5;go_enter func13,ntmps13
 go_wp2_with (first
  | (go_at_call 35;((with_reducible refine HIN.out.mono ?_);rintro e w1 ⟨rfl,hw1⟩;have HB1:Hid (Below w.heap.size w w1):=hZz (by rw [hw1];exact zabZ w _);clear hw1))
  | (go_at_call 30;((with_reducible refine (HCK.out _ HB1.out).mono ?_);rintro e w2 ⟨rfl,hb2⟩;have HB2:=hZz hb2;have p0:=(hb2.cell (p:=⟨bA,oA,none⟩) (bLZ HP0.out)).trans HP0.out;have p1:=(hb2.cell (p:=⟨bA,oA+1,none⟩) (bLZ HP1.out)).trans HP1.out;have q0:=(hb2.cell (p:=⟨bB,oB,none⟩) (bLZ HQ0.out)).trans HQ0.out;have q1:=(hb2.cell (p:=⟨bB,oB+1,none⟩) (bLZ HQ1.out)).trans HQ1.out;clear hb2))
  | (go_at_call 37;((with_reducible refine (HCI.out _ HB2.out).mono ?_);rintro e w3 ⟨rfl,rfl⟩)))
 rw [← HP.out];exact RetR.err HR.out HB2.out
end
section
def GetS (w0 w:World) (gk g:Nat) (key:ByteArray) (f:Option ValD):Prop:=∃ u,Blk w gk 9 #[.string key]∧Blk w g 22 #[u]∧Below w0.heap.size w0 w∧w0.heap.size≤g ∧
 (match f with | none=>u=.slice none 0 0 | some y=>OVal w w0.heap.size u y)
theorem GetS.below {w0 w w':World} {gk g:Nat} {key:ByteArray} {f:Option ValD} (h:GetS w0 w gk g key f) (hb:Below w.heap.size w w'):GetS w0 w' gk g key f:=by
 obtain ⟨u,h1,h2,h3,h4,h5⟩:=h;refine ⟨u,h1.below hb,h2.below hb,zaaZ hb h3 h3.size,h4,?_⟩
 cases f with
 | none=>exact h5
 | some y=>exact zajZ h5 hb
def findK (ps:List (ByteArray × ValD)) (key:ByteArray):Option ValD:=(ps.find? fun p=>decide (p.1=key)).map (·.2)
theorem findK_none {ps:List (ByteArray × ValD)} {key:ByteArray} (h:∀ i (hi:i<ps.length),ps[i].1≠key):findK ps key=none:=by
 unfold findK;rw [Option.map_eq_none_iff,List.find?_eq_none];intro p hp;obtain ⟨i,hi,rfl⟩:=List.mem_iff_getElem.1 hp;simpa using h i hi
theorem zc8Y:∀ {ps:List (ByteArray × ValD)} {key:ByteArray} {k:Nat} (hk:k<ps.length),(∀ i (_:i<k) (h:i<ps.length),ps[i].1≠key)→ps[k].1=key→findK ps key=some ps[k].2
 | [],_,_,hk,_,_=>by simp at hk
 | p :: r,key,0,_,_,h2=>by
  unfold findK;rw [List.find?_cons_of_pos (by simpa using h2)];rfl
 | p :: r,key,k+1,hk,h1,h2=>by
  have hp:p.1≠key:=h1 0 (by omega) (by simp)
  have:=zc8Y (ps:=r) (key:=key) (k:=k) (by simpa using hk) (fun i hi h=>h1 (i+1) (by omega) (by simpa using h)) h2
  unfold findK at this ⊢;rw [List.find?_cons_of_neg (by simpa using hp)];exact this
attribute [local go_sem] zacZ
theorem get1_any (k key:ByteArray) (x:Value) (y:ValD) (gk g:Nat) (w0 w:World) (h:GetS w0 w gk g key none) (hx:ValV w x y) :
  Calls prog 107 #[.string k,x,.pointer (some ⟨gk,0,none⟩),.pointer (some ⟨g,0,none⟩)] w fun e w'=>e=.returned (.bool (decide (k≠key)))∧(k≠key→GetS w0 w' gk g key none)∧(k=key→GetS w0 w' gk g key (some y)):=by
 obtain ⟨P,hP⟩:∃ P:Ending→World→Prop,(fun e w'=>e=.returned (.bool (decide (k≠key)))∧(k≠key→GetS w0 w' gk g key none)∧(k=key→GetS w0 w' gk g key (some y)))=P:=⟨_,rfl⟩
 rw [hP];have HP:=hZz hP;have HG:=hZz h;obtain ⟨u,h1,h2,h3,h4,rfl⟩:=h;have k0:=h1.cell 0 _ rfl;have z0:=h2.frozen 0;have HK:=hZz h1;have HB:=hZz h2;have HW:=hZz h3;have HBG:=hZz h4;have HC:=hZz (zbsY y x w hx);have hbe:=zbfY k key
 have hne:gk≠g:=fun e=>by
  subst e;unfold Blk at h1 h2;rw [h1] at h2;simp at h2
 have hne2:g≠gk:=fun e=>hne e.symm
 clear hP h1 h2 h3 h4 hx;by_cases hk:k=key
 ·rw [decide_eq_true hk] at hbe
  have hbe':(k.toList != key.toList)=false:=by simpa [bne] using hbe
  go_enter func107,ntmps107
  go_wp2_with (first
   | (go_at_call 72;((with_reducible refine HC.out.mono ?_);rintro e w1 ⟨u,rfl,ho,hb1⟩;obtain ⟨oA,oc,rfl⟩:=zaeZ ho;have HO:=hZz ho;have HB1:=hZz hb1;have k0:=(HK.out.below hb1).cell 0 _ rfl;have z0:=(HB.out.below hb1).frozen 0;have o0:=(HB.out.below hb1).cell 0 _ rfl;have HK1:=hZz (HK.out.below hb1);have HG1:=hZz (HB.out.below hb1);clear ho hb1)))
  rw [← HP.out];have hgS:=zamZ w1 g 0 (.slice oA y.length oc);have hb2:Below w0.heap.size w0 (w1.setCell ⟨g,0,none⟩ (.slice oA y.length oc)):=(zaaZ HB1.out HW.out HW.out.size).grown hgS (Nat.le_trans HW.out.size HB1.out.size) (fun j hj=>by injection hj with hj;have:=HBG.out;omega);refine ⟨by simp [hk],fun h=>absurd hk h,fun _=>⟨_,HK1.out.grown hgS (by simpa using hne),HG1.out.set_ 0 _,hb2,HBG.out,?_⟩⟩
  have:=HO.out.kept (row:=some g) hgS (.inr (fun e=>zagZ HO.out HG1.out (by decide) e.symm))
  exact own_base this HW.out.size
 ·rw [decide_eq_false hk] at hbe
  have hbe':(k.toList != key.toList)=true:=by simpa [bne] using hbe
  go_enter func107,ntmps107
  go_wp2_with (fail)
  rw [← HP.out];exact ⟨by simp [hk],fun _=>HG.out,fun h=>absurd h hk⟩
def getR (v:ValD) (key:ByteArray):ResD:=if checkF v≠0 then ([],checkF v) else match v with
 | []=>([],7)
 | c :: r=>if c.kind≠6 then ([],7) else match findK (partsOf (c :: r)) key with
  | none=>([],5)
  | some y=>(y,0)
end
end Go.Proofs.YtekdhlfapejijaaGreatDoor
