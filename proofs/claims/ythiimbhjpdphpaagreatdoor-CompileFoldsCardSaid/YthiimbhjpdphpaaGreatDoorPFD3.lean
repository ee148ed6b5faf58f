/- E24, E25, FC2, FC4, FD3 -/
import Derived.Test.YthiimbhjpdphpaaGreatDoorPE23
import Derived.Test.YthiimbhjpdphpaaGreatDoorPFB5
import Derived.Lib.IndexMore
import Derived.Lib.SlicesS
set_option linter.unusedVariables false
set_option linter.unusedSimpArgs false
namespace Go.Proofs.YthiimbhjpdphpaaGreatDoor
open Go.RowKit
set_option maxRecDepth 100000
set_option maxHeartbeats 8000000
open Go.Proofs.Tryz
def MaxL (w:World):Prop:=∃ m,w.cell? ⟨1,0,none⟩=some (.int .i64 m)
theorem MaxL.below {w w':World} (h:MaxL w) (hb:Below w.heap.size w w'):MaxL w':=by
 obtain ⟨m,h⟩:=h;exact ⟨m,(hb.cell (bLZ h)).trans h⟩
theorem bytes_of {s:ByteArray} {l:List UInt8} (h:s.toList=l):s=⟨l.toArray⟩:=by
 obtain ⟨d⟩:=s;rw [Lib.toList_data] at h;subst h;simp
def binS:List ByteArray:=binL.map fun l=>⟨l.toArray⟩
theorem mem_binS (x:ByteArray):x∈binS↔x.toList∈binL:=by
 unfold binS;rw [List.mem_map];constructor
 ·rintro ⟨l,hl,rfl⟩
  rw [Lib.toList_data];simpa using hl
 ·intro h
  exact ⟨_,h,(bytes_of rfl).symm⟩
theorem opin_any (op:ByteArray) (g:Nat) (t:TypeId) (w:World) (hB:Blk w g t (binS.map Value.string).toArray) :
  Calls prog 88 #[.slice (some ⟨g,0,none⟩) 11 11,.string op] w fun e w'=>e=.returned (.bool (decide (op.toList∈binL)))∧w'=w:=by
 refine (Tryz.slices_Contains_string g 0 11 11 binS op w (by decide) (by decide) (fun j hj=>?_)).mono fun e w' ⟨he,hw⟩=>⟨?_,hw⟩
 ·rw [Nat.zero_add]
  refine hB.cell j _ ?_
  simp [List.getElem?_eq_getElem hj,List.getD]
 ·rw [he,List.take_of_length_le (by decide)]
  congr 2
  rw [Bool.eq_iff_iff,Lib.containsS_iff,mem_binS];simp
theorem cmpin_any (op:ByteArray) (w:World) (h:op.toList∈binL) (hm:MaxL w) :
  Calls prog 120 #[.string ⟨#[60,61,62,61]⟩,.string op] w fun e w'=>e=.returned (.bool (decide (op.toList∈cmpL)))∧w'=w:=by
 obtain ⟨m,hm⟩:=hm
 have one:∀ c:UInt8,op.toList=[c]→(decide (0≤Lib.indexByte [60,61,62,61] c)=decide ([c]∈cmpL))→Calls prog 120 #[.string ⟨#[60,61,62,61]⟩,.string op] w fun e w'=>e=.returned (.bool (decide (op.toList∈cmpL)))∧w'=w:=fun c h1 h2=>by
  rw [h1]
  have:=Tryz.strings_Contains_one ⟨#[60,61,62,61]⟩ c w
  rw [bytes_of h1];refine Calls.mono this fun e w' ⟨he,hw⟩=>⟨?_,hw⟩
  rw [he];exact congrArg (fun b=>Ending.returned (.bool b)) h2
 have two:∀ c d:UInt8,op.toList=[c,d]→(Lib.contains [60,61,62,61] [c,d]=decide ([c,d]∈cmpL))→Calls prog 120 #[.string ⟨#[60,61,62,61]⟩,.string op] w fun e w'=>e=.returned (.bool (decide (op.toList∈cmpL)))∧w'=w:=fun c d h1 h2=>by
  rw [h1]
  have:=Tryz.strings_Contains ⟨#[60,61,62,61]⟩ ⟨#[c,d]⟩ m w (by decide) hm
  rw [bytes_of h1];refine Calls.mono this fun e w' ⟨he,hw⟩=>⟨?_,hw⟩
  rw [he];exact congrArg (fun b=>Ending.returned (.bool b)) h2
 simp only [binL,List.mem_cons,List.not_mem_nil,or_false] at h;rcases h with h | h | h | h | h | h | h | h | h | h | h
 ·exact one _ h (by decide)
 ·exact one _ h (by decide)
 ·exact one _ h (by decide)
 ·exact one _ h (by decide)
 ·exact one _ h (by decide)
 ·exact two _ _ h (by decide)
 ·exact two _ _ h (by decide)
 ·exact one _ h (by decide)
 ·exact two _ _ h (by decide)
 ·exact one _ h (by decide)
 ·exact two _ _ h (by decide)
theorem checkV_any (l:ValD) (v:Value) (w:World) (h:ValV w v l) (hp:Pow w) (ho:OkV l):Calls prog 152 #[v] w fun e w'=>e=.returned (.int .i64 (checkF l))∧Below w.heap.size w w':=by
 obtain ⟨A,cap,rfl,hc,hm,hs⟩:=h.at;exact za7Y l A cap w hs hp ho.1 hc ho.2
theorem cmp34_any (x y:CellD) (a b:ValD) (v1 v2:Value) (w:World) (h1:ValV w v1 (x :: a)) (h2:ValV w v2 (y :: b)) (hp:Pow w) (o1:OkV (x :: a)) (o2:OkV (y :: b)) (c1:checkF (x :: a)=0) (c2:checkF (y :: b)=0) (hk:x.kind=3∨x.kind=4) (hk2:y.kind=x.kind) :
  Calls prog 122 #[v1,v2] w fun e w'=>e=.returned (.int .i64 (cmpR x y))∧Below w.heap.size w w':=by
 obtain ⟨P,hP⟩:∃ P:Ending→World→Prop,(fun e w'=>e=.returned (.int .i64 (cmpR x y))∧Below w.heap.size w w')=P:=⟨_,rfl⟩
 rw [hP];have HP:=hZz hP
 have H1:Hid (∀ wx,Below w.heap.size w wx→Calls prog 152 #[v1] wx fun e w'=>e=.returned (.int .i64 0)∧Below wx.heap.size wx w'):=hZz fun wx hb=>by
  have:=checkV_any _ v1 wx (h1.below hb) (hp.below hb) o1
  rwa [c1] at this
 have H2:Hid (∀ wx,Below w.heap.size w wx→Calls prog 152 #[v2] wx fun e w'=>e=.returned (.int .i64 0)∧Below wx.heap.size wx w'):=hZz fun wx hb=>by
  have:=checkV_any _ v2 wx (h2.below hb) (hp.below hb) o2
  rwa [c2] at this
 have HC:Hid (∀ wx,Below w.heap.size w wx→Calls prog 156 #[v1,v2] wx fun e w'=>e=.returned (.int .i64 (cmpR x y))∧Below wx.heap.size wx w'):=hZz fun wx hb=>compare34_any x y a b v1 v2 wx (h1.below hb) (h2.below hb) hk hk2
 clear hP h1 h2 hp o1 o2 c1 c2 hk hk2;go_enter func122,ntmps122
 go_wp2_with (first
  | (go_at_call 152;first
   | ((with_reducible refine (H1.out _ (Below.refl _ _)).mono ?_);rintro e w1 ⟨rfl,hb1⟩;have HB1:=hZz hb1;clear hb1 H1)
   | ((with_reducible refine (H2.out _ HB1.out).mono ?_);rintro e w2 ⟨rfl,hb2⟩;have HB2:=hZz (zafZ hb2 HB1.out);clear hb2))
  | (go_at_call 156;((with_reducible refine (HC.out _ HB2.out).mono ?_);rintro e w3 ⟨rfl,hb3⟩;have HB3:=hZz (zafZ hb3 HB2.out);clear hb3)))
 rw [← HP.out];exact ⟨rfl,HB3.out⟩
section
theorem zbuY (x y:ValD):firstBad [x,y]=if checkF x≠0 then checkF x else checkF y:=by
 unfold firstBad;rw [zc9Y]
theorem txt_of {c:CellD} {r:ValD} (h:checkF (c :: r)=0) (hk:c.kind=4):txtB c.str=true:=by
 obtain ⟨s,h0,_⟩:=checkF_zero.1 h;obtain ⟨hp,_⟩:=px_cases (c:=c) h0 rfl;unfold plainB at hp;rw [if_neg (by omega),if_neg (by omega),if_neg (by omega),if_pos hk] at hp;simp only [Bool.and_eq_true] at hp;exact hp.2.2
theorem txt_app {a b:ByteArray} (ha:txtB a=true) (hb:txtB b=true):txtB (a ++ b)=true:=by
 unfold txtB at *;have e:(a ++ b).data.toList=a.data.toList ++ b.data.toList:=by simp [ByteArray.data_append]
 rw [e,List.all_append,ha,hb];rfl
attribute [local go_sem] zacZ
set_option maxHeartbeats 16000000 in
theorem binary_any (op:ByteArray) (a b:ValD) (v1 v2:Value) (w:World) (h1:ValV w v1 a) (h2:ValV w v2 b) (hp:Pow w) (hm:MaxL w) (o1:OkV a) (o2:OkV b) :
  Calls prog 77 #[.string op,v1,v2] w (RetR w [] (binaryR op a b)):=by
 obtain ⟨P,hP⟩:∃ P:Ending→World→Prop,RetR w [] (binaryR op a b)=P:=⟨_,rfl⟩
 rw [hP];have HP:=hZz hP;have HIN0:Calls prog 88 #[.slice (some ⟨w.heap.size,0,none⟩) 11 11,.string op] (w.alloc (.cells #[.string ⟨#[43]⟩,.string ⟨#[45]⟩,.string ⟨#[42]⟩,.string ⟨#[47]⟩,.string ⟨#[37]⟩,.string ⟨#[61,61]⟩,.string ⟨#[33,61]⟩,.string ⟨#[60]⟩,.string ⟨#[60,61]⟩,.string ⟨#[62]⟩,.string ⟨#[62,61]⟩] 9)) fun e w'=>e=.returned (.bool (decide (op.toList∈binL)))∧w'=(w.alloc (.cells #[.string ⟨#[43]⟩,.string ⟨#[45]⟩,.string ⟨#[42]⟩,.string ⟨#[47]⟩,.string ⟨#[37]⟩,.string ⟨#[61,61]⟩,.string ⟨#[33,61]⟩,.string ⟨#[60]⟩,.string ⟨#[60,61]⟩,.string ⟨#[62]⟩,.string ⟨#[62,61]⟩] 9)):=opin_any op w.heap.size 9 _ (Blk.new w _ _)
 by_cases hop:op.toList∈binL
 case neg =>
  have HR:Hid (binaryR op a b=([],4)):=hZz (by unfold binaryR;rw [if_pos hop]);rw [decide_eq_false hop] at HIN0;have HIN:=hZz HIN0;clear hop HIN0 h1 h2 hp hm o1 o2 hP;go_enter func77,ntmps77
  go_wp2_with (first
   | (go_at_call 88;((with_reducible refine HIN.out.mono ?_);rintro e w1 ⟨rfl,hw1⟩;have HB1:Hid (Below w.heap.size w w1):=hZz (by rw [hw1];exact zabZ w _);clear hw1)))
  rw [← HP.out];exact RetR.err HR.out HB1.out
 rw [decide_eq_true hop] at HIN0;have HIN:=hZz HIN0;clear HIN0;obtain ⟨A1,n1,k1,rfl⟩:=h1.shape;obtain ⟨A2,n2,k2,rfl⟩:=h2.shape
 have HCK:Hid (∀ wx,Below w.heap.size w wx→Calls prog 115 #[.slice (some ⟨wx.heap.size,0,none⟩) 2 2] (wx.alloc (.cells #[.slice A1 n1 k1,.slice A2 n2 k2] 96)) fun e w'=>e=.returned (.int .i64 (firstBad [a,b]))∧Below w.heap.size w w'):=hZz fun wx hb=>by
  have:=echeck_any [a,b] _ (wx.alloc (.cells #[.slice A1 n1 k1,.slice A2 n2 k2] 96)) (vals2 (Blk.new _ _ _) ((h1.below hb).below (zabZ _ _)) ((h2.below hb).below (zabZ _ _))) ((hp.below hb).below (zabZ _ _)) (by simpa using ⟨o1,o2⟩)
  exact this.mono fun e w' ⟨he,hb'⟩=>⟨he,zaaZ (zafZ hb' (zabZ _ _)) hb hb.size⟩
 by_cases hck:firstBad [a,b]=0
 case neg =>
  have HR:Hid (binaryR op a b=([],firstBad [a,b])):=hZz (by
   rw [zbuY] at hck ⊢;unfold binaryR;rw [if_neg (not_not_intro hop)];by_cases ha:checkF a=0
   ·rw [if_neg (not_not_intro ha)] at hck ⊢
    rw [if_neg (not_not_intro ha),if_pos hck]
   ·rw [if_pos ha,if_pos ha])
  obtain ⟨ck,hc⟩:∃ c,firstBad [a,b]=c:=⟨_,rfl⟩
  rw [hc] at HCK HR hck;have hck':(ck != 0)=true:=by simpa using hck
  clear hck h1 h2 hp hm o1 o2 hop hP hc;go_enter func77,ntmps77
  go_wp2_with (first
   | (go_at_call 88;((with_reducible refine HIN.out.mono ?_);rintro e w1 ⟨rfl,hw1⟩;have HB1:Hid (Below w.heap.size w w1):=hZz (by rw [hw1];exact zabZ w _);clear hw1))
   | (go_at_call 115;((with_reducible refine (HCK.out _ HB1.out).mono ?_);rintro e w2 ⟨rfl,hb2⟩;have HB2:=hZz hb2;clear hb2)))
  rw [← HP.out];exact RetR.err HR.out HB2.out
 have c1:checkF a=0:=by
  rw [zbuY] at hck;by_cases ha:checkF a=0
  ·exact ha
  ·rw [if_pos ha] at hck;exact absurd hck ha
 have c2:checkF b=0:=by
  rw [zbuY,if_neg (not_not_intro c1)] at hck;exact hck
 rw [hck] at HCK;clear hck
 obtain ⟨x,r,rfl⟩:∃ c r,a=c :: r:=by
  cases a with
  | nil=>exact absurd rfl (zdgY c1)
  | cons c r=>exact ⟨c,r,rfl⟩
 obtain ⟨y,s,rfl⟩:∃ c r,b=c :: r:=by
  cases b with
  | nil=>exact absurd rfl (zdgY c2)
  | cons c r=>exact ⟨c,r,rfl⟩
 obtain ⟨bA,oA,n1',k1',e1,hn1,p0,p1,p2,p3⟩:=zapY h1;injection e1 with e1 e2 e3
 subst e1 e2 e3;obtain ⟨bB,oB,n2',k2',e1,hn2,q0,q1,q2,q3⟩:=zapY h2;injection e1 with e1 e2 e3
 subst e1 e2 e3;have hposA:(0:Int)<(n1:Int):=by omega
 have hposB:(0:Int)<(n2:Int):=by omega
 have hnatA:0<n1:=by omega
 have hnatB:0<n2:=by omega
 have HP0:=hZz p0;have HP1:=hZz p1;have HQ0:=hZz q0;have HQ1:=hZz q1
 have HU:Hid (binaryR op (x :: r) (y :: s)=if op.toList=[61,61] then ([bCel (decide (x :: r=y :: s))],0) else if op.toList=[33,61] then ([bCel (!decide (x :: r=y :: s))],0) else if x.kind≠y.kind then ([],7)
   else if op.toList∈cmpL then
    (if x.kind=3 then ([bCel (ordB op.toList (decide (x.int<y.int)) (decide (y.int<x.int)))],0)
     else if x.kind=4 then ([bCel (ordB op.toList (sltB x.str y.str) (sltB y.str x.str))],0)
     else ([],7))
   else if x.kind=3 then arithR op.toList x.int y.int
   else if op.toList=[43]∧x.kind=4 then limR [sCel (x.str ++ y.str)]
   else if op.toList=[43]∧x.kind=5 then limR (⟨5,0,⟨#[]⟩,x.n+y.n⟩ :: (r ++ s))
   else ([],7)):=hZz (by
  unfold binaryR;rw [if_neg (not_not_intro hop),if_neg (not_not_intro c1),if_neg (not_not_intro c2)])
 have HBT:Hid (∀ bb wx,Calls prog 117 #[.bool bb] wx fun e w'=>∃ u,e=.returned u∧ValV w' u [bCel bb]∧FromC wx w' [] u∧Below wx.heap.size wx w'):=hZz cbool_any;have HSM:Hid (∀ wx,Below w.heap.size w wx→Calls prog 119 #[.slice (some ⟨bA,oA,none⟩) n1 k1,.slice (some ⟨bB,oB,none⟩) n2 k2] wx fun e w'=>e=.returned (.bool (eqV (x :: r) (y :: s)))∧∃ q,w'=wx.drewN q):=hZz fun wx hb=>vsame_any _ _ _ _ wx (h1.below hb) (h2.below hb)
 have HCI:Hid (∀ wx,Below w.heap.size w wx→Calls prog 120 #[.string ⟨#[60,61,62,61]⟩,.string op] wx fun e w'=>e=.returned (.bool (decide (op.toList∈cmpL)))∧w'=wx):=hZz fun wx hb=>cmpin_any op wx hop (hm.below hb)
 have HCM:Hid (∀ wx,Below w.heap.size w wx→x.kind=3∨x.kind=4→y.kind=x.kind→Calls prog 122 #[.slice (some ⟨bA,oA,none⟩) n1 k1,.slice (some ⟨bB,oB,none⟩) n2 k2] wx fun e w'=>e=.returned (.int .i64 (cmpR x y))∧Below wx.heap.size wx w'):=hZz fun wx hb hk hk2=>cmp34_any x y r s _ _ wx (h1.below hb) (h2.below hb) (hp.below hb) o1 o2 c1 c2 hk hk2
 have HAR:Hid (∀ wx,Below w.heap.size w wx→x.kind=3→y.kind=3→Calls prog 123 #[.string op,.int .i64 x.int,.int .i64 y.int] wx (RetR wx [] (arithR op.toList x.int y.int))):=hZz fun wx hb hk hk2=>arith_any op x.int y.int wx (hp.below hb) (zbpY c1 (by simp) hk) (zbpY c2 (by simp) hk2)
 have HJ4:Hid (∀ wx,Below w.heap.size w wx→x.kind=4→y.kind=4→Calls prog 124 #[.slice (some ⟨bA,oA,none⟩) n1 k1,.slice (some ⟨bB,oB,none⟩) n2 k2] wx (RetR wx [] (limR [sCel (x.str ++ y.str)]))):=hZz fun wx hb hk hk2=>by
  have:=join4_any x y r s _ _ wx (h1.below hb) (h2.below hb) (hp.below hb) c1 c2 hk
  rwa [okR_str _ (txt_app (txt_of c1 hk) (txt_of c2 hk2))] at this
 have HJ5:Hid (∀ wx,Below w.heap.size w wx→x.kind=5→y.kind=5→Calls prog 124 #[.slice (some ⟨bA,oA,none⟩) n1 k1,.slice (some ⟨bB,oB,none⟩) n2 k2] wx (RetR wx [] (limR (⟨5,0,⟨#[]⟩,x.n+y.n⟩ :: (r ++ s))))):=hZz fun wx hb hk hk2=>join5_any x y r s _ _ wx (h1.below hb) (h2.below hb) (hp.below hb) o1 o2 c1 c2 hk hk2
 have HEQ:Hid (eqV (x :: r) (y :: s)=decide (x :: r=y :: s)):=hZz rfl;clear h1 h2 hp hm o1 o2 c1 c2 hP hn1 hn2 p0 p1 p2 p3 q0 q1 q2 q3 hop;obtain ⟨tb,htb⟩:∃ t,eqV (x :: r) (y :: s)=t:=⟨_,rfl⟩
 rw [htb] at HSM HEQ;clear htb;obtain ⟨arR,harR⟩:∃ t,arithR op.toList x.int y.int=t:=⟨_,rfl⟩
 rw [harR] at HAR HU;obtain ⟨j4R,hj4R⟩:∃ t,limR [sCel (x.str ++ y.str)]=t:=⟨_,rfl⟩
 rw [hj4R] at HJ4 HU;obtain ⟨j5R,hj5R⟩:∃ t,limR (⟨5,0,⟨#[]⟩,x.n+y.n⟩ :: (r ++ s))=t:=⟨_,rfl⟩
 rw [hj5R] at HJ5 HU;have HCB:Hid (x.kind=3∨x.kind=4→cmpB op.toList (cmpR x y)=if x.kind=3 then ordB op.toList (decide (x.int<y.int)) (decide (y.int<x.int)) else ordB op.toList (sltB x.str y.str) (sltB y.str x.str)):=hZz fun hk=>cmpB_eq op.toList x y hk
 obtain ⟨cc,hcc⟩:∃ t,cmpR x y=t:=⟨_,rfl⟩
 rw [hcc] at HCM HCB;obtain ⟨o3,ho3⟩:∃ t,ordB op.toList (decide (x.int<y.int)) (decide (y.int<x.int))=t:=⟨_,rfl⟩
 rw [ho3] at HCB HU;obtain ⟨o4,ho4⟩:∃ t,ordB op.toList (sltB x.str y.str) (sltB y.str x.str)=t:=⟨_,rfl⟩
 rw [ho4] at HCB HU;obtain ⟨db,hdb⟩:∃ t,decide (x :: r=y :: s)=t:=⟨_,rfl⟩
 rw [hdb] at HEQ HU;obtain ⟨k,i,st,nn⟩:=x;obtain ⟨k',i',st',nn'⟩:=y;dsimp only at HP0 HP1 HQ0 HQ1 HU HCM HAR HJ4 HJ5 HCB;obtain ⟨BR,hBR⟩:∃ t,binaryR op (⟨k,i,st,nn⟩ :: r) (⟨k',i',st',nn'⟩ :: s)=t:=⟨_,rfl⟩
 rw [hBR] at HP HU;clear harR hj4R hj5R hcc ho3 ho4 hdb hBR;have HORD:Hid (op.toList∈cmpL→∀ c wx,Calls prog 121 #[.string op,.int .i64 c] wx fun e w'=>e=.returned (.bool (cmpB op.toList c))∧w'=wx):=hZz fun h c wx=>ordered_any op c wx h
 obtain ⟨L,hL⟩:∃ L,op.toList=L:=⟨_,rfl⟩
 by_cases e1:op.toList=[61,61]
 ·have t1:=zbdY e1
  have HR:Hid (BR=([bCel db],0)):=hZz (by rw [HU.out,if_pos e1]);clear e1 hL HU;cases tb
  all_goals
   go_enter func77,ntmps77
   go_wp2_with (first
    | (go_at_call 88;((with_reducible refine HIN.out.mono ?_);rintro e w1 ⟨rfl,hw1⟩;have HB1:Hid (Below w.heap.size w w1):=hZz (by rw [hw1];exact zabZ w _);clear hw1))
    | (go_at_call 115;((with_reducible refine (HCK.out _ HB1.out).mono ?_);rintro e w2 ⟨rfl,hb2⟩;have HB2:=hZz hb2;have p0:=(hb2.cell (p:=⟨bA,oA,none⟩) (bLZ HP0.out)).trans HP0.out;have p1:=(hb2.cell (p:=⟨bA,oA+1,none⟩) (bLZ HP1.out)).trans HP1.out;have q0:=(hb2.cell (p:=⟨bB,oB,none⟩) (bLZ HQ0.out)).trans HQ0.out;have q1:=(hb2.cell (p:=⟨bB,oB+1,none⟩) (bLZ HQ1.out)).trans HQ1.out;clear hb2))
    | (go_at_call 119;((with_reducible refine (HSM.out _ HB2.out).mono ?_);rintro e w3 ⟨rfl,q,rfl⟩;have HB3:=hZz (zaiZ HB2.out q)))
    | (go_at_call 117;((with_reducible refine (HBT.out _ _).mono ?_);rintro e w5 ⟨u,rfl,hu,hf,hb5⟩;have HU5:=hZz hu;have HF5:=hZz hf;have HB5:=hZz (zafZ hb5 HB3.out);clear hu hf hb5)))
   rw [← HP.out,HR.out,← HEQ.out];exact ⟨u,rfl,HU5.out,HF5.out.up HB3.out.size (Below.refl _ _),HB5.out⟩
 have t1:=za3Y e1;by_cases e2:op.toList=[33,61]
 ·have t2:=zbdY e2
  have HR:Hid (BR=([bCel (!db)],0)):=hZz (by rw [HU.out,if_neg e1,if_pos e2]);clear e1 e2 hL HU;cases tb
  all_goals
   go_enter func77,ntmps77
   go_wp2_with (first
    | (go_at_call 88;((with_reducible refine HIN.out.mono ?_);rintro e w1 ⟨rfl,hw1⟩;have HB1:Hid (Below w.heap.size w w1):=hZz (by rw [hw1];exact zabZ w _);clear hw1))
    | (go_at_call 115;((with_reducible refine (HCK.out _ HB1.out).mono ?_);rintro e w2 ⟨rfl,hb2⟩;have HB2:=hZz hb2;have p0:=(hb2.cell (p:=⟨bA,oA,none⟩) (bLZ HP0.out)).trans HP0.out;have p1:=(hb2.cell (p:=⟨bA,oA+1,none⟩) (bLZ HP1.out)).trans HP1.out;have q0:=(hb2.cell (p:=⟨bB,oB,none⟩) (bLZ HQ0.out)).trans HQ0.out;have q1:=(hb2.cell (p:=⟨bB,oB+1,none⟩) (bLZ HQ1.out)).trans HQ1.out;clear hb2))
    | (go_at_call 119;((with_reducible refine (HSM.out _ HB2.out).mono ?_);rintro e w3 ⟨rfl,q,rfl⟩;have HB3:=hZz (zaiZ HB2.out q)))
    | (go_at_call 117;((with_reducible refine (HBT.out _ _).mono ?_);rintro e w5 ⟨u,rfl,hu,hf,hb5⟩;have HU5:=hZz hu;have HF5:=hZz hf;have HB5:=hZz (zafZ hb5 HB3.out);clear hu hf hb5)))
   rw [← HP.out,HR.out,← HEQ.out];exact ⟨u,rfl,HU5.out,HF5.out.up HB3.out.size (Below.refl _ _),HB5.out⟩
 have t2:=za3Y e2;rw [if_neg e1,if_neg e2] at HU;clear e1 e2;by_cases hkk:k=k'
 case neg =>
  have hkk':(k != k')=true:=by simpa using hkk
  have HR:Hid (BR=([],7)):=hZz (by rw [HU.out,if_pos hkk]);clear hkk HU hL;go_enter func77,ntmps77
  go_wp2_with (first
   | (go_at_call 88;((with_reducible refine HIN.out.mono ?_);rintro e w1 ⟨rfl,hw1⟩;have HB1:Hid (Below w.heap.size w w1):=hZz (by rw [hw1];exact zabZ w _);clear hw1))
   | (go_at_call 115;((with_reducible refine (HCK.out _ HB1.out).mono ?_);rintro e w2 ⟨rfl,hb2⟩;have HB2:=hZz hb2;have p0:=(hb2.cell (p:=⟨bA,oA,none⟩) (bLZ HP0.out)).trans HP0.out;have p1:=(hb2.cell (p:=⟨bA,oA+1,none⟩) (bLZ HP1.out)).trans HP1.out;have q0:=(hb2.cell (p:=⟨bB,oB,none⟩) (bLZ HQ0.out)).trans HQ0.out;have q1:=(hb2.cell (p:=⟨bB,oB+1,none⟩) (bLZ HQ1.out)).trans HQ1.out;clear hb2)))
  rw [← HP.out];exact RetR.err HR.out HB2.out
 subst hkk
 have HU2:Hid (BR=if op.toList∈cmpL then
    (if k=3 then ([bCel o3],0)
     else if k=4 then ([bCel o4],0)
     else ([],7))
   else if k=3 then arR
   else if op.toList=[43]∧k=4 then j4R
   else if op.toList=[43]∧k=5 then j5R
   else ([],7)):=hZz (by rw [HU.out,if_neg (by simp)])
 clear HU;by_cases hc:op.toList∈cmpL
 ·have HORD2:=hZz (HORD.out hc)
  rw [decide_eq_true hc] at HCI;have HU3:Hid (BR=if k=3 then ([bCel o3],0) else if k=4 then ([bCel o4],0) else ([],7)):=hZz (by rw [HU2.out,if_pos hc]);clear HU2 hc hL;by_cases hk:k=3∨k=4
  ·have HR:Hid (BR=([bCel (cmpB op.toList cc)],0)):=hZz (by
    rw [HU3.out,HCB.out hk];rcases hk with hk | hk
    ·rw [if_pos hk,if_pos hk]
    ·rw [if_neg (by omega),if_pos hk,if_neg (by omega)])
   have HCM2:=hZz (fun wx hb=>HCM.out wx hb hk rfl);clear HU3 HCB HCM;obtain ⟨bb,hbb⟩:∃ t,cmpB op.toList cc=t:=⟨_,rfl⟩
   have HOC:Hid (∀ wx,Calls prog 121 #[.string op,.int .i64 cc] wx fun e w'=>e=.returned (.bool bb)∧w'=wx):=hZz fun wx=>by
    have:=HORD2.out cc wx
    rwa [hbb] at this
   rw [hbb] at HR;clear hbb;rcases hk with hk | hk
   all_goals
    subst hk;go_enter func77,ntmps77
    go_wp2_with (first
     | (go_at_call 88;((with_reducible refine HIN.out.mono ?_);rintro e w1 ⟨rfl,hw1⟩;have HB1:Hid (Below w.heap.size w w1):=hZz (by rw [hw1];exact zabZ w _);clear hw1))
     | (go_at_call 115;((with_reducible refine (HCK.out _ HB1.out).mono ?_);rintro e w2 ⟨rfl,hb2⟩;have HB2:=hZz hb2;have p0:=(hb2.cell (p:=⟨bA,oA,none⟩) (bLZ HP0.out)).trans HP0.out;have p1:=(hb2.cell (p:=⟨bA,oA+1,none⟩) (bLZ HP1.out)).trans HP1.out;have q0:=(hb2.cell (p:=⟨bB,oB,none⟩) (bLZ HQ0.out)).trans HQ0.out;have q1:=(hb2.cell (p:=⟨bB,oB+1,none⟩) (bLZ HQ1.out)).trans HQ1.out;clear hb2))
     | (go_at_call 120;((with_reducible refine (HCI.out _ HB2.out).mono ?_);rintro e w3 ⟨rfl,rfl⟩))
     | (go_at_call 122;((with_reducible refine (HCM2.out _ HB2.out).mono ?_);rintro e w4 ⟨rfl,hb4⟩;have HB3:=hZz (zafZ hb4 HB2.out);clear hb4))
     | (go_at_call 121;((with_reducible refine (HOC.out _).mono ?_);rintro e w4' ⟨rfl,rfl⟩))
     | (go_at_call 117;((with_reducible refine (HBT.out _ _).mono ?_);rintro e w5 ⟨u,rfl,hu,hf,hb5⟩;have HU5:=hZz hu;have HF5:=hZz hf;have HB5:=hZz (zafZ hb5 HB3.out);clear hu hf hb5)))
    rw [← HP.out,HR.out];exact ⟨u,rfl,HU5.out,HF5.out.up HB3.out.size (Below.refl _ _),HB5.out⟩
  ·have k3:(k != 3)=true:=by simp;omega
   have k4:(k != 4)=true:=by simp;omega
   have HR:Hid (BR=([],7)):=hZz (by rw [HU3.out,if_neg (by omega),if_neg (by omega)]);clear HU3 hk;go_enter func77,ntmps77
   go_wp2_with (first
    | (go_at_call 88;((with_reducible refine HIN.out.mono ?_);rintro e w1 ⟨rfl,hw1⟩;have HB1:Hid (Below w.heap.size w w1):=hZz (by rw [hw1];exact zabZ w _);clear hw1))
    | (go_at_call 115;((with_reducible refine (HCK.out _ HB1.out).mono ?_);rintro e w2 ⟨rfl,hb2⟩;have HB2:=hZz hb2;have p0:=(hb2.cell (p:=⟨bA,oA,none⟩) (bLZ HP0.out)).trans HP0.out;have p1:=(hb2.cell (p:=⟨bA,oA+1,none⟩) (bLZ HP1.out)).trans HP1.out;have q0:=(hb2.cell (p:=⟨bB,oB,none⟩) (bLZ HQ0.out)).trans HQ0.out;have q1:=(hb2.cell (p:=⟨bB,oB+1,none⟩) (bLZ HQ1.out)).trans HQ1.out;clear hb2))
    | (go_at_call 120;((with_reducible refine (HCI.out _ HB2.out).mono ?_);rintro e w3 ⟨rfl,rfl⟩)))
   rw [← HP.out];exact RetR.err HR.out HB2.out
 rw [decide_eq_false hc] at HCI
 have HU3:Hid (BR=if k=3 then arR
   else if op.toList=[43]∧k=4 then j4R
   else if op.toList=[43]∧k=5 then j5R
   else ([],7)):=hZz (by rw [HU2.out,if_neg hc])
 clear HU2 hc;by_cases hk3:k=3
 ·subst hk3
  have HR:Hid (BR=arR):=hZz (by rw [HU3.out,if_pos rfl]);have HAR2:=hZz (fun wx hb=>HAR.out wx hb rfl rfl);clear HU3 hL;go_enter func77,ntmps77
  go_upto_region 16 with (first
   | (go_at_call 88;((with_reducible refine HIN.out.mono ?_);rintro e w1 ⟨rfl,hw1⟩;have HB1:Hid (Below w.heap.size w w1):=hZz (by rw [hw1];exact zabZ w _);clear hw1))
   | (go_at_call 115;((with_reducible refine (HCK.out _ HB1.out).mono ?_);rintro e w2 ⟨rfl,hb2⟩;have HB2:=hZz hb2;have p0:=(hb2.cell (p:=⟨bA,oA,none⟩) (bLZ HP0.out)).trans HP0.out;have p1:=(hb2.cell (p:=⟨bA,oA+1,none⟩) (bLZ HP1.out)).trans HP1.out;have q0:=(hb2.cell (p:=⟨bB,oB,none⟩) (bLZ HQ0.out)).trans HQ0.out;have q1:=(hb2.cell (p:=⟨bB,oB+1,none⟩) (bLZ HQ1.out)).trans HQ1.out;clear hb2))
   | (go_at_call 120;((with_reducible refine (HCI.out _ HB2.out).mono ?_);rintro e w3 ⟨rfl,rfl⟩)))
  have p1':w3.drew.cell? ⟨bA,oA+1,none⟩=some (.int .i64 i):=p1;have q1':w3.drew.cell? ⟨bB,oB+1,none⟩=some (.int .i64 i'):=q1
  go_region_law (first
   | (go_simp;go_at_call 123;((with_reducible refine (HAR2.out _ HB2.out.drew).mono ?_);rintro e w4 ⟨u,rfl,hu,hf,hb3⟩;have HU3:=hZz hu;have HF3:=hZz hf;have HB3:=hZz (zafZ hb3 HB2.out.drew);clear hu hf hb3)))
  all_goals
   go_simp;go_wp2_with (fail)
   rw [← HP.out,HR.out];exact ⟨u,rfl,HU3.out,HF3.out.up HB2.out.drew.size (Below.refl _ _),HB3.out⟩
 have k3:(k == 3)=false:=by simpa using hk3
 by_cases e3:op.toList=[43]
 case neg =>
  have t3:=za3Y e3;have HR:Hid (BR=([],7)):=hZz (by rw [HU3.out,if_neg hk3,if_neg (fun h=>e3 h.1),if_neg (fun h=>e3 h.1)]);clear HU3 e3 hL hk3;go_enter func77,ntmps77
  go_wp2_with (first
   | (go_at_call 88;((with_reducible refine HIN.out.mono ?_);rintro e w1 ⟨rfl,hw1⟩;have HB1:Hid (Below w.heap.size w w1):=hZz (by rw [hw1];exact zabZ w _);clear hw1))
   | (go_at_call 115;((with_reducible refine (HCK.out _ HB1.out).mono ?_);rintro e w2 ⟨rfl,hb2⟩;have HB2:=hZz hb2;have p0:=(hb2.cell (p:=⟨bA,oA,none⟩) (bLZ HP0.out)).trans HP0.out;have p1:=(hb2.cell (p:=⟨bA,oA+1,none⟩) (bLZ HP1.out)).trans HP1.out;have q0:=(hb2.cell (p:=⟨bB,oB,none⟩) (bLZ HQ0.out)).trans HQ0.out;have q1:=(hb2.cell (p:=⟨bB,oB+1,none⟩) (bLZ HQ1.out)).trans HQ1.out;clear hb2))
   | (go_at_call 120;((with_reducible refine (HCI.out _ HB2.out).mono ?_);rintro e w3 ⟨rfl,rfl⟩)))
  rw [← HP.out];exact RetR.err HR.out HB2.out
 have t3:=zbdY e3;by_cases hk4:k=4
 ·subst hk4
  have HR:Hid (BR=j4R):=hZz (by rw [HU3.out,if_neg hk3,if_pos ⟨e3,rfl⟩]);have HJ:=hZz (fun wx hb=>HJ4.out wx hb rfl rfl);clear HU3 e3 hL hk3 k3;go_enter func77,ntmps77
  go_wp2_with (first
   | (go_at_call 88;((with_reducible refine HIN.out.mono ?_);rintro e w1 ⟨rfl,hw1⟩;have HB1:Hid (Below w.heap.size w w1):=hZz (by rw [hw1];exact zabZ w _);clear hw1))
   | (go_at_call 115;((with_reducible refine (HCK.out _ HB1.out).mono ?_);rintro e w2 ⟨rfl,hb2⟩;have HB2:=hZz hb2;have p0:=(hb2.cell (p:=⟨bA,oA,none⟩) (bLZ HP0.out)).trans HP0.out;have p1:=(hb2.cell (p:=⟨bA,oA+1,none⟩) (bLZ HP1.out)).trans HP1.out;have q0:=(hb2.cell (p:=⟨bB,oB,none⟩) (bLZ HQ0.out)).trans HQ0.out;have q1:=(hb2.cell (p:=⟨bB,oB+1,none⟩) (bLZ HQ1.out)).trans HQ1.out;clear hb2))
   | (go_at_call 120;((with_reducible refine (HCI.out _ HB2.out).mono ?_);rintro e w3 ⟨rfl,rfl⟩))
   | (go_at_call 124;((with_reducible refine (HJ.out _ HB2.out).mono ?_);rintro e w3' ⟨u,rfl,hu,hf,hb3⟩;have HU3:=hZz hu;have HF3:=hZz hf;have HB3:=hZz (zafZ hb3 HB2.out);clear hu hf hb3)))
  rw [← HP.out,HR.out];exact ⟨u,rfl,HU3.out,HF3.out.up HB2.out.size (Below.refl _ _),HB3.out⟩
 by_cases hk5:k=5
 ·subst hk5
  have HR:Hid (BR=j5R):=hZz (by rw [HU3.out,if_neg hk3,if_neg (fun h=>hk4 h.2),if_pos ⟨e3,rfl⟩]);have HJ:=hZz (fun wx hb=>HJ5.out wx hb rfl rfl);clear HU3 e3 hL hk3 k3 hk4;go_enter func77,ntmps77
  go_wp2_with (first
   | (go_at_call 88;((with_reducible refine HIN.out.mono ?_);rintro e w1 ⟨rfl,hw1⟩;have HB1:Hid (Below w.heap.size w w1):=hZz (by rw [hw1];exact zabZ w _);clear hw1))
   | (go_at_call 115;((with_reducible refine (HCK.out _ HB1.out).mono ?_);rintro e w2 ⟨rfl,hb2⟩;have HB2:=hZz hb2;have p0:=(hb2.cell (p:=⟨bA,oA,none⟩) (bLZ HP0.out)).trans HP0.out;have p1:=(hb2.cell (p:=⟨bA,oA+1,none⟩) (bLZ HP1.out)).trans HP1.out;have q0:=(hb2.cell (p:=⟨bB,oB,none⟩) (bLZ HQ0.out)).trans HQ0.out;have q1:=(hb2.cell (p:=⟨bB,oB+1,none⟩) (bLZ HQ1.out)).trans HQ1.out;clear hb2))
   | (go_at_call 120;((with_reducible refine (HCI.out _ HB2.out).mono ?_);rintro e w3 ⟨rfl,rfl⟩))
   | (go_at_call 124;((with_reducible refine (HJ.out _ HB2.out).mono ?_);rintro e w3' ⟨u,rfl,hu,hf,hb3⟩;have HU3:=hZz hu;have HF3:=hZz hf;have HB3:=hZz (zafZ hb3 HB2.out);clear hu hf hb3)))
  rw [← HP.out,HR.out];exact ⟨u,rfl,HU3.out,HF3.out.up HB2.out.size (Below.refl _ _),HB3.out⟩
 have HR:Hid (BR=([],7)):=hZz (by rw [HU3.out,if_neg hk3,if_neg (fun h=>hk4 h.2),if_neg (fun h=>hk5 h.2)]);have k4:(k == 4)=false:=by simpa using hk4
 have k5:(k == 5)=false:=by simpa using hk5
 clear HU3 e3 hL hk3 hk4 hk5;go_enter func77,ntmps77
 go_wp2_with (first
  | (go_at_call 88;((with_reducible refine HIN.out.mono ?_);rintro e w1 ⟨rfl,hw1⟩;have HB1:Hid (Below w.heap.size w w1):=hZz (by rw [hw1];exact zabZ w _);clear hw1))
  | (go_at_call 115;((with_reducible refine (HCK.out _ HB1.out).mono ?_);rintro e w2 ⟨rfl,hb2⟩;have HB2:=hZz hb2;have p0:=(hb2.cell (p:=⟨bA,oA,none⟩) (bLZ HP0.out)).trans HP0.out;have p1:=(hb2.cell (p:=⟨bA,oA+1,none⟩) (bLZ HP1.out)).trans HP1.out;have q0:=(hb2.cell (p:=⟨bB,oB,none⟩) (bLZ HQ0.out)).trans HQ0.out;have q1:=(hb2.cell (p:=⟨bB,oB+1,none⟩) (bLZ HQ1.out)).trans HQ1.out;clear hb2))
  | (go_at_call 120;((with_reducible refine (HCI.out _ HB2.out).mono ?_);rintro e w3 ⟨rfl,rfl⟩)))
 rw [← HP.out];exact RetR.err HR.out HB2.out
end
section
def RowC (w:World) (A:Option Addr) (lr:List Value) (vs:List CellD):Prop:=lr.length=vs.length∧SlAt w A 1 (fun v=>[v]) lr∧∀ i (h:i<vs.length),∃ g,lr[i]? = some (.slice (some ⟨g,0,none⟩) 1 1)∧Blk w g 103 (vs[i]).cells.toArray
theorem RowC.below {w w':World} {A:Option Addr} {lr:List Value} {vs:List CellD} (h:RowC w A lr vs) (hb:Below w.heap.size w w'):RowC w' A lr vs :=
 ⟨h.1,h.2.1.below hb,fun i hi=>by obtain ⟨g,a,b⟩:=h.2.2 i hi;exact ⟨g,a,b.below hb⟩⟩
theorem RowC.at {w:World} {A:Option Addr} {lr:List Value} {vs:List CellD} (h:RowC w A lr vs) {i:Nat} (hi:i<vs.length):∃ b off g,A=some ⟨b,off,none⟩∧w.cell? ⟨b,off+i,none⟩=some (.slice (some ⟨g,0,none⟩) 1 1)∧Blk w g 103 (vs[i]).cells.toArray:=by
 obtain ⟨h1,h2,h3⟩:=h;have hi':i<lr.length:=by omega
 obtain ⟨b,off,rfl,_⟩:=h2.ptr hi';obtain ⟨g,a,hb⟩:=h3 i hi
 have:=h2.cell0 hi' (v:=lr[i]) rfl
 rw [Nat.mul_one] at this
 have e:lr[i]=.slice (some ⟨g,0,none⟩) 1 1:=by
  rw [List.getElem?_eq_getElem hi'] at a;injection a
 rw [e] at this;exact ⟨b,off,g,rfl,this,hb⟩
def ValueP (o:Option CellD) (w:World) (r:Ending) (w':World):Prop:=Below w.heap.size w w'∧∃ A n cap b,r=.returned (.tuple #[.slice A n cap,.bool b])∧b=o.isSome∧∀ c,o=some c→0<n∧∃ g off,A=some ⟨g,off,none⟩∧w'.cell? ⟨g,off,none⟩=some (.int .i64 c.kind)∧w'.cell? ⟨g,off+1,none⟩=some (.int .i64 c.int)∧w'.cell? ⟨g,off+2,none⟩=some (.string c.str)∧w'.cell? ⟨g,off+3,none⟩=some (.int .i64 c.n)
theorem one_unary {op:ByteArray} {c:CellD}:(unaryR op [c]).2=0→∃ x,(unaryR op [c]).1=[x]:=by
 unfold unaryR;split
 ·intro h;cases h
 split
 ·rename_i h1 h2;intro h;exact absurd h h2
 simp only
 split
 ·intro _;exact ⟨_,rfl⟩
 split
 ·intro _;exact ⟨_,rfl⟩
 ·intro h;cases h
theorem one_num {n:Int}:(numR n).2=0→∃ x,(numR n).1=[x]:=by
 unfold numR;split
 ·intro _;exact ⟨_,rfl⟩
 ·intro h;cases h
theorem one_arith {op:List UInt8} {a b:Int}:(arithR op a b).2=0→∃ x,(arithR op a b).1=[x]:=by
 unfold arithR;split
 ·exact one_num
 split
 ·exact one_num
 split
 ·exact one_num
 split
 ·intro h;cases h
 split
 ·intro _;exact ⟨_,rfl⟩
 ·intro _;exact ⟨_,rfl⟩
theorem one_binary {op:ByteArray} {x y:CellD} (hx:ConC x) (hy:ConC y):(binaryR op [x] [y]).2=0→∃ z,(binaryR op [x] [y]).1=[z]:=by
 obtain ⟨r,hr⟩:∃ r,binaryR op [x] [y]=r:=⟨_,rfl⟩
 rw [hr];unfold binaryR at hr;split at hr
 ·subst hr;intro h;cases h
 rw [if_neg (by rw [hx.check];simp),if_neg (by rw [hy.check];simp)] at hr;split at hr
 ·subst hr;intro _;exact ⟨_,rfl⟩
 split at hr
 ·subst hr;intro _;exact ⟨_,rfl⟩
 dsimp only at hr;split at hr
 ·subst hr;intro h;cases h
 split at hr
 ·split at hr
  ·subst hr;intro _;exact ⟨_,rfl⟩
  ·split at hr
   ·subst hr;intro _;exact ⟨_,rfl⟩
   ·subst hr;intro h;cases h
 split at hr
 ·subst hr;exact one_arith
 split at hr
 ·unfold limR at hr
  split at hr
  ·subst hr;intro _;exact ⟨_,rfl⟩
  ·subst hr;intro h;cases h
 split at hr
 ·rename_i h5
  exfalso
  have h6:=h5.2;cases hx with
  | nul=>cases h6
  | bool n _=>cases h6
  | int n _=>cases h6
  | str s _=>cases h6
 ·subst hr;intro h;cases h
theorem firstC_iff {r:ResD} (h:r.2=0→∃ x,r.1=[x]):(firstC r).isSome=decide (r.2=0)∧∀ c,firstC r=some c→r.1=[c]:=by
 unfold firstC;by_cases h0:r.2=0
 ·obtain ⟨x,hx⟩:=h h0
  rw [if_pos h0,hx];simp [h0]
 ·rw [if_neg h0]
  simp [h0]
theorem ValueP.of_ret {w w':World} {r:ResD} {A:Option Addr} {n cap:Nat} (h1:r.2=0→∃ x,r.1=[x]) (hv:ValV w' (.slice A n cap) r.1) (hb:Below w.heap.size w w'):ValueP (firstC r) w (.returned (.tuple #[.slice A n cap,.bool (r.2 == 0)])) w':=by
 obtain ⟨h2,h3⟩:=firstC_iff h1;refine ⟨hb,A,n,cap,_,rfl,?_,fun c hc=>?_⟩
 ·rw [h2]
  by_cases e:r.2=0 <;> simp [e]
 ·rw [h3 c hc] at hv
  obtain ⟨b,off,n',cap',e,hn,c0,c1,c2,c3⟩:=zapY hv;injection e with e1 e2 e3
  subst e1 e2 e3;exact ⟨by omega,b,off,rfl,c0,c1,c2,c3⟩
theorem ConC.strLe {c:CellD} (h:ConC c):c.str.size≤200:=by
 cases h with
 | nul=>show (0:Nat)≤200;omega
 | bool n _=>show (0:Nat)≤200;omega
 | int n _=>show (0:Nat)≤200;omega
 | str s h =>
  have:=check_strB h
  unfold strB at this;simp only [Bool.and_eq_true,decide_eq_true_eq] at this;exact this.2
theorem ConC.okV {c:CellD} (h:ConC c):OkV [c]:=⟨by simp,fun c' hc=>by
 have e:c'=c:=by simpa using hc
 subst e;refine ⟨by have:=h.strLe;omega,?_⟩
 cases h with
 | nul=>show (_≤(0:Int)∧(0:Int)≤_)∧(0:Int)≤_;omega
 | bool n h=>show (_≤n∧n≤_)∧(0:Int)≤_;omega
 | int n h =>
  simp only [inRange,Bool.and_eq_true,decide_eq_true_eq] at h;show (_≤n∧n≤_)∧(0:Int)≤_;omega
 | str s h=>show (_≤(0:Int)∧(0:Int)≤_)∧(0:Int)≤_;omega⟩
attribute [local go_sem] zacZ
theorem value8_s (nt:ByteArray) (ni:Int) (kA iA:Option Addr) (kn kc im ic:Nat) (vs:List CellD) (A:Option Addr) (lr:List Value) (lc:Nat) (w:World) (hl:0<vs.length) (hlb:vs.length≤1000) (hc:∀ x∈vs,ConC x) (h:RowC w A lr vs) (hp:Pow w) :
  Calls prog 49 #[.agg #[.int .i64 8,.string nt,.int .i64 ni,.slice kA kn kc,.slice iA im ic],.slice A vs.length lc] w (ValueP (firstC (unaryR nt [vs[0]])) w):=by
 obtain ⟨P,hP⟩:∃ P:Ending→World→Prop,ValueP (firstC (unaryR nt [vs[0]])) w=P:=⟨_,rfl⟩
 rw [hP];obtain ⟨W1,hW1⟩:∃ W,w.alloc (.cells #[.int .i64 8,.string nt,.int .i64 ni,.slice kA kn kc,.slice iA im ic] 58)=W:=⟨_,rfl⟩
 obtain ⟨gN,hgN⟩:∃ g,w.heap.size=g:=⟨_,rfl⟩
 have hb1:Below w.heap.size w W1:=by rw [← hW1];exact zabZ _ _
 have HX1:Hid (Blk W1 gN 58 #[.int .i64 8,.string nt,.int .i64 ni,.slice kA kn kc,.slice iA im ic]):=hZz (by rw [← hW1,← hgN];exact Blk.new _ _ _);have HW1:=hZz hW1;have HG:=hZz hgN;have HB1:=hZz hb1;obtain ⟨b,off,g,rfl,c0,hb⟩:=(h.below hb1).at hl;rw [Nat.add_zero] at c0;have hcc:=hc _ (List.getElem_mem hl);obtain ⟨c,hce⟩:∃ c,vs[0]=c:=⟨_,rfl⟩
 rw [hce] at hcc hb hP;obtain ⟨R,hR⟩:∃ R,unaryR nt [c]=R:=⟨_,rfl⟩
 have h1:R.2=0→∃ x,R.1=[x]:=by rw [← hR];exact one_unary
 have HU:Hid (∀ wx,Below W1.heap.size W1 wx→Calls prog 76 #[.string nt,.slice (some ⟨g,0,none⟩) 1 1] wx (RetR wx [] R)):=hZz (fun wx hbx=>by
  rw [← hR];exact unary_any nt [c] _ wx (zcyY (hb.below hbx)) ((hp.below hb1).below hbx) hcc.okV)
 rw [hR] at hP;obtain ⟨rl,er⟩:=R;have HP:Hid (∀ A n cap w',ValV w' (.slice A n cap) rl→Below w.heap.size w w'→P (.returned (.tuple #[.slice A n cap,.bool (er == 0)])) w'):=hZz (fun A n cap w' hv hb=>by rw [← hP];exact ValueP.of_ret h1 hv hb);obtain ⟨ln,hln⟩:∃ n,vs.length=n:=⟨_,rfl⟩
 rw [hln] at hl ⊢;have hpos:(0:Int)<(ln:Int):=by omega
 clear hP hR h1 hce hcc hc h hp hW1 hgN hb1 hb hln hlb;go_enter func49,ntmps49
 go_upto_region 1 with fail
 rw [HG.out,HW1.out];clear HG HW1;have x1:=zalZ HX1.out;go_upto_region 2 with fail
 have c0d:W1.drew.cell? ⟨b,off,none⟩=some (.slice (some ⟨g,0,none⟩) 1 1):=c0;have x1d:=zalZ (w:=W1.drew) HX1.out
 go_region_law (first
  | (go_simp;go_at_call 76;((with_reducible refine (HU.out _ (zadZ _)).mono ?_);rintro e w4 ⟨u,rfl,hu,hf,hb3⟩;have HU4:=hZz hu;have HB4:Hid (Below w.heap.size w w4):=hZz (zaaZ (zafZ hb3 (zadZ _)) HB1.out HB1.out.size);clear hu hf hb3)))
 all_goals
  obtain ⟨A,n,cp,rfl⟩:=HU4.out.shape;go_simp;go_wp2_with (fail)
  exact HP.out _ _ _ _ HU4.out HB4.out
theorem value9_s (nt:ByteArray) (ni:Int) (kA iA:Option Addr) (kn kc im ic:Nat) (vs:List CellD) (A:Option Addr) (lr:List Value) (lc:Nat) (w:World) (hl:1<vs.length) (hlb:vs.length≤1000) (hc:∀ x∈vs,ConC x) (h:RowC w A lr vs) (hp:Pow w) (hm:MaxL w) (ha:¬ nt.toList=[97,110,100]) (ho:¬ nt.toList=[111,114]) :
  Calls prog 49 #[.agg #[.int .i64 9,.string nt,.int .i64 ni,.slice kA kn kc,.slice iA im ic],.slice A vs.length lc] w (ValueP (firstC (binaryR nt [vs[0]] [vs[1]])) w):=by
 obtain ⟨P,hP⟩:∃ P:Ending→World→Prop,ValueP (firstC (binaryR nt [vs[0]] [vs[1]])) w=P:=⟨_,rfl⟩
 rw [hP];obtain ⟨W1,hW1⟩:∃ W,w.alloc (.cells #[.int .i64 9,.string nt,.int .i64 ni,.slice kA kn kc,.slice iA im ic] 58)=W:=⟨_,rfl⟩
 obtain ⟨gN,hgN⟩:∃ g,w.heap.size=g:=⟨_,rfl⟩
 have hb1:Below w.heap.size w W1:=by rw [← hW1];exact zabZ _ _
 have HX1:Hid (Blk W1 gN 58 #[.int .i64 9,.string nt,.int .i64 ni,.slice kA kn kc,.slice iA im ic]):=hZz (by rw [← hW1,← hgN];exact Blk.new _ _ _);have HW1:=hZz hW1;have HG:=hZz hgN;have HB1:=hZz hb1;obtain ⟨b,off,g,rfl,c0,hb⟩:=(h.below hb1).at (i:=0) (by omega);obtain ⟨b',off',g',e,c1,hb'⟩:=(h.below hb1).at hl;injection e with e
 injection e with e1 e2
 subst e1 e2;rw [Nat.add_zero] at c0;have hcc:=hc _ (List.getElem_mem (l:=vs) (n:=0) (by omega));have hcc':=hc _ (List.getElem_mem hl);obtain ⟨c,hce⟩:∃ c,vs[0]=c:=⟨_,rfl⟩
 obtain ⟨c',hce'⟩:∃ c,vs[1]=c:=⟨_,rfl⟩
 rw [hce] at hcc hb hP;rw [hce'] at hcc' hb' hP;obtain ⟨R,hR⟩:∃ R,binaryR nt [c] [c']=R:=⟨_,rfl⟩
 have h1:R.2=0→∃ x,R.1=[x]:=by rw [← hR];exact one_binary hcc hcc'
 have HU:Hid (∀ wx,Below W1.heap.size W1 wx→Calls prog 77 #[.string nt,.slice (some ⟨g,0,none⟩) 1 1,.slice (some ⟨g',0,none⟩) 1 1] wx (RetR wx [] R)):=hZz (fun wx hbx=>by
  rw [← hR];exact binary_any nt [c] [c'] _ _ wx (zcyY (hb.below hbx)) (zcyY (hb'.below hbx)) ((hp.below hb1).below hbx) ((hm.below hb1).below hbx) hcc.okV hcc'.okV)
 rw [hR] at hP;obtain ⟨rl,er⟩:=R;have HP:Hid (∀ A n cap w',ValV w' (.slice A n cap) rl→Below w.heap.size w w'→P (.returned (.tuple #[.slice A n cap,.bool (er == 0)])) w'):=hZz (fun A n cap w' hv hb=>by rw [← hP];exact ValueP.of_ret h1 hv hb);obtain ⟨ln,hln⟩:∃ n,vs.length=n:=⟨_,rfl⟩
 rw [hln] at hl ⊢;have hpos:(0:Int)<(ln:Int):=by omega
 have hpos1:(1:Int)<(ln:Int):=by omega
 have hnat:0<ln:=by omega
 have ha':=za3Y ha;have ho':=za3Y ho;clear hP hR h1 hce hce' hcc hcc' hc h hp hm hW1 hgN hb1 hb hb' hln hlb;go_enter func49,ntmps49
 go_upto_region 1 with fail
 rw [HG.out,HW1.out];clear HG HW1;have x1:=zalZ HX1.out;go_upto_region 5 with fail
 have c0d:W1.drew.cell? ⟨b,off,none⟩=some (.slice (some ⟨g,0,none⟩) 1 1):=c0;have c1d:W1.drew.cell? ⟨b,off+1,none⟩=some (.slice (some ⟨g',0,none⟩) 1 1):=c1;have x1d:=zalZ (w:=W1.drew) HX1.out
 go_region_law (first
  | (go_simp;go_at_call 77;((with_reducible refine (HU.out _ (zadZ _)).mono ?_);rintro e w4 ⟨u,rfl,hu,hf,hb3⟩;have HU4:=hZz hu;have HB4:Hid (Below w.heap.size w w4):=hZz (zaaZ (zafZ hb3 (zadZ _)) HB1.out HB1.out.size);clear hu hf hb3)))
 all_goals
  obtain ⟨A,n,cp,rfl⟩:=HU4.out.shape;go_simp;go_wp2_with (fail)
  exact HP.out _ _ _ _ HU4.out HB4.out
theorem valueA_s (nt:ByteArray) (ni:Int) (kA iA:Option Addr) (kn kc im ic:Nat) (vs:List CellD) (A:Option Addr) (lr:List Value) (lc:Nat) (w:World) (hl:1<vs.length) (hlb:vs.length≤1000) (h:RowC w A lr vs) (ha:nt.toList=[97,110,100]) :
  Calls prog 49 #[.agg #[.int .i64 9,.string nt,.int .i64 ni,.slice kA kn kc,.slice iA im ic],.slice A vs.length lc] w (ValueP (if (vs[0]).kind≠2 then none else if decide ((vs[0]).int=1)=false then some vs[0] else if (vs[1]).kind=2 then some vs[1] else none) w):=by
 obtain ⟨P,hP⟩:∃ P:Ending→World→Prop,ValueP (if (vs[0]).kind≠2 then none else if decide ((vs[0]).int=1)=false then some vs[0] else if (vs[1]).kind=2 then some vs[1] else none) w=P:=⟨_,rfl⟩
 rw [hP];obtain ⟨W1,hW1⟩:∃ W,w.alloc (.cells #[.int .i64 9,.string nt,.int .i64 ni,.slice kA kn kc,.slice iA im ic] 58)=W:=⟨_,rfl⟩
 obtain ⟨gN,hgN⟩:∃ g,w.heap.size=g:=⟨_,rfl⟩
 have hb1:Below w.heap.size w W1:=by rw [← hW1];exact zabZ _ _
 have HX1:Hid (Blk W1 gN 58 #[.int .i64 9,.string nt,.int .i64 ni,.slice kA kn kc,.slice iA im ic]):=hZz (by rw [← hW1,← hgN];exact Blk.new _ _ _);have HW1:=hZz hW1;have HG:=hZz hgN;have HB1:=hZz hb1;obtain ⟨b,off,g,rfl,c0,hb⟩:=(h.below hb1).at (i:=0) (by omega);obtain ⟨b',off',g',e,c1,hb'⟩:=(h.below hb1).at hl;injection e with e
 injection e with e1 e2
 subst e1 e2;rw [Nat.add_zero] at c0;have ho:¬ nt.toList=[111,114]:=by rw [ha];decide
 have ha':=zbdY ha;have ho':=za3Y ho;obtain ⟨c,hce⟩:∃ c,vs[0]=c:=⟨_,rfl⟩
 obtain ⟨c',hce'⟩:∃ c,vs[1]=c:=⟨_,rfl⟩
 rw [hce] at hb hP;rw [hce'] at hb' hP;obtain ⟨ck,ci,cs,cn⟩:=c;obtain ⟨ck',ci',cs',cn'⟩:=c';simp only at hP;have HC:Hid (Blk W1 g 103 #[.int .i64 ck,.int .i64 ci,.string cs,.int .i64 cn]):=hZz hb;have HC':Hid (Blk W1 g' 103 #[.int .i64 ck',.int .i64 ci',.string cs',.int .i64 cn']):=hZz hb'
 have HP0:Hid (¬ ck=2→∀ w',Below w.heap.size w w'→P (.returned (.tuple #[.slice none 0 0,.bool false])) w'):=hZz (fun hk w' hb=>by
  rw [← hP,if_pos hk];exact ⟨hb,none,0,0,false,rfl,rfl,fun c hc=>by cases hc⟩)
 have HP1:Hid (ck=2→(¬ ci=1)→∀ w',Below w.heap.size w w'→P (.returned (.tuple #[.slice (some ⟨g,0,none⟩) 1 1,.bool true])) w'):=hZz (fun hk hi w' hbx=>by
  rw [← hP,if_neg (not_not_intro hk),if_pos (by simpa using hi)];refine ⟨hbx,_,1,1,true,rfl,rfl,fun c hc=>?_⟩
  injection hc with hc
  subst hc
  have hq:Blk w g 103 #[.int .i64 ck,.int .i64 ci,.string cs,.int .i64 cn]:=by
   obtain ⟨b0,o0,g0,e0,d0,hd⟩:=h.at (i:=0) (by omega)
   have e3:g0=g:=by
    injection e0 with e0
    injection e0 with e1 e2
    subst e1 e2;rw [Nat.add_zero] at d0
    have:=(hb1.cell (bLZ d0)).trans d0
    rw [c0] at this;injection this with this
    injection this with this
    injection this with this
    injection this with this
    exact this.symm
   subst e3;rw [hce] at hd;exact hd
  have hq:=blk4n (hq.below hbx);exact ⟨by omega,g,0,rfl,hq.1,hq.2.1,hq.2.2.1,hq.2.2.2⟩)
 have HP2:Hid (ck=2→¬ (¬ ci=1)→∀ w',Below w.heap.size w w'→P (.returned (.tuple #[.slice (some ⟨g',0,none⟩) 1 1,.bool (ck' == 2)])) w'):=hZz (fun hk hi w' hbx=>by
  rw [← hP,if_neg (not_not_intro hk),if_neg (by simpa using hi)];by_cases hk2:ck'=2
  ·rw [if_pos hk2]
   refine ⟨hbx,_,1,1,_,rfl,by simp [hk2],fun c hc=>?_⟩
   injection hc with hc
   subst hc
   have hq:Blk w g' 103 #[.int .i64 ck',.int .i64 ci',.string cs',.int .i64 cn']:=by
    obtain ⟨b0,o0,g0,e0,d0,hd⟩:=h.at hl
    have e3:g0=g':=by
     injection e0 with e0
     injection e0 with e1 e2
     subst e1 e2
     have:=(hb1.cell (bLZ d0)).trans d0
     rw [c1] at this;injection this with this
     injection this with this
     injection this with this
     injection this with this
     exact this.symm
    subst e3;rw [hce'] at hd;exact hd
   have hq:=blk4n (hq.below hbx);exact ⟨by omega,g',0,rfl,hq.1,hq.2.1,hq.2.2.1,hq.2.2.2⟩
  ·rw [if_neg hk2]
   exact ⟨hbx,_,1,1,_,rfl,by simp [hk2],fun c hc=>by cases hc⟩)
 obtain ⟨ln,hln⟩:∃ n,vs.length=n:=⟨_,rfl⟩
 rw [hln] at hl ⊢;have hpos:(0:Int)<(ln:Int):=by omega
 have hpos1:(1:Int)<(ln:Int):=by omega
 have hnat:0<ln:=by omega
 clear hP hce hce' h hW1 hgN hb1 hb hb' hln hlb;go_enter func49,ntmps49
 go_upto_region 1 with fail
 rw [HG.out,HW1.out];clear HG HW1;have x1:=zalZ HX1.out;have y0:=blk4n HC.out;have y1:=blk4n HC'.out;go_upto_region 7 with fail
 have c0d:W1.drew.cell? ⟨b,off,none⟩=some (.slice (some ⟨g,0,none⟩) 1 1):=c0;have c1d:W1.drew.cell? ⟨b,off+1,none⟩=some (.slice (some ⟨g',0,none⟩) 1 1):=c1;have y0d:=blk4n (w:=W1.drew) HC.out;have y1d:=blk4n (w:=W1.drew) HC'.out;have HBN:Hid (∀ o o',Below w.heap.size w ((W1.drew.alloc o).alloc o')):=hZz (fun o o'=>zaaZ (zaxY _ _ _) HB1.out.drew HB1.out.drew.size);go_region
 all_goals
  by_cases hk:ck=2
  ·by_cases hi:(¬ ci=1)
   ·subst hk
    have hi':(ci == 1)=false:=by simpa using hi
    go_wp2_with (fail)
    exact HP1.out (by first | trivial | rfl) (by first | trivial | omega | simp) _ (HBN.out _ _)
   ·subst hk
    have hi':ci=1:=by omega
    subst hi';go_wp2_with (fail)
    go_region
    all_goals
     go_wp2_with (fail)
     exact HP2.out (by first | trivial | rfl) (by first | trivial | omega | simp) _ (by first | exact HBN.out _ _ | exact (HBN.out _ _).drew)
  ·have hk2:(ck == 2)=false:=by simpa using hk
   go_wp2_with (fail)
   exact HP0.out hk _ (HBN.out _ _)
theorem valueO_s (nt:ByteArray) (ni:Int) (kA iA:Option Addr) (kn kc im ic:Nat) (vs:List CellD) (A:Option Addr) (lr:List Value) (lc:Nat) (w:World) (hl:1<vs.length) (hlb:vs.length≤1000) (h:RowC w A lr vs) (ho:nt.toList=[111,114]) :
  Calls prog 49 #[.agg #[.int .i64 9,.string nt,.int .i64 ni,.slice kA kn kc,.slice iA im ic],.slice A vs.length lc] w (ValueP (if (vs[0]).kind≠2 then none else if decide ((vs[0]).int=1)=true then some vs[0] else if (vs[1]).kind=2 then some vs[1] else none) w):=by
 obtain ⟨P,hP⟩:∃ P:Ending→World→Prop,ValueP (if (vs[0]).kind≠2 then none else if decide ((vs[0]).int=1)=true then some vs[0] else if (vs[1]).kind=2 then some vs[1] else none) w=P:=⟨_,rfl⟩
 rw [hP];obtain ⟨W1,hW1⟩:∃ W,w.alloc (.cells #[.int .i64 9,.string nt,.int .i64 ni,.slice kA kn kc,.slice iA im ic] 58)=W:=⟨_,rfl⟩
 obtain ⟨gN,hgN⟩:∃ g,w.heap.size=g:=⟨_,rfl⟩
 have hb1:Below w.heap.size w W1:=by rw [← hW1];exact zabZ _ _
 have HX1:Hid (Blk W1 gN 58 #[.int .i64 9,.string nt,.int .i64 ni,.slice kA kn kc,.slice iA im ic]):=hZz (by rw [← hW1,← hgN];exact Blk.new _ _ _);have HW1:=hZz hW1;have HG:=hZz hgN;have HB1:=hZz hb1;obtain ⟨b,off,g,rfl,c0,hb⟩:=(h.below hb1).at (i:=0) (by omega);obtain ⟨b',off',g',e,c1,hb'⟩:=(h.below hb1).at hl;injection e with e
 injection e with e1 e2
 subst e1 e2;rw [Nat.add_zero] at c0;have ha:¬ nt.toList=[97,110,100]:=by rw [ho];decide
 have ha':=za3Y ha;have ho':=zbdY ho;obtain ⟨c,hce⟩:∃ c,vs[0]=c:=⟨_,rfl⟩
 obtain ⟨c',hce'⟩:∃ c,vs[1]=c:=⟨_,rfl⟩
 rw [hce] at hb hP;rw [hce'] at hb' hP;obtain ⟨ck,ci,cs,cn⟩:=c;obtain ⟨ck',ci',cs',cn'⟩:=c';simp only at hP;have HC:Hid (Blk W1 g 103 #[.int .i64 ck,.int .i64 ci,.string cs,.int .i64 cn]):=hZz hb;have HC':Hid (Blk W1 g' 103 #[.int .i64 ck',.int .i64 ci',.string cs',.int .i64 cn']):=hZz hb'
 have HP0:Hid (¬ ck=2→∀ w',Below w.heap.size w w'→P (.returned (.tuple #[.slice none 0 0,.bool false])) w'):=hZz (fun hk w' hb=>by
  rw [← hP,if_pos hk];exact ⟨hb,none,0,0,false,rfl,rfl,fun c hc=>by cases hc⟩)
 have HP1:Hid (ck=2→(ci=1)→∀ w',Below w.heap.size w w'→P (.returned (.tuple #[.slice (some ⟨g,0,none⟩) 1 1,.bool true])) w'):=hZz (fun hk hi w' hbx=>by
  rw [← hP,if_neg (not_not_intro hk),if_pos (by simpa using hi)];refine ⟨hbx,_,1,1,true,rfl,rfl,fun c hc=>?_⟩
  injection hc with hc
  subst hc
  have hq:Blk w g 103 #[.int .i64 ck,.int .i64 ci,.string cs,.int .i64 cn]:=by
   obtain ⟨b0,o0,g0,e0,d0,hd⟩:=h.at (i:=0) (by omega)
   have e3:g0=g:=by
    injection e0 with e0
    injection e0 with e1 e2
    subst e1 e2;rw [Nat.add_zero] at d0
    have:=(hb1.cell (bLZ d0)).trans d0
    rw [c0] at this;injection this with this
    injection this with this
    injection this with this
    injection this with this
    exact this.symm
   subst e3;rw [hce] at hd;exact hd
  have hq:=blk4n (hq.below hbx);exact ⟨by omega,g,0,rfl,hq.1,hq.2.1,hq.2.2.1,hq.2.2.2⟩)
 have HP2:Hid (ck=2→¬ (ci=1)→∀ w',Below w.heap.size w w'→P (.returned (.tuple #[.slice (some ⟨g',0,none⟩) 1 1,.bool (ck' == 2)])) w'):=hZz (fun hk hi w' hbx=>by
  rw [← hP,if_neg (not_not_intro hk),if_neg (by simpa using hi)];by_cases hk2:ck'=2
  ·rw [if_pos hk2]
   refine ⟨hbx,_,1,1,_,rfl,by simp [hk2],fun c hc=>?_⟩
   injection hc with hc
   subst hc
   have hq:Blk w g' 103 #[.int .i64 ck',.int .i64 ci',.string cs',.int .i64 cn']:=by
    obtain ⟨b0,o0,g0,e0,d0,hd⟩:=h.at hl
    have e3:g0=g':=by
     injection e0 with e0
     injection e0 with e1 e2
     subst e1 e2
     have:=(hb1.cell (bLZ d0)).trans d0
     rw [c1] at this;injection this with this
     injection this with this
     injection this with this
     injection this with this
     exact this.symm
    subst e3;rw [hce'] at hd;exact hd
   have hq:=blk4n (hq.below hbx);exact ⟨by omega,g',0,rfl,hq.1,hq.2.1,hq.2.2.1,hq.2.2.2⟩
  ·rw [if_neg hk2]
   exact ⟨hbx,_,1,1,_,rfl,by simp [hk2],fun c hc=>by cases hc⟩)
 obtain ⟨ln,hln⟩:∃ n,vs.length=n:=⟨_,rfl⟩
 rw [hln] at hl ⊢;have hpos:(0:Int)<(ln:Int):=by omega
 have hpos1:(1:Int)<(ln:Int):=by omega
 have hnat:0<ln:=by omega
 clear hP hce hce' h hW1 hgN hb1 hb hb' hln hlb;go_enter func49,ntmps49
 go_upto_region 1 with fail
 rw [HG.out,HW1.out];clear HG HW1;have x1:=zalZ HX1.out;have y0:=blk4n HC.out;have y1:=blk4n HC'.out;go_upto_region 7 with fail
 have c0d:W1.drew.cell? ⟨b,off,none⟩=some (.slice (some ⟨g,0,none⟩) 1 1):=c0;have c1d:W1.drew.cell? ⟨b,off+1,none⟩=some (.slice (some ⟨g',0,none⟩) 1 1):=c1;have y0d:=blk4n (w:=W1.drew) HC.out;have y1d:=blk4n (w:=W1.drew) HC'.out;have HBN:Hid (∀ o o',Below w.heap.size w ((W1.drew.alloc o).alloc o')):=hZz (fun o o'=>zaaZ (zaxY _ _ _) HB1.out.drew HB1.out.drew.size);go_region
 all_goals
  by_cases hk:ck=2
  ·by_cases hi:(ci=1)
   ·subst hk
    have hi':ci=1:=by omega
    subst hi';go_wp2_with (fail)
    exact HP1.out (by first | trivial | rfl) (by first | trivial | omega | simp) _ (HBN.out _ _)
   ·subst hk
    have hi':(ci == 1)=false:=by simpa using hi
    go_wp2_with (fail)
    go_region
    all_goals
     go_wp2_with (fail)
     exact HP2.out (by first | trivial | rfl) (by first | trivial | omega | simp) _ (by first | exact HBN.out _ _ | exact (HBN.out _ _).drew)
  ·have hk2:(ck == 2)=false:=by simpa using hk
   go_wp2_with (fail)
   exact HP0.out hk _ (HBN.out _ _)
end
theorem FoldKs.con {p:ProgD} {f:Nat} {r:List Int} {s e:Nat} {out t:List NodeD} {ks:List Int} {vs:List CellD} (K:FoldKs p f r s e out t ks vs):∀ x∈vs,ConC x:=by
 have hpre:out ++ t <+: out ++ t:=⟨[],by simp⟩
 have hcov:=K.cov _ hpre;have hvs:=K.vals _ hpre;intro x hx;rw [hvs] at hx;obtain ⟨k,hk,hx⟩:=List.mem_filterMap.1 hx;obtain ⟨m,s',rfl,h1,h2,h3⟩:=hcov.mem k hk;rw [Int.toNat_natCast] at hx;cases f with
 | zero=>cases h3
 | succ f =>
  have T1:=zabY h3;refine const_con T1.fields (fun h8=>?_) hx
  obtain ⟨a,ha⟩:=zclY (zcdY T1.count (.inl h8));have hc2:=T1.cover;rw [ha] at hc2 ⊢;obtain ⟨e1,e2,e3⟩:=hc2.one;rw [List.getD_cons_zero,e1,show ((m:Int) - 1).toNat=m - 1 by omega];cases f with
  | zero=>cases e3
  | succ f=>exact (zabY e3).fields
theorem ConC.int_bd {c:CellD} (h:ConC c) : -1000000000000≤c.int∧c.int≤1000000000000:=by
 cases h with
 | nul=>show _≤(0:Int)∧(0:Int)≤_;omega
 | bool n h=>show _≤n∧n≤_;omega
 | int n h =>
  simp only [inRange,Bool.and_eq_true,decide_eq_true_eq] at h;exact h
 | str s h=>show _≤(0:Int)∧(0:Int)≤_;omega
theorem rows_len (L:List NodeX):(L.flatMap nodeRow).length=L.length * 5:=by
 induction L with
 | nil=>rfl
 | cons p r ih =>
  rw [List.flatMap_cons,List.length_append,ih,List.length_cons];show 5+_=_;omega
theorem take_rows (L N:List NodeX):((L ++ N).flatMap nodeRow).take (L.length * 5)=L.flatMap nodeRow:=by
 rw [List.flatMap_append,← rows_len,List.take_left]
theorem zckY {B:Nat} {w:World} {Cs:List NodeX} (h:PartsO B w Cs):∀ u∈Cs.flatMap nodeRow,u.oneCell'=true:=by
 intro u hu;obtain ⟨p,hp,hu⟩:=List.mem_flatMap.1 hu;obtain ⟨A,c,e1⟩:=zahZ (h p hp).1;obtain ⟨A',c',e2⟩:=zahZ (h p hp).2;unfold nodeRow at hu;rw [e1,e2] at hu;simp only [List.mem_cons,List.not_mem_nil,or_false] at hu;rcases hu with rfl | rfl | rfl | rfl | rfl <;> rfl
theorem FLc.world {w0 w wr:World} {S:ProgS} {gF gN gO:Nat} {nv nvk:Value} {L N:List NodeX} {n:NodeD} {nb:Array Value} {kO:Value} {ks:List Int} {vs:List CellD} {kv lv:Value} {lr:List Value} (h:Hid (FLc w0 w wr S gF gN gO nv nvk L N n nb kO ks vs kv lv lr)):∃ w8,w8=wr∧Hid (FLc w0 w w8 S gF gN gO nv nvk L N n nb kO ks vs kv lv lr):=⟨wr,rfl,h⟩
theorem zbtY (A:Option Addr) (n m c:Nat):(Value.slice A n c).ownBlock=(Value.slice A m c).ownBlock:=by cases A <;> rfl
theorem value_s (n:NodeD) (kA iA:Option Addr) (kn kc im ic:Nat) (vs:List CellD) (A:Option Addr) (lr:List Value) (lc:Nat) (w:World) (hk:n.kind=8∨n.kind=9) (hl:0<vs.length) (hl2:n.kind≠8→1<vs.length) (hlb:vs.length≤1000) (hc:∀ x∈vs,ConC x) (h:RowC w A lr vs) (hp:Pow w) (hm:MaxL w) :
  Calls prog 49 #[.agg #[.int .i64 n.kind,.string n.text,.int .i64 n.int,.slice kA kn kc,.slice iA im ic],.slice A vs.length lc] w (ValueP (valueF n vs) w):=by
 by_cases k8:n.kind=8
 ·have e:valueF n vs=firstC (unaryR n.text [vs[0]]):=by unfold valueF;rw [if_pos k8,zakZ hl]
  rw [e,k8];exact value8_s n.text n.int kA iA kn kc im ic vs A lr lc w hl hlb hc h hp
 ·have k9:n.kind=9:=hk.resolve_left k8
  have hl2:=hl2 k8;by_cases ha:n.text.toList=[97,110,100]
  ·have ho:isOr n=false:=by unfold isOr;rw [ha];decide
   have hA:isAnd n=true:=by unfold isAnd;rw [ha];decide
   have e:valueF n vs=if (vs[0]).kind≠2 then none else if decide ((vs[0]).int=1)=false then some vs[0] else if (vs[1]).kind=2 then some vs[1] else none:=by
    unfold valueF;rw [if_neg k8,if_neg (by rw [hA];simp),zakZ hl,zakZ hl2,ho]
   rw [e,k9];exact valueA_s n.text n.int kA iA kn kc im ic vs A lr lc w hl2 hlb h ha
  ·have hA:isAnd n=false:=by unfold isAnd;simpa using ha
   by_cases ho:n.text.toList=[111,114]
   ·have hO:isOr n=true:=by unfold isOr;rw [ho];decide
    have e:valueF n vs=if (vs[0]).kind≠2 then none else if decide ((vs[0]).int=1)=true then some vs[0] else if (vs[1]).kind=2 then some vs[1] else none:=by
     unfold valueF;rw [if_neg k8,if_neg (by rw [hO];simp),zakZ hl,zakZ hl2,hO]
    rw [e,k9];exact valueO_s n.text n.int kA iA kn kc im ic vs A lr lc w hl2 hlb h ho
   ·have hO:isOr n=false:=by unfold isOr;simpa using ho
    have e:valueF n vs=firstC (binaryR n.text [vs[0]] [vs[1]]):=by
     unfold valueF;rw [if_neg k8,if_pos ⟨hA,hO⟩,zakZ hl,zakZ hl2]
    rw [e,k9];exact value9_s n.text n.int kA iA kn kc im ic vs A lr lc w hl2 hlb hc h hp hm ha ho
structure NodeS (n:NodeD):Prop where
 kids:n.kids.length≤100
 keys:n.keys.length≤100
 text:n.text.size≤140737488351232
 key:∀ k∈n.keys,k.size≤140737488351232
theorem zbhY {k n:Int} {s:ByteArray} (h:s.size≤200):NodeS (leafN k s n):=⟨Nat.zero_le _,Nat.zero_le _,by show s.size≤_;omega,fun k hk=>by cases hk⟩
theorem constants_small {c:CellD} (h:ConC c) (a:Nat):∀ x∈constantsF c a,NodeS x:=by
 intro x hx;have hs:=h.strLe;unfold constantsF at hx;split at hx
 ·simp only [List.mem_singleton] at hx;subst hx;exact zbhY (by decide)
 split at hx
 ·simp only [List.mem_singleton] at hx;subst hx;exact zbhY (by decide)
 split at hx
 ·simp only [List.mem_singleton] at hx;subst hx;exact zbhY hs
 split at hx
 ·simp only [List.mem_cons,List.not_mem_nil,or_false] at hx
  rcases hx with rfl | rfl
  ·exact zbhY (by decide)
  ·exact ⟨by show 1≤100;omega,Nat.zero_le _,by show minS.size≤_;decide,fun k hk=>by cases hk⟩
 ·simp only [List.mem_singleton] at hx;subst hx;exact zbhY (by decide)
theorem fold_small {p:ProgD} (hp:∀ n∈p.nodes,NodeS n):∀ f i s,firstF p.nodes f i=some s→∀ out,(∀ x∈out,NodeS x)→∀ x∈foldF p f i out,NodeS x:=by
 intro f;induction f with
 | zero=>intro i s h;cases h
 | succ f ih =>
  intro i s h out ho;have T:=zabY h
  have key:∀ r s e,Cover p.nodes f r s e→∀ out kz vz,(∀ x∈out,NodeS x)→(∀ x∈(foldK (foldF p f) r out kz vz).1,NodeS x)∧(foldK (foldF p f) r out kz vz).2.1.length=kz.length+r.length:=by
   intro r s e hc;induction hc with
   | nil s=>intro out kz vz ho;exact ⟨by simpa [foldK] using ho,by simp [foldK]⟩
   | cons r s m e h1 h2 ih2 =>
    intro out kz vz ho;simp only [foldK,Int.toNat_natCast];obtain ⟨a,b⟩:=ih2 (foldF p f m out) (kz ++ [((foldF p f m out).length:Int) - 1]) (vz ++ (constF (foldF p f m out) ((foldF p f m out).getD ((foldF p f m out).length - 1) noNode)).toList) (ih m s h1 out ho);refine ⟨a,?_⟩
    rw [b,List.length_append,List.length_cons,List.length_cons,List.length_nil];omega
  obtain ⟨t,ks,vs,K⟩:=zbcY (fun i s h=>zauY p f i s h) T.cover out;obtain ⟨k1,k2⟩:=key _ _ _ T.cover out [] [] ho;have hn:p.nodes.getD i noNode=p.at_ i:=rfl;have hct:=T.count;rw [hn] at K k1 k2 hct;have hK:=K.eq [] [];simp only [List.nil_append] at hK;rw [hK] at k1 k2
  have hni:NodeS (p.at_ i):=by
   by_cases hi:i<p.nodes.length
   ·have:p.at_ i=p.nodes[i]:=zakZ hi _
    rw [this];exact hp _ (List.getElem_mem hi)
   ·have:p.at_ i=noNode:=by
     show p.nodes.getD i noNode=noNode;rw [List.getD_eq_getElem?_getD,List.getElem?_eq_none (by omega)];rfl
    rw [this];exact ⟨Nat.zero_le _,Nat.zero_le _,by show (0:Nat)≤_;omega,fun k hk=>by cases hk⟩
  simp only [foldF];rw [hK];simp only
  cases hov:opVal (p.at_ i) vs with
  | none =>
   intro x hx;rcases List.mem_append.1 hx with hx | hx
   ·exact k1 x hx
   ·simp only [List.mem_singleton] at hx
    subst hx;refine ⟨?_,hni.keys,hni.text,hni.key⟩
    have:=hni.kids
    simp only [List.length_nil,Nat.zero_add] at k2;show ks.length≤100;omega
  | some c =>
   have hop:((p.at_ i).kind=8∨(p.at_ i).kind=9)∧vs.length=(p.at_ i).kids.length:=by
    unfold opVal at hov;split at hov
    ·assumption
    ·cases hov
   have hval:valueF (p.at_ i) vs=some c:=by
    unfold opVal at hov
    rwa [if_pos hop] at hov
   obtain ⟨ok1,ok2⟩:=op_kids hct hop.1;have hc:ConC c:=zb0Y K.con (by omega) (fun h=>by have:=ok2 h;omega) hval;intro x hx;rcases List.mem_append.1 hx with hx | hx
   ·exact ho x hx
   ·exact constants_small hc _ x hx
theorem SynOk.foldN_small {p:ProgD} (h:SynOk p) (hp:∀ n∈p.nodes,NodeS n):∀ k,k≤p.funcs.length→∀ x∈foldN p k,NodeS x:=by
 intro k;induction k with
 | zero=>intro _ x hx;cases hx
 | succ k ih =>
  intro hk;obtain ⟨b,hb,h1,h2⟩:=h.func (k:=k) (by omega);simp only [foldN];rw [h2];exact fold_small hp _ _ _ hb.first _ (ih (by omega))
theorem SynOk.foldP_ok {p:ProgD} (h:SynOk p) (hs:SmallPr p) (ht:TextsOk p) (hl:(foldP p).nodes.length≤p.nodes.length):ProgOk (foldP p):=by
 have hp:∀ n∈p.nodes,NodeS n:=fun n hn=>by
  obtain ⟨i,hi,rfl⟩:=List.getElem_of_mem hn;exact ⟨(hs.node i hi).1,(hs.node i hi).2,(ht.node _ hn).1,(ht.node _ hn).2⟩
 have hN:∀ n∈(foldP p).nodes,NodeS n:=h.foldN_small hp _ (Nat.le_refl _)
 refine ⟨⟨by have:=hs.nodes;omega,fun n hn=>⟨by have:=(hN n hn).kids;omega,by have:=(hN n hn).keys;omega⟩,fun n hn=>⟨(hN n hn).text,(hN n hn).key⟩⟩,by rw [za4Y];have:=hs.funcs;omega,fun f hf=>?_⟩
 obtain ⟨k,hk,rfl⟩:=List.mem_map.1 hf;have hk':k<p.funcs.length:=by simpa using hk
 have h3:=hs.fn k hk';have h4:=ht.fn _ (List.getElem_mem hk');unfold foldFn;rw [zakZ hk'];exact ⟨h4.1,by show (p.funcs[k]).params.length≤_;omega,h4.2⟩
end Go.Proofs.YthiimbhjpdphpaaGreatDoor
