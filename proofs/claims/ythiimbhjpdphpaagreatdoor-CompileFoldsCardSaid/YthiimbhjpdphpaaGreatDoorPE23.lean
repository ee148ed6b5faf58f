/- E23 -/
import Derived.Test.YthiimbhjpdphpaaGreatDoorPE22
import Derived.Lib.Bytealg
import Derived.Lib.Strings
set_option linter.unusedVariables false
set_option linter.unusedSimpArgs false
namespace Go.Proofs.YthiimbhjpdphpaaGreatDoor
open Go.RowKit
set_option maxRecDepth 100000
set_option maxHeartbeats 8000000
open Go.Proofs.Tryz
def ordI (a b:Int):Int:=if a<b then -1 else if b<a then 1 else 0
def cmpR (x y:CellD):Int:=if x.kind=4 then Lib.compareBytes x.str.data.toList y.str.data.toList else ordI x.int y.int
theorem compare_lt:∀ a b:List UInt8,decide (Lib.compareBytes a b<0)=Op.bytesLess a b∧decide (Lib.compareBytes a b > 0)=Op.bytesLess b a
 | [],[]=>by simp [Lib.compareBytes,Op.bytesLess]
 | [],_ :: _=>by simp [Lib.compareBytes,Op.bytesLess]
 | _ :: _,[]=>by simp [Lib.compareBytes,Op.bytesLess]
 | x :: a,y :: b=>by
  obtain ⟨h1,h2⟩:=compare_lt a b;unfold Lib.compareBytes Op.bytesLess;by_cases h:x<y
  ·have h':¬ y<x:=by
    rw [UInt8.lt_iff_toNat_lt] at h ⊢;omega
   have hne:¬ x=y:=fun e=>h' (e ▸ h)
   have hne':¬ y=x:=fun e=>hne e.symm
   simp [h,h',hne,hne']
  ·by_cases h':y<x
   ·have hne:¬ x=y:=fun e=>h (e ▸ h')
    have hne':¬ y=x:=fun e=>hne e.symm
    simp [h,h',hne,hne']
   ·simp only [if_neg h,if_neg h',h1,h2]
    have:x=y:=by
     apply UInt8.toNat_inj.1
     rw [UInt8.lt_iff_toNat_lt] at h h';omega
    subst this
    first | trivial | simp
set_option maxHeartbeats 4000000 in
theorem order_any (a b:Int) (w:World):Calls prog 188 #[.int .i64 a,.int .i64 b] w fun e w'=>e=.returned (.int .i64 (ordI a b))∧w'=w:=by
 unfold ordI;by_cases h:a<b
 ·rw [if_pos h]
  go_enter func188,ntmps188
  go_wp2
  go_returns;exact ⟨rfl,rfl⟩
 ·rw [if_neg h]
  by_cases h':b<a
  ·rw [if_pos h']
   have hh:¬ (a<b):=h;go_enter func188,ntmps188
   go_wp2
   go_returns;exact ⟨rfl,rfl⟩
  ·rw [if_neg h']
   go_enter func188,ntmps188
   go_wp2
   go_returns;exact ⟨rfl,rfl⟩
attribute [local go_sem] zacZ
theorem compare34_any (x y:CellD) (a b:ValD) (v1 v2:Value) (w:World) (h1:ValV w v1 (x :: a)) (h2:ValV w v2 (y :: b)) (hk:x.kind=3∨x.kind=4) (hk2:y.kind=x.kind) :
  Calls prog 156 #[v1,v2] w fun e w'=>e=.returned (.int .i64 (cmpR x y))∧Below w.heap.size w w':=by
 obtain ⟨P,hP⟩:∃ P:Ending→World→Prop,(fun e w'=>e=.returned (.int .i64 (cmpR x y))∧Below w.heap.size w w')=P:=⟨_,rfl⟩
 rw [hP];have HP:=hZz hP;obtain ⟨bA,oA,nA,kA,rfl,hnA,p0,p1,p2,p3⟩:=zapY h1;obtain ⟨bB,oB,nB,kB,rfl,hnB,q0,q1,q2,q3⟩:=zapY h2;have hposA:(0:Int)<(nA:Int):=by omega
 have hposB:(0:Int)<(nB:Int):=by omega
 have hnatA:0<nA:=by omega
 have hnatB:0<nB:=by omega
 obtain ⟨k,i,s,nn⟩:=x;obtain ⟨k',i',s',nn'⟩:=y;dsimp only at hk hk2 p0 p1 p2 p3 q0 q1 q2 q3 HP;subst hk2;clear hnA hnB h1 h2 hP;rcases hk with hk | hk
 ·subst hk
  go_enter func156,ntmps156
  go_upto_region 1 with fail
  go_region
  all_goals
   go_wp2_with (first
    | (go_at_call 188;((with_reducible refine (order_any _ _ _).mono ?_);rintro e w3 ⟨rfl,rfl⟩)))
   rw [← HP.out];exact ⟨by simp [cmpR],zaaZ (zadZ _) (zaxY w _ _) (by simp;omega)⟩
 ·subst hk
  go_enter func156,ntmps156
  go_upto_region 1 with fail
  go_region
  all_goals
   go_wp2_with (first
    | (go_at_call 189;((with_reducible refine (Tryz.strings_Compare _ _ _).mono ?_);rintro e w3 ⟨rfl,rfl⟩)))
   rw [← HP.out];exact ⟨by simp [cmpR],zaaZ (zadZ _) (zaxY w _ _) (by simp;omega)⟩
def cmpB (op:List UInt8) (c:Int):Bool:=if op=[60] then decide (c<0) else if op=[60,61] then decide (c≤0) else if op=[62] then decide (c > 0) else decide (c ≥ 0)
theorem cmpB_eq (op:List UInt8) (x y:CellD) (hk:x.kind=3∨x.kind=4):cmpB op (cmpR x y)=if x.kind=3 then ordB op (decide (x.int<y.int)) (decide (y.int<x.int)) else ordB op (sltB x.str y.str) (sltB y.str x.str):=by
 have key:∀ (c:Int) (lt gt:Bool),decide (c<0)=lt→decide (c > 0)=gt→cmpB op c=ordB op lt gt:=by
  intro c lt gt h1 h2;subst h1 h2;unfold cmpB ordB
  have e1:decide (c≤0)=!decide (c > 0):=by
   by_cases h:c≤0
   ·simp [h];try omega
   ·simp [h];try omega
  have e2:decide (c ≥ 0)=!decide (c<0):=by
   by_cases h:c ≥ 0
   ·simp [h];try omega
   ·simp [h];try omega
  rw [e1,e2]
 rcases hk with hk | hk
 ·rw [if_pos hk]
  refine key _ _ _ ?_ ?_
  all_goals
   unfold cmpR ordI;rw [if_neg (by omega)];by_cases h:x.int<y.int
   ·simp [h];try omega
   ·by_cases h':y.int<x.int
    ·simp [h,h']
    ·simp [h,h']
 ·rw [if_neg (by omega)]
  obtain ⟨h1,h2⟩:=compare_lt x.str.data.toList y.str.data.toList;refine key _ _ _ ?_ ?_
  all_goals
   unfold cmpR sltB;rw [if_pos hk,Lib.toList_data,Lib.toList_data];assumption
set_option maxHeartbeats 4000000 in
theorem ordered_any (op:ByteArray) (c:Int) (w:World) (ho:op.toList∈cmpL):Calls prog 121 #[.string op,.int .i64 c] w fun e w'=>e=.returned (.bool (cmpB op.toList c))∧w'=w:=by
 simp only [cmpL,List.mem_cons,List.not_mem_nil,or_false] at ho;rcases ho with h | h | h | h
 ·have m1:=zbdY h
  rw [h];clear h;go_enter func121,ntmps121
  go_wp2
  go_returns;exact ⟨by simp [cmpB],rfl⟩
 ·have m1:(op.toList == [60])=false:=za3Y (by rw [h];decide)
  have m2:=zbdY h;rw [h];clear h;go_enter func121,ntmps121
  go_wp2
  go_returns;exact ⟨by simp [cmpB],rfl⟩
 ·have m1:(op.toList == [60])=false:=za3Y (by rw [h];decide)
  have m2:(op.toList == [60,61])=false:=za3Y (by rw [h];decide);have m3:=zbdY h;rw [h];clear h;go_enter func121,ntmps121
  go_wp2
  go_returns;exact ⟨by simp [cmpB],rfl⟩
 ·have m1:(op.toList == [60])=false:=za3Y (by rw [h];decide)
  have m2:(op.toList == [60,61])=false:=za3Y (by rw [h];decide);have m3:(op.toList == [62])=false:=za3Y (by rw [h];decide);rw [h];clear h;go_enter func121,ntmps121
  go_wp2
  go_returns;exact ⟨by simp [cmpB],rfl⟩
end Go.Proofs.YthiimbhjpdphpaaGreatDoor
