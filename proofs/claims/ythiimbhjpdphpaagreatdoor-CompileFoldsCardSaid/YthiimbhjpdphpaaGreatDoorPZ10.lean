/- Z7, Z8, Z9, Z10 -/
import Derived.Test.YthiimbhjpdphpaaGreatDoorPZ6
import Derived.Test.YthiimbhjpdphpaaGreatDoorPFD3
import Derived.Test.YthiimbhjpdphpaaGreatDoorPZ5
set_option linter.unusedVariables false
set_option linter.unusedSimpArgs false
namespace Go.Proofs.YthiimbhjpdphpaaGreatDoor
open Go.RowKit
set_option maxRecDepth 100000
open Go.Proofs.Tryz
theorem bltT:∀ a b:List UInt8,(if Op.bytesLess a b then 1 else 0)+(if Op.bytesLess b a then 1 else 0)+(if a=b then 1 else 0)=(1:Nat)
 | [],[]=>rfl
 | [],_ :: _=>rfl
 | _ :: _,[]=>rfl
 | x :: a,y :: b=>by
  have ih:=bltT a b;unfold Op.bytesLess;rcases Nat.lt_trichotomy x.toNat y.toNat with h | h | h
  ·have h1:x<y:=h
   have h2:¬ y<x:=fun e=>by have:y.toNat<x.toNat:=e;omega
   have h3:¬ x=y:=fun e=>by subst e;omega
   have h4:¬ y=x:=fun e=>h3 e.symm
   simp [h1,h2,h3,h4]
  ·have h3:x=y:=UInt8.toNat_inj.1 h
   subst h3;have h1:¬ x<x:=fun e=>by have:x.toNat<x.toNat:=e;omega
   simpa [h1] using ih
  ·have h1:y<x:=h
   have h2:¬ x<y:=fun e=>by have:x.toNat<y.toNat:=e;omega
   have h3:¬ x=y:=fun e=>by subst e;omega
   have h4:¬ y=x:=fun e=>h3 e.symm
   simp [h1,h2,h3,h4]
theorem valueF_un {n:NodeD} {x:CellD} (hk:n.kind=8) (ht:n.text.toList=[45]∨n.text.toList=[110,111,116]) (hx:ConC x):valueF n [x]=unF n.text.toList x:=by
 have hc:=hx.check;unfold valueF;rw [if_pos hk];show firstC (unaryR n.text [x])=_
 have h1:unaryR n.text [x]=if n.text.toList=[110,111,116]∧x.kind=2 then ([bCel (decide (x.int=0))],0) else if n.text.toList=[45]∧x.kind=3 then ([iCel (-x.int)],0) else ([],7):=by
  unfold unaryR;rw [if_neg (show ¬ ¬ (n.text.toList=[45]∨n.text.toList=[110,111,116]) from fun h=>h ht),if_neg (show ¬ checkF [x]≠0 by simpa using hc)]
 rw [h1];unfold unF;by_cases h1:n.text.toList=[110,111,116]∧x.kind=2
 ·rw [if_pos h1,if_pos h1];rfl
 ·rw [if_neg h1,if_neg h1]
  by_cases h2:n.text.toList=[45]∧x.kind=3
  ·rw [if_pos h2,if_pos h2];rfl
  ·rw [if_neg h2,if_neg h2];rfl
theorem first_bCel (b:Bool):firstC ([bCel b],0)=some (bCel b):=rfl
theorem empty_less:Op.bytesLess (ByteArray.mk #[]).toList (ByteArray.mk #[]).toList=false:=by decide +kernel
theorem orF_eq {op:List UInt8} {x y:CellD} (hx:ConC x) (hy:ConC y) (hk:x.kind=y.kind) (hop:op∈cmpL) (h34:x.kind=3∨x.kind=4):orF op (coF x y)=some (bCel (if x.kind=3 then ordB op (decide (x.int<y.int)) (decide (y.int<x.int)) else ordB op (sltB x.str y.str) (sltB y.str x.str))):=by
 have key:∀ (c:Int) (lt gt:Bool),decide (c<0)=lt→decide (0<c)=gt→orF op c=some (bCel (ordB op lt gt)):=by
  intro c lt gt h1 h2;subst h1 h2;have e1:decide (c≤0)=!decide (0<c):=by by_cases h:c≤0 <;> simp [h] <;> omega
  have e2:decide (c ≥ 0)=!decide (c<0):=by by_cases h:0≤c <;> simp [h] <;> omega
  have e3:decide (c > 0)=decide (0<c):=rfl;unfold orF ordB;simp only [cmpL,List.mem_cons,List.not_mem_nil,or_false] at hop;rcases hop with rfl | rfl | rfl | rfl
  ·simp
  ·simp [e1]
  ·simp [e3]
  ·simp [e2]
 cases hx with
 | nul=>rcases h34 with h | h <;> cases h
 | bool n h=>rcases h34 with h | h <;> cases h
 | int a _ =>
  cases hy with
  | nul=>cases hk
  | bool n h=>cases hk
  | str s h=>cases hk
  | int b _ =>
   show orF op (coF (iCel a) (iCel b))=some (bCel (ordB op (decide (a<b)) (decide (b<a))));apply key
   ·unfold coF iCel
    simp only [empty_less];by_cases h:a<b
    ·simp [h]
    ·by_cases h2:b<a
     ·simp [h,h2]
     ·simp [h,h2]
   ·unfold coF iCel
    simp only [empty_less];by_cases h:a<b
    ·simp [h];omega
    ·by_cases h2:b<a
     ·simp [h,h2]
     ·simp [h,h2]
 | str s _ =>
  cases hy with
  | nul=>cases hk
  | bool n h=>cases hk
  | int a h=>cases hk
  | str t _ =>
   show orF op (coF (sCel s) (sCel t))=some (bCel (ordB op (sltB s t) (sltB t s)));have h3:=bltT s.toList t.toList;apply key
   ·unfold coF sCel sltB
    dsimp only;by_cases h:Op.bytesLess s.toList t.toList=true
    ·rw [if_pos (.inr h),h];rfl
    ·rw [if_neg (by rintro (h9 | h9);exact absurd h9 (by omega);exact h h9)]
     rw [Bool.not_eq_true] at h;rw [h];split <;> rfl
   ·unfold coF sCel sltB
    dsimp only;by_cases h:Op.bytesLess s.toList t.toList=true
    ·rw [if_pos (.inr h)]
     have:Op.bytesLess t.toList s.toList=false:=by
      by_cases e:s.toList=t.toList
      ·rw [if_pos e] at h3;simp_all
      ·rw [if_neg e] at h3;simp_all
     rw [this];rfl
    ·rw [if_neg (by rintro (h9 | h9);exact absurd h9 (by omega);exact h h9)]
     rw [Bool.not_eq_true] at h;by_cases e:s.toList=t.toList
     ·rw [if_pos e] at h3
      have h4:Op.bytesLess t.toList s.toList=false:=by simp_all
      rw [if_neg (by rintro (h9 | h9);exact absurd h9 (by omega);simp [e] at h9),h4];rfl
     ·rw [if_neg e] at h3
      have h4:Op.bytesLess t.toList s.toList=true:=by simp_all
      rw [if_pos (.inr (by rw [h];simp [e])),h4];rfl
theorem num_eq {op:List UInt8} {a b:Int} (hop:op∈([[43],[45],[42],[47],[37]]:List (List UInt8))):firstC (arithR op a b)=nuF op a b:=by
 have hn:∀ n,firstC (numR n)=if (numI n).2=0 then some (iCel (numI n).1) else none:=by
  intro n;unfold numR numI firstC;by_cases h:inRange n=true
  ·rw [if_pos h,if_pos h];rfl
  ·rw [if_neg h,if_neg h];rfl
 simp only [List.mem_cons,List.not_mem_nil,or_false] at hop;unfold arithR nuF nuP;rcases hop with rfl | rfl | rfl | rfl | rfl
 ·simp [hn]
 ·simp [hn]
 ·simp [hn]
 ·unfold dmI firstC
  by_cases h:b=0 <;> simp [h]
 ·unfold dmI firstC
  by_cases h:b=0 <;> simp [h]
theorem valueF_bi {n:NodeD} {x y:CellD} (hk:n.kind=9) (hl:0<lvlF n.text) (hx:ConC x) (hy:ConC y):valueF n [x,y]=biF n.text.toList x y:=by
 have hcx:=hx.check;have hcy:=hy.check;have hA:isAnd n=decide (n.text.toList=[97,110,100]):=rfl;have hO:isOr n=decide (n.text.toList=[111,114]):=rfl;unfold valueF;rw [if_neg (by omega),hA,hO];show (if _ then firstC (binaryR n.text [x] [y]) else if x.kind≠2 then none else if decide (x.int=1)=_ then some x else if y.kind=2 then some y else none)=_;unfold biF;obtain ⟨op,hop⟩:∃ t,n.text.toList=t:=⟨_,rfl⟩
 have hbx:x.kind=2→x.int=0∨x.int=1:=by
  intro h;cases hx with
  | nul=>cases h
  | bool n h2=>exact h2
  | int a _=>cases h
  | str s _=>cases h
 rw [hop];by_cases hao:op=[97,110,100]∨op=[111,114]
 ·rw [if_neg (show ¬ (decide (op=[97,110,100])=false∧decide (op=[111,114])=false) by rcases hao with h | h <;> simp [h]),if_pos hao]
  by_cases h2:x.kind=2
  ·rw [if_neg (show ¬ x.kind≠2 by simpa using h2),if_neg (show ¬ x.kind≠2 by simpa using h2)]
   rcases hao with h | h <;> subst h <;> rcases hbx h2 with h0 | h0 <;> rw [h0] <;> simp
  ·rw [if_pos (show x.kind≠2 from h2),if_pos (show x.kind≠2 from h2)]
 rw [not_or] at hao;obtain ⟨ha,ho⟩:=hao;rw [if_pos (show decide (op=[97,110,100])=false∧decide (op=[111,114])=false by simp [ha,ho]),if_neg (show ¬ (op=[97,110,100]∨op=[111,114]) by simp [ha,ho])]
 have hbin:op∈binL:=by
  unfold lvlF at hl;rw [hop,if_neg ho,if_neg ha] at hl;by_cases c4:op∈([[61,61],[33,61],[60],[60,61],[62],[62,61]]:List (List UInt8))
  ·simp only [List.mem_cons,List.not_mem_nil,or_false] at c4
   rcases c4 with rfl | rfl | rfl | rfl | rfl | rfl <;> decide
  rw [if_neg c4] at hl;by_cases c5:op∈([[43],[45]]:List (List UInt8))
  ·simp only [List.mem_cons,List.not_mem_nil,or_false] at c5
   rcases c5 with rfl | rfl <;> decide
  rw [if_neg c5] at hl;by_cases c6:op∈([[42],[47],[37]]:List (List UInt8))
  ·simp only [List.mem_cons,List.not_mem_nil,or_false] at c6
   rcases c6 with rfl | rfl | rfl <;> decide
  rw [if_neg c6] at hl;omega
 unfold binaryR;rw [hop,if_neg (show ¬ op ∉ binL by simpa using hbin),if_neg (show ¬ checkF [x]≠0 by simpa using hcx),if_neg (show ¬ checkF [y]≠0 by simpa using hcy)];by_cases he:op=[61,61]
 ·rw [if_pos he,if_pos he,first_bCel]
  congr 2
  exact decide_eq_decide.2 (by simp)
 rw [if_neg he,if_neg he];by_cases hd:op=[33,61]
 ·rw [if_pos hd,if_pos hd,first_bCel]
  congr 3
  exact decide_eq_decide.2 (by simp)
 rw [if_neg hd,if_neg hd];dsimp only;by_cases hkk:x.kind=y.kind
 case neg =>
  rw [if_pos (show x.kind≠y.kind from hkk),if_pos (show x.kind≠y.kind∨x.kind≠3∧x.kind≠4 from .inl hkk)];rfl
 rw [if_neg (show ¬ x.kind≠y.kind by simpa using hkk)];by_cases hc:op∈cmpL
 ·rw [if_pos hc]
  by_cases h3:x.kind=3
  ·rw [if_pos h3,if_neg (show ¬ (x.kind≠y.kind∨x.kind≠3∧x.kind≠4) by rintro (h | ⟨h,_⟩);exact h hkk;exact h h3),orF_eq hx hy hkk hc (.inl h3),if_pos h3]
   rfl
  ·rw [if_neg h3]
   by_cases h4:x.kind=4
   ·rw [if_pos h4,if_neg (show ¬ (x.kind≠y.kind∨x.kind≠3∧x.kind≠4) by rintro (h | ⟨_,h⟩);exact h hkk;exact h h4),orF_eq hx hy hkk hc (.inr h4),if_neg h3]
    rfl
   ·rw [if_neg h4,if_pos (show x.kind≠y.kind∨x.kind≠3∧x.kind≠4 from .inr ⟨h3,h4⟩)]
    rfl
 ·rw [if_neg hc]
  have hon:orF op (coF x y)=none:=by
   simp only [cmpL,List.mem_cons,List.not_mem_nil,or_false,not_or] at hc;unfold orF;rw [if_neg hc.1,if_neg hc.2.1,if_neg hc.2.2.1,if_neg hc.2.2.2]
  have hnum:op∈([[43],[45],[42],[47],[37]]:List (List UInt8)):=by
   simp only [cmpL,List.mem_cons,List.not_mem_nil,or_false,not_or] at hc;simp only [binL,List.mem_cons,List.not_mem_nil,or_false] at hbin;simp only [List.mem_cons,List.not_mem_nil,or_false];rcases hbin with h | h | h | h | h | h | h | h | h | h | h
   ·exact .inl h
   ·exact .inr (.inl h)
   ·exact .inr (.inr (.inl h))
   ·exact .inr (.inr (.inr (.inl h)))
   ·exact .inr (.inr (.inr (.inr h)))
   ·exact absurd h he
   ·exact absurd h hd
   ·exact absurd h hc.1
   ·exact absurd h hc.2.1
   ·exact absurd h hc.2.2.1
   ·exact absurd h hc.2.2.2
  rw [hon];dsimp only;by_cases h3:x.kind=3
  ·rw [if_pos h3,if_neg (show ¬ (x.kind≠y.kind∨x.kind≠3∧x.kind≠4) by rintro (h | ⟨h,_⟩);exact h hkk;exact h h3),if_pos h3]
   exact num_eq hnum
  rw [if_neg h3];by_cases h4:x.kind=4
  ·rw [if_neg (show ¬ (x.kind≠y.kind∨x.kind≠3∧x.kind≠4) by rintro (h | ⟨_,h⟩);exact h hkk;exact h h4),if_neg h3]
   by_cases hp:op=[43]
   ·rw [if_pos ⟨hp,h4⟩]
    cases hx with
    | nul=>cases h4
    | bool n h=>cases h4
    | int a h=>cases h4
    | str s hs =>
     cases hy with
     | nul=>cases hkk
     | bool n h=>cases hkk
     | int a h=>cases hkk
     | str u hu =>
      have h1:=(zblY s).1 hs;have h2:=(zblY u).1 hu;have h5:=txt_app h1.1 h2.1;show firstC (limR [sCel (s ++ u)])=if op=[43]∧s.size+u.size≤200 then some (sCel (s ++ u)) else none
      by_cases h6:s.size+u.size≤200
      ·have h7:limR [sCel (s ++ u)]=([sCel (s ++ u)],0):=by
        unfold limR;rw [if_pos (check_str h5 (by rw [ByteArray.size_append];exact h6))]
       rw [h7,if_pos (show op=[43]∧s.size+u.size≤200 from ⟨hp,h6⟩)];rfl
      ·have h7:limR [sCel (s ++ u)]=([],3):=by
        unfold limR;rw [if_neg (fun h=>h6 (by have:=((zblY (s ++ u)).1 h).2;rwa [ByteArray.size_append] at this))]
       rw [h7,if_neg (show ¬ (op=[43]∧s.size+u.size≤200) from fun h=>h6 h.2)];rfl
   ·have h5:x.kind≠5:=by omega
    rw [if_neg (show ¬ (op=[43]∧x.kind=4) from fun h=>hp h.1),if_neg (show ¬ (op=[43]∧x.kind=5) from fun h=>hp h.1),if_neg (show ¬ (op=[43]∧x.str.size+y.str.size≤200) from fun h=>hp h.1)];rfl
  ·rw [if_neg (show ¬ (op=[43]∧x.kind=4) from fun h=>h4 h.2),if_pos (show x.kind≠y.kind∨x.kind≠3∧x.kind≠4 from .inr ⟨h3,h4⟩)]
   have h5:x.kind≠5:=by
    cases hx with
    | nul=>decide
    | bool n h=>show (2:Int)≠5;decide
    | int a h=>show (3:Int)≠5;decide
    | str s h=>show (4:Int)≠5;decide
   rw [if_neg (show ¬ (op=[43]∧x.kind=5) from fun h=>h5 h.2)];rfl
section
theorem write12_s (w0 w:World) (S:ProgS) (gF:Nat) (nv:Value) (L:List NodeX) (c:CellD) (h:FtSt w0 w S gF nv L) (hl:L.length≤100000) (hc:ConC c):Calls prog 56 #[.pointer (some ⟨gF,0,none⟩),cV c] w (WriteP w0 w S gF nv L (constantsF c L.length)):=by
 have hb:=hc.int_bd;cases hc with
 | nul=>exact write1_s w0 w S gF nv L 0 ⟨#[]⟩ 0 h hl
 | bool n _=>exact write2_s w0 w S gF nv L n ⟨#[]⟩ 0 h hl
 | str s _=>exact write4_s w0 w S gF nv L 0 s 0 h hl
 | int n _ =>
  by_cases h0:n<0
  ·have:=writeN_s w0 w S gF nv L n ⟨#[]⟩ 0 h hl h0 hb.1
   have e:constantsF (iCel n) L.length=[leafN 3 ⟨#[]⟩ (-n),⟨8,minS,0,[],[(L.length:Int)]⟩]:=by
    unfold constantsF iCel;simp [h0]
   rw [e];exact this
  ·have:=write3_s w0 w S gF nv L n ⟨#[]⟩ 0 h hl (by omega)
   have e:constantsF (iCel n) L.length=[leafN 3 ⟨#[]⟩ n]:=by
    unfold constantsF iCel;simp [h0]
   rw [e];exact this
def KidC (w:World) (nv:Value) (j:Nat) (O:Option CellD):Prop:=(∀ wx,Below w.heap.size w wx→Calls prog 79 #[nv,.int .i64 j] wx (OptC O wx))∧∀ x,O=some x→ConC x
attribute [local go_sem] zacZ
set_option maxHeartbeats 16000000 in
theorem rval8_s (w0 w:World) (S:ProgS) (gF:Nat) (nv:Value) (L:List NodeX) (h:FtSt w0 w S gF nv L) (nt:ByteArray) (ni:Int) (kA iA:Option Addr) (nq kc ic:Nat) (ks:List Int) (hks:ks.length=1) (hi:SlAt w iA 1 intS ks) (hl:L.length≤100000)
  (j0:Nat) (hj0:ks.getD 0 0=j0) (O1:Option CellD) (hk1:KidC w nv j0 O1) :
  Calls prog 55 #[.pointer (some ⟨gF,0,none⟩),.agg #[.int .i64 8,.string nt,.int .i64 ni,.slice kA nq kc,.slice iA 1 ic]] w (OptC (O1.bind fun x=>unF nt.toList x) w):=by
 obtain ⟨O,hO⟩:∃ o,(O1.bind fun x=>unF nt.toList x)=o:=⟨_,rfl⟩
 rw [hO];obtain ⟨P,hP⟩:∃ P:Ending→World→Prop,OptC O w=P:=⟨_,rfl⟩
 rw [hP];have HP:Hid (∀ c b w',b=O.isSome→(∀ x,O=some x→c=x)→Below w.heap.size w w'→P (.returned (.tuple #[cV c,.bool b])) w'):=hZz (fun c b w' h0 h1 h2=>by rw [← hP,h0];exact ⟨c,rfl,h1,h2⟩);unfold cV at HP;have HO:=hZz hO.symm;obtain ⟨A,cap,rfl⟩:=zahZ h.row;obtain ⟨ln,hln⟩:∃ t,L.length=t:=⟨_,rfl⟩
 rw [hln] at h hl;obtain ⟨gn,hgn⟩:∃ g,w.heap.size=g:=⟨_,rfl⟩
 obtain ⟨W1,hW1⟩:∃ W,w.alloc (.cells #[.int .i64 8,.string nt,.int .i64 ni,.slice kA nq kc,.slice iA 1 ic] 58)=W:=⟨_,rfl⟩
 have hb1:Below w.heap.size w W1:=by rw [← hW1];exact zabZ _ _
 obtain ⟨gr,hgr⟩:∃ g,W1.heap.size=g:=⟨_,rfl⟩
 obtain ⟨W2,hW2⟩:∃ W,W1.alloc (.cells #[.int .i64 0,.int .i64 0,.string ⟨#[]⟩,.int .i64 0] 103)=W:=⟨_,rfl⟩
 have hb2:Below W1.heap.size W1 W2:=by rw [← hW2];exact zabZ _ _
 have HZ:Hid (Blk W2 gr 103 #[.int .i64 0,.int .i64 0,.string ⟨#[]⟩,.int .i64 0]):=hZz (by rw [← hW2,← hgr];exact Blk.new _ _ _)
 have HX:Hid (Blk W2 gn 58 #[.int .i64 8,.string nt,.int .i64 ni,.slice kA nq kc,.slice iA 1 ic]):=hZz (by
  have:Blk W1 gn 58 #[.int .i64 8,.string nt,.int .i64 ni,.slice kA nq kc,.slice iA 1 ic]:=by rw [← hW1,← hgn];exact Blk.new _ _ _
  exact this.below hb2)
 have hbz:=zaaZ hb2 hb1 hb1.size;have HBZ:=hZz hbz;have HGL:Hid (w.heap.size≤gr):=hZz (by rw [← hgr];exact hb1.size);have HF:=hZz (h.fo.below hbz);have HGN:=hZz hgn;have HW1:=hZz hW1;have HW2:=hZz hW2;have HGR:Hid (gn+1=gr):=hZz (by rw [← hgr,← hW1,← hgn];simp);obtain ⟨bK,oK,rfl,hbK⟩:=hi.ptr (n:=0) (by omega);have ck:=hi.cell0 (n:=0) (by omega) (v:=.int .i64 (ks[0]'(by omega))) rfl;have ek:ks[0]'(by omega)=(j0:Int):=by rw [← hj0,List.getD_eq_getElem?_getD,List.getElem?_eq_getElem (by omega)];rfl
 rw [ek] at ck;simp only [Nat.zero_mul,Nat.add_zero] at ck;have HCK:Hid (∀ wx,Below w.heap.size w wx→wx.cell? ⟨bK,oK,none⟩=some (.int .i64 j0)):=hZz (fun wx hb=>(hb.cell hbK).trans ck);have HK1:=hZz hk1;rw [hln] at HK1;have H1I:Hid (∀ x,O1=some x→ConC x):=hZz hk1.2;clear hP hO h hks hi hj0 hk1 hln hgn hW1 hb1 hgr hW2 hb2 hbz hbK ck ek;go_enter func55,ntmps55
 go_upto_region 1 with fail
 rw [HGN.out,HW1.out];rw [HGR.out,HW2.out];clear HGN HW1 HGR HW2;have f2:=HF.out.cell 2 _ rfl;have fd:=(HF.out.below (zadZ W2)).cell 2 _ rfl;have x4:=HX.out.cell 4 _ rfl;have xd:=(HX.out.below (zadZ W2)).cell 4 _ rfl;have k4:=HCK.out _ HBZ.out;have kd:=HCK.out _ HBZ.out.drew;have hcA:Calls prog 79 #[.slice A ln cap,.int .i64 j0] (W2.alloc (.cells #[.int .i64 0,.int .i64 0,.string ⟨#[]⟩,.int .i64 0] 103)).drew (OptC O1 (W2.alloc (.cells #[.int .i64 0,.int .i64 0,.string ⟨#[]⟩,.int .i64 0] 103)).drew):=HK1.out.1 _ (HBZ.out.alloc HBZ.out.size _).drew;have hcB:Calls prog 79 #[.slice A ln cap,.int .i64 j0] W2.drew (OptC O1 W2.drew):=HK1.out.1 _ HBZ.out.drew;have HCA:=hZz hcA;have HCB:=hZz hcB;clear hcA hcB;go_cut [6,7] from 9 to 20 (fun u ok wx=>∃ g c,u=.pointer (some ⟨g,0,none⟩)∧ok=.bool O1.isSome∧Below W2.heap.size W2 wx∧Blk wx g 103 c.cells.toArray∧∀ x,O1=some x→c=x)
 case first =>
  go_region_law (go_simp;go_at_call 79;(first
   | ((with_reducible refine HCB.out.mono ?_);rintro e w4 ⟨c4,he4,hx4,hb4⟩;unfold cV at he4;subst he4;have HBB4:=hZz (zaaZ hb4 (zadZ W2) (zadZ W2).size);have HX4:=hZz hx4;clear hb4 hx4)
   | ((with_reducible refine HCA.out.mono ?_);rintro e w4 ⟨c4,he4,hx4,hb4⟩;unfold cV at he4;subst he4;have HBZ4:=hZz (zaaZ hb4 (zabZ W2 (.cells #[.int .i64 0,.int .i64 0,.string ⟨#[]⟩,.int .i64 0] 103)).drew ((zabZ W2 (.cells #[.int .i64 0,.int .i64 0,.string ⟨#[]⟩,.int .i64 0] 103)).drew).size);have HX4:=hZz hx4;have HZ4:=hZz (((Blk.new W2 103 #[.int .i64 0,.int .i64 0,.string ⟨#[]⟩,.int .i64 0]).below (zadZ _)).below hb4);obtain ⟨⟨z0,z1,z2,z3⟩,⟨y0,y1,y2,y3⟩,hf⟩:=set4 HZ4.out (.int .i64 c4.kind) (.int .i64 c4.int) (.string c4.str) (.int .i64 c4.n);have HF4:=hZz hf;have HBF4:=hZz (zajZ HBZ4.out HBZ4.out.size (Nat.le_refl _) (.int .i64 c4.kind) (.int .i64 c4.int) (.string c4.str) (.int .i64 c4.n));clear hb4 hx4 hf)))
  all_goals
   go_wp2_with (fail)
   go_meet
   first
    | exact ⟨_,c4,rfl,rfl,HBF4.out,HF4.out,HX4.out⟩
    | exact ⟨_,c4,rfl,rfl,HBB4.out.alloc HBB4.out.size _,Blk.new _ _ _,HX4.out⟩
 case rest =>
  obtain ⟨g1,c1,rfl,rfl,hbV,hcV,hxV⟩:=hcut
  rename World=>V1
  have HBV1:=hZz (zaaZ hbV HBZ.out HBZ.out.size);have HVV1:=hZz hbV;have HCC1:Hid (Blk V1 g1 103 #[.int .i64 c1.kind,.int .i64 c1.int,.string c1.str,.int .i64 c1.n]):=hZz hcV;have HXX1:=hZz hxV;clear hbV hcV hxV HCA HCB;clear f2 fd x4 xd k4 kd;have HZV:=hZz (HZ.out.below HVV1.out);have HXV:=hZz (HX.out.below HVV1.out);have xv:=zalZ HXV.out;have xc:=blk4z HCC1.out;cases O1 with
  | none =>
   have HNO:Hid (O=none):=hZz (by rw [HO.out];rfl);obtain ⟨⟨z0,z1,z2,z3⟩,⟨y0,y1,y2,y3⟩,hf⟩:=set4 HZV.out (.int .i64 0) (.int .i64 0) (.string ⟨#[]⟩) (.int .i64 0);have HF:=hZz hf;have HBF:=hZz (zajZ HBV1.out HBV1.out.size HGL.out (.int .i64 0) (.int .i64 0) (.string ⟨#[]⟩) (.int .i64 0));clear hf;go_wp2_with (fail)
   obtain ⟨q0,q1,q2,q3⟩:=blk4z HF.out;clear z0 z1 z2 z3 y0 y1 y2 y3;refine bodyPost_ret (by simp [results,Tryz.results55,go_sem,q0,q1,q2,q3];rfl) rfl ?_
   exact HP.out noCell _ _ (by rw [HNO.out];rfl) (fun x hx=>by rw [HNO.out] at hx;cases hx) HBF.out
  | some x =>
   have hx1:=HXX1.out x rfl;subst hx1;have hcon:=H1I.out c1 rfl;have HOK:Hid (O=unF nt.toList c1):=hZz (by rw [HO.out];rfl);have HUN:=hZz (unary12_s nt c1 V1 hcon.int_bd);unfold cV at HUN;clear hcon
   go_wp2_with (first
    | (go_at_call 80;(refine HUN.out.mono ?_);rintro e w7 ⟨c7,he7,hx7,hb7⟩;unfold cV at he7;subst he7;have HB7:=hZz (zaaZ hb7 HBV1.out HBV1.out.size);have HZ7:=hZz (HZV.out.below hb7);have HX7:=hZz hx7;clear hb7 hx7;obtain ⟨⟨z0,z1,z2,z3⟩,⟨y0,y1,y2,y3⟩,hf⟩:=set4 HZ7.out (.int .i64 c7.kind) (.int .i64 c7.int) (.string c7.str) (.int .i64 c7.n);have HF:=hZz hf;have HBF:=hZz (zajZ HB7.out HB7.out.size HGL.out (.int .i64 c7.kind) (.int .i64 c7.int) (.string c7.str) (.int .i64 c7.n));clear hf))
   obtain ⟨q0,q1,q2,q3⟩:=blk4z HF.out;clear z0 z1 z2 z3 y0 y1 y2 y3;refine bodyPost_ret (by simp [results,Tryz.results55,go_sem,q0,q1,q2,q3];rfl) rfl ?_
   exact HP.out c7 _ _ (by rw [HOK.out]) (fun x hx=>HX7.out x (by rw [← HOK.out];exact hx)) HBF.out
set_option maxHeartbeats 16000000 in
theorem rval9_s (w0 w:World) (S:ProgS) (gF:Nat) (nv:Value) (L:List NodeX) (h:FtSt w0 w S gF nv L) (nt:ByteArray) (ni:Int) (kA iA:Option Addr) (nq kc ic:Nat) (ks:List Int) (hks:ks.length=2) (hi:SlAt w iA 1 intS ks) (hl:L.length≤100000)
  (j0 j1:Nat) (hj0:ks.getD 0 0=j0) (hj1:ks.getD 1 0=j1) (O1 O2:Option CellD) (hk1:KidC w nv j0 O1) (hk2:KidC w nv j1 O2) :
  Calls prog 55 #[.pointer (some ⟨gF,0,none⟩),.agg #[.int .i64 9,.string nt,.int .i64 ni,.slice kA nq kc,.slice iA 2 ic]] w (OptC (O1.bind fun x=>O2.bind fun y=>biF nt.toList x y) w):=by
 obtain ⟨O,hO⟩:∃ o,(O1.bind fun x=>O2.bind fun y=>biF nt.toList x y)=o:=⟨_,rfl⟩
 rw [hO];obtain ⟨P,hP⟩:∃ P:Ending→World→Prop,OptC O w=P:=⟨_,rfl⟩
 rw [hP];have HP:Hid (∀ c b w',b=O.isSome→(∀ x,O=some x→c=x)→Below w.heap.size w w'→P (.returned (.tuple #[cV c,.bool b])) w'):=hZz (fun c b w' h0 h1 h2=>by rw [← hP,h0];exact ⟨c,rfl,h1,h2⟩);unfold cV at HP;have HO:=hZz hO.symm;obtain ⟨A,cap,rfl⟩:=zahZ h.row;obtain ⟨ln,hln⟩:∃ t,L.length=t:=⟨_,rfl⟩
 rw [hln] at h hl;obtain ⟨gn,hgn⟩:∃ g,w.heap.size=g:=⟨_,rfl⟩
 obtain ⟨W1,hW1⟩:∃ W,w.alloc (.cells #[.int .i64 9,.string nt,.int .i64 ni,.slice kA nq kc,.slice iA 2 ic] 58)=W:=⟨_,rfl⟩
 have hb1:Below w.heap.size w W1:=by rw [← hW1];exact zabZ _ _
 obtain ⟨gr,hgr⟩:∃ g,W1.heap.size=g:=⟨_,rfl⟩
 obtain ⟨W2,hW2⟩:∃ W,W1.alloc (.cells #[.int .i64 0,.int .i64 0,.string ⟨#[]⟩,.int .i64 0] 103)=W:=⟨_,rfl⟩
 have hb2:Below W1.heap.size W1 W2:=by rw [← hW2];exact zabZ _ _
 have HZ:Hid (Blk W2 gr 103 #[.int .i64 0,.int .i64 0,.string ⟨#[]⟩,.int .i64 0]):=hZz (by rw [← hW2,← hgr];exact Blk.new _ _ _)
 have HX:Hid (Blk W2 gn 58 #[.int .i64 9,.string nt,.int .i64 ni,.slice kA nq kc,.slice iA 2 ic]):=hZz (by
  have:Blk W1 gn 58 #[.int .i64 9,.string nt,.int .i64 ni,.slice kA nq kc,.slice iA 2 ic]:=by rw [← hW1,← hgn];exact Blk.new _ _ _
  exact this.below hb2)
 have hbz:=zaaZ hb2 hb1 hb1.size;have HBZ:=hZz hbz;have HGL:Hid (w.heap.size≤gr):=hZz (by rw [← hgr];exact hb1.size);have HF:=hZz (h.fo.below hbz);have HGN:=hZz hgn;have HW1:=hZz hW1;have HW2:=hZz hW2;have HGR:Hid (gn+1=gr):=hZz (by rw [← hgr,← hW1,← hgn];simp);obtain ⟨bK,oK,rfl,hbK⟩:=hi.ptr (n:=0) (by omega);have ck:=hi.cell0 (n:=0) (by omega) (v:=.int .i64 (ks[0]'(by omega))) rfl;have cm:=hi.cell0 (n:=1) (by omega) (v:=.int .i64 (ks[1]'(by omega))) rfl;have ek:ks[0]'(by omega)=(j0:Int):=by rw [← hj0,List.getD_eq_getElem?_getD,List.getElem?_eq_getElem (by omega)];rfl
 have em:ks[1]'(by omega)=(j1:Int):=by rw [← hj1,List.getD_eq_getElem?_getD,List.getElem?_eq_getElem (by omega)];rfl
 rw [ek] at ck;rw [em] at cm;simp only [Nat.zero_mul,Nat.add_zero,Nat.one_mul] at ck cm;have HCK:Hid (∀ wx,Below w.heap.size w wx→wx.cell? ⟨bK,oK,none⟩=some (.int .i64 j0)∧wx.cell? ⟨bK,oK+1,none⟩=some (.int .i64 j1)):=hZz (fun wx hb=>⟨(hb.cell hbK).trans ck,(hb.cell hbK).trans cm⟩);have HK1:=hZz hk1;have HK2:=hZz hk2;rw [hln] at HK1 HK2;have H1I:Hid (∀ x,O1=some x→ConC x):=hZz hk1.2;have H2I:Hid (∀ x,O2=some x→ConC x):=hZz hk2.2;have HFO:=hZz h.fo;clear hP hO h hks hi hj0 hj1 hk1 hk2 hln hgn hW1 hb1 hgr hW2 hb2 hbz hbK ck ek cm em;go_enter func55,ntmps55
 go_upto_region 1 with fail
 rw [HGN.out,HW1.out];rw [HGR.out,HW2.out];clear HGN HW1 HGR HW2;have f2:=HF.out.cell 2 _ rfl;have fd:=(HF.out.below (zadZ W2)).cell 2 _ rfl;have x4:=HX.out.cell 4 _ rfl;have xd:=(HX.out.below (zadZ W2)).cell 4 _ rfl;obtain ⟨k4,_⟩:=HCK.out _ HBZ.out;obtain ⟨kd,_⟩:=HCK.out _ HBZ.out.drew;have hcA:Calls prog 79 #[.slice A ln cap,.int .i64 j0] (W2.alloc (.cells #[.int .i64 0,.int .i64 0,.string ⟨#[]⟩,.int .i64 0] 103)).drew (OptC O1 (W2.alloc (.cells #[.int .i64 0,.int .i64 0,.string ⟨#[]⟩,.int .i64 0] 103)).drew):=HK1.out.1 _ (HBZ.out.alloc HBZ.out.size _).drew;have hcB:Calls prog 79 #[.slice A ln cap,.int .i64 j0] W2.drew (OptC O1 W2.drew):=HK1.out.1 _ HBZ.out.drew;have HCA:=hZz hcA;have HCB:=hZz hcB;clear hcA hcB;go_cut [6,7] from 9 to 20 (fun u ok wx=>∃ g c,u=.pointer (some ⟨g,0,none⟩)∧ok=.bool O1.isSome∧Below W2.heap.size W2 wx∧Blk wx g 103 c.cells.toArray∧∀ x,O1=some x→c=x)
 case first =>
  go_region_law (go_simp;go_at_call 79;(first
   | ((with_reducible refine HCB.out.mono ?_);rintro e w4 ⟨c4,he4,hx4,hb4⟩;unfold cV at he4;subst he4;have HBB4:=hZz (zaaZ hb4 (zadZ W2) (zadZ W2).size);have HX4:=hZz hx4;clear hb4 hx4)
   | ((with_reducible refine HCA.out.mono ?_);rintro e w4 ⟨c4,he4,hx4,hb4⟩;unfold cV at he4;subst he4;have HBZ4:=hZz (zaaZ hb4 (zabZ W2 (.cells #[.int .i64 0,.int .i64 0,.string ⟨#[]⟩,.int .i64 0] 103)).drew ((zabZ W2 (.cells #[.int .i64 0,.int .i64 0,.string ⟨#[]⟩,.int .i64 0] 103)).drew).size);have HX4:=hZz hx4;have HZ4:=hZz (((Blk.new W2 103 #[.int .i64 0,.int .i64 0,.string ⟨#[]⟩,.int .i64 0]).below (zadZ _)).below hb4);obtain ⟨⟨z0,z1,z2,z3⟩,⟨y0,y1,y2,y3⟩,hf⟩:=set4 HZ4.out (.int .i64 c4.kind) (.int .i64 c4.int) (.string c4.str) (.int .i64 c4.n);have HF4:=hZz hf;have HBF4:=hZz (zajZ HBZ4.out HBZ4.out.size (Nat.le_refl _) (.int .i64 c4.kind) (.int .i64 c4.int) (.string c4.str) (.int .i64 c4.n));clear hb4 hx4 hf)))
  all_goals
   go_wp2_with (fail)
   go_meet
   first
    | exact ⟨_,c4,rfl,rfl,HBF4.out,HF4.out,HX4.out⟩
    | exact ⟨_,c4,rfl,rfl,HBB4.out.alloc HBB4.out.size _,Blk.new _ _ _,HX4.out⟩
 case rest =>
  obtain ⟨g1,c1,rfl,rfl,hbV,hcV,hxV⟩:=hcut
  rename World=>V1
  have HBV1:=hZz (zaaZ hbV HBZ.out HBZ.out.size);have HVV1:=hZz hbV;have HCC1:Hid (Blk V1 g1 103 #[.int .i64 c1.kind,.int .i64 c1.int,.string c1.str,.int .i64 c1.n]):=hZz hcV;have HXX1:=hZz hxV;clear hbV hcV hxV HCA HCB;clear f2 fd x4 xd k4 kd;have HZV:=hZz (HZ.out.below HVV1.out);have HXV:=hZz (HX.out.below HVV1.out);have HFV:=hZz (HFO.out.below HBV1.out);have xv:=zalZ HXV.out;cases O1 with
  | none =>
   have HNO:Hid (O=none):=hZz (by rw [HO.out];rfl);obtain ⟨⟨z0,z1,z2,z3⟩,⟨y0,y1,y2,y3⟩,hf⟩:=set4 HZV.out (.int .i64 0) (.int .i64 0) (.string ⟨#[]⟩) (.int .i64 0);have HF:=hZz hf;have HBF:=hZz (zajZ HBV1.out HBV1.out.size HGL.out (.int .i64 0) (.int .i64 0) (.string ⟨#[]⟩) (.int .i64 0));clear hf;go_wp2_with (fail)
   obtain ⟨q0,q1,q2,q3⟩:=blk4z HF.out;clear z0 z1 z2 z3 y0 y1 y2 y3;refine bodyPost_ret (by simp [results,Tryz.results55,go_sem,q0,q1,q2,q3];rfl) rfl ?_
   exact HP.out noCell _ _ (by rw [HNO.out];rfl) (fun x hx=>by rw [HNO.out] at hx;cases hx) HBF.out
  | some x =>
   have hx1:=HXX1.out x rfl;subst hx1;go_upto_region 6 with (fail)
   have f2:=HFV.out.cell 2 _ rfl;have fd:=(HFV.out.below (zadZ V1)).cell 2 _ rfl;have xd:=(HXV.out.below (zadZ V1)).cell 4 _ rfl;obtain ⟨_,k4⟩:=HCK.out _ HBV1.out;obtain ⟨_,kd⟩:=HCK.out _ HBV1.out.drew;have hcA:Calls prog 79 #[.slice A ln cap,.int .i64 j1] (V1.alloc (.cells #[.int .i64 0,.int .i64 0,.string ⟨#[]⟩,.int .i64 0] 103)).drew (OptC O2 (V1.alloc (.cells #[.int .i64 0,.int .i64 0,.string ⟨#[]⟩,.int .i64 0] 103)).drew):=HK2.out.1 _ (HBV1.out.alloc HBV1.out.size _).drew;have hcB:Calls prog 79 #[.slice A ln cap,.int .i64 j1] V1.drew (OptC O2 V1.drew):=HK2.out.1 _ HBV1.out.drew;have HCA:=hZz hcA;have HCB:=hZz hcB;clear hcA hcB;go_cut [8,7] from 33 to 44 (fun u ok wx=>∃ g c,u=.pointer (some ⟨g,0,none⟩)∧ok=.bool O2.isSome∧Below V1.heap.size V1 wx∧Blk wx g 103 c.cells.toArray∧∀ x,O2=some x→c=x)
   case first =>
    go_region_law (go_simp;go_at_call 79;(first
     | ((with_reducible refine HCB.out.mono ?_);rintro e w4 ⟨c4,he4,hx4,hb4⟩;unfold cV at he4;subst he4;have HBB4:=hZz (zaaZ hb4 (zadZ V1) (zadZ V1).size);have HX4:=hZz hx4;clear hb4 hx4)
     | ((with_reducible refine HCA.out.mono ?_);rintro e w4 ⟨c4,he4,hx4,hb4⟩;unfold cV at he4;subst he4;have HBZ4:=hZz (zaaZ hb4 (zabZ V1 (.cells #[.int .i64 0,.int .i64 0,.string ⟨#[]⟩,.int .i64 0] 103)).drew ((zabZ V1 (.cells #[.int .i64 0,.int .i64 0,.string ⟨#[]⟩,.int .i64 0] 103)).drew).size);have HX4:=hZz hx4;have HZ4:=hZz (((Blk.new V1 103 #[.int .i64 0,.int .i64 0,.string ⟨#[]⟩,.int .i64 0]).below (zadZ _)).below hb4);obtain ⟨⟨z0,z1,z2,z3⟩,⟨y0,y1,y2,y3⟩,hf⟩:=set4 HZ4.out (.int .i64 c4.kind) (.int .i64 c4.int) (.string c4.str) (.int .i64 c4.n);have HF4:=hZz hf;have HBF4:=hZz (zajZ HBZ4.out HBZ4.out.size (Nat.le_refl _) (.int .i64 c4.kind) (.int .i64 c4.int) (.string c4.str) (.int .i64 c4.n));clear hb4 hx4 hf)))
    all_goals
     go_wp2_with (fail)
     go_meet
     first
      | exact ⟨_,c4,rfl,rfl,HBF4.out,HF4.out,HX4.out⟩
      | exact ⟨_,c4,rfl,rfl,HBB4.out.alloc HBB4.out.size _,Blk.new _ _ _,HX4.out⟩
   case rest =>
    obtain ⟨g2,c2,rfl,rfl,hbV,hcV,hxV⟩:=hcut
    rename World=>V2
    have HBV2:=hZz (zaaZ hbV HBV1.out HBV1.out.size);have HVV2:=hZz hbV;have HCC2:Hid (Blk V2 g2 103 #[.int .i64 c2.kind,.int .i64 c2.int,.string c2.str,.int .i64 c2.n]):=hZz hcV;have HXX2:=hZz hxV;clear hbV hcV hxV HCA HCB;clear f2 fd xv xd k4 kd;have HZW:=hZz (HZV.out.below HVV2.out);have HXW:=hZz (HXV.out.below HVV2.out);have HCW:=hZz (HCC1.out.below HVV2.out);have xv:=zalZ HXW.out;have xc:=blk4z HCW.out;have xe:=blk4z HCC2.out;cases O2 with
    | none =>
     have HNO:Hid (O=none):=hZz (by rw [HO.out];rfl);obtain ⟨⟨z0,z1,z2,z3⟩,⟨y0,y1,y2,y3⟩,hf⟩:=set4 HZW.out (.int .i64 0) (.int .i64 0) (.string ⟨#[]⟩) (.int .i64 0);have HF:=hZz hf;have HBF:=hZz (zajZ HBV2.out HBV2.out.size HGL.out (.int .i64 0) (.int .i64 0) (.string ⟨#[]⟩) (.int .i64 0));clear hf;go_wp2_with (fail)
     obtain ⟨q0,q1,q2,q3⟩:=blk4z HF.out;clear z0 z1 z2 z3 y0 y1 y2 y3;refine bodyPost_ret (by simp [results,Tryz.results55,go_sem,q0,q1,q2,q3];rfl) rfl ?_
     exact HP.out noCell _ _ (by rw [HNO.out];rfl) (fun x hx=>by rw [HNO.out] at hx;cases hx) HBF.out
    | some y =>
     have hy1:=HXX2.out y rfl;subst hy1;have hcon:=H1I.out c1 rfl;have hcon2:=H2I.out c2 rfl;have HOK:Hid (O=biF nt.toList c1 c2):=hZz (by rw [HO.out];rfl);have HUN:=hZz (binary12_s nt c1 c2 V2 hcon.int_bd hcon2.int_bd (by have:=hcon.strLe;have:=hcon2.strLe;omega));unfold cV at HUN;clear hcon hcon2
     go_wp2_with (first
      | (go_at_call 81;(refine HUN.out.mono ?_);rintro e w7 ⟨c7,he7,hx7,hb7⟩;unfold cV at he7;subst he7;have HB7:=hZz (zaaZ hb7 HBV2.out HBV2.out.size);have HZ7:=hZz (HZW.out.below hb7);have HX7:=hZz hx7;clear hb7 hx7;obtain ⟨⟨z0,z1,z2,z3⟩,⟨y0,y1,y2,y3⟩,hf⟩:=set4 HZ7.out (.int .i64 c7.kind) (.int .i64 c7.int) (.string c7.str) (.int .i64 c7.n);have HF:=hZz hf;have HBF:=hZz (zajZ HB7.out HB7.out.size HGL.out (.int .i64 c7.kind) (.int .i64 c7.int) (.string c7.str) (.int .i64 c7.n));clear hf))
     obtain ⟨q0,q1,q2,q3⟩:=blk4z HF.out;clear z0 z1 z2 z3 y0 y1 y2 y3;refine bodyPost_ret (by simp [results,Tryz.results55,go_sem,q0,q1,q2,q3];rfl) rfl ?_
     exact HP.out c7 _ _ (by rw [HOK.out]) (fun x hx=>HX7.out x (by rw [← HOK.out];exact hx)) HBF.out
end
section
theorem FtSt.grown {w0 w w':World} {S:ProgS} {gF:Nat} {nv:Value} {L:List NodeX} {row:Option Nat} (h:FtSt w0 w S gF nv L) (hg:w.grownBy w' row) (h1:some gF≠row) (h2:∀ g,nv.ownBlock=some g→some g≠row) (h4:∀ p∈L,∀ g,p.2.2.ownBlock=some g→some g≠row) (h0:∀ g,row=some g→w0.heap.size≤g):FtSt w0 w' S gF nv L :=
 ⟨h.fo.grown hg h1,zagY h.row hg h2,h.keys,fun p hp=>zagY (h.kids p hp) hg (h4 p hp),zaiY h.bl hg h.bl.size h0,h.bF⟩
def FtFoldP (w0 w:World) (S:ProgS) (gF:Nat) (nv:Value) (L:List NodeX) (M:List NodeD) (r:Ending) (w':World):Prop:=∃ nv' N,r=.returned (.int .i64 (((L ++ N).length:Int) - 1))∧(L ++ N).map Prod.fst=M∧FtSt w0 w' S gF nv' (L ++ N)∧KF gF nv.ownBlock nv'.ownBlock w w'∧∀ p∈N,∀ g,p.2.2.ownBlock=some g→w.heap.size≤g
def FtNode (w0:World) (S:ProgS) (gF f i s:Nat):Prop:=∀ (w:World) (nv:Value) (L:List NodeX),FtSt w0 w S gF nv L→L.length+(i+1 - s)≤5000→Calls prog 36 #[.pointer (some ⟨gF,0,none⟩),.int .i64 i] w (FtFoldP w0 w S gF nv L (foldF S.p f i (L.map Prod.fst)))
structure Ftc (w0 w wr:World) (S:ProgS) (gF gN:Nat) (nv nvk:Value) (L N:List NodeX) (nb:Array Value) (ks:List Int) (kv:Value):Prop where
 st:FtSt w0 wr S gF nvk (L ++ N)
 kf:KF gF nv.ownBlock nvk.ownBlock w wr
 parts:∀ p∈N,∀ g,p.2.2.ownBlock=some g→w.heap.size≤g
 bn:Blk wr gN 58 nb
 kids:wr.ownsRow w.heap.size 3 1 kv ks.length (ks.map (Value.int .i64))
 apart:∀ p∈N,∀ g,p.2.2.ownBlock=some g→kv.ownBlock≠some g
 geN:w.heap.size≤gN
 nN:nvk.ownBlock≠some gN
 old:∀ p∈L,∀ g,p.2.2.ownBlock=some g→g<w.heap.size
 ltF:gF<w.heap.size
section
variable {w0 w wr wx:World} {S:ProgS} {gF gN:Nat} {nv nvk:Value} {L N:List NodeX} {nb:Array Value} {ks:List Int} {kv:Value}
theorem Ftc.below (h:Ftc w0 w wr S gF gN nv nvk L N nb ks kv) (hb:Below wr.heap.size wr wx):Ftc w0 w wx S gF gN nv nvk L N nb ks kv :=
 ⟨h.st.below hb,h.kf.trans (KF.of_below hb _ _),h.parts,h.bn.below hb,zagZ h.kids hb,h.apart,h.geN,h.nN,h.old,h.ltF⟩
theorem Ftc.rec_ {nv3:Value} {N2:List NodeX} (h:Ftc w0 w wr S gF gN nv nvk L N nb ks kv) (hst:FtSt w0 wx S gF nv3 (L ++ (N ++ N2))) (hk:KF gF nvk.ownBlock nv3.ownBlock wr wx) (hp:∀ p∈N2,∀ g,p.2.2.ownBlock=some g→wr.heap.size≤g):Ftc w0 w wx S gF gN nv nv3 L (N ++ N2) nb ks kv:=by
 have hw:=h.kf.size;have lN:=h.bn.lt
 have hnew:nv3.ownBlock≠some gN:=fun e=>by
  rcases hk.own with e2 | ⟨g',e2,e3⟩
  ·exact h.nN (e2.symm.trans e)
  ·rw [e2] at e
   injection e with e
   omega
 refine ⟨hst,h.kf.trans hk,fun p hp' g hg=>?_,hk.blk h.bn (by have:=h.ltF;have:=h.geN;omega) (fun e=>h.nN e.symm),hk.row h.kids (fun g hg=>⟨zanY h.kids h.st.fo (by decide) g hg,zafY h.kids h.st.row (by decide) g hg⟩),fun p hp' g hg=>?_,h.geN,hnew,h.old,h.ltF⟩
 ·rcases List.mem_append.1 hp' with hp' | hp'
  ·exact h.parts p hp' g hg
  ·exact Nat.le_trans hw (hp p hp' g hg)
 ·rcases List.mem_append.1 hp' with hp' | hp'
  ·exact h.apart p hp' g hg
  ·intro e
   have h1:=hp p hp' g hg;have h2:=(h.kids.lt g e).2;omega
theorem Ftc.kid {g2 c2:Nat} {k:Int} (h:Ftc w0 w wr S gF gN nv nvk L N nb ks kv) (hown:wx.ownsRow w.heap.size 3 1 (.slice (some ⟨g2,0,none⟩) (ks.length+1) c2) (ks.length+1) (ks.map (Value.int .i64) ++ [.int .i64 k])) (hg:wr.grownBy wx kv.ownBlock) (hat:kv.ownBlock=some g2∨wr.heap.size≤g2):Ftc w0 w wx S gF gN nv nvk L N nb (ks ++ [k]) (.slice (some ⟨g2,0,none⟩) (ks.length+1) c2):=by
 have hrow:∀ g,kv.ownBlock=some g→w.heap.size≤g:=fun g hg=>(h.kids.lt g hg).1
 have hap:∀ p∈L ++ N,∀ g,p.2.2.ownBlock=some g→some g≠kv.ownBlock:=fun p hp g hg e=>by
  rcases List.mem_append.1 hp with hp | hp
  ·have h1:=h.old p hp g hg
   have h2:=hrow g e.symm;omega
  ·exact h.apart p hp g hg e.symm
 have hsz:=h.st.bl.size;have hst:=h.st.grown hg (fun e=>zanY h.kids h.st.fo (by decide) gF e.symm rfl) (fun g hg e=>zafY h.st.row h.kids (by decide) g hg e) hap (fun g e=>by have:=hrow g e;have:=h.kf.size;have h9:=h.ltF;have:=h.st.bF;omega);refine ⟨hst,h.kf.new hg hrow,h.parts,h.bn.grown hg (fun e=>zanY h.kids h.bn (by decide) gN e.symm rfl),?_,fun p hp g hg2 e=>?_,h.geN,h.nN,h.old,h.ltF⟩
 ·rw [List.length_append,List.map_append]
  exact hown
 ·have e2:g2=g:=by injection e
  subst e2;rcases hat with h1 | h1
  ·exact h.apart p hp g2 hg2 h1
  ·have:=((h.st.kids p (List.mem_append_right _ hp)).lt g2 hg2).2
   omega
end
theorem FtSt.cut {w0 w:World} {S:ProgS} {gF n cap:Nat} {A:Option Addr} {L N:List NodeX} (h:FtSt w0 w S gF (.slice A n cap) (L ++ N)) (hn:n=(L ++ N).length):FtSt w0 (w.setCell ⟨gF,2,none⟩ (.slice A L.length cap)) S gF (.slice A L.length cap) L∧KF gF (Value.slice A n cap).ownBlock (Value.slice A L.length cap).ownBlock w (w.setCell ⟨gF,2,none⟩ (.slice A L.length cap)):=by
 have hset:∀ (v:Value) (m:Nat) (xs:List Value) (e:TypeId) (sz:Nat),e≠76→w.ownsRow w0.heap.size e sz v m xs→(w.setCell ⟨gF,2,none⟩ (.slice A L.length cap)).ownsRow w0.heap.size e sz v m xs:=fun v m xs e sz hne hr =>
  ((GL.refl [gF] w).setCell (by simp) 2 _).own hr (fun g hg hm=>by
   have:g=gF:=by simpa using hm
   subst this;exact zaeZ hr h.fo hne hg.symm)
 refine ⟨⟨h.fo.set_ 2 _,?_,fun p hp=>h.keys p (List.mem_append_left _ hp),fun p hp=>hset _ _ _ _ _ (by decide) (h.kids p (List.mem_append_left _ hp)),?_,h.bF⟩,?_⟩
 ·have h1:=h.row
  rw [← hn] at h1;have h2:=own_prefix h1 (m:=L.length) (by rw [hn,List.length_append];omega);rw [take_rows] at h2;exact hset _ _ _ _ _ (by decide) h2
 ·exact h.bl.grown (zacY w gF 2 _) h.bl.size (fun k hk=>by injection hk with hk;have:=h.bF;omega)
 ·have hk:=(KF.of_below (Below.refl _ w) gF (Value.slice A n cap).ownBlock).setF 2 (.slice A L.length cap)
  rw [zbtY A L.length n cap];exact hk
end
def KidOk (M:List NodeD) (j:Nat):Prop:=j<M.length∧((M.getD j noNode).kind=8→0<(M.getD j noNode).kids.length∧∃ m:Nat,(M.getD j noNode).kids.getD 0 0=m∧m<M.length∧((M.getD m noNode).kind=3→(-1000000000000≤(M.getD m noNode).int∧(M.getD m noNode).int≤1000000000000)))
theorem kidOk_of {M:List NodeD} {f j s:Nat} (h:firstF M f j=some s) (hj:j<M.length):KidOk M j:=by
 refine ⟨hj,fun h8=>?_⟩
 obtain ⟨a,m,b,c,d⟩:=root8 h h8;exact ⟨a,m,b,by omega,d⟩
theorem text8 {n:NodeD} (h:fieldsB n=true) (hk:n.kind=8):n.text.toList=[45]∨n.text.toList=[110,111,116]:=by
 unfold fieldsB at h;rw [if_neg (fun hh=>by rw [if_pos hh] at h;cases h),if_neg (by omega),if_neg (by omega),if_neg (by omega),if_neg (by omega),if_neg (by omega),if_neg (by omega),if_pos hk] at h;simpa using h
theorem text9 {n:NodeD} (h:fieldsB n=true) (hk:n.kind=9):0<lvlF n.text:=by
 unfold fieldsB at h;rw [if_neg (fun hh=>by rw [if_pos hh] at h;cases h),if_neg (by omega),if_neg (by omega),if_neg (by omega),if_neg (by omega),if_neg (by omega),if_neg (by omega),if_neg (by omega),if_pos hk] at h;simpa using h
theorem op8 {p:ProgD} {n:NodeD} {f s e:Nat} {out t:List NodeD} {ks:List Int} {vs:List CellD} (K:FoldKs p f n.kids s e out t ks vs) (hk:n.kind=8) (hfi:fieldsB n=true) (hct:countB n=true) :
  ∃ j0:Nat,ks=[(j0:Int)]∧KidOk (out ++ t) j0∧(∀ x,constF (out ++ t) ((out ++ t).getD j0 noNode)=some x→ConC x)∧opVal n vs=(constF (out ++ t) ((out ++ t).getD j0 noNode)).bind fun x=>unF n.text.toList x:=by
 have hn:=zcdY hct (.inl hk);obtain ⟨a,ha⟩:=zclY (K.num.trans hn);have hcv:=K.cov (out ++ t) List.prefix_rfl;have hvs:=K.vals (out ++ t) List.prefix_rfl;have hcon:=K.con;rw [ha] at hcv hvs;obtain ⟨e1,e2,e3⟩:=hcv.one;obtain ⟨j0,hj0⟩:∃ j,out.length+t.length - 1=j:=⟨_,rfl⟩
 rw [hj0] at e3;have hlt:j0<(out ++ t).length:=by rw [List.length_append];omega
 have haj:a=(j0:Int):=by omega
 subst haj
 have hv2:vs=(constF (out ++ t) ((out ++ t).getD j0 noNode)).toList:=by
  rw [hvs,List.filterMap_cons,List.filterMap_nil,Int.toNat_natCast];cases constF (out ++ t) ((out ++ t).getD j0 noNode) <;> rfl
 refine ⟨j0,ha,kidOk_of e3 hlt,fun x hx=>?_,?_⟩
 ·exact hcon x (by rw [hv2,hx];simp)
 ·unfold opVal
  cases ho:constF (out ++ t) ((out ++ t).getD j0 noNode) with
  | none =>
   rw [ho] at hv2;rw [if_neg (by rintro ⟨_,h⟩;rw [hv2,hn] at h;simp at h)];rfl
  | some x =>
   rw [ho] at hv2;rw [if_pos ⟨.inl hk,by rw [hv2,hn];rfl⟩,hv2];show valueF n [x]=_;rw [valueF_un hk (text8 hfi hk) (hcon x (by rw [hv2];simp))];rfl
theorem op9 {p:ProgD} {n:NodeD} {f s e:Nat} {out t:List NodeD} {ks:List Int} {vs:List CellD} (K:FoldKs p f n.kids s e out t ks vs) (hk:n.kind=9) (hfi:fieldsB n=true) (hct:countB n=true) :
  ∃ j0 j1:Nat,ks=[(j0:Int),(j1:Int)]∧KidOk (out ++ t) j0∧KidOk (out ++ t) j1∧(∀ x,constF (out ++ t) ((out ++ t).getD j0 noNode)=some x→ConC x)∧(∀ x,constF (out ++ t) ((out ++ t).getD j1 noNode)=some x→ConC x) ∧
   opVal n vs=(constF (out ++ t) ((out ++ t).getD j0 noNode)).bind fun x=>(constF (out ++ t) ((out ++ t).getD j1 noNode)).bind fun y=>biF n.text.toList x y:=by
 have hn:=cnt_two hct (.inl hk);obtain ⟨a,b,ha⟩:=list_two (K.num.trans hn);have hcv:=K.cov (out ++ t) List.prefix_rfl;have hvs:=K.vals (out ++ t) List.prefix_rfl;have hcon:=K.con;rw [ha] at hcv hvs;obtain ⟨j0,j1,rfl,rfl,e1,e2,e3,e4⟩:=hcv.two';have hlt1:j1<(out ++ t).length:=by rw [List.length_append];omega
 have hlt0:j0<(out ++ t).length:=by omega
 have hv2:vs=(constF (out ++ t) ((out ++ t).getD j0 noNode)).toList ++ (constF (out ++ t) ((out ++ t).getD j1 noNode)).toList:=by
  rw [hvs,List.filterMap_cons,List.filterMap_cons,List.filterMap_nil,Int.toNat_natCast,Int.toNat_natCast];cases constF (out ++ t) ((out ++ t).getD j0 noNode) <;> cases constF (out ++ t) ((out ++ t).getD j1 noNode) <;> rfl
 refine ⟨j0,j1,ha,kidOk_of e3 hlt0,kidOk_of e4 hlt1,fun x hx=>hcon x (by rw [hv2,hx];simp),fun x hx=>hcon x (by rw [hv2,hx];simp),?_⟩
 unfold opVal;cases ho:constF (out ++ t) ((out ++ t).getD j0 noNode) with
 | none =>
  rw [ho] at hv2
  rw [if_neg (by
   rintro ⟨_,h⟩;rw [hv2,hn] at h;cases h1:constF (out ++ t) ((out ++ t).getD j1 noNode) <;> rw [h1] at h <;> simp at h)]
  rfl
 | some x =>
  cases hq:constF (out ++ t) ((out ++ t).getD j1 noNode) with
  | none =>
   rw [ho,hq] at hv2;rw [if_neg (by rintro ⟨_,h⟩;rw [hv2,hn] at h;simp at h)];rfl
  | some y =>
   rw [ho,hq] at hv2;rw [if_pos ⟨.inr hk,by rw [hv2,hn];rfl⟩,hv2];show valueF n [x,y]=_;rw [valueF_bi hk (text9 hfi hk) (hcon x (by rw [hv2];simp)) (hcon y (by rw [hv2];simp))];rfl
end Go.Proofs.YthiimbhjpdphpaaGreatDoor
