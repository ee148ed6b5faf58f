/- RO4 -/
import Derived.Test.YtekdhlfapejijaaGreatDoorQRO3
import Derived.Test.YtekdhlfapejijaaGreatDoorQE26
set_option linter.unusedVariables false
set_option linter.unusedSimpArgs false
namespace Go.Proofs.YtekdhlfapejijaaGreatDoor
open Go.RowKit
set_option maxRecDepth 100000
open Go.Proofs.Tryz
attribute [local go_sem] zacZ
theorem gt_eq (a b:ByteArray):(!Op.bytesLess a.toList b.toList && !(a.toList == b.toList))=sltB b a:=by
 have h:=blt_tri a.toList b.toList;unfold sltB;obtain ⟨p,hp⟩:∃ p,Op.bytesLess a.toList b.toList=p:=⟨_,rfl⟩
 obtain ⟨q,hq⟩:∃ p,Op.bytesLess b.toList a.toList=p:=⟨_,rfl⟩
 rw [hp,hq] at h;rw [hp,hq];by_cases e:a.toList=b.toList
 ·rw [if_pos e] at h
  cases p <;> cases q <;> simp_all
 ·rw [if_neg e] at h
  have e':(a.toList == b.toList)=false:=by simpa using e
  rw [e'];cases p <;> cases q <;> simp_all
theorem tail_cells {w:World} {b off:Nat} {x:CellD} {r:ValD} (h:SlAt w (some ⟨b,off,none⟩) 4 CellD.cells (x :: r)):∀ w',Below w.heap.size w w'→∀ (j:Nat) (u:Value),(r.flatMap CellD.cells)[j]? = some u→w'.cell? ((⟨b,off+4,none⟩:Addr).add j)=some u:=by
 obtain ⟨b',off',e,hh⟩:=at_cells h (by simp);injection e with e
 injection e with e1 e2
 subst e1 e2;intro w' hb j u hj
 have:=hh w' hb (4+j) u (by
  rw [List.flatMap_cons,List.getElem?_append_right (by simp [CellD.cells])];simpa [CellD.cells] using hj)
 rw [za0Y] at this ⊢;rw [show off+4+j=off+(4+j) by omega];exact this
theorem list_n {c:CellD} {r:ValD} (h:checkF (c :: r)=0) (ho:OkV (c :: r)) (hk:c.kind=5):0≤c.n∧c.n≤200∧r.length≤200:=by
 obtain ⟨h1,h2,h3,_⟩:=zauY h (fun x hx=>zapY (ho.2 x hx)) (c:=c) rfl (.inl hk)
 have:=h3.len
 obtain ⟨_,_,_,_,_,h4,_⟩:=checkF_zero.1 h;simp only [List.length_cons] at this h4;omega
theorem FromC.drop {w w1 w2:World} {g n c:Nat} {v:Value} {cs:Array Value} (h:FromC w1 w2 [.slice (some ⟨g,0,Option.none⟩) n c] v) (h1:w.heap.size≤w1.heap.size) (hB:Blk w2 g 53 cs) (hg:w.heap.size≤g):FromC w w2 [] v:=fun b off n' cap' e=>by
 rcases h b off n' cap' e with ⟨u,hu,o,p,q,e2⟩ | ⟨h3,cs,fz,h4⟩
 ·simp at hu
  subst hu;injection e2 with e2 _ _
  injection e2 with e2
  injection e2 with e2 _
  subst e2;exact .inr ⟨hg,_,_,hB⟩
 ·exact .inr ⟨Nat.le_trans h1 h3,cs,fz,h4⟩
theorem FromC.dropO {w w1 w2:World} {v u:Value} {n:Nat} {xs:List Value} (h:FromC w1 w2 [v] u) (ho:w1.ownsRow w.heap.size 53 4 v n xs) (hb:Below w1.heap.size w1 w2) (h1:w.heap.size≤w1.heap.size):FromC w w2 [] u:=fun b off n' cap' e=>by
 rcases h b off n' cap' e with ⟨u,hu,o,p,q,e2⟩ | ⟨h3,cs,fz,h4⟩
 ·simp at hu
  subst hu e2;obtain ⟨h5,cs,hB⟩:=zanY ho (g:=b) (by simp [Value.ownBlock]);exact .inr ⟨h5,_,_,hB.below hb⟩
 ·exact .inr ⟨Nat.le_trans h1 h3,cs,fz,h4⟩
theorem zbkY {w w':World} {b off:Nat} {u:Value} (h:w.cell? ⟨b,off,none⟩=some u) (hb:Below w.heap.size w w'):w'.cell? ⟨b,off,none⟩=some u:=(hb.cell (bLZ h)).trans h
set_option maxHeartbeats 16000000 in
theorem fbinary_any (op:ByteArray) (a b:ValD) (v1 v2:Value) (w:World) (h1:ValV w v1 a) (h2:ValV w v2 b) (hp:Pow w) (o1:OkV a) (o2:OkV b) :
  Calls prog 14 #[.string op,v1,v2] w (RetR w [] (binaryR op a b)):=by
 obtain ⟨P,hP⟩:∃ P:Ending→World→Prop,RetR w [] (binaryR op a b)=P:=⟨_,rfl⟩
 rw [hP];have HP:=hZz hP;have HOP0:=foperator_any op w;by_cases hop:op.toList∈binL
 case neg =>
  have HR:Hid (binaryR op a b=([],4)):=hZz (by unfold binaryR;rw [if_pos hop]);rw [decide_eq_false hop] at HOP0;have HOP:=hZz HOP0;clear hop HOP0 h1 h2 hp o1 o2 hP;go_enter func14,ntmps14
  go_wp2_with (first
   | (go_at_call 42;(with_reducible refine HOP.out.mono ?_);rintro e w1 ⟨rfl,hw⟩;rw [hw];clear hw w1))
  rw [← HP.out];exact RetR.err HR.out (Below.refl _ _)
 rw [decide_eq_true hop] at HOP0;have HOP:=hZz HOP0;clear HOP0;obtain ⟨A1,k1,rfl,hc1,hm1,hs1⟩:=h1.at;obtain ⟨A2,k2,rfl,hc2,hm2,hs2⟩:=h2.at;have HCK1:=hZz (zciY a A1 k1 w hs1 hp o1.1 o1.2);have HCK2:Hid (∀ wx,Below w.heap.size w wx→Calls prog 34 #[.slice A2 b.length k2] wx fun e w'=>e=.returned (.int .i64 (checkF b))∧Below wx.heap.size wx w'):=hZz (fun wx hb=>zciY b A2 k2 wx (hs2.below hb) (hp.below hb) o2.1 o2.2);obtain ⟨n1,hn1⟩:∃ n,a.length=n:=⟨_,rfl⟩
 obtain ⟨n2,hn2⟩:∃ n,b.length=n:=⟨_,rfl⟩
 rw [hn1] at HCK1 h1 hc1 ⊢;rw [hn2] at HCK2 h2 hc2 ⊢;by_cases ck1:checkF a=0
 case neg =>
  have HR:Hid (binaryR op a b=([],checkF a)):=hZz (by unfold binaryR;rw [if_neg (not_not_intro hop),if_pos ck1]);obtain ⟨ck,hc⟩:∃ c,checkF a=c:=⟨_,rfl⟩
  rw [hc] at HCK1 HR ck1;have hck':(ck != 0)=true:=by simpa using ck1
  clear ck1 h1 h2 hp o1 o2 hop hP hc hs1 hs2 hc1 hc2 hm1 hm2 hn1 hn2;go_enter func14,ntmps14
  go_wp2_with (first
   | (go_at_call 42;(with_reducible refine HOP.out.mono ?_);rintro e w1 ⟨rfl,hw⟩;rw [hw];clear hw w1)
   | (go_at_call 34;((with_reducible refine HCK1.out.mono ?_);rintro e w2 ⟨rfl,hb2⟩;have HB2:=hZz hb2;clear hb2)))
  rw [← HP.out];exact RetR.err HR.out HB2.out
 rw [ck1] at HCK1;by_cases ck2:checkF b=0
 case neg =>
  have HR:Hid (binaryR op a b=([],checkF b)):=hZz (by unfold binaryR;rw [if_neg (not_not_intro hop),if_neg (not_not_intro ck1),if_pos ck2]);obtain ⟨ck,hc⟩:∃ c,checkF b=c:=⟨_,rfl⟩
  rw [hc] at HCK2 HR ck2;have hck':(ck != 0)=true:=by simpa using ck2
  clear ck1 ck2 h1 h2 hp o1 o2 hop hP hc hs1 hs2 hc1 hc2 hm1 hm2 hn1 hn2;go_enter func14,ntmps14
  go_wp2_with (first
   | (go_at_call 42;(with_reducible refine HOP.out.mono ?_);rintro e w1 ⟨rfl,hw⟩;rw [hw];clear hw w1)
   | (go_at_call 34;((with_reducible refine HCK1.out.mono ?_);rintro e w2 ⟨rfl,hb2⟩;have HB2:=hZz hb2;clear hb2))
   | (go_at_call 34;((with_reducible refine (HCK2.out _ HB2.out).mono ?_);rintro e w3 ⟨rfl,hb3⟩;have HB3:=hZz (zadZ hb3 HB2.out);clear hb3)))
  rw [← HP.out];exact RetR.err HR.out HB3.out
 rw [ck2] at HCK2
 obtain ⟨x,r,rfl⟩:∃ c r,a=c :: r:=by
  cases a with
  | nil=>exact absurd rfl (zadY ck1)
  | cons c r=>exact ⟨c,r,rfl⟩
 obtain ⟨y,s,rfl⟩:∃ c r,b=c :: r:=by
  cases b with
  | nil=>exact absurd rfl (zadY ck2)
  | cons c r=>exact ⟨c,r,rfl⟩
 obtain ⟨bA,oA,n1',k1',e1,hn1',p0,p1,p2,p3⟩:=zaaY h1;injection e1 with e1 e2 e3
 subst e1 e2 e3;obtain ⟨bB,oB,n2',k2',e1,hn2',q0,q1,q2,q3⟩:=zaaY h2;injection e1 with e1 e2 e3
 subst e1 e2 e3;have hposA:(0:Int)<(n1:Int):=by omega
 have hposB:(0:Int)<(n2:Int):=by omega
 have hnatA:0<n1:=by omega
 have hnatB:0<n2:=by omega
 have HPC:Hid (∀ wx,Below w.heap.size w wx→(wx.cell? ⟨bA,oA,none⟩=some (.int .i64 x.kind)∧wx.cell? ⟨bA,oA+1,none⟩=some (.int .i64 x.int)∧wx.cell? ⟨bA,oA+2,none⟩=some (.string x.str)∧wx.cell? ⟨bA,oA+3,none⟩=some (.int .i64 x.n))∧(wx.cell? ⟨bB,oB,none⟩=some (.int .i64 y.kind)∧wx.cell? ⟨bB,oB+1,none⟩=some (.int .i64 y.int)∧wx.cell? ⟨bB,oB+2,none⟩=some (.string y.str)∧wx.cell? ⟨bB,oB+3,none⟩=some (.int .i64 y.n))):=hZz (fun wx hb=>⟨⟨zbkY p0 hb,zbkY p1 hb,zbkY p2 hb,zbkY p3 hb⟩,zbkY q0 hb,zbkY q1 hb,zbkY q2 hb,zbkY q3 hb⟩)
 have HU:Hid (binaryR op (x :: r) (y :: s)=if op.toList=[61,61] then ([bCel (decide (x :: r=y :: s))],0) else if op.toList=[33,61] then ([bCel (!decide (x :: r=y :: s))],0) else if x.kind≠y.kind then ([],7)
   else if op.toList∈cmpL then
    (if x.kind=3 then ([bCel (ordB op.toList (decide (x.int<y.int)) (decide (y.int<x.int)))],0)
     else if x.kind=4 then ([bCel (ordB op.toList (sltB x.str y.str) (sltB y.str x.str))],0)
     else ([],7))
   else if x.kind=3 then arithR op.toList x.int y.int
   else if op.toList=[43]∧x.kind=4 then limR [sCel (x.str ++ y.str)]
   else if op.toList=[43]∧x.kind=5 then limR (⟨5,0,⟨#[]⟩,x.n+y.n⟩ :: (r ++ s))
   else ([],7)):=hZz (by
  unfold binaryR;rw [if_neg (not_not_intro hop),if_neg (not_not_intro ck1),if_neg (not_not_intro ck2)])
 have HSM:Hid (∀ wx,Below w.heap.size w wx→Calls prog 44 #[.slice (some ⟨bA,oA,none⟩) n1 k1,.slice (some ⟨bB,oB,none⟩) n2 k2] wx fun e w'=>e=.returned (.bool (eqV (x :: r) (y :: s)))∧∃ q,w'=wx.drewN q):=hZz fun wx hb=>same6_any _ _ _ _ wx (h1.below hb) (h2.below hb)
 have HTR:Hid (∀ bb wx,Calls prog 43 #[.bool bb] wx fun e w'=>∃ u,e=.returned u∧ValV w' u [bCel bb]∧FromC wx w' [] u∧Below wx.heap.size wx w'):=hZz ftruth_any;have HCM:Hid (∀ wx,Calls prog 45 #[.string op] wx fun e w'=>e=.returned (.bool (decide (op.toList∈cmpL)))∧w'=wx):=hZz (fun wx=>zc6Y op wx);have HOR:Hid (∀ lt gt wx,Calls prog 46 #[.string op,.bool lt,.bool gt] wx fun e w'=>∃ u,e=.returned u∧ValV w' u [bCel (ordB op.toList lt gt)]∧FromC wx w' [] u∧Below wx.heap.size wx w'):=hZz (fun lt gt wx=>fordered_any op lt gt wx)
 have HIN:Hid (x.kind=3→y.kind=3→op.toList ∉ cmpL→op.toList≠[61,61]→op.toList≠[33,61]→∀ wx,Calls prog 47 #[.string op,.int .i64 x.int,.int .i64 y.int] wx (RetR wx [] (arithR op.toList x.int y.int))):=hZz (fun e1 e2 hc ha hb wx=>fintegers_any op x.int y.int wx (zbzY ck1 (by simp) e1) (zbzY ck2 (by simp) e2) (by
  simp only [binL,cmpL,List.mem_cons,List.not_mem_nil,or_false] at hop hc;rcases hop with h | h | h | h | h | h | h | h | h | h | h
  ·exact .inl h
  ·exact .inr (.inl h)
  ·exact .inr (.inr (.inl h))
  ·exact .inr (.inr (.inr (.inl h)))
  ·exact .inr (.inr (.inr (.inr h)))
  ·exact absurd h ha
  ·exact absurd h hb
  ·exact absurd (.inl h) hc
  ·exact absurd (.inr (.inl h)) hc
  ·exact absurd (.inr (.inr (.inl h))) hc
  ·exact absurd (.inr (.inr (.inr h))) hc))
 have HSZ:Hid (x.str.size≤200∧y.str.size≤200):=hZz ⟨za8Y ck1 x (by simp),za8Y ck2 y (by simp)⟩
 have HL4:Hid (∀ u wx,Below w.heap.size w wx→ValV wx u [sCel (x.str ++ y.str)]→Calls prog 48 #[u] wx (RetR wx [u] (limR [sCel (x.str ++ y.str)]))):=hZz (fun u wx hb hv=>zdzY _ u wx hv (hp.below hb) ⟨by simp,fun c hc=>by
  simp at hc
  subst hc;have h3:=za8Y ck1 x (by simp);have h4:=za8Y ck2 y (by simp);exact ⟨by show (x.str ++ y.str).size≤_;rw [ByteArray.size_append];omega,⟨(by show (-9223372036854775808:Int)≤0;decide),(by show (0:Int)≤9223372036854775807;decide)⟩,(by show (0:Int)≤9223372036854775807;decide)⟩⟩)
 have HNB:Hid (x.kind=5→y.kind=5→(0≤x.n∧x.n≤200∧r.length≤200)∧0≤y.n∧y.n≤200∧s.length≤200):=hZz (fun e1 e2=>⟨list_n ck1 o1 e1,list_n ck2 o2 e2⟩)
 have HL5:Hid (x.kind=5→y.kind=5→∀ u wx,Below w.heap.size w wx→ValV wx u (⟨5,0,⟨#[]⟩,x.n+y.n⟩ :: (r ++ s))→Calls prog 48 #[u] wx (RetR wx [u] (limR (⟨5,0,⟨#[]⟩,x.n+y.n⟩ :: (r ++ s))))):=hZz (fun e1 e2 u wx hb hv=>zdzY _ u wx hv (hp.below hb) ⟨by
  have h3:=list_n ck1 o1 e1;have h4:=list_n ck2 o2 e2;simp only [List.length_cons,List.length_append];omega,fun c hc=>by
  have h3:=list_n ck1 o1 e1;have h4:=list_n ck2 o2 e2;rcases List.mem_cons.1 hc with rfl | hc
  ·exact ⟨(by show (0:Nat)≤4294967296;decide),⟨(by show (-9223372036854775808:Int)≤0;decide),(by show (0:Int)≤9223372036854775807;decide)⟩,(by show x.n+y.n≤9223372036854775807;omega)⟩
  ·rcases List.mem_append.1 hc with hc | hc
   ·exact o1.2 c (by simp [hc])
   ·exact o2.2 c (by simp [hc])⟩)
 have HTA:=hZz (tail_cells hs1);have HTB:=hZz (tail_cells hs2);have HRL:Hid (n1=r.length+1∧n2=s.length+1∧n1≤k1∧n2≤k2):=hZz ⟨by omega,by omega,hc1,hc2⟩;have HEQ:Hid (eqV (x :: r) (y :: s)=decide (x :: r=y :: s)):=hZz rfl;clear h1 h2 hp o1 o2 ck1 ck2 hP hn1 hn2 hn1' hn2' p0 p1 p2 p3 q0 q1 q2 q3 hop hs1 hs2 hc1 hc2 hm1 hm2;obtain ⟨db,hdb⟩:∃ t,decide (x :: r=y :: s)=t:=⟨_,rfl⟩
 rw [hdb] at HEQ HU;rw [HEQ.out] at HSM;obtain ⟨k,i,st,nn⟩:=x;obtain ⟨k',i',st',nn'⟩:=y;dsimp only at HPC HU HIN HL4 HSZ HL5 HNB;obtain ⟨BR,hBR⟩:∃ t,binaryR op (⟨k,i,st,nn⟩ :: r) (⟨k',i',st',nn'⟩ :: s)=t:=⟨_,rfl⟩
 rw [hBR] at HP HU;clear hdb hBR HEQ;by_cases e1:op.toList=[61,61]
 ·have t1:=zagY e1
  have HR:Hid (BR=([bCel db],0)):=hZz (by rw [HU.out,if_pos e1]);clear e1 HU;cases db
  all_goals
   go_enter func14,ntmps14
   go_wp2_with (first
    | (go_at_call 42;(with_reducible refine HOP.out.mono ?_);rintro e w1 ⟨rfl,hw⟩;rw [hw];clear hw w1)
    | (go_at_call 34;((with_reducible refine HCK1.out.mono ?_);rintro e w2 ⟨rfl,hb2⟩;have HB2:=hZz hb2;clear hb2))
    | (go_at_call 34;((with_reducible refine (HCK2.out _ HB2.out).mono ?_);rintro e w3 ⟨rfl,hb3⟩;have HB3:=hZz (zadZ hb3 HB2.out);obtain ⟨⟨p0,p1,p2,p3⟩,q0,q1,q2,q3⟩:=HPC.out _ HB3.out;clear hb3))
    | (go_at_call 44;((with_reducible refine (HSM.out _ HB3.out).mono ?_);rintro e w4 ⟨rfl,q,rfl⟩;have HB4:=hZz (zagZ HB3.out q)))
    | (go_at_call 43;((with_reducible refine (HTR.out _ _).mono ?_);rintro e w5 ⟨u,rfl,hu,hf,hb5⟩;have HU5:=hZz hu;have HF5:=hZz hf;have HB5:=hZz (zabZ hb5 HB4.out HB4.out.size);clear hu hf hb5)))
   rw [← HP.out,HR.out];exact ⟨u,rfl,HU5.out,HF5.out.up HB4.out.size (Below.refl _ _),HB5.out⟩
 have t1:=zaiZ e1;by_cases e2:op.toList=[33,61]
 ·have t2:=zagY e2
  have HR:Hid (BR=([bCel (!db)],0)):=hZz (by rw [HU.out,if_neg e1,if_pos e2]);clear e1 e2 HU;cases db
  all_goals
   go_enter func14,ntmps14
   go_wp2_with (first
    | (go_at_call 42;(with_reducible refine HOP.out.mono ?_);rintro e w1 ⟨rfl,hw⟩;rw [hw];clear hw w1)
    | (go_at_call 34;((with_reducible refine HCK1.out.mono ?_);rintro e w2 ⟨rfl,hb2⟩;have HB2:=hZz hb2;clear hb2))
    | (go_at_call 34;((with_reducible refine (HCK2.out _ HB2.out).mono ?_);rintro e w3 ⟨rfl,hb3⟩;have HB3:=hZz (zadZ hb3 HB2.out);obtain ⟨⟨p0,p1,p2,p3⟩,q0,q1,q2,q3⟩:=HPC.out _ HB3.out;clear hb3))
    | (go_at_call 44;((with_reducible refine (HSM.out _ HB3.out).mono ?_);rintro e w4 ⟨rfl,q,rfl⟩;have HB4:=hZz (zagZ HB3.out q)))
    | (go_at_call 43;((with_reducible refine (HTR.out _ _).mono ?_);rintro e w5 ⟨u,rfl,hu,hf,hb5⟩;have HU5:=hZz hu;have HF5:=hZz hf;have HB5:=hZz (zabZ hb5 HB4.out HB4.out.size);clear hu hf hb5)))
   rw [← HP.out,HR.out];exact ⟨u,rfl,HU5.out,HF5.out.up HB4.out.size (Below.refl _ _),HB5.out⟩
 have t2:=zaiZ e2;rw [if_neg e1,if_neg e2] at HU;have HE12:Hid (op.toList≠[61,61]∧op.toList≠[33,61]):=hZz ⟨e1,e2⟩;clear e1 e2;go_enter func14,ntmps14
 go_upto_region 11 with (first
  | (go_at_call 42;(with_reducible refine HOP.out.mono ?_);rintro e w1 ⟨rfl,hw⟩;rw [hw];clear hw w1)
  | (go_at_call 34;((with_reducible refine HCK1.out.mono ?_);rintro e w2 ⟨rfl,hb2⟩;have HB2:=hZz hb2;clear hb2))
  | (go_at_call 34;((with_reducible refine (HCK2.out _ HB2.out).mono ?_);rintro e w3 ⟨rfl,hb3⟩;have HB3:=hZz (zadZ hb3 HB2.out);obtain ⟨⟨p0,p1,p2,p3⟩,q0,q1,q2,q3⟩:=HPC.out _ HB3.out;clear hb3)))
 go_quiet (fail);obtain ⟨W,hW⟩:∃ W,w3.drewN nq=W:=⟨_,rfl⟩
 have HBW:Hid (Below w.heap.size w W):=hZz (by rw [← hW];exact zagZ HB3.out _);rw [hW];clear hW p0 p1 p2 p3 q0 q1 q2 q3
 by_cases hcm:op.toList∈cmpL
 ·have HNP:Hid (op.toList≠[43]):=hZz (fun e=>by rw [e] at hcm;exact absurd hcm (by decide))
  have tp:=zaiZ HNP.out;have HC2:=hZz hcm;rw [decide_eq_true hcm] at HCM;clear hcm;by_cases h3:k=3
  ·subst h3
   by_cases h3':k'=3
   ·subst h3'
    have HR:Hid (BR=([bCel (ordB op.toList (decide (i<i')) (decide (i' < i)))],0)):=hZz (by rw [HU.out,if_neg (by simp),if_pos HC2.out,if_pos rfl]);clear HU
    go_upto_region 14 with (first
     | (go_at_call 45;(with_reducible refine (HCM.out _).mono ?_);rintro e w4 ⟨rfl,hw⟩;rw [hw];clear hw w4))
    have HSQ:Hid (∀ w',Below W.heap.size W w'→w'.cell? ⟨bA,oA+1,none⟩=some (.int .i64 i)∧w'.cell? ⟨bB,oB+1,none⟩=some (.int .i64 i')):=hZz (fun w' hb=>by have h:=HPC.out w' (zabZ hb HBW.out HBW.out.size);exact ⟨h.1.2.1,h.2.2.1⟩);have HD0:=hZz (zaeZ W)
    go_region_held3 (fun w'=>w'.cell? ⟨bA,oA+1,none⟩=some (.int .i64 i)∧w'.cell? ⟨bB,oB+1,none⟩=some (.int .i64 i')) (first | with_reducible exact HSQ.out _ HD0.out | with_reducible exact HSQ.out _ HD1.out | with_reducible exact HSQ.out _ HD2.out) (first
     | (go_at_call 46;(with_reducible refine (HOR.out _ _ _).mono ?_);rintro e w5 ⟨u,rfl,hu,hf,hb5⟩;have HU5:=hZz hu;have HF5:=hZz hf;have HD1:=hZz (zadZ hb5 (zaeZ W));clear hu hf hb5))
    go_wp2_with (fail)
    rw [← HP.out,HR.out];exact ⟨u,rfl,HU5.out,HF5.out.up HBW.out.size (Below.refl _ _),zabZ HD1.out HBW.out HBW.out.size⟩
   ·have k3:(k' == 3)=false:=by simpa using h3'
    have hR0:BR=([],7):=by
     rw [HU.out,if_pos (fun e=>h3' e.symm)]
    have HR:=hZz hR0;clear HU hR0
    go_wp2_with (first
     | (go_at_call 45;(with_reducible refine (HCM.out _).mono ?_);rintro e w4 ⟨rfl,hw⟩;rw [hw];clear hw w4))
    rw [← HP.out];exact RetR.err HR.out HBW.out
  have k3:(k == 3)=false:=by simpa using h3
  by_cases h4:k=4
  ·subst h4
   by_cases h4':k'=4
   ·subst h4'
    have HR:Hid (BR=([bCel (ordB op.toList (sltB st st') (sltB st' st))],0)):=hZz (by rw [HU.out,if_neg (by simp),if_pos HC2.out,if_neg (by decide),if_pos rfl]);clear HU
    go_upto_region 17 with (first
     | (go_at_call 45;(with_reducible refine (HCM.out _).mono ?_);rintro e w4 ⟨rfl,hw⟩;rw [hw];clear hw w4))
    have HSQ:Hid (∀ w',Below W.heap.size W w'→w'.cell? ⟨bA,oA+2,none⟩=some (.string st)∧w'.cell? ⟨bB,oB+2,none⟩=some (.string st')):=hZz (fun w' hb=>by have h:=HPC.out w' (zabZ hb HBW.out HBW.out.size);exact ⟨h.1.2.2.1,h.2.2.2.1⟩);have HD0:=hZz (zaeZ W)
    go_region_held3 (fun w'=>w'.cell? ⟨bA,oA+2,none⟩=some (.string st)∧w'.cell? ⟨bB,oB+2,none⟩=some (.string st')) (first | with_reducible exact HSQ.out _ HD0.out | with_reducible exact HSQ.out _ HD1.out | with_reducible exact HSQ.out _ HD2.out) (first
     | (go_at_call 46;(with_reducible refine (HOR.out _ _ _).mono ?_);rintro e w5 ⟨u,rfl,hu,hf,hb5⟩;have HU5:=hZz hu;have HF5:=hZz hf;have HD1:=hZz (zadZ hb5 (zaeZ W));clear hu hf hb5))
    go_wp2_with (fail)
    rw [← HP.out,HR.out];exact ⟨u,rfl,(by have h:=HU5.out;rw [gt_eq] at h;exact h),HF5.out.up HBW.out.size (Below.refl _ _),zabZ HD1.out HBW.out HBW.out.size⟩
   ·have k4:(k' == 4)=false:=by simpa using h4'
    have hR0:BR=([],7):=by
     rw [HU.out,if_pos (fun e=>h4' e.symm)]
    have HR:=hZz hR0;clear HU hR0
    go_wp2_with (first
     | (go_at_call 45;(with_reducible refine (HCM.out _).mono ?_);rintro e w4 ⟨rfl,hw⟩;rw [hw];clear hw w4))
    rw [← HP.out];exact RetR.err HR.out HBW.out
  have k4:(k == 4)=false:=by simpa using h4
  by_cases h5:k=5
  ·subst h5
   by_cases h5':k'=5
   ·subst h5'
    have hR0:BR=([],7):=by
     rw [HU.out,if_neg (by simp),if_pos HC2.out,if_neg (by decide),if_neg (by decide)]
    have HR:=hZz hR0;clear HU hR0
    go_wp2_with (first
     | (go_at_call 45;(with_reducible refine (HCM.out _).mono ?_);rintro e w4 ⟨rfl,hw⟩;rw [hw];clear hw w4))
    rw [← HP.out];exact RetR.err HR.out HBW.out
   ·have k5:(k' == 5)=false:=by simpa using h5'
    have hR0:BR=([],7):=by
     rw [HU.out,if_pos (fun e=>h5' e.symm)]
    have HR:=hZz hR0;clear HU hR0
    go_wp2_with (first
     | (go_at_call 45;(with_reducible refine (HCM.out _).mono ?_);rintro e w4 ⟨rfl,hw⟩;rw [hw];clear hw w4))
    rw [← HP.out];exact RetR.err HR.out HBW.out
  have k5:(k == 5)=false:=by simpa using h5
  have hR0:BR=([],7):=by
   rw [HU.out];by_cases h:k=k'
   ·rw [if_neg (by simp [h]),if_pos HC2.out,if_neg h3,if_neg h4]
   ·rw [if_pos h]
  have HR:=hZz hR0;clear HU hR0
  go_wp2_with (first
   | (go_at_call 45;(with_reducible refine (HCM.out _).mono ?_);rintro e w4 ⟨rfl,hw⟩;rw [hw];clear hw w4))
  rw [← HP.out];exact RetR.err HR.out HBW.out
 have HC2:=hZz hcm;rw [decide_eq_false hcm] at HCM;clear hcm;by_cases hpl:op.toList=[43]
 ·have HPL:=hZz hpl
  have tp:=zagY hpl;clear hpl;by_cases h3:k=3
  ·subst h3
   by_cases h3':k'=3
   ·subst h3'
    have HIN2:=hZz (HIN.out rfl rfl HC2.out HE12.out.1 HE12.out.2);have HR:Hid (BR=arithR op.toList i i'):=hZz (by rw [HU.out,if_neg (by simp),if_neg HC2.out,if_pos rfl]);obtain ⟨AR,hAR⟩:∃ t,arithR op.toList i i'=t:=⟨_,rfl⟩
    rw [hAR] at HR HIN2;clear HU hAR
    go_upto_region 15 with (first
     | (go_at_call 45;(with_reducible refine (HCM.out _).mono ?_);rintro e w4 ⟨rfl,hw⟩;rw [hw];clear hw w4))
    have HSQ:Hid (∀ w',Below W.heap.size W w'→w'.cell? ⟨bA,oA+1,none⟩=some (.int .i64 i)∧w'.cell? ⟨bB,oB+1,none⟩=some (.int .i64 i')):=hZz (fun w' hb=>by have h:=HPC.out w' (zabZ hb HBW.out HBW.out.size);exact ⟨h.1.2.1,h.2.2.1⟩);have HD0:=hZz (zaeZ W)
    go_region_held3 (fun w'=>w'.cell? ⟨bA,oA+1,none⟩=some (.int .i64 i)∧w'.cell? ⟨bB,oB+1,none⟩=some (.int .i64 i')) (first | with_reducible exact HSQ.out _ HD0.out | with_reducible exact HSQ.out _ HD1.out | with_reducible exact HSQ.out _ HD2.out) (first
     | (go_at_call 47;(with_reducible refine (HIN2.out _).mono ?_);rintro e w5 ⟨u,rfl,hu,hf,hb5⟩;have HU5:=hZz hu;have HF5:=hZz hf;have HD1:=hZz (zadZ hb5 (zaeZ W));clear hu hf hb5))
    go_wp2_with (fail)
    rw [← HP.out,HR.out];exact ⟨u,rfl,HU5.out,HF5.out.up HBW.out.size (Below.refl _ _),zabZ HD1.out HBW.out HBW.out.size⟩
   ·have k3:(k' == 3)=false:=by simpa using h3'
    have hR0:BR=([],7):=by
     rw [HU.out,if_pos (fun e=>h3' e.symm)]
    have HR:=hZz hR0;clear HU hR0
    go_wp2_with (first
     | (go_at_call 45;(with_reducible refine (HCM.out _).mono ?_);rintro e w4 ⟨rfl,hw⟩;rw [hw];clear hw w4))
    rw [← HP.out];exact RetR.err HR.out HBW.out
  have k3:(k == 3)=false:=by simpa using h3
  by_cases h4:k=4
  ·subst h4
   by_cases h4':k'=4
   ·subst h4'
    have HR:Hid (BR=limR [sCel (st ++ st')]):=hZz (by rw [HU.out,if_neg (by simp),if_neg HC2.out,if_neg (by decide),if_pos ⟨HPL.out,rfl⟩]);clear HU;obtain ⟨LR,hLR⟩:∃ t,limR [sCel (st ++ st')]=t:=⟨_,rfl⟩
    rw [hLR] at HR HL4;have hsz:¬ 9223372036854775807<st.size+st'.size:=by have:=HSZ.out;omega
    clear hLR
    go_upto_region 19 with (first
     | (go_at_call 45;(with_reducible refine (HCM.out _).mono ?_);rintro e w4 ⟨rfl,hw⟩;rw [hw];clear hw w4))
    have HD2:Hid (Below W.heap.size W ((W.alloc (.cells #[.int .i64 4,.int .i64 0,.string (st ++ st'),.int .i64 0] 53)).drew)):=hZz (zadZ (zaeZ _) (zaaZ W _));have HV4:Hid (ValV ((W.alloc (.cells #[.int .i64 4,.int .i64 0,.string (st ++ st'),.int .i64 0] 53)).drew) (.slice (some ⟨W.heap.size,0,none⟩) 1 1) [sCel (st ++ st')]):=hZz ((zaoY (c:=sCel (st ++ st')) (Blk.new W _ _)).below (zaeZ _));have HK4:Hid (Blk ((W.alloc (.cells #[.int .i64 4,.int .i64 0,.string (st ++ st'),.int .i64 0] 53)).drew) W.heap.size 53 _):=hZz ((Blk.new W 53 _).below (zaeZ _));have HSQ:Hid (∀ w',Below W.heap.size W w'→w'.cell? ⟨bA,oA+2,none⟩=some (.string st)∧w'.cell? ⟨bB,oB+2,none⟩=some (.string st')):=hZz (fun w' hb=>by have h:=HPC.out w' (zabZ hb HBW.out HBW.out.size);exact ⟨h.1.2.2.1,h.2.2.2.1⟩);have HD0:=hZz (zaeZ W)
    go_region_held3 (fun w'=>w'.cell? ⟨bA,oA+2,none⟩=some (.string st)∧w'.cell? ⟨bB,oB+2,none⟩=some (.string st')) (first | with_reducible exact HSQ.out _ HD0.out | with_reducible exact HSQ.out _ HD1.out | with_reducible exact HSQ.out _ HD2.out) (first
     | (go_at_call 48;(refine (HL4.out _ _ (zabZ HD2.out HBW.out HBW.out.size) HV4.out).mono ?_);rintro e w5 ⟨u,rfl,hu,hf,hb5⟩;have HU5:=hZz hu;have HF5:=hZz (hf.drop (w:=w) (Nat.le_trans HBW.out.size HD2.out.size) (HK4.out.below hb5) HBW.out.size);have HD1:=hZz (zabZ hb5 HD2.out HD2.out.size);clear hu hf hb5))
    go_wp2_with (fail)
    rw [← HP.out,HR.out];exact ⟨u,rfl,HU5.out,HF5.out,zabZ HD1.out HBW.out HBW.out.size⟩
   ·have k4:(k' == 4)=false:=by simpa using h4'
    have hR0:BR=([],7):=by
     rw [HU.out,if_pos (fun e=>h4' e.symm)]
    have HR:=hZz hR0;clear HU hR0
    go_wp2_with (first
     | (go_at_call 45;(with_reducible refine (HCM.out _).mono ?_);rintro e w4 ⟨rfl,hw⟩;rw [hw];clear hw w4))
    rw [← HP.out];exact RetR.err HR.out HBW.out
  have k4:(k == 4)=false:=by simpa using h4
  by_cases h5:k=5
  ·subst h5
   by_cases h5':k'=5
   ·subst h5'
    obtain ⟨⟨b1,b2,b3⟩,b4,b5,b6⟩:=HNB.out rfl rfl;have HL52:=hZz (HL5.out rfl rfl);have HR:Hid (BR=limR (⟨5,0,⟨#[]⟩,nn+nn'⟩ :: (r ++ s))):=hZz (by rw [HU.out,if_neg (by simp),if_neg HC2.out,if_neg (by decide),if_neg (fun e=>absurd e.2 (by decide)),if_pos ⟨HPL.out,rfl⟩]);obtain ⟨LR,hLR⟩:∃ t,limR (⟨5,0,⟨#[]⟩,nn+nn'⟩ :: (r ++ s))=t:=⟨_,rfl⟩
    rw [hLR] at HR HL52;have hw:IntKind.i64.wrap (nn+nn')=nn+nn':=IntWalk.i64_in _ (by omega);have HB36:=hZz (And.intro b3 b6);clear HU hLR b1 b2 b4 b5 b3 b6
    go_upto_region 21 with (first
     | (go_at_call 45;(with_reducible refine (HCM.out _).mono ?_);rintro e w4 ⟨rfl,hw⟩;rw [hw];clear hw w4))
    have HD2:Hid (Below W.heap.size W ((W.alloc (.cells #[.int .i64 5,.int .i64 0,.string ⟨#[]⟩,.int .i64 (nn+nn')] 53)).drew)):=hZz (zadZ (zaeZ _) (zaaZ W _));have HSQ:Hid (∀ w',Below W.heap.size W w'→w'.cell? ⟨bA,oA+3,none⟩=some (.int .i64 nn)∧w'.cell? ⟨bB,oB+3,none⟩=some (.int .i64 nn')):=hZz (fun w' hb=>by have h:=HPC.out w' (zabZ hb HBW.out HBW.out.size);exact ⟨h.1.2.2.2,h.2.2.2.2⟩);have HD0:=hZz (zaeZ W)
    go_region_held3 (fun w'=>w'.cell? ⟨bA,oA+3,none⟩=some (.int .i64 nn)∧w'.cell? ⟨bB,oB+3,none⟩=some (.int .i64 nn')) (first | with_reducible exact HSQ.out _ HD0.out | with_reducible exact HSQ.out _ HD1.out | with_reducible exact HSQ.out _ HD2.out) (first
     | fail)
    go_simp;have HO2:Hid (((W.alloc (.cells #[.int .i64 5,.int .i64 0,.string ⟨#[]⟩,.int .i64 (nn+nn')] 53)).drew).ownsRow w.heap.size 53 4 (.slice (some ⟨W.heap.size,0,none⟩) 1 1) 1 ([(⟨5,0,⟨#[]⟩,nn+nn'⟩:CellD)].flatMap CellD.cells)):=hZz (zakZ (zcnY (l:=[(⟨5,0,⟨#[]⟩,nn+nn'⟩:CellD)]) (Blk.new W 53 _) HBW.out.size rfl (by simp)) (zaeZ _));obtain ⟨gW,hgW⟩:∃ g,W.heap.size=g:=⟨_,rfl⟩
    obtain ⟨W2,hW2⟩:∃ W2,(W.alloc (.cells #[.int .i64 5,.int .i64 0,.string ⟨#[]⟩,.int .i64 (nn+nn')] 53)).drew=W2:=⟨_,rfl⟩
    have HB2W:=hZz (zabZ HD2.out HBW.out HBW.out.size);rw [hW2] at HD2 HO2 HB2W ⊢;rw [hgW] at HO2 ⊢;clear hW2 hgW HSQ HD0;have hl6:=HB36.out;have hr6:=HRL.out;have hz7:n1 - 1≤200∧n2 - 1≤200:=by omega
    have HN7:=hZz hz7;clear hl6 hr6 hz7;obtain ⟨i0,hi,hz0,hz1,hz2⟩:=info_parts Tryz.infoCell;by_cases hk1:k1=1
    ·subst hk1
     have HZA:Hid (r=[]):=hZz (List.eq_nil_of_length_eq_zero (by have:=HRL.out;omega));by_cases hk2:k2=1
     ·subst hk2
      have HZB:Hid (s=[]):=hZz (List.eq_nil_of_length_eq_zero (by have:=HRL.out;omega))
      go_wp2_with (first
       | (at_builtin;refine wpList_append_own _ rfl (.tmp 161) (.tmp 163) 22 rfl w.heap.size 53 i0 _ 4 40 underlying22 hi hz0 hz1 hz2 rfl (by omega) _ 1 _ rfl HO2.out ⟨bA,oA,none⟩ (n1 - 1) _ (r.flatMap CellD.cells) rfl ?k2 ?k3 (zaxY _) ?k5 ?k6 ?k4 ?_;(case k2=>(rw [zamY];have:=HRL.out;omega));(case k3=>(intro j u hu;exact absurd hu (by rw [HZA.out];simp)));(case k5=>(unfold maxLen;have:=HN7.out;omega));(case k6=>(have:=HN7.out;omega));(case k4=>exact HB2W.out.size);intro v8 w8 hown hgr _;obtain ⟨zA8,zc8,hv8⟩:=zafZ hown;subst hv8;have HO8:=hZz hown;have HB8:=hZz (HB2W.out.grown hgr HB2W.out.size (fun g hg=>(HO2.out.lt g hg).1));clear hown hgr)
       | (at_builtin;refine wpList_append_own _ rfl (.tmp 165) (.tmp 167) 22 rfl w.heap.size 53 i0 _ 4 40 underlying22 hi hz0 hz1 hz2 rfl (by omega) _ (1+(n1 - 1)) _ rfl HO8.out ⟨bB,oB,none⟩ (n2 - 1) _ (s.flatMap CellD.cells) rfl ?k2 ?k3 (zaxY _) ?k5 ?k6 ?k4 ?_;(case k2=>(rw [zamY];have:=HRL.out;omega));(case k3=>(intro j u hu;exact absurd hu (by rw [HZB.out];simp)));(case k5=>(unfold maxLen;have:=HN7.out;omega));(case k6=>(have:=HN7.out;omega));(case k4=>exact HB8.out.size);intro v9 w9 hown hgr _;obtain ⟨zA9,zc9,hv9⟩:=zafZ hown;subst hv9;have HO9:=hZz hown;have HB9:=hZz (HB8.out.grown hgr HB8.out.size (fun g hg=>(HO8.out.lt g hg).1));clear hown hgr)
       | (go_at_call 48;have hov:=OVal.more (a:=(⟨5,0,⟨#[]⟩,nn+nn'⟩:CellD) :: r) (b:=s) HO9.out (by have:=HRL.out;simp only [List.length_cons];omega) (by simp);have hvv:=hov.val (by have:=HB36.out;simp only [List.length_append,List.length_cons];omega);rw [List.cons_append] at hvv;have HVV:=hZz hvv;clear hov hvv;(refine (HL52.out _ _ HB9.out HVV.out).mono ?_);rintro e w5 ⟨u,rfl,hu,hf,hb5⟩;have HU5:=hZz hu;have HF5:=hZz (hf.dropO HO9.out hb5 HB9.out.size);have HD1:=hZz (zabZ hb5 HB9.out HB9.out.size);clear hu hf hb5))
      rw [← HP.out,HR.out];exact ⟨u,rfl,HU5.out,HF5.out,HD1.out⟩
     ·skip
      go_wp2_with (first
       | (at_builtin;refine wpList_append_own _ rfl (.tmp 161) (.tmp 163) 22 rfl w.heap.size 53 i0 _ 4 40 underlying22 hi hz0 hz1 hz2 rfl (by omega) _ 1 _ rfl HO2.out ⟨bA,oA,none⟩ (n1 - 1) _ (r.flatMap CellD.cells) rfl ?k2 ?k3 (zaxY _) ?k5 ?k6 ?k4 ?_;(case k2=>(rw [zamY];have:=HRL.out;omega));(case k3=>(intro j u hu;exact absurd hu (by rw [HZA.out];simp)));(case k5=>(unfold maxLen;have:=HN7.out;omega));(case k6=>(have:=HN7.out;omega));(case k4=>exact HB2W.out.size);intro v8 w8 hown hgr _;obtain ⟨zA8,zc8,hv8⟩:=zafZ hown;subst hv8;have HO8:=hZz hown;have HB8:=hZz (HB2W.out.grown hgr HB2W.out.size (fun g hg=>(HO2.out.lt g hg).1));clear hown hgr)
       | (at_builtin;refine wpList_append_own _ rfl (.tmp 165) (.tmp 167) 22 rfl w.heap.size 53 i0 _ 4 40 underlying22 hi hz0 hz1 hz2 rfl (by omega) _ (1+(n1 - 1)) _ rfl HO8.out ⟨bB,oB+4,none⟩ (n2 - 1) _ (s.flatMap CellD.cells) rfl ?k2 ?k3 (zaxY _) ?k5 ?k6 ?k4 ?_;(case k2=>(rw [zamY];have:=HRL.out;omega));(case k3=>exact HTB.out _ HB8.out);(case k5=>(unfold maxLen;have:=HN7.out;omega));(case k6=>(have:=HN7.out;omega));(case k4=>exact HB8.out.size);intro v9 w9 hown hgr _;obtain ⟨zA9,zc9,hv9⟩:=zafZ hown;subst hv9;have HO9:=hZz hown;have HB9:=hZz (HB8.out.grown hgr HB8.out.size (fun g hg=>(HO8.out.lt g hg).1));clear hown hgr)
       | (go_at_call 48;have hov:=OVal.more (a:=(⟨5,0,⟨#[]⟩,nn+nn'⟩:CellD) :: r) (b:=s) HO9.out (by have:=HRL.out;simp only [List.length_cons];omega) (by simp);have hvv:=hov.val (by have:=HB36.out;simp only [List.length_append,List.length_cons];omega);rw [List.cons_append] at hvv;have HVV:=hZz hvv;clear hov hvv;(refine (HL52.out _ _ HB9.out HVV.out).mono ?_);rintro e w5 ⟨u,rfl,hu,hf,hb5⟩;have HU5:=hZz hu;have HF5:=hZz (hf.dropO HO9.out hb5 HB9.out.size);have HD1:=hZz (zabZ hb5 HB9.out HB9.out.size);clear hu hf hb5))
      rw [← HP.out,HR.out];exact ⟨u,rfl,HU5.out,HF5.out,HD1.out⟩
    ·skip
     by_cases hk2:k2=1
     ·subst hk2
      have HZB:Hid (s=[]):=hZz (List.eq_nil_of_length_eq_zero (by have:=HRL.out;omega))
      go_wp2_with (first
       | (at_builtin;refine wpList_append_own _ rfl (.tmp 161) (.tmp 163) 22 rfl w.heap.size 53 i0 _ 4 40 underlying22 hi hz0 hz1 hz2 rfl (by omega) _ 1 _ rfl HO2.out ⟨bA,oA+4,none⟩ (n1 - 1) _ (r.flatMap CellD.cells) rfl ?k2 ?k3 (zaxY _) ?k5 ?k6 ?k4 ?_;(case k2=>(rw [zamY];have:=HRL.out;omega));(case k3=>exact HTA.out _ HB2W.out);(case k5=>(unfold maxLen;have:=HN7.out;omega));(case k6=>(have:=HN7.out;omega));(case k4=>exact HB2W.out.size);intro v8 w8 hown hgr _;obtain ⟨zA8,zc8,hv8⟩:=zafZ hown;subst hv8;have HO8:=hZz hown;have HB8:=hZz (HB2W.out.grown hgr HB2W.out.size (fun g hg=>(HO2.out.lt g hg).1));clear hown hgr)
       | (at_builtin;refine wpList_append_own _ rfl (.tmp 165) (.tmp 167) 22 rfl w.heap.size 53 i0 _ 4 40 underlying22 hi hz0 hz1 hz2 rfl (by omega) _ (1+(n1 - 1)) _ rfl HO8.out ⟨bB,oB,none⟩ (n2 - 1) _ (s.flatMap CellD.cells) rfl ?k2 ?k3 (zaxY _) ?k5 ?k6 ?k4 ?_;(case k2=>(rw [zamY];have:=HRL.out;omega));(case k3=>(intro j u hu;exact absurd hu (by rw [HZB.out];simp)));(case k5=>(unfold maxLen;have:=HN7.out;omega));(case k6=>(have:=HN7.out;omega));(case k4=>exact HB8.out.size);intro v9 w9 hown hgr _;obtain ⟨zA9,zc9,hv9⟩:=zafZ hown;subst hv9;have HO9:=hZz hown;have HB9:=hZz (HB8.out.grown hgr HB8.out.size (fun g hg=>(HO8.out.lt g hg).1));clear hown hgr)
       | (go_at_call 48;have hov:=OVal.more (a:=(⟨5,0,⟨#[]⟩,nn+nn'⟩:CellD) :: r) (b:=s) HO9.out (by have:=HRL.out;simp only [List.length_cons];omega) (by simp);have hvv:=hov.val (by have:=HB36.out;simp only [List.length_append,List.length_cons];omega);rw [List.cons_append] at hvv;have HVV:=hZz hvv;clear hov hvv;(refine (HL52.out _ _ HB9.out HVV.out).mono ?_);rintro e w5 ⟨u,rfl,hu,hf,hb5⟩;have HU5:=hZz hu;have HF5:=hZz (hf.dropO HO9.out hb5 HB9.out.size);have HD1:=hZz (zabZ hb5 HB9.out HB9.out.size);clear hu hf hb5))
      rw [← HP.out,HR.out];exact ⟨u,rfl,HU5.out,HF5.out,HD1.out⟩
     ·skip
      go_wp2_with (first
       | (at_builtin;refine wpList_append_own _ rfl (.tmp 161) (.tmp 163) 22 rfl w.heap.size 53 i0 _ 4 40 underlying22 hi hz0 hz1 hz2 rfl (by omega) _ 1 _ rfl HO2.out ⟨bA,oA+4,none⟩ (n1 - 1) _ (r.flatMap CellD.cells) rfl ?k2 ?k3 (zaxY _) ?k5 ?k6 ?k4 ?_;(case k2=>(rw [zamY];have:=HRL.out;omega));(case k3=>exact HTA.out _ HB2W.out);(case k5=>(unfold maxLen;have:=HN7.out;omega));(case k6=>(have:=HN7.out;omega));(case k4=>exact HB2W.out.size);intro v8 w8 hown hgr _;obtain ⟨zA8,zc8,hv8⟩:=zafZ hown;subst hv8;have HO8:=hZz hown;have HB8:=hZz (HB2W.out.grown hgr HB2W.out.size (fun g hg=>(HO2.out.lt g hg).1));clear hown hgr)
       | (at_builtin;refine wpList_append_own _ rfl (.tmp 165) (.tmp 167) 22 rfl w.heap.size 53 i0 _ 4 40 underlying22 hi hz0 hz1 hz2 rfl (by omega) _ (1+(n1 - 1)) _ rfl HO8.out ⟨bB,oB+4,none⟩ (n2 - 1) _ (s.flatMap CellD.cells) rfl ?k2 ?k3 (zaxY _) ?k5 ?k6 ?k4 ?_;(case k2=>(rw [zamY];have:=HRL.out;omega));(case k3=>exact HTB.out _ HB8.out);(case k5=>(unfold maxLen;have:=HN7.out;omega));(case k6=>(have:=HN7.out;omega));(case k4=>exact HB8.out.size);intro v9 w9 hown hgr _;obtain ⟨zA9,zc9,hv9⟩:=zafZ hown;subst hv9;have HO9:=hZz hown;have HB9:=hZz (HB8.out.grown hgr HB8.out.size (fun g hg=>(HO8.out.lt g hg).1));clear hown hgr)
       | (go_at_call 48;have hov:=OVal.more (a:=(⟨5,0,⟨#[]⟩,nn+nn'⟩:CellD) :: r) (b:=s) HO9.out (by have:=HRL.out;simp only [List.length_cons];omega) (by simp);have hvv:=hov.val (by have:=HB36.out;simp only [List.length_append,List.length_cons];omega);rw [List.cons_append] at hvv;have HVV:=hZz hvv;clear hov hvv;(refine (HL52.out _ _ HB9.out HVV.out).mono ?_);rintro e w5 ⟨u,rfl,hu,hf,hb5⟩;have HU5:=hZz hu;have HF5:=hZz (hf.dropO HO9.out hb5 HB9.out.size);have HD1:=hZz (zabZ hb5 HB9.out HB9.out.size);clear hu hf hb5))
      rw [← HP.out,HR.out];exact ⟨u,rfl,HU5.out,HF5.out,HD1.out⟩
   ·have k5:(k' == 5)=false:=by simpa using h5'
    have hR0:BR=([],7):=by
     rw [HU.out,if_pos (fun e=>h5' e.symm)]
    have HR:=hZz hR0;clear HU hR0
    go_wp2_with (first
     | (go_at_call 45;(with_reducible refine (HCM.out _).mono ?_);rintro e w4 ⟨rfl,hw⟩;rw [hw];clear hw w4))
    rw [← HP.out];exact RetR.err HR.out HBW.out
  have k5:(k == 5)=false:=by simpa using h5
  have hR0:BR=([],7):=by
   rw [HU.out];by_cases h:k=k'
   ·rw [if_neg (by simp [h]),if_neg HC2.out,if_neg h3,if_neg (fun e=>h4 e.2),if_neg (fun e=>h5 e.2)]
   ·rw [if_pos h]
  have HR:=hZz hR0;clear HU hR0
  go_wp2_with (first
   | (go_at_call 45;(with_reducible refine (HCM.out _).mono ?_);rintro e w4 ⟨rfl,hw⟩;rw [hw];clear hw w4))
  rw [← HP.out];exact RetR.err HR.out HBW.out
 have HNP:Hid (op.toList≠[43]):=hZz hpl;have tp:=zaiZ hpl;clear hpl;by_cases h3:k=3
 ·subst h3
  by_cases h3':k'=3
  ·subst h3'
   have HIN2:=hZz (HIN.out rfl rfl HC2.out HE12.out.1 HE12.out.2);have HR:Hid (BR=arithR op.toList i i'):=hZz (by rw [HU.out,if_neg (by simp),if_neg HC2.out,if_pos rfl]);obtain ⟨AR,hAR⟩:∃ t,arithR op.toList i i'=t:=⟨_,rfl⟩
   rw [hAR] at HR HIN2;clear HU hAR
   go_upto_region 15 with (first
    | (go_at_call 45;(with_reducible refine (HCM.out _).mono ?_);rintro e w4 ⟨rfl,hw⟩;rw [hw];clear hw w4))
   have HSQ:Hid (∀ w',Below W.heap.size W w'→w'.cell? ⟨bA,oA+1,none⟩=some (.int .i64 i)∧w'.cell? ⟨bB,oB+1,none⟩=some (.int .i64 i')):=hZz (fun w' hb=>by have h:=HPC.out w' (zabZ hb HBW.out HBW.out.size);exact ⟨h.1.2.1,h.2.2.1⟩);have HD0:=hZz (zaeZ W)
   go_region_held3 (fun w'=>w'.cell? ⟨bA,oA+1,none⟩=some (.int .i64 i)∧w'.cell? ⟨bB,oB+1,none⟩=some (.int .i64 i')) (first | with_reducible exact HSQ.out _ HD0.out | with_reducible exact HSQ.out _ HD1.out | with_reducible exact HSQ.out _ HD2.out) (first
    | (go_at_call 47;(with_reducible refine (HIN2.out _).mono ?_);rintro e w5 ⟨u,rfl,hu,hf,hb5⟩;have HU5:=hZz hu;have HF5:=hZz hf;have HD1:=hZz (zadZ hb5 (zaeZ W));clear hu hf hb5))
   go_wp2_with (fail)
   rw [← HP.out,HR.out];exact ⟨u,rfl,HU5.out,HF5.out.up HBW.out.size (Below.refl _ _),zabZ HD1.out HBW.out HBW.out.size⟩
  ·have k3:(k' == 3)=false:=by simpa using h3'
   have hR0:BR=([],7):=by
    rw [HU.out,if_pos (fun e=>h3' e.symm)]
   have HR:=hZz hR0;clear HU hR0
   go_wp2_with (first
    | (go_at_call 45;(with_reducible refine (HCM.out _).mono ?_);rintro e w4 ⟨rfl,hw⟩;rw [hw];clear hw w4))
   rw [← HP.out];exact RetR.err HR.out HBW.out
 have k3:(k == 3)=false:=by simpa using h3
 by_cases h4:k=4
 ·subst h4
  by_cases h4':k'=4
  ·subst h4'
   have hR0:BR=([],7):=by
    rw [HU.out,if_neg (by simp),if_neg HC2.out,if_neg (by decide),if_neg (fun e=>HNP.out e.1),if_neg (fun e=>HNP.out e.1)]
   have HR:=hZz hR0;clear HU hR0
   go_wp2_with (first
    | (go_at_call 45;(with_reducible refine (HCM.out _).mono ?_);rintro e w4 ⟨rfl,hw⟩;rw [hw];clear hw w4))
   rw [← HP.out];exact RetR.err HR.out HBW.out
  ·have k4:(k' == 4)=false:=by simpa using h4'
   have hR0:BR=([],7):=by
    rw [HU.out,if_pos (fun e=>h4' e.symm)]
   have HR:=hZz hR0;clear HU hR0
   go_wp2_with (first
    | (go_at_call 45;(with_reducible refine (HCM.out _).mono ?_);rintro e w4 ⟨rfl,hw⟩;rw [hw];clear hw w4))
   rw [← HP.out];exact RetR.err HR.out HBW.out
 have k4:(k == 4)=false:=by simpa using h4
 by_cases h5:k=5
 ·subst h5
  by_cases h5':k'=5
  ·subst h5'
   have hR0:BR=([],7):=by
    rw [HU.out,if_neg (by simp),if_neg HC2.out,if_neg (by decide),if_neg (fun e=>HNP.out e.1),if_neg (fun e=>HNP.out e.1)]
   have HR:=hZz hR0;clear HU hR0
   go_wp2_with (first
    | (go_at_call 45;(with_reducible refine (HCM.out _).mono ?_);rintro e w4 ⟨rfl,hw⟩;rw [hw];clear hw w4))
   rw [← HP.out];exact RetR.err HR.out HBW.out
  ·have k5:(k' == 5)=false:=by simpa using h5'
   have hR0:BR=([],7):=by
    rw [HU.out,if_pos (fun e=>h5' e.symm)]
   have HR:=hZz hR0;clear HU hR0
   go_wp2_with (first
    | (go_at_call 45;(with_reducible refine (HCM.out _).mono ?_);rintro e w4 ⟨rfl,hw⟩;rw [hw];clear hw w4))
   rw [← HP.out];exact RetR.err HR.out HBW.out
 have k5:(k == 5)=false:=by simpa using h5
 have hR0:BR=([],7):=by
  rw [HU.out];by_cases h:k=k'
  ·rw [if_neg (by simp [h]),if_neg HC2.out,if_neg h3,if_neg (fun e=>h4 e.2),if_neg (fun e=>h5 e.2)]
  ·rw [if_pos h]
 have HR:=hZz hR0;clear HU hR0
 go_wp2_with (first
  | (go_at_call 45;(with_reducible refine (HCM.out _).mono ?_);rintro e w4 ⟨rfl,hw⟩;rw [hw];clear hw w4))
 rw [← HP.out];exact RetR.err HR.out HBW.out
end Go.Proofs.YtekdhlfapejijaaGreatDoor
