/- RO19, RO20 -/
import Derived.Test.YtekdhlfapejijaaGreatDoorPRO6
import Derived.Test.YtekdhlfapejijaaGreatDoorPH2
set_option linter.unusedVariables false
set_option linter.unusedSimpArgs false
namespace Go.Proofs.YtekdhlfapejijaaGreatDoor
open Go.RowKit
set_option maxRecDepth 100000
set_option maxHeartbeats 8000000
attribute [local go_sem] zacZ
open Go.Proofs.Tryz
theorem ba_ext {a b:ByteArray} (h:a.data.toList=b.data.toList):a=b:=ByteArray.ext (Array.ext' h)
theorem zcdY (a b:ByteArray):(a ++ b).data.toList=a.data.toList ++ b.data.toList:=by simp [ByteArray.data_append]
theorem ba_ext1 (s:ByteArray) (k:Nat) (h:k<s.size):(s.extract k (k+1)).data.toList=[s[k]]:=by
 have hk:k<s.data.toList.length:=by simpa using h
 rw [ByteArray.data_extract,Array.toList_extract];show ((s.data.toList.drop k).take (k+1 - k))=_;rw [Nat.add_sub_cancel_left,List.drop_eq_getElem_cons hk];simp [ByteArray.getElem_eq_getElem_data]
set_option maxHeartbeats 2000000 in
theorem fquoted_any (s:ByteArray) (w:World) (hs:s.size≤4294967296) :
  Calls prog 136 #[.string s] w fun e w'=>e=.returned (.string ⟨(quoteL s).toArray⟩)∧w'=w:=by
 go_enter func136,ntmps136
 go_wp2
 go_loop [3,4] (fun o i=>∃ (k:Nat) (t:ByteArray),k≤s.size∧o=.string t∧i=.int .i64 k∧Hid (t.data.toList=34 :: (s.data.toList.take k).flatMap escL)) (fun o i=>s.size - (intOf i).toNat)
 case atStart=>exact ⟨0,_,Nat.zero_le _,rfl,rfl,hZz rfl⟩
 case round =>
  obtain ⟨k,t,hk,rfl,rfl,HT⟩:=hrel;have hk0:(0:Int)≤(k:Int):=by omega
  have ht:t.size≤1+2 * k:=by
   have h1:=congrArg List.length HT.out;have h2:=escL_len (s.data.toList.take k);rw [List.length_take] at h2;rw [Array.length_toList,List.length_cons] at h1;show t.data.size≤_;omega
  by_cases hlt:k<s.size
  ·have hlt':(k:Int)<(s.size:Int):=by omega
   have hb1:¬ 9223372036854775807<t.size+1:=by omega
   have hb2:¬ 9223372036854775807<t.size+1+(min (k+1) s.size - k):=by omega
   have hb3:¬ 9223372036854775807<t.size+(min (k+1) s.size - k):=by omega
   have HSN:=hZz (esc_snoc s k hlt);have HE1:=hZz (ba_ext1 s k hlt);clear ht;by_cases h34:s[k]=34
   ·go_wp2_with (fail)
    refine ⟨⟨k+1,_,by omega,rfl,by simp,hZz ?_⟩,by simp [intOf];omega⟩
    rw [zcdY,zcdY,HE1.out,HSN.out,HT.out,h34];simp [escL]
   ·by_cases h92:s[k]=92
    ·go_wp2_with (fail)
     refine ⟨⟨k+1,_,by omega,rfl,by simp,hZz ?_⟩,by simp [intOf];omega⟩
     rw [zcdY,zcdY,HE1.out,HSN.out,HT.out,h92];simp [escL]
    ·have g34:((s[k].toNat:Int) == 34)=false:=beq_eq_false_iff_ne.mpr (ne_byte h34)
     have g92:((s[k].toNat:Int) == 92)=false:=beq_eq_false_iff_ne.mpr (ne_byte h92);go_wp2_with (fail)
     refine ⟨⟨k+1,_,by omega,rfl,by simp,hZz ?_⟩,by simp [intOf];omega⟩
     rw [zcdY,HE1.out,HSN.out,HT.out];simp [escL,h34,h92]
  ·have e:k=s.size:=by omega
   subst e;have hb1:¬ 9223372036854775807<t.size+1:=by omega
   clear ht;go_wp2
   go_ret;refine ⟨congrArg (fun x=>Ending.returned (.string x)) (ba_ext ?_),rfl⟩
   rw [zcdY,HT.out,List.take_of_length_le (by simp)];simp [quoteL]
set_option maxHeartbeats 4000000 in
theorem ftext_leaf (l:List CellD) (A:Option Addr) (cap:Nat) (hl:l.length≤1000000) (j n:Nat) (c:CellD) (r:ValD) (hcl:l[j]? = some c) (hco:okC c) (hpb:plainB c=true) (hk5:c.kind≠5) (hk6:c.kind≠6) (w:World) (hp:Pow w) (h:SlAt w A 4 CellD.cells l) :
  Calls prog 83 #[.slice A l.length cap,.int .i64 j] w fun e w'=>e=.returned (.string ⟨(textF (n+1) (c :: r)).toArray⟩)∧Below w.heap.size w w':=by
 obtain ⟨T,hT⟩:∃ T,textF (n+1) (c :: r)=T:=⟨_,rfl⟩
 rw [hT]
 have hT2:T=if c.kind=1 then nullL else if c.kind=2 then (if c.int=0 then falseL else trueL) else if c.kind=3 then Lib.itoa c.int else if c.kind=4 then quoteL c.str else []:=by
  rw [← hT];simp only [textF];split
  ·rfl
  split
  ·rfl
  split
  ·rfl
  split
  ·rfl
  ·have:=zb4Y hpb
   omega
 have HT:=hZz hT2;obtain ⟨P,hP⟩:∃ P:Ending→World→Prop,(fun e w'=>e=.returned (.string ⟨T.toArray⟩)∧Below w.heap.size w w')=P:=⟨_,rfl⟩
 rw [hP];have HP:Hid (∀ w',Below w.heap.size w w'→P (.returned (.string ⟨T.toArray⟩)) w'):=hZz (fun w' h=>by rw [← hP];exact ⟨rfl,h⟩);have hjl:j<l.length:=(List.getElem?_eq_some_iff.mp hcl).1;have hc:l[j]=c:=(List.getElem?_eq_some_iff.mp hcl).2;have hji:(j:Int)<(l.length:Int):=by omega
 have hj0:(0:Int)≤(j:Int):=by omega
 obtain ⟨bA,off,rfl,_⟩:=h.ptr hjl;have c0:=h.cell0 hjl (v:=.int .i64 c.kind) (by rw [hc];rfl);have c1:=h.cell hjl (j:=1) (v:=.int .i64 c.int) (by rw [hc];rfl);have c2:=h.cell hjl (j:=2) (v:=.string c.str) (by rw [hc];rfl);have c3:=h.cell hjl (j:=3) (v:=.int .i64 c.n) (by rw [hc];rfl);have hk:=zb4Y hpb;have HB:=hZz hpb;have hb0:=zabZ w (.cells #[.int .i64 c.kind,.int .i64 c.int,.string c.str,.int .i64 c.n] 53);have HB0:=hZz hb0;have HF:=hZz (Tryz.strconv_Itoa c.int hco.2.1.1 hco.2.1.2 _ (hp.below hb0));have HQ:=hZz (fquoted_any c.str (w.alloc (.cells #[.int .i64 c.kind,.int .i64 c.int,.string c.str,.int .i64 c.n] 53)) hco.1);clear hP hp hb0 h hco hcl hpb hc hT hT2;obtain ⟨k,i,s,nn⟩:=c;dsimp only at c0 c1 c2 c3 hk HF HQ HB0 hk5 hk6 HT;rcases hk with rfl | rfl | rfl | rfl | rfl | rfl
 ·go_enter func83,ntmps83
  go_wp2_with (fail)
  rw [HT.out] at HP;exact HP.out _ HB0.out
 ·have hi2:i=0∨i=1:=by
   have:=HB.out
   simp [plainB] at this
   exact this.1
  rcases hi2 with rfl | rfl
  ·go_enter func83,ntmps83
   go_wp2_with (fail)
   rw [HT.out] at HP;exact HP.out _ HB0.out
  ·go_enter func83,ntmps83
   go_wp2_with (fail)
   rw [HT.out] at HP;exact HP.out _ HB0.out
 ·go_enter func83,ntmps83
  go_wp2_with (first
   | (go_at_call 135;(with_reducible refine HF.out.mono ?_);rintro e w1 ⟨rfl,kk,os,hw1⟩;have HW:=hZz hw1;clear hw1))
  rw [HT.out] at HP;exact HP.out _ (zadZ (by rw [HW.out];exact zdaY _ kk os) HB0.out)
 ·go_enter func83,ntmps83
  go_wp2_with (first
   | (go_at_call 136;(with_reducible refine HQ.out.mono ?_);rintro e w1 ⟨rfl,hw1⟩;rw [hw1];clear hw1 w1))
  rw [HT.out] at HP;exact HP.out _ HB0.out
 ·exact absurd rfl hk5
 ·exact absurd rfl hk6
def TextE (l:ValD) (A:Option Addr) (cap n:Nat):Prop:=∀ p u q,l=p ++ u ++ q→checkF u=0→u.length≤n→∀ wx,Pow wx→SlAt wx A 4 CellD.cells l→∀ x:Int,x=(p.length:Nat)→Calls prog 83 #[.slice A l.length cap,.int .i64 x] wx fun e w'=>e=.returned (.string ⟨(textF n u).toArray⟩)∧Below wx.heap.size wx w'
theorem text_step {l p u q:ValD} {m:Bool} {D:Nat} {B:Int} {a:Nat} {p1:ByteArray × ValD} {td:List (ByteArray × ValD)} (e:l=p ++ u ++ q) (h:ChainV u m D B a (p1 :: td) u.length) :
  ∃ a' s,ChainV u m D B a' td u.length∧a+m.toNat<a'∧a'≤u.length∧px l (p.length+(a+m.toNat))=some s∧s.j=p.length+a'∧(∃ p' q',l=p' ++ p1.2 ++ q'∧p'.length=p.length+(a+m.toNat))∧(m=true→∃ c,l[p.length+a]? = some c∧c.str=p1.1):=by
 obtain ⟨j,g1,g2,g3,g4,g5,g6⟩:=h.at_le;have had:=(zapY g1).1;refine ⟨j.j,shE p.length j,g3,had,g5,?_,rfl,?_,fun hm=>?_⟩
 ·rw [e];exact parse_ext p u q _ _ _ g1
 ·refine ⟨p ++ u.take (a+m.toNat),u.drop j.j ++ q,?_,?_⟩
  ·have h1:u=u.take (a+m.toNat) ++ (p1.2 ++ u.drop j.j):=by
    rw [g2];unfold sec;have h2:(u.drop (a+m.toNat)).drop (j.j - (a+m.toNat))=u.drop j.j:=by rw [List.drop_drop];congr 1;omega
    rw [← h2,List.take_append_drop,List.take_append_drop]
   rw [e]
   conv=>lhs;rw [h1]
   simp
  ·rw [List.length_append,List.length_take];omega
 ·obtain ⟨c,h1,h2⟩:=g6 hm
  refine ⟨c,?_,h2.symm⟩
  rw [e,mid_get p u q a (List.getElem?_eq_some_iff.1 h1).1];exact h1
theorem ftext_list (l:ValD) (A:Option Addr) (cap n:Nat) (hl:l.length≤1000000) (hok:∀ c∈l,okC c) (IH:TextE l A cap n) (p q:ValD) (c:CellD) (r:ValD) (e:l=p ++ (c :: r) ++ q) (hu:checkF (c :: r)=0) (hk:c.kind=5) (hlen:(c :: r).length≤n+1) (w:World) (hp:Pow w) (h:SlAt w A 4 CellD.cells l) (x:Int) (hx:x=(p.length:Nat)) :
  Calls prog 83 #[.slice A l.length cap,.int .i64 x] w fun e w'=>e=.returned (.string ⟨(textF (n+1) (c :: r)).toArray⟩)∧Below w.heap.size w w':=by
 subst hx;have hou:OkV (c :: r):=zahZ hu;obtain ⟨T,hT⟩:∃ T,textF (n+1) (c :: r)=T:=⟨_,rfl⟩
 rw [hT];obtain ⟨q1,q2,q3,_⟩:=zacY hu (fun x hx=>zabY (hou.2 x hx)) (c:=c) rfl (.inl hk);have hpo:=part_ok hou hu (.inl hk);have hpl:=zagY hou hu (.inl hk)
 have hT2:T=91 :: (partsL false (textF n) true (partsOf (c :: r)) ++ [93]):=by
  rw [← hT];simp only [textF];rw [if_neg (by omega),if_neg (by omega),if_neg (by omega),if_neg (by omega),hk];rfl
 rw [hk,show decide ((5:Int)=6)=false from rfl] at q3;obtain ⟨ps,hps⟩:∃ t,partsOf (c :: r)=t:=⟨_,rfl⟩
 rw [hps] at q1 q3 hpo hpl hT2;obtain ⟨N,hN⟩:∃ t,ps.length=t:=⟨_,rfl⟩
 have hcn:c.n=(N:Int):=by omega
 have HN:=hZz hN;have hN200:N≤200:=by omega
 obtain ⟨j,hj⟩:∃ t,p.length=t:=⟨_,rfl⟩
 obtain ⟨nu,hnu⟩:∃ t,(c :: r).length=t:=⟨_,rfl⟩
 have hju:j+nu≤l.length:=by rw [e,← hj,← hnu];simp only [List.length_append];omega
 have hnu1:1≤nu:=by rw [← hnu];simp
 have hcl:l[j]? = some c:=by rw [e,← hj];simp
 rw [hj]
 have HSTEP:Hid (∀ a p1 td,p1∈ps→ChainV (c :: r) false 7 4000 a (p1 :: td) nu→∃ a',ChainV (c :: r) false 7 4000 a' td nu∧a+0<a'∧a'≤nu∧(∀ wx,SlAt wx A 4 CellD.cells l→Calls prog 113 #[.slice A l.length cap,.int .i64 ((j+(a+0):Nat):Int)] wx fun e w'=>e=.returned (.int .i64 ((j+a':Nat):Int))∧Below wx.heap.size wx w')∧(∀ wx,Pow wx→SlAt wx A 4 CellD.cells l→Calls prog 83 #[.slice A l.length cap,.int .i64 ((j+(a+0):Nat):Int)] wx fun e w'=>e=.returned (.string ⟨(textF n p1.2).toArray⟩)∧Below wx.heap.size wx w')∧(textF n p1.2).length≤86000):=hZz (fun a p1 td hm hch=>by
  rw [← hnu] at hch;obtain ⟨a',s,s1,s2,s3,s4,s5,⟨p',q',s6,s7⟩,s8⟩:=text_step (p:=p) (q:=q) e hch;obtain ⟨o1,o2,o3⟩:=hpo p1 hm;have s2:a+0<a':=s2;have s4:px l (p.length+(a+0))=some s:=s4;have s7:p'.length=p.length+(a+0):=s7;rw [hnu] at s1 s3 o3;rw [hj] at s4 s5 s7;refine ⟨a',s1,s2,s3,fun wx hxw=>?_,fun wx hpx hxw=>?_,textF_bd n o1 o2⟩
  ·have:=zbnY l A cap hl (fun c hc=>(hok c hc).c6) (j+(a+0)) (Nat.zero_le _) (by omega) wx hxw
   rw [s4] at this;rw [← s5];exact this
  ·exact IH p' p1.2 q' s6 o2 (by omega) wx hpx hxw _ (by rw [s7]))
 have hjl:j<l.length:=(List.getElem?_eq_some_iff.mp hcl).1;have hc:l[j]=c:=(List.getElem?_eq_some_iff.mp hcl).2;have HA:=hZz h;have HPW:=hZz hp;have HT:=hZz hT2;obtain ⟨P,hP⟩:∃ P:Ending→World→Prop,(fun e w'=>e=.returned (.string ⟨T.toArray⟩)∧Below w.heap.size w w')=P:=⟨_,rfl⟩
 rw [hP];have HP:Hid (∀ w' (t:ByteArray),t.data.toList=T→Below w.heap.size w w'→P (.returned (.string t)) w'):=hZz (fun w' t ht h=>by rw [← hP];exact ⟨congrArg (fun x=>Ending.returned (.string x)) (ba_ext (by rw [ht])),h⟩);have hji:(j:Int)<(l.length:Int):=by omega
 have hj0:(0:Int)≤(j:Int):=by omega
 have HJ:Hid (j+nu≤l.length∧1≤nu∧l.length≤1000000):=hZz ⟨hju,hnu1,hl⟩;obtain ⟨bA,off,rfl,_⟩:=h.ptr hjl;obtain ⟨i,hi⟩:∃ t,c.int=t:=⟨_,rfl⟩
 obtain ⟨s,hs⟩:∃ t,c.str=t:=⟨_,rfl⟩
 have c0:=h.cell0 hjl (v:=.int .i64 5) (by rw [hc,← hk];rfl);have c1:=h.cell hjl (j:=1) (v:=.int .i64 i) (by rw [hc,← hi];rfl);have c2:=h.cell hjl (j:=2) (v:=.string s) (by rw [hc,← hs];rfl);have c3:=h.cell hjl (j:=3) (v:=.int .i64 N) (by rw [hc,← hcn];rfl);have HBX:=hZz (Blk.new w 53 #[.int .i64 5,.int .i64 i,.string s,.int .i64 N]);have HB0:=hZz (zabZ w (.cells #[.int .i64 5,.int .i64 i,.string s,.int .i64 N] 53));obtain ⟨U,hU⟩:∃ t,c :: r=t:=⟨_,rfl⟩
 have HQ3:Hid (ChainV U false 7 4000 1 ps nu):=hZz (by rw [← hU,← hnu];exact q3);rw [hU] at HSTEP;clear hP IH e h hok hc hcl hp hT hT2 hu hk hlen hou q1 q2 q3 hpo hpl hps hN hju hnu1 hj hnu hi hs hcn hU;go_enter func83,ntmps83
 go_wp2_with (fail)
 go_loopw [6,7,8] (fun ov av kv wr=>∃ (a X:Nat) (dn td:List (ByteArray × ValD)) (tx:ByteArray),dn ++ td=ps∧kv=.int .i64 (dn.length:Nat)∧ov=.string tx∧av=.int .i64 X∧X=j+a∧a≤nu∧Hid (ChainV U false 7 4000 a td nu)∧Hid (tx.data.toList=partsL false (textF n) true dn)∧Hid (tx.size≤dn.length * 100000)∧Blk wr w.heap.size 53 #[.int .i64 5,.int .i64 i,.string s,.int .i64 N]∧Below w.heap.size w wr) (fun _ _ kv _=>N - (intOf kv).toNat)
 case atStart=>exact ⟨1,j+1,[],ps,_,rfl,rfl,rfl,by simp,rfl,HJ.out.2.1,HQ3,hZz rfl,hZz (Nat.le_refl _),HBX.out,HB0.out⟩
 case round =>
  obtain ⟨a,X,dn,td,tx,hdt,rfl,rfl,rfl,hX,han,HCH,HTX,HTZ,hbx,hbel⟩:=hrel;have HBXk:=hZz hbx;have HB:=hZz hbel;have b4:=blk4 hbx;have HDT:=hZz hdt;obtain ⟨K,hK⟩:∃ t,dn.length=t:=⟨_,rfl⟩
  have HK:=hZz hK;have hKN:K+td.length=N:=by rw [← HN.out,← hdt,List.length_append,hK]
  rw [hK] at HTZ ⊢;have hK0:(0:Int)≤(K:Int):=by omega
  have hK200:K≤200:=by omega
  have htz:tx.size≤20000000:=by have:=HTZ.out;omega
  clear hbx hbel hdt hK;cases td with
  | nil =>
   have ek:K=N:=by simpa using hKN
   subst ek;have HE:Hid (dn=ps):=hZz (by have:=HDT.out;simpa using this);have hz1:¬ 9223372036854775807<1+tx.size:=by omega
   have hz2:¬ 9223372036854775807<1+tx.size+1:=by omega
   clear hKN htz;go_wp2_with (fail)
   refine HP.out _ _ ?_ HB.out
   rw [zcdY,zcdY,HT.out,HTX.out,HE.out];rfl
  | cons p1 td' =>
   have hlt:K<N:=by simp only [List.length_cons] at hKN;omega
   have hlt':(K:Int)<(N:Int):=by omega
   have hmem:p1∈ps:=by rw [← HDT.out];simp
   obtain ⟨a',t1,t2,t3,t4,t5,t6⟩:=HSTEP.out a p1 td' hmem HCH.out;have HC2:=hZz t1;have hjs:=HJ.out;have hX0:(0:Int)≤(X:Int):=by omega
   have hX1:(X:Int)≤1000000:=by omega
   have hX2:(X:Int)<(l.length:Int):=by omega
   obtain ⟨Y,hY⟩:∃ t,j+a'=t:=⟨_,rfl⟩
   have HY:=hZz hY;rw [hY] at t4;have HNX:Hid (∀ wx,SlAt wx (some ⟨bA,off,none⟩) 4 CellD.cells l→Calls prog 113 #[.slice (some ⟨bA,off,none⟩) l.length cap,.int .i64 (X:Int)] wx fun e w'=>e=.returned (.int .i64 (Y:Nat))∧Below wx.heap.size wx w'):=hZz (fun wx hx=>by rw [show (X:Int)=((j+(a+0):Nat):Int) by omega];exact t4 wx hx);have HTXT:Hid (∀ wx,Pow wx→SlAt wx (some ⟨bA,off,none⟩) 4 CellD.cells l→Calls prog 83 #[.slice (some ⟨bA,off,none⟩) l.length cap,.int .i64 (X:Int)] wx fun e w'=>e=.returned (.string ⟨(textF n p1.2).toArray⟩)∧Below wx.heap.size wx w'):=hZz (fun wx hp hx=>by rw [show (X:Int)=((j+(a+0):Nat):Int) by omega];exact t5 wx hp hx);obtain ⟨Z,hZ⟩:∃ t,textF n p1.2=t:=⟨_,rfl⟩
   rw [hZ] at HTXT t6;have hzs:(⟨Z.toArray⟩:ByteArray).size=Z.length:=by show Z.toArray.size=_;simp
   obtain ⟨ZB,hZB⟩:∃ t:ByteArray,⟨Z.toArray⟩=t:=⟨_,rfl⟩
   rw [hZB] at HTXT hzs;have HZB:Hid (ZB.data.toList=textF n p1.2):=hZz (by rw [← hZB,hZ]);have HZS:Hid (ZB.size≤86000):=hZz (by omega);have HFIN:Hid (partsL false (textF n) true (dn ++ [p1])=partsL false (textF n) true dn ++ ((if (true && dn.isEmpty) then [] else [44]) ++ partL false (textF n) p1)):=hZz (zbpY _ _ _ _ _);have HA3:Hid (a'≤nu):=hZz t3;have g5:¬ 9223372036854775807<tx.size+ZB.size:=by have:=HZS.out;omega
   have g6:¬ 9223372036854775807<tx.size+1:=by omega
   have g7:¬ 9223372036854775807<tx.size+1+ZB.size:=by have:=HZS.out;omega
   clear hY t1 t2 t3 t4 t5 t6 hZ hzs hZB hjs hmem htz hX hKN;have hw1:IntKind.i64.wrap ((X:Int)+1)=(X:Int)+1:=IntWalk.i64_in _ (by omega);by_cases hkp:0<K
   ·have hkp':(0:Int)<(K:Int):=by omega
    have HIE:Hid (dn.isEmpty=false):=hZz (by
     have:=HK.out
     cases dn with
     | nil=>simp at this;omega
     | cons _ _=>rfl)
    clear hkp
    go_wp2_with (first
     | (go_at_call 83;(with_reducible refine (HTXT.out _ (HPW.out.below HB.out) (HA.out.below HB.out)).mono ?_);rintro e w1 ⟨rfl,hb1⟩;have hy1:=zaaZ hb1 HB.out HB.out.size;have HB1:=hZz hy1;have HBX1:=hZz (HBXk.out.below hb1);clear hb1 hy1)
     | (go_at_call 113;(with_reducible refine (HNX.out _ (HA.out.below HB1.out)).mono ?_);rintro e w2 ⟨rfl,hb2⟩;have HB2:=hZz (zaaZ hb2 HB1.out HB1.out.size);have HBX2:=hZz (HBX1.out.below hb2);clear hb2))
    refine ⟨⟨a',Y,dn ++ [p1],td',_,by rw [List.append_assoc];exact HDT.out,by rw [List.length_append,HK.out];rfl,rfl,rfl,HY.out.symm,HA3.out,HC2,hZz ?_,hZz ?_,HBX2.out,HB2.out⟩,by simp [intOf];omega⟩
    ·rw [HFIN.out,HIE.out]
     simp only [zcdY,HTX.out,HZB.out,partL];simp
    ·rw [List.length_append,HK.out]
     simp only [ByteArray.size_append];have e1:(⟨#[44]⟩:ByteArray).size=1:=rfl
     have:=HZS.out
     have:=HTZ.out
     simp only [List.length_singleton];omega
   ·have hkp':¬ (0:Int)<(K:Int):=by omega
    have HIE:Hid (dn.isEmpty=true):=hZz (by
     have:=HK.out
     cases dn with
     | nil=>rfl
     | cons _ _=>simp at this;omega)
    clear hkp
    go_wp2_with (first
     | (go_at_call 83;(with_reducible refine (HTXT.out _ (HPW.out.below HB.out) (HA.out.below HB.out)).mono ?_);rintro e w1 ⟨rfl,hb1⟩;have hy1:=zaaZ hb1 HB.out HB.out.size;have HB1:=hZz hy1;have HBX1:=hZz (HBXk.out.below hb1);clear hb1 hy1)
     | (go_at_call 113;(with_reducible refine (HNX.out _ (HA.out.below HB1.out)).mono ?_);rintro e w2 ⟨rfl,hb2⟩;have HB2:=hZz (zaaZ hb2 HB1.out HB1.out.size);have HBX2:=hZz (HBX1.out.below hb2);clear hb2))
    refine ⟨⟨a',Y,dn ++ [p1],td',_,by rw [List.append_assoc];exact HDT.out,by rw [List.length_append,HK.out];rfl,rfl,rfl,HY.out.symm,HA3.out,HC2,hZz ?_,hZz ?_,HBX2.out,HB2.out⟩,by simp [intOf];omega⟩
    ·rw [HFIN.out,HIE.out]
     simp only [zcdY,HTX.out,HZB.out,partL];simp
    ·rw [List.length_append,HK.out]
     simp only [ByteArray.size_append];have e1:(⟨#[44]⟩:ByteArray).size=1:=rfl
     have:=HZS.out
     have:=HTZ.out
     simp only [List.length_singleton];omega
theorem ftext_map (l:ValD) (A:Option Addr) (cap n:Nat) (hl:l.length≤1000000) (hok:∀ c∈l,okC c) (IH:TextE l A cap n) (p q:ValD) (c:CellD) (r:ValD) (e:l=p ++ (c :: r) ++ q) (hu:checkF (c :: r)=0) (hk:c.kind=6) (hlen:(c :: r).length≤n+1) (w:World) (hp:Pow w) (h:SlAt w A 4 CellD.cells l) (x:Int) (hx:x=(p.length:Nat)) :
  Calls prog 83 #[.slice A l.length cap,.int .i64 x] w fun e w'=>e=.returned (.string ⟨(textF (n+1) (c :: r)).toArray⟩)∧Below w.heap.size w w':=by
 subst hx;have hou:OkV (c :: r):=zahZ hu;obtain ⟨T,hT⟩:∃ T,textF (n+1) (c :: r)=T:=⟨_,rfl⟩
 rw [hT];obtain ⟨q1,q2,q3,_⟩:=zacY hu (fun x hx=>zabY (hou.2 x hx)) (c:=c) rfl (.inr hk);have hpo:=part_ok hou hu (.inr hk);have hpl:=zagY hou hu (.inr hk);have hkl:=zcjY hou hu hk
 have hT2:T=123 :: (partsL true (textF n) true (partsOf (c :: r)) ++ [125]):=by
  rw [← hT];simp only [textF];rw [if_neg (by omega),if_neg (by omega),if_neg (by omega),if_neg (by omega),hk];rfl
 rw [hk,show decide ((6:Int)=6)=true from rfl] at q3;obtain ⟨ps,hps⟩:∃ t,partsOf (c :: r)=t:=⟨_,rfl⟩
 rw [hps] at q1 q3 hpo hpl hT2 hkl;obtain ⟨N,hN⟩:∃ t,ps.length=t:=⟨_,rfl⟩
 have hcn:c.n=(N:Int):=by omega
 have HN:=hZz hN;have hN200:N≤200:=by omega
 obtain ⟨j,hj⟩:∃ t,p.length=t:=⟨_,rfl⟩
 obtain ⟨nu,hnu⟩:∃ t,(c :: r).length=t:=⟨_,rfl⟩
 have hju:j+nu≤l.length:=by rw [e,← hj,← hnu];simp only [List.length_append];omega
 have hnu1:1≤nu:=by rw [← hnu];simp
 have hcl:l[j]? = some c:=by rw [e,← hj];simp
 rw [hj]
 have HSTEP:Hid (∀ a p1 td,p1∈ps→ChainV (c :: r) true 7 4000 a (p1 :: td) nu→∃ a',ChainV (c :: r) true 7 4000 a' td nu∧a+1<a'∧a'≤nu∧(∀ wx,SlAt wx A 4 CellD.cells l→Calls prog 113 #[.slice A l.length cap,.int .i64 ((j+(a+1):Nat):Int)] wx fun e w'=>e=.returned (.int .i64 ((j+a':Nat):Int))∧Below wx.heap.size wx w')∧(∀ wx,Pow wx→SlAt wx A 4 CellD.cells l→Calls prog 83 #[.slice A l.length cap,.int .i64 ((j+(a+1):Nat):Int)] wx fun e w'=>e=.returned (.string ⟨(textF n p1.2).toArray⟩)∧Below wx.heap.size wx w')∧(textF n p1.2).length≤86000∧(quoteL p1.1).length≤402∧p1.1.size≤200∧∃ c,l[j+a]? = some c∧c.str=p1.1):=hZz (fun a p1 td hm hch=>by
  rw [← hnu] at hch;obtain ⟨a',s,s1,s2,s3,s4,s5,⟨p',q',s6,s7⟩,s8⟩:=text_step (p:=p) (q:=q) e hch;obtain ⟨o1,o2,o3⟩:=hpo p1 hm;have s2:a+1<a':=s2;have s4:px l (p.length+(a+1))=some s:=s4;have s7:p'.length=p.length+(a+1):=s7;rw [hnu] at s1 s3 o3;rw [hj] at s4 s5 s7;refine ⟨a',s1,s2,s3,fun wx hxw=>?_,fun wx hpx hxw=>?_,textF_bd n o1 o2,?_,hkl p1 hm,?_⟩
  ·have:=zbnY l A cap hl (fun c hc=>(hok c hc).c6) (j+(a+1)) (Nat.zero_le _) (by omega) wx hxw
   rw [s4] at this;rw [← s5];exact this
  ·exact IH p' p1.2 q' s6 o2 (by omega) wx hpx hxw _ (by rw [s7])
  ·have h1:=zblY p1.1
   have h2:=hkl p1 hm;omega
  ·have:=s8 rfl
   rw [hj] at this;exact this)
 have hjl:j<l.length:=(List.getElem?_eq_some_iff.mp hcl).1;have hc:l[j]=c:=(List.getElem?_eq_some_iff.mp hcl).2;have HA:=hZz h;have HPW:=hZz hp;have HT:=hZz hT2;obtain ⟨P,hP⟩:∃ P:Ending→World→Prop,(fun e w'=>e=.returned (.string ⟨T.toArray⟩)∧Below w.heap.size w w')=P:=⟨_,rfl⟩
 rw [hP];have HP:Hid (∀ w' (t:ByteArray),t.data.toList=T→Below w.heap.size w w'→P (.returned (.string t)) w'):=hZz (fun w' t ht h=>by rw [← hP];exact ⟨congrArg (fun x=>Ending.returned (.string x)) (ba_ext (by rw [ht])),h⟩);have hji:(j:Int)<(l.length:Int):=by omega
 have hj0:(0:Int)≤(j:Int):=by omega
 have HJ:Hid (j+nu≤l.length∧1≤nu∧l.length≤1000000):=hZz ⟨hju,hnu1,hl⟩;obtain ⟨bA,off,rfl,_⟩:=h.ptr hjl;obtain ⟨i,hi⟩:∃ t,c.int=t:=⟨_,rfl⟩
 obtain ⟨s,hs⟩:∃ t,c.str=t:=⟨_,rfl⟩
 have c0:=h.cell0 hjl (v:=.int .i64 6) (by rw [hc,← hk];rfl);have c1:=h.cell hjl (j:=1) (v:=.int .i64 i) (by rw [hc,← hi];rfl);have c2:=h.cell hjl (j:=2) (v:=.string s) (by rw [hc,← hs];rfl);have c3:=h.cell hjl (j:=3) (v:=.int .i64 N) (by rw [hc,← hcn];rfl);have HBX:=hZz (Blk.new w 53 #[.int .i64 6,.int .i64 i,.string s,.int .i64 N]);have HB0:=hZz (zabZ w (.cells #[.int .i64 6,.int .i64 i,.string s,.int .i64 N] 53));obtain ⟨U,hU⟩:∃ t,c :: r=t:=⟨_,rfl⟩
 have HQ3:Hid (ChainV U true 7 4000 1 ps nu):=hZz (by rw [← hU,← hnu];exact q3);rw [hU] at HSTEP;clear hP IH e h hok hc hcl hp hT hT2 hu hk hlen hou q1 q2 q3 hpo hpl hps hN hju hnu1 hj hnu hi hs hcn hU hkl;go_enter func83,ntmps83
 go_wp2_with (fail)
 go_loopw [6,7,8] (fun ov av kv wr=>∃ (a X:Nat) (dn td:List (ByteArray × ValD)) (tx:ByteArray),dn ++ td=ps∧kv=.int .i64 (dn.length:Nat)∧ov=.string tx∧av=.int .i64 X∧X=j+a∧a≤nu∧Hid (ChainV U true 7 4000 a td nu)∧Hid (tx.data.toList=partsL true (textF n) true dn)∧Hid (tx.size≤dn.length * 100000)∧Blk wr w.heap.size 53 #[.int .i64 6,.int .i64 i,.string s,.int .i64 N]∧Below w.heap.size w wr) (fun _ _ kv _=>N - (intOf kv).toNat)
 case atStart=>exact ⟨1,j+1,[],ps,_,rfl,rfl,rfl,by simp,rfl,HJ.out.2.1,HQ3,hZz rfl,hZz (Nat.le_refl _),HBX.out,HB0.out⟩
 case round =>
  obtain ⟨a,X,dn,td,tx,hdt,rfl,rfl,rfl,hX,han,HCH,HTX,HTZ,hbx,hbel⟩:=hrel;have HBXk:=hZz hbx;have HB:=hZz hbel;have b4:=blk4 hbx;have HDT:=hZz hdt;obtain ⟨K,hK⟩:∃ t,dn.length=t:=⟨_,rfl⟩
  have HK:=hZz hK;have hKN:K+td.length=N:=by rw [← HN.out,← hdt,List.length_append,hK]
  rw [hK] at HTZ ⊢;have hK0:(0:Int)≤(K:Int):=by omega
  have hK200:K≤200:=by omega
  have htz:tx.size≤20000000:=by have:=HTZ.out;omega
  clear hbx hbel hdt hK;cases td with
  | nil =>
   have ek:K=N:=by simpa using hKN
   subst ek;have HE:Hid (dn=ps):=hZz (by have:=HDT.out;simpa using this);have hz1:¬ 9223372036854775807<1+tx.size:=by omega
   have hz2:¬ 9223372036854775807<1+tx.size+1:=by omega
   clear hKN htz;go_wp2_with (fail)
   refine HP.out _ _ ?_ HB.out
   rw [zcdY,zcdY,HT.out,HTX.out,HE.out];rfl
  | cons p1 td' =>
   have hlt:K<N:=by simp only [List.length_cons] at hKN;omega
   have hlt':(K:Int)<(N:Int):=by omega
   have hmem:p1∈ps:=by rw [← HDT.out];simp
   obtain ⟨a',t1,t2,t3,t4,t5,t6,t7,t8,cc,t9,t10⟩:=HSTEP.out a p1 td' hmem HCH.out;have HC2:=hZz t1;have hjs:=HJ.out;have hX0:(0:Int)≤(X:Int):=by omega
   have hX1:(X:Int)≤1000000:=by omega
   have hX2:(X:Int)<(l.length:Int):=by omega
   have hXl:X<l.length:=by omega
   rw [← hX] at t9;have d2:=(HA.out.below HB.out).cell hXl (j:=2) (v:=.string p1.1) (by rw [(List.getElem?_eq_some_iff.mp t9).2,← t10];rfl);have HQ:Hid (∀ wx,Calls prog 136 #[.string p1.1] wx fun e w'=>e=.returned (.string ⟨(quoteL p1.1).toArray⟩)∧w'=wx):=hZz (fun wx=>fquoted_any p1.1 wx (by omega));obtain ⟨Y,hY⟩:∃ t,j+a'=t:=⟨_,rfl⟩
   have HY:=hZz hY;rw [hY] at t4;have HNX:Hid (∀ wx,SlAt wx (some ⟨bA,off,none⟩) 4 CellD.cells l→Calls prog 113 #[.slice (some ⟨bA,off,none⟩) l.length cap,.int .i64 ((X:Int)+1)] wx fun e w'=>e=.returned (.int .i64 (Y:Nat))∧Below wx.heap.size wx w'):=hZz (fun wx hx=>by rw [show ((X:Int)+1)=((j+(a+1):Nat):Int) by omega];exact t4 wx hx);have HTXT:Hid (∀ wx,Pow wx→SlAt wx (some ⟨bA,off,none⟩) 4 CellD.cells l→Calls prog 83 #[.slice (some ⟨bA,off,none⟩) l.length cap,.int .i64 ((X:Int)+1)] wx fun e w'=>e=.returned (.string ⟨(textF n p1.2).toArray⟩)∧Below wx.heap.size wx w'):=hZz (fun wx hp hx=>by rw [show ((X:Int)+1)=((j+(a+1):Nat):Int) by omega];exact t5 wx hp hx);obtain ⟨Z,hZ⟩:∃ t,textF n p1.2=t:=⟨_,rfl⟩
   rw [hZ] at HTXT t6;have hzs:(⟨Z.toArray⟩:ByteArray).size=Z.length:=by show Z.toArray.size=_;simp
   obtain ⟨ZB,hZB⟩:∃ t:ByteArray,⟨Z.toArray⟩=t:=⟨_,rfl⟩
   rw [hZB] at HTXT hzs;have HZB:Hid (ZB.data.toList=textF n p1.2):=hZz (by rw [← hZB,hZ]);have HZS:Hid (ZB.size≤86000):=hZz (by omega);have hqs:(⟨(quoteL p1.1).toArray⟩:ByteArray).size=(quoteL p1.1).length:=by show (quoteL p1.1).toArray.size=_;simp
   obtain ⟨QB,hQB⟩:∃ t:ByteArray,⟨(quoteL p1.1).toArray⟩=t:=⟨_,rfl⟩
   rw [hQB] at HQ hqs;have HQB:Hid (QB.data.toList=quoteL p1.1):=hZz (by rw [← hQB]);have hqs2:QB.size≤402:=by omega
   obtain ⟨k1,hk1⟩:∃ t,p1.1=t:=⟨_,rfl⟩
   have HK1:=hZz hk1;rw [hk1] at d2 HQ;have HFIN:Hid (partsL true (textF n) true (dn ++ [p1])=partsL true (textF n) true dn ++ ((if (true && dn.isEmpty) then [] else [44]) ++ partL true (textF n) p1)):=hZz (zbpY _ _ _ _ _);have HA3:Hid (a'≤nu):=hZz t3;have g5:¬ 9223372036854775807<tx.size+ZB.size:=by have:=HZS.out;omega
   have g6:¬ 9223372036854775807<tx.size+1:=by omega
   have g7:¬ 9223372036854775807<tx.size+1+ZB.size:=by have:=HZS.out;omega
   have f1:¬ 9223372036854775807<tx.size+QB.size:=by omega
   have f2:¬ 9223372036854775807<QB.size+1:=by omega
   have f3:¬ 9223372036854775807<tx.size+(QB.size+1):=by omega
   have f4:¬ 9223372036854775807<tx.size+QB.size+1:=by omega
   have f5:¬ 9223372036854775807<tx.size+QB.size+1+ZB.size:=by have:=HZS.out;omega
   have f6:¬ 9223372036854775807<tx.size+(QB.size+1)+ZB.size:=by have:=HZS.out;omega
   have f7:¬ 9223372036854775807<tx.size+1+QB.size:=by omega
   have f8:¬ 9223372036854775807<tx.size+1+(QB.size+1):=by omega
   have f9:¬ 9223372036854775807<tx.size+1+QB.size+1:=by omega
   have f10:¬ 9223372036854775807<tx.size+1+QB.size+1+ZB.size:=by have:=HZS.out;omega
   have f11:¬ 9223372036854775807<tx.size+1+(QB.size+1)+ZB.size:=by have:=HZS.out;omega
   have HQS:Hid (QB.size≤402):=hZz hqs2;clear hY t1 t2 t3 t4 t5 t6 t7 t8 t9 t10 hXl hqs hQB hqs2 hk1 hZ hzs hZB hjs hmem htz hX hKN;have hw1:IntKind.i64.wrap ((X:Int)+1)=(X:Int)+1:=IntWalk.i64_in _ (by omega);by_cases hkp:0<K
   ·have hkp':(0:Int)<(K:Int):=by omega
    have HIE:Hid (dn.isEmpty=false):=hZz (by
     have:=HK.out
     cases dn with
     | nil=>simp at this;omega
     | cons _ _=>rfl)
    clear hkp
    go_wp2_with (first
     | (go_at_call 136;(with_reducible refine (HQ.out _).mono ?_);rintro e w9 ⟨rfl,hw9⟩;rw [hw9];clear hw9 w9)
     | (go_at_call 83;(with_reducible refine (HTXT.out _ (HPW.out.below HB.out) (HA.out.below HB.out)).mono ?_);rintro e w1 ⟨rfl,hb1⟩;have hy1:=zaaZ hb1 HB.out HB.out.size;have HB1:=hZz hy1;have HBX1:=hZz (HBXk.out.below hb1);clear hb1 hy1)
     | (go_at_call 113;(with_reducible refine (HNX.out _ (HA.out.below HB1.out)).mono ?_);rintro e w2 ⟨rfl,hb2⟩;have HB2:=hZz (zaaZ hb2 HB1.out HB1.out.size);have HBX2:=hZz (HBX1.out.below hb2);clear hb2))
    refine ⟨⟨a',Y,dn ++ [p1],td',_,by rw [List.append_assoc];exact HDT.out,by rw [List.length_append,HK.out];rfl,rfl,rfl,HY.out.symm,HA3.out,HC2,hZz ?_,hZz ?_,HBX2.out,HB2.out⟩,by simp [intOf];omega⟩
    ·rw [HFIN.out,HIE.out]
     simp only [zcdY,HTX.out,HZB.out,HQB.out,HK1.out,partL];simp
    ·rw [List.length_append,HK.out]
     simp only [ByteArray.size_append];have e1:(⟨#[44]⟩:ByteArray).size=1:=rfl;have e2:(⟨#[58]⟩:ByteArray).size=1:=rfl
     have:=HQS.out
     have:=HZS.out
     have:=HTZ.out
     simp only [List.length_singleton];omega
   ·have hkp':¬ (0:Int)<(K:Int):=by omega
    have HIE:Hid (dn.isEmpty=true):=hZz (by
     have:=HK.out
     cases dn with
     | nil=>rfl
     | cons _ _=>simp at this;omega)
    clear hkp
    go_wp2_with (first
     | (go_at_call 136;(with_reducible refine (HQ.out _).mono ?_);rintro e w9 ⟨rfl,hw9⟩;rw [hw9];clear hw9 w9)
     | (go_at_call 83;(with_reducible refine (HTXT.out _ (HPW.out.below HB.out) (HA.out.below HB.out)).mono ?_);rintro e w1 ⟨rfl,hb1⟩;have hy1:=zaaZ hb1 HB.out HB.out.size;have HB1:=hZz hy1;have HBX1:=hZz (HBXk.out.below hb1);clear hb1 hy1)
     | (go_at_call 113;(with_reducible refine (HNX.out _ (HA.out.below HB1.out)).mono ?_);rintro e w2 ⟨rfl,hb2⟩;have HB2:=hZz (zaaZ hb2 HB1.out HB1.out.size);have HBX2:=hZz (HBX1.out.below hb2);clear hb2))
    refine ⟨⟨a',Y,dn ++ [p1],td',_,by rw [List.append_assoc];exact HDT.out,by rw [List.length_append,HK.out];rfl,rfl,rfl,HY.out.symm,HA3.out,HC2,hZz ?_,hZz ?_,HBX2.out,HB2.out⟩,by simp [intOf];omega⟩
    ·rw [HFIN.out,HIE.out]
     simp only [zcdY,HTX.out,HZB.out,HQB.out,HK1.out,partL];simp
    ·rw [List.length_append,HK.out]
     simp only [ByteArray.size_append];have e1:(⟨#[44]⟩:ByteArray).size=1:=rfl;have e2:(⟨#[58]⟩:ByteArray).size=1:=rfl
     have:=HQS.out
     have:=HZS.out
     have:=HTZ.out
     simp only [List.length_singleton];omega
end Go.Proofs.YtekdhlfapejijaaGreatDoor
