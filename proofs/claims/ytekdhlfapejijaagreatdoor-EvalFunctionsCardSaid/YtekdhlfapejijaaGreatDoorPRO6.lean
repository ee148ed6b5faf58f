/- RO4, RO5, RO6 -/
import Derived.Test.YtekdhlfapejijaaGreatDoorPRO2
import Derived.Test.YtekdhlfapejijaaGreatDoorPE26
set_option linter.unusedVariables false
set_option linter.unusedSimpArgs false
namespace Go.Proofs.YtekdhlfapejijaaGreatDoor
open Go.RowKit
set_option maxRecDepth 100000
set_option maxHeartbeats 8000000
attribute [local go_sem] zacZ
open Go.Proofs.Tryz
theorem tail_cells {w:World} {b off:Nat} {x:CellD} {r:ValD} (h:SlAt w (some ⟨b,off,none⟩) 4 CellD.cells (x :: r)):∀ w',Below w.heap.size w w'→∀ (j:Nat) (u:Value),(r.flatMap CellD.cells)[j]? = some u→w'.cell? ((⟨b,off+4,none⟩:Addr).add j)=some u:=by
 obtain ⟨b',off',e,hh⟩:=zdbY h (by simp);injection e with e
 injection e with e1 e2
 subst e1 e2;intro w' hb j u hj
 have:=hh w' hb (4+j) u (by
  rw [List.flatMap_cons,List.getElem?_append_right (by simp [CellD.cells])];simpa [CellD.cells] using hj)
 rw [zanY] at this ⊢;rw [show off+4+j=off+(4+j) by omega];exact this
theorem list_n {c:CellD} {r:ValD} (h:checkF (c :: r)=0) (ho:OkV (c :: r)) (hk:c.kind=5):0≤c.n∧c.n≤200∧r.length≤200:=by
 obtain ⟨h1,h2,h3,_⟩:=zacY h (fun x hx=>zabY (ho.2 x hx)) (c:=c) rfl (.inl hk)
 have:=h3.len
 obtain ⟨_,_,_,_,_,h4,_⟩:=checkF_zero.1 h;simp only [List.length_cons] at this h4;omega
theorem zaiZ {w w':World} {b off:Nat} {u:Value} (h:w.cell? ⟨b,off,none⟩=some u) (hb:Below w.heap.size w w'):w'.cell? ⟨b,off,none⟩=some u:=(hb.cell (bLZ h)).trans h
theorem sec_snoc {v:ValD} {a k:Nat} (h:a≤k) (hk:k<v.length):sec v a (k+1)=sec v a k ++ [v[k]]:=by
 unfold sec;rw [show k+1 - a=k - a+1 by omega,List.take_succ_eq_append_getElem (by rw [List.length_drop];omega)];congr 2
 rw [List.getElem_drop];congr 1
 omega
theorem fpart_any (l:ValD) (A:Option Addr) (n cap a b:Nat) (w:World) (hV:ValV w (.slice A n cap) l) (hab:a≤b) (hb:b≤l.length) (hl:l.length≤1000000) :
  Calls prog 114 #[.slice A n cap,.int .i64 a,.int .i64 b] w fun e w'=>∃ u,e=.returned u∧OVal w' w.heap.size u (sec l a b)∧Below w.heap.size w w':=by
 obtain ⟨P,hP⟩:∃ P:Ending→World→Prop,(fun e w'=>∃ u,e=.returned u∧OVal w' w.heap.size u (sec l a b)∧Below w.heap.size w w')=P:=⟨_,rfl⟩
 rw [hP];have HP:=hZz hP;obtain ⟨A',cap',e,hc,hm,hs⟩:=hV.at;injection e with e1 e2 e3
 subst e1 e2 e3;obtain ⟨i0,hi,hz0,hz1,hz2⟩:=info_parts Tryz.infoCell;have HS:=hZz hs;obtain ⟨n,hn⟩:∃ n,l.length=n:=⟨_,rfl⟩
 have HN:=hZz hn;rw [hn] at hb hl hc ⊢;have hb':(b:Int)≤(n:Int):=by omega
 clear hP hV hs hn hm;go_enter func114,ntmps114
 go_upto_region 3 with (fail)
 go_loopw [7,8] (fun ov iv wr=>∃ k:Nat,a≤k∧k≤b∧iv=.int .i64 k∧Hid (OVal wr w.heap.size ov (sec l a k))∧Hid (Below w.heap.size w wr)) (fun _ iv _=>b - (intOf iv).toNat)
 case atStart=>exact ⟨a,Nat.le_refl _,hab,rfl,hZz (by rw [show sec l a a=[] by simp [sec]];exact World.ownsRow_nil _ _ _ _),hZz (Below.refl _ _)⟩
 case round =>
  obtain ⟨k,hak,hkb,rfl,HO,HB⟩:=hrel;have hk0:(0:Int)≤(k:Int):=by omega
  by_cases hlt:k<b
  ·have hlt':(k:Int)<(b:Int):=by omega
   have hkn:k<l.length:=by rw [HN.out];omega
   have hkn':(k:Int)<(n:Int):=by omega
   obtain ⟨bA,off,hA,_⟩:=HS.out.ptr hkn;subst hA;have HSN:=hZz (sec_snoc (v:=l) hak hkn);have HSL:=hZz (sec_len l a k (Nat.le_of_lt hkn));have hsr:=HS.out.below HB.out;obtain ⟨⟨ck,ci,cs,cn⟩,hcell⟩:∃ c,l[k]=c:=⟨_,rfl⟩
   have c0:=hsr.cell0 hkn (v:=.int .i64 ck) (by rw [hcell];rfl);have c1:=hsr.cell hkn (j:=1) (v:=.int .i64 ci) (by rw [hcell];rfl);have c2:=hsr.cell hkn (j:=2) (v:=.string cs) (by rw [hcell];rfl);have c3:=hsr.cell hkn (j:=3) (v:=.int .i64 cn) (by rw [hcell];rfl);rw [hcell] at HSN;have hown:=HO.out;unfold OVal at hown;rw [HSL.out] at hown;obtain ⟨oA,oc,hov⟩:=zaeZ hown;subst hov;have HOW:=hZz hown;have hsz:w.heap.size≤wr.heap.size:=HB.out.size;have hkm:k - a≤1000000:=by omega
   clear hsr hcell hown hkn
   go_wp2_with (first
    | (at_builtin;refine zakZ rfl (.tmp 15) (.tmp 20) 22 rfl i0 _ 40 underlying22 hi hz0 hz1 hz2 rfl (by omega) rfl HOW.out [.int .i64 ck,.int .i64 ci,.string cs,.int .i64 cn] rfl rfl (cells4 _ _ _ _) hkm (by omega) hsz ?_;intro v2 w2 hown2 hb2 hs2 _;have HO2:=hZz hown2;have HB2:=hZz hb2;clear hown2 hb2 hs2))
   refine ⟨⟨k+1,by omega,by omega,by simp,hZz ?_,hZz (HB.out.trans HB2.out)⟩,by simp [intOf];omega⟩
   rw [HSN.out];have h:=OVal.more (a:=sec l a k) (b:=[⟨ck,ci,cs,cn⟩]) HO2.out (by rw [HSL.out];rfl) rfl;exact h
  ·have e:k=b:=by omega
   subst e;go_wp2_with (fail)
   rw [← HP.out];exact ⟨_,rfl,HO.out,HB.out⟩
theorem ChainV.at_le {v:ValD} {m:Bool} {D:Nat} {B:Int} {a:Nat} {l:List (ByteArray × ValD)} {p:ByteArray × ValD} (h:ChainV v m D B a (p :: l) v.length):∃ j,px v (a+m.toNat)=some j∧p.2=sec v (a+m.toNat) j.j∧ChainV v m D B j.j l v.length∧a+m.toNat≤j.j∧j.j≤v.length∧(m=true→∃ c,v[a]? = some c∧p.1=c.str):=by
 obtain ⟨j,h1,h2,h3,h4⟩:=h.head;have h5:=h4.le;have h6:a+m.toNat<j.j:=(zapY h2).1;refine ⟨j,h2,h3,h4,by omega,h5,fun hm=>?_⟩
 rw [if_pos hm] at h1;obtain ⟨c,g1,_,_,g2⟩:=h1;exact ⟨c,g1,g2⟩
set_option maxHeartbeats 16000000 in
theorem zc7Y (l:ValD) (v:Value) (w:World) (h:ValV w v l) (hp:Pow w) (ho:OkV l) :
  Calls prog 63 #[v] w (RetL w (itemsR l)):=by
 obtain ⟨P,hP⟩:∃ P:Ending→World→Prop,RetL w (itemsR l)=P:=⟨_,rfl⟩
 rw [hP];have HP:=hZz hP;obtain ⟨A,cap,rfl,hcp,hm,hs⟩:=h.at;have HCK0:=zarY l A cap w hs hp ho.1 ho.2;by_cases hck:checkF l=0
 case neg =>
  have HR:Hid (itemsR l=([],checkF l)):=hZz (by unfold itemsR;rw [if_pos hck]);obtain ⟨ck,hc⟩:∃ c,checkF l=c:=⟨_,rfl⟩
  obtain ⟨n,hn⟩:∃ n,l.length=n:=⟨_,rfl⟩
  rw [hc] at HCK0 HR hck;rw [hn] at HCK0 ⊢;have HCK:=hZz HCK0;have hck':(ck != 0)=true:=by simpa using hck
  clear hck h hp ho hP hc HCK0 hs hcp hm hn;go_enter func63,ntmps63
  go_wp2_with (first
   | (go_at_call 34;((with_reducible refine HCK.out.mono ?_);rintro e w1 ⟨rfl,hb1⟩;have HB1:=hZz hb1;clear hb1)))
  rw [← HP.out];exact ⟨.slice none 0 0,by rw [HR.out];rfl,by rw [HR.out];exact ValsO.nil _ _,HB1.out⟩
 obtain ⟨c,r,rfl⟩:∃ c r,l=c :: r:=by
  cases l with
  | nil=>exact absurd rfl (zaoZ hck)
  | cons c r=>exact ⟨c,r,rfl⟩
 rw [hck] at HCK0;obtain ⟨b,off,n',cap',e,hn',c0,c1,c2,c3⟩:=zanZ h;injection e with e1 e2 e3
 subst e1 e2 e3;have HC0:=hZz c0;have HC3:=hZz c3;by_cases hk:c.kind=5∨c.kind=6
 case neg =>
  have HR:Hid (itemsR (c :: r)=([],7)):=hZz (by unfold itemsR;rw [if_neg (by simpa using hck)];simp only;rw [if_neg hk]);have k5:¬ c.kind=5:=fun e=>hk (.inl e)
  have k6:¬ c.kind=6:=fun e=>hk (.inr e)
  obtain ⟨k,i,s,nn⟩:=c;dsimp only at k5 k6 HC0;have k5':(k != 5)=true:=by simpa using k5
  have k6':(k != 6)=true:=by simpa using k6
  have hpos:(0:Int)<((((⟨k,i,s,nn⟩:CellD) :: r).length:Nat):Int):=by simp
  obtain ⟨N,hN⟩:∃ N,((⟨k,i,s,nn⟩:CellD) :: r).length=N:=⟨_,rfl⟩
  rw [hN] at HCK0 hpos ⊢;have HCK:=hZz HCK0;clear hck h hp ho hP HCK0 hs hcp hm hn' hk k5 k6 c0 c1 c2 c3 hN;go_enter func63,ntmps63
  go_wp2_with (first
   | (go_at_call 34;((with_reducible refine HCK.out.mono ?_);rintro e w1 ⟨rfl,hb1⟩;have HB1:=hZz hb1;have d0:=zaiZ HC0.out hb1;clear hb1)))
  rw [← HP.out];exact ⟨.slice none 0 0,by rw [HR.out];rfl,by rw [HR.out];exact ValsO.nil _ _,HB1.out⟩
 have HR:=hZz (za9Y hck hk);have hsm:∀ x∈c :: r,SmallC x:=fun x hx=>zabY (ho.2 x hx)
 obtain ⟨q1,q2,q3,_⟩:=zacY hck hsm (c:=c) rfl hk;have hpl:=zagY ho hck hk;obtain ⟨_,_,_,_,_,hl200,_⟩:=checkF_zero.1 hck;obtain ⟨L,hL⟩:∃ L,c :: r=L:=⟨_,rfl⟩
 have HNX:Hid (NextFrom L (some ⟨b,off,none⟩) cap 0):=hZz (by rw [← hL];exact zbnY (c :: r) (some ⟨b,off,none⟩) cap ho.1 (fun x hx=>(ho.2 x hx).c6))
 --LOOP
 have HSL:Hid (SlAt w (some ⟨b,off,none⟩) 4 CellD.cells L):=hZz (by rw [← hL];exact hs);have HVL:Hid (ValV w (.slice (some ⟨b,off,none⟩) L.length cap) L):=hZz (by rw [← hL];exact h);have HL1:Hid (L.length≤200):=hZz (by rw [← hL];exact hl200);obtain ⟨ps,hps⟩:∃ x,partsOf (c :: r)=x:=⟨_,rfl⟩
 rw [hps] at q1 q3 hpl HR;rw [hL] at q3 HR HCK0 HP ⊢;obtain ⟨N,hN⟩:∃ x,ps.length=x:=⟨_,rfl⟩
 have hcn:c.n=(N:Int):=by omega
 have HN:=hZz hN;rw [hcn] at HC3;have hN200:N≤200:=by omega
 obtain ⟨nL,hnL⟩:∃ x,L.length=x:=⟨_,rfl⟩
 have hpos:(0:Int)<(nL:Int):=by rw [← hnL,← hL];simp
 rw [hnL] at HCK0 HL1 HVL q3 ⊢;have HNL:=hZz hnL;obtain ⟨m,hmk⟩:∃ x,decide (c.kind=6)=x:=⟨_,rfl⟩
 rw [hmk] at q3;have HQ3:=hZz q3;have HCK:=hZz HCK0;obtain ⟨i1,hj,hy0,hy1,hy2⟩:=info_parts Tryz.infoVal
 have hk2:(c.kind=5∧m=false)∨(c.kind=6∧m=true):=by
  rcases hk with e | e
  ·exact .inl ⟨e,by rw [← hmk,e];rfl⟩
  ·exact .inr ⟨e,by rw [← hmk,e];rfl⟩
 obtain ⟨k,hkk⟩:∃ x,c.kind=x:=⟨_,rfl⟩
 rw [hkk] at HC0 hk2;clear hck h hp ho hP HCK0 hs hcp hm hn' hk c0 c1 c2 c3 q1 q2 q3 hsm hpl hl200 hL hps hN hcn hnL hmk hkk;rcases hk2 with ⟨rfl,rfl⟩ | ⟨rfl,rfl⟩
 ·go_enter func63,ntmps63
  go_upto_region 9 with (first
   | (go_at_call 34;((with_reducible refine HCK.out.mono ?_);rintro e w1 ⟨rfl,hb1⟩;have HB1:=hZz hb1;have d0:=zaiZ HC0.out hb1;clear hb1)))
  clear d0;go_loopw [5,6,7,8] (fun ov av kv _ wr=>∃ (a:Nat) (dn td:List (ByteArray × ValD)),dn ++ td=ps∧kv=.int .i64 (dn.length:Nat)∧av=.int .i64 (a:Nat)∧Hid (ChainV L false 7 4000 a td nL)∧Hid (ValsO wr w.heap.size ov (dn.map (fun p:ByteArray × ValD=>p.2)))∧Hid (Below w.heap.size w wr)) (fun _ _ kv _ _=>N - (intOf kv).toNat)
  case atStart=>exact ⟨1,[],ps,rfl,rfl,rfl,HQ3,hZz (ValsO.nil _ _),HB1⟩
  case round =>
   obtain ⟨a,dn,td,hdt,rfl,rfl,HCH,HV,HB⟩:=hrel;have HDT:=hZz hdt;obtain ⟨K,hK⟩:∃ x,dn.length=x:=⟨_,rfl⟩
   have HK:=hZz hK;have hKN:K+td.length=N:=by rw [← HN.out,← hdt,List.length_append,hK]
   rw [hK];have d0:=zaiZ HC0.out HB.out;have d3:=zaiZ HC3.out HB.out;have hK0:(0:Int)≤(K:Int):=by omega
   have hK200:K≤200:=by omega
   clear hdt hK;cases td with
   | nil =>
    have e:K=N:=by simpa using hKN
    subst e;have HE:Hid (dn=ps):=hZz (by have:=HDT.out;simpa using this);clear hKN;go_wp2_with (fail)
    rw [← HP.out];exact ⟨_,by rw [HR.out];rfl,by rw [HR.out,← HE.out];exact HV.out,HB.out⟩
   | cons p td' =>
    have hlt:K<N:=by simp only [List.length_cons] at hKN;omega
    have hlt':(K:Int)<(N:Int):=by omega
    obtain ⟨j,g1,g2,g3,g4,g5,_⟩:=ChainV.at_le (v:=L) (by rw [HNL.out];exact HCH.out);rw [HNL.out] at g3 g5;have g1:px L a=some j:=g1;have g2:p.2=sec L a j.j:=g2;have g4:a≤j.j:=g4;have ha200:a≤200:=by have:=HL1.out;omega
    have hw1:IntKind.i64.wrap ((a:Int)+1)=(a:Int)+1:=IntWalk.i64_in _ (by omega)
    have HNX2:Hid (∀ wx,Below w.heap.size w wx→Calls prog 113 #[.slice (some ⟨b,off,none⟩) nL cap,.int .i64 (a:Int)] wx fun e w'=>e=.returned (.int .i64 (j.j:Nat))∧Below wx.heap.size wx w'):=hZz (fun wx hb=>by
     have:=HNX.out a (Nat.zero_le _) (by rw [HNL.out];omega) wx (HSL.out.below hb)
     rw [g1,HNL.out] at this;exact this)
    have HPT:Hid (∀ wx,Below w.heap.size w wx→Calls prog 114 #[.slice (some ⟨b,off,none⟩) nL cap,.int .i64 (a:Int),.int .i64 (j.j:Nat)] wx fun e w'=>∃ uA un uc,e=.returned (.slice uA un uc)∧OVal w' wx.heap.size (.slice uA un uc) p.2∧p.2.length≤200∧Below wx.heap.size wx w'):=hZz (fun wx hb=>(fpart_any L (some ⟨b,off,none⟩) nL cap a j.j wx (HVL.out.below hb) g4 (by rw [HNL.out];exact g5) (by rw [HNL.out];have:=HL1.out;omega)).mono fun e w' ⟨u,he,hu,hb2⟩=>by
     obtain ⟨uA,uc,rfl⟩:=zaeZ (show w'.ownsRow wx.heap.size 53 4 u _ _ from hu);exact ⟨uA,_,uc,he,by rw [g2];exact hu,by rw [g2,sec_len _ _ _ (by rw [HNL.out];exact g5)];have:=HL1.out;omega,hb2⟩)
    obtain ⟨vs,ho,hvl,hvt⟩:=HV.out;rw [List.length_map,HK.out] at ho;obtain ⟨oA,oc,hov⟩:=zaeZ ho;subst hov;have HO:=hZz ho;have HVL2:=hZz hvl;have HVT:=hZz hvt;have HG3:=hZz g3;have HBS:Hid (w.heap.size≤wr.heap.size):=hZz HB.out.size;obtain ⟨jj,hjj⟩:∃ x,j.j=x:=⟨_,rfl⟩
    rw [hjj] at HNX2 HPT HG3;clear ho hvl hvt g1 g2 g3 g4 g5 hKN hjj
    go_wp2_with (first
     | (go_at_call 113;((with_reducible refine (HNX2.out _ HB.out).mono ?_);rintro e w2 ⟨rfl,hb2⟩;have HB2:=hZz hb2;have HB2W:=hZz (zaaZ hb2 HB.out HB.out.size);clear hb2))
     | (go_at_call 114;((with_reducible refine (HPT.out _ HB2W.out).mono ?_);rintro e w3 ⟨uA,un,uc,rfl,hu,hul,hb3⟩;have HU:=hZz hu;have HUL:=hZz hul;have HB3:=hZz (zadZ hb3 HB2.out);have HB3W:=hZz (zaaZ hb3 HB2W.out HB2W.out.size);have HO3:=hZz (zajZ HO.out (zadZ hb3 HB2.out));clear hu hul hb3))
     | (at_builtin;refine zakZ rfl (.tmp 44) (.tmp 49) 31 rfl i1 _ 24 underlying31 hj hy0 hy1 hy2 rfl (by omega) rfl HO3.out [.slice uA un uc] rfl rfl (by simp [Value.oneCell']) (by omega) (by omega) HB3W.out.size ?_;intro v4 w4 hown4 hb4 hs4 hg4;have HO4:=hZz hown4;have HB4:=hZz (HB3W.out.trans hb4);have HCK4:=hZz (CK.own HO3.out (by decide) hg4);clear hown4 hb4 hs4 hg4))
    refine ⟨⟨jj,dn ++ [p],td',by rw [List.append_assoc];exact HDT.out,by rw [List.length_append,HK.out];rfl,rfl,HG3,hZz ?_,HB4⟩,by simp [intOf];omega⟩
    rw [List.map_append];exact ValsO.snoc (w:=wr) (vs:=vs) (by rw [List.length_map,HK.out];exact HO4.out) ((CK.of_below HB3.out).trans HCK4.out) ((OVal.valT HU.out (by have:=HUL.out;omega)).keep HCK4.out) HVL2.out HVT.out
 ·go_enter func63,ntmps63
  go_upto_region 9 with (first
   | (go_at_call 34;((with_reducible refine HCK.out.mono ?_);rintro e w1 ⟨rfl,hb1⟩;have HB1:=hZz hb1;have d0:=zaiZ HC0.out hb1;clear hb1)))
  clear d0;go_loopw [5,6,7,8] (fun ov av kv _ wr=>∃ (a:Nat) (dn td:List (ByteArray × ValD)),dn ++ td=ps∧kv=.int .i64 (dn.length:Nat)∧av=.int .i64 (a:Nat)∧Hid (ChainV L true 7 4000 a td nL)∧Hid (ValsO wr w.heap.size ov (dn.map (fun p:ByteArray × ValD=>p.2)))∧Hid (Below w.heap.size w wr)) (fun _ _ kv _ _=>N - (intOf kv).toNat)
  case atStart=>exact ⟨1,[],ps,rfl,rfl,rfl,HQ3,hZz (ValsO.nil _ _),HB1⟩
  case round =>
   obtain ⟨a,dn,td,hdt,rfl,rfl,HCH,HV,HB⟩:=hrel;have HDT:=hZz hdt;obtain ⟨K,hK⟩:∃ x,dn.length=x:=⟨_,rfl⟩
   have HK:=hZz hK;have hKN:K+td.length=N:=by rw [← HN.out,← hdt,List.length_append,hK]
   rw [hK];have d0:=zaiZ HC0.out HB.out;have d3:=zaiZ HC3.out HB.out;have hK0:(0:Int)≤(K:Int):=by omega
   have hK200:K≤200:=by omega
   clear hdt hK;cases td with
   | nil =>
    have e:K=N:=by simpa using hKN
    subst e;have HE:Hid (dn=ps):=hZz (by have:=HDT.out;simpa using this);clear hKN;go_wp2_with (fail)
    rw [← HP.out];exact ⟨_,by rw [HR.out];rfl,by rw [HR.out,← HE.out];exact HV.out,HB.out⟩
   | cons p td' =>
    have hlt:K<N:=by simp only [List.length_cons] at hKN;omega
    have hlt':(K:Int)<(N:Int):=by omega
    obtain ⟨j,g1,g2,g3,g4,g5,_⟩:=ChainV.at_le (v:=L) (by rw [HNL.out];exact HCH.out);rw [HNL.out] at g3 g5;have g1:px L (a+1)=some j:=g1;have g2:p.2=sec L (a+1) j.j:=g2;have g4:(a+1)≤j.j:=g4;have ha200:a≤200:=by have:=HL1.out;omega
    have hw1:IntKind.i64.wrap ((a:Int)+1)=(a:Int)+1:=IntWalk.i64_in _ (by omega)
    have HNX2:Hid (∀ wx,Below w.heap.size w wx→Calls prog 113 #[.slice (some ⟨b,off,none⟩) nL cap,.int .i64 ((a:Int)+1)] wx fun e w'=>e=.returned (.int .i64 (j.j:Nat))∧Below wx.heap.size wx w'):=hZz (fun wx hb=>by
     have:=HNX.out (a+1) (Nat.zero_le _) (by rw [HNL.out];omega) wx (HSL.out.below hb)
     rw [g1,HNL.out] at this;exact this)
    have HPT:Hid (∀ wx,Below w.heap.size w wx→Calls prog 114 #[.slice (some ⟨b,off,none⟩) nL cap,.int .i64 ((a:Int)+1),.int .i64 (j.j:Nat)] wx fun e w'=>∃ uA un uc,e=.returned (.slice uA un uc)∧OVal w' wx.heap.size (.slice uA un uc) p.2∧p.2.length≤200∧Below wx.heap.size wx w'):=hZz (fun wx hb=>(fpart_any L (some ⟨b,off,none⟩) nL cap (a+1) j.j wx (HVL.out.below hb) g4 (by rw [HNL.out];exact g5) (by rw [HNL.out];have:=HL1.out;omega)).mono fun e w' ⟨u,he,hu,hb2⟩=>by
     obtain ⟨uA,uc,rfl⟩:=zaeZ (show w'.ownsRow wx.heap.size 53 4 u _ _ from hu);exact ⟨uA,_,uc,he,by rw [g2];exact hu,by rw [g2,sec_len _ _ _ (by rw [HNL.out];exact g5)];have:=HL1.out;omega,hb2⟩)
    obtain ⟨vs,ho,hvl,hvt⟩:=HV.out;rw [List.length_map,HK.out] at ho;obtain ⟨oA,oc,hov⟩:=zaeZ ho;subst hov;have HO:=hZz ho;have HVL2:=hZz hvl;have HVT:=hZz hvt;have HG3:=hZz g3;have HBS:Hid (w.heap.size≤wr.heap.size):=hZz HB.out.size;obtain ⟨jj,hjj⟩:∃ x,j.j=x:=⟨_,rfl⟩
    rw [hjj] at HNX2 HPT HG3;clear ho hvl hvt g1 g2 g3 g4 g5 hKN hjj
    go_wp2_with (first
     | (go_at_call 113;((with_reducible refine (HNX2.out _ HB.out).mono ?_);rintro e w2 ⟨rfl,hb2⟩;have HB2:=hZz hb2;have HB2W:=hZz (zaaZ hb2 HB.out HB.out.size);clear hb2))
     | (go_at_call 114;((with_reducible refine (HPT.out _ HB2W.out).mono ?_);rintro e w3 ⟨uA,un,uc,rfl,hu,hul,hb3⟩;have HU:=hZz hu;have HUL:=hZz hul;have HB3:=hZz (zadZ hb3 HB2.out);have HB3W:=hZz (zaaZ hb3 HB2W.out HB2W.out.size);have HO3:=hZz (zajZ HO.out (zadZ hb3 HB2.out));clear hu hul hb3))
     | (at_builtin;refine zakZ rfl (.tmp 44) (.tmp 49) 31 rfl i1 _ 24 underlying31 hj hy0 hy1 hy2 rfl (by omega) rfl HO3.out [.slice uA un uc] rfl rfl (by simp [Value.oneCell']) (by omega) (by omega) HB3W.out.size ?_;intro v4 w4 hown4 hb4 hs4 hg4;have HO4:=hZz hown4;have HB4:=hZz (HB3W.out.trans hb4);have HCK4:=hZz (CK.own HO3.out (by decide) hg4);clear hown4 hb4 hs4 hg4))
    refine ⟨⟨jj,dn ++ [p],td',by rw [List.append_assoc];exact HDT.out,by rw [List.length_append,HK.out];rfl,rfl,HG3,hZz ?_,HB4⟩,by simp [intOf];omega⟩
    rw [List.map_append];exact ValsO.snoc (w:=wr) (vs:=vs) (by rw [List.length_map,HK.out];exact HO4.out) ((CK.of_below HB3.out).trans HCK4.out) ((OVal.valT HU.out (by have:=HUL.out;omega)).keep HCK4.out) HVL2.out HVT.out
end Go.Proofs.YtekdhlfapejijaaGreatDoor
