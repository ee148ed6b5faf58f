/- Z11, Z12, Z13 -/
import Derived.Test.YthiimbhjpdphpaaGreatDoorPZ10
import Derived.Test.YthiimbhjpdphpaaGreatDoorPU23
import Derived.Test.YthiimbhjpdphpaaGreatDoorPFD4
set_option linter.unusedVariables false
set_option linter.unusedSimpArgs false
namespace Go.Proofs.YthiimbhjpdphpaaGreatDoor
open Go.RowKit
set_option maxRecDepth 100000
open Go.Proofs.Tryz
section
theorem Ftc.setN {w0 w wr:World} {S:ProgS} {gF gN:Nat} {nv nvk:Value} {L N:List NodeX} {n0 n1 n2 n3 n4:Value} {ks:List Int} {kv:Value} (h:Ftc w0 w wr S gF gN nv nvk L N #[n0,n1,n2,n3,n4] ks kv):Ftc w0 w (wr.setCell ⟨gN,4,none⟩ kv) S gF gN nv nvk L N #[n0,n1,n2,n3,kv] ks kv:=by
 have hg:=zacY wr gN 4 kv;have hgF:gF<w.heap.size:=h.ltF;have hge:=h.geN;have hst:=h.st.grown hg (fun e=>by injection e with e;omega) (fun g hg e=>h.nN (by rw [hg];exact e)) (fun p hp g hg e=>zanY (h.st.kids p hp) h.bn (by decide) g hg (by injection e)) (fun g e=>by injection e with e;have:=h.st.bF;omega);exact ⟨hst,h.kf.new hg (fun g e=>by injection e with e;omega),h.parts,h.bn.set_ 4 kv,zagY h.kids hg (fun g hg e=>zanY h.kids h.bn (by decide) g hg (by injection e)),h.apart,h.geN,h.nN,h.old,h.ltF⟩
theorem kidC_of {w0 V:World} {S:ProgS} {gF:Nat} {nv:Value} {L:List NodeX} {M:List NodeD} {j:Nat} (h:FtSt w0 V S gF nv L) (hM:L.map Prod.fst=M) (hl:L.length≤100000) (hk:KidOk M j) (hc:∀ x,constF M (M.getD j noNode)=some x→ConC x):KidC V nv j (constF M (M.getD j noNode)):=by
 subst hM;have hj:j<L.length:=by have:=hk.1;rwa [List.length_map] at this
 have hg:∀ q (hq:q<L.length),(L.map Prod.fst).getD q noNode=(L[q]).1:=fun q hq=>by
  rw [List.getD_eq_getElem?_getD,List.getElem?_map,List.getElem?_eq_getElem hq];rfl
 refine ⟨fun wx hb=>?_,hc⟩
 rw [hg j hj];refine constant12_s w0 wx S gF nv L (h.below hb) hl j hj (fun h8=>?_)
 obtain ⟨a,m,b,c,d⟩:=hk.2 (by rw [hg j hj];exact h8);rw [List.length_map] at c;rw [hg j hj] at a b;exact ⟨a,m,b,c,fun h3=>by rw [← hg m c] at h3 ⊢;exact d h3⟩
attribute [local go_sem] zacZ
set_option maxHeartbeats 32000000 in
theorem tfold_s (w0:World) (S:ProgS) (gF:Nat) (f:Nat) (hS:ProgV w0 S) (hnl:S.p.nodes.length≤1000) (hkl0:∀ i,(hi:i<S.p.nodes.length)→(S.p.nodes[i]).keys.length≤1000∧(S.p.nodes[i]).kids.length≤1000)
  (hR:∀ i s,firstF S.p.nodes f i=some s→i<S.p.nodes.length→FtNode w0 S gF f i s) (i s:Nat) (hf:firstF S.p.nodes (f+1) i=some s) (hi:i<S.p.nodes.length):FtNode w0 S gF (f+1) i s:=by
 intro w nv L h hl0;obtain ⟨n,hn⟩:∃ n,S.p.nodes[i]=n:=⟨_,rfl⟩
 have T:=zabY hf;have hsi:=zaaY hf;have hgd:S.p.nodes.getD i noNode=n:=by rw [zakZ hi,hn]
 have hat:S.p.at_ i=n:=hgd;have hcv:=T.cover;have hct:=T.count;have hfi:=T.fields;rw [hgd] at hcv hct hfi;obtain ⟨t,ks,vs,K⟩:=zbcY (p:=S.p) (f:=f) (fun i s h out=>zauY S.p f i s h out) hcv (L.map Prod.fst)
 have hM:foldF S.p (f+1) i (L.map Prod.fst)=match opVal n vs with
   | some c=>L.map Prod.fst ++ constantsF c (L.map Prod.fst).length
   | none=>(L.map Prod.fst ++ t) ++ [⟨n.kind,n.text,n.int,n.keys,ks⟩]:=by
  have:=K.eq [] []
  simp only [foldF];rw [hat,this];simp only [List.nil_append];cases opVal n vs <;> rfl
 obtain ⟨P,hP⟩:∃ P:Ending→World→Prop,FtFoldP w0 w S gF nv L (foldF S.p (f+1) i (L.map Prod.fst))=P:=⟨_,rfl⟩
 rw [hP];rw [hM] at hP
 -- the two ends
 have HPN:Hid (opVal n vs=none→∀ nv' N (x:Int) w',x=((L ++ N).length:Int) - 1→(L ++ N).map Prod.fst=(L.map Prod.fst ++ t) ++ [⟨n.kind,n.text,n.int,n.keys,ks⟩]→FtSt w0 w' S gF nv' (L ++ N)→KF gF nv.ownBlock nv'.ownBlock w w'→(∀ p∈N,∀ g,p.2.2.ownBlock=some g→w.heap.size≤g)→P (.returned (.int .i64 x)) w'):=hZz (fun ho nv' N x w' h0 h1 h2 h3 h4=>by rw [← hP,h0,ho];exact ⟨nv',N,rfl,h1,h2,h3,h4⟩);have HPS:Hid (∀ c,opVal n vs=some c→∀ nv' N (x:Int) w',x=((L ++ N).length:Int) - 1→(L ++ N).map Prod.fst=L.map Prod.fst ++ constantsF c (L.map Prod.fst).length→FtSt w0 w' S gF nv' (L ++ N)→KF gF nv.ownBlock nv'.ownBlock w w'→(∀ p∈N,∀ g,p.2.2.ownBlock=some g→w.heap.size≤g)→P (.returned (.int .i64 x)) w'):=hZz (fun c ho nv' N x w' h0 h1 h2 h3 h4=>by rw [← hP,h0,ho];exact ⟨nv',N,rfl,h1,h2,h3,h4⟩)
 -- at each kid
 have HKID:Hid (∀ j,j<n.kids.length→∀ N ksj vsj,foldK (foldF S.p f) (n.kids.take j) (L.map Prod.fst) [] []=((L ++ N).map Prod.fst,ksj,vsj)→∃ mk e':Nat,n.kids.getD j 0=mk∧firstF S.p.nodes f mk=some e'∧mk<S.p.nodes.length∧(L ++ N).length+(mk+1 - e')≤5000):=hZz (fun j hj N ksj vsj he=>by
  obtain ⟨e',hc,hle,hk⟩:=zdeY hcv j (Nat.le_of_lt hj);obtain ⟨mk,h1,h2,h3⟩:=hk hj;obtain ⟨t2,ks2,vs2,K2⟩:=zbcY (p:=S.p) (f:=f) (fun i s h out=>zauY S.p f i s h out) hc (L.map Prod.fst);have h4:=K2.eq [] [];rw [he] at h4;have h5:(L ++ N).map Prod.fst=L.map Prod.fst ++ t2:=congrArg Prod.fst h4;have h6:=congrArg List.length h5;simp only [List.length_map,List.length_append] at h6;have h6':(L ++ N).length=L.length+N.length:=List.length_append;have h7:=K2.len;have h8:=hc.le';have h9:=zaaY h2;refine ⟨mk,e',?_,h2,by omega,by omega⟩
  rw [List.getD_eq_getElem?_getD,List.getElem?_eq_getElem hj];exact h1)
 have HEND:Hid (∀ N ksj vsj,foldK (foldF S.p f) (n.kids.take n.kids.length) (L.map Prod.fst) [] []=((L ++ N).map Prod.fst,ksj,vsj)→(L ++ N).map Prod.fst=L.map Prod.fst ++ t∧ksj=ks∧(L ++ N).length≤5000):=hZz (fun N ksj vsj he=>by
  rw [List.take_length] at he;have h4:=K.eq [] [];rw [he] at h4;simp only [List.nil_append] at h4;have h5:(L ++ N).map Prod.fst=L.map Prod.fst ++ t:=congrArg Prod.fst h4;have h6:ksj=ks:=congrArg (fun q=>q.2.1) h4;have h7:=congrArg List.length h5;simp only [List.length_map,List.length_append] at h7;have h7':(L ++ N).length=L.length+N.length:=List.length_append;have h8:=K.len;exact ⟨h5,h6,by omega⟩)
 have HO8:Hid (n.kind=8→∃ j0:Nat,ks=[(j0:Int)]∧KidOk (L.map Prod.fst ++ t) j0∧(∀ x,constF (L.map Prod.fst ++ t) ((L.map Prod.fst ++ t).getD j0 noNode)=some x→ConC x)∧opVal n vs=(constF (L.map Prod.fst ++ t) ((L.map Prod.fst ++ t).getD j0 noNode)).bind fun x=>unF n.text.toList x):=hZz (fun hk=>op8 K hk hfi hct)
 have HO9:Hid (n.kind=9→∃ j0 j1:Nat,ks=[(j0:Int),(j1:Int)]∧KidOk (L.map Prod.fst ++ t) j0∧KidOk (L.map Prod.fst ++ t) j1∧(∀ x,constF (L.map Prod.fst ++ t) ((L.map Prod.fst ++ t).getD j0 noNode)=some x→ConC x)∧(∀ x,constF (L.map Prod.fst ++ t) ((L.map Prod.fst ++ t).getD j1 noNode)=some x→ConC x) ∧
   opVal n vs=(constF (L.map Prod.fst ++ t) ((L.map Prod.fst ++ t).getD j0 noNode)).bind fun x=>(constF (L.map Prod.fst ++ t) ((L.map Prod.fst ++ t).getD j1 noNode)).bind fun y=>biF n.text.toList x y):=hZz (fun hk=>op9 K hk hfi hct)
 have HOC:Hid (∀ c,opVal n vs=some c→ConC c):=hZz (fun c hc=>by
  unfold opVal at hc;split at hc
  ·rename_i hh
   have hkl:vs.length=n.kids.length:=hh.2;rcases hh.1 with h8 | h9
   ·have:=zcdY hct (.inl h8)
    exact zb0Y K.con (by omega) (fun h=>absurd h8 h) hc
   ·have:=cnt_two hct (.inl h9)
    exact zb0Y K.con (by omega) (fun h=>by omega) hc
  ·cases hc)
 have HON:Hid (n.kind≠8→n.kind≠9→opVal n vs=none):=hZz (fun h8 h9=>by
  unfold opVal;rw [if_neg (fun hh=>by rcases hh.1 with hh | hh;exact h8 hh;exact h9 hh)])
 obtain ⟨OV,hOV⟩:∃ o,opVal n vs=o:=⟨_,rfl⟩
 rw [hOV] at HPN HPS HO8 HO9 HOC HON;have HCT8:Hid (n.kind=8→n.kids.length=1):=hZz (fun h=>zcdY hct (.inl h));have HCT9:Hid (n.kind=9→n.kids.length=2):=hZz (fun h=>cnt_two hct (.inl h));obtain ⟨b,off,kA,kc,iA,ic,hA,hb,c0,c1,c2,c3,c4,hkv,hiv⟩:=zalY hS.nodes hi;have hkl:=hkl0 i hi;rw [hn] at c0 c1 c2 c3 c4 hkv hiv hkl;have hbl:=h.bl
 replace c0:=(hbl.cell hb).trans c0
 replace c1:=(hbl.cell hb).trans c1
 replace c2:=(hbl.cell hb).trans c2
 replace c3:=(hbl.cell hb).trans c3
 replace c4:=(hbl.cell hb).trans c4
 obtain ⟨y0,y1,y2⟩:=blkF h.fo;obtain ⟨nA,ncp,rfl⟩:=zahZ h.row;rw [hA] at y0;have HI:=hZz hiv;have HKV:=hZz hkv;have HR:=hZz hR;obtain ⟨kn,hkn⟩:∃ N,n.keys.length=N:=⟨_,rfl⟩
 obtain ⟨m,him⟩:∃ N,n.kids.length=N:=⟨_,rfl⟩
 have HM:=hZz him;rw [hkn] at c3 HKV;rw [him] at c4 HI HKID HEND HCT8 HCT9;obtain ⟨nk,hnk⟩:∃ N,n.kind=N:=⟨_,rfl⟩
 obtain ⟨nt,hnt⟩:∃ N,n.text=N:=⟨_,rfl⟩
 obtain ⟨ni,hni⟩:∃ N,n.int=N:=⟨_,rfl⟩
 rw [hnk] at c0 HO8 HO9 HON HPN HCT8 HCT9;rw [hnt] at c1 HO8 HO9 HPN;rw [hni] at c2 HPN;obtain ⟨N9,hN9⟩:∃ N,S.p.nodes.length=N:=⟨_,rfl⟩
 rw [hN9] at y0;have hiN:(i:Int)<(N9:Int):=by omega
 have hi0:(0:Int)≤(i:Int):=by omega
 have hm10:m≤1000:=by omega
 obtain ⟨ll,hll⟩:∃ t,L.length=t:=⟨_,rfl⟩
 have HLL:=hZz hll;obtain ⟨gN,hgN⟩:∃ g,w.heap.size=g:=⟨_,rfl⟩
 obtain ⟨W1,hW1⟩:∃ W,w.alloc (.cells #[.int .i64 nk,.string nt,.int .i64 ni,.slice kA kn kc,.slice iA m ic] 58)=W:=⟨_,rfl⟩
 have hb1:Below w.heap.size w W1:=by rw [← hW1];exact zabZ _ _
 have HT1:Hid (Ftc w0 w W1 S gF gN (.slice nA L.length ncp) (.slice nA L.length ncp) L [] #[.int .i64 nk,.string nt,.int .i64 ni,.slice kA kn kc,.slice iA m ic] [] nilN):=hZz ⟨by rw [List.append_nil];exact h.below hb1,KF.of_below hb1 _ _,fun p hp=>absurd hp (by simp),by rw [← hW1,← hgN];exact Blk.new _ _ _,zbgY,fun p hp=>absurd hp (by simp),by omega,fun e=>by have:=(h.row.lt gN e).2;omega,fun p hp g hg=>((h.kids p hp).lt g hg).2,h.fo.lt⟩;have HBL:=hZz hbl;rw [hll] at y2;have HGN:=hZz hgN;have HW1:=hZz hW1;have y2':=cellK y2 hb1;obtain ⟨i1,hj,hq0,hq1,hq2⟩:=info_parts Tryz.infoIntS;obtain ⟨i0,hi9,hz0,hz1,hz2⟩:=info_parts Tryz.infoNode;clear hP hf T hsi hgd hat hcv hct hfi K hM hOV hA hb hbl hkl hkv hiv hkn him hnk hnt hni hN9 hgN hW1 hb1 h hl0 hnl hkl0 hR hS hn hi y1;go_enter func36,ntmps36
 go_upto_region 2 with fail
 rw [HGN.out,HW1.out];clear HGN HW1 c0 c1 c2 c3 c4 y0 y2;go_wp2_with (fail)
 clear y2';go_loopw [7,8] (fun kv iv wr=>∃ (j:Nat) (N:List NodeX) (ksj:List Int) (vsj:List CellD) (nvk:Value),j≤m∧iv=.int .i64 j∧Hid (foldK (foldF S.p f) (n.kids.take j) (L.map Prod.fst) [] []=((L ++ N).map Prod.fst,ksj,vsj))∧Hid (Ftc w0 w wr S gF gN (.slice nA L.length ncp) nvk L N #[.int .i64 nk,.string nt,.int .i64 ni,.slice kA kn kc,.slice iA m ic] ksj kv)∧Hid (ksj.length=j)) (fun _ iv _=>m - (intOf iv).toNat)
 case atStart=>exact ⟨0,[],[],[],_,Nat.zero_le _,rfl,hZz (by rw [List.take_zero,List.append_nil];rfl),HT1,hZz rfl⟩
 case round =>
  obtain ⟨j,N,ksj,vsj,nvk,hjm,rfl,HE,HT,HJ⟩:=hrel;have hj0:(0:Int)≤(j:Int):=by omega
  by_cases hlt:j<m
  ·have hlt':(j:Int)<(m:Int):=by omega
   have hkl:j<n.kids.length:=by rw [HM.out];exact hlt
   obtain ⟨bI,offI,rfl,hbI,ck⟩:=HI.out.cell hkl
   replace ck:=(HT.out.st.bl.cell hbI).trans ck
   have x1:=zalZ HT.out.bn;obtain ⟨mk,e',hgk,hf1,hmk,hbd⟩:=HKID.out j hlt N ksj vsj HE.out;have hxk:n.kids[j]=(mk:Int):=by rw [← hgk,List.getD_eq_getElem?_getD,List.getElem?_eq_getElem hkl];rfl
   rw [hxk] at ck;have HCW:=hZz (HR.out mk e' hf1 hmk wr nvk (L ++ N) HT.out.st hbd);have HXK:=hZz hxk;have HKL:=hZz hkl;clear hgk hf1 hmk hbd hbI hxk
   go_wp2_with (first
    | (go_at_call 36;(with_reducible refine HCW.out.mono ?_);rintro r2 w2 ⟨nv3,N2,he2,hm2,hs2,hk2,hp2⟩;obtain ⟨kx,hkx⟩:∃ t,(((L ++ N ++ N2).length:Int) - 1)=t:=⟨_,rfl⟩;rw [hkx] at he2;subst he2;have HKX:=hZz hkx;have HM2:=hZz hm2;have ht2:=HT.out.rec_ (N2:=N2) (by rw [← List.append_assoc];exact hs2) hk2 hp2;have HT2:=hZz ht2;have HKD:Hid (w2.ownsRow w.heap.size 3 1 u7 j (ksj.map (Value.int .i64))):=hZz (by have:=ht2.kids;rw [HJ.out] at this;exact this);have HSZ2:Hid (w.heap.size≤w2.heap.size):=hZz ht2.kf.size;clear hkx hm2 hs2 hk2 hp2 ht2)
    | (at_builtin;refine za1Y rfl (.tmp 31) (.tmp 39) 56 rfl i1 _ 8 underlying56 hj hq0 hq1 hq2 rfl (by omega) rfl HKD.out [.int .i64 kx] rfl rfl (by simp [Value.oneCell']) (by omega) (by omega) HSZ2.out ?_;intro gA cA w7 hown hb hsz hg ha;have HO7:=hZz hown;have HG7:=hZz hg;have HA7:=hZz ha;clear hown hb hsz hg ha))
   have ht7:=HT2.out.kid (g2:=gA) (c2:=cA) (k:=kx) (by rw [HJ.out];exact HO7.out) HG7.out HA7.out;rw [HJ.out] at ht7;have h1:n.kids.take (j+1)=n.kids.take j ++ [n.kids[j]'HKL.out]:=List.take_succ_eq_append_getElem HKL.out
   have q1:(foldK (foldF S.p f) (n.kids.take (j+1)) (L.map Prod.fst) [] []).1=(L ++ (N ++ N2)).map Prod.fst:=by
    rw [h1,zc7Y,HE.out,HXK.out,Int.toNat_natCast,← HM2.out,← List.append_assoc]
   have q2:(foldK (foldF S.p f) (n.kids.take (j+1)) (L.map Prod.fst) [] []).2.1=ksj ++ [kx]:=by
    rw [h1,zc7Y,HE.out,HXK.out,Int.toNat_natCast,← HM2.out,← HKX.out,List.length_map]
   obtain ⟨vs2,he2⟩:∃ vs2,foldK (foldF S.p f) (n.kids.take (j+1)) (L.map Prod.fst) [] []=((L ++ (N ++ N2)).map Prod.fst,ksj ++ [kx],vs2):=⟨(foldK (foldF S.p f) (n.kids.take (j+1)) (L.map Prod.fst) [] []).2.2,Prod.ext q1 (Prod.ext q2 rfl)⟩
   exact ⟨⟨j+1,N ++ N2,ksj ++ [kx],vs2,nv3,by omega,by simp,hZz he2,hZz ht7,hZz (by rw [List.length_append,HJ.out];rfl)⟩,by simp [intOf];omega⟩
  ·have e:m=j:=by omega
   subst e;obtain ⟨hMM,hks,hlen⟩:=HEND.out N ksj vsj HE.out;rw [hks] at HT HJ;obtain ⟨kvA,kvc,hkv⟩:=zahZ HT.out.kids;rw [HJ.out] at hkv;subst hkv;obtain ⟨nkA,nkc,hnv⟩:=zahZ HT.out.st.row;subst hnv;have HMM:=hZz hMM;obtain ⟨ln,hln⟩:∃ t,(L ++ N).length=t:=⟨_,rfl⟩
   have HLN:=hZz hln;rw [hln] at HT hlen;have x1:=zalZ HT.out.bn;have z4:=HT.out.bn.frozen 4;have HT0:=hZz HT.out.setN;have hwr:IntKind.i64.wrap (((ln+1:Nat):Int) - 1)=(ln:Int):=by rw [show ((ln+1:Nat):Int) - 1=(ln:Int) by omega];exact IntWalk.i64_in _ (by omega)
   have hwr2:IntKind.i64.wrap ((ln:Int)+1 - 1)=(ln:Int):=by rw [show (ln:Int)+1 - 1=(ln:Int) by omega];exact IntWalk.i64_in _ (by omega)
   clear hlt hMM hks hln HE HEND HKID HT1 HR HI hj hq0 hq1 hq2;go_upto_region 9 with (fail)
   clear x1 z4;obtain ⟨V,hV⟩:∃ W,wr.setCell ⟨gN,4,none⟩ (.slice kvA m kvc)=W:=⟨_,rfl⟩
   rw [hV] at HT0 ⊢;clear hV HT;have xv:=zalZ HT0.out.bn;have hk:nk=8∨nk=9∨(nk≠8∧nk≠9):=by omega
   rcases hk with rfl | rfl | ⟨h8,h9⟩
   ·-- a unary operator
    have hsl:SlAt V kvA 1 intS ks:=by
     have h:=HT0.out.kids;rw [HJ.out] at h;exact SlAt.of_own h (by show ks.map _=ks.flatMap (fun k=>[Value.int .i64 k]);rw [← List.map_eq_flatMap]) (fun _=>rfl) (by decide)
    obtain ⟨j0,hks0,hkid,hcon,hov⟩:=HO8.out rfl;obtain rfl:m=1:=HCT8.out rfl;have hva:=rval8_s w0 V S gF (.slice nkA ln nkc) (L ++ N) HT0.out.st nt ni kA kvA kn kc kvc ks HJ.out hsl (by rw [HLN.out];omega) j0 (by rw [hks0];rfl) _ (kidC_of HT0.out.st HMM.out (by rw [HLN.out];omega) hkid hcon);rw [← hov] at hva;have HVA:=hZz hva;clear hsl hva hks0 hkid hcon hov
    go_upto_region 11 with (first
     | (go_at_call 55;(with_reducible refine HVA.out.mono ?_);rintro e w7 ⟨c7,he7,hx7,hb7⟩;unfold cV at he7;subst he7;have HB7:=hZz hb7;have HX7:=hZz hx7;clear hb7 hx7))
    obtain ⟨g9,hg9⟩:∃ g,w7.heap.size=g:=⟨_,rfl⟩
    obtain ⟨W8,hW8⟩:∃ W,w7.alloc (.cells #[.int .i64 c7.kind,.int .i64 c7.int,.string c7.str,.int .i64 c7.n] 103)=W:=⟨_,rfl⟩
    have hb8:Below w7.heap.size w7 W8:=by rw [← hW8];exact zabZ _ _
    have HY:Hid (Blk W8 g9 103 #[.int .i64 c7.kind,.int .i64 c7.int,.string c7.str,.int .i64 c7.n]):=hZz (by rw [← hW8,← hg9];exact Blk.new _ _ _);have HT8:=hZz (HT0.out.below (zaaZ hb8 HB7.out HB7.out.size));have hgF9:gF≠g9:=by have h1:=HT0.out.st.fo.lt;have h2:=HB7.out.size;omega
    rw [hg9,hW8];clear hg9 hW8 hb8 xv;cases OV with
    | none =>
     have HNO:Hid ((none:Option CellD)=none):=hZz rfl;have hb2:Below W8.heap.size W8 (W8.drew.alloc (.cells #[.int .i64 8,.string nt,.int .i64 ni,.slice kA kn kc,.slice kvA 1 kvc] 58)):=(zadZ W8).trans ((zabZ W8.drew (.cells #[.int .i64 8,.string nt,.int .i64 ni,.slice kA kn kc,.slice kvA 1 kvc] 58)).mono (by simp));have hsa:=zagZ HT8.out.st.row hb2;rw [HLN.out] at hsa;have HSA:=hZz hsa;have HBA:=hZz (HT8.out.st.fo.below hb2);have HBW:=hZz hb2;have HSZ:Hid (w0.heap.size≤(W8.drew.alloc (.cells #[.int .i64 8,.string nt,.int .i64 ni,.slice kA kn kc,.slice kvA 1 kvc] 58)).heap.size):=hZz (Nat.le_trans HT8.out.st.bl.size hb2.size);have HIK:=hZz (zagZ (zahY HT8.out.kids HBL.out.size) hb2);have v2:=HT8.out.st.fo.cell 2 _ rfl;have c2:=(HT8.out.st.fo.below (zadZ W8)).cell 2 _ rfl;have xp:=zalZ HT8.out.bn;have xd:=zalZ (HT8.out.bn.below (zadZ W8));have hnew:=zadY W8.drew [.int .i64 8,.string nt,.int .i64 ni,.slice kA kn kc,.slice kvA 1 kvc] 58;clear hb2 hsa;go_upto_region 14 with (fail)
     go_region_law (rw [if_pos (by rfl)];refine wp_append_lies _ (.tmp 74) (.tmp 76) 22 rfl w0.heap.size 58 i0 _ 5 80 underlying22 hi9 hz0 hz1 hz2 rfl ?k1 _ ln _ rfl HSA.out ⟨W8.drew.heap.size,0,none⟩ 1 1 [.int .i64 8,.string nt,.int .i64 ni,.slice kA kn kc,.slice kvA 1 kvc] rfl rfl hnew ?k2 ?k3 ?k4 ?k5 ?k6 _ rfl ?_;(case k1=>decide);(case k2=>simp [Value.oneCell']);(case k3=>decide);(case k4=>(unfold maxLen;omega));(case k5=>omega);(case k6=>exact HSZ.out);intro g6 cap6 w6 hown6 hgr6 hat6 _;have HB6:=hZz (HBA.out.grown hgr6 (zaeZ HSA.out HBA.out (by decide)));have z6:=HB6.out.frozen 2;have o6:=HB6.out.cell 2 _ rfl;have HO6:=hZz hown6;have HGR:=hZz hgr6;have HAT:=hZz hat6;clear hown6 hgr6 hat6)
     all_goals
      have hb7:=HB6.out.set_ 2 (.slice (some ⟨g6,0,none⟩) (ln+1) cap6);have q7:=hb7.cell 2 _ rfl;clear hb7;go_wp2_with (fail)
      have hpu:=HT8.out.st.push HBW.out ((⟨8,nt,ni,n.keys,ks⟩,.slice kA kn kc,.slice kvA 1 kvc):NodeX) HKV.out HIK.out HGR.out (by have:=HO6.out;rw [← HLN.out] at this;rw [HLN.out] at this ⊢;exact this) (HAT.out.imp id (fun e=>by rw [e];exact Nat.le_refl _));rw [HLN.out,List.append_assoc] at hpu
      exact HPN.out HNO.out _ (N ++ [((⟨8,nt,ni,n.keys,ks⟩,.slice kA kn kc,.slice kvA 1 kvc):NodeX)]) _ _ (by rw [← List.append_assoc,List.length_append,HLN.out];simp) (by rw [← List.append_assoc,List.map_append,HMM.out];rfl) hpu.1 (HT8.out.kf.trans hpu.2) (fun p hp g hg=>by
       rcases List.mem_append.1 hp with hp | hp
       ·exact HT8.out.parts p hp g hg
       ·rw [List.mem_singleton.1 hp] at hg
        exact (HT8.out.kids.lt g hg).1)
    | some c =>
     have hc7:=HX7.out c rfl;subst hc7;have hcut:=HT8.out.st.cut HLN.out.symm;have hrow:=HT8.out.st.row;rw [HLN.out] at hrow;have hcap:=own_capU hrow;clear hrow;rw [HLL.out] at hcut;have hle:ll≤ln:=by have h1:=HLN.out;have h2:=HLL.out;rw [List.length_append] at h1;omega
     have hmc:(ll:Int)≤(nkc:Int):=by omega
     have hmc2:¬ (nkc:Int)<(ll:Int):=by omega
     have v2:=HT8.out.st.fo.cell 2 _ rfl;have z2:=HT8.out.st.fo.frozen 2;have xy:=blk4z (HY.out.far (p:=⟨gF,2,none⟩) (fun e=>hgF9 (by simpa using e.symm)) (.slice nkA ll nkc));have hwc:=write12_s w0 (W8.setCell ⟨gF,2,none⟩ (.slice nkA ll nkc)) S gF (.slice nkA ll nkc) L c7 hcut.1 (by rw [HLL.out];omega) (HOC.out c7 rfl);have HWC:=hZz hwc;have HCUT:=hZz hcut;unfold cV at HWC;clear hcut hcap hle hwc hgF9
     go_wp2_with (first
      | (go_at_call 56;(with_reducible refine HWC.out.mono ?_);rintro e w9 ⟨nv9,N2,rfl,hm9,hs9,hk9,hp9⟩;have HM9:=hZz hm9;have HS9:=hZz hs9;have HK9:=hZz hk9;have HP9:=hZz hp9;clear hm9 hs9 hk9 hp9))
     exact HPS.out c7 rfl nv9 N2 _ _ (by rw [List.length_append,HLL.out];push_cast;rfl) (by rw [List.map_append,HM9.out,List.length_map]) HS9.out ((HT8.out.kf.trans HCUT.out.2).trans HK9.out) (fun p hp g hg=>Nat.le_trans (HT8.out.kf.trans HCUT.out.2).size (HP9.out p hp g hg))
   ·-- a binary operator
    have hsl:SlAt V kvA 1 intS ks:=by
     have h:=HT0.out.kids;rw [HJ.out] at h;exact SlAt.of_own h (by show ks.map _=ks.flatMap (fun k=>[Value.int .i64 k]);rw [← List.map_eq_flatMap]) (fun _=>rfl) (by decide)
    obtain ⟨j0,j1,hks0,hkid,hkid1,hcon,hcon1,hov⟩:=HO9.out rfl;obtain rfl:m=2:=HCT9.out rfl;have hva:=rval9_s w0 V S gF (.slice nkA ln nkc) (L ++ N) HT0.out.st nt ni kA kvA kn kc kvc ks HJ.out hsl (by rw [HLN.out];omega) j0 j1 (by rw [hks0];rfl) (by rw [hks0];rfl) _ _ (kidC_of HT0.out.st HMM.out (by rw [HLN.out];omega) hkid hcon) (kidC_of HT0.out.st HMM.out (by rw [HLN.out];omega) hkid1 hcon1);rw [← hov] at hva;have HVA:=hZz hva;clear hsl hva hks0 hkid hcon hov hkid1 hcon1
    go_upto_region 11 with (first
     | (go_at_call 55;(with_reducible refine HVA.out.mono ?_);rintro e w7 ⟨c7,he7,hx7,hb7⟩;unfold cV at he7;subst he7;have HB7:=hZz hb7;have HX7:=hZz hx7;clear hb7 hx7))
    obtain ⟨g9,hg9⟩:∃ g,w7.heap.size=g:=⟨_,rfl⟩
    obtain ⟨W8,hW8⟩:∃ W,w7.alloc (.cells #[.int .i64 c7.kind,.int .i64 c7.int,.string c7.str,.int .i64 c7.n] 103)=W:=⟨_,rfl⟩
    have hb8:Below w7.heap.size w7 W8:=by rw [← hW8];exact zabZ _ _
    have HY:Hid (Blk W8 g9 103 #[.int .i64 c7.kind,.int .i64 c7.int,.string c7.str,.int .i64 c7.n]):=hZz (by rw [← hW8,← hg9];exact Blk.new _ _ _);have HT8:=hZz (HT0.out.below (zaaZ hb8 HB7.out HB7.out.size));have hgF9:gF≠g9:=by have h1:=HT0.out.st.fo.lt;have h2:=HB7.out.size;omega
    rw [hg9,hW8];clear hg9 hW8 hb8 xv;cases OV with
    | none =>
     have HNO:Hid ((none:Option CellD)=none):=hZz rfl;have hb2:Below W8.heap.size W8 (W8.drew.alloc (.cells #[.int .i64 9,.string nt,.int .i64 ni,.slice kA kn kc,.slice kvA 2 kvc] 58)):=(zadZ W8).trans ((zabZ W8.drew (.cells #[.int .i64 9,.string nt,.int .i64 ni,.slice kA kn kc,.slice kvA 2 kvc] 58)).mono (by simp));have hsa:=zagZ HT8.out.st.row hb2;rw [HLN.out] at hsa;have HSA:=hZz hsa;have HBA:=hZz (HT8.out.st.fo.below hb2);have HBW:=hZz hb2;have HSZ:Hid (w0.heap.size≤(W8.drew.alloc (.cells #[.int .i64 9,.string nt,.int .i64 ni,.slice kA kn kc,.slice kvA 2 kvc] 58)).heap.size):=hZz (Nat.le_trans HT8.out.st.bl.size hb2.size);have HIK:=hZz (zagZ (zahY HT8.out.kids HBL.out.size) hb2);have v2:=HT8.out.st.fo.cell 2 _ rfl;have c2:=(HT8.out.st.fo.below (zadZ W8)).cell 2 _ rfl;have xp:=zalZ HT8.out.bn;have xd:=zalZ (HT8.out.bn.below (zadZ W8));have hnew:=zadY W8.drew [.int .i64 9,.string nt,.int .i64 ni,.slice kA kn kc,.slice kvA 2 kvc] 58;clear hb2 hsa;go_upto_region 14 with (fail)
     go_region_law (rw [if_pos (by rfl)];refine wp_append_lies _ (.tmp 74) (.tmp 76) 22 rfl w0.heap.size 58 i0 _ 5 80 underlying22 hi9 hz0 hz1 hz2 rfl ?k1 _ ln _ rfl HSA.out ⟨W8.drew.heap.size,0,none⟩ 1 1 [.int .i64 9,.string nt,.int .i64 ni,.slice kA kn kc,.slice kvA 2 kvc] rfl rfl hnew ?k2 ?k3 ?k4 ?k5 ?k6 _ rfl ?_;(case k1=>decide);(case k2=>simp [Value.oneCell']);(case k3=>decide);(case k4=>(unfold maxLen;omega));(case k5=>omega);(case k6=>exact HSZ.out);intro g6 cap6 w6 hown6 hgr6 hat6 _;have HB6:=hZz (HBA.out.grown hgr6 (zaeZ HSA.out HBA.out (by decide)));have z6:=HB6.out.frozen 2;have o6:=HB6.out.cell 2 _ rfl;have HO6:=hZz hown6;have HGR:=hZz hgr6;have HAT:=hZz hat6;clear hown6 hgr6 hat6)
     all_goals
      have hb7:=HB6.out.set_ 2 (.slice (some ⟨g6,0,none⟩) (ln+1) cap6);have q7:=hb7.cell 2 _ rfl;clear hb7;go_wp2_with (fail)
      have hpu:=HT8.out.st.push HBW.out ((⟨9,nt,ni,n.keys,ks⟩,.slice kA kn kc,.slice kvA 2 kvc):NodeX) HKV.out HIK.out HGR.out (by have:=HO6.out;rw [← HLN.out] at this;rw [HLN.out] at this ⊢;exact this) (HAT.out.imp id (fun e=>by rw [e];exact Nat.le_refl _));rw [HLN.out,List.append_assoc] at hpu
      exact HPN.out HNO.out _ (N ++ [((⟨9,nt,ni,n.keys,ks⟩,.slice kA kn kc,.slice kvA 2 kvc):NodeX)]) _ _ (by rw [← List.append_assoc,List.length_append,HLN.out];simp) (by rw [← List.append_assoc,List.map_append,HMM.out];rfl) hpu.1 (HT8.out.kf.trans hpu.2) (fun p hp g hg=>by
       rcases List.mem_append.1 hp with hp | hp
       ·exact HT8.out.parts p hp g hg
       ·rw [List.mem_singleton.1 hp] at hg
        exact (HT8.out.kids.lt g hg).1)
    | some c =>
     have hc7:=HX7.out c rfl;subst hc7;have hcut:=HT8.out.st.cut HLN.out.symm;have hrow:=HT8.out.st.row;rw [HLN.out] at hrow;have hcap:=own_capU hrow;clear hrow;rw [HLL.out] at hcut;have hle:ll≤ln:=by have h1:=HLN.out;have h2:=HLL.out;rw [List.length_append] at h1;omega
     have hmc:(ll:Int)≤(nkc:Int):=by omega
     have hmc2:¬ (nkc:Int)<(ll:Int):=by omega
     have v2:=HT8.out.st.fo.cell 2 _ rfl;have z2:=HT8.out.st.fo.frozen 2;have xy:=blk4z (HY.out.far (p:=⟨gF,2,none⟩) (fun e=>hgF9 (by simpa using e.symm)) (.slice nkA ll nkc));have hwc:=write12_s w0 (W8.setCell ⟨gF,2,none⟩ (.slice nkA ll nkc)) S gF (.slice nkA ll nkc) L c7 hcut.1 (by rw [HLL.out];omega) (HOC.out c7 rfl);have HWC:=hZz hwc;have HCUT:=hZz hcut;unfold cV at HWC;clear hcut hcap hle hwc hgF9
     go_wp2_with (first
      | (go_at_call 56;(with_reducible refine HWC.out.mono ?_);rintro e w9 ⟨nv9,N2,rfl,hm9,hs9,hk9,hp9⟩;have HM9:=hZz hm9;have HS9:=hZz hs9;have HK9:=hZz hk9;have HP9:=hZz hp9;clear hm9 hs9 hk9 hp9))
     exact HPS.out c7 rfl nv9 N2 _ _ (by rw [List.length_append,HLL.out];push_cast;rfl) (by rw [List.map_append,HM9.out,List.length_map]) HS9.out ((HT8.out.kf.trans HCUT.out.2).trans HK9.out) (fun p hp g hg=>Nat.le_trans (HT8.out.kf.trans HCUT.out.2).size (HP9.out p hp g hg))
   ·have HNO:Hid (OV=none):=hZz (HON.out h8 h9)
    have d8:(nk == 8)=false:=by simp [h8]
    have d9:(nk == 9)=false:=by simp [h9]
    clear h8 h9;have hb2:Below V.heap.size V (V.drew.alloc (.cells #[.int .i64 nk,.string nt,.int .i64 ni,.slice kA kn kc,.slice kvA m kvc] 58)):=(zadZ V).trans ((zabZ V.drew (.cells #[.int .i64 nk,.string nt,.int .i64 ni,.slice kA kn kc,.slice kvA m kvc] 58)).mono (by simp));have hsa:=zagZ HT0.out.st.row hb2;rw [HLN.out] at hsa;have HSA:=hZz hsa;have HBA:=hZz (HT0.out.st.fo.below hb2);have HBW:=hZz hb2;have HSZ:Hid (w0.heap.size≤(V.drew.alloc (.cells #[.int .i64 nk,.string nt,.int .i64 ni,.slice kA kn kc,.slice kvA m kvc] 58)).heap.size):=hZz (Nat.le_trans HT0.out.st.bl.size hb2.size);have HIK:=hZz (zagZ (zahY HT0.out.kids HBL.out.size) hb2);have v2:=HT0.out.st.fo.cell 2 _ rfl;have c2:=(HT0.out.st.fo.below (zadZ V)).cell 2 _ rfl;have xp:=zalZ HT0.out.bn;have xd:=zalZ (HT0.out.bn.below (zadZ V));have hnew:=zadY V.drew [.int .i64 nk,.string nt,.int .i64 ni,.slice kA kn kc,.slice kvA m kvc] 58;clear hb2 hsa;go_upto_region 14 with (fail)
    go_region_law (rw [if_pos (by rfl)];refine wp_append_lies _ (.tmp 74) (.tmp 76) 22 rfl w0.heap.size 58 i0 _ 5 80 underlying22 hi9 hz0 hz1 hz2 rfl ?k1 _ ln _ rfl HSA.out ⟨V.drew.heap.size,0,none⟩ 1 1 [.int .i64 nk,.string nt,.int .i64 ni,.slice kA kn kc,.slice kvA m kvc] rfl rfl hnew ?k2 ?k3 ?k4 ?k5 ?k6 _ rfl ?_;(case k1=>decide);(case k2=>simp [Value.oneCell']);(case k3=>decide);(case k4=>(unfold maxLen;omega));(case k5=>omega);(case k6=>exact HSZ.out);intro g6 cap6 w6 hown6 hgr6 hat6 _;have HB6:=hZz (HBA.out.grown hgr6 (zaeZ HSA.out HBA.out (by decide)));have z6:=HB6.out.frozen 2;have o6:=HB6.out.cell 2 _ rfl;have HO6:=hZz hown6;have HGR:=hZz hgr6;have HAT:=hZz hat6;clear hown6 hgr6 hat6)
    all_goals
     have hb7:=HB6.out.set_ 2 (.slice (some ⟨g6,0,none⟩) (ln+1) cap6);have q7:=hb7.cell 2 _ rfl;clear hb7;go_wp2_with (fail)
     have hpu:=HT0.out.st.push HBW.out ((⟨nk,nt,ni,n.keys,ks⟩,.slice kA kn kc,.slice kvA m kvc):NodeX) HKV.out HIK.out HGR.out (by have:=HO6.out;rw [← HLN.out] at this;rw [HLN.out] at this ⊢;exact this) (HAT.out.imp id (fun e=>by rw [e];exact Nat.le_refl _));rw [HLN.out,List.append_assoc] at hpu
     exact HPN.out HNO.out _ (N ++ [((⟨nk,nt,ni,n.keys,ks⟩,.slice kA kn kc,.slice kvA m kvc):NodeX)]) _ _ (by rw [← List.append_assoc,List.length_append,HLN.out];simp) (by rw [← List.append_assoc,List.map_append,HMM.out];rfl) hpu.1 (HT0.out.kf.trans hpu.2) (fun p hp g hg=>by
      rcases List.mem_append.1 hp with hp | hp
      ·exact HT0.out.parts p hp g hg
      ·rw [List.mem_singleton.1 hp] at hg
       exact (HT0.out.kids.lt g hg).1)
end
section
theorem tfold_all (w0:World) (S:ProgS) (gF:Nat) (hS:ProgV w0 S) (hok:ProgOk S.p):∀ f i s,firstF S.p.nodes f i=some s→i<S.p.nodes.length→FtNode w0 S gF f i s:=by
 intro f;induction f with
 | zero=>intro i s h;cases h
 | succ f ih =>
  intro i s hf hi;exact tfold_s w0 S gF f hS hok.nodes.len (fun i hi=>by have:=hok.nodes.kids _ (List.getElem_mem hi);exact ⟨this.2,this.1⟩) ih i s hf hi
structure FuS (w0 wr:World) (S:ProgS) (gF:Nat) (nv:Value) (L:List NodeX) (fv:Value) (M:List FuncX):Prop where
 st:FtSt w0 wr S gF nv L
 row:wr.ownsRow w0.heap.size 42 3 fv M.length (M.flatMap funcRow)
 keys:∀ p∈M,KeysV w0 p.2 p.1.params
section
variable {w0 wr wx:World} {S:ProgS} {gF:Nat} {nv nv2 fv:Value} {L L2:List NodeX} {M:List FuncX}
theorem FuS.below (h:FuS w0 wr S gF nv L fv M) (hb:Below wr.heap.size wr wx):FuS w0 wx S gF nv L fv M:=⟨h.st.below hb,zagZ h.row hb,h.keys⟩
theorem FuS.rec_ (h:FuS w0 wr S gF nv L fv M) (hst:FtSt w0 wx S gF nv2 L2) (hk:KF gF nv.ownBlock nv2.ownBlock wr wx):FuS w0 wx S gF nv2 L2 fv M :=
 ⟨hst,hk.row h.row (fun g hg=>⟨zanY h.row h.st.fo (by decide) g hg,zafY h.row h.st.row (by decide) g hg⟩),h.keys⟩
theorem FuS.func {x:FuncX} {g2 c2:Nat} (h:FuS w0 wr S gF nv L fv M) (hk:KeysV w0 x.2 x.1.params) (hown:wx.ownsRow w0.heap.size 42 3 (.slice (some ⟨g2,0,none⟩) (M.length+1) c2) (M.length+1) (M.flatMap funcRow ++ funcRow x)) (hg:wr.grownBy wx fv.ownBlock):FuS w0 wx S gF nv L (.slice (some ⟨g2,0,none⟩) (M.length+1) c2) (M ++ [x]):=by
 refine ⟨h.st.grown hg (zaeZ h.row h.st.fo (by decide)) (fun g hg=>zafY h.st.row h.row (by decide) g hg) (fun p hp g hg=>zafY (h.st.kids p hp) h.row (by decide) g hg) (fun g e=>(h.row.lt g e).1),?_,fun p hp=>?_⟩
 ·rw [List.length_append,List.length_singleton,List.flatMap_append,List.flatMap_cons,List.flatMap_nil,List.append_nil]
  exact hown
 ·rcases List.mem_append.1 hp with hp | hp
  ·exact h.keys p hp
  ·rw [List.mem_singleton.1 hp];exact hk
theorem FuS.setX {gx:Nat} {cs:Array Value} (h:FuS w0 wr S gF nv L fv M) (hb:Blk wr gx 42 cs) (h0:w0.heap.size≤gx) (hf:∀ g,fv.ownBlock=some g→g≠gx) (i:Nat) (u:Value):FuS w0 (wr.setCell ⟨gx,i,none⟩ u) S gF nv L fv M:=by
 have hg:=zacY wr gx i u;refine ⟨h.st.grown hg (fun e=>by injection e with e;exact zcqY h.st.fo hb (by decide) e) (fun g hg e=>zanY h.st.row hb (by decide) g hg (by injection e)) (fun p hp g hg e=>zanY (h.st.kids p hp) hb (by decide) g hg (by injection e)) (fun g e=>by injection e with e;omega),zagY h.row hg (fun g hg e=>hf g hg (by injection e)),h.keys⟩
theorem FuS.prog (h:FuS w0 wr S gF nv L fv M) (hl:L.length≤1000000) (hk:∀ p∈L,p.1.kids.length≤1000000) (hm:M.length≤1000000):∃ A c fA fc,nv=.slice A L.length c∧fv=.slice fA M.length fc∧ProgV wr ⟨A,fA,c,fc,⟨L.map Prod.fst,M.map Prod.fst⟩⟩:=by
 obtain ⟨A,c,rfl⟩:=zahZ h.st.row;obtain ⟨fA,fc,rfl⟩:=zahZ h.row;refine ⟨A,c,fA,fc,rfl,rfl,⟨?_,?_⟩⟩
 ·have:=h.st.nodes hl hk
  show NodesV wr (.slice A (L.map Prod.fst).length c) (L.map Prod.fst);rw [List.length_map];exact this
 ·show FuncsV wr (.slice fA (M.map Prod.fst).length fc) (M.map Prod.fst)
  rw [List.length_map];exact funcs_sl (SlAt.of_own h.row rfl (fun _=>rfl) (by decide)) (fun p hp=>(h.keys p hp).below h.st.bl) (zb6Y h.row) hm
end
theorem slat_far {α:Type} {w:World} {A:Option Addr} {sz:Nat} {c:α→List Value} {l:List α} (h:SlAt w A sz c l) (gR:Nat) (j:Nat) (u:Value) (hne:∀ b off,A=some ⟨b,off,none⟩→b≠gR):SlAt (w.setCell ⟨gR,j,none⟩ u) A sz c l:=by
 intro i row hi;obtain ⟨b,off,e1,e2,e3⟩:=h i row hi;refine ⟨b,off,e1,by simpa using e2,fun q v hv=>?_⟩
 have:=e3 q v hv
 rw [World.cell?_of_block (Below.heap_setCell w ⟨gR,j,none⟩ u b (hne b off e1))];exact this
theorem keys_setR {w:World} {gR:Nat} {v u0 u1:Value} {l:List ByteArray} (hR:Blk w gR 25 #[.slice none 0 0,.slice none 0 0]) (h:KeysV w v l):KeysV ((w.setCell ⟨gR,0,none⟩ u0).setCell ⟨gR,1,none⟩ u1) v l:=by
 obtain ⟨A,cap,h1,h2,h3⟩:=h;refine ⟨A,cap,h1,h2,?_⟩
 cases l with
 | nil=>intro i row hi;simp at hi
 | cons x r =>
  have hne:∀ b off,A=some ⟨b,off,none⟩→b≠gR:=by
   intro b off e e2;subst e e2;have c:=h3.cell0 (n:=0) (by simp) (v:=.string x) rfl;rw [Nat.zero_mul,Nat.add_zero] at c
   have c2:w.cell? ⟨b,off,none⟩=(#[Value.slice none 0 0,Value.slice none 0 0])[off]?:=by
    unfold Blk at hR;simp [World.cell?,hR]
   rw [c2] at c
   match off with
   | 0=>cases c
   | 1=>cases c
   | k+2=>simp at c
  exact slat_far (slat_far h3 gR 0 u0 hne) gR 1 u1 hne
attribute [local go_sem] zacZ
set_option maxHeartbeats 16000000 in
theorem rfold_s (S:ProgS) (w:World) (hS:ProgV w S) (hok:ProgOk S.p):Calls prog 16 #[S.val] w (FoldP S w):=by
 obtain ⟨P,hP⟩:∃ P:Ending→World→Prop,FoldP S w=P:=⟨_,rfl⟩
 rw [hP]
 have HP1:Hid (∀ w' er,(studyF S.p).err=er→er≠0→Below w.heap.size w w'→P (.returned (.tuple #[.agg #[.slice none 0 0,.slice none 0 0],.int .i64 er])) w'):=hZz (fun w' er h1 h2 h3=>by
  rw [← hP];refine ⟨⟨none,none,0,0,noProg⟩,?_,?_,⟨⟨none,0,[],rfl,Nat.le_refl _,Nat.zero_le _,SlAt.nil,rfl,fun i hi=>by cases hi⟩,⟨none,0,[],rfl,Nat.le_refl _,Nat.zero_le _,SlAt.nil,rfl,fun i hi=>by cases hi⟩⟩,h3⟩
  ·unfold foldG;rw [if_pos (by rw [h1];exact h2),h1];rfl
  ·unfold foldG;rw [if_pos (by rw [h1];exact h2)])
 have HP2:Hid (∀ w' (S':ProgS),(studyF S.p).err=0→S'.p=foldP S.p→ProgV w' S'→Below w.heap.size w w'→P (.returned (.tuple #[S'.val,.int .i64 0])) w'):=hZz (fun w' S' h1 h2 h3 h4=>by
  rw [← hP];exact ⟨S',by unfold foldG;rw [if_neg (by rw [h1];simp)],by unfold foldG;rw [if_neg (by rw [h1];simp)];exact h2,h3,h4⟩)
 obtain ⟨W1,hW1⟩:∃ W,w.alloc (.cells #[.slice S.A S.p.nodes.length S.ncap,.slice S.B S.p.funcs.length S.fcap] 25)=W:=⟨_,rfl⟩
 obtain ⟨g,hg⟩:∃ g,w.heap.size=g:=⟨_,rfl⟩
 obtain ⟨gR,hgR⟩:∃ g,W1.heap.size=g:=⟨_,rfl⟩
 obtain ⟨W2,hW2⟩:∃ W,W1.alloc (.cells #[.slice none 0 0,.slice none 0 0] 25)=W:=⟨_,rfl⟩
 have hb2:Below w.heap.size w W2:=by rw [← hW2,← hW1];exact zaxY _ _ _
 have HB2:=hZz hb2;have hx1:Blk W1 g 25 #[.slice S.A S.p.nodes.length S.ncap,.slice S.B S.p.funcs.length S.fcap]:=by rw [← hW1,← hg];exact Blk.new _ _ _
 have HX2:Hid (Blk W2 g 25 #[.slice S.A S.p.nodes.length S.ncap,.slice S.B S.p.funcs.length S.fcap]):=hZz (by rw [← hW2];exact hx1.alloc _);have HR2:Hid (Blk W2 gR 25 #[.slice none 0 0,.slice none 0 0]):=hZz (by rw [← hW2,← hgR];exact Blk.new _ _ _);have HC:Hid (Calls prog 35 #[S.val] W2 fun e w'=>∃ nd,e=.returned (.tuple #[.int .i64 nd,.int .i64 (studyF S.p).err])∧Below W2.heap.size W2 w'):=hZz (by rw [study_err];exact wcheck_s S W2 (hS.below hb2) hok);have HLE:Hid (w.heap.size≤gR):=hZz (by rw [← hgR,← hW1];simp);have HGR:Hid (g+1=gR):=hZz (by rw [← hgR,← hW1,← hg];simp);have HS:=hZz hS;have HOK:=hZz hok;unfold ProgS.val at HC HP2 ⊢;have HG:=hZz hg;have HW1:=hZz hW1;have HW2:=hZz hW2;clear hP hg hW1 hW2 hb2 hgR hx1 hS hok;go_enter func16,ntmps16
 go_upto_region 1 with fail
 rw [HG.out,HW1.out]
 try rw [HGR.out]
 rw [HW2.out];clear HG HW1 HW2 HGR;have x2:=blk2 HX2.out
 go_upto_region 2 with (first
  | (go_at_call 35;(with_reducible refine HC.out.mono ?_);rintro r w3 ⟨a,rfl,hb3⟩;have HB23:=hZz hb3;clear hb3))
 have HB3:=hZz (zaaZ HB23.out HB2.out HB2.out.size);have HR3:=hZz (HR2.out.below HB23.out);have HX3:=hZz (HX2.out.below HB23.out);obtain ⟨er,her⟩:∃ x,(studyF S.p).err=x:=⟨_,rfl⟩
 have HER:=hZz her;rw [her];clear her x2 HC;by_cases h0:er=0
 case neg =>
  have e0:(er != 0)=true:=by simp [h0]
  have H0:=hZz h0;have z0:=HR3.out.frozen 0;have k0:=HR3.out.cell 0 _ rfl;have h1:=HR3.out.set_ 0 (.slice none 0 0);have z1:=h1.frozen 1;have k1:=HR3.out.cell 1 _ rfl;have h2:=h1.set_ 1 (.slice none 0 0);have HQ:Hid (Blk ((w3.setCell ⟨gR,0,none⟩ (.slice none 0 0)).setCell ⟨gR,1,none⟩ (.slice none 0 0)) gR 25 #[.slice none 0 0,.slice none 0 0]):=hZz h2
  have HBQ:Hid (Below w.heap.size w ((w3.setCell ⟨gR,0,none⟩ (.slice none 0 0)).setCell ⟨gR,1,none⟩ (.slice none 0 0))):=hZz (by
   have a:=zawY HB3.out HB3.out.size HLE.out 0 (.slice none 0 0);exact (zawY a.1 a.2 HLE.out 1 (.slice none 0 0)).1)
  clear h0 h1 h2;go_wp2_with (fail)
  obtain ⟨q0,q1⟩:=blk2 HQ.out;clear z0 z1 k0 k1;refine bodyPost_ret (by simp [results,Tryz.results16,go_sem,q0,q1];rfl) rfl ?_
  exact HP1.out _ _ HER.out H0.out HBQ.out
 subst h0;have x3:=blk2 HX3.out;obtain ⟨gF,hgF⟩:∃ g,w3.heap.size=g:=⟨_,rfl⟩
 obtain ⟨W4,hW4⟩:∃ W,w3.alloc (.cells #[.slice S.A S.p.nodes.length S.ncap,.slice S.B S.p.funcs.length S.fcap,.slice none 0 0] 76)=W:=⟨_,rfl⟩
 have hb4:Below w3.heap.size w3 W4:=by rw [← hW4];exact zabZ _ _
 have HST:Hid (FuS w3 W4 S gF nilN [] nilN []):=hZz ⟨⟨by rw [← hW4,← hgF];exact Blk.new _ _ _,zbgY,fun p hp=>absurd hp (by simp),fun p hp=>absurd hp (by simp),hb4,by omega⟩,zbgY,fun p hp=>absurd hp (by simp)⟩;have HX4:=hZz (HX3.out.below hb4);have HSY:=hZz (zcgY HER.out).1;have HTF:Hid (∀ i s,firstF S.p.nodes 600 i=some s→i<S.p.nodes.length→FtNode w3 S gF 600 i s):=hZz (tfold_all w3 S gF (HS.out.below HB3.out) HOK.out 600);have HGF:=hZz hgF;have HW4:=hZz hW4;obtain ⟨nf,hnf⟩:∃ x,S.p.funcs.length=x:=⟨_,rfl⟩
 have HNFL:=hZz hnf;have hNF:nf≤16:=by rw [← hnf];exact HSY.out.funcs
 rw [hnf] at HX4 HW4 x3;obtain ⟨i2,hj2,hz0,hz1,hz2⟩:=info_parts Tryz.infoFunc;clear hgF hW4 hb4 hnf;go_upto_region 5 with (fail)
 rw [HGF.out,HW4.out];clear x3 HW4 HGF;go_wp2_with (fail)
 go_loopw [7,8,9] (fun fv iv _ wr=>∃ (k:Nat) (nvk:Value) (L:List NodeX) (M:List FuncX),k≤nf∧iv=.int .i64 k∧Hid (L.map Prod.fst=foldN S.p k∧M.map Prod.fst=(List.range k).map (foldFn S.p)∧M.length=k)∧Hid (FuS w3 wr S gF nvk L fv M)) (fun _ iv _ _=>nf - (intOf iv).toNat)
 case atStart=>exact ⟨0,nilN,[],[],Nat.zero_le _,rfl,hZz ⟨rfl,rfl,rfl⟩,HST⟩
 case round =>
  obtain ⟨k,nvk,L,M,hk,rfl,HL,HF⟩:=hrel;have hk0:(0:Int)≤(k:Int):=by omega
  have hbw:Below w3.heap.size w3 wr:=HF.out.st.bl;have HBW:=hZz hbw;by_cases hlt:k<nf
  ·have hlt':(k:Int)<(nf:Int):=by omega
   have hkl:k<S.p.funcs.length:=by rw [HNFL.out];exact hlt
   obtain ⟨b0,hfo,hst1,hbn⟩:=HSY.out.func hkl;obtain ⟨bF,offF,kA,kc,hA,hbF,c0,c1,c2,hkv⟩:=zamY (HS.out.below HB3.out).funcs hkl;have hbo:=hfo.body;rw [hbo] at c2
   replace c0:=(hbw.cell hbF).trans c0
   replace c1:=(hbw.cell hbF).trans c1
   replace c2:=(hbw.cell hbF).trans c2
   have hxx:=HX3.out.below hbw;rw [hA,HNFL.out] at hxx;have x3:=blk2 hxx;have hgd:(S.p.funcs.getD k noFunc)=S.p.funcs[k]:=zakZ hkl _;obtain ⟨fn,hfn⟩:∃ t,S.p.funcs[k]=t:=⟨_,rfl⟩
   rw [hfn] at c0 c1 hkv hgd;obtain ⟨nm,hnm⟩:∃ t,fn.name=t:=⟨_,rfl⟩
   obtain ⟨pn,hpn⟩:∃ t,fn.params.length=t:=⟨_,rfl⟩
   rw [hnm] at c0;rw [hpn] at c1 hkv;have HKV:=hZz hkv;have HNM:=hZz hnm;have HGD:=hZz hgd;have HBN:=hZz hbn;obtain ⟨gx,hgx⟩:∃ g,wr.heap.size=g:=⟨_,rfl⟩
   obtain ⟨W5,hW5⟩:∃ W,wr.alloc (.cells #[.string nm,.slice kA pn kc,.int .i64 b0] 42)=W:=⟨_,rfl⟩
   have hb5:Below wr.heap.size wr W5:=by rw [← hW5];exact zabZ _ _
   have HY5:Hid (Blk W5 gx 42 #[.string nm,.slice kA pn kc,.int .i64 b0]):=hZz (by rw [← hW5,← hgx];exact Blk.new _ _ _);have HF5:=hZz (HF.out.below hb5);have hnx:∀ g,u7.ownBlock=some g→g≠gx:=fun g hg=>by have:=(HF.out.row.lt g hg).2;omega
   have HNX:=hZz hnx;have HGE:Hid (w3.heap.size≤gx):=hZz (by rw [← hgx];exact hbw.size)
   have hbd:L.length+(b0+1 - startF S.p.funcs k)≤5000:=by
    have h1:=congrArg List.length HL.out.1;rw [List.length_map] at h1
    have:=HSY.out.fold_len k (by omega)
    have:=HSY.out.nodes
    have:=HSY.out.start_le k (by omega)
    have:=hfo.lt
    omega
   have HCN:=hZz (HTF.out b0 _ hfo.first hfo.lt W5 nvk L HF5.out.st hbd);have HGX:=hZz hgx;have HW5:=hZz hW5;have hk16:k≤16:=by omega
   clear hA hbF hbo hfn hgd hnm hpn hkv hgx hW5 hb5 hnx hbd hxx hst1 hbn hfo hkl hbw;go_upto_region 10 with fail
   rw [HGX.out,HW5.out];clear HGX HW5 c0 c1 c2 x3;obtain ⟨y0,y1,y2⟩:=blkF HY5.out;have hML:=HL.out.2.2
   go_upto_region 11 with (first
    | (go_at_call 36;(with_reducible refine HCN.out.mono ?_);rintro r w6 ⟨nv6,N6,he6,hm6,hs6,hk6,hp6⟩;obtain ⟨bx,hbx⟩:∃ t,(((L ++ N6).length:Int) - 1)=t:=⟨_,rfl⟩;rw [hbx] at he6;subst he6;have HBX:=hZz hbx;have HM6:=hZz hm6;have HF6:=hZz (HF5.out.rec_ hs6 hk6);have HY6:=hZz (hk6.blk HY5.out (zcqY HY5.out HF5.out.st.fo (by decide)) (zaeZ HF5.out.st.row HY5.out (by decide)));obtain ⟨u0,u1,u2⟩:=blkF HY6.out;have z2:=HY6.out.frozen 2;clear hbx hm6 hs6 hk6 hp6))
   clear y0 y1 y2 u0 u1 u2 z2;have HY7:Hid (Blk (w6.setCell ⟨gx,2,none⟩ (.int .i64 bx)) gx 42 #[.string nm,.slice kA pn kc,.int .i64 bx]):=hZz (HY6.out.set_ 2 _);have HF7:=hZz (HF6.out.setX HY6.out HGE.out HNX.out 2 (.int .i64 bx));obtain ⟨W7,hW7⟩:∃ W,w6.setCell ⟨gx,2,none⟩ (.int .i64 bx)=W:=⟨_,rfl⟩
   rw [hW7] at HY7 HF7 ⊢;clear hW7;obtain ⟨y0,y1,y2⟩:=blkF HY7.out;have HFR:Hid (W7.ownsRow w3.heap.size 42 3 u7 k (M.flatMap funcRow)):=hZz (by have:=HF7.out.row;rw [hML] at this;exact this);have HSZ:Hid (w3.heap.size≤W7.heap.size):=hZz HF7.out.st.bl.size;have HML:=hZz hML;clear hML;go_wp2_with (at_builtin;refine za1Y rfl (.tmp 37) (.tmp 39) 23 rfl i2 _ 48 underlying23 hj2 hz0 hz1 hz2 rfl (by omega) rfl HFR.out [.string nm,.slice kA pn kc,.int .i64 bx] rfl rfl (by simp [Value.oneCell']) (by omega) (by omega) HSZ.out ?_;intro gA cA w8 hown hb hsz hg ha;have HO8:=hZz hown;have HG8:=hZz hg;clear hown hb hsz hg ha)
   have hf8:=HF7.out.func (x:=((⟨nm,fn.params,bx⟩,.slice kA pn kc):FuncX)) HKV.out (by have:=HO8.out;rw [← HML.out] at this;exact this) HG8.out;rw [HML.out] at hf8
   have hR:(L ++ N6).map Prod.fst=foldN S.p (k+1):=by
    rw [HM6.out];simp only [foldN];rw [HBN.out,HL.out.1]
   have hfn1:foldFn S.p k=⟨nm,fn.params,bx⟩:=by
    have h1:=congrArg List.length hR;rw [List.length_map] at h1;unfold foldFn;rw [HGD.out,← h1,HNM.out,HBX.out]
   exact ⟨⟨k+1,nv6,L ++ N6,M ++ [(⟨nm,fn.params,bx⟩,.slice kA pn kc)],by omega,by simp,hZz ⟨hR,by rw [List.map_append,HL.out.2.1,List.range_succ,List.map_append,List.map_cons,List.map_nil,List.map_cons,List.map_nil,hfn1],by rw [List.length_append,HML.out];rfl⟩,hZz hf8⟩,by simp [intOf];omega⟩
  ·have e9:nf=k:=by omega
   subst e9
   have hlen:L.length≤600:=by
    have h1:=congrArg List.length HL.out.1;rw [List.length_map] at h1
    have:=HSY.out.fold_len nf (by rw [HNFL.out];exact Nat.le_refl _)
    have:=HSY.out.start_le nf (by rw [HNFL.out];exact Nat.le_refl _)
    have:=HSY.out.nodes
    omega
   have hkd:∀ p∈L,p.1.kids.length≤1000000:=fun p hp=>by
    have h1:p.1∈L.map Prod.fst:=List.mem_map_of_mem hp;rw [HL.out.1] at h1
    have:=foldN_kids (B:=1000) (by omega) HOK.out.kids nf _ h1
    omega
   obtain ⟨pA,pc,fA,fc,hnv,hfv,hpr⟩:=HF.out.prog (by omega) hkd (by rw [HL.out.2.2];omega);subst hnv hfv;have hR3:=HR3.out.below hbw;have hx3:=HX3.out.below hbw;rw [HNFL.out] at hx3;have xx:=blk2 hx3;have f2:=HF.out.st.fo.cell 2 _ rfl;have z0:=hR3.frozen 0;have k0:=hR3.cell 0 _ rfl;have h1:=hR3.set_ 0 (.slice pA L.length pc);have z1:=h1.frozen 1;have k1:=hR3.cell 1 _ rfl;have h2:=h1.set_ 1 (.slice fA M.length fc);have HQ:Hid (Blk ((wr.setCell ⟨gR,0,none⟩ (.slice pA L.length pc)).setCell ⟨gR,1,none⟩ (.slice fA M.length fc)) gR 25 #[.slice pA L.length pc,.slice fA M.length fc]):=hZz h2;have hB0:=zaaZ hbw HB3.out HB3.out.size;have a:=zawY hB0 (Nat.le_trans HB3.out.size hbw.size) HLE.out 0 (.slice pA L.length pc);have HBQ:Hid (Below w.heap.size w ((wr.setCell ⟨gR,0,none⟩ (.slice pA L.length pc)).setCell ⟨gR,1,none⟩ (.slice fA M.length fc))):=hZz (zawY a.1 a.2 HLE.out 1 (.slice fA M.length fc)).1;have hcells:∀ {base m s:Nat} {v:Value} {xs:List Value} {e:TypeId},e≠25→wr.ownsRow base e s v m xs→((wr.setCell ⟨gR,0,none⟩ (.slice pA L.length pc)).setCell ⟨gR,1,none⟩ (.slice fA M.length fc)).ownsRow base e s v m xs:=fun h1 ho=>zakY (zakY ho (HR3.out.below hbw) h1 0 _) ((HR3.out.below hbw).set_ 0 _) h1 1 _
   have HPF:Hid (ProgV ((wr.setCell ⟨gR,0,none⟩ (.slice pA L.length pc)).setCell ⟨gR,1,none⟩ (.slice fA M.length fc)) ⟨pA,fA,pc,fc,⟨L.map Prod.fst,M.map Prod.fst⟩⟩):=hZz (by
    have hlen':L.length≤1000000:=by omega
    refine ⟨?_,?_⟩
    ·show NodesV _ (.slice pA (L.map Prod.fst).length pc) (L.map Prod.fst)
     rw [List.length_map];have hrow:=hcells (by decide) HF.out.st.row;exact nodes_sl (SlAt.of_own hrow rfl (fun _=>rfl) (by decide)) (fun p hp=>⟨keys_setR (HR3.out.below hbw) ((HF.out.st.keys p hp).below hbw),ints_own (hcells (by decide) (HF.out.st.kids p hp)) (by have:=hkd p hp;omega)⟩) (zb6Y hrow) hlen'
    ·show FuncsV _ (.slice fA (M.map Prod.fst).length fc) (M.map Prod.fst)
     rw [List.length_map];have hrow:=hcells (by decide) HF.out.row;exact funcs_sl (SlAt.of_own hrow rfl (fun _=>rfl) (by decide)) (fun p hp=>keys_setR (HR3.out.below hbw) ((HF.out.keys p hp).below hbw)) (zb6Y hrow) (by rw [HL.out.2.2];omega))
   clear hcells h1 h2 hB0 a hR3 hx3 hpr hkd;go_wp2_with (fail)
   obtain ⟨q0,q1⟩:=blk2 HQ.out;clear z0 z1 k0 k1 xx f2;refine bodyPost_ret (by simp [results,Tryz.results16,go_sem,q0,q1];rfl) rfl ?_
   have hfin:=HP2.out _ ⟨pA,fA,pc,fc,⟨L.map Prod.fst,M.map Prod.fst⟩⟩ HER.out (by show (⟨_,_⟩:ProgD)=_;rw [HL.out.1,HL.out.2.1];unfold foldP;rw [HNFL.out]) HPF.out HBQ.out;simp only [List.length_map] at hfin;exact hfin
end
section
theorem noProg_ok:ProgOk noProg:=⟨⟨Nat.zero_le _,fun n hn=>absurd hn (by simp [noProg]),fun n hn=>absurd hn (by simp [noProg])⟩,Nat.zero_le _,fun f hf=>absurd hf (by simp [noProg])⟩
theorem foldG_ok {p:ProgD} (hs:SmallPr p) (ht:TextsOk p):ProgOk (foldG p).1:=by
 unfold foldG;by_cases h0:(studyF p).err=0
 ·rw [if_neg (by rw [h0];simp)]
  obtain ⟨f1,f2,f3⟩:=fold_ok h0;exact (zcgY h0).1.foldP_ok hs ht f3
 ·rw [if_pos h0]
  exact noProg_ok
attribute [local go_sem] zacZ
set_option maxHeartbeats 16000000 in
theorem lfolds_s (S:ProgS) (w:World) (hS:ProgV w S) (hp:Pow w) (hm:MaxL w) (ht:TextsOk S.p) (hA:∀ wx,Below w.heap.size w wx→Calls prog 10 #[] wx fun r w'=>r=.returned (.bool true)∧Below wx.heap.size wx w') :
  Calls prog 4 #[S.val] w fun r w'=>r=.returned (.bool true)∧Below w.heap.size w w':=by
 obtain ⟨P,hP⟩:∃ P:Ending→World→Prop,(fun r w'=>r=.returned (.bool true)∧Below w.heap.size w w')=P:=⟨_,rfl⟩
 rw [hP];have HP:Hid (∀ w',Below w.heap.size w w'→P (.returned (.bool true)) w'):=hZz (fun w' h2=>by rw [← hP];exact ⟨rfl,h2⟩);obtain ⟨W1,hW1⟩:∃ W,w.alloc (.cells #[.slice S.A S.p.nodes.length S.ncap,.slice S.B S.p.funcs.length S.fcap] 25)=W:=⟨_,rfl⟩
 obtain ⟨g,hg⟩:∃ g,w.heap.size=g:=⟨_,rfl⟩
 have hb1:Below w.heap.size w W1:=by rw [← hW1];exact zabZ _ _
 have HB1:=hZz hb1;have HX1:Hid (Blk W1 g 25 #[.slice S.A S.p.nodes.length S.ncap,.slice S.B S.p.funcs.length S.fcap]):=hZz (by rw [← hW1,← hg];exact Blk.new _ _ _);have HCS:Hid (Calls prog 9 #[S.val] W1 fun e w'=>(∃ b,e=.returned (.bool b)∧(b=true→SmallPr S.p))∧Below W1.heap.size W1 w'):=hZz (small_s S W1 (hS.below hb1));obtain ⟨er,her⟩:∃ x,(foldG S.p).2=x:=⟨_,rfl⟩
 obtain ⟨q,hq⟩:∃ x,(foldG S.p).1=x:=⟨_,rfl⟩
 have hfold:∀ fn wx,Calls prog fn #[S.val] wx (FoldP S wx)→Calls prog fn #[S.val] wx fun r w'=>∃ A B n f,r=.returned (.tuple #[.agg #[.slice A q.nodes.length n,.slice B q.funcs.length f],.int .i64 er])∧ProgV w' ⟨A,B,n,f,q⟩∧Below wx.heap.size wx w':=fun fn wx hc=>hc.mono (fun r w' ⟨⟨A,B,n,f,p'⟩,h1,h2,h3,h4⟩=>by
  have e:p'=q:=h2.trans hq;subst e;rw [her] at h1;exact ⟨A,B,n,f,h1,h3,h4⟩)
 have HCF:=hZz (fun (hs:SmallPr S.p) wx (hb:Below w.heap.size w wx)=>hfold 15 wx (fold_s S wx (hS.below hb) (hp.below hb) (hm.below hb) (hs.ok ht)));have HRF:=hZz (fun (hs:SmallPr S.p) wx (hb:Below w.heap.size w wx)=>hfold 16 wx (rfold_s S wx (hS.below hb) (hs.ok ht)));have HQOK:Hid (SmallPr S.p→ProgOk q):=hZz (fun hs=>by rw [← hq];exact foldG_ok hs ht);have HA:=hZz hA;unfold ProgS.val at HCS HCF HRF ⊢;have HG:=hZz hg;have HW1:=hZz hW1;have HSA:Hid (∀ (A1 B1 A2 B2:Option Addr) (n1 f1 n2 f2:Nat) wx,SmallPr S.p→ProgV wx ⟨A1,B1,n1,f1,q⟩→ProgV wx ⟨A2,B2,n2,f2,q⟩→Calls prog 17 #[.agg #[.slice A1 q.nodes.length n1,.slice B1 q.funcs.length f1],.agg #[.slice A2 q.nodes.length n2,.slice B2 q.funcs.length f2]] wx fun e w'=>e=.returned (.bool true)∧Below wx.heap.size wx w'):=hZz (fun A1 B1 A2 B2 n1 f1 n2 f2 wx hs h1 h2=>same8_s q A1 B1 A2 B2 n1 f1 n2 f2 wx h1.nodes h1.funcs h2.nodes h2.funcs (HQOK.out hs));obtain ⟨qn,hqn⟩:∃ x,q.nodes.length=x:=⟨_,rfl⟩
 obtain ⟨qf,hqf⟩:∃ x,q.funcs.length=x:=⟨_,rfl⟩
 rw [hqn,hqf] at HCF HRF HSA;clear hP hS hp hm ht hA hg hW1 hb1 her hq hfold hqn hqf;go_enter func4,ntmps4
 go_upto_region 1 with fail
 rw [HG.out,HW1.out];clear HG HW1;have x1:=blk2 HX1.out
 go_upto_region 3 with (first
  | (go_at_call 9;(with_reducible refine HCS.out.mono ?_);rintro r w2 ⟨⟨b,rfl,hb⟩,hb2⟩;have HB12:=hZz hb2;have HB2:=hZz (zaaZ hb2 HB1.out HB1.out.size);have HSM:=hZz hb;clear hb2 hb;cases b)
  | (go_at_call 10;(with_reducible refine (HA.out _ HB2.out).mono ?_);rintro r w3 ⟨rfl,hb3⟩;have HB3:=hZz (zaaZ hb3 HB2.out HB2.out.size);clear hb3))
 ·try go_wp2_with (fail)
  exact HP.out _ HB3.out
 have HSP:=hZz (HSM.out (by simp));have HX2:=hZz (HX1.out.below HB12.out);clear x1;have x2:=blk2 HX2.out;have HC3:=hZz (HCF.out HSP.out w2 HB2.out)
 go_upto_region 4 with (first
  | (go_at_call 15;(with_reducible refine HC3.out.mono ?_);rintro r w3 ⟨QA,QB,qnc,qfc,rfl,hV,hb3⟩;have HV:=hZz hV;have HB3:=hZz (zaaZ hb3 HB2.out HB2.out.size);have HX3:=hZz (HX2.out.below hb3);clear hV hb3))
 clear x2;obtain ⟨gQ,hgQ⟩:∃ g,w3.heap.size=g:=⟨_,rfl⟩
 obtain ⟨W4,hW4⟩:∃ W,w3.alloc (.cells #[.slice QA qn qnc,.slice QB qf qfc] 25)=W:=⟨_,rfl⟩
 have hb4:Below w3.heap.size w3 W4:=by rw [← hW4];exact zabZ _ _
 have HQ4:Hid (Blk W4 gQ 25 #[.slice QA qn qnc,.slice QB qf qfc]):=hZz (by rw [← hW4,← hgQ];exact Blk.new _ _ _);have HB4:=hZz (zaaZ hb4 HB3.out HB3.out.size);have HX4:=hZz (HX3.out.below hb4);have HV4:=hZz (HV.out.below hb4);rw [hgQ,hW4];clear hgQ hW4 hb4;have x4:=blk2 HX4.out;have HC5:=hZz (HRF.out HSP.out W4 HB4.out)
 go_upto_region 5 with (first
  | (go_at_call 16;(with_reducible refine HC5.out.mono ?_);rintro r w5 ⟨RA,RB,rnc,rfc,rfl,hV,hb5⟩;have HU:=hZz hV;have HB5:=hZz (zaaZ hb5 HB4.out HB4.out.size);have HQ5:=hZz (HQ4.out.below hb5);have HV5:=hZz (HV4.out.below hb5);clear hV hb5))
 clear x4;obtain ⟨gR,hgR⟩:∃ g,w5.heap.size=g:=⟨_,rfl⟩
 obtain ⟨W6,hW6⟩:∃ W,w5.alloc (.cells #[.slice RA qn rnc,.slice RB qf rfc] 25)=W:=⟨_,rfl⟩
 have hb6:Below w5.heap.size w5 W6:=by rw [← hW6];exact zabZ _ _
 have HR6:Hid (Blk W6 gR 25 #[.slice RA qn rnc,.slice RB qf rfc]):=hZz (by rw [← hW6,← hgR];exact Blk.new _ _ _);have HB6:=hZz (zaaZ hb6 HB5.out HB5.out.size);have HQ6:=hZz (HQ5.out.below hb6);have HV6:=hZz (HV5.out.below hb6);have HU6:=hZz (HU.out.below hb6);rw [hgR,hW6];clear hgR hW6 hb6;have y:=blk2 HQ6.out;have z:=blk2 HR6.out;have hee:(er == er)=true:=by simp
 have HSS:=hZz (HSA.out QA QB RA RB qnc qfc rnc rfc W6 HSP.out HV6.out HU6.out)
 go_wp2_with (first
  | (go_at_call 17;(with_reducible refine HSS.out.mono ?_);rintro r w7 ⟨rfl,hb7⟩;have HB7:=hZz (zaaZ hb7 HB6.out HB6.out.size);clear hb7)
  | (go_at_call 10;(with_reducible refine (HA.out _ HB7.out).mono ?_);rintro r w8 ⟨rfl,hb8⟩;have HB8:=hZz (zaaZ hb8 HB7.out HB7.out.size);clear hb8))
 exact HP.out _ HB8.out
end
end Go.Proofs.YthiimbhjpdphpaaGreatDoor
