/- FB6 -/
import Derived.Test.YthiimbhjpdphpaaGreatDoorPFB5
set_option linter.unusedVariables false
set_option linter.unusedSimpArgs false
namespace Go.Proofs.YthiimbhjpdphpaaGreatDoor
open Go.RowKit
set_option maxRecDepth 100000
open Go.Proofs.Tryz
def FoldP (S:ProgS) (w:World) (r:Ending) (w':World):Prop:=∃ S':ProgS,r=.returned (.tuple #[S'.val,.int .i64 (foldG S.p).2])∧S'.p=(foldG S.p).1∧ProgV w' S'∧Below w.heap.size w w'
theorem blk3F {w:World} {g:Nat} {t:TypeId} {v0 v1 v2:Value} (h:Blk w g t #[v0,v1,v2]):w.cell? ⟨g,0,none⟩=some v0∧w.cell? ⟨g,1,none⟩=some v1∧w.cell? ⟨g,2,none⟩=some v2:=⟨h.cell 0 _ rfl,h.cell 1 _ rfl,h.cell 2 _ rfl⟩
theorem two_x {w:World} {g:Nat} {t:TypeId} {a b c:Value} (h:Blk w g t #[a,b,c]):w.cell? ⟨g,0,none⟩=some a∧w.cell? ⟨g,1,none⟩=some b:=⟨h.cell 0 _ rfl,h.cell 1 _ rfl⟩
attribute [local go_sem] zacZ
set_option maxHeartbeats 16000000 in
theorem cfold_s (S:ProgS) (w:World) (hS:ProgV w S) (hp:Pow w) (hok:ProgOk S.p) (hN:∀ w0 gF,Below w.heap.size w w0→(studyF S.p).err=0→∀ i s,firstF S.p.nodes 600 i=some s→i<S.p.nodes.length→FNodeH w0 S gF 600 i s):Calls prog 15 #[S.val] w (FoldP S w):=by
 obtain ⟨P,hP⟩:∃ P:Ending→World→Prop,FoldP S w=P:=⟨_,rfl⟩
 rw [hP]
 have HP1:Hid (∀ w' er,(studyF S.p).err=er→er≠0→Below w.heap.size w w'→P (.returned (.tuple #[.agg #[.slice none 0 0,.slice none 0 0],.int .i64 er])) w'):=hZz (fun w' er h1 h2 h3=>by
  rw [← hP];refine ⟨⟨none,none,0,0,noProg⟩,?_,?_,⟨⟨none,0,[],rfl,Nat.le_refl _,Nat.zero_le _,SlAt.nil,rfl,fun i hi=>by cases hi⟩,⟨none,0,[],rfl,Nat.le_refl _,Nat.zero_le _,SlAt.nil,rfl,fun i hi=>by cases hi⟩⟩,h3⟩
  ·unfold foldG;rw [if_pos (by rw [h1];exact h2),h1];rfl
  ·unfold foldG;rw [if_pos (by rw [h1];exact h2)])
 have HP2:Hid (∀ w' (S':ProgS),(studyF S.p).err=0→S'.p=foldP S.p→ProgV w' S'→Below w.heap.size w w'→P (.returned (.tuple #[S'.val,.int .i64 0])) w'):=hZz (fun w' S' h1 h2 h3 h4=>by
  rw [← hP];exact ⟨S',by unfold foldG;rw [if_neg (by rw [h1];simp)],by unfold foldG;rw [if_neg (by rw [h1];simp)];exact h2,h3,h4⟩)
 obtain ⟨W1,hW1⟩:∃ W,w.alloc (.cells #[.slice S.A S.p.nodes.length S.ncap,.slice S.B S.p.funcs.length S.fcap] 25)=W:=⟨_,rfl⟩
 obtain ⟨g,hg⟩:∃ g,w.heap.size=g:=⟨_,rfl⟩
 obtain ⟨gR,hgR⟩:∃ g,W1.heap.size=g:=⟨_,rfl⟩
 obtain ⟨W2,hW2⟩:∃ W,W1.alloc (.cells #[.slice none 0 0,.slice none 0 0] 25)=W:=⟨_,rfl⟩
 have hb2:Below w.heap.size w W2:=by rw [← hW2,← hW1];exact zaxY _ _ _
 have HB2:=hZz hb2;have hx1:Blk W1 g 25 #[.slice S.A S.p.nodes.length S.ncap,.slice S.B S.p.funcs.length S.fcap]:=by rw [← hW1,← hg];exact Blk.new _ _ _
 have HX2:Hid (Blk W2 g 25 #[.slice S.A S.p.nodes.length S.ncap,.slice S.B S.p.funcs.length S.fcap]):=hZz (by rw [← hW2];exact hx1.alloc _);have HR2:Hid (Blk W2 gR 25 #[.slice none 0 0,.slice none 0 0]):=hZz (by rw [← hW2,← hgR];exact Blk.new _ _ _);have HC:Hid (Calls prog 18 #[S.val] W2 fun e w'=>(∃ a,e=.returned (.tuple #[.int .i64 a,.int .i64 (studyF S.p).err]))∧Below W2.heap.size W2 w'):=hZz (scheck_s S W2 (hS.below hb2) (hp.below hb2) hok);have HLE:Hid (w.heap.size≤gR):=hZz (by rw [← hgR,← hW1];simp);have HGR:Hid (g+1=gR):=hZz (by rw [← hgR,← hW1,← hg];simp);have HS:=hZz hS;have HOK:=hZz hok;have HNN:=hZz hN;unfold ProgS.val at HC HP2 ⊢;have HG:=hZz hg;have HW1:=hZz hW1;have HW2:=hZz hW2;clear hP hg hW1 hW2 hb2 hgR hx1 hS hp hok hN;go_enter func15,ntmps15
 go_upto_region 1 with fail
 rw [HG.out,HW1.out]
 try rw [HGR.out]
 rw [HW2.out];clear HG HW1 HW2 HGR;have x2:=blk2 HX2.out
 go_upto_region 2 with (first
  | (go_at_call 18;(with_reducible refine HC.out.mono ?_);rintro r w3 ⟨⟨a,rfl⟩,hb3⟩;have HB23:=hZz hb3;clear hb3))
 have HB3:=hZz (zaaZ HB23.out HB2.out HB2.out.size);have HR3:=hZz (HR2.out.below HB23.out);have HX3:=hZz (HX2.out.below HB23.out);obtain ⟨er,her⟩:∃ x,(studyF S.p).err=x:=⟨_,rfl⟩
 have HER:=hZz her;rw [her];clear her x2 HC;by_cases h0:er=0
 ·subst h0
  have x3:=blk2 HX3.out;obtain ⟨SA,hSA⟩:∃ x,S.A=x:=⟨_,rfl⟩
  obtain ⟨SB,hSB⟩:∃ x,S.B=x:=⟨_,rfl⟩
  obtain ⟨nn,hnn⟩:∃ x,S.p.nodes.length=x:=⟨_,rfl⟩
  obtain ⟨nf,hnf⟩:∃ x,S.p.funcs.length=x:=⟨_,rfl⟩
  have hSY:=(zcgY HER.out).1;have hNF:nf≤16:=by rw [← hnf];exact hSY.funcs
  obtain ⟨gF,hgF⟩:∃ g,w3.heap.size=g:=⟨_,rfl⟩
  obtain ⟨W4,hW4⟩:∃ W,w3.alloc (.cells #[.slice S.A S.p.nodes.length S.ncap,.slice S.B S.p.funcs.length S.fcap,.slice none 0 0] 73)=W:=⟨_,rfl⟩
  obtain ⟨gU,hgU⟩:∃ g,W4.heap.size=g:=⟨_,rfl⟩
  obtain ⟨W5,hW5⟩:∃ W,W4.alloc (.cells #[.slice none 0 0,.slice none 0 0] 25)=W:=⟨_,rfl⟩
  have hb4:Below w3.heap.size w3 W4:=by rw [← hW4];exact zabZ _ _
  have hb5:Below w3.heap.size w3 W5:=by rw [← hW5,← hW4];exact zaxY _ _ _
  have HX5:=hZz (HX3.out.below hb5)
  have HST:Hid (FoldS w3 W5 S gF gU (.slice none 0 0) [] none 0 []):=hZz (by
   have hfo:Blk W4 gF 73 #[.slice S.A S.p.nodes.length S.ncap,.slice S.B S.p.funcs.length S.fcap,.slice none 0 0]:=by rw [← hW4,← hgF];exact Blk.new _ _ _
   refine ⟨⟨(by rw [← hW5];exact hfo.alloc _),⟨rfl,.inl ⟨rfl,rfl⟩⟩,(fun p hp=>by cases hp),(fun p hp=>by cases hp),hb5,by rw [← hgF];exact Nat.le_refl _⟩,by rw [← hW5,← hgU];exact Blk.new _ _ _,⟨rfl,.inl ⟨rfl,rfl⟩⟩,(fun p hp=>by cases hp),by rw [← hgU];exact hb4.size⟩)
  have HGU:Hid (gF+1=gU):=hZz (by rw [← hgU,← hW4,← hgF];simp);have HSY:=hZz hSY;have HSA:=hZz hSA;have HSB:=hZz hSB;have HNNL:=hZz hnn;have HNFL:=hZz hnf;have HGF:=hZz hgF;rw [hnn,hnf,hSA,hSB] at hW4 HX5;have HW4:=hZz hW4;have HW5:=hZz hW5;rw [hnn,hnf,hSA,hSB] at x3;clear hgF hW4 hgU hW5 hb4 hb5 hSA hSB hnn hnf hSY;go_upto_region 6 with (fail)
  rw [HGF.out,HW4.out]
  try rw [HGU.out]
  rw [HW5.out];clear x3 HW4 HW5 HGU;have x5:=blk2 HX5.out;go_upto_region 7 with (fail)
  try go_wp2_with (fail)
  clear x5;go_loopw [9,10,26,27,28,29,30,31,32,33,34,35,36,37,38,39,40,41,42,43,44,45,46] (fun _ _ kv _ _ _ _ _ _ _ _ _ _ _ _ _ _ _ _ _ _ _ _ wr=>∃ (k:Nat) (nvk:Value) (L:List NodeX) (fA:Option Addr) (fc:Nat) (M:List FuncX),k≤nf∧kv=.int .i64 k∧Hid (L.map Prod.fst=foldN S.p k∧M.map Prod.fst=(List.range k).map (foldFn S.p)∧M.length=k)∧Hid (FoldS w3 wr S gF gU nvk L fA fc M)) (fun _ _ kv _ _ _ _ _ _ _ _ _ _ _ _ _ _ _ _ _ _ _ _ _=>nf - (intOf kv).toNat)
  case atStart=>exact ⟨0,.slice none 0 0,[],none,0,[],Nat.zero_le _,rfl,hZz ⟨rfl,rfl,rfl⟩,HST⟩
  case round =>
   obtain ⟨k,nvk,L,fA,fc,M,hk,rfl,HL,HF⟩:=hrel;have hk0:(0:Int)≤(k:Int):=by omega
   by_cases hlt:k<nf
   ·have hlt':(k:Int)<(nf:Int):=by omega
    have hkl:k<S.p.funcs.length:=by rw [HNFL.out];exact hlt
    obtain ⟨b0,hfo,hst1,hbn⟩:=HSY.out.func hkl;obtain ⟨bF,offF,kA,kc,hA,hbF,c0,c1,c2,hkv⟩:=zamY (HS.out.below HB3.out).funcs hkl;have hA':SB=some ⟨bF,offF,none⟩:=HSB.out.symm.trans hA;have hbw:Below w3.heap.size w3 wr:=HF.out.st.bl
    replace c0:=(hbw.cell hbF).trans c0
    replace c1:=(hbw.cell hbF).trans c1
    replace c2:=(hbw.cell hbF).trans c2
    obtain ⟨fn,hfn⟩:∃ f,S.p.funcs[k]=f:=⟨_,rfl⟩
    have hgd:S.p.funcs.getD k noFunc=fn:=by rw [zakZ hkl,hfn]
    rw [hfn] at c0 c1 c2 hkv hfo;rw [hfo.body] at c2;obtain ⟨pn,hpn⟩:∃ n,fn.params.length=n:=⟨_,rfl⟩
    obtain ⟨nm,hnm⟩:∃ s,fn.name=s:=⟨_,rfl⟩
    rw [hnm] at c0;rw [hpn] at c1;have hpb:pn≤10000:=by rw [← hpn];have:=(HOK.out.fn fn (by rw [← hfn];exact List.getElem_mem _)).2.1;exact this
    have HKV:Hid (∀ wx,Below w3.heap.size w3 wx→SlAt wx kA 1 strCs fn.params):=hZz (fun wx hb=>by
     obtain ⟨A,cap,e,_,hs⟩:=hkv;injection e with e1 _ _
     subst e1;exact hs.below hb)
    subst hA';obtain ⟨gX,hgX⟩:∃ g,wr.heap.size=g:=⟨_,rfl⟩
    obtain ⟨W6,hW6⟩:∃ W,wr.alloc (.cells #[.string nm,.slice kA pn kc,.int .i64 (b0:Nat)] 42)=W:=⟨_,rfl⟩
    have hb6:Below wr.heap.size wr W6:=by rw [← hW6];exact zabZ _ _
    have HX6:Hid (Blk W6 gX 42 #[.string nm,.slice kA pn kc,.int .i64 (b0:Nat)]):=hZz (by rw [← hW6,← hgX];exact Blk.new _ _ _);have HF6:=hZz (HF.out.below hb6);have HNX:Hid (∀ g,(Value.slice fA M.length fc).ownBlock=some g→g≠gX):=hZz (fun g hg=>by have:=(HF.out.row.lt g hg).2;omega);have HGX:=hZz hgX;have HW6:=hZz hW6;have HFN:=hZz hfn;have HGD:=hZz hgd;have HPN:=hZz hpn;have HNM:=hZz hnm;have HBN:=hZz hbn
    have hbd:L.length+(b0+1 - startF S.p.funcs k)≤5000:=by
     have h1:=congrArg List.length HL.out.1;rw [List.length_map] at h1
     have:=HSY.out.fold_len k (by omega)
     have:=HSY.out.nodes
     have:=HSY.out.start_le k (by omega)
     have:=hfo.lt
     omega
    have HCN:=hZz (HNN.out w3 gF HB3.out HER.out b0 _ hfo.first hfo.lt W6 nvk L HF6.out.st hbd);clear hA hbF hbw hfn hgd hkv hpn hnm hgX hW6 hb6 hst1 hbn hbd hfo;go_upto_region 9 with (fail)
    rw [HGX.out,HW6.out];clear c0 c1 c2 HW6;have x6:=blk3F HX6.out
    go_upto_region 10 with (first
     | (go_at_call 34;(with_reducible refine HCN.out.mono ?_);rintro r w7 ⟨nv7,N7,m,rfl,hm7,hst7,hR7,hk7,hp7⟩;have HM7:=hZz hm7;have HR7:=hZz hR7;have HF7:=hZz (HF6.out.rec_ hst7 hk7);have HX7:=hZz (hk7.blk HX6.out (fun e=>by have h1:=HF6.out.st.fo;have h2:=HX6.out;rw [e] at h2;unfold Blk at h1 h2;rw [h1] at h2;injection h2 with h2;injection h2 with _ h2 _;exact absurd h2 (by decide)) (zaeZ HF6.out.st.row HX6.out (by decide)));clear hm7 hst7 hR7 hk7 hp7))
    clear x6;have HML:=hZz HL.out.2.2;have hrow:=HF7.out.row;have hbu:=HF7.out.bu;rw [HML.out] at hrow hbu
    have hR:(L ++ N7).map Prod.fst=foldN S.p (k+1):=by
     rw [HR7.out];simp only [foldN];rw [HBN.out,HL.out.1]
    have hfn1:foldFn S.p k=⟨fn.name,fn.params,(m:Nat)⟩:=by
     have h1:=congrArg List.length hR;rw [List.length_map] at h1
     have:=HM7.out
     unfold foldFn;rw [HGD.out,← h1];congr 1
     omega
    have HRN:=hZz hR;have HFN1:=hZz hfn1;obtain ⟨i1,hj,hy0,hy1,hy2⟩:=info_parts Tryz.infoStrS;obtain ⟨i2,hj2,hz0,hz1,hz2⟩:=info_parts Tryz.infoFunc;have hk16:k≤16:=by omega
    have HXd:Hid (Blk w7.drew gX 42 #[.string nm,.slice kA pn kc,.int .i64 (b0:Nat)]):=hZz HX7.out;have HNX7:Hid (some gX≠(Value.slice fA k fc).ownBlock):=hZz (fun e=>HNX.out gX (by rw [HML.out];exact e.symm) rfl);have HUX:Hid (gX≠gU):=hZz (fun e=>by have h1:=HF7.out.bu;have h2:=HX7.out;rw [e] at h2;unfold Blk at h1 h2;rw [h1] at h2;injection h2 with h2;injection h2 with _ h2 _;exact absurd h2 (by decide));have u7:=blk2 hbu;have HSZ7:Hid (w3.heap.size≤w7.heap.size):=hZz HF7.out.st.bl.size;by_cases q0:pn=0
    ·subst q0
     have HK0:Hid (fn.params=[]):=hZz (List.length_eq_zero_iff.1 HPN.out);have hbA:Below w7.heap.size w7 (w7.alloc (.cells #[.string nm,.slice none 0 0,.int .i64 (m:Nat)] 42)).drew:=(zabZ w7 _).drew;have HFA:=hZz (HF7.out.below hbA);have HOW:=hZz (zagZ hrow hbA);have HUA:=hZz (hbu.below hbA);have HXA:=hZz (HX7.out.below hbA);have HNW:Hid (∀ q u,[Value.string nm,.slice none 0 0,.int .i64 (m:Nat)][q]? = some u→(w7.alloc (.cells #[.string nm,.slice none 0 0,.int .i64 (m:Nat)] 42)).drew.cell? ((⟨w7.heap.size,0,none⟩:Addr).add q)=some u):=hZz (zadY w7 _ 42);have HSZ:Hid (w3.heap.size≤(w7.alloc (.cells #[.string nm,.slice none 0 0,.int .i64 (m:Nat)] 42)).drew.heap.size):=hZz (Nat.le_trans HSZ7.out hbA.size);have uA:=blk2 HUA.out;clear hrow hbu hbA hfn1 hR;refine wp_region_held_drew (S:=(fun w'=>w'.cell? ⟨gX,0,none⟩=some (.string nm)∧w'.cell? ⟨gX,1,none⟩=some (.slice kA 0 kc))) (by kernel_rfl) (by (first | exact two_x HXd.out | exact two_x HXA.out | exact two_x HX9.out | exact two_x (HX9s.out _))) (fun hHeld=>?_)
     refine tkZ (i:=0) (v:=.pointer (some ⟨gU,1,none⟩)) rfl ?_
     simp only [nz,Act.put];refine tkZ (i:=2) (v:=.pointer (some ⟨gX,0,none⟩)) rfl ?_
     simp only [nz,Act.put];refine tkZ (i:=3) (v:=.string nm) rfl ?_
     simp only [nz,Act.put];refine tkZ (i:=4) (v:=.pointer (some ⟨gX,1,none⟩)) rfl ?_
     simp only [nz,Act.put];refine tkZ (i:=5) (v:=.slice kA 0 kc) rfl ?_
     simp only [nz,Act.put];refine tkZ (i:=7) (v:=.int .i64 (m:Nat)) rfl ?_
     simp only [nz,Act.put];refine wpAnyH_ready (rs:=[1,6]) (by kernel_rfl) (by simp) ?_
     refine AllReadyH.cons (o:=_) rfl (fun K hK=>?_) ?_
     focus
      go_simp;refine hK.out _ _ (by (try dsimp only);(first | exact two_x HXd.out | exact two_x HXA.out | exact two_x HX9.out | exact two_x (HX9s.out _))) (fun hHeld=>?_)
      clear hK K
      try simp only [nz,Act.put]
      refine wpAnyH_ready (rs:=[6]) (by kernel_rfl) (by simp) ?_
      refine AllReadyH.cons (o:=_) rfl (fun K hK=>?_) AllReadyH.nil
      try simp only [List.getElem_toArray,List.getElem_cons_succ,List.getElem_cons_zero]
      (rw [if_pos (by rfl)];refine zazY (.const (.slice none 0 0)) (.tmp 39) 40 rfl 9 i1 1 underlying40 hj hy1 _ _ 0 0 _ rfl rfl (Nat.le_refl _) ?_)
      refine hK.out _ _ (by (try dsimp only);(first | exact two_x HXd.out | exact two_x HXA.out | exact two_x HX9.out | exact two_x (HX9s.out _))) (fun hHeld=>?_)
      clear hK K
      try simp only [nz,Act.put]
      refine tkZ (i:=8) (v:=.agg #[.string nm,.slice none 0 0,.int .i64 (m:Nat)]) rfl ?_
      simp only [nz,Act.put];refine wpAnyH_ready (rs:=[9]) (by kernel_rfl) (by simp) ?_
      refine AllReadyH.cons (o:=_) rfl (fun K hK=>?_) AllReadyH.nil
      go_simp;refine hK.out _ _ (by (try dsimp only);(first | exact two_x HXd.out | exact two_x HXA.out | exact two_x HX9.out | exact two_x (HX9s.out _))) (fun hHeld=>?_)
      clear hK K
      try simp only [nz,Act.put]
      refine wpAnyH_ready (rs:=[10]) (by kernel_rfl) (by simp) ?_
      refine AllReadyH.cons (o:=_) rfl (fun K hK=>?_) AllReadyH.nil
      try simp only [List.getElem_toArray,List.getElem_cons_succ,List.getElem_cons_zero]
      (rw [if_pos (by rfl)];refine wp_append_lies _ (.tmp 35) (.tmp 43) 23 rfl w3.heap.size 42 i2 _ 3 48 underlying23 hj2 hz0 hz1 hz2 rfl (by decide) _ k _ rfl HOW.out ⟨w7.heap.size,0,none⟩ 1 1 [.string nm,.slice none 0 0,.int .i64 (m:Nat)] ?k7 rfl HNW.out (by simp [Value.oneCell']) (by decide) (by unfold maxLen;omega) (by omega) HSZ.out _ rfl ?_;(case k7=>first | rfl | simp);intro g9 cap9 w9 hown9 hgr9 hat9 hlt9;have HX9:=hZz (HXA.out.grown hgr9 HNX7.out);have HX9s:Hid (∀ u,Blk (w9.setCell ⟨gU,1,none⟩ u) gX 42 #[.string nm,.slice kA 0 kc,.int .i64 (b0:Nat)]):=hZz (fun u=>HX9.out.far (p:=⟨gU,1,none⟩) HUX.out u);have HU9:=hZz (HUA.out.grown hgr9 (zaeZ HOW.out HUA.out (by decide)));have u9:=blk2 HU9.out;have z9:=HU9.out.frozen 1;have HO9:=hZz hown9;have HG9:Hid ((w7.alloc (.cells #[.string nm,.slice none 0 0,.int .i64 (m:Nat)] 42)).drew.grownBy w9 (Value.slice fA k fc).ownBlock):=hZz hgr9;clear hown9 hgr9 hat9)
      refine hK.out _ _ (by (try dsimp only);(first | exact two_x HXd.out | exact two_x HXA.out | exact two_x HX9.out | exact two_x (HX9s.out _))) (fun hHeld=>?_)
      clear hK K
      try simp only [nz,Act.put]
      refine tkZ (i:=11) (v:=.pointer (some ⟨gU,1,none⟩)) rfl ?_
      simp only [nz,Act.put];refine wpAnyH_ready (rs:=[12]) (by kernel_rfl) (by simp) ?_
      refine AllReadyH.cons (o:=_) rfl (fun K hK=>?_) AllReadyH.nil
      go_simp;refine hK.out _ _ (by (try dsimp only);(first | exact two_x HXd.out | exact two_x HXA.out | exact two_x HX9.out | exact two_x (HX9s.out _))) (fun hHeld=>?_)
      clear hK K
      try simp only [nz,Act.put]
      refine wpAnyH_done (by kernel_rfl) ?_ _
      try dsimp only [List.getElem_toArray,List.getElem_cons_succ,List.getElem_cons_zero,Act.put]
     rotate_left 1;refine AllReadyH.cons (o:=_) rfl (fun K hK=>?_) AllReadyH.nil
     try simp only [List.getElem_toArray,List.getElem_cons_succ,List.getElem_cons_zero]
     (rw [if_pos (by rfl)];refine zazY (.const (.slice none 0 0)) (.tmp 39) 40 rfl 9 i1 1 underlying40 hj hy1 _ _ 0 0 _ rfl rfl (Nat.le_refl _) ?_)
     refine hK.out _ _ (by (try dsimp only);(first | exact two_x HXd.out | exact two_x HXA.out | exact two_x HX9.out | exact two_x (HX9s.out _))) (fun hHeld=>?_)
     clear hK K
     try simp only [nz,Act.put]
     refine tkZ (i:=8) (v:=.agg #[.string nm,.slice none 0 0,.int .i64 (m:Nat)]) rfl ?_
     simp only [nz,Act.put];refine wpAnyH_ready (rs:=[1,9]) (by kernel_rfl) (by simp) ?_
     refine AllReadyH.cons (o:=_) rfl (fun K hK=>?_) ?_
     focus
      go_simp;refine hK.out _ _ (by (try dsimp only);(first | exact two_x HXd.out | exact two_x HXA.out | exact two_x HX9.out | exact two_x (HX9s.out _))) (fun hHeld=>?_)
      clear hK K
      try simp only [nz,Act.put]
      refine wpAnyH_ready (rs:=[9]) (by kernel_rfl) (by simp) ?_
      refine AllReadyH.cons (o:=_) rfl (fun K hK=>?_) AllReadyH.nil
      go_simp;refine hK.out _ _ (by (try dsimp only);(first | exact two_x HXd.out | exact two_x HXA.out | exact two_x HX9.out | exact two_x (HX9s.out _))) (fun hHeld=>?_)
      clear hK K
      try simp only [nz,Act.put]
      refine wpAnyH_ready (rs:=[10]) (by kernel_rfl) (by simp) ?_
      refine AllReadyH.cons (o:=_) rfl (fun K hK=>?_) AllReadyH.nil
      try simp only [List.getElem_toArray,List.getElem_cons_succ,List.getElem_cons_zero]
      (rw [if_pos (by rfl)];refine wp_append_lies _ (.tmp 35) (.tmp 43) 23 rfl w3.heap.size 42 i2 _ 3 48 underlying23 hj2 hz0 hz1 hz2 rfl (by decide) _ k _ rfl HOW.out ⟨w7.heap.size,0,none⟩ 1 1 [.string nm,.slice none 0 0,.int .i64 (m:Nat)] ?k7 rfl HNW.out (by simp [Value.oneCell']) (by decide) (by unfold maxLen;omega) (by omega) HSZ.out _ rfl ?_;(case k7=>first | rfl | simp);intro g9 cap9 w9 hown9 hgr9 hat9 hlt9;have HX9:=hZz (HXA.out.grown hgr9 HNX7.out);have HX9s:Hid (∀ u,Blk (w9.setCell ⟨gU,1,none⟩ u) gX 42 #[.string nm,.slice kA 0 kc,.int .i64 (b0:Nat)]):=hZz (fun u=>HX9.out.far (p:=⟨gU,1,none⟩) HUX.out u);have HU9:=hZz (HUA.out.grown hgr9 (zaeZ HOW.out HUA.out (by decide)));have u9:=blk2 HU9.out;have z9:=HU9.out.frozen 1;have HO9:=hZz hown9;have HG9:Hid ((w7.alloc (.cells #[.string nm,.slice none 0 0,.int .i64 (m:Nat)] 42)).drew.grownBy w9 (Value.slice fA k fc).ownBlock):=hZz hgr9;clear hown9 hgr9 hat9)
      refine hK.out _ _ (by (try dsimp only);(first | exact two_x HXd.out | exact two_x HXA.out | exact two_x HX9.out | exact two_x (HX9s.out _))) (fun hHeld=>?_)
      clear hK K
      try simp only [nz,Act.put]
      refine tkZ (i:=11) (v:=.pointer (some ⟨gU,1,none⟩)) rfl ?_
      simp only [nz,Act.put];refine wpAnyH_ready (rs:=[12]) (by kernel_rfl) (by simp) ?_
      refine AllReadyH.cons (o:=_) rfl (fun K hK=>?_) AllReadyH.nil
      go_simp;refine hK.out _ _ (by (try dsimp only);(first | exact two_x HXd.out | exact two_x HXA.out | exact two_x HX9.out | exact two_x (HX9s.out _))) (fun hHeld=>?_)
      clear hK K
      try simp only [nz,Act.put]
      refine wpAnyH_done (by kernel_rfl) ?_ _
      try dsimp only [List.getElem_toArray,List.getElem_cons_succ,List.getElem_cons_zero,Act.put]
     rotate_left 1;refine AllReadyH.cons (o:=_) rfl (fun K hK=>?_) AllReadyH.nil
     go_simp;refine hK.out _ _ (by (try dsimp only);(first | exact two_x HXd.out | exact two_x HXA.out | exact two_x HX9.out | exact two_x (HX9s.out _))) (fun hHeld=>?_)
     clear hK K
     try simp only [nz,Act.put]
     refine wpAnyH_ready (rs:=[1]) (by kernel_rfl) (by simp) ?_
     refine AllReadyH.cons (o:=_) rfl (fun K hK=>?_) AllReadyH.nil
     go_simp;refine hK.out _ _ (by (try dsimp only);(first | exact two_x HXd.out | exact two_x HXA.out | exact two_x HX9.out | exact two_x (HX9s.out _))) (fun hHeld=>?_)
     clear hK K
     try simp only [nz,Act.put]
     refine wpAnyH_ready (rs:=[10]) (by kernel_rfl) (by simp) ?_
     refine AllReadyH.cons (o:=_) rfl (fun K hK=>?_) AllReadyH.nil
     try simp only [List.getElem_toArray,List.getElem_cons_succ,List.getElem_cons_zero]
     (rw [if_pos (by rfl)];refine wp_append_lies _ (.tmp 35) (.tmp 43) 23 rfl w3.heap.size 42 i2 _ 3 48 underlying23 hj2 hz0 hz1 hz2 rfl (by decide) _ k _ rfl HOW.out ⟨w7.heap.size,0,none⟩ 1 1 [.string nm,.slice none 0 0,.int .i64 (m:Nat)] ?k7 rfl HNW.out (by simp [Value.oneCell']) (by decide) (by unfold maxLen;omega) (by omega) HSZ.out _ rfl ?_;(case k7=>first | rfl | simp);intro g9 cap9 w9 hown9 hgr9 hat9 hlt9;have HX9:=hZz (HXA.out.grown hgr9 HNX7.out);have HX9s:Hid (∀ u,Blk (w9.setCell ⟨gU,1,none⟩ u) gX 42 #[.string nm,.slice kA 0 kc,.int .i64 (b0:Nat)]):=hZz (fun u=>HX9.out.far (p:=⟨gU,1,none⟩) HUX.out u);have HU9:=hZz (HUA.out.grown hgr9 (zaeZ HOW.out HUA.out (by decide)));have u9:=blk2 HU9.out;have z9:=HU9.out.frozen 1;have HO9:=hZz hown9;have HG9:Hid ((w7.alloc (.cells #[.string nm,.slice none 0 0,.int .i64 (m:Nat)] 42)).drew.grownBy w9 (Value.slice fA k fc).ownBlock):=hZz hgr9;clear hown9 hgr9 hat9)
     refine hK.out _ _ (by (try dsimp only);(first | exact two_x HXd.out | exact two_x HXA.out | exact two_x HX9.out | exact two_x (HX9s.out _))) (fun hHeld=>?_)
     clear hK K
     try simp only [nz,Act.put]
     refine tkZ (i:=11) (v:=.pointer (some ⟨gU,1,none⟩)) rfl ?_
     simp only [nz,Act.put];refine wpAnyH_ready (rs:=[12]) (by kernel_rfl) (by simp) ?_
     refine AllReadyH.cons (o:=_) rfl (fun K hK=>?_) AllReadyH.nil
     go_simp;refine hK.out _ _ (by (try dsimp only);(first | exact two_x HXd.out | exact two_x HXA.out | exact two_x HX9.out | exact two_x (HX9s.out _))) (fun hHeld=>?_)
     clear hK K
     try simp only [nz,Act.put]
     refine wpAnyH_done (by kernel_rfl) ?_ _
     try dsimp only [List.getElem_toArray,List.getElem_cons_succ,List.getElem_cons_zero,Act.put]
     all_goals
      have hfin:=HFA.out.func (x:=(⟨fn.name,fn.params,(m:Nat)⟩,.slice none 0 0)) (f2:=some ⟨g9,0,none⟩) (c2:=cap9) (by rw [HK0.out];exact ⟨rfl,.inl ⟨rfl,rfl⟩⟩) (by rw [HML.out];show World.ownsRow _ _ _ _ _ _ (M.flatMap funcRow ++ [.string fn.name,.slice none 0 0,.int .i64 (m:Nat)]);rw [HNM.out];exact HO9.out) (by rw [HML.out];exact HG9.out);rw [HML.out] at hfin;have HFIN:=hZz hfin;clear hfin;go_wp2_with (fail)
      refine ⟨⟨k+1,nv7,L ++ N7,some ⟨g9,0,none⟩,cap9,M ++ [(⟨fn.name,fn.params,(m:Nat)⟩,.slice none 0 0)],by omega,by simp,hZz ⟨HRN.out,?_,by rw [List.length_append,HML.out];rfl⟩,HFIN⟩,by simp [intOf];omega⟩
      rw [List.map_append,HL.out.2.1,List.range_succ,List.map_append,List.map_cons,List.map_nil,List.map_cons,List.map_nil,HFN1.out]
    ·have hq0:0<pn:=by omega
     obtain ⟨kb,ko,hkb,_⟩:=(HKV.out w3 (Below.refl _ _)).ptr (n:=0) (by rw [HPN.out];omega);subst hkb
     have HNWS:Hid (∀ wx,Below w3.heap.size w3 wx→∀ j u,(fn.params.map Value.string)[j]? = some u→wx.cell? ((⟨kb,ko,none⟩:Addr).add j)=some u):=hZz (fun wx hbx j u hj=>by
      rw [List.getElem?_map] at hj;cases hl:fn.params[j]? with
      | none=>rw [hl] at hj;cases hj
      | some k =>
       rw [hl] at hj;injection hj with hj
       subst hj;obtain ⟨hjl,hje⟩:=List.getElem?_eq_some_iff.1 hl
       have:=(HKV.out wx hbx).cell0 hjl (v:=.string fn.params[j]) rfl
       rw [hje] at this;rw [zayY];simpa using this)
     have HLQ:Hid ((fn.params.map Value.string).length=pn * 1):=hZz (by rw [List.length_map,HPN.out];omega)
     have HON:Hid (∀ u∈fn.params.map Value.string,u.oneCell'=true):=hZz (fun u hu=>by
      obtain ⟨k,_,rfl⟩:=List.mem_map.1 hu;rfl)
     have HBL7:=hZz HF7.out.st.bl;have HROW:=hZz hrow;have HBU:=hZz hbu;clear hrow hbu hfn1 hR q0;refine wp_region_held_drew (S:=(fun w'=>w'.cell? ⟨gX,0,none⟩=some (.string nm)∧w'.cell? ⟨gX,1,none⟩=some (.slice (some ⟨kb,ko,none⟩) pn kc))) (by kernel_rfl) (by (first | exact two_x HXd.out | exact two_x HX8.out | exact two_x HXA.out | exact two_x HX9.out | exact two_x (HX9s.out _))) (fun hHeld=>?_)
     refine tkZ (i:=0) (v:=.pointer (some ⟨gU,1,none⟩)) rfl ?_
     simp only [nz,Act.put];refine tkZ (i:=2) (v:=.pointer (some ⟨gX,0,none⟩)) rfl ?_
     simp only [nz,Act.put];refine tkZ (i:=3) (v:=.string nm) rfl ?_
     simp only [nz,Act.put];refine tkZ (i:=4) (v:=.pointer (some ⟨gX,1,none⟩)) rfl ?_
     simp only [nz,Act.put];refine tkZ (i:=5) (v:=.slice (some ⟨kb,ko,none⟩) pn kc) rfl ?_
     simp only [nz,Act.put];refine tkZ (i:=7) (v:=.int .i64 (m:Nat)) rfl ?_
     simp only [nz,Act.put];refine wpAnyH_ready (rs:=[1,6]) (by kernel_rfl) (by simp) ?_
     refine AllReadyH.cons (o:=_) rfl (fun K hK=>?_) ?_
     focus
      go_simp;refine hK.out _ _ (by (try dsimp only);(first | exact two_x HXd.out | exact two_x HX8.out | exact two_x HXA.out | exact two_x HX9.out | exact two_x (HX9s.out _))) (fun hHeld=>?_)
      clear hK K
      try simp only [nz,Act.put]
      refine wpAnyH_ready (rs:=[6]) (by kernel_rfl) (by simp) ?_
      refine AllReadyH.cons (o:=_) rfl (fun K hK=>?_) AllReadyH.nil
      try simp only [List.getElem_toArray,List.getElem_cons_succ,List.getElem_cons_zero]
      (rw [if_pos (by rfl)];refine wp_append_lies _ (.const (.slice none 0 0)) (.tmp 39) 40 rfl w3.heap.size 9 i1 _ 1 16 underlying40 hj hy0 hy1 hy2 rfl (by decide) (.slice none 0 0) 0 [] rfl ⟨rfl,.inl ⟨rfl,rfl⟩⟩ ⟨kb,ko,none⟩ pn kc (fn.params.map Value.string) rfl HLQ.out (HNWS.out _ (zaaZ (zadZ _) HBL7.out HBL7.out.size)) HON.out hq0 (by unfold maxLen;omega) (by omega) HSZ7.out _ rfl ?_;intro g8 cap8 w8 hown8 hgr8 hat8 hlt8;have HB8:Hid (Below w7.heap.size w7 w8):=hZz (zaaZ (za0Y hgr8) (zadZ w7) (zadZ w7).size);simp only [Nat.zero_add,List.nil_append] at hown8 ⊢;have HF8:=hZz (HF7.out.below HB8.out);have HX8:=hZz (HX7.out.below HB8.out);have u8:=blk2 (HBU.out.below HB8.out);have HK8:=hZz hown8;have hbA:Below w8.heap.size w8 (w8.alloc (.cells #[.string nm,.slice (some ⟨g8,0,none⟩) pn cap8,.int .i64 (m:Nat)] 42)):=zabZ w8 _;have HFA:=hZz (HF8.out.below hbA);have HOW:=hZz (zagZ (zagZ HROW.out HB8.out) hbA);have HUA:=hZz ((HBU.out.below HB8.out).below hbA);have HXA:=hZz (HX8.out.below hbA);have HNW:Hid (∀ q u,[Value.string nm,.slice (some ⟨g8,0,none⟩) pn cap8,.int .i64 (m:Nat)][q]? = some u→(w8.alloc (.cells #[.string nm,.slice (some ⟨g8,0,none⟩) pn cap8,.int .i64 (m:Nat)] 42)).cell? ((⟨w8.heap.size,0,none⟩:Addr).add q)=some u):=hZz (zadY w8 _ 42);have HSZ:Hid (w3.heap.size≤(w8.alloc (.cells #[.string nm,.slice (some ⟨g8,0,none⟩) pn cap8,.int .i64 (m:Nat)] 42)).heap.size):=hZz (Nat.le_trans HSZ7.out (Nat.le_trans HB8.out.size hbA.size));have HKA:=hZz (zagZ HK8.out hbA);have uA:=blk2 HUA.out;clear hown8 hgr8 hat8 hbA)
      refine hK.out _ _ (by (try dsimp only);(first | exact two_x HXd.out | exact two_x HX8.out | exact two_x HXA.out | exact two_x HX9.out | exact two_x (HX9s.out _))) (fun hHeld=>?_)
      clear hK K
      try simp only [nz,Act.put]
      refine tkZ (i:=8) (v:=.agg #[.string nm,.slice (some ⟨g8,0,none⟩) pn cap8,.int .i64 (m:Nat)]) rfl ?_
      simp only [nz,Act.put];refine wpAnyH_ready (rs:=[9]) (by kernel_rfl) (by simp) ?_
      refine AllReadyH.cons (o:=_) rfl (fun K hK=>?_) AllReadyH.nil
      go_simp;refine hK.out _ _ (by (try dsimp only);(first | exact two_x HXd.out | exact two_x HX8.out | exact two_x HXA.out | exact two_x HX9.out | exact two_x (HX9s.out _))) (fun hHeld=>?_)
      clear hK K
      try simp only [nz,Act.put]
      refine wpAnyH_ready (rs:=[10]) (by kernel_rfl) (by simp) ?_
      refine AllReadyH.cons (o:=_) rfl (fun K hK=>?_) AllReadyH.nil
      try simp only [List.getElem_toArray,List.getElem_cons_succ,List.getElem_cons_zero]
      (rw [if_pos (by rfl)];refine wp_append_lies _ (.tmp 35) (.tmp 43) 23 rfl w3.heap.size 42 i2 _ 3 48 underlying23 hj2 hz0 hz1 hz2 rfl (by decide) _ k _ rfl HOW.out ⟨w8.heap.size,0,none⟩ 1 1 [.string nm,.slice (some ⟨g8,0,none⟩) pn cap8,.int .i64 (m:Nat)] ?k8 rfl HNW.out (by simp [Value.oneCell']) (by decide) (by unfold maxLen;omega) (by omega) HSZ.out _ rfl ?_;(case k8=>first | rfl | simp);intro g9 cap9 w9 hown9 hgr9 hat9 hlt9;have HX9:=hZz (HXA.out.grown hgr9 HNX7.out);have HX9s:Hid (∀ u,Blk (w9.setCell ⟨gU,1,none⟩ u) gX 42 #[.string nm,.slice (some ⟨kb,ko,none⟩) pn kc,.int .i64 (b0:Nat)]):=hZz (fun u=>HX9.out.far (p:=⟨gU,1,none⟩) HUX.out u);have HU9:=hZz (HUA.out.grown hgr9 (zaeZ HOW.out HUA.out (by decide)));have u9:=blk2 HU9.out;have z9:=HU9.out.frozen 1;have HO9:=hZz hown9;have HG9:Hid ((w8.alloc (.cells #[.string nm,.slice (some ⟨g8,0,none⟩) pn cap8,.int .i64 (m:Nat)] 42)).grownBy w9 (Value.slice fA k fc).ownBlock):=hZz hgr9;clear hown9 hgr9 hat9)
      refine hK.out _ _ (by (try dsimp only);(first | exact two_x HXd.out | exact two_x HX8.out | exact two_x HXA.out | exact two_x HX9.out | exact two_x (HX9s.out _))) (fun hHeld=>?_)
      clear hK K
      try simp only [nz,Act.put]
      refine tkZ (i:=11) (v:=.pointer (some ⟨gU,1,none⟩)) rfl ?_
      simp only [nz,Act.put];refine wpAnyH_ready (rs:=[12]) (by kernel_rfl) (by simp) ?_
      refine AllReadyH.cons (o:=_) rfl (fun K hK=>?_) AllReadyH.nil
      go_simp;refine hK.out _ _ (by (try dsimp only);(first | exact two_x HXd.out | exact two_x HX8.out | exact two_x HXA.out | exact two_x HX9.out | exact two_x (HX9s.out _))) (fun hHeld=>?_)
      clear hK K
      try simp only [nz,Act.put]
      refine wpAnyH_done (by kernel_rfl) ?_ _
      try dsimp only [List.getElem_toArray,List.getElem_cons_succ,List.getElem_cons_zero,Act.put]
     rotate_left 1;refine AllReadyH.cons (o:=_) rfl (fun K hK=>?_) AllReadyH.nil
     try simp only [List.getElem_toArray,List.getElem_cons_succ,List.getElem_cons_zero]
     (rw [if_pos (by rfl)];refine wp_append_lies _ (.const (.slice none 0 0)) (.tmp 39) 40 rfl w3.heap.size 9 i1 _ 1 16 underlying40 hj hy0 hy1 hy2 rfl (by decide) (.slice none 0 0) 0 [] rfl ⟨rfl,.inl ⟨rfl,rfl⟩⟩ ⟨kb,ko,none⟩ pn kc (fn.params.map Value.string) rfl HLQ.out (HNWS.out _ (zaaZ (zadZ _) HBL7.out HBL7.out.size)) HON.out hq0 (by unfold maxLen;omega) (by omega) HSZ7.out _ rfl ?_;intro g8 cap8 w8 hown8 hgr8 hat8 hlt8;have HB8:Hid (Below w7.heap.size w7 w8):=hZz (zaaZ (za0Y hgr8) (zadZ w7) (zadZ w7).size);simp only [Nat.zero_add,List.nil_append] at hown8 ⊢;have HF8:=hZz (HF7.out.below HB8.out);have HX8:=hZz (HX7.out.below HB8.out);have u8:=blk2 (HBU.out.below HB8.out);have HK8:=hZz hown8;have hbA:Below w8.heap.size w8 (w8.alloc (.cells #[.string nm,.slice (some ⟨g8,0,none⟩) pn cap8,.int .i64 (m:Nat)] 42)):=zabZ w8 _;have HFA:=hZz (HF8.out.below hbA);have HOW:=hZz (zagZ (zagZ HROW.out HB8.out) hbA);have HUA:=hZz ((HBU.out.below HB8.out).below hbA);have HXA:=hZz (HX8.out.below hbA);have HNW:Hid (∀ q u,[Value.string nm,.slice (some ⟨g8,0,none⟩) pn cap8,.int .i64 (m:Nat)][q]? = some u→(w8.alloc (.cells #[.string nm,.slice (some ⟨g8,0,none⟩) pn cap8,.int .i64 (m:Nat)] 42)).cell? ((⟨w8.heap.size,0,none⟩:Addr).add q)=some u):=hZz (zadY w8 _ 42);have HSZ:Hid (w3.heap.size≤(w8.alloc (.cells #[.string nm,.slice (some ⟨g8,0,none⟩) pn cap8,.int .i64 (m:Nat)] 42)).heap.size):=hZz (Nat.le_trans HSZ7.out (Nat.le_trans HB8.out.size hbA.size));have HKA:=hZz (zagZ HK8.out hbA);have uA:=blk2 HUA.out;clear hown8 hgr8 hat8 hbA)
     refine hK.out _ _ (by (try dsimp only);(first | exact two_x HXd.out | exact two_x HX8.out | exact two_x HXA.out | exact two_x HX9.out | exact two_x (HX9s.out _))) (fun hHeld=>?_)
     clear hK K
     try simp only [nz,Act.put]
     refine tkZ (i:=8) (v:=.agg #[.string nm,.slice (some ⟨g8,0,none⟩) pn cap8,.int .i64 (m:Nat)]) rfl ?_
     simp only [nz,Act.put];refine wpAnyH_ready (rs:=[1,9]) (by kernel_rfl) (by simp) ?_
     refine AllReadyH.cons (o:=_) rfl (fun K hK=>?_) ?_
     focus
      go_simp;refine hK.out _ _ (by (try dsimp only);(first | exact two_x HXd.out | exact two_x HX8.out | exact two_x HXA.out | exact two_x HX9.out | exact two_x (HX9s.out _))) (fun hHeld=>?_)
      clear hK K
      try simp only [nz,Act.put]
      refine wpAnyH_ready (rs:=[9]) (by kernel_rfl) (by simp) ?_
      refine AllReadyH.cons (o:=_) rfl (fun K hK=>?_) AllReadyH.nil
      go_simp;refine hK.out _ _ (by (try dsimp only);(first | exact two_x HXd.out | exact two_x HX8.out | exact two_x HXA.out | exact two_x HX9.out | exact two_x (HX9s.out _))) (fun hHeld=>?_)
      clear hK K
      try simp only [nz,Act.put]
      refine wpAnyH_ready (rs:=[10]) (by kernel_rfl) (by simp) ?_
      refine AllReadyH.cons (o:=_) rfl (fun K hK=>?_) AllReadyH.nil
      try simp only [List.getElem_toArray,List.getElem_cons_succ,List.getElem_cons_zero]
      (rw [if_pos (by rfl)];refine wp_append_lies _ (.tmp 35) (.tmp 43) 23 rfl w3.heap.size 42 i2 _ 3 48 underlying23 hj2 hz0 hz1 hz2 rfl (by decide) _ k _ rfl HOW.out ⟨w8.heap.size,0,none⟩ 1 1 [.string nm,.slice (some ⟨g8,0,none⟩) pn cap8,.int .i64 (m:Nat)] ?k8 rfl HNW.out (by simp [Value.oneCell']) (by decide) (by unfold maxLen;omega) (by omega) HSZ.out _ rfl ?_;(case k8=>first | rfl | simp);intro g9 cap9 w9 hown9 hgr9 hat9 hlt9;have HX9:=hZz (HXA.out.grown hgr9 HNX7.out);have HX9s:Hid (∀ u,Blk (w9.setCell ⟨gU,1,none⟩ u) gX 42 #[.string nm,.slice (some ⟨kb,ko,none⟩) pn kc,.int .i64 (b0:Nat)]):=hZz (fun u=>HX9.out.far (p:=⟨gU,1,none⟩) HUX.out u);have HU9:=hZz (HUA.out.grown hgr9 (zaeZ HOW.out HUA.out (by decide)));have u9:=blk2 HU9.out;have z9:=HU9.out.frozen 1;have HO9:=hZz hown9;have HG9:Hid ((w8.alloc (.cells #[.string nm,.slice (some ⟨g8,0,none⟩) pn cap8,.int .i64 (m:Nat)] 42)).grownBy w9 (Value.slice fA k fc).ownBlock):=hZz hgr9;clear hown9 hgr9 hat9)
      refine hK.out _ _ (by (try dsimp only);(first | exact two_x HXd.out | exact two_x HX8.out | exact two_x HXA.out | exact two_x HX9.out | exact two_x (HX9s.out _))) (fun hHeld=>?_)
      clear hK K
      try simp only [nz,Act.put]
      refine tkZ (i:=11) (v:=.pointer (some ⟨gU,1,none⟩)) rfl ?_
      simp only [nz,Act.put];refine wpAnyH_ready (rs:=[12]) (by kernel_rfl) (by simp) ?_
      refine AllReadyH.cons (o:=_) rfl (fun K hK=>?_) AllReadyH.nil
      go_simp;refine hK.out _ _ (by (try dsimp only);(first | exact two_x HXd.out | exact two_x HX8.out | exact two_x HXA.out | exact two_x HX9.out | exact two_x (HX9s.out _))) (fun hHeld=>?_)
      clear hK K
      try simp only [nz,Act.put]
      refine wpAnyH_done (by kernel_rfl) ?_ _
      try dsimp only [List.getElem_toArray,List.getElem_cons_succ,List.getElem_cons_zero,Act.put]
     rotate_left 1;refine AllReadyH.cons (o:=_) rfl (fun K hK=>?_) AllReadyH.nil
     go_simp;refine hK.out _ _ (by (try dsimp only);(first | exact two_x HXd.out | exact two_x HX8.out | exact two_x HXA.out | exact two_x HX9.out | exact two_x (HX9s.out _))) (fun hHeld=>?_)
     clear hK K
     try simp only [nz,Act.put]
     refine wpAnyH_ready (rs:=[1]) (by kernel_rfl) (by simp) ?_
     refine AllReadyH.cons (o:=_) rfl (fun K hK=>?_) AllReadyH.nil
     go_simp;refine hK.out _ _ (by (try dsimp only);(first | exact two_x HXd.out | exact two_x HX8.out | exact two_x HXA.out | exact two_x HX9.out | exact two_x (HX9s.out _))) (fun hHeld=>?_)
     clear hK K
     try simp only [nz,Act.put]
     refine wpAnyH_ready (rs:=[10]) (by kernel_rfl) (by simp) ?_
     refine AllReadyH.cons (o:=_) rfl (fun K hK=>?_) AllReadyH.nil
     try simp only [List.getElem_toArray,List.getElem_cons_succ,List.getElem_cons_zero]
     (rw [if_pos (by rfl)];refine wp_append_lies _ (.tmp 35) (.tmp 43) 23 rfl w3.heap.size 42 i2 _ 3 48 underlying23 hj2 hz0 hz1 hz2 rfl (by decide) _ k _ rfl HOW.out ⟨w8.heap.size,0,none⟩ 1 1 [.string nm,.slice (some ⟨g8,0,none⟩) pn cap8,.int .i64 (m:Nat)] ?k8 rfl HNW.out (by simp [Value.oneCell']) (by decide) (by unfold maxLen;omega) (by omega) HSZ.out _ rfl ?_;(case k8=>first | rfl | simp);intro g9 cap9 w9 hown9 hgr9 hat9 hlt9;have HX9:=hZz (HXA.out.grown hgr9 HNX7.out);have HX9s:Hid (∀ u,Blk (w9.setCell ⟨gU,1,none⟩ u) gX 42 #[.string nm,.slice (some ⟨kb,ko,none⟩) pn kc,.int .i64 (b0:Nat)]):=hZz (fun u=>HX9.out.far (p:=⟨gU,1,none⟩) HUX.out u);have HU9:=hZz (HUA.out.grown hgr9 (zaeZ HOW.out HUA.out (by decide)));have u9:=blk2 HU9.out;have z9:=HU9.out.frozen 1;have HO9:=hZz hown9;have HG9:Hid ((w8.alloc (.cells #[.string nm,.slice (some ⟨g8,0,none⟩) pn cap8,.int .i64 (m:Nat)] 42)).grownBy w9 (Value.slice fA k fc).ownBlock):=hZz hgr9;clear hown9 hgr9 hat9)
     refine hK.out _ _ (by (try dsimp only);(first | exact two_x HXd.out | exact two_x HX8.out | exact two_x HXA.out | exact two_x HX9.out | exact two_x (HX9s.out _))) (fun hHeld=>?_)
     clear hK K
     try simp only [nz,Act.put]
     refine tkZ (i:=11) (v:=.pointer (some ⟨gU,1,none⟩)) rfl ?_
     simp only [nz,Act.put];refine wpAnyH_ready (rs:=[12]) (by kernel_rfl) (by simp) ?_
     refine AllReadyH.cons (o:=_) rfl (fun K hK=>?_) AllReadyH.nil
     go_simp;refine hK.out _ _ (by (try dsimp only);(first | exact two_x HXd.out | exact two_x HX8.out | exact two_x HXA.out | exact two_x HX9.out | exact two_x (HX9s.out _))) (fun hHeld=>?_)
     clear hK K
     try simp only [nz,Act.put]
     refine wpAnyH_done (by kernel_rfl) ?_ _
     try dsimp only [List.getElem_toArray,List.getElem_cons_succ,List.getElem_cons_zero,Act.put]
     all_goals
      have hfin:=HFA.out.func (x:=(⟨fn.name,fn.params,(m:Nat)⟩,.slice (some ⟨g8,0,none⟩) pn cap8)) (f2:=some ⟨g9,0,none⟩) (c2:=cap9) (by show World.ownsRow _ _ _ _ _ fn.params.length _;rw [HPN.out];exact HKA.out) (by rw [HML.out];show World.ownsRow _ _ _ _ _ _ (M.flatMap funcRow ++ [.string fn.name,.slice (some ⟨g8,0,none⟩) pn cap8,.int .i64 (m:Nat)]);rw [HNM.out];exact HO9.out) (by rw [HML.out];exact HG9.out);rw [HML.out] at hfin;have HFIN:=hZz hfin;clear hfin;go_wp2_with (fail)
      refine ⟨⟨k+1,nv7,L ++ N7,some ⟨g9,0,none⟩,cap9,M ++ [(⟨fn.name,fn.params,(m:Nat)⟩,.slice (some ⟨g8,0,none⟩) pn cap8)],by omega,by simp,hZz ⟨HRN.out,?_,by rw [List.length_append,HML.out];rfl⟩,HFIN⟩,by simp [intOf];omega⟩
      rw [List.map_append,HL.out.2.1,List.range_succ,List.map_append,List.map_cons,List.map_nil,List.map_cons,List.map_nil,HFN1.out]
   ·have e9:nf=k:=by omega
    subst e9;obtain ⟨A,c,rfl⟩:=zahZ HF.out.st.row;have hrows:=HF.out.rows;have hbu:=HF.out.bu;have hfo:=HF.out.st.fo;have hbl:=HF.out.st.bl;have hge:=HF.out.geU
    have hlen:L.length≤600:=by
     have h1:=congrArg List.length HL.out.1;rw [List.length_map] at h1
     have:=HSY.out.fold_len nf (by rw [HNFL.out];exact Nat.le_refl _)
     have:=HSY.out.start_le nf (by rw [HNFL.out];exact Nat.le_refl _)
     have:=HSY.out.nodes
     omega
    have HKD:Hid (∀ p∈L,p.1.kids.length≤1000000):=hZz (fun p hp=>by
     have h1:p.1∈L.map Prod.fst:=List.mem_map_of_mem hp;rw [HL.out.1] at h1
     have:=foldN_kids (B:=1000) (by omega) HOK.out.kids nf _ h1
     omega)
    have HLEN:Hid (L.length≤1000000):=hZz (by omega);have HMLEN:Hid (M.length≤1000000):=hZz (by rw [HL.out.2.2];omega);have hbr:Blk wr gR 25 #[.slice none 0 0,.slice none 0 0]:=HR3.out.below hbl;have hne:gU≠gR:=by have:=HR3.out.lt;omega
    have HB9:=hZz (zaaZ hbl HB3.out HB3.out.size);obtain ⟨ll,hll⟩:∃ x,L.length=x:=⟨_,rfl⟩
    obtain ⟨ml,hml⟩:∃ x,M.length=x:=⟨_,rfl⟩
    obtain ⟨W8,hW8⟩:∃ W,wr.setCell ⟨gU,0,none⟩ (.slice A ll c)=W:=⟨_,rfl⟩
    obtain ⟨W9,hW9⟩:∃ W,(W8.setCell ⟨gR,0,none⟩ (.slice A ll c)).setCell ⟨gR,1,none⟩ (.slice fA ml fc)=W:=⟨_,rfl⟩
    have hu8:Blk W8 gU 25 #[.slice A ll c,.slice fA ml fc]:=by rw [← hW8,← hml];exact hbu.set_ 0 _
    have hr8:Blk W8 gR 25 #[.slice none 0 0,.slice none 0 0]:=by rw [← hW8];exact hbr.far (p:=⟨gU,0,none⟩) (Ne.symm hne) _
    have HR9:Hid (Blk W9 gR 25 #[.slice A ll c,.slice fA ml fc]):=hZz (by rw [← hW9];exact (hr8.set_ 0 _).set_ 1 _)
    have HRW:Hid (RowsAll w3.heap.size W9 A c L fA fc M):=hZz (by
     rw [← hW9,← hW8];rw [← hW8] at hr8;exact ((hrows.far hbu 0 _).far hr8 0 _).far (hr8.set_ 0 _) 1 _)
    have HBF:Hid (Below w.heap.size w W9):=hZz (by
     rw [← hW9,← hW8];exact ((HB9.out.setCell (p:=⟨gU,0,none⟩) (Nat.le_trans HB3.out.size hge) _).setCell (p:=⟨gR,0,none⟩) HLE.out _).setCell (p:=⟨gR,1,none⟩) HLE.out _)
    rw [hll] at hfo;rw [hml] at hbu;obtain ⟨f0,f1,f2⟩:=blkF hfo;have u0:=blk2 hbu;have zu:=hbu.frozen 0;have HU8:=hZz hu8;have HR8:=hZz hr8;have HW8:=hZz hW8;have HW9:=hZz hW9;have HLLN:=hZz hll;have HMLN:=hZz hml;clear hrows hbu hfo hbl hge hlen hbr hne hu8 hr8 hW8 hW9 hll hml;go_upto_region 13 with (fail)
    rw [HW8.out];clear f0 f1 f2 u0 zu;obtain ⟨u0,u1⟩:=blk2 HU8.out;obtain ⟨r0,r1⟩:=blk2 HR8.out;have z8:=(fun i=>HR8.out.frozen i:∀ i,W8.frozen? ⟨gR,i,none⟩=false)
    go_wp2_with (fail)
    rw [HW9.out];clear u0 u1 r0 r1;obtain ⟨r0,r1⟩:=blk2 HR9.out;refine bodyPost_ret (by simp [results,Tryz.results15,r0,r1,go_sem];try rfl) rfl ?_
    have hpv:=HRW.out.prog HLEN.out HKD.out HMLEN.out;have hfin:=HP2.out W9 ⟨A,fA,c,fc,⟨L.map Prod.fst,M.map Prod.fst⟩⟩ HER.out (by rw [HL.out.1,HL.out.2.1];unfold foldP;rw [HNFL.out]) hpv HBF.out;simp only [List.length_map] at hfin;rw [HLLN.out,HMLN.out] at hfin;exact hfin
 ·have e0:(er != 0)=true:=by simp [h0]
  have H0:=hZz h0;clear h0;obtain ⟨r0,r1⟩:=blk2 HR3.out;have z3:=(fun i=>HR3.out.frozen i:∀ i,w3.frozen? ⟨gR,i,none⟩=false)
  obtain ⟨W4,hW4⟩:∃ W,(w3.setCell ⟨gR,0,none⟩ (.slice none 0 0)).setCell ⟨gR,1,none⟩ (.slice none 0 0)=W:=⟨_,rfl⟩
  have HR4:Hid (Blk W4 gR 25 #[.slice none 0 0,.slice none 0 0]):=hZz (by rw [← hW4];exact (HR3.out.set_ 0 _).set_ 1 _);have HB4:Hid (Below w.heap.size w W4):=hZz (by rw [← hW4];exact (HB3.out.setCell (p:=⟨gR,0,none⟩) HLE.out _).setCell (p:=⟨gR,1,none⟩) HLE.out _);have HW4:=hZz hW4;clear hW4;go_wp2_with (fail)
  rw [HW4.out];clear r0 r1;obtain ⟨r0,r1⟩:=blk2 HR4.out;refine bodyPost_ret (by simp [results,Tryz.results15,r0,r1,go_sem];try rfl) rfl ?_
  exact HP1.out _ er HER.out H0.out HB4.out
end Go.Proofs.YthiimbhjpdphpaaGreatDoor
