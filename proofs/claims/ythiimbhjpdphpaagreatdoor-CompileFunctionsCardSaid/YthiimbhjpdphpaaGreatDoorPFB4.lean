/- FB4 -/
import Derived.Test.YthiimbhjpdphpaaGreatDoorPFB3
set_option linter.unusedVariables false
set_option linter.unusedSimpArgs false
namespace Go.Proofs.YthiimbhjpdphpaaGreatDoor
open Go.RowKit
set_option maxRecDepth 100000
open Go.Proofs.Tryz
def NodeP (w0 w:World) (S:ProgS) (gF:Nat) (nv:Value) (L:List NodeX) (R:List NodeD) (r:Ending) (w':World):Prop:=∃ nv' N m,r=.returned (.int .i64 (m:Nat))∧m+1=(L ++ N).length∧FoSt w0 w' S gF nv' (L ++ N)∧(L ++ N).map Prod.fst=R∧KF gF nv.ownBlock nv'.ownBlock w w'∧PartsO w.heap.size w' N
def FNodeH (w0:World) (S:ProgS) (gF f i s:Nat):Prop:=∀ (w:World) (nv:Value) (L:List NodeX),FoSt w0 w S gF nv L→L.length+(i+1 - s)≤5000→Calls prog 34 #[.pointer (some ⟨gF,0,none⟩),.int .i64 i] w (NodeP w0 w S gF nv L (foldF S.p f i (L.map Prod.fst)))
theorem last_h8 {p:ProgD} {f m e':Nat} {out:List NodeD} {M:List NodeX} (hf:firstF p.nodes f m=some e') (hM:M.map Prod.fst=foldF p f m out) {j:Nat} (hj:j+1=M.length) (hjl:j<M.length) :
  ((M[j]).1.kind=8→0<(M[j]).1.kids.length∧∃ m:Nat,(M[j]).1.kids.getD 0 0=m∧∃ hm:m<M.length,(M[m]).1.kind=3→(-1000000000000≤(M[m]).1.int∧(M[m]).1.int≤1000000000000))∧(M[j]).1=(foldF p f m out).getD ((foldF p f m out).length - 1) noNode∧(foldF p f m out).length=j+1:=by
 obtain ⟨t,K⟩:=zbgY p f m e' hf out;have hlen:(foldF p f m out).length=j+1:=by rw [← hM,List.length_map,hj]
 have hget:∀ q,(hq:q<M.length)→(foldF p f m out).getD q noNode=(M[q]).1:=fun q hq=>by
  rw [← hM,List.getD_eq_getElem?_getD,List.getElem?_map,List.getElem?_eq_getElem hq];rfl
 have htr:=K.tree (foldF p f m out) (by rw [K.eq];exact List.prefix_rfl)
 have hj2:out.length+t.length - 1=j:=by
  have:=congrArg List.length K.eq
  rw [hlen,List.length_append] at this;omega
 rw [hj2] at htr;refine ⟨fun hk=>?_,?_,hlen⟩
 ·rw [← hget j hjl] at hk
  obtain ⟨a,m',b,c,d⟩:=root8 htr hk;rw [hget j hjl] at a b;exact ⟨a,m',b,by omega,fun h3=>by rw [← hget m' (by omega)] at h3 ⊢;exact d h3⟩
 ·rw [hlen,Nat.add_sub_cancel,hget j hjl]
attribute [local go_sem] zabZ
set_option maxHeartbeats 16000000 in
theorem fnodeA_s (w0:World) (S:ProgS) (gF:Nat) (f:Nat) (hS:ProgV w0 S) (hnl:S.p.nodes.length≤1000) (hkl0:∀ i,(hi:i<S.p.nodes.length)→(S.p.nodes[i]).keys.length≤1000∧(S.p.nodes[i]).kids.length≤1000)
  (hR:∀ i s,firstF S.p.nodes f i=some s→i<S.p.nodes.length→FNodeH w0 S gF f i s) (i s:Nat) (hf:firstF S.p.nodes (f+1) i=some s) (hi:i<S.p.nodes.length) (hno:(S.p.at_ i).kind≠8∧(S.p.at_ i).kind≠9):FNodeH w0 S gF (f+1) i s:=by
 intro w nv L h hl0;obtain ⟨P,hP⟩:∃ P:Ending→World→Prop,NodeP w0 w S gF nv L (foldF S.p (f+1) i (L.map Prod.fst))=P:=⟨_,rfl⟩
 rw [hP];have hl:L.length≤100000:=by omega
 have hkl:=hkl0 i hi;have hcv:=(zabY hf).cover;have hsi:=zaaY hf;have hat:S.p.at_ i=S.p.nodes[i]:=zajZ hi _;have hgd:S.p.nodes.getD i noNode=S.p.nodes[i]:=zajZ hi _;rw [hgd] at hcv;rw [hat] at hno;have hold:∀ p∈L,∀ g,p.2.2.ownBlock=some g→g<w.heap.size:=fun p hp g hg=>((h.kids p hp).lt g hg).2
 have hgFl:gF<w.heap.size:=h.fo.lt;have hnvl:∀ g,nv.ownBlock=some g→g<w.heap.size:=fun g hg=>(h.row.lt g hg).2
 have hfold:∀ o ks,foldK (foldF S.p f) (S.p.nodes[i]).kids (L.map Prod.fst) [] []=(o,ks,[])∨True→foldF S.p (f+1) i (L.map Prod.fst)=(foldK (foldF S.p f) (S.p.nodes[i]).kids (L.map Prod.fst) [] []).1 ++ [⟨(S.p.nodes[i]).kind,(S.p.nodes[i]).text,(S.p.nodes[i]).int,(S.p.nodes[i]).keys,(foldK (foldF S.p f) (S.p.nodes[i]).kids (L.map Prod.fst) [] []).2.1⟩]:=fun _ _ _=>by
  simp only [foldF];rw [hat]
  have:opVal (S.p.nodes[i]) (foldK (foldF S.p f) (S.p.nodes[i]).kids (L.map Prod.fst) [] []).2.2=none:=by
   unfold opVal;rw [if_neg (fun hh=>by rcases hh.1 with hh | hh;exact hno.1 hh;exact hno.2 hh)]
  rw [this]
 have hfold2:=hfold [] [] (.inr trivial);have HP:Hid (∀ r w',NodeP w0 w S gF nv L (foldF S.p (f+1) i (L.map Prod.fst)) r w'→P r w'):=hZz (fun r w' h=>by rw [← hP];exact h);rw [hfold2] at HP;clear hfold hfold2 hgd hP;obtain ⟨n,hn⟩:∃ n,S.p.nodes[i]=n:=⟨_,rfl⟩
 obtain ⟨b,off,kA,kc,iA,ic,hA,hb,c0,c1,c2,c3,c4,hkv,hiv⟩:=zaqY hS.nodes hi;have hbl:=h.bl
 replace c0:=(hbl.cell hb).trans c0
 replace c1:=(hbl.cell hb).trans c1
 replace c2:=(hbl.cell hb).trans c2
 replace c3:=(hbl.cell hb).trans c3
 replace c4:=(hbl.cell hb).trans c4
 rw [hn] at c0 c1 c2 c3 c4 hkv hiv hkl hcv hno HP;have hi':(i:Int)<(S.p.nodes.length:Int):=by omega
 have hi0:(0:Int)≤(i:Int):=by omega
 obtain ⟨y0,y1,y2⟩:=blkF h.fo;obtain ⟨nA,ncp,hnv⟩:=zaiZ h.row;rw [hnv] at y2;rw [hA] at y0;have HH:=hZz h
 have HIV:Hid (∀ wx,Below w0.heap.size w0 wx→SlAt wx iA 1 (fun k=>[Value.int .i64 k]) n.kids):=hZz (fun wx hb=>by
  obtain ⟨A,cap,e,_,hs⟩:=hiv.at;injection e with e1 _ _
  subst e1;exact hs.below hb)
 have HOLD:=hZz hold;have HNVL:=hZz hnvl;have HCV:=hZz hcv;have HREC:=hZz hR;have HNO:=hZz hno;have hLs:L.length+(i+1 - s)≤5000:=hl0;have HLS:=hZz hLs;have HSI:=hZz hsi;have HGF:=hZz hgFl
 have HKV:Hid (∀ wx,Below w.heap.size w wx→SlAt wx kA 1 strCs n.keys):=hZz (fun wx hb=>by
  obtain ⟨A,cap,e,_,hs⟩:=hkv;injection e with e1 _ _
  subst e1;exact hs.below (zaaZ hb hbl hbl.size))
 obtain ⟨N,hN⟩:∃ N,S.p.nodes.length=N:=⟨_,rfl⟩
 rw [hN] at y0 hi' hi hnl;obtain ⟨ln,hln⟩:∃ N,L.length=N:=⟨_,rfl⟩
 rw [hln] at y2 hl;obtain ⟨kn,hkn⟩:∃ N,n.keys.length=N:=⟨_,rfl⟩
 obtain ⟨im,him⟩:∃ N,n.kids.length=N:=⟨_,rfl⟩
 rw [hkn] at c3 hkl;rw [him] at c4 hkl;have HKN:=hZz hkn;obtain ⟨nk,hnk⟩:∃ N,n.kind=N:=⟨_,rfl⟩
 obtain ⟨nt,hnt⟩:∃ N,n.text=N:=⟨_,rfl⟩
 obtain ⟨ni,hni⟩:∃ N,n.int=N:=⟨_,rfl⟩
 rw [hnk] at c0;rw [hnt] at c1;rw [hni] at c2;obtain ⟨gN,hgN⟩:∃ g,w.heap.size=g:=⟨_,rfl⟩
 obtain ⟨W1,hW1⟩:∃ W,w.alloc (.cells #[.int .i64 nk,.string nt,.int .i64 ni,.slice kA kn kc,.slice iA im ic] 58)=W:=⟨_,rfl⟩
 have HX1:Hid (Blk W1 gN 58 #[.int .i64 nk,.string nt,.int .i64 ni,.slice kA kn kc,.slice iA im ic]):=hZz (by rw [← hW1,← hgN];exact Blk.new _ _ _);have hb1:Below w.heap.size w W1:=by rw [← hW1];exact zacZ _ _
 have HB1:=hZz hb1;have HW1:=hZz hW1;have HG:=hZz hgN;have hfo:=h.fo.below hb1;rw [hnv,hln,hN] at hfo;have HF1:=hZz hfo;clear hfo;have HIM:=hZz him;have HNK:=hZz hnk;have HNT:=hZz hnt;have HNI:=hZz hni;have HNN:=hZz hN;have HLN:=hZz hln;have HNVE:=hZz hnv;have HGN:=hZz hgN;have HLT1:Hid (w.heap.size<W1.heap.size):=hZz (by rw [← hW1];simp);clear hN hln hkn him hnk hnt hni hgN hW1 hb1 h hS hkv hiv hn hA hnv hold hgFl hnvl hcv hR hno hl0 hLs hat hf hkl0 hsi;go_enter func34,ntmps34
 go_upto_region 2 with fail
 rw [HG.out,HW1.out];clear HG HW1 c0 c1 c2 c3 c4 y0 y1 y2;obtain ⟨y0,y1,y2⟩:=blkF HF1.out;have x1:=blk5n HX1.out;go_upto_region 3 with fail
 clear y0 y1 y2;obtain ⟨i1,hj,hy0,hy1,hy2⟩:=info_parts Tryz.infoStrS;have HS1:Hid (∀ w',Below W1.heap.size W1 w'→w'.cell? ⟨gN,0,none⟩=some (.int .i64 nk)∧w'.cell? ⟨gN,1,none⟩=some (.string nt)∧w'.cell? ⟨gN,2,none⟩=some (.int .i64 ni)∧w'.cell? ⟨gN,3,none⟩=some (.slice kA kn kc)):=hZz (fun w' hb=>four_n (HX1.out.below hb));have HB_0:=hZz (zadZ W1);clear x1;go_cut [7] from 29 to 38 (fun u wx=>OutCut W1 wx ⟨nk,nt,ni,n.keys,[]⟩ u)
 case first =>
  by_cases q0:kn=0
  ·have HK0:Hid (n.keys=[]):=hZz (by have h9:=HKN.out;rw [q0] at h9;exact List.length_eq_zero_iff.1 h9)
   subst q0;refine wp_region_held_drew (S:=fun w'=>w'.cell? ⟨gN,0,none⟩=some (.int .i64 nk)∧w'.cell? ⟨gN,1,none⟩=some (.string nt)∧w'.cell? ⟨gN,2,none⟩=some (.int .i64 ni)∧w'.cell? ⟨gN,3,none⟩=some (.slice kA 0 kc)) (by kernel_rfl) (HS1.out _ HB_0.out) (fun hHeld=>?_)
   obtain ⟨WD,hWD⟩:∃ W,W1.drew=W:=⟨_,rfl⟩
   rw [hWD] at HB_0 hHeld ⊢;clear hWD;refine tkZ (i:=0) (v:=.pointer (some ⟨gN,0,none⟩)) rfl ?_
   simp only [nz,Act.put];refine tkZ (i:=1) (v:=.int .i64 nk) rfl ?_
   simp only [nz,Act.put];refine tkZ (i:=2) (v:=.pointer (some ⟨gN,1,none⟩)) rfl ?_
   simp only [nz,Act.put];refine tkZ (i:=3) (v:=.string nt) rfl ?_
   simp only [nz,Act.put];refine tkZ (i:=4) (v:=.pointer (some ⟨gN,2,none⟩)) rfl ?_
   simp only [nz,Act.put];refine tkZ (i:=5) (v:=.int .i64 ni) rfl ?_
   simp only [nz,Act.put];refine tkZ (i:=6) (v:=.pointer (some ⟨gN,3,none⟩)) rfl ?_
   simp only [nz,Act.put];refine tkZ (i:=7) (v:=.slice kA 0 kc) rfl ?_
   simp only [nz,Act.put];refine wpAnyH_ready (rs:=[8,10]) (by kernel_rfl) (by simp) ?_
   refine AllReadyH.cons (o:=_) rfl (fun K hK=>?_) ?_
   ·simp only [List.getElem_toArray,List.getElem_cons_succ,List.getElem_cons_zero]
    rw [if_pos (by rfl)];refine zasY (.const (.slice none 0 0)) (.tmp 36) 40 rfl 9 i1 1 underlying40 hj hy1 _ _ 0 0 _ rfl rfl (Nat.le_refl _) ?_
    refine hK.out _ _ (HS1.out _ HB_0.out) (fun hHeld=>?_)
    clear hK K
    try simp only [nz,Act.put]
    refine tkZ (i:=9) (v:=.agg #[.int .i64 nk,.string nt,.int .i64 ni,.slice none 0 0,.slice none 0 0]) rfl ?_
    simp only [nz,Act.put];refine wpAnyH_ready (rs:=[10]) (by kernel_rfl) (by simp) ?_
    refine AllReadyH.cons (o:=_) rfl (fun K hK=>?_) AllReadyH.nil
    go_simp;have HB_aq2:=hZz (HB_0.out.alloc HB_0.out.size (.cells #[.int .i64 0,.string ⟨#[]⟩,.int .i64 0,.slice none 0 0,.slice none 0 0] 58));have HM_aq2:=hZz (Blk.new WD 58 #[.int .i64 0,.string ⟨#[]⟩,.int .i64 0,.slice none 0 0,.slice none 0 0]);refine hK.out _ _ (HS1.out _ HB_aq2.out) (fun hHeld=>?_)
    clear hK K
    try simp only [nz,Act.put]
    obtain ⟨gq3,hgq3⟩:∃ g,WD.heap.size=g:=⟨_,rfl⟩
    have Hgq3:=hZz hgq3;have HGE_gq3:Hid (W1.heap.size≤gq3):=hZz (by rw [← Hgq3.out];exact HB_0.out.size);obtain ⟨Wq4,hWq4⟩:∃ W,WD.alloc (.cells #[.int .i64 0,.string ⟨#[]⟩,.int .i64 0,.slice none 0 0,.slice none 0 0] 58)=W:=⟨_,rfl⟩
    rw [hWq4] at HB_aq2 HM_aq2 hHeld ⊢;rw [hgq3] at HM_aq2
    try rw [hgq3]
    clear hWq4 hgq3;refine wpAnyH_ready (rs:=[11]) (by kernel_rfl) (by simp) ?_
    refine AllReadyH.cons (o:=_) rfl (fun K hK=>?_) AllReadyH.nil
    simp only [List.getElem_toArray,List.getElem_cons_succ,List.getElem_cons_zero];rw [if_pos (by rfl)];refine wp_store_row _ _ _ rfl gq3 #[.int .i64 nk,.string nt,.int .i64 ni,.slice none 0 0,.slice none 0 0] rfl rfl 58 _ HM_aq2.out (by kernel_rfl) rfl (by simp [Value.oneCell']) ?_
    have HB_sq5:=hZz (below_setRow HB_aq2.out HGE_gq3.out #[.int .i64 nk,.string nt,.int .i64 ni,.slice none 0 0,.slice none 0 0]);have HM_sq5:=hZz (HM_aq2.out.setRow (cs':=#[.int .i64 nk,.string nt,.int .i64 ni,.slice none 0 0,.slice none 0 0]));refine hK.out _ _ (HS1.out _ HB_sq5.out) (fun hHeld=>?_)
    clear hK K
    try simp only [nz,Act.put]
    refine wpAnyH_done (by kernel_rfl) ?_ _
    try dsimp only [List.getElem_toArray,List.getElem_cons_succ,List.getElem_cons_zero,Act.put]
    go_wp2_with fail;go_meet
    exact ⟨gq3,none,0,rfl,HB_sq5.out,HGE_gq3.out,by rw [HK0.out];exact HM_sq5.out,by rw [HK0.out];exact ⟨rfl,.inl ⟨rfl,rfl⟩⟩⟩
   refine AllReadyH.cons (o:=_) rfl (fun K hK=>?_) AllReadyH.nil
   go_simp;have HB_aq6:=hZz (HB_0.out.alloc HB_0.out.size (.cells #[.int .i64 0,.string ⟨#[]⟩,.int .i64 0,.slice none 0 0,.slice none 0 0] 58));have HM_aq6:=hZz (Blk.new WD 58 #[.int .i64 0,.string ⟨#[]⟩,.int .i64 0,.slice none 0 0,.slice none 0 0]);refine hK.out _ _ (HS1.out _ HB_aq6.out) (fun hHeld=>?_)
   clear hK K
   try simp only [nz,Act.put]
   obtain ⟨gq7,hgq7⟩:∃ g,WD.heap.size=g:=⟨_,rfl⟩
   have Hgq7:=hZz hgq7;have HGE_gq7:Hid (W1.heap.size≤gq7):=hZz (by rw [← Hgq7.out];exact HB_0.out.size);obtain ⟨Wq8,hWq8⟩:∃ W,WD.alloc (.cells #[.int .i64 0,.string ⟨#[]⟩,.int .i64 0,.slice none 0 0,.slice none 0 0] 58)=W:=⟨_,rfl⟩
   rw [hWq8] at HB_aq6 HM_aq6 hHeld ⊢;rw [hgq7] at HM_aq6
   try rw [hgq7]
   clear hWq8 hgq7;refine wpAnyH_ready (rs:=[8]) (by kernel_rfl) (by simp) ?_
   refine AllReadyH.cons (o:=_) rfl (fun K hK=>?_) AllReadyH.nil
   simp only [List.getElem_toArray,List.getElem_cons_succ,List.getElem_cons_zero];rw [if_pos (by rfl)];refine zasY (.const (.slice none 0 0)) (.tmp 36) 40 rfl 9 i1 1 underlying40 hj hy1 _ _ 0 0 _ rfl rfl (Nat.le_refl _) ?_
   refine hK.out _ _ (HS1.out _ HB_aq6.out) (fun hHeld=>?_)
   clear hK K
   try simp only [nz,Act.put]
   refine tkZ (i:=9) (v:=.agg #[.int .i64 nk,.string nt,.int .i64 ni,.slice none 0 0,.slice none 0 0]) rfl ?_
   simp only [nz,Act.put];refine wpAnyH_ready (rs:=[11]) (by kernel_rfl) (by simp) ?_
   refine AllReadyH.cons (o:=_) rfl (fun K hK=>?_) AllReadyH.nil
   simp only [List.getElem_toArray,List.getElem_cons_succ,List.getElem_cons_zero];rw [if_pos (by rfl)];refine wp_store_row _ _ _ rfl gq7 #[.int .i64 nk,.string nt,.int .i64 ni,.slice none 0 0,.slice none 0 0] rfl rfl 58 _ HM_aq6.out (by kernel_rfl) rfl (by simp [Value.oneCell']) ?_
   have HB_sq10:=hZz (below_setRow HB_aq6.out HGE_gq7.out #[.int .i64 nk,.string nt,.int .i64 ni,.slice none 0 0,.slice none 0 0]);have HM_sq10:=hZz (HM_aq6.out.setRow (cs':=#[.int .i64 nk,.string nt,.int .i64 ni,.slice none 0 0,.slice none 0 0]));refine hK.out _ _ (HS1.out _ HB_sq10.out) (fun hHeld=>?_)
   clear hK K
   try simp only [nz,Act.put]
   refine wpAnyH_done (by kernel_rfl) ?_ _
   try dsimp only [List.getElem_toArray,List.getElem_cons_succ,List.getElem_cons_zero,Act.put]
   go_wp2_with fail;go_meet
   exact ⟨gq7,none,0,rfl,HB_sq10.out,HGE_gq7.out,by rw [HK0.out];exact HM_sq10.out,by rw [HK0.out];exact ⟨rfl,.inl ⟨rfl,rfl⟩⟩⟩
  ·have hq0:0<kn:=by omega
   obtain ⟨kb,ko,hkb,_⟩:=(HKV.out w (Below.refl _ _)).ptr (n:=0) (by rw [HKN.out];omega);subst hkb
   have HNW:Hid (∀ wx,Below W1.heap.size W1 wx→∀ j u,(n.keys.map Value.string)[j]? = some u→wx.cell? ((⟨kb,ko,none⟩:Addr).add j)=some u):=hZz (fun wx hbx j u hj=>by
    rw [List.getElem?_map] at hj;cases hl:n.keys[j]? with
    | none=>rw [hl] at hj;cases hj
    | some k =>
     rw [hl] at hj;injection hj with hj
     subst hj;obtain ⟨hjl,hje⟩:=List.getElem?_eq_some_iff.1 hl
     have:=(HKV.out wx (zaaZ hbx HB1.out HB1.out.size)).cell0 hjl (v:=.string n.keys[j]) rfl
     rw [hje] at this;rw [zbeY];simpa using this)
   have HLQ:Hid ((n.keys.map Value.string).length=kn * 1):=hZz (by rw [List.length_map,HKN.out];omega)
   have HON:Hid (∀ u∈n.keys.map Value.string,u.oneCell'=true):=hZz (fun u hu=>by
    obtain ⟨k,_,rfl⟩:=List.mem_map.1 hu;rfl)
   refine wp_region_held_drew (S:=fun w'=>w'.cell? ⟨gN,0,none⟩=some (.int .i64 nk)∧w'.cell? ⟨gN,1,none⟩=some (.string nt)∧w'.cell? ⟨gN,2,none⟩=some (.int .i64 ni)∧w'.cell? ⟨gN,3,none⟩=some (.slice (some ⟨kb,ko,none⟩) kn kc)) (by kernel_rfl) (HS1.out _ HB_0.out) (fun hHeld=>?_)
   obtain ⟨WD,hWD⟩:∃ W,W1.drew=W:=⟨_,rfl⟩
   rw [hWD] at HB_0 hHeld ⊢;clear hWD q0;refine tkZ (i:=0) (v:=.pointer (some ⟨gN,0,none⟩)) rfl ?_
   simp only [nz,Act.put];refine tkZ (i:=1) (v:=.int .i64 nk) rfl ?_
   simp only [nz,Act.put];refine tkZ (i:=2) (v:=.pointer (some ⟨gN,1,none⟩)) rfl ?_
   simp only [nz,Act.put];refine tkZ (i:=3) (v:=.string nt) rfl ?_
   simp only [nz,Act.put];refine tkZ (i:=4) (v:=.pointer (some ⟨gN,2,none⟩)) rfl ?_
   simp only [nz,Act.put];refine tkZ (i:=5) (v:=.int .i64 ni) rfl ?_
   simp only [nz,Act.put];refine tkZ (i:=6) (v:=.pointer (some ⟨gN,3,none⟩)) rfl ?_
   simp only [nz,Act.put];refine tkZ (i:=7) (v:=.slice (some ⟨kb,ko,none⟩) kn kc) rfl ?_
   simp only [nz,Act.put];refine wpAnyH_ready (rs:=[8,10]) (by kernel_rfl) (by simp) ?_
   refine AllReadyH.cons (o:=_) rfl (fun K hK=>?_) ?_
   ·simp only [List.getElem_toArray,List.getElem_cons_succ,List.getElem_cons_zero]
    rw [if_pos (by rfl)];refine wp_append_lies _ (.const (.slice none 0 0)) (.tmp 36) 40 rfl W1.heap.size 9 i1 _ 1 16 underlying40 hj hy0 hy1 hy2 rfl (by decide) (.slice none 0 0) 0 [] rfl ⟨rfl,.inl ⟨rfl,rfl⟩⟩ ⟨kb,ko,none⟩ kn kc (n.keys.map Value.string) rfl HLQ.out (HNW.out _ HB_0.out) HON.out hq0 (by unfold maxLen;omega) (by omega) HB_0.out.size _ rfl ?_
    intro gq12 cq13 Wq14 hown hgr hat hlt;have hb6:=zazY hgr;simp only [Nat.zero_add,List.nil_append] at hown ⊢;have HO_pq11:=hZz hown;have HB_pq11:=hZz (zaaZ hb6 HB_0.out HB_0.out.size);clear hown hgr hat hb6;refine hK.out _ _ (HS1.out _ HB_pq11.out) (fun hHeld=>?_)
    clear hK K
    try simp only [nz,Act.put]
    refine tkZ (i:=9) (v:=.agg #[.int .i64 nk,.string nt,.int .i64 ni,.slice (some ⟨gq12,0,none⟩) kn cq13,.slice none 0 0]) rfl ?_
    simp only [nz,Act.put];refine wpAnyH_ready (rs:=[10]) (by kernel_rfl) (by simp) ?_
    refine AllReadyH.cons (o:=_) rfl (fun K hK=>?_) AllReadyH.nil
    go_simp;have HO_aq15:=hZz (zahZ HO_pq11.out (zacZ Wq14 (.cells #[.int .i64 0,.string ⟨#[]⟩,.int .i64 0,.slice none 0 0,.slice none 0 0] 58)));have HB_aq15:=hZz (HB_pq11.out.alloc HB_pq11.out.size (.cells #[.int .i64 0,.string ⟨#[]⟩,.int .i64 0,.slice none 0 0,.slice none 0 0] 58));have HM_aq15:=hZz (Blk.new Wq14 58 #[.int .i64 0,.string ⟨#[]⟩,.int .i64 0,.slice none 0 0,.slice none 0 0]);refine hK.out _ _ (HS1.out _ HB_aq15.out) (fun hHeld=>?_)
    clear hK K
    try simp only [nz,Act.put]
    obtain ⟨gq16,hgq16⟩:∃ g,Wq14.heap.size=g:=⟨_,rfl⟩
    have Hgq16:=hZz hgq16;have HGE_gq16:Hid (W1.heap.size≤gq16):=hZz (by rw [← Hgq16.out];exact HB_pq11.out.size);obtain ⟨Wq17,hWq17⟩:∃ W,Wq14.alloc (.cells #[.int .i64 0,.string ⟨#[]⟩,.int .i64 0,.slice none 0 0,.slice none 0 0] 58)=W:=⟨_,rfl⟩
    rw [hWq17] at HO_aq15 HB_aq15 HM_aq15 hHeld ⊢;rw [hgq16] at HM_aq15
    try rw [hgq16]
    clear hWq17 hgq16;refine wpAnyH_ready (rs:=[11]) (by kernel_rfl) (by simp) ?_
    refine AllReadyH.cons (o:=_) rfl (fun K hK=>?_) AllReadyH.nil
    simp only [List.getElem_toArray,List.getElem_cons_succ,List.getElem_cons_zero];rw [if_pos (by rfl)];refine wp_store_row _ _ _ rfl gq16 #[.int .i64 nk,.string nt,.int .i64 ni,.slice (some ⟨gq12,0,none⟩) kn cq13,.slice none 0 0] rfl rfl 58 _ HM_aq15.out (by kernel_rfl) rfl (by simp [Value.oneCell']) ?_
    have HB_sq18:=hZz (below_setRow HB_aq15.out HGE_gq16.out #[.int .i64 nk,.string nt,.int .i64 ni,.slice (some ⟨gq12,0,none⟩) kn cq13,.slice none 0 0]);have HM_sq18:=hZz (HM_aq15.out.setRow (cs':=#[.int .i64 nk,.string nt,.int .i64 ni,.slice (some ⟨gq12,0,none⟩) kn cq13,.slice none 0 0]));have HO_sq18:=hZz (own_rowfar (cs':=#[.int .i64 nk,.string nt,.int .i64 ni,.slice (some ⟨gq12,0,none⟩) kn cq13,.slice none 0 0]) HO_aq15.out HM_aq15.out (by decide));refine hK.out _ _ (HS1.out _ HB_sq18.out) (fun hHeld=>?_)
    clear hK K
    try simp only [nz,Act.put]
    refine wpAnyH_done (by kernel_rfl) ?_ _
    try dsimp only [List.getElem_toArray,List.getElem_cons_succ,List.getElem_cons_zero,Act.put]
    go_wp2_with fail;go_meet
    exact ⟨gq16,some ⟨gq12,0,none⟩,cq13,rfl,HB_sq18.out,HGE_gq16.out,by simp only [HKN.out];exact HM_sq18.out,by simp only [HKN.out];exact HO_sq18.out⟩
   refine AllReadyH.cons (o:=_) rfl (fun K hK=>?_) AllReadyH.nil
   go_simp;have HB_aq19:=hZz (HB_0.out.alloc HB_0.out.size (.cells #[.int .i64 0,.string ⟨#[]⟩,.int .i64 0,.slice none 0 0,.slice none 0 0] 58));have HM_aq19:=hZz (Blk.new WD 58 #[.int .i64 0,.string ⟨#[]⟩,.int .i64 0,.slice none 0 0,.slice none 0 0]);refine hK.out _ _ (HS1.out _ HB_aq19.out) (fun hHeld=>?_)
   clear hK K
   try simp only [nz,Act.put]
   obtain ⟨gq20,hgq20⟩:∃ g,WD.heap.size=g:=⟨_,rfl⟩
   have Hgq20:=hZz hgq20;have HGE_gq20:Hid (W1.heap.size≤gq20):=hZz (by rw [← Hgq20.out];exact HB_0.out.size);obtain ⟨Wq21,hWq21⟩:∃ W,WD.alloc (.cells #[.int .i64 0,.string ⟨#[]⟩,.int .i64 0,.slice none 0 0,.slice none 0 0] 58)=W:=⟨_,rfl⟩
   rw [hWq21] at HB_aq19 HM_aq19 hHeld ⊢;rw [hgq20] at HM_aq19
   try rw [hgq20]
   clear hWq21 hgq20;refine wpAnyH_ready (rs:=[8]) (by kernel_rfl) (by simp) ?_
   refine AllReadyH.cons (o:=_) rfl (fun K hK=>?_) AllReadyH.nil
   simp only [List.getElem_toArray,List.getElem_cons_succ,List.getElem_cons_zero];rw [if_pos (by rfl)];refine wp_append_lies _ (.const (.slice none 0 0)) (.tmp 36) 40 rfl W1.heap.size 9 i1 _ 1 16 underlying40 hj hy0 hy1 hy2 rfl (by decide) (.slice none 0 0) 0 [] rfl ⟨rfl,.inl ⟨rfl,rfl⟩⟩ ⟨kb,ko,none⟩ kn kc (n.keys.map Value.string) rfl HLQ.out (HNW.out _ HB_aq19.out) HON.out hq0 (by unfold maxLen;omega) (by omega) HB_aq19.out.size _ rfl ?_
   intro gq23 cq24 Wq25 hown hgr hat hlt;have hb6:=zazY hgr;simp only [Nat.zero_add,List.nil_append] at hown ⊢;have HO_pq22:=hZz hown;have HB_pq22:=hZz (zaaZ hb6 HB_aq19.out HB_aq19.out.size);have HM_pq22:=hZz (HM_aq19.out.below hb6);clear hown hgr hat hb6;refine hK.out _ _ (HS1.out _ HB_pq22.out) (fun hHeld=>?_)
   clear hK K
   try simp only [nz,Act.put]
   refine tkZ (i:=9) (v:=.agg #[.int .i64 nk,.string nt,.int .i64 ni,.slice (some ⟨gq23,0,none⟩) kn cq24,.slice none 0 0]) rfl ?_
   simp only [nz,Act.put];refine wpAnyH_ready (rs:=[11]) (by kernel_rfl) (by simp) ?_
   refine AllReadyH.cons (o:=_) rfl (fun K hK=>?_) AllReadyH.nil
   simp only [List.getElem_toArray,List.getElem_cons_succ,List.getElem_cons_zero];rw [if_pos (by rfl)];refine wp_store_row _ _ _ rfl gq20 #[.int .i64 nk,.string nt,.int .i64 ni,.slice (some ⟨gq23,0,none⟩) kn cq24,.slice none 0 0] rfl rfl 58 _ HM_pq22.out (by kernel_rfl) rfl (by simp [Value.oneCell']) ?_
   have HB_sq26:=hZz (below_setRow HB_pq22.out HGE_gq20.out #[.int .i64 nk,.string nt,.int .i64 ni,.slice (some ⟨gq23,0,none⟩) kn cq24,.slice none 0 0]);have HM_sq26:=hZz (HM_pq22.out.setRow (cs':=#[.int .i64 nk,.string nt,.int .i64 ni,.slice (some ⟨gq23,0,none⟩) kn cq24,.slice none 0 0]));have HO_sq26:=hZz (own_rowfar (cs':=#[.int .i64 nk,.string nt,.int .i64 ni,.slice (some ⟨gq23,0,none⟩) kn cq24,.slice none 0 0]) HO_pq22.out HM_pq22.out (by decide));refine hK.out _ _ (HS1.out _ HB_sq26.out) (fun hHeld=>?_)
   clear hK K
   try simp only [nz,Act.put]
   refine wpAnyH_done (by kernel_rfl) ?_ _
   try dsimp only [List.getElem_toArray,List.getElem_cons_succ,List.getElem_cons_zero,Act.put]
   go_wp2_with fail;go_meet
   exact ⟨gq20,some ⟨gq23,0,none⟩,cq24,rfl,HB_sq26.out,HGE_gq20.out,by simp only [HKN.out];exact HM_sq26.out,by simp only [HKN.out];exact HO_sq26.out⟩
 case rest =>
  obtain ⟨gO,kO,kOc,rfl,hbc,hge,hbk,hown⟩:=hcut;have hbw:=zaaZ hbc HB1.out HB1.out.size;have HN0:Hid (n=⟨nk,nt,ni,n.keys,n.kids⟩):=hZz (by rw [← HNK.out,← HNT.out,← HNI.out])
  have HC0:Hid (FLc w0 w wc S gF gN gO nv nv L [] n #[.int .i64 nk,.string nt,.int .i64 ni,.slice kA kn kc,.slice iA im ic] (.slice kO kn kOc) [] [] (.slice none 0 0) (.slice none 0 0) []):=hZz (by
   have e1:(⟨nk,nt,ni,n.keys,[]⟩:NodeD).keys.length=kn:=HKN.out;simp only [e1] at hbk hown;refine ⟨by rw [List.append_nil];exact HH.out.below hbw,KF.of_below hbw _ _,(fun p hp=>by cases hp),HX1.out.below hbc,?_,?_,⟨rfl,.inl ⟨rfl,rfl⟩⟩,(fun p hp=>by cases hp),⟨rfl,.inl ⟨rfl,rfl⟩⟩,(fun i hi=>by cases hi),?_,?_,?_,?_,?_,HOLD.out,HGF.out⟩
   ·rw [HNK.out,HNT.out,HNI.out];exact hbk
   ·rw [HKN.out];exact za7Y hown (Nat.le_of_lt HLT1.out)
   ·rw [HGN.out];exact Nat.le_refl _
   ·exact Nat.le_trans (Nat.le_of_lt HLT1.out) hge
   ·have:=HX1.out.lt;omega
   ·intro e;have:=HNVL.out _ e;have:=HGN.out;omega
   ·intro e;have:=HNVL.out _ e;have:=HLT1.out;omega)
  have HXc:=hZz (HX1.out.below hbc);clear hbc hge hbk hown hbw HB_0;have x1:=blk5n HXc.out;go_upto_region 6 with (fail)
  try go_wp2_with (fail)
  have hnode:n.kids.length=im:=HIM.out;have HNODE:=hZz hnode;clear hnode x1 hi;go_loopw [8,10,11,12,13,42,43,44,45,46,47,48,49,50,51,52,53,54,55,56,57,58,59,60,61,62,63,64,65,66] (fun lv _ _ _ _ kv _ _ _ _ _ _ _ _ _ _ _ _ _ _ _ _ _ _ _ _ _ _ _ _ wr=>∃ (k:Nat) (nvk:Value) (N:List NodeX) (ks:List Int) (vs:List CellD) (kv2:Value) (lA:Option Addr) (lc vl:Nat) (lr:List Value),k≤im∧kv=.int .i64 k∧lv=.slice lA vl lc∧Hid (vs.length=vl∧vl≤k∧ks.length=k∧N.length≤i - s)∧Hid (foldK (foldF S.p f) (n.kids.take k) (L.map Prod.fst) [] []=((L ++ N).map Prod.fst,ks,vs))∧Hid (FLc w0 w wr S gF gN gO nv nvk L N n #[.int .i64 nk,.string nt,.int .i64 ni,.slice kA kn kc,.slice iA im ic] (.slice kO kn kOc) ks vs kv2 (.slice lA vl lc) lr)) (fun _ _ _ _ _ kv _ _ _ _ _ _ _ _ _ _ _ _ _ _ _ _ _ _ _ _ _ _ _ _ _=>im - (intOf kv).toNat)
  case atStart=>exact ⟨0,nv,[],[],[],.slice none 0 0,none,0,0,[],Nat.zero_le _,rfl,rfl,hZz ⟨rfl,Nat.le_refl _,rfl,Nat.zero_le _⟩,hZz (by simp [foldK]),HC0⟩
  case round =>
   obtain ⟨k,nvk,N,ks,vs,kv2,lA,lc,vl,lr,hk,rfl,rfl,HLL,HFK,HC⟩:=hrel;have hk0:(0:Int)≤(k:Int):=by omega
   by_cases hlt:k<im
   ·have hlt':(k:Int)<(im:Int):=by omega
    have hkk:k<n.kids.length:=by rw [HNODE.out];exact hlt
    obtain ⟨e',hce,hee,hnx⟩:=cover_take HCV.out k (by omega);obtain ⟨m,hm,hfm,hmi⟩:=hnx hkk;obtain ⟨tt,kx,vx,K⟩:=foldKs_of (fun i s h=>zbgY S.p f i s h) hce (L.map Prod.fst);have hKe:=K.eq [] [];rw [HFK.out] at hKe;simp only [List.nil_append,Prod.mk.injEq] at hKe;obtain ⟨hK1,hK2,hK3⟩:=hKe
    have hNl:N.length≤e' - s:=by
     have h1:=congrArg List.length hK1;rw [List.length_map,List.length_append,List.length_append,List.length_map] at h1
     have:=K.len
     omega
    have hKs:=HLL.out.2.2.1;have hse:=hce.le';have hfe:=zaaY hfm;have hml:m<S.p.nodes.length:=by rw [HNN.out];omega
    have HCR:=hZz (HREC.out m e' hfm hml wr nvk (L ++ N) HC.out.st (by have:=HLS.out;rw [List.length_append];omega));have hsl:=HIV.out wr HC.out.st.bl;obtain ⟨b1,o1,hiA,_⟩:=hsl.ptr hkk;subst hiA;have d0:=hsl.cell0 hkk (v:=.int .i64 (m:Nat)) (by show [Value.int .i64 n.kids[k]][0]? = _;rw [hm];rfl);rw [Nat.mul_one] at d0;have HKS:=hZz hKs;have HM:=hZz hm;have HFM:=hZz hfm;have HNL:Hid (N.length≤e' - s∧s≤e'∧e'≤m):=hZz ⟨hNl,hse,hfe⟩;have HMI:=hZz hmi;have HVK:Hid (vl≤k):=hZz HLL.out.2.1;have HVL:Hid (vs.length=vl):=hZz HLL.out.1;clear hce hee hnx hm hfm hmi K hK1 hK2 hK3 hNl hKs hse hfe hml hsl
    go_upto_region 9 with (first
     | (go_at_call 34;(with_reducible refine HCR.out.mono ?_);rintro r w3 ⟨nv3,N2,j,rfl,hj,hst3,hR3,hk3,hp3⟩;have HJ:=hZz hj;have HR3:=hZz hR3;have HC3:=hZz (HC.out.rec_ (by rw [← List.append_assoc];exact hst3) hk3 hp3);clear hj hst3 hR3 hk3 hp3))
    clear d0;have hM3:(L ++ (N ++ N2)).map Prod.fst=foldF S.p f m ((L ++ N).map Prod.fst):=by rw [← List.append_assoc];exact HR3.out
    have hj3:j+1=(L ++ (N ++ N2)).length:=by rw [← List.append_assoc];exact HJ.out
    have hjl:j<(L ++ (N ++ N2)).length:=by omega
    obtain ⟨h8,hlast,hfl⟩:=last_h8 HFM.out hM3 hj3 hjl
    have hjb:j≤4999:=by
     obtain ⟨t,K⟩:=zbgY S.p f m e' HFM.out ((L ++ N).map Prod.fst);have h1:=congrArg List.length K.eq;rw [hfl,List.length_append,List.length_map,List.length_append] at h1
     have:=K.len
     have:=HLS.out
     have:=HNL.out.1
     have:=HNL.out.2.1
     have:=HNL.out.2.2
     have:=HMI.out
     have:=HSI.out
     omega
    have HM3:=hZz hM3;have HFL:=hZz hfl;have HLA:=hZz hlast;have H8:=hZz h8;have HJL:=hZz hjl;clear hM3 hj3 h8 hlast hfl;have hkd:=HC3.out.kids;obtain ⟨qA,qc,rfl⟩:=zaiZ hkd;rw [HKS.out] at HC3 hkd;obtain ⟨WA,hWA⟩:∃ WA,w3.alloc (.cells #[.int .i64 (j:Nat)] 3)=WA:=⟨_,rfl⟩
    have hbA:Below w3.heap.size w3 WA:=by rw [← hWA];exact zacZ _ _
    have HCA:=hZz (HC3.out.below hbA);have HOK:=hZz (zahZ hkd hbA);have HNW:Hid (∀ q u,[Value.int .i64 (j:Nat)][q]? = some u→WA.cell? ((⟨w3.heap.size,0,none⟩:Addr).add q)=some u):=hZz (by rw [← hWA];exact zamY w3 _ 3);have HSZ:Hid (w.heap.size≤WA.heap.size):=hZz HCA.out.size;have HBO:=hZz HCA.out.bo;have HWA:=hZz hWA;obtain ⟨q1,hj1,hy10,hy11,hy12⟩:=info_parts Tryz.infoIntS;clear hkd hWA hbA;have x3:=blk5n HC3.out.bo;have xA:=blk5n HBO.out;have hwA:=HWA.out;have hk5:k≤1000:=by omega
    go_upto_region 10 with (first
     | (at_builtin;refine wpList_append_lies _ rfl (.tmp 50) (.tmp 52) 56 rfl w.heap.size 3 q1 _ 1 8 underlying56 hj1 hy10 hy11 hy12 rfl (by decide) _ k _ rfl HOK.out ⟨w3.heap.size,0,none⟩ 1 1 [.int .i64 (j:Nat)] rfl rfl HNW.out (by simp [Value.oneCell']) (by decide) (by unfold maxLen;omega) (by omega) HSZ.out _ rfl ?_;intro g4 cap4 w4 hown4 hgr4 hat4 hlt4;have HB4:=hZz (HBO.out.grown hgr4 (zafZ HOK.out HBO.out (by decide)));have x4:=blk5n HB4.out;have z4:=HB4.out.frozen 4;have HO4:=hZz hown4;have HG4:=hZz hgr4;have HA4:=hZz hat4;clear hown4 hgr4 hat4))
    clear hwA x3 xA
    have HC5:Hid (FLc w0 w (w4.setCell ⟨gO,4,none⟩ (.slice (some ⟨g4,0,none⟩) (k+1) cap4)) S gF gN gO nv nv3 L (N ++ N2) n #[.int .i64 nk,.string nt,.int .i64 ni,.slice kA kn kc,.slice (some ⟨b1,o1,none⟩) im ic] (.slice kO kn kOc) (ks ++ [(j:Int)]) vs (.slice (some ⟨g4,0,none⟩) (k+1) cap4) (.slice lA vl lc) lr):=hZz (by
     refine HCA.out.kid ?_ HG4.out (HA4.out.imp id (fun e=>by rw [e];rfl))
     rw [HKS.out];exact HO4.out)
    obtain ⟨W5,hW5⟩:∃ W,w4.setCell ⟨gO,4,none⟩ (.slice (some ⟨g4,0,none⟩) (k+1) cap4)=W:=⟨_,rfl⟩
    rw [hW5] at HC5;have HW5:=hZz hW5;clear hW5 x4 z4;rw [HW5.out];have HCN:=hZz (constant_s w0 W5 S gF nv3 (L ++ (N ++ N2)) HC5.out.st (by have:=HJL.out;have:=HM3.out;have h1:=congrArg List.length HM3.out;rw [HFL.out,List.length_map] at h1;omega) j HJL.out H8.out);rw [HM3.out,HLA.out] at HCN
    have HFK2:Hid (foldK (foldF S.p f) (n.kids.take (k+1)) (L.map Prod.fst) [] []=((L ++ (N ++ N2)).map Prod.fst,ks ++ [(j:Int)],vs ++ (constF (foldF S.p f m ((L ++ N).map Prod.fst)) ((foldF S.p f m ((L ++ N).map Prod.fst)).getD ((foldF S.p f m ((L ++ N).map Prod.fst)).length - 1) noNode)).toList)):=hZz (by
     rw [List.take_succ_eq_append_getElem hkk,foldK_snoc,HFK.out,HM.out,Int.toNat_natCast];simp only [];rw [HM3.out,HFL.out];congr 2
     have:(((j+1:Nat):Int) - 1)=(j:Int):=by omega
     rw [this])
    have HN2:Hid ((N ++ N2).length≤i - s):=hZz (by
     obtain ⟨t,K⟩:=zbgY S.p f m e' HFM.out ((L ++ N).map Prod.fst);obtain ⟨e2,hc2,he2,_⟩:=cover_take HCV.out (k+1) (by omega);obtain ⟨tt2,kx2,vx2,K2⟩:=foldKs_of (fun i s h=>zbgY S.p f i s h) hc2 (L.map Prod.fst);have h1:=K2.eq [] [];rw [HFK2.out] at h1;have h2:=congrArg (fun x=>x.1.length) h1;simp only [List.length_map,List.length_append] at h2
     have:=K2.len
     rw [List.length_append];omega)
    have HKS2:Hid ((ks ++ [(j:Int)]).length=k+1):=hZz (by rw [List.length_append,HKS.out];rfl)
    go_upto_region 11 with (first
     | (go_at_call 48;(with_reducible refine HCN.out.mono ?_);rintro r w6 ⟨hb6,hq⟩;have HC6:=hZz (HC5.out.below hb6);clear hb6;rcases hq with ⟨ho,rfl⟩ | ⟨c,g1,ho,rfl,hle1,hbl1⟩))
    ·have HO:=hZz ho
     clear ho;go_wp2_with (fail)
     refine ⟨⟨k+1,nv3,N ++ N2,ks ++ [(j:Int)],vs,_,lA,lc,vl,lr,by omega,by simp,rfl,hZz ⟨HVL.out,by have:=HVK.out;omega,HKS2.out,HN2.out⟩,hZz ?_,HC6⟩,by simp [intOf];omega⟩
     rw [HFK2.out,HO.out];simp
    ·have HO:=hZz ho
     have HG1:Hid (w.heap.size≤g1):=hZz (Nat.le_trans HC5.out.size hle1);obtain ⟨WB,hWB⟩:∃ WB,w6.alloc (.cells #[.slice (some ⟨g1,0,none⟩) 1 1] 96)=WB:=⟨_,rfl⟩
     have hbB:Below w6.heap.size w6 WB:=by rw [← hWB];exact zacZ _ _
     have HCB:=hZz (HC6.out.below hbB);have HB1':=hZz (hbl1.below hbB);have hvo:=HCB.out.vals;rw [HVL.out] at hvo;have HVO:=hZz hvo;have HNV:Hid (∀ q u,[Value.slice (some ⟨g1,0,none⟩) 1 1][q]? = some u→WB.cell? ((⟨w6.heap.size,0,none⟩:Addr).add q)=some u):=hZz (by rw [← hWB];exact zamY w6 _ 96);have HSB:Hid (w.heap.size≤WB.heap.size):=hZz HCB.out.size;have HWB:=hZz hWB;obtain ⟨p1,hp1,hp10,hp11,hp12⟩:=info_parts Tryz.infoVal;have hvk:=HVK.out;clear ho hle1 hbl1 hvo hWB hbB;have hwB:=HWB.out
     go_upto_region 13 with (first
      | (at_builtin;refine wpList_append_lies _ rfl (.tmp 62) (.tmp 64) 95 rfl w.heap.size 96 p1 _ 1 24 underlying95 hp1 hp10 hp11 hp12 rfl (by decide) _ vl _ rfl HVO.out ⟨w6.heap.size,0,none⟩ 1 1 [.slice (some ⟨g1,0,none⟩) 1 1] rfl rfl HNV.out (by simp [Value.oneCell']) (by decide) (by unfold maxLen;omega) (by omega) HSB.out _ rfl ?_;intro g7 cap7 w7 hown7 hgr7 hat7 hlt7;have HO7:=hZz hown7;have HG7:=hZz hgr7;clear hown7 hgr7 hat7))
     clear hwB hvk
     have HC7:Hid (FLc w0 w w7 S gF gN gO nv nv3 L (N ++ N2) n #[.int .i64 nk,.string nt,.int .i64 ni,.slice kA kn kc,.slice (some ⟨b1,o1,none⟩) im ic] (.slice kO kn kOc) (ks ++ [(j:Int)]) (vs ++ [c]) (.slice (some ⟨g4,0,none⟩) (k+1) cap4) (.slice (some ⟨g7,0,none⟩) (vl+1) cap7) (lr ++ [.slice (some ⟨g1,0,none⟩) 1 1])):=hZz (by
      refine HCB.out.val ?_ HG7.out HB1'.out HG1.out
      rw [HVL.out];exact HO7.out)
     go_wp2_with (fail)
     refine ⟨⟨k+1,nv3,N ++ N2,ks ++ [(j:Int)],vs ++ [c],_,some ⟨g7,0,none⟩,cap7,vl+1,_,by omega,by simp,rfl,hZz ⟨by rw [List.length_append,HVL.out];rfl,by have:=HVK.out;omega,HKS2.out,HN2.out⟩,hZz ?_,HC7⟩,by simp [intOf];omega⟩
     rw [HFK2.out,HO.out];rfl
   ·have e9:im=k:=by omega
    subst e9;have hfk:n.kids.take im=n.kids:=List.take_of_length_le (by rw [HNODE.out];exact Nat.le_refl _);have HFK3:Hid (foldK (foldF S.p f) n.kids (L.map Prod.fst) [] []=((L ++ N).map Prod.fst,ks,vs)):=hZz (by have:=HFK.out;rw [hfk] at this;exact this);have hk8:¬ nk=8:=by rw [← HNK.out];exact HNO.out.1
    have hk9:¬ nk=9:=by rw [← HNK.out];exact HNO.out.2
    have xN:=blk5n HC.out.bn;clear hfk;go_upto_region 19 with (fail)
    clear xN hk8 hk9;have HCC:=HC.out;obtain ⟨qA,qc,rfl⟩:=zaiZ HCC.kids;obtain ⟨vA,vc,rfl⟩:=zaiZ HCC.st.row;have hksl:ks.length=im:=HLL.out.2.2.1;have hbo:=HCC.bo;rw [HNK.out,HNT.out,HNI.out,hksl] at hbo;have hrow:=HCC.st.row;have hfo:=HCC.st.fo;obtain ⟨lk,hlk⟩:∃ x,(L ++ N).length=x:=⟨_,rfl⟩
    have hlkb:lk≤5000:=by
     have:=HLL.out.2.2.2
     have:=HLS.out
     rw [← hlk,List.length_append];omega
    rw [hlk] at hrow hfo;have HLK:=hZz hlk;have HKSL:=hZz hksl;obtain ⟨o9,ho9⟩:∃ o,Obj.cells #[.int .i64 nk,.string nt,.int .i64 ni,.slice kO kn kOc,.slice qA im qc] 58=o:=⟨_,rfl⟩
    have hbA:Below wr.heap.size wr (wr.alloc o9).drew:=(zacZ wr o9).drew;have HCA:=hZz (HCC.below hbA);have HOW:=hZz (zahZ hrow hbA);have HNW:Hid (∀ q u,[Value.int .i64 nk,.string nt,.int .i64 ni,.slice kO kn kOc,.slice qA im qc][q]? = some u→(wr.alloc o9).drew.cell? ((⟨wr.heap.size,0,none⟩:Addr).add q)=some u):=hZz (by rw [← ho9];exact zamY wr _ 58);have HSZ:Hid (w0.heap.size≤(wr.alloc o9).drew.heap.size):=hZz (Nat.le_trans HCC.st.bl.size hbA.size);have HBA:=hZz (hbo.below hbA);have HFA:=hZz (hfo.below hbA);have HSd:Hid (Blk wr.drew gO 58 #[.int .i64 nk,.string nt,.int .i64 ni,.slice kO kn kOc,.slice qA im qc]):=hZz hbo;have HNOO:Hid (some gO≠(Value.slice vA (L ++ N).length vc).ownBlock):=hZz (fun e=>HCC.nO e.symm);have HOF:Hid (gO≠gF):=hZz (by have:=HCC.geO;have:=HCC.ltF;omega);rw [← ho9] at HCA HOW HNW HSZ HBA HFA;rw [hlk] at HNOO;obtain ⟨i9,hj9,hy90,hy91,hy92⟩:=info_parts Tryz.infoNode;obtain ⟨y0,y1,y2⟩:=blkF hfo;obtain ⟨ya0,ya1,ya2⟩:=blkF HFA.out;clear HCC hksl hbo hrow hfo hlk hbA ho9;refine wp_region_held_drew (S:=(fun w'=>w'.cell? ⟨gO,0,none⟩=some (.int .i64 nk)∧w'.cell? ⟨gO,1,none⟩=some (.string nt)∧w'.cell? ⟨gO,2,none⟩=some (.int .i64 ni)∧w'.cell? ⟨gO,3,none⟩=some (.slice kO kn kOc)∧w'.cell? ⟨gO,4,none⟩=some (.slice qA im qc))) (by kernel_rfl) (by (first | exact blk5n HSd.out | exact blk5n HBA.out | exact blk5n HB9.out | exact blk5n (HB9s.out _))) (fun hHeld=>?_)
    refine tkZ (i:=0) (v:=.pointer (some ⟨gF,0,none⟩)) rfl ?_
    simp only [nz,Act.put];refine tkZ (i:=1) (v:=.pointer (some ⟨gF,0,none⟩)) rfl ?_
    simp only [nz,Act.put];refine tkZ (i:=2) (v:=.pointer (some ⟨gF,0,none⟩)) rfl ?_
    simp only [nz,Act.put];refine tkZ (i:=3) (v:=.pointer (some ⟨gF,2,none⟩)) rfl ?_
    simp only [nz,Act.put];refine tkZ (i:=5) (v:=.agg #[.int .i64 nk,.string nt,.int .i64 ni,.slice kO kn kOc,.slice qA im qc]) rfl ?_
    simp only [nz,Act.put];refine wpAnyH_ready (rs:=[4,6]) (by kernel_rfl) (by simp) ?_
    refine AllReadyH.cons (o:=_) rfl (fun K hK=>?_) ?_
    focus
     go_simp;refine hK.out _ _ (by (try dsimp only);(first | exact blk5n HSd.out | exact blk5n HBA.out | exact blk5n HB9.out | exact blk5n (HB9s.out _))) (fun hHeld=>?_)
     clear hK K
     try simp only [nz,Act.put]
     refine wpAnyH_ready (rs:=[6]) (by kernel_rfl) (by simp) ?_
     refine AllReadyH.cons (o:=_) rfl (fun K hK=>?_) AllReadyH.nil
     go_simp;refine hK.out _ _ (by (try dsimp only);(first | exact blk5n HSd.out | exact blk5n HBA.out | exact blk5n HB9.out | exact blk5n (HB9s.out _))) (fun hHeld=>?_)
     clear hK K
     try simp only [nz,Act.put]
     refine wpAnyH_ready (rs:=[7]) (by kernel_rfl) (by simp) ?_
     refine AllReadyH.cons (o:=_) rfl (fun K hK=>?_) AllReadyH.nil
     try simp only [List.getElem_toArray,List.getElem_cons_succ,List.getElem_cons_zero]
     (rw [if_pos (by rfl)];refine wp_append_lies _ (.tmp 115) (.tmp 117) 22 rfl w0.heap.size 58 i9 _ 5 80 underlying22 hj9 hy90 hy91 hy92 rfl (by decide) _ lk _ rfl HOW.out ⟨wr.heap.size,0,none⟩ 1 1 [.int .i64 nk,.string nt,.int .i64 ni,.slice kO kn kOc,.slice qA im qc] ?k7 rfl HNW.out (by simp [Value.oneCell']) (by decide) (by unfold maxLen;omega) (by omega) HSZ.out _ rfl ?_;(case k7=>first | rfl | simp);intro g9 cap9 w9 hown9 hgr9 hat9 hlt9;have HB9:=hZz (HBA.out.grown hgr9 HNOO.out);have HB9s:Hid (∀ u,Blk (w9.setCell ⟨gF,2,none⟩ u) gO 58 #[.int .i64 nk,.string nt,.int .i64 ni,.slice kO kn kOc,.slice qA im qc]):=hZz (fun u=>HB9.out.far (p:=⟨gF,2,none⟩) HOF.out u);have HF9:=hZz (HFA.out.grown hgr9 (zafZ HOW.out HFA.out (by decide)));obtain ⟨f0,f1,f2⟩:=blkF HF9.out;have z9:=HF9.out.frozen 2;have HO9:=hZz hown9;have HG9:Hid ((wr.alloc (.cells #[.int .i64 nk,.string nt,.int .i64 ni,.slice kO kn kOc,.slice qA im qc] 58)).drew.grownBy w9 (Value.slice vA lk vc).ownBlock):=hZz hgr9;have HA9:Hid ((Value.slice vA lk vc).ownBlock=some g9∨g9=(wr.alloc (.cells #[.int .i64 nk,.string nt,.int .i64 ni,.slice kO kn kOc,.slice qA im qc] 58)).drew.heap.size):=hZz hat9;clear hown9 hgr9 hat9)
     refine hK.out _ _ (by (try dsimp only);(first | exact blk5n HSd.out | exact blk5n HBA.out | exact blk5n HB9.out | exact blk5n (HB9s.out _))) (fun hHeld=>?_)
     clear hK K
     try simp only [nz,Act.put]
     refine tkZ (i:=8) (v:=.pointer (some ⟨gF,0,none⟩)) rfl ?_
     simp only [nz,Act.put];refine tkZ (i:=9) (v:=.pointer (some ⟨gF,2,none⟩)) rfl ?_
     simp only [nz,Act.put];refine wpAnyH_ready (rs:=[10]) (by kernel_rfl) (by simp) ?_
     refine AllReadyH.cons (o:=_) rfl (fun K hK=>?_) AllReadyH.nil
     go_simp;refine hK.out _ _ (by (try dsimp only);(first | exact blk5n HSd.out | exact blk5n HBA.out | exact blk5n HB9.out | exact blk5n (HB9s.out _))) (fun hHeld=>?_)
     clear hK K
     try simp only [nz,Act.put]
     refine wpAnyH_done (by kernel_rfl) ?_ _
     try dsimp only [List.getElem_toArray,List.getElem_cons_succ,List.getElem_cons_zero,Act.put]
    rotate_left 1;refine AllReadyH.cons (o:=_) rfl (fun K hK=>?_) AllReadyH.nil
    go_simp;refine hK.out _ _ (by (try dsimp only);(first | exact blk5n HSd.out | exact blk5n HBA.out | exact blk5n HB9.out | exact blk5n (HB9s.out _))) (fun hHeld=>?_)
    clear hK K
    try simp only [nz,Act.put]
    refine wpAnyH_ready (rs:=[4]) (by kernel_rfl) (by simp) ?_
    refine AllReadyH.cons (o:=_) rfl (fun K hK=>?_) AllReadyH.nil
    go_simp;refine hK.out _ _ (by (try dsimp only);(first | exact blk5n HSd.out | exact blk5n HBA.out | exact blk5n HB9.out | exact blk5n (HB9s.out _))) (fun hHeld=>?_)
    clear hK K
    try simp only [nz,Act.put]
    refine wpAnyH_ready (rs:=[7]) (by kernel_rfl) (by simp) ?_
    refine AllReadyH.cons (o:=_) rfl (fun K hK=>?_) AllReadyH.nil
    try simp only [List.getElem_toArray,List.getElem_cons_succ,List.getElem_cons_zero]
    (rw [if_pos (by rfl)];refine wp_append_lies _ (.tmp 115) (.tmp 117) 22 rfl w0.heap.size 58 i9 _ 5 80 underlying22 hj9 hy90 hy91 hy92 rfl (by decide) _ lk _ rfl HOW.out ⟨wr.heap.size,0,none⟩ 1 1 [.int .i64 nk,.string nt,.int .i64 ni,.slice kO kn kOc,.slice qA im qc] ?k7 rfl HNW.out (by simp [Value.oneCell']) (by decide) (by unfold maxLen;omega) (by omega) HSZ.out _ rfl ?_;(case k7=>first | rfl | simp);intro g9 cap9 w9 hown9 hgr9 hat9 hlt9;have HB9:=hZz (HBA.out.grown hgr9 HNOO.out);have HB9s:Hid (∀ u,Blk (w9.setCell ⟨gF,2,none⟩ u) gO 58 #[.int .i64 nk,.string nt,.int .i64 ni,.slice kO kn kOc,.slice qA im qc]):=hZz (fun u=>HB9.out.far (p:=⟨gF,2,none⟩) HOF.out u);have HF9:=hZz (HFA.out.grown hgr9 (zafZ HOW.out HFA.out (by decide)));obtain ⟨f0,f1,f2⟩:=blkF HF9.out;have z9:=HF9.out.frozen 2;have HO9:=hZz hown9;have HG9:Hid ((wr.alloc (.cells #[.int .i64 nk,.string nt,.int .i64 ni,.slice kO kn kOc,.slice qA im qc] 58)).drew.grownBy w9 (Value.slice vA lk vc).ownBlock):=hZz hgr9;have HA9:Hid ((Value.slice vA lk vc).ownBlock=some g9∨g9=(wr.alloc (.cells #[.int .i64 nk,.string nt,.int .i64 ni,.slice kO kn kOc,.slice qA im qc] 58)).drew.heap.size):=hZz hat9;clear hown9 hgr9 hat9)
    refine hK.out _ _ (by (try dsimp only);(first | exact blk5n HSd.out | exact blk5n HBA.out | exact blk5n HB9.out | exact blk5n (HB9s.out _))) (fun hHeld=>?_)
    clear hK K
    try simp only [nz,Act.put]
    refine tkZ (i:=8) (v:=.pointer (some ⟨gF,0,none⟩)) rfl ?_
    simp only [nz,Act.put];refine tkZ (i:=9) (v:=.pointer (some ⟨gF,2,none⟩)) rfl ?_
    simp only [nz,Act.put];refine wpAnyH_ready (rs:=[10]) (by kernel_rfl) (by simp) ?_
    refine AllReadyH.cons (o:=_) rfl (fun K hK=>?_) AllReadyH.nil
    go_simp;refine hK.out _ _ (by (try dsimp only);(first | exact blk5n HSd.out | exact blk5n HBA.out | exact blk5n HB9.out | exact blk5n (HB9s.out _))) (fun hHeld=>?_)
    clear hK K
    try simp only [nz,Act.put]
    refine wpAnyH_done (by kernel_rfl) ?_ _
    try dsimp only [List.getElem_toArray,List.getElem_cons_succ,List.getElem_cons_zero,Act.put]
    all_goals
     have hpu:=HCA.out.push (nv2:=.slice (some ⟨g9,0,none⟩) (lk+1) cap9) (by rw [HLK.out,HNK.out,HNT.out,HNI.out,HKSL.out];exact HO9.out) (by rw [HLK.out];exact HG9.out) (by rw [HLK.out];exact HA9.out.imp id (fun e=>by rw [e];rfl));have HPU:=hZz hpu;clear hpu;go_wp2_with (fail)
     refine HP.out _ _ ⟨.slice (some ⟨g9,0,none⟩) (lk+1) cap9,N ++ [(⟨n.kind,n.text,n.int,n.keys,ks⟩,.slice kO kn kOc,.slice qA ks.length qc)],lk,by first | rfl | (congr 2;omega),by rw [← List.append_assoc,List.length_append,HLK.out];rfl,HPU.out.1,?_,HPU.out.2.1,HPU.out.2.2⟩
     rw [HFK3.out,← List.append_assoc,List.map_append];rfl
end Go.Proofs.YthiimbhjpdphpaaGreatDoor
