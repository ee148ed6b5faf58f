/- FC5 -/
import Derived.Test.YthiimbhjpdphpaaGreatDoorPFD3
set_option linter.unusedVariables false
set_option linter.unusedSimpArgs false
namespace Go.Proofs.YthiimbhjpdphpaaGreatDoor
open Go.RowKit
set_option maxRecDepth 100000
open Go.Proofs.Tryz
attribute [local go_sem] zacZ
set_option maxHeartbeats 16000000 in
theorem fnode_s (w0:World) (S:ProgS) (gF:Nat) (f:Nat) (hS:ProgV w0 S) (hnl:S.p.nodes.length≤1000) (hkl0:∀ i,(hi:i<S.p.nodes.length)→(S.p.nodes[i]).keys.length≤1000∧(S.p.nodes[i]).kids.length≤1000)
  (hR:∀ i s,firstF S.p.nodes f i=some s→i<S.p.nodes.length→FNodeH w0 S gF f i s) (i s:Nat) (hf:firstF S.p.nodes (f+1) i=some s) (hi:i<S.p.nodes.length) (hpw:Pow w0) (hmx:MaxL w0):FNodeH w0 S gF (f+1) i s:=by
 intro w nv L h hl0;obtain ⟨P,hP⟩:∃ P:Ending→World→Prop,NodeP w0 w S gF nv L (foldF S.p (f+1) i (L.map Prod.fst))=P:=⟨_,rfl⟩
 rw [hP];have hl:L.length≤100000:=by omega
 have hkl:=hkl0 i hi;have hcv:=(zabY hf).cover;have hsi:=zaaY hf;have hat:S.p.at_ i=S.p.nodes[i]:=zakZ hi _;have hgd:S.p.nodes.getD i noNode=S.p.nodes[i]:=zakZ hi _;rw [hgd] at hcv;have hold:∀ p∈L,∀ g,p.2.2.ownBlock=some g→g<w.heap.size:=fun p hp g hg=>((h.kids p hp).lt g hg).2
 have hgFl:gF<w.heap.size:=h.fo.lt;have hnvl:∀ g,nv.ownBlock=some g→g<w.heap.size:=fun g hg=>(h.row.lt g hg).2
 have hfn:∀ o ks vs,foldK (foldF S.p f) (S.p.nodes[i]).kids (L.map Prod.fst) [] []=(o,ks,vs)→opVal (S.p.nodes[i]) vs=none→foldF S.p (f+1) i (L.map Prod.fst)=o ++ [⟨(S.p.nodes[i]).kind,(S.p.nodes[i]).text,(S.p.nodes[i]).int,(S.p.nodes[i]).keys,ks⟩]:=fun o ks vs h1 h2=>by
  simp only [foldF];rw [hat,h1];simp only
  rw [h2]
 have hfs:∀ o ks vs c,foldK (foldF S.p f) (S.p.nodes[i]).kids (L.map Prod.fst) [] []=(o,ks,vs)→opVal (S.p.nodes[i]) vs=some c→foldF S.p (f+1) i (L.map Prod.fst)=L.map Prod.fst ++ constantsF c (L.map Prod.fst).length:=fun o ks vs c h1 h2=>by
  simp only [foldF];rw [hat,h1];simp only
  rw [h2]
 have hct:=(zabY hf).count;rw [hgd] at hct;have HP:Hid (∀ r w',NodeP w0 w S gF nv L (foldF S.p (f+1) i (L.map Prod.fst)) r w'→P r w'):=hZz (fun r w' h=>by rw [← hP];exact h);clear hgd hP;obtain ⟨n,hn⟩:∃ n,S.p.nodes[i]=n:=⟨_,rfl⟩
 obtain ⟨b,off,kA,kc,iA,ic,hA,hb,c0,c1,c2,c3,c4,hkv,hiv⟩:=zalY hS.nodes hi;have hbl:=h.bl
 replace c0:=(hbl.cell hb).trans c0
 replace c1:=(hbl.cell hb).trans c1
 replace c2:=(hbl.cell hb).trans c2
 replace c3:=(hbl.cell hb).trans c3
 replace c4:=(hbl.cell hb).trans c4
 rw [hn] at c0 c1 c2 c3 c4 hkv hiv hkl hcv hfn hfs hct;have hi':(i:Int)<(S.p.nodes.length:Int):=by omega
 have hi0:(0:Int)≤(i:Int):=by omega
 obtain ⟨y0,y1,y2⟩:=blkF h.fo;obtain ⟨nA,ncp,hnv⟩:=zahZ h.row;rw [hnv] at y2;rw [hA] at y0;have HH:=hZz h
 have HIV:Hid (∀ wx,Below w0.heap.size w0 wx→SlAt wx iA 1 (fun k=>[Value.int .i64 k]) n.kids):=hZz (fun wx hb=>by
  obtain ⟨A,cap,e,_,hs⟩:=hiv.at;injection e with e1 _ _
  subst e1;exact hs.below hb)
 have HOLD:=hZz hold;have HNVL:=hZz hnvl;have HCV:=hZz hcv;have HREC:=hZz hR;have HFN:=hZz hfn;have HFS:=hZz hfs;have HCT:=hZz hct;have HPW:=hZz hpw;have HMX:=hZz hmx;have hLs:L.length+(i+1 - s)≤5000:=hl0;have HLS:=hZz hLs;have HSI:=hZz hsi;have HGF:=hZz hgFl
 have HKV:Hid (∀ wx,Below w.heap.size w wx→SlAt wx kA 1 strCs n.keys):=hZz (fun wx hb=>by
  obtain ⟨A,cap,e,_,hs⟩:=hkv;injection e with e1 _ _
  subst e1;exact hs.below (zaaZ hb hbl hbl.size))
 obtain ⟨N,hN⟩:∃ N,S.p.nodes.length=N:=⟨_,rfl⟩
 rw [hN] at y0 hi' hi hnl;obtain ⟨ln,hln⟩:∃ N,L.length=N:=⟨_,rfl⟩
 rw [hln] at y2 hl;obtain ⟨kn,hkn⟩:∃ N,n.keys.length=N:=⟨_,rfl⟩
 obtain ⟨im,him⟩:∃ N,n.kids.length=N:=⟨_,rfl⟩
 rw [hkn] at c3 hkl;rw [him] at c4 hkl;have HKN:=hZz hkn;obtain ⟨nk,hnk⟩:∃ N,n.kind=N:=⟨_,rfl⟩
 obtain ⟨nt,hnt⟩:∃ N,n.text=N:=⟨_,rfl⟩
 obtain ⟨ni,hni⟩:∃ N,n.int=N:=⟨_,rfl⟩
 rw [hnk] at c0;rw [hnt] at c1;rw [hni] at c2;obtain ⟨gN,hgN⟩:∃ g,w.heap.size=g:=⟨_,rfl⟩
 obtain ⟨W1,hW1⟩:∃ W,w.alloc (.cells #[.int .i64 nk,.string nt,.int .i64 ni,.slice kA kn kc,.slice iA im ic] 58)=W:=⟨_,rfl⟩
 have HX1:Hid (Blk W1 gN 58 #[.int .i64 nk,.string nt,.int .i64 ni,.slice kA kn kc,.slice iA im ic]):=hZz (by rw [← hW1,← hgN];exact Blk.new _ _ _);have hb1:Below w.heap.size w W1:=by rw [← hW1];exact zabZ _ _
 have HB1:=hZz hb1;have HW1:=hZz hW1;have HG:=hZz hgN;have hfo:=h.fo.below hb1;rw [hnv,hln,hN] at hfo;have HF1:=hZz hfo;clear hfo;have HIM:=hZz him;have HNK:=hZz hnk;have HNT:=hZz hnt;have HNI:=hZz hni;have HNN:=hZz hN;have HLN:=hZz hln;have HNVE:=hZz hnv;have HGN:=hZz hgN;have HLT1:Hid (w.heap.size<W1.heap.size):=hZz (by rw [← hW1];simp);clear hN hln hkn him hnk hnt hni hgN hW1 hb1 h hS hkv hiv hn hA hnv hold hgFl hnvl hcv hR hfn hfs hct hpw hmx hl0 hLs hat hf hkl0 hsi;go_enter func34,ntmps34
 go_upto_region 2 with fail
 rw [HG.out,HW1.out];clear HG HW1 c0 c1 c2 c3 c4 y0 y1 y2;obtain ⟨y0,y1,y2⟩:=blkF HF1.out;have x1:=zalZ HX1.out;go_upto_region 3 with fail
 clear y0 y1 y2;obtain ⟨i1,hj,hy0,hy1,hy2⟩:=info_parts Tryz.infoStrS;have HS1:Hid (∀ w',Below W1.heap.size W1 w'→w'.cell? ⟨gN,0,none⟩=some (.int .i64 nk)∧w'.cell? ⟨gN,1,none⟩=some (.string nt)∧w'.cell? ⟨gN,2,none⟩=some (.int .i64 ni)∧w'.cell? ⟨gN,3,none⟩=some (.slice kA kn kc)):=hZz (fun w' hb=>four_n (HX1.out.below hb));have HB_0:=hZz (zadZ W1);clear x1;go_cut [7] from 29 to 38 (fun u wx=>OutCut W1 wx ⟨nk,nt,ni,n.keys,[]⟩ u)
 case first =>
  by_cases q0:kn=0
  ·have HK0:Hid (n.keys=[]):=hZz (by have h9:=HKN.out;rw [q0] at h9;exact List.length_eq_zero_iff.1 h9)
   subst q0;refine wp_region_held_drew (S:=fun w'=>w'.cell? ⟨gN,0,none⟩=some (.int .i64 nk)∧w'.cell? ⟨gN,1,none⟩=some (.string nt)∧w'.cell? ⟨gN,2,none⟩=some (.int .i64 ni)∧w'.cell? ⟨gN,3,none⟩=some (.slice kA 0 kc)) (by kernel_rfl) (HS1.out _ HB_0.out) (fun hHeld=>?_)
   obtain ⟨WD,hWD⟩:∃ W,W1.drew=W:=⟨_,rfl⟩
   rw [hWD] at HB_0 hHeld ⊢;clear hWD;refine tkZ (i:=0) (v:=.pointer (some ⟨gN,0,none⟩)) rfl ?_
   simp only [nz,Act.put];refine tkZ (i:=1) (v:=.int .i64 nk) rfl ?_
   simp only [nz,Act.put];refine tkZ (i:=2) (v:=.pointer (some ⟨gN,1,none⟩)) rfl ?_
   simp only [nz,Act.put];refine tkZ (i:=3) (v:=.string nt) rfl ?_
   simp only [nz,Act.put];refine tkZ (i:=4) (v:=.pointer (some ⟨gN,2,none⟩)) rfl ?_
   simp only [nz,Act.put];refine tkZ (i:=5) (v:=.int .i64 ni) rfl ?_
   simp only [nz,Act.put];refine tkZ (i:=6) (v:=.pointer (some ⟨gN,3,none⟩)) rfl ?_
   simp only [nz,Act.put];refine tkZ (i:=7) (v:=.slice kA 0 kc) rfl ?_
   simp only [nz,Act.put];refine wpAnyH_ready (rs:=[8,10]) (by kernel_rfl) (by simp) ?_
   refine AllReadyH.cons (o:=_) rfl (fun K hK=>?_) ?_
   ·simp only [List.getElem_toArray,List.getElem_cons_succ,List.getElem_cons_zero]
    rw [if_pos (by rfl)];refine zazY (.const (.slice none 0 0)) (.tmp 36) 40 rfl 9 i1 1 underlying40 hj hy1 _ _ 0 0 _ rfl rfl (Nat.le_refl _) ?_
    refine hK.out _ _ (HS1.out _ HB_0.out) (fun hHeld=>?_)
    clear hK K
    try simp only [nz,Act.put]
    refine tkZ (i:=9) (v:=.agg #[.int .i64 nk,.string nt,.int .i64 ni,.slice none 0 0,.slice none 0 0]) rfl ?_
    simp only [nz,Act.put];refine wpAnyH_ready (rs:=[10]) (by kernel_rfl) (by simp) ?_
    refine AllReadyH.cons (o:=_) rfl (fun K hK=>?_) AllReadyH.nil
    go_simp;have HB_aq2:=hZz (HB_0.out.alloc HB_0.out.size (.cells #[.int .i64 0,.string ⟨#[]⟩,.int .i64 0,.slice none 0 0,.slice none 0 0] 58));have HM_aq2:=hZz (Blk.new WD 58 #[.int .i64 0,.string ⟨#[]⟩,.int .i64 0,.slice none 0 0,.slice none 0 0]);refine hK.out _ _ (HS1.out _ HB_aq2.out) (fun hHeld=>?_)
    clear hK K
    try simp only [nz,Act.put]
    obtain ⟨gq3,hgq3⟩:∃ g,WD.heap.size=g:=⟨_,rfl⟩
    have Hgq3:=hZz hgq3;have HGE_gq3:Hid (W1.heap.size≤gq3):=hZz (by rw [← Hgq3.out];exact HB_0.out.size);obtain ⟨Wq4,hWq4⟩:∃ W,WD.alloc (.cells #[.int .i64 0,.string ⟨#[]⟩,.int .i64 0,.slice none 0 0,.slice none 0 0] 58)=W:=⟨_,rfl⟩
    rw [hWq4] at HB_aq2 HM_aq2 hHeld ⊢;rw [hgq3] at HM_aq2
    try rw [hgq3]
    clear hWq4 hgq3;refine wpAnyH_ready (rs:=[11]) (by kernel_rfl) (by simp) ?_
    refine AllReadyH.cons (o:=_) rfl (fun K hK=>?_) AllReadyH.nil
    simp only [List.getElem_toArray,List.getElem_cons_succ,List.getElem_cons_zero];rw [if_pos (by rfl)];refine wp_store_row _ _ _ rfl gq3 #[.int .i64 nk,.string nt,.int .i64 ni,.slice none 0 0,.slice none 0 0] rfl rfl 58 _ HM_aq2.out (by kernel_rfl) rfl (by simp [Value.oneCell']) ?_
    have HB_sq5:=hZz (below_setRow HB_aq2.out HGE_gq3.out #[.int .i64 nk,.string nt,.int .i64 ni,.slice none 0 0,.slice none 0 0]);have HM_sq5:=hZz (HM_aq2.out.setRow (cs':=#[.int .i64 nk,.string nt,.int .i64 ni,.slice none 0 0,.slice none 0 0]));refine hK.out _ _ (HS1.out _ HB_sq5.out) (fun hHeld=>?_)
    clear hK K
    try simp only [nz,Act.put]
    refine wpAnyH_done (by kernel_rfl) ?_ _
    try dsimp only [List.getElem_toArray,List.getElem_cons_succ,List.getElem_cons_zero,Act.put]
    go_wp2_with fail;go_meet
    exact ⟨gq3,none,0,rfl,HB_sq5.out,HGE_gq3.out,by rw [HK0.out];exact HM_sq5.out,by rw [HK0.out];exact ⟨rfl,.inl ⟨rfl,rfl⟩⟩⟩
   refine AllReadyH.cons (o:=_) rfl (fun K hK=>?_) AllReadyH.nil
   go_simp;have HB_aq6:=hZz (HB_0.out.alloc HB_0.out.size (.cells #[.int .i64 0,.string ⟨#[]⟩,.int .i64 0,.slice none 0 0,.slice none 0 0] 58));have HM_aq6:=hZz (Blk.new WD 58 #[.int .i64 0,.string ⟨#[]⟩,.int .i64 0,.slice none 0 0,.slice none 0 0]);refine hK.out _ _ (HS1.out _ HB_aq6.out) (fun hHeld=>?_)
   clear hK K
   try simp only [nz,Act.put]
   obtain ⟨gq7,hgq7⟩:∃ g,WD.heap.size=g:=⟨_,rfl⟩
   have Hgq7:=hZz hgq7;have HGE_gq7:Hid (W1.heap.size≤gq7):=hZz (by rw [← Hgq7.out];exact HB_0.out.size);obtain ⟨Wq8,hWq8⟩:∃ W,WD.alloc (.cells #[.int .i64 0,.string ⟨#[]⟩,.int .i64 0,.slice none 0 0,.slice none 0 0] 58)=W:=⟨_,rfl⟩
   rw [hWq8] at HB_aq6 HM_aq6 hHeld ⊢;rw [hgq7] at HM_aq6
   try rw [hgq7]
   clear hWq8 hgq7;refine wpAnyH_ready (rs:=[8]) (by kernel_rfl) (by simp) ?_
   refine AllReadyH.cons (o:=_) rfl (fun K hK=>?_) AllReadyH.nil
   simp only [List.getElem_toArray,List.getElem_cons_succ,List.getElem_cons_zero];rw [if_pos (by rfl)];refine zazY (.const (.slice none 0 0)) (.tmp 36) 40 rfl 9 i1 1 underlying40 hj hy1 _ _ 0 0 _ rfl rfl (Nat.le_refl _) ?_
   refine hK.out _ _ (HS1.out _ HB_aq6.out) (fun hHeld=>?_)
   clear hK K
   try simp only [nz,Act.put]
   refine tkZ (i:=9) (v:=.agg #[.int .i64 nk,.string nt,.int .i64 ni,.slice none 0 0,.slice none 0 0]) rfl ?_
   simp only [nz,Act.put];refine wpAnyH_ready (rs:=[11]) (by kernel_rfl) (by simp) ?_
   refine AllReadyH.cons (o:=_) rfl (fun K hK=>?_) AllReadyH.nil
   simp only [List.getElem_toArray,List.getElem_cons_succ,List.getElem_cons_zero];rw [if_pos (by rfl)];refine wp_store_row _ _ _ rfl gq7 #[.int .i64 nk,.string nt,.int .i64 ni,.slice none 0 0,.slice none 0 0] rfl rfl 58 _ HM_aq6.out (by kernel_rfl) rfl (by simp [Value.oneCell']) ?_
   have HB_sq10:=hZz (below_setRow HB_aq6.out HGE_gq7.out #[.int .i64 nk,.string nt,.int .i64 ni,.slice none 0 0,.slice none 0 0]);have HM_sq10:=hZz (HM_aq6.out.setRow (cs':=#[.int .i64 nk,.string nt,.int .i64 ni,.slice none 0 0,.slice none 0 0]));refine hK.out _ _ (HS1.out _ HB_sq10.out) (fun hHeld=>?_)
   clear hK K
   try simp only [nz,Act.put]
   refine wpAnyH_done (by kernel_rfl) ?_ _
   try dsimp only [List.getElem_toArray,List.getElem_cons_succ,List.getElem_cons_zero,Act.put]
   go_wp2_with fail;go_meet
   exact ⟨gq7,none,0,rfl,HB_sq10.out,HGE_gq7.out,by rw [HK0.out];exact HM_sq10.out,by rw [HK0.out];exact ⟨rfl,.inl ⟨rfl,rfl⟩⟩⟩
  ·have hq0:0<kn:=by omega
   obtain ⟨kb,ko,hkb,_⟩:=(HKV.out w (Below.refl _ _)).ptr (n:=0) (by rw [HKN.out];omega);subst hkb
   have HNW:Hid (∀ wx,Below W1.heap.size W1 wx→∀ j u,(n.keys.map Value.string)[j]? = some u→wx.cell? ((⟨kb,ko,none⟩:Addr).add j)=some u):=hZz (fun wx hbx j u hj=>by
    rw [List.getElem?_map] at hj;cases hl:n.keys[j]? with
    | none=>rw [hl] at hj;cases hj
    | some k =>
     rw [hl] at hj;injection hj with hj
     subst hj;obtain ⟨hjl,hje⟩:=List.getElem?_eq_some_iff.1 hl
     have:=(HKV.out wx (zaaZ hbx HB1.out HB1.out.size)).cell0 hjl (v:=.string n.keys[j]) rfl
     rw [hje] at this;rw [zayY];simpa using this)
   have HLQ:Hid ((n.keys.map Value.string).length=kn * 1):=hZz (by rw [List.length_map,HKN.out];omega)
   have HON:Hid (∀ u∈n.keys.map Value.string,u.oneCell'=true):=hZz (fun u hu=>by
    obtain ⟨k,_,rfl⟩:=List.mem_map.1 hu;rfl)
   refine wp_region_held_drew (S:=fun w'=>w'.cell? ⟨gN,0,none⟩=some (.int .i64 nk)∧w'.cell? ⟨gN,1,none⟩=some (.string nt)∧w'.cell? ⟨gN,2,none⟩=some (.int .i64 ni)∧w'.cell? ⟨gN,3,none⟩=some (.slice (some ⟨kb,ko,none⟩) kn kc)) (by kernel_rfl) (HS1.out _ HB_0.out) (fun hHeld=>?_)
   obtain ⟨WD,hWD⟩:∃ W,W1.drew=W:=⟨_,rfl⟩
   rw [hWD] at HB_0 hHeld ⊢;clear hWD q0;refine tkZ (i:=0) (v:=.pointer (some ⟨gN,0,none⟩)) rfl ?_
   simp only [nz,Act.put];refine tkZ (i:=1) (v:=.int .i64 nk) rfl ?_
   simp only [nz,Act.put];refine tkZ (i:=2) (v:=.pointer (some ⟨gN,1,none⟩)) rfl ?_
   simp only [nz,Act.put];refine tkZ (i:=3) (v:=.string nt) rfl ?_
   simp only [nz,Act.put];refine tkZ (i:=4) (v:=.pointer (some ⟨gN,2,none⟩)) rfl ?_
   simp only [nz,Act.put];refine tkZ (i:=5) (v:=.int .i64 ni) rfl ?_
   simp only [nz,Act.put];refine tkZ (i:=6) (v:=.pointer (some ⟨gN,3,none⟩)) rfl ?_
   simp only [nz,Act.put];refine tkZ (i:=7) (v:=.slice (some ⟨kb,ko,none⟩) kn kc) rfl ?_
   simp only [nz,Act.put];refine wpAnyH_ready (rs:=[8,10]) (by kernel_rfl) (by simp) ?_
   refine AllReadyH.cons (o:=_) rfl (fun K hK=>?_) ?_
   ·simp only [List.getElem_toArray,List.getElem_cons_succ,List.getElem_cons_zero]
    rw [if_pos (by rfl)];refine wp_append_lies _ (.const (.slice none 0 0)) (.tmp 36) 40 rfl W1.heap.size 9 i1 _ 1 16 underlying40 hj hy0 hy1 hy2 rfl (by decide) (.slice none 0 0) 0 [] rfl ⟨rfl,.inl ⟨rfl,rfl⟩⟩ ⟨kb,ko,none⟩ kn kc (n.keys.map Value.string) rfl HLQ.out (HNW.out _ HB_0.out) HON.out hq0 (by unfold maxLen;omega) (by omega) HB_0.out.size _ rfl ?_
    intro gq12 cq13 Wq14 hown hgr hat hlt;have hb6:=za0Y hgr;simp only [Nat.zero_add,List.nil_append] at hown ⊢;have HO_pq11:=hZz hown;have HB_pq11:=hZz (zaaZ hb6 HB_0.out HB_0.out.size);clear hown hgr hat hb6;refine hK.out _ _ (HS1.out _ HB_pq11.out) (fun hHeld=>?_)
    clear hK K
    try simp only [nz,Act.put]
    refine tkZ (i:=9) (v:=.agg #[.int .i64 nk,.string nt,.int .i64 ni,.slice (some ⟨gq12,0,none⟩) kn cq13,.slice none 0 0]) rfl ?_
    simp only [nz,Act.put];refine wpAnyH_ready (rs:=[10]) (by kernel_rfl) (by simp) ?_
    refine AllReadyH.cons (o:=_) rfl (fun K hK=>?_) AllReadyH.nil
    go_simp;have HO_aq15:=hZz (zagZ HO_pq11.out (zabZ Wq14 (.cells #[.int .i64 0,.string ⟨#[]⟩,.int .i64 0,.slice none 0 0,.slice none 0 0] 58)));have HB_aq15:=hZz (HB_pq11.out.alloc HB_pq11.out.size (.cells #[.int .i64 0,.string ⟨#[]⟩,.int .i64 0,.slice none 0 0,.slice none 0 0] 58));have HM_aq15:=hZz (Blk.new Wq14 58 #[.int .i64 0,.string ⟨#[]⟩,.int .i64 0,.slice none 0 0,.slice none 0 0]);refine hK.out _ _ (HS1.out _ HB_aq15.out) (fun hHeld=>?_)
    clear hK K
    try simp only [nz,Act.put]
    obtain ⟨gq16,hgq16⟩:∃ g,Wq14.heap.size=g:=⟨_,rfl⟩
    have Hgq16:=hZz hgq16;have HGE_gq16:Hid (W1.heap.size≤gq16):=hZz (by rw [← Hgq16.out];exact HB_pq11.out.size);obtain ⟨Wq17,hWq17⟩:∃ W,Wq14.alloc (.cells #[.int .i64 0,.string ⟨#[]⟩,.int .i64 0,.slice none 0 0,.slice none 0 0] 58)=W:=⟨_,rfl⟩
    rw [hWq17] at HO_aq15 HB_aq15 HM_aq15 hHeld ⊢;rw [hgq16] at HM_aq15
    try rw [hgq16]
    clear hWq17 hgq16;refine wpAnyH_ready (rs:=[11]) (by kernel_rfl) (by simp) ?_
    refine AllReadyH.cons (o:=_) rfl (fun K hK=>?_) AllReadyH.nil
    simp only [List.getElem_toArray,List.getElem_cons_succ,List.getElem_cons_zero];rw [if_pos (by rfl)];refine wp_store_row _ _ _ rfl gq16 #[.int .i64 nk,.string nt,.int .i64 ni,.slice (some ⟨gq12,0,none⟩) kn cq13,.slice none 0 0] rfl rfl 58 _ HM_aq15.out (by kernel_rfl) rfl (by simp [Value.oneCell']) ?_
    have HB_sq18:=hZz (below_setRow HB_aq15.out HGE_gq16.out #[.int .i64 nk,.string nt,.int .i64 ni,.slice (some ⟨gq12,0,none⟩) kn cq13,.slice none 0 0]);have HM_sq18:=hZz (HM_aq15.out.setRow (cs':=#[.int .i64 nk,.string nt,.int .i64 ni,.slice (some ⟨gq12,0,none⟩) kn cq13,.slice none 0 0]));have HO_sq18:=hZz (own_rowfar (cs':=#[.int .i64 nk,.string nt,.int .i64 ni,.slice (some ⟨gq12,0,none⟩) kn cq13,.slice none 0 0]) HO_aq15.out HM_aq15.out (by decide));refine hK.out _ _ (HS1.out _ HB_sq18.out) (fun hHeld=>?_)
    clear hK K
    try simp only [nz,Act.put]
    refine wpAnyH_done (by kernel_rfl) ?_ _
    try dsimp only [List.getElem_toArray,List.getElem_cons_succ,List.getElem_cons_zero,Act.put]
    go_wp2_with fail;go_meet
    exact ⟨gq16,some ⟨gq12,0,none⟩,cq13,rfl,HB_sq18.out,HGE_gq16.out,by simp only [HKN.out];exact HM_sq18.out,by simp only [HKN.out];exact HO_sq18.out⟩
   refine AllReadyH.cons (o:=_) rfl (fun K hK=>?_) AllReadyH.nil
   go_simp;have HB_aq19:=hZz (HB_0.out.alloc HB_0.out.size (.cells #[.int .i64 0,.string ⟨#[]⟩,.int .i64 0,.slice none 0 0,.slice none 0 0] 58));have HM_aq19:=hZz (Blk.new WD 58 #[.int .i64 0,.string ⟨#[]⟩,.int .i64 0,.slice none 0 0,.slice none 0 0]);refine hK.out _ _ (HS1.out _ HB_aq19.out) (fun hHeld=>?_)
   clear hK K
   try simp only [nz,Act.put]
   obtain ⟨gq20,hgq20⟩:∃ g,WD.heap.size=g:=⟨_,rfl⟩
   have Hgq20:=hZz hgq20;have HGE_gq20:Hid (W1.heap.size≤gq20):=hZz (by rw [← Hgq20.out];exact HB_0.out.size);obtain ⟨Wq21,hWq21⟩:∃ W,WD.alloc (.cells #[.int .i64 0,.string ⟨#[]⟩,.int .i64 0,.slice none 0 0,.slice none 0 0] 58)=W:=⟨_,rfl⟩
   rw [hWq21] at HB_aq19 HM_aq19 hHeld ⊢;rw [hgq20] at HM_aq19
   try rw [hgq20]
   clear hWq21 hgq20;refine wpAnyH_ready (rs:=[8]) (by kernel_rfl) (by simp) ?_
   refine AllReadyH.cons (o:=_) rfl (fun K hK=>?_) AllReadyH.nil
   simp only [List.getElem_toArray,List.getElem_cons_succ,List.getElem_cons_zero];rw [if_pos (by rfl)];refine wp_append_lies _ (.const (.slice none 0 0)) (.tmp 36) 40 rfl W1.heap.size 9 i1 _ 1 16 underlying40 hj hy0 hy1 hy2 rfl (by decide) (.slice none 0 0) 0 [] rfl ⟨rfl,.inl ⟨rfl,rfl⟩⟩ ⟨kb,ko,none⟩ kn kc (n.keys.map Value.string) rfl HLQ.out (HNW.out _ HB_aq19.out) HON.out hq0 (by unfold maxLen;omega) (by omega) HB_aq19.out.size _ rfl ?_
   intro gq23 cq24 Wq25 hown hgr hat hlt;have hb6:=za0Y hgr;simp only [Nat.zero_add,List.nil_append] at hown ⊢;have HO_pq22:=hZz hown;have HB_pq22:=hZz (zaaZ hb6 HB_aq19.out HB_aq19.out.size);have HM_pq22:=hZz (HM_aq19.out.below hb6);clear hown hgr hat hb6;refine hK.out _ _ (HS1.out _ HB_pq22.out) (fun hHeld=>?_)
   clear hK K
   try simp only [nz,Act.put]
   refine tkZ (i:=9) (v:=.agg #[.int .i64 nk,.string nt,.int .i64 ni,.slice (some ⟨gq23,0,none⟩) kn cq24,.slice none 0 0]) rfl ?_
   simp only [nz,Act.put];refine wpAnyH_ready (rs:=[11]) (by kernel_rfl) (by simp) ?_
   refine AllReadyH.cons (o:=_) rfl (fun K hK=>?_) AllReadyH.nil
   simp only [List.getElem_toArray,List.getElem_cons_succ,List.getElem_cons_zero];rw [if_pos (by rfl)];refine wp_store_row _ _ _ rfl gq20 #[.int .i64 nk,.string nt,.int .i64 ni,.slice (some ⟨gq23,0,none⟩) kn cq24,.slice none 0 0] rfl rfl 58 _ HM_pq22.out (by kernel_rfl) rfl (by simp [Value.oneCell']) ?_
   have HB_sq26:=hZz (below_setRow HB_pq22.out HGE_gq20.out #[.int .i64 nk,.string nt,.int .i64 ni,.slice (some ⟨gq23,0,none⟩) kn cq24,.slice none 0 0]);have HM_sq26:=hZz (HM_pq22.out.setRow (cs':=#[.int .i64 nk,.string nt,.int .i64 ni,.slice (some ⟨gq23,0,none⟩) kn cq24,.slice none 0 0]));have HO_sq26:=hZz (own_rowfar (cs':=#[.int .i64 nk,.string nt,.int .i64 ni,.slice (some ⟨gq23,0,none⟩) kn cq24,.slice none 0 0]) HO_pq22.out HM_pq22.out (by decide));refine hK.out _ _ (HS1.out _ HB_sq26.out) (fun hHeld=>?_)
   clear hK K
   try simp only [nz,Act.put]
   refine wpAnyH_done (by kernel_rfl) ?_ _
   try dsimp only [List.getElem_toArray,List.getElem_cons_succ,List.getElem_cons_zero,Act.put]
   go_wp2_with fail;go_meet
   exact ⟨gq20,some ⟨gq23,0,none⟩,cq24,rfl,HB_sq26.out,HGE_gq20.out,by simp only [HKN.out];exact HM_sq26.out,by simp only [HKN.out];exact HO_sq26.out⟩
 case rest =>
  obtain ⟨gO,kO,kOc,rfl,hbc,hge,hbk,hown⟩:=hcut;have hbw:=zaaZ hbc HB1.out HB1.out.size;have HN0:Hid (n=⟨nk,nt,ni,n.keys,n.kids⟩):=hZz (by rw [← HNK.out,← HNT.out,← HNI.out])
  have HC0:Hid (FLc w0 w wc S gF gN gO nv nv L [] n #[.int .i64 nk,.string nt,.int .i64 ni,.slice kA kn kc,.slice iA im ic] (.slice kO kn kOc) [] [] (.slice none 0 0) (.slice none 0 0) []):=hZz (by
   have e1:(⟨nk,nt,ni,n.keys,[]⟩:NodeD).keys.length=kn:=HKN.out;simp only [e1] at hbk hown;refine ⟨by rw [List.append_nil];exact HH.out.below hbw,KF.of_below hbw _ _,(fun p hp=>by cases hp),HX1.out.below hbc,?_,?_,⟨rfl,.inl ⟨rfl,rfl⟩⟩,(fun p hp=>by cases hp),⟨rfl,.inl ⟨rfl,rfl⟩⟩,(fun i hi=>by cases hi),?_,?_,?_,?_,?_,HOLD.out,HGF.out⟩
   ·rw [HNK.out,HNT.out,HNI.out];exact hbk
   ·rw [HKN.out];exact zahY hown (Nat.le_of_lt HLT1.out)
   ·rw [HGN.out];exact Nat.le_refl _
   ·exact Nat.le_trans (Nat.le_of_lt HLT1.out) hge
   ·have:=HX1.out.lt;omega
   ·intro e;have:=HNVL.out _ e;have:=HGN.out;omega
   ·intro e;have:=HNVL.out _ e;have:=HLT1.out;omega)
  have HXc:=hZz (HX1.out.below hbc);clear hbc hge hbk hown hbw HB_0;have x1:=zalZ HXc.out;go_upto_region 6 with (fail)
  try go_wp2_with (fail)
  have hnode:n.kids.length=im:=HIM.out;have HNODE:=hZz hnode;clear hnode x1 hi;go_loopw [8,10,11,12,13,42,43,44,45,46,47,48,49,50,51,52,53,54,55,56,57,58,59,60,61,62,63,64,65,66] (fun lv _ _ _ _ kv _ _ _ _ _ _ _ _ _ _ _ _ _ _ _ _ _ _ _ _ _ _ _ _ wr=>∃ (k:Nat) (nvk:Value) (N:List NodeX) (ks:List Int) (vs:List CellD) (kv2:Value) (lA:Option Addr) (lc vl:Nat) (lr:List Value),k≤im∧kv=.int .i64 k∧lv=.slice lA vl lc∧Hid (vs.length=vl∧vl≤k∧ks.length=k∧N.length≤i - s)∧Hid (foldK (foldF S.p f) (n.kids.take k) (L.map Prod.fst) [] []=((L ++ N).map Prod.fst,ks,vs))∧Hid (FLc w0 w wr S gF gN gO nv nvk L N n #[.int .i64 nk,.string nt,.int .i64 ni,.slice kA kn kc,.slice iA im ic] (.slice kO kn kOc) ks vs kv2 (.slice lA vl lc) lr)) (fun _ _ _ _ _ kv _ _ _ _ _ _ _ _ _ _ _ _ _ _ _ _ _ _ _ _ _ _ _ _ _=>im - (intOf kv).toNat)
  case atStart=>exact ⟨0,nv,[],[],[],.slice none 0 0,none,0,0,[],Nat.zero_le _,rfl,rfl,hZz ⟨rfl,Nat.le_refl _,rfl,Nat.zero_le _⟩,hZz (by simp [foldK]),HC0⟩
  case round =>
   obtain ⟨k,nvk,N,ks,vs,kv2,lA,lc,vl,lr,hk,rfl,rfl,HLL,HFK,HC⟩:=hrel;have hk0:(0:Int)≤(k:Int):=by omega
   by_cases hlt:k<im
   ·have hlt':(k:Int)<(im:Int):=by omega
    have hkk:k<n.kids.length:=by rw [HNODE.out];exact hlt
    obtain ⟨e',hce,hee,hnx⟩:=zdeY HCV.out k (by omega);obtain ⟨m,hm,hfm,hmi⟩:=hnx hkk;obtain ⟨tt,kx,vx,K⟩:=zbcY (fun i s h=>zauY S.p f i s h) hce (L.map Prod.fst);have hKe:=K.eq [] [];rw [HFK.out] at hKe;simp only [List.nil_append,Prod.mk.injEq] at hKe;obtain ⟨hK1,hK2,hK3⟩:=hKe
    have hNl:N.length≤e' - s:=by
     have h1:=congrArg List.length hK1;rw [List.length_map,List.length_append,List.length_append,List.length_map] at h1
     have:=K.len
     omega
    have hKs:=HLL.out.2.2.1;have hse:=hce.le';have hfe:=zaaY hfm;have hml:m<S.p.nodes.length:=by rw [HNN.out];omega
    have HCR:=hZz (HREC.out m e' hfm hml wr nvk (L ++ N) HC.out.st (by have:=HLS.out;rw [List.length_append];omega));have hsl:=HIV.out wr HC.out.st.bl;obtain ⟨b1,o1,hiA,_⟩:=hsl.ptr hkk;subst hiA;have d0:=hsl.cell0 hkk (v:=.int .i64 (m:Nat)) (by show [Value.int .i64 n.kids[k]][0]? = _;rw [hm];rfl);rw [Nat.mul_one] at d0;have HKS:=hZz hKs;have HM:=hZz hm;have HFM:=hZz hfm;have HNL:Hid (N.length≤e' - s∧s≤e'∧e'≤m):=hZz ⟨hNl,hse,hfe⟩;have HMI:=hZz hmi;have HVK:Hid (vl≤k):=hZz HLL.out.2.1;have HVL:Hid (vs.length=vl):=hZz HLL.out.1;clear hce hee hnx hm hfm hmi K hK1 hK2 hK3 hNl hKs hse hfe hml hsl
    go_upto_region 9 with (first
     | (go_at_call 34;(with_reducible refine HCR.out.mono ?_);rintro r w3 ⟨nv3,N2,j,rfl,hj,hst3,hR3,hk3,hp3⟩;have HJ:=hZz hj;have HR3:=hZz hR3;have HC3:=hZz (HC.out.rec_ (by rw [← List.append_assoc];exact hst3) hk3 hp3);clear hj hst3 hR3 hk3 hp3))
    clear d0;have hM3:(L ++ (N ++ N2)).map Prod.fst=foldF S.p f m ((L ++ N).map Prod.fst):=by rw [← List.append_assoc];exact HR3.out
    have hj3:j+1=(L ++ (N ++ N2)).length:=by rw [← List.append_assoc];exact HJ.out
    have hjl:j<(L ++ (N ++ N2)).length:=by omega
    obtain ⟨h8,hlast,hfl⟩:=last_h8 HFM.out hM3 hj3 hjl
    have hjb:j≤4999:=by
     obtain ⟨t,K⟩:=zauY S.p f m e' HFM.out ((L ++ N).map Prod.fst);have h1:=congrArg List.length K.eq;rw [hfl,List.length_append,List.length_map,List.length_append] at h1
     have:=K.len
     have:=HLS.out
     have:=HNL.out.1
     have:=HNL.out.2.1
     have:=HNL.out.2.2
     have:=HMI.out
     have:=HSI.out
     omega
    have HM3:=hZz hM3;have HFL:=hZz hfl;have HLA:=hZz hlast;have H8:=hZz h8;have HJL:=hZz hjl;clear hM3 hj3 h8 hlast hfl;have hkd:=HC3.out.kids;obtain ⟨qA,qc,rfl⟩:=zahZ hkd;rw [HKS.out] at HC3 hkd;obtain ⟨WA,hWA⟩:∃ WA,w3.alloc (.cells #[.int .i64 (j:Nat)] 3)=WA:=⟨_,rfl⟩
    have hbA:Below w3.heap.size w3 WA:=by rw [← hWA];exact zabZ _ _
    have HCA:=hZz (HC3.out.below hbA);have HOK:=hZz (zagZ hkd hbA);have HNW:Hid (∀ q u,[Value.int .i64 (j:Nat)][q]? = some u→WA.cell? ((⟨w3.heap.size,0,none⟩:Addr).add q)=some u):=hZz (by rw [← hWA];exact zadY w3 _ 3);have HSZ:Hid (w.heap.size≤WA.heap.size):=hZz HCA.out.size;have HBO:=hZz HCA.out.bo;have HWA:=hZz hWA;obtain ⟨q1,hj1,hy10,hy11,hy12⟩:=info_parts Tryz.infoIntS;clear hkd hWA hbA;have x3:=zalZ HC3.out.bo;have xA:=zalZ HBO.out;have hwA:=HWA.out;have hk5:k≤1000:=by omega
    go_upto_region 10 with (first
     | (at_builtin;refine wpList_append_lies _ rfl (.tmp 50) (.tmp 52) 56 rfl w.heap.size 3 q1 _ 1 8 underlying56 hj1 hy10 hy11 hy12 rfl (by decide) _ k _ rfl HOK.out ⟨w3.heap.size,0,none⟩ 1 1 [.int .i64 (j:Nat)] rfl rfl HNW.out (by simp [Value.oneCell']) (by decide) (by unfold maxLen;omega) (by omega) HSZ.out _ rfl ?_;intro g4 cap4 w4 hown4 hgr4 hat4 hlt4;have HB4:=hZz (HBO.out.grown hgr4 (zaeZ HOK.out HBO.out (by decide)));have x4:=zalZ HB4.out;have z4:=HB4.out.frozen 4;have HO4:=hZz hown4;have HG4:=hZz hgr4;have HA4:=hZz hat4;clear hown4 hgr4 hat4))
    clear hwA x3 xA
    have HC5:Hid (FLc w0 w (w4.setCell ⟨gO,4,none⟩ (.slice (some ⟨g4,0,none⟩) (k+1) cap4)) S gF gN gO nv nv3 L (N ++ N2) n #[.int .i64 nk,.string nt,.int .i64 ni,.slice kA kn kc,.slice (some ⟨b1,o1,none⟩) im ic] (.slice kO kn kOc) (ks ++ [(j:Int)]) vs (.slice (some ⟨g4,0,none⟩) (k+1) cap4) (.slice lA vl lc) lr):=hZz (by
     refine HCA.out.kid ?_ HG4.out (HA4.out.imp id (fun e=>by rw [e];rfl))
     rw [HKS.out];exact HO4.out)
    obtain ⟨W5,hW5⟩:∃ W,w4.setCell ⟨gO,4,none⟩ (.slice (some ⟨g4,0,none⟩) (k+1) cap4)=W:=⟨_,rfl⟩
    rw [hW5] at HC5;have HW5:=hZz hW5;clear hW5 x4 z4;rw [HW5.out];have HCN:=hZz (constant_s w0 W5 S gF nv3 (L ++ (N ++ N2)) HC5.out.st (by have:=HJL.out;have:=HM3.out;have h1:=congrArg List.length HM3.out;rw [HFL.out,List.length_map] at h1;omega) j HJL.out H8.out);rw [HM3.out,HLA.out] at HCN
    have HFK2:Hid (foldK (foldF S.p f) (n.kids.take (k+1)) (L.map Prod.fst) [] []=((L ++ (N ++ N2)).map Prod.fst,ks ++ [(j:Int)],vs ++ (constF (foldF S.p f m ((L ++ N).map Prod.fst)) ((foldF S.p f m ((L ++ N).map Prod.fst)).getD ((foldF S.p f m ((L ++ N).map Prod.fst)).length - 1) noNode)).toList)):=hZz (by
     rw [List.take_succ_eq_append_getElem hkk,zc7Y,HFK.out,HM.out,Int.toNat_natCast];simp only [];rw [HM3.out,HFL.out];congr 2
     have:(((j+1:Nat):Int) - 1)=(j:Int):=by omega
     rw [this])
    have HN2:Hid ((N ++ N2).length≤i - s):=hZz (by
     obtain ⟨t,K⟩:=zauY S.p f m e' HFM.out ((L ++ N).map Prod.fst);obtain ⟨e2,hc2,he2,_⟩:=zdeY HCV.out (k+1) (by omega);obtain ⟨tt2,kx2,vx2,K2⟩:=zbcY (fun i s h=>zauY S.p f i s h) hc2 (L.map Prod.fst);have h1:=K2.eq [] [];rw [HFK2.out] at h1;have h2:=congrArg (fun x=>x.1.length) h1;simp only [List.length_map,List.length_append] at h2
     have:=K2.len
     rw [List.length_append];omega)
    have HKS2:Hid ((ks ++ [(j:Int)]).length=k+1):=hZz (by rw [List.length_append,HKS.out];rfl)
    go_upto_region 11 with (first
     | (go_at_call 48;(with_reducible refine HCN.out.mono ?_);rintro r w6 ⟨hb6,hq⟩;have HC6:=hZz (HC5.out.below hb6);clear hb6;rcases hq with ⟨ho,rfl⟩ | ⟨c,g1,ho,rfl,hle1,hbl1⟩))
    ·have HO:=hZz ho
     clear ho;go_wp2_with (fail)
     refine ⟨⟨k+1,nv3,N ++ N2,ks ++ [(j:Int)],vs,_,lA,lc,vl,lr,by omega,by simp,rfl,hZz ⟨HVL.out,by have:=HVK.out;omega,HKS2.out,HN2.out⟩,hZz ?_,HC6⟩,by simp [intOf];omega⟩
     rw [HFK2.out,HO.out];simp
    ·have HO:=hZz ho
     have HG1:Hid (w.heap.size≤g1):=hZz (Nat.le_trans HC5.out.size hle1);obtain ⟨WB,hWB⟩:∃ WB,w6.alloc (.cells #[.slice (some ⟨g1,0,none⟩) 1 1] 96)=WB:=⟨_,rfl⟩
     have hbB:Below w6.heap.size w6 WB:=by rw [← hWB];exact zabZ _ _
     have HCB:=hZz (HC6.out.below hbB);have HB1':=hZz (hbl1.below hbB);have hvo:=HCB.out.vals;rw [HVL.out] at hvo;have HVO:=hZz hvo;have HNV:Hid (∀ q u,[Value.slice (some ⟨g1,0,none⟩) 1 1][q]? = some u→WB.cell? ((⟨w6.heap.size,0,none⟩:Addr).add q)=some u):=hZz (by rw [← hWB];exact zadY w6 _ 96);have HSB:Hid (w.heap.size≤WB.heap.size):=hZz HCB.out.size;have HWB:=hZz hWB;obtain ⟨p1,hp1,hp10,hp11,hp12⟩:=info_parts Tryz.infoVal;have hvk:=HVK.out;clear ho hle1 hbl1 hvo hWB hbB;have hwB:=HWB.out
     go_upto_region 13 with (first
      | (at_builtin;refine wpList_append_lies _ rfl (.tmp 62) (.tmp 64) 95 rfl w.heap.size 96 p1 _ 1 24 underlying95 hp1 hp10 hp11 hp12 rfl (by decide) _ vl _ rfl HVO.out ⟨w6.heap.size,0,none⟩ 1 1 [.slice (some ⟨g1,0,none⟩) 1 1] rfl rfl HNV.out (by simp [Value.oneCell']) (by decide) (by unfold maxLen;omega) (by omega) HSB.out _ rfl ?_;intro g7 cap7 w7 hown7 hgr7 hat7 hlt7;have HO7:=hZz hown7;have HG7:=hZz hgr7;clear hown7 hgr7 hat7))
     clear hwB hvk
     have HC7:Hid (FLc w0 w w7 S gF gN gO nv nv3 L (N ++ N2) n #[.int .i64 nk,.string nt,.int .i64 ni,.slice kA kn kc,.slice (some ⟨b1,o1,none⟩) im ic] (.slice kO kn kOc) (ks ++ [(j:Int)]) (vs ++ [c]) (.slice (some ⟨g4,0,none⟩) (k+1) cap4) (.slice (some ⟨g7,0,none⟩) (vl+1) cap7) (lr ++ [.slice (some ⟨g1,0,none⟩) 1 1])):=hZz (by
      refine HCB.out.val ?_ HG7.out HB1'.out HG1.out
      rw [HVL.out];exact HO7.out)
     go_wp2_with (fail)
     refine ⟨⟨k+1,nv3,N ++ N2,ks ++ [(j:Int)],vs ++ [c],_,some ⟨g7,0,none⟩,cap7,vl+1,_,by omega,by simp,rfl,hZz ⟨by rw [List.length_append,HVL.out];rfl,by have:=HVK.out;omega,HKS2.out,HN2.out⟩,hZz ?_,HC7⟩,by simp [intOf];omega⟩
     rw [HFK2.out,HO.out];rfl
   ·have e9:im=k:=by omega
    subst e9;have hfk:n.kids.take im=n.kids:=List.take_of_length_le (by rw [HNODE.out];exact Nat.le_refl _);have HFK3:Hid (foldK (foldF S.p f) n.kids (L.map Prod.fst) [] []=((L ++ N).map Prod.fst,ks,vs)):=hZz (by have:=HFK.out;rw [hfk] at this;exact this);have xN:=zalZ HC.out.bn;clear hfk;by_cases hop:(nk=8∨nk=9)∧vl=im
    ·obtain ⟨hopk,hvl⟩:=hop
     have hvl':im=vl:=hvl.symm;subst hvl';have HOPK:Hid (n.kind=8∨n.kind=9):=hZz (by rw [HNK.out];exact hopk);have HOK1:=hZz (op_kids HCT.out HOPK.out)
     have HCON:Hid (∀ x∈vs,ConC x):=hZz (by
      obtain ⟨t,kx,vx,K⟩:=zbcY (fun i s h=>zauY S.p f i s h) HCV.out (L.map Prod.fst);have h1:=K.eq [] [];rw [HFK3.out] at h1;simp only [List.nil_append,Prod.mk.injEq] at h1;rw [h1.2.2];exact K.con)
     have HVL:Hid (vs.length=im):=hZz HLL.out.1
     have hrowc:RowC wr lA lr vs:=by
      have hv:=HC.out.vals;refine ⟨by have:=hv.1;omega,SlAt.of_own (by rw [HVL.out] at hv;exact hv) (by simp) (fun _=>rfl) (by decide),fun i hi=>?_⟩
      obtain ⟨g,a,b,c⟩:=HC.out.vrow i hi;exact ⟨g,a,c⟩
     have hval:=value_s n kA iA kn kc im ic vs lA lr lc wr HOPK.out (by rw [HVL.out,← HNODE.out];exact HOK1.out.1) (fun h=>by rw [HVL.out,← HNODE.out];exact HOK1.out.2 h) (by rw [HVL.out];omega) HCON.out hrowc (HPW.out.below HC.out.st.bl) (HMX.out.below HC.out.st.bl);rw [HNK.out,HNT.out,HNI.out,HVL.out] at hval
     have hdec:(nk == 8)=true∨(nk == 8)=false∧(nk == 9)=true:=by
      by_cases h8:nk=8
      ·exact .inl (by simpa using h8)
      ·exact .inr ⟨by simpa using h8,by simpa using hopk.resolve_left h8⟩
     obtain ⟨ov,hov⟩:∃ o,valueF n vs=o:=⟨_,rfl⟩
     rw [hov] at hval;have HVAL:=hZz hval;have HOV:Hid (opVal n vs=ov):=hZz (by unfold opVal;rw [if_pos ⟨HOPK.out,by rw [HVL.out,HNODE.out]⟩];exact hov);have HVF:=hZz hov;clear hopk hvl hrowc hval hov;cases ov with
     | none =>
      have HFOLD:Hid (foldF S.p (f+1) i (L.map Prod.fst)=(L ++ N).map Prod.fst ++ [⟨n.kind,n.text,n.int,n.keys,ks⟩]):=hZz (HFN.out _ _ _ HFK3.out HOV.out);rcases hdec with h1 | ⟨h1,h2⟩
      all_goals
       go_upto_region 16 with (first
        | (go_at_call 49;((with_reducible refine HVAL.out.mono ?_);rintro r w8 ⟨hb8,A8,n8,cap8,b8,rfl,hb9,hc8⟩;have hb9':b8=false:=hb9;subst hb9';clear hb9;have HC8:=hZz (HC.out.below hb8);skip;clear hb8 hc8)))
       go_upto_region 19 with (fail)
       obtain ⟨w8,hw8,HC8⟩:=FLc.world HC8;subst hw8;clear xN
       try clear h2
       clear h1;have HCC:=HC8.out;obtain ⟨qA,qc,rfl⟩:=zahZ HCC.kids;obtain ⟨vA,vc,rfl⟩:=zahZ HCC.st.row;have hksl:ks.length=im:=HLL.out.2.2.1;have hbo:=HCC.bo;rw [HNK.out,HNT.out,HNI.out,hksl] at hbo;have hrow:=HCC.st.row;have hfo:=HCC.st.fo;obtain ⟨lk,hlk⟩:∃ x,(L ++ N).length=x:=⟨_,rfl⟩
       have hlkb:lk≤5000:=by
        have:=HLL.out.2.2.2
        have:=HLS.out
        rw [← hlk,List.length_append];omega
       rw [hlk] at hrow hfo;have HLK:=hZz hlk;have HKSL:=hZz hksl;obtain ⟨o9,ho9⟩:∃ o,Obj.cells #[.int .i64 nk,.string nt,.int .i64 ni,.slice kO kn kOc,.slice qA im qc] 58=o:=⟨_,rfl⟩
       have hbA:Below w8.heap.size w8 (w8.alloc o9).drew:=(zabZ w8 o9).drew;have HCA:=hZz (HCC.below hbA);have HOW:=hZz (zagZ hrow hbA);have HNW:Hid (∀ q u,[Value.int .i64 nk,.string nt,.int .i64 ni,.slice kO kn kOc,.slice qA im qc][q]? = some u→(w8.alloc o9).drew.cell? ((⟨w8.heap.size,0,none⟩:Addr).add q)=some u):=hZz (by rw [← ho9];exact zadY w8 _ 58);have HSZ:Hid (w0.heap.size≤(w8.alloc o9).drew.heap.size):=hZz (Nat.le_trans HCC.st.bl.size hbA.size);have HBA:=hZz (hbo.below hbA);have HFA:=hZz (hfo.below hbA);have HSd:Hid (Blk w8.drew gO 58 #[.int .i64 nk,.string nt,.int .i64 ni,.slice kO kn kOc,.slice qA im qc]):=hZz hbo;have HNOO:Hid (some gO≠(Value.slice vA (L ++ N).length vc).ownBlock):=hZz (fun e=>HCC.nO e.symm);have HOF:Hid (gO≠gF):=hZz (by have:=HCC.geO;have:=HCC.ltF;omega);rw [← ho9] at HCA HOW HNW HSZ HBA HFA;rw [hlk] at HNOO;obtain ⟨i9,hj9,hy90,hy91,hy92⟩:=info_parts Tryz.infoNode;obtain ⟨y0,y1,y2⟩:=blkF hfo;obtain ⟨ya0,ya1,ya2⟩:=blkF HFA.out;clear HCC hksl hbo hrow hfo hlk hbA ho9;refine wp_region_held_drew (S:=(fun w'=>w'.cell? ⟨gO,0,none⟩=some (.int .i64 nk)∧w'.cell? ⟨gO,1,none⟩=some (.string nt)∧w'.cell? ⟨gO,2,none⟩=some (.int .i64 ni)∧w'.cell? ⟨gO,3,none⟩=some (.slice kO kn kOc)∧w'.cell? ⟨gO,4,none⟩=some (.slice qA im qc))) (by kernel_rfl) (by (first | exact zalZ HSd.out | exact zalZ HBA.out | exact zalZ HB9.out | exact zalZ (HB9s.out _))) (fun hHeld=>?_)
       refine tkZ (i:=0) (v:=.pointer (some ⟨gF,0,none⟩)) rfl ?_
       simp only [nz,Act.put];refine tkZ (i:=1) (v:=.pointer (some ⟨gF,0,none⟩)) rfl ?_
       simp only [nz,Act.put];refine tkZ (i:=2) (v:=.pointer (some ⟨gF,0,none⟩)) rfl ?_
       simp only [nz,Act.put];refine tkZ (i:=3) (v:=.pointer (some ⟨gF,2,none⟩)) rfl ?_
       simp only [nz,Act.put];refine tkZ (i:=5) (v:=.agg #[.int .i64 nk,.string nt,.int .i64 ni,.slice kO kn kOc,.slice qA im qc]) rfl ?_
       simp only [nz,Act.put];refine wpAnyH_ready (rs:=[4,6]) (by kernel_rfl) (by simp) ?_
       refine AllReadyH.cons (o:=_) rfl (fun K hK=>?_) ?_
       focus
        go_simp;refine hK.out _ _ (by (try dsimp only);(first | exact zalZ HSd.out | exact zalZ HBA.out | exact zalZ HB9.out | exact zalZ (HB9s.out _))) (fun hHeld=>?_)
        clear hK K
        try simp only [nz,Act.put]
        refine wpAnyH_ready (rs:=[6]) (by kernel_rfl) (by simp) ?_
        refine AllReadyH.cons (o:=_) rfl (fun K hK=>?_) AllReadyH.nil
        go_simp;refine hK.out _ _ (by (try dsimp only);(first | exact zalZ HSd.out | exact zalZ HBA.out | exact zalZ HB9.out | exact zalZ (HB9s.out _))) (fun hHeld=>?_)
        clear hK K
        try simp only [nz,Act.put]
        refine wpAnyH_ready (rs:=[7]) (by kernel_rfl) (by simp) ?_
        refine AllReadyH.cons (o:=_) rfl (fun K hK=>?_) AllReadyH.nil
        try simp only [List.getElem_toArray,List.getElem_cons_succ,List.getElem_cons_zero]
        (rw [if_pos (by rfl)];refine wp_append_lies _ (.tmp 115) (.tmp 117) 22 rfl w0.heap.size 58 i9 _ 5 80 underlying22 hj9 hy90 hy91 hy92 rfl (by decide) _ lk _ rfl HOW.out ⟨w8.heap.size,0,none⟩ 1 1 [.int .i64 nk,.string nt,.int .i64 ni,.slice kO kn kOc,.slice qA im qc] ?k7 rfl HNW.out (by simp [Value.oneCell']) (by decide) (by unfold maxLen;omega) (by omega) HSZ.out _ rfl ?_;(case k7=>first | rfl | simp);intro g9 cap9 w9 hown9 hgr9 hat9 hlt9;have HB9:=hZz (HBA.out.grown hgr9 HNOO.out);have HB9s:Hid (∀ u,Blk (w9.setCell ⟨gF,2,none⟩ u) gO 58 #[.int .i64 nk,.string nt,.int .i64 ni,.slice kO kn kOc,.slice qA im qc]):=hZz (fun u=>HB9.out.far (p:=⟨gF,2,none⟩) HOF.out u);have HF9:=hZz (HFA.out.grown hgr9 (zaeZ HOW.out HFA.out (by decide)));obtain ⟨f0,f1,f2⟩:=blkF HF9.out;have z9:=HF9.out.frozen 2;have HO9:=hZz hown9;have HG9:Hid ((w8.alloc (.cells #[.int .i64 nk,.string nt,.int .i64 ni,.slice kO kn kOc,.slice qA im qc] 58)).drew.grownBy w9 (Value.slice vA lk vc).ownBlock):=hZz hgr9;have HA9:Hid ((Value.slice vA lk vc).ownBlock=some g9∨g9=(w8.alloc (.cells #[.int .i64 nk,.string nt,.int .i64 ni,.slice kO kn kOc,.slice qA im qc] 58)).drew.heap.size):=hZz hat9;clear hown9 hgr9 hat9)
        refine hK.out _ _ (by (try dsimp only);(first | exact zalZ HSd.out | exact zalZ HBA.out | exact zalZ HB9.out | exact zalZ (HB9s.out _))) (fun hHeld=>?_)
        clear hK K
        try simp only [nz,Act.put]
        refine tkZ (i:=8) (v:=.pointer (some ⟨gF,0,none⟩)) rfl ?_
        simp only [nz,Act.put];refine tkZ (i:=9) (v:=.pointer (some ⟨gF,2,none⟩)) rfl ?_
        simp only [nz,Act.put];refine wpAnyH_ready (rs:=[10]) (by kernel_rfl) (by simp) ?_
        refine AllReadyH.cons (o:=_) rfl (fun K hK=>?_) AllReadyH.nil
        go_simp;refine hK.out _ _ (by (try dsimp only);(first | exact zalZ HSd.out | exact zalZ HBA.out | exact zalZ HB9.out | exact zalZ (HB9s.out _))) (fun hHeld=>?_)
        clear hK K
        try simp only [nz,Act.put]
        refine wpAnyH_done (by kernel_rfl) ?_ _
        try dsimp only [List.getElem_toArray,List.getElem_cons_succ,List.getElem_cons_zero,Act.put]
       rotate_left 1;refine AllReadyH.cons (o:=_) rfl (fun K hK=>?_) AllReadyH.nil
       go_simp;refine hK.out _ _ (by (try dsimp only);(first | exact zalZ HSd.out | exact zalZ HBA.out | exact zalZ HB9.out | exact zalZ (HB9s.out _))) (fun hHeld=>?_)
       clear hK K
       try simp only [nz,Act.put]
       refine wpAnyH_ready (rs:=[4]) (by kernel_rfl) (by simp) ?_
       refine AllReadyH.cons (o:=_) rfl (fun K hK=>?_) AllReadyH.nil
       go_simp;refine hK.out _ _ (by (try dsimp only);(first | exact zalZ HSd.out | exact zalZ HBA.out | exact zalZ HB9.out | exact zalZ (HB9s.out _))) (fun hHeld=>?_)
       clear hK K
       try simp only [nz,Act.put]
       refine wpAnyH_ready (rs:=[7]) (by kernel_rfl) (by simp) ?_
       refine AllReadyH.cons (o:=_) rfl (fun K hK=>?_) AllReadyH.nil
       try simp only [List.getElem_toArray,List.getElem_cons_succ,List.getElem_cons_zero]
       (rw [if_pos (by rfl)];refine wp_append_lies _ (.tmp 115) (.tmp 117) 22 rfl w0.heap.size 58 i9 _ 5 80 underlying22 hj9 hy90 hy91 hy92 rfl (by decide) _ lk _ rfl HOW.out ⟨w8.heap.size,0,none⟩ 1 1 [.int .i64 nk,.string nt,.int .i64 ni,.slice kO kn kOc,.slice qA im qc] ?k7 rfl HNW.out (by simp [Value.oneCell']) (by decide) (by unfold maxLen;omega) (by omega) HSZ.out _ rfl ?_;(case k7=>first | rfl | simp);intro g9 cap9 w9 hown9 hgr9 hat9 hlt9;have HB9:=hZz (HBA.out.grown hgr9 HNOO.out);have HB9s:Hid (∀ u,Blk (w9.setCell ⟨gF,2,none⟩ u) gO 58 #[.int .i64 nk,.string nt,.int .i64 ni,.slice kO kn kOc,.slice qA im qc]):=hZz (fun u=>HB9.out.far (p:=⟨gF,2,none⟩) HOF.out u);have HF9:=hZz (HFA.out.grown hgr9 (zaeZ HOW.out HFA.out (by decide)));obtain ⟨f0,f1,f2⟩:=blkF HF9.out;have z9:=HF9.out.frozen 2;have HO9:=hZz hown9;have HG9:Hid ((w8.alloc (.cells #[.int .i64 nk,.string nt,.int .i64 ni,.slice kO kn kOc,.slice qA im qc] 58)).drew.grownBy w9 (Value.slice vA lk vc).ownBlock):=hZz hgr9;have HA9:Hid ((Value.slice vA lk vc).ownBlock=some g9∨g9=(w8.alloc (.cells #[.int .i64 nk,.string nt,.int .i64 ni,.slice kO kn kOc,.slice qA im qc] 58)).drew.heap.size):=hZz hat9;clear hown9 hgr9 hat9)
       refine hK.out _ _ (by (try dsimp only);(first | exact zalZ HSd.out | exact zalZ HBA.out | exact zalZ HB9.out | exact zalZ (HB9s.out _))) (fun hHeld=>?_)
       clear hK K
       try simp only [nz,Act.put]
       refine tkZ (i:=8) (v:=.pointer (some ⟨gF,0,none⟩)) rfl ?_
       simp only [nz,Act.put];refine tkZ (i:=9) (v:=.pointer (some ⟨gF,2,none⟩)) rfl ?_
       simp only [nz,Act.put];refine wpAnyH_ready (rs:=[10]) (by kernel_rfl) (by simp) ?_
       refine AllReadyH.cons (o:=_) rfl (fun K hK=>?_) AllReadyH.nil
       go_simp;refine hK.out _ _ (by (try dsimp only);(first | exact zalZ HSd.out | exact zalZ HBA.out | exact zalZ HB9.out | exact zalZ (HB9s.out _))) (fun hHeld=>?_)
       clear hK K
       try simp only [nz,Act.put]
       refine wpAnyH_done (by kernel_rfl) ?_ _
       try dsimp only [List.getElem_toArray,List.getElem_cons_succ,List.getElem_cons_zero,Act.put]
       all_goals
        have hpu:=HCA.out.push (nv2:=.slice (some ⟨g9,0,none⟩) (lk+1) cap9) (by rw [HLK.out,HNK.out,HNT.out,HNI.out,HKSL.out];exact HO9.out) (by rw [HLK.out];exact HG9.out) (by rw [HLK.out];exact HA9.out.imp id (fun e=>by rw [e];rfl));have HPU:=hZz hpu;clear hpu;go_wp2_with (fail)
        refine HP.out _ _ ⟨.slice (some ⟨g9,0,none⟩) (lk+1) cap9,N ++ [(⟨n.kind,n.text,n.int,n.keys,ks⟩,.slice kO kn kOc,.slice qA ks.length qc)],lk,by first | rfl | (congr 2;omega),by rw [← List.append_assoc,List.length_append,HLK.out];rfl,HPU.out.1,?_,HPU.out.2.1,HPU.out.2.2⟩
        rw [HFOLD.out,← List.append_assoc,List.map_append];rfl
     | some c =>
      have HCN:Hid (ConC c):=hZz (zb0Y HCON.out (by rw [HVL.out,← HNODE.out];exact HOK1.out.1) (fun h=>by rw [HVL.out,← HNODE.out];exact HOK1.out.2 h) HVF.out);have HFOLD:Hid (foldF S.p (f+1) i (L.map Prod.fst)=L.map Prod.fst ++ constantsF c (L.map Prod.fst).length):=hZz (HFS.out _ _ _ c HFK3.out HOV.out);obtain ⟨ck,ci,cs,cn⟩:=c;rcases hdec with h1 | ⟨h1,h2⟩
      all_goals
       go_upto_region 16 with (first
        | (go_at_call 49;((with_reducible refine HVAL.out.mono ?_);rintro r w8 ⟨hb8,A8,n8,cap8,b8,rfl,hb9,hc8⟩;have hb9':b8=true:=hb9;subst hb9';clear hb9;have HC8:=hZz (HC.out.below hb8);obtain ⟨hn8,gv,o8,rfl,v0,v1,v2,v3⟩:=hc8 _ rfl;clear hb8 hc8)))
       go_upto_region 17 with (fail)
       obtain ⟨w8,hw8,HC8⟩:=FLc.world HC8;subst hw8;clear xN
       try clear h2
       clear h1;have hn8':(0:Int)<(n8:Int):=by omega
       have HCC:=HC8.out;obtain ⟨vA,vc,rfl⟩:=zahZ HCC.st.row;have hpre:=own_prefix (m:=ln) HCC.st.row (by rw [List.length_append,HLN.out];omega);rw [← HLN.out,take_rows,HLN.out] at hpre;have HPRE:=hZz hpre;have hcap:=zb6Y HCC.st.row;rw [List.length_append,HLN.out] at hcap;have hfo:=HCC.st.fo;have HFO8:=hZz hfo;obtain ⟨lk,hlk⟩:∃ x,(L ++ N).length=x:=⟨_,rfl⟩
       rw [hlk] at hfo HC8 HFO8;obtain ⟨y0,y1,y2⟩:=blkF hfo;have hln0:(0:Int)≤(ln:Int):=by omega
       have hln1:(ln:Int)≤(vc:Int):=by omega
       have HCO:Hid (Calls prog 50 #[.agg #[.int .i64 ck,.int .i64 ci,.string cs,.int .i64 cn],.int .i64 (ln:Nat)] w8.drew (ConsP ⟨ck,ci,cs,cn⟩ ln w8.drew)):=hZz (constants_s ⟨ck,ci,cs,cn⟩ ln w8.drew HCN.out.int_bd);obtain ⟨i9,hj9,hy90,hy91,hy92⟩:=info_parts Tryz.infoNode;have v0d:w8.drew.cell? ⟨gv,o8,none⟩=some (.int .i64 ck):=v0;have v1d:w8.drew.cell? ⟨gv,o8+1,none⟩=some (.int .i64 ci):=v1;have v2d:w8.drew.cell? ⟨gv,o8+2,none⟩=some (.string cs):=v2;have v3d:w8.drew.cell? ⟨gv,o8+3,none⟩=some (.int .i64 cn):=v3;obtain ⟨y0d,y1d,y2d⟩:=blkF (w:=w8.drew) HFO8.out;clear hpre hcap hfo HCC hlk;refine wp_region_held_drew (S:=(fun _=>True)) (by kernel_rfl) (by (first | done | exact trivial)) (fun hHeld=>?_)
       refine tkZ (i:=0) (v:=.pointer (some ⟨gF,0,none⟩)) rfl ?_
       simp only [nz,Act.put];refine tkZ (i:=1) (v:=.pointer (some ⟨gF,0,none⟩)) rfl ?_
       simp only [nz,Act.put];refine tkZ (i:=2) (v:=.pointer (some ⟨gF,0,none⟩)) rfl ?_
       simp only [nz,Act.put];refine tkZ (i:=3) (v:=.pointer (some ⟨gF,2,none⟩)) rfl ?_
       simp only [nz,Act.put];refine tkZ (i:=5) (v:=.int .i64 (ln:Nat)) rfl ?_
       simp only [nz,Act.put];refine tkZ (i:=7) (v:=.slice (some ⟨gv,o8,none⟩) n8 cap8) rfl ?_
       simp only [nz,Act.put];refine tkZ (i:=8) (v:=.pointer (some ⟨gv,o8,none⟩)) rfl ?_
       simp only [nz,Act.put];refine tkZ (i:=10) (v:=.int .i64 (ln:Nat)) rfl ?_
       simp only [nz,Act.put];refine wpAnyH_ready (rs:=[4,9]) (by kernel_rfl) (by simp) ?_
       refine AllReadyH.cons (o:=_) rfl (fun K hK=>?_) ?_
       focus
        go_simp;refine hK.out _ _ (by (try dsimp only);(first | done | exact trivial)) (fun hHeld=>?_)
        clear hK K
        try simp only [nz,Act.put]
        refine tkZ (i:=6) (v:=.slice vA ln vc) rfl ?_
        simp only [nz,Act.put];refine wpAnyH_ready (rs:=[9]) (by kernel_rfl) (by simp) ?_
        refine AllReadyH.cons (o:=_) rfl (fun K hK=>?_) AllReadyH.nil
        go_simp;refine hK.out _ _ (by (try dsimp only);(first | done | exact trivial)) (fun hHeld=>?_)
        clear hK K
        try simp only [nz,Act.put]
        refine wpAnyH_ready (rs:=[11]) (by kernel_rfl) (by simp) ?_
        refine AllReadyH.cons (o:=_) rfl (fun K hK=>?_) AllReadyH.nil
        go_simp
        (go_at_call 50;((with_reducible refine HCO.out.mono ?_);rintro r wC ⟨gC,Cs,rfl,hCs,hbC,hpC,hC0,hC2,hblC⟩;have hb8C:Below w8.heap.size w8 wC:=zaaZ hblC (zadZ _) (Nat.le_refl _);have HC9:=hZz (HC8.out.below hb8C);have HOWN:=hZz (zagZ HPRE.out hb8C);have HNWC:Hid (∀ q u,(Cs.flatMap nodeRow)[q]? = some u→wC.cell? ((⟨gC,0,none⟩:Addr).add q)=some u):=hZz (fun q u hq=>by rw [zayY];simpa using hbC.cell q u (by simpa using hq));have HONE:=hZz (zckY hpC);have HSZC:Hid (w0.heap.size≤wC.heap.size):=hZz HC9.out.st.bl.size;have HFC:=hZz (HFO8.out.below hb8C);obtain ⟨yc0,yc1,yc2⟩:=blkF HFC.out;have HCS:=hZz hCs;have HPC:Hid (PartsO w.heap.size wC Cs):=hZz (fun p hp=>⟨zahY (hpC p hp).1 (Nat.le_trans HC8.out.size (zadZ w8).size),zahY (hpC p hp).2 (Nat.le_trans HC8.out.size (zadZ w8).size)⟩);clear hCs hbC hpC hblC hb8C))
        refine hK.out _ _ (by (try dsimp only);(first | done | exact trivial)) (fun hHeld=>?_)
        clear hK K
        try simp only [nz,Act.put]
        refine wpAnyH_ready (rs:=[12]) (by kernel_rfl) (by simp) ?_
        refine AllReadyH.cons (o:=_) rfl (fun K hK=>?_) AllReadyH.nil
        try simp only [List.getElem_toArray,List.getElem_cons_succ,List.getElem_cons_zero]
        (rw [if_pos (by rfl)];refine wp_append_lies _ (.tmp 96) (.tmp 101) 22 rfl w0.heap.size 58 i9 _ 5 80 underlying22 hj9 hy90 hy91 hy92 rfl (by decide) _ ln _ rfl HOWN.out ⟨gC,0,none⟩ Cs.length Cs.length (Cs.flatMap nodeRow) rfl (rows_len Cs) HNWC.out HONE.out hC0 (by unfold maxLen;omega) (by omega) HSZC.out _ rfl ?_;intro g9 cap9 w9 hown9 hgr9 hat9 hlt9;have HF9:=hZz (HFC.out.grown hgr9 (zaeZ HOWN.out HFC.out (by decide)));obtain ⟨f0,f1,f2⟩:=blkF HF9.out;have z9:=HF9.out.frozen 2;have HO9:=hZz hown9;have HG9:=hZz hgr9;have HA9:=hZz hat9;clear hown9 hgr9 hat9)
        refine hK.out _ _ (by (try dsimp only);(first | done | exact trivial)) (fun hHeld=>?_)
        clear hK K
        try simp only [nz,Act.put]
        refine tkZ (i:=13) (v:=.pointer (some ⟨gF,0,none⟩)) rfl ?_
        simp only [nz,Act.put];refine tkZ (i:=14) (v:=.pointer (some ⟨gF,2,none⟩)) rfl ?_
        simp only [nz,Act.put];refine wpAnyH_ready (rs:=[15]) (by kernel_rfl) (by simp) ?_
        refine AllReadyH.cons (o:=_) rfl (fun K hK=>?_) AllReadyH.nil
        go_simp;refine hK.out _ _ (by (try dsimp only);(first | done | exact trivial)) (fun hHeld=>?_)
        clear hK K
        try simp only [nz,Act.put]
        refine wpAnyH_done (by kernel_rfl) ?_ _
        try dsimp only [List.getElem_toArray,List.getElem_cons_succ,List.getElem_cons_zero,Act.put]
       rotate_left 1;refine AllReadyH.cons (o:=_) rfl (fun K hK=>?_) AllReadyH.nil
       go_simp;refine hK.out _ _ (by (try dsimp only);(first | done | exact trivial)) (fun hHeld=>?_)
       clear hK K
       try simp only [nz,Act.put]
       refine wpAnyH_ready (rs:=[4,11]) (by kernel_rfl) (by simp) ?_
       refine AllReadyH.cons (o:=_) rfl (fun K hK=>?_) ?_
       focus
        go_simp;refine hK.out _ _ (by (try dsimp only);(first | done | exact trivial)) (fun hHeld=>?_)
        clear hK K
        try simp only [nz,Act.put]
        refine tkZ (i:=6) (v:=.slice vA ln vc) rfl ?_
        simp only [nz,Act.put];refine wpAnyH_ready (rs:=[11]) (by kernel_rfl) (by simp) ?_
        refine AllReadyH.cons (o:=_) rfl (fun K hK=>?_) AllReadyH.nil
        go_simp
        (go_at_call 50;((with_reducible refine HCO.out.mono ?_);rintro r wC ⟨gC,Cs,rfl,hCs,hbC,hpC,hC0,hC2,hblC⟩;have hb8C:Below w8.heap.size w8 wC:=zaaZ hblC (zadZ _) (Nat.le_refl _);have HC9:=hZz (HC8.out.below hb8C);have HOWN:=hZz (zagZ HPRE.out hb8C);have HNWC:Hid (∀ q u,(Cs.flatMap nodeRow)[q]? = some u→wC.cell? ((⟨gC,0,none⟩:Addr).add q)=some u):=hZz (fun q u hq=>by rw [zayY];simpa using hbC.cell q u (by simpa using hq));have HONE:=hZz (zckY hpC);have HSZC:Hid (w0.heap.size≤wC.heap.size):=hZz HC9.out.st.bl.size;have HFC:=hZz (HFO8.out.below hb8C);obtain ⟨yc0,yc1,yc2⟩:=blkF HFC.out;have HCS:=hZz hCs;have HPC:Hid (PartsO w.heap.size wC Cs):=hZz (fun p hp=>⟨zahY (hpC p hp).1 (Nat.le_trans HC8.out.size (zadZ w8).size),zahY (hpC p hp).2 (Nat.le_trans HC8.out.size (zadZ w8).size)⟩);clear hCs hbC hpC hblC hb8C))
        refine hK.out _ _ (by (try dsimp only);(first | done | exact trivial)) (fun hHeld=>?_)
        clear hK K
        try simp only [nz,Act.put]
        refine wpAnyH_ready (rs:=[12]) (by kernel_rfl) (by simp) ?_
        refine AllReadyH.cons (o:=_) rfl (fun K hK=>?_) AllReadyH.nil
        try simp only [List.getElem_toArray,List.getElem_cons_succ,List.getElem_cons_zero]
        (rw [if_pos (by rfl)];refine wp_append_lies _ (.tmp 96) (.tmp 101) 22 rfl w0.heap.size 58 i9 _ 5 80 underlying22 hj9 hy90 hy91 hy92 rfl (by decide) _ ln _ rfl HOWN.out ⟨gC,0,none⟩ Cs.length Cs.length (Cs.flatMap nodeRow) rfl (rows_len Cs) HNWC.out HONE.out hC0 (by unfold maxLen;omega) (by omega) HSZC.out _ rfl ?_;intro g9 cap9 w9 hown9 hgr9 hat9 hlt9;have HF9:=hZz (HFC.out.grown hgr9 (zaeZ HOWN.out HFC.out (by decide)));obtain ⟨f0,f1,f2⟩:=blkF HF9.out;have z9:=HF9.out.frozen 2;have HO9:=hZz hown9;have HG9:=hZz hgr9;have HA9:=hZz hat9;clear hown9 hgr9 hat9)
        refine hK.out _ _ (by (try dsimp only);(first | done | exact trivial)) (fun hHeld=>?_)
        clear hK K
        try simp only [nz,Act.put]
        refine tkZ (i:=13) (v:=.pointer (some ⟨gF,0,none⟩)) rfl ?_
        simp only [nz,Act.put];refine tkZ (i:=14) (v:=.pointer (some ⟨gF,2,none⟩)) rfl ?_
        simp only [nz,Act.put];refine wpAnyH_ready (rs:=[15]) (by kernel_rfl) (by simp) ?_
        refine AllReadyH.cons (o:=_) rfl (fun K hK=>?_) AllReadyH.nil
        go_simp;refine hK.out _ _ (by (try dsimp only);(first | done | exact trivial)) (fun hHeld=>?_)
        clear hK K
        try simp only [nz,Act.put]
        refine wpAnyH_done (by kernel_rfl) ?_ _
        try dsimp only [List.getElem_toArray,List.getElem_cons_succ,List.getElem_cons_zero,Act.put]
       rotate_left 1;refine AllReadyH.cons (o:=_) rfl (fun K hK=>?_) AllReadyH.nil
       go_simp
       (go_at_call 50;((with_reducible refine HCO.out.mono ?_);rintro r wC ⟨gC,Cs,rfl,hCs,hbC,hpC,hC0,hC2,hblC⟩;have hb8C:Below w8.heap.size w8 wC:=zaaZ hblC (zadZ _) (Nat.le_refl _);have HC9:=hZz (HC8.out.below hb8C);have HOWN:=hZz (zagZ HPRE.out hb8C);have HNWC:Hid (∀ q u,(Cs.flatMap nodeRow)[q]? = some u→wC.cell? ((⟨gC,0,none⟩:Addr).add q)=some u):=hZz (fun q u hq=>by rw [zayY];simpa using hbC.cell q u (by simpa using hq));have HONE:=hZz (zckY hpC);have HSZC:Hid (w0.heap.size≤wC.heap.size):=hZz HC9.out.st.bl.size;have HFC:=hZz (HFO8.out.below hb8C);obtain ⟨yc0,yc1,yc2⟩:=blkF HFC.out;have HCS:=hZz hCs;have HPC:Hid (PartsO w.heap.size wC Cs):=hZz (fun p hp=>⟨zahY (hpC p hp).1 (Nat.le_trans HC8.out.size (zadZ w8).size),zahY (hpC p hp).2 (Nat.le_trans HC8.out.size (zadZ w8).size)⟩);clear hCs hbC hpC hblC hb8C))
       refine hK.out _ _ (by (try dsimp only);(first | done | exact trivial)) (fun hHeld=>?_)
       clear hK K
       try simp only [nz,Act.put]
       refine wpAnyH_ready (rs:=[4]) (by kernel_rfl) (by simp) ?_
       refine AllReadyH.cons (o:=_) rfl (fun K hK=>?_) AllReadyH.nil
       go_simp;refine hK.out _ _ (by (try dsimp only);(first | done | exact trivial)) (fun hHeld=>?_)
       clear hK K
       try simp only [nz,Act.put]
       refine tkZ (i:=6) (v:=.slice vA ln vc) rfl ?_
       simp only [nz,Act.put];refine wpAnyH_ready (rs:=[12]) (by kernel_rfl) (by simp) ?_
       refine AllReadyH.cons (o:=_) rfl (fun K hK=>?_) AllReadyH.nil
       try simp only [List.getElem_toArray,List.getElem_cons_succ,List.getElem_cons_zero]
       (rw [if_pos (by rfl)];refine wp_append_lies _ (.tmp 96) (.tmp 101) 22 rfl w0.heap.size 58 i9 _ 5 80 underlying22 hj9 hy90 hy91 hy92 rfl (by decide) _ ln _ rfl HOWN.out ⟨gC,0,none⟩ Cs.length Cs.length (Cs.flatMap nodeRow) rfl (rows_len Cs) HNWC.out HONE.out hC0 (by unfold maxLen;omega) (by omega) HSZC.out _ rfl ?_;intro g9 cap9 w9 hown9 hgr9 hat9 hlt9;have HF9:=hZz (HFC.out.grown hgr9 (zaeZ HOWN.out HFC.out (by decide)));obtain ⟨f0,f1,f2⟩:=blkF HF9.out;have z9:=HF9.out.frozen 2;have HO9:=hZz hown9;have HG9:=hZz hgr9;have HA9:=hZz hat9;clear hown9 hgr9 hat9)
       refine hK.out _ _ (by (try dsimp only);(first | done | exact trivial)) (fun hHeld=>?_)
       clear hK K
       try simp only [nz,Act.put]
       refine tkZ (i:=13) (v:=.pointer (some ⟨gF,0,none⟩)) rfl ?_
       simp only [nz,Act.put];refine tkZ (i:=14) (v:=.pointer (some ⟨gF,2,none⟩)) rfl ?_
       simp only [nz,Act.put];refine wpAnyH_ready (rs:=[15]) (by kernel_rfl) (by simp) ?_
       refine AllReadyH.cons (o:=_) rfl (fun K hK=>?_) AllReadyH.nil
       go_simp;refine hK.out _ _ (by (try dsimp only);(first | done | exact trivial)) (fun hHeld=>?_)
       clear hK K
       try simp only [nz,Act.put]
       refine wpAnyH_done (by kernel_rfl) ?_ _
       try dsimp only [List.getElem_toArray,List.getElem_cons_succ,List.getElem_cons_zero,Act.put]
       all_goals
        have hcut:=HC9.out.cut (nv2:=.slice (some ⟨g9,0,none⟩) (ln+Cs.length) cap9) HPC.out (by rw [HLN.out];exact HO9.out) (by rw [zbtY _ _ ln];exact HG9.out) (by rw [zbtY _ _ ln];exact HA9.out.imp id (fun e=>by rw [e];rfl));have HCUT:=hZz hcut;clear hcut;have hbF9:=hZz (HF9.out.set_ 2 (.slice (some ⟨g9,0,none⟩) (ln+Cs.length) cap9))
        try go_wp2_with (fail)
        have e9:(ln:Int)+(Cs.length:Int) - 1=((ln+Cs.length - 1:Nat):Int):=by omega
        refine HP.out _ _ ⟨.slice (some ⟨g9,0,none⟩) (ln+Cs.length) cap9,Cs,ln+Cs.length - 1,congrArg (fun z:Int=>Ending.returned (.int .i64 z)) e9,by rw [List.length_append,HLN.out];omega,HCUT.out.1,?_,HCUT.out.2.1,HCUT.out.2.2⟩
        rw [HFOLD.out,List.map_append,HCS.out,List.length_map,HLN.out]
    ·have hdec:(nk == 8)=false∧(nk == 9)=false∨(nk == 8)=true∧¬ vl=im∨(nk == 8)=false∧(nk == 9)=true∧¬ vl=im:=by
      by_cases h8:nk=8
      ·exact .inr (.inl ⟨by simpa using h8,fun e=>hop ⟨.inl h8,e⟩⟩)
      ·by_cases h9:nk=9
       ·exact .inr (.inr ⟨by simpa using h8,by simpa using h9,fun e=>hop ⟨.inr h9,e⟩⟩)
       ·exact .inl ⟨by simpa using h8,by simpa using h9⟩
     have HFOLD:Hid (foldF S.p (f+1) i (L.map Prod.fst)=(L ++ N).map Prod.fst ++ [⟨n.kind,n.text,n.int,n.keys,ks⟩]):=hZz (HFN.out _ _ _ HFK3.out (by unfold opVal;rw [if_neg (by rw [HNK.out,HLL.out.1,HNODE.out];exact hop)]));have HOP:=hZz hop;clear hop;rcases hdec with ⟨h1,h2⟩ | ⟨h1,h2⟩ | ⟨h1,h2,h3⟩
     all_goals
      go_upto_region 19 with (fail)
      clear xN h1 h2
      try clear h3
      have HCC:=HC.out;obtain ⟨qA,qc,rfl⟩:=zahZ HCC.kids;obtain ⟨vA,vc,rfl⟩:=zahZ HCC.st.row;have hksl:ks.length=im:=HLL.out.2.2.1;have hbo:=HCC.bo;rw [HNK.out,HNT.out,HNI.out,hksl] at hbo;have hrow:=HCC.st.row;have hfo:=HCC.st.fo;obtain ⟨lk,hlk⟩:∃ x,(L ++ N).length=x:=⟨_,rfl⟩
      have hlkb:lk≤5000:=by
       have:=HLL.out.2.2.2
       have:=HLS.out
       rw [← hlk,List.length_append];omega
      rw [hlk] at hrow hfo;have HLK:=hZz hlk;have HKSL:=hZz hksl;obtain ⟨o9,ho9⟩:∃ o,Obj.cells #[.int .i64 nk,.string nt,.int .i64 ni,.slice kO kn kOc,.slice qA im qc] 58=o:=⟨_,rfl⟩
      have hbA:Below wr.heap.size wr (wr.alloc o9).drew:=(zabZ wr o9).drew;have HCA:=hZz (HCC.below hbA);have HOW:=hZz (zagZ hrow hbA);have HNW:Hid (∀ q u,[Value.int .i64 nk,.string nt,.int .i64 ni,.slice kO kn kOc,.slice qA im qc][q]? = some u→(wr.alloc o9).drew.cell? ((⟨wr.heap.size,0,none⟩:Addr).add q)=some u):=hZz (by rw [← ho9];exact zadY wr _ 58);have HSZ:Hid (w0.heap.size≤(wr.alloc o9).drew.heap.size):=hZz (Nat.le_trans HCC.st.bl.size hbA.size);have HBA:=hZz (hbo.below hbA);have HFA:=hZz (hfo.below hbA);have HSd:Hid (Blk wr.drew gO 58 #[.int .i64 nk,.string nt,.int .i64 ni,.slice kO kn kOc,.slice qA im qc]):=hZz hbo;have HNOO:Hid (some gO≠(Value.slice vA (L ++ N).length vc).ownBlock):=hZz (fun e=>HCC.nO e.symm);have HOF:Hid (gO≠gF):=hZz (by have:=HCC.geO;have:=HCC.ltF;omega);rw [← ho9] at HCA HOW HNW HSZ HBA HFA;rw [hlk] at HNOO;obtain ⟨i9,hj9,hy90,hy91,hy92⟩:=info_parts Tryz.infoNode;obtain ⟨y0,y1,y2⟩:=blkF hfo;obtain ⟨ya0,ya1,ya2⟩:=blkF HFA.out;clear HCC hksl hbo hrow hfo hlk hbA ho9;refine wp_region_held_drew (S:=(fun w'=>w'.cell? ⟨gO,0,none⟩=some (.int .i64 nk)∧w'.cell? ⟨gO,1,none⟩=some (.string nt)∧w'.cell? ⟨gO,2,none⟩=some (.int .i64 ni)∧w'.cell? ⟨gO,3,none⟩=some (.slice kO kn kOc)∧w'.cell? ⟨gO,4,none⟩=some (.slice qA im qc))) (by kernel_rfl) (by (first | exact zalZ HSd.out | exact zalZ HBA.out | exact zalZ HB9.out | exact zalZ (HB9s.out _))) (fun hHeld=>?_)
      refine tkZ (i:=0) (v:=.pointer (some ⟨gF,0,none⟩)) rfl ?_
      simp only [nz,Act.put];refine tkZ (i:=1) (v:=.pointer (some ⟨gF,0,none⟩)) rfl ?_
      simp only [nz,Act.put];refine tkZ (i:=2) (v:=.pointer (some ⟨gF,0,none⟩)) rfl ?_
      simp only [nz,Act.put];refine tkZ (i:=3) (v:=.pointer (some ⟨gF,2,none⟩)) rfl ?_
      simp only [nz,Act.put];refine tkZ (i:=5) (v:=.agg #[.int .i64 nk,.string nt,.int .i64 ni,.slice kO kn kOc,.slice qA im qc]) rfl ?_
      simp only [nz,Act.put];refine wpAnyH_ready (rs:=[4,6]) (by kernel_rfl) (by simp) ?_
      refine AllReadyH.cons (o:=_) rfl (fun K hK=>?_) ?_
      focus
       go_simp;refine hK.out _ _ (by (try dsimp only);(first | exact zalZ HSd.out | exact zalZ HBA.out | exact zalZ HB9.out | exact zalZ (HB9s.out _))) (fun hHeld=>?_)
       clear hK K
       try simp only [nz,Act.put]
       refine wpAnyH_ready (rs:=[6]) (by kernel_rfl) (by simp) ?_
       refine AllReadyH.cons (o:=_) rfl (fun K hK=>?_) AllReadyH.nil
       go_simp;refine hK.out _ _ (by (try dsimp only);(first | exact zalZ HSd.out | exact zalZ HBA.out | exact zalZ HB9.out | exact zalZ (HB9s.out _))) (fun hHeld=>?_)
       clear hK K
       try simp only [nz,Act.put]
       refine wpAnyH_ready (rs:=[7]) (by kernel_rfl) (by simp) ?_
       refine AllReadyH.cons (o:=_) rfl (fun K hK=>?_) AllReadyH.nil
       try simp only [List.getElem_toArray,List.getElem_cons_succ,List.getElem_cons_zero]
       (rw [if_pos (by rfl)];refine wp_append_lies _ (.tmp 115) (.tmp 117) 22 rfl w0.heap.size 58 i9 _ 5 80 underlying22 hj9 hy90 hy91 hy92 rfl (by decide) _ lk _ rfl HOW.out ⟨wr.heap.size,0,none⟩ 1 1 [.int .i64 nk,.string nt,.int .i64 ni,.slice kO kn kOc,.slice qA im qc] ?k7 rfl HNW.out (by simp [Value.oneCell']) (by decide) (by unfold maxLen;omega) (by omega) HSZ.out _ rfl ?_;(case k7=>first | rfl | simp);intro g9 cap9 w9 hown9 hgr9 hat9 hlt9;have HB9:=hZz (HBA.out.grown hgr9 HNOO.out);have HB9s:Hid (∀ u,Blk (w9.setCell ⟨gF,2,none⟩ u) gO 58 #[.int .i64 nk,.string nt,.int .i64 ni,.slice kO kn kOc,.slice qA im qc]):=hZz (fun u=>HB9.out.far (p:=⟨gF,2,none⟩) HOF.out u);have HF9:=hZz (HFA.out.grown hgr9 (zaeZ HOW.out HFA.out (by decide)));obtain ⟨f0,f1,f2⟩:=blkF HF9.out;have z9:=HF9.out.frozen 2;have HO9:=hZz hown9;have HG9:Hid ((wr.alloc (.cells #[.int .i64 nk,.string nt,.int .i64 ni,.slice kO kn kOc,.slice qA im qc] 58)).drew.grownBy w9 (Value.slice vA lk vc).ownBlock):=hZz hgr9;have HA9:Hid ((Value.slice vA lk vc).ownBlock=some g9∨g9=(wr.alloc (.cells #[.int .i64 nk,.string nt,.int .i64 ni,.slice kO kn kOc,.slice qA im qc] 58)).drew.heap.size):=hZz hat9;clear hown9 hgr9 hat9)
       refine hK.out _ _ (by (try dsimp only);(first | exact zalZ HSd.out | exact zalZ HBA.out | exact zalZ HB9.out | exact zalZ (HB9s.out _))) (fun hHeld=>?_)
       clear hK K
       try simp only [nz,Act.put]
       refine tkZ (i:=8) (v:=.pointer (some ⟨gF,0,none⟩)) rfl ?_
       simp only [nz,Act.put];refine tkZ (i:=9) (v:=.pointer (some ⟨gF,2,none⟩)) rfl ?_
       simp only [nz,Act.put];refine wpAnyH_ready (rs:=[10]) (by kernel_rfl) (by simp) ?_
       refine AllReadyH.cons (o:=_) rfl (fun K hK=>?_) AllReadyH.nil
       go_simp;refine hK.out _ _ (by (try dsimp only);(first | exact zalZ HSd.out | exact zalZ HBA.out | exact zalZ HB9.out | exact zalZ (HB9s.out _))) (fun hHeld=>?_)
       clear hK K
       try simp only [nz,Act.put]
       refine wpAnyH_done (by kernel_rfl) ?_ _
       try dsimp only [List.getElem_toArray,List.getElem_cons_succ,List.getElem_cons_zero,Act.put]
      rotate_left 1;refine AllReadyH.cons (o:=_) rfl (fun K hK=>?_) AllReadyH.nil
      go_simp;refine hK.out _ _ (by (try dsimp only);(first | exact zalZ HSd.out | exact zalZ HBA.out | exact zalZ HB9.out | exact zalZ (HB9s.out _))) (fun hHeld=>?_)
      clear hK K
      try simp only [nz,Act.put]
      refine wpAnyH_ready (rs:=[4]) (by kernel_rfl) (by simp) ?_
      refine AllReadyH.cons (o:=_) rfl (fun K hK=>?_) AllReadyH.nil
      go_simp;refine hK.out _ _ (by (try dsimp only);(first | exact zalZ HSd.out | exact zalZ HBA.out | exact zalZ HB9.out | exact zalZ (HB9s.out _))) (fun hHeld=>?_)
      clear hK K
      try simp only [nz,Act.put]
      refine wpAnyH_ready (rs:=[7]) (by kernel_rfl) (by simp) ?_
      refine AllReadyH.cons (o:=_) rfl (fun K hK=>?_) AllReadyH.nil
      try simp only [List.getElem_toArray,List.getElem_cons_succ,List.getElem_cons_zero]
      (rw [if_pos (by rfl)];refine wp_append_lies _ (.tmp 115) (.tmp 117) 22 rfl w0.heap.size 58 i9 _ 5 80 underlying22 hj9 hy90 hy91 hy92 rfl (by decide) _ lk _ rfl HOW.out ⟨wr.heap.size,0,none⟩ 1 1 [.int .i64 nk,.string nt,.int .i64 ni,.slice kO kn kOc,.slice qA im qc] ?k7 rfl HNW.out (by simp [Value.oneCell']) (by decide) (by unfold maxLen;omega) (by omega) HSZ.out _ rfl ?_;(case k7=>first | rfl | simp);intro g9 cap9 w9 hown9 hgr9 hat9 hlt9;have HB9:=hZz (HBA.out.grown hgr9 HNOO.out);have HB9s:Hid (∀ u,Blk (w9.setCell ⟨gF,2,none⟩ u) gO 58 #[.int .i64 nk,.string nt,.int .i64 ni,.slice kO kn kOc,.slice qA im qc]):=hZz (fun u=>HB9.out.far (p:=⟨gF,2,none⟩) HOF.out u);have HF9:=hZz (HFA.out.grown hgr9 (zaeZ HOW.out HFA.out (by decide)));obtain ⟨f0,f1,f2⟩:=blkF HF9.out;have z9:=HF9.out.frozen 2;have HO9:=hZz hown9;have HG9:Hid ((wr.alloc (.cells #[.int .i64 nk,.string nt,.int .i64 ni,.slice kO kn kOc,.slice qA im qc] 58)).drew.grownBy w9 (Value.slice vA lk vc).ownBlock):=hZz hgr9;have HA9:Hid ((Value.slice vA lk vc).ownBlock=some g9∨g9=(wr.alloc (.cells #[.int .i64 nk,.string nt,.int .i64 ni,.slice kO kn kOc,.slice qA im qc] 58)).drew.heap.size):=hZz hat9;clear hown9 hgr9 hat9)
      refine hK.out _ _ (by (try dsimp only);(first | exact zalZ HSd.out | exact zalZ HBA.out | exact zalZ HB9.out | exact zalZ (HB9s.out _))) (fun hHeld=>?_)
      clear hK K
      try simp only [nz,Act.put]
      refine tkZ (i:=8) (v:=.pointer (some ⟨gF,0,none⟩)) rfl ?_
      simp only [nz,Act.put];refine tkZ (i:=9) (v:=.pointer (some ⟨gF,2,none⟩)) rfl ?_
      simp only [nz,Act.put];refine wpAnyH_ready (rs:=[10]) (by kernel_rfl) (by simp) ?_
      refine AllReadyH.cons (o:=_) rfl (fun K hK=>?_) AllReadyH.nil
      go_simp;refine hK.out _ _ (by (try dsimp only);(first | exact zalZ HSd.out | exact zalZ HBA.out | exact zalZ HB9.out | exact zalZ (HB9s.out _))) (fun hHeld=>?_)
      clear hK K
      try simp only [nz,Act.put]
      refine wpAnyH_done (by kernel_rfl) ?_ _
      try dsimp only [List.getElem_toArray,List.getElem_cons_succ,List.getElem_cons_zero,Act.put]
      all_goals
       have hpu:=HCA.out.push (nv2:=.slice (some ⟨g9,0,none⟩) (lk+1) cap9) (by rw [HLK.out,HNK.out,HNT.out,HNI.out,HKSL.out];exact HO9.out) (by rw [HLK.out];exact HG9.out) (by rw [HLK.out];exact HA9.out.imp id (fun e=>by rw [e];rfl));have HPU:=hZz hpu;clear hpu;go_wp2_with (fail)
       refine HP.out _ _ ⟨.slice (some ⟨g9,0,none⟩) (lk+1) cap9,N ++ [(⟨n.kind,n.text,n.int,n.keys,ks⟩,.slice kO kn kOc,.slice qA ks.length qc)],lk,by first | rfl | (congr 2;omega),by rw [← List.append_assoc,List.length_append,HLK.out];rfl,HPU.out.1,?_,HPU.out.2.1,HPU.out.2.2⟩
       rw [HFOLD.out,← List.append_assoc,List.map_append];rfl
end Go.Proofs.YthiimbhjpdphpaaGreatDoor
