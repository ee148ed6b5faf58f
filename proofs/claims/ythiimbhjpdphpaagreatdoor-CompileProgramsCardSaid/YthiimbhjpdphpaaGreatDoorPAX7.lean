/- AX7 -/
import Derived.Test.YthiimbhjpdphpaaGreatDoorPAX6
set_option linter.unusedVariables false
set_option linter.unusedSimpArgs false
namespace Go.Proofs.YthiimbhjpdphpaaGreatDoor
open Go.RowKit
set_option maxRecDepth 100000
open Go.Proofs.Tryz
theorem Tryz.infoFuncX:(prog.info? 42).map (fun i=>(i.zero,i.size,i.bytes))=some (some (.agg #[.string ByteArray.empty,.slice none 0 0,.int .i64 0]),3,48):=by kernel_rfl
theorem zabY {w:World} {g:Nat} {t:TypeId} {a b c:Value} (h:Blk w g t #[a,b,c]):w.cell? ⟨g,0,none⟩=some a∧w.cell? ⟨g,1,none⟩=some b:=⟨h.cell 0 _ rfl,h.cell 1 _ rfl⟩
theorem node2_s (w0:World) (S:ProgS) (gF:Nat) (hS:ProgV w0 S) (he:S.p=exP) (wx:World) (h:FX w0 wx S gF (.slice none 0 0) []):Calls prog 34 #[.pointer (some ⟨gF,0,none⟩),.int .i64 2] wx (FXP w0 wx S gF 2 19):=by
 obtain ⟨A,B,nc,fc,p⟩:=S;obtain rfl:p=exP:=he;exact nodeZ_s w0 _ gF 2 19 _ _ _ hS rfl (by show _<3;decide) rfl (by decide) (by decide) (.inr ⟨1,17,rfl,rfl,.inr rfl,fun wx h=>nodeZ_s w0 _ gF 1 17 _ _ _ hS rfl (by show _<3;decide) rfl (by decide) (by decide) (.inr ⟨0,5,rfl,rfl,.inl rfl,fun wx h=>nodeZ_s w0 _ gF 0 5 _ _ _ hS rfl (by show _<3;decide) rfl (by decide) (by decide) (.inl ⟨rfl,rfl⟩) wx h⟩) wx h⟩) wx h
attribute [local go_sem] zabZ
set_option maxHeartbeats 16000000 in
theorem foldX_s (S:ProgS) (w:World) (hS:ProgV w S) (hp:Pow w) (he:S.p=exP):Calls prog 15 #[S.val] w fun r w'=>∃ A nc B fc,r=.returned (.tuple #[.agg #[.slice A 3 nc,.slice B 1 fc],.int .i64 0])∧Below w.heap.size w w':=by
 obtain ⟨P,hP⟩:∃ P:Ending→World→Prop,(fun r w'=>∃ A nc B fc,r=.returned (.tuple #[.agg #[.slice A 3 nc,.slice B 1 fc],.int .i64 0])∧Below w.heap.size w w')=P:=⟨_,rfl⟩
 rw [hP];have HP:Hid (∀ w' A nc B fc,Below w.heap.size w w'→P (.returned (.tuple #[.agg #[.slice A 3 nc,.slice B 1 fc],.int .i64 0])) w'):=hZz (fun w' A nc B fc h=>by rw [← hP];exact ⟨A,nc,B,fc,rfl,h⟩);have hN:∀ w0 gF,Below w.heap.size w w0→∀ wx,FX w0 wx S gF (.slice none 0 0) []→Calls prog 34 #[.pointer (some ⟨gF,0,none⟩),.int .i64 2] wx (FXP w0 wx S gF 2 19):=fun w0 gF hb wx h=>node2_s w0 S gF (hS.below hb) he wx h
 obtain ⟨bF,offF,kA,kc,hA,hbF,d0,d1,d2,hkv⟩:∃ bF offF kA kc,S.B=some ⟨bF,offF,none⟩∧bF<w.heap.size∧w.cell? ⟨bF,offF,none⟩=some (.string ⟨#[109,97,105,110]⟩)∧w.cell? ⟨bF,offF+1,none⟩=some (.slice kA 1 kc)∧w.cell? ⟨bF,offF+2,none⟩=some (.int .i64 2)∧SlAt w kA 1 strCs [eS]:=by
  clear hN;obtain ⟨A,B,nc,fc,p⟩:=S;obtain rfl:p=exP:=he;obtain ⟨bF,offF,kA,kc,hA,hbF,c0,c1,c2,hkv⟩:=zakY (i:=0) hS.funcs (show 0<1 by decide);obtain ⟨A',cap,e,_,hs⟩:=hkv;injection e with e1 _ _
  subst e1;exact ⟨bF,offF,kA,kc,hA,hbF,by simpa using (show _=some (Value.string ⟨#[109,97,105,110]⟩) from c0),by simpa using (show _=some (Value.slice kA 1 kc) from c1),by simpa using (show _=some (Value.int .i64 2) from c2),hs⟩
 obtain ⟨kb,ko,rfl,_⟩:=hkv.ptr (n:=0) (by simp)
 have HKV:Hid (∀ wx,Below w.heap.size w wx→∀ j u,[Value.string eS][j]? = some u→wx.cell? ((⟨kb,ko,none⟩:Addr).add j)=some u):=hZz (fun wx hb j u hj=>by
  have:=(hkv.below hb).cell0 (n:=0) (by simp) (v:=.string eS) rfl
  match j,hj with
  | 0,hj =>
   injection hj with hj
   subst hj;rw [za6Y];simpa using this)
 have hnl:S.p.nodes.length=3:=by rw [he];rfl
 have hfl:S.p.funcs.length=1:=by rw [he];rfl
 have HNL:=hZz hnl;have HFL:=hZz hfl;have HD:Hid (∀ wx,Below w.heap.size w wx→wx.cell? ⟨bF,offF,none⟩=some (.string ⟨#[109,97,105,110]⟩)∧wx.cell? ⟨bF,offF+1,none⟩=some (.slice (some ⟨kb,ko,none⟩) 1 kc)∧wx.cell? ⟨bF,offF+2,none⟩=some (.int .i64 2)):=hZz (fun wx hb=>⟨(hb.cell hbF).trans d0,(hb.cell hbF).trans d1,(hb.cell hbF).trans d2⟩);obtain ⟨W1,hW1⟩:∃ W,w.alloc (.cells #[.slice S.A 3 S.ncap,.slice (some ⟨bF,offF,none⟩) 1 S.fcap] 25)=W:=⟨_,rfl⟩
 obtain ⟨g,hg⟩:∃ g,w.heap.size=g:=⟨_,rfl⟩
 obtain ⟨gR,hgR⟩:∃ g,W1.heap.size=g:=⟨_,rfl⟩
 obtain ⟨W2,hW2⟩:∃ W,W1.alloc (.cells #[.slice none 0 0,.slice none 0 0] 25)=W:=⟨_,rfl⟩
 have hb2:Below w.heap.size w W2:=by rw [← hW2,← hW1];exact zauY _ _ _
 have HB2:=hZz hb2;have hx1:Blk W1 g 25 #[.slice S.A 3 S.ncap,.slice (some ⟨bF,offF,none⟩) 1 S.fcap]:=by rw [← hW1,← hg];exact Blk.new _ _ _
 have HX2:Hid (Blk W2 g 25 #[.slice S.A 3 S.ncap,.slice (some ⟨bF,offF,none⟩) 1 S.fcap]):=hZz (by rw [← hW2];exact hx1.alloc _);have HR2:Hid (Blk W2 gR 25 #[.slice none 0 0,.slice none 0 0]):=hZz (by rw [← hW2,← hgR];exact Blk.new _ _ _)
 have hC:Calls prog 18 #[S.val] W2 fun e w'=>(∃ a,e=.returned (.tuple #[.int .i64 a,.int .i64 0]))∧Below W2.heap.size W2 w':=by
  have h:=scheck_s S W2 (hS.below hb2) (hp.below hb2) (by rw [he];exact ex_ok);rw [he,ex_err] at h;exact h
 have HLE:Hid (w.heap.size≤gR):=hZz (by rw [← hgR,← hW1];simp);have HGR:Hid (g+1=gR):=hZz (by rw [← hgR,← hW1,← hg];simp);have HNN:=hZz hN;have HSB:=hZz hA;unfold ProgS.val at hC ⊢;rw [hnl,hfl,hA] at hC ⊢;have HC:=hZz hC;have HG:=hZz hg;have HW1:=hZz hW1;have HW2:=hZz hW2;clear hP hg hW1 hW2 hb2 hgR hx1 hS hp he hN hA hbF d0 d1 d2 hkv hnl hfl hC;go_enter func15,ntmps15
 go_upto_region 1 with fail
 rw [HG.out,HW1.out]
 try rw [HGR.out]
 rw [HW2.out];clear HG HW1 HW2 HGR;have x2:=blk2 HX2.out
 go_upto_region 2 with (first
  | (go_at_call 18;(with_reducible refine HC.out.mono ?_);rintro r w3 ⟨⟨a,rfl⟩,hb3⟩;have HB23:=hZz hb3;clear hb3))
 have HB3:=hZz (zaaZ HB23.out HB2.out HB2.out.size);have HR3:=hZz (HR2.out.below HB23.out);have HX3:=hZz (HX2.out.below HB23.out);clear x2 HC;have x3:=blk2 HX3.out;obtain ⟨gF,hgF⟩:∃ g,w3.heap.size=g:=⟨_,rfl⟩
 obtain ⟨W4,hW4⟩:∃ W,w3.alloc (.cells #[.slice S.A 3 S.ncap,.slice (some ⟨bF,offF,none⟩) 1 S.fcap,.slice none 0 0] 73)=W:=⟨_,rfl⟩
 obtain ⟨gU,hgU⟩:∃ g,W4.heap.size=g:=⟨_,rfl⟩
 obtain ⟨W5,hW5⟩:∃ W,W4.alloc (.cells #[.slice none 0 0,.slice none 0 0] 25)=W:=⟨_,rfl⟩
 have hb4:Below w3.heap.size w3 W4:=by rw [← hW4];exact zacZ _ _
 have hb5:Below w3.heap.size w3 W5:=by rw [← hW5,← hW4];exact zauY _ _ _
 have HX5:=hZz (HX3.out.below hb5);have HU5:Hid (Blk W5 gU 25 #[.slice none 0 0,.slice none 0 0]):=hZz (by rw [← hW5,← hgU];exact Blk.new _ _ _)
 have HST:Hid (FX w3 W5 S gF (.slice none 0 0) []):=hZz (by
  have hfo:Blk W4 gF 73 #[.slice S.A S.p.nodes.length S.ncap,.slice S.B S.p.funcs.length S.fcap,.slice none 0 0]:=by rw [HNL.out,HFL.out,HSB.out,← hW4,← hgF];exact Blk.new _ _ _
  exact ⟨(by rw [← hW5];exact hfo.alloc _),zcdY _ _ _ _,hb5,by rw [← hgF];exact Nat.le_refl _⟩)
 have HGU:Hid (gF+1=gU):=hZz (by rw [← hgU,← hW4,← hgF];simp);have HB5:=hZz (zaaZ hb5 HB3.out HB3.out.size);have HGE:Hid (w3.heap.size≤gU):=hZz (by rw [← hgU];exact hb4.size);have HUF:Hid (gF≠gU):=hZz (by rw [← hgU,← hW4,← hgF];simp);have HGF:=hZz hgF;have HW4:=hZz hW4;have HW5:=hZz hW5;clear hgF hW4 hgU hW5 hb4 hb5;go_upto_region 6 with (fail)
 rw [HGF.out,HW4.out]
 try rw [HGU.out]
 rw [HW5.out];clear x3 HW4 HW5 HGU;have x5:=blk2 HX5.out;go_upto_region 7 with (fail)
 try go_wp2_with (fail)
 clear x5;obtain ⟨gX,hgX⟩:∃ g,W5.heap.size=g:=⟨_,rfl⟩
 obtain ⟨W6,hW6⟩:∃ W,W5.alloc (.cells #[.string ⟨#[109,97,105,110]⟩,.slice (some ⟨kb,ko,none⟩) 1 kc,.int .i64 2] 42)=W:=⟨_,rfl⟩
 have hb6:Below W5.heap.size W5 W6:=by rw [← hW6];exact zacZ _ _
 have HX6:Hid (Blk W6 gX 42 #[.string ⟨#[109,97,105,110]⟩,.slice (some ⟨kb,ko,none⟩) 1 kc,.int .i64 2]):=hZz (by rw [← hW6,← hgX];exact Blk.new _ _ _);have HF6:=hZz (HST.out.below hb6);have HU6:=hZz (HU5.out.below hb6);have HXF:Hid (gX≠gF∧gX≠gU):=hZz (by have:=HST.out.fo.lt;have:=HU5.out.lt;omega);have HCN:=hZz (HNN.out w3 gF HB3.out W6 HF6.out);have HGX:=hZz hgX;have HW6:=hZz hW6;obtain ⟨c0,c1,c2⟩:=HD.out _ HB5.out;clear hgX hW6 hb6;refine wp_loop_rounds 2 ?_
 rw [rounds_succ];go_upto_region 9 with (fail)
 rw [HGX.out,HW6.out];clear c0 c1 c2 HW6;have x6:=blkF HX6.out
 go_upto_region 10 with (first
  | (go_at_call 34;(with_reducible refine HCN.out.mono ?_);rintro r w7 ⟨nv7,M7,c7,rfl,hm7,_,hst7,hk7⟩;have HM7:=hZz hm7;have HF7:=hZz hst7;have HX7:=hZz (hk7.blk HX6.out HXF.out.1 (fun e=>by cases e));have HU7:=hZz (hk7.blk HU6.out (Ne.symm HUF.out) (fun e=>by cases e));clear hm7 hst7 hk7))
 clear x6;obtain ⟨i1,hj,hy0,hy1,hy2⟩:=info_parts Tryz.infoStrS;obtain ⟨i2,hj2,hz0,hz1,hz2⟩:=info_parts Tryz.infoFuncX;have HXd:Hid (Blk w7.drew gX 42 #[.string ⟨#[109,97,105,110]⟩,.slice (some ⟨kb,ko,none⟩) 1 kc,.int .i64 2]):=hZz HX7.out;have u7:=blk2 HU7.out;have HBL7:=hZz (zaaZ HF7.out.bl HB3.out HB3.out.size);refine wp_region_held_drew (S:=(fun w'=>w'.cell? ⟨gX,0,none⟩=some (.string ⟨#[109,97,105,110]⟩)∧w'.cell? ⟨gX,1,none⟩=some (.slice (some ⟨kb,ko,none⟩) 1 kc))) (by kernel_rfl) (by (first | exact zabY HXd.out | exact zabY HX8.out | exact zabY HXA.out | exact zabY HX9.out | exact zabY (HX9s.out _))) (fun hHeld=>?_)
 refine tkZ (i:=0) (v:=.pointer (some ⟨gU,1,none⟩)) rfl ?_
 simp only [nz,Act.put];refine tkZ (i:=2) (v:=.pointer (some ⟨gX,0,none⟩)) rfl ?_
 simp only [nz,Act.put];refine tkZ (i:=3) (v:=.string ⟨#[109,97,105,110]⟩) rfl ?_
 simp only [nz,Act.put];refine tkZ (i:=4) (v:=.pointer (some ⟨gX,1,none⟩)) rfl ?_
 simp only [nz,Act.put];refine tkZ (i:=5) (v:=.slice (some ⟨kb,ko,none⟩) 1 kc) rfl ?_
 simp only [nz,Act.put];refine tkZ (i:=7) (v:=.int .i64 2) rfl ?_
 simp only [nz,Act.put];refine wpAnyH_ready (rs:=[1,6]) (by kernel_rfl) (by simp) ?_
 refine AllReadyH.cons (o:=_) rfl (fun K hK=>?_) ?_
 focus
  go_simp;refine hK.out _ _ (by (try dsimp only);(first | exact zabY HXd.out | exact zabY HX8.out | exact zabY HXA.out | exact zabY HX9.out | exact zabY (HX9s.out _))) (fun hHeld=>?_)
  clear hK K
  try simp only [nz,Act.put]
  refine wpAnyH_ready (rs:=[6]) (by kernel_rfl) (by simp) ?_
  refine AllReadyH.cons (o:=_) rfl (fun K hK=>?_) AllReadyH.nil
  try simp only [List.getElem_toArray,List.getElem_cons_succ,List.getElem_cons_zero]
  (rw [if_pos (by rfl)];refine wp_append_lies _ (.const (.slice none 0 0)) (.tmp 39) 40 rfl 0 9 i1 _ 1 16 underlying40 hj hy0 hy1 hy2 rfl (by decide) (.slice none 0 0) 0 [] rfl (zcdY _ _ _ _) ⟨kb,ko,none⟩ 1 kc [.string eS] rfl rfl (HKV.out _ (zaaZ (zadZ w7) HBL7.out HBL7.out.size)) (by simp [Value.oneCell']) (by decide) (by unfold maxLen;omega) (by omega) (Nat.zero_le _) _ rfl ?_;intro g8 cap8 w8 hown8 hgr8 hat8 hlt8;have HB8:Hid (Below w7.heap.size w7 w8):=hZz (zaaZ (zajY hgr8) (zadZ w7) (zadZ w7).size);simp only [Nat.zero_add] at hgr8 ⊢;have HX8:=hZz (HX7.out.below HB8.out);have u8:=blk2 (HU7.out.below HB8.out);have HBA:Hid (Below w8.heap.size w8 (w8.alloc (.cells #[.string ⟨#[109,97,105,110]⟩,.slice (some ⟨g8,0,none⟩) 1 cap8,.int .i64 2] 42))):=hZz (zacZ w8 _);have HUA:=hZz ((HU7.out.below HB8.out).below HBA.out);have HXA:=hZz (HX8.out.below HBA.out);have HNW:Hid (∀ q u,([.string ⟨#[109,97,105,110]⟩,.slice (some ⟨g8,0,none⟩) 1 cap8,.int .i64 2]:List Value)[q]? = some u→(w8.alloc (.cells #[.string ⟨#[109,97,105,110]⟩,.slice (some ⟨g8,0,none⟩) 1 cap8,.int .i64 2] 42)).cell? ((⟨w8.heap.size,0,none⟩:Addr).add q)=some u):=hZz (zapY w8 _ 42);have uA:=blk2 HUA.out;have HK8:=hZz hlt8;clear hown8 hgr8 hat8)
  refine hK.out _ _ (by (try dsimp only);(first | exact zabY HXd.out | exact zabY HX8.out | exact zabY HXA.out | exact zabY HX9.out | exact zabY (HX9s.out _))) (fun hHeld=>?_)
  clear hK K
  try simp only [nz,Act.put]
  refine tkZ (i:=8) (v:=.agg #[.string ⟨#[109,97,105,110]⟩,.slice (some ⟨g8,0,none⟩) 1 cap8,.int .i64 2]) rfl ?_
  simp only [nz,Act.put];refine wpAnyH_ready (rs:=[9]) (by kernel_rfl) (by simp) ?_
  refine AllReadyH.cons (o:=_) rfl (fun K hK=>?_) AllReadyH.nil
  go_simp;refine hK.out _ _ (by (try dsimp only);(first | exact zabY HXd.out | exact zabY HX8.out | exact zabY HXA.out | exact zabY HX9.out | exact zabY (HX9s.out _))) (fun hHeld=>?_)
  clear hK K
  try simp only [nz,Act.put]
  refine wpAnyH_ready (rs:=[10]) (by kernel_rfl) (by simp) ?_
  refine AllReadyH.cons (o:=_) rfl (fun K hK=>?_) AllReadyH.nil
  try simp only [List.getElem_toArray,List.getElem_cons_succ,List.getElem_cons_zero]
  (rw [if_pos (by rfl)];refine wp_append_lies _ (.tmp 35) (.tmp 43) 23 rfl 0 42 i2 _ 3 48 underlying23 hj2 hz0 hz1 hz2 rfl (by decide) _ 0 [] rfl (zcdY _ _ _ _) ⟨w8.heap.size,0,none⟩ 1 1 [.string ⟨#[109,97,105,110]⟩,.slice (some ⟨g8,0,none⟩) 1 cap8,.int .i64 2] ?k8 rfl HNW.out (by simp [Value.oneCell']) (by decide) (by unfold maxLen;omega) (by omega) (Nat.zero_le _) _ rfl ?_;(case k8=>first | rfl | simp);intro g9 cap9 w9 hown9 hgr9 hat9 hlt9;have HB9:=hZz (zajY hgr9);simp only [Nat.zero_add] at hgr9 ⊢;have HX9:=hZz (HXA.out.below HB9.out);have HX9s:Hid (∀ u,Blk (w9.setCell ⟨gU,1,none⟩ u) gX 42 #[.string ⟨#[109,97,105,110]⟩,.slice (some ⟨kb,ko,none⟩) 1 kc,.int .i64 2]):=hZz (fun u=>HX9.out.far (p:=⟨gU,1,none⟩) HXF.out.2 u);have HU9:=hZz (HUA.out.below HB9.out);have u9:=blk2 HU9.out;have z9:=HU9.out.frozen 1;clear hown9 hgr9 hat9)
  refine hK.out _ _ (by (try dsimp only);(first | exact zabY HXd.out | exact zabY HX8.out | exact zabY HXA.out | exact zabY HX9.out | exact zabY (HX9s.out _))) (fun hHeld=>?_)
  clear hK K
  try simp only [nz,Act.put]
  refine tkZ (i:=11) (v:=.pointer (some ⟨gU,1,none⟩)) rfl ?_
  simp only [nz,Act.put];refine wpAnyH_ready (rs:=[12]) (by kernel_rfl) (by simp) ?_
  refine AllReadyH.cons (o:=_) rfl (fun K hK=>?_) AllReadyH.nil
  go_simp;refine hK.out _ _ (by (try dsimp only);(first | exact zabY HXd.out | exact zabY HX8.out | exact zabY HXA.out | exact zabY HX9.out | exact zabY (HX9s.out _))) (fun hHeld=>?_)
  clear hK K
  try simp only [nz,Act.put]
  refine wpAnyH_done (by kernel_rfl) ?_ _
  try dsimp only [List.getElem_toArray,List.getElem_cons_succ,List.getElem_cons_zero,Act.put]
 rotate_left 1;refine AllReadyH.cons (o:=_) rfl (fun K hK=>?_) AllReadyH.nil
 try simp only [List.getElem_toArray,List.getElem_cons_succ,List.getElem_cons_zero]
 (rw [if_pos (by rfl)];refine wp_append_lies _ (.const (.slice none 0 0)) (.tmp 39) 40 rfl 0 9 i1 _ 1 16 underlying40 hj hy0 hy1 hy2 rfl (by decide) (.slice none 0 0) 0 [] rfl (zcdY _ _ _ _) ⟨kb,ko,none⟩ 1 kc [.string eS] rfl rfl (HKV.out _ (zaaZ (zadZ w7) HBL7.out HBL7.out.size)) (by simp [Value.oneCell']) (by decide) (by unfold maxLen;omega) (by omega) (Nat.zero_le _) _ rfl ?_;intro g8 cap8 w8 hown8 hgr8 hat8 hlt8;have HB8:Hid (Below w7.heap.size w7 w8):=hZz (zaaZ (zajY hgr8) (zadZ w7) (zadZ w7).size);simp only [Nat.zero_add] at hgr8 ⊢;have HX8:=hZz (HX7.out.below HB8.out);have u8:=blk2 (HU7.out.below HB8.out);have HBA:Hid (Below w8.heap.size w8 (w8.alloc (.cells #[.string ⟨#[109,97,105,110]⟩,.slice (some ⟨g8,0,none⟩) 1 cap8,.int .i64 2] 42))):=hZz (zacZ w8 _);have HUA:=hZz ((HU7.out.below HB8.out).below HBA.out);have HXA:=hZz (HX8.out.below HBA.out);have HNW:Hid (∀ q u,([.string ⟨#[109,97,105,110]⟩,.slice (some ⟨g8,0,none⟩) 1 cap8,.int .i64 2]:List Value)[q]? = some u→(w8.alloc (.cells #[.string ⟨#[109,97,105,110]⟩,.slice (some ⟨g8,0,none⟩) 1 cap8,.int .i64 2] 42)).cell? ((⟨w8.heap.size,0,none⟩:Addr).add q)=some u):=hZz (zapY w8 _ 42);have uA:=blk2 HUA.out;have HK8:=hZz hlt8;clear hown8 hgr8 hat8)
 refine hK.out _ _ (by (try dsimp only);(first | exact zabY HXd.out | exact zabY HX8.out | exact zabY HXA.out | exact zabY HX9.out | exact zabY (HX9s.out _))) (fun hHeld=>?_)
 clear hK K
 try simp only [nz,Act.put]
 refine tkZ (i:=8) (v:=.agg #[.string ⟨#[109,97,105,110]⟩,.slice (some ⟨g8,0,none⟩) 1 cap8,.int .i64 2]) rfl ?_
 simp only [nz,Act.put];refine wpAnyH_ready (rs:=[1,9]) (by kernel_rfl) (by simp) ?_
 refine AllReadyH.cons (o:=_) rfl (fun K hK=>?_) ?_
 focus
  go_simp;refine hK.out _ _ (by (try dsimp only);(first | exact zabY HXd.out | exact zabY HX8.out | exact zabY HXA.out | exact zabY HX9.out | exact zabY (HX9s.out _))) (fun hHeld=>?_)
  clear hK K
  try simp only [nz,Act.put]
  refine wpAnyH_ready (rs:=[9]) (by kernel_rfl) (by simp) ?_
  refine AllReadyH.cons (o:=_) rfl (fun K hK=>?_) AllReadyH.nil
  go_simp;refine hK.out _ _ (by (try dsimp only);(first | exact zabY HXd.out | exact zabY HX8.out | exact zabY HXA.out | exact zabY HX9.out | exact zabY (HX9s.out _))) (fun hHeld=>?_)
  clear hK K
  try simp only [nz,Act.put]
  refine wpAnyH_ready (rs:=[10]) (by kernel_rfl) (by simp) ?_
  refine AllReadyH.cons (o:=_) rfl (fun K hK=>?_) AllReadyH.nil
  try simp only [List.getElem_toArray,List.getElem_cons_succ,List.getElem_cons_zero]
  (rw [if_pos (by rfl)];refine wp_append_lies _ (.tmp 35) (.tmp 43) 23 rfl 0 42 i2 _ 3 48 underlying23 hj2 hz0 hz1 hz2 rfl (by decide) _ 0 [] rfl (zcdY _ _ _ _) ⟨w8.heap.size,0,none⟩ 1 1 [.string ⟨#[109,97,105,110]⟩,.slice (some ⟨g8,0,none⟩) 1 cap8,.int .i64 2] ?k8 rfl HNW.out (by simp [Value.oneCell']) (by decide) (by unfold maxLen;omega) (by omega) (Nat.zero_le _) _ rfl ?_;(case k8=>first | rfl | simp);intro g9 cap9 w9 hown9 hgr9 hat9 hlt9;have HB9:=hZz (zajY hgr9);simp only [Nat.zero_add] at hgr9 ⊢;have HX9:=hZz (HXA.out.below HB9.out);have HX9s:Hid (∀ u,Blk (w9.setCell ⟨gU,1,none⟩ u) gX 42 #[.string ⟨#[109,97,105,110]⟩,.slice (some ⟨kb,ko,none⟩) 1 kc,.int .i64 2]):=hZz (fun u=>HX9.out.far (p:=⟨gU,1,none⟩) HXF.out.2 u);have HU9:=hZz (HUA.out.below HB9.out);have u9:=blk2 HU9.out;have z9:=HU9.out.frozen 1;clear hown9 hgr9 hat9)
  refine hK.out _ _ (by (try dsimp only);(first | exact zabY HXd.out | exact zabY HX8.out | exact zabY HXA.out | exact zabY HX9.out | exact zabY (HX9s.out _))) (fun hHeld=>?_)
  clear hK K
  try simp only [nz,Act.put]
  refine tkZ (i:=11) (v:=.pointer (some ⟨gU,1,none⟩)) rfl ?_
  simp only [nz,Act.put];refine wpAnyH_ready (rs:=[12]) (by kernel_rfl) (by simp) ?_
  refine AllReadyH.cons (o:=_) rfl (fun K hK=>?_) AllReadyH.nil
  go_simp;refine hK.out _ _ (by (try dsimp only);(first | exact zabY HXd.out | exact zabY HX8.out | exact zabY HXA.out | exact zabY HX9.out | exact zabY (HX9s.out _))) (fun hHeld=>?_)
  clear hK K
  try simp only [nz,Act.put]
  refine wpAnyH_done (by kernel_rfl) ?_ _
  try dsimp only [List.getElem_toArray,List.getElem_cons_succ,List.getElem_cons_zero,Act.put]
 rotate_left 1;refine AllReadyH.cons (o:=_) rfl (fun K hK=>?_) AllReadyH.nil
 go_simp;refine hK.out _ _ (by (try dsimp only);(first | exact zabY HXd.out | exact zabY HX8.out | exact zabY HXA.out | exact zabY HX9.out | exact zabY (HX9s.out _))) (fun hHeld=>?_)
 clear hK K
 try simp only [nz,Act.put]
 refine wpAnyH_ready (rs:=[1]) (by kernel_rfl) (by simp) ?_
 refine AllReadyH.cons (o:=_) rfl (fun K hK=>?_) AllReadyH.nil
 go_simp;refine hK.out _ _ (by (try dsimp only);(first | exact zabY HXd.out | exact zabY HX8.out | exact zabY HXA.out | exact zabY HX9.out | exact zabY (HX9s.out _))) (fun hHeld=>?_)
 clear hK K
 try simp only [nz,Act.put]
 refine wpAnyH_ready (rs:=[10]) (by kernel_rfl) (by simp) ?_
 refine AllReadyH.cons (o:=_) rfl (fun K hK=>?_) AllReadyH.nil
 try simp only [List.getElem_toArray,List.getElem_cons_succ,List.getElem_cons_zero]
 (rw [if_pos (by rfl)];refine wp_append_lies _ (.tmp 35) (.tmp 43) 23 rfl 0 42 i2 _ 3 48 underlying23 hj2 hz0 hz1 hz2 rfl (by decide) _ 0 [] rfl (zcdY _ _ _ _) ⟨w8.heap.size,0,none⟩ 1 1 [.string ⟨#[109,97,105,110]⟩,.slice (some ⟨g8,0,none⟩) 1 cap8,.int .i64 2] ?k8 rfl HNW.out (by simp [Value.oneCell']) (by decide) (by unfold maxLen;omega) (by omega) (Nat.zero_le _) _ rfl ?_;(case k8=>first | rfl | simp);intro g9 cap9 w9 hown9 hgr9 hat9 hlt9;have HB9:=hZz (zajY hgr9);simp only [Nat.zero_add] at hgr9 ⊢;have HX9:=hZz (HXA.out.below HB9.out);have HX9s:Hid (∀ u,Blk (w9.setCell ⟨gU,1,none⟩ u) gX 42 #[.string ⟨#[109,97,105,110]⟩,.slice (some ⟨kb,ko,none⟩) 1 kc,.int .i64 2]):=hZz (fun u=>HX9.out.far (p:=⟨gU,1,none⟩) HXF.out.2 u);have HU9:=hZz (HUA.out.below HB9.out);have u9:=blk2 HU9.out;have z9:=HU9.out.frozen 1;clear hown9 hgr9 hat9)
 refine hK.out _ _ (by (try dsimp only);(first | exact zabY HXd.out | exact zabY HX8.out | exact zabY HXA.out | exact zabY HX9.out | exact zabY (HX9s.out _))) (fun hHeld=>?_)
 clear hK K
 try simp only [nz,Act.put]
 refine tkZ (i:=11) (v:=.pointer (some ⟨gU,1,none⟩)) rfl ?_
 simp only [nz,Act.put];refine wpAnyH_ready (rs:=[12]) (by kernel_rfl) (by simp) ?_
 refine AllReadyH.cons (o:=_) rfl (fun K hK=>?_) AllReadyH.nil
 go_simp;refine hK.out _ _ (by (try dsimp only);(first | exact zabY HXd.out | exact zabY HX8.out | exact zabY HXA.out | exact zabY HX9.out | exact zabY (HX9s.out _))) (fun hHeld=>?_)
 clear hK K
 try simp only [nz,Act.put]
 refine wpAnyH_done (by kernel_rfl) ?_ _
 try dsimp only [List.getElem_toArray,List.getElem_cons_succ,List.getElem_cons_zero,Act.put]
 all_goals
  have HU9s:=hZz (HU9.out.set_ 1 (.slice (some ⟨g9,0,none⟩) 1 cap9));have HF9:=hZz (((HF7.out.below HB8.out).below HBA.out).below HB9.out);have HFS:Hid (Blk (w9.setCell ⟨gU,1,none⟩ (.slice (some ⟨g9,0,none⟩) 1 cap9)) gF 73 _):=hZz (HF9.out.fo.far (p:=⟨gU,1,none⟩) HUF.out _);have HRS:Hid (Below w3.heap.size w3 (w9.setCell ⟨gU,1,none⟩ (.slice (some ⟨g9,0,none⟩) 1 cap9))):=hZz (HF9.out.bl.setCell (p:=⟨gU,1,none⟩) HGE.out _);obtain ⟨vA,vc,rfl⟩:=zajZ HF7.out.row;obtain ⟨WR,hWR⟩:∃ W,w9.setCell ⟨gU,1,none⟩ (.slice (some ⟨g9,0,none⟩) 1 cap9)=W:=⟨_,rfl⟩
  rw [hWR] at HU9s HFS HRS
  try rw [hWR]
  have hll:(M7 ++ [c7]).length=3:=by rw [List.length_append,HM7.out];rfl
  rw [hll] at HFS;clear hWR u7 u8 uA u9 z9 HF9 HU9 HB9 HX9 HX9s HBA HB8 HX8 HXA HK8 HUA HXd HNW hll
  try go_wp2_with (fail)
  rw [rounds_succ];have HBW:=hZz (zaaZ HRS.out HB3.out HB3.out.size);have hbr:Blk WR gR 25 #[.slice none 0 0,.slice none 0 0]:=HR3.out.below HRS.out;have hne:gU≠gR:=by have:=HR3.out.lt;have:=HGE.out;omega
  obtain ⟨W8,hW8⟩:∃ W,WR.setCell ⟨gU,0,none⟩ (.slice vA 3 vc)=W:=⟨_,rfl⟩
  obtain ⟨W9,hW9⟩:∃ W,(W8.setCell ⟨gR,0,none⟩ (.slice vA 3 vc)).setCell ⟨gR,1,none⟩ (.slice (some ⟨g9,0,none⟩) 1 cap9)=W:=⟨_,rfl⟩
  have HU8:Hid (Blk W8 gU 25 #[.slice vA 3 vc,.slice (some ⟨g9,0,none⟩) 1 cap9]):=hZz (by rw [← hW8];exact HU9s.out.set_ 0 _);have hr8:Blk W8 gR 25 #[.slice none 0 0,.slice none 0 0]:=by rw [← hW8];exact hbr.far (p:=⟨gU,0,none⟩) (Ne.symm hne) _
  have HR8:=hZz hr8;have HR9:Hid (Blk W9 gR 25 #[.slice vA 3 vc,.slice (some ⟨g9,0,none⟩) 1 cap9]):=hZz (by rw [← hW9];exact (hr8.set_ 0 _).set_ 1 _)
  have HBF:Hid (Below w.heap.size w W9):=hZz (by
   rw [← hW9,← hW8];exact ((HBW.out.setCell (p:=⟨gU,0,none⟩) (Nat.le_trans HB3.out.size HGE.out) _).setCell (p:=⟨gR,0,none⟩) HLE.out _).setCell (p:=⟨gR,1,none⟩) HLE.out _)
  obtain ⟨f0,f1,f2⟩:=blkF HFS.out;have u0:=blk2 HU9s.out;have zu:=HU9s.out.frozen 0;have HW8:=hZz hW8;have HW9:=hZz hW9;clear hbr hne hr8 hW8 hW9;go_upto_region 13 with (fail)
  rw [HW8.out];clear f0 f1 f2 u0 zu;obtain ⟨u0,u1⟩:=blk2 HU8.out;obtain ⟨r0,r1⟩:=blk2 HR8.out;have z8:=(fun i=>HR8.out.frozen i:∀ i,W8.frozen? ⟨gR,i,none⟩=false)
  go_wp2_with (fail)
  rw [HW9.out];clear u0 u1 r0 r1;obtain ⟨r0,r1⟩:=blk2 HR9.out;refine bodyPost_ret (by simp [results,Tryz.results15,r0,r1,go_sem];try rfl) rfl ?_
  exact HP.out _ _ _ _ _ HBF.out
end Go.Proofs.YthiimbhjpdphpaaGreatDoor
