/- U23 -/
import Derived.Test.YthiimbhjpdphpaaGreatDoorPU22
set_option linter.unusedVariables false
set_option linter.unusedSimpArgs false
namespace Go.Proofs.YthiimbhjpdphpaaGreatDoor
open Go.RowKit
set_option maxRecDepth 100000
open Go.Proofs.Tryz
attribute [local go_sem] zacZ
set_option maxHeartbeats 16000000 in
theorem wcheck_s (S:ProgS) (w:World) (hS:ProgV w S) (hok:ProgOk S.p):Calls prog 35 #[S.val] w fun e w'=>∃ nd,e=.returned (.tuple #[.int .i64 nd,.int .i64 (errP S.p)])∧Below w.heap.size w w':=by
 obtain ⟨A,B,ncap,fcap,p⟩:=S;dsimp only at hok ⊢;obtain ⟨R,hR⟩:∃ R,errP p=R:=⟨_,rfl⟩
 rw [hR];obtain ⟨P,hP⟩:∃ P:Ending→World→Prop,(fun e w'=>∃ nd,e=.returned (.tuple #[.int .i64 nd,.int .i64 R])∧Below w.heap.size w w')=P:=⟨_,rfl⟩
 rw [hP];have HP:Hid (∀ (nd e:Int) w',e=R→Below w.heap.size w w'→P (.returned (.tuple #[.int .i64 nd,.int .i64 e])) w'):=hZz (fun nd e w' h1 h2=>by rw [← hP];exact ⟨nd,by rw [h1],h2⟩);obtain ⟨sy,hsy⟩:∃ t,synF p=t:=⟨_,rfl⟩
 obtain ⟨F,hF⟩:∃ F,funcsF p p.funcs 0=F:=⟨_,rfl⟩
 obtain ⟨mi,hmi⟩:∃ m,findF p mainS=m:=⟨_,rfl⟩
 have hfr:funsF p=funsR p F mi:=by rw [funs_R,hF,hmi]
 have HR0:Hid (sy≠0→sy=R):=hZz (fun h=>by rw [← hR];unfold errP;rw [hsy,if_pos h]);have HR1:Hid (sy=0→(funsR p F mi).2≠0→(funsR p F mi).2=R):=hZz (fun h h2=>by rw [← hR];unfold errP;rw [hsy,hfr,if_neg (by simpa using h),if_pos h2])
 have HR2:Hid (sy=0→(funsR p F mi).2=0→(allW p p.funcs.length).err=R):=hZz (fun h h2=>by
  rw [← hR];unfold errP;rw [hsy,hfr,if_neg (by simpa using h),if_neg (by simpa using h2)];exact (all_law (by rw [hsy];exact h) (by rw [hfr];exact h2) _ (Nat.le_refl _)).1)
 have hmlt:0≤mi→mi.toNat<p.funcs.length:=fun h=>by rw [← hmi];exact findF_lt (by rw [hmi];exact h)
 have HMLT:=hZz hmlt;have HSY:Hid (∀ wx,Below w.heap.size w wx→Calls prog 51 #[(ProgS.mk A B ncap fcap p).val] wx fun e w'=>e=.returned (.int .i64 sy)∧Below wx.heap.size wx w'):=hZz (fun wx hb=>by rw [← hsy];exact rsyntax_s ⟨A,B,ncap,fcap,p⟩ wx (hS.below hb) hok);have HFD:Hid (∀ s wx,Below w.heap.size w wx→Calls prog 53 #[(ProgS.mk A B ncap fcap p).val,.string s] wx fun e w'=>e=.returned (.int .i64 (findF p s))∧Below wx.heap.size wx w'):=hZz (fun s wx hb=>wfunction_s ⟨A,B,ncap,fcap,p⟩ s wx (hS.below hb) (Nat.le_trans hok.funcs (by omega)));have HFM:Hid (∀ wx,Below w.heap.size w wx→Calls prog 53 #[(ProgS.mk A B ncap fcap p).val,.string ⟨#[109,97,105,110]⟩] wx fun e w'=>e=.returned (.int .i64 mi)∧Below wx.heap.size wx w'):=hZz (fun wx hb=>by rw [← hmi];exact HFD.out mainS wx hb);have HAL:Hid (sy=0→∀ wx,Below w.heap.size w wx→Calls prog 43 #[(ProgS.mk A B ncap fcap p).val] wx (AllP ⟨A,B,ncap,fcap,p⟩ wx (allW p p.funcs.length))):=hZz (fun h wx hb=>wall_s ⟨A,B,ncap,fcap,p⟩ wx (hS.below hb) (synF_ok (by rw [hsy];exact h)));have HF:=hZz hF;have HV:=hZz hS.funcs;have HFN:=hZz hok.fn;have hfl:=hok.funcs;unfold ProgS.val at HSY HFD HFM HAL ⊢;obtain ⟨N,hN⟩:∃ N,p.funcs.length=N:=⟨_,rfl⟩
 have HN:=hZz hN;rw [hN] at hfl hmlt;simp only [hN] at HSY HFD HFM HAL HR2 ⊢;obtain ⟨AW,hAW⟩:∃ t,allW p N=t:=⟨_,rfl⟩
 rw [hAW] at HAL HR2;obtain ⟨nn,hnn⟩:∃ t,p.nodes.length=t:=⟨_,rfl⟩
 have HNN:=hZz hnn;rw [hnn] at HSY HFD HFM HAL ⊢;obtain ⟨g,hg⟩:∃ g,w.heap.size=g:=⟨_,rfl⟩
 obtain ⟨W1,hW1⟩:∃ W,w.alloc (.cells #[.slice A nn ncap,.slice B N fcap] 25)=W:=⟨_,rfl⟩
 have HX1:Hid (Blk W1 g 25 #[.slice A nn ncap,.slice B N fcap]):=hZz (by rw [← hW1,← hg];exact Blk.new _ _ _);have HB1:Hid (Below w.heap.size w W1):=hZz (by rw [← hW1];exact zabZ _ _);have HW1:=hZz hW1;have HG:=hZz hg;clear hR hP hF hmi hS hok hN hW1 hg hsy hfr hnn hAW;go_enter func35,ntmps35
 go_upto_region 1 with fail
 rw [HG.out,HW1.out];clear HG HW1;have x1:=blk2 HX1.out
 go_upto_region 2 with (first
  | (go_at_call 51;(with_reducible refine (HSY.out _ HB1.out).mono ?_);rintro e w2 ⟨rfl,hb2⟩;have HB12:=hZz hb2;have HB2:=hZz (zaaZ hb2 HB1.out HB1.out.size);have HX2:=hZz (HX1.out.below hb2);clear hb2))
 by_cases hs0:sy=0
 case neg =>
  have hs1:(sy != 0)=true:=by simp [hs0]
  have HRE:=hZz (HR0.out hs0);clear hs0 x1;go_wp2_with (fail)
  exact HP.out _ _ _ HRE.out HB2.out
 subst hs0;clear x1 HR0;have HQ1:=hZz (HR1.out rfl);have HQ2:=hZz (HR2.out rfl);have HQA:=hZz (HAL.out rfl);clear HR1 HR2 HAL;go_wp2_with (fail)
 go_loopw [5,6,7,22] (fun iv _ _ _ wr=>∃ j:Nat,j≤N∧iv=.int .i64 j∧Hid (funcsF p (p.funcs.drop j) j=F)∧Hid (Below w.heap.size w wr)∧Hid (Blk wr g 25 #[.slice A nn ncap,.slice B N fcap])) (fun iv _ _ _ _=>N - (intOf iv).toNat)
 case atStart=>exact ⟨0,Nat.zero_le _,rfl,hZz (by rw [List.drop_zero];exact HF.out),HB2,HX2⟩
 case round =>
  obtain ⟨j,hj,rfl,HJ,HB,HX⟩:=hrel;have hj0:(0:Int)≤(j:Int):=by omega
  by_cases hlt:j<N
  ·have hlt':(j:Int)<(N:Int):=by omega
   have hkl:j<p.funcs.length:=by rw [HN.out];exact hlt
   obtain ⟨b,off,kA,kc,rfl,hbk,c0,c1,c2,hkv⟩:=zamY HV.out hkl;obtain ⟨f,hf⟩:∃ f,p.funcs[j]=f:=⟨_,rfl⟩
   have hm:=HFN.out _ (List.getElem_mem hkl)
   have hjo:F=if (lookL builtL f.name).isSome=true∨findF p f.name<j∨dupB f.params=true then some (f.body,6) else funcsF p (p.funcs.drop (j+1)) (j+1):=by
    rw [← HJ.out,List.drop_eq_getElem_cons hkl,hf];rfl
   rw [hf] at c0 c1 c2 hkv hm;obtain ⟨r,hr⟩:∃ r,lookL builtL f.name=r:=⟨_,rfl⟩
   obtain ⟨fi,hfi⟩:∃ r,findF p f.name=r:=⟨_,rfl⟩
   obtain ⟨du,hdu⟩:∃ r,dupB f.params=r:=⟨_,rfl⟩
   rw [hr,hfi,hdu] at hjo;have HBU:Hid (∀ wx,Calls prog 52 #[.string f.name] wx fun e w'=>e=.returned (.tuple #[.int .i64 (r.getD 0),.bool r.isSome])∧w'=wx):=hZz (fun wx=>by rw [← hr];exact wbuiltin_s f.name wx);have HFF:Hid (∀ wx,Below w.heap.size w wx→Calls prog 53 #[.agg #[.slice A nn ncap,.slice (some ⟨b,off,none⟩) N fcap],.string f.name] wx fun e w'=>e=.returned (.int .i64 fi)∧Below wx.heap.size wx w'):=hZz (fun wx hb=>by rw [← hfi];exact HFD.out f.name wx hb);have hpl:=hm.2.1;have HRP:Hid (∀ wx,Below w.heap.size w wx→Calls prog 54 #[.slice kA f.params.length kc] wx fun e w'=>e=.returned (.bool du)∧Below wx.heap.size wx w'):=hZz (fun wx hb=>by rw [← hdu];exact wrepeated_s f.params kA kc wx (hkv.below hb) (by omega));have HJO:=hZz hjo;obtain ⟨pn,hpn⟩:∃ n,f.params.length=n:=⟨_,rfl⟩
   rw [hpn] at c1 HRP;obtain ⟨x0,hx0⟩:∃ x,f.name=x:=⟨_,rfl⟩
   rw [hx0] at c0 HBU HFF;obtain ⟨x2,hx2⟩:∃ x,f.body=x:=⟨_,rfl⟩
   rw [hx2] at c2 HJO
   have HSS:Hid (∀ wx,Below wr.heap.size wr wx→wx.cell? ⟨g,0,none⟩=some (.slice A nn ncap)∧wx.cell? ⟨g,1,none⟩=some (.slice (some ⟨b,off,none⟩) N fcap)∧wx.cell? ⟨b,off+j * 3,none⟩=some (.string x0)∧wx.cell? ⟨b,off+j * 3+1,none⟩=some (.slice kA pn kc)):=hZz (fun wx hb=>by
    have hbw:=zaaZ hb HB.out HB.out.size;obtain ⟨z0,z1⟩:=blk2 (HX.out.below hb);exact ⟨z0,z1,(hbw.cell hbk).trans c0,(hbw.cell hbk).trans c1⟩)
   have HC2:Hid (∀ wx,Below w.heap.size w wx→wx.cell? ⟨b,off+j * 3+2,none⟩=some (.int .i64 x2)):=hZz (fun wx hb=>(hb.cell hbk).trans c2);have HBR:Hid (Below wr.heap.size wr wr):=hZz (Below.refl _ _);obtain ⟨e0,e1,e2,e3⟩:=HSS.out _ HBR.out;clear hr hfi hdu hjo hkv hm hpn hx0 hx2 c0 c1 c2 hf hpl hbk
   go_upto_region 8 with (first
    | (go_at_call 52;(with_reducible refine (HBU.out _).mono ?_);rintro e w4 ⟨rfl,hw4⟩;rw [hw4];clear hw4 w4))
   clear e0 e1 e2 e3;cases r with
   | some v =>
    clear HFF HRP;refine wp_region_held_drew (S:=(fun w'=>w'.cell? ⟨g,0,none⟩=some (.slice A nn ncap)∧w'.cell? ⟨g,1,none⟩=some (.slice (some ⟨b,off,none⟩) N fcap)∧w'.cell? ⟨b,off+j * 3,none⟩=some (.string x0)∧w'.cell? ⟨b,off+j * 3+1,none⟩=some (.slice kA pn kc))) (by kernel_rfl) (by (first | exact HSS.out _ (zadZ wr) | exact HSS.out _ HB6.out | exact HSS.out _ HB5.out)) (fun hHeld=>?_)
    refine tkZ (i:=0) (v:=.bool true) rfl ?_
    simp only [nz,Act.put];refine tkZ (i:=1) (v:=.bool true) rfl ?_
    simp only [nz,Act.put];refine tsZ (i:=2) rfl ?_
    simp only [nz,Act.put];refine tsZ (i:=3) rfl ?_
    simp only [nz,Act.put];refine tsZ (i:=4) rfl ?_
    simp only [nz,Act.put];refine tsZ (i:=5) rfl ?_
    simp only [nz,Act.put];refine tsZ (i:=6) rfl ?_
    simp only [nz,Act.put];refine tsZ (i:=7) rfl ?_
    simp only [nz,Act.put];refine tsZ (i:=8) rfl ?_
    simp only [nz,Act.put];refine tsZ (i:=9) rfl ?_
    simp only [nz,Act.put];refine tsZ (i:=10) rfl ?_
    simp only [nz,Act.put];refine tsZ (i:=11) rfl ?_
    simp only [nz,Act.put];refine tkZ (i:=12) (v:=.bool true) rfl ?_
    simp only [nz,Act.put];refine tkZ (i:=13) (v:=.bool true) rfl ?_
    simp only [nz,Act.put];refine tsZ (i:=14) rfl ?_
    simp only [nz,Act.put];refine tsZ (i:=15) rfl ?_
    simp only [nz,Act.put];refine tsZ (i:=16) rfl ?_
    simp only [nz,Act.put];refine tsZ (i:=17) rfl ?_
    simp only [nz,Act.put];refine tsZ (i:=18) rfl ?_
    simp only [nz,Act.put];refine tsZ (i:=19) rfl ?_
    simp only [nz,Act.put];refine tsZ (i:=20) rfl ?_
    simp only [nz,Act.put];refine tkZ (i:=21) (v:=.bool true) rfl ?_
    simp only [nz,Act.put];refine wpAnyH_done (by kernel_rfl) ?_ _
    try dsimp only [List.getElem_toArray,List.getElem_cons_succ,List.getElem_cons_zero,Act.put]
    have e4:=HC2.out _ HB.out.drew;have x4:=blk2 (HX.out.below (zadZ wr));go_wp2_with (fail)
    exact HP.out _ _ _ (by have h:=HQ1.out;rw [HJO.out,if_pos (.inl rfl)] at h;exact h (by show (6:Int)≠0;decide)) HB.out.drew
   | none =>
    by_cases hfj:fi<(j:Int)
    ·clear HRP
     have hjj:¬ (j:Int)≤fi:=by omega
     have HFJ:=hZz hfj;refine wp_region_held_drew (S:=(fun w'=>w'.cell? ⟨g,0,none⟩=some (.slice A nn ncap)∧w'.cell? ⟨g,1,none⟩=some (.slice (some ⟨b,off,none⟩) N fcap)∧w'.cell? ⟨b,off+j * 3,none⟩=some (.string x0)∧w'.cell? ⟨b,off+j * 3+1,none⟩=some (.slice kA pn kc))) (by kernel_rfl) (by (first | exact HSS.out _ (zadZ wr) | exact HSS.out _ HB6.out | exact HSS.out _ HB5.out)) (fun hHeld=>?_)
     refine tkZ (i:=0) (v:=.bool false) rfl ?_
     simp only [nz,Act.put];refine tkZ (i:=1) (v:=.bool false) rfl ?_
     simp only [nz,Act.put];refine tkZ (i:=2) (v:=.agg #[.slice A nn ncap,.slice (some ⟨b,off,none⟩) N fcap]) rfl ?_
     simp only [nz,Act.put];refine tkZ (i:=3) (v:=.pointer (some ⟨g,1,none⟩)) rfl ?_
     simp only [nz,Act.put];refine tkZ (i:=4) (v:=.slice (some ⟨b,off,none⟩) N fcap) rfl ?_
     simp only [nz,Act.put];refine tkZ (i:=5) (v:=.int .i64 (j:Nat)) rfl ?_
     simp only [nz,Act.put];refine tkZ (i:=6) (v:=.pointer (some ⟨b,off+j * 3,none⟩)) rfl ?_
     simp only [nz,Act.put];refine tkZ (i:=7) (v:=.pointer (some ⟨b,off+j * 3,none⟩)) rfl ?_
     simp only [nz,Act.put];refine tkZ (i:=8) (v:=.string x0) rfl ?_
     simp only [nz,Act.put];refine tkZ (i:=10) (v:=.int .i64 (j:Nat)) rfl ?_
     simp only [nz,Act.put];refine wpAnyH_ready (rs:=[9]) (by kernel_rfl) (by simp) ?_
     refine AllReadyH.cons (o:=_) rfl (fun K hK=>?_) AllReadyH.nil
     go_simp
     (go_at_call 53;((with_reducible refine (HFF.out _ HB.out.drew).mono ?_);rintro e w5 ⟨rfl,hb5⟩;have HB5:=hZz (zaaZ hb5 (zadZ wr) (zadZ wr).size);clear hb5))
     refine hK.out _ _ (by (try dsimp only);(first | exact HSS.out _ (zadZ wr) | exact HSS.out _ HB6.out | exact HSS.out _ HB5.out)) (fun hHeld=>?_)
     clear hK K
     try simp only [nz,Act.put]
     refine tkZ (i:=11) (v:=.bool true) rfl ?_
     simp only [nz,Act.put];refine tkZ (i:=12) (v:=.bool true) rfl ?_
     simp only [nz,Act.put];refine tkZ (i:=13) (v:=.bool true) rfl ?_
     simp only [nz,Act.put];refine tsZ (i:=14) rfl ?_
     simp only [nz,Act.put];refine tsZ (i:=15) rfl ?_
     simp only [nz,Act.put];refine tsZ (i:=16) rfl ?_
     simp only [nz,Act.put];refine tsZ (i:=17) rfl ?_
     simp only [nz,Act.put];refine tsZ (i:=18) rfl ?_
     simp only [nz,Act.put];refine tsZ (i:=19) rfl ?_
     simp only [nz,Act.put];refine tsZ (i:=20) rfl ?_
     simp only [nz,Act.put];refine tkZ (i:=21) (v:=.bool true) rfl ?_
     simp only [nz,Act.put];refine wpAnyH_done (by kernel_rfl) ?_ _
     try dsimp only [List.getElem_toArray,List.getElem_cons_succ,List.getElem_cons_zero,Act.put]
     have HB5w:=hZz (zaaZ HB5.out HB.out HB.out.size);have e4:=HC2.out _ HB5w.out;have x4:=blk2 (HX.out.below HB5.out);go_wp2_with (fail)
     exact HP.out _ _ _ (by have h:=HQ1.out;rw [HJO.out,if_pos (.inr (.inl HFJ.out))] at h;exact h (by show (6:Int)≠0;decide)) HB5w.out
    ·have hjj:(j:Int)≤fi:=by omega
     have HFJ:=hZz hfj;refine wp_region_held_drew (S:=(fun w'=>w'.cell? ⟨g,0,none⟩=some (.slice A nn ncap)∧w'.cell? ⟨g,1,none⟩=some (.slice (some ⟨b,off,none⟩) N fcap)∧w'.cell? ⟨b,off+j * 3,none⟩=some (.string x0)∧w'.cell? ⟨b,off+j * 3+1,none⟩=some (.slice kA pn kc))) (by kernel_rfl) (by (first | exact HSS.out _ (zadZ wr) | exact HSS.out _ HB6.out | exact HSS.out _ HB5.out)) (fun hHeld=>?_)
     refine tkZ (i:=0) (v:=.bool false) rfl ?_
     simp only [nz,Act.put];refine tkZ (i:=1) (v:=.bool false) rfl ?_
     simp only [nz,Act.put];refine tkZ (i:=2) (v:=.agg #[.slice A nn ncap,.slice (some ⟨b,off,none⟩) N fcap]) rfl ?_
     simp only [nz,Act.put];refine tkZ (i:=3) (v:=.pointer (some ⟨g,1,none⟩)) rfl ?_
     simp only [nz,Act.put];refine tkZ (i:=4) (v:=.slice (some ⟨b,off,none⟩) N fcap) rfl ?_
     simp only [nz,Act.put];refine tkZ (i:=5) (v:=.int .i64 (j:Nat)) rfl ?_
     simp only [nz,Act.put];refine tkZ (i:=6) (v:=.pointer (some ⟨b,off+j * 3,none⟩)) rfl ?_
     simp only [nz,Act.put];refine tkZ (i:=7) (v:=.pointer (some ⟨b,off+j * 3,none⟩)) rfl ?_
     simp only [nz,Act.put];refine tkZ (i:=8) (v:=.string x0) rfl ?_
     simp only [nz,Act.put];refine tkZ (i:=10) (v:=.int .i64 (j:Nat)) rfl ?_
     simp only [nz,Act.put];refine wpAnyH_ready (rs:=[9]) (by kernel_rfl) (by simp) ?_
     refine AllReadyH.cons (o:=_) rfl (fun K hK=>?_) AllReadyH.nil
     go_simp
     (go_at_call 53;((with_reducible refine (HFF.out _ HB.out.drew).mono ?_);rintro e w5 ⟨rfl,hb5⟩;have HB5:=hZz (zaaZ hb5 (zadZ wr) (zadZ wr).size);clear hb5))
     refine hK.out _ _ (by (try dsimp only);(first | exact HSS.out _ (zadZ wr) | exact HSS.out _ HB6.out | exact HSS.out _ HB5.out)) (fun hHeld=>?_)
     clear hK K
     try simp only [nz,Act.put]
     refine tkZ (i:=11) (v:=.bool false) rfl ?_
     simp only [nz,Act.put];refine tkZ (i:=12) (v:=.bool false) rfl ?_
     simp only [nz,Act.put];refine tkZ (i:=13) (v:=.bool false) rfl ?_
     simp only [nz,Act.put];refine tkZ (i:=14) (v:=.pointer (some ⟨g,1,none⟩)) rfl ?_
     simp only [nz,Act.put];refine tkZ (i:=15) (v:=.slice (some ⟨b,off,none⟩) N fcap) rfl ?_
     simp only [nz,Act.put];refine tkZ (i:=16) (v:=.int .i64 (j:Nat)) rfl ?_
     simp only [nz,Act.put];refine tkZ (i:=17) (v:=.pointer (some ⟨b,off+j * 3,none⟩)) rfl ?_
     simp only [nz,Act.put];refine tkZ (i:=18) (v:=.pointer (some ⟨b,off+j * 3+1,none⟩)) rfl ?_
     simp only [nz,Act.put];refine tkZ (i:=19) (v:=.slice kA pn kc) rfl ?_
     simp only [nz,Act.put];refine wpAnyH_ready (rs:=[20]) (by kernel_rfl) (by simp) ?_
     refine AllReadyH.cons (o:=_) rfl (fun K hK=>?_) AllReadyH.nil
     go_simp
     (go_at_call 54;((with_reducible refine (HRP.out _ (zaaZ HB5.out HB.out HB.out.size)).mono ?_);rintro e w6 ⟨rfl,hb6⟩;have HB6:=hZz (zaaZ hb6 HB5.out HB5.out.size);clear hb6))
     refine hK.out _ _ (by (try dsimp only);(first | exact HSS.out _ (zadZ wr) | exact HSS.out _ HB6.out | exact HSS.out _ HB5.out)) (fun hHeld=>?_)
     clear hK K
     try simp only [nz,Act.put]
     refine tkZ (i:=21) (v:=.bool du) rfl ?_
     simp only [nz,Act.put];refine wpAnyH_done (by kernel_rfl) ?_ _
     try dsimp only [List.getElem_toArray,List.getElem_cons_succ,List.getElem_cons_zero,Act.put]
     cases du with
     | true =>
      have HB6w:=hZz (zaaZ HB6.out HB.out HB.out.size);have e4:=HC2.out _ HB6w.out;have x4:=blk2 (HX.out.below HB6.out);go_wp2_with (fail)
      exact HP.out _ _ _ (by have h:=HQ1.out;rw [HJO.out,if_pos (.inr (.inr (by first | rfl | trivial)))] at h;exact h (by show (6:Int)≠0;decide)) HB6w.out
     | false =>
      have HB6w:=hZz (zaaZ HB6.out HB.out HB.out.size);have HX6:=hZz (HX.out.below HB6.out);go_wp2_with (fail)
      exact ⟨⟨j+1,by omega,by simp,hZz (by rw [HJO.out,if_neg (by rintro (h | h | h);cases h;have:=HFJ.out;omega;cases h)]),HB6w,HX6⟩,by simp [intOf];omega⟩
  ·have e:N=j:=by omega
   subst e;have HF0:Hid (F=none):=hZz (by rw [← HJ.out,← HN.out,List.drop_length];rfl);have hfr:funsR p F mi=if mi<0 then (-1,5) else if (p.funcs.getD mi.toNat noFunc).params.length≠1 then ((p.funcs.getD mi.toNat noFunc).body,7) else (0,0):=by rw [HF0.out];rfl
   have HRF:=hZz hfr;clear hfr;have x1:=blk2 HX.out;by_cases hm0:mi<0
   ·have HRE:Hid ((5:Int)=R):=hZz (by have h:=HQ1.out;rw [HRF.out,if_pos hm0] at h;exact h (by show (5:Int)≠0;decide))
    go_wp2_with (first
     | (go_at_call 53;(with_reducible refine (HFM.out _ HB.out).mono ?_);rintro e w5 ⟨rfl,hb5⟩;have HB5:=hZz (zaaZ hb5 HB.out HB.out.size);clear hb5))
    exact HP.out _ _ _ HRE.out HB5.out
   ·have hml:=HMLT.out (by omega)
    obtain ⟨mm,rfl⟩:∃ k:Nat,mi=(k:Int):=⟨mi.toNat,by omega⟩
    rw [Int.toNat_natCast] at hml;obtain ⟨b,off,kA,kc,rfl,hbk,_,c1,c2,hdead⟩:=zamY HV.out hml;clear hdead;have hmN:(mm:Int)<(N:Int):=by have:=HN.out;omega
    have hm00:(0:Int)≤(mm:Int):=by omega
    have hR3:funsR p F mm=if (p.funcs[mm]'hml).params.length≠1 then ((p.funcs[mm]'hml).body,7) else (0,0):=by rw [HRF.out,if_neg (by omega),Int.toNat_natCast,zakZ hml]
    have HR3:=hZz hR3;have HC1:Hid (∀ wx,Below w.heap.size w wx→wx.cell? ⟨b,off+mm * 3+1,none⟩=some (.slice kA (p.funcs[mm]'hml).params.length kc)∧wx.cell? ⟨b,off+mm * 3+2,none⟩=some (.int .i64 (p.funcs[mm]'hml).body)):=hZz (fun wx hb=>⟨(hb.cell hbk).trans c1,(hb.cell hbk).trans c2⟩);clear c1 c2 hR3;generalize (p.funcs[mm]'hml).params.length=pl at HR3 HC1;generalize (p.funcs[mm]'hml).body=bo at HR3 HC1;by_cases hp1:pl=1
    ·subst hp1
     have HRE:Hid (AW.err=R):=hZz (HQ2.out (by rw [HR3.out,if_neg (by simp)]));clear HQ1 HQ2 HR3 HMLT hmlt
     go_upto_region 15 with (first
      | (go_at_call 53;(with_reducible refine (HFM.out _ HB.out).mono ?_);rintro e w5 ⟨rfl,hb5⟩;have HB5:=hZz (zaaZ hb5 HB.out HB.out.size);have HX5:=hZz (HX.out.below hb5);have x5:=blk2 HX5.out;obtain ⟨c1,c2⟩:=HC1.out _ HB5.out;clear hb5 x1))
     clear c1 c2
     go_upto_region 16 with (first
      | (go_at_call 43;(with_reducible refine (HQA.out _ HB5.out).mono ?_);rintro e w6 ⟨nA,nc,sA,sc,gl,he,hb6,_,_⟩;unfold WkV at he;dsimp only at he;rw [HN.out,HNN.out] at he;subst he;have HB6:=hZz (zaaZ hb6 HB5.out HB5.out.size);clear hb6 x5))
     obtain ⟨er,her⟩:∃ t,AW.err=t:=⟨_,rfl⟩
     rw [her] at HRE ⊢;clear her;generalize AW.node=wn;generalize AW.next=wnx;generalize AW.vis.length=vl;generalize AW.slot.length=sl;obtain ⟨gq,hgq⟩:∃ g,w6.heap.size=g:=⟨_,rfl⟩
     obtain ⟨W7,hW7⟩:∃ W,w6.alloc (.cells #[.slice A nn ncap,.slice (some ⟨b,off,none⟩) N fcap,.slice nA vl nc,.slice sA vl sc,.int .i64 wnx,.slice (some ⟨gl,0,none⟩) sl sl,.int .i64 wn,.int .i64 er] 86)=W:=⟨_,rfl⟩
     have hq:Blk W7 gq 86 #[.slice A nn ncap,.slice (some ⟨b,off,none⟩) N fcap,.slice nA vl nc,.slice sA vl sc,.int .i64 wnx,.slice (some ⟨gl,0,none⟩) sl sl,.int .i64 wn,.int .i64 er]:=by rw [← hW7,← hgq];exact Blk.new _ _ _
     have hb7:Below w.heap.size w W7:=by rw [← hW7];exact HB6.out.alloc HB6.out.size _
     have HB7:=hZz hb7;rw [hgq,hW7];clear hb7 hW7 hgq;have q6:=hq.cell 6 _ rfl;have q7:=hq.cell 7 _ rfl;clear hq;go_quiet (fail);have HB8:Hid (Below w.heap.size w (W7.drewN nq)):=hZz (zaaZ (zaiZ (Below.refl _ _) _) HB7.out HB7.out.size);go_wp2_with (fail)
     exact HP.out _ _ _ HRE.out HB8.out
    ·have hp1':((pl:Int) != 1)=true:=by simp;omega
     have HRE:Hid ((7:Int)=R):=hZz (by have h:=HQ1.out;rw [HR3.out,if_pos hp1] at h;exact h (by show (7:Int)≠0;decide));clear hp1
     go_wp2_with (first
      | (go_at_call 53;(with_reducible refine (HFM.out _ HB.out).mono ?_);rintro e w5 ⟨rfl,hb5⟩;have HB5:=hZz (zaaZ hb5 HB.out HB.out.size);have HX5:=hZz (HX.out.below hb5);have x5:=blk2 HX5.out;obtain ⟨c1,c2⟩:=HC1.out _ HB5.out;clear hb5 x1))
     exact HP.out _ _ _ HRE.out HB5.out
end Go.Proofs.YthiimbhjpdphpaaGreatDoor
