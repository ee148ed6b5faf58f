/- U23, U24, U31, W15, U29, W17, VA -/
import Derived.Test.YthiimbhjpdphpaaGreatDoorPU22
import Derived.Test.YthiimbhjpdphpaaGreatDoorPU28
set_option linter.unusedVariables false
set_option linter.unusedSimpArgs false
namespace Go.Proofs.YthiimbhjpdphpaaGreatDoor
open Go.RowKit
set_option maxRecDepth 100000
set_option maxHeartbeats 8000000
open Go.Proofs.Tryz
section
attribute [local go_sem] zabZ
set_option maxHeartbeats 16000000 in
theorem wcheck_s (S:ProgS) (w:World) (hS:ProgV w S) (hok:ProgOk S.p):Calls prog 35 #[S.val] w fun e w'=>∃ nd,e=.returned (.tuple #[.int .i64 nd,.int .i64 (errP S.p)])∧Below w.heap.size w w':=by
 obtain ⟨A,B,ncap,fcap,p⟩:=S;dsimp only at hok ⊢;obtain ⟨R,hR⟩:∃ R,errP p=R:=⟨_,rfl⟩
 rw [hR];obtain ⟨P,hP⟩:∃ P:Ending→World→Prop,(fun e w'=>∃ nd,e=.returned (.tuple #[.int .i64 nd,.int .i64 R])∧Below w.heap.size w w')=P:=⟨_,rfl⟩
 rw [hP];have HP:Hid (∀ (nd e:Int) w',e=R→Below w.heap.size w w'→P (.returned (.tuple #[.int .i64 nd,.int .i64 e])) w'):=hZz (fun nd e w' h1 h2=>by rw [← hP];exact ⟨nd,by rw [h1],h2⟩);obtain ⟨sy,hsy⟩:∃ t,synF p=t:=⟨_,rfl⟩
 obtain ⟨F,hF⟩:∃ F,funcsF p p.funcs 0=F:=⟨_,rfl⟩
 obtain ⟨mi,hmi⟩:∃ m,findF p mainS=m:=⟨_,rfl⟩
 have hfr:funsF p=funsR p F mi:=by rw [funs_R,hF,hmi]
 have HR0:Hid (sy≠0→sy=R):=hZz (fun h=>by rw [← hR];unfold errP;rw [hsy,if_pos h]);have HR1:Hid (sy=0→(funsR p F mi).2≠0→(funsR p F mi).2=R):=hZz (fun h h2=>by rw [← hR];unfold errP;rw [hsy,hfr,if_neg (by simpa using h),if_pos h2])
 have HR2:Hid (sy=0→(funsR p F mi).2=0→(allW p p.funcs.length).err=R):=hZz (fun h h2=>by
  rw [← hR];unfold errP;rw [hsy,hfr,if_neg (by simpa using h),if_neg (by simpa using h2)];exact (all_law (by rw [hsy];exact h) (by rw [hfr];exact h2) _ (Nat.le_refl _)).1)
 have hmlt:0≤mi→mi.toNat<p.funcs.length:=fun h=>by rw [← hmi];exact findF_lt (by rw [hmi];exact h)
 have HMLT:=hZz hmlt;have HSY:Hid (∀ wx,Below w.heap.size w wx→Calls prog 51 #[(ProgS.mk A B ncap fcap p).val] wx fun e w'=>e=.returned (.int .i64 sy)∧Below wx.heap.size wx w'):=hZz (fun wx hb=>by rw [← hsy];exact rsyntax_s ⟨A,B,ncap,fcap,p⟩ wx (hS.below hb) hok);have HFD:Hid (∀ s wx,Below w.heap.size w wx→Calls prog 53 #[(ProgS.mk A B ncap fcap p).val,.string s] wx fun e w'=>e=.returned (.int .i64 (findF p s))∧Below wx.heap.size wx w'):=hZz (fun s wx hb=>wfunction_s ⟨A,B,ncap,fcap,p⟩ s wx (hS.below hb) (Nat.le_trans hok.funcs (by omega)));have HFM:Hid (∀ wx,Below w.heap.size w wx→Calls prog 53 #[(ProgS.mk A B ncap fcap p).val,.string ⟨#[109,97,105,110]⟩] wx fun e w'=>e=.returned (.int .i64 mi)∧Below wx.heap.size wx w'):=hZz (fun wx hb=>by rw [← hmi];exact HFD.out mainS wx hb);have HAL:Hid (sy=0→∀ wx,Below w.heap.size w wx→Calls prog 43 #[(ProgS.mk A B ncap fcap p).val] wx (AllP ⟨A,B,ncap,fcap,p⟩ wx (allW p p.funcs.length))):=hZz (fun h wx hb=>wall_s ⟨A,B,ncap,fcap,p⟩ wx (hS.below hb) (synF_ok (by rw [hsy];exact h)));have HF:=hZz hF;have HV:=hZz hS.funcs;have HFN:=hZz hok.fn;have hfl:=hok.funcs;unfold ProgS.val at HSY HFD HFM HAL ⊢;obtain ⟨N,hN⟩:∃ N,p.funcs.length=N:=⟨_,rfl⟩
 have HN:=hZz hN;rw [hN] at hfl hmlt;simp only [hN] at HSY HFD HFM HAL HR2 ⊢;obtain ⟨AW,hAW⟩:∃ t,allW p N=t:=⟨_,rfl⟩
 rw [hAW] at HAL HR2;obtain ⟨nn,hnn⟩:∃ t,p.nodes.length=t:=⟨_,rfl⟩
 have HNN:=hZz hnn;rw [hnn] at HSY HFD HFM HAL ⊢;obtain ⟨g,hg⟩:∃ g,w.heap.size=g:=⟨_,rfl⟩
 obtain ⟨W1,hW1⟩:∃ W,w.alloc (.cells #[.slice A nn ncap,.slice B N fcap] 25)=W:=⟨_,rfl⟩
 have HX1:Hid (Blk W1 g 25 #[.slice A nn ncap,.slice B N fcap]):=hZz (by rw [← hW1,← hg];exact Blk.new _ _ _);have HB1:Hid (Below w.heap.size w W1):=hZz (by rw [← hW1];exact zacZ _ _);have HW1:=hZz hW1;have HG:=hZz hg;clear hR hP hF hmi hS hok hN hW1 hg hsy hfr hnn hAW;go_enter func35,ntmps35
 go_upto_region 1 with fail
 rw [HG.out,HW1.out];clear HG HW1;have x1:=blk2 HX1.out
 go_upto_region 2 with (first
  | (go_at_call 51;(with_reducible refine (HSY.out _ HB1.out).mono ?_);rintro e w2 ⟨rfl,hb2⟩;have HB12:=hZz hb2;have HB2:=hZz (zaaZ hb2 HB1.out HB1.out.size);have HX2:=hZz (HX1.out.below hb2);clear hb2))
 by_cases hs0:sy=0
 case neg =>
  have hs1:(sy != 0)=true:=by simp [hs0]
  have HRE:=hZz (HR0.out hs0);clear hs0 x1;go_wp2_with (fail)
  exact HP.out _ _ _ HRE.out HB2.out
 subst hs0;clear x1 HR0;have HQ1:=hZz (HR1.out rfl);have HQ2:=hZz (HR2.out rfl);have HQA:=hZz (HAL.out rfl);clear HR1 HR2 HAL;go_wp2_with (fail)
 go_loopw [5,6,7,22] (fun iv _ _ _ wr=>∃ j:Nat,j≤N∧iv=.int .i64 j∧Hid (funcsF p (p.funcs.drop j) j=F)∧Hid (Below w.heap.size w wr)∧Hid (Blk wr g 25 #[.slice A nn ncap,.slice B N fcap])) (fun iv _ _ _ _=>N - (intOf iv).toNat)
 case atStart=>exact ⟨0,Nat.zero_le _,rfl,hZz (by rw [List.drop_zero];exact HF.out),HB2,HX2⟩
 case round =>
  obtain ⟨j,hj,rfl,HJ,HB,HX⟩:=hrel;have hj0:(0:Int)≤(j:Int):=by omega
  by_cases hlt:j<N
  ·have hlt':(j:Int)<(N:Int):=by omega
   have hkl:j<p.funcs.length:=by rw [HN.out];exact hlt
   obtain ⟨b,off,kA,kc,rfl,hbk,c0,c1,c2,hkv⟩:=zakY HV.out hkl;obtain ⟨f,hf⟩:∃ f,p.funcs[j]=f:=⟨_,rfl⟩
   have hm:=HFN.out _ (List.getElem_mem hkl)
   have hjo:F=if (lookL builtL f.name).isSome=true∨findF p f.name<j∨dupB f.params=true then some (f.body,6) else funcsF p (p.funcs.drop (j+1)) (j+1):=by
    rw [← HJ.out,List.drop_eq_getElem_cons hkl,hf];rfl
   rw [hf] at c0 c1 c2 hkv hm;obtain ⟨r,hr⟩:∃ r,lookL builtL f.name=r:=⟨_,rfl⟩
   obtain ⟨fi,hfi⟩:∃ r,findF p f.name=r:=⟨_,rfl⟩
   obtain ⟨du,hdu⟩:∃ r,dupB f.params=r:=⟨_,rfl⟩
   rw [hr,hfi,hdu] at hjo;have HBU:Hid (∀ wx,Calls prog 52 #[.string f.name] wx fun e w'=>e=.returned (.tuple #[.int .i64 (r.getD 0),.bool r.isSome])∧w'=wx):=hZz (fun wx=>by rw [← hr];exact wbuiltin_s f.name wx);have HFF:Hid (∀ wx,Below w.heap.size w wx→Calls prog 53 #[.agg #[.slice A nn ncap,.slice (some ⟨b,off,none⟩) N fcap],.string f.name] wx fun e w'=>e=.returned (.int .i64 fi)∧Below wx.heap.size wx w'):=hZz (fun wx hb=>by rw [← hfi];exact HFD.out f.name wx hb);have hpl:=hm.2.1;have HRP:Hid (∀ wx,Below w.heap.size w wx→Calls prog 54 #[.slice kA f.params.length kc] wx fun e w'=>e=.returned (.bool du)∧Below wx.heap.size wx w'):=hZz (fun wx hb=>by rw [← hdu];exact wrepeated_s f.params kA kc wx (hkv.below hb) (by omega));have HJO:=hZz hjo;obtain ⟨pn,hpn⟩:∃ n,f.params.length=n:=⟨_,rfl⟩
   rw [hpn] at c1 HRP;obtain ⟨x0,hx0⟩:∃ x,f.name=x:=⟨_,rfl⟩
   rw [hx0] at c0 HBU HFF;obtain ⟨x2,hx2⟩:∃ x,f.body=x:=⟨_,rfl⟩
   rw [hx2] at c2 HJO
   have HSS:Hid (∀ wx,Below wr.heap.size wr wx→wx.cell? ⟨g,0,none⟩=some (.slice A nn ncap)∧wx.cell? ⟨g,1,none⟩=some (.slice (some ⟨b,off,none⟩) N fcap)∧wx.cell? ⟨b,off+j * 3,none⟩=some (.string x0)∧wx.cell? ⟨b,off+j * 3+1,none⟩=some (.slice kA pn kc)):=hZz (fun wx hb=>by
    have hbw:=zaaZ hb HB.out HB.out.size;obtain ⟨z0,z1⟩:=blk2 (HX.out.below hb);exact ⟨z0,z1,(hbw.cell hbk).trans c0,(hbw.cell hbk).trans c1⟩)
   have HC2:Hid (∀ wx,Below w.heap.size w wx→wx.cell? ⟨b,off+j * 3+2,none⟩=some (.int .i64 x2)):=hZz (fun wx hb=>(hb.cell hbk).trans c2);have HBR:Hid (Below wr.heap.size wr wr):=hZz (Below.refl _ _);obtain ⟨e0,e1,e2,e3⟩:=HSS.out _ HBR.out;clear hr hfi hdu hjo hkv hm hpn hx0 hx2 c0 c1 c2 hf hpl hbk
   go_upto_region 8 with (first
    | (go_at_call 52;(with_reducible refine (HBU.out _).mono ?_);rintro e w4 ⟨rfl,hw4⟩;rw [hw4];clear hw4 w4))
   clear e0 e1 e2 e3;cases r with
   | some v =>
    clear HFF HRP;refine wp_region_held_drew (S:=(fun w'=>w'.cell? ⟨g,0,none⟩=some (.slice A nn ncap)∧w'.cell? ⟨g,1,none⟩=some (.slice (some ⟨b,off,none⟩) N fcap)∧w'.cell? ⟨b,off+j * 3,none⟩=some (.string x0)∧w'.cell? ⟨b,off+j * 3+1,none⟩=some (.slice kA pn kc))) (by kernel_rfl) (by (first | exact HSS.out _ (zadZ wr) | exact HSS.out _ HB6.out | exact HSS.out _ HB5.out)) (fun hHeld=>?_)
    refine tkZ (i:=0) (v:=.bool true) rfl ?_
    simp only [nz,Act.put];refine tkZ (i:=1) (v:=.bool true) rfl ?_
    simp only [nz,Act.put];refine tsZ (i:=2) rfl ?_
    simp only [nz,Act.put];refine tsZ (i:=3) rfl ?_
    simp only [nz,Act.put];refine tsZ (i:=4) rfl ?_
    simp only [nz,Act.put];refine tsZ (i:=5) rfl ?_
    simp only [nz,Act.put];refine tsZ (i:=6) rfl ?_
    simp only [nz,Act.put];refine tsZ (i:=7) rfl ?_
    simp only [nz,Act.put];refine tsZ (i:=8) rfl ?_
    simp only [nz,Act.put];refine tsZ (i:=9) rfl ?_
    simp only [nz,Act.put];refine tsZ (i:=10) rfl ?_
    simp only [nz,Act.put];refine tsZ (i:=11) rfl ?_
    simp only [nz,Act.put];refine tkZ (i:=12) (v:=.bool true) rfl ?_
    simp only [nz,Act.put];refine tkZ (i:=13) (v:=.bool true) rfl ?_
    simp only [nz,Act.put];refine tsZ (i:=14) rfl ?_
    simp only [nz,Act.put];refine tsZ (i:=15) rfl ?_
    simp only [nz,Act.put];refine tsZ (i:=16) rfl ?_
    simp only [nz,Act.put];refine tsZ (i:=17) rfl ?_
    simp only [nz,Act.put];refine tsZ (i:=18) rfl ?_
    simp only [nz,Act.put];refine tsZ (i:=19) rfl ?_
    simp only [nz,Act.put];refine tsZ (i:=20) rfl ?_
    simp only [nz,Act.put];refine tkZ (i:=21) (v:=.bool true) rfl ?_
    simp only [nz,Act.put];refine wpAnyH_done (by kernel_rfl) ?_ _
    try dsimp only [List.getElem_toArray,List.getElem_cons_succ,List.getElem_cons_zero,Act.put]
    have e4:=HC2.out _ HB.out.drew;have x4:=blk2 (HX.out.below (zadZ wr));go_wp2_with (fail)
    exact HP.out _ _ _ (by have h:=HQ1.out;rw [HJO.out,if_pos (.inl rfl)] at h;exact h (by show (6:Int)≠0;decide)) HB.out.drew
   | none =>
    by_cases hfj:fi<(j:Int)
    ·clear HRP
     have hjj:¬ (j:Int)≤fi:=by omega
     have HFJ:=hZz hfj;refine wp_region_held_drew (S:=(fun w'=>w'.cell? ⟨g,0,none⟩=some (.slice A nn ncap)∧w'.cell? ⟨g,1,none⟩=some (.slice (some ⟨b,off,none⟩) N fcap)∧w'.cell? ⟨b,off+j * 3,none⟩=some (.string x0)∧w'.cell? ⟨b,off+j * 3+1,none⟩=some (.slice kA pn kc))) (by kernel_rfl) (by (first | exact HSS.out _ (zadZ wr) | exact HSS.out _ HB6.out | exact HSS.out _ HB5.out)) (fun hHeld=>?_)
     refine tkZ (i:=0) (v:=.bool false) rfl ?_
     simp only [nz,Act.put];refine tkZ (i:=1) (v:=.bool false) rfl ?_
     simp only [nz,Act.put];refine tkZ (i:=2) (v:=.agg #[.slice A nn ncap,.slice (some ⟨b,off,none⟩) N fcap]) rfl ?_
     simp only [nz,Act.put];refine tkZ (i:=3) (v:=.pointer (some ⟨g,1,none⟩)) rfl ?_
     simp only [nz,Act.put];refine tkZ (i:=4) (v:=.slice (some ⟨b,off,none⟩) N fcap) rfl ?_
     simp only [nz,Act.put];refine tkZ (i:=5) (v:=.int .i64 (j:Nat)) rfl ?_
     simp only [nz,Act.put];refine tkZ (i:=6) (v:=.pointer (some ⟨b,off+j * 3,none⟩)) rfl ?_
     simp only [nz,Act.put];refine tkZ (i:=7) (v:=.pointer (some ⟨b,off+j * 3,none⟩)) rfl ?_
     simp only [nz,Act.put];refine tkZ (i:=8) (v:=.string x0) rfl ?_
     simp only [nz,Act.put];refine tkZ (i:=10) (v:=.int .i64 (j:Nat)) rfl ?_
     simp only [nz,Act.put];refine wpAnyH_ready (rs:=[9]) (by kernel_rfl) (by simp) ?_
     refine AllReadyH.cons (o:=_) rfl (fun K hK=>?_) AllReadyH.nil
     go_simp
     (go_at_call 53;((with_reducible refine (HFF.out _ HB.out.drew).mono ?_);rintro e w5 ⟨rfl,hb5⟩;have HB5:=hZz (zaaZ hb5 (zadZ wr) (zadZ wr).size);clear hb5))
     refine hK.out _ _ (by (try dsimp only);(first | exact HSS.out _ (zadZ wr) | exact HSS.out _ HB6.out | exact HSS.out _ HB5.out)) (fun hHeld=>?_)
     clear hK K
     try simp only [nz,Act.put]
     refine tkZ (i:=11) (v:=.bool true) rfl ?_
     simp only [nz,Act.put];refine tkZ (i:=12) (v:=.bool true) rfl ?_
     simp only [nz,Act.put];refine tkZ (i:=13) (v:=.bool true) rfl ?_
     simp only [nz,Act.put];refine tsZ (i:=14) rfl ?_
     simp only [nz,Act.put];refine tsZ (i:=15) rfl ?_
     simp only [nz,Act.put];refine tsZ (i:=16) rfl ?_
     simp only [nz,Act.put];refine tsZ (i:=17) rfl ?_
     simp only [nz,Act.put];refine tsZ (i:=18) rfl ?_
     simp only [nz,Act.put];refine tsZ (i:=19) rfl ?_
     simp only [nz,Act.put];refine tsZ (i:=20) rfl ?_
     simp only [nz,Act.put];refine tkZ (i:=21) (v:=.bool true) rfl ?_
     simp only [nz,Act.put];refine wpAnyH_done (by kernel_rfl) ?_ _
     try dsimp only [List.getElem_toArray,List.getElem_cons_succ,List.getElem_cons_zero,Act.put]
     have HB5w:=hZz (zaaZ HB5.out HB.out HB.out.size);have e4:=HC2.out _ HB5w.out;have x4:=blk2 (HX.out.below HB5.out);go_wp2_with (fail)
     exact HP.out _ _ _ (by have h:=HQ1.out;rw [HJO.out,if_pos (.inr (.inl HFJ.out))] at h;exact h (by show (6:Int)≠0;decide)) HB5w.out
    ·have hjj:(j:Int)≤fi:=by omega
     have HFJ:=hZz hfj;refine wp_region_held_drew (S:=(fun w'=>w'.cell? ⟨g,0,none⟩=some (.slice A nn ncap)∧w'.cell? ⟨g,1,none⟩=some (.slice (some ⟨b,off,none⟩) N fcap)∧w'.cell? ⟨b,off+j * 3,none⟩=some (.string x0)∧w'.cell? ⟨b,off+j * 3+1,none⟩=some (.slice kA pn kc))) (by kernel_rfl) (by (first | exact HSS.out _ (zadZ wr) | exact HSS.out _ HB6.out | exact HSS.out _ HB5.out)) (fun hHeld=>?_)
     refine tkZ (i:=0) (v:=.bool false) rfl ?_
     simp only [nz,Act.put];refine tkZ (i:=1) (v:=.bool false) rfl ?_
     simp only [nz,Act.put];refine tkZ (i:=2) (v:=.agg #[.slice A nn ncap,.slice (some ⟨b,off,none⟩) N fcap]) rfl ?_
     simp only [nz,Act.put];refine tkZ (i:=3) (v:=.pointer (some ⟨g,1,none⟩)) rfl ?_
     simp only [nz,Act.put];refine tkZ (i:=4) (v:=.slice (some ⟨b,off,none⟩) N fcap) rfl ?_
     simp only [nz,Act.put];refine tkZ (i:=5) (v:=.int .i64 (j:Nat)) rfl ?_
     simp only [nz,Act.put];refine tkZ (i:=6) (v:=.pointer (some ⟨b,off+j * 3,none⟩)) rfl ?_
     simp only [nz,Act.put];refine tkZ (i:=7) (v:=.pointer (some ⟨b,off+j * 3,none⟩)) rfl ?_
     simp only [nz,Act.put];refine tkZ (i:=8) (v:=.string x0) rfl ?_
     simp only [nz,Act.put];refine tkZ (i:=10) (v:=.int .i64 (j:Nat)) rfl ?_
     simp only [nz,Act.put];refine wpAnyH_ready (rs:=[9]) (by kernel_rfl) (by simp) ?_
     refine AllReadyH.cons (o:=_) rfl (fun K hK=>?_) AllReadyH.nil
     go_simp
     (go_at_call 53;((with_reducible refine (HFF.out _ HB.out.drew).mono ?_);rintro e w5 ⟨rfl,hb5⟩;have HB5:=hZz (zaaZ hb5 (zadZ wr) (zadZ wr).size);clear hb5))
     refine hK.out _ _ (by (try dsimp only);(first | exact HSS.out _ (zadZ wr) | exact HSS.out _ HB6.out | exact HSS.out _ HB5.out)) (fun hHeld=>?_)
     clear hK K
     try simp only [nz,Act.put]
     refine tkZ (i:=11) (v:=.bool false) rfl ?_
     simp only [nz,Act.put];refine tkZ (i:=12) (v:=.bool false) rfl ?_
     simp only [nz,Act.put];refine tkZ (i:=13) (v:=.bool false) rfl ?_
     simp only [nz,Act.put];refine tkZ (i:=14) (v:=.pointer (some ⟨g,1,none⟩)) rfl ?_
     simp only [nz,Act.put];refine tkZ (i:=15) (v:=.slice (some ⟨b,off,none⟩) N fcap) rfl ?_
     simp only [nz,Act.put];refine tkZ (i:=16) (v:=.int .i64 (j:Nat)) rfl ?_
     simp only [nz,Act.put];refine tkZ (i:=17) (v:=.pointer (some ⟨b,off+j * 3,none⟩)) rfl ?_
     simp only [nz,Act.put];refine tkZ (i:=18) (v:=.pointer (some ⟨b,off+j * 3+1,none⟩)) rfl ?_
     simp only [nz,Act.put];refine tkZ (i:=19) (v:=.slice kA pn kc) rfl ?_
     simp only [nz,Act.put];refine wpAnyH_ready (rs:=[20]) (by kernel_rfl) (by simp) ?_
     refine AllReadyH.cons (o:=_) rfl (fun K hK=>?_) AllReadyH.nil
     go_simp
     (go_at_call 54;((with_reducible refine (HRP.out _ (zaaZ HB5.out HB.out HB.out.size)).mono ?_);rintro e w6 ⟨rfl,hb6⟩;have HB6:=hZz (zaaZ hb6 HB5.out HB5.out.size);clear hb6))
     refine hK.out _ _ (by (try dsimp only);(first | exact HSS.out _ (zadZ wr) | exact HSS.out _ HB6.out | exact HSS.out _ HB5.out)) (fun hHeld=>?_)
     clear hK K
     try simp only [nz,Act.put]
     refine tkZ (i:=21) (v:=.bool du) rfl ?_
     simp only [nz,Act.put];refine wpAnyH_done (by kernel_rfl) ?_ _
     try dsimp only [List.getElem_toArray,List.getElem_cons_succ,List.getElem_cons_zero,Act.put]
     cases du with
     | true =>
      have HB6w:=hZz (zaaZ HB6.out HB.out HB.out.size);have e4:=HC2.out _ HB6w.out;have x4:=blk2 (HX.out.below HB6.out);go_wp2_with (fail)
      exact HP.out _ _ _ (by have h:=HQ1.out;rw [HJO.out,if_pos (.inr (.inr (by first | rfl | trivial)))] at h;exact h (by show (6:Int)≠0;decide)) HB6w.out
     | false =>
      have HB6w:=hZz (zaaZ HB6.out HB.out HB.out.size);have HX6:=hZz (HX.out.below HB6.out);go_wp2_with (fail)
      exact ⟨⟨j+1,by omega,by simp,hZz (by rw [HJO.out,if_neg (by rintro (h | h | h);cases h;have:=HFJ.out;omega;cases h)]),HB6w,HX6⟩,by simp [intOf];omega⟩
  ·have e:N=j:=by omega
   subst e;have HF0:Hid (F=none):=hZz (by rw [← HJ.out,← HN.out,List.drop_length];rfl);have hfr:funsR p F mi=if mi<0 then (-1,5) else if (p.funcs.getD mi.toNat noFunc).params.length≠1 then ((p.funcs.getD mi.toNat noFunc).body,7) else (0,0):=by rw [HF0.out];rfl
   have HRF:=hZz hfr;clear hfr;have x1:=blk2 HX.out;by_cases hm0:mi<0
   ·have HRE:Hid ((5:Int)=R):=hZz (by have h:=HQ1.out;rw [HRF.out,if_pos hm0] at h;exact h (by show (5:Int)≠0;decide))
    go_wp2_with (first
     | (go_at_call 53;(with_reducible refine (HFM.out _ HB.out).mono ?_);rintro e w5 ⟨rfl,hb5⟩;have HB5:=hZz (zaaZ hb5 HB.out HB.out.size);clear hb5))
    exact HP.out _ _ _ HRE.out HB5.out
   ·have hml:=HMLT.out (by omega)
    obtain ⟨mm,rfl⟩:∃ k:Nat,mi=(k:Int):=⟨mi.toNat,by omega⟩
    rw [Int.toNat_natCast] at hml;obtain ⟨b,off,kA,kc,rfl,hbk,_,c1,c2,hdead⟩:=zakY HV.out hml;clear hdead;have hmN:(mm:Int)<(N:Int):=by have:=HN.out;omega
    have hm00:(0:Int)≤(mm:Int):=by omega
    have hR3:funsR p F mm=if (p.funcs[mm]'hml).params.length≠1 then ((p.funcs[mm]'hml).body,7) else (0,0):=by rw [HRF.out,if_neg (by omega),Int.toNat_natCast,zaiZ hml]
    have HR3:=hZz hR3;have HC1:Hid (∀ wx,Below w.heap.size w wx→wx.cell? ⟨b,off+mm * 3+1,none⟩=some (.slice kA (p.funcs[mm]'hml).params.length kc)∧wx.cell? ⟨b,off+mm * 3+2,none⟩=some (.int .i64 (p.funcs[mm]'hml).body)):=hZz (fun wx hb=>⟨(hb.cell hbk).trans c1,(hb.cell hbk).trans c2⟩);clear c1 c2 hR3;generalize (p.funcs[mm]'hml).params.length=pl at HR3 HC1;generalize (p.funcs[mm]'hml).body=bo at HR3 HC1;by_cases hp1:pl=1
    ·subst hp1
     have HRE:Hid (AW.err=R):=hZz (HQ2.out (by rw [HR3.out,if_neg (by simp)]));clear HQ1 HQ2 HR3 HMLT hmlt
     go_upto_region 15 with (first
      | (go_at_call 53;(with_reducible refine (HFM.out _ HB.out).mono ?_);rintro e w5 ⟨rfl,hb5⟩;have HB5:=hZz (zaaZ hb5 HB.out HB.out.size);have HX5:=hZz (HX.out.below hb5);have x5:=blk2 HX5.out;obtain ⟨c1,c2⟩:=HC1.out _ HB5.out;clear hb5 x1))
     clear c1 c2
     go_upto_region 16 with (first
      | (go_at_call 43;(with_reducible refine (HQA.out _ HB5.out).mono ?_);rintro e w6 ⟨nA,nc,sA,sc,gl,he,hb6,_,_⟩;unfold WkV at he;dsimp only at he;rw [HN.out,HNN.out] at he;subst he;have HB6:=hZz (zaaZ hb6 HB5.out HB5.out.size);clear hb6 x5))
     obtain ⟨er,her⟩:∃ t,AW.err=t:=⟨_,rfl⟩
     rw [her] at HRE ⊢;clear her;generalize AW.node=wn;generalize AW.next=wnx;generalize AW.vis.length=vl;generalize AW.slot.length=sl;obtain ⟨gq,hgq⟩:∃ g,w6.heap.size=g:=⟨_,rfl⟩
     obtain ⟨W7,hW7⟩:∃ W,w6.alloc (.cells #[.slice A nn ncap,.slice (some ⟨b,off,none⟩) N fcap,.slice nA vl nc,.slice sA vl sc,.int .i64 wnx,.slice (some ⟨gl,0,none⟩) sl sl,.int .i64 wn,.int .i64 er] 86)=W:=⟨_,rfl⟩
     have hq:Blk W7 gq 86 #[.slice A nn ncap,.slice (some ⟨b,off,none⟩) N fcap,.slice nA vl nc,.slice sA vl sc,.int .i64 wnx,.slice (some ⟨gl,0,none⟩) sl sl,.int .i64 wn,.int .i64 er]:=by rw [← hW7,← hgq];exact Blk.new _ _ _
     have hb7:Below w.heap.size w W7:=by rw [← hW7];exact HB6.out.alloc HB6.out.size _
     have HB7:=hZz hb7;rw [hgq,hW7];clear hb7 hW7 hgq;have q6:=hq.cell 6 _ rfl;have q7:=hq.cell 7 _ rfl;clear hq;go_quiet (fail);have HB8:Hid (Below w.heap.size w (W7.drewN nq)):=hZz (zaaZ (zaeZ (Below.refl _ _) _) HB7.out HB7.out.size);go_wp2_with (fail)
     exact HP.out _ _ _ HRE.out HB8.out
    ·have hp1':((pl:Int) != 1)=true:=by simp;omega
     have HRE:Hid ((7:Int)=R):=hZz (by have h:=HQ1.out;rw [HR3.out,if_pos hp1] at h;exact h (by show (7:Int)≠0;decide));clear hp1
     go_wp2_with (first
      | (go_at_call 53;(with_reducible refine (HFM.out _ HB.out).mono ?_);rintro e w5 ⟨rfl,hb5⟩;have HB5:=hZz (zaaZ hb5 HB.out HB.out.size);have HX5:=hZz (HX.out.below hb5);have x5:=blk2 HX5.out;obtain ⟨c1,c2⟩:=HC1.out _ HB5.out;clear hb5 x1))
     exact HP.out _ _ _ HRE.out HB5.out
end
section
def RSlotsP (p:ProgD) (w:World) (e:Ending) (w':World):Prop :=
 ((studyF p).err≠0∧e=.returned (.tuple #[.slice none 0 0,.int .i64 (studyF p).err])∧Below w.heap.size w w') ∨
 ((studyF p).err=0∧∃ gl,e=.returned (.tuple #[.slice (some ⟨gl,0,none⟩) (studyF p).slots.length (studyF p).slots.length,.int .i64 0])∧Blk w' gl 3 ((studyF p).slots.map (Value.int .i64)).toArray∧Below w.heap.size w w')
attribute [local go_sem] zabZ
set_option maxHeartbeats 16000000 in
theorem rslots_s (S:ProgS) (w:World) (hS:ProgV w S) (hok:ProgOk S.p):Calls prog 30 #[S.val] w (RSlotsP S.p w):=by
 obtain ⟨A,B,ncap,fcap,p⟩:=S;dsimp only at hok ⊢;obtain ⟨P,hP⟩:∃ P:Ending→World→Prop,RSlotsP p w=P:=⟨_,rfl⟩
 rw [hP];obtain ⟨er,her⟩:∃ t,(studyF p).err=t:=⟨_,rfl⟩
 obtain ⟨sl,hsl⟩:∃ t,(studyF p).slots=t:=⟨_,rfl⟩
 have HP1:Hid (∀ w',er≠0→Below w.heap.size w w'→P (.returned (.tuple #[.slice none 0 0,.int .i64 er])) w'):=hZz (fun w' h1 h2=>by rw [← hP];unfold RSlotsP;rw [her];exact .inl ⟨h1,rfl,h2⟩);have HP2:Hid (∀ gl w',er=0→Blk w' gl 3 (sl.map (Value.int .i64)).toArray→Below w.heap.size w w'→P (.returned (.tuple #[.slice (some ⟨gl,0,none⟩) sl.length sl.length,.int .i64 0])) w'):=hZz (fun gl w' h1 h2 h3=>by rw [← hP];unfold RSlotsP;rw [her,hsl];exact .inr ⟨h1,gl,rfl,h2,h3⟩);have HCH:Hid (∀ wx,Below w.heap.size w wx→Calls prog 35 #[(ProgS.mk A B ncap fcap p).val] wx fun e w'=>∃ nd,e=.returned (.tuple #[.int .i64 nd,.int .i64 er])∧Below wx.heap.size wx w'):=hZz (fun wx hb=>by rw [← her,zb2Y];exact wcheck_s ⟨A,B,ncap,fcap,p⟩ wx (hS.below hb) hok)
 have HAL:Hid (er=0→∃ AW:WkD,AW.slot=sl∧∀ wx,Below w.heap.size w wx→Calls prog 43 #[(ProgS.mk A B ncap fcap p).val] wx (AllP ⟨A,B,ncap,fcap,p⟩ wx AW)):=hZz (fun h=>by
  obtain ⟨h1,h2,_,h4,h5,_⟩:=za2Y (her.trans h)
  have h6:errK p p.funcs.length=0:=by
   have:=(zb2Y p).symm.trans (her.trans h)
   unfold errP at this
   rwa [if_neg (by rw [h4];simp),if_neg (by rw [h5];simp)] at this
  refine ⟨allW p p.funcs.length,?_,fun wx hb=>wall_s ⟨A,B,ncap,fcap,p⟩ wx (hS.below hb) h1⟩
  rw [(all_law h4 h5 _ (Nat.le_refl _)).2 h6,← hsl,h2])
 unfold ProgS.val at HCH HAL ⊢;dsimp only at HCH HAL ⊢;obtain ⟨N,hN⟩:∃ N,p.funcs.length=N:=⟨_,rfl⟩
 have HN:=hZz hN;obtain ⟨nn,hnn⟩:∃ t,p.nodes.length=t:=⟨_,rfl⟩
 have HNN:=hZz hnn;rw [hN,hnn] at HCH HAL ⊢;obtain ⟨g,hg⟩:∃ g,w.heap.size=g:=⟨_,rfl⟩
 obtain ⟨W1,hW1⟩:∃ W,w.alloc (.cells #[.slice A nn ncap,.slice B N fcap] 25)=W:=⟨_,rfl⟩
 have HX1:Hid (Blk W1 g 25 #[.slice A nn ncap,.slice B N fcap]):=hZz (by rw [← hW1,← hg];exact Blk.new _ _ _);have HB1:Hid (Below w.heap.size w W1):=hZz (by rw [← hW1];exact zacZ _ _);have HW1:=hZz hW1;have HG:=hZz hg;clear hP her hsl hS hok hN hnn hg hW1;go_enter func30,ntmps30
 go_upto_region 1 with fail
 rw [HG.out,HW1.out];clear HG HW1;have x1:=blk2 HX1.out
 go_upto_region 2 with (first
  | (go_at_call 35;(with_reducible refine (HCH.out _ HB1.out).mono ?_);rintro e w2 ⟨nd,rfl,hb2⟩;have HB2:=hZz (zaaZ hb2 HB1.out HB1.out.size);have HX2:=hZz (HX1.out.below hb2);clear hb2))
 clear x1;by_cases h0:er=0
 case neg =>
  have h1:(er != 0)=true:=by simp [h0]
  have H0:=hZz h0;clear h0;go_wp2_with (fail)
  exact HP1.out _ H0.out HB2.out
 subst h0;obtain ⟨AW,hA1,hA2⟩:=HAL.out rfl;have HA1:=hZz hA1;have HA2:=hZz hA2;clear hA1 hA2 HAL;have x2:=blk2 HX2.out
 go_upto_region 5 with (first
  | (go_at_call 43;(with_reducible refine (HA2.out _ HB2.out).mono ?_);rintro e w6 ⟨nA,nc,sA,sc,gl,he,hb6,_,hl6⟩;unfold WkV at he;dsimp only at he;rw [HN.out,HNN.out] at he;subst he;have HL6:=hZz hl6;have HB6:=hZz (zaaZ hb6 HB2.out HB2.out.size);clear hb6 hl6 x2))
 rw [HA1.out] at HL6 ⊢;generalize AW.node=wn;generalize AW.next=wnx;generalize AW.err=er;generalize AW.vis.length=vl;obtain ⟨ln,hln⟩:∃ t,sl.length=t:=⟨_,rfl⟩
 rw [hln] at HP2 ⊢;obtain ⟨gq,hgq⟩:∃ g,w6.heap.size=g:=⟨_,rfl⟩
 obtain ⟨W7,hW7⟩:∃ W,w6.alloc (.cells #[.slice A nn ncap,.slice B N fcap,.slice nA vl nc,.slice sA vl sc,.int .i64 wnx,.slice (some ⟨gl,0,none⟩) ln ln,.int .i64 wn,.int .i64 er] 86)=W:=⟨_,rfl⟩
 have hq:Blk W7 gq 86 #[.slice A nn ncap,.slice B N fcap,.slice nA vl nc,.slice sA vl sc,.int .i64 wnx,.slice (some ⟨gl,0,none⟩) ln ln,.int .i64 wn,.int .i64 er]:=by rw [← hW7,← hgq];exact Blk.new _ _ _
 have HB7:Hid (Below w.heap.size w W7):=hZz (by rw [← hW7];exact HB6.out.alloc HB6.out.size _);have HL7:=hZz (HL6.out.below (w':=W7) (by rw [← hW7];exact zacZ _ _));rw [hgq,hW7];clear hW7 hgq hln;have q5:=hq.cell 5 _ rfl;clear hq;go_wp2_with (fail)
 exact HP2.out gl _ (by first | rfl | trivial) HL7.out HB7.out
end
section
theorem locals_lawZ {p:ProgD} (h0:(studyF p).err=0) {k:Nat} (hk:k<p.funcs.length) (s0:List Int):(runW p ⟨[],0,s0,0,0⟩ k).next=(studyF p).locals.getD k 0:=by
 obtain ⟨h,_,e2,hs,hf,_⟩:=za2Y h0
 have herr:errK p p.funcs.length=0:=by
  have:=zb2Y p
  rw [h0] at this;unfold errP at this;rw [if_neg (by omega),if_neg (by omega)] at this;exact this.symm
 obtain ⟨_,hT,_⟩:=h.errs p.funcs.length (Nat.le_refl _);obtain ⟨T,hT⟩:=(hT herr).2 k hk;obtain ⟨b,hb,hs1,hs2⟩:=h.func (k:=k) hk;obtain ⟨q1,q2,_,_⟩:=h.step k (by omega);obtain ⟨e1,_,_⟩:=h.errs k (by omega)
 have hz:Zeros (startS p (p.funcs.getD k noFunc) s0 (List.replicate p.nodes.length 0)) (startF p.funcs k) (b+1):=fun j _ _=>by
  show (List.replicate p.nodes.length (0:Int)).getD j 0=0;rw [List.getD_eq_getElem?_getD,List.getElem?_replicate];split <;> rfl
 have hR:=par_rel h hf hk (x:=⟨[],0,s0,0,0⟩) (sl:=s0) (er:=List.replicate p.nodes.length 0) rfl rfl
 have hlt:b<(startS p (p.funcs.getD k noFunc) s0 (List.replicate p.nodes.length 0)).errs.length:=by
  show b<(List.replicate p.nodes.length (0:Int)).length;rw [List.length_replicate];exact hb.lt
 have hl:=visit_law p 600 b _ _ _ hb.first hlt hz hR
 have hres:=zboY p _ _ _ _ hb.first hlt hz
 have hres2:=zboY p _ _ _ (startS p (p.funcs.getD k noFunc) (stepK p k).1 (stepK p k).2.1) hb.first (by show b<(stepK p k).2.1.length;rw [q2];exact hb.lt) (fun j hj1 _=>e1 j hj1)
 have hke:walkE p 600 b ⟨(startS p (p.funcs.getD k noFunc) s0 (List.replicate p.nodes.length 0)).vis,(startS p (p.funcs.getD k noFunc) s0 (List.replicate p.nodes.length 0)).next⟩=.ok T:=by rw [← hT];unfold walkKE;rw [hs2];rfl
 have hke2:walkE p 600 b ⟨(startS p (p.funcs.getD k noFunc) (stepK p k).1 (stepK p k).2.1).vis,(startS p (p.funcs.getD k noFunc) (stepK p k).1 (stepK p k).2.1).next⟩=.ok T:=by rw [← hT];unfold walkKE;rw [hs2];rfl
 rw [hke] at hl;obtain ⟨hR1,_⟩:=hl;rw [e2,(step_loc p _ k hk).1];unfold runW walkK;rw [hs2,hR1.next,(hres.ok T hke).2.1,(hres2.ok T hke2).2.1]
attribute [local go_sem] zabZ
set_option maxHeartbeats 16000000 in
theorem rlocals_s (S:ProgS) (k:Nat) (w:World) (hS:ProgV w S) (hok:ProgOk S.p) (h0:(studyF S.p).err=0) (hk:k<S.p.funcs.length):Calls prog 32 #[S.val,.int .i64 k] w fun e w'=>e=.returned (.tuple #[.int .i64 ((studyF S.p).locals.getD k 0),.int .i64 0])∧Below w.heap.size w w':=by
 obtain ⟨P,hP⟩:∃ P:Ending→World→Prop,(fun e w'=>e=.returned (.tuple #[.int .i64 ((studyF S.p).locals.getD k 0),.int .i64 0])∧Below w.heap.size w w')=P:=⟨_,rfl⟩
 rw [hP];have HP:Hid (∀ a w',a=(studyF S.p).locals.getD k 0→Below w.heap.size w w'→P (.returned (.tuple #[.int .i64 a,.int .i64 0])) w'):=hZz (fun a w' h1 h2=>by rw [← hP,h1];exact ⟨rfl,h2⟩);have HCH:Hid (∀ wx,Below w.heap.size w wx→Calls prog 35 #[S.val] wx fun e w'=>∃ nd,e=.returned (.tuple #[.int .i64 nd,.int .i64 0])∧Below wx.heap.size wx w'):=hZz (fun wx hb=>by rw [← h0,zb2Y];exact wcheck_s S wx (hS.below hb) hok);have hsy:=(za2Y h0).1;have HLW:Hid ((runW S.p (zeroX S) k).next=(studyF S.p).locals.getD k 0):=hZz (locals_lawZ h0 hk _);have hnl:=hsy.nodes;have hfl:=hsy.funcs;have HRU:Hid (∀ V wr g gl,Below w.heap.size w V→WkS S V g gl (zeroX S) wr→Calls prog 46 #[.pointer (some ⟨g,0,none⟩),.int .i64 k] wr fun r w'=>r=.returned (.tuple #[])∧WkS S V g gl (runW S.p (zeroX S) k) w'∧KV wr w'):=hZz (fun V wr g gl hb hs=>wrun_s S V g gl (zeroX S) k wr (hS.below hb) hsy hk hs (by simp [zeroX]));unfold ProgS.val at HCH ⊢;obtain ⟨gp,hgp⟩:∃ g,w.heap.size=g:=⟨_,rfl⟩
 obtain ⟨V1,hV1⟩:∃ W,w.alloc (.cells #[.slice S.A S.p.nodes.length S.ncap,.slice S.B S.p.funcs.length S.fcap] 25)=W:=⟨_,rfl⟩
 have HX1:Hid (Blk V1 gp 25 #[.slice S.A S.p.nodes.length S.ncap,.slice S.B S.p.funcs.length S.fcap]):=hZz (by rw [← hV1,← hgp];exact Blk.new _ _ _);have HB1:Hid (Below w.heap.size w V1):=hZz (by rw [← hV1];exact zacZ _ _);have hmk:=mk_rep S.p.nodes.length (by omega) 56 3 underlying56 Tryz.infoIntS;have HV1:=hZz hV1;have HGP:=hZz hgp;have hkl:(k:Int)<(S.p.funcs.length:Int):=by omega
 have hk0:(0:Int)≤(k:Int):=by omega
 clear hP hS hok h0 hsy hgp hV1 hk;go_enter func32,ntmps32
 go_upto_region 1 with fail
 rw [HGP.out,HV1.out];clear HV1 HGP;have x1:=blk2 HX1.out
 go_upto_region 4 with (first
  | (go_at_call 35;(with_reducible refine (HCH.out _ HB1.out).mono ?_);rintro e w2 ⟨nd,rfl,hb2⟩;have HB2:=hZz (zaaZ hb2 HB1.out HB1.out.size);have HX2:=hZz (HX1.out.below hb2);clear hb2 x1;have x2:=blk2 HX2.out))
 go_upto_region 6 with (fail)
 have xd:=blk2 (HX2.out.below (zadZ w2));go_cut [8] from 17 to 31 (fun u wx=>∃ g gl,u=.pointer (some ⟨g,0,none⟩)∧WkS S w2 g gl (zeroX S) wx)
 case first =>
  go_region_law (fail)
  all_goals
   go_wp2_with (fail)
   go_meet
   first
    | exact ⟨_,_,rfl,wk_new1 S w2⟩
    | exact ⟨_,_,rfl,wk_new2 S w2⟩
 case rest =>
  obtain ⟨g,gl,rfl,hs⟩:=hcut;have HR:=hZz (HRU.out w2 _ g gl HB2.out hs);clear hs hmk xd x2
  go_upto_region 8 with (first
   | (go_at_call 46;(with_reducible refine HR.out.mono ?_);rintro e w4 ⟨rfl,⟨nv,sv,hm⟩,_⟩))
  have c4:=hm.b.cell 4 _ rfl;have HBF:=hZz (zaaZ hm.bel HB2.out HB2.out.size);have HL:=hZz HLW.out;generalize (runW S.p (zeroX S) k).next=nx at c4 HL;clear hm;go_wp2_with (fail)
  exact HP.out _ _ HL.out HBF.out
end
theorem keys_own {w:World} {n0:Nat} {x:InsD} {kv:Value} (h:OKeys n0 w (x,kv)):KeysV w kv x.keys:=by
 obtain ⟨A,cap,rfl⟩:∃ A cap,kv=.slice A x.keys.length cap:=zajZ h
 refine ⟨A,cap,rfl,?_,SlAt.of_own h (map_strCs x.keys) (fun _=>rfl) (by decide)⟩
 rcases h.2 with ⟨e,e2⟩ | ⟨g,c,cur,e,_,_,hc,_⟩
 ·injection e with _ e3 e4
  have:x.keys.length=0:=e2
  omega
 ·injection e with _ _ e4
  have:x.keys.length≤c:=hc
  omega
theorem InsO.insV {n0:Nat} {w:World} {B:Option Addr} {n cap:Nat} {is:List InsD} (h:InsO n0 w (.slice B n cap) is):n=is.length∧InsV w B is:=by
 obtain ⟨N,rfl,h2,h3⟩:=h;obtain ⟨A,c,e⟩:=zajZ h2;injection e with e1 e2 e3
 subst e1 e2 e3;refine ⟨by rw [List.length_map],N.map insRow,?_,by simp,?_⟩
 ·have hs:=SlAt.of_own (c:=insRow) (l:=N) h2 rfl (fun _=>rfl) (by decide)
  unfold SlAt at hs ⊢;rw [List.map_id'];exact hs
 ·intro k hk hk'
  have hkN:k<N.length:=by simpa using hk
  refine ⟨(N[k]).2,by simp [insRow],?_⟩
  have:=keys_own (h3 (N[k]) (List.getElem_mem hkN))
  simpa using this
section
theorem tnode_all (w0:World) (S:ProgS) (sA:Option Addr) (sc gW:Nat) (e0:Int) (sl:List Int) (hC:WrCtx w0 S sA sl) (he:0≤e0∧e0≤4000):∀ f,NodeT w0 S sA sc gW e0 sl f:=by
 intro f;induction f with
 | zero=>intro i s L w hf;cases hf
 | succ f ih=>exact tnode_s w0 S sA sc gW e0 sl hC.prog hC.ok (by have:=hC.ok.funcs;omega) hC.slots hC.len he f ih
theorem insV_nil (w:World):InsV w none []:=⟨[],by intro i row h;simp at h,rfl,fun k hk=>absurd hk (by simp)⟩
attribute [local go_sem] zabZ
theorem RSlotsP.ctx {S:ProgS} {w w':World} {gl:Nat} (h0:(studyF S.p).err=0) (hS:ProgV w S) (hok:ProgOk S.p) (hb:Below w.heap.size w w') (h:Blk w' gl 3 ((studyF S.p).slots.map (Value.int .i64)).toArray):WrCtx w' S (some ⟨gl,0,none⟩) (studyF S.p).slots :=
 ⟨hS.below hb,hok,(za2Y h0).1,slAt_blk h,slots_len h0⟩
theorem WrCtx.below {w w':World} {S:ProgS} {sA:Option Addr} {sl:List Int} (h:WrCtx w S sA sl) (hb:Below w.heap.size w w'):WrCtx w' S sA sl:=⟨h.prog.below hb,h.ok,h.syn,h.slots.below hb,h.len⟩
end
structure KC (n0 gC:Nat) (w w':World):Prop where
 os:w'.os=w.os
 tape:w'.tape=w.tape
 output:w'.output=w.output
 size:w.heap.size≤w'.heap.size
 low:∀ j,j<n0→w'.heap[j]? = w.heap[j]?
 typ:∀ (g:Nat) (o:Obj),w.heap[g]? = some o→g≠gC→(∀ cs fr,o≠Obj.cells cs 50 fr)→w'.heap[g]? = some o
theorem KC.blk {n0 gC g:Nat} {t:TypeId} {cs:Array Value} {w w':World} (h:KC n0 gC w w') (hB:Blk w g t cs) (hg:g≠gC) (ht:t≠50):Blk w' g t cs :=
 h.typ g _ hB hg (fun cs' fr e=>by injection e with _ e _;exact ht e)
theorem KC.own {n0 gC base n size:Nat} {v:Value} {xs:List Value} {e t:TypeId} {cs:Array Value} {w w':World} (h:KC n0 gC w w') (hC:Blk w gC t cs) (het:t≠e) (he:e≠50) (ho:w.ownsRow base e size v n xs):w'.ownsRow base e size v n xs:=by
 obtain ⟨e1,e2⟩:=ho;refine ⟨e1,e2.imp id (fun ⟨g,cap,cur,ev,eg,eh,e4⟩=>⟨g,cap,cur,ev,eg,?_,e4⟩)⟩
 refine h.typ g _ eh (fun e9=>?_) (fun cs' fr e9=>by injection e9 with _ e9 _;exact he e9)
 subst e9;unfold Blk at hC;rw [hC] at eh;injection eh with eh
 injection eh with _ e9 _
 exact het e9
theorem WrSt.kc {w0 w w':World} {S:ProgS} {sA:Option Addr} {sn sc gW gC:Nat} {e0:Int} {L:List (InsD × Value)} {cs:Array Value} (h:WrSt w0 w S sA sn sc gW e0 L) (hk:KC w0.heap.size gC w w') (hC:Blk w gC 31 cs) (hne:gW≠gC):WrSt w0 w' S sA sn sc gW e0 L:=by
 obtain ⟨⟨iv,h1,h2⟩,h3,h4,h5⟩:=h;refine ⟨⟨iv,hk.blk h1 hne (by decide),hk.own hC (by decide) (by decide) h2⟩,fun p hp=>hk.own hC (by decide) (by decide) (h3 p hp),?_,h5⟩
 exact ⟨hk.os.trans h4.os,hk.tape.trans h4.tape,hk.output.trans h4.output,Nat.le_trans h4.size hk.size,fun j hj=>(hk.low j hj).trans (h4.block j hj)⟩
theorem KC.refl (n0 gC:Nat) (w:World):KC n0 gC w w:=⟨rfl,rfl,rfl,Nat.le_refl _,fun _ _=>rfl,fun _ _ h _ _=>h⟩
theorem KC.trans {n0 gC:Nat} {a b c:World} (h:KC n0 gC a b) (k:KC n0 gC b c):KC n0 gC a c :=
 ⟨k.os.trans h.os,k.tape.trans h.tape,k.output.trans h.output,Nat.le_trans h.size k.size,fun j hj=>(k.low j hj).trans (h.low j hj),fun g o h1 h2 h3=>k.typ g o (h.typ g o h1 h2 h3) h2 h3⟩
theorem KC.of_below {n0 gC:Nat} {w w':World} (h:Below w.heap.size w w') (hn:n0≤w.heap.size):KC n0 gC w w' :=
 ⟨h.os,h.tape,h.output,h.size,fun j hj=>h.block j (Nat.lt_of_lt_of_le hj hn),fun g o h1 _ _=>(h.block g (lt_of_block h1)).trans h1⟩
theorem KC.setC {n0 gC:Nat} {a b:World} (h:KC n0 gC a b) (hn:n0≤gC) (i:Nat) (u:Value):KC n0 gC a (b.setCell ⟨gC,i,none⟩ u) :=
 h.trans ⟨rfl,rfl,rfl,by simp,fun j hj=>Below.heap_setCell b _ u j (by show j≠gC;omega),fun g o h1 h2 _=>(Below.heap_setCell b _ u g h2).trans h1⟩
theorem KC.grown {n0 gC base n:Nat} {v:Value} {xs:List Value} {a b c:World} (h:KC n0 gC a b) (ho:b.ownsRow base 50 5 v n xs) (hn:n0≤base) (hs:n0≤b.heap.size) (hg:b.grownBy c v.ownBlock):KC n0 gC a c:=by
 refine h.trans ⟨hg.os,hg.tape,hg.output,hg.size,fun j hj=>?_,fun q o h1 h2 h3=>?_⟩
 ·exact hg.block j (by omega) (fun e=>by have:=(ho.lt j e.symm).1;omega)
 ·refine (hg.block q (lt_of_block h1) (fun e=>?_)).trans h1
  obtain ⟨_,h4⟩:=ho;rcases h4 with ⟨rfl,_⟩ | ⟨g',cap',cur,rfl,eb,eh,_⟩
  ·cases e
  ·injection e with e
   subst e;rw [eh] at h1;injection h1 with h1
   exact h3 _ _ h1.symm
theorem KW.ownR {n0 gW base n size:Nat} {v:Value} {xs:List Value} {e t:TypeId} {cs:Array Value} {w w':World} (h:KW n0 gW w w') (hW:Blk w gW t cs) (ht:t≠e) (he:e≠53) (ho:w.ownsRow base e size v n xs):w'.ownsRow base e size v n xs:=by
 obtain ⟨e1,e2⟩:=ho;refine ⟨e1,e2.imp id (fun ⟨g,cap,cur,ev,eg,eh,e4⟩=>⟨g,cap,cur,ev,eg,?_,e4⟩)⟩
 refine h.typ g _ eh (fun e9=>?_) (fun cs' fr e9=>by injection e9 with _ e9 _;exact he e9)
 subst e9;unfold Blk at hW;rw [hW] at eh;injection eh with eh
 injection eh with _ e9 _
 exact ht e9
section
theorem InsV.atK {w:World} {B:Option Addr} {l:List InsD} (h:InsV w B l) {k:Nat} (hk:k<l.length):∃ b off kA kc,B=some ⟨b,off,none⟩∧w.cell? ⟨b,off+k * 4,none⟩=some (.int .i64 l[k].op)∧w.cell? ⟨b,off+k * 4+1,none⟩=some (.int .i64 l[k].a)∧w.cell? ⟨b,off+k * 4+2,none⟩=some (.string l[k].s)∧w.cell? ⟨b,off+k * 4+3,none⟩=some (.slice kA l[k].keys.length kc)∧SlAt w kA 1 strCs l[k].keys:=by
 obtain ⟨b,off,kv,e,_,c0,c1,c2,c3,hk⟩:=h.at hk;obtain ⟨A,cap,rfl,_,hs⟩:=hk;exact ⟨b,off,A,cap,e,c0,c1,c2,c3,hs⟩
attribute [local go_sem] zabZ
theorem list_s (l:List InsD) (A B:Option Addr) (c d:Nat) (w:World) (hA:InsV w A l) (hB:InsV w B l) (hl:l.length≤100000) (hk:∀ i∈l,i.keys.length≤100000):Calls prog 13 #[.slice A l.length c,.slice B l.length d] w fun e w'=>e=.returned (.bool true)∧Below w.heap.size w w':=by
 obtain ⟨P,hP⟩:∃ P:Ending→World→Prop,(fun e w'=>e=.returned (.bool true)∧Below w.heap.size w w')=P:=⟨_,rfl⟩
 rw [hP];have HP:Hid (∀ w',Below w.heap.size w w'→P (.returned (.bool true)) w'):=hZz (fun w' h2=>by rw [← hP];exact ⟨rfl,h2⟩);have HA:=hZz hA;have HB:=hZz hB;have HK:=hZz hk;obtain ⟨n,hn⟩:∃ n,l.length=n:=⟨_,rfl⟩
 have HN:=hZz hn;rw [hn] at hl ⊢;have hnn:((n:Int) != (n:Int))=false:=by simp
 clear hP hA hB hk hn;go_enter func13,ntmps13
 go_upto_region 4 with (fail)
 try go_wp2_with (fail)
 clear hnn;go_loopw [5,13] (fun _ kv wr=>∃ k:Nat,k≤n∧kv=.int .i64 k∧Hid (Below w.heap.size w wr)) (fun _ kv _=>n - (intOf kv).toNat)
 case atStart=>exact ⟨0,Nat.zero_le _,rfl,hZz (Below.refl _ _)⟩
 case round =>
  obtain ⟨k,hk,rfl,HBw⟩:=hrel;have hk0:(0:Int)≤(k:Int):=by omega
  by_cases hlt:k<n
  ·have hlt':(k:Int)<(n:Int):=by omega
   have hkl:k<l.length:=by rw [HN.out];exact hlt
   obtain ⟨b1,o1,k1,q1,hA1,c0,c1,c2,c3,hs1⟩:=(HA.out.below HBw.out).atK hkl;obtain ⟨b2,o2,k2,q2,hA2,d0,d1,d2,d3,hs2⟩:=(HB.out.below HBw.out).atK hkl;subst hA1 hA2;have hkk:=HK.out _ (List.getElem_mem hkl);have HCS:=hZz (same_s l[k] l[k] k1 k2 q1 q2 wr.drew hs1 hs2 rfl hkk);unfold insV at HCS;obtain ⟨xo,hxo⟩:∃ x,l[k].op=x:=⟨_,rfl⟩
   obtain ⟨xa,hxa⟩:∃ x,l[k].a=x:=⟨_,rfl⟩
   obtain ⟨xs,hxs⟩:∃ x,l[k].s=x:=⟨_,rfl⟩
   obtain ⟨xk,hxk⟩:∃ x,l[k].keys.length=x:=⟨_,rfl⟩
   rw [hxo] at c0 d0 HCS;rw [hxa] at c1 d1 HCS;rw [hxs] at c2 d2 HCS;rw [hxk] at c3 d3 HCS;clear hs1 hs2 hkk hxo hxa hxs hxk hkl;go_upto_region 6 with (fail)
   go_still_tail 8,(by kernel_rfl)
   change wpList _ _ _ _ _ wr.drew
   clear c0 c1 c2 c3 d0 d1 d2 d3
   go_wp2_with (first
    | (go_at_call 24;((refine HCS.out.mono ?_);rintro e w3 ⟨rfl,hb3⟩;have HB3:=hZz (zaaZ hb3 HBw.out.drew HBw.out.size);clear hb3))
    )
   exact ⟨⟨k+1,by omega,by simp,HB3⟩,by simp [intOf];omega⟩
  ·have e9:k=n:=by omega
   subst e9;go_wp2_with (fail)
   exact HP.out _ HBw.out
end
end Go.Proofs.YthiimbhjpdphpaaGreatDoor
