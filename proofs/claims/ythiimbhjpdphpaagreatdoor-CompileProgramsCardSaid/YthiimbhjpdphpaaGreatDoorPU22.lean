/- U19, U20, U21, U22 -/
import Derived.Test.YthiimbhjpdphpaaGreatDoorPU25
set_option linter.unusedVariables false
set_option linter.unusedSimpArgs false
namespace Go.Proofs.YthiimbhjpdphpaaGreatDoor
open Go.RowKit
set_option maxRecDepth 100000
set_option maxHeartbeats 8000000
open Go.Proofs.Tryz
section
attribute [local go_sem] zabZ
set_option maxHeartbeats 16000000 in
theorem wvisit_s (S:ProgS) (w0:World) (g gl:Nat) (hS:ProgV w0 S) (hl:S.p.nodes.length≤1000) (hfl:S.p.funcs.length≤1000) (f:Nat) (hw:VisH S w0 g gl f):VisH S w0 g gl (f+1):=by
 intro i s x w hf hi hx hbd;have T:=zadY hf;have hsi:=zaaY hf;obtain ⟨n,hn⟩:∃ t,S.p.at_ i=t:=⟨_,rfl⟩
 have hcv:=T.cover;rw [show S.p.nodes.getD i noNode=S.p.at_ i from rfl,hn] at hcv;obtain ⟨R,hR⟩:∃ R,visitW S.p (f+1) i x=R:=⟨_,rfl⟩
 rw [hR];obtain ⟨P,hP⟩:∃ P:Ending→World→Prop,(fun r w'=>r=.returned (.tuple #[])∧WkS S w0 g gl R w'∧KV w w')=P:=⟨_,rfl⟩
 rw [hP];have HP:Hid (∀ w',WkS S w0 g gl R w'→KV w w'→P (.returned (.tuple #[])) w'):=hZz (fun w' h1 h2=>by rw [← hP];exact ⟨rfl,h1,h2⟩);obtain ⟨FIN,hFIN⟩:∃ F,n.kids.foldl (fun y k=>visitW S.p f k.toNat y) x=F:=⟨_,rfl⟩
 obtain ⟨vm,hvm⟩:∃ F,x.vis.length=F:=⟨_,rfl⟩
 have hRR:endW S.p n i vm FIN=R:=by
  rw [← hR,← hFIN,← hvm];simp only [visitW];rw [hn]
 have hq:=seqW_bd (visitW_bd S.p S.p.nodes.length f) hcv x 1 (hbd.sub (by omega));rw [hFIN,hvm] at hq;have HBF:=hZz hq.1;have HVF:=hZz hq.2;have HRR:=hZz hRR;have HFIN:=hZz hFIN;have hnl:S.p.nodes[i]=n:=by rw [← hn];exact (zaiZ hi _).symm
 have HXS:=hZz hx;obtain ⟨nv,sv,hm⟩:=hx;obtain ⟨b,off,kA,kc,iA,ic,hA,hbA,c0,c1,c2,c3,c4,hkv,hiv⟩:=zalY hS.nodes hi;rw [hnl] at c0 c1 c2 c3 c4 hiv;have hbe:=hm.bel;have d0:=cellK c0 hbe;have d1:=cellK c1 hbe;have d2:=cellK c2 hbe;have d3:=cellK c3 hbe;have d4:=cellK c4 hbe;have b0:=hm.b.cell 0 _ rfl;rw [hA] at b0;obtain ⟨nA,nc,rfl⟩:=zajZ hm.n;obtain ⟨sA,sc,rfl⟩:=zajZ hm.s;have b2:w.cell? ⟨g,2,none⟩=some (.slice nA vm nc):=by rw [← hvm];exact hm.b.cell 2 _ rfl
 have hml:=hcv.len;have HW:=hZz hw;have HCV:=hZz hcv;have HBD:=hZz hbd;have HIL:=hZz hi;have HSI:=hZz hsi;have HI:=hZz hiv;have HS:=hZz hS;have HL:=hZz hl;have HFL:=hZz hfl;have HN:=hZz hn;have hbv:=hbd.1;rw [hvm] at hbv;obtain ⟨m,hme⟩:∃ m,n.kids.length=m:=⟨_,rfl⟩
 have HM:=hZz hme;obtain ⟨q,hqe⟩:∃ q,n.keys.length=q:=⟨_,rfl⟩
 obtain ⟨nk,hnk⟩:∃ x,n.kind=x:=⟨_,rfl⟩
 have HNK:=hZz hnk;obtain ⟨nt,hnt⟩:∃ x,n.text=x:=⟨_,rfl⟩
 have HNT:=hZz hnt;obtain ⟨ni,hni⟩:∃ x,n.int=x:=⟨_,rfl⟩
 rw [hme] at d4 HI hml;rw [hqe] at d3;rw [hnk] at d0;rw [hnt] at d1;rw [hni] at d2;obtain ⟨N,hN⟩:∃ N,S.p.nodes.length=N:=⟨_,rfl⟩
 have HNN:=hZz hN;rw [hN] at b0 hi hl HBF;have hiN:(i:Int)<(N:Int):=by omega
 have hi0:(0:Int)≤(i:Int):=by omega
 have hm10:m≤1000:=by omega
 obtain ⟨gn,hgn⟩:∃ g,w.heap.size=g:=⟨_,rfl⟩
 obtain ⟨W1,hW1⟩:∃ W,w.alloc (.cells #[.int .i64 nk,.string nt,.int .i64 ni,.slice kA q kc,.slice iA m ic] 58)=W:=⟨_,rfl⟩
 have HB1:Hid (Below w.heap.size w W1):=hZz (by rw [← hW1];exact zacZ _ _);have HX1:Hid (Blk W1 gn 58 #[.int .i64 nk,.string nt,.int .i64 ni,.slice kA q kc,.slice iA m ic]):=hZz (by rw [← hW1,← hgn];exact Blk.new _ _ _);have HS1:=hZz (HXS.out.below HB1.out);have HGN:=hZz hgn;have HW1:=hZz hW1;have e2:W1.cell? ⟨g,2,none⟩=some (.slice nA vm nc):=by rw [← hvm];exact (hm.b.below HB1.out).cell 2 _ rfl
 clear hR hP hq hRR hFIN hnl hm hA hbA c0 c1 c2 c3 c4 hkv hiv hbe hw hcv hbd hsi hS hfl hn hvm hme hqe hnk hnt hni hN hgn hW1 hf T;go_enter func72,ntmps72
 go_upto_region 1 with fail
 rw [HGN.out,HW1.out];clear HGN HW1 d0 d1 d2 d3 d4 b0 b2;go_upto_region 2 with fail
 clear e2;go_wp2_with (fail)
 go_loopw [6] (fun iv wr=>∃ (j:Nat) (y:WkD) (sj:Nat),j≤m∧iv=.int .i64 j∧Hid (Cover S.p.nodes f (n.kids.drop j) sj i)∧Hid ((n.kids.drop j).foldl (fun y k=>visitW S.p f k.toNat y) y=FIN)∧Hid (WkS S w0 g gl y wr)∧Hid (KV w wr)∧Hid (Blk wr gn 58 #[.int .i64 nk,.string nt,.int .i64 ni,.slice kA q kc,.slice iA m ic])∧Hid (BdW y (i+1 - sj) S.p.nodes.length)) (fun iv _=>m - (intOf iv).toNat)
 case atStart=>exact ⟨0,x,s,Nat.zero_le _,rfl,hZz (by rw [List.drop_zero];exact HCV.out),hZz (by rw [List.drop_zero];exact HFIN.out),HS1,hZz (KV.of_below HB1.out),HX1,HBD⟩
 case round =>
  obtain ⟨j,y,sj,hj,rfl,HC,HE,HSj,HKj,HX,HBj⟩:=hrel;have hj0:(0:Int)≤(j:Int):=by omega
  have x1:=blk5n HX.out;by_cases hlt:j<m
  ·have hlt':(j:Int)<(m:Int):=by omega
   have hkl:j<n.kids.length:=by rw [HM.out];exact hlt
   obtain ⟨bI,offI,rfl,hbI,ck⟩:=HI.out.cell hkl;obtain ⟨_,_,hmj⟩:=HSj.out;have hbw0:=hmj.bel
   replace ck:=(hbw0.cell hbI).trans ck
   have hcv:=HC.out;have hfl:=HE.out;rw [List.drop_eq_getElem_cons hkl] at hcv hfl;obtain ⟨z,hz⟩:∃ x,n.kids[j]=x:=⟨_,rfl⟩
   rw [hz] at hcv hfl ck;cases hcv with
   | cons _ _ mk _ hf1 hc2 =>
    simp only [List.foldl_cons,Int.toNat_natCast] at hfl;have q1:=zaaY hf1;have q2:=hc2.le';have hmN:mk<S.p.nodes.length:=by have:=HIL.out;omega
    have HCW:=hZz (HW.out mk sj y wr hf1 hmN HSj.out (HBj.out.sub (by omega)));obtain ⟨y2,hy2⟩:∃ D,visitW S.p f mk y=D:=⟨_,rfl⟩
    have HBk:Hid (BdW y2 (i+1 - (mk+1)) S.p.nodes.length):=hZz (by rw [← hy2];exact (visitW_bd S.p S.p.nodes.length f mk sj y _ hf1 (HBj.out.sub (by omega))).1);rw [hy2] at HCW hfl;have HC2:=hZz hc2;have HE2:=hZz hfl;clear hfl hz hf1 hc2 hbI hmN hy2 hbw0 hmj q1 q2
    go_wp2_with (first
     | (go_at_call 72;(with_reducible refine HCW.out.mono ?_);rintro r2 w2 ⟨rfl,hs2,hg2⟩;have HS2:=hZz hs2;have HG2:=hZz (HKj.out.trans hg2);have HX2:=hZz (hg2.blk HX.out (by decide) (by decide) (by decide));clear hs2 hg2))
    exact ⟨⟨j+1,y2,mk+1,by omega,by simp,HC2,HE2,HS2,HG2,HX2,HBk⟩,by simp [intOf];omega⟩
  ·have e:m=j:=by omega
   subst e;have HF2:Hid (y=FIN):=hZz (by rw [← HE.out,← HM.out,List.drop_length];rfl);rw [HF2.out] at HSj;clear HE HC HBj HF2 HW HCV HBD HXS HS1 HB1 HX1 HFIN hlt;have hk:nk=19∨nk=5∨nk=14∨nk=13∨nk=11∨nk=12∨(nk≠19∧nk≠5∧nk≠14∧nk≠13∧nk≠11∧nk≠12):=by omega
   rcases hk with rfl | rfl | rfl | rfl | rfl | rfl | ⟨k0,k1,k2,k3,k4,k5⟩
   ·-- a block
    have HRF:Hid (R={ FIN with vis:=FIN.vis.take vm }):=hZz (by rw [← HRR.out];unfold endW;rw [HNK.out,if_pos rfl]);obtain ⟨nv,sv,hm⟩:=HSj.out;obtain ⟨nA,nc,rfl⟩:=zajZ hm.n;obtain ⟨sA,sc,rfl⟩:=zajZ hm.s;have hcut:=hm.cut HVF.out;have HCT:=hZz hcut;have y2:wr.cell? ⟨g,2,none⟩=some (.slice nA FIN.vis.length nc):=hm.b.cell 2 _ rfl;have y3:wr.cell? ⟨g,3,none⟩=some (.slice sA FIN.vis.length sc):=hm.b.cell 3 _ rfl;have z2:=hm.b.frozen 2;have hb1:=hm.b.set_ 2 (.slice nA vm nc);have v3:(wr.setCell ⟨g,2,none⟩ (.slice nA vm nc)).cell? ⟨g,3,none⟩=some (.slice sA FIN.vis.length sc):=hb1.cell 3 _ rfl;have u3:=hb1.frozen 3;have hvn:=HVF.out;have hcn:=own_capU hm.n;have hcs:=own_capU hm.s;have hbf:=HBF.out.1;obtain ⟨vl,hvl⟩:∃ t,FIN.vis.length=t:=⟨_,rfl⟩
    rw [hvl] at y2 y3 v3 hvn hcn hcs hbf;clear hvl hcut hb1 hm;go_wp2_with (fail)
    go_returns;exact HP.out _ (by rw [HRF.out];exact HCT.out.1) (HKj.out.trans HCT.out.2)
   ·-- a variable
    have HVI:=hZz (fun wx (hb:Below wr.heap.size wr wx)=>visible_s S w0 g gl FIN nt wx (HSj.out.below hb) (by have:=HBF.out.1;omega));have HRF:Hid (R=varW FIN i nt):=hZz (by rw [← HRR.out];unfold endW;rw [HNK.out,if_neg (by decide),if_pos (by decide),HNT.out]);obtain ⟨v,hv⟩:∃ t,visW FIN.vis nt=t:=⟨_,rfl⟩
    have HRV:Hid (R=if v<0 then failW (setW FIN i v) i 4 else setW FIN i v):=hZz (by rw [HRF.out];unfold varW;rw [hv]);rw [hv] at HVI;clear hv HRF;go_upto_region 12 with fail
    have HSD:Hid (WkS S w0 g gl FIN wr.drew):=hZz (HSj.out.below (zadZ wr));have xd:=blk5n (HX.out.below (zadZ wr));have HKD:=hZz (HKj.out.trans (KV.of_below (zadZ wr)));obtain ⟨_,_,hm⟩:=HSj.out;have s5:=hm.b.cell 5 _ rfl;obtain ⟨_,_,hmd⟩:=HSD.out;have t5:=hmd.b.cell 5 _ rfl;rw [HBF.out.2.2.2] at s5 t5;have tz:=hmd.l.frozen i;obtain ⟨ov,tc⟩:∃ u,wr.drew.cell? ⟨gl,i,none⟩=some u:=⟨_,hmd.l.cell i (.int .i64 (FIN.slot[i]'(by rw [HBF.out.2.2.2];exact hi))) (by simp)⟩
    clear hm hmd;go_region_law (go_simp;go_at_call 103;((refine (HVI.out _ (zadZ wr)).mono ?_);rintro e w3 ⟨rfl,hw3⟩;rw [hw3];clear hw3 w3))
    all_goals
     have hset:=HSj.out.slot i v;obtain ⟨W5,hW5⟩:∃ W,(wr.setCell ⟨gl,i,none⟩ (.int .i64 v)).drew=W:=⟨_,rfl⟩
     have HS5:Hid (WkS S w0 g gl (setW FIN i v) W5):=hZz (by rw [← hW5];exact hset.1.below (zadZ _));have HK5:Hid (KV w W5):=hZz (by rw [← hW5];exact (HKj.out.trans hset.2).trans (KV.of_below (zadZ _)));rw [hW5];obtain ⟨_,_,hm5⟩:=HS5.out;have u5:=hm5.b.cell 5 _ rfl;have uc:=hm5.l.cell i (.int .i64 v) (by simp [setW,HBF.out.2.2.2,hi]);rw [show (setW FIN i v).slot.length=N by simp [setW,HBF.out.2.2.2]] at u5;have HFA:=hZz (wfail_s S w0 g gl (setW FIN i v) i 4 W5 HS5.out);clear hset hW5 hm5 xd s5 t5 tz tc x1;by_cases hv0:v<0
     ·have HRG:Hid (R=failW (setW FIN i v) i 4):=hZz (by rw [HRV.out,if_pos hv0])
      go_wp2_with (first
       | (go_at_call 104;(with_reducible refine HFA.out.mono ?_);rintro e w6 ⟨rfl,hs6,hk6⟩;have HS6:=hZz hs6;have HK6:=hZz (HK5.out.trans hk6);clear hs6 hk6))
      go_returns;exact HP.out _ (by rw [HRG.out];exact HS6.out) HK6.out
     ·have HRG:Hid (R=setW FIN i v):=hZz (by rw [HRV.out,if_neg hv0])
      go_wp2_with (fail)
      go_returns;exact HP.out _ (by rw [HRG.out];exact HS5.out) HK5.out
   ·-- a variable
    have HVI:=hZz (fun wx (hb:Below wr.heap.size wr wx)=>visible_s S w0 g gl FIN nt wx (HSj.out.below hb) (by have:=HBF.out.1;omega));have HRF:Hid (R=varW FIN i nt):=hZz (by rw [← HRR.out];unfold endW;rw [HNK.out,if_neg (by decide),if_pos (by decide),HNT.out]);obtain ⟨v,hv⟩:∃ t,visW FIN.vis nt=t:=⟨_,rfl⟩
    have HRV:Hid (R=if v<0 then failW (setW FIN i v) i 4 else setW FIN i v):=hZz (by rw [HRF.out];unfold varW;rw [hv]);rw [hv] at HVI;clear hv HRF;go_upto_region 12 with fail
    have HSD:Hid (WkS S w0 g gl FIN wr.drew):=hZz (HSj.out.below (zadZ wr));have xd:=blk5n (HX.out.below (zadZ wr));have HKD:=hZz (HKj.out.trans (KV.of_below (zadZ wr)));obtain ⟨_,_,hm⟩:=HSj.out;have s5:=hm.b.cell 5 _ rfl;obtain ⟨_,_,hmd⟩:=HSD.out;have t5:=hmd.b.cell 5 _ rfl;rw [HBF.out.2.2.2] at s5 t5;have tz:=hmd.l.frozen i;obtain ⟨ov,tc⟩:∃ u,wr.drew.cell? ⟨gl,i,none⟩=some u:=⟨_,hmd.l.cell i (.int .i64 (FIN.slot[i]'(by rw [HBF.out.2.2.2];exact hi))) (by simp)⟩
    clear hm hmd;go_region_law (go_simp;go_at_call 103;((refine (HVI.out _ (zadZ wr)).mono ?_);rintro e w3 ⟨rfl,hw3⟩;rw [hw3];clear hw3 w3))
    all_goals
     have hset:=HSj.out.slot i v;obtain ⟨W5,hW5⟩:∃ W,(wr.setCell ⟨gl,i,none⟩ (.int .i64 v)).drew=W:=⟨_,rfl⟩
     have HS5:Hid (WkS S w0 g gl (setW FIN i v) W5):=hZz (by rw [← hW5];exact hset.1.below (zadZ _));have HK5:Hid (KV w W5):=hZz (by rw [← hW5];exact (HKj.out.trans hset.2).trans (KV.of_below (zadZ _)));rw [hW5];obtain ⟨_,_,hm5⟩:=HS5.out;have u5:=hm5.b.cell 5 _ rfl;have uc:=hm5.l.cell i (.int .i64 v) (by simp [setW,HBF.out.2.2.2,hi]);rw [show (setW FIN i v).slot.length=N by simp [setW,HBF.out.2.2.2]] at u5;have HFA:=hZz (wfail_s S w0 g gl (setW FIN i v) i 4 W5 HS5.out);clear hset hW5 hm5 xd s5 t5 tz tc x1;by_cases hv0:v<0
     ·have HRG:Hid (R=failW (setW FIN i v) i 4):=hZz (by rw [HRV.out,if_pos hv0])
      go_wp2_with (first
       | (go_at_call 104;(with_reducible refine HFA.out.mono ?_);rintro e w6 ⟨rfl,hs6,hk6⟩;have HS6:=hZz hs6;have HK6:=hZz (HK5.out.trans hk6);clear hs6 hk6))
      go_returns;exact HP.out _ (by rw [HRG.out];exact HS6.out) HK6.out
     ·have HRG:Hid (R=setW FIN i v):=hZz (by rw [HRV.out,if_neg hv0])
      go_wp2_with (fail)
      go_returns;exact HP.out _ (by rw [HRG.out];exact HS5.out) HK5.out
   ·-- a declaration
    have HVI:=hZz (visible_s S w0 g gl FIN nt wr HSj.out (by have:=HBF.out.1;omega));have HRF:Hid (R=letW FIN i nt):=hZz (by rw [← HRR.out];unfold endW;rw [HNK.out,if_neg (by decide),if_neg (by decide),if_pos rfl,HNT.out]);obtain ⟨v,hv⟩:∃ t,visW FIN.vis nt=t:=⟨_,rfl⟩
    have HVV:=hZz hv;rw [hv] at HVI;clear hv;have HF6:=hZz (wfail_s S w0 g gl FIN i 6 wr HSj.out);have HF3:=hZz (wfail_s S w0 g gl FIN i 3 wr HSj.out);have y4:wr.cell? ⟨g,4,none⟩=some (.int .i64 FIN.next):=by obtain ⟨_,_,hm⟩:=HSj.out;exact hm.b.cell 4 _ rfl
    by_cases hv0:0≤v
    ·have HV0:=hZz hv0
     go_upto_region 20 with (first
      | (go_at_call 103;(with_reducible refine HVI.out.mono ?_);rintro e w3 ⟨rfl,hw3⟩;rw [hw3];clear hw3 w3)
      | (go_at_call 104;(with_reducible refine HF6.out.mono ?_);rintro e w6 ⟨rfl,hs6,hk6⟩;have HS6:=hZz hs6;have HK6:=hZz (HKj.out.trans hk6);have HX6:=hZz (hk6.blk HX.out (by decide) (by decide) (by decide));clear hs6 hk6))
     clear x1 y4;have HSV0:Hid (WkS S w0 g gl (failW FIN i 6) w6):=HS6;have HSD:Hid (WkS S w0 g gl (failW FIN i 6) w6.drew):=hZz (HSV0.out.below (zadZ w6));have HBC:Hid (BdW (failW FIN i 6) 1 N):=hZz ((zbuY HBF.out).1);have xv:=blk5n HX6.out;have xd:=blk5n (HX6.out.below (zadZ w6));have HKD:=hZz (HK6.out.trans (KV.of_below (zadZ w6)));have HRW:Hid (R=setW (declW (failW FIN i 6) nt) i ((failW FIN i 6)).next):=hZz (by rw [HRF.out];unfold letW letC;rw [HVV.out,if_pos (by have:=HV0.out;omega)]);obtain ⟨_,_,hm⟩:=HSV0.out;have s5:=hm.b.cell 5 _ rfl;obtain ⟨_,_,hmd⟩:=HSD.out;have t5:=hmd.b.cell 5 _ rfl;rw [HBC.out.2.2.2] at s5 t5;have hbl:=HBC.out;unfold BdW at hbl;have HDE:=hZz (zbgY S w0 g gl (failW FIN i 6) nt w6.drew HSD.out (by omega) (by omega));have HLN:Hid (i<(declW (failW FIN i 6) nt).slot.length):=hZz (by show i<((failW FIN i 6)).slot.length;rw [hbl.2.2.2];exact hi);have HLM:Hid ((declW (failW FIN i 6) nt).slot.length=N):=hZz hbl.2.2.2;obtain ⟨cn,hcn⟩:∃ t,((failW FIN i 6)).next=t:=⟨_,rfl⟩
     rw [hcn] at HDE HRW;clear hm hmd hbl hcn;go_region_law (go_simp;go_at_call 71;((refine HDE.out.mono ?_);rintro e w3 ⟨rfl,hs3,hk3⟩;have HS3:=hZz hs3;have HK3:=hZz (HKD.out.trans hk3);obtain ⟨_,_,hm3⟩:=hs3;have a5:=hm3.b.cell 5 _ rfl;rw [HLM.out] at a5;have az:=hm3.l.frozen i;obtain ⟨ov,ac⟩:∃ u,w3.cell? ⟨gl,i,none⟩=some u:=⟨_,hm3.l.cell i (.int .i64 ((declW (failW FIN i 6) nt).slot[i]'HLN.out)) (by simp)⟩;clear hk3 hm3))
     all_goals
      clear xv xd s5 t5;have hset:=HS3.out.slot i cn;have HS5:=hZz hset.1;have HK5:=hZz (HK3.out.trans hset.2);clear hset a5 az ac;go_wp2_with (fail)
      go_returns;exact HP.out _ (by rw [HRW.out];exact HS5.out) HK5.out
    have HV0:=hZz hv0;by_cases hn0:32≤FIN.next
    ·obtain ⟨fx,hfx⟩:∃ t,FIN.next=t:=⟨_,rfl⟩
     have HFX:=hZz hfx;have HN0:=hZz hn0;rw [hfx] at y4 hn0;clear hfx
     go_upto_region 20 with (first
      | (go_at_call 103;(with_reducible refine HVI.out.mono ?_);rintro e w3 ⟨rfl,hw3⟩;rw [hw3];clear hw3 w3)
      | (go_at_call 104;(with_reducible refine HF3.out.mono ?_);rintro e w6 ⟨rfl,hs6,hk6⟩;have HS6:=hZz hs6;have HK6:=hZz (HKj.out.trans hk6);have HX6:=hZz (hk6.blk HX.out (by decide) (by decide) (by decide));clear hs6 hk6))
     clear x1 y4;have HSV0:Hid (WkS S w0 g gl (failW FIN i 3) w6):=HS6;have HSD:Hid (WkS S w0 g gl (failW FIN i 3) w6.drew):=hZz (HSV0.out.below (zadZ w6));have HBC:Hid (BdW (failW FIN i 3) 1 N):=hZz ((zbuY HBF.out).1);have xv:=blk5n HX6.out;have xd:=blk5n (HX6.out.below (zadZ w6));have HKD:=hZz (HK6.out.trans (KV.of_below (zadZ w6)));have HRW:Hid (R=setW (declW (failW FIN i 3) nt) i ((failW FIN i 3)).next):=hZz (by rw [HRF.out];unfold letW letC;rw [HVV.out,if_neg (by have:=HV0.out;omega),if_pos (by have:=HN0.out;have:=HFX.out;omega)]);obtain ⟨_,_,hm⟩:=HSV0.out;have s5:=hm.b.cell 5 _ rfl;obtain ⟨_,_,hmd⟩:=HSD.out;have t5:=hmd.b.cell 5 _ rfl;rw [HBC.out.2.2.2] at s5 t5;have hbl:=HBC.out;unfold BdW at hbl;have HDE:=hZz (zbgY S w0 g gl (failW FIN i 3) nt w6.drew HSD.out (by omega) (by omega));have HLN:Hid (i<(declW (failW FIN i 3) nt).slot.length):=hZz (by show i<((failW FIN i 3)).slot.length;rw [hbl.2.2.2];exact hi);have HLM:Hid ((declW (failW FIN i 3) nt).slot.length=N):=hZz hbl.2.2.2;obtain ⟨cn,hcn⟩:∃ t,((failW FIN i 3)).next=t:=⟨_,rfl⟩
     rw [hcn] at HDE HRW;clear hm hmd hbl hcn;go_region_law (go_simp;go_at_call 71;((refine HDE.out.mono ?_);rintro e w3 ⟨rfl,hs3,hk3⟩;have HS3:=hZz hs3;have HK3:=hZz (HKD.out.trans hk3);obtain ⟨_,_,hm3⟩:=hs3;have a5:=hm3.b.cell 5 _ rfl;rw [HLM.out] at a5;have az:=hm3.l.frozen i;obtain ⟨ov,ac⟩:∃ u,w3.cell? ⟨gl,i,none⟩=some u:=⟨_,hm3.l.cell i (.int .i64 ((declW (failW FIN i 3) nt).slot[i]'HLN.out)) (by simp)⟩;clear hk3 hm3))
     all_goals
      clear xv xd s5 t5;have hset:=HS3.out.slot i cn;have HS5:=hZz hset.1;have HK5:=hZz (HK3.out.trans hset.2);clear hset a5 az ac;go_wp2_with (fail)
      go_returns;exact HP.out _ (by rw [HRW.out];exact HS5.out) HK5.out
    ·obtain ⟨fx,hfx⟩:∃ t,FIN.next=t:=⟨_,rfl⟩
     have HFX:=hZz hfx;have HN0:=hZz hn0;rw [hfx] at y4 hn0;clear hfx
     go_upto_region 20 with (first
      | (go_at_call 103;(with_reducible refine HVI.out.mono ?_);rintro e w3 ⟨rfl,hw3⟩;rw [hw3];clear hw3 w3))
     clear x1 y4;have HSV0:Hid (WkS S w0 g gl FIN wr):=HSj;have HSD:Hid (WkS S w0 g gl FIN wr.drew):=hZz (HSV0.out.below (zadZ wr));have HBC:Hid (BdW FIN 1 N):=hZz (HBF.out);have xv:=blk5n HX.out;have xd:=blk5n (HX.out.below (zadZ wr));have HKD:=hZz (HKj.out.trans (KV.of_below (zadZ wr)));have HRW:Hid (R=setW (declW FIN nt) i (FIN).next):=hZz (by rw [HRF.out];unfold letW letC;rw [HVV.out,if_neg (by have:=HV0.out;omega),if_neg (by have:=HN0.out;have:=HFX.out;omega)]);obtain ⟨_,_,hm⟩:=HSV0.out;have s5:=hm.b.cell 5 _ rfl;obtain ⟨_,_,hmd⟩:=HSD.out;have t5:=hmd.b.cell 5 _ rfl;rw [HBC.out.2.2.2] at s5 t5;have hbl:=HBC.out;unfold BdW at hbl;have HDE:=hZz (zbgY S w0 g gl FIN nt wr.drew HSD.out (by omega) (by omega));have HLN:Hid (i<(declW FIN nt).slot.length):=hZz (by show i<(FIN).slot.length;rw [hbl.2.2.2];exact hi);have HLM:Hid ((declW FIN nt).slot.length=N):=hZz hbl.2.2.2;obtain ⟨cn,hcn⟩:∃ t,(FIN).next=t:=⟨_,rfl⟩
     rw [hcn] at HDE HRW;clear hm hmd hbl hcn;go_region_law (go_simp;go_at_call 71;((refine HDE.out.mono ?_);rintro e w3 ⟨rfl,hs3,hk3⟩;have HS3:=hZz hs3;have HK3:=hZz (HKD.out.trans hk3);obtain ⟨_,_,hm3⟩:=hs3;have a5:=hm3.b.cell 5 _ rfl;rw [HLM.out] at a5;have az:=hm3.l.frozen i;obtain ⟨ov,ac⟩:∃ u,w3.cell? ⟨gl,i,none⟩=some u:=⟨_,hm3.l.cell i (.int .i64 ((declW FIN nt).slot[i]'HLN.out)) (by simp)⟩;clear hk3 hm3))
     all_goals
      clear xv xd s5 t5;have hset:=HS3.out.slot i cn;have HS5:=hZz hset.1;have HK5:=hZz (HK3.out.trans hset.2);clear hset a5 az ac;go_wp2_with (fail)
      go_returns;exact HP.out _ (by rw [HRW.out];exact HS5.out) HK5.out
   ·-- a call
    have HCA:=hZz (kcall_s S w0 g gl FIN i wr HS.out HSj.out HIL.out (by rw [HNN.out];exact hl) HFL.out);have HRF:Hid (R=callW S.p (S.p.at_ i) i FIN):=hZz (by rw [← HRR.out];unfold endW callW;rw [HN.out,HNK.out,if_neg (by decide),if_neg (by decide),if_neg (by decide),if_pos (by decide)])
    go_wp2_with (first
     | (go_at_call 105;(with_reducible refine HCA.out.mono ?_);rintro e w6 ⟨rfl,hs6,hk6⟩;have HS6:=hZz hs6;have HK6:=hZz (HKj.out.trans hk6);clear hs6 hk6))
    go_returns;exact HP.out _ (by rw [HRF.out];exact HS6.out) HK6.out
   ·-- a call
    have HCA:=hZz (kcall_s S w0 g gl FIN i wr HS.out HSj.out HIL.out (by rw [HNN.out];exact hl) HFL.out);have HRF:Hid (R=callW S.p (S.p.at_ i) i FIN):=hZz (by rw [← HRR.out];unfold endW callW;rw [HN.out,HNK.out,if_neg (by decide),if_neg (by decide),if_neg (by decide),if_pos (by decide)])
    go_wp2_with (first
     | (go_at_call 105;(with_reducible refine HCA.out.mono ?_);rintro e w6 ⟨rfl,hs6,hk6⟩;have HS6:=hZz hs6;have HK6:=hZz (HKj.out.trans hk6);clear hs6 hk6))
    go_returns;exact HP.out _ (by rw [HRF.out];exact HS6.out) HK6.out
   ·have e0:(nk == 19)=false:=by simp [k0]
    have e1:(nk == 5)=false:=by simp [k1]
    have e2:(nk == 14)=false:=by simp [k2]
    have e3:(nk == 13)=false:=by simp [k3]
    have e4:(nk == 11)=false:=by simp [k4]
    have e5:(nk == 12)=false:=by simp [k5]
    have HRF:Hid (R=FIN):=hZz (by rw [← HRR.out];unfold endW;rw [HNK.out,if_neg k0,if_neg (by omega),if_neg k3,if_neg (by omega)]);clear k0 k1 k2 k3 k4 k5;go_wp2_with (fail)
    go_returns;exact HP.out _ (by rw [HRF.out];exact HSj.out) HKj.out
end
section
theorem wvisit_all (S:ProgS) (w0:World) (g gl:Nat) (hS:ProgV w0 S) (hl:S.p.nodes.length≤1000) (hfl:S.p.funcs.length≤1000):∀ f,VisH S w0 g gl f
 | 0=>fun i s x w h=>by cases h
 | f+1=>wvisit_s S w0 g gl hS hl hfl f (wvisit_all S w0 g gl hS hl hfl f)
theorem KeysV.keyU {w:World} {A:Option Addr} {n cap:Nat} {l:List ByteArray} (h:KeysV w (.slice A n cap) l) {i:Nat} (hi:i<l.length):∃ b off,A=some ⟨b,off,none⟩∧w.cell? ⟨b,off+i,none⟩=some (.string l[i]):=by
 obtain ⟨A',cap',h1,h2,h3⟩:=h;injection h1 with e1 e2 e3
 subst e1;obtain ⟨b,off,rfl,_⟩:=h3.ptr hi;have c0:=h3.cell0 hi (v:=.string l[i]) rfl;simp only [Nat.mul_one] at c0;exact ⟨b,off,rfl,c0⟩
theorem pairsN_len (ps:List ByteArray) (n:Nat):(pairsN ps n).length=n:=by simp [pairsN]
theorem WkS.clear {S:ProgS} {w0 w:World} {g gl:Nat} {x:WkD} (h:WkS S w0 g gl x w) :
  WkS S w0 g gl { x with vis:=[],next:=0 } (((w.setCell ⟨g,2,none⟩ (.slice none 0 0)).setCell ⟨g,3,none⟩ (.slice none 0 0)).setCell ⟨g,4,none⟩ (.int .i64 0))∧KV w (((w.setCell ⟨g,2,none⟩ (.slice none 0 0)).setCell ⟨g,3,none⟩ (.slice none 0 0)).setCell ⟨g,4,none⟩ (.int .i64 0)):=by
 obtain ⟨nv,sv,h⟩:=h;have k1:=KT.set h.b 2 (.slice none 0 0);have b1:=h.b.set_ 2 (.slice none 0 0);have k2:=KT.set b1 3 (.slice none 0 0);have b2:=b1.set_ 3 (.slice none 0 0);have k3:=KT.set b2 4 (.int .i64 0);have lo:∀ k,some g=some k→w0.heap.size≤k:=fun k hk=>by injection hk with hk;have:=h.gb;omega
 have hb1:=h.bel.grown (zaeY w g 2 (.slice none 0 0)) h.bel.size lo;have hb2:=hb1.grown (zaeY _ g 3 (.slice none 0 0)) hb1.size lo;exact ⟨⟨.slice none 0 0,.slice none 0 0,b2.set_ 4 (.int .i64 0),⟨rfl,.inl ⟨rfl,rfl⟩⟩,⟨rfl,.inl ⟨rfl,rfl⟩⟩,k3.blk (by decide) (k2.blk (by decide) (k1.blk (by decide) h.l)),fun k hk=>(by cases hk),hb2.grown (zaeY _ g 4 (.int .i64 0)) hb2.size lo,h.gb,h.gc⟩,((KV.wlk k1).trans (KV.wlk k2)).trans (KV.wlk k3)⟩
def atW (x:WkD) (ps:List ByteArray) (i:Nat):WkD:={ x with vis:=pairsN ps i,next:=(i:Int) }
attribute [local go_sem] zabZ
set_option maxHeartbeats 16000000 in
theorem wrun_s (S:ProgS) (w0:World) (g gl:Nat) (x:WkD) (k:Nat) (w:World) (hS:ProgV w0 S) (hsy:SynOk S.p) (hk:k<S.p.funcs.length) (h:WkS S w0 g gl x w) (hx:x.slot.length=S.p.nodes.length) :
  Calls prog 46 #[.pointer (some ⟨g,0,none⟩),.int .i64 k] w fun r w'=>r=.returned (.tuple #[])∧WkS S w0 g gl (runW S.p x k) w'∧KV w w':=by
 obtain ⟨R,hR⟩:∃ R,runW S.p x k=R:=⟨_,rfl⟩
 rw [hR];obtain ⟨P,hP⟩:∃ P:Ending→World→Prop,(fun r w'=>r=.returned (.tuple #[])∧WkS S w0 g gl R w'∧KV w w')=P:=⟨_,rfl⟩
 rw [hP];have HP:Hid (∀ w',WkS S w0 g gl R w'→KV w w'→P (.returned (.tuple #[])) w'):=hZz (fun w' h1 h2=>by rw [← hP];exact ⟨rfl,h1,h2⟩);obtain ⟨b,hb,hs1,hs2⟩:=hsy.func hk;have hpl:=hsy.params _ (List.getElem_mem hk);have hnl:=hsy.nodes;have hfn:=hsy.funcs;obtain ⟨F,hF⟩:∃ t,S.p.funcs[k]=t:=⟨_,rfl⟩
 have hgd:S.p.funcs.getD k noFunc=F:=by rw [zaiZ hk,hF]
 rw [hF] at hb hpl;have hbody:=hb.body;obtain ⟨bF,oF,kF,kfc,hBe,hbF,f0,f1,f2,hkf⟩:=zakY hS.funcs hk;rw [hF] at f0 f1 f2 hkf;rw [hbody] at f2;obtain ⟨ps,hps⟩:∃ t,F.params=t:=⟨_,rfl⟩
 rw [hps] at f1 hkf hpl
 have hRR:R=visitW S.p 600 b (atW x ps ps.length):=by
  rw [← hR];unfold runW;rw [hgd,hbody,Int.toNat_natCast,parW_eq,hps];rfl
 have HRR:=hZz hRR;have hcl:=h.clear;obtain ⟨_,_,hm⟩:=h;have HBE:=hZz (fun wx (hb:Below w0.heap.size w0 wx)=>(And.intro (cellK f1 hb) (cellK f2 hb)));have HKF:=hZz hkf;have z2:=hm.b.frozen 2;have hb1:=hm.b.set_ 2 (.slice none 0 0);have z3:=hb1.frozen 3;have hb2:=hb1.set_ 3 (.slice none 0 0);have z4:=hb2.frozen 4;have y2:=hm.b.cell 2 _ rfl;have y3:=hb1.cell 3 _ rfl;have y4:=hb2.cell 4 _ rfl;have HC:=hZz hcl.1;have HK:=hZz hcl.2
 have hB0:∀ wr y,WkS S w0 g gl y wr→Below w0.heap.size w0 wr∧wr.cell? ⟨g,1,none⟩=some (.slice (some ⟨bF,oF,none⟩) S.p.funcs.length S.fcap):=fun wr y h=>by
  obtain ⟨_,_,hm⟩:=h;refine ⟨hm.bel,?_⟩
  rw [← hBe];exact hm.b.cell 1 _ rfl
 have HB0:=hZz hB0;have HV:Hid (∀ wr,WkS S w0 g gl (atW x ps ps.length) wr→BdW (atW x ps ps.length) (b+1 - startF S.p.funcs k) S.p.nodes.length→Calls prog 72 #[.pointer (some ⟨g,0,none⟩),.int .i64 b] wr fun r w'=>r=.returned (.tuple #[])∧WkS S w0 g gl (visitW S.p 600 b (atW x ps ps.length)) w'∧KV wr w'):=hZz (fun wr h1 h2=>wvisit_all S w0 g gl hS (by omega) (by omega) 600 b _ _ wr hb.first hb.lt h1 h2);have HFI:=hZz hb.first
 have HLT:=hZz hb.lt;have HXL:=hZz hx;obtain ⟨np,hnp⟩:∃ t,ps.length=t:=⟨_,rfl⟩
 have HNP:=hZz hnp;rw [hnp] at HBE HKF HRR HV hpl;obtain ⟨nf,hnf⟩:∃ t,S.p.funcs.length=t:=⟨_,rfl⟩
 rw [hnf] at HB0 hk hfn;have hkI:(k:Int)<(nf:Int):=by omega
 have hk0:(0:Int)≤(k:Int):=by omega
 have HNL:=hZz hnl;clear hR hP hb hs1 hs2 hF hgd hbody hBe hbF f0 f1 f2 hkf hps hRR hcl hm hb1 hb2 hB0 hnp hnf hx hS hsy hnl;go_enter func46,ntmps46
 go_upto_region 3 with fail
 clear z2 z3 z4 y2 y3 y4;obtain ⟨V,hV⟩:∃ W,(((w.setCell ⟨g,2,none⟩ (.slice none 0 0)).setCell ⟨g,3,none⟩ (.slice none 0 0)).setCell ⟨g,4,none⟩ (.int .i64 0))=W:=⟨_,rfl⟩
 rw [hV] at HC HK ⊢;clear hV;go_wp2_with (fail)
 go_loopw [4] (fun iv wr=>∃ i:Nat,i≤np∧iv=.int .i64 i∧Hid (WkS S w0 g gl (atW x ps i) wr)∧Hid (KV w wr)) (fun iv _=>np - (intOf iv).toNat)
 case atStart=>exact ⟨0,Nat.zero_le _,rfl,hZz (by exact HC.out),HK⟩
 case round =>
  obtain ⟨i,hi,rfl,HW,HKi⟩:=hrel;have hi0:(0:Int)≤(i:Int):=by omega
  obtain ⟨hbw,c1⟩:=HB0.out _ _ HW.out;obtain ⟨f1,f2⟩:=HBE.out _ hbw;by_cases hlt:i<np
  ·have hlt':(i:Int)<(np:Int):=by omega
   have hil:i<ps.length:=by rw [HNP.out];exact hlt
   obtain ⟨bK,oK,rfl,ck⟩:=HKF.out.keyU hil
   replace ck:=cellK ck hbw
   have HDE:=hZz (zbgY S w0 g gl _ ps[i] wr HW.out (by simp only [atW,pairsN_len];omega) (by simp only [atW];omega))
   have HYE:Hid (declW (atW x ps i) ps[i]=atW x ps (i+1)):=hZz (by
    simp only [declW,atW,zbsY];rw [zaiZ hil];rfl)
   rw [HYE.out] at HDE;clear HYE hbw f2;generalize ps[i]=key at ck HDE
   go_wp2_with (first
    | (go_at_call 71;(with_reducible refine HDE.out.mono ?_);rintro e w2 ⟨rfl,hs2,hk2⟩;have HS2:=hZz hs2;have HK2:=hZz (HKi.out.trans hk2);clear hs2 hk2))
   exact ⟨⟨i+1,hlt,by simp,HS2,HK2⟩,by simp [intOf];omega⟩
  ·have e:np=i:=by omega
   subst e
   have HVI:=hZz (HV.out wr HW.out (by
    have h1:=HLT.out;have h2:=HNL.out;have h3:=HXL.out;unfold BdW;simp only [atW,pairsN_len];refine ⟨?_,?_,?_,h3⟩ <;> omega))
   rw [← HRR.out] at HVI;clear hbw
   go_wp2_with (first
    | (go_at_call 72;(with_reducible refine HVI.out.mono ?_);rintro e w2 ⟨rfl,hs2,hk2⟩;have HS2:=hZz hs2;have HK2:=hZz (HKi.out.trans hk2);clear hs2 hk2))
   go_returns;exact HP.out _ HS2.out HK2.out
end
section
theorem endW_slot (p:ProgD) (n:NodeD) (i m:Nat) (x:WkD):(endW p n i m x).slot.length=x.slot.length:=by
 unfold endW;split
 ·rfl
 split
 ·unfold varW
  split
  ·rw [(za4Y _ _ _).2.2];simp [setW]
  ·simp [setW]
 split
 ·unfold letW letC
  simp only [setW,declW,List.length_set];split
  ·rw [(za4Y _ _ _).2.2]
  split
  ·rw [(za4Y _ _ _).2.2]
  ·rfl
 split
 ·split
  ·rfl
  ·rw [(za4Y _ _ _).2.2]
 ·rfl
theorem visitW_slot (p:ProgD):∀ f i x,(visitW p f i x).slot.length=x.slot.length
 | 0,_,_=>rfl
 | f+1,i,x=>by
  have hq:∀ (r:List Int) (y:WkD),(r.foldl (fun y k=>visitW p f k.toNat y) y).slot.length=y.slot.length:=by
   intro r;induction r with
   | nil=>intro y;rfl
   | cons k r ih=>intro y;rw [List.foldl_cons,ih,visitW_slot p f]
  simp only [visitW];rw [endW_slot,hq]
theorem runW_slot (p:ProgD) (x:WkD) (k:Nat):(runW p x k).slot.length=x.slot.length:=by
 unfold runW;rw [visitW_slot,parW_eq]
theorem allW_slot (p:ProgD):∀ k,(allW p k).slot.length=p.nodes.length
 | 0=>by simp [allW,newW]
 | k+1=>by
  simp only [allW];rw [runW_slot,allW_slot p k]
def WkV (S:ProgS) (x:WkD) (nv sv:Value) (gl:Nat):Value:=.agg #[.slice S.A S.p.nodes.length S.ncap,.slice S.B S.p.funcs.length S.fcap,nv,sv,.int .i64 x.next,.slice (some ⟨gl,0,none⟩) x.slot.length x.slot.length,.int .i64 x.node,.int .i64 x.err]
def AllP (S:ProgS) (w:World) (x:WkD) (e:Ending) (w':World):Prop:=∃ nA nc sA sc gl,e=.returned (WkV S x (.slice nA x.vis.length nc) (.slice sA x.vis.length sc) gl)∧Below w.heap.size w w'∧w.heap.size≤gl∧Blk w' gl 3 (x.slot.map (Value.int .i64)).toArray
def zeroW:Array Value:=#[.slice none 0 0,.slice none 0 0,.slice none 0 0,.slice none 0 0,.int .i64 0,.slice none 0 0,.int .i64 0,.int .i64 0]
def zeroX (S:ProgS):WkD:=⟨[],0,List.replicate S.p.nodes.length 0,0,0⟩
theorem rep_val (n:Nat):Array.replicate n (intC 0)=((List.replicate n (0:Int)).map (Value.int .i64)).toArray:=by simp [intC]
theorem wk_new1 (S:ProgS) (V:World):WkS S V (V.heap.size+1) V.heap.size (zeroX S) ((V.alloc (.cells (Array.replicate S.p.nodes.length (intC 0)) 3)).alloc (.cells #[.slice S.A S.p.nodes.length S.ncap,.slice S.B S.p.funcs.length S.fcap,.slice none 0 0,.slice none 0 0,.int .i64 0,.slice (some ⟨V.heap.size,0,none⟩) S.p.nodes.length S.p.nodes.length,.int .i64 0,.int .i64 0] 86)).drew:=by
 rw [rep_val];obtain ⟨V1,hV1⟩:∃ W,V.alloc (.cells ((List.replicate S.p.nodes.length (0:Int)).map (Value.int .i64)).toArray 3)=W:=⟨_,rfl⟩
 have hb1:Below V.heap.size V V1:=by rw [← hV1];exact zacZ _ _
 have hL1:Blk V1 V.heap.size 3 ((List.replicate S.p.nodes.length (0:Int)).map (Value.int .i64)).toArray:=by rw [← hV1];exact Blk.new _ _ _
 have hg:V.heap.size+1=V1.heap.size:=by rw [← hV1];simp
 rw [hV1,hg];have hb2:=zacZ V1 (.cells #[.slice S.A S.p.nodes.length S.ncap,.slice S.B S.p.funcs.length S.fcap,.slice none 0 0,.slice none 0 0,.int .i64 0,.slice (some ⟨V.heap.size,0,none⟩) S.p.nodes.length S.p.nodes.length,.int .i64 0,.int .i64 0] 86);refine ⟨.slice none 0 0,.slice none 0 0,WkM.below ⟨?_,⟨rfl,.inl ⟨rfl,rfl⟩⟩,⟨rfl,.inl ⟨rfl,rfl⟩⟩,?_,fun k hk=>(by cases hk),?_,?_,Nat.le_refl _⟩ (zadZ _)⟩
 ·simp only [zeroX,List.length_replicate]
  exact Blk.new _ _ _
 ·exact hL1.below hb2
 ·exact zaaZ hb2 hb1 hb1.size
 ·exact hb1.size
theorem wk_new2 (S:ProgS) (V:World):WkS S V V.heap.size (V.heap.size+1) (zeroX S) ((V.alloc (.cells #[.slice S.A S.p.nodes.length S.ncap,.slice S.B S.p.funcs.length S.fcap,.slice none 0 0,.slice none 0 0,.int .i64 0,.slice (some ⟨V.heap.size+1,0,none⟩) S.p.nodes.length S.p.nodes.length,.int .i64 0,.int .i64 0] 86)).alloc (.cells (Array.replicate S.p.nodes.length (intC 0)) 3)).drew:=by
 rw [rep_val];obtain ⟨V1,hV1⟩:∃ W,V.alloc (.cells #[.slice S.A S.p.nodes.length S.ncap,.slice S.B S.p.funcs.length S.fcap,.slice none 0 0,.slice none 0 0,.int .i64 0,.slice (some ⟨V.heap.size+1,0,none⟩) S.p.nodes.length S.p.nodes.length,.int .i64 0,.int .i64 0] 86)=W:=⟨_,rfl⟩
 have hb1:Below V.heap.size V V1:=by rw [← hV1];exact zacZ _ _
 have hL1:Blk V1 V.heap.size 86 #[.slice S.A S.p.nodes.length S.ncap,.slice S.B S.p.funcs.length S.fcap,.slice none 0 0,.slice none 0 0,.int .i64 0,.slice (some ⟨V.heap.size+1,0,none⟩) S.p.nodes.length S.p.nodes.length,.int .i64 0,.int .i64 0]:=by rw [← hV1];exact Blk.new _ _ _
 have hg:V.heap.size+1=V1.heap.size:=by rw [← hV1];simp
 rw [hV1];rw [hg] at hL1 ⊢;have hb2:=zacZ V1 (.cells ((List.replicate S.p.nodes.length (0:Int)).map (Value.int .i64)).toArray 3);refine ⟨.slice none 0 0,.slice none 0 0,WkM.below ⟨?_,⟨rfl,.inl ⟨rfl,rfl⟩⟩,⟨rfl,.inl ⟨rfl,rfl⟩⟩,Blk.new _ _ _,fun k hk=>(by cases hk),?_,Nat.le_refl _,?_⟩ (zadZ _)⟩
 ·have:=hL1.below hb2
  simp only [zeroX,List.length_replicate];exact this
 ·exact zaaZ hb2 hb1 hb1.size
 ·exact hb1.size
theorem fill_setW (S:ProgS) (k:Nat) (hk:k<S.p.nodes.length):setW ⟨[],0,fillL S.p.nodes.length k,0,0⟩ k (-1)=⟨[],0,fillL S.p.nodes.length (k+1),0,0⟩:=by
 simp only [setW];rw [fill_set hk]
theorem zayY {B g:Nat} {w w':World} (h:Below B w w') (hB:B≤w'.heap.size) (hg:B≤g) (i:Nat) (u:Value):Below B w (w'.setCell ⟨g,i,none⟩ u)∧B≤(w'.setCell ⟨g,i,none⟩ u).heap.size:=by
 have h2:=h.grown (zaeY w' g i u) hB (fun k hk=>by injection hk with hk;omega);exact ⟨h2,Nat.le_trans hB (zaeY w' g i u).size⟩
theorem set8 {w:World} {g:Nat} {t:TypeId} {a0 a1 a2 a3 a4 a5 a6 a7:Value} (h:Blk w g t #[a0,a1,a2,a3,a4,a5,a6,a7]) (v0 v1 v2 v3 v4 v5 v6 v7:Value):(w.frozen? ⟨g,0,none⟩=false∧(w.setCell ⟨g,0,none⟩ (v0)).frozen? ⟨g,1,none⟩=false∧((w.setCell ⟨g,0,none⟩ (v0)).setCell ⟨g,1,none⟩ (v1)).frozen? ⟨g,2,none⟩=false∧(((w.setCell ⟨g,0,none⟩ (v0)).setCell ⟨g,1,none⟩ (v1)).setCell ⟨g,2,none⟩ (v2)).frozen? ⟨g,3,none⟩=false∧((((w.setCell ⟨g,0,none⟩ (v0)).setCell ⟨g,1,none⟩ (v1)).setCell ⟨g,2,none⟩ (v2)).setCell ⟨g,3,none⟩ (v3)).frozen? ⟨g,4,none⟩=false∧(((((w.setCell ⟨g,0,none⟩ (v0)).setCell ⟨g,1,none⟩ (v1)).setCell ⟨g,2,none⟩ (v2)).setCell ⟨g,3,none⟩ (v3)).setCell ⟨g,4,none⟩ (v4)).frozen? ⟨g,5,none⟩=false∧((((((w.setCell ⟨g,0,none⟩ (v0)).setCell ⟨g,1,none⟩ (v1)).setCell ⟨g,2,none⟩ (v2)).setCell ⟨g,3,none⟩ (v3)).setCell ⟨g,4,none⟩ (v4)).setCell ⟨g,5,none⟩ (v5)).frozen? ⟨g,6,none⟩=false∧(((((((w.setCell ⟨g,0,none⟩ (v0)).setCell ⟨g,1,none⟩ (v1)).setCell ⟨g,2,none⟩ (v2)).setCell ⟨g,3,none⟩ (v3)).setCell ⟨g,4,none⟩ (v4)).setCell ⟨g,5,none⟩ (v5)).setCell ⟨g,6,none⟩ (v6)).frozen? ⟨g,7,none⟩=false)∧Blk ((((((((w.setCell ⟨g,0,none⟩ (v0)).setCell ⟨g,1,none⟩ (v1)).setCell ⟨g,2,none⟩ (v2)).setCell ⟨g,3,none⟩ (v3)).setCell ⟨g,4,none⟩ (v4)).setCell ⟨g,5,none⟩ (v5)).setCell ⟨g,6,none⟩ (v6)).setCell ⟨g,7,none⟩ (v7)) g t #[v0,v1,v2,v3,v4,v5,v6,v7]:=by
 have h0:Blk (w.setCell ⟨g,0,none⟩ (v0)) g t #[v0,a1,a2,a3,a4,a5,a6,a7]:=h.set_ 0 v0;have h1:Blk ((w.setCell ⟨g,0,none⟩ (v0)).setCell ⟨g,1,none⟩ (v1)) g t #[v0,v1,a2,a3,a4,a5,a6,a7]:=h0.set_ 1 v1;have h2:Blk (((w.setCell ⟨g,0,none⟩ (v0)).setCell ⟨g,1,none⟩ (v1)).setCell ⟨g,2,none⟩ (v2)) g t #[v0,v1,v2,a3,a4,a5,a6,a7]:=h1.set_ 2 v2;have h3:Blk ((((w.setCell ⟨g,0,none⟩ (v0)).setCell ⟨g,1,none⟩ (v1)).setCell ⟨g,2,none⟩ (v2)).setCell ⟨g,3,none⟩ (v3)) g t #[v0,v1,v2,v3,a4,a5,a6,a7]:=h2.set_ 3 v3;have h4:Blk (((((w.setCell ⟨g,0,none⟩ (v0)).setCell ⟨g,1,none⟩ (v1)).setCell ⟨g,2,none⟩ (v2)).setCell ⟨g,3,none⟩ (v3)).setCell ⟨g,4,none⟩ (v4)) g t #[v0,v1,v2,v3,v4,a5,a6,a7]:=h3.set_ 4 v4;have h5:Blk ((((((w.setCell ⟨g,0,none⟩ (v0)).setCell ⟨g,1,none⟩ (v1)).setCell ⟨g,2,none⟩ (v2)).setCell ⟨g,3,none⟩ (v3)).setCell ⟨g,4,none⟩ (v4)).setCell ⟨g,5,none⟩ (v5)) g t #[v0,v1,v2,v3,v4,v5,a6,a7]:=h4.set_ 5 v5;have h6:Blk (((((((w.setCell ⟨g,0,none⟩ (v0)).setCell ⟨g,1,none⟩ (v1)).setCell ⟨g,2,none⟩ (v2)).setCell ⟨g,3,none⟩ (v3)).setCell ⟨g,4,none⟩ (v4)).setCell ⟨g,5,none⟩ (v5)).setCell ⟨g,6,none⟩ (v6)) g t #[v0,v1,v2,v3,v4,v5,v6,a7]:=h5.set_ 6 v6;have h7:Blk ((((((((w.setCell ⟨g,0,none⟩ (v0)).setCell ⟨g,1,none⟩ (v1)).setCell ⟨g,2,none⟩ (v2)).setCell ⟨g,3,none⟩ (v3)).setCell ⟨g,4,none⟩ (v4)).setCell ⟨g,5,none⟩ (v5)).setCell ⟨g,6,none⟩ (v6)).setCell ⟨g,7,none⟩ (v7)) g t #[v0,v1,v2,v3,v4,v5,v6,v7]:=h6.set_ 7 v7;exact ⟨⟨h.frozen 0,h0.frozen 1,h1.frozen 2,h2.frozen 3,h3.frozen 4,h4.frozen 5,h5.frozen 6,h6.frozen 7⟩,h7⟩
theorem blk8c {w:World} {g:Nat} {t:TypeId} {a0 a1 a2 a3 a4 a5 a6 a7:Value} (h:Blk w g t #[a0,a1,a2,a3,a4,a5,a6,a7]):w.cell? ⟨g,0,none⟩=some a0∧w.cell? ⟨g,1,none⟩=some a1∧w.cell? ⟨g,2,none⟩=some a2∧w.cell? ⟨g,3,none⟩=some a3∧w.cell? ⟨g,4,none⟩=some a4∧w.cell? ⟨g,5,none⟩=some a5∧w.cell? ⟨g,6,none⟩=some a6∧w.cell? ⟨g,7,none⟩=some a7:=⟨h.cell 0 _ rfl,h.cell 1 _ rfl,h.cell 2 _ rfl,h.cell 3 _ rfl,h.cell 4 _ rfl,h.cell 5 _ rfl,h.cell 6 _ rfl,h.cell 7 _ rfl⟩
theorem far8 {w:World} {g k:Nat} {t e:TypeId} {cs:Array Value} {a0 a1 a2 a3 a4 a5 a6 a7:Value} (h:Blk w g t #[a0,a1,a2,a3,a4,a5,a6,a7]) (hk:Blk w k e cs) (hne:k≠g) (v0 v1 v2 v3 v4 v5 v6 v7:Value):Blk ((((((((w.setCell ⟨g,0,none⟩ (v0)).setCell ⟨g,1,none⟩ (v1)).setCell ⟨g,2,none⟩ (v2)).setCell ⟨g,3,none⟩ (v3)).setCell ⟨g,4,none⟩ (v4)).setCell ⟨g,5,none⟩ (v5)).setCell ⟨g,6,none⟩ (v6)).setCell ⟨g,7,none⟩ (v7)) k e cs:=by
 have l0:Blk (w.setCell ⟨g,0,none⟩ (v0)) k e cs:=hk.far (p:=⟨g,0,none⟩) (fun e=>hne (by simpa using e)) _;have l1:Blk ((w.setCell ⟨g,0,none⟩ (v0)).setCell ⟨g,1,none⟩ (v1)) k e cs:=l0.far (p:=⟨g,1,none⟩) (fun e=>hne (by simpa using e)) _;have l2:Blk (((w.setCell ⟨g,0,none⟩ (v0)).setCell ⟨g,1,none⟩ (v1)).setCell ⟨g,2,none⟩ (v2)) k e cs:=l1.far (p:=⟨g,2,none⟩) (fun e=>hne (by simpa using e)) _;have l3:Blk ((((w.setCell ⟨g,0,none⟩ (v0)).setCell ⟨g,1,none⟩ (v1)).setCell ⟨g,2,none⟩ (v2)).setCell ⟨g,3,none⟩ (v3)) k e cs:=l2.far (p:=⟨g,3,none⟩) (fun e=>hne (by simpa using e)) _;have l4:Blk (((((w.setCell ⟨g,0,none⟩ (v0)).setCell ⟨g,1,none⟩ (v1)).setCell ⟨g,2,none⟩ (v2)).setCell ⟨g,3,none⟩ (v3)).setCell ⟨g,4,none⟩ (v4)) k e cs:=l3.far (p:=⟨g,4,none⟩) (fun e=>hne (by simpa using e)) _;have l5:Blk ((((((w.setCell ⟨g,0,none⟩ (v0)).setCell ⟨g,1,none⟩ (v1)).setCell ⟨g,2,none⟩ (v2)).setCell ⟨g,3,none⟩ (v3)).setCell ⟨g,4,none⟩ (v4)).setCell ⟨g,5,none⟩ (v5)) k e cs:=l4.far (p:=⟨g,5,none⟩) (fun e=>hne (by simpa using e)) _;have l6:Blk (((((((w.setCell ⟨g,0,none⟩ (v0)).setCell ⟨g,1,none⟩ (v1)).setCell ⟨g,2,none⟩ (v2)).setCell ⟨g,3,none⟩ (v3)).setCell ⟨g,4,none⟩ (v4)).setCell ⟨g,5,none⟩ (v5)).setCell ⟨g,6,none⟩ (v6)) k e cs:=l5.far (p:=⟨g,6,none⟩) (fun e=>hne (by simpa using e)) _;have l7:Blk ((((((((w.setCell ⟨g,0,none⟩ (v0)).setCell ⟨g,1,none⟩ (v1)).setCell ⟨g,2,none⟩ (v2)).setCell ⟨g,3,none⟩ (v3)).setCell ⟨g,4,none⟩ (v4)).setCell ⟨g,5,none⟩ (v5)).setCell ⟨g,6,none⟩ (v6)).setCell ⟨g,7,none⟩ (v7)) k e cs:=l6.far (p:=⟨g,7,none⟩) (fun e=>hne (by simpa using e)) _;exact l7
theorem below_set8 {B g:Nat} {w w':World} (h:Below B w w') (hB:B≤w'.heap.size) (hg:B≤g) (v0 v1 v2 v3 v4 v5 v6 v7:Value):Below B w ((((((((w'.setCell ⟨g,0,none⟩ (v0)).setCell ⟨g,1,none⟩ (v1)).setCell ⟨g,2,none⟩ (v2)).setCell ⟨g,3,none⟩ (v3)).setCell ⟨g,4,none⟩ (v4)).setCell ⟨g,5,none⟩ (v5)).setCell ⟨g,6,none⟩ (v6)).setCell ⟨g,7,none⟩ (v7)):=by
 have g0:=zayY h hB hg 0 v0;have g1:=zayY g0.1 g0.2 hg 1 v1;have g2:=zayY g1.1 g1.2 hg 2 v2;have g3:=zayY g2.1 g2.2 hg 3 v3;have g4:=zayY g3.1 g3.2 hg 4 v4;have g5:=zayY g4.1 g4.2 hg 5 v5;have g6:=zayY g5.1 g5.2 hg 6 v6;have g7:=zayY g6.1 g6.2 hg 7 v7;exact g7.1
attribute [local go_sem] zabZ
set_option maxHeartbeats 16000000 in
theorem wall_s (S:ProgS) (w:World) (hS:ProgV w S) (hsy:SynOk S.p) :
  Calls prog 43 #[S.val] w (AllP S w (allW S.p S.p.funcs.length)):=by
 obtain ⟨R,hR⟩:∃ R,allW S.p S.p.funcs.length=R:=⟨_,rfl⟩
 rw [hR];obtain ⟨P,hP⟩:∃ P:Ending→World→Prop,AllP S w R=P:=⟨_,rfl⟩
 rw [hP];have HP:=hZz hP;have HR:=hZz hR;have HS:=hZz hS;have HSY:=hZz hsy;have hnl:=hsy.nodes;have hfl:=hsy.funcs;unfold ProgS.val;obtain ⟨gp,hgp⟩:∃ g,w.heap.size=g:=⟨_,rfl⟩
 obtain ⟨V1,hV1⟩:∃ W,w.alloc (.cells #[.slice S.A S.p.nodes.length S.ncap,.slice S.B S.p.funcs.length S.fcap] 25)=W:=⟨_,rfl⟩
 obtain ⟨gr,hgr⟩:∃ g,V1.heap.size=g:=⟨_,rfl⟩
 obtain ⟨V2,hV2⟩:∃ W,V1.alloc (.cells zeroW 86)=W:=⟨_,rfl⟩
 have hb1:Below w.heap.size w V1:=by rw [← hV1];exact zacZ _ _
 have hb2:Below V1.heap.size V1 V2:=by rw [← hV2];exact zacZ _ _
 have HX2:Hid (Blk V2 gp 25 #[.slice S.A S.p.nodes.length S.ncap,.slice S.B S.p.funcs.length S.fcap]):=hZz (by
  have:Blk V1 gp 25 #[.slice S.A S.p.nodes.length S.ncap,.slice S.B S.p.funcs.length S.fcap]:=by rw [← hV1,← hgp];exact Blk.new _ _ _
  exact this.below hb2)
 have HZ2:Hid (Blk V2 gr 86 zeroW):=hZz (by rw [← hV2,← hgr];exact Blk.new _ _ _);have hbv:Below w.heap.size w V2:=zaaZ hb2 hb1 hb1.size;have HB2:=hZz hbv;have HSV:=hZz (hS.below hbv);have hmk:=mk_rep S.p.nodes.length (by omega) 56 3 underlying56 Tryz.infoIntS;have HV2:=hZz hV2;have HV1:=hZz hV1;have HGP:=hZz hgp;have HGL:Hid (w.heap.size≤gr):=hZz (by rw [← hgr];exact hb1.size);have HGR:Hid (gp+1=gr):=hZz (by rw [← hgr,← hV1,← hgp];simp);unfold zeroW at HV2;clear hP hR hS hsy hgp hV1 hgr hV2 hb1 hb2 hbv;go_enter func43,ntmps43
 go_upto_region 1 with fail
 rw [HGP.out,HV1.out];rw [HGR.out,HV2.out];clear HV1 HV2 HGP HGR;have xd:=blk2 (HX2.out.below (zadZ V2));have x2:=blk2 HX2.out;go_cut [3] from 6 to 11 (fun u wx=>∃ g gl,u=.pointer (some ⟨g,0,none⟩)∧WkS S V2 g gl (zeroX S) wx)
 case first =>
  go_region_law (fail)
  all_goals
   go_wp2_with (fail)
   go_meet
   first
    | exact ⟨_,_,rfl,wk_new1 S V2⟩
    | exact ⟨_,_,rfl,wk_new2 S V2⟩
 case rest =>
  obtain ⟨g,gl,rfl,hs⟩:=hcut;have HW:=hZz hs;clear hs hmk xd x2;go_wp2_with (fail)
  go_loopw [4] (fun iv wr=>∃ k:Nat,k≤S.p.nodes.length∧iv=.int .i64 k∧Hid (WkS S V2 g gl ⟨[],0,fillL S.p.nodes.length k,0,0⟩ wr)) (fun iv _=>S.p.nodes.length - (intOf iv).toNat)
  case atStart=>exact ⟨0,Nat.zero_le _,rfl,hZz (by rw [fill_zero];exact HW.out)⟩
  case round =>
   obtain ⟨k,hk,rfl,HK⟩:=hrel;have hk0:(0:Int)≤(k:Int):=by omega
   have hfl2:(fillL S.p.nodes.length k).length=S.p.nodes.length:=by simp only [fillL,List.length_append,List.length_replicate];omega
   obtain ⟨_,_,hm⟩:=HK.out;have c5:=hm.b.cell 5 _ rfl;have z5:=hm.l.frozen k;dsimp only at c5;rw [hfl2] at c5;by_cases hlt:k<S.p.nodes.length
   ·have hlt':(k:Int)<(S.p.nodes.length:Int):=by omega
    have hset:=HK.out.slot k (-1);rw [fill_setW S k hlt] at hset;have HS2:=hZz hset.1;obtain ⟨ov,ac⟩:∃ u,wr.cell? ⟨gl,k,none⟩=some u:=⟨_,hm.l.cell k (.int .i64 ((fillL S.p.nodes.length k)[k]'(by rw [hfl2];exact hlt))) (by simp)⟩
    clear hset hm hfl2;go_wp2_with (fail)
    exact ⟨⟨k+1,hlt,by simp,HS2⟩,by simp [intOf];omega⟩
   ·have e:k=S.p.nodes.length:=by omega
    subst e;have HK2:Hid (WkS S V2 g gl (allW S.p 0) wr):=hZz (by have:=HK.out;rw [fill_all] at this;exact this);have hnlt:¬ (S.p.nodes.length:Int)<(S.p.nodes.length:Int):=by omega
    clear hm hlt HK HW;go_wp2_with (fail)
    clear c5 z5;go_loopw [5] (fun iv wr=>∃ k:Nat,k≤S.p.funcs.length∧iv=.int .i64 k∧Hid (WkS S V2 g gl (allW S.p k) wr)) (fun iv _=>S.p.funcs.length - (intOf iv).toNat)
    case atStart=>exact ⟨0,Nat.zero_le _,rfl,HK2⟩
    case round =>
     obtain ⟨k,hk,rfl,HK⟩:=hrel;have hk0:(0:Int)≤(k:Int):=by omega
     obtain ⟨nv,sv,hm⟩:=HK.out;have xp:=blk2 (HX2.out.below hm.bel);by_cases hlt:k<S.p.funcs.length
     ·have hlt':(k:Int)<(S.p.funcs.length:Int):=by omega
      have HRU:=hZz (wrun_s S V2 g gl (allW S.p k) k wr HSV.out HSY.out hlt HK.out (allW_slot S.p k));clear hm
      go_wp2_with (first
       | (go_at_call 46;(with_reducible refine HRU.out.mono ?_);rintro e w2 ⟨rfl,hs2,hk2⟩;have HS2:=hZz hs2;clear hs2 hk2))
      exact ⟨⟨k+1,hlt,by simp,HS2⟩,by simp [intOf];omega⟩
     ·have e:k=S.p.funcs.length:=by omega
      have hnlt2:¬ (k:Int)<(S.p.funcs.length:Int):=by omega
      rw [e,HR.out] at hm;obtain ⟨nA,nc,rfl⟩:=zajZ hm.n;obtain ⟨sA,sc,rfl⟩:=zajZ hm.s;have HM:=hZz hm;have b0:=hm.b.cell 0 _ rfl;have b1:=hm.b.cell 1 _ rfl;have b2:=hm.b.cell 2 _ rfl;have b3:=hm.b.cell 3 _ rfl;have b4:=hm.b.cell 4 _ rfl;have b5:=hm.b.cell 5 _ rfl;have b6:=hm.b.cell 6 _ rfl;have b7:=hm.b.cell 7 _ rfl;have hz:=HZ2.out.below hm.bel;unfold zeroW at hz;obtain ⟨hf,hg8⟩:=set8 hz (.slice S.A S.p.nodes.length S.ncap) (.slice S.B S.p.funcs.length S.fcap) (.slice nA R.vis.length nc) (.slice sA R.vis.length sc) (.int .i64 R.next) (.slice (some ⟨gl,0,none⟩) R.slot.length R.slot.length) (.int .i64 R.node) (.int .i64 R.err);obtain ⟨z0,z1,z2,z3,z4,z5,z6,z7⟩:=hf;obtain ⟨x0,x1,x2,x3,x4,x5,x6,x7⟩:=blk8c hz;have hl8:=far8 hz hm.l (by intro e;have h1:=hm.l;rw [e] at h1;unfold Blk at h1 hz;rw [h1] at hz;injection hz with hz;injection hz with _ hz _;exact absurd hz (by decide)) (.slice S.A S.p.nodes.length S.ncap) (.slice S.B S.p.funcs.length S.fcap) (.slice nA R.vis.length nc) (.slice sA R.vis.length sc) (.int .i64 R.next) (.slice (some ⟨gl,0,none⟩) R.slot.length R.slot.length) (.int .i64 R.node) (.int .i64 R.err);have hq8:=below_set8 (zaaZ hm.bel HB2.out HB2.out.size) (Nat.le_trans HB2.out.size hm.bel.size) HGL.out (.slice S.A S.p.nodes.length S.ncap) (.slice S.B S.p.funcs.length S.fcap) (.slice nA R.vis.length nc) (.slice sA R.vis.length sc) (.int .i64 R.next) (.slice (some ⟨gl,0,none⟩) R.slot.length R.slot.length) (.int .i64 R.node) (.int .i64 R.err);have HFIN:Hid (∃ W8,W8=((((((((wr.setCell ⟨gr,0,none⟩ (.slice S.A S.p.nodes.length S.ncap)).setCell ⟨gr,1,none⟩ (.slice S.B S.p.funcs.length S.fcap)).setCell ⟨gr,2,none⟩ (.slice nA R.vis.length nc)).setCell ⟨gr,3,none⟩ (.slice sA R.vis.length sc)).setCell ⟨gr,4,none⟩ (.int .i64 R.next)).setCell ⟨gr,5,none⟩ (.slice (some ⟨gl,0,none⟩) R.slot.length R.slot.length)).setCell ⟨gr,6,none⟩ (.int .i64 R.node)).setCell ⟨gr,7,none⟩ (.int .i64 R.err))∧Blk W8 gr 86 #[.slice S.A S.p.nodes.length S.ncap,.slice S.B S.p.funcs.length S.fcap,.slice nA R.vis.length nc,.slice sA R.vis.length sc,.int .i64 R.next,.slice (some ⟨gl,0,none⟩) R.slot.length R.slot.length,.int .i64 R.node,.int .i64 R.err]∧Blk W8 gl 3 (R.slot.map (Value.int .i64)).toArray∧Below w.heap.size w W8):=hZz ⟨_,rfl,hg8,hl8,hq8⟩;have HGW:=hZz hm.gc;clear hm hlt HK HK2 hz hg8 hl8 hq8;go_wp2_with (fail)
      obtain ⟨W8,hW8,hg8,hl8,hq8⟩:=HFIN.out;clear HFIN b0 b1 b2 b3 b4 b5 b6 b7 x0 x1 x2 x3 x4 x5 x6 x7 z0 z1 z2 z3 z4 z5 z6 z7 xp;rw [← hW8];obtain ⟨q0,q1,q2,q3,q4,q5,q6,q7⟩:=blk8c hg8;clear hW8 hg8;refine bodyPost_ret (by simp [results,Tryz.results43,go_sem,q0,q1,q2,q3,q4,q5,q6,q7];rfl) rfl ?_
      rw [← HP.out];exact ⟨nA,nc,sA,sc,gl,rfl,hq8,Nat.le_trans HB2.out.size HGW.out,hl8⟩
end
section
theorem take_any_false {l:List ByteArray} {i:Nat} (hi:i<l.length) (h:∀ j (hj:j<l.length),j<i→l[j]≠l[i]):(l.take i).any (fun s=>decide (s=l.getD i ⟨#[]⟩))=false:=by
 rw [List.any_eq_false];intro s hs;obtain ⟨j,hj,rfl⟩:=List.mem_iff_getElem.1 hs;rw [List.length_take] at hj;rw [List.getElem_take,zaiZ hi];simpa using h j (by omega) (by omega)
theorem take_any_true {l:List ByteArray} {i j:Nat} (hi:i<l.length) (hj:j<i) (h:l[j]'(by omega)=l[i]):(l.take i).any (fun s=>decide (s=l.getD i ⟨#[]⟩))=true:=by
 refine List.any_eq_true.2 ⟨l[j]'(by omega),?_,?_⟩
 ·rw [List.mem_iff_getElem]
  exact ⟨j,by rw [List.length_take];omega,by rw [List.getElem_take]⟩
 ·rw [zaiZ hi]
  exact decide_eq_true h
attribute [local go_sem] zabZ
theorem wrepeated_s (l:List ByteArray) (A:Option Addr) (cap:Nat) (w:World) (hV:KeysV w (.slice A l.length cap) l) (hl:l.length≤10000) :
  Calls prog 54 #[.slice A l.length cap] w fun e w'=>e=.returned (.bool (dupB l))∧Below w.heap.size w w':=by
 obtain ⟨R,hR⟩:∃ t,dupB l=t:=⟨_,rfl⟩
 rw [hR];obtain ⟨P,hP⟩:∃ P:Ending→World→Prop,(fun e w'=>e=.returned (.bool R)∧Below w.heap.size w w')=P:=⟨_,rfl⟩
 rw [hP];have HP:Hid (∀ b w',b=R→Below w.heap.size w w'→P (.returned (.bool b)) w'):=hZz (fun b w' h1 h2=>by rw [← hP,h1];exact ⟨rfl,h2⟩);have HR:=hZz hR;have HV:=hZz hV;obtain ⟨N,hN⟩:∃ t,l.length=t:=⟨_,rfl⟩
 have HN:=hZz hN;rw [hN] at HV hl ⊢;clear hP hR hV hN;go_enter func54,ntmps54
 go_wp2_with (fail)
 go_loopw [3,4] (fun iv kv wr=>∃ i:Nat,i≤N∧iv=.int .i64 i∧Hid (∀ k,k<i→(l.take k).any (fun s=>decide (s=l.getD k ⟨#[]⟩))=false)∧Hid (Below w.heap.size w wr)) (fun iv kv _=>N - (intOf iv).toNat)
 case atStart=>exact ⟨0,Nat.zero_le _,rfl,hZz (fun k h=>by omega),hZz (Below.refl _ _)⟩
 case round =>
  obtain ⟨i,hi,rfl,HQ,HB⟩:=hrel;have hi0:(0:Int)≤(i:Int):=by omega
  by_cases hlt:i<N
  case neg =>
   have e:i=N:=by omega
   subst e;have HRF:Hid (false=R):=hZz (by rw [← HR.out];exact (dup_false (fun k hk=>HQ.out k (by rw [← HN.out];exact hk))).symm);have hnlt:¬ (i:Int)<(i:Int):=by omega
   clear hlt HQ;go_wp2_with (fail)
   exact HP.out _ _ HRF.out HB.out
  have hlt':(i:Int)<(N:Int):=by omega
  have hil:i<l.length:=by rw [HN.out];exact hlt
  have HIL:=hZz hil;go_wp2_with (fail)
  go_loopw [4] (fun kv wx=>∃ j:Nat,j≤i∧kv=.int .i64 j∧Hid (∀ k (hk:k<l.length),k<j→l[k]≠l[i]'(HIL.out))∧Hid (Below w.heap.size w wx)) (fun kv _=>i - (intOf kv).toNat)
  case atStart=>exact ⟨0,Nat.zero_le _,rfl,hZz (fun k hk h=>by omega),HB⟩
  case round =>
   obtain ⟨j,hj,rfl,HJ,HBx⟩:=hrel;have hj0:(0:Int)≤(j:Int):=by omega
   by_cases hjl:j<i
   case neg =>
    have e:j=i:=by omega
    subst e;have hnlt:¬ (j:Int)<(j:Int):=by omega
    have HQ2:Hid (∀ k,k<j+1→(l.take k).any (fun s=>decide (s=l.getD k ⟨#[]⟩))=false):=hZz (fun k hk=>by
     by_cases e:k=j
     ·subst e;exact take_any_false HIL.out HJ.out
     ·exact HQ.out k (by omega))
    clear hjl;go_wp2_with (fail)
    exact ⟨⟨j+1,hlt,by simp,HQ2,HBx⟩,by simp [intOf];omega⟩
   have hjl':(j:Int)<(i:Int):=by omega
   have hjN:(j:Int)<(N:Int):=by omega
   have hjk:j<l.length:=by omega
   obtain ⟨b,off,rfl,ck⟩:=HV.out.keyU hil;obtain ⟨b2,off2,e2,cj⟩:=HV.out.keyU hjk;injection e2 with e2
   injection e2 with e3 e4
   subst e3 e4
   replace ck:=cellK ck HBx.out
   replace cj:=cellK cj HBx.out
   have hbe:=za1Y (l[i]'hil) (l[j]'hjk);by_cases he:l[j]'hjk=l[i]'hil
   ·have HRT:Hid (true=R):=hZz (by rw [← HR.out];exact (dup_true hil (take_any_true hil hjl he)).symm)
    rw [decide_eq_true he.symm] at hbe;obtain ⟨x,hx⟩:∃ t,l[i]'hil=t:=⟨_,rfl⟩
    rw [hx] at ck hbe;clear hx;obtain ⟨y,hy⟩:∃ t,l[j]'hjk=t:=⟨_,rfl⟩
    rw [hy] at cj hbe;clear hy;clear he;go_wp2_with (fail)
    go_quiet (fail);have HBn:Hid (Below w.heap.size w (wr.drewN nq)):=hZz (zaaZ (zaeZ (Below.refl _ _) _) HBx.out HBx.out.size);go_wp2_with (fail)
    exact HP.out _ _ HRT.out HBn.out
   ·have HJ2:Hid (∀ k (hk:k<l.length),k<j+1→l[k]≠l[i]'(HIL.out)):=hZz (fun k hk h=>by
     by_cases e:k=j
     ·subst e;exact he
     ·exact HJ.out k hk (by omega))
    rw [decide_eq_false (fun h=>he h.symm)] at hbe;obtain ⟨x,hx⟩:∃ t,l[i]'hil=t:=⟨_,rfl⟩
    rw [hx] at ck hbe;clear hx;obtain ⟨y,hy⟩:∃ t,l[j]'hjk=t:=⟨_,rfl⟩
    rw [hy] at cj hbe;clear hy;clear he;go_wp2_with (fail)
    go_quiet (fail);have HBn:Hid (Below w.heap.size w (wr.drewN nq)):=hZz (zaaZ (zaeZ (Below.refl _ _) _) HBx.out HBx.out.size);go_wp2_with (fail)
    exact ⟨⟨j+1,hjl,by simp,HJ2,HBn⟩,by simp [intOf];omega⟩
end
end Go.Proofs.YthiimbhjpdphpaaGreatDoor
