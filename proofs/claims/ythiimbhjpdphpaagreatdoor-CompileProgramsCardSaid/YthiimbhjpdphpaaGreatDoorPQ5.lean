/- Q5 -/
import Derived.Test.YthiimbhjpdphpaaGreatDoorPK7
import Derived.OrdersHeld
set_option linter.unusedVariables false
set_option linter.unusedSimpArgs false
namespace Go.Proofs.YthiimbhjpdphpaaGreatDoor
open Go.RowKit
set_option maxRecDepth 100000
open Go.Proofs.Tryz
theorem wrap_in (n:Int) (h0 : -9223372036854775808≤n) (h1:n<9223372036854775808):IntKind.i64.wrap n=n:=by
 unfold IntKind.wrap;simp [IntKind.bits,IntKind.signed]
 omega
attribute [local go_sem] zabZ
set_option maxHeartbeats 16000000 in
theorem follow_any (c:CodeD) (name:ByteArray) (params locals:Int) (e0 b0:Nat) (A B:Option Addr) (ncap icap dcap:Nat) (w0 w:World) (bD:Nat) (d0:List Int) (hL:c.ins.length≤4000) (hnf:c.fns.length≤40) (hF:SlAt w0 A 5 FnD.cells c.fns) (hI:InsV w0 B c.ins) (hw:Below w0.heap.size w0 w) (hbD:w0.heap.size≤bD) (hbw:bD<w.heap.size) (hd:DepAt w bD d0) (hdl:d0.length=c.ins.length) (hdb:DBd d0) (hc:AllSmall c) (hg:GoodF c ⟨name,params,locals,e0,b0⟩) :
  Calls prog 75 #[.agg #[.slice A c.fns.length ncap,.slice B c.ins.length icap],.agg #[.string name,.int .i64 params,.int .i64 locals,.int .i64 e0,.int .i64 b0],.slice (some ⟨bD,0,none⟩) d0.length dcap] w fun e w'=>∃ k d',e=.returned (.int .i64 k)∧FollowR c e0 b0 (List.replicate c.ins.length false) (d0.set e0 0) (k,d')∧DepAt w' bD d'∧d'.length=d0.length∧DBd d'∧w.grownBy w' (some bD):=by
 obtain ⟨P,hP⟩:∃ P:Ending→World→Prop,(fun e w'=>∃ k d',e=.returned (.int .i64 k)∧FollowR c e0 b0 (List.replicate c.ins.length false) (d0.set e0 0) (k,d')∧DepAt w' bD d'∧d'.length=d0.length∧DBd d'∧w.grownBy w' (some bD))=P:=⟨_,rfl⟩
 rw [hP];have HP:=hZz hP;have he0:e0<b0:=by have:=hg.1.2.2;dsimp only at this;omega
 have hb0:b0≤c.ins.length:=by have:=hg.2.1;simpa using this
 have hGF:∀ k,e0≤k→k<b0→∃ i,c.ins[k]? = some i∧FormedP c.fns.length ⟨name,params,locals,e0,b0⟩ i∧(k+1=b0→i.op=20∨i.op=13):=by have:=hg.2.2;simpa using this
 have HSI:Hid (∀ k i,e0≤k→k<b0→c.ins[k]? = some i→∀ m∈sucF i k,e0≤m∧m<b0):=hZz (fun k i h1 h2 h3=>by have:=suc_in hg (k:=k) (i:=i) (by simpa using h1) (by simpa using h2) h3;simpa using this);have HGF:=hZz hGF;have HAS:=hZz hc;have HF:=hZz hF;have HI:=hZz hI;have HW:=hZz hw;have HD:=hZz hd;have HBD:=hZz hbD;have HBW:=hZz hbw;have HDB:=hZz hdb;obtain ⟨L,hLe⟩:∃ L,c.ins.length=L:=⟨_,rfl⟩
 have HLE:=hZz hLe;rw [hLe] at hL hb0 hdl;rw [hdl,hLe];have hmk:=mk_boolsL L (by omega);have heL:e0<L:=by omega
 have heL':(e0:Int)<(L:Int):=by omega
 have he00:(0:Int)≤(e0:Int):=by omega
 have HDL:=hZz hdl;clear hP hc hF hI hw hd hbD hdb hGF hg hLe hdl hbw;go_enter func75,ntmps75
 go_upto_region 2 with fail
 obtain ⟨g0,hg0⟩:∃ g,w.heap.size=g:=⟨_,rfl⟩
 obtain ⟨W3,hW3⟩:∃ W3,((w.alloc (.cells #[.slice A c.fns.length ncap,.slice B L icap] 31)).alloc (.cells #[.string name,.int .i64 params,.int .i64 locals,.int .i64 e0,.int .i64 b0] 50)).alloc (.cells (Array.replicate L (.bool false)) 4)=W3:=⟨_,rfl⟩
 have HS3:Hid (FSt w W3 #[.slice A c.fns.length ncap,.slice B L icap] #[.string name,.int .i64 params,.int .i64 locals,.int .i64 e0,.int .i64 b0] g0 (g0+1) (g0+1+1) bD (List.replicate L false) d0):=hZz (by
  have hb3:=zbzY w (.cells #[.slice A c.fns.length ncap,.slice B L icap] 31) (.cells #[.string name,.int .i64 params,.int .i64 locals,.int .i64 e0,.int .i64 b0] 50) (.cells (Array.replicate L (.bool false)) 4);rw [hW3] at hb3;rw [← hg0];refine ⟨?_,?_,?_,HD.out.below hb3,zbtY ⟨rfl,rfl,rfl,Nat.le_refl _,fun _ _ _=>rfl⟩ hb3⟩
  ·rw [← hW3];exact ((Blk.new w _ _).alloc _).alloc _
  ·rw [← hW3];exact (Blk.second _ _ _ _).alloc _
  ·rw [← hW3]
   have e:((List.replicate L false).map Value.bool).toArray=Array.replicate L (Value.bool false):=by simp
   unfold FlagAt;rw [e];exact Blk.third _ _ _ _ _)
 rw [hg0,hW3];have HG:Hid (g0=w.heap.size∧bD<g0):=hZz ⟨hg0.symm,by have:=HBW.out;omega⟩;have HNE:Hid (g0≠bD∧g0+1≠bD∧g0+1+1≠bD):=hZz (by have:=HG.out.2;omega);clear hW3 hg0;have z0:=HS3.out.dp.frozen e0;have cd0:=HS3.out.dp.cell (k:=e0) (by have:=HDL.out;omega);obtain ⟨y0,hy0⟩:∃ y,d0[e0]'(by have:=HDL.out;omega)=y:=⟨_,rfl⟩
 rw [hy0] at cd0;clear hy0;have c0:=blk2 HS3.out.b0;have c1:=blk5 HS3.out.b1;go_upto_region 3 with fail
 obtain ⟨W4,hW4⟩:∃ W4,W3.setCell ⟨bD,e0,none⟩ (.int .i64 0)=W4:=⟨_,rfl⟩
 have HS4:=hZz (HS3.out.setD HNE.out.1 HNE.out.2.1 HNE.out.2.2 e0 0);rw [hW4] at HS4 ⊢;clear hW4 z0 cd0 c0 c1 HS3;have c0:=blk2 HS4.out.b0;have c1:=blk5 HS4.out.b1;go_wp2_with (fail)
 clear c0 c1 hmk;obtain ⟨d1,hd1⟩:∃ d1,d0.set e0 0=d1:=⟨_,rfl⟩
 have HD1:=hZz hd1;rw [hd1] at HS4;have hdl1:d1.length=L:=by rw [← hd1];simp;exact HDL.out
 have HDB1:Hid (DBd d1):=hZz (by rw [← hd1];exact HDB.out.set e0 0 (by omega) (by omega));clear hd1;go_loopw [] (fun wr=>∃ (done:List Bool) (d:List Int),done.length=L∧d.length=L∧Hid (DBd d)∧Hid (∀ R,FollowR c e0 b0 done d R→FollowR c e0 b0 (List.replicate L false) d1 R)∧Hid (FSt w wr #[.slice A c.fns.length ncap,.slice B L icap] #[.string name,.int .i64 params,.int .i64 locals,.int .i64 e0,.int .i64 b0] g0 (g0+1) (g0+1+1) bD done d)) (fun wr=>undoneW wr (g0+1+1) L)
 case atStart=>exact ⟨_,d1,by simp,hdl1,HDB1,hZz (fun R h=>h),HS4⟩
 case round =>
  obtain ⟨done,d,hdn,hdl,HDBd,HAC,HST⟩:=hrel;have HBW0:Hid (Below w0.heap.size w0 wr):=hZz (HW.out.grown HST.out.hg HW.out.size (fun k hk=>by injection hk with hk;have:=HBD.out;omega));have c0:=blk2 HST.out.b0;have c1:=blk5 HST.out.b1;have HMU:Hid (undoneW wr (g0+1+1) L=done.count false):=hZz (by rw [← hdn];exact zb1Y HST.out.fl);go_wp2_with (fail)
  go_loop [8] (fun iv=>∃ at_:Nat,e0≤at_∧at_≤b0∧iv=.int .i64 at_∧Hid (∀ j,e0≤j→j<at_→done.getD j false=true∨getD d j<0)) (fun iv=>L - (intOf iv).toNat)
  case atStart=>exact ⟨e0,Nat.le_refl _,by omega,rfl,hZz (fun j h1 h2=>by omega)⟩
  case round =>
   obtain ⟨at_,hat0,hat1,rfl,HSC⟩:=hrel;have hk0:(0:Int)≤(at_:Int):=by omega
   by_cases hlt:at_<b0
   ·have hlt':(at_:Int)<(b0:Int):=by omega
    have hltL:(at_:Int)<(L:Int):=by omega
    have hk9:(at_:Int)+1≤9223372036854775807:=by omega
    have HDI:Hid (getD d at_=d[at_]'(by omega)):=hZz (zcjY d at_ (by omega));have HFI:Hid (done.getD at_ false=done[at_]'(by omega)):=hZz (done_lt done at_ (by omega));have cd:=HST.out.dp.cell (k:=at_) (by omega);have cf:=HST.out.fl.cell (k:=at_) (by omega);obtain ⟨x,hx⟩:∃ x,d[at_]'(by omega)=x:=⟨_,rfl⟩
    obtain ⟨fl,hfl⟩:∃ x,done[at_]'(by omega)=x:=⟨_,rfl⟩
    rw [hx] at cd HDI;rw [hfl] at cf HFI;clear hx hfl;have HLT:=hZz hlt;cases fl with
    | true =>
     go_wp2_with (fail)
     exact ⟨⟨at_+1,by omega,by omega,by simp,hZz (fun j h1 h2=>by
      by_cases e:j=at_
      ·subst e;exact .inl HFI.out
      ·exact HSC.out j h1 (by omega))⟩,by simp [intOf];omega⟩
    | false =>
     by_cases hneg:x<0
     ·go_wp2_with (fail)
      exact ⟨⟨at_+1,by omega,by omega,by simp,hZz (fun j h1 h2=>by
       by_cases e:j=at_
       ·subst e;exact .inr (by rw [HDI.out];exact hneg)
       ·exact HSC.out j h1 (by omega))⟩,by simp [intOf];omega⟩
     ·have hneg':0≤x:=by omega
      have hbe:((at_:Int) == (b0:Int))=false:=by simp;omega
      have HNX:Hid (IsNext done d e0 b0 at_):=hZz ⟨hat0,hat1,HSC.out,fun _=>⟨HFI.out,by rw [HDI.out];exact hneg'⟩⟩;have zf:=Blk.frozen HST.out.fl at_;obtain ⟨i,hi,hform,hdead0⟩:=HGF.out at_ hat0 hlt;clear hdead0;have HII:=hZz hi;have HFM:=hZz hform;have hki:at_<c.ins.length:=by rw [HLE.out];omega
      obtain ⟨bI,offI,kv,hB,hbI,q0,q1,q2,q3,hkv⟩:=HI.out.at hki;subst hB;have hie:c.ins[at_]'hki=i:=(List.getElem?_eq_some_iff.mp HII.out).2;rw [hie] at q0 q1 q2 hkv;obtain ⟨kA,kcap,rfl,hdead1,hdead2⟩:=hkv;clear hdead1 hdead2;clear hi hform hie hki;go_upto_region 9 with fail
      obtain ⟨W5,hW5⟩:∃ W5,wr.setCell ⟨g0+1+1,at_,none⟩ (.bool true)=W5:=⟨_,rfl⟩
      have HS5:=hZz (HST.out.setF (by omega) (by omega) (by have:=HNE.out;omega) (by have:=HG.out;omega) at_ true);rw [hW5] at HS5 ⊢;clear hW5 zf cd cf c0 c1;have hop:=HFM.out.1;have HPB:=hZz (pop_bd HAS.out HFM.out);have hja:i.op=13∨i.op=14→0≤i.a:=fun h=>by have:=jump_in HFM.out h;dsimp only at this;omega
      have HPOP:Hid (∀ wx,SlAt wx A 5 FnD.cells c.fns→Calls prog 112 #[.agg #[.slice A c.fns.length ncap,.slice (some ⟨bI,offI,none⟩) L icap],.agg #[.int .i64 i.op,.int .i64 i.a,.string i.s,.slice kA i.keys.length kcap]] wx fun e w'=>e=.returned (.int .i64 (popF c i))∧Below wx.heap.size wx w'):=hZz (fun wx h2=>rpops_any c A _ ncap L icap i _ wx hnf h2 (pops_p HFM.out));have HPSH:Hid (∀ wx,Calls prog 113 #[.agg #[.int .i64 i.op,.int .i64 i.a,.string i.s,.slice kA i.keys.length kcap]] wx fun e w'=>e=.returned (.int .i64 (pushF i.op))∧Below wx.heap.size wx w'):=hZz (fun wx=>rpushes_any i _ wx hop)
      have HSUC:Hid (∀ wx,InsV wx (some ⟨bI,offI,none⟩) c.ins→Calls prog 114 #[.agg #[.slice A c.fns.length ncap,.slice (some ⟨bI,offI,none⟩) L icap],.int .i64 at_] wx fun e w'=>(∃ v,e=.returned v∧SucV wx.heap.size w' v (sucF i at_))∧Below wx.heap.size wx w'):=hZz (fun wx hx=>by
       have:=rsuc_any c.ins A (some ⟨bI,offI,none⟩) c.fns.length ncap icap i at_ wx hx HII.out (by omega) hop hja
       rw [HLE.out] at this;exact this)
      have HSX:Hid (∀ m∈sucF i at_,e0≤m∧m<b0):=hZz (HSI.out at_ i hat0 hlt HII.out);have HQB:=hZz (push_bd i.op);obtain ⟨sl,hsl⟩:∃ sl,sucF i at_=sl:=⟨_,rfl⟩
      obtain ⟨pp,hpp⟩:∃ p,popF c i=p:=⟨_,rfl⟩
      obtain ⟨qq,hqq⟩:∃ p,pushF i.op=p:=⟨_,rfl⟩
      rw [hsl] at HSUC HSX;rw [hpp] at HPOP HPB;rw [hqq] at HPSH HQB;have HSL:=hZz hsl;have HPPE:=hZz hpp;have HQQE:=hZz hqq;clear hja hsl hpp hqq;obtain ⟨m,hm⟩:∃ m:Nat,i.op=(m:Int):=⟨i.op.toNat,by omega⟩
      have HMM:=hZz hm;rw [hm] at q0 HPOP HPSH;generalize i.keys.length=kn at q3 HPOP HPSH;generalize i.a=ia at q1 HPOP HPSH;generalize i.s=is at q2 HPOP HPSH;have hdx:d[at_]'(by omega)=x:=by rw [← HDI.out];exact (zcjY d at_ (by omega)).symm
      have FACT:Hid (∀ wx,FSt w wx #[.slice A c.fns.length ncap,.slice (some ⟨bI,offI,none⟩) L icap] #[.string name,.int .i64 params,.int .i64 locals,.int .i64 e0,.int .i64 b0] g0 (g0+1) (g0+1+1) bD (done.set at_ true) d→wx.cell? ⟨g0,0,none⟩=some (.slice A c.fns.length ncap)∧wx.cell? ⟨g0,1,none⟩=some (.slice (some ⟨bI,offI,none⟩) L icap)∧wx.cell? ⟨bI,offI+at_ * 4,none⟩=some (.int .i64 m)∧wx.cell? ⟨bI,offI+at_ * 4+1,none⟩=some (.int .i64 ia)∧wx.cell? ⟨bI,offI+at_ * 4+2,none⟩=some (.string is)∧wx.cell? ⟨bI,offI+at_ * 4+3,none⟩=some (.slice kA kn kcap)∧wx.cell? ⟨bD,at_,none⟩=some (.int .i64 x)):=hZz (fun wx hs=>by
       have hb:Below w0.heap.size w0 wx:=HW.out.grown hs.hg HW.out.size (fun k hk=>by injection hk with hk;have:=HBD.out;omega);refine ⟨(blk2 hs.b0).1,(blk2 hs.b0).2,(hb.cell hbI).trans q0,(hb.cell hbI).trans q1,(hb.cell hbI).trans q2,(hb.cell hbI).trans q3,?_⟩
       have:=hs.dp.cell (k:=at_) (by omega)
       rwa [hdx] at this)
      have HBF:Hid (∀ wx,FSt w wx #[.slice A c.fns.length ncap,.slice (some ⟨bI,offI,none⟩) L icap] #[.string name,.int .i64 params,.int .i64 locals,.int .i64 e0,.int .i64 b0] g0 (g0+1) (g0+1+1) bD (done.set at_ true) d→Below w0.heap.size w0 wx):=hZz (fun wx hs=>HW.out.grown hs.hg HW.out.size (fun k hk=>by injection hk with hk;have:=HBD.out;omega));clear hm hop q0 q1 q2 q3 hbI hdx;have hp0:=HPB.out.1;have hp1:=HPB.out.2;have hq0:=HQB.out.1;have hq1:=HQB.out.2;have hx1:x≤64:=by rw [← HDI.out];exact (HDBd.out at_).2
      have f5:=FACT.out _ HS5.out;go_cut [9] from 48 to 66 (fun s9 wx=>s9=.int .i64 (x - pp+qq)∧FSt w wx #[.slice A c.fns.length ncap,.slice (some ⟨bI,offI,none⟩) L icap] #[.string name,.int .i64 params,.int .i64 locals,.int .i64 e0,.int .i64 b0] g0 (g0+1) (g0+1+1) bD (done.set at_ true) d)
      case first =>
       have HSd:=hZz (HS5.out.below (zadZ W5))
       go_region_held3 (fun w'=>w'.cell? ⟨g0,0,none⟩=some (.slice A c.fns.length ncap)∧w'.cell? ⟨g0,1,none⟩=some (.slice (some ⟨bI,offI,none⟩) L icap)∧w'.cell? ⟨bI,offI+at_ * 4,none⟩=some (.int .i64 m)∧w'.cell? ⟨bI,offI+at_ * 4+1,none⟩=some (.int .i64 ia)∧w'.cell? ⟨bI,offI+at_ * 4+2,none⟩=some (.string is)∧w'.cell? ⟨bI,offI+at_ * 4+3,none⟩=some (.slice kA kn kcap)∧w'.cell? ⟨bD,at_,none⟩=some (.int .i64 x)) (first | exact f5 | exact f7 | exact f8 | go_keep) (first
        | (go_at_call 112;(with_reducible refine (HPOP.out _ (HF.out.below (HBF.out _ HSd.out))).mono ?_);rintro e w7 ⟨rfl,hb7⟩;have HS7:=hZz (HSd.out.below hb7);have f7:=FACT.out _ HS7.out;clear hb7)
        | (go_at_call 113;(with_reducible refine (HPSH.out _).mono ?_);rintro e w8 ⟨rfl,hb8⟩;have HS8:=hZz (HS7.out.below hb8);have f8:=FACT.out _ HS8.out;clear hb8))
       all_goals
        go_wp2_with (fail)
        go_meet
        exact ⟨by rw [wrap_in (x - pp) (by omega) (by omega),wrap_in (x - pp+qq) (by omega) (by omega)],HS8.out⟩
      case rest =>
       obtain ⟨rfl,hst⟩:=hcut;have HSc:=hZz hst;have HSe:=hZz (hst.below (zadZ wc));have fc:=FACT.out _ hst;clear hst f5;have HFA:Hid (Faulty c i x↔x<pp∨((m:Int)=20∧x≠1)∨64<x - pp+qq):=hZz (by unfold Faulty;rw [HPPE.out,HQQE.out,HMM.out]);have HBAD:Hid (Faulty c i x→FollowR c e0 b0 (List.replicate L false) d1 ((at_:Nat),d)):=hZz (fun hf=>HAC.out _ (.bad done d at_ i HNX.out HLT.out HII.out (by rw [HDI.out];exact hf)));by_cases hf1:x<pp
       ·have hd1:decide (x<pp)=true:=decide_eq_true hf1
        have HF1:=hZz hf1;clear hf1;go_upto_region 10 with fail
        refine wp_region_held_drew (S:=fun w'=>w'.cell? ⟨g0,0,none⟩=some (.slice A c.fns.length ncap)∧w'.cell? ⟨g0,1,none⟩=some (.slice (some ⟨bI,offI,none⟩) L icap)∧w'.cell? ⟨bI,offI+at_ * 4,none⟩=some (.int .i64 m)∧w'.cell? ⟨bI,offI+at_ * 4+1,none⟩=some (.int .i64 ia)∧w'.cell? ⟨bI,offI+at_ * 4+2,none⟩=some (.string is)∧w'.cell? ⟨bI,offI+at_ * 4+3,none⟩=some (.slice kA kn kcap)∧w'.cell? ⟨bD,at_,none⟩=some (.int .i64 x)) (by kernel_rfl) fc (fun hHeld=>?_)
        refine tqZ (i:=0) (v:=.slice (some ⟨bD,0,none⟩) L dcap) rfl ?_
        try simp only [nz,Act.put]
        refine tqZ (i:=1) (v:=.int .i64 at_) rfl ?_
        try simp only [nz,Act.put]
        refine tqZ (i:=2) (v:=.pointer (some ⟨bD,at_,none⟩)) rfl ?_
        try simp only [nz,Act.put]
        refine tqZ (i:=3) (v:=.int .i64 x) rfl ?_
        try simp only [nz,Act.put]
        refine tqZ (i:=4) (v:=.agg #[.slice A c.fns.length ncap,.slice (some ⟨bI,offI,none⟩) L icap]) rfl ?_
        try simp only [nz,Act.put]
        refine tqZ (i:=5) (v:=.pointer (some ⟨g0,1,none⟩)) rfl ?_
        try simp only [nz,Act.put]
        refine tqZ (i:=6) (v:=.slice (some ⟨bI,offI,none⟩) L icap) rfl ?_
        try simp only [nz,Act.put]
        refine tqZ (i:=7) (v:=.int .i64 at_) rfl ?_
        try simp only [nz,Act.put]
        refine tqZ (i:=8) (v:=.pointer (some ⟨bI,offI+at_ * 4,none⟩)) rfl ?_
        try simp only [nz,Act.put]
        refine tqZ (i:=9) (v:=.agg #[.int .i64 m,.int .i64 ia,.string is,.slice kA kn kcap]) rfl ?_
        try simp only [nz,Act.put]
        refine wpAnyH_ready (rs:=[10]) (by kernel_rfl) (by simp) ?_
        refine AllReadyH.cons (o:=_) rfl (fun K hK=>?_) AllReadyH.nil
        go_simp;refine (HPOP.out _ (HF.out.below (HBF.out _ HSe.out))).mono ?_
        rintro e w9 ⟨rfl,hb9⟩;have HS9:=hZz (HSe.out.below hb9);have f9:=FACT.out _ HS9.out;clear hb9;go_wp2_with fail;refine hK.out _ _ f9 (fun hHeld=>?_)
        clear hK K
        try simp only [Act.put,List.setIfInBounds_toArray,List.set_cons_zero,List.set_cons_succ]
        refine tqZ (i:=11) (v:=.bool true) rfl ?_
        try simp only [nz,Act.put]
        refine tqZ (i:=12) (v:=.bool true) rfl ?_
        try simp only [nz,Act.put]
        refine tsZ (i:=13) rfl ?_
        try simp only [nz,Act.put]
        refine tsZ (i:=14) rfl ?_
        try simp only [nz,Act.put]
        refine tsZ (i:=15) rfl ?_
        try simp only [nz,Act.put]
        refine tsZ (i:=16) rfl ?_
        try simp only [nz,Act.put]
        refine tsZ (i:=17) rfl ?_
        try simp only [nz,Act.put]
        refine tsZ (i:=18) rfl ?_
        try simp only [nz,Act.put]
        refine tsZ (i:=19) rfl ?_
        try simp only [nz,Act.put]
        refine tsZ (i:=20) rfl ?_
        try simp only [nz,Act.put]
        refine tsZ (i:=21) rfl ?_
        try simp only [nz,Act.put]
        refine tsZ (i:=22) rfl ?_
        try simp only [nz,Act.put]
        refine tsZ (i:=23) rfl ?_
        try simp only [nz,Act.put]
        refine tsZ (i:=24) rfl ?_
        try simp only [nz,Act.put]
        refine tsZ (i:=25) rfl ?_
        try simp only [nz,Act.put]
        refine tsZ (i:=26) rfl ?_
        try simp only [nz,Act.put]
        refine tqZ (i:=27) (v:=.bool true) rfl ?_
        try simp only [nz,Act.put]
        refine tqZ (i:=28) (v:=.bool true) rfl ?_
        try simp only [nz,Act.put]
        refine tsZ (i:=29) rfl ?_
        try simp only [nz,Act.put]
        refine tsZ (i:=30) rfl ?_
        try simp only [nz,Act.put]
        refine tqZ (i:=31) (v:=.bool true) rfl ?_
        try simp only [nz,Act.put]
        refine wpAnyH_done (by kernel_rfl) ?_ _
        try dsimp only [List.getElem_toArray,List.getElem_cons_succ,List.getElem_cons_zero,Act.put]
        go_wp2_with (fail)
        rw [← HP.out];rw [HLE.out,HD1.out];exact ⟨at_,d,rfl,HBAD.out (HFA.out.2 (.inl HF1.out)),HS9.out.dp,by rw [hdl,HDL.out],HDBd.out,HS9.out.hg⟩
       have hd1:decide (x<pp)=false:=decide_eq_false hf1;have HF1:=hZz hf1;clear hf1;by_cases hf2:(m:Int)=20∧x≠1
       ·have hm20:((m:Int) == 20)=true:=by simpa using hf2.1
        have hxn:(x != 1)=true:=by simpa using hf2.2
        have HF2:=hZz hf2;clear hf2;go_upto_region 10 with fail
        refine wp_region_held_drew (S:=fun w'=>w'.cell? ⟨g0,0,none⟩=some (.slice A c.fns.length ncap)∧w'.cell? ⟨g0,1,none⟩=some (.slice (some ⟨bI,offI,none⟩) L icap)∧w'.cell? ⟨bI,offI+at_ * 4,none⟩=some (.int .i64 m)∧w'.cell? ⟨bI,offI+at_ * 4+1,none⟩=some (.int .i64 ia)∧w'.cell? ⟨bI,offI+at_ * 4+2,none⟩=some (.string is)∧w'.cell? ⟨bI,offI+at_ * 4+3,none⟩=some (.slice kA kn kcap)∧w'.cell? ⟨bD,at_,none⟩=some (.int .i64 x)) (by kernel_rfl) fc (fun hHeld=>?_)
        refine tqZ (i:=0) (v:=.slice (some ⟨bD,0,none⟩) L dcap) rfl ?_
        try simp only [nz,Act.put]
        refine tqZ (i:=1) (v:=.int .i64 at_) rfl ?_
        try simp only [nz,Act.put]
        refine tqZ (i:=2) (v:=.pointer (some ⟨bD,at_,none⟩)) rfl ?_
        try simp only [nz,Act.put]
        refine tqZ (i:=3) (v:=.int .i64 x) rfl ?_
        try simp only [nz,Act.put]
        refine tqZ (i:=4) (v:=.agg #[.slice A c.fns.length ncap,.slice (some ⟨bI,offI,none⟩) L icap]) rfl ?_
        try simp only [nz,Act.put]
        refine tqZ (i:=5) (v:=.pointer (some ⟨g0,1,none⟩)) rfl ?_
        try simp only [nz,Act.put]
        refine tqZ (i:=6) (v:=.slice (some ⟨bI,offI,none⟩) L icap) rfl ?_
        try simp only [nz,Act.put]
        refine tqZ (i:=7) (v:=.int .i64 at_) rfl ?_
        try simp only [nz,Act.put]
        refine tqZ (i:=8) (v:=.pointer (some ⟨bI,offI+at_ * 4,none⟩)) rfl ?_
        try simp only [nz,Act.put]
        refine tqZ (i:=9) (v:=.agg #[.int .i64 m,.int .i64 ia,.string is,.slice kA kn kcap]) rfl ?_
        try simp only [nz,Act.put]
        refine wpAnyH_ready (rs:=[10]) (by kernel_rfl) (by simp) ?_
        refine AllReadyH.cons (o:=_) rfl (fun K hK=>?_) AllReadyH.nil
        go_simp;refine (HPOP.out _ (HF.out.below (HBF.out _ HSe.out))).mono ?_
        rintro e w9 ⟨rfl,hb9⟩;have HS9:=hZz (HSe.out.below hb9);have f9:=FACT.out _ HS9.out;clear hb9;go_wp2_with fail;refine hK.out _ _ f9 (fun hHeld=>?_)
        clear hK K
        try simp only [Act.put,List.setIfInBounds_toArray,List.set_cons_zero,List.set_cons_succ]
        refine tqZ (i:=11) (v:=.bool false) rfl ?_
        try simp only [nz,Act.put]
        refine tqZ (i:=12) (v:=.bool false) rfl ?_
        try simp only [nz,Act.put]
        refine tqZ (i:=13) (v:=.pointer (some ⟨g0,1,none⟩)) rfl ?_
        try simp only [nz,Act.put]
        refine tqZ (i:=14) (v:=.slice (some ⟨bI,offI,none⟩) L icap) rfl ?_
        try simp only [nz,Act.put]
        refine tqZ (i:=15) (v:=.int .i64 at_) rfl ?_
        try simp only [nz,Act.put]
        refine tqZ (i:=16) (v:=.pointer (some ⟨bI,offI+at_ * 4,none⟩)) rfl ?_
        try simp only [nz,Act.put]
        refine tqZ (i:=17) (v:=.pointer (some ⟨bI,offI+at_ * 4,none⟩)) rfl ?_
        try simp only [nz,Act.put]
        refine tqZ (i:=18) (v:=.int .i64 m) rfl ?_
        try simp only [nz,Act.put]
        refine tqZ (i:=19) (v:=.bool true) rfl ?_
        try simp only [nz,Act.put]
        refine tqZ (i:=20) (v:=.bool true) rfl ?_
        try simp only [nz,Act.put]
        refine tqZ (i:=21) (v:=.slice (some ⟨bD,0,none⟩) L dcap) rfl ?_
        try simp only [nz,Act.put]
        refine tqZ (i:=22) (v:=.int .i64 at_) rfl ?_
        try simp only [nz,Act.put]
        refine tqZ (i:=23) (v:=.pointer (some ⟨bD,at_,none⟩)) rfl ?_
        try simp only [nz,Act.put]
        refine tqZ (i:=24) (v:=.int .i64 x) rfl ?_
        try simp only [nz,Act.put]
        refine tqZ (i:=25) (v:=.bool true) rfl ?_
        try simp only [nz,Act.put]
        refine tqZ (i:=26) (v:=.bool true) rfl ?_
        try simp only [nz,Act.put]
        refine tqZ (i:=27) (v:=.bool true) rfl ?_
        try simp only [nz,Act.put]
        refine tqZ (i:=28) (v:=.bool true) rfl ?_
        try simp only [nz,Act.put]
        refine tsZ (i:=29) rfl ?_
        try simp only [nz,Act.put]
        refine tsZ (i:=30) rfl ?_
        try simp only [nz,Act.put]
        refine tqZ (i:=31) (v:=.bool true) rfl ?_
        try simp only [nz,Act.put]
        refine wpAnyH_done (by kernel_rfl) ?_ _
        try dsimp only [List.getElem_toArray,List.getElem_cons_succ,List.getElem_cons_zero,Act.put]
        go_wp2_with (fail)
        rw [← HP.out];rw [HLE.out,HD1.out];exact ⟨at_,d,rfl,HBAD.out (HFA.out.2 (.inr (.inl HF2.out))),HS9.out.dp,by rw [hdl,HDL.out],HDBd.out,HS9.out.hg⟩
       by_cases hf3:64<x - pp+qq
       ·have HF3:=hZz hf3
        have hd3:decide (64<x - pp+qq)=true:=decide_eq_true hf3;by_cases hm20:(m:Int)=20
        ·have hx1':x=1:=by
          by_cases e:x=1
          ·exact e
          ·exact absurd ⟨hm20,e⟩ hf2
         have hm20':((m:Int) == 20)=true:=by simpa using hm20
         have hxn:(x != 1)=false:=by simpa using hx1'
         clear hf2 hm20 hx1';go_upto_region 10 with fail
         refine wp_region_held_drew (S:=fun w'=>w'.cell? ⟨g0,0,none⟩=some (.slice A c.fns.length ncap)∧w'.cell? ⟨g0,1,none⟩=some (.slice (some ⟨bI,offI,none⟩) L icap)∧w'.cell? ⟨bI,offI+at_ * 4,none⟩=some (.int .i64 m)∧w'.cell? ⟨bI,offI+at_ * 4+1,none⟩=some (.int .i64 ia)∧w'.cell? ⟨bI,offI+at_ * 4+2,none⟩=some (.string is)∧w'.cell? ⟨bI,offI+at_ * 4+3,none⟩=some (.slice kA kn kcap)∧w'.cell? ⟨bD,at_,none⟩=some (.int .i64 x)) (by kernel_rfl) fc (fun hHeld=>?_)
         refine tqZ (i:=0) (v:=.slice (some ⟨bD,0,none⟩) L dcap) rfl ?_
         try simp only [nz,Act.put]
         refine tqZ (i:=1) (v:=.int .i64 at_) rfl ?_
         try simp only [nz,Act.put]
         refine tqZ (i:=2) (v:=.pointer (some ⟨bD,at_,none⟩)) rfl ?_
         try simp only [nz,Act.put]
         refine tqZ (i:=3) (v:=.int .i64 x) rfl ?_
         try simp only [nz,Act.put]
         refine tqZ (i:=4) (v:=.agg #[.slice A c.fns.length ncap,.slice (some ⟨bI,offI,none⟩) L icap]) rfl ?_
         try simp only [nz,Act.put]
         refine tqZ (i:=5) (v:=.pointer (some ⟨g0,1,none⟩)) rfl ?_
         try simp only [nz,Act.put]
         refine tqZ (i:=6) (v:=.slice (some ⟨bI,offI,none⟩) L icap) rfl ?_
         try simp only [nz,Act.put]
         refine tqZ (i:=7) (v:=.int .i64 at_) rfl ?_
         try simp only [nz,Act.put]
         refine tqZ (i:=8) (v:=.pointer (some ⟨bI,offI+at_ * 4,none⟩)) rfl ?_
         try simp only [nz,Act.put]
         refine tqZ (i:=9) (v:=.agg #[.int .i64 m,.int .i64 ia,.string is,.slice kA kn kcap]) rfl ?_
         try simp only [nz,Act.put]
         refine wpAnyH_ready (rs:=[10]) (by kernel_rfl) (by simp) ?_
         refine AllReadyH.cons (o:=_) rfl (fun K hK=>?_) AllReadyH.nil
         go_simp;refine (HPOP.out _ (HF.out.below (HBF.out _ HSe.out))).mono ?_
         rintro e w9 ⟨rfl,hb9⟩;have HS9:=hZz (HSe.out.below hb9);have f9:=FACT.out _ HS9.out;clear hb9;go_wp2_with fail;refine hK.out _ _ f9 (fun hHeld=>?_)
         clear hK K
         try simp only [Act.put,List.setIfInBounds_toArray,List.set_cons_zero,List.set_cons_succ]
         refine tqZ (i:=11) (v:=.bool false) rfl ?_
         try simp only [nz,Act.put]
         refine tqZ (i:=12) (v:=.bool false) rfl ?_
         try simp only [nz,Act.put]
         refine tqZ (i:=13) (v:=.pointer (some ⟨g0,1,none⟩)) rfl ?_
         try simp only [nz,Act.put]
         refine tqZ (i:=14) (v:=.slice (some ⟨bI,offI,none⟩) L icap) rfl ?_
         try simp only [nz,Act.put]
         refine tqZ (i:=15) (v:=.int .i64 at_) rfl ?_
         try simp only [nz,Act.put]
         refine tqZ (i:=16) (v:=.pointer (some ⟨bI,offI+at_ * 4,none⟩)) rfl ?_
         try simp only [nz,Act.put]
         refine tqZ (i:=17) (v:=.pointer (some ⟨bI,offI+at_ * 4,none⟩)) rfl ?_
         try simp only [nz,Act.put]
         refine tqZ (i:=18) (v:=.int .i64 m) rfl ?_
         try simp only [nz,Act.put]
         refine tqZ (i:=19) (v:=.bool true) rfl ?_
         try simp only [nz,Act.put]
         refine tqZ (i:=20) (v:=.bool true) rfl ?_
         try simp only [nz,Act.put]
         refine tqZ (i:=21) (v:=.slice (some ⟨bD,0,none⟩) L dcap) rfl ?_
         try simp only [nz,Act.put]
         refine tqZ (i:=22) (v:=.int .i64 at_) rfl ?_
         try simp only [nz,Act.put]
         refine tqZ (i:=23) (v:=.pointer (some ⟨bD,at_,none⟩)) rfl ?_
         try simp only [nz,Act.put]
         refine tqZ (i:=24) (v:=.int .i64 x) rfl ?_
         try simp only [nz,Act.put]
         refine tqZ (i:=25) (v:=.bool false) rfl ?_
         try simp only [nz,Act.put]
         refine tqZ (i:=26) (v:=.bool false) rfl ?_
         try simp only [nz,Act.put]
         refine tqZ (i:=27) (v:=.bool false) rfl ?_
         try simp only [nz,Act.put]
         refine tqZ (i:=28) (v:=.bool false) rfl ?_
         try simp only [nz,Act.put]
         refine tqZ (i:=29) (v:=.int .i64 (x - pp+qq)) rfl ?_
         try simp only [nz,Act.put]
         refine tqZ (i:=30) (v:=.bool true) rfl ?_
         try simp only [nz,Act.put]
         refine tqZ (i:=31) (v:=.bool true) rfl ?_
         try simp only [nz,Act.put]
         refine wpAnyH_done (by kernel_rfl) ?_ _
         try dsimp only [List.getElem_toArray,List.getElem_cons_succ,List.getElem_cons_zero,Act.put]
         go_wp2_with (fail)
         rw [← HP.out];rw [HLE.out,HD1.out];exact ⟨at_,d,rfl,HBAD.out (HFA.out.2 (.inr (.inr HF3.out))),HS9.out.dp,by rw [hdl,HDL.out],HDBd.out,HS9.out.hg⟩
        ·have hm20':((m:Int) == 20)=false:=by simpa using hm20
         clear hf2 hm20;go_upto_region 10 with fail
         refine wp_region_held_drew (S:=fun w'=>w'.cell? ⟨g0,0,none⟩=some (.slice A c.fns.length ncap)∧w'.cell? ⟨g0,1,none⟩=some (.slice (some ⟨bI,offI,none⟩) L icap)∧w'.cell? ⟨bI,offI+at_ * 4,none⟩=some (.int .i64 m)∧w'.cell? ⟨bI,offI+at_ * 4+1,none⟩=some (.int .i64 ia)∧w'.cell? ⟨bI,offI+at_ * 4+2,none⟩=some (.string is)∧w'.cell? ⟨bI,offI+at_ * 4+3,none⟩=some (.slice kA kn kcap)∧w'.cell? ⟨bD,at_,none⟩=some (.int .i64 x)) (by kernel_rfl) fc (fun hHeld=>?_)
         refine tqZ (i:=0) (v:=.slice (some ⟨bD,0,none⟩) L dcap) rfl ?_
         try simp only [nz,Act.put]
         refine tqZ (i:=1) (v:=.int .i64 at_) rfl ?_
         try simp only [nz,Act.put]
         refine tqZ (i:=2) (v:=.pointer (some ⟨bD,at_,none⟩)) rfl ?_
         try simp only [nz,Act.put]
         refine tqZ (i:=3) (v:=.int .i64 x) rfl ?_
         try simp only [nz,Act.put]
         refine tqZ (i:=4) (v:=.agg #[.slice A c.fns.length ncap,.slice (some ⟨bI,offI,none⟩) L icap]) rfl ?_
         try simp only [nz,Act.put]
         refine tqZ (i:=5) (v:=.pointer (some ⟨g0,1,none⟩)) rfl ?_
         try simp only [nz,Act.put]
         refine tqZ (i:=6) (v:=.slice (some ⟨bI,offI,none⟩) L icap) rfl ?_
         try simp only [nz,Act.put]
         refine tqZ (i:=7) (v:=.int .i64 at_) rfl ?_
         try simp only [nz,Act.put]
         refine tqZ (i:=8) (v:=.pointer (some ⟨bI,offI+at_ * 4,none⟩)) rfl ?_
         try simp only [nz,Act.put]
         refine tqZ (i:=9) (v:=.agg #[.int .i64 m,.int .i64 ia,.string is,.slice kA kn kcap]) rfl ?_
         try simp only [nz,Act.put]
         refine wpAnyH_ready (rs:=[10]) (by kernel_rfl) (by simp) ?_
         refine AllReadyH.cons (o:=_) rfl (fun K hK=>?_) AllReadyH.nil
         go_simp;refine (HPOP.out _ (HF.out.below (HBF.out _ HSe.out))).mono ?_
         rintro e w9 ⟨rfl,hb9⟩;have HS9:=hZz (HSe.out.below hb9);have f9:=FACT.out _ HS9.out;clear hb9;go_wp2_with fail;refine hK.out _ _ f9 (fun hHeld=>?_)
         clear hK K
         try simp only [Act.put,List.setIfInBounds_toArray,List.set_cons_zero,List.set_cons_succ]
         refine tqZ (i:=11) (v:=.bool false) rfl ?_
         try simp only [nz,Act.put]
         refine tqZ (i:=12) (v:=.bool false) rfl ?_
         try simp only [nz,Act.put]
         refine tqZ (i:=13) (v:=.pointer (some ⟨g0,1,none⟩)) rfl ?_
         try simp only [nz,Act.put]
         refine tqZ (i:=14) (v:=.slice (some ⟨bI,offI,none⟩) L icap) rfl ?_
         try simp only [nz,Act.put]
         refine tqZ (i:=15) (v:=.int .i64 at_) rfl ?_
         try simp only [nz,Act.put]
         refine tqZ (i:=16) (v:=.pointer (some ⟨bI,offI+at_ * 4,none⟩)) rfl ?_
         try simp only [nz,Act.put]
         refine tqZ (i:=17) (v:=.pointer (some ⟨bI,offI+at_ * 4,none⟩)) rfl ?_
         try simp only [nz,Act.put]
         refine tqZ (i:=18) (v:=.int .i64 m) rfl ?_
         try simp only [nz,Act.put]
         refine tqZ (i:=19) (v:=.bool false) rfl ?_
         try simp only [nz,Act.put]
         refine tqZ (i:=20) (v:=.bool false) rfl ?_
         try simp only [nz,Act.put]
         refine tsZ (i:=21) rfl ?_
         try simp only [nz,Act.put]
         refine tsZ (i:=22) rfl ?_
         try simp only [nz,Act.put]
         refine tsZ (i:=23) rfl ?_
         try simp only [nz,Act.put]
         refine tsZ (i:=24) rfl ?_
         try simp only [nz,Act.put]
         refine tsZ (i:=25) rfl ?_
         try simp only [nz,Act.put]
         refine tqZ (i:=26) (v:=.bool false) rfl ?_
         try simp only [nz,Act.put]
         refine tqZ (i:=27) (v:=.bool false) rfl ?_
         try simp only [nz,Act.put]
         refine tqZ (i:=28) (v:=.bool false) rfl ?_
         try simp only [nz,Act.put]
         refine tqZ (i:=29) (v:=.int .i64 (x - pp+qq)) rfl ?_
         try simp only [nz,Act.put]
         refine tqZ (i:=30) (v:=.bool true) rfl ?_
         try simp only [nz,Act.put]
         refine tqZ (i:=31) (v:=.bool true) rfl ?_
         try simp only [nz,Act.put]
         refine wpAnyH_done (by kernel_rfl) ?_ _
         try dsimp only [List.getElem_toArray,List.getElem_cons_succ,List.getElem_cons_zero,Act.put]
         go_wp2_with (fail)
         rw [← HP.out];rw [HLE.out,HD1.out];exact ⟨at_,d,rfl,HBAD.out (HFA.out.2 (.inr (.inr HF3.out))),HS9.out.dp,by rw [hdl,HDL.out],HDBd.out,HS9.out.hg⟩
       have HNF:Hid (¬ Faulty c i x):=hZz (fun h=>by rcases HFA.out.1 h with h | h | h;exact HF1.out h;exact hf2 h;exact hf3 h)
       have HF2:Hid (((m:Int) == 20)=false∨((m:Int) == 20)=true∧(x != 1)=false):=hZz (by
        by_cases e:(m:Int)=20
        ·refine .inr ⟨by simpa using e,?_⟩
         by_cases e2:x=1
         ·simpa using e2
         ·exact absurd ⟨e,e2⟩ hf2
        ·exact .inl (by simpa using e))
       clear hf2 HBAD HFA;obtain ⟨nn,hnn⟩:∃ n,x - pp+qq=n:=⟨_,rfl⟩
       have hn64:nn≤64:=by omega
       have hn0:0≤nn:=by have:=HF1.out;omega
       have hnf1:¬ 64<nn:=by omega
       have hd3:decide (64<nn)=false:=decide_eq_false hnf1;have HNN:=hZz hnn;rw [hnn];clear hnn hf3;obtain ⟨R0,hR0⟩:∃ R,setS nn sl d=R:=⟨_,rfl⟩
       have HR0:=hZz hR0;clear hR0;go_upto_region 10 with fail
       go_cut [98] from 67 to 97 (fun s98 wx=>s98=.bool false∧FSt w wx #[.slice A c.fns.length ncap,.slice (some ⟨bI,offI,none⟩) L icap] #[.string name,.int .i64 params,.int .i64 locals,.int .i64 e0,.int .i64 b0] g0 (g0+1) (g0+1+1) bD (done.set at_ true) d)
       case first =>
        rcases HF2.out with hq | ⟨hq,hq2⟩
        ·skip
         refine wp_region_held_drew (S:=fun w'=>w'.cell? ⟨g0,0,none⟩=some (.slice A c.fns.length ncap)∧w'.cell? ⟨g0,1,none⟩=some (.slice (some ⟨bI,offI,none⟩) L icap)∧w'.cell? ⟨bI,offI+at_ * 4,none⟩=some (.int .i64 m)∧w'.cell? ⟨bI,offI+at_ * 4+1,none⟩=some (.int .i64 ia)∧w'.cell? ⟨bI,offI+at_ * 4+2,none⟩=some (.string is)∧w'.cell? ⟨bI,offI+at_ * 4+3,none⟩=some (.slice kA kn kcap)∧w'.cell? ⟨bD,at_,none⟩=some (.int .i64 x)) (by kernel_rfl) fc (fun hHeld=>?_)
         refine tqZ (i:=0) (v:=.slice (some ⟨bD,0,none⟩) L dcap) rfl ?_
         try simp only [nz,Act.put]
         refine tqZ (i:=1) (v:=.int .i64 at_) rfl ?_
         try simp only [nz,Act.put]
         refine tqZ (i:=2) (v:=.pointer (some ⟨bD,at_,none⟩)) rfl ?_
         try simp only [nz,Act.put]
         refine tqZ (i:=3) (v:=.int .i64 x) rfl ?_
         try simp only [nz,Act.put]
         refine tqZ (i:=4) (v:=.agg #[.slice A c.fns.length ncap,.slice (some ⟨bI,offI,none⟩) L icap]) rfl ?_
         try simp only [nz,Act.put]
         refine tqZ (i:=5) (v:=.pointer (some ⟨g0,1,none⟩)) rfl ?_
         try simp only [nz,Act.put]
         refine tqZ (i:=6) (v:=.slice (some ⟨bI,offI,none⟩) L icap) rfl ?_
         try simp only [nz,Act.put]
         refine tqZ (i:=7) (v:=.int .i64 at_) rfl ?_
         try simp only [nz,Act.put]
         refine tqZ (i:=8) (v:=.pointer (some ⟨bI,offI+at_ * 4,none⟩)) rfl ?_
         try simp only [nz,Act.put]
         refine tqZ (i:=9) (v:=.agg #[.int .i64 m,.int .i64 ia,.string is,.slice kA kn kcap]) rfl ?_
         try simp only [nz,Act.put]
         refine wpAnyH_ready (rs:=[10]) (by kernel_rfl) (by simp) ?_
         refine AllReadyH.cons (o:=_) rfl (fun K hK=>?_) AllReadyH.nil
         go_simp;refine (HPOP.out _ (HF.out.below (HBF.out _ HSe.out))).mono ?_
         rintro e w9 ⟨rfl,hb9⟩;have HS9:=hZz (HSe.out.below hb9);have f9:=FACT.out _ HS9.out;clear hb9;go_wp2_with fail;refine hK.out _ _ f9 (fun hHeld=>?_)
         clear hK K
         try simp only [Act.put,List.setIfInBounds_toArray,List.set_cons_zero,List.set_cons_succ]
         refine tqZ (i:=11) (v:=.bool false) rfl ?_
         try simp only [nz,Act.put]
         refine tqZ (i:=12) (v:=.bool false) rfl ?_
         try simp only [nz,Act.put]
         refine tqZ (i:=13) (v:=.pointer (some ⟨g0,1,none⟩)) rfl ?_
         try simp only [nz,Act.put]
         refine tqZ (i:=14) (v:=.slice (some ⟨bI,offI,none⟩) L icap) rfl ?_
         try simp only [nz,Act.put]
         refine tqZ (i:=15) (v:=.int .i64 at_) rfl ?_
         try simp only [nz,Act.put]
         refine tqZ (i:=16) (v:=.pointer (some ⟨bI,offI+at_ * 4,none⟩)) rfl ?_
         try simp only [nz,Act.put]
         refine tqZ (i:=17) (v:=.pointer (some ⟨bI,offI+at_ * 4,none⟩)) rfl ?_
         try simp only [nz,Act.put]
         refine tqZ (i:=18) (v:=.int .i64 m) rfl ?_
         try simp only [nz,Act.put]
         refine tqZ (i:=19) (v:=.bool false) rfl ?_
         try simp only [nz,Act.put]
         refine tqZ (i:=20) (v:=.bool false) rfl ?_
         try simp only [nz,Act.put]
         refine tsZ (i:=21) rfl ?_
         try simp only [nz,Act.put]
         refine tsZ (i:=22) rfl ?_
         try simp only [nz,Act.put]
         refine tsZ (i:=23) rfl ?_
         try simp only [nz,Act.put]
         refine tsZ (i:=24) rfl ?_
         try simp only [nz,Act.put]
         refine tsZ (i:=25) rfl ?_
         try simp only [nz,Act.put]
         refine tqZ (i:=26) (v:=.bool false) rfl ?_
         try simp only [nz,Act.put]
         refine tqZ (i:=27) (v:=.bool false) rfl ?_
         try simp only [nz,Act.put]
         refine tqZ (i:=28) (v:=.bool false) rfl ?_
         try simp only [nz,Act.put]
         refine tqZ (i:=29) (v:=.int .i64 (nn)) rfl ?_
         try simp only [nz,Act.put]
         refine tqZ (i:=30) (v:=.bool false) rfl ?_
         try simp only [nz,Act.put]
         refine tqZ (i:=31) (v:=.bool false) rfl ?_
         try simp only [nz,Act.put]
         refine wpAnyH_done (by kernel_rfl) ?_ _
         try dsimp only [List.getElem_toArray,List.getElem_cons_succ,List.getElem_cons_zero,Act.put]
         all_goals
          go_wp2_with (fail)
          go_meet
          exact ⟨rfl,HS9.out⟩
        ·skip
         refine wp_region_held_drew (S:=fun w'=>w'.cell? ⟨g0,0,none⟩=some (.slice A c.fns.length ncap)∧w'.cell? ⟨g0,1,none⟩=some (.slice (some ⟨bI,offI,none⟩) L icap)∧w'.cell? ⟨bI,offI+at_ * 4,none⟩=some (.int .i64 m)∧w'.cell? ⟨bI,offI+at_ * 4+1,none⟩=some (.int .i64 ia)∧w'.cell? ⟨bI,offI+at_ * 4+2,none⟩=some (.string is)∧w'.cell? ⟨bI,offI+at_ * 4+3,none⟩=some (.slice kA kn kcap)∧w'.cell? ⟨bD,at_,none⟩=some (.int .i64 x)) (by kernel_rfl) fc (fun hHeld=>?_)
         refine tqZ (i:=0) (v:=.slice (some ⟨bD,0,none⟩) L dcap) rfl ?_
         try simp only [nz,Act.put]
         refine tqZ (i:=1) (v:=.int .i64 at_) rfl ?_
         try simp only [nz,Act.put]
         refine tqZ (i:=2) (v:=.pointer (some ⟨bD,at_,none⟩)) rfl ?_
         try simp only [nz,Act.put]
         refine tqZ (i:=3) (v:=.int .i64 x) rfl ?_
         try simp only [nz,Act.put]
         refine tqZ (i:=4) (v:=.agg #[.slice A c.fns.length ncap,.slice (some ⟨bI,offI,none⟩) L icap]) rfl ?_
         try simp only [nz,Act.put]
         refine tqZ (i:=5) (v:=.pointer (some ⟨g0,1,none⟩)) rfl ?_
         try simp only [nz,Act.put]
         refine tqZ (i:=6) (v:=.slice (some ⟨bI,offI,none⟩) L icap) rfl ?_
         try simp only [nz,Act.put]
         refine tqZ (i:=7) (v:=.int .i64 at_) rfl ?_
         try simp only [nz,Act.put]
         refine tqZ (i:=8) (v:=.pointer (some ⟨bI,offI+at_ * 4,none⟩)) rfl ?_
         try simp only [nz,Act.put]
         refine tqZ (i:=9) (v:=.agg #[.int .i64 m,.int .i64 ia,.string is,.slice kA kn kcap]) rfl ?_
         try simp only [nz,Act.put]
         refine wpAnyH_ready (rs:=[10]) (by kernel_rfl) (by simp) ?_
         refine AllReadyH.cons (o:=_) rfl (fun K hK=>?_) AllReadyH.nil
         go_simp;refine (HPOP.out _ (HF.out.below (HBF.out _ HSe.out))).mono ?_
         rintro e w9 ⟨rfl,hb9⟩;have HS9:=hZz (HSe.out.below hb9);have f9:=FACT.out _ HS9.out;clear hb9;go_wp2_with fail;refine hK.out _ _ f9 (fun hHeld=>?_)
         clear hK K
         try simp only [Act.put,List.setIfInBounds_toArray,List.set_cons_zero,List.set_cons_succ]
         refine tqZ (i:=11) (v:=.bool false) rfl ?_
         try simp only [nz,Act.put]
         refine tqZ (i:=12) (v:=.bool false) rfl ?_
         try simp only [nz,Act.put]
         refine tqZ (i:=13) (v:=.pointer (some ⟨g0,1,none⟩)) rfl ?_
         try simp only [nz,Act.put]
         refine tqZ (i:=14) (v:=.slice (some ⟨bI,offI,none⟩) L icap) rfl ?_
         try simp only [nz,Act.put]
         refine tqZ (i:=15) (v:=.int .i64 at_) rfl ?_
         try simp only [nz,Act.put]
         refine tqZ (i:=16) (v:=.pointer (some ⟨bI,offI+at_ * 4,none⟩)) rfl ?_
         try simp only [nz,Act.put]
         refine tqZ (i:=17) (v:=.pointer (some ⟨bI,offI+at_ * 4,none⟩)) rfl ?_
         try simp only [nz,Act.put]
         refine tqZ (i:=18) (v:=.int .i64 m) rfl ?_
         try simp only [nz,Act.put]
         refine tqZ (i:=19) (v:=.bool true) rfl ?_
         try simp only [nz,Act.put]
         refine tqZ (i:=20) (v:=.bool true) rfl ?_
         try simp only [nz,Act.put]
         refine tqZ (i:=21) (v:=.slice (some ⟨bD,0,none⟩) L dcap) rfl ?_
         try simp only [nz,Act.put]
         refine tqZ (i:=22) (v:=.int .i64 at_) rfl ?_
         try simp only [nz,Act.put]
         refine tqZ (i:=23) (v:=.pointer (some ⟨bD,at_,none⟩)) rfl ?_
         try simp only [nz,Act.put]
         refine tqZ (i:=24) (v:=.int .i64 x) rfl ?_
         try simp only [nz,Act.put]
         refine tqZ (i:=25) (v:=.bool false) rfl ?_
         try simp only [nz,Act.put]
         refine tqZ (i:=26) (v:=.bool false) rfl ?_
         try simp only [nz,Act.put]
         refine tqZ (i:=27) (v:=.bool false) rfl ?_
         try simp only [nz,Act.put]
         refine tqZ (i:=28) (v:=.bool false) rfl ?_
         try simp only [nz,Act.put]
         refine tqZ (i:=29) (v:=.int .i64 (nn)) rfl ?_
         try simp only [nz,Act.put]
         refine tqZ (i:=30) (v:=.bool false) rfl ?_
         try simp only [nz,Act.put]
         refine tqZ (i:=31) (v:=.bool false) rfl ?_
         try simp only [nz,Act.put]
         refine wpAnyH_done (by kernel_rfl) ?_ _
         try dsimp only [List.getElem_toArray,List.getElem_cons_succ,List.getElem_cons_zero,Act.put]
         all_goals
          go_wp2_with (fail)
          go_meet
          exact ⟨rfl,HS9.out⟩
       case rest =>
        obtain ⟨rfl,hst2⟩:=hcut;have HSf:=hZz hst2;have f6:=FACT.out _ hst2;have hk91:(at_:Int)≤4000:=by have:=HLT.out;omega
        clear hst2 fc
        go_upto_region 14 with (first
         | (go_at_call 114;(with_reducible refine (HSUC.out _ (HI.out.below (HBF.out _ HSf.out))).mono ?_);rintro e w9 ⟨⟨v,rfl,sA,scap,rfl,hss,hsg⟩,hb9⟩;have HS9:=hZz (HSf.out.below hb9);have HSS:=hZz hss;have HSG:Hid (∀ g off,sA=some ⟨g,off,none⟩→g≠bD):=hZz (fun g off h e=>by have h1:=hsg g off h;have h2:=HSf.out.hg.size;have h3:=HBW.out;omega);clear hb9 hss hsg f6))
        have hsl2:sl.length≤2:=by rw [← HSL.out];unfold sucF;split;(simp);split;(simp);split <;> simp
        go_loopw [11] (fun iv wr2=>∃ (q:Nat) (dm:List Int),q≤sl.length∧iv=.int .i64 q∧dm.length=L∧Hid (DBd dm)∧Hid (setS nn (sl.drop q) dm=R0)∧Hid (SlAt wr2 sA 1 natCs sl)∧Hid (FSt w wr2 #[.slice A c.fns.length ncap,.slice (some ⟨bI,offI,none⟩) L icap] #[.string name,.int .i64 params,.int .i64 locals,.int .i64 e0,.int .i64 b0] g0 (g0+1) (g0+1+1) bD (done.set at_ true) dm)) (fun iv _=>sl.length - (intOf iv).toNat)
        case atStart=>exact ⟨0,d,Nat.zero_le _,rfl,hdl,HDBd,hZz HR0.out,HSS,HS9⟩
        case round =>
         obtain ⟨q,dm,hq,rfl,hdml,HDM,HSE,HSV,HS2⟩:=hrel;have hq0':(0:Int)≤(q:Int):=by omega
         by_cases hql:q<sl.length
         ·have hql':(q:Int)<(sl.length:Int):=by omega
          obtain ⟨t,ht⟩:∃ t,sl[q]=t:=⟨_,rfl⟩
          have HTB:=hZz (HSX.out t (ht ▸ List.getElem_mem hql));have htL:t<L:=by have:=HTB.out.2;omega
          have htL':(t:Int)<(L:Int):=by omega
          have ht0:(0:Int)≤(t:Int):=by omega
          obtain ⟨bS,offS,rfl,_⟩:=HSV.out.ptr hql;have cs:=HSV.out.cell0 hql (v:=.int .i64 t) (by rw [ht];rfl);simp only [Nat.mul_one] at cs;have HDR:Hid (sl.drop q=t :: sl.drop (q+1)):=hZz (by rw [← ht];exact List.drop_eq_getElem_cons hql);have HTE:=hZz ht;clear ht;obtain ⟨y,hy⟩:∃ y,dm[t]'(by omega)=y:=⟨_,rfl⟩
          have HGY:Hid (getD dm t=y):=hZz (by rw [← hy];exact zcjY dm t (by omega));have cy:=HS2.out.dp.cell (k:=t) (by omega);rw [hy] at cy;have zy:=HS2.out.dp.frozen t;clear hy;by_cases hbad:0≤y∧y≠nn
          ·have hy0:=hbad.1
           have hyn:(y != nn)=true:=by simpa using hbad.2
           have HRE:Hid (R0=(some t,dm)):=hZz (by rw [← HSE.out,HDR.out,zb3Y,HGY.out,if_pos hbad]);clear hbad;go_wp2_with (fail)
           rw [← HP.out];rw [HLE.out,HD1.out];refine ⟨t,dm,rfl,HAC.out _ (.two done d dm at_ t i HNX.out HLT.out HII.out (by rw [HDI.out];exact HNF.out) ?_),HS2.out.dp,by rw [hdml,HDL.out],HDM.out,HS2.out.hg⟩
           rw [HDI.out,HPPE.out,HQQE.out,HNN.out,HSL.out,HR0.out,HRE.out]
          ·have HRE:Hid (setS nn (sl.drop (q+1)) (dm.set t nn)=R0):=hZz (by rw [← HSE.out,HDR.out,zb3Y,HGY.out,if_neg hbad])
           have HYC:Hid (y<0∨0≤y∧y=nn):=hZz (by
            by_cases h:y<0
            ·exact .inl h
            ·refine .inr ⟨by omega,?_⟩
             by_cases e:y=nn
             ·exact e
             ·exact absurd ⟨by omega,e⟩ hbad)
           clear hbad;have HS3:=hZz (HS2.out.setD HNE.out.1 HNE.out.2.1 HNE.out.2.2 t nn);have HSV3:=hZz (HSV.out.far (p:=⟨bD,t,none⟩) HSG.out (.int .i64 nn));have HDM3:=hZz (HDM.out.set t nn (by omega) hn64);clear hk91 hk9;rcases HYC.out with hy1 | ⟨hy1,hy2⟩
           all_goals
            first
             | (have hyn:(y != nn)=false:=(by simpa using hy2);clear hy2)
             | skip
            go_wp2_with (fail)
            exact ⟨⟨q+1,dm.set t nn,by omega,by simp,by simp;exact hdml,HDM3,HRE,HSV3,HS3⟩,by simp [intOf];omega⟩
         ·have e:q=sl.length:=by omega
          subst e;have HRE:Hid (R0=(none,dm)):=hZz (by rw [← HSE.out,List.drop_length];rfl);have hdn2:(done.set at_ true).length=L:=by simp;exact hdn
          have HMU2:Hid (undoneW wr (g0+1+1) L+1=done.count false):=hZz (by
           have h1:=zb1Y HS2.out.fl;rw [hdn2] at h1;rw [h1];exact count_set done at_ (by omega) (by rw [← HFI.out];exact (done_lt done at_ (by omega)).symm))
          go_wp2_with (fail)
          refine ⟨⟨done.set at_ true,dm,hdn2,hdml,HDM,hZz (fun R hR=>HAC.out R (.go done d dm at_ i R HNX.out HLT.out HII.out (by rw [HDI.out];exact HNF.out) ?_ hR)),HS2⟩,?_⟩
          ·rw [HDI.out,HPPE.out,HQQE.out,HNN.out,HSL.out,HR0.out,HRE.out]
          ·have h1:=HMU.out
           have h2:=HMU2.out;rw [h1];omega
   ·have e:at_=b0:=by omega
    subst e;have hbe:((at_:Int) == (at_:Int))=true:=by simp
    go_wp2_with (fail)
    rw [← HP.out];rw [HLE.out,HD1.out];exact ⟨-1,d,rfl,HAC.out _ (.stop done d ⟨hat0,Nat.le_refl _,HSC.out,fun h=>by omega⟩),HST.out.dp,by rw [hdl,HDL.out],HDBd.out,HST.out.hg⟩
end Go.Proofs.YthiimbhjpdphpaaGreatDoor
