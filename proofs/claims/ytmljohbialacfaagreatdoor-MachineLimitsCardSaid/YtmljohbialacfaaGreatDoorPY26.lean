/- Y26 -/
import Derived.Test.YtmljohbialacfaaGreatDoorPAW
import Derived.Test.YtmljohbialacfaaGreatDoorPX5
import Derived.Deep.RegionHeld3
set_option linter.unusedVariables false
set_option linter.unusedSimpArgs false
namespace Go.Proofs.YtmljohbialacfaaGreatDoor
open Go.RowKit
set_option maxRecDepth 100000
theorem MachV.lit2 {w:World} {v:Value} {m:MachD} (h:MachV w v m):∃ A1 n1 k1 A2 k2 A3 n3 k3,v=.agg #[.int .i64 m.status,.int .i64 m.err,.slice A1 n1 k1,.slice A2 m.frames.length k2,.slice A3 n3 k3,.int .i64 m.lsteps,.int .i64 m.lmem,.int .i64 m.steps,.int .i64 m.peak]:=by
 obtain ⟨va,fa,qa,rfl,h31,⟨A2,k2,_,rfl,_⟩,h33⟩:=h
 obtain ⟨A1,n1,k1,rfl⟩:=h31.shape
 obtain ⟨A3,n3,k3,rfl⟩:=h33.shape
 exact ⟨_,_,_,_,_,_,_,_,rfl⟩
theorem sumT_take (l:List TurnD) (k:Nat):sumT (l.take k)≤sumT l:=by
 induction l generalizing k with
 | nil=>simp
 | cons t r ih =>
  cases k with
  | zero=>have:=sumT_nonneg (t :: r);simpa [sumT] using this
  | succ k=>have:=ih k;simp only [List.take_succ_cons,sumT];omega
theorem cells_11 {w:World} {g1 g2:Nat} {t1 t2:TypeId} {u0 u1 a0 a1 a2 a3 a4 a5 a6 a7 a8:Value} (h:Blk w g1 t1 #[u0,u1]∧Blk w g2 t2 #[a0,a1,a2,a3,a4,a5,a6,a7,a8]) :
  (w.cell? ⟨g1,0,none⟩=some u0∧w.cell? ⟨g1,1,none⟩=some u1)∧(w.cell? ⟨g2,0,none⟩=some a0∧w.cell? ⟨g2,1,none⟩=some a1∧w.cell? ⟨g2,2,none⟩=some a2∧w.cell? ⟨g2,3,none⟩=some a3∧w.cell? ⟨g2,4,none⟩=some a4∧w.cell? ⟨g2,5,none⟩=some a5∧w.cell? ⟨g2,6,none⟩=some a6∧w.cell? ⟨g2,7,none⟩=some a7∧w.cell? ⟨g2,8,none⟩=some a8):=⟨blk2 h.1,blk9 h.2⟩
/-- What the loop holds. -/
def LimSt (C:CodeS) (w wr:World) (gX nF nI:Nat) (ls lm:Int) (ts:List TurnD) (k:Nat) (p:Int):Prop :=
 ∃ (K:Nat) (m:MachD) (st er sp pk:Int) (a1:Option Addr) (an1 ak1:Nat) (a2:Option Addr) (fl ak2:Nat) (a3:Option Addr) (an3 ak3:Nat),Below w.heap.size w wr∧Blk wr w.heap.size 25 #[.slice C.A nF C.ncap,.slice C.B nI C.icap]∧Blk wr (w.heap.size+1) 28 #[.int .i64 ls,.int .i64 lm]∧Blk wr gX 37 #[.int .i64 st,.int .i64 er,.slice a1 an1 ak1,.slice a2 fl ak2,.slice a3 an3 ak3,.int .i64 ls,.int .i64 lm,.int .i64 sp,.int .i64 pk]∧MachV wr (.agg #[.int .i64 st,.int .i64 er,.slice a1 an1 ak1,.slice a2 fl ak2,.slice a3 an3 ak3,.int .i64 ls,.int .i64 lm,.int .i64 sp,.int .i64 pk]) m∧GoodM K m∧LimM ls lm m∧p≤pk∧m.peak=pk∧(K:Int)≤2 * sumT (ts.take k)+k
attribute [local go_sem] cell_alloc_is
set_option maxHeartbeats 16000000 in
theorem mlimits_any (C:CodeS) (hT:C.T=none) (v:Value) (l:ValD) (ls lm:Int) (tv:Value) (ts:List TurnD) (w:World) (hC:CodeV w C) (hv:Sent w) (hp:Pow w) (hS:Shaped w) (hml:MaxL w) (hV:ValV w v l) (hvs:∀ c∈l,c.str.size≤140737488351232) (hvi:∀ c∈l,(-9223372036854775808≤c.int∧c.int≤9223372036854775807)∧c.n≤9223372036854775807)
  (hts:TurnsV w tv ts) (hti:∀ t∈ts,-9223372036854775808≤t.steps) (hto:∀ t∈ts,∀ c∈t.val,c.str.size≤140737488351232∧(-9223372036854775808≤c.int∧c.int≤9223372036854775807)∧c.n≤9223372036854775807) :
  Calls Tryz.prog 5 #[.agg #[.slice C.A C.c.fns.length C.ncap,.slice C.B C.c.ins.length C.icap],v,.agg #[.int .i64 ls,.int .i64 lm],tv] w fun e w'=>e=.returned (.bool true)∧Below w.heap.size w w':=by
 obtain ⟨P,hP⟩:∃ P:Ending→World→Prop,(fun e w'=>e=.returned (.bool true)∧Below w.heap.size w w')=P:=⟨_,rfl⟩
 rw [hP]
 have HP:=Lib.hid hP
 obtain ⟨vA,vn,vc,hve⟩:=hV.shape
 subst hve
 have HPW:=Lib.hid hp
 have HTS:=Lib.hid hts
 have HTO:=Lib.hid hto
 have HTI:=Lib.hid hti
 obtain ⟨sb,hsb⟩:∃ b,smallB l=b:=⟨_,rfl⟩
 have HSV:Hid (∀ wx,Below w.heap.size w wx→Calls Tryz.prog 8 #[.slice vA vn vc] wx fun e w'=>e=.returned (.bool sb)∧w'=wx):=Lib.hid (fun wx hb=>by rw [← hsb];exact small_any l _ wx (hV.below hb) hvs)
 have HAW:Hid (∀ wx,Below w.heap.size w wx→Calls Tryz.prog 9 #[] wx fun e w'=>e=.returned (.bool true)∧Below wx.heap.size wx w'):=Lib.hid (fun wx hb=>awake_ok2 wx (hS.below hb) (hp.below hb) (hv.below hb) (hml.below hb))
 have HCS:Hid (sb=true→SmallCd C.c→∀ wx,Below w.heap.size w wx→Calls Tryz.prog 10 #[.agg #[.slice C.A C.c.fns.length C.ncap,.slice C.B C.c.ins.length C.icap],.slice vA vn vc,.agg #[.int .i64 ls,.int .i64 lm]] wx fun e w'=>∃ x R r,e=.returned (.tuple #[x,.int .i64 (startO C.c l ls lm R r).2])∧CodeR C.c R∧FindP C.c.fns sMain r∧MachV w' x (startO C.c l ls lm R r).1∧Below wx.heap.size wx w'):=Lib.hid (fun hb hc wx hbl=>by
  obtain ⟨h1,h2⟩:=smalls_ok (hsb.trans hb)
  exact cstart_any C _ l ls lm wx (hC.below hbl) hc.1 hc.2.1 hc.2.2.1 hc.2.2.2 (hv.below hbl) (hp.below hbl) (hS.below hbl) (hV.below hbl) (by omega) (fun c hcl=>⟨by have:=h2 c hcl;omega,(hvi c hcl).1,(hvi c hcl).2⟩))
 have HRUN:Hid (∀ (m:MachD) (u:Value) (n:Int) (K:Nat) (wx:World),GoodC C.c→Below w.heap.size w wx→MachV wx u m→GoodM K m→K+2 * n.toNat≤8800→0≤m.steps∧m.steps≤100000→-9223372036854775808≤n∧n≤9000→Calls Tryz.prog 13 #[.agg #[.slice C.A C.c.fns.length C.ncap,.slice C.B C.c.ins.length C.icap],u,.int .i64 n] wx fun e w'=>∃ x,e=.returned x∧OMach w' wx.heap.size x (runF C.c n.toNat m)∧Below wx.heap.size wx w') :=
  Lib.hid (fun m u n K wx hgc hb hm hg hK hs hn=>mrun_any C hT m u n wx K (hC.below hb) hgc hm hg hK (hp.below hb) (hv.below hb) (hml.below hb) hs hn)
 have HSC:Hid (∀ wx,Below w.heap.size w wx→Calls Tryz.prog 7 #[.agg #[.slice C.A C.c.fns.length C.ncap,.slice C.B C.c.ins.length C.icap]] wx fun e w'=>(∃ b,e=.returned (.bool b)∧(b=true→SmallCd C.c))∧Below wx.heap.size wx w'):=Lib.hid (fun wx hb=>scode_any C wx (hC.below hb))
 have HFW:Hid (∀ wx,Below w.heap.size w wx→Calls Tryz.prog 15 #[tv] wx fun e w'=>(∃ b,e=.returned (.bool b)∧(b=true→FewP ts))∧w'=wx):=Lib.hid (fun wx hb=>few_any ts tv wx (hts.below hb) (fun t ht c hc=>(hto t ht c hc).1))
 obtain ⟨tA,tcap,rows,rfl,htc,htm,hsa,hlr,hrv⟩:=hts
 obtain ⟨N,hN⟩:∃ N,ts.length=N:=⟨_,rfl⟩
 have HN:=Lib.hid hN
 have HSA:=Lib.hid hsa
 have HRV:=Lib.hid hrv
 have HLR:Hid (rows.length=N):=Lib.hid (hlr.trans hN)
 rw [hN] at htm htc HFW ⊢
 obtain ⟨nF,hnF⟩:∃ n,C.c.fns.length=n:=⟨_,rfl⟩
 obtain ⟨nI,hnI⟩:∃ n,C.c.ins.length=n:=⟨_,rfl⟩
 rw [hnF,hnI] at HCS HRUN HSC ⊢
 have HB0:=Lib.hid (below_2 w (.cells #[.slice C.A nF C.ncap,.slice C.B nI C.icap] 25) (.cells #[.int .i64 ls,.int .i64 lm] 28))
 have HX0:=Lib.hid ((Blk.new w 25 #[.slice C.A nF C.ncap,.slice C.B nI C.icap]).alloc (.cells #[.int .i64 ls,.int .i64 lm] 28))
 have HY0:=Lib.hid (Blk.second w (.cells #[.slice C.A nF C.ncap,.slice C.B nI C.icap] 25) 28 #[.int .i64 ls,.int .i64 lm])
 clear hP hT hC hv hp hS hml hV hvs hvi hsb hnF hnI hto hti hsa hlr hrv hN HTS
 go_enter Tryz.func5,Tryz.ntmps5
 go_wp2_with (fail)
 refine (HSC.out _ HB0.out).mono ?_
 rintro e1 W1 ⟨⟨b1,rfl,hb1⟩,hw1⟩
 have HSM:=Lib.hid hb1
 have HB1:=Lib.hid (below_call' hw1 HB0.out HB0.out.size)
 have HX1:=Lib.hid (HX0.out.below hw1)
 have HY1:=Lib.hid (HY0.out.below hw1)
 clear hb1 hw1
 have x1:=blk2 HX1.out
 have y1:=blk2 HY1.out
 cases b1 with
 | false =>
  go_wp2_with (first
   | (go_at_call 9;(with_reducible refine (HAW.out _ HB1.out).mono ?_);rintro e9 W9 ⟨rfl,hw9⟩;have HB9:=Lib.hid (below_call' hw9 HB1.out HB1.out.size);clear hw9))
  rw [← HP.out]
  exact ⟨rfl,HB9.out⟩
 | true =>
  have HSD:=Lib.hid (HSM.out (by trivial))
  cases sb with
  | false =>
   go_wp2_with (first
    | (go_at_call 8;(with_reducible refine (HSV.out _ HB1.out).mono ?_);rintro e2 W2 ⟨rfl,hw2⟩;rw [hw2];clear hw2 W2)
    | (go_at_call 9;(with_reducible refine (HAW.out _ HB1.out).mono ?_);rintro e9 W9 ⟨rfl,hw9⟩;have HB9:=Lib.hid (below_call' hw9 HB1.out HB1.out.size);clear hw9))
   rw [← HP.out]
   exact ⟨rfl,HB9.out⟩
  | true =>
   go_upto_region 2 with (first
    | (go_at_call 8;(with_reducible refine (HSV.out _ HB1.out).mono ?_);rintro e2 W2 ⟨rfl,hw2⟩;rw [hw2];clear hw2 W2)
    | (go_at_call 15;(with_reducible refine (HFW.out _ HB1.out).mono ?_);rintro e2 W2 ⟨⟨b2,rfl,hb2⟩,hw2⟩;rw [hw2];clear hw2 W2;have HFP:=Lib.hid hb2;clear hb2;cases b2))
   ·go_wp2_with (first
     | (go_at_call 9;(with_reducible refine (HAW.out _ HB1.out).mono ?_);rintro e9 W9 ⟨rfl,hw9⟩;have HB9:=Lib.hid (below_call' hw9 HB1.out HB1.out.size);clear hw9))
    rw [← HP.out]
    exact ⟨rfl,HB9.out⟩
   have HFEW:=Lib.hid (HFP.out (by trivial))
   refine (HCS.out (by trivial) HSD.out _ HB1.out).mono ?_
   rintro e3 W3 ⟨x0,R,r,rfl,hR,hr,hm0,hw3⟩
   obtain ⟨er,her⟩:∃ e,(startO C.c l ls lm R r).2=e:=⟨_,rfl⟩
   obtain ⟨M0,hM0⟩:∃ e,(startO C.c l ls lm R r).1=e:=⟨_,rfl⟩
   have HGD:Hid (er=0→GoodC C.c∧GoodM 0 M0∧LimM ls lm M0∧LimOk ls lm):=Lib.hid (fun h0=>by
    obtain ⟨g1,g2,⟨f,g3⟩,g4⟩:=start_good hR HSD.out.2.2.2 (her.trans h0)
    rw [← hM0]
    exact ⟨g1,g2,by rw [g3];exact LimM.start g4 _ _ _,g4⟩)
   rw [her]
   rw [hM0] at hm0
   have HM0:=Lib.hid hm0
   obtain ⟨z1,zn1,zk1,z2,zk2,z3,zn3,zk3,rfl⟩:=hm0.lit2
   have HB3:=Lib.hid (below_call' hw3 HB1.out HB1.out.size)
   have HX3:=Lib.hid (HX1.out.below hw3)
   have HY3:=Lib.hid (HY1.out.below hw3)
   clear hw3 hR hr hm0 her hM0 x1 y1
   go_upto_region 4 with fail
   obtain ⟨gX,hgX⟩:∃ g,W3.heap.size=g:=⟨_,rfl⟩
   obtain ⟨W4,hW4⟩:∃ W,W3.alloc (.cells #[.int .i64 M0.status,.int .i64 M0.err,.slice z1 zn1 zk1,.slice z2 M0.frames.length zk2,.slice z3 zn3 zk3,.int .i64 M0.lsteps,.int .i64 M0.lmem,.int .i64 M0.steps,.int .i64 M0.peak] 37)=W:=⟨_,rfl⟩
   have HA4:Hid (Blk W4 gX 37 #[.int .i64 M0.status,.int .i64 M0.err,.slice z1 zn1 zk1,.slice z2 M0.frames.length zk2,.slice z3 zn3 zk3,.int .i64 M0.lsteps,.int .i64 M0.lmem,.int .i64 M0.steps,.int .i64 M0.peak]):=Lib.hid (by rw [← hW4,← hgX];exact Blk.new W3 _ _)
   have HGX:Hid (w.heap.size≤gX):=Lib.hid (by rw [← hgX];exact HB3.out.size)
   have HB4:Hid (Below w.heap.size w W4):=Lib.hid (by rw [← hW4];exact HB3.out.alloc HB3.out.size _)
   have HM4:Hid (MachV W4 (.agg #[.int .i64 M0.status,.int .i64 M0.err,.slice z1 zn1 zk1,.slice z2 M0.frames.length zk2,.slice z3 zn3 zk3,.int .i64 M0.lsteps,.int .i64 M0.lmem,.int .i64 M0.steps,.int .i64 M0.peak]) M0):=Lib.hid (by rw [← hW4];exact HM0.out.below (below_new _ _))
   have HX4:Hid (Blk W4 w.heap.size 25 _):=Lib.hid (by rw [← hW4];exact HX3.out.alloc _)
   have HY4:Hid (Blk W4 (w.heap.size+1) 28 _):=Lib.hid (by rw [← hW4];exact HY3.out.alloc _)
   rw [hW4,hgX]
   clear hW4 hgX HM0 HB3 HX3 HY3
   by_cases her:er=0
   rotate_left
   ·have d1:(er == 0)=false:=by simpa using her
    have d2:decide (er=0)=false:=decide_eq_false her
    clear her
    go_wp2
    go_loopw [11,12,13,14,15] (fun _ i _ _ _ wr=>i=.int .i64 0∧wr=W4) (fun _ _ _ _ _ _=>0)
    case atStart=>exact ⟨rfl,rfl⟩
    case round =>
     obtain ⟨rfl,hwr⟩:=hrel
     subst hwr
     by_cases hN0:(0:Int)<(N:Int)
     all_goals
      go_wp2_with (first
       | (go_at_call 9;(with_reducible refine (HAW.out _ HB4.out).mono ?_);rintro e9 W9 ⟨rfl,hw9⟩;have HB9:=Lib.hid (below_call' hw9 HB4.out HB4.out.size);clear hw9))
      rw [← HP.out]
      exact ⟨rfl,HB9.out⟩
   subst her
   obtain ⟨hgc,hg0,hl0,hlk⟩:=HGD.out rfl
   have HGC:=Lib.hid hgc
   have HLK:=Lib.hid hlk
   have HST0:Hid (LimSt C w W4 gX nF nI ls lm ts 0 0):=Lib.hid (by
    refine ⟨0,M0,M0.status,M0.err,M0.steps,M0.peak,z1,zn1,zk1,z2,M0.frames.length,zk2,z3,zn3,zk3,HB4.out,HX4.out,HY4.out,?_,?_,hg0,hl0,hl0.pk,rfl,by simp [sumT]⟩
    ·rw [← hl0.els,← hl0.elm];exact HA4.out
    ·have:=HM4.out;rw [hl0.els,hl0.elm] at this;exact this)
   clear hgc hg0 hl0 hlk HGD HA4 HM4
   go_wp2
   go_loopw [11,12,13,14,15] (fun pk i _ _ _ wr=>∃ (k:Nat) (p:Int),k≤N∧i=.int .i64 k∧pk=.int .i64 p∧LimSt C w wr gX nF nI ls lm ts k p) (fun _ i _ _ _ _=>N - (intOf i).toNat)
   case atStart=>exact ⟨0,0,Nat.zero_le _,rfl,rfl,HST0.out⟩
   case round =>
    obtain ⟨k,p,hk,rfl,rfl,hst⟩:=hrel
    obtain ⟨K,m,st,er,sp,pk,a1,an1,ak1,a2,fl,ak2,a3,an3,ak3,hb,hx,hy,ha,hm,hg,hl,hpp,hpk,hK⟩:=hst
    have HB:=Lib.hid hb
    have HX:=Lib.hid hx
    have HY:=Lib.hid hy
    have HA:=Lib.hid ha
    have HM:=Lib.hid hm
    have HG:=Lib.hid hg
    have HL:=Lib.hid hl
    have HPP:=Lib.hid (show p≤pk∧m.peak=pk∧(K:Int)≤2 * sumT (ts.take k)+k from ⟨hpp,hpk,hK⟩)
    clear hb hx hy ha hm hg hl hpp hpk hK
    by_cases hlt:k<N
    rotate_left
    ·have hge:¬ (k:Int)<(N:Int):=by omega
     clear hlt hk
     go_wp2_with (first
      | (go_at_call 9;(with_reducible refine (HAW.out _ HB.out).mono ?_);rintro e9 W9 ⟨rfl,hw9⟩;have HB9:=Lib.hid (below_call' hw9 HB.out HB.out.size);clear hw9))
     rw [← HP.out]
     exact ⟨rfl,HB9.out⟩
    have hlt':(k:Int)<(N:Int):=by omega
    have hk0:(0:Int)≤(k:Int):=by omega
    have HNA:Hid (k<ts.length):=Lib.hid (by rw [HN.out];exact hlt)
    have HNR:Hid (k<rows.length):=Lib.hid (by rw [HLR.out];exact hlt)
    have hsa:=HSA.out.below HB.out
    obtain ⟨bT,off,rfl,_⟩:=hsa.ptr HNR.out
    obtain ⟨tv,hrow,htv⟩:=HRV.out k HNR.out HNA.out
    obtain ⟨lA,ln,lc,rfl⟩:=htv.shape
    obtain ⟨T,hT⟩:∃ T,ts[k]'HNA.out=T:=⟨_,rfl⟩
    rw [hT] at hrow htv
    have HTM:Hid (T∈ts):=Lib.hid (by rw [← hT];exact List.getElem_mem _)
    have HTK:Hid (sumT (ts.take (k+1))=sumT (ts.take k)+max T.steps 0):=Lib.hid (by rw [List.take_succ_eq_append_getElem HNA.out,sumT_snoc,hT])
    obtain ⟨n,hn⟩:∃ x,T.steps=x:=⟨_,rfl⟩
    obtain ⟨e,he⟩:∃ x,T.err=x:=⟨_,rfl⟩
    rw [hn,he] at hrow
    rw [hn] at HTK
    have HNS:Hid (n≤3000∧-9223372036854775808≤n):=Lib.hid (by rw [← hn];exact ⟨(HFEW.out.2.1 T HTM.out).1,HTI.out T HTM.out⟩)
    have HTV:=Lib.hid htv
    have HOK:Hid (OkV T.val):=Lib.hid (by
     obtain ⟨h1,h2⟩:=smalls_ok (HFEW.out.2.1 T HTM.out).2
     exact ⟨by omega,fun c hc=>⟨by have:=h2 c hc;omega,(HTO.out T HTM.out c hc).2.1,(HTO.out T HTM.out c hc).2.2⟩⟩)
    have HKS:Hid (K+2 * n.toNat≤6100∧((K+2 * n.toNat:Nat):Int)≤2 * sumT (ts.take (k+1))+k):=Lib.hid (by
     have h1:=sumT_take ts (k+1)
     have h2:=HFEW.out.2.2
     have h3:=HPP.out.2.2
     have h4:=HTK.out
     have h5:=HFEW.out.1
     have h6:=HN.out
     constructor <;> omega)
    have HROW:=Lib.hid hrow
    have HCL:Hid (∀ wx,Below w.heap.size w wx→wx.cell? ⟨bT,off+k * 3,none⟩=some (.int .i64 n)∧wx.cell? ⟨bT,off+k * 3+1,none⟩=some (.int .i64 e)∧wx.cell? ⟨bT,off+k * 3+2,none⟩=some (.slice lA ln lc)):=Lib.hid (fun wx hbx=>by
     have hs2:=HSA.out.below hbx
     exact ⟨hs2.cell0 HNR.out (v:=.int .i64 n) (by rw [HROW.out];rfl),hs2.cell HNR.out (j:=1) (v:=.int .i64 e) (by rw [HROW.out];rfl),hs2.cell HNR.out (j:=2) (v:=.slice lA ln lc) (by rw [HROW.out];rfl)⟩)
    obtain ⟨M1,hM1⟩:∃ M,runF C.c n.toNat m=M:=⟨_,rfl⟩
    have HG1:Hid (GoodM (K+2 * n.toNat) M1):=Lib.hid (by rw [← hM1];exact GoodM.run HGC.out n.toNat K m HG.out)
    have HL1:Hid (LimM ls lm M1∧m.peak≤M1.peak):=Lib.hid (by rw [← hM1];exact HL.out.run C.c n.toNat)
    obtain ⟨st1,hst1⟩:∃ x,M1.status=x:=⟨_,rfl⟩
    obtain ⟨er1,her1⟩:∃ x,M1.err=x:=⟨_,rfl⟩
    obtain ⟨sp1,hsp1⟩:∃ x,M1.steps=x:=⟨_,rfl⟩
    obtain ⟨pk1,hpk1⟩:∃ x,M1.peak=x:=⟨_,rfl⟩
    obtain ⟨f1,hf1⟩:∃ x,M1.frames.length=x:=⟨_,rfl⟩
    have HQ1:=Lib.hid (show M1.status=st1∧M1.err=er1∧M1.steps=sp1∧M1.peak=pk1∧M1.frames.length=f1 from ⟨hst1,her1,hsp1,hpk1,hf1⟩)
    obtain ⟨mm,hmm⟩:∃ x:Int,(memN M1.frames:Int)=x:=⟨_,rfl⟩
    have HMEM:Hid (∀ u wx,MachV wx u M1→Calls Tryz.prog 16 #[u] wx fun e w'=>e=.returned (.int .i64 mm)∧Below wx.heap.size wx w'):=Lib.hid (fun u wx hmx=>by rw [← hmm];exact memory_any M1 u wx hmx (HG1.out.small (by have:=HKS.out.1;omega)).1)
    have HCS1:Hid (((st1=1∨st1=2)∧(∃ j,f1=j+1)∧er1=0∧pk1≤lm∨st1=3∧f1=0∧er1=0∨st1=4∧f1=0)∧mm≤pk1):=Lib.hid (by
     have h1:=HL1.out.1.ss
     have h2:=HL1.out.1.pk
     rw [hst1,her1,hpk1,hmm] at h1
     rw [hpk1] at h2
     have hz:M1.frames=[]→f1=0∧mm=0:=fun h=>⟨by rw [← hf1,h];rfl,by rw [← hmm,h];rfl⟩
     rcases h1 with ⟨q1,q2,q3,q4,q5⟩ | ⟨q1,q2,q3⟩ | ⟨q1,q2⟩
     ·refine ⟨.inl ⟨q1,?_,q3,q4⟩,q5⟩
      have:f1≠0:=fun h0=>q2 (List.length_eq_zero_iff.1 (by omega))
      exact ⟨f1 - 1,by omega⟩
     ·exact ⟨.inr (.inl ⟨q1,(hz q2).1,q3⟩),by have:=(hz q2).2;omega⟩
     ·exact ⟨.inr (.inr ⟨q1,(hz q2).1⟩),by have:=(hz q2).2;omega⟩)
    have HNUM:Hid (0≤sp1∧sp1≤ls∧p≤pk1):=Lib.hid (by
     have h1:=HL1.out.1.st
     have h2:=HL1.out.2
     have h3:=HPP.out
     omega)
    have HRC:Hid (Calls Tryz.prog 13 #[.agg #[.slice C.A nF C.ncap,.slice C.B nI C.icap],.agg #[.int .i64 st,.int .i64 er,.slice a1 an1 ak1,.slice a2 fl ak2,.slice a3 an3 ak3,.int .i64 ls,.int .i64 lm,.int .i64 sp,.int .i64 pk],.int .i64 n] wr.drew fun r w'=>∃ b1 bn1 bk1 b2 bk2 b3 bn3 bk3,r=.returned (.agg #[.int .i64 st1,.int .i64 er1,.slice b1 bn1 bk1,.slice b2 f1 bk2,.slice b3 bn3 bk3,.int .i64 ls,.int .i64 lm,.int .i64 sp1,.int .i64 pk1])∧OMach w' wr.heap.size (.agg #[.int .i64 st1,.int .i64 er1,.slice b1 bn1 bk1,.slice b2 f1 bk2,.slice b3 bn3 bk3,.int .i64 ls,.int .i64 lm,.int .i64 sp1,.int .i64 pk1]) M1∧Below wr.heap.size wr w'):=Lib.hid (by
     refine (HRUN.out m _ n K wr.drew HGC.out (HB.out.trans ((below_drew wr).mono HB.out.size)) (HM.out.below (below_drew wr)) HG.out (by have:=HKS.out.1;omega) (by have h1:=HL.out.st;have h2:=HLK.out.1;omega) (by have:=HNS.out;omega)).mono ?_
     rintro r w' ⟨x,rfl,ho,hbx⟩
     rw [hM1] at ho
     obtain ⟨b1,bn1,bk1,b2,bk2,b3,bn3,bk3,hxx⟩:=(ho.machV HG1.out (by have:=HKS.out.1;omega)).lit2
     rw [hst1,her1,hsp1,hpk1,hf1,HL1.out.1.els,HL1.out.1.elm] at hxx
     subst hxx
     exact ⟨b1,bn1,bk1,b2,bk2,b3,bn3,bk3,rfl,ho,below_call hbx (below_drew wr)⟩)
    have c0:=(HCL.out wr HB.out).1
    have x0:=blk2 HX.out
    have y0:=blk9 HA.out
    clear hsa hrow htv hT hn he hM1 hst1 her1 hsp1 hpk1 hf1 hmm hlt hk
    go_upto_region 8 with fail
    go_still_tail 7,(by kernel_rfl)
    change wpList _ _ _ _ _ wr.drew
    have HAd:=Lib.hid HA.out.drew
    obtain ⟨wd,hwd⟩:∃ wd,wr.drew=wd:=⟨_,rfl⟩
    rw [hwd] at HRC ⊢
    clear hwd HAd c0 x0 y0
    go_upto_region 9 with (first
     | (go_at_call 13;((with_reducible refine HRC.out.mono ?_);rintro r5 W5 ⟨b1,bn1,bk1,b2,bk2,b3,bn3,bk3,rfl,ho5,hb5⟩;have HO5:=Lib.hid ho5;have HB5:=Lib.hid hb5;have HA5:=Lib.hid (HA.out.below hb5);clear ho5 hb5))
     | (refine wpList_store_row rfl 37 (.tmp 9) (.tmp 54) rfl gX #[.int .i64 st1,.int .i64 er1,.slice b1 bn1 bk1,.slice b2 f1 bk2,.slice b3 bn3 bk3,.int .i64 ls,.int .i64 lm,.int .i64 sp1,.int .i64 pk1] rfl rfl 37 _ HA5.out (by kernel_rfl) rfl (by simp [Value.oneCell']) ?_))
    have HA6:=Lib.hid (HA5.out.setRow (cs':=#[.int .i64 st1,.int .i64 er1,.slice b1 bn1 bk1,.slice b2 f1 bk2,.slice b3 bn3 bk3,.int .i64 ls,.int .i64 lm,.int .i64 sp1,.int .i64 pk1]))
    have HX6:=Lib.hid ((KT.row HA5.out #[.int .i64 st1,.int .i64 er1,.slice b1 bn1 bk1,.slice b2 f1 bk2,.slice b3 bn3 bk3,.int .i64 ls,.int .i64 lm,.int .i64 sp1,.int .i64 pk1]).blk (by decide) (HX.out.below HB5.out))
    have HY6:=Lib.hid ((KT.row HA5.out #[.int .i64 st1,.int .i64 er1,.slice b1 bn1 bk1,.slice b2 f1 bk2,.slice b3 bn3 bk3,.int .i64 ls,.int .i64 lm,.int .i64 sp1,.int .i64 pk1]).blk (by decide) (HY.out.below HB5.out))
    have HM6:=Lib.hid ((HO5.out.kt (KT.row HA5.out #[.int .i64 st1,.int .i64 er1,.slice b1 bn1 bk1,.slice b2 f1 bk2,.slice b3 bn3 bk3,.int .i64 ls,.int .i64 lm,.int .i64 sp1,.int .i64 pk1])).machV HG1.out (by have:=HKS.out.1;omega))
    have HB6:=Lib.hid (below_setRow (below_call' HB5.out HB.out HB.out.size) HGX.out #[.int .i64 st1,.int .i64 er1,.slice b1 bn1 bk1,.slice b2 f1 bk2,.slice b3 bn3 bk3,.int .i64 ls,.int .i64 lm,.int .i64 sp1,.int .i64 pk1])
    obtain ⟨W6,hW6⟩:∃ W6,W5.setRow gX #[.int .i64 st1,.int .i64 er1,.slice b1 bn1 bk1,.slice b2 f1 bk2,.slice b3 bn3 bk3,.int .i64 ls,.int .i64 lm,.int .i64 sp1,.int .i64 pk1]=W6:=⟨_,rfl⟩
    rw [hW6] at HA6 HX6 HY6 HM6 HB6
    try rw [hW6]
    clear hW6 HA5 HO5 HB5
    have F6:=Lib.hid (show _∧_ from ⟨HY6.out,HA6.out⟩)
    have F6d:=Lib.hid (show _∧_ from ⟨HY6.out.drew,HA6.out.drew⟩)
    have d0:decide (sp1<0)=false:=decide_eq_false (by have:=HNUM.out;omega)
    have d1:decide (ls<sp1)=false:=decide_eq_false (by have:=HNUM.out;omega)
    have d2:decide (pk1<p)=false:=decide_eq_false (by have:=HNUM.out;omega)
    have d3:decide (pk1<mm)=false:=decide_eq_false (by have:=HCS1.out.2;omega)
    go_region_held3 (fun w'=>(w'.cell? ⟨w.heap.size+1,0,none⟩=some (.int .i64 ls)∧w'.cell? ⟨w.heap.size+1,1,none⟩=some (.int .i64 lm))∧(w'.cell? ⟨gX,0,none⟩=some (.int .i64 st1)∧w'.cell? ⟨gX,1,none⟩=some (.int .i64 er1)∧w'.cell? ⟨gX,2,none⟩=some (.slice b1 bn1 bk1)∧w'.cell? ⟨gX,3,none⟩=some (.slice b2 f1 bk2)∧w'.cell? ⟨gX,4,none⟩=some (.slice b3 bn3 bk3)∧w'.cell? ⟨gX,5,none⟩=some (.int .i64 ls)∧w'.cell? ⟨gX,6,none⟩=some (.int .i64 lm)∧w'.cell? ⟨gX,7,none⟩=some (.int .i64 sp1)∧w'.cell? ⟨gX,8,none⟩=some (.int .i64 pk1))) (first | with_reducible exact cells_11 F6.out | with_reducible exact cells_11 F6d.out | with_reducible exact cells_11 F7.out) (first
     | (go_at_call 16;(with_reducible refine (HMEM.out _ _ (HM6.out.below (below_drew W6))).mono ?_);rintro r7 W7 ⟨rfl,hb7⟩;have HB67:=Lib.hid (below_call hb7 (below_drew W6));have F7:=Lib.hid (show _∧_ from ⟨HY6.out.below HB67.out,HA6.out.below HB67.out⟩);clear hb7))
    have HA7:=Lib.hid F7.out.2
    have HY7:=Lib.hid F7.out.1
    have HX7:=Lib.hid (HX6.out.below HB67.out)
    have HM7:=Lib.hid (HM6.out.below HB67.out)
    have HB7:=Lib.hid (below_call' HB67.out HB6.out HB6.out.size)
    have HANQ:Hid (∀ wx,Below W7.heap.size W7 wx→Calls Tryz.prog 17 #[.agg #[.int .i64 st1,.int .i64 er1,.slice b1 bn1 bk1,.slice b2 f1 bk2,.slice b3 bn3 bk3,.int .i64 ls,.int .i64 lm,.int .i64 sp1,.int .i64 pk1],.agg #[.int .i64 e,.slice lA ln lc]] wx (AnsPost (answerF M1 e T.val) wx)):=Lib.hid (fun wx hbx=>manswer_any M1 _ e _ T.val wx _ (HM7.out.below hbx) HG1.out (by have:=HKS.out.1;omega) (HTV.out.below (below_call' hbx HB7.out HB7.out.size)) HOK.out (HPW.out.below (below_call' hbx HB7.out HB7.out.size)))
    have HKE:Hid (((K+2 * n.toNat:Nat):Int)≤2 * sumT (ts.take (k+1))+((k+1:Nat):Int)∧((K+2 * n.toNat+1:Nat):Int)≤2 * sumT (ts.take (k+1))+((k+1:Nat):Int)):=Lib.hid (by have:=HKS.out.2;constructor <;> omega)
    have hw1:IntKind.i64.wrap ((k:Int)+1)=(k:Int)+1:=IntWalk.i64_in _ (by have h1:=HFEW.out.1;have h2:=HN.out;omega)
    clear d0 d1 d2 d3 F6 F6d F7 HA6 HX6 HY6 HM6 HB6
    have a7:=blk9 HA7.out
    have y7:=blk2 HY7.out
    obtain ⟨hcs,_⟩:=HCS1.out
    clear HCS1
    rcases hcs with ⟨hst | hst,⟨j,hj⟩,her,hpl⟩ | ⟨hst,hf,her⟩ | ⟨hst,hf⟩
    ·subst hst hj her
     have hj0:((j:Int)+1 == 0)=false:=by simp;omega
     have hj1:((j:Int)+1=0)=False:=by simp;omega
     have dpk:decide (lm<pk1)=false:=decide_eq_false (by omega)
     clear hpl
     have HZR:Hid (answerF M1 e T.val=(zeroM,10)):=Lib.hid (by unfold answerF;rw [if_pos (by rw [HQ1.out.1];decide)])
     have HANW:Hid (∀ wx,Below W7.heap.size W7 wx→Calls Tryz.prog 17 #[.agg #[.int .i64 1,.int .i64 0,.slice b1 bn1 bk1,.slice b2 (j+1) bk2,.slice b3 bn3 bk3,.int .i64 ls,.int .i64 lm,.int .i64 sp1,.int .i64 pk1],.agg #[.int .i64 e,.slice lA ln lc]] wx fun r w'=>∃ q1 qn1 qk1 q2 qk2 q3 qn3 qk3,r=.returned (.tuple #[.agg #[.int .i64 0,.int .i64 0,.slice q1 qn1 qk1,.slice q2 0 qk2,.slice q3 qn3 qk3,.int .i64 0,.int .i64 0,.int .i64 0,.int .i64 0],.int .i64 10])∧Below wx.heap.size wx w'):=Lib.hid (fun wx hb=>(HANQ.out wx hb).mono (by
      rintro r w' ⟨x,hr,hmx,hbx,_⟩
      rw [HZR.out] at hr hmx
      obtain ⟨q1,qn1,qk1,q2,qk2,q3,qn3,qk3,hx⟩:=hmx.lit2
      exact ⟨q1,qn1,qk1,q2,qk2,q3,qn3,qk3,by rw [hr,hx];rfl,hbx⟩))
     go_upto_region 15 with fail
     have HS7:Hid (∀ w',Below W7.heap.size W7 w'→(w'.cell? ⟨bT,off+k * 3+1,none⟩=some (.int .i64 e)∧w'.cell? ⟨bT,off+k * 3+1+1,none⟩=some (.slice lA ln lc))∧(w'.cell? ⟨gX,0,none⟩=some (.int .i64 1)∧w'.cell? ⟨gX,1,none⟩=some (.int .i64 0)∧w'.cell? ⟨gX,2,none⟩=some (.slice b1 bn1 bk1)∧w'.cell? ⟨gX,3,none⟩=some (.slice b2 (j+1) bk2)∧w'.cell? ⟨gX,4,none⟩=some (.slice b3 bn3 bk3)∧w'.cell? ⟨gX,5,none⟩=some (.int .i64 ls)∧w'.cell? ⟨gX,6,none⟩=some (.int .i64 lm)∧w'.cell? ⟨gX,7,none⟩=some (.int .i64 sp1)∧w'.cell? ⟨gX,8,none⟩=some (.int .i64 pk1))):=Lib.hid (fun w' hb=>⟨⟨(HCL.out w' (below_call' hb HB7.out HB7.out.size)).2.1,(HCL.out w' (below_call' hb HB7.out HB7.out.size)).2.2⟩,blk9 (HA7.out.below hb)⟩)
     have HB_0:=Lib.hid (below_drew W7)
     clear a7 y7 HANQ
     go_cut [14,15] from 37 to 139 (fun u v wx=>∃ g,u=.pointer (some ⟨g,0,none⟩)∧v=.int .i64 10∧Below W7.heap.size W7 wx)
     case first =>
      refine wp_region_held_drew (S:=fun w'=>(w'.cell? ⟨bT,off+k * 3+1,none⟩=some (.int .i64 e)∧w'.cell? ⟨bT,off+k * 3+1+1,none⟩=some (.slice lA ln lc))∧(w'.cell? ⟨gX,0,none⟩=some (.int .i64 1)∧w'.cell? ⟨gX,1,none⟩=some (.int .i64 0)∧w'.cell? ⟨gX,2,none⟩=some (.slice b1 bn1 bk1)∧w'.cell? ⟨gX,3,none⟩=some (.slice b2 (j+1) bk2)∧w'.cell? ⟨gX,4,none⟩=some (.slice b3 bn3 bk3)∧w'.cell? ⟨gX,5,none⟩=some (.int .i64 ls)∧w'.cell? ⟨gX,6,none⟩=some (.int .i64 lm)∧w'.cell? ⟨gX,7,none⟩=some (.int .i64 sp1)∧w'.cell? ⟨gX,8,none⟩=some (.int .i64 pk1))) (by kernel_rfl) (HS7.out _ HB_0.out) (fun hHeld=>?_)
      obtain ⟨WD,hWD⟩:∃ W,W7.drew=W:=⟨_,rfl⟩
      rw [hWD] at HB_0 hHeld ⊢
      clear hWD
      refine wpAnyH_take (i:=0) (oi:=_) (v:=.agg #[.int .i64 1,.int .i64 0,.slice b1 bn1 bk1,.slice b2 (j+1) bk2,.slice b3 bn3 bk3,.int .i64 ls,.int .i64 lm,.int .i64 sp1,.int .i64 pk1]) rfl (by kernel_rfl) (by kernel_rfl) (by kernel_rfl) (fun _ _ _ h=>h) (Or.inl ⟨by rfl,by intro w hSw;(try dsimp only at hSw);go_simp⟩) (by assumption) ?_
      simp only [Act.put,List.setIfInBounds_toArray,List.set_cons_zero,List.set_cons_succ]
      refine wpAnyH_take (i:=1) (oi:=_) (v:=.slice (some ⟨bT,off,none⟩) N tcap) rfl (by kernel_rfl) (by kernel_rfl) (by kernel_rfl) (fun _ _ _ h=>h) (Or.inl ⟨by rfl,by intro w hSw;(try dsimp only at hSw);go_simp⟩) (by assumption) ?_
      simp only [Act.put,List.setIfInBounds_toArray,List.set_cons_zero,List.set_cons_succ]
      refine wpAnyH_take (i:=2) (oi:=_) (v:=.int .i64 k) rfl (by kernel_rfl) (by kernel_rfl) (by kernel_rfl) (fun _ _ _ h=>h) (Or.inl ⟨by rfl,by intro w hSw;(try dsimp only at hSw);go_simp⟩) (by assumption) ?_
      simp only [Act.put,List.setIfInBounds_toArray,List.set_cons_zero,List.set_cons_succ]
      refine wpAnyH_take (i:=3) (oi:=_) (v:=.pointer (some ⟨bT,off+k * 3,none⟩)) rfl (by kernel_rfl) (by kernel_rfl) (by kernel_rfl) (fun _ _ _ h=>h) (Or.inl ⟨by rfl,by intro w hSw;(try dsimp only at hSw);go_simp⟩) (by assumption) ?_
      simp only [Act.put,List.setIfInBounds_toArray,List.set_cons_zero,List.set_cons_succ]
      refine wpAnyH_take (i:=4) (oi:=_) (v:=.pointer (some ⟨bT,off+k * 3+1,none⟩)) rfl (by kernel_rfl) (by kernel_rfl) (by kernel_rfl) (fun _ _ _ h=>h) (Or.inl ⟨by rfl,by intro w hSw;(try dsimp only at hSw);go_simp⟩) (by assumption) ?_
      simp only [Act.put,List.setIfInBounds_toArray,List.set_cons_zero,List.set_cons_succ]
      refine wpAnyH_take (i:=5) (oi:=_) (v:=.agg #[.int .i64 e,.slice lA ln lc]) rfl (by kernel_rfl) (by kernel_rfl) (by kernel_rfl) (fun _ _ _ h=>h) (Or.inl ⟨by rfl,by intro w hSw;(try dsimp only at hSw);go_simp⟩) (by assumption) ?_
      simp only [Act.put,List.setIfInBounds_toArray,List.set_cons_zero,List.set_cons_succ]
      refine wpAnyH_ready (rs:=[6,10]) (by kernel_rfl) (by simp) ?_
      refine AllReadyH.cons (o:=_) rfl (fun K hK=>?_) ?_
      ·go_simp
       refine (HANW.out _ HB_0.out).mono ?_
       rintro r9 Wq2 ⟨q1,qn1,qk1,q2,qk2,q3,qn3,qk3,rfl,hb9⟩
       have HB_cq1:=Lib.hid (below_call' hb9 HB_0.out HB_0.out.size)
       clear hb9
       go_wp2_with fail
       refine hK.out _ _ (HS7.out _ HB_cq1.out) (fun hHeld=>?_)
       clear hK K
       try simp only [Act.put,List.setIfInBounds_toArray,List.set_cons_zero,List.set_cons_succ]
       refine wpAnyH_take (i:=7) (oi:=_) (v:=.tuple #[.agg #[.int .i64 0,.int .i64 0,.slice q1 qn1 qk1,.slice q2 0 qk2,.slice q3 qn3 qk3,.int .i64 0,.int .i64 0,.int .i64 0,.int .i64 0],.int .i64 10]) rfl (by kernel_rfl) (by kernel_rfl) (by kernel_rfl) (fun _ _ _ h=>h) (Or.inl ⟨by rfl,by intro w hSw;(try dsimp only at hSw);go_simp⟩) (by assumption) ?_
       simp only [Act.put,List.setIfInBounds_toArray,List.set_cons_zero,List.set_cons_succ]
       refine wpAnyH_take (i:=8) (oi:=_) (v:=.agg #[.int .i64 0,.int .i64 0,.slice q1 qn1 qk1,.slice q2 0 qk2,.slice q3 qn3 qk3,.int .i64 0,.int .i64 0,.int .i64 0,.int .i64 0]) rfl (by kernel_rfl) (by kernel_rfl) (by kernel_rfl) (fun _ _ _ h=>h) (Or.inl ⟨by rfl,by intro w hSw;(try dsimp only at hSw);go_simp⟩) (by assumption) ?_
       simp only [Act.put,List.setIfInBounds_toArray,List.set_cons_zero,List.set_cons_succ]
       refine wpAnyH_take (i:=9) (oi:=_) (v:=.int .i64 10) rfl (by kernel_rfl) (by kernel_rfl) (by kernel_rfl) (fun _ _ _ h=>h) (Or.inl ⟨by rfl,by intro w hSw;(try dsimp only at hSw);go_simp⟩) (by assumption) ?_
       simp only [Act.put,List.setIfInBounds_toArray,List.set_cons_zero,List.set_cons_succ]
       refine wpAnyH_ready (rs:=[10]) (by kernel_rfl) (by simp) ?_
       refine AllReadyH.cons (o:=_) rfl (fun K hK=>?_) AllReadyH.nil
       go_simp
       have HB_aq3:=Lib.hid (HB_cq1.out.alloc HB_cq1.out.size (.cells #[.int .i64 0,.int .i64 0,.slice none 0 0,.slice none 0 0,.slice none 0 0,.int .i64 0,.int .i64 0,.int .i64 0,.int .i64 0] 37))
       have HM_aq3:=Lib.hid (Blk.new Wq2 37 #[.int .i64 0,.int .i64 0,.slice none 0 0,.slice none 0 0,.slice none 0 0,.int .i64 0,.int .i64 0,.int .i64 0,.int .i64 0])
       refine hK.out _ _ (HS7.out _ HB_aq3.out) (fun hHeld=>?_)
       clear hK K
       try simp only [Act.put,List.setIfInBounds_toArray,List.set_cons_zero,List.set_cons_succ]
       obtain ⟨gq4,hgq4⟩:∃ g,Wq2.heap.size=g:=⟨_,rfl⟩
       have Hgq4:=Lib.hid hgq4
       have HGE_gq4:Hid (W7.heap.size≤gq4):=Lib.hid (by rw [← Hgq4.out];exact HB_cq1.out.size)
       obtain ⟨Wq5,hWq5⟩:∃ W,Wq2.alloc (.cells #[.int .i64 0,.int .i64 0,.slice none 0 0,.slice none 0 0,.slice none 0 0,.int .i64 0,.int .i64 0,.int .i64 0,.int .i64 0] 37)=W:=⟨_,rfl⟩
       rw [hWq5] at HB_aq3 HM_aq3 hHeld ⊢
       rw [hgq4] at HM_aq3
       try rw [hgq4]
       have hhgq4:=HB_aq3.out.size
       clear hWq5 hgq4 hhgq4
       refine wpAnyH_ready (rs:=[11]) (by kernel_rfl) (by simp) ?_
       refine AllReadyH.cons (o:=_) rfl (fun K hK=>?_) AllReadyH.nil
       rw [if_pos (by rfl)]
       refine wp_store_row _ _ _ rfl gq4 #[.int .i64 0,.int .i64 0,.slice q1 qn1 qk1,.slice q2 0 qk2,.slice q3 qn3 qk3,.int .i64 0,.int .i64 0,.int .i64 0,.int .i64 0] rfl rfl 37 _ HM_aq3.out (by kernel_rfl) rfl (by simp [Value.oneCell']) ?_
       have HB_sq6:=Lib.hid (below_setRow HB_aq3.out HGE_gq4.out #[.int .i64 0,.int .i64 0,.slice q1 qn1 qk1,.slice q2 0 qk2,.slice q3 qn3 qk3,.int .i64 0,.int .i64 0,.int .i64 0,.int .i64 0])
       have HM_sq6:=Lib.hid (HM_aq3.out.setRow (cs':=#[.int .i64 0,.int .i64 0,.slice q1 qn1 qk1,.slice q2 0 qk2,.slice q3 qn3 qk3,.int .i64 0,.int .i64 0,.int .i64 0,.int .i64 0]))
       refine hK.out _ _ (HS7.out _ HB_sq6.out) (fun hHeld=>?_)
       clear hK K
       try simp only [Act.put,List.setIfInBounds_toArray,List.set_cons_zero,List.set_cons_succ]
       refine wpAnyH_take (i:=12) (oi:=_) (v:=.int .i64 10) rfl (by kernel_rfl) (by kernel_rfl) (by kernel_rfl) (fun _ _ _ h=>h) (Or.inl ⟨by rfl,by intro w hSw;(try dsimp only at hSw);go_simp⟩) (by assumption) ?_
       simp only [Act.put,List.setIfInBounds_toArray,List.set_cons_zero,List.set_cons_succ]
       refine wpAnyH_done (by kernel_rfl) ?_ _
       dsimp only [List.getElem_toArray,List.getElem_cons_succ,List.getElem_cons_zero,Act.put]
       go_wp2_with fail
       go_meet
       exact ⟨gq4,rfl,rfl,HB_sq6.out⟩
      refine AllReadyH.cons (o:=_) rfl (fun K hK=>?_) AllReadyH.nil
      go_simp
      have HB_aq7:=Lib.hid (HB_0.out.alloc HB_0.out.size (.cells #[.int .i64 0,.int .i64 0,.slice none 0 0,.slice none 0 0,.slice none 0 0,.int .i64 0,.int .i64 0,.int .i64 0,.int .i64 0] 37))
      have HM_aq7:=Lib.hid (Blk.new WD 37 #[.int .i64 0,.int .i64 0,.slice none 0 0,.slice none 0 0,.slice none 0 0,.int .i64 0,.int .i64 0,.int .i64 0,.int .i64 0])
      refine hK.out _ _ (HS7.out _ HB_aq7.out) (fun hHeld=>?_)
      clear hK K
      try simp only [Act.put,List.setIfInBounds_toArray,List.set_cons_zero,List.set_cons_succ]
      obtain ⟨gq8,hgq8⟩:∃ g,WD.heap.size=g:=⟨_,rfl⟩
      have Hgq8:=Lib.hid hgq8
      have HGE_gq8:Hid (W7.heap.size≤gq8):=Lib.hid (by rw [← Hgq8.out];exact HB_0.out.size)
      obtain ⟨Wq9,hWq9⟩:∃ W,WD.alloc (.cells #[.int .i64 0,.int .i64 0,.slice none 0 0,.slice none 0 0,.slice none 0 0,.int .i64 0,.int .i64 0,.int .i64 0,.int .i64 0] 37)=W:=⟨_,rfl⟩
      rw [hWq9] at HB_aq7 HM_aq7 hHeld ⊢
      rw [hgq8] at HM_aq7
      try rw [hgq8]
      have hhgq8:=HB_aq7.out.size
      clear hWq9 hgq8 hhgq8
      refine wpAnyH_ready (rs:=[6]) (by kernel_rfl) (by simp) ?_
      refine AllReadyH.cons (o:=_) rfl (fun K hK=>?_) AllReadyH.nil
      go_simp
      refine (HANW.out _ HB_aq7.out).mono ?_
      rintro r9 Wq11 ⟨q1,qn1,qk1,q2,qk2,q3,qn3,qk3,rfl,hb9⟩
      have HB_cq10:=Lib.hid (below_call' hb9 HB_aq7.out HB_aq7.out.size)
      have HM_cq10:=Lib.hid (HM_aq7.out.below hb9)
      clear hb9
      go_wp2_with fail
      refine hK.out _ _ (HS7.out _ HB_cq10.out) (fun hHeld=>?_)
      clear hK K
      try simp only [Act.put,List.setIfInBounds_toArray,List.set_cons_zero,List.set_cons_succ]
      refine wpAnyH_take (i:=7) (oi:=_) (v:=.tuple #[.agg #[.int .i64 0,.int .i64 0,.slice q1 qn1 qk1,.slice q2 0 qk2,.slice q3 qn3 qk3,.int .i64 0,.int .i64 0,.int .i64 0,.int .i64 0],.int .i64 10]) rfl (by kernel_rfl) (by kernel_rfl) (by kernel_rfl) (fun _ _ _ h=>h) (Or.inl ⟨by rfl,by intro w hSw;(try dsimp only at hSw);go_simp⟩) (by assumption) ?_
      simp only [Act.put,List.setIfInBounds_toArray,List.set_cons_zero,List.set_cons_succ]
      refine wpAnyH_take (i:=8) (oi:=_) (v:=.agg #[.int .i64 0,.int .i64 0,.slice q1 qn1 qk1,.slice q2 0 qk2,.slice q3 qn3 qk3,.int .i64 0,.int .i64 0,.int .i64 0,.int .i64 0]) rfl (by kernel_rfl) (by kernel_rfl) (by kernel_rfl) (fun _ _ _ h=>h) (Or.inl ⟨by rfl,by intro w hSw;(try dsimp only at hSw);go_simp⟩) (by assumption) ?_
      simp only [Act.put,List.setIfInBounds_toArray,List.set_cons_zero,List.set_cons_succ]
      refine wpAnyH_take (i:=9) (oi:=_) (v:=.int .i64 10) rfl (by kernel_rfl) (by kernel_rfl) (by kernel_rfl) (fun _ _ _ h=>h) (Or.inl ⟨by rfl,by intro w hSw;(try dsimp only at hSw);go_simp⟩) (by assumption) ?_
      simp only [Act.put,List.setIfInBounds_toArray,List.set_cons_zero,List.set_cons_succ]
      refine wpAnyH_ready (rs:=[11]) (by kernel_rfl) (by simp) ?_
      refine AllReadyH.cons (o:=_) rfl (fun K hK=>?_) AllReadyH.nil
      rw [if_pos (by rfl)]
      refine wp_store_row _ _ _ rfl gq8 #[.int .i64 0,.int .i64 0,.slice q1 qn1 qk1,.slice q2 0 qk2,.slice q3 qn3 qk3,.int .i64 0,.int .i64 0,.int .i64 0,.int .i64 0] rfl rfl 37 _ HM_cq10.out (by kernel_rfl) rfl (by simp [Value.oneCell']) ?_
      have HB_sq12:=Lib.hid (below_setRow HB_cq10.out HGE_gq8.out #[.int .i64 0,.int .i64 0,.slice q1 qn1 qk1,.slice q2 0 qk2,.slice q3 qn3 qk3,.int .i64 0,.int .i64 0,.int .i64 0,.int .i64 0])
      have HM_sq12:=Lib.hid (HM_cq10.out.setRow (cs':=#[.int .i64 0,.int .i64 0,.slice q1 qn1 qk1,.slice q2 0 qk2,.slice q3 qn3 qk3,.int .i64 0,.int .i64 0,.int .i64 0,.int .i64 0]))
      refine hK.out _ _ (HS7.out _ HB_sq12.out) (fun hHeld=>?_)
      clear hK K
      try simp only [Act.put,List.setIfInBounds_toArray,List.set_cons_zero,List.set_cons_succ]
      refine wpAnyH_take (i:=12) (oi:=_) (v:=.int .i64 10) rfl (by kernel_rfl) (by kernel_rfl) (by kernel_rfl) (fun _ _ _ h=>h) (Or.inl ⟨by rfl,by intro w hSw;(try dsimp only at hSw);go_simp⟩) (by assumption) ?_
      simp only [Act.put,List.setIfInBounds_toArray,List.set_cons_zero,List.set_cons_succ]
      refine wpAnyH_done (by kernel_rfl) ?_ _
      dsimp only [List.getElem_toArray,List.getElem_cons_succ,List.getElem_cons_zero,Act.put]
      go_wp2_with fail
      go_meet
      exact ⟨gq8,rfl,rfl,HB_sq12.out⟩
     case rest =>
      obtain ⟨gB,rfl,rfl,hbc⟩:=hcut
      have HB710:=Lib.hid hbc
      have HA10:=Lib.hid (HA7.out.below hbc)
      have a10:=blk9 HA10.out
      clear hbc
      go_wp2_with (fail)
      refine ⟨⟨k+1,pk1,by omega,by simp,rfl,K+2 * n.toNat,M1,1,0,sp1,pk1,b1,bn1,bk1,b2,(j+1),bk2,b3,bn3,bk3,below_call' HB710.out HB7.out HB7.out.size,HX7.out.below HB710.out,HY7.out.below HB710.out,HA10.out,HM7.out.below HB710.out,HG1.out,HL1.out.1,Int.le_refl _,HQ1.out.2.2.2.1,HKE.out.1⟩,by simp [intOf];omega⟩
    ·subst hst hj her
     have hj0:((j:Int)+1 == 0)=false:=by simp;omega
     have hj1:((j:Int)+1=0)=False:=by simp;omega
     have dpk:decide (lm<pk1)=false:=decide_eq_false (by omega)
     clear hpl
     obtain ⟨M2,hM2⟩:∃ M,answerM M1 e T.val=M:=⟨_,rfl⟩
     have HG2:Hid (GoodM (K+2 * n.toNat+1) M2):=Lib.hid (by rw [← hM2];exact HG1.out.answer e T.val)
     have HL2:Hid (LimM ls lm M2∧M1.peak≤M2.peak):=Lib.hid (by rw [← hM2];exact HL1.out.1.answer HQ1.out.1 e T.val)
     have HZR:Hid (answerF M1 e T.val=(M2,0)):=Lib.hid (by unfold answerF;rw [if_neg (by rw [HQ1.out.1];decide),hM2])
     have HANW:Hid (∀ wx,Below W7.heap.size W7 wx→Calls Tryz.prog 17 #[.agg #[.int .i64 2,.int .i64 0,.slice b1 bn1 bk1,.slice b2 (j+1) bk2,.slice b3 bn3 bk3,.int .i64 ls,.int .i64 lm,.int .i64 sp1,.int .i64 pk1],.agg #[.int .i64 e,.slice lA ln lc]] wx fun r w'=>∃ v1 vn1 vk1 v2 vn2 vk2 v3 vn3 vk3 gE LS avs,r=.returned (.tuple #[.agg #[.int .i64 M2.status,.int .i64 M2.err,.slice v1 vn1 vk1,.slice v2 vn2 vk2,.slice v3 vn3 vk3,.int .i64 M2.lsteps,.int .i64 M2.lmem,.int .i64 M2.steps,.int .i64 M2.peak],.int .i64 0])∧XM W7 noC gE w' M2 (.slice v1 vn1 vk1) (.slice v2 vn2 vk2) (.slice v3 vn3 vk3) LS avs∧Below wx.heap.size wx w'):=Lib.hid (fun wx hb=>(HANQ.out wx hb).mono (by
      rintro r w' ⟨x,hr,hmx,hbx,how⟩
      rw [HZR.out] at hr how
      obtain ⟨gE,vv,fv,qv,LS,avs,hxe,hxm,_⟩:=how rfl
      obtain ⟨v1,vn1,vk1,rfl⟩:=hxm.p.val.shape
      obtain ⟨v2,vn2,vk2,rfl⟩:=hxm.fshape
      obtain ⟨v3,vk3,rfl⟩:=hxm.qshape
      exact ⟨v1,vn1,vk1,v2,vn2,vk2,v3,_,vk3,gE,LS,avs,by rw [hr,hxe];rfl,hxm.rebase hb,hbx⟩))
     clear hM2
     go_upto_region 15 with fail
     have HS7:Hid (∀ w',Below W7.heap.size W7 w'→(w'.cell? ⟨bT,off+k * 3+1,none⟩=some (.int .i64 e)∧w'.cell? ⟨bT,off+k * 3+1+1,none⟩=some (.slice lA ln lc))∧(w'.cell? ⟨gX,0,none⟩=some (.int .i64 2)∧w'.cell? ⟨gX,1,none⟩=some (.int .i64 0)∧w'.cell? ⟨gX,2,none⟩=some (.slice b1 bn1 bk1)∧w'.cell? ⟨gX,3,none⟩=some (.slice b2 (j+1) bk2)∧w'.cell? ⟨gX,4,none⟩=some (.slice b3 bn3 bk3)∧w'.cell? ⟨gX,5,none⟩=some (.int .i64 ls)∧w'.cell? ⟨gX,6,none⟩=some (.int .i64 lm)∧w'.cell? ⟨gX,7,none⟩=some (.int .i64 sp1)∧w'.cell? ⟨gX,8,none⟩=some (.int .i64 pk1))):=Lib.hid (fun w' hb=>⟨⟨(HCL.out w' (below_call' hb HB7.out HB7.out.size)).2.1,(HCL.out w' (below_call' hb HB7.out HB7.out.size)).2.2⟩,blk9 (HA7.out.below hb)⟩)
     have HB_0:=Lib.hid (below_drew W7)
     clear a7 y7 HANQ
     go_cut [14,15] from 37 to 139 (fun u v wx=>∃ g v1 vn1 vk1 v2 vn2 vk2 v3 vn3 vk3 gE LS avs,u=.pointer (some ⟨g,0,none⟩)∧v=.int .i64 0∧Below W7.heap.size W7 wx∧Blk wx g 37 #[.int .i64 M2.status,.int .i64 M2.err,.slice v1 vn1 vk1,.slice v2 vn2 vk2,.slice v3 vn3 vk3,.int .i64 M2.lsteps,.int .i64 M2.lmem,.int .i64 M2.steps,.int .i64 M2.peak]∧XM W7 noC gE wx M2 (.slice v1 vn1 vk1) (.slice v2 vn2 vk2) (.slice v3 vn3 vk3) LS avs)
     case first =>
      refine wp_region_held_drew (S:=fun w'=>(w'.cell? ⟨bT,off+k * 3+1,none⟩=some (.int .i64 e)∧w'.cell? ⟨bT,off+k * 3+1+1,none⟩=some (.slice lA ln lc))∧(w'.cell? ⟨gX,0,none⟩=some (.int .i64 2)∧w'.cell? ⟨gX,1,none⟩=some (.int .i64 0)∧w'.cell? ⟨gX,2,none⟩=some (.slice b1 bn1 bk1)∧w'.cell? ⟨gX,3,none⟩=some (.slice b2 (j+1) bk2)∧w'.cell? ⟨gX,4,none⟩=some (.slice b3 bn3 bk3)∧w'.cell? ⟨gX,5,none⟩=some (.int .i64 ls)∧w'.cell? ⟨gX,6,none⟩=some (.int .i64 lm)∧w'.cell? ⟨gX,7,none⟩=some (.int .i64 sp1)∧w'.cell? ⟨gX,8,none⟩=some (.int .i64 pk1))) (by kernel_rfl) (HS7.out _ HB_0.out) (fun hHeld=>?_)
      obtain ⟨WD,hWD⟩:∃ W,W7.drew=W:=⟨_,rfl⟩
      rw [hWD] at HB_0 hHeld ⊢
      clear hWD
      refine wpAnyH_take (i:=0) (oi:=_) (v:=.agg #[.int .i64 2,.int .i64 0,.slice b1 bn1 bk1,.slice b2 (j+1) bk2,.slice b3 bn3 bk3,.int .i64 ls,.int .i64 lm,.int .i64 sp1,.int .i64 pk1]) rfl (by kernel_rfl) (by kernel_rfl) (by kernel_rfl) (fun _ _ _ h=>h) (Or.inl ⟨by rfl,by intro w hSw;(try dsimp only at hSw);go_simp⟩) (by assumption) ?_
      simp only [Act.put,List.setIfInBounds_toArray,List.set_cons_zero,List.set_cons_succ]
      refine wpAnyH_take (i:=1) (oi:=_) (v:=.slice (some ⟨bT,off,none⟩) N tcap) rfl (by kernel_rfl) (by kernel_rfl) (by kernel_rfl) (fun _ _ _ h=>h) (Or.inl ⟨by rfl,by intro w hSw;(try dsimp only at hSw);go_simp⟩) (by assumption) ?_
      simp only [Act.put,List.setIfInBounds_toArray,List.set_cons_zero,List.set_cons_succ]
      refine wpAnyH_take (i:=2) (oi:=_) (v:=.int .i64 k) rfl (by kernel_rfl) (by kernel_rfl) (by kernel_rfl) (fun _ _ _ h=>h) (Or.inl ⟨by rfl,by intro w hSw;(try dsimp only at hSw);go_simp⟩) (by assumption) ?_
      simp only [Act.put,List.setIfInBounds_toArray,List.set_cons_zero,List.set_cons_succ]
      refine wpAnyH_take (i:=3) (oi:=_) (v:=.pointer (some ⟨bT,off+k * 3,none⟩)) rfl (by kernel_rfl) (by kernel_rfl) (by kernel_rfl) (fun _ _ _ h=>h) (Or.inl ⟨by rfl,by intro w hSw;(try dsimp only at hSw);go_simp⟩) (by assumption) ?_
      simp only [Act.put,List.setIfInBounds_toArray,List.set_cons_zero,List.set_cons_succ]
      refine wpAnyH_take (i:=4) (oi:=_) (v:=.pointer (some ⟨bT,off+k * 3+1,none⟩)) rfl (by kernel_rfl) (by kernel_rfl) (by kernel_rfl) (fun _ _ _ h=>h) (Or.inl ⟨by rfl,by intro w hSw;(try dsimp only at hSw);go_simp⟩) (by assumption) ?_
      simp only [Act.put,List.setIfInBounds_toArray,List.set_cons_zero,List.set_cons_succ]
      refine wpAnyH_take (i:=5) (oi:=_) (v:=.agg #[.int .i64 e,.slice lA ln lc]) rfl (by kernel_rfl) (by kernel_rfl) (by kernel_rfl) (fun _ _ _ h=>h) (Or.inl ⟨by rfl,by intro w hSw;(try dsimp only at hSw);go_simp⟩) (by assumption) ?_
      simp only [Act.put,List.setIfInBounds_toArray,List.set_cons_zero,List.set_cons_succ]
      refine wpAnyH_ready (rs:=[6,10]) (by kernel_rfl) (by simp) ?_
      refine AllReadyH.cons (o:=_) rfl (fun K hK=>?_) ?_
      ·go_simp
       refine (HANW.out _ HB_0.out).mono ?_
       rintro r9 Wq14 ⟨v1,vn1,vk1,v2,vn2,vk2,v3,vn3,vk3,gE,LS,avs,rfl,hxm,hb9⟩
       have HB_cq13:=Lib.hid (below_call' hb9 HB_0.out HB_0.out.size)
       have HXM_cq13:=Lib.hid hxm
       clear hxm
       clear hb9
       go_wp2_with fail
       refine hK.out _ _ (HS7.out _ HB_cq13.out) (fun hHeld=>?_)
       clear hK K
       try simp only [Act.put,List.setIfInBounds_toArray,List.set_cons_zero,List.set_cons_succ]
       refine wpAnyH_take (i:=7) (oi:=_) (v:=.tuple #[.agg #[.int .i64 M2.status,.int .i64 M2.err,.slice v1 vn1 vk1,.slice v2 vn2 vk2,.slice v3 vn3 vk3,.int .i64 M2.lsteps,.int .i64 M2.lmem,.int .i64 M2.steps,.int .i64 M2.peak],.int .i64 0]) rfl (by kernel_rfl) (by kernel_rfl) (by kernel_rfl) (fun _ _ _ h=>h) (Or.inl ⟨by rfl,by intro w hSw;(try dsimp only at hSw);go_simp⟩) (by assumption) ?_
       simp only [Act.put,List.setIfInBounds_toArray,List.set_cons_zero,List.set_cons_succ]
       refine wpAnyH_take (i:=8) (oi:=_) (v:=.agg #[.int .i64 M2.status,.int .i64 M2.err,.slice v1 vn1 vk1,.slice v2 vn2 vk2,.slice v3 vn3 vk3,.int .i64 M2.lsteps,.int .i64 M2.lmem,.int .i64 M2.steps,.int .i64 M2.peak]) rfl (by kernel_rfl) (by kernel_rfl) (by kernel_rfl) (fun _ _ _ h=>h) (Or.inl ⟨by rfl,by intro w hSw;(try dsimp only at hSw);go_simp⟩) (by assumption) ?_
       simp only [Act.put,List.setIfInBounds_toArray,List.set_cons_zero,List.set_cons_succ]
       refine wpAnyH_take (i:=9) (oi:=_) (v:=.int .i64 0) rfl (by kernel_rfl) (by kernel_rfl) (by kernel_rfl) (fun _ _ _ h=>h) (Or.inl ⟨by rfl,by intro w hSw;(try dsimp only at hSw);go_simp⟩) (by assumption) ?_
       simp only [Act.put,List.setIfInBounds_toArray,List.set_cons_zero,List.set_cons_succ]
       refine wpAnyH_ready (rs:=[10]) (by kernel_rfl) (by simp) ?_
       refine AllReadyH.cons (o:=_) rfl (fun K hK=>?_) AllReadyH.nil
       go_simp
       have HB_aq15:=Lib.hid (HB_cq13.out.alloc HB_cq13.out.size (.cells #[.int .i64 0,.int .i64 0,.slice none 0 0,.slice none 0 0,.slice none 0 0,.int .i64 0,.int .i64 0,.int .i64 0,.int .i64 0] 37))
       have HXM_aq15:=Lib.hid (HXM_cq13.out.below (below_new Wq14 (.cells #[.int .i64 0,.int .i64 0,.slice none 0 0,.slice none 0 0,.slice none 0 0,.int .i64 0,.int .i64 0,.int .i64 0,.int .i64 0] 37)))
       have HM_aq15:=Lib.hid (Blk.new Wq14 37 #[.int .i64 0,.int .i64 0,.slice none 0 0,.slice none 0 0,.slice none 0 0,.int .i64 0,.int .i64 0,.int .i64 0,.int .i64 0])
       refine hK.out _ _ (HS7.out _ HB_aq15.out) (fun hHeld=>?_)
       clear hK K
       try simp only [Act.put,List.setIfInBounds_toArray,List.set_cons_zero,List.set_cons_succ]
       obtain ⟨gq16,hgq16⟩:∃ g,Wq14.heap.size=g:=⟨_,rfl⟩
       have Hgq16:=Lib.hid hgq16
       have HGE_gq16:Hid (W7.heap.size≤gq16):=Lib.hid (by rw [← Hgq16.out];exact HB_cq13.out.size)
       obtain ⟨Wq17,hWq17⟩:∃ W,Wq14.alloc (.cells #[.int .i64 0,.int .i64 0,.slice none 0 0,.slice none 0 0,.slice none 0 0,.int .i64 0,.int .i64 0,.int .i64 0,.int .i64 0] 37)=W:=⟨_,rfl⟩
       rw [hWq17] at HB_aq15 HXM_aq15 HM_aq15 hHeld ⊢
       rw [hgq16] at HM_aq15
       try rw [hgq16]
       have hhgq16:=HB_aq15.out.size
       clear hWq17 hgq16 hhgq16
       refine wpAnyH_ready (rs:=[11]) (by kernel_rfl) (by simp) ?_
       refine AllReadyH.cons (o:=_) rfl (fun K hK=>?_) AllReadyH.nil
       rw [if_pos (by rfl)]
       refine wp_store_row _ _ _ rfl gq16 #[.int .i64 M2.status,.int .i64 M2.err,.slice v1 vn1 vk1,.slice v2 vn2 vk2,.slice v3 vn3 vk3,.int .i64 M2.lsteps,.int .i64 M2.lmem,.int .i64 M2.steps,.int .i64 M2.peak] rfl rfl 37 _ HM_aq15.out (by kernel_rfl) rfl (by simp [Value.oneCell']) ?_
       have HB_sq18:=Lib.hid (below_setRow HB_aq15.out HGE_gq16.out #[.int .i64 M2.status,.int .i64 M2.err,.slice v1 vn1 vk1,.slice v2 vn2 vk2,.slice v3 vn3 vk3,.int .i64 M2.lsteps,.int .i64 M2.lmem,.int .i64 M2.steps,.int .i64 M2.peak])
       have HM_sq18:=Lib.hid (HM_aq15.out.setRow (cs':=#[.int .i64 M2.status,.int .i64 M2.err,.slice v1 vn1 vk1,.slice v2 vn2 vk2,.slice v3 vn3 vk3,.int .i64 M2.lsteps,.int .i64 M2.lmem,.int .i64 M2.steps,.int .i64 M2.peak]))
       have HXM_sq18:=Lib.hid (HXM_aq15.out.turnT HM_aq15.out (grown_setRow Wq17 gq16 #[.int .i64 M2.status,.int .i64 M2.err,.slice v1 vn1 vk1,.slice v2 vn2 vk2,.slice v3 vn3 vk3,.int .i64 M2.lsteps,.int .i64 M2.lmem,.int .i64 M2.steps,.int .i64 M2.peak]) HGE_gq16.out (by decide) (by decide) (by decide) (by decide) (by decide))
       refine hK.out _ _ (HS7.out _ HB_sq18.out) (fun hHeld=>?_)
       clear hK K
       try simp only [Act.put,List.setIfInBounds_toArray,List.set_cons_zero,List.set_cons_succ]
       refine wpAnyH_take (i:=12) (oi:=_) (v:=.int .i64 0) rfl (by kernel_rfl) (by kernel_rfl) (by kernel_rfl) (fun _ _ _ h=>h) (Or.inl ⟨by rfl,by intro w hSw;(try dsimp only at hSw);go_simp⟩) (by assumption) ?_
       simp only [Act.put,List.setIfInBounds_toArray,List.set_cons_zero,List.set_cons_succ]
       refine wpAnyH_done (by kernel_rfl) ?_ _
       dsimp only [List.getElem_toArray,List.getElem_cons_succ,List.getElem_cons_zero,Act.put]
       go_wp2_with fail
       go_meet
       exact ⟨gq16,v1,vn1,vk1,v2,vn2,vk2,v3,vn3,vk3,gE,LS,avs,rfl,rfl,HB_sq18.out,HM_sq18.out,HXM_sq18.out⟩
      refine AllReadyH.cons (o:=_) rfl (fun K hK=>?_) AllReadyH.nil
      go_simp
      have HB_aq19:=Lib.hid (HB_0.out.alloc HB_0.out.size (.cells #[.int .i64 0,.int .i64 0,.slice none 0 0,.slice none 0 0,.slice none 0 0,.int .i64 0,.int .i64 0,.int .i64 0,.int .i64 0] 37))
      have HM_aq19:=Lib.hid (Blk.new WD 37 #[.int .i64 0,.int .i64 0,.slice none 0 0,.slice none 0 0,.slice none 0 0,.int .i64 0,.int .i64 0,.int .i64 0,.int .i64 0])
      refine hK.out _ _ (HS7.out _ HB_aq19.out) (fun hHeld=>?_)
      clear hK K
      try simp only [Act.put,List.setIfInBounds_toArray,List.set_cons_zero,List.set_cons_succ]
      obtain ⟨gq20,hgq20⟩:∃ g,WD.heap.size=g:=⟨_,rfl⟩
      have Hgq20:=Lib.hid hgq20
      have HGE_gq20:Hid (W7.heap.size≤gq20):=Lib.hid (by rw [← Hgq20.out];exact HB_0.out.size)
      obtain ⟨Wq21,hWq21⟩:∃ W,WD.alloc (.cells #[.int .i64 0,.int .i64 0,.slice none 0 0,.slice none 0 0,.slice none 0 0,.int .i64 0,.int .i64 0,.int .i64 0,.int .i64 0] 37)=W:=⟨_,rfl⟩
      rw [hWq21] at HB_aq19 HM_aq19 hHeld ⊢
      rw [hgq20] at HM_aq19
      try rw [hgq20]
      have hhgq20:=HB_aq19.out.size
      clear hWq21 hgq20 hhgq20
      refine wpAnyH_ready (rs:=[6]) (by kernel_rfl) (by simp) ?_
      refine AllReadyH.cons (o:=_) rfl (fun K hK=>?_) AllReadyH.nil
      go_simp
      refine (HANW.out _ HB_aq19.out).mono ?_
      rintro r9 Wq23 ⟨v1,vn1,vk1,v2,vn2,vk2,v3,vn3,vk3,gE,LS,avs,rfl,hxm,hb9⟩
      have HB_cq22:=Lib.hid (below_call' hb9 HB_aq19.out HB_aq19.out.size)
      have HM_cq22:=Lib.hid (HM_aq19.out.below hb9)
      have HXM_cq22:=Lib.hid hxm
      clear hxm
      clear hb9
      go_wp2_with fail
      refine hK.out _ _ (HS7.out _ HB_cq22.out) (fun hHeld=>?_)
      clear hK K
      try simp only [Act.put,List.setIfInBounds_toArray,List.set_cons_zero,List.set_cons_succ]
      refine wpAnyH_take (i:=7) (oi:=_) (v:=.tuple #[.agg #[.int .i64 M2.status,.int .i64 M2.err,.slice v1 vn1 vk1,.slice v2 vn2 vk2,.slice v3 vn3 vk3,.int .i64 M2.lsteps,.int .i64 M2.lmem,.int .i64 M2.steps,.int .i64 M2.peak],.int .i64 0]) rfl (by kernel_rfl) (by kernel_rfl) (by kernel_rfl) (fun _ _ _ h=>h) (Or.inl ⟨by rfl,by intro w hSw;(try dsimp only at hSw);go_simp⟩) (by assumption) ?_
      simp only [Act.put,List.setIfInBounds_toArray,List.set_cons_zero,List.set_cons_succ]
      refine wpAnyH_take (i:=8) (oi:=_) (v:=.agg #[.int .i64 M2.status,.int .i64 M2.err,.slice v1 vn1 vk1,.slice v2 vn2 vk2,.slice v3 vn3 vk3,.int .i64 M2.lsteps,.int .i64 M2.lmem,.int .i64 M2.steps,.int .i64 M2.peak]) rfl (by kernel_rfl) (by kernel_rfl) (by kernel_rfl) (fun _ _ _ h=>h) (Or.inl ⟨by rfl,by intro w hSw;(try dsimp only at hSw);go_simp⟩) (by assumption) ?_
      simp only [Act.put,List.setIfInBounds_toArray,List.set_cons_zero,List.set_cons_succ]
      refine wpAnyH_take (i:=9) (oi:=_) (v:=.int .i64 0) rfl (by kernel_rfl) (by kernel_rfl) (by kernel_rfl) (fun _ _ _ h=>h) (Or.inl ⟨by rfl,by intro w hSw;(try dsimp only at hSw);go_simp⟩) (by assumption) ?_
      simp only [Act.put,List.setIfInBounds_toArray,List.set_cons_zero,List.set_cons_succ]
      refine wpAnyH_ready (rs:=[11]) (by kernel_rfl) (by simp) ?_
      refine AllReadyH.cons (o:=_) rfl (fun K hK=>?_) AllReadyH.nil
      rw [if_pos (by rfl)]
      refine wp_store_row _ _ _ rfl gq20 #[.int .i64 M2.status,.int .i64 M2.err,.slice v1 vn1 vk1,.slice v2 vn2 vk2,.slice v3 vn3 vk3,.int .i64 M2.lsteps,.int .i64 M2.lmem,.int .i64 M2.steps,.int .i64 M2.peak] rfl rfl 37 _ HM_cq22.out (by kernel_rfl) rfl (by simp [Value.oneCell']) ?_
      have HB_sq24:=Lib.hid (below_setRow HB_cq22.out HGE_gq20.out #[.int .i64 M2.status,.int .i64 M2.err,.slice v1 vn1 vk1,.slice v2 vn2 vk2,.slice v3 vn3 vk3,.int .i64 M2.lsteps,.int .i64 M2.lmem,.int .i64 M2.steps,.int .i64 M2.peak])
      have HM_sq24:=Lib.hid (HM_cq22.out.setRow (cs':=#[.int .i64 M2.status,.int .i64 M2.err,.slice v1 vn1 vk1,.slice v2 vn2 vk2,.slice v3 vn3 vk3,.int .i64 M2.lsteps,.int .i64 M2.lmem,.int .i64 M2.steps,.int .i64 M2.peak]))
      have HXM_sq24:=Lib.hid (HXM_cq22.out.turnT HM_cq22.out (grown_setRow Wq23 gq20 #[.int .i64 M2.status,.int .i64 M2.err,.slice v1 vn1 vk1,.slice v2 vn2 vk2,.slice v3 vn3 vk3,.int .i64 M2.lsteps,.int .i64 M2.lmem,.int .i64 M2.steps,.int .i64 M2.peak]) HGE_gq20.out (by decide) (by decide) (by decide) (by decide) (by decide))
      refine hK.out _ _ (HS7.out _ HB_sq24.out) (fun hHeld=>?_)
      clear hK K
      try simp only [Act.put,List.setIfInBounds_toArray,List.set_cons_zero,List.set_cons_succ]
      refine wpAnyH_take (i:=12) (oi:=_) (v:=.int .i64 0) rfl (by kernel_rfl) (by kernel_rfl) (by kernel_rfl) (fun _ _ _ h=>h) (Or.inl ⟨by rfl,by intro w hSw;(try dsimp only at hSw);go_simp⟩) (by assumption) ?_
      simp only [Act.put,List.setIfInBounds_toArray,List.set_cons_zero,List.set_cons_succ]
      refine wpAnyH_done (by kernel_rfl) ?_ _
      dsimp only [List.getElem_toArray,List.getElem_cons_succ,List.getElem_cons_zero,Act.put]
      go_wp2_with fail
      go_meet
      exact ⟨gq20,v1,vn1,vk1,v2,vn2,vk2,v3,vn3,vk3,gE,LS,avs,rfl,rfl,HB_sq24.out,HM_sq24.out,HXM_sq24.out⟩
     case rest =>
      obtain ⟨gB,v1,vn1,vk1,v2,vn2,vk2,v3,vn3,vk3,gE,LS,avs,rfl,rfl,hbc,hbb,hxm⟩:=hcut
      have HB710:=Lib.hid hbc
      have HBB:=Lib.hid hbb
      have HXM10:=Lib.hid hxm
      have HA10:=Lib.hid (HA7.out.below hbc)
      have a10:=blk9 HA10.out
      have b10:=blk9 HBB.out
      clear hbc hbb hxm
      go_wp2_with (first
       | (refine wpList_store_row rfl 37 (.tmp 9) (.tmp 139) rfl gX #[.int .i64 M2.status,.int .i64 M2.err,.slice v1 vn1 vk1,.slice v2 vn2 vk2,.slice v3 vn3 vk3,.int .i64 M2.lsteps,.int .i64 M2.lmem,.int .i64 M2.steps,.int .i64 M2.peak] rfl rfl 37 _ HA10.out (by kernel_rfl) rfl (by simp [Value.oneCell']) ?_))
      have HXF:=Lib.hid ((HXM10.out.rebase HB7.out).turnT HA10.out (grown_setRow wc gX #[.int .i64 M2.status,.int .i64 M2.err,.slice v1 vn1 vk1,.slice v2 vn2 vk2,.slice v3 vn3 vk3,.int .i64 M2.lsteps,.int .i64 M2.lmem,.int .i64 M2.steps,.int .i64 M2.peak]) HGX.out (by decide) (by decide) (by decide) (by decide) (by decide))
      have HMF:=Lib.hid (HXF.out.mach (HG2.out.small (by have:=HKS.out.1;omega)))
      have HAF:=Lib.hid (HA10.out.setRow (cs':=#[.int .i64 M2.status,.int .i64 M2.err,.slice v1 vn1 vk1,.slice v2 vn2 vk2,.slice v3 vn3 vk3,.int .i64 M2.lsteps,.int .i64 M2.lmem,.int .i64 M2.steps,.int .i64 M2.peak]))
      have HBF:=Lib.hid (below_setRow (below_call' HB710.out HB7.out HB7.out.size) HGX.out #[.int .i64 M2.status,.int .i64 M2.err,.slice v1 vn1 vk1,.slice v2 vn2 vk2,.slice v3 vn3 vk3,.int .i64 M2.lsteps,.int .i64 M2.lmem,.int .i64 M2.steps,.int .i64 M2.peak])
      refine ⟨⟨k+1,pk1,by omega,by simp,rfl,K+2 * n.toNat+1,M2,M2.status,M2.err,M2.steps,M2.peak,v1,vn1,vk1,v2,vn2,vk2,v3,vn3,vk3,HBF.out,(KT.row HA10.out #[.int .i64 M2.status,.int .i64 M2.err,.slice v1 vn1 vk1,.slice v2 vn2 vk2,.slice v3 vn3 vk3,.int .i64 M2.lsteps,.int .i64 M2.lmem,.int .i64 M2.steps,.int .i64 M2.peak]).blk (by decide) (HX7.out.below HB710.out),(KT.row HA10.out #[.int .i64 M2.status,.int .i64 M2.err,.slice v1 vn1 vk1,.slice v2 vn2 vk2,.slice v3 vn3 vk3,.int .i64 M2.lsteps,.int .i64 M2.lmem,.int .i64 M2.steps,.int .i64 M2.peak]).blk (by decide) (HY7.out.below HB710.out),?_,?_,HG2.out,HL2.out.1,?_,rfl,HKE.out.2⟩,by simp [intOf];omega⟩
      ·have:=HAF.out
       rw [HL2.out.1.els,HL2.out.1.elm] at this ⊢
       exact this
      ·have:=HMF.out
       unfold machA at this
       rw [HL2.out.1.els,HL2.out.1.elm] at this ⊢
       exact this
      ·have h1:=HL2.out.2
       rw [HQ1.out.2.2.2.1] at h1
       exact h1
    ·subst hst hf her
     have HZR:Hid (answerF M1 e T.val=(zeroM,10)):=Lib.hid (by unfold answerF;rw [if_pos (by rw [HQ1.out.1];decide)])
     have HANW:Hid (∀ wx,Below W7.heap.size W7 wx→Calls Tryz.prog 17 #[.agg #[.int .i64 3,.int .i64 0,.slice b1 bn1 bk1,.slice b2 0 bk2,.slice b3 bn3 bk3,.int .i64 ls,.int .i64 lm,.int .i64 sp1,.int .i64 pk1],.agg #[.int .i64 e,.slice lA ln lc]] wx fun r w'=>∃ q1 qn1 qk1 q2 qk2 q3 qn3 qk3,r=.returned (.tuple #[.agg #[.int .i64 0,.int .i64 0,.slice q1 qn1 qk1,.slice q2 0 qk2,.slice q3 qn3 qk3,.int .i64 0,.int .i64 0,.int .i64 0,.int .i64 0],.int .i64 10])∧Below wx.heap.size wx w'):=Lib.hid (fun wx hb=>(HANQ.out wx hb).mono (by
      rintro r w' ⟨x,hr,hmx,hbx,_⟩
      rw [HZR.out] at hr hmx
      obtain ⟨q1,qn1,qk1,q2,qk2,q3,qn3,qk3,hx⟩:=hmx.lit2
      exact ⟨q1,qn1,qk1,q2,qk2,q3,qn3,qk3,by rw [hr,hx];rfl,hbx⟩))
     go_upto_region 15 with fail
     have HS7:Hid (∀ w',Below W7.heap.size W7 w'→(w'.cell? ⟨bT,off+k * 3+1,none⟩=some (.int .i64 e)∧w'.cell? ⟨bT,off+k * 3+1+1,none⟩=some (.slice lA ln lc))∧(w'.cell? ⟨gX,0,none⟩=some (.int .i64 3)∧w'.cell? ⟨gX,1,none⟩=some (.int .i64 0)∧w'.cell? ⟨gX,2,none⟩=some (.slice b1 bn1 bk1)∧w'.cell? ⟨gX,3,none⟩=some (.slice b2 0 bk2)∧w'.cell? ⟨gX,4,none⟩=some (.slice b3 bn3 bk3)∧w'.cell? ⟨gX,5,none⟩=some (.int .i64 ls)∧w'.cell? ⟨gX,6,none⟩=some (.int .i64 lm)∧w'.cell? ⟨gX,7,none⟩=some (.int .i64 sp1)∧w'.cell? ⟨gX,8,none⟩=some (.int .i64 pk1))):=Lib.hid (fun w' hb=>⟨⟨(HCL.out w' (below_call' hb HB7.out HB7.out.size)).2.1,(HCL.out w' (below_call' hb HB7.out HB7.out.size)).2.2⟩,blk9 (HA7.out.below hb)⟩)
     have HB_0:=Lib.hid (below_drew W7)
     clear a7 y7 HANQ
     go_cut [14,15] from 37 to 139 (fun u v wx=>∃ g,u=.pointer (some ⟨g,0,none⟩)∧v=.int .i64 10∧Below W7.heap.size W7 wx)
     case first =>
      refine wp_region_held_drew (S:=fun w'=>(w'.cell? ⟨bT,off+k * 3+1,none⟩=some (.int .i64 e)∧w'.cell? ⟨bT,off+k * 3+1+1,none⟩=some (.slice lA ln lc))∧(w'.cell? ⟨gX,0,none⟩=some (.int .i64 3)∧w'.cell? ⟨gX,1,none⟩=some (.int .i64 0)∧w'.cell? ⟨gX,2,none⟩=some (.slice b1 bn1 bk1)∧w'.cell? ⟨gX,3,none⟩=some (.slice b2 0 bk2)∧w'.cell? ⟨gX,4,none⟩=some (.slice b3 bn3 bk3)∧w'.cell? ⟨gX,5,none⟩=some (.int .i64 ls)∧w'.cell? ⟨gX,6,none⟩=some (.int .i64 lm)∧w'.cell? ⟨gX,7,none⟩=some (.int .i64 sp1)∧w'.cell? ⟨gX,8,none⟩=some (.int .i64 pk1))) (by kernel_rfl) (HS7.out _ HB_0.out) (fun hHeld=>?_)
      obtain ⟨WD,hWD⟩:∃ W,W7.drew=W:=⟨_,rfl⟩
      rw [hWD] at HB_0 hHeld ⊢
      clear hWD
      refine wpAnyH_take (i:=0) (oi:=_) (v:=.agg #[.int .i64 3,.int .i64 0,.slice b1 bn1 bk1,.slice b2 0 bk2,.slice b3 bn3 bk3,.int .i64 ls,.int .i64 lm,.int .i64 sp1,.int .i64 pk1]) rfl (by kernel_rfl) (by kernel_rfl) (by kernel_rfl) (fun _ _ _ h=>h) (Or.inl ⟨by rfl,by intro w hSw;(try dsimp only at hSw);go_simp⟩) (by assumption) ?_
      simp only [Act.put,List.setIfInBounds_toArray,List.set_cons_zero,List.set_cons_succ]
      refine wpAnyH_take (i:=1) (oi:=_) (v:=.slice (some ⟨bT,off,none⟩) N tcap) rfl (by kernel_rfl) (by kernel_rfl) (by kernel_rfl) (fun _ _ _ h=>h) (Or.inl ⟨by rfl,by intro w hSw;(try dsimp only at hSw);go_simp⟩) (by assumption) ?_
      simp only [Act.put,List.setIfInBounds_toArray,List.set_cons_zero,List.set_cons_succ]
      refine wpAnyH_take (i:=2) (oi:=_) (v:=.int .i64 k) rfl (by kernel_rfl) (by kernel_rfl) (by kernel_rfl) (fun _ _ _ h=>h) (Or.inl ⟨by rfl,by intro w hSw;(try dsimp only at hSw);go_simp⟩) (by assumption) ?_
      simp only [Act.put,List.setIfInBounds_toArray,List.set_cons_zero,List.set_cons_succ]
      refine wpAnyH_take (i:=3) (oi:=_) (v:=.pointer (some ⟨bT,off+k * 3,none⟩)) rfl (by kernel_rfl) (by kernel_rfl) (by kernel_rfl) (fun _ _ _ h=>h) (Or.inl ⟨by rfl,by intro w hSw;(try dsimp only at hSw);go_simp⟩) (by assumption) ?_
      simp only [Act.put,List.setIfInBounds_toArray,List.set_cons_zero,List.set_cons_succ]
      refine wpAnyH_take (i:=4) (oi:=_) (v:=.pointer (some ⟨bT,off+k * 3+1,none⟩)) rfl (by kernel_rfl) (by kernel_rfl) (by kernel_rfl) (fun _ _ _ h=>h) (Or.inl ⟨by rfl,by intro w hSw;(try dsimp only at hSw);go_simp⟩) (by assumption) ?_
      simp only [Act.put,List.setIfInBounds_toArray,List.set_cons_zero,List.set_cons_succ]
      refine wpAnyH_take (i:=5) (oi:=_) (v:=.agg #[.int .i64 e,.slice lA ln lc]) rfl (by kernel_rfl) (by kernel_rfl) (by kernel_rfl) (fun _ _ _ h=>h) (Or.inl ⟨by rfl,by intro w hSw;(try dsimp only at hSw);go_simp⟩) (by assumption) ?_
      simp only [Act.put,List.setIfInBounds_toArray,List.set_cons_zero,List.set_cons_succ]
      refine wpAnyH_ready (rs:=[6,10]) (by kernel_rfl) (by simp) ?_
      refine AllReadyH.cons (o:=_) rfl (fun K hK=>?_) ?_
      ·go_simp
       refine (HANW.out _ HB_0.out).mono ?_
       rintro r9 Wq26 ⟨q1,qn1,qk1,q2,qk2,q3,qn3,qk3,rfl,hb9⟩
       have HB_cq25:=Lib.hid (below_call' hb9 HB_0.out HB_0.out.size)
       clear hb9
       go_wp2_with fail
       refine hK.out _ _ (HS7.out _ HB_cq25.out) (fun hHeld=>?_)
       clear hK K
       try simp only [Act.put,List.setIfInBounds_toArray,List.set_cons_zero,List.set_cons_succ]
       refine wpAnyH_take (i:=7) (oi:=_) (v:=.tuple #[.agg #[.int .i64 0,.int .i64 0,.slice q1 qn1 qk1,.slice q2 0 qk2,.slice q3 qn3 qk3,.int .i64 0,.int .i64 0,.int .i64 0,.int .i64 0],.int .i64 10]) rfl (by kernel_rfl) (by kernel_rfl) (by kernel_rfl) (fun _ _ _ h=>h) (Or.inl ⟨by rfl,by intro w hSw;(try dsimp only at hSw);go_simp⟩) (by assumption) ?_
       simp only [Act.put,List.setIfInBounds_toArray,List.set_cons_zero,List.set_cons_succ]
       refine wpAnyH_take (i:=8) (oi:=_) (v:=.agg #[.int .i64 0,.int .i64 0,.slice q1 qn1 qk1,.slice q2 0 qk2,.slice q3 qn3 qk3,.int .i64 0,.int .i64 0,.int .i64 0,.int .i64 0]) rfl (by kernel_rfl) (by kernel_rfl) (by kernel_rfl) (fun _ _ _ h=>h) (Or.inl ⟨by rfl,by intro w hSw;(try dsimp only at hSw);go_simp⟩) (by assumption) ?_
       simp only [Act.put,List.setIfInBounds_toArray,List.set_cons_zero,List.set_cons_succ]
       refine wpAnyH_take (i:=9) (oi:=_) (v:=.int .i64 10) rfl (by kernel_rfl) (by kernel_rfl) (by kernel_rfl) (fun _ _ _ h=>h) (Or.inl ⟨by rfl,by intro w hSw;(try dsimp only at hSw);go_simp⟩) (by assumption) ?_
       simp only [Act.put,List.setIfInBounds_toArray,List.set_cons_zero,List.set_cons_succ]
       refine wpAnyH_ready (rs:=[10]) (by kernel_rfl) (by simp) ?_
       refine AllReadyH.cons (o:=_) rfl (fun K hK=>?_) AllReadyH.nil
       go_simp
       have HB_aq27:=Lib.hid (HB_cq25.out.alloc HB_cq25.out.size (.cells #[.int .i64 0,.int .i64 0,.slice none 0 0,.slice none 0 0,.slice none 0 0,.int .i64 0,.int .i64 0,.int .i64 0,.int .i64 0] 37))
       have HM_aq27:=Lib.hid (Blk.new Wq26 37 #[.int .i64 0,.int .i64 0,.slice none 0 0,.slice none 0 0,.slice none 0 0,.int .i64 0,.int .i64 0,.int .i64 0,.int .i64 0])
       refine hK.out _ _ (HS7.out _ HB_aq27.out) (fun hHeld=>?_)
       clear hK K
       try simp only [Act.put,List.setIfInBounds_toArray,List.set_cons_zero,List.set_cons_succ]
       obtain ⟨gq28,hgq28⟩:∃ g,Wq26.heap.size=g:=⟨_,rfl⟩
       have Hgq28:=Lib.hid hgq28
       have HGE_gq28:Hid (W7.heap.size≤gq28):=Lib.hid (by rw [← Hgq28.out];exact HB_cq25.out.size)
       obtain ⟨Wq29,hWq29⟩:∃ W,Wq26.alloc (.cells #[.int .i64 0,.int .i64 0,.slice none 0 0,.slice none 0 0,.slice none 0 0,.int .i64 0,.int .i64 0,.int .i64 0,.int .i64 0] 37)=W:=⟨_,rfl⟩
       rw [hWq29] at HB_aq27 HM_aq27 hHeld ⊢
       rw [hgq28] at HM_aq27
       try rw [hgq28]
       have hhgq28:=HB_aq27.out.size
       clear hWq29 hgq28 hhgq28
       refine wpAnyH_ready (rs:=[11]) (by kernel_rfl) (by simp) ?_
       refine AllReadyH.cons (o:=_) rfl (fun K hK=>?_) AllReadyH.nil
       rw [if_pos (by rfl)]
       refine wp_store_row _ _ _ rfl gq28 #[.int .i64 0,.int .i64 0,.slice q1 qn1 qk1,.slice q2 0 qk2,.slice q3 qn3 qk3,.int .i64 0,.int .i64 0,.int .i64 0,.int .i64 0] rfl rfl 37 _ HM_aq27.out (by kernel_rfl) rfl (by simp [Value.oneCell']) ?_
       have HB_sq30:=Lib.hid (below_setRow HB_aq27.out HGE_gq28.out #[.int .i64 0,.int .i64 0,.slice q1 qn1 qk1,.slice q2 0 qk2,.slice q3 qn3 qk3,.int .i64 0,.int .i64 0,.int .i64 0,.int .i64 0])
       have HM_sq30:=Lib.hid (HM_aq27.out.setRow (cs':=#[.int .i64 0,.int .i64 0,.slice q1 qn1 qk1,.slice q2 0 qk2,.slice q3 qn3 qk3,.int .i64 0,.int .i64 0,.int .i64 0,.int .i64 0]))
       refine hK.out _ _ (HS7.out _ HB_sq30.out) (fun hHeld=>?_)
       clear hK K
       try simp only [Act.put,List.setIfInBounds_toArray,List.set_cons_zero,List.set_cons_succ]
       refine wpAnyH_take (i:=12) (oi:=_) (v:=.int .i64 10) rfl (by kernel_rfl) (by kernel_rfl) (by kernel_rfl) (fun _ _ _ h=>h) (Or.inl ⟨by rfl,by intro w hSw;(try dsimp only at hSw);go_simp⟩) (by assumption) ?_
       simp only [Act.put,List.setIfInBounds_toArray,List.set_cons_zero,List.set_cons_succ]
       refine wpAnyH_done (by kernel_rfl) ?_ _
       dsimp only [List.getElem_toArray,List.getElem_cons_succ,List.getElem_cons_zero,Act.put]
       go_wp2_with fail
       go_meet
       exact ⟨gq28,rfl,rfl,HB_sq30.out⟩
      refine AllReadyH.cons (o:=_) rfl (fun K hK=>?_) AllReadyH.nil
      go_simp
      have HB_aq31:=Lib.hid (HB_0.out.alloc HB_0.out.size (.cells #[.int .i64 0,.int .i64 0,.slice none 0 0,.slice none 0 0,.slice none 0 0,.int .i64 0,.int .i64 0,.int .i64 0,.int .i64 0] 37))
      have HM_aq31:=Lib.hid (Blk.new WD 37 #[.int .i64 0,.int .i64 0,.slice none 0 0,.slice none 0 0,.slice none 0 0,.int .i64 0,.int .i64 0,.int .i64 0,.int .i64 0])
      refine hK.out _ _ (HS7.out _ HB_aq31.out) (fun hHeld=>?_)
      clear hK K
      try simp only [Act.put,List.setIfInBounds_toArray,List.set_cons_zero,List.set_cons_succ]
      obtain ⟨gq32,hgq32⟩:∃ g,WD.heap.size=g:=⟨_,rfl⟩
      have Hgq32:=Lib.hid hgq32
      have HGE_gq32:Hid (W7.heap.size≤gq32):=Lib.hid (by rw [← Hgq32.out];exact HB_0.out.size)
      obtain ⟨Wq33,hWq33⟩:∃ W,WD.alloc (.cells #[.int .i64 0,.int .i64 0,.slice none 0 0,.slice none 0 0,.slice none 0 0,.int .i64 0,.int .i64 0,.int .i64 0,.int .i64 0] 37)=W:=⟨_,rfl⟩
      rw [hWq33] at HB_aq31 HM_aq31 hHeld ⊢
      rw [hgq32] at HM_aq31
      try rw [hgq32]
      have hhgq32:=HB_aq31.out.size
      clear hWq33 hgq32 hhgq32
      refine wpAnyH_ready (rs:=[6]) (by kernel_rfl) (by simp) ?_
      refine AllReadyH.cons (o:=_) rfl (fun K hK=>?_) AllReadyH.nil
      go_simp
      refine (HANW.out _ HB_aq31.out).mono ?_
      rintro r9 Wq35 ⟨q1,qn1,qk1,q2,qk2,q3,qn3,qk3,rfl,hb9⟩
      have HB_cq34:=Lib.hid (below_call' hb9 HB_aq31.out HB_aq31.out.size)
      have HM_cq34:=Lib.hid (HM_aq31.out.below hb9)
      clear hb9
      go_wp2_with fail
      refine hK.out _ _ (HS7.out _ HB_cq34.out) (fun hHeld=>?_)
      clear hK K
      try simp only [Act.put,List.setIfInBounds_toArray,List.set_cons_zero,List.set_cons_succ]
      refine wpAnyH_take (i:=7) (oi:=_) (v:=.tuple #[.agg #[.int .i64 0,.int .i64 0,.slice q1 qn1 qk1,.slice q2 0 qk2,.slice q3 qn3 qk3,.int .i64 0,.int .i64 0,.int .i64 0,.int .i64 0],.int .i64 10]) rfl (by kernel_rfl) (by kernel_rfl) (by kernel_rfl) (fun _ _ _ h=>h) (Or.inl ⟨by rfl,by intro w hSw;(try dsimp only at hSw);go_simp⟩) (by assumption) ?_
      simp only [Act.put,List.setIfInBounds_toArray,List.set_cons_zero,List.set_cons_succ]
      refine wpAnyH_take (i:=8) (oi:=_) (v:=.agg #[.int .i64 0,.int .i64 0,.slice q1 qn1 qk1,.slice q2 0 qk2,.slice q3 qn3 qk3,.int .i64 0,.int .i64 0,.int .i64 0,.int .i64 0]) rfl (by kernel_rfl) (by kernel_rfl) (by kernel_rfl) (fun _ _ _ h=>h) (Or.inl ⟨by rfl,by intro w hSw;(try dsimp only at hSw);go_simp⟩) (by assumption) ?_
      simp only [Act.put,List.setIfInBounds_toArray,List.set_cons_zero,List.set_cons_succ]
      refine wpAnyH_take (i:=9) (oi:=_) (v:=.int .i64 10) rfl (by kernel_rfl) (by kernel_rfl) (by kernel_rfl) (fun _ _ _ h=>h) (Or.inl ⟨by rfl,by intro w hSw;(try dsimp only at hSw);go_simp⟩) (by assumption) ?_
      simp only [Act.put,List.setIfInBounds_toArray,List.set_cons_zero,List.set_cons_succ]
      refine wpAnyH_ready (rs:=[11]) (by kernel_rfl) (by simp) ?_
      refine AllReadyH.cons (o:=_) rfl (fun K hK=>?_) AllReadyH.nil
      rw [if_pos (by rfl)]
      refine wp_store_row _ _ _ rfl gq32 #[.int .i64 0,.int .i64 0,.slice q1 qn1 qk1,.slice q2 0 qk2,.slice q3 qn3 qk3,.int .i64 0,.int .i64 0,.int .i64 0,.int .i64 0] rfl rfl 37 _ HM_cq34.out (by kernel_rfl) rfl (by simp [Value.oneCell']) ?_
      have HB_sq36:=Lib.hid (below_setRow HB_cq34.out HGE_gq32.out #[.int .i64 0,.int .i64 0,.slice q1 qn1 qk1,.slice q2 0 qk2,.slice q3 qn3 qk3,.int .i64 0,.int .i64 0,.int .i64 0,.int .i64 0])
      have HM_sq36:=Lib.hid (HM_cq34.out.setRow (cs':=#[.int .i64 0,.int .i64 0,.slice q1 qn1 qk1,.slice q2 0 qk2,.slice q3 qn3 qk3,.int .i64 0,.int .i64 0,.int .i64 0,.int .i64 0]))
      refine hK.out _ _ (HS7.out _ HB_sq36.out) (fun hHeld=>?_)
      clear hK K
      try simp only [Act.put,List.setIfInBounds_toArray,List.set_cons_zero,List.set_cons_succ]
      refine wpAnyH_take (i:=12) (oi:=_) (v:=.int .i64 10) rfl (by kernel_rfl) (by kernel_rfl) (by kernel_rfl) (fun _ _ _ h=>h) (Or.inl ⟨by rfl,by intro w hSw;(try dsimp only at hSw);go_simp⟩) (by assumption) ?_
      simp only [Act.put,List.setIfInBounds_toArray,List.set_cons_zero,List.set_cons_succ]
      refine wpAnyH_done (by kernel_rfl) ?_ _
      dsimp only [List.getElem_toArray,List.getElem_cons_succ,List.getElem_cons_zero,Act.put]
      go_wp2_with fail
      go_meet
      exact ⟨gq32,rfl,rfl,HB_sq36.out⟩
     case rest =>
      obtain ⟨gB,rfl,rfl,hbc⟩:=hcut
      have HB710:=Lib.hid hbc
      have HA10:=Lib.hid (HA7.out.below hbc)
      have a10:=blk9 HA10.out
      clear hbc
      go_wp2_with (fail)
      refine ⟨⟨k+1,pk1,by omega,by simp,rfl,K+2 * n.toNat,M1,3,0,sp1,pk1,b1,bn1,bk1,b2,0,bk2,b3,bn3,bk3,below_call' HB710.out HB7.out HB7.out.size,HX7.out.below HB710.out,HY7.out.below HB710.out,HA10.out,HM7.out.below HB710.out,HG1.out,HL1.out.1,Int.le_refl _,HQ1.out.2.2.2.1,HKE.out.1⟩,by simp [intOf];omega⟩
    ·subst hst hf
     have HZR:Hid (answerF M1 e T.val=(zeroM,10)):=Lib.hid (by unfold answerF;rw [if_pos (by rw [HQ1.out.1];decide)])
     have HANW:Hid (∀ wx,Below W7.heap.size W7 wx→Calls Tryz.prog 17 #[.agg #[.int .i64 4,.int .i64 er1,.slice b1 bn1 bk1,.slice b2 0 bk2,.slice b3 bn3 bk3,.int .i64 ls,.int .i64 lm,.int .i64 sp1,.int .i64 pk1],.agg #[.int .i64 e,.slice lA ln lc]] wx fun r w'=>∃ q1 qn1 qk1 q2 qk2 q3 qn3 qk3,r=.returned (.tuple #[.agg #[.int .i64 0,.int .i64 0,.slice q1 qn1 qk1,.slice q2 0 qk2,.slice q3 qn3 qk3,.int .i64 0,.int .i64 0,.int .i64 0,.int .i64 0],.int .i64 10])∧Below wx.heap.size wx w'):=Lib.hid (fun wx hb=>(HANQ.out wx hb).mono (by
      rintro r w' ⟨x,hr,hmx,hbx,_⟩
      rw [HZR.out] at hr hmx
      obtain ⟨q1,qn1,qk1,q2,qk2,q3,qn3,qk3,hx⟩:=hmx.lit2
      exact ⟨q1,qn1,qk1,q2,qk2,q3,qn3,qk3,by rw [hr,hx];rfl,hbx⟩))
     have hsp:(er1 == 16)=true∨(er1 == 16)=false:=by cases h:(er1 == 16) <;> simp
     rcases hsp with d5 | d5
     all_goals
      go_upto_region 15 with fail
      have HS7:Hid (∀ w',Below W7.heap.size W7 w'→(w'.cell? ⟨bT,off+k * 3+1,none⟩=some (.int .i64 e)∧w'.cell? ⟨bT,off+k * 3+1+1,none⟩=some (.slice lA ln lc))∧(w'.cell? ⟨gX,0,none⟩=some (.int .i64 4)∧w'.cell? ⟨gX,1,none⟩=some (.int .i64 er1)∧w'.cell? ⟨gX,2,none⟩=some (.slice b1 bn1 bk1)∧w'.cell? ⟨gX,3,none⟩=some (.slice b2 0 bk2)∧w'.cell? ⟨gX,4,none⟩=some (.slice b3 bn3 bk3)∧w'.cell? ⟨gX,5,none⟩=some (.int .i64 ls)∧w'.cell? ⟨gX,6,none⟩=some (.int .i64 lm)∧w'.cell? ⟨gX,7,none⟩=some (.int .i64 sp1)∧w'.cell? ⟨gX,8,none⟩=some (.int .i64 pk1))):=Lib.hid (fun w' hb=>⟨⟨(HCL.out w' (below_call' hb HB7.out HB7.out.size)).2.1,(HCL.out w' (below_call' hb HB7.out HB7.out.size)).2.2⟩,blk9 (HA7.out.below hb)⟩)
      have HB_0:=Lib.hid (below_drew W7)
      clear a7 y7 HANQ
      go_cut [14,15] from 37 to 139 (fun u v wx=>∃ g,u=.pointer (some ⟨g,0,none⟩)∧v=.int .i64 10∧Below W7.heap.size W7 wx)
      case first =>
       refine wp_region_held_drew (S:=fun w'=>(w'.cell? ⟨bT,off+k * 3+1,none⟩=some (.int .i64 e)∧w'.cell? ⟨bT,off+k * 3+1+1,none⟩=some (.slice lA ln lc))∧(w'.cell? ⟨gX,0,none⟩=some (.int .i64 4)∧w'.cell? ⟨gX,1,none⟩=some (.int .i64 er1)∧w'.cell? ⟨gX,2,none⟩=some (.slice b1 bn1 bk1)∧w'.cell? ⟨gX,3,none⟩=some (.slice b2 0 bk2)∧w'.cell? ⟨gX,4,none⟩=some (.slice b3 bn3 bk3)∧w'.cell? ⟨gX,5,none⟩=some (.int .i64 ls)∧w'.cell? ⟨gX,6,none⟩=some (.int .i64 lm)∧w'.cell? ⟨gX,7,none⟩=some (.int .i64 sp1)∧w'.cell? ⟨gX,8,none⟩=some (.int .i64 pk1))) (by kernel_rfl) (HS7.out _ HB_0.out) (fun hHeld=>?_)
       obtain ⟨WD,hWD⟩:∃ W,W7.drew=W:=⟨_,rfl⟩
       rw [hWD] at HB_0 hHeld ⊢
       clear hWD
       refine wpAnyH_take (i:=0) (oi:=_) (v:=.agg #[.int .i64 4,.int .i64 er1,.slice b1 bn1 bk1,.slice b2 0 bk2,.slice b3 bn3 bk3,.int .i64 ls,.int .i64 lm,.int .i64 sp1,.int .i64 pk1]) rfl (by kernel_rfl) (by kernel_rfl) (by kernel_rfl) (fun _ _ _ h=>h) (Or.inl ⟨by rfl,by intro w hSw;(try dsimp only at hSw);go_simp⟩) (by assumption) ?_
       simp only [Act.put,List.setIfInBounds_toArray,List.set_cons_zero,List.set_cons_succ]
       refine wpAnyH_take (i:=1) (oi:=_) (v:=.slice (some ⟨bT,off,none⟩) N tcap) rfl (by kernel_rfl) (by kernel_rfl) (by kernel_rfl) (fun _ _ _ h=>h) (Or.inl ⟨by rfl,by intro w hSw;(try dsimp only at hSw);go_simp⟩) (by assumption) ?_
       simp only [Act.put,List.setIfInBounds_toArray,List.set_cons_zero,List.set_cons_succ]
       refine wpAnyH_take (i:=2) (oi:=_) (v:=.int .i64 k) rfl (by kernel_rfl) (by kernel_rfl) (by kernel_rfl) (fun _ _ _ h=>h) (Or.inl ⟨by rfl,by intro w hSw;(try dsimp only at hSw);go_simp⟩) (by assumption) ?_
       simp only [Act.put,List.setIfInBounds_toArray,List.set_cons_zero,List.set_cons_succ]
       refine wpAnyH_take (i:=3) (oi:=_) (v:=.pointer (some ⟨bT,off+k * 3,none⟩)) rfl (by kernel_rfl) (by kernel_rfl) (by kernel_rfl) (fun _ _ _ h=>h) (Or.inl ⟨by rfl,by intro w hSw;(try dsimp only at hSw);go_simp⟩) (by assumption) ?_
       simp only [Act.put,List.setIfInBounds_toArray,List.set_cons_zero,List.set_cons_succ]
       refine wpAnyH_take (i:=4) (oi:=_) (v:=.pointer (some ⟨bT,off+k * 3+1,none⟩)) rfl (by kernel_rfl) (by kernel_rfl) (by kernel_rfl) (fun _ _ _ h=>h) (Or.inl ⟨by rfl,by intro w hSw;(try dsimp only at hSw);go_simp⟩) (by assumption) ?_
       simp only [Act.put,List.setIfInBounds_toArray,List.set_cons_zero,List.set_cons_succ]
       refine wpAnyH_take (i:=5) (oi:=_) (v:=.agg #[.int .i64 e,.slice lA ln lc]) rfl (by kernel_rfl) (by kernel_rfl) (by kernel_rfl) (fun _ _ _ h=>h) (Or.inl ⟨by rfl,by intro w hSw;(try dsimp only at hSw);go_simp⟩) (by assumption) ?_
       simp only [Act.put,List.setIfInBounds_toArray,List.set_cons_zero,List.set_cons_succ]
       refine wpAnyH_ready (rs:=[6,10]) (by kernel_rfl) (by simp) ?_
       refine AllReadyH.cons (o:=_) rfl (fun K hK=>?_) ?_
       ·go_simp
        refine (HANW.out _ HB_0.out).mono ?_
        rintro r9 Wq38 ⟨q1,qn1,qk1,q2,qk2,q3,qn3,qk3,rfl,hb9⟩
        have HB_cq37:=Lib.hid (below_call' hb9 HB_0.out HB_0.out.size)
        clear hb9
        go_wp2_with fail
        refine hK.out _ _ (HS7.out _ HB_cq37.out) (fun hHeld=>?_)
        clear hK K
        try simp only [Act.put,List.setIfInBounds_toArray,List.set_cons_zero,List.set_cons_succ]
        refine wpAnyH_take (i:=7) (oi:=_) (v:=.tuple #[.agg #[.int .i64 0,.int .i64 0,.slice q1 qn1 qk1,.slice q2 0 qk2,.slice q3 qn3 qk3,.int .i64 0,.int .i64 0,.int .i64 0,.int .i64 0],.int .i64 10]) rfl (by kernel_rfl) (by kernel_rfl) (by kernel_rfl) (fun _ _ _ h=>h) (Or.inl ⟨by rfl,by intro w hSw;(try dsimp only at hSw);go_simp⟩) (by assumption) ?_
        simp only [Act.put,List.setIfInBounds_toArray,List.set_cons_zero,List.set_cons_succ]
        refine wpAnyH_take (i:=8) (oi:=_) (v:=.agg #[.int .i64 0,.int .i64 0,.slice q1 qn1 qk1,.slice q2 0 qk2,.slice q3 qn3 qk3,.int .i64 0,.int .i64 0,.int .i64 0,.int .i64 0]) rfl (by kernel_rfl) (by kernel_rfl) (by kernel_rfl) (fun _ _ _ h=>h) (Or.inl ⟨by rfl,by intro w hSw;(try dsimp only at hSw);go_simp⟩) (by assumption) ?_
        simp only [Act.put,List.setIfInBounds_toArray,List.set_cons_zero,List.set_cons_succ]
        refine wpAnyH_take (i:=9) (oi:=_) (v:=.int .i64 10) rfl (by kernel_rfl) (by kernel_rfl) (by kernel_rfl) (fun _ _ _ h=>h) (Or.inl ⟨by rfl,by intro w hSw;(try dsimp only at hSw);go_simp⟩) (by assumption) ?_
        simp only [Act.put,List.setIfInBounds_toArray,List.set_cons_zero,List.set_cons_succ]
        refine wpAnyH_ready (rs:=[10]) (by kernel_rfl) (by simp) ?_
        refine AllReadyH.cons (o:=_) rfl (fun K hK=>?_) AllReadyH.nil
        go_simp
        have HB_aq39:=Lib.hid (HB_cq37.out.alloc HB_cq37.out.size (.cells #[.int .i64 0,.int .i64 0,.slice none 0 0,.slice none 0 0,.slice none 0 0,.int .i64 0,.int .i64 0,.int .i64 0,.int .i64 0] 37))
        have HM_aq39:=Lib.hid (Blk.new Wq38 37 #[.int .i64 0,.int .i64 0,.slice none 0 0,.slice none 0 0,.slice none 0 0,.int .i64 0,.int .i64 0,.int .i64 0,.int .i64 0])
        refine hK.out _ _ (HS7.out _ HB_aq39.out) (fun hHeld=>?_)
        clear hK K
        try simp only [Act.put,List.setIfInBounds_toArray,List.set_cons_zero,List.set_cons_succ]
        obtain ⟨gq40,hgq40⟩:∃ g,Wq38.heap.size=g:=⟨_,rfl⟩
        have Hgq40:=Lib.hid hgq40
        have HGE_gq40:Hid (W7.heap.size≤gq40):=Lib.hid (by rw [← Hgq40.out];exact HB_cq37.out.size)
        obtain ⟨Wq41,hWq41⟩:∃ W,Wq38.alloc (.cells #[.int .i64 0,.int .i64 0,.slice none 0 0,.slice none 0 0,.slice none 0 0,.int .i64 0,.int .i64 0,.int .i64 0,.int .i64 0] 37)=W:=⟨_,rfl⟩
        rw [hWq41] at HB_aq39 HM_aq39 hHeld ⊢
        rw [hgq40] at HM_aq39
        try rw [hgq40]
        have hhgq40:=HB_aq39.out.size
        clear hWq41 hgq40 hhgq40
        refine wpAnyH_ready (rs:=[11]) (by kernel_rfl) (by simp) ?_
        refine AllReadyH.cons (o:=_) rfl (fun K hK=>?_) AllReadyH.nil
        rw [if_pos (by rfl)]
        refine wp_store_row _ _ _ rfl gq40 #[.int .i64 0,.int .i64 0,.slice q1 qn1 qk1,.slice q2 0 qk2,.slice q3 qn3 qk3,.int .i64 0,.int .i64 0,.int .i64 0,.int .i64 0] rfl rfl 37 _ HM_aq39.out (by kernel_rfl) rfl (by simp [Value.oneCell']) ?_
        have HB_sq42:=Lib.hid (below_setRow HB_aq39.out HGE_gq40.out #[.int .i64 0,.int .i64 0,.slice q1 qn1 qk1,.slice q2 0 qk2,.slice q3 qn3 qk3,.int .i64 0,.int .i64 0,.int .i64 0,.int .i64 0])
        have HM_sq42:=Lib.hid (HM_aq39.out.setRow (cs':=#[.int .i64 0,.int .i64 0,.slice q1 qn1 qk1,.slice q2 0 qk2,.slice q3 qn3 qk3,.int .i64 0,.int .i64 0,.int .i64 0,.int .i64 0]))
        refine hK.out _ _ (HS7.out _ HB_sq42.out) (fun hHeld=>?_)
        clear hK K
        try simp only [Act.put,List.setIfInBounds_toArray,List.set_cons_zero,List.set_cons_succ]
        refine wpAnyH_take (i:=12) (oi:=_) (v:=.int .i64 10) rfl (by kernel_rfl) (by kernel_rfl) (by kernel_rfl) (fun _ _ _ h=>h) (Or.inl ⟨by rfl,by intro w hSw;(try dsimp only at hSw);go_simp⟩) (by assumption) ?_
        simp only [Act.put,List.setIfInBounds_toArray,List.set_cons_zero,List.set_cons_succ]
        refine wpAnyH_done (by kernel_rfl) ?_ _
        dsimp only [List.getElem_toArray,List.getElem_cons_succ,List.getElem_cons_zero,Act.put]
        go_wp2_with fail
        go_meet
        exact ⟨gq40,rfl,rfl,HB_sq42.out⟩
       refine AllReadyH.cons (o:=_) rfl (fun K hK=>?_) AllReadyH.nil
       go_simp
       have HB_aq43:=Lib.hid (HB_0.out.alloc HB_0.out.size (.cells #[.int .i64 0,.int .i64 0,.slice none 0 0,.slice none 0 0,.slice none 0 0,.int .i64 0,.int .i64 0,.int .i64 0,.int .i64 0] 37))
       have HM_aq43:=Lib.hid (Blk.new WD 37 #[.int .i64 0,.int .i64 0,.slice none 0 0,.slice none 0 0,.slice none 0 0,.int .i64 0,.int .i64 0,.int .i64 0,.int .i64 0])
       refine hK.out _ _ (HS7.out _ HB_aq43.out) (fun hHeld=>?_)
       clear hK K
       try simp only [Act.put,List.setIfInBounds_toArray,List.set_cons_zero,List.set_cons_succ]
       obtain ⟨gq44,hgq44⟩:∃ g,WD.heap.size=g:=⟨_,rfl⟩
       have Hgq44:=Lib.hid hgq44
       have HGE_gq44:Hid (W7.heap.size≤gq44):=Lib.hid (by rw [← Hgq44.out];exact HB_0.out.size)
       obtain ⟨Wq45,hWq45⟩:∃ W,WD.alloc (.cells #[.int .i64 0,.int .i64 0,.slice none 0 0,.slice none 0 0,.slice none 0 0,.int .i64 0,.int .i64 0,.int .i64 0,.int .i64 0] 37)=W:=⟨_,rfl⟩
       rw [hWq45] at HB_aq43 HM_aq43 hHeld ⊢
       rw [hgq44] at HM_aq43
       try rw [hgq44]
       have hhgq44:=HB_aq43.out.size
       clear hWq45 hgq44 hhgq44
       refine wpAnyH_ready (rs:=[6]) (by kernel_rfl) (by simp) ?_
       refine AllReadyH.cons (o:=_) rfl (fun K hK=>?_) AllReadyH.nil
       go_simp
       refine (HANW.out _ HB_aq43.out).mono ?_
       rintro r9 Wq47 ⟨q1,qn1,qk1,q2,qk2,q3,qn3,qk3,rfl,hb9⟩
       have HB_cq46:=Lib.hid (below_call' hb9 HB_aq43.out HB_aq43.out.size)
       have HM_cq46:=Lib.hid (HM_aq43.out.below hb9)
       clear hb9
       go_wp2_with fail
       refine hK.out _ _ (HS7.out _ HB_cq46.out) (fun hHeld=>?_)
       clear hK K
       try simp only [Act.put,List.setIfInBounds_toArray,List.set_cons_zero,List.set_cons_succ]
       refine wpAnyH_take (i:=7) (oi:=_) (v:=.tuple #[.agg #[.int .i64 0,.int .i64 0,.slice q1 qn1 qk1,.slice q2 0 qk2,.slice q3 qn3 qk3,.int .i64 0,.int .i64 0,.int .i64 0,.int .i64 0],.int .i64 10]) rfl (by kernel_rfl) (by kernel_rfl) (by kernel_rfl) (fun _ _ _ h=>h) (Or.inl ⟨by rfl,by intro w hSw;(try dsimp only at hSw);go_simp⟩) (by assumption) ?_
       simp only [Act.put,List.setIfInBounds_toArray,List.set_cons_zero,List.set_cons_succ]
       refine wpAnyH_take (i:=8) (oi:=_) (v:=.agg #[.int .i64 0,.int .i64 0,.slice q1 qn1 qk1,.slice q2 0 qk2,.slice q3 qn3 qk3,.int .i64 0,.int .i64 0,.int .i64 0,.int .i64 0]) rfl (by kernel_rfl) (by kernel_rfl) (by kernel_rfl) (fun _ _ _ h=>h) (Or.inl ⟨by rfl,by intro w hSw;(try dsimp only at hSw);go_simp⟩) (by assumption) ?_
       simp only [Act.put,List.setIfInBounds_toArray,List.set_cons_zero,List.set_cons_succ]
       refine wpAnyH_take (i:=9) (oi:=_) (v:=.int .i64 10) rfl (by kernel_rfl) (by kernel_rfl) (by kernel_rfl) (fun _ _ _ h=>h) (Or.inl ⟨by rfl,by intro w hSw;(try dsimp only at hSw);go_simp⟩) (by assumption) ?_
       simp only [Act.put,List.setIfInBounds_toArray,List.set_cons_zero,List.set_cons_succ]
       refine wpAnyH_ready (rs:=[11]) (by kernel_rfl) (by simp) ?_
       refine AllReadyH.cons (o:=_) rfl (fun K hK=>?_) AllReadyH.nil
       rw [if_pos (by rfl)]
       refine wp_store_row _ _ _ rfl gq44 #[.int .i64 0,.int .i64 0,.slice q1 qn1 qk1,.slice q2 0 qk2,.slice q3 qn3 qk3,.int .i64 0,.int .i64 0,.int .i64 0,.int .i64 0] rfl rfl 37 _ HM_cq46.out (by kernel_rfl) rfl (by simp [Value.oneCell']) ?_
       have HB_sq48:=Lib.hid (below_setRow HB_cq46.out HGE_gq44.out #[.int .i64 0,.int .i64 0,.slice q1 qn1 qk1,.slice q2 0 qk2,.slice q3 qn3 qk3,.int .i64 0,.int .i64 0,.int .i64 0,.int .i64 0])
       have HM_sq48:=Lib.hid (HM_cq46.out.setRow (cs':=#[.int .i64 0,.int .i64 0,.slice q1 qn1 qk1,.slice q2 0 qk2,.slice q3 qn3 qk3,.int .i64 0,.int .i64 0,.int .i64 0,.int .i64 0]))
       refine hK.out _ _ (HS7.out _ HB_sq48.out) (fun hHeld=>?_)
       clear hK K
       try simp only [Act.put,List.setIfInBounds_toArray,List.set_cons_zero,List.set_cons_succ]
       refine wpAnyH_take (i:=12) (oi:=_) (v:=.int .i64 10) rfl (by kernel_rfl) (by kernel_rfl) (by kernel_rfl) (fun _ _ _ h=>h) (Or.inl ⟨by rfl,by intro w hSw;(try dsimp only at hSw);go_simp⟩) (by assumption) ?_
       simp only [Act.put,List.setIfInBounds_toArray,List.set_cons_zero,List.set_cons_succ]
       refine wpAnyH_done (by kernel_rfl) ?_ _
       dsimp only [List.getElem_toArray,List.getElem_cons_succ,List.getElem_cons_zero,Act.put]
       go_wp2_with fail
       go_meet
       exact ⟨gq44,rfl,rfl,HB_sq48.out⟩
      case rest =>
       obtain ⟨gB,rfl,rfl,hbc⟩:=hcut
       have HB710:=Lib.hid hbc
       have HA10:=Lib.hid (HA7.out.below hbc)
       have a10:=blk9 HA10.out
       clear hbc
       go_wp2_with (fail)
       refine ⟨⟨k+1,pk1,by omega,by simp,rfl,K+2 * n.toNat,M1,4,er1,sp1,pk1,b1,bn1,bk1,b2,0,bk2,b3,bn3,bk3,below_call' HB710.out HB7.out HB7.out.size,HX7.out.below HB710.out,HY7.out.below HB710.out,HA10.out,HM7.out.below HB710.out,HG1.out,HL1.out.1,Int.le_refl _,HQ1.out.2.2.2.1,HKE.out.1⟩,by simp [intOf];omega⟩
end Go.Proofs.YtmljohbialacfaaGreatDoor
