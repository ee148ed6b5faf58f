/- FD4, FD5 -/
import Derived.Test.YthiimbhjpdphpaaGreatDoorPFC5
import Derived.Test.YthiimbhjpdphpaaGreatDoorPFB6
import Derived.Test.YthiimbhjpdphpaaGreatDoorPW17
import Derived.Test.YthiimbhjpdphpaaGreatDoorPFD3
set_option linter.unusedVariables false
set_option linter.unusedSimpArgs false
namespace Go.Proofs.YthiimbhjpdphpaaGreatDoor
section
open Go.RowKit
theorem fnode_all (w0:World) (S:ProgS) (gF:Nat) (hS:ProgV w0 S) (hok:ProgOk S.p) (hpw:Pow w0) (hmx:MaxL w0):∀ f i s,firstF S.p.nodes f i=some s→i<S.p.nodes.length→FNodeH w0 S gF f i s:=by
 intro f
 induction f with
 | zero=>intro i s h;cases h
 | succ f ih=>exact fun i s h hi=>fnode_s w0 S gF f hS hok.nodes.len (fun j hj=>(hok.nodes.kids _ (List.getElem_mem hj)).symm) ih i s h hi hpw hmx
/-- Fold, in general. -/
theorem fold_s (S:ProgS) (w:World) (hS:ProgV w S) (hp:Pow w) (hm:MaxL w) (hok:ProgOk S.p):Calls Tryz.prog 15 #[S.val] w (FoldP S w) :=
 cfold_s S w hS hp hok (fun w0 gF hb _=>fnode_all w0 S gF (hS.below hb) hok (hp.below hb) (hm.below hb) 600)
end
section
open Go.RowKit
set_option maxRecDepth 100000
attribute [local go_sem] cell_alloc_is
set_option maxHeartbeats 16000000 in
theorem foldsOnce_s (S:ProgS) (w:World) (hS:ProgV w S) (hp:Pow w) (hm:MaxL w) (ht:TextsOk S.p) (hA:∀ wx,Below w.heap.size w wx→Calls Tryz.prog 10 #[] wx fun r w'=>r=.returned (.bool true)∧Below wx.heap.size wx w') :
  Calls Tryz.prog 5 #[S.val] w fun r w'=>r=.returned (.bool true)∧Below w.heap.size w w':=by
 obtain ⟨P,hP⟩:∃ P:Ending→World→Prop,(fun r w'=>r=.returned (.bool true)∧Below w.heap.size w w')=P:=⟨_,rfl⟩
 rw [hP]
 have HP:Hid (∀ w',Below w.heap.size w w'→P (.returned (.bool true)) w'):=Lib.hid (fun w' h2=>by rw [← hP];exact ⟨rfl,h2⟩)
 obtain ⟨W1,hW1⟩:∃ W,w.alloc (.cells #[.slice S.A S.p.nodes.length S.ncap,.slice S.B S.p.funcs.length S.fcap] 25)=W:=⟨_,rfl⟩
 obtain ⟨g,hg⟩:∃ g,w.heap.size=g:=⟨_,rfl⟩
 have hb1:Below w.heap.size w W1:=by rw [← hW1];exact below_new _ _
 have HB1:=Lib.hid hb1
 have HX1:Hid (Blk W1 g 25 #[.slice S.A S.p.nodes.length S.ncap,.slice S.B S.p.funcs.length S.fcap]):=Lib.hid (by rw [← hW1,← hg];exact Blk.new _ _ _)
 have HCS:Hid (Calls Tryz.prog 9 #[S.val] W1 fun e w'=>(∃ b,e=.returned (.bool b)∧(b=true→SmallPr S.p))∧Below W1.heap.size W1 w'):=Lib.hid (small_s S W1 (hS.below hb1))
 have HCF:Hid (SmallPr S.p→∀ wx,Below w.heap.size w wx→Calls Tryz.prog 15 #[S.val] wx (FoldP S wx)):=Lib.hid (fun hs wx hb=>fold_s S wx (hS.below hb) (hp.below hb) (hm.below hb) (hs.ok ht))
 have HA:=Lib.hid hA
 have HS:=Lib.hid hS
 have HPW:=Lib.hid hp
 have HMX:=Lib.hid hm
 have HTX:=Lib.hid ht
 unfold ProgS.val at HCS HCF ⊢
 have HG:=Lib.hid hg
 have HW1:=Lib.hid hW1
 clear hP hS hp hm ht hA hg hW1 hb1
 go_enter Tryz.func5,Tryz.ntmps5
 go_upto_region 1 with fail
 rw [HG.out,HW1.out]
 clear HG HW1
 have x1:=blk2 HX1.out
 go_upto_region 3 with (first
  | (go_at_call 9;(with_reducible refine HCS.out.mono ?_);rintro r w2 ⟨⟨b,rfl,hb⟩,hb2⟩;have HB12:=Lib.hid hb2;have HB2:=Lib.hid (below_call' hb2 HB1.out HB1.out.size);have HSM:=Lib.hid hb;clear hb2 hb;cases b)
  | (go_at_call 10;(with_reducible refine (HA.out _ HB2.out).mono ?_);rintro r w3 ⟨rfl,hb3⟩;have HB3:=Lib.hid (below_call' hb3 HB2.out HB2.out.size);clear hb3))
 ·try go_wp2_with (fail)
  exact HP.out _ HB3.out
 have HSP:=Lib.hid (HSM.out (by simp))
 have HX2:=Lib.hid (HX1.out.below HB12.out)
 clear x1
 have x2:=blk2 HX2.out
 have HC3:=Lib.hid (HCF.out HSP.out w2 HB2.out)
 obtain ⟨er,her⟩:∃ x,(foldG S.p).2=x:=⟨_,rfl⟩
 obtain ⟨q,hq⟩:∃ x,(foldG S.p).1=x:=⟨_,rfl⟩
 have HER:=Lib.hid her
 have HQ:=Lib.hid hq
 have HCG:Hid (Calls Tryz.prog 15 #[.agg #[.slice S.A S.p.nodes.length S.ncap,.slice S.B S.p.funcs.length S.fcap]] w2 fun r w'=>∃ A B n f,r=.returned (.tuple #[.agg #[.slice A q.nodes.length n,.slice B q.funcs.length f],.int .i64 er])∧ProgV w' ⟨A,B,n,f,q⟩∧Below w2.heap.size w2 w'):=Lib.hid (HC3.out.mono (fun r w' ⟨⟨A,B,n,f,p'⟩,h1,h2,h3,h4⟩=>by
  have e:p'=q:=h2.trans hq
  subst e
  rw [her] at h1
  exact ⟨A,B,n,f,h1,h3,h4⟩))
 obtain ⟨qn,hqn⟩:∃ x,q.nodes.length=x:=⟨_,rfl⟩
 obtain ⟨qf,hqf⟩:∃ x,q.funcs.length=x:=⟨_,rfl⟩
 rw [hqn,hqf] at HCG
 have HQN:=Lib.hid hqn
 have HQF:=Lib.hid hqf
 clear her hq hqn hqf HC3
 go_upto_region 4 with (first
  | (go_at_call 15;(with_reducible refine HCG.out.mono ?_);rintro r w3 ⟨QA,QB,qnc,qfc,rfl,hV,hb3⟩;have HV:=Lib.hid hV;have HB3:=Lib.hid (below_call' hb3 HB2.out HB2.out.size);have HX3:=Lib.hid (HX2.out.below hb3);clear hV hb3))
 clear x2 HCG
 obtain ⟨gQ,hgQ⟩:∃ g,w3.heap.size=g:=⟨_,rfl⟩
 obtain ⟨W4,hW4⟩:∃ W,w3.alloc (.cells #[.slice QA qn qnc,.slice QB qf qfc] 25)=W:=⟨_,rfl⟩
 have hb4:Below w3.heap.size w3 W4:=by rw [← hW4];exact below_new _ _
 have HQ4:Hid (Blk W4 gQ 25 #[.slice QA qn qnc,.slice QB qf qfc]):=Lib.hid (by rw [← hW4,← hgQ];exact Blk.new _ _ _)
 have HB4:=Lib.hid (below_call' hb4 HB3.out HB3.out.size)
 have HX4:=Lib.hid (HX3.out.below hb4)
 have HV4:=Lib.hid (HV.out.below hb4)
 rw [hgQ,hW4]
 clear hgQ hW4 hb4
 have y4:=blk2 HQ4.out
 by_cases he:er=0
 ·subst he
  have h0:(studyF S.p).err=0:=by
   have:=HER.out
   unfold foldG at this
   split at this
   ·exact this
   ·rename_i h;exact Decidable.not_not.1 h
  have hq:q=foldP S.p:=by
   rw [← HQ.out]
   unfold foldG
   rw [if_neg (by rw [h0];simp)]
  obtain ⟨f1,f2,f3⟩:=fold_ok h0
  have hqok:=(study_ok h0).1.foldP_ok HSP.out HTX.out f3
  rw [← hq] at f1 f2 f3 hqok
  have HQOK:=Lib.hid hqok
  have hg2:foldG q=(q,0):=by
   unfold foldG
   rw [if_neg (by rw [f1];simp),f2]
  have hfl:qf=S.p.funcs.length:=by rw [← HQF.out,hq,foldP_len]
  have HF1:=Lib.hid f1
  have HFA:Hid (∀ k,(hk:k<q.funcs.length)→(hk':k<S.p.funcs.length)→q.funcs[k].name=S.p.funcs[k].name∧q.funcs[k].params.length=S.p.funcs[k].params.length):=Lib.hid (fun k hk hk'=>by
   have e:q.funcs[k]=foldFn S.p k:=by
    have h1:q.funcs[k]=q.funcs.getD k noFunc:=(getD_at hk _).symm
    rw [h1,hq]
    exact foldP_at hk'
   rw [e]
   unfold foldFn
   rw [getD_at hk']
   exact ⟨rfl,rfl⟩)
  have HC5:Hid (Calls Tryz.prog 15 #[.agg #[.slice QA qn qnc,.slice QB qf qfc]] W4 fun r w'=>∃ A B n f,r=.returned (.tuple #[.agg #[.slice A qn n,.slice B qf f],.int .i64 0])∧ProgV w' ⟨A,B,n,f,q⟩∧Below W4.heap.size W4 w'):=Lib.hid (by
   have h:=fold_s ⟨QA,QB,qnc,qfc,q⟩ W4 HV4.out (HPW.out.below HB4.out) (HMX.out.below HB4.out) HQOK.out
   unfold ProgS.val at h
   simp only at h
   rw [HQN.out,HQF.out] at h
   refine h.mono (fun r w' ⟨⟨A,B,n,f,p'⟩,h1,h2,h3,h4⟩=>?_)
   have e:p'=q:=by
    have:=h2
    simp only at this
    rw [this,hg2]
   subst e
   refine ⟨A,B,n,f,?_,h3,h4⟩
   rw [h1]
   unfold ProgS.val
   simp only
   rw [hg2,HQN.out,HQF.out])
  have hlen:qn≤S.p.nodes.length:=by rw [← HQN.out];exact f3
  have hq1000:qf≤20:=by rw [hfl];exact HSP.out.funcs
  obtain ⟨nn,hnn⟩:∃ n,S.p.nodes.length=n:=⟨_,rfl⟩
  obtain ⟨SB,hSB⟩:∃ x,S.B=x:=⟨_,rfl⟩
  have HSB:=Lib.hid hSB
  rw [hnn] at hlen HX4
  rw [← hfl,hSB] at HX4
  have HFL:=Lib.hid hfl
  clear h0 hq f1 f2 f3 hqok hg2 hfl hnn hSB HX1 HX2 HX3 HCS HCF HER
  have e0:((0:Int) != 0)=false:=by decide
  go_upto_region 7 with (first
   | (go_at_call 15;(with_reducible refine HC5.out.mono ?_);rintro r w5 ⟨RA,RB,rnc,rfc,rfl,hV,hb5⟩;have HV5:=Lib.hid hV;have HB45:=Lib.hid hb5;clear hV hb5))
  clear y4
  obtain ⟨gR,hgR⟩:∃ g,w5.heap.size=g:=⟨_,rfl⟩
  obtain ⟨W6,hW6⟩:∃ W,w5.alloc (.cells #[.slice RA qn rnc,.slice RB qf rfc] 25)=W:=⟨_,rfl⟩
  have hb6:Below w5.heap.size w5 W6:=by rw [← hW6];exact below_new _ _
  have HR6:Hid (Blk W6 gR 25 #[.slice RA qn rnc,.slice RB qf rfc]):=Lib.hid (by rw [← hW6,← hgR];exact Blk.new _ _ _)
  have HB46:=Lib.hid (below_call' hb6 HB45.out HB45.out.size)
  have HB6:=Lib.hid (below_call' HB46.out HB4.out HB4.out.size)
  have HX6:=Lib.hid (HX4.out.below HB46.out)
  have HQ6:=Lib.hid (HQ4.out.below HB46.out)
  have HVQ:=Lib.hid (HV4.out.below HB46.out)
  have HVR:=Lib.hid (HV5.out.below hb6)
  rw [hgR,hW6]
  clear hgR hW6 hb6
  have x6:=blk2 HX6.out
  have y6:=blk2 HQ6.out
  have z6:=blk2 HR6.out
  have HSA:Hid (Calls Tryz.prog 17 #[.agg #[.slice QA qn qnc,.slice QB qf qfc],.agg #[.slice RA qn rnc,.slice RB qf rfc]] W6 fun e w'=>e=.returned (.bool true)∧Below W6.heap.size W6 w'):=Lib.hid (by
   have h:=same8_s q QA QB RA RB qnc qfc rnc rfc W6 HVQ.out.nodes HVQ.out.funcs HVR.out.nodes HVR.out.funcs HQOK.out
   rw [HQN.out,HQF.out] at h
   exact h)
  have n1:¬ (nn:Int)<(qn:Int):=by omega
  have n2:((qf:Int) != (qf:Int))=false:=by simp
  go_upto_region 9 with (first
   | (go_at_call 17;(with_reducible refine HSA.out.mono ?_);rintro r w7 ⟨rfl,hb7⟩;have HB67:=Lib.hid hb7;have x7:=blk2 (HX6.out.below hb7);have y7:=blk2 (HQ6.out.below hb7);clear hb7))
  clear x6 y6 z6 n1 n2
  go_upto_region 10 with (fail)
  try go_wp2_with (fail)
  clear x7 y7
  go_loopw [7,68] (fun _ kv wr=>∃ k:Nat,k≤qf∧kv=.int .i64 k∧Hid (Below W6.heap.size W6 wr)) (fun _ kv _=>qf - (intOf kv).toNat)
  case atStart=>exact ⟨0,Nat.zero_le _,rfl,HB67⟩
  case round =>
   obtain ⟨k,hk,rfl,HBr⟩:=hrel
   have hk0:(0:Int)≤(k:Int):=by omega
   have HBw:=Lib.hid (below_call' HBr.out HB6.out HB6.out.size)
   have x7:=blk2 (HX6.out.below HBr.out)
   have y7:=blk2 (HQ6.out.below HBr.out)
   by_cases hlt:k<qf
   ·have hlt':(k:Int)<(qf:Int):=by omega
    have hkq:k<q.funcs.length:=by rw [HQF.out];exact hlt
    have hks:k<S.p.funcs.length:=by rw [← HFL.out];exact hlt
    have hfq:=(HVQ.out.below HBr.out).funcs
    simp only at hfq
    obtain ⟨b1,o1,kA,kc,rfl,_,c0,c1,c2,hk1⟩:=func_at hfq hkq
    obtain ⟨b2,o2,kB,kd,hA2,_,d0,d1,d2,hk2⟩:=func_at (HS.out.below HBw.out).funcs hks
    have hA2':SB=some ⟨b2,o2,none⟩:=HSB.out.symm.trans hA2
    obtain ⟨ea,eb⟩:=HFA.out k hkq hks
    rw [ea] at c0
    rw [eb] at c1
    obtain ⟨nm,hnm⟩:∃ x,S.p.funcs[k].name=x:=⟨_,rfl⟩
    obtain ⟨pn,hpn⟩:∃ x,S.p.funcs[k].params.length=x:=⟨_,rfl⟩
    rw [hnm] at c0 d0
    rw [hpn] at c1 d1
    have m1:(nm.toList != nm.toList)=false:=by simp
    have m2:((pn:Int) != (pn:Int))=false:=by simp
    clear c2 d2 hA2 ea eb hnm hpn hk1 hk2 hkq hks hfq
    subst hA2'
    go_wp2_with (fail)
    go_quiet (fail)
    go_wp2_with (fail)
    exact ⟨⟨k+1,by omega,by simp,Lib.hid (by first | exact below_drewN HBr.out _ | exact HBr.out.drew | exact HBr.out)⟩,by simp [intOf];omega⟩
   ·have e9:k=qf:=by omega
    subst e9
    have HCK:Hid (Calls Tryz.prog 18 #[.agg #[.slice QA qn qnc,.slice QB k qfc]] wr fun e w'=>(∃ a,e=.returned (.tuple #[.int .i64 a,.int .i64 0]))∧Below wr.heap.size wr w'):=Lib.hid (by
     have h:=scheck_s ⟨QA,QB,qnc,qfc,q⟩ wr (HVQ.out.below HBr.out) (HPW.out.below HBw.out) HQOK.out
     unfold ProgS.val at h
     simp only at h
     rw [HF1.out,HQN.out,HQF.out] at h
     exact h)
    go_wp2_with (first
     | (go_at_call 18;(with_reducible refine HCK.out.mono ?_);rintro r w8 ⟨⟨a,rfl⟩,hb8⟩;have HB8:=Lib.hid (below_call' hb8 HBw.out HBw.out.size);clear hb8)
     | (go_at_call 10;(with_reducible refine (HA.out _ HB8.out).mono ?_);rintro r w9 ⟨rfl,hb9⟩;have HB9:=Lib.hid (below_call' hb9 HB8.out HB8.out.size);clear hb9))
    exact HP.out _ HB9.out
 ·have hq:q=noProg:=by
   rw [← HQ.out]
   have h1:(studyF S.p).err≠0:=by
    intro h
    apply he
    rw [← HER.out]
    unfold foldG
    rw [if_neg (by rw [h];simp)]
   unfold foldG
   rw [if_pos h1]
  have e1:qn=0:=by rw [← HQN.out,hq];rfl
  have e2:qf=0:=by rw [← HQF.out,hq];rfl
  subst e1 e2
  have he0:(er != 0)=true:=by simp [he]
  clear he hq
  go_wp2_with (first
   | (go_at_call 10;(with_reducible refine (HA.out _ HB4.out).mono ?_);rintro r w9 ⟨rfl,hb9⟩;have HB9:=Lib.hid (below_call' hb9 HB4.out HB4.out.size);clear hb9))
  exact HP.out _ HB9.out
end
end Go.Proofs.YthiimbhjpdphpaaGreatDoor
