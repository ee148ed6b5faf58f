/- Y9, Y10, Y11, Y12 -/
import Derived.Test.YtmljohbialacfaaGreatDoorPY8
import Derived.Test.YtmljohbialacfaaGreatDoorPE45
set_option linter.unusedVariables false
set_option linter.unusedSimpArgs false
namespace Go.Proofs.YtmljohbialacfaaGreatDoor
section
open Go.RowKit
set_option maxRecDepth 100000
theorem TopF.loc {w0 w:World} {C:CodeS} {gE:Nat} {m:MachD} {vv qv:Value} {LS0:List (Value × Value)} {fs:List FrameD} {avs:List Value} {f:FrameD} {gF cap g c N:Nat} {sv:Value} (h:TopF w0 C gE w m vv qv LS0 avs fs f.func f.pc gF cap (.slice (some ⟨g,0,none⟩) N c) sv) (hm:m.frames=fs ++ [f]) (hl:ValsO w w0.heap.size (.slice (some ⟨g,0,none⟩) N c) f.locals) (hs:ValsO w w0.heap.size sv f.stack) {k:Nat} (hk:k<f.locals.length) {x:Value} {v:ValD} (hx:ValT w x v) :
  XM w0 C gE (w.setCell ⟨g,k,none⟩ x) (topM m fs { f with locals:=f.locals.set k v }) vv (.slice (some ⟨gF,0,none⟩) (fs.length+1) cap) qv (LS0 ++ [(.slice (some ⟨g,0,none⟩) N c,sv)]) avs:=by
 have hlp:=h.lp g rfl
 obtain rfl:N=f.locals.length:=by
  obtain ⟨A,c',e⟩:=hl.shape
  injection e
 obtain ⟨vs,h1,h2,h3⟩:=hl
 have hg:w.grownBy (w.setCell ⟨g,k,none⟩ x) (Value.slice (some ⟨g,0,none⟩) f.locals.length c).ownBlock:=grown_setc w g k x
 have hck:CK w (w.setCell ⟨g,k,none⟩ x):=CK.own h1 (by decide) hg
 have hT:=h.turnV h1 (fun g' e=>(h.lp g' e).1) hg
 have hT':TopF w0 C gE (w.setCell ⟨g,k,none⟩ x) (topM m fs { f with locals:=f.locals.set k v }) vv qv LS0 avs fs f.func f.pc gF cap (.slice (some ⟨g,0,none⟩) f.locals.length c) sv:=hT.mach rfl rfl rfl rfl rfl rfl rfl rfl
 refine hT'.xm (f:={ f with locals:=f.locals.set k v }) rfl rfl rfl ⟨vs.set k x,by rw [List.length_set];exact own_set h1 k x,by simp [h2],fun i a b=>?_⟩ (hs.keep hck (fun g' e=>?_))
 ·have a':i<vs.length:=by simpa using a
  have b':i<f.locals.length:=by simpa using b
  show ValT _ (vs.set k x)[i] (f.locals.set k v)[i]
  rw [List.getElem_set,List.getElem_set]
  by_cases e:k=i
  ·rw [if_pos e,if_pos e];exact hx.keep hck
  ·rw [if_neg e,if_neg e];exact (h3 i a' b').keep hck
 ·have hne:g'≠g:=fun e2=>hlp.2 (by rw [e,e2])
  obtain ⟨ws,h4,_⟩:=hs
  obtain ⟨_,cs,hB⟩:=own_blk h4 e
  exact hg.block g' (lt_of_block hB) (by simpa [Value.ownBlock] using hne)
attribute [local go_sem] cell_alloc_is
set_option maxHeartbeats 16000000 in
theorem act_store {w0 w:World} {C:CodeS} {gE:Nat} {m:MachD} {fs:List FrameD} {f:FrameD} (h:ActH w0 C gE w m fs f) (op a:Int) (s:ByteArray) (kv:Value) :
  Calls Tryz.prog 64 #[.pointer (some ⟨gE,0,none⟩),.agg #[.int .i64 op,.int .i64 a,.string s,kv]] w (ActP w0 C gE (if f.stack.length<1 then (topM m fs f,21) else if a<0∨(f.locals.length:Int)≤a then (topM m fs (popFr f 1),13) else (topM m fs { popFr f 1 with locals:=f.locals.set a.toNat ((popL f 1).getD 0 []) },0))):=by
 obtain ⟨⟨vv,fv,qv,LS,avs,hx⟩,hm,hnf,hns,hnl⟩:=h
 have HX:=Lib.hid (hx.below (below_new w (.cells #[.int .i64 op,.int .i64 a,.string s,kv] 59)))
 have HX0:=Lib.hid hx
 have HM:=Lib.hid hm
 have HNW:=Lib.hid (below_new w (.cells #[.int .i64 op,.int .i64 a,.string s,kv] 59))
 have HI:=Lib.hid (Blk.new w 59 #[.int .i64 op,.int .i64 a,.string s,kv])
 have HIF:Hid (w.heap.size ∉ blocksF LS):=Lib.hid (fun hm=>by have:=(hx.p.fr.mem _ hm).2.1;omega)
 by_cases hlt:f.stack.length<1
 ·rw [if_pos hlt]
  have HPO:=Lib.hid (pop_none HX.out hm 1 (by omega) hnf hns hlt)
  obtain ⟨LS0,lv,sv,gF,cap,rfl,rfl,hT,_,_⟩:=hx.top hm
  have h5:=Lib.hid hT.five
  have hnf':=hnf
  obtain ⟨n,hn⟩:∃ n,fs.length=n:=⟨_,rfl⟩
  rw [hn] at h5 hnf'
  have HFR:Hid (∀ wx,Below w.heap.size w wx→Calls Tryz.prog 74 #[.pointer (some ⟨gE,0,none⟩)] wx fun e w'=>e=.returned (.pointer (some ⟨gF,n * 4,none⟩))∧∃ q,w'=wx.drewN q):=Lib.hid fun wx hb=>frame_any gE gF n cap wx ((hb.cell (p:=⟨gE,5,none⟩) (World.block_lt_of_cell? _ _ h5.out)).trans h5.out) (by omega)
  clear hx hm hlt hT hn hnf' hnf
  go_enter Tryz.func64,Tryz.ntmps64
  go_wp2_with (first
   | (go_at_call 98;(refine HPO.out.mono ?_);rintro e w1 ⟨rfl,hb1⟩;have HB1:=Lib.hid (below_call hb1 HNW.out);clear hb1)
   | (go_at_call 74;(with_reducible refine (HFR.out _ HB1.out).mono ?_);rintro e w2 ⟨rfl,q,hq⟩;have HB2:Hid (Below w.heap.size w w2):=Lib.hid (by rw [hq];exact below_drewN HB1.out _);clear hq))
  go_returns
  exact ActP.same HX0.out HM.out HB2.out 21
 ·rw [if_neg hlt]
  obtain ⟨P,hP⟩:∃ P:Ending→World→Prop,ActP w0 C gE (if a<0∨(f.locals.length:Int)≤a then (topM m fs (popFr f 1),13) else (topM m fs { popFr f 1 with locals:=f.locals.set a.toNat ((popL f 1).getD 0 []) },0))=P:=⟨_,rfl⟩
  rw [hP]
  have HP:=Lib.hid hP
  have HPO:=Lib.hid (pop_some HX.out hm 1 hnf hns hlt)
  have HPL:Hid ((popL f 1).length=1):=Lib.hid (popL_len hlt)
  have HNF:=Lib.hid hnf
  obtain ⟨v0,hv0⟩:∃ v,(popL f 1).getD 0 []=v:=⟨_,rfl⟩
  have HV0:=Lib.hid hv0
  rw [hv0] at HP
  clear hx hm hlt hv0 hP
  go_enter Tryz.func64,Tryz.ntmps64
  go_upto_region 2 with (first
   | (go_at_call 98;(refine HPO.out.mono ?_);rintro e w1 ⟨pv,LS1,rfl,hx1,hk1,hv1,hf1⟩;obtain ⟨g1,c1,x1,rfl,hc1,ht1⟩:=hv1.at0 0 (by rw [HPL.out];omega);rw [HPL.out] at *;rw [HV0.out] at ht1;obtain ⟨xA,xn,xc,rfl⟩:=ht1.shape;have HX1:=Lib.hid hx1;have HI1:=Lib.hid (hk1.blk _ _ _ HI.out (by decide) (by decide) (by decide) HIF.out);have HT1:=Lib.hid ht1;have HC1:=Lib.hid hc1;clear hx1 hk1 hv1 hf1 ht1 hc1))
  obtain ⟨LS0,lv,sv,gF,cap,rfl,rfl,hT,hl,hs⟩:=HX1.out.top rfl
  have HT:=Lib.hid hT
  have HL:=Lib.hid hl
  have HS:=Lib.hid hs
  have h5:=hT.five
  obtain ⟨n,hn⟩:∃ n,fs.length=n:=⟨_,rfl⟩
  have HNN:=Lib.hid hn
  rw [hn] at h5 hnf
  have HFR:=Lib.hid (frame_any gE gF n cap w1 h5 (by omega))
  obtain ⟨N,hN⟩:∃ N,f.locals.length=N:=⟨_,rfl⟩
  have HN:=Lib.hid hN
  obtain ⟨lA,lc,hlv⟩:=hl.shape
  have hlv':lv=.slice lA N lc:=by rw [hlv,← hN];rfl
  rw [hN] at hnl
  have hN0:(0:Int)≤(N:Int):=by omega
  have hN9:(N:Int)≤1000:=by omega
  clear h5 hn hT hl hs hlv
  by_cases ha:a<0∨(N:Int)≤a
  ·have HR:Hid (P=ActP w0 C gE (topM m fs (popFr f 1),13)):=Lib.hid (by rw [← HP.out,HN.out,if_pos ha])
   have hcase:(decide (a<0)=true)∨(decide (a<0)=false∧decide ((N:Int)≤a)=true):=by
    by_cases h1:a<0
    ·exact .inl (decide_eq_true h1)
    ·exact .inr ⟨decide_eq_false h1,decide_eq_true (ha.resolve_left h1)⟩
   subst hlv'
   clear ha hN
   rcases hcase with d1 | ⟨d1,d2⟩
   all_goals
    go_upto_region 5 with (first
     | (go_at_call 74;(with_reducible refine HFR.out.mono ?_);rintro e w2 ⟨rfl,q,hq⟩;have hb2:Below w1.heap.size w1 w2:=(by rw [hq];exact below_drewN (Below.refl _ _) _);have HB2:=Lib.hid hb2;have HI2:=Lib.hid (HI1.out.below hb2);have f2:=(HT.out.below hb2).facts;rw [HNN.out] at f2;have i2:=HI2.out.cell 1 _ rfl;clear hq hb2))
    go_quiet (fail)
    go_wp2_with (fail)
    rw [HR.out]
    exact ⟨rfl,_,_,_,_,_,HX1.out.below (below_drewN HB2.out _)⟩
  ·have HR:Hid (P=ActP w0 C gE (topM m fs { popFr f 1 with locals:=f.locals.set a.toNat v0 },0)):=Lib.hid (by rw [← HP.out,HN.out,if_neg ha])
   have d1:decide (a<0)=false:=decide_eq_false (by omega)
   have d2:decide ((N:Int)≤a)=false:=decide_eq_false (by omega)
   obtain ⟨k,hk⟩:∃ k:Nat,a=k:=⟨a.toNat,by omega⟩
   subst hk
   rw [Int.toNat_natCast] at HR
   have hkn:k<N:=by omega
   obtain ⟨gL,hgL⟩:∃ g,lA=some ⟨g,0,none⟩:=by
    obtain ⟨g,c,x,hge,_,_⟩:=HL.out.at0 k (by show k<f.locals.length;omega)
    rw [hlv'] at hge
    injection hge with e1 _ _
    exact ⟨g,e1⟩
   subst hgL
   subst hlv'
   have hk0:(0:Int)≤(k:Int):=by omega
   have hkN:(k:Int)<(N:Int):=by omega
   have HKL:Hid (k<f.locals.length):=Lib.hid (by omega)
   have HLB:Hid (∀ W,Below w1.heap.size w1 W→W.frozen? ⟨gL,k,none⟩=false∧∃ u,W.cell? ⟨gL,k,none⟩=some u∧u.oneCell'=true):=Lib.hid fun W hb=>by
    have hlW:=HL.out.below hb
    obtain ⟨vs,h1,h2,h3⟩:=hlW
    obtain ⟨_,cs,hB⟩:=own_blk h1 (g:=gL) rfl
    have hkv:k<vs.length:=by rw [h2];exact HKL.out
    have:=h1.cells (g:=gL) rfl k vs[k] (by rw [List.getElem?_eq_getElem hkv])
    rw [addr_add,Nat.zero_add] at this
    obtain ⟨A',n',c',e'⟩:=(h3 k hkv HKL.out).shape
    exact ⟨hB.frozen _,_,this,by rw [e'];rfl⟩
   clear ha hN
   go_upto_region 5 with (first
    | (go_at_call 74;(with_reducible refine HFR.out.mono ?_);rintro e w2 ⟨rfl,q,hq⟩;have hb2:Below w1.heap.size w1 w2:=(by rw [hq];exact below_drewN (Below.refl _ _) _);have HB2:=Lib.hid hb2;have HI2:=Lib.hid (HI1.out.below hb2);have f2:=(HT.out.below hb2).facts;rw [HNN.out] at f2;have i2:=HI2.out.cell 1 _ rfl;clear hq hb2))
   go_quiet (fail)
   go_upto_region 7 with fail
   obtain ⟨wq,hwq⟩:∃ wq,w2.drewN nq=wq:=⟨_,rfl⟩
   rw [hwq]
   have hbq:Below w1.heap.size w1 wq:=by rw [← hwq];exact below_drewN HB2.out _
   have HBQ:=Lib.hid hbq
   have fq:=(HT.out.below hbq).facts
   rw [HNN.out] at fq
   have iq:=(HI1.out.below hbq).cell 1 _ rfl
   have xq:=(hbq.cell (World.block_lt_of_cell? _ _ HC1.out)).trans HC1.out
   obtain ⟨zq,uq,cq,_⟩:=HLB.out wq hbq
   clear f2 i2 hwq hbq
   go_region
   all_goals
    go_wp2_with (fail)
    rw [HR.out]
    have hbD:Below w1.heap.size w1 wq.drew:=HBQ.out.drew
    have hT:=(HT.out.below hbD).loc (f:=popFr f 1) (k:=k) (x:=.slice xA xn xc) (v:=v0) rfl (HL.out.below hbD) (HS.out.below hbD) HKL.out (HT1.out.below hbD)
    exact ⟨rfl,_,_,_,_,_,hT⟩
end
section
open Go.RowKit
set_option maxRecDepth 100000
/-- The result of an operation is given to result. -/
theorem result_res {w0 w w1:World} {C:CodeS} {gE:Nat} {m:MachD} {vv fv qv:Value} {LS:List (Value × Value)} {avs:List Value} {fs:List FrameD} {f:FrameD} (h:XM w0 C gE w m vv fv qv LS avs) (hm:m.frames=fs ++ [f]) (hfs:fs.length≤100) (hst:f.stack.length≤100000) (hb:Below w.heap.size w w1) {r:ResD} {u:Value} (hu:ValT w1 u r.1) :
  Calls Tryz.prog 94 #[.pointer (some ⟨gE,0,none⟩),u,.int .i64 r.2] w1 (ActP w0 C gE (resM m fs f r)):=by
 by_cases h0:r.2=0
 ·have e:resM m fs f r=(topM m fs (pushFr f r.1),0):=by unfold resM;rw [if_pos h0]
  rw [e,h0]
  exact (result_ok (h.below hb) hm u r.1 hu hfs hst).mono fun _ _ ⟨a,LS',b⟩=>⟨a,_,_,_,_,_,b⟩
 ·have e:resM m fs f r=(topM m fs f,r.2):=by unfold resM;rw [if_neg h0]
  rw [e]
  exact (result_err gE u r.2 w1 h0).mono fun e' w' ⟨a,b⟩=>by
   subst b
   rw [a]
   exact ActP.same h hm hb r.2
theorem ValV.t {w w':World} {S:List Value} {u:Value} {l:ValD} (hv:ValV w' u l) (hf:FromC w w' S u) (hs:∀ x∈S,∀ b off n cap,x=Value.slice (some ⟨b,off,none⟩) n cap→∃ cs fz,w'.heap[b]? = some (.cells cs 62 fz)):ValT w' u l :=
 ⟨hv,fun b off n cap e _=>by
  rcases hf b off n cap e with ⟨x,hx,off',n',cap',e'⟩ | ⟨_,hc⟩
  ·exact hs x hx b off' n' cap' e'
  ·exact hc⟩
theorem ValT.of0 {w w':World} {u:Value} {l:ValD} (hv:ValV w' u l) (hf:FromC w w' [] u):ValT w' u l:=ValV.t hv hf (fun x hx=>by cases hx)
theorem cnull_t (w:World):Calls Tryz.prog 55 #[] w fun e w'=>∃ u,e=.returned u∧ValT w' u [nulC]∧Below w.heap.size w w' :=
 (cnull_any w).mono fun e w' ⟨he,hw⟩=>⟨_,he,by rw [hw];exact valT_null w,by rw [hw];exact below_new w _⟩
attribute [local go_sem] cell_alloc_is
set_option maxHeartbeats 16000000 in
theorem act_const {w0 w:World} {C:CodeS} {gE:Nat} {m:MachD} {fs:List FrameD} {f:FrameD} (h:ActH w0 C gE w m fs f) (hp:Pow w) (op a:Int) (s:ByteArray) (kv:Value) (ks:List ByteArray) (hop:op=1∨op=2∨op=3∨op=4) (ha : -9223372036854775808≤a∧a≤9223372036854775807) (hs:s.size≤4294967296) :
  Calls Tryz.prog 62 #[.pointer (some ⟨gE,0,none⟩),.agg #[.int .i64 op,.int .i64 a,.string s,kv]] w (ActP w0 C gE (resM m fs f (constR ⟨op,a,s,ks⟩))):=by
 obtain ⟨⟨vv,fv,qv,LS,avs,hx⟩,hm,hnf,hns,_⟩:=h
 have HNW:=Lib.hid (below_new w (.cells #[.int .i64 op,.int .i64 a,.string s,kv] 59))
 have HRS:Hid (∀ W (r:ResD) (u:Value),Below w.heap.size w W→ValT W u r.1→Calls Tryz.prog 94 #[.pointer (some ⟨gE,0,none⟩),u,.int .i64 r.2] W (ActP w0 C gE (resM m fs f r))):=Lib.hid fun W r u hb hu=>result_res hx hm hnf hns hb hu
 have HPW:Hid (∀ W,Below w.heap.size w W→Pow W):=Lib.hid fun W hb=>hp.below hb
 clear hx hm hnf hns hp
 rcases hop with rfl | rfl | rfl | rfl
 ·have HR:Hid (constR ⟨1,a,s,ks⟩=([nulC],0)):=Lib.hid rfl
  rw [HR.out]
  go_enter Tryz.func62,Tryz.ntmps62
  go_wp2_with (first
   | (go_at_call 55;((refine (cnull_t _).mono ?_);rintro e w2 ⟨u,rfl,hu,hb⟩;have H2:=Lib.hid (HRS.out w2 ([nulC],0) _ (below_call hb HNW.out) hu);clear hu hb))
   | (go_at_call 94;((refine H2.out.mono ?_);rintro e w3 ⟨rfl,hx3⟩;have HX3:=Lib.hid hx3;clear hx3)))
  go_returns
  exact ⟨rfl,HX3.out⟩
 ·have HR:Hid (constR ⟨2,a,s,ks⟩=([bCel (decide (a=1))],0)):=Lib.hid rfl
  rw [HR.out]
  have HBO:Hid (∀ wx,Calls Tryz.prog 95 #[.bool (a == 1)] wx fun e w'=>∃ u,e=.returned u∧ValV w' u [bCel (decide (a=1))]∧FromC wx w' [] u∧Below wx.heap.size wx w'):=Lib.hid fun wx=>by
   have:=cbool_any (decide (a=1)) wx
   rwa [show (a == 1)=decide (a=1) from rfl]
  go_enter Tryz.func62,Tryz.ntmps62
  go_wp2_with (first
   | (go_at_call 95;((refine (HBO.out _).mono ?_);rintro e w2 ⟨u,rfl,hu,hf,hb⟩;have H2:=Lib.hid (HRS.out w2 ([bCel (decide (a=1))],0) _ (below_call hb HNW.out) (ValT.of0 hu hf));clear hu hf hb))
   | (go_at_call 94;((refine H2.out.mono ?_);rintro e w3 ⟨rfl,hx3⟩;have HX3:=Lib.hid hx3;clear hx3)))
  go_returns
  exact ⟨rfl,HX3.out⟩
 ·have HR:Hid (constR ⟨3,a,s,ks⟩=okR [iCel a]):=Lib.hid rfl
  rw [HR.out]
  have HIN:Hid (∀ wx,Below w.heap.size w wx→Calls Tryz.prog 96 #[.int .i64 a] wx (RetR wx [] (okR [iCel a]))):=Lib.hid fun wx hb=>cint_any a wx (HPW.out wx hb) ha.1 ha.2
  go_enter Tryz.func62,Tryz.ntmps62
  go_wp2_with (first
   | (go_at_call 96;((refine (HIN.out _ HNW.out).mono ?_);rintro e w2 ⟨u,rfl,hu,hf,hb⟩;have H2:=Lib.hid (HRS.out w2 (okR [iCel a]) _ (below_call hb HNW.out) (ValT.of0 hu hf));clear hu hf hb))
   | (go_at_call 94;((refine H2.out.mono ?_);rintro e w3 ⟨rfl,hx3⟩;have HX3:=Lib.hid hx3;clear hx3)))
  go_returns
  exact ⟨rfl,HX3.out⟩
 ·have HR:Hid (constR ⟨4,a,s,ks⟩=okR [sCel s]):=Lib.hid rfl
  rw [HR.out]
  have HIN:Hid (∀ wx,Below w.heap.size w wx→Calls Tryz.prog 97 #[.string s] wx (RetR wx [] (okR [sCel s]))):=Lib.hid fun wx hb=>cstr_any s wx (HPW.out wx hb) hs
  go_enter Tryz.func62,Tryz.ntmps62
  go_wp2_with (first
   | (go_at_call 97;((refine (HIN.out _ HNW.out).mono ?_);rintro e w2 ⟨u,rfl,hu,hf,hb⟩;have H2:=Lib.hid (HRS.out w2 (okR [sCel s]) _ (below_call hb HNW.out) (ValT.of0 hu hf));clear hu hf hb))
   | (go_at_call 94;((refine H2.out.mono ?_);rintro e w3 ⟨rfl,hx3⟩;have HX3:=Lib.hid hx3;clear hx3)))
  go_returns
  exact ⟨rfl,HX3.out⟩
end
section
open Go.RowKit
set_option maxRecDepth 100000
theorem ValsO.two {w:World} {base:Nat} {v:Value} {l:List ValD} (h:ValsO w base v l) (hl:l.length=2):∃ g cap x y,v=.slice (some ⟨g,0,none⟩) 2 cap∧w.cell? ⟨g,0,none⟩=some x∧w.cell? ⟨g,1,none⟩=some y∧ValT w x (l.getD 0 [])∧ValT w y (l.getD 1 []):=by
 obtain ⟨g,cap,x,e,h1,h2⟩:=h.at0 0 (by omega)
 obtain ⟨g',cap',y,e',h3,h4⟩:=h.at0 1 (by omega)
 rw [e] at e'
 injection e' with e1 e2 e3
 injection e1 with e1
 injection e1 with e1
 subst e1 e3
 rw [hl] at e
 exact ⟨g,cap,x,y,e,h1,h3,h2,h4⟩
/-- Behind a pop: what an action goes on with. -/
structure Popped (w0:World) (C:CodeS) (gE:Nat) (w w1:World) (m:MachD) (fs:List FrameD) (f:FrameD) (n:Nat) (lv:Value):Prop where
 l:ValsO w1 w0.heap.size lv (popL f n)
 res:∀ W (r:ResD) (u:Value),Below w1.heap.size w1 W→ValT W u r.1→Calls Tryz.prog 94 #[.pointer (some ⟨gE,0,none⟩),u,.int .i64 r.2] W (ActP w0 C gE (resM m fs (popFr f n) r))
 bel:Below w0.heap.size w0 w1
 ins:∀ g cs,Blk w g 59 cs→Blk w1 g 59 cs
theorem pop_more {w0 w:World} {C:CodeS} {gE:Nat} {m:MachD} {vv fv qv:Value} {LS:List (Value × Value)} {avs:List Value} {fs:List FrameD} {f:FrameD} (h:XM w0 C gE w m vv fv qv LS avs) (hm:m.frames=fs ++ [f]) (n:Nat) (hfs:fs.length≤100) (hst:f.stack.length≤100000) (hlt:¬ f.stack.length<n) :
  Calls Tryz.prog 98 #[.pointer (some ⟨gE,0,none⟩),.int .i64 n] w fun e w'=>∃ lv,e=.returned (.tuple #[lv,.int .i64 0])∧Popped w0 C gE w w' m fs f n lv:=by
 refine (pop_some h hm n hfs hst hlt).mono fun e w1 ⟨lv,LS1,he,hx,hk,hl,hf⟩=>⟨lv,he,hl,fun W r u hb hu=>?_,hx.p.bel,fun g cs hB=>hk.blk g _ cs hB (by decide) (by decide) (by decide) (fun hm=>?_)⟩
 ·exact result_res hx rfl hfs (by show (f.stack.take (f.stack.length - n)).length≤100000;rw [List.length_take];omega) hb hu
 ·obtain ⟨_,_,cs',hB'⟩:=h.p.fr.mem g hm
  exact blk_ne hB hB' (by decide) rfl
attribute [local go_sem] cell_alloc_is
set_option maxHeartbeats 16000000 in
theorem act_unary {w0 w:World} {C:CodeS} {gE:Nat} {m:MachD} {fs:List FrameD} {f:FrameD} (h:ActH w0 C gE w m fs f) (hp:Pow w0) (hse:Sent w0) (hml:MaxL w0) (hcs:∀ v∈f.stack,checkF v=0) (a:Int) (s:ByteArray) (kv:Value) :
  Calls Tryz.prog 67 #[.pointer (some ⟨gE,0,none⟩),.agg #[.int .i64 8,.int .i64 a,.string s,kv]] w (ActP w0 C gE (if f.stack.length<1 then (topM m fs f,21) else resM m fs (popFr f 1) (unaryR s ((popL f 1).getD 0 [])))):=by
 obtain ⟨⟨vv,fv,qv,LS,avs,hx⟩,hm,hnf,hns,_⟩:=h
 have HX:=Lib.hid (hx.below (below_new w (.cells #[.int .i64 8,.int .i64 a,.string s,kv] 59)))
 have HX0:=Lib.hid hx
 have HM:=Lib.hid hm
 have HNW:=Lib.hid (below_new w (.cells #[.int .i64 8,.int .i64 a,.string s,kv] 59))
 have HI:=Lib.hid (Blk.new w 59 #[.int .i64 8,.int .i64 a,.string s,kv])
 by_cases hlt:f.stack.length<1
 ·rw [if_pos hlt]
  have HPO:=Lib.hid (pop_none HX.out hm 1 (by omega) hnf hns hlt)
  clear hx hm hlt
  go_enter Tryz.func67,Tryz.ntmps67
  go_wp2_with (first
   | (go_at_call 98;(refine HPO.out.mono ?_);rintro e w1 ⟨rfl,hb1⟩;have HB1:=Lib.hid (below_call hb1 HNW.out);clear hb1))
  go_returns
  exact ActP.same HX0.out HM.out HB1.out 21
 ·rw [if_neg hlt]
  have HPO:=Lib.hid (pop_more HX.out hm 1 hnf hns hlt)
  have HPL:Hid ((popL f 1).length=1):=Lib.hid (popL_len hlt)
  have HCK:Hid (∀ v∈popL f 1,checkF v=0):=Lib.hid fun v hv=>hcs v (List.mem_of_mem_drop hv)
  have HPW:=Lib.hid hp
  have HSE:=Lib.hid hse
  have HML:=Lib.hid hml
  have HC0:Hid (checkF ((popL f 1).getD 0 [])=0):=Lib.hid (HCK.out _ (by rw [List.getD_eq_getElem?_getD,List.getElem?_eq_getElem (by rw [HPL.out];omega),Option.getD_some];exact List.getElem_mem _))
  clear hx hm hlt hcs hp hse hml
  go_enter Tryz.func67,Tryz.ntmps67
  go_upto_region 13 with (first
   | (go_at_call 98;(refine HPO.out.mono ?_);rintro e w1 ⟨lv,rfl,hq1⟩;obtain ⟨g1,c1,x1,rfl,hc1,ht1⟩:=hq1.l.at0 0 (by rw [HPL.out];omega);rw [HPL.out] at *;obtain ⟨xA,xn,xc,rfl⟩:=ht1.shape;have HT1:=Lib.hid ht1;clear ht1;have HQ1:=Lib.hid hq1;have HI1:=Lib.hid (hq1.ins _ _ HI.out);have i0:=HI1.out.cell 0 _ rfl;have i1:=HI1.out.cell 1 _ rfl;have i2:=HI1.out.cell 2 _ rfl;have i3:=HI1.out.cell 3 _ rfl;clear hq1))
  have HUN:Hid (∀ W,Below w1.heap.size w1 W→Calls Tryz.prog 99 #[.string s,.slice xA xn xc] W (RetR W [] (unaryR s ((popL f 1).getD 0 [])))):=Lib.hid fun W hb=>unary_any s _ _ W (HT1.out.1.below hb) ((HPW.out.below HQ1.out.bel).below hb) (okV_of_check HC0.out)
  go_region_law (first
   | (go_simp;go_at_call 99;((refine (HUN.out _ (below_drew _)).mono ?_);rintro e w2 ⟨u,rfl,hu,hf,hb⟩;have H2:=Lib.hid (HQ1.out.res w2 (unaryR s ((popL f 1).getD 0 [])) u (below_call hb (below_drew _)) (ValT.of0 hu hf));clear hu hf hb))
   | (go_simp;go_at_call 94;((refine H2.out.mono ?_);rintro e w3 ⟨rfl,hx3⟩;have HX3:=Lib.hid hx3;clear hx3)))
  all_goals
   go_simp
   go_wp2_with (fail)
   go_returns
   exact ⟨rfl,HX3.out⟩
set_option maxHeartbeats 16000000 in
theorem act_binary {w0 w:World} {C:CodeS} {gE:Nat} {m:MachD} {fs:List FrameD} {f:FrameD} (h:ActH w0 C gE w m fs f) (hp:Pow w0) (hse:Sent w0) (hml:MaxL w0) (hcs:∀ v∈f.stack,checkF v=0) (a:Int) (s:ByteArray) (kv:Value) :
  Calls Tryz.prog 67 #[.pointer (some ⟨gE,0,none⟩),.agg #[.int .i64 9,.int .i64 a,.string s,kv]] w (ActP w0 C gE (if f.stack.length<2 then (topM m fs f,21) else resM m fs (popFr f 2) (binaryR s ((popL f 2).getD 0 []) ((popL f 2).getD 1 [])))):=by
 obtain ⟨⟨vv,fv,qv,LS,avs,hx⟩,hm,hnf,hns,_⟩:=h
 have HX:=Lib.hid (hx.below (below_new w (.cells #[.int .i64 9,.int .i64 a,.string s,kv] 59)))
 have HX0:=Lib.hid hx
 have HM:=Lib.hid hm
 have HNW:=Lib.hid (below_new w (.cells #[.int .i64 9,.int .i64 a,.string s,kv] 59))
 have HI:=Lib.hid (Blk.new w 59 #[.int .i64 9,.int .i64 a,.string s,kv])
 by_cases hlt:f.stack.length<2
 ·rw [if_pos hlt]
  have HPO:=Lib.hid (pop_none HX.out hm 2 (by omega) hnf hns hlt)
  clear hx hm hlt
  go_enter Tryz.func67,Tryz.ntmps67
  go_wp2_with (first
   | (go_at_call 98;(refine HPO.out.mono ?_);rintro e w1 ⟨rfl,hb1⟩;have HB1:=Lib.hid (below_call hb1 HNW.out);clear hb1))
  go_returns
  exact ActP.same HX0.out HM.out HB1.out 21
 ·rw [if_neg hlt]
  have HPO:=Lib.hid (pop_more HX.out hm 2 hnf hns hlt)
  have HPL:Hid ((popL f 2).length=2):=Lib.hid (popL_len hlt)
  have HCK:Hid (∀ v∈popL f 2,checkF v=0):=Lib.hid fun v hv=>hcs v (List.mem_of_mem_drop hv)
  have HPW:=Lib.hid hp
  have HSE:=Lib.hid hse
  have HML:=Lib.hid hml
  have HC0:Hid (checkF ((popL f 2).getD 0 [])=0):=Lib.hid (HCK.out _ (by rw [List.getD_eq_getElem?_getD,List.getElem?_eq_getElem (by rw [HPL.out];omega),Option.getD_some];exact List.getElem_mem _))
  have HC1:Hid (checkF ((popL f 2).getD 1 [])=0):=Lib.hid (HCK.out _ (by rw [List.getD_eq_getElem?_getD,List.getElem?_eq_getElem (by rw [HPL.out];omega),Option.getD_some];exact List.getElem_mem _))
  clear hx hm hlt hcs hp hse hml
  go_enter Tryz.func67,Tryz.ntmps67
  go_upto_region 15 with (first
   | (go_at_call 98;(refine HPO.out.mono ?_);rintro e w1 ⟨lv,rfl,hq1⟩;obtain ⟨g1,c1,x1,x2,rfl,hc1,hc2,ht1,ht2⟩:=hq1.l.two HPL.out;obtain ⟨xA,xn,xc,rfl⟩:=ht1.shape;obtain ⟨yA,yn,yc,rfl⟩:=ht2.shape;have HT1:=Lib.hid ht1;have HT2:=Lib.hid ht2;clear ht1 ht2;have HQ1:=Lib.hid hq1;have HI1:=Lib.hid (hq1.ins _ _ HI.out);have i0:=HI1.out.cell 0 _ rfl;have i1:=HI1.out.cell 1 _ rfl;have i2:=HI1.out.cell 2 _ rfl;have i3:=HI1.out.cell 3 _ rfl;clear hq1))
  have HUN:Hid (∀ W,Below w1.heap.size w1 W→Calls Tryz.prog 100 #[.string s,.slice xA xn xc,.slice yA yn yc] W (RetR W [] (binaryR s ((popL f 2).getD 0 []) ((popL f 2).getD 1 [])))):=Lib.hid fun W hb=>binary_any s _ _ _ _ W (HT1.out.1.below hb) (HT2.out.1.below hb) ((HPW.out.below HQ1.out.bel).below hb) ((HML.out.below HQ1.out.bel).below hb) (okV_of_check HC0.out) (okV_of_check HC1.out)
  go_region_law (first
   | (go_simp;go_at_call 100;((refine (HUN.out _ (below_drew _)).mono ?_);rintro e w2 ⟨u,rfl,hu,hf,hb⟩;have H2:=Lib.hid (HQ1.out.res w2 (binaryR s ((popL f 2).getD 0 []) ((popL f 2).getD 1 [])) u (below_call hb (below_drew _)) (ValT.of0 hu hf));clear hu hf hb))
   | (go_simp;go_at_call 94;((refine H2.out.mono ?_);rintro e w3 ⟨rfl,hx3⟩;have HX3:=Lib.hid hx3;clear hx3)))
  all_goals
   go_simp
   go_wp2_with (fail)
   go_returns
   exact ⟨rfl,HX3.out⟩
set_option maxHeartbeats 16000000 in
theorem act_index {w0 w:World} {C:CodeS} {gE:Nat} {m:MachD} {fs:List FrameD} {f:FrameD} (h:ActH w0 C gE w m fs f) (hp:Pow w0) (hse:Sent w0) (hml:MaxL w0) (hcs:∀ v∈f.stack,checkF v=0) (a:Int) (s:ByteArray) (kv:Value) :
  Calls Tryz.prog 67 #[.pointer (some ⟨gE,0,none⟩),.agg #[.int .i64 10,.int .i64 a,.string s,kv]] w (ActP w0 C gE (if f.stack.length<2 then (topM m fs f,21) else resM m fs (popFr f 2) (indexR ((popL f 2).getD 0 []) ((popL f 2).getD 1 [])))):=by
 obtain ⟨⟨vv,fv,qv,LS,avs,hx⟩,hm,hnf,hns,_⟩:=h
 have HX:=Lib.hid (hx.below (below_new w (.cells #[.int .i64 10,.int .i64 a,.string s,kv] 59)))
 have HX0:=Lib.hid hx
 have HM:=Lib.hid hm
 have HNW:=Lib.hid (below_new w (.cells #[.int .i64 10,.int .i64 a,.string s,kv] 59))
 have HI:=Lib.hid (Blk.new w 59 #[.int .i64 10,.int .i64 a,.string s,kv])
 by_cases hlt:f.stack.length<2
 ·rw [if_pos hlt]
  have HPO:=Lib.hid (pop_none HX.out hm 2 (by omega) hnf hns hlt)
  clear hx hm hlt
  go_enter Tryz.func67,Tryz.ntmps67
  go_wp2_with (first
   | (go_at_call 98;(refine HPO.out.mono ?_);rintro e w1 ⟨rfl,hb1⟩;have HB1:=Lib.hid (below_call hb1 HNW.out);clear hb1))
  go_returns
  exact ActP.same HX0.out HM.out HB1.out 21
 ·rw [if_neg hlt]
  have HPO:=Lib.hid (pop_more HX.out hm 2 hnf hns hlt)
  have HPL:Hid ((popL f 2).length=2):=Lib.hid (popL_len hlt)
  have HCK:Hid (∀ v∈popL f 2,checkF v=0):=Lib.hid fun v hv=>hcs v (List.mem_of_mem_drop hv)
  have HPW:=Lib.hid hp
  have HSE:=Lib.hid hse
  have HML:=Lib.hid hml
  have HC0:Hid (checkF ((popL f 2).getD 0 [])=0):=Lib.hid (HCK.out _ (by rw [List.getD_eq_getElem?_getD,List.getElem?_eq_getElem (by rw [HPL.out];omega),Option.getD_some];exact List.getElem_mem _))
  have HC1:Hid (checkF ((popL f 2).getD 1 [])=0):=Lib.hid (HCK.out _ (by rw [List.getD_eq_getElem?_getD,List.getElem?_eq_getElem (by rw [HPL.out];omega),Option.getD_some];exact List.getElem_mem _))
  clear hx hm hlt hcs hp hse hml
  go_enter Tryz.func67,Tryz.ntmps67
  go_upto_region 17 with (first
   | (go_at_call 98;(refine HPO.out.mono ?_);rintro e w1 ⟨lv,rfl,hq1⟩;obtain ⟨g1,c1,x1,x2,rfl,hc1,hc2,ht1,ht2⟩:=hq1.l.two HPL.out;obtain ⟨xA,xn,xc,rfl⟩:=ht1.shape;obtain ⟨yA,yn,yc,rfl⟩:=ht2.shape;have HT1:=Lib.hid ht1;have HT2:=Lib.hid ht2;clear ht1 ht2;have HQ1:=Lib.hid hq1;have HI1:=Lib.hid (hq1.ins _ _ HI.out);have i0:=HI1.out.cell 0 _ rfl;have i1:=HI1.out.cell 1 _ rfl;have i2:=HI1.out.cell 2 _ rfl;have i3:=HI1.out.cell 3 _ rfl;clear hq1))
  have HUN:Hid (∀ W,Below w1.heap.size w1 W→Calls Tryz.prog 101 #[.slice xA xn xc,.slice yA yn yc] W (RetT W (indexR ((popL f 2).getD 0 []) ((popL f 2).getD 1 [])))):=Lib.hid fun W hb=>index_any _ _ _ _ W (HT1.out.1.below hb) (HT2.out.1.below hb) ((HPW.out.below HQ1.out.bel).below hb) (okV_of_check HC0.out) (okV_of_check HC1.out)
  go_region_law (first
   | (go_simp;go_at_call 101;((refine (HUN.out _ (below_drew _)).mono ?_);rintro e w2 ⟨u,rfl,hu,hb⟩;have H2:=Lib.hid (HQ1.out.res w2 (indexR ((popL f 2).getD 0 []) ((popL f 2).getD 1 [])) u (below_call hb (below_drew _)) hu);clear hu hb))
   | (go_simp;go_at_call 94;((refine H2.out.mono ?_);rintro e w3 ⟨rfl,hx3⟩;have HX3:=Lib.hid hx3;clear hx3)))
  all_goals
   go_simp
   go_wp2_with (fail)
   go_returns
   exact ⟨rfl,HX3.out⟩
end
section
open Go.RowKit
set_option maxRecDepth 100000
attribute [local go_sem] cell_alloc_is
set_option maxHeartbeats 16000000 in
theorem act_built {w0 w:World} {C:CodeS} {gE:Nat} {m:MachD} {fs:List FrameD} {f:FrameD} (h:ActH w0 C gE w m fs f) (hp:Pow w0) (hse:Sent w0) (hml:MaxL w0) (hcs:∀ v∈f.stack,checkF v=0) (s:ByteArray) (kv:Value) (n:Nat) (hn:n≤64) :
  Calls Tryz.prog 67 #[.pointer (some ⟨gE,0,none⟩),.agg #[.int .i64 18,.int .i64 n,.string s,kv]] w (ActP w0 C gE (if f.stack.length<n then (topM m fs f,21) else resM m fs (popFr f n) (builtinR s (popL f n)))):=by
 obtain ⟨⟨vv,fv,qv,LS,avs,hx⟩,hm,hnf,hns,_⟩:=h
 have HX:=Lib.hid (hx.below (below_new w (.cells #[.int .i64 18,.int .i64 n,.string s,kv] 59)))
 have HX0:=Lib.hid hx
 have HM:=Lib.hid hm
 have HNW:=Lib.hid (below_new w (.cells #[.int .i64 18,.int .i64 n,.string s,kv] 59))
 have HI:=Lib.hid (Blk.new w 59 #[.int .i64 18,.int .i64 n,.string s,kv])
 by_cases hlt:f.stack.length<n
 ·rw [if_pos hlt]
  have HPO:=Lib.hid (pop_none HX.out hm n (by omega) hnf hns hlt)
  clear hx hm hlt
  go_enter Tryz.func67,Tryz.ntmps67
  go_wp2_with (first
   | (go_at_call 98;(refine HPO.out.mono ?_);rintro e w1 ⟨rfl,hb1⟩;have HB1:=Lib.hid (below_call hb1 HNW.out);clear hb1))
  go_returns
  exact ActP.same HX0.out HM.out HB1.out 21
 ·rw [if_neg hlt]
  have HPO:Hid (Calls Tryz.prog 98 #[.pointer (some ⟨gE,0,none⟩),.int .i64 n] (w.alloc (.cells #[.int .i64 18,.int .i64 n,.string s,kv] 59)) fun e w'=>∃ lv,e=.returned (.tuple #[lv,.int .i64 0])∧Popped w0 C gE (w.alloc (.cells #[.int .i64 18,.int .i64 n,.string s,kv] 59)) w' m fs f n lv):=Lib.hid (pop_more HX.out hm n hnf hns hlt)
  have HPL:Hid ((popL f n).length=n):=Lib.hid (popL_len hlt)
  have HCK:Hid (∀ v∈popL f n,checkF v=0):=Lib.hid fun v hv=>hcs v (List.mem_of_mem_drop hv)
  have HPW:=Lib.hid hp
  have HSE:=Lib.hid hse
  have HML:=Lib.hid hml
  have HPB:Hid ((popL f n).length≤64):=Lib.hid (by rw [HPL.out];exact hn)
  have HFN:Hid (∀ w1 lv,Popped w0 C gE (w.alloc (.cells #[.int .i64 18,.int .i64 n,.string s,kv] 59)) w1 m fs f n lv→Calls Tryz.prog 102 #[.string s,lv] w1 (RetR w1 [] (builtinR s (popL f n)))):=Lib.hid fun w1 lv hq=>builtin_any s (popL f n) lv w1 (hq.l.vals (by have:=HPB.out;omega)) (HPW.out.below hq.bel) (HSE.out.below hq.bel) (fun x hx=>okV_of_check (HCK.out x hx))
  have hn0:(0:Int)≤(n:Int):=by omega
  clear hx hm hlt hcs hp hse hml
  go_enter Tryz.func67,Tryz.ntmps67
  go_wp2_with (first
   | (go_at_call 98;(refine HPO.out.mono ?_);rintro e w1 ⟨lv,rfl,hq1⟩;obtain ⟨lA,lc,rfl⟩:=hq1.l.shape;have HQ1:=Lib.hid hq1;have HI1:=Lib.hid (hq1.ins _ _ HI.out);have i0:=HI1.out.cell 0 _ rfl;have i1:=HI1.out.cell 1 _ rfl;have i2:=HI1.out.cell 2 _ rfl;have i3:=HI1.out.cell 3 _ rfl;have HFN1:=Lib.hid (HFN.out _ _ hq1);clear hq1)
   | (go_at_call 102;((refine HFN1.out.mono ?_);rintro e w2 ⟨u,rfl,hu,hf,hb⟩;have H2:=Lib.hid (HQ1.out.res w2 (builtinR s (popL f n)) u hb (ValT.of0 hu hf));clear hu hf hb))
   | (go_at_call 94;((refine H2.out.mono ?_);rintro e w3 ⟨rfl,hx3⟩;have HX3:=Lib.hid hx3;clear hx3)))
  go_returns
  exact ⟨rfl,HX3.out⟩
set_option maxHeartbeats 16000000 in
theorem act_list {w0 w:World} {C:CodeS} {gE:Nat} {m:MachD} {fs:List FrameD} {f:FrameD} (h:ActH w0 C gE w m fs f) (hp:Pow w0) (hse:Sent w0) (hml:MaxL w0) (hcs:∀ v∈f.stack,checkF v=0) (s:ByteArray) (kv:Value) (n:Nat) (hn:n≤64) :
  Calls Tryz.prog 68 #[.pointer (some ⟨gE,0,none⟩),.agg #[.int .i64 11,.int .i64 n,.string s,kv]] w (ActP w0 C gE (if f.stack.length<n then (topM m fs f,21) else resM m fs (popFr f n) (listR (popL f n)))):=by
 obtain ⟨⟨vv,fv,qv,LS,avs,hx⟩,hm,hnf,hns,_⟩:=h
 have HX:=Lib.hid (hx.below (below_new w (.cells #[.int .i64 11,.int .i64 n,.string s,kv] 59)))
 have HX0:=Lib.hid hx
 have HM:=Lib.hid hm
 have HNW:=Lib.hid (below_new w (.cells #[.int .i64 11,.int .i64 n,.string s,kv] 59))
 have HI:=Lib.hid (Blk.new w 59 #[.int .i64 11,.int .i64 n,.string s,kv])
 by_cases hlt:f.stack.length<n
 ·rw [if_pos hlt]
  have HPO:=Lib.hid (pop_none HX.out hm n (by omega) hnf hns hlt)
  clear hx hm hlt
  go_enter Tryz.func68,Tryz.ntmps68
  go_wp2_with (first
   | (go_at_call 98;(refine HPO.out.mono ?_);rintro e w1 ⟨rfl,hb1⟩;have HB1:=Lib.hid (below_call hb1 HNW.out);clear hb1))
  go_returns
  exact ActP.same HX0.out HM.out HB1.out 21
 ·rw [if_neg hlt]
  have HPO:Hid (Calls Tryz.prog 98 #[.pointer (some ⟨gE,0,none⟩),.int .i64 n] (w.alloc (.cells #[.int .i64 11,.int .i64 n,.string s,kv] 59)) fun e w'=>∃ lv,e=.returned (.tuple #[lv,.int .i64 0])∧Popped w0 C gE (w.alloc (.cells #[.int .i64 11,.int .i64 n,.string s,kv] 59)) w' m fs f n lv):=Lib.hid (pop_more HX.out hm n hnf hns hlt)
  have HPL:Hid ((popL f n).length=n):=Lib.hid (popL_len hlt)
  have HCK:Hid (∀ v∈popL f n,checkF v=0):=Lib.hid fun v hv=>hcs v (List.mem_of_mem_drop hv)
  have HPW:=Lib.hid hp
  have HSE:=Lib.hid hse
  have HML:=Lib.hid hml
  have HPB:Hid ((popL f n).length≤64):=Lib.hid (by rw [HPL.out];exact hn)
  have HFN:Hid (∀ w1 lv,Popped w0 C gE (w.alloc (.cells #[.int .i64 11,.int .i64 n,.string s,kv] 59)) w1 m fs f n lv→Calls Tryz.prog 104 #[lv] w1 (RetR w1 [] (listR (popL f n)))):=Lib.hid fun w1 lv hq=>vlist_any (popL f n) lv w1 (hq.l.vals (by have:=HPB.out;omega)) (HPW.out.below hq.bel) (fun x hx=>okV_of_check (HCK.out x hx)) (by have:=HPB.out;omega)
  have hn0:(0:Int)≤(n:Int):=by omega
  clear hx hm hlt hcs hp hse hml
  go_enter Tryz.func68,Tryz.ntmps68
  go_wp2_with (first
   | (go_at_call 98;(refine HPO.out.mono ?_);rintro e w1 ⟨lv,rfl,hq1⟩;obtain ⟨lA,lc,rfl⟩:=hq1.l.shape;have HQ1:=Lib.hid hq1;have HI1:=Lib.hid (hq1.ins _ _ HI.out);have i0:=HI1.out.cell 0 _ rfl;have i1:=HI1.out.cell 1 _ rfl;have i2:=HI1.out.cell 2 _ rfl;have i3:=HI1.out.cell 3 _ rfl;have HFN1:=Lib.hid (HFN.out _ _ hq1);clear hq1)
   | (go_at_call 104;((refine HFN1.out.mono ?_);rintro e w2 ⟨u,rfl,hu,hf,hb⟩;have H2:=Lib.hid (HQ1.out.res w2 (listR (popL f n)) u hb (ValT.of0 hu hf));clear hu hf hb))
   | (go_at_call 94;((refine H2.out.mono ?_);rintro e w3 ⟨rfl,hx3⟩;have HX3:=Lib.hid hx3;clear hx3)))
  go_returns
  exact ⟨rfl,HX3.out⟩
set_option maxHeartbeats 16000000 in
theorem act_map {w0 w:World} {C:CodeS} {gE:Nat} {m:MachD} {fs:List FrameD} {f:FrameD} (h:ActH w0 C gE w m fs f) (hp:Pow w0) (hse:Sent w0) (hml:MaxL w0) (hcs:∀ v∈f.stack,checkF v=0) (s:ByteArray) (kv:Value) (n:Nat) (hn:n≤64) (ks:List ByteArray) (hkv:StrsV w0 kv ks) (hks:∀ x∈ks,x.size≤1000) :
  Calls Tryz.prog 68 #[.pointer (some ⟨gE,0,none⟩),.agg #[.int .i64 12,.int .i64 n,.string s,kv]] w (ActP w0 C gE (if f.stack.length<n then (topM m fs f,21) else resM m fs (popFr f n) (mapR ks (popL f n)))):=by
 obtain ⟨⟨vv,fv,qv,LS,avs,hx⟩,hm,hnf,hns,_⟩:=h
 have HX:=Lib.hid (hx.below (below_new w (.cells #[.int .i64 12,.int .i64 n,.string s,kv] 59)))
 have HX0:=Lib.hid hx
 have HM:=Lib.hid hm
 have HNW:=Lib.hid (below_new w (.cells #[.int .i64 12,.int .i64 n,.string s,kv] 59))
 have HI:=Lib.hid (Blk.new w 59 #[.int .i64 12,.int .i64 n,.string s,kv])
 by_cases hlt:f.stack.length<n
 ·rw [if_pos hlt]
  have HPO:=Lib.hid (pop_none HX.out hm n (by omega) hnf hns hlt)
  clear hx hm hlt
  go_enter Tryz.func68,Tryz.ntmps68
  go_wp2_with (first
   | (go_at_call 98;(refine HPO.out.mono ?_);rintro e w1 ⟨rfl,hb1⟩;have HB1:=Lib.hid (below_call hb1 HNW.out);clear hb1))
  go_returns
  exact ActP.same HX0.out HM.out HB1.out 21
 ·rw [if_neg hlt]
  have HPO:Hid (Calls Tryz.prog 98 #[.pointer (some ⟨gE,0,none⟩),.int .i64 n] (w.alloc (.cells #[.int .i64 12,.int .i64 n,.string s,kv] 59)) fun e w'=>∃ lv,e=.returned (.tuple #[lv,.int .i64 0])∧Popped w0 C gE (w.alloc (.cells #[.int .i64 12,.int .i64 n,.string s,kv] 59)) w' m fs f n lv):=Lib.hid (pop_more HX.out hm n hnf hns hlt)
  have HPL:Hid ((popL f n).length=n):=Lib.hid (popL_len hlt)
  have HCK:Hid (∀ v∈popL f n,checkF v=0):=Lib.hid fun v hv=>hcs v (List.mem_of_mem_drop hv)
  have HPW:=Lib.hid hp
  have HSE:=Lib.hid hse
  have HML:=Lib.hid hml
  have HPB:Hid ((popL f n).length≤64):=Lib.hid (by rw [HPL.out];exact hn)
  have HFN:Hid (∀ w1 lv,Popped w0 C gE (w.alloc (.cells #[.int .i64 12,.int .i64 n,.string s,kv] 59)) w1 m fs f n lv→Calls Tryz.prog 103 #[kv,lv] w1 (RetR w1 [] (mapR ks (popL f n)))):=Lib.hid fun w1 lv hq=>vmap_any ks (popL f n) kv lv w1 (StrsV.below hkv hq.bel) (hq.l.vals (by have:=HPB.out;omega)) (HPW.out.below hq.bel) (fun x hx=>okV_of_check (HCK.out x hx)) (fun x hx=>by have:=hks x hx;omega) (by have:=HPB.out;omega)
  have hn0:(0:Int)≤(n:Int):=by omega
  obtain ⟨kA,kc,rfl,_⟩:=hkv
  clear hx hm hlt hcs hp hse hml
  go_enter Tryz.func68,Tryz.ntmps68
  go_wp2_with (first
   | (go_at_call 98;(refine HPO.out.mono ?_);rintro e w1 ⟨lv,rfl,hq1⟩;obtain ⟨lA,lc,rfl⟩:=hq1.l.shape;have HQ1:=Lib.hid hq1;have HI1:=Lib.hid (hq1.ins _ _ HI.out);have i0:=HI1.out.cell 0 _ rfl;have i1:=HI1.out.cell 1 _ rfl;have i2:=HI1.out.cell 2 _ rfl;have i3:=HI1.out.cell 3 _ rfl;have HFN1:=Lib.hid (HFN.out _ _ hq1);clear hq1)
   | (go_at_call 103;((refine HFN1.out.mono ?_);rintro e w2 ⟨u,rfl,hu,hf,hb⟩;have H2:=Lib.hid (HQ1.out.res w2 (mapR ks (popL f n)) u hb (ValT.of0 hu hf));clear hu hf hb))
   | (go_at_call 94;((refine H2.out.mono ?_);rintro e w3 ⟨rfl,hx3⟩;have HX3:=Lib.hid hx3;clear hx3)))
  go_returns
  exact ⟨rfl,HX3.out⟩
end
end Go.Proofs.YtmljohbialacfaaGreatDoor
