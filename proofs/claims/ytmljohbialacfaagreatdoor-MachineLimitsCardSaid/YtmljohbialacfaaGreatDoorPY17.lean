/- Y13, Y14, Y15, Y16, Y17 -/
import Derived.Test.YtmljohbialacfaaGreatDoorPY12
import Derived.Test.YtmljohbialacfaaGreatDoorPX5
import Derived.Test.YtmljohbialacfaaGreatDoorPGD16
set_option linter.unusedVariables false
set_option linter.unusedSimpArgs false
namespace Go.Proofs.YtmljohbialacfaaGreatDoor
section
open Go.RowKit
set_option maxRecDepth 100000
theorem fns_cells {w:World} {C:CodeS} {k:Nat} {fn:FnD} (h:SlAt w C.A 5 FnD.cells C.c.fns) (hk:C.c.fns[k]? = some fn):∃ b off,C.A=some ⟨b,off,none⟩∧w.cell? ⟨b,off+k * 5+1,none⟩=some (.int .i64 fn.params):=by
 obtain ⟨hkl,hke⟩:=List.getElem?_eq_some_iff.1 hk
 obtain ⟨b,off,e,_⟩:=h.ptr hkl
 rw [e] at h
 exact ⟨b,off,e,h.cell hkl (j:=1) (by rw [hke];rfl)⟩
attribute [local go_sem] cell_alloc_is
set_option maxHeartbeats 16000000 in
theorem act_call {w0 w:World} {C:CodeS} {gE:Nat} {m:MachD} {fs:List FrameD} {f:FrameD} (h:ActH w0 C gE w m fs f) (hc:CodeV w0 C) (k:Nat) (fn:FnD) (hk:C.c.fns[k]? = some fn) (hsm:FnSmall fn) (hfn:C.c.fns.length≤16) (s:ByteArray) (kv:Value) :
  Calls Tryz.prog 71 #[.pointer (some ⟨gE,0,none⟩),.agg #[.int .i64 17,.int .i64 k,.string s,kv]] w (ActP w0 C gE (if f.stack.length<fn.params.toNat then (topM m fs f,21) else if 16≤fs.length+1 then (topM m fs (popFr f fn.params.toNat),21) else (enterF (topM m fs (popFr f fn.params.toNat)) k fn (popL f fn.params.toNat),0))):=by
 obtain ⟨⟨vv,fv,qv,LS,avs,hx⟩,hm,hnf,hns,_⟩:=h
 obtain ⟨P,hP⟩:∃ P:Ending→World→Prop,ActP w0 C gE (if f.stack.length<fn.params.toNat then (topM m fs f,21) else if 16≤fs.length+1 then (topM m fs (popFr f fn.params.toNat),21) else (enterF (topM m fs (popFr f fn.params.toNat)) k fn (popL f fn.params.toNat),0))=P:=⟨_,rfl⟩
 rw [hP]
 have HP:=Lib.hid hP
 obtain ⟨W0,hW0⟩:∃ W,w.alloc (.cells #[.int .i64 17,.int .i64 k,.string s,kv] 59)=W:=⟨_,rfl⟩
 have hnw:Below w.heap.size w W0:=by rw [← hW0];exact below_new w _
 have HNW:=Lib.hid hnw
 have HI:Hid (Blk W0 w.heap.size 59 #[.int .i64 17,.int .i64 k,.string s,kv]):=Lib.hid (by rw [← hW0];exact Blk.new w _ _)
 have hx1:=hx.below hnw
 have HX0:=Lib.hid hx
 have HM:=Lib.hid hm
 have HC:=Lib.hid hc
 have HSM:=Lib.hid hsm
 have HK:=Lib.hid hk
 have HFN:=Lib.hid hfn
 have HNF:=Lib.hid hnf
 have HNS:=Lib.hid hns
 obtain ⟨n,hn⟩:∃ n:Nat,fn.params=n:=⟨fn.params.toNat,by have:=hsm.1;omega⟩
 have hn8:n≤8:=by have:=hsm.1;omega
 rw [hn,Int.toNat_natCast] at HP
 obtain ⟨bF,oF,hAe,hpar⟩:=fns_cells (hc.fns.below hx.p.bel) hk
 rw [hn] at hpar
 have HPAR:=Lib.hid hpar
 have hE0:=(blkX hx1.p.ex).1
 rw [hAe] at hE0
 have HE0:=Lib.hid hE0
 obtain ⟨L,hL⟩:∃ L,C.c.fns.length=L:=⟨_,rfl⟩
 have hkl:k<L:=by rw [← hL];exact (List.getElem?_eq_some_iff.1 hk).1
 rw [hL] at HE0 hfn
 have hk0:(0:Int)≤(k:Int):=by omega
 have hkL:(k:Int)<(L:Int):=by omega
 have hL9:(L:Int)≤16:=by omega
 have d1:decide ((k:Int)<0)=false:=decide_eq_false (by omega)
 have d2:decide ((L:Int)≤(k:Int))=false:=decide_eq_false (by omega)
 have hn0:(0:Int)≤(n:Int):=by omega
 have HPN:Hid (f.stack.length<n→∀ W,Below W0.heap.size W0 W→Calls Tryz.prog 98 #[.pointer (some ⟨gE,0,none⟩),.int .i64 n] W fun e w'=>e=.returned (.tuple #[.slice none 0 0,.int .i64 21])∧Below W.heap.size W w'):=Lib.hid fun hlt W hb=>pop_none (hx1.below hb) hm n (by omega) hnf hns hlt
 have HPS:Hid (¬ f.stack.length<n→∀ W,Below W0.heap.size W0 W→Calls Tryz.prog 98 #[.pointer (some ⟨gE,0,none⟩),.int .i64 n] W fun e w'=>∃ lv LS',e=.returned (.tuple #[lv,.int .i64 0])∧XM w0 C gE w' (topM m fs (popFr f n)) vv fv qv LS' avs∧Kp W w' LS LS'∧ValsO w' w0.heap.size lv (popL f n)∧(∀ g,lv.ownBlock=some g→W.heap.size≤g∧g ∉ blocksF LS' ++ blocksQ avs)):=Lib.hid fun hlt W hb=>pop_some (hx1.below hb) hm n hnf hns hlt
 have HNI:Hid (∀ g,g∈blocksF LS→g<w.heap.size):=Lib.hid fun g hg=>(hx.p.fr.mem g hg).2.1
 clear hx hm hc hsm hk hP hx1 hAe hE0 hL hpar hn hnf hns
 go_enter Tryz.func71,Tryz.ntmps71
 go_upto_region 1 with fail
 try rw [hW0]
 clear hW0
 have e0:=HE0.out
 have i1:=HI.out.cell 1 _ rfl
 have p1:=(HNW.out.cell (World.block_lt_of_cell? _ _ HPAR.out)).trans HPAR.out
 go_quiet (fail)
 go_upto_region 3 with fail
 obtain ⟨wq,hwq⟩:∃ wq,W0.drewN nq=wq:=⟨_,rfl⟩
 rw [hwq]
 have hbq:Below W0.heap.size W0 wq:=by rw [← hwq];exact below_drewN (Below.refl _ _) _
 have HBQ:=Lib.hid hbq
 have HIQ:Hid (Blk wq w.heap.size 59 #[.int .i64 17,.int .i64 k,.string s,kv]):=Lib.hid (HI.out.below hbq)
 have eq0:=(hbq.cell (World.block_lt_of_cell? _ _ HE0.out)).trans HE0.out
 have iq1:=HIQ.out.cell 1 _ rfl
 have pq1:=(hbq.cell (World.block_lt_of_cell? _ _ p1)).trans p1
 clear e0 i1 p1 hwq hbq
 have hkLn:k<L:=hkl
 by_cases hlt:f.stack.length<n
 ·have HR:Hid (P=ActP w0 C gE (topM m fs f,21)):=Lib.hid (by rw [← HP.out,if_pos hlt])
  have HPO:=Lib.hid (HPN.out hlt)
  clear hlt
  go_region_law (go_simp;go_at_call 98;((refine (HPO.out _ (HBQ.out.drew)).mono ?_);rintro e w1 ⟨rfl,hb1⟩;have HB1:=Lib.hid (below_call hb1 (below_call (HBQ.out.drew) HNW.out));clear hb1))
  all_goals
   go_simp
   go_wp2_with (fail)
   rw [HR.out]
   exact ActP.same HX0.out HM.out HB1.out 21
 ·rw [if_neg hlt] at HP
  have HPO:=Lib.hid (HPS.out hlt)
  have HPL:Hid ((popL f n).length=n):=Lib.hid (popL_len hlt)
  clear hlt
  go_region_law (go_simp;go_at_call 98;((refine (HPO.out _ (HBQ.out.drew)).mono ?_);rintro e w1 ⟨lv,LS1,rfl,hx2,hk2,hv2,hf2⟩;obtain ⟨lA,lc,rfl⟩:=hv2.shape;have HX2:=Lib.hid hx2;have HV2:=Lib.hid hv2;have HF2:=Lib.hid hf2;have HI2:Hid (Blk w1 w.heap.size 59 #[.int .i64 17,.int .i64 k,.string s,kv]):=Lib.hid (hk2.blk _ _ _ (HIQ.out.below (below_drew _)) (by decide) (by decide) (by decide) (fun hm=>by have:=HNI.out _ hm;omega));have i1:=HI2.out.cell 1 _ rfl;obtain ⟨fA,fn',fk,hfv⟩:=hx2.fshape;obtain ⟨LSa,lva,sva,gF,cap,_,hfve,hTa,_,_⟩:=hx2.top rfl;have f5:=hTa.five;clear hx2 hk2 hv2 hf2 hTa hfv))
  all_goals
   go_simp
   obtain ⟨q,hq⟩:∃ q,fs.length=q:=⟨_,rfl⟩
   have HQ:=Lib.hid hq
   rw [hq] at f5
   have hq0:(0:Int)≤(q:Int):=by omega
   by_cases h16:16≤fs.length+1
   ·have HR:Hid (P=ActP w0 C gE (topM m fs (popFr f n),21)):=Lib.hid (by rw [← HP.out,if_pos h16])
    have h16':(16:Int)≤(q:Int)+1:=by omega
    clear hq h16
    go_wp2_with (fail)
    rw [HR.out]
    exact ⟨rfl,_,_,_,_,_,HX2.out⟩
   ·have HR:Hid (P=ActP w0 C gE (enterF (topM m fs (popFr f n)) k fn (popL f n),0)):=Lib.hid (by rw [← HP.out,if_neg h16])
    have h16':¬ (16:Int)≤(q:Int)+1:=by omega
    have HEN:=Lib.hid (enter_any HX2.out HC.out k fn HK.out HSM.out.2.1 (by have:=HFN.out;omega) _ _ HV2.out (by rw [HPL.out];omega) (by show (fs ++ [popFr f n]).length≤100;rw [List.length_append,List.length_singleton];omega) (fun g hg=>(HF2.out g hg).2))
    clear hq h16
    go_wp2_with (first
     | (go_at_call 25;((refine HEN.out.mono ?_);rintro e w3 ⟨rfl,fv3,LS3,hx3⟩;have HX3:=Lib.hid hx3;clear hx3)))
    rw [HR.out]
    exact ⟨rfl,_,_,_,_,_,HX3.out⟩
end
section
open Go.RowKit
set_option maxRecDepth 100000
/-- One request more, the machine waits: what holds then. -/
theorem XM.addReq {w0 w w6:World} {C:CodeS} {gE:Nat} {m:MachD} {vv fv qv qv' lv:Value} {LS:List (Value × Value)} {avs:List Value} {args:List ValD} {s:ByteArray} (h:XM w0 C gE w m vv fv qv LS avs) (hl:ValsO w w0.heap.size lv args) (hnd:∀ g,lv.ownBlock=some g→g ∉ blocksF LS ++ blocksQ avs) (hg:w.grownBy w6 qv.ownBlock)
  (hown:w6.ownsRow w0.heap.size 86 2 qv' (m.requests.length+1) (rowsQ avs m.requests ++ [.string s,lv])) :
  XM w0 C gE ((w6.setCell ⟨gE,6,none⟩ qv').setCell ⟨gE,2,none⟩ (.int .i64 2)) { m with requests:=m.requests ++ [⟨s,args⟩],status:=2 } vv fv qv' LS (avs ++ [lv]):=by
 have hck6:CK w w6:=CK.own h.p.qrow (by decide) hg
 have hex6:Blk w6 gE 69 (exA C m vv fv qv):=h.p.ex.grown hg (own_ne_blk h.p.qrow h.p.ex (by decide))
 have hgE:w6.grownBy ((w6.setCell ⟨gE,6,none⟩ qv').setCell ⟨gE,2,none⟩ (.int .i64 2)) (some gE):=(grown_setc w6 gE 6 qv').trans (grown_setc _ gE 2 _)
 have hck7:CK w6 ((w6.setCell ⟨gE,6,none⟩ qv').setCell ⟨gE,2,none⟩ (.int .i64 2)):=CK.blk hex6 (by decide) hgE
 have hck:=hck6.trans hck7
 obtain ⟨w7,hw7⟩:∃ w7,(w6.setCell ⟨gE,6,none⟩ qv').setCell ⟨gE,2,none⟩ (.int .i64 2)=w7:=⟨_,rfl⟩
 have hex7:Blk w7 gE 69 (exA C { m with requests:=m.requests ++ [⟨s,args⟩],status:=2 } vv fv qv'):=by
  rw [← hw7]
  exact (hex6.set_ 6 qv').set_ 2 _
 rw [hw7] at hgE hck7 hck ⊢
 clear hw7
 have hstay:∀ g cs,Blk w g 26 cs→w7.heap[g]? = w.heap[g]?:=fun g cs hB=>by
  have hB6:Blk w6 g 26 cs:=hB.grown hg (own_ne_blk h.p.qrow hB (by decide))
  have hB7:Blk w7 g 26 cs:=hB6.grown hgE (by simpa using blk_ne hB6 hex6 (by decide))
  exact hB7.trans hB.symm
 have hbF:∀ g∈blocksF LS,w7.heap[g]? = w.heap[g]?:=fun g hm=>by
  obtain ⟨_,_,cs,hB⟩:=h.p.fr.mem g hm
  exact hstay g cs hB
 have hbQ:∀ g∈blocksQ avs,w7.heap[g]? = w.heap[g]?:=fun g hm=>by
  obtain ⟨_,_,cs,hB⟩:=h.p.rq.mem g hm
  exact hstay g cs hB
 have hbl:∀ g,lv.ownBlock=some g→w7.heap[g]? = w.heap[g]?:=fun g hm=>by
  obtain ⟨vs,h1,_⟩:=hl
  obtain ⟨_,cs,hB⟩:=own_blk h1 hm
  exact hstay g cs hB
 have hfq:some gE≠fv.ownBlock:=fun e=>own_ne_blk h.frow h.p.ex (by decide) e
 refine ⟨⟨(h.p.bel.grown hg h.p.bel.size (fun k hk=>(h.p.qrow.lt k hk).1)).grown hgE (Nat.le_trans h.p.bel.size hg.size) (fun k hk=>by injection hk with hk;have:=h.p.hE;omega),h.p.hE,hex7,h.p.val.keep hck,h.p.fr.keep hck hbF,(h.p.rq.keep hck hbQ).snoc (hl.keep hck hbl),?_,?_,fun g cs hT=>((h.p.tb g cs hT).grown hg (own_ne_blk h.p.qrow (h.p.tb g cs hT) (by decide))).grown hgE (fun e=>blk_ne ((h.p.tb g cs hT).grown hg (own_ne_blk h.p.qrow (h.p.tb g cs hT) (by decide))) hex6 (by decide) (by simpa using e))⟩,?_⟩
 ·have hh:(m.requests ++ [(⟨s,args⟩:ReqD)]).length=m.requests.length+1:=by simp
  show w7.ownsRow w0.heap.size 86 2 qv' (m.requests ++ [(⟨s,args⟩:ReqD)]).length (rowsQ (avs ++ [lv]) (m.requests ++ [⟨s,args⟩]))
  rw [hh,rowsQ_snoc h.p.rq.len]
  exact hown.kept hgE (.inr (fun e=>own_ne_blk hown hex6 (by decide) e.symm))
 ·have:=h.p.nd
  have e:blocksF LS ++ blocksQ (avs ++ [lv])=(blocksF LS ++ blocksQ avs) ++ lv.ownBlock.toList:=by simp [blocksQ]
  rw [e,List.nodup_append]
  refine ⟨this,by cases lv.ownBlock <;> simp,fun x hx y hy e2=>?_⟩
  exact hnd y (by simpa using hy) (e2 ▸ hx)
 ·have hne:fv.ownBlock=none∨fv.ownBlock≠qv.ownBlock:=by
   cases hf:fv.ownBlock with
   | none=>exact .inl rfl
   | some g=>exact .inr (fun e=>own_apart h.frow h.p.qrow (by decide) hf e)
  exact (h.frow.kept hg hne).kept hgE (.inr (fun e=>hfq e.symm))
theorem XM.qshape {w0 w:World} {C:CodeS} {gE:Nat} {m:MachD} {vv fv qv:Value} {LS:List (Value × Value)} {avs:List Value} (h:XM w0 C gE w m vv fv qv LS avs):∃ A k,qv=.slice A m.requests.length k:=own_shape h.p.qrow
attribute [local go_sem] cell_alloc_is
set_option maxHeartbeats 16000000 in
theorem act_host {w0 w:World} {C:CodeS} {gE:Nat} {m:MachD} {fs:List FrameD} {f:FrameD} (h:ActH w0 C gE w m fs f) (hrq:m.requests.length≤1000) (n:Nat) (hn:n≤64) (s:ByteArray) (kv:Value) :
  Calls Tryz.prog 72 #[.pointer (some ⟨gE,0,none⟩),.agg #[.int .i64 19,.int .i64 n,.string s,kv]] w (ActP w0 C gE (if f.stack.length<n then (topM m fs f,21) else if 32≤m.requests.length then (topM m fs (popFr f n),3) else ({ topM m fs (popFr f n) with requests:=m.requests ++ [⟨s,popL f n⟩],status:=2 },0))):=by
 obtain ⟨j0,hj,hy0,hy1,hy2⟩:=info_parts Tryz.infoReq
 obtain ⟨⟨vv,fv,qv,LS,avs,hx⟩,hm,hnf,hns,_⟩:=h
 have HX:=Lib.hid (hx.below (below_new w (.cells #[.int .i64 19,.int .i64 n,.string s,kv] 59)))
 have HX0:=Lib.hid hx
 have HM:=Lib.hid hm
 have HNW:=Lib.hid (below_new w (.cells #[.int .i64 19,.int .i64 n,.string s,kv] 59))
 have HI:=Lib.hid (Blk.new w 59 #[.int .i64 19,.int .i64 n,.string s,kv])
 have HIF:Hid (w.heap.size ∉ blocksF LS):=Lib.hid (fun hm=>by have:=(hx.p.fr.mem _ hm).2.1;omega)
 have hn0:(0:Int)≤(n:Int):=by omega
 by_cases hlt:f.stack.length<n
 ·rw [if_pos hlt]
  have HPO:=Lib.hid (pop_none HX.out hm n (by omega) hnf hns hlt)
  clear hx hm hlt
  go_enter Tryz.func72,Tryz.ntmps72
  go_wp2_with (first
   | (go_at_call 98;(refine HPO.out.mono ?_);rintro e w1 ⟨rfl,hb1⟩;have HB1:=Lib.hid (below_call hb1 HNW.out);clear hb1))
  go_returns
  exact ActP.same HX0.out HM.out HB1.out 21
 ·rw [if_neg hlt]
  obtain ⟨P,hP⟩:∃ P:Ending→World→Prop,ActP w0 C gE (if 32≤m.requests.length then (topM m fs (popFr f n),3) else ({ topM m fs (popFr f n) with requests:=m.requests ++ [⟨s,popL f n⟩],status:=2 },0))=P:=⟨_,rfl⟩
  rw [hP]
  have HP:=Lib.hid hP
  have HPO:=Lib.hid (pop_some HX.out hm n hnf hns hlt)
  have HPL:Hid ((popL f n).length=n):=Lib.hid (popL_len hlt)
  obtain ⟨q,hq⟩:∃ q,m.requests.length=q:=⟨_,rfl⟩
  have HQ:=Lib.hid hq
  rw [hq] at HP hrq
  have hq0:(0:Int)≤(q:Int):=by omega
  have hq9:(q:Int)≤1000:=by omega
  clear hx hm hlt hP
  by_cases h32:32≤q
  ·have HR:Hid (P=ActP w0 C gE (topM m fs (popFr f n),3)):=Lib.hid (by rw [← HP.out,if_pos h32])
   have h32':(32:Int)≤(q:Int):=by omega
   clear h32
   go_enter Tryz.func72,Tryz.ntmps72
   go_wp2_with (first
    | (go_at_call 98;(refine HPO.out.mono ?_);rintro e w1 ⟨lv,LS1,rfl,hx1,hk1,hv1,hf1⟩;obtain ⟨lA,lc,rfl⟩:=hv1.shape;have HX1:=Lib.hid hx1;obtain ⟨qA,qk,hqe⟩:=hx1.qshape;have e6:=(blkX hx1.p.ex).2.2.2.2.2.2.1;rw [hqe] at e6;rw [show (topM m fs (popFr f n)).requests.length=q from HQ.out] at e6;clear hx1 hk1 hv1 hf1 hqe))
   rw [HR.out]
   exact ⟨rfl,_,_,_,_,_,HX1.out⟩
  ·have HR:Hid (P=ActP w0 C gE ({ topM m fs (popFr f n) with requests:=m.requests ++ [⟨s,popL f n⟩],status:=2 },0)):=Lib.hid (by rw [← HP.out,if_neg h32])
   have h32':¬ (32:Int)≤(q:Int):=by omega
   clear h32
   go_enter Tryz.func72,Tryz.ntmps72
   go_upto_region 6 with (first
    | (go_at_call 98;(refine HPO.out.mono ?_);rintro e w1 ⟨lv,LS1,rfl,hx1,hk1,hv1,hf1⟩;obtain ⟨lA,lc,rfl⟩:=hv1.shape;have HX1:=Lib.hid hx1;have HV1:=Lib.hid hv1;have HF1:=Lib.hid hf1;have HI1:=Lib.hid (hk1.blk _ _ _ HI.out (by decide) (by decide) (by decide) HIF.out);have i2:=HI1.out.cell 2 _ rfl;obtain ⟨qA,qk,hqe⟩:=hx1.qshape;have e6:=(blkX hx1.p.ex).2.2.2.2.2.2.1;rw [hqe] at e6;rw [show (topM m fs (popFr f n)).requests.length=q from HQ.out] at e6;clear hx1 hk1 hv1 hf1))
   rw [show (topM m fs (popFr f n)).requests.length=q from HQ.out] at hqe
   subst hqe
   have hnb:Below w1.heap.size w1 (w1.drew.alloc (.cells #[.string s,.slice lA (popL f n).length lc] 86)):=(Below.refl _ _).drew.alloc (Nat.le_refl _) _
   have HXA:=Lib.hid (HX1.out.below hnb)
   have HVA:=Lib.hid (HV1.out.below hnb)
   have HOA:Hid ((w1.drew.alloc (.cells #[.string s,.slice lA (popL f n).length lc] 86)).ownsRow w0.heap.size 86 2 (.slice qA q qk) q (rowsQ avs m.requests)):=Lib.hid (by
    have:=HXA.out.p.qrow
    rw [show (topM m fs (popFr f n)).requests.length=q from HQ.out] at this
    exact this)
   have HNW1:Hid (∀ j u,[Value.string s,.slice lA (popL f n).length lc][j]? = some u→(w1.drew.alloc (.cells #[.string s,.slice lA (popL f n).length lc] 86)).cell? ((⟨w1.heap.size,0,none⟩:Addr).add j)=some u):=Lib.hid (cells_new w1.drew _ 86)
   have HSZ:=Lib.hid HXA.out.p.bel.size
   go_region_law (first
    | (rw [if_pos (by rfl)];refine wp_append_lies _ (.tmp 31) (.tmp 36) 35 rfl w0.heap.size 86 j0 _ 2 40 Tryz.underlying35 hj hy0 hy1 hy2 rfl ?k1 _ q _ rfl HOA.out ⟨w1.heap.size,0,none⟩ 1 1 [.string s,.slice lA (popL f n).length lc] rfl rfl HNW1.out ?k2 ?k3 ?k4 ?k5 ?k6 _ rfl ?_;(case k1=>decide);(case k2=>simp [Value.oneCell']);(case k3=>decide);(case k4=>(unfold maxLen;omega));(case k5=>omega);(case k6=>exact HSZ.out);intro g6 cap6 w6 hown6 hgr6 _ _;have HE6:=Lib.hid (HXA.out.p.ex.grown hgr6 (own_ne_blk HOA.out HXA.out.p.ex (by decide)));have e6':=blkX HE6.out;have z6:=HE6.out.frozen 6;have z2:=HE6.out.frozen 2;have HO6:=Lib.hid hown6;have HG6:=Lib.hid hgr6;clear hown6 hgr6))
   all_goals
    go_wp2_with (fail)
    rw [HR.out]
    have hh:=HXA.out.addReq (s:=s) HVA.out (fun g hg=>(HF1.out g hg).2) HG6.out (by
     rw [show (topM m fs (popFr f n)).requests.length=q from HQ.out]
     exact HO6.out)
    exact ⟨rfl,_,_,_,_,_,hh⟩
end
section
open Go.RowKit
set_option maxRecDepth 100000
/-- The top frame is dropped. -/
theorem TopF.drop {w0 w:World} {C:CodeS} {gE:Nat} {m:MachD} {vv qv:Value} {LS0:List (Value × Value)} {fs:List FrameD} {avs:List Value} {fu pc:Int} {gF cap:Nat} {lv sv:Value} (h:TopF w0 C gE w m vv qv LS0 avs fs fu pc gF cap lv sv) :
  XM w0 C gE (w.setCell ⟨gE,5,none⟩ (.slice (some ⟨gF,0,none⟩) fs.length cap)) { m with frames:=fs } vv (.slice (some ⟨gF,0,none⟩) fs.length cap) qv LS0 avs:=by
 have hr:=own_take h.row (k:=fs.length) (by omega)
 have e:(rowsF LS0 fs ++ [Value.int .i64 fu,.int .i64 pc,lv,sv]).take (fs.length * 4)=rowsF LS0 fs:=by
  rw [← h.len]
  exact List.take_left
 rw [e] at hr
 obtain ⟨h1,h2⟩:=h.p.setF (fs':=fs) hr
 exact ⟨h1,h2⟩
/-- The machine is done. -/
theorem XM.done {w0 w:World} {C:CodeS} {gE:Nat} {m:MachD} {vv fv qv u:Value} {LS:List (Value × Value)} {avs:List Value} {v:ValD} (h:XM w0 C gE w m vv fv qv LS avs) (hu:ValT w u v) :
  XM w0 C gE (((w.setCell ⟨gE,2,none⟩ (.int .i64 3)).setCell ⟨gE,4,none⟩ u).setCell ⟨gE,5,none⟩ (.slice none 0 0)) { m with status:=3,value:=v,frames:=[] } u (.slice none 0 0) qv [] avs:=by
 have hg:w.grownBy (((w.setCell ⟨gE,2,none⟩ (.int .i64 3)).setCell ⟨gE,4,none⟩ u).setCell ⟨gE,5,none⟩ (.slice none 0 0)) (some gE):=((grown_setc w gE 2 _).trans (grown_setc _ gE 4 _)).trans (grown_setc _ gE 5 _)
 refine ⟨h.p.none.turnE (m':={ m with status:=3,value:=v,frames:=[] }) hg ?_ (hu.keep (CK.blk h.p.ex (by decide) hg)) rfl,World.ownsRow_nil _ _ _ _⟩
 exact ((h.p.ex.set_ 2 _).set_ 4 _).set_ 5 _
attribute [local go_sem] cell_alloc_is
set_option maxHeartbeats 16000000 in
theorem act_back {w0 w:World} {C:CodeS} {gE:Nat} {m:MachD} {fs:List FrameD} {f:FrameD} (h:ActH w0 C gE w m fs f) (hst:∀ g∈fs,g.stack.length≤100000) (op a:Int) (s:ByteArray) (kv:Value) :
  Calls Tryz.prog 73 #[.pointer (some ⟨gE,0,none⟩),.agg #[.int .i64 op,.int .i64 a,.string s,kv]] w (ActP w0 C gE (if f.stack.length<1 then (topM m fs f,21) else (backM m fs ((popL f 1).getD 0 []),0))):=by
 obtain ⟨⟨vv,fv,qv,LS,avs,hx⟩,hm,hnf,hns,_⟩:=h
 have HX:=Lib.hid (hx.below (below_new w (.cells #[.int .i64 op,.int .i64 a,.string s,kv] 59)))
 have HX0:=Lib.hid hx
 have HM:=Lib.hid hm
 have HNW:=Lib.hid (below_new w (.cells #[.int .i64 op,.int .i64 a,.string s,kv] 59))
 by_cases hlt:f.stack.length<1
 ·rw [if_pos hlt]
  have HPO:=Lib.hid (pop_none HX.out hm 1 (by omega) hnf hns hlt)
  clear hx hm hlt
  go_enter Tryz.func73,Tryz.ntmps73
  go_wp2_with (first
   | (go_at_call 98;(refine HPO.out.mono ?_);rintro e w1 ⟨rfl,hb1⟩;have HB1:=Lib.hid (below_call hb1 HNW.out);clear hb1))
  go_returns
  exact ActP.same HX0.out HM.out HB1.out 21
 ·rw [if_neg hlt]
  obtain ⟨P,hP⟩:∃ P:Ending→World→Prop,ActP w0 C gE (backM m fs ((popL f 1).getD 0 []),0)=P:=⟨_,rfl⟩
  rw [hP]
  have HP:=Lib.hid hP
  have HPO:=Lib.hid (pop_some HX.out hm 1 hnf hns hlt)
  have HPL:Hid ((popL f 1).length=1):=Lib.hid (popL_len hlt)
  obtain ⟨v0,hv0⟩:∃ v,(popL f 1).getD 0 []=v:=⟨_,rfl⟩
  have HV0:=Lib.hid hv0
  rw [hv0] at HP
  have HST:=Lib.hid hst
  have HNF:=Lib.hid hnf
  clear hx hm hlt hv0 hP hst
  go_enter Tryz.func73,Tryz.ntmps73
  go_upto_region 4 with (first
   | (go_at_call 98;(refine HPO.out.mono ?_);rintro e w1 ⟨lv,LS1,rfl,hx1,hk1,hv1,hf1⟩;obtain ⟨g1,c1,x1,rfl,hc1,ht1⟩:=hv1.at0 0 (by rw [HPL.out];omega);have HVO:=Lib.hid hv1;rw [HV0.out] at ht1;obtain ⟨xA,xn,xc,rfl⟩:=ht1.shape;have HX1:=Lib.hid hx1;have HT1:=Lib.hid ht1;have HC1:=Lib.hid hc1;have HF1:=Lib.hid hf1;clear hx1 hk1 hv1 hf1 ht1))
  obtain ⟨LS0,lv1,sv1,gF,cap,rfl,rfl,hT,hl,hs⟩:=HX1.out.top rfl
  have HT:=Lib.hid hT
  have hlt1:=HX1.out.lt
  have h5:=hT.five
  have z5:=hT.p.ex.frozen 5
  have hge:g1≠gE:=by
   obtain ⟨vs,h1,_⟩:=HVO.out
   obtain ⟨_,cs,hB⟩:=own_blk h1 (g:=g1) rfl
   exact blk_ne hB hT.p.ex (by decide)
  have HGE:=Lib.hid hge
  have hcapn:fs.length+1≤cap:=own_le hT.row
  obtain ⟨n,hn⟩:∃ n,fs.length=n:=⟨_,rfl⟩
  have HNN:=Lib.hid hn
  rw [hn] at h5 hcapn
  have hn0:(0:Int)≤(n:Int):=by omega
  have hncap:(n:Int)≤(cap:Int):=by omega
  have hncap2:(n:Int)+1≤(cap:Int):=by omega
  rw [hn] at hnf
  have hn9:(n:Int)≤100:=by omega
  clear hT hl hs hn hge
  go_region
  obtain ⟨W5,hW5⟩:∃ W5,(w1.setCell ⟨gE,5,none⟩ (.slice (some ⟨gF,0,none⟩) n cap)).drew=W5:=⟨_,rfl⟩
  rw [hW5]
  have HX5:Hid (XM w0 C gE W5 { m with frames:=fs } vv (.slice (some ⟨gF,0,none⟩) n cap) qv LS0 avs):=Lib.hid (by
   rw [← hW5,← HNN.out]
   exact HT.out.drop.below (below_drew _))
  have HT5:Hid (ValT W5 (.slice xA xn xc) v0):=Lib.hid (by
   rw [← hW5]
   exact HT1.out.keep ((XM.ck HT.out.p 5 _).trans (CK.of_below (below_drew _))))
  have c5:W5.cell? ⟨g1,0,none⟩=some (.slice xA xn xc):=by
   rw [← hW5]
   exact (World.cell?_of_block (Below.heap_setCell w1 ⟨gE,5,none⟩ _ g1 HGE.out)).trans HC1.out
  have q5:=(blkX HX5.out.p.ex).2.2.2.2.2.1
  clear hW5 h5 z5 hc1
  have HPL2:Hid ((popL f 1).length=1):=HPL
  rw [HPL2.out]
  by_cases h0:n=0
  ·subst h0
   have hnil:fs=[]:=List.eq_nil_of_length_eq_zero HNN.out
   subst hnil
   have HR:Hid (P=ActP w0 C gE ({ m with status:=3,value:=v0,frames:=[] },0)):=Lib.hid (by rw [← HP.out];rfl)
   have e5:=blkX HX5.out.p.ex
   have z2:=HX5.out.p.ex.frozen 2
   have z4:=HX5.out.p.ex.frozen 4
   have z5:=HX5.out.p.ex.frozen 5
   obtain ⟨vA,vn,vc,hvv⟩:=HX5.out.p.val.shape
   subst hvv
   go_wp2_with (fail)
   rw [HR.out]
   exact ⟨rfl,_,_,_,_,_,HX5.out.done HT5.out⟩
  ·have hpos:(0:Int)<(n:Int):=by omega
   have hne:fs≠[]:=by rintro rfl;exact h0 HNN.out.symm
   obtain ⟨fs1,g,hfs⟩:∃ a b,fs=a ++ [b]:=⟨fs.dropLast,fs.getLast hne,(List.dropLast_concat_getLast hne).symm⟩
   have HR:Hid (P=ActP w0 C gE (topM m fs1 (pushFr g v0),0)):=Lib.hid (by
    rw [← HP.out]
    unfold backM
    rw [hfs]
    simp)
   have HPU:=Lib.hid (push_x HX5.out (fs:=fs1) (f:=g) hfs (.slice xA xn xc) v0 HT5.out (by have h9:=HNF.out;rw [hfs] at h9;simp at h9;omega) (HST.out g (by rw [hfs];simp)))
   clear hfs hne h0
   go_wp2_with (first
    | (go_at_call 40;((refine HPU.out.mono ?_);rintro e w6 ⟨rfl,LS6,hx6,_⟩;have HX6:=Lib.hid hx6;clear hx6)))
   rw [HR.out]
   exact ⟨rfl,_,_,_,_,_,HX6.out⟩
end
section
open Go.RowKit
set_option maxRecDepth 100000
section
variable (c:CodeD) (a:Int) (s:ByteArray) (ks:List ByteArray) (m:MachD) (fs:List FrameD) (f:FrameD)
theorem actF_5:actF c ⟨5,a,s,ks⟩ m fs f=if a<0∨(f.locals.length:Int)≤a then (topM m fs f,13) else (topM m fs (pushFr f (f.locals.getD a.toNat [])),0):=rfl
theorem actF_13:actF c ⟨13,a,s,ks⟩ m fs f=(topM m fs { f with pc:=a },0):=rfl
theorem actF_8:actF c ⟨8,a,s,ks⟩ m fs f=if f.stack.length<1 then (topM m fs f,21) else resM m fs (popFr f 1) (unaryR s ((popL f 1).getD 0 [])):=rfl
theorem actF_9:actF c ⟨9,a,s,ks⟩ m fs f=if f.stack.length<2 then (topM m fs f,21) else resM m fs (popFr f 2) (binaryR s ((popL f 2).getD 0 []) ((popL f 2).getD 1 [])):=rfl
theorem actF_10:actF c ⟨10,a,s,ks⟩ m fs f=if f.stack.length<2 then (topM m fs f,21) else resM m fs (popFr f 2) (indexR ((popL f 2).getD 0 []) ((popL f 2).getD 1 [])):=rfl
theorem actF_18:actF c ⟨18,a,s,ks⟩ m fs f=if f.stack.length<a.toNat then (topM m fs f,21) else resM m fs (popFr f a.toNat) (builtinR s (popL f a.toNat)):=rfl
theorem actF_11:actF c ⟨11,a,s,ks⟩ m fs f=if f.stack.length<a.toNat then (topM m fs f,21) else resM m fs (popFr f a.toNat) (listR (popL f a.toNat)):=rfl
theorem actF_12:actF c ⟨12,a,s,ks⟩ m fs f=if f.stack.length<a.toNat then (topM m fs f,21) else resM m fs (popFr f a.toNat) (mapR ks (popL f a.toNat)):=rfl
theorem actF_17 {fn:FnD} (h:c.fns[a.toNat]? = some fn):actF c ⟨17,a,s,ks⟩ m fs f=if f.stack.length<fn.params.toNat then (topM m fs f,21) else if 16≤fs.length+1 then (topM m fs (popFr f fn.params.toNat),21) else (enterF (topM m fs (popFr f fn.params.toNat)) a fn (popL f fn.params.toNat),0):=by
 have e:actF c ⟨17,a,s,ks⟩ m fs f=(match c.fns[a.toNat]? with
  | none=>(topM m fs f,13)
  | some fn=>if f.stack.length<fn.params.toNat then (topM m fs f,21) else if 16≤fs.length+1 then (topM m fs (popFr f fn.params.toNat),21) else (enterF (topM m fs (popFr f fn.params.toNat)) a fn (popL f fn.params.toNat),0)):=rfl
 rw [e,h]
theorem actF_19:actF c ⟨19,a,s,ks⟩ m fs f=if f.stack.length<a.toNat then (topM m fs f,21) else if 32≤m.requests.length then (topM m fs (popFr f a.toNat),3) else ({ topM m fs (popFr f a.toNat) with requests:=m.requests ++ [⟨s,popL f a.toNat⟩],status:=2 },0):=rfl
theorem actF_6:actF c ⟨6,a,s,ks⟩ m fs f=if f.stack.length<1 then (topM m fs f,21) else if a<0∨(f.locals.length:Int)≤a then (topM m fs (popFr f 1),13) else (topM m fs { popFr f 1 with locals:=f.locals.set a.toNat ((popL f 1).getD 0 []) },0):=rfl
theorem actF_7:actF c ⟨7,a,s,ks⟩ m fs f=if f.stack.length<1 then (topM m fs f,21) else (topM m fs (popFr f 1),0):=rfl
theorem actF_16:actF c ⟨16,a,s,ks⟩ m fs f=if f.stack.length<1 then (topM m fs f,21) else (topM m fs (pushFr (pushFr (popFr f 1) ((popL f 1).getD 0 [])) ((popL f 1).getD 0 [])),0):=rfl
theorem actF_14:actF c ⟨14,a,s,ks⟩ m fs f=if f.stack.length<1 then (topM m fs f,21) else if (booleanR ((popL f 1).getD 0 [])).2≠0 then (topM m fs (popFr f 1),(booleanR ((popL f 1).getD 0 [])).2) else if (booleanR ((popL f 1).getD 0 [])).1=true then (topM m fs (popFr f 1),0) else (topM m fs { popFr f 1 with pc:=a },0):=rfl
theorem actF_15:actF c ⟨15,a,s,ks⟩ m fs f=if f.stack.length<1 then (topM m fs f,21) else (topM m fs (pushFr (popFr f 1) ((popL f 1).getD 0 [])),(booleanR ((popL f 1).getD 0 [])).2):=rfl
theorem actF_20:actF c ⟨20,a,s,ks⟩ m fs f=if f.stack.length<1 then (topM m fs f,21) else (backM m fs ((popL f 1).getD 0 []),0):=rfl
end
/-- The function of an operation. -/
def actId (op:Int):Nat:=(actL.lookup op.toNat).getD 0
theorem actId_1:∀ op:Nat,op≤20→1≤op→(actsN 20)[op]? = some (actFn (actId op)):=by
 intro op h1 h2
 have hop:op=1∨op=2∨op=3∨op=4∨op=5∨op=6∨op=7∨op=8∨op=9∨op=10∨op=11∨op=12∨op=13∨op=14∨op=15∨op=16∨op=17∨op=18∨op=19∨op=20:=by omega
 rcases hop with rfl | rfl | rfl | rfl | rfl | rfl | rfl | rfl | rfl | rfl | rfl | rfl | rfl | rfl | rfl | rfl | rfl | rfl | rfl | rfl
 all_goals (show _=_;first | kernel_rfl | rfl)
theorem act_any {w0 w:World} {C:CodeS} {gE K:Nat} {m:MachD} {vv fv qv:Value} {LS:List (Value × Value)} {avs:List Value} {fs:List FrameD} {f:FrameD} (h:XM w0 C gE w m vv fv qv LS avs) (hm:m.frames=fs ++ [f]) (hg:GoodM K m) (hK:K≤9000) (hc:CodeV w0 C) (hgc:GoodC C.c) (hp:Pow w0) (hse:Sent w0) (hml:MaxL w0) (i:InsD) (hi:(∃ g:FnD,FnSmall g∧FormedP (C.c.fns.length:Nat) g i)∧InsOk i) (kv:Value) (hkv:KeysV w0 kv i.keys) :
  Calls Tryz.prog (actId i.op) #[.pointer (some ⟨gE,0,none⟩),.agg #[.int .i64 i.op,.int .i64 i.a,.string i.s,kv]] w (ActP w0 C gE (actF C.c i m fs f)):=by
 have hlast:=hg.last hm
 have hH:ActH w0 C gE w m fs f:=⟨⟨_,_,_,_,_,h⟩,hm,by have:=hg.nf;rw [hm] at this;simp at this;omega,by have:=hlast.ns;omega,by have:=hlast.nl;omega⟩
 have hpw:=hp.below h.p.bel
 obtain ⟨⟨g,hgs,hop,hopr,_,_⟩,hok⟩:=hi
 obtain ⟨b1,b2,b3,_,b11,b12,_,b17,b18,b19⟩:=hopr
 have hs:=hok.1
 obtain ⟨op,a,s,ks⟩:=i
 dsimp only at hop b1 b2 b3 b11 b12 b17 b18 b19 hs hkv hok ⊢
 have hops:op=1∨op=2∨op=3∨op=4∨op=5∨op=6∨op=7∨op=8∨op=9∨op=10∨op=11∨op=12∨op=13∨op=14∨op=15∨op=16∨op=17∨op=18∨op=19∨op=20:=by omega
 have nat:∀ {l:List (List UInt8 × Int)},(∀ p∈l,0≤p.2∧p.2≤3)→lookL l s=some a→∃ n:Nat,a=n∧n≤64:=fun hl h=>by
  have:=lookL_bd hl h
  exact ⟨a.toNat,by omega,by omega⟩
 rcases hops with rfl | rfl | rfl | rfl | rfl | rfl | rfl | rfl | rfl | rfl | rfl | rfl | rfl | rfl | rfl | rfl | rfl | rfl | rfl | rfl
 ·exact act_const hH hpw 1 a s kv ks (.inl rfl) (by rw [b1 rfl];omega) (by omega)
 ·exact act_const hH hpw 2 a s kv ks (.inr (.inl rfl)) (by have:=b2 rfl;omega) (by omega)
 ·exact act_const hH hpw 3 a s kv ks (.inr (.inr (.inl rfl))) (by have:=b3 rfl;omega) (by omega)
 ·exact act_const hH hpw 4 a s kv ks (.inr (.inr (.inr rfl))) (by rw [b1 rfl];omega) (by omega)
 ·rw [actF_5];exact act_load hH 5 a s kv
 ·rw [actF_6];exact act_store hH 6 a s kv
 ·rw [actF_7];exact act_drop hH 7 a s kv
 ·rw [actF_8];exact act_unary hH hp hse hml hlast.cs a s kv
 ·rw [actF_9];exact act_binary hH hp hse hml hlast.cs a s kv
 ·rw [actF_10];exact act_index hH hp hse hml hlast.cs a s kv
 ·obtain ⟨n,rfl⟩:∃ n:Nat,a=n:=⟨a.toNat,by have:=b11 rfl;omega⟩
  rw [actF_11,Int.toNat_natCast]
  exact act_list hH hp hse hml hlast.cs s kv n (by have:=b11 rfl;omega)
 ·obtain ⟨n,rfl⟩:∃ n:Nat,a=n:=⟨a.toNat,by have:=b12 rfl;omega⟩
  rw [actF_12,Int.toNat_natCast]
  exact act_map hH hp hse hml hlast.cs s kv n (by have:=b12 rfl;omega) ks hkv hok.2.2
 ·rw [actF_13];exact act_jump hH a s kv
 ·rw [actF_14];exact act_false hH a s kv
 ·rw [actF_15];exact act_test hH 15 a s kv
 ·rw [actF_16];exact act_dup hH 16 a s kv
 ·have h17:=b17 rfl
  obtain ⟨n,rfl⟩:∃ n:Nat,a=n:=⟨a.toNat,by omega⟩
  have hlt:n<C.c.fns.length:=by omega
  have hfn:C.c.fns[n]? = some C.c.fns[n]:=List.getElem?_eq_getElem hlt
  rw [actF_17 C.c n s ks m fs f (by rw [Int.toNat_natCast];exact hfn)]
  exact act_call hH hc n _ hfn (hgc.fn _ (List.getElem_mem hlt)) hgc.nf s kv
 ·obtain ⟨n,rfl,hn⟩:=nat (by decide) (b18 rfl)
  rw [actF_18,Int.toNat_natCast]
  exact act_built hH hp hse hml hlast.cs s kv n hn
 ·obtain ⟨n,rfl,hn⟩:=nat (by decide) (b19 rfl)
  rw [actF_19,Int.toNat_natCast]
  exact act_host hH (by have:=hg.nr;omega) n hn s kv
 ·rw [actF_20]
  exact act_back hH (fun g hgm=>by have:=(hg.fr g (by rw [hm];exact List.mem_append_left _ hgm)).ns;omega) 20 a s kv
end
section
open Go.RowKit
set_option maxRecDepth 100000
theorem act_ent (op:Nat) (h1:1≤op) (h2:op≤20):∀ args w,(callFunc (actId op) args).run Tryz.prog w=.ok (.enter (actId op) args) w:=by
 have hop:op=1∨op=2∨op=3∨op=4∨op=5∨op=6∨op=7∨op=8∨op=9∨op=10∨op=11∨op=12∨op=13∨op=14∨op=15∨op=16∨op=17∨op=18∨op=19∨op=20:=by omega
 have c:=enters_of Tryz.func62 (by kernel_rfl) rfl
 have o:=enters_of Tryz.func67 (by kernel_rfl) rfl
 have l:=enters_of Tryz.func68 (by kernel_rfl) rfl
 have j:=enters_of Tryz.func69 (by kernel_rfl) rfl
 rcases hop with rfl | rfl | rfl | rfl | rfl | rfl | rfl | rfl | rfl | rfl | rfl | rfl | rfl | rfl | rfl | rfl | rfl | rfl | rfl | rfl
 ·exact c
 ·exact c
 ·exact c
 ·exact c
 ·exact enters_of Tryz.func63 (by kernel_rfl) rfl
 ·exact enters_of Tryz.func64 (by kernel_rfl) rfl
 ·exact enters_of Tryz.func65 (by kernel_rfl) rfl
 ·exact o
 ·exact o
 ·exact o
 ·exact l
 ·exact l
 ·exact j
 ·exact j
 ·exact enters_of Tryz.func70 (by kernel_rfl) rfl
 ·exact enters_of Tryz.func66 (by kernel_rfl) rfl
 ·exact enters_of Tryz.func71 (by kernel_rfl) rfl
 ·exact o
 ·exact enters_of Tryz.func72 (by kernel_rfl) rfl
 ·exact enters_of Tryz.func73 (by kernel_rfl) rfl
theorem TopF.steps {w0 w:World} {C:CodeS} {gE:Nat} {m:MachD} {vv qv:Value} {LS0:List (Value × Value)} {fs:List FrameD} {avs:List Value} {fu pc:Int} {gF cap:Nat} {lv sv:Value} (h:TopF w0 C gE w m vv qv LS0 avs fs fu pc gF cap lv sv) (x:Int) :
  TopF w0 C gE (w.setCell ⟨gE,9,none⟩ (.int .i64 x)) { m with steps:=x } vv qv LS0 avs fs fu pc gF cap lv sv∧∀ {v:Value} {l:List ValD},ValsO w w0.heap.size v l→ValsO (w.setCell ⟨gE,9,none⟩ (.int .i64 x)) w0.heap.size v l:=by
 have hg:=grown_setc w gE 9 (.int .i64 x)
 have hck:=XM.ck h.p 9 (.int .i64 x)
 refine ⟨⟨h.p.turnE hg (h.p.ex.set_ 9 _) (h.p.val.keep hck) rfl,h.row.kept hg (.inr (fun e=>own_ne_blk h.row h.p.ex (by decide) e.symm)),h.nd⟩,fun {v l} hv=>hv.keep hck (fun g hgv=>?_)⟩
 obtain ⟨vs,h1,_⟩:=hv
 obtain ⟨_,cs,hB⟩:=own_blk h1 hgv
 exact hg.block g (lt_of_block hB) (fun e=>blk_ne hB h.p.ex (by decide) (by simpa using e))
theorem actF_frames (c:CodeD) (i:InsD) (m:MachD) (X fs:List FrameD) (f:FrameD):actF c i { m with frames:=X } fs f=actF c i m fs f:=by
 unfold actF act1F resM topM enterF backM
 rfl
theorem stepF_top {c:CodeD} {m:MachD} {fs:List FrameD} {f:FrameD} (hm:m.frames=fs ++ [f]) (hs:¬ m.lsteps≤m.steps):stepF c m=if f.pc<0 then failF m 13 else match c.ins[f.pc.toNat]? with
  | none=>failF m 13
  | some i=>countF (if (actF c i { m with steps:=m.steps+1 } fs { f with pc:=f.pc+1 }).2≠0 then failF (actF c i { m with steps:=m.steps+1 } fs { f with pc:=f.pc+1 }).1 (actF c i { m with steps:=m.steps+1 } fs { f with pc:=f.pc+1 }).2 else (actF c i { m with steps:=m.steps+1 } fs { f with pc:=f.pc+1 }).1):=by
 unfold stepF
 rw [if_neg hs,hm,List.getLast?_concat,List.dropLast_concat]
 rfl
/-- What a step leaves. -/
def StepP (w0:World) (C:CodeS) (gE:Nat) (m:MachD) (e:Ending) (w':World):Prop:=e=.returned (.tuple #[])∧∃ vv fv qv LS avs,XM w0 C gE w' m vv fv qv LS avs
attribute [local go_sem] cell_alloc_is
set_option maxHeartbeats 16000000 in
theorem step_any {w0 w:World} {C:CodeS} {gE K gT:Nat} {m:MachD} {vv fv qv:Value} {LS:List (Value × Value)} {avs:List Value} (h:XM w0 C gE w m vv fv qv LS avs) (hg:GoodM K m) (hK:K≤8900) (hc:CodeV w0 C) (hgc:GoodC C.c) (hp:Pow w0) (hse:Sent w0) (hml:MaxL w0) (hT:C.T=some (gT,actsN 20)) (hst:0≤m.steps∧m.steps≤1000000) :
  Calls Tryz.prog 37 #[.pointer (some ⟨gE,0,none⟩),.slice (some ⟨gT,0,none⟩) 21 21] w (StepP w0 C gE (stepF C.c m)):=by
 obtain ⟨P,hP⟩:∃ P:Ending→World→Prop,StepP w0 C gE (stepF C.c m)=P:=⟨_,rfl⟩
 rw [hP]
 have HP:=Lib.hid hP
 have HH:=Lib.hid h
 have HG:=Lib.hid hg
 have e0:=blkX h.p.ex
 have HFL:Hid (∀ x W,Below w.heap.size w W→Calls Tryz.prog 39 #[.pointer (some ⟨gE,0,none⟩),.int .i64 x] W fun r w'=>r=.returned (.tuple #[])∧XM w0 C gE w' (failF m x) (.slice none 0 0) (.slice none 0 0) qv [] avs):=Lib.hid fun x W hb=>fail_any (h.below hb) x
 by_cases hs:m.lsteps≤m.steps
 ·have HR:Hid (stepF C.c m=failF m 15):=Lib.hid (by unfold stepF;rw [if_pos hs])
  obtain ⟨ls,hls⟩:∃ x,m.lsteps=x:=⟨_,rfl⟩
  obtain ⟨sp,hsp⟩:∃ x,m.steps=x:=⟨_,rfl⟩
  rw [hls,hsp] at e0
  have d1:decide (ls≤sp)=true:=decide_eq_true (by rw [← hls,← hsp];exact hs)
  clear h hg hc hP hs hst hls hsp hgc hp hse hml
  go_enter Tryz.func37,Tryz.ntmps37
  go_upto_region 0 with fail
  go_quiet (fail)
  go_wp2_with (first
   | (go_at_call 39;(with_reducible refine (HFL.out 15 _ (below_drewN (Below.refl _ _) _)).mono ?_);rintro e w1 ⟨rfl,h1⟩;have H1:=Lib.hid h1;clear h1))
  go_returns
  rw [← HP.out,HR.out]
  exact ⟨rfl,_,_,_,_,_,H1.out⟩
 have d0:decide (m.lsteps≤m.steps)=false:=decide_eq_false hs
 have HSS:=Lib.hid hs
 have HST:=Lib.hid hst
 have hspd:=hst
 obtain ⟨ls,hls⟩:∃ x,m.lsteps=x:=⟨_,rfl⟩
 obtain ⟨sp,hsp⟩:∃ x,m.steps=x:=⟨_,rfl⟩
 have HSP:=Lib.hid hsp
 rw [hls,hsp] at e0
 rw [hls,hsp] at d0
 rw [hsp] at hspd
 by_cases hfr:m.frames=[]
 ·have HR:Hid (stepF C.c m=failF m 13):=Lib.hid (by unfold stepF;rw [if_neg HSS.out,hfr];rfl)
  have hf0:=h.frow
  rw [hfr] at hf0
  obtain ⟨fA,fk,hfv⟩:=own_shape hf0
  simp only [List.length_nil] at hfv
  subst hfv
  clear h hg hc hP hs hst hls hsp hgc hp hse hml hf0 hfr
  go_enter Tryz.func37,Tryz.ntmps37
  go_upto_region 0 with fail
  go_quiet (fail)
  go_wp2_with (first
   | (go_at_call 39;(with_reducible refine (HFL.out 13 _ (below_drewN (Below.refl _ _) _)).mono ?_);rintro e w1 ⟨rfl,h1⟩;have H1:=Lib.hid h1;clear h1))
  go_returns
  rw [← HP.out,HR.out]
  exact ⟨rfl,_,_,_,_,_,H1.out⟩
 obtain ⟨fs,f,hm⟩:∃ fs f,m.frames=fs ++ [f]:=⟨m.frames.dropLast,m.frames.getLast hfr,(List.dropLast_concat_getLast hfr).symm⟩
 have HM:=Lib.hid hm
 have HR0:=Lib.hid (stepF_top (c:=C.c) hm hs)
 obtain ⟨LS0,lv,sv,gF,cap,rfl,rfl,hTT,hl,hsv⟩:=h.top hm
 have HT:=Lib.hid hTT
 have HL:=Lib.hid hl
 have HS:=Lib.hid hsv
 obtain ⟨n,hn⟩:∃ n,fs.length=n:=⟨_,rfl⟩
 have HNN:=Lib.hid hn
 have hn9:n≤100:=by have:=hg.nf;rw [hm] at this;simp at this;omega
 have h5:=hTT.five
 rw [hn] at h5
 rw [hn] at e0
 have HFR:Hid (∀ W,Below w.heap.size w W→Calls Tryz.prog 74 #[.pointer (some ⟨gE,0,none⟩)] W fun e w'=>e=.returned (.pointer (some ⟨gF,n * 4,none⟩))∧∃ q,w'=W.drewN q):=Lib.hid fun W hb=>frame_any gE gF n cap W ((hb.cell (p:=⟨gE,5,none⟩) (World.block_lt_of_cell? _ _ h5)).trans h5) (by omega)
 have hn0:(0:Int)≤(n:Int):=by omega
 have hn99:(n:Int)≤100:=by omega
 obtain ⟨pc,hpc⟩:∃ x,f.pc=x:=⟨_,rfl⟩
 have HPC:=Lib.hid hpc
 obtain ⟨L,hL⟩:∃ L,C.c.ins.length=L:=⟨_,rfl⟩
 have HLL:=Lib.hid hL
 have hL9:(L:Int)≤4000:=by have:=hgc.ni;omega
 have hL0:(0:Int)≤(L:Int):=by omega
 have HC:=Lib.hid hc
 have HGC:=Lib.hid hgc
 have HPW:=Lib.hid hp
 have HSE:=Lib.hid hse
 have HML:=Lib.hid hml
 have HTT:=Lib.hid hT
 have e1:=e0.2.1
 rw [hL] at e1
 have e5:=e0.2.2.2.2.2.1
 have e7:=e0.2.2.2.2.2.2.2.1
 have e9:=e0.2.2.2.2.2.2.2.2.2.1
 clear h hg hP hs hst hls hsp hm hTT hl hsv hn hfr h5 hc hgc hp hse hml hT e0 hL
 by_cases hbad:pc<0∨(L:Int)≤pc
 ·have HR:Hid (stepF C.c m=failF m 13):=Lib.hid (by
   rw [HR0.out,HPC.out]
   by_cases h1:pc<0
   ·rw [if_pos h1]
   ·rw [if_neg h1]
    have:C.c.ins[pc.toNat]? = none:=by
     rw [List.getElem?_eq_none]
     rw [HLL.out]
     omega
    rw [this])
  have hcase:(decide (pc<0)=true)∨(decide (pc<0)=false∧decide ((L:Int)≤pc)=true):=by
   by_cases h1:pc<0
   ·exact .inl (decide_eq_true h1)
   ·exact .inr ⟨decide_eq_false h1,decide_eq_true (hbad.resolve_left h1)⟩
  clear hbad
  rcases hcase with d1 | ⟨d1,d2⟩
  all_goals
   go_enter Tryz.func37,Tryz.ntmps37
   go_upto_region 0 with fail
   go_quiet (fail)
   go_upto_region 5 with (first
    | (go_at_call 74;(with_reducible refine (HFR.out _ (below_drewN (Below.refl _ _) _)).mono ?_);rintro e w1 ⟨rfl,q,hq⟩;have hb1:Below w.heap.size w w1:=(by rw [hq];exact below_drewN (below_drewN (Below.refl _ _) _) _);have HB1:=Lib.hid hb1;have f1:=(HT.out.below hb1).facts;rw [HNN.out,hpc] at f1;have c1:=(hb1.cell (World.block_lt_of_cell? _ _ e1)).trans e1;clear hq hb1))
   go_quiet (fail)
   go_wp2_with (first
    | (go_at_call 39;(with_reducible refine (HFL.out 13 _ (below_drewN HB1.out _)).mono ?_);rintro e w2 ⟨rfl,h1⟩;have H1:=Lib.hid h1;clear h1))
   go_returns
   rw [← HP.out,HR.out]
   exact ⟨rfl,_,_,_,_,_,H1.out⟩
 obtain ⟨k,hk⟩:∃ k:Nat,pc=k:=⟨pc.toNat,by omega⟩
 subst hk
 have hkL:k<L:=by omega
 obtain ⟨ins,hins⟩:∃ i,C.c.ins[k]? = some i:=⟨_,List.getElem?_eq_getElem (by rw [HLL.out];exact hkL)⟩
 have hmem:=List.mem_of_getElem? hins
 have hgi:=HGC.out.ins ins hmem
 have HGI:=Lib.hid hgi
 obtain ⟨bI,offI,kv,hCB,_,q0,q1,q2,q3,hkv⟩:=HC.out.ins.at (k:=k) (by rw [HLL.out];exact hkL)
 rw [(List.getElem?_eq_some_iff.1 hins).2] at q0 q1 q2 hkv
 have hkv':=hkv
 obtain ⟨kA,kc,hkve,_⟩:=hkv'
 obtain ⟨kn,hkn⟩:∃ x,ins.keys.length=x:=⟨_,rfl⟩
 rw [hkn] at hkve
 subst hkve
 have HKV:=Lib.hid hkv
 clear hkn
 rw [hCB] at e1
 have HR:Hid (stepF C.c m=countF (if (actF C.c ins { m with steps:=m.steps+1 } fs { f with pc:=f.pc+1 }).2≠0 then failF (actF C.c ins { m with steps:=m.steps+1 } fs { f with pc:=f.pc+1 }).1 (actF C.c ins { m with steps:=m.steps+1 } fs { f with pc:=f.pc+1 }).2 else (actF C.c ins { m with steps:=m.steps+1 } fs { f with pc:=f.pc+1 }).1)):=Lib.hid (by
  rw [HR0.out,HPC.out,if_neg (by omega),Int.toNat_natCast,hins])
 have hopb:=(hgi.1.choose_spec.2).1
 obtain ⟨o,ho⟩:∃ o:Nat,ins.op=o:=⟨ins.op.toNat,by omega⟩
 have HO:=Lib.hid ho
 have ho1:1≤o:=by omega
 have ho2:o≤20:=by omega
 have hent:=act_ent o ho1 ho2
 have htab:=actId_1 o ho2 ho1
 obtain ⟨fid,hfid⟩:∃ x,actId (o:Int)=x:=⟨_,rfl⟩
 have HFID:=Lib.hid hfid
 rw [hfid] at hent htab
 have HTAB:=Lib.hid htab
 rw [ho] at q0
 obtain ⟨ia,hia⟩:∃ x,ins.a=x:=⟨_,rfl⟩
 obtain ⟨is,his⟩:∃ x,ins.s=x:=⟨_,rfl⟩
 rw [hia] at q1
 rw [his] at q2
 have HIA:=Lib.hid hia
 have HIS:=Lib.hid his
 have hbw:=HT.out.p.bel
 have r0:=(hbw.cell (World.block_lt_of_cell? _ _ q0)).trans q0
 have r1:=(hbw.cell (World.block_lt_of_cell? _ _ q1)).trans q1
 have r2:=(hbw.cell (World.block_lt_of_cell? _ _ q2)).trans q2
 have r3:=(hbw.cell (World.block_lt_of_cell? _ _ q3)).trans q3
 have d1:decide ((k:Int)<0)=false:=decide_eq_false (by omega)
 have d2:decide ((L:Int)≤(k:Int))=false:=decide_eq_false (by omega)
 have d3:decide ((o:Int)≤0)=false:=decide_eq_false (by omega)
 have d4:decide (20<(o:Int))=false:=decide_eq_false (by omega)
 have d5:decide (o=0)=false:=decide_eq_false (by omega)
 have d6:decide (20<o)=false:=decide_eq_false (by omega)
 have d7:decide (L≤k)=false:=decide_eq_false (by omega)
 have hk0:(0:Int)≤(k:Int):=by omega
 have hkL':(k:Int)<(L:Int):=by omega
 have ho0:(0:Int)≤(o:Int):=by omega
 have ho21:(o:Int)<21:=by omega
 have ho21n:o<21:=by omega
 clear hbad hins hmem hgi hkv hopb hfid htab hia his q0 q1 q2 q3 hbw hCB
 go_enter Tryz.func37,Tryz.ntmps37
 go_upto_region 0 with fail
 go_quiet (fail)
 go_upto_region 5 with (first
  | (go_at_call 74;(with_reducible refine (HFR.out _ (below_drewN (Below.refl _ _) _)).mono ?_);rintro e w1 ⟨rfl,q,hq⟩;have hb1:Below w.heap.size w w1:=(by rw [hq];exact below_drewN (below_drewN (Below.refl _ _) _) _);have HB1:=Lib.hid hb1;have f1:=(HT.out.below hb1).facts;rw [HNN.out,hpc] at f1;have c1:=(hb1.cell (World.block_lt_of_cell? _ _ e1)).trans e1;have s0:=(hb1.cell (World.block_lt_of_cell? _ _ r0)).trans r0;clear hq hb1))
 go_quiet (fail)
 go_upto_region 7 with fail
 obtain ⟨wq,hwq⟩:∃ wq,w1.drewN nq=wq:=⟨_,rfl⟩
 rw [hwq]
 have hbq:Below w.heap.size w wq:=by rw [← hwq];exact below_drewN HB1.out _
 have HBQ:=Lib.hid hbq
 clear f1 c1 s0 hwq
 have f2:=(HT.out.below hbq).facts
 rw [HNN.out,hpc] at f2
 have c2:=(hbq.cell (World.block_lt_of_cell? _ _ e1)).trans e1
 have s0:=(hbq.cell (World.block_lt_of_cell? _ _ r0)).trans r0
 have s1:=(hbq.cell (World.block_lt_of_cell? _ _ r1)).trans r1
 have s2:=(hbq.cell (World.block_lt_of_cell? _ _ r2)).trans r2
 have s3:=(hbq.cell (World.block_lt_of_cell? _ _ r3)).trans r3
 clear e1 e5 e7 e9 r0 r1 r2 r3 d0 d1 d2 d3 d4 d5 d6 d7 hbq
 go_region
 obtain ⟨W7,hW7⟩:∃ W,(wq.alloc (.cells #[.int .i64 o,.int .i64 ia,.string is,.slice kA kn kc] 59)).drew=W:=⟨_,rfl⟩
 rw [hW7]
 have hb7:Below wq.heap.size wq W7:=by rw [← hW7];exact (below_new wq _).drew
 have HI7:Hid (Blk W7 wq.heap.size 59 #[.int .i64 o,.int .i64 ia,.string is,.slice kA kn kc]):=Lib.hid (by rw [← hW7];exact (Blk.new wq _ _).drew)
 have hbw7:=below_call hb7 HBQ.out
 have HT7:=Lib.hid (HT.out.below hbw7)
 have HL7:=Lib.hid (HL.out.below hbw7)
 have HS7:=Lib.hid (HS.out.below hbw7)
 have f7:=HT7.out.facts
 rw [HNN.out,hpc] at f7
 have e79:=(blkX HT7.out.p.ex).2.2.2.2.2.2.2.2.2.1
 rw [HSP.out] at e79
 have z79:=HT7.out.p.ex.frozen 9
 have hneE:wq.heap.size≠gE:=blk_ne HI7.out HT7.out.p.ex (by decide)
 have hneF:wq.heap.size≠gF:=by
  obtain ⟨_,cs,hB⟩:=HT7.out.blk
  exact blk_ne HI7.out hB (by decide)
 have hFE:¬ gF=gE:=by
  obtain ⟨_,cs,hB⟩:=HT7.out.blk
  exact blk_ne hB HT7.out.p.ex (by decide)
 have hEF:¬ gE=gF:=fun e=>hFE e.symm
 have HNE:=Lib.hid hneE
 have HNF:=Lib.hid hneF
 clear hW7 hb7 f2 c2 s0 s1 s2 s3 hbw7 hneE hneF
 go_upto_region 10 with fail
 obtain ⟨W9,hW9⟩:∃ W,(W7.setCell ⟨gE,9,none⟩ (.int .i64 (sp+1))).setCell ⟨gF,n * 4+1,none⟩ (.int .i64 ((k:Int)+1))=W:=⟨_,rfl⟩
 rw [hW9]
 obtain ⟨M1,hM1⟩:∃ M,topM { m with steps:=m.steps+1 } fs { f with pc:=f.pc+1 }=M:=⟨_,rfl⟩
 have HX9:Hid (XM w0 C gE W9 M1 vv (.slice (some ⟨gF,0,none⟩) (fs.length+1) cap) qv (LS0 ++ [(lv,sv)]) avs):=Lib.hid (by
  obtain ⟨hT8,hv8⟩:=HT7.out.steps (m.steps+1)
  have:=hT8.pcS (m:={ m with steps:=m.steps+1 }) HM.out (hv8 HL7.out) (hv8 HS7.out) (f.pc+1)
  rw [HSP.out,hpc,HNN.out] at this
  rw [HSP.out,hpc] at hM1
  rw [← hW9,← hM1,HNN.out]
  exact this)
 have HI9:Hid (Blk W9 wq.heap.size 59 #[.int .i64 o,.int .i64 ia,.string is,.slice kA kn kc]):=Lib.hid (by
  rw [← hW9]
  exact (HI7.out.far (p:=⟨gE,9,none⟩) HNE.out _).far (p:=⟨gF,n * 4+1,none⟩) HNF.out _)
 have HMF:Hid (M1.frames=fs ++ [{ f with pc:=f.pc+1 }]):=Lib.hid (by rw [← hM1];rfl)
 have HGM:Hid (GoodM K M1):=Lib.hid (by
  rw [← hM1]
  exact HG.out.top HM.out rfl ((HG.out.last HM.out).pc _) rfl rfl)
 have HAE:Hid (actF C.c ins M1 fs { f with pc:=f.pc+1 }=actF C.c ins { m with steps:=m.steps+1 } fs { f with pc:=f.pc+1 }):=Lib.hid (by
  rw [← hM1]
  exact actF_frames C.c ins { m with steps:=m.steps+1 } _ fs _)
 rw [← HAE.out] at HR
 have HGA:Hid (GoodM (K+2) (actF C.c ins M1 fs { f with pc:=f.pc+1 }).1):=Lib.hid (HGM.out.act HGC.out HMF.out HGI.out.1)
 obtain ⟨⟨mr,er⟩,hmr⟩:∃ t,actF C.c ins M1 fs { f with pc:=f.pc+1 }=t:=⟨_,rfl⟩
 have HACT:Hid (∀ W,Below W9.heap.size W9 W→Calls Tryz.prog fid #[.pointer (some ⟨gE,0,none⟩),.agg #[.int .i64 o,.int .i64 ia,.string is,.slice kA kn kc]] W fun e w'=>e=.returned (.int .i64 er)∧∃ vv fv qv LS avs,XM w0 C gE w' mr vv fv qv LS avs):=Lib.hid fun W hb=>by
  have:=act_any (HX9.out.below hb) HMF.out HGM.out (by omega) HC.out HGC.out HPW.out HSE.out HML.out ins HGI.out _ HKV.out
  rw [HO.out,HFID.out,HIA.out,HIS.out,hmr] at this
  exact this
 rw [hmr] at HR HGA
 dsimp only at HR HGA
 have i9:=HI9.out.cell 0 _ rfl
 have j9:=HI9.out.cell 1 _ rfl
 have k9:=HI9.out.cell 2 _ rfl
 have l9:=HI9.out.cell 3 _ rfl
 have t9:W9.cell? ⟨gT,o,none⟩=some (.func (.func fid) #[] #[]):=(HX9.out.p.tb gT _ HTT.out).cell o _ HTAB.out
 clear hW9 hM1 hmr f7 e79 z79
 go_still_tail 7,(by kernel_rfl)
 change wpList _ _ _ _ _ W9.drew
 have HSM:Hid (SmallM mr):=Lib.hid (HGA.out.small (by omega))
 by_cases he:er=0
 ·subst he
  have HR2:Hid (stepF C.c m=countF mr):=Lib.hid (by rw [HR.out,if_neg (by simp)])
  go_wp2_with (first
   | (go_at_fn fid;((refine (HACT.out _ (below_drew _)).mono ?_);rintro e w10 ⟨rfl,v10,f10,q10,LS10,avs10,hx10⟩;have HCO:=Lib.hid (count_any hx10 HSM.out);clear hx10))
   | (go_at_call 27;((refine HCO.out.mono ?_);rintro e w11 ⟨rfl,v11,f11,LS11,hx11⟩;have HX11:=Lib.hid hx11;clear hx11)))
  go_returns
  rw [← HP.out,HR2.out]
  exact ⟨rfl,_,_,_,_,_,HX11.out⟩
 ·have he':(er != 0)=true:=by simpa using he
  have HR2:Hid (stepF C.c m=countF (failF mr er)):=Lib.hid (by rw [HR.out,if_pos he])
  have HSF:Hid (SmallM (failF mr er)):=Lib.hid ((HGA.out.fail er).small (by omega))
  clear he
  go_wp2_with (first
   | (go_at_fn fid;((refine (HACT.out _ (below_drew _)).mono ?_);rintro e w10 ⟨rfl,v10,f10,q10,LS10,avs10,hx10⟩;have HFA:=Lib.hid (fail_any hx10 er);clear hx10))
   | (go_at_call 39;((refine HFA.out.mono ?_);rintro e w11 ⟨rfl,hx11⟩;have HCO:=Lib.hid (count_any hx11 HSF.out);clear hx11))
   | (go_at_call 27;((refine HCO.out.mono ?_);rintro e w12 ⟨rfl,v12,f12,LS12,hx12⟩;have HX12:=Lib.hid hx12;clear hx12)))
  go_returns
  rw [← HP.out,HR2.out]
  exact ⟨rfl,_,_,_,_,_,HX12.out⟩
end
end Go.Proofs.YtmljohbialacfaaGreatDoor
