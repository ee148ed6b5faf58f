/- H11, H12 -/
import Derived.Test.YtekdhlfapejijaaGreatDoorPE45
set_option linter.unusedVariables false
set_option linter.unusedSimpArgs false
namespace Go.Proofs.YtekdhlfapejijaaGreatDoor
open Go.RowKit
set_option maxRecDepth 100000
attribute [local go_sem] zacZ
open Go.Proofs.Tryz
theorem blocksQ_snoc (avs:List Value) (a:Value):blocksQ (avs ++ [a])=blocksQ avs ++ a.ownBlock.toList:=by simp [blocksQ]
theorem EvM.push {w0 w w':World} {K:EvK} {C:EvC} {gv:Nat} {F:List Nat} {c:Nat} {s:EvS} {qv qv' rv:Value} {avs vs:List Value} {op:ByteArray} {args:List ValD} {base:Nat} (h:EvM w0 K C gv F c w s qv avs vs)
  (ho:w'.ownsRow w0.heap.size 60 2 qv' (s.reqs.length+1) (rowsQ avs s.reqs ++ [.string op,rv])) (hg:w.grownBy w' qv.ownBlock) (hr:ValsO w base rv args) (hb0:w0.heap.size≤base) (hnew:∀ g∈gv :: F,g<base) (hrl:s.reqs.length<32) (hra:args.length≤1000) :
  EvM w0 K C gv F c (w'.setCell ⟨K.gx,5,none⟩ qv') { s with reqs:=s.reqs ++ [⟨op,args⟩] } qv' (avs ++ [rv]) vs:=by
 have hck1:CK w w':=CK.own h.qrow (by decide) hg;have hx':Blk w' K.gx 95 _:=h.ex.grown hg (zagZ h.qrow h.ex (by decide));have hgS:=zamZ w' K.gx 5 qv';have hckS:CK w' (w'.setCell ⟨K.gx,5,none⟩ qv'):=CK.blk hx' (by decide) hgS;have hck:=hck1.trans hckS;have hqb:∀ g,qv.ownBlock=some g→w0.heap.size≤g∧∃ cs,Blk w g 60 cs:=fun g hg=>zakY h.qrow hg
 have hbel:Below w0.heap.size w0 w':=h.bel.grown hg h.bel.size (fun k hk=>(hqb k hk).1)
 have same:∀ (g:Nat) (t:TypeId) (cs:Array Value),Blk w g t cs→t≠60→t≠95→(w'.setCell ⟨K.gx,5,none⟩ qv').heap[g]? = w.heap[g]?:=fun g t cs hB h1 h2=>by
  have e1:=hg.block g hB.lt (fun e=>by obtain ⟨_,cs',hB'⟩:=hqb g e.symm;exact za7Y hB' hB (fun e=>h1 e.symm) rfl);have hB1:Blk w' g t cs:=e1.trans hB;exact (hgS.block g hB1.lt (fun e=>za7Y hB1 hx' h2 (by simpa using e))).trans e1
 have hrb:∀ g,rv.ownBlock=some g→base≤g∧∃ cs,Blk w g 22 cs:=fun g hg=>by obtain ⟨_,h1,_⟩:=hr;exact zakY h1 hg
 refine ⟨hbel.grown hgS hbel.size (fun k hk=>by injection hk with hk;have:=h.hx;omega),h.hx,h.hv,?_,?_,?_,?_,?_,h.vl,fun i a b=>(h.vv i a b).keep hck,fun g hm=>?_,fun g hm=>?_,by simp;omega,fun r hr=>(by
  rcases List.mem_append.1 hr with hr | hr
  ·exact h.rl.2 r hr
  ·simp only [List.mem_cons,List.not_mem_nil,or_false] at hr
   rw [hr];exact hra)⟩
 ·have:=hx'.set_ 5 qv'
  exact this
 ·exact zchY h.lo (fun g hg'=>by obtain ⟨_,cs,hB⟩:=zakY h.lo hg';exact same g _ cs hB (by decide) (by decide))
 ·refine ReqsO.snoc (h.rq.keep hck (fun g hm=>?_)) ?_
  ·obtain ⟨_,_,cs,hB⟩:=h.rq.mem g hm
   exact same g _ cs hB (by decide) (by decide)
  ·exact (hr.rebase hb0).keep hck (fun g hg'=>by obtain ⟨_,cs,hB⟩:=hrb g hg';exact same g _ cs hB (by decide) (by decide))
 ·rw [List.length_append,rowsQ_snoc h.rq.len]
  exact zaaY ho hgS (fun k hk=>by injection hk with hk;subst hk;exact zagZ ho hx' (by decide))
 ·exact (same gv _ _ h.vb (by decide) (by decide)).trans h.vb
 ·rw [blocksQ_snoc]
  intro hmm;rcases List.mem_append.1 hmm with h1 | h1
  ·exact h.qd g hm h1
  ·have:=hrb g (by simpa using h1)
   have:=hnew g hm
   omega
 ·have:=h.fb g hm
  have:=hg.size
  simp
  omega
theorem KX.req {gx gv base n size:Nat} {w w1 w':World} {v:Value} {xs:List Value} (h:KX gx gv w w1) (ho:w1.ownsRow base 60 size v n xs) (hg:w1.grownBy w' v.ownBlock):KX gx gv w w' :=
 h.trans ⟨hg.os,hg.tape,hg.output,hg.size,fun j o hj h1 h2 h3=>(hg.block j (lt_of_block hj) (fun e=>by
  obtain ⟨_,cs,hB⟩:=zakY ho e.symm;unfold Blk at hB;rw [hj] at hB;injection hB with hB
  exact h3 _ _ hB)).trans hj,CK.own ho (by decide) hg⟩
set_option maxHeartbeats 16000000 in
theorem ask_h {w0:World} {K:EvK} {C:EvC} (hH:EvH w0 K C) {gv:Nat} {F:List Nat} {c:Nat} {op:ByteArray} {args:List ValD} {av:Value} {s:EvS} {w:World} (h:EvX w0 K C gv F c w s) (ha:ValsV w av args) (hal:args.length≤600) :
  Calls prog 220 #[.pointer (some ⟨K.gx,0,none⟩),.string op,av] w (NodeP w0 K C gv F c w (askF C op args s)):=by
 obtain ⟨i1,hj,hy0,hy1,hy2⟩:=info_parts Tryz.infoVal;obtain ⟨j1,hjj,hz0,hz1,hz2⟩:=info_parts Tryz.infoReq;obtain ⟨R,hR⟩:∃ R,askF C op args s=R:=⟨_,rfl⟩
 rw [hR];obtain ⟨P,hP⟩:∃ P:Ending→World→Prop,NodeP w0 K C gv F c w R=P:=⟨_,rfl⟩
 rw [hP];have HP:=hZz hP;obtain ⟨qv,avs,vs,hm⟩:=h;obtain ⟨qA,qc,rfl⟩:=zaeZ hm.qrow;have HM:=hZz hm;have HRE:=hZz hR;have x4:=hm.ex.cell 5 _ rfl;obtain ⟨k,hk⟩:∃ k,s.reqs.length=k:=⟨_,rfl⟩
 have HKL:=hZz hk;have hrl:=hm.rl.1;rw [hk] at x4 hrl;by_cases h32:k=32
 ·subst h32
  have HR:Hid (R=(([],some (.fail 3)),s)):=hZz (by rw [← hR];unfold askF;rw [if_pos hk]);have hav:∃ A n cap,av=.slice A n cap:=by obtain ⟨A,cap,vs,e,_⟩:=ha.at;exact ⟨A,_,cap,e⟩
  obtain ⟨aA,an,ac,rfl⟩:=hav;clear hR hP hm hk ha;go_enter func220,ntmps220
  go_wp2_with (fail)
  rw [← HP.out,HR.out];exact ⟨.slice none 0 0,_,rfl,ValG.nil _ _,rfl,⟨_,_,_,HM.out⟩,KX.refl _ _ _⟩
 have d32:((k:Int) == 32)=false:=by simp;omega
 have HR0:Hid (R=((match C.answers[k]? with
  | none=>([],some .wait)
  | some a=>if a.err≠0 then ([],some (.fail a.err)) else if checkF a.value≠0 then ([],some (.fail 13)) else (a.value,none)),{ s with reqs:=s.reqs ++ [⟨op,args⟩] })):=hZz (by rw [← hR];unfold askF;rw [hk,if_neg h32];rfl)
 obtain ⟨W1,hW1⟩:∃ W,w.alloc (.cells #[.string op,.slice none 0 0] 60)=W:=⟨_,rfl⟩
 obtain ⟨gr,hgr⟩:∃ g,w.heap.size=g:=⟨_,rfl⟩
 have HB1:Hid (Below w.heap.size w W1):=hZz (by rw [← hW1];exact zabZ _ _);have HX1:Hid (Blk W1 gr 60 #[.string op,.slice none 0 0]):=hZz (by rw [← hW1,← hgr];exact Blk.new _ _ _);have HGR:=hZz hgr;have HW1:=hZz hW1;have HAV:=hZz ha;have HH:=hZz hH;obtain ⟨m,hmm⟩:∃ m,args.length=m:=⟨_,rfl⟩
 have HML:=hZz hmm;rw [hmm] at hal;have hav:∃ A cap,av=.slice A m cap:=by obtain ⟨A,cap,vs,e,_⟩:=ha.at;exact ⟨A,cap,by rw [e,hmm]⟩
 obtain ⟨aA,ac,rfl⟩:=hav
 have HF:Hid (∀ g∈gv :: F,g<w.heap.size):=hZz (fun g hg=>by
  rcases List.mem_cons.1 hg with rfl | hg
  ·exact hm.vb.lt
  ·exact hm.fb g hg)
 have HSZ:=hZz hm.bel.size;clear hR hP hm hk ha hW1 hgr hmm hH;go_enter func220,ntmps220
 go_upto_region 5 with fail
 rw [HGR.out,HW1.out];clear HW1;go_wp2_with (fail)
 go_loopw [11,25] (fun _ iv wr=>∃ (q:Nat) (A:Option Addr) (cap:Nat) (us:List Value),q≤m∧iv=.int .i64 q∧Hid (Blk wr gr 60 #[.string op,.slice A q cap])∧Hid (wr.ownsRow gr 22 1 (.slice A q cap) q us)∧Hid (us.length=q)∧Hid (∀ i (a:i<us.length) (b:i<args.length),ValT wr us[i] args[i])∧Hid (Below w.heap.size w wr)∧Hid (gr<wr.heap.size)) (fun _ iv _=>m - (intOf iv).toNat)
 case atStart=>exact ⟨0,none,0,[],Nat.zero_le _,rfl,HX1,hZz (World.ownsRow_nil _ _ _ _),hZz rfl,hZz (fun i h=>absurd h (by simp)),HB1,hZz HX1.out.lt⟩
 case round =>
  obtain ⟨q,A,cap,us,hq,rfl,HX,HO,HUL,HUV,HB,HLT⟩:=hrel;by_cases hlt:q<m
  ·have hlt':(q:Int)<(m:Int):=by omega
   have hq0:(0:Int)≤(q:Int):=by omega
   have hql:q<args.length:=by rw [HML.out];exact hlt
   obtain ⟨b,off,ac',e,hcell⟩:=za2Y HAV.out (by intro e;rw [e] at hql;simp at hql);rw [HML.out] at e;injection e with e1 _ e3
   subst e1 e3;obtain ⟨x,cx,hx⟩:=hcell q hql;obtain ⟨xA,xn,xc,rfl⟩:=hx.shape
   replace cx:=(HB.out.cell (p:=⟨b,off+q,none⟩) (bLZ cx)).trans cx
   have hxl:args[q].length≤3518437208780:=by obtain ⟨_,_,_,_,h3,_⟩:=hx.at;exact h3
   have hxe:xn=args[q].length:=by obtain ⟨_,_,e,_⟩:=hx.at;injection e
   have HCL:=hZz (zbsY args[q] _ wr.drew ((hx.below HB.out).below (zafZ wr)));have HXL:=hZz hxl;clear hcell hx hxl;go_upto_region 8 with fail
   have o0:=HX.out.cell 1 _ rfl;subst hxe;obtain ⟨y,hy⟩:∃ y,args[q]=y:=⟨_,rfl⟩
   have HY:=hZz hy;rw [hy] at HCL HXL;rw [hy];clear hy
   go_region_law (first
    | (go_simp;go_at_call 72;(refine HCL.out.mono ?_);rintro e1 w1 ⟨v1,rfl,ho1,hb1⟩;obtain ⟨A1,c1,rfl⟩:=zaeZ (show w1.ownsRow wr.drew.heap.size 53 4 v1 y.length _ from ho1);have HV1:=hZz ho1;have HB2:=hZz (zadZ hb1 (zafZ wr));have HG1:=hZz (HX.out.below HB2.out);have o1:=HG1.out.cell 1 _ rfl;have HOA:=hZz (zajZ HO.out (zadZ (zabZ w1 (.cells #[.slice A1 y.length c1] 22)) HB2.out));have HGA:=hZz (HG1.out.alloc (.cells #[.slice A1 y.length c1] 22));have hsz:gr≤(w1.alloc (.cells #[.slice A1 y.length c1] 22)).heap.size:=Nat.le_trans (Nat.le_of_lt HLT.out) (Nat.le_trans HB2.out.size (by simp));clear ho1 hb1)
    | (rw [if_pos (by rfl)];refine wp_append_lies _ (.tmp 30) (.tmp 33) 31 rfl gr 22 i1 _ 1 24 underlying31 hj hy0 hy1 hy2 rfl ?k1 _ q _ rfl HOA.out ⟨w1.heap.size,0,none⟩ 1 1 [.slice A1 y.length c1] rfl rfl (za3Y w1 _ _) ?k2 ?k3 ?k4 ?k5 ?k6 _ rfl ?_;(case k1=>decide);(case k2=>simp [Value.oneCell']);(case k3=>decide);(case k4=>(unfold maxLen;omega));(case k5=>omega);(case k6=>exact hsz);intro g6 cap6 w6 hown6 hgr6 _ _;have HG6:=hZz (HGA.out.grown hgr6 (zagZ HOA.out HGA.out (by decide)));have z6:=HG6.out.frozen 1;have o6:=HG6.out.cell 1 _ rfl;have HO6:=hZz hown6;have HGRW:=hZz hgr6;clear hown6 hgr6))
   all_goals
    go_wp2_with (fail)
    have hgS:=zamZ w6 gr 1 (.slice (some ⟨g6,0,none⟩) (q+1) cap6);have hckA:CK wr (w1.alloc (.cells #[.slice A1 y.length c1] 22)):=CK.of_below (zadZ (zabZ w1 _) HB2.out);have hck6:=CK.own HOA.out (by decide) HGRW.out;have hckS:CK w6 (w6.setCell ⟨gr,1,none⟩ (.slice (some ⟨g6,0,none⟩) (q+1) cap6)):=CK.blk HG6.out (by decide) hgS;have hx1:ValT w1 (.slice A1 y.length c1) y:=OVal.valT HV1.out HXL.out;have hbA:Below w.heap.size w (w1.alloc (.cells #[.slice A1 y.length c1] 22)):=zaaZ (zadZ (zabZ w1 _) HB2.out) HB.out HB.out.size;refine ⟨⟨q+1,some ⟨g6,0,none⟩,cap6,us ++ [.slice A1 y.length c1],by omega,by simp,hZz (HG6.out.set_ 1 _),hZz ?_,hZz (by rw [List.length_append,HUL.out,List.length_singleton]),hZz (fun i a b=>?_),hZz ?_,hZz ?_⟩,by simp [intOf];omega⟩
    ·exact zaaY HO6.out hgS (fun k hk=>by injection hk with hk;subst hk;exact zagZ HO6.out HG6.out (by decide))
    ·have hck:CK wr (w6.setCell ⟨gr,1,none⟩ (.slice (some ⟨g6,0,none⟩) (q+1) cap6)):=(hckA.trans hck6).trans hckS
     by_cases hi:i<us.length
     ·rw [List.getElem_append_left hi]
      exact (HUV.out i hi b).keep hck
     ·have e:i=us.length:=by simp at a;omega
      subst e;rw [List.getElem_append_right (by omega)];have e2:args[us.length]=y:=by rw [← HY.out];first | (congr 1;exact HUL.out) | congr 1
      rw [e2];simpa using ((hx1.below (zabZ w1 (.cells #[.slice A1 y.length c1] 22))).keep hck6).keep hckS
    ·have h1:=HGR.out
     refine (hbA.grown HGRW.out hbA.size (fun j hj=>?_)).grown hgS (Nat.le_trans hbA.size HGRW.out.size) (fun j hj=>by injection hj with hj;omega)
     have:=(HOA.out.lt j hj).1
     omega
    ·exact (HG6.out.set_ 1 _).lt
  ·have e:q=m:=by omega
   subst e;have HMr:=hZz (HM.out.below HB.out);have x4:=HMr.out.ex.cell 5 _ rfl;rw [HKL.out] at x4;have r0:=HX.out.cell 0 _ rfl;have r1:=HX.out.cell 1 _ rfl;have hba:Below wr.heap.size wr (wr.alloc (.cells #[.string op,.slice A q cap] 60)).drew:=(zabZ wr _).trans (Below.refl _ _).drew;have HBA:=hZz hba;have HMa:=hZz (HMr.out.below hba);have HOQ:Hid ((wr.alloc (.cells #[.string op,.slice A q cap] 60)).drew.ownsRow w0.heap.size 60 2 (.slice qA k qc) k (rowsQ avs s.reqs)):=hZz (by have:=HMa.out.qrow;rw [HKL.out] at this;exact this);have hsz:w0.heap.size≤(wr.alloc (.cells #[.string op,.slice A q cap] 60)).drew.heap.size:=HMa.out.bel.size;clear hba;go_upto_region 10 with fail
   go_region_law (rw [if_pos (by rfl)];refine wp_append_lies _ (.tmp 41) (.tmp 43) 42 rfl w0.heap.size 60 j1 _ 2 40 underlying42 hjj hz0 hz1 hz2 rfl ?k1 _ k _ rfl HOQ.out ⟨wr.heap.size,0,none⟩ 1 1 [.string op,.slice A q cap] rfl rfl (za3Y wr _ 60) ?k2 ?k3 ?k4 ?k5 ?k6 _ rfl ?_;(case k1=>decide);(case k2=>simp [Value.oneCell']);(case k3=>decide);(case k4=>(unfold maxLen;omega));(case k5=>omega);(case k6=>exact hsz);intro g6 cap6 w6 hown6 hgr6 _ _;have HX6:=hZz (HMa.out.ex.grown hgr6 (zagZ HOQ.out HMa.out.ex (by decide)));have z6:=HX6.out.frozen 5;have x6:=HX6.out.cell 5 _ rfl;have HO6:=hZz hown6;have HGRW:=hZz hgr6;clear hown6 hgr6)
   all_goals
    obtain ⟨w7,hw7⟩:∃ W,w6.setCell ⟨K.gx,5,none⟩ (.slice (some ⟨g6,0,none⟩) (k+1) cap6)=W:=⟨_,rfl⟩
    obtain ⟨s7,hs7⟩:∃ s7:EvS,{ s with reqs:=s.reqs ++ [⟨op,args⟩] }=s7:=⟨_,rfl⟩
    have HM7:Hid (EvM w0 K C gv F c w7 s7 (.slice (some ⟨g6,0,none⟩) (k+1) cap6) (avs ++ [.slice A q cap]) vs):=hZz (by
     rw [← hw7,← hs7];refine HMa.out.push (base:=gr) (by rw [HKL.out];exact HO6.out) (by rw [HKL.out];exact HGRW.out) ⟨us,?_,by rw [HUL.out,HML.out],fun i a b=>(HUV.out i a b).below HBA.out⟩ (by have:=HSZ.out;have:=HGR.out;omega) (fun g hg=>by have:=HF.out g hg;have:=HGR.out;omega) (by have:=HKL.out;omega) (by have:=HML.out;omega)
     rw [HML.out];exact zajZ HO.out HBA.out)
    have HK7:Hid (KX K.gx gv w w7):=hZz (by
     rw [← hw7];exact ((KX.of_below (zaaZ HBA.out HB.out HB.out.size)).req HOQ.out HGRW.out).trans (KX.set HX6.out (by decide) (.inl rfl) 5 _))
    have HR7:Hid (R=((match C.answers[k]? with
     | none=>([],some .wait)
     | some a=>if a.err≠0 then ([],some (.fail a.err)) else if checkF a.value≠0 then ([],some (.fail 13)) else (a.value,none)),s7)):=hZz (by rw [← hs7];exact HR0.out)
    rw [hw7];clear hw7 hs7 x6 z6 HX6 HO6 HGRW HOQ hsz HMa HBA r0 r1 x4 HMr HR0;have y4:=HM7.out.ex.cell 4 _ rfl;cases ha:C.answers[k]? with
    | none =>
     have HR:Hid (R=(([],some .wait),s7)):=hZz (by rw [HR7.out,ha]);have hle:=List.getElem?_eq_none_iff.1 ha;have dl:decide (C.answers.length≤k)=true:=decide_eq_true hle;generalize C.answers.length=na at y4 dl hle;clear ha;go_wp2_with (fail)
     rw [← HP.out,HR.out];exact ⟨.slice none 0 0,_,rfl,ValG.nil _ _,rfl,⟨_,_,_,HM7.out⟩,HK7.out⟩
    | some a =>
     obtain ⟨hkl,hae⟩:=List.getElem?_eq_some_iff.1 ha;obtain ⟨_,hcap,b,off,av,hA,hb,c0,c1,hv⟩:=ans_cells HH.out.an hkl;rw [hae] at c0 hv
     replace c0:=(HM7.out.bel.cell hb).trans c0
     replace c1:=(HM7.out.bel.cell hb).trans c1
     have HOK:=hZz (HH.out.aok a (by rw [← hae];exact List.getElem_mem hkl));have HVV:=hZz hv;obtain ⟨vA,vn,vc,rfl⟩:=hv.shape;rw [hA] at y4;have dl:decide (C.answers.length≤k)=false:=decide_eq_false (by omega);have dk:(k:Int)<(C.answers.length:Int):=by omega
     have dk0:(0:Int)≤(k:Int):=by omega
     generalize C.answers.length=na at y4 dl dk;by_cases he:a.err=0
     ·have e0:(a.err != 0)=false:=by simp [he]
      rw [he] at c0
      have HCK:Hid (Calls prog 30 #[.slice (some ⟨w7.heap.size,0,none⟩) 1 1] (w7.alloc (.cells #[.slice vA vn vc] 22)) fun e w'=>e=.returned (.int .i64 (checkF a.value))∧Below w7.heap.size w7 w'):=hZz (by
       have:=zahY [a.value] _ (w7.alloc (.cells #[.slice vA vn vc] 22)) (vals1 (Blk.new _ _ _) ((HVV.out.below HM7.out.bel).below (zabZ _ _))) ((HH.out.pow.below HM7.out.bel).below (zabZ _ _)) (by intro x hx;simp only [List.mem_cons,List.not_mem_nil,or_false] at hx;rw [hx];exact HOK.out)
       rw [zbwY] at this;exact this.mono fun e w' ⟨he,hb⟩=>⟨he,zadZ hb (zabZ _ _)⟩)
      obtain ⟨ck,hck⟩:∃ x,checkF a.value=x:=⟨_,rfl⟩
      have HCE:=hZz hck;rw [hck] at HCK;have HBB:=hZz hb;have HC1:=hZz c1;by_cases h0:ck=0
      ·subst h0
       have HR:Hid (R=((a.value,none),s7)):=hZz (by rw [HR7.out,ha];simp only;rw [if_neg (by rw [he];simp),if_neg (by rw [hck];simp)]);have HY4:=hZz y4;clear ha hae hA hb hcap hv hkl hck he HR7
       go_wp2_with (first
        | (go_at_call 30;((with_reducible refine HCK.out.mono ?_);rintro e w8 ⟨rfl,hb8⟩;have HB8:=hZz hb8;have c8:=(hb8.cell (bLZ HC1.out)).trans HC1.out;have y8:=(hb8.cell (bLZ HY4.out)).trans HY4.out;clear hb8)))
       rw [← HP.out,HR.out];exact ⟨_,_,rfl,⟨.inl HVV.out,.inr HCE.out⟩,rfl,⟨_,_,_,HM7.out.below HB8.out⟩,HK7.out.trans (KX.of_below HB8.out)⟩
      ·have HR:Hid (R=(([],some (.fail 13)),s7)):=hZz (by rw [HR7.out,ha];simp only;rw [if_neg (by rw [he];simp),if_pos (by rw [hck];exact h0)])
       have c0':(ck != 0)=true:=by simp [h0]
       clear ha hae hA hb hcap hv hkl hck he HR7 h0
       go_wp2_with (first
        | (go_at_call 30;((with_reducible refine HCK.out.mono ?_);rintro e w8 ⟨rfl,hb8⟩;have HB8:=hZz hb8;clear hb8)))
       rw [← HP.out,HR.out];exact ⟨.slice none 0 0,_,rfl,ValG.nil _ _,rfl,⟨_,_,_,HM7.out.below HB8.out⟩,HK7.out.trans (KX.of_below HB8.out)⟩
     ·have HR:Hid (R=(([],some (.fail a.err)),s7)):=hZz (by rw [HR7.out,ha];simp only;rw [if_pos he])
      have e0:(a.err != 0)=true:=by simp [he]
      generalize a.err=ae at c0 e0 HR;clear ha hae hA hb hcap hv hkl he HR7;go_upto_region 14 with fail
      go_quiet (fail);go_wp2_with (fail)
      rw [← HP.out,HR.out];have hbq:Below w7.heap.size w7 (w7.drewN nq):=zaqZ (Below.refl _ _) nq;exact ⟨.slice none 0 0,_,rfl,ValG.nil _ _,rfl,⟨_,_,_,HM7.out.below hbq⟩,HK7.out.trans (KX.of_below hbq)⟩
theorem Tryz.szVal:(prog.info? 22).map (·.size)=some 1:=by kernel_rfl
theorem mk_valsL (n:Nat) (hn:n≤4100) (w:World):(Instr.makeSlice 31 (.int .i64 n) (.int .i64 n)).run prog w=.ok (.slice (some ⟨w.heap.size,0,none⟩) n n) (w.alloc (.cells (List.replicate n (Value.slice none 0 0)).toArray 22)):=by
 obtain ⟨i0,hi,hz0,hz1,hz2⟩:=info_parts Tryz.infoVal;have h:=run_makeSlice (P:=prog) w 31 22 i0 _ underlying31 hi hz0 .i64 .i64 n n (by omega) (by omega) (by rw [hz1];omega) (by rw [hz2];omega) (by omega);rw [hz1] at h;rw [Int.toNat_natCast] at h
 have e:madeCells (Value.slice none 0 0).cells (n * 1)=(List.replicate n (Value.slice none 0 0)).toArray:=by
  rw [Nat.mul_one]
  have:=made_rep (.slice none 0 0) n
  simpa [Value.cells] using this
 rw [e] at h;simpa using h
theorem valG_null (w0 w:World) {g:Nat} (h:Blk w g 53 #[.int .i64 1,.int .i64 0,.string ⟨#[]⟩,.int .i64 0]):ValG w0 w (.slice (some ⟨g,0,none⟩) 1 1) [nulC] :=
 valG_t ⟨zaiY (c:=nulC) h,fun b off n cap e _=>by
  injection e with e _ _
  injection e with e
  injection e with e _
  subst e;exact ⟨_,_,h⟩⟩ (.inr check_nul)
theorem splice_vars (us:List Value) (L m:Nat) (hm:us.length=m):splice (List.replicate L (Value.slice none 0 0)) 0 (us.take L)=us.take L ++ List.replicate (L - m) (Value.slice none 0 0):=by
 unfold splice;rw [List.take_zero,List.nil_append,List.drop_replicate];congr 2
 rw [List.length_take];omega
theorem vars_val {w0 w:World} {us:List Value} {args:List ValD} {L:Nat} (hl:us.length=args.length) (hv:∀ i (a:i<us.length) (b:i<args.length),ValG w0 w us[i] args[i]) :
  ∀ i (a:i<(us.take L ++ List.replicate (L - us.length) (Value.slice none 0 0)).length) (b:i<(varsF L args).length),ValG w0 w (us.take L ++ List.replicate (L - us.length) (Value.slice none 0 0))[i] (varsF L args)[i]:=by
 intro i a b;unfold varsF at b ⊢;by_cases hi:i<(us.take L).length
 ·have hi2:i<(args.take L).length:=by rw [List.length_take] at hi ⊢;omega
  rw [List.getElem_append_left hi,List.getElem_append_left hi2,List.getElem_take,List.getElem_take];rw [List.length_take] at hi;exact hv i (by omega) (by omega)
 ·have hi2:¬ i<(args.take L).length:=by rw [List.length_take] at hi ⊢;omega
  rw [List.getElem_append_right (by omega),List.getElem_append_right (by omega),List.getElem_replicate,List.getElem_replicate];exact ValG.nil w0 w
set_option maxHeartbeats 16000000 in
theorem call_h {fB:Nat} {w0:World} {K:EvK} {C:EvC} (hH:EvH w0 K C) {N:Nat→EvN} {c:Nat} (hN:c≠16→NodeOk w0 K C (N (c+1)) (c+1) fB) (hD:DownN (N (c+1))) {gv:Nat} {F:List Nat} {f base:Nat} {args:List ValD} {av:Value} {s:EvS} {w:World} {R} (h:EvX w0 K C gv F c w s) (hf:f<C.p.funcs.length) (ha:RowG w0 base w av args) (hal:args.length≤600) (hfu:s.fuel≤fB) (hc:c≤16) (hR:callF C N c f args s=some R) :
  Calls prog 71 #[.pointer (some ⟨K.gx,0,none⟩),.int .i64 f,av] w (NodeP w0 K C gv F c w R):=by
 obtain ⟨P,hP⟩:∃ P:Ending→World→Prop,NodeP w0 K C gv F c w R=P:=⟨_,rfl⟩
 rw [hP];have HP:=hZz hP;obtain ⟨us,hao,hul,huv⟩:=ha;obtain ⟨aA,ac,rfl⟩:=zaeZ hao;obtain ⟨qv,avs,vs,hm⟩:=h;have HM:=hZz hm;have x7:=hm.ex.cell 7 _ rfl;unfold callF at hR;by_cases h16:c=16
 ·subst h16
  have HR:Hid (R=(([],some (.fail 21)),s)):=hZz (by rw [if_pos rfl] at hR;cases hR;rfl);generalize args.length=am;clear hP hm hR hao huv hul;go_enter func71,ntmps71
  go_wp2_with (fail)
  rw [← HP.out,HR.out];exact ⟨.slice none 0 0,_,rfl,ValG.nil _ _,rfl,⟨_,_,_,HM.out⟩,KX.refl _ _ _⟩
 rw [if_neg h16] at hR;have d16:((c:Int) == 16)=false:=by simp;omega
 have hcI:(c:Int)≤16:=by omega
 have hc0:(0:Int)≤(c:Int):=by omega
 have hfl:f<C.locals.length:=by rw [hH.llen];exact hf
 obtain ⟨fn,hfn⟩:∃ fn,C.p.funcs[f]? = some fn:=⟨_,List.getElem?_eq_getElem hf⟩
 obtain ⟨LI,hLI⟩:∃ L,C.locals[f]? = some L:=⟨_,List.getElem?_eq_getElem hfl⟩
 rw [hfn,hLI] at hR;simp only at hR;have hlb:=hH.lbd LI (List.mem_of_getElem? hLI);obtain ⟨L,rfl⟩:∃ L:Nat,LI=(L:Int):=⟨LI.toNat,by omega⟩
 rw [Int.toNat_natCast] at hR;have hbd:=hH.bodies fn (List.mem_of_getElem? hfn);obtain ⟨bd,hbe⟩:∃ b:Nat,fn.body=(b:Int):=⟨fn.body.toNat,by omega⟩
 rw [hbe,Int.toNat_natCast] at hR;rw [hbe] at hbd;cases hQ:N (c+1) bd { s with vars:=varsF L args } with
 | none=>rw [hQ] at hR;cases hR
 | some Q =>
  rw [hQ] at hR
  -- where the locals and the functions lie
  obtain ⟨lg,lcap,el,elx,ely⟩:=hm.lo.form (by omega);injection el with el el1 el2
  clear el1 el2 elx ely;have x3:=hm.ex.cell 3 _ rfl;rw [el] at x3
  have HCL:Hid (∀ wx,EvM w0 K C gv F c wx s qv avs vs→wx.cell? ⟨lg,f,none⟩=some (.int .i64 (L:Nat))):=hZz (fun wx hx=>by
   have:=hx.lo.cells (g:=lg) (by rw [el];rfl) f (.int .i64 (L:Nat)) (by rw [List.getElem?_map,hLI];rfl)
   rwa [zanY,Nat.zero_add] at this)
  have cl:=HCL.out w hm;have hkf:f<K.S.p.funcs.length:=by rw [hH.p];exact hf
  obtain ⟨fb,fo,kA,kc,hfA,hfb,f0,f1,f2,hfk⟩:=zcnY hH.prog.funcs hkf
  have hfe:K.S.p.funcs[f]=fn:=by
   have:=(List.getElem?_eq_some_iff.1 hfn).2
   rw [← this];congr 1
   rw [hH.p]
  rw [hfe,hbe] at f2;have HF2:=hZz f2;have HFB:=hZz hfb;have HFA:=hZz hfA
  -- the worlds
  obtain ⟨W1,hW1⟩:∃ W,w.alloc (.cells (Array.replicate L (Value.slice none 0 0)) 22)=W:=⟨_,rfl⟩
  obtain ⟨g,hg⟩:∃ g,w.heap.size=g:=⟨_,rfl⟩
  have hb1:Below w.heap.size w W1:=by rw [← hW1];exact zabZ _ _
  have hX1:Blk W1 g 22 (List.replicate L (Value.slice none 0 0)).toArray:=by
   have e:(List.replicate L (Value.slice none 0 0)).toArray=Array.replicate L (Value.slice none 0 0):=by simp
   rw [e,← hW1,← hg];exact Blk.new _ _ _
  have hmk:∀ wx,(Instr.makeSlice 31 (.int .i64 L) (.int .i64 L)).run prog wx=_:=fun wx=>mk_valsL L (by omega) wx
  have HAO:=hZz hao;have HUL:=hZz hul;have HUV:=hZz huv;have HB1:=hZz hb1;have HX1:=hZz hX1;have HG:=hZz hg;have HW1:=hZz hW1
  have HC1:Hid (∀ wx,EvX w0 K C g (gv :: F) (c+1) wx { s with vars:=varsF L args }→Calls prog 116 #[.pointer (some ⟨K.gx,0,none⟩),.int .i64 bd,.slice (some ⟨g,0,none⟩) L L] wx (NodeP w0 K C g (gv :: F) (c+1) wx Q)):=hZz (fun wx hx=>by
   have:=hN h16 g (gv :: F) bd _ wx Q hx (by omega) hfu (by rw [varsF_len];omega) hQ
   rw [varsF_len] at this;exact this)
  have HFL:Hid (L≤608):=hZz (by omega);have hNN:(f:Int)<(C.locals.length:Int):=by omega
  have hNF:(f:Int)<(K.S.p.funcs.length:Int):=by omega
  have hf0:(0:Int)≤(f:Int):=by omega
  obtain ⟨am,ham⟩:∃ m,args.length=m:=⟨_,rfl⟩
  have HAM:=hZz ham;rw [ham] at HAO hal ⊢
  have H1C:Hid (∀ v∈us.take L,v.oneCell'=true):=hZz (fun v hv=>by
   obtain ⟨j,hj,e⟩:=mem_get (List.mem_of_mem_take hv);obtain ⟨A,n,cap,e2⟩:=(huv j hj (by omega)).shape;rw [← e,e2];rfl)
  have HPOS:Hid (0<(us.take L).length→∃ ad,aA=some ad∧∀ j v,(us.take L)[j]? = some v→W1.cell? (ad.add j)=some v):=hZz (fun hp=>by
   rw [List.length_take] at hp;obtain ⟨ag,acap,ea,_,_⟩:=HAO.out.form (by omega);injection ea with ea _ _
   refine ⟨_,ea,fun j v hj=>?_⟩
   have hj2:us[j]? = some v:=by
    rw [List.getElem?_take] at hj;split at hj
    ·exact hj
    ·cases hj
   have:=HAO.out.cells (g:=ag) (by rw [ea];rfl) j v hj2
   rw [zanY] at this ⊢;exact (hb1.cell (bLZ this)).trans this)
  have HVARS:Hid (∀ w2,Below w.heap.size w w2→∀ i (a:i<(us.take L ++ List.replicate (L - am) (Value.slice none 0 0)).length) (b:i<(varsF L args).length),ValG w0 w2 (us.take L ++ List.replicate (L - am) (Value.slice none 0 0))[i] (varsF L args)[i]):=hZz (fun w2 hb2=>by
   have:=vars_val (L:=L) hul (fun i a b=>(huv i a b).below hb2)
   rw [hul,ham] at this;exact this)
  have HVL:Hid ((us.take L ++ List.replicate (L - am) (Value.slice none 0 0)).length=(varsF L args).length):=hZz (by rw [varsF_len,List.length_append,List.length_take,List.length_replicate];omega);have HSP:=hZz (splice_vars us L am (by rw [hul,ham]));have HLN:Hid ((us.take L).length=Nat.min am L):=hZz (by rw [List.length_take,hul,ham];exact Nat.min_comm _ _);have HSZ:=hZz hm.bel.size;have HLC:Hid (C.locals.length≤K.lc):=hZz (own_le hm.lo);clear hfk hP hm hQ hao hul huv hH hN hD hbd hfn hLI hlb hfl hfu hW1 hg hb1 hX1 f0 f1 f2 hfb hfA hkf hfe hf ham hbe h16;go_enter func71,ntmps71
  go_upto_region 4 with fail
  rw [HG.out,HW1.out];clear HW1 cl x3;go_upto_region 6 with ((refine wpList_copy_splice rfl (.tmp 29) (.tmp 30) 31 31 rfl 22 underlying31 Tryz.szVal _ _ L L am ac rfl rfl g 0 (List.replicate L (Value.slice none 0 0)) 22 HX1.out (us.take L) HLN.out (fun h=>⟨rfl,HPOS.out h⟩) (by rw [List.length_replicate,HLN.out,Nat.zero_add];exact Nat.min_le_right _ _) H1C.out w.heap.size w HB1.out (Nat.le_of_eq HG.out) ?_);intro w2 hg2 hb2;have HB2:=hZz hb2;have HX2:=hZz hg2;have HMX:=hZz (HM.out.below HB2.out);have x7:=HMX.out.ex.cell 7 _ rfl;have z7:=HMX.out.ex.frozen 7;clear hg2 hb2)
  clear x7 z7;have ec:((c+1:Nat):Int)=(c:Int)+1:=by omega
  have HXB:Hid (Blk w2 g 22 (us.take L ++ List.replicate (L - am) (Value.slice none 0 0)).toArray):=hZz (by have:=HX2.out;rw [HSP.out] at this;exact this);have HM2:Hid (EvM w0 K C g (gv :: F) c w2 { s with vars:=varsF L args } (.slice none 0 0) avs (us.take L ++ List.replicate (L - am) (Value.slice none 0 0))∨True):=hZz (.inr trivial);obtain ⟨s2,hs2⟩:∃ s2:EvS,{ s with vars:=varsF L args }=s2:=⟨_,rfl⟩
  have HME:Hid (EvM w0 K C g (gv :: F) c w2 s2 qv avs (us.take L ++ List.replicate (L - am) (Value.slice none 0 0))):=hZz (by rw [← hs2];exact HM.out.enter HB2.out (Nat.le_of_eq HG.out) HXB.out HVL.out (HVARS.out w2 HB2.out));obtain ⟨w3,hw3⟩:∃ W,w2.setCell ⟨K.gx,7,none⟩ (.int .i64 ((c:Int)+1))=W:=⟨_,rfl⟩
  have HM3:Hid (EvM w0 K C g (gv :: F) (c+1) w3 s2 qv avs (us.take L ++ List.replicate (L - am) (Value.slice none 0 0))):=hZz (by rw [← hw3,← ec];exact HME.out.setCalls (c+1));have HK3:Hid (KX K.gx g w w3):=hZz (by rw [← hw3];exact (KX.of_below HB2.out).trans (KX.set HME.out.ex (by decide) (.inl rfl) 7 _));rw [hs2] at HC1;rw [hw3];have x1:=HM3.out.ex.cell 1 _ rfl;rw [HFA.out] at x1;have f2:=(HM3.out.bel.cell HFB.out).trans HF2.out;have HC3:=hZz (HC1.out w3 ⟨_,_,_,HM3.out⟩);clear hw3 HC1 HM2 hs2 hmk;obtain ⟨⟨v,sg⟩,t⟩:=Q;cases sg with
  | none =>
   have HR:Hid (R=(([nulC],none),{ t with vars:=s.vars })):=hZz (by cases hR;rfl);have heq:=fun w=>ifn_eq w
   clear hR
   go_upto_region 7 with (first
    | (go_at_call 116;((with_reducible refine HC3.out.mono ?_);rintro e w4 ⟨u,sv,rfl,hu,hsv,hx,hkx⟩;(have hsv':sv=.nilIface:=hsv);subst hsv';obtain ⟨qv4,avs4,vs4,hm4⟩:=hx;have HM4:=hZz hm4;have HK4:=hZz (HK3.out.trans hkx);have x7:=hm4.ex.cell 7 _ rfl;have z7:=hm4.ex.frozen 7;rw [ec] at x7;clear hsv hm4 hkx hu)))
   go_upto_region 8 with fail
   clear x7 z7;obtain ⟨w5,hw5⟩:∃ W,w4.setCell ⟨K.gx,7,none⟩ (.int .i64 (c:Int))=W:=⟨_,rfl⟩
   have HM5:Hid (EvM w0 K C g (gv :: F) c w5 t qv4 avs4 vs4):=hZz (by rw [← hw5];exact HM4.out.setCalls c);have HK5:Hid (KX K.gx g w w5):=hZz (by rw [← hw5];exact HK4.out.trans (KX.set HM4.out.ex (by decide) (.inl rfl) 7 _));have HL5:=hZz (HM.out.leave HM5.out HK5.out (Nat.le_of_eq HG.out));rw [hw5];clear hw5;have HNU:=hZz (vnull_any w5)
   go_wp2_with (first
    | (go_at_call 102;((with_reducible refine HNU.out.mono ?_);rintro e w6 ⟨rfl,hw6⟩;have HW6:=hZz hw6;clear hw6)))
   have hb6:Below w5.heap.size w5 w6:=by rw [HW6.out];exact zabZ _ _
   rw [← HP.out,HR.out];refine ⟨_,_,rfl,valG_null w0 w6 (by rw [HW6.out];exact Blk.new _ _ _),rfl,⟨_,_,_,HL5.out.below hb6⟩,?_⟩
   exact (HK5.out.call (Below.refl _ _) (Nat.le_of_eq HG.out)).trans (KX.of_below hb6)
  | some sg =>
   have heq:∀ (T:TypeId) (pv:Value) (w:World),(Go.binOp .eql 100 (.iface T pv) .nilIface).run prog w=.ok (.bool false) w:=fun T pv w=>ifc_eq T pv w
   cases sg with
   | fail er =>
    have HR:Hid (R=(([],some (.fail er)),{ t with vars:=s.vars })):=hZz (by cases hR;rfl);have has:=fun u w=>as_ret_fail u w
    clear hR
    go_upto_region 7 with (first
     | (go_at_call 116;((with_reducible refine HC3.out.mono ?_);rintro e w4 ⟨u,sv,rfl,hu,hsv,hx,hkx⟩;(have hsv':sv=.iface 104 (.agg #[.int .i64 er]):=hsv);subst hsv';obtain ⟨qv4,avs4,vs4,hm4⟩:=hx;have HM4:=hZz hm4;have HK4:=hZz (HK3.out.trans hkx);have x7:=hm4.ex.cell 7 _ rfl;have z7:=hm4.ex.frozen 7;rw [ec] at x7;clear hsv hm4 hkx hu)))
    go_upto_region 8 with fail
    clear x7 z7;obtain ⟨w5,hw5⟩:∃ W,w4.setCell ⟨K.gx,7,none⟩ (.int .i64 (c:Int))=W:=⟨_,rfl⟩
    have HM5:Hid (EvM w0 K C g (gv :: F) c w5 t qv4 avs4 vs4):=hZz (by rw [← hw5];exact HM4.out.setCalls c);have HK5:Hid (KX K.gx g w w5):=hZz (by rw [← hw5];exact HK4.out.trans (KX.set HM4.out.ex (by decide) (.inl rfl) 7 _));have HL5:=hZz (HM.out.leave HM5.out HK5.out (Nat.le_of_eq HG.out));rw [hw5];clear hw5;go_wp2_with (fail)
    rw [← HP.out,HR.out];exact ⟨.slice none 0 0,_,rfl,ValG.nil _ _,rfl,⟨_,_,_,HL5.out⟩,HK5.out.call (Below.refl _ _) (Nat.le_of_eq HG.out)⟩
   | wait =>
    have HR:Hid (R=(([],some .wait),{ t with vars:=s.vars })):=hZz (by cases hR;rfl);have has:=fun u w=>as_ret_wait u w
    clear hR
    go_upto_region 7 with (first
     | (go_at_call 116;((with_reducible refine HC3.out.mono ?_);rintro e w4 ⟨u,sv,rfl,hu,hsv,hx,hkx⟩;(have hsv':sv=.iface 106 (.agg #[]):=hsv);subst hsv';obtain ⟨qv4,avs4,vs4,hm4⟩:=hx;have HM4:=hZz hm4;have HK4:=hZz (HK3.out.trans hkx);have x7:=hm4.ex.cell 7 _ rfl;have z7:=hm4.ex.frozen 7;rw [ec] at x7;clear hsv hm4 hkx hu)))
    go_upto_region 8 with fail
    clear x7 z7;obtain ⟨w5,hw5⟩:∃ W,w4.setCell ⟨K.gx,7,none⟩ (.int .i64 (c:Int))=W:=⟨_,rfl⟩
    have HM5:Hid (EvM w0 K C g (gv :: F) c w5 t qv4 avs4 vs4):=hZz (by rw [← hw5];exact HM4.out.setCalls c);have HK5:Hid (KX K.gx g w w5):=hZz (by rw [← hw5];exact HK4.out.trans (KX.set HM4.out.ex (by decide) (.inl rfl) 7 _));have HL5:=hZz (HM.out.leave HM5.out HK5.out (Nat.le_of_eq HG.out));rw [hw5];clear hw5;go_wp2_with (fail)
    rw [← HP.out,HR.out];exact ⟨.slice none 0 0,_,rfl,ValG.nil _ _,rfl,⟨_,_,_,HL5.out⟩,HK5.out.call (Below.refl _ _) (Nat.le_of_eq HG.out)⟩
   | ret v =>
    have HR:Hid (R=((v,none),{ t with vars:=s.vars })):=hZz (by cases hR;rfl);have has:=fun u w=>as_ret u w
    clear hR
    go_upto_region 7 with (first
     | (go_at_call 116;((with_reducible refine HC3.out.mono ?_);rintro e w4 ⟨u,sv,rfl,hu,hsv,hx,hkx⟩;obtain ⟨ru,hsv',hru⟩:=hsv;subst hsv';obtain ⟨rA,rn,rc,rfl⟩:=hru.shape;obtain ⟨qv4,avs4,vs4,hm4⟩:=hx;have HRU:=hZz hru;have HM4:=hZz hm4;have HK4:=hZz (HK3.out.trans hkx);have x7:=hm4.ex.cell 7 _ rfl;have z7:=hm4.ex.frozen 7;rw [ec] at x7;clear hru hm4 hkx hu)))
    go_upto_region 8 with fail
    clear x7 z7;obtain ⟨w5,hw5⟩:∃ W,w4.setCell ⟨K.gx,7,none⟩ (.int .i64 (c:Int))=W:=⟨_,rfl⟩
    have hkS:KX K.gx g w4 (w4.setCell ⟨K.gx,7,none⟩ (.int .i64 (c:Int))):=KX.set HM4.out.ex (by decide) (.inl rfl) 7 _;rw [hw5] at hkS;have HRU5:=hZz (HRU.out.keep hkS.ck);have HM5:Hid (EvM w0 K C g (gv :: F) c w5 t qv4 avs4 vs4):=hZz (by rw [← hw5];exact HM4.out.setCalls c);have HK5:Hid (KX K.gx g w w5):=hZz (HK4.out.trans hkS);have HL5:=hZz (HM.out.leave HM5.out HK5.out (Nat.le_of_eq HG.out));rw [hw5];clear hw5 hkS;have HB6:=hZz (zabZ w5 (.cells #[.slice rA rn rc] 149));go_wp2_with (fail)
    rw [← HP.out,HR.out];exact ⟨_,_,rfl,HRU5.out.below HB6.out,rfl,⟨_,_,_,HL5.out.below HB6.out⟩,(HK5.out.call (Below.refl _ _) (Nat.le_of_eq HG.out)).trans (KX.of_below HB6.out)⟩
end Go.Proofs.YtekdhlfapejijaaGreatDoor
