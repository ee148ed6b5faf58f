/- FB1, E17, E18 -/
import Derived.Test.YthiimbhjpdphpaaGreatDoorPE16
import Derived.Test.YthiimbhjpdphpaaGreatDoorPW0
set_option linter.unusedVariables false
set_option linter.unusedSimpArgs false
namespace Go.Proofs.YthiimbhjpdphpaaGreatDoor
open Go.RowKit
set_option maxRecDepth 100000
set_option maxHeartbeats 8000000
attribute [local go_sem] zacZ
open Go.Proofs.Tryz
def ConP (w:World) (o:Option CellD) (r:Ending) (w':World):Prop:=Below w.heap.size w w'∧((o=none∧r=.returned (.tuple #[.slice none 0 0,.bool false]))∨∃ c g,o=some c∧r=.returned (.tuple #[.slice (some ⟨g,0,none⟩) 1 1,.bool true])∧w.heap.size≤g∧Blk w' g 103 c.cells.toArray)
theorem node_sl {w:World} {b off:Nat} {L:List NodeX} (h:SlAt w (some ⟨b,off,none⟩) 5 nodeRow L) {j:Nat} (hj:j<L.length) :
  w.cell? ⟨b,off+j * 5,none⟩=some (.int .i64 (L[j]).1.kind)∧w.cell? ⟨b,off+j * 5+1,none⟩=some (.string (L[j]).1.text)∧w.cell? ⟨b,off+j * 5+2,none⟩=some (.int .i64 (L[j]).1.int)∧w.cell? ⟨b,off+j * 5+3,none⟩=some (L[j]).2.1∧w.cell? ⟨b,off+j * 5+4,none⟩=some (L[j]).2.2 :=
 ⟨h.cell0 hj rfl,h.cell hj (j:=1) rfl,h.cell hj (j:=2) rfl,h.cell hj (j:=3) rfl,h.cell hj (j:=4) rfl⟩
theorem constant_s (w0 w:World) (S:ProgS) (gF:Nat) (nv:Value) (L:List NodeX) (h:FoSt w0 w S gF nv L) (hl:L.length≤100000) (j:Nat) (hj:j<L.length) (h8:(L[j]).1.kind=8→0<(L[j]).1.kids.length∧∃ m:Nat,(L[j]).1.kids.getD 0 0=m∧∃ hm:m<L.length,(L[m]).1.kind=3→(-1000000000000≤(L[m]).1.int∧(L[m]).1.int≤1000000000000)) :
  Calls prog 48 #[.pointer (some ⟨gF,0,none⟩),.int .i64 j] w (ConP w (constF (L.map Prod.fst) (L[j]).1)):=by
 obtain ⟨o,ho⟩:∃ o,constF (L.map Prod.fst) (L[j]).1=o:=⟨_,rfl⟩
 rw [ho];obtain ⟨P,hP⟩:∃ P:Ending→World→Prop,ConP w o=P:=⟨_,rfl⟩
 rw [hP];have HP1:Hid (∀ w',o=none→Below w.heap.size w w'→P (.returned (.tuple #[.slice none 0 0,.bool false])) w'):=hZz (fun w' h1 h2=>by rw [← hP];exact ⟨h2,.inl ⟨h1,rfl⟩⟩);have HP2:Hid (∀ w' c g,o=some c→w.heap.size≤g→Below w.heap.size w w'→Blk w' g 103 c.cells.toArray→P (.returned (.tuple #[.slice (some ⟨g,0,none⟩) 1 1,.bool true])) w'):=hZz (fun w' c g h1 h2 h3 h4=>by rw [← hP];exact ⟨h3,.inr ⟨c,g,h1,rfl,h2,h4⟩⟩);obtain ⟨A,cap,hnv,hs⟩:=h.sl;obtain ⟨b,off,rfl,hb⟩:=hs.ptr hj;obtain ⟨c0,c1,c2,c3,c4⟩:=node_sl hs hj;obtain ⟨_,_,z2⟩:=blkF h.fo;rw [hnv] at z2;obtain ⟨kA,kc,hk⟩:=zahZ (h.keys _ (List.getElem_mem hj));obtain ⟨iA,ic,hi⟩:=zahZ (h.kids _ (List.getElem_mem hj));rw [hk] at c3;rw [hi] at c4;have hco:o=constF (L.map Prod.fst) (L[j]).1:=ho.symm;unfold constF at hco
 have H8:Hid ((L[j]).1.kind=8→∃ (m:Nat) (b1 o1:Nat) (mk:Int) (mt:ByteArray) (mi:Int) (ka:Option Addr) (kb kc:Nat) (ja:Option Addr) (jb jc:Nat) (iA:Option Addr) (ic:Nat),m<L.length∧(L[j]).2.2=.slice iA (L[j]).1.kids.length ic∧iA=some ⟨b1,o1,none⟩∧0<(L[j]).1.kids.length∧(mk=3→(-1000000000000≤mi∧mi≤1000000000000)) ∧
   (∀ wx,Below w.heap.size w wx→wx.cell? ⟨b1,o1,none⟩=some (.int .i64 m)∧wx.cell? ⟨b,off+m * 5,none⟩=some (.int .i64 mk)∧wx.cell? ⟨b,off+m * 5+1,none⟩=some (.string mt)∧wx.cell? ⟨b,off+m * 5+2,none⟩=some (.int .i64 mi)∧wx.cell? ⟨b,off+m * 5+3,none⟩=some (.slice ka kb kc)∧wx.cell? ⟨b,off+m * 5+4,none⟩=some (.slice ja jb jc)) ∧
   (o=if (L[j]).1.text.toList=[45]∧mk=3∧0<mi then some (iCel (-mi)) else none)):=hZz (fun hk8=>by
  obtain ⟨hkl,m,hm,hml,hmi⟩:=h8 hk8;obtain ⟨iA,ic,hi⟩:=zahZ (h.kids _ (List.getElem_mem hj));have hid:=h.kids _ (List.getElem_mem hj);rw [hi] at hid;have hsl:SlAt w iA 1 (fun k=>[Value.int .i64 k]) (L[j]).1.kids:=SlAt.of_own hid (by rw [← List.map_eq_flatMap]) (fun _=>rfl) (by decide);obtain ⟨b1,o1,hiA,_⟩:=hsl.ptr hkl;obtain ⟨ka,kc,hka⟩:=zahZ (h.keys _ (List.getElem_mem hml));obtain ⟨ja,jc,hja⟩:=zahZ (h.kids _ (List.getElem_mem hml));refine ⟨m,b1,o1,(L[m]).1.kind,(L[m]).1.text,(L[m]).1.int,ka,(L[m]).1.keys.length,kc,ja,(L[m]).1.kids.length,jc,iA,ic,hml,hi,hiA,hkl,hmi,fun wx hb=>?_,?_⟩
  ·subst hiA
   obtain ⟨d0,d1,d2,d3,d4⟩:=node_sl (hs.below hb) hml;rw [hka] at d3;rw [hja] at d4;have d5:=(hsl.below hb).cell0 hkl (v:=.int .i64 ((L[j]).1.kids[0])) rfl;have e0:(L[j]).1.kids[0]=(m:Int):=by rw [← hm,List.getD_eq_getElem?_getD,List.getElem?_eq_getElem hkl];rfl
   rw [e0] at d5;exact ⟨by simpa using d5,d0,d1,d2,d3,d4⟩
  ·rw [hco,if_neg (by omega),if_neg (by omega),if_neg (by omega),if_neg (by omega)]
   have e1:((L.map Prod.fst).getD ((L[j]).1.kids.getD 0 0).toNat noNode)=(L[m]).1:=by
    rw [hm,Int.toNat_natCast,List.getD_eq_getElem?_getD,List.getElem?_map,List.getElem?_eq_getElem hml];rfl
   rw [e1];simp only [hk8,true_and])
 obtain ⟨nk,hnk⟩:∃ x,(L[j]).1.kind=x:=⟨_,rfl⟩
 obtain ⟨nt,hnt⟩:∃ x,(L[j]).1.text=x:=⟨_,rfl⟩
 obtain ⟨ni,hni⟩:∃ x,(L[j]).1.int=x:=⟨_,rfl⟩
 obtain ⟨kl,hkl⟩:∃ x,(L[j]).1.keys.length=x:=⟨_,rfl⟩
 obtain ⟨il,hil⟩:∃ x,(L[j]).1.kids.length=x:=⟨_,rfl⟩
 rw [hnk] at c0 hco H8;rw [hnt] at c1 H8 hco;rw [hni] at c2 hco;rw [hkl] at c3;rw [hil,hi] at H8;rw [hil] at c4;obtain ⟨ln,hln⟩:∃ x,L.length=x:=⟨_,rfl⟩
 rw [hln] at z2 hj hl H8;have HCO:Hid (nk≠8→o=if nk=1 then some nulC else if nk=2 then some ⟨2,ni,⟨#[]⟩,0⟩ else if nk=3 then some (iCel ni) else if nk=4 then some (sCel nt) else none):=hZz (fun hne=>by rw [hco,if_neg (c:=nk=8∧_) (fun hh=>hne hh.1)]);have hj':(j:Int)<(ln:Int):=by omega
 have hj0:(0:Int)≤(j:Int):=by omega
 obtain ⟨g,hg⟩:∃ g,w.heap.size=g:=⟨_,rfl⟩
 obtain ⟨W1,hW1⟩:∃ W,w.alloc (.cells #[.int .i64 nk,.string nt,.int .i64 ni,.slice kA kl kc,.slice iA il ic] 58)=W:=⟨_,rfl⟩
 have HX1:Hid (Blk W1 g 58 #[.int .i64 nk,.string nt,.int .i64 ni,.slice kA kl kc,.slice iA il ic]):=hZz (by rw [← hW1,← hg];exact Blk.new _ _ _);have hb1:Below w.heap.size w W1:=by rw [← hW1];exact zabZ _ _
 have HB1:=hZz hb1;have HW1:=hZz hW1;have HG:=hZz hg;have HS1:=hZz hb1.size;have hfo:=h.fo;rw [hnv,hln] at hfo;have HFO:=hZz hfo;clear hP h h8 hfo hnv hs hb hk hi hco ho hnk hnt hni hkl hil hln hg hW1 hb1;go_enter func48,ntmps48
 go_upto_region 2 with fail
 rw [HG.out,HW1.out];clear HG HW1 c0 c1 c2 c3 c4 z2;have x1:=zalZ HX1.out;by_cases k1:nk=1
 ·subst k1
  go_wp2_with (fail)
  exact HP2.out _ nulC W1.heap.size (by rw [HCO.out (by decide)];rfl) HS1.out (zafZ (zabZ _ _) HB1.out) (Blk.new _ _ _)
 by_cases k2:nk=2
 ·subst k2
  go_wp2_with (fail)
  exact HP2.out _ ⟨2,ni,⟨#[]⟩,0⟩ W1.heap.size (by rw [HCO.out (by decide)];rfl) HS1.out (zafZ (zabZ _ _) HB1.out) (Blk.new _ _ _)
 by_cases k3:nk=3
 ·subst k3
  go_wp2_with (fail)
  exact HP2.out _ (iCel ni) W1.heap.size (by rw [HCO.out (by decide)];rfl) HS1.out (zafZ (zabZ _ _) HB1.out) (Blk.new _ _ _)
 by_cases k4:nk=4
 ·subst k4
  go_wp2_with (fail)
  exact HP2.out _ (sCel nt) W1.heap.size (by rw [HCO.out (by decide)];rfl) HS1.out (zafZ (zabZ _ _) HB1.out) (Blk.new _ _ _)
 by_cases k8:nk=8
 ·subst k8
  obtain ⟨m,b1,o1,mk,mt,mi,ka,kb,kd,ja,jb,jc,iA',ic',hml,hie,hiA,hkl0,hmi,hcl,hoo⟩:=H8.out rfl;injection hie with e1 e2 e3
  subst e1 hiA;have HCL:=hZz hcl;have HOO:=hZz hoo;have HF1:=hZz (HFO.out.below HB1.out);have hb0:Below W1.heap.size W1 W1.drew:=zadZ _;have HBd:=hZz (zafZ hb0 HB1.out);have hm0:(0:Int)≤(m:Int):=by omega
  have hm1:(m:Int)<(ln:Int):=by omega
  have hil0:(0:Int)<(il:Int):=by omega
  obtain ⟨g2,hg2⟩:∃ g,W1.heap.size=g:=⟨_,rfl⟩
  obtain ⟨W2,hW2⟩:∃ W,(W1.alloc (.cells #[.int .i64 mk,.string mt,.int .i64 mi,.slice ka kb kd,.slice ja jb jc] 58)).drew=W:=⟨_,rfl⟩
  have HB2:Hid (Below w.heap.size w W2):=hZz (by rw [← hW2];exact (zafZ (zabZ _ _) HB1.out).drew);have HX2:Hid (Blk W2 g2 58 #[.int .i64 mk,.string mt,.int .i64 mi,.slice ka kb kd,.slice ja jb jc]):=hZz (by rw [← hW2,← hg2];exact (Blk.new W1 _ _).drew);have HX1':Hid (Blk W2 g 58 #[.int .i64 8,.string nt,.int .i64 ni,.slice kA kl kc,.slice (some ⟨b1,o1,none⟩) il ic]):=hZz (by rw [← hW2];exact (HX1.out.alloc _).drew);have HW2:=hZz hW2;have HG2:=hZz hg2;clear hcl hoo hg2 hW2 hb0
  try clear e2
  try clear e3
  go_upto_region 12 with (fail)
  clear x1;have HS:Hid (∀ wx,Below W1.heap.size W1 wx→(wx.cell? ⟨gF,2,none⟩=some (.slice (some ⟨b,off,none⟩) ln cap)∧wx.cell? ⟨g,4,none⟩=some (.slice (some ⟨b1,o1,none⟩) il ic))∧wx.cell? ⟨b1,o1,none⟩=some (.int .i64 m)∧wx.cell? ⟨b,off+m * 5,none⟩=some (.int .i64 mk)∧wx.cell? ⟨b,off+m * 5+1,none⟩=some (.string mt)∧wx.cell? ⟨b,off+m * 5+2,none⟩=some (.int .i64 mi)∧wx.cell? ⟨b,off+m * 5+3,none⟩=some (.slice ka kb kd)∧wx.cell? ⟨b,off+m * 5+4,none⟩=some (.slice ja jb jc)):=hZz (fun wx hb=>⟨⟨(blkF (HF1.out.below hb)).2.2,(zalZ (HX1.out.below hb)).2.2.2.2⟩,HCL.out wx (zafZ hb HB1.out)⟩);have HSd:=hZz (HS.out _ (zadZ _));have HSa:Hid (∀ o,_):=hZz (fun o=>HS.out _ (zafZ (zabZ W1.drew o) (zadZ _)));go_region_held3 (fun wx=>(wx.cell? ⟨gF,2,none⟩=some (.slice (some ⟨b,off,none⟩) ln cap)∧wx.cell? ⟨g,4,none⟩=some (.slice (some ⟨b1,o1,none⟩) il ic))∧wx.cell? ⟨b1,o1,none⟩=some (.int .i64 m)∧wx.cell? ⟨b,off+m * 5,none⟩=some (.int .i64 mk)∧wx.cell? ⟨b,off+m * 5+1,none⟩=some (.string mt)∧wx.cell? ⟨b,off+m * 5+2,none⟩=some (.int .i64 mi)∧wx.cell? ⟨b,off+m * 5+3,none⟩=some (.slice ka kb kd)∧wx.cell? ⟨b,off+m * 5+4,none⟩=some (.slice ja jb jc)) (first | with_reducible exact HSd.out | exact HSa.out _) (fail)
  try rw [HG2.out]
  rw [HW2.out];clear HS HSd HSa;have x1:=zalZ HX1'.out;have x2:=zalZ HX2.out;by_cases t1:nt.toList=[45]
  ·have t1':(nt.toList == [45])=true:=by rw [t1];rfl
   by_cases t2:mk=3
   ·subst t2
    have hmb:=hmi rfl;have hwr:IntKind.i64.wrap (-mi)=-mi:=IntWalk.i64_in _ (by omega);by_cases t3:0<mi
    ·clear t1
     go_wp2_with (fail)
     exact HP2.out _ (iCel (-mi)) W2.heap.size (by rw [HOO.out,if_pos (by simpa using And.intro t1' t3)]) HB2.out.size (zafZ (zabZ _ _) HB2.out) (Blk.new _ _ _)
    ·clear t1
     go_wp2_with (fail)
     exact HP1.out _ (by rw [HOO.out,if_neg (fun hh=>by have:=hh.2.2;omega)]) HB2.out
   ·clear t1
    go_wp2_with (fail)
    exact HP1.out _ (by rw [HOO.out,if_neg (fun hh=>t2 hh.2.1)]) HB2.out
  ·have t1':(nt.toList == [45])=false:=by simpa using t1
   have T1:=hZz t1;clear t1;go_wp2_with (fail)
   exact HP1.out _ (by rw [HOO.out,if_neg (fun hh=>T1.out hh.1)]) HB2.out
 have hno:o=none:=by rw [HCO.out k8,if_neg k1,if_neg k2,if_neg k3,if_neg k4]
 have HNO:=hZz hno;clear hno;go_wp2_with (fail)
 exact HP1.out _ HNO.out HB1.out
def ItS (w0 w:World) (g:Nat) (ys:List ValD):Prop:=∃ ov,Blk w g 95 #[ov]∧ValsO w w0.heap.size ov ys∧Below w0.heap.size w0 w∧w0.heap.size≤g
theorem ItS.below {w0 w w':World} {g:Nat} {ys:List ValD} (h:ItS w0 w g ys) (hb:Below w.heap.size w w'):ItS w0 w' g ys:=by
 obtain ⟨ov,h1,h2,h3,h4⟩:=h;exact ⟨ov,h1.below hb,h2.below hb,zaaZ hb h3 h3.size,h4⟩
theorem ValsO.snoc {w w':World} {base:Nat} {v' x:Value} {l:List ValD} {y:ValD} {vs:List Value} (ho:w'.ownsRow base 96 1 v' (l.length+1) (vs ++ [x])) (hk:CK w w') (hx:ValT w' x y) (hvl:vs.length=l.length) (hvt:∀ i (a:i<vs.length) (b:i<l.length),ValT w vs[i] l[i]):ValsO w' base v' (l ++ [y]):=by
 refine ⟨vs ++ [x],by rw [List.length_append];exact ho,by simp [hvl],fun i a b=>?_⟩
 by_cases hi:i<vs.length
 ·rw [List.getElem_append_left hi,List.getElem_append_left (by omega)]
  exact (hvt i hi (by omega)).keep hk
 ·have e:i=vs.length:=by simp at a;omega
  subst e;rw [List.getElem_append_right (by omega),List.getElem_append_right (by omega)];simpa [hvl] using hx
theorem items1_any (key:ByteArray) (x:Value) (y:ValD) (g:Nat) (ys:List ValD) (w0 w:World) (h:ItS w0 w g ys) (hx:ValV w x y) (hn:ys.length≤1000) :
  Calls prog 197 #[.string key,x,.pointer (some ⟨g,0,none⟩)] w fun e w'=>e=.returned (.bool true)∧ItS w0 w' g (ys ++ [y]):=by
 obtain ⟨i1,hj,hy0,hy1,hy2⟩:=info_parts Tryz.infoVal;obtain ⟨P,hP⟩:∃ P:Ending→World→Prop,(fun e w'=>e=.returned (.bool true)∧ItS w0 w' g (ys ++ [y]))=P:=⟨_,rfl⟩
 rw [hP];have HP:=hZz hP;obtain ⟨ov,hg,hov,hbel,hgb⟩:=h;obtain ⟨vs,ho,hvl,hvt⟩:=hov;obtain ⟨oA,ocap,rfl⟩:=zahZ ho;have hx0:=hx;obtain ⟨xA,xc,rfl,_,hyl,_⟩:=hx.at;have HCL:=hZz (clone_any y _ w.drew hx0);have HG:=hZz hg;have HO:=hZz ho;have o0:=hg.cell 0 _ rfl;clear hP;go_enter func197,ntmps197
 go_upto_region 1 with fail
 obtain ⟨N,hN⟩:∃ n,ys.length=n:=⟨_,rfl⟩
 rw [hN] at HG HO o0;have HN:=hZz hN;have hn2:N≤1000:=by omega
 clear hg ho hx hx0
 go_region_law (first
  | (go_simp;go_at_call 198;(refine HCL.out.mono ?_);rintro e1 w1 ⟨v1,rfl,ho1,hb1⟩;obtain ⟨A1,c1,rfl⟩:=zahZ (show w1.ownsRow w.drew.heap.size 103 4 v1 y.length _ from ho1);have HV1:=hZz ho1;have HB1:=hZz (zafZ hb1 (zadZ w));have HG1:=hZz (HG.out.below HB1.out);have o1:=HG1.out.cell 0 _ rfl;have HOA:=hZz (zagZ HO.out (zafZ (zabZ w1 (.cells #[.slice A1 y.length c1] 96)) HB1.out));have HGA:=hZz (HG1.out.alloc (.cells #[.slice A1 y.length c1] 96));have hsz:w0.heap.size≤(w1.alloc (.cells #[.slice A1 y.length c1] 96)).heap.size:=Nat.le_trans hbel.size (Nat.le_trans HB1.out.size (by simp));clear ho1 hb1)
  | (rw [if_pos (by rfl)];refine wp_append_lies _ (.tmp 6) (.tmp 9) 95 rfl w0.heap.size 96 i1 _ 1 24 underlying95 hj hy0 hy1 hy2 rfl ?k1 _ N _ rfl HOA.out ⟨w1.heap.size,0,none⟩ 1 1 [.slice A1 y.length c1] rfl rfl (zadY w1 _ _) ?k2 ?k3 ?k4 ?k5 ?k6 _ rfl ?_;(case k1=>decide);(case k2=>simp [Value.oneCell']);(case k3=>decide);(case k4=>(unfold maxLen;omega));(case k5=>omega);(case k6=>exact hsz);intro g6 cap6 w6 hown6 hgr6 _ _;have HG6:=hZz (HGA.out.grown hgr6 (zaeZ HOA.out HGA.out (by decide)));have z6:=HG6.out.frozen 0;have o6:=HG6.out.cell 0 _ rfl;have HO6:=hZz hown6;have HGR:=hZz hgr6;clear hown6 hgr6))
 all_goals
  go_wp2_with (fail)
  rw [← HP.out];have hgS:=zacY w6 g 0 (.slice (some ⟨g6,0,none⟩) (N+1) cap6);have hckA:CK w (w1.alloc (.cells #[.slice A1 y.length c1] 96)):=CK.of_below (zafZ (zabZ w1 _) HB1.out);have hck6:=CK.own HOA.out (by decide) HGR.out;have hckS:CK w6 (w6.setCell ⟨g,0,none⟩ (.slice (some ⟨g6,0,none⟩) (N+1) cap6)):=CK.blk HG6.out (by decide) hgS;have hx1:ValT w1 (.slice A1 y.length c1) y:=OVal.valT HV1.out hyl;refine ⟨rfl,_,HG6.out.set_ 0 _,?_,?_,hgb⟩
  ·have hv6:ValsO w6 w0.heap.size (.slice (some ⟨g6,0,none⟩) (N+1) cap6) (ys ++ [y]) :=
    ValsO.snoc (vs:=vs) (by rw [HN.out];exact HO6.out) (hckA.trans hck6) ((hx1.below (zabZ w1 _)).keep hck6) hvl hvt
   exact hv6.keep hckS (fun j hj=>hgS.block j (hv6.lt hj).2 (fun e=>(hv6.blk HG6.out (by decide)) (e.symm.trans hj.symm |> fun e=>by first | exact e | exact (hj.trans e.symm).symm)))
  ·have hw1:=zaaZ (zafZ (zabZ w1 (.cells #[.slice A1 y.length c1] 96)) HB1.out) hbel hbel.size
   exact (hw1.grown HGR.out hsz (fun j hj=>(HOA.out.lt j hj).1)).grown hgS (Nat.le_trans hsz HGR.out.size) (fun j hj=>by injection hj with hj;omega)
theorem parts0_any (c:CellD) (r:ValD) (v:Value) (fid:FuncId) (caps:Array Value) (w0 w:World) (h:ValV w0 v (c :: r)) (hw:Below w0.heap.size w0 w) (hp:Pow w0) (ho:OkV (c :: r)) (hck:checkF (c :: r)=0) (hk:c.kind=5∨c.kind=6) (I:Nat→World→Prop) (J:World→Prop)
  (hent:∀ args w,(callFunc fid args).run prog w=.ok (.enter fid args) w) (h0:I 0 w) (hIB:∀ k wx,I k wx→Below w0.heap.size w0 wx) (hst:∀ k wx wy,I k wx→Below wx.heap.size wx wy→I k wy)
  (hy:∀ k wx x (hk:k<(partsOf (c :: r)).length),I k wx→ValV w0 x (partsOf (c :: r))[k].2→Calls prog fid (#[.string (partsOf (c :: r))[k].1,x] ++ caps) wx fun e w'=>∃ b,e=.returned (.bool b)∧(b=true→I (k+1) w')∧(b=false→J w'))
  (hJ:∀ wx,I (partsOf (c :: r)).length wx→J wx) :
  Calls prog 190 #[v,.func (.func fid) #[] caps] w fun e w'=>e=.returned (.tuple #[])∧J w':=by
 rcases hk with hk | hk
 ·exact parts5_any c r v fid caps w0 w h hw hp ho hck hk I J hent h0 hIB hst hy hJ
 ·exact parts6_any c r v fid caps w0 w h hw hp ho hck hk I J hent h0 hIB hst hy hJ
theorem parts_any (c:CellD) (r:ValD) (v:Value) (fid:FuncId) (caps:Array Value) (w0 w:World) (h:ValV w0 v (c :: r)) (hw:Below w0.heap.size w0 w) (hp:Pow w0) (ho:OkV (c :: r)) (hck:checkF (c :: r)=0) (hk:c.kind=5∨c.kind=6) (I:Nat→World→Prop) (J:World→Prop)
  (hent:∀ args w,(callFunc fid args).run prog w=.ok (.enter fid args) w) (h0:I 0 w) (hIB:∀ k wx,I k wx→Below w0.heap.size w0 wx) (hst:∀ k wx wy,I k wx→Below wx.heap.size wx wy→I k wy)
  (hy:∀ k wx x (hk:k<(partsOf (c :: r)).length),I k wx→ValV wx x (partsOf (c :: r))[k].2→Calls prog fid (#[.string (partsOf (c :: r))[k].1,x] ++ caps) wx fun e w'=>∃ b,e=.returned (.bool b)∧(b=true→I (k+1) w')∧(b=false→J w'))
  (hJ:∀ wx,I (partsOf (c :: r)).length wx→J wx) :
  Calls prog 190 #[v,.func (.func fid) #[] caps] w fun e w'=>e=.returned (.tuple #[])∧J w' :=
 parts0_any c r v fid caps w0 w h hw hp ho hck hk I J hent h0 hIB hst (fun k wx x hk' hi hx=>hy k wx x hk' hi (hx.below (hIB k wx hi))) hJ
theorem parts_len {c:CellD} {r:ValD} (ho:OkV (c :: r)) (hck:checkF (c :: r)=0) (hk:c.kind=5∨c.kind=6):(partsOf (c :: r)).length≤200:=by
 obtain ⟨_,_,hch,_⟩:=zbmY hck (fun x hx=>zbaY (ho.2 x hx)) (c:=c) rfl hk
 have:=hch.len
 have:=len200 hck
 omega
def itemsR (l:ValD):List ValD × Int:=if checkF l≠0 then ([],checkF l) else match l with
 | []=>([],7)
 | c :: r=>if c.kind=5∨c.kind=6 then ((partsOf (c :: r)).map (fun p:ByteArray × ValD=>p.2),0) else ([],7)
def RetL (w:World) (r:List ValD × Int) (e:Ending) (w':World):Prop:=∃ ov,e=.returned (.tuple #[ov,.int .i64 r.2])∧ValsO w' w.heap.size ov r.1∧Below w.heap.size w w'
theorem items_any (l:ValD) (v:Value) (w:World) (h:ValV w v l) (hp:Pow w) (ho:OkV l) :
  Calls prog 162 #[v] w (RetL w (itemsR l)):=by
 obtain ⟨P,hP⟩:∃ P:Ending→World→Prop,RetL w (itemsR l)=P:=⟨_,rfl⟩
 rw [hP];have HP:=hZz hP;have HV:=hZz h
 have hck0:Calls prog 152 #[v] w fun e w'=>e=.returned (.int .i64 (checkF l))∧Below w.heap.size w w':=by
  obtain ⟨A,cap,rfl,hc,hm,hs⟩:=h.at;exact za7Y l A cap w hs hp ho.1 hc ho.2
 have HCK:=hZz hck0;clear hck0;by_cases hck:checkF l=0
 case neg =>
  have HR:Hid (itemsR l=([],checkF l)):=hZz (by unfold itemsR;rw [if_pos hck]);obtain ⟨ck,hc⟩:∃ c,checkF l=c:=⟨_,rfl⟩
  rw [hc] at HCK HR hck;have hck':(ck != 0)=true:=by simpa using hck
  clear hck h hp ho hP hc;go_enter func162,ntmps162
  go_wp2_with (first
   | (go_at_call 152;((with_reducible refine HCK.out.mono ?_);rintro e w1 ⟨rfl,hb1⟩;have HB1:=hZz hb1;clear hb1)))
  rw [← HP.out,HR.out];exact ⟨.slice none 0 0,rfl,ValsO.nil _ _,HB1.out⟩
 obtain ⟨c,r,rfl⟩:∃ c r,l=c :: r:=by
  cases l with
  | nil=>exact absurd rfl (zdgY hck)
  | cons c r=>exact ⟨c,r,rfl⟩
 have HR:Hid (itemsR (c :: r)=if c.kind=5∨c.kind=6 then ((partsOf (c :: r)).map (fun p:ByteArray × ValD=>p.2),0) else ([],7)):=hZz (by unfold itemsR;rw [if_neg (by simpa using hck)]);rw [hck] at HCK;obtain ⟨b,off,n,cap,rfl,hn,c0,c1,c2,c3⟩:=zapY h;have HC0:=hZz c0;have hpos:(0:Int)<(n:Int):=by omega
 clear hn;by_cases hk:c.kind=5∨c.kind=6
 ·have HR2:Hid (itemsR (c :: r)=((partsOf (c :: r)).map (fun p:ByteArray × ValD=>p.2),0)):=hZz (by rw [HR.out,if_pos hk])
  have HPT:Hid (∀ wx g,Below w.heap.size w wx→w.heap.size≤g→Blk wx g 95 #[.slice none 0 0]→Calls prog 190 #[.slice (some ⟨b,off,none⟩) n cap,.func (.func 197) #[] #[.pointer (some ⟨g,0,none⟩)]] wx fun e w'=>e=.returned (.tuple #[])∧ItS w w' g ((partsOf (c :: r)).map (fun p:ByteArray × ValD=>p.2))):=hZz fun wx g hb hg hB=>by
   refine parts_any c r _ 197 #[.pointer (some ⟨g,0,none⟩)] w wx h hb hp ho hck hk (fun k wy=>ItS w wy g (((partsOf (c :: r)).take k).map (fun p:ByteArray × ValD=>p.2))) (fun wy=>ItS w wy g ((partsOf (c :: r)).map (fun p:ByteArray × ValD=>p.2))) (enters_of func197 (by kernel_rfl) rfl) ?_ (fun k wy hi=>?_) (fun k wy wz hi hbz=>hi.below hbz) (fun k wy x hk' hi hx=>?_) (fun wy hi=>?_)
   ·exact ⟨_,hB,by rw [List.take_zero];exact ValsO.nil _ _,hb,hg⟩
   ·obtain ⟨ov,_,_,h3,_⟩:=hi
    exact h3
   ·refine (items1_any _ x _ g _ w wy hi hx (by rw [List.length_map,List.length_take];have:=parts_len ho hck hk;omega)).mono fun e w' ⟨he,hi'⟩=>⟨true,he,fun _=>?_,fun e=>by cases e⟩
    rw [List.take_succ_eq_append_getElem hk',List.map_append];exact hi'
   ·rw [List.take_length] at hi
    exact hi
  obtain ⟨ys,hys⟩:∃ ys,(partsOf (c :: r)).map (fun p:ByteArray × ValD=>p.2)=ys:=⟨_,rfl⟩
  rw [hys] at HPT HR2;clear hys;obtain ⟨k,i,s,nn⟩:=c;dsimp only at hk HC0;clear hck h hp ho hP c0 c1 c2 c3 HR;rcases hk with hk | hk
  all_goals
   subst hk;go_enter func162,ntmps162
   go_wp2_with (first
    | (go_at_call 152;((with_reducible refine HCK.out.mono ?_);rintro e w1 ⟨rfl,hb1⟩;have HB1:=hZz hb1;have g0:=(hb1.cell (p:=⟨b,off,none⟩) (bLZ HC0.out)).trans HC0.out;clear hb1))
    | (go_at_call 190;((refine Calls.mono (HPT.out _ _ (HB1.out.alloc HB1.out.size _) HB1.out.size (Blk.new _ _ _)) ?_);rintro e w2 ⟨rfl,hi⟩;obtain ⟨ov,hg2,hov2,hb2,_⟩:=hi;obtain ⟨oA,oc,hoe⟩:=hov2.shape;subst hoe;have HO2:=hZz hov2;have HB2:=hZz hb2;have z0:=hg2.cell 0 _ rfl;clear hg2 hov2 hb2)))
   rw [← HP.out,HR2.out];exact ⟨_,rfl,HO2.out,HB2.out⟩
 ·have HR2:Hid (itemsR (c :: r)=([],7)):=hZz (by rw [HR.out,if_neg hk])
  obtain ⟨k,i,s,nn⟩:=c;dsimp only at hk HC0;have h5:(k != 5)=true:=by simp;omega
  have h6:(k != 6)=true:=by simp;omega
  clear hck h hp ho hP c0 c1 c2 c3 HR hk;go_enter func162,ntmps162
  go_wp2_with (first
   | (go_at_call 152;((with_reducible refine HCK.out.mono ?_);rintro e w1 ⟨rfl,hb1⟩;have HB1:=hZz hb1;have g0:=(hb1.cell (p:=⟨b,off,none⟩) (bLZ HC0.out)).trans HC0.out;clear hb1)))
  rw [← HP.out,HR2.out];exact ⟨.slice none 0 0,rfl,ValsO.nil _ _,HB1.out⟩
end Go.Proofs.YthiimbhjpdphpaaGreatDoor
