/- FB1 -/
import Derived.Test.YthiimbhjpdphpaaGreatDoorPFB0
import Derived.Test.YthiimbhjpdphpaaGreatDoorPPH
set_option linter.unusedVariables false
set_option linter.unusedSimpArgs false
namespace Go.Proofs.YthiimbhjpdphpaaGreatDoor
open Go.RowKit
set_option maxRecDepth 100000
set_option maxHeartbeats 8000000
open Go.Proofs.Tryz
def ConP (w:World) (o:Option CellD) (r:Ending) (w':World):Prop:=Below w.heap.size w w'∧((o=none∧r=.returned (.tuple #[.slice none 0 0,.bool false]))∨∃ c g,o=some c∧r=.returned (.tuple #[.slice (some ⟨g,0,none⟩) 1 1,.bool true])∧w.heap.size≤g∧Blk w' g 103 c.cells.toArray)
theorem node_sl {w:World} {b off:Nat} {L:List NodeX} (h:SlAt w (some ⟨b,off,none⟩) 5 nodeRow L) {j:Nat} (hj:j<L.length) :
  w.cell? ⟨b,off+j * 5,none⟩=some (.int .i64 (L[j]).1.kind)∧w.cell? ⟨b,off+j * 5+1,none⟩=some (.string (L[j]).1.text)∧w.cell? ⟨b,off+j * 5+2,none⟩=some (.int .i64 (L[j]).1.int)∧w.cell? ⟨b,off+j * 5+3,none⟩=some (L[j]).2.1∧w.cell? ⟨b,off+j * 5+4,none⟩=some (L[j]).2.2 :=
 ⟨h.cell0 hj rfl,h.cell hj (j:=1) rfl,h.cell hj (j:=2) rfl,h.cell hj (j:=3) rfl,h.cell hj (j:=4) rfl⟩
attribute [local go_sem] zabZ
theorem constant_s (w0 w:World) (S:ProgS) (gF:Nat) (nv:Value) (L:List NodeX) (h:FoSt w0 w S gF nv L) (hl:L.length≤100000) (j:Nat) (hj:j<L.length) (h8:(L[j]).1.kind=8→0<(L[j]).1.kids.length∧∃ m:Nat,(L[j]).1.kids.getD 0 0=m∧∃ hm:m<L.length,(L[m]).1.kind=3→(-1000000000000≤(L[m]).1.int∧(L[m]).1.int≤1000000000000)) :
  Calls prog 48 #[.pointer (some ⟨gF,0,none⟩),.int .i64 j] w (ConP w (constF (L.map Prod.fst) (L[j]).1)):=by
 obtain ⟨o,ho⟩:∃ o,constF (L.map Prod.fst) (L[j]).1=o:=⟨_,rfl⟩
 rw [ho];obtain ⟨P,hP⟩:∃ P:Ending→World→Prop,ConP w o=P:=⟨_,rfl⟩
 rw [hP];have HP1:Hid (∀ w',o=none→Below w.heap.size w w'→P (.returned (.tuple #[.slice none 0 0,.bool false])) w'):=hZz (fun w' h1 h2=>by rw [← hP];exact ⟨h2,.inl ⟨h1,rfl⟩⟩);have HP2:Hid (∀ w' c g,o=some c→w.heap.size≤g→Below w.heap.size w w'→Blk w' g 103 c.cells.toArray→P (.returned (.tuple #[.slice (some ⟨g,0,none⟩) 1 1,.bool true])) w'):=hZz (fun w' c g h1 h2 h3 h4=>by rw [← hP];exact ⟨h3,.inr ⟨c,g,h1,rfl,h2,h4⟩⟩);obtain ⟨A,cap,hnv,hs⟩:=h.sl;obtain ⟨b,off,rfl,hb⟩:=hs.ptr hj;obtain ⟨c0,c1,c2,c3,c4⟩:=node_sl hs hj;obtain ⟨_,_,z2⟩:=blkF h.fo;rw [hnv] at z2;obtain ⟨kA,kc,hk⟩:=zaiZ (h.keys _ (List.getElem_mem hj));obtain ⟨iA,ic,hi⟩:=zaiZ (h.kids _ (List.getElem_mem hj));rw [hk] at c3;rw [hi] at c4;have hco:o=constF (L.map Prod.fst) (L[j]).1:=ho.symm;unfold constF at hco
 have H8:Hid ((L[j]).1.kind=8→∃ (m:Nat) (b1 o1:Nat) (mk:Int) (mt:ByteArray) (mi:Int) (ka:Option Addr) (kb kc:Nat) (ja:Option Addr) (jb jc:Nat) (iA:Option Addr) (ic:Nat),m<L.length∧(L[j]).2.2=.slice iA (L[j]).1.kids.length ic∧iA=some ⟨b1,o1,none⟩∧0<(L[j]).1.kids.length∧(mk=3→(-1000000000000≤mi∧mi≤1000000000000)) ∧
   (∀ wx,Below w.heap.size w wx→wx.cell? ⟨b1,o1,none⟩=some (.int .i64 m)∧wx.cell? ⟨b,off+m * 5,none⟩=some (.int .i64 mk)∧wx.cell? ⟨b,off+m * 5+1,none⟩=some (.string mt)∧wx.cell? ⟨b,off+m * 5+2,none⟩=some (.int .i64 mi)∧wx.cell? ⟨b,off+m * 5+3,none⟩=some (.slice ka kb kc)∧wx.cell? ⟨b,off+m * 5+4,none⟩=some (.slice ja jb jc)) ∧
   (o=if (L[j]).1.text.toList=[45]∧mk=3∧0<mi then some (iCel (-mi)) else none)):=hZz (fun hk8=>by
  obtain ⟨hkl,m,hm,hml,hmi⟩:=h8 hk8;obtain ⟨iA,ic,hi⟩:=zaiZ (h.kids _ (List.getElem_mem hj));have hid:=h.kids _ (List.getElem_mem hj);rw [hi] at hid;have hsl:SlAt w iA 1 (fun k=>[Value.int .i64 k]) (L[j]).1.kids:=SlAt.of_own hid (by rw [← List.map_eq_flatMap]) (fun _=>rfl) (by decide);obtain ⟨b1,o1,hiA,_⟩:=hsl.ptr hkl;obtain ⟨ka,kc,hka⟩:=zaiZ (h.keys _ (List.getElem_mem hml));obtain ⟨ja,jc,hja⟩:=zaiZ (h.kids _ (List.getElem_mem hml));refine ⟨m,b1,o1,(L[m]).1.kind,(L[m]).1.text,(L[m]).1.int,ka,(L[m]).1.keys.length,kc,ja,(L[m]).1.kids.length,jc,iA,ic,hml,hi,hiA,hkl,hmi,fun wx hb=>?_,?_⟩
  ·subst hiA
   obtain ⟨d0,d1,d2,d3,d4⟩:=node_sl (hs.below hb) hml;rw [hka] at d3;rw [hja] at d4;have d5:=(hsl.below hb).cell0 hkl (v:=.int .i64 ((L[j]).1.kids[0])) rfl;have e0:(L[j]).1.kids[0]=(m:Int):=by rw [← hm,List.getD_eq_getElem?_getD,List.getElem?_eq_getElem hkl];rfl
   rw [e0] at d5;exact ⟨by simpa using d5,d0,d1,d2,d3,d4⟩
  ·rw [hco,if_neg (by omega),if_neg (by omega),if_neg (by omega),if_neg (by omega)]
   have e1:((L.map Prod.fst).getD ((L[j]).1.kids.getD 0 0).toNat noNode)=(L[m]).1:=by
    rw [hm,Int.toNat_natCast,List.getD_eq_getElem?_getD,List.getElem?_map,List.getElem?_eq_getElem hml];rfl
   rw [e1];simp only [hk8,true_and])
 obtain ⟨nk,hnk⟩:∃ x,(L[j]).1.kind=x:=⟨_,rfl⟩
 obtain ⟨nt,hnt⟩:∃ x,(L[j]).1.text=x:=⟨_,rfl⟩
 obtain ⟨ni,hni⟩:∃ x,(L[j]).1.int=x:=⟨_,rfl⟩
 obtain ⟨kl,hkl⟩:∃ x,(L[j]).1.keys.length=x:=⟨_,rfl⟩
 obtain ⟨il,hil⟩:∃ x,(L[j]).1.kids.length=x:=⟨_,rfl⟩
 rw [hnk] at c0 hco H8;rw [hnt] at c1 H8 hco;rw [hni] at c2 hco;rw [hkl] at c3;rw [hil,hi] at H8;rw [hil] at c4;obtain ⟨ln,hln⟩:∃ x,L.length=x:=⟨_,rfl⟩
 rw [hln] at z2 hj hl H8;have HCO:Hid (nk≠8→o=if nk=1 then some nulC else if nk=2 then some ⟨2,ni,⟨#[]⟩,0⟩ else if nk=3 then some (iCel ni) else if nk=4 then some (sCel nt) else none):=hZz (fun hne=>by rw [hco,if_neg (c:=nk=8∧_) (fun hh=>hne hh.1)]);have hj':(j:Int)<(ln:Int):=by omega
 have hj0:(0:Int)≤(j:Int):=by omega
 obtain ⟨g,hg⟩:∃ g,w.heap.size=g:=⟨_,rfl⟩
 obtain ⟨W1,hW1⟩:∃ W,w.alloc (.cells #[.int .i64 nk,.string nt,.int .i64 ni,.slice kA kl kc,.slice iA il ic] 58)=W:=⟨_,rfl⟩
 have HX1:Hid (Blk W1 g 58 #[.int .i64 nk,.string nt,.int .i64 ni,.slice kA kl kc,.slice iA il ic]):=hZz (by rw [← hW1,← hg];exact Blk.new _ _ _);have hb1:Below w.heap.size w W1:=by rw [← hW1];exact zacZ _ _
 have HB1:=hZz hb1;have HW1:=hZz hW1;have HG:=hZz hg;have HS1:=hZz hb1.size;have hfo:=h.fo;rw [hnv,hln] at hfo;have HFO:=hZz hfo;clear hP h h8 hfo hnv hs hb hk hi hco ho hnk hnt hni hkl hil hln hg hW1 hb1;go_enter func48,ntmps48
 go_upto_region 2 with fail
 rw [HG.out,HW1.out];clear HG HW1 c0 c1 c2 c3 c4 z2;have x1:=blk5n HX1.out;by_cases k1:nk=1
 ·subst k1
  go_wp2_with (fail)
  exact HP2.out _ nulC W1.heap.size (by rw [HCO.out (by decide)];rfl) HS1.out (zaeZ (zacZ _ _) HB1.out) (Blk.new _ _ _)
 by_cases k2:nk=2
 ·subst k2
  go_wp2_with (fail)
  exact HP2.out _ ⟨2,ni,⟨#[]⟩,0⟩ W1.heap.size (by rw [HCO.out (by decide)];rfl) HS1.out (zaeZ (zacZ _ _) HB1.out) (Blk.new _ _ _)
 by_cases k3:nk=3
 ·subst k3
  go_wp2_with (fail)
  exact HP2.out _ (iCel ni) W1.heap.size (by rw [HCO.out (by decide)];rfl) HS1.out (zaeZ (zacZ _ _) HB1.out) (Blk.new _ _ _)
 by_cases k4:nk=4
 ·subst k4
  go_wp2_with (fail)
  exact HP2.out _ (sCel nt) W1.heap.size (by rw [HCO.out (by decide)];rfl) HS1.out (zaeZ (zacZ _ _) HB1.out) (Blk.new _ _ _)
 by_cases k8:nk=8
 ·subst k8
  obtain ⟨m,b1,o1,mk,mt,mi,ka,kb,kd,ja,jb,jc,iA',ic',hml,hie,hiA,hkl0,hmi,hcl,hoo⟩:=H8.out rfl;injection hie with e1 e2 e3
  subst e1 hiA;have HCL:=hZz hcl;have HOO:=hZz hoo;have HF1:=hZz (HFO.out.below HB1.out);have hb0:Below W1.heap.size W1 W1.drew:=zadZ _;have HBd:=hZz (zaeZ hb0 HB1.out);have hm0:(0:Int)≤(m:Int):=by omega
  have hm1:(m:Int)<(ln:Int):=by omega
  have hil0:(0:Int)<(il:Int):=by omega
  obtain ⟨g2,hg2⟩:∃ g,W1.heap.size=g:=⟨_,rfl⟩
  obtain ⟨W2,hW2⟩:∃ W,(W1.alloc (.cells #[.int .i64 mk,.string mt,.int .i64 mi,.slice ka kb kd,.slice ja jb jc] 58)).drew=W:=⟨_,rfl⟩
  have HB2:Hid (Below w.heap.size w W2):=hZz (by rw [← hW2];exact (zaeZ (zacZ _ _) HB1.out).drew);have HX2:Hid (Blk W2 g2 58 #[.int .i64 mk,.string mt,.int .i64 mi,.slice ka kb kd,.slice ja jb jc]):=hZz (by rw [← hW2,← hg2];exact (Blk.new W1 _ _).drew);have HX1':Hid (Blk W2 g 58 #[.int .i64 8,.string nt,.int .i64 ni,.slice kA kl kc,.slice (some ⟨b1,o1,none⟩) il ic]):=hZz (by rw [← hW2];exact (HX1.out.alloc _).drew);have HW2:=hZz hW2;have HG2:=hZz hg2;clear hcl hoo hg2 hW2 hb0
  try clear e2
  try clear e3
  go_upto_region 12 with (fail)
  clear x1;have HS:Hid (∀ wx,Below W1.heap.size W1 wx→(wx.cell? ⟨gF,2,none⟩=some (.slice (some ⟨b,off,none⟩) ln cap)∧wx.cell? ⟨g,4,none⟩=some (.slice (some ⟨b1,o1,none⟩) il ic))∧wx.cell? ⟨b1,o1,none⟩=some (.int .i64 m)∧wx.cell? ⟨b,off+m * 5,none⟩=some (.int .i64 mk)∧wx.cell? ⟨b,off+m * 5+1,none⟩=some (.string mt)∧wx.cell? ⟨b,off+m * 5+2,none⟩=some (.int .i64 mi)∧wx.cell? ⟨b,off+m * 5+3,none⟩=some (.slice ka kb kd)∧wx.cell? ⟨b,off+m * 5+4,none⟩=some (.slice ja jb jc)):=hZz (fun wx hb=>⟨⟨(blkF (HF1.out.below hb)).2.2,(blk5n (HX1.out.below hb)).2.2.2.2⟩,HCL.out wx (zaeZ hb HB1.out)⟩);have HSd:=hZz (HS.out _ (zadZ _));have HSa:Hid (∀ o,_):=hZz (fun o=>HS.out _ (zaeZ (zacZ W1.drew o) (zadZ _)));go_region_held3 (fun wx=>(wx.cell? ⟨gF,2,none⟩=some (.slice (some ⟨b,off,none⟩) ln cap)∧wx.cell? ⟨g,4,none⟩=some (.slice (some ⟨b1,o1,none⟩) il ic))∧wx.cell? ⟨b1,o1,none⟩=some (.int .i64 m)∧wx.cell? ⟨b,off+m * 5,none⟩=some (.int .i64 mk)∧wx.cell? ⟨b,off+m * 5+1,none⟩=some (.string mt)∧wx.cell? ⟨b,off+m * 5+2,none⟩=some (.int .i64 mi)∧wx.cell? ⟨b,off+m * 5+3,none⟩=some (.slice ka kb kd)∧wx.cell? ⟨b,off+m * 5+4,none⟩=some (.slice ja jb jc)) (first | with_reducible exact HSd.out | exact HSa.out _) (fail)
  try rw [HG2.out]
  rw [HW2.out];clear HS HSd HSa;have x1:=blk5n HX1'.out;have x2:=blk5n HX2.out;by_cases t1:nt.toList=[45]
  ·have t1':(nt.toList == [45])=true:=by rw [t1];rfl
   by_cases t2:mk=3
   ·subst t2
    have hmb:=hmi rfl;have hwr:IntKind.i64.wrap (-mi)=-mi:=IntWalk.i64_in _ (by omega);by_cases t3:0<mi
    ·clear t1
     go_wp2_with (fail)
     exact HP2.out _ (iCel (-mi)) W2.heap.size (by rw [HOO.out,if_pos (by simpa using And.intro t1' t3)]) HB2.out.size (zaeZ (zacZ _ _) HB2.out) (Blk.new _ _ _)
    ·clear t1
     go_wp2_with (fail)
     exact HP1.out _ (by rw [HOO.out,if_neg (fun hh=>by have:=hh.2.2;omega)]) HB2.out
   ·clear t1
    go_wp2_with (fail)
    exact HP1.out _ (by rw [HOO.out,if_neg (fun hh=>t2 hh.2.1)]) HB2.out
  ·have t1':(nt.toList == [45])=false:=by simpa using t1
   have T1:=hZz t1;clear t1;go_wp2_with (fail)
   exact HP1.out _ (by rw [HOO.out,if_neg (fun hh=>T1.out hh.1)]) HB2.out
 have hno:o=none:=by rw [HCO.out k8,if_neg k1,if_neg k2,if_neg k3,if_neg k4]
 have HNO:=hZz hno;clear hno;go_wp2_with (fail)
 exact HP1.out _ HNO.out HB1.out
end Go.Proofs.YthiimbhjpdphpaaGreatDoor
