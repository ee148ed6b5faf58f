/- FB2, FB3, AX6 -/
import Derived.Test.YthiimbhjpdphpaaGreatDoorPJD
import Derived.Lib.ItoaLen
set_option linter.unusedVariables false
set_option linter.unusedSimpArgs false
namespace Go.Proofs.YthiimbhjpdphpaaGreatDoor
open Go.RowKit
set_option maxRecDepth 100000
set_option maxHeartbeats 8000000
open Go.Proofs.Tryz
theorem zajY {w w':World} (h:w.grownBy w' none):Below w.heap.size w w':=⟨h.os,h.tape,h.output,h.size,fun k hk=>h.block k hk (by simp)⟩
theorem four_n {w:World} {g:Nat} {t:TypeId} {a b c d e:Value} (h:Blk w g t #[a,b,c,d,e]):w.cell? ⟨g,0,none⟩=some a∧w.cell? ⟨g,1,none⟩=some b∧w.cell? ⟨g,2,none⟩=some c∧w.cell? ⟨g,3,none⟩=some d:=⟨h.cell 0 _ rfl,h.cell 1 _ rfl,h.cell 2 _ rfl,h.cell 3 _ rfl⟩
theorem own_grownR {w w':World} {base n size:Nat} {v:Value} {xs:List Value} {e:TypeId} {row:Option Nat} (h:w.ownsRow base e size v n xs) (hg:w.grownBy w' row) (hn:∀ g,v.ownBlock=some g→some g≠row):w'.ownsRow base e size v n xs:=by
 refine ⟨h.1,h.2.imp id (fun ⟨g,cap,cur,ev,eg,eh,e4⟩=>⟨g,cap,cur,ev,eg,?_,e4⟩)⟩
 exact (hg.block g (lt_of_block eh) (hn g (by rw [ev];rfl))).trans eh
theorem KF.new {gF:Nat} {b b2 row:Option Nat} {w w' w'':World} (h:KF gF b b2 w w') (hg:w'.grownBy w'' row) (hr:∀ g,row=some g→w.heap.size≤g):KF gF b b2 w w'':=by
 refine ⟨hg.os.trans h.os,hg.tape.trans h.tape,hg.output.trans h.output,Nat.le_trans h.size hg.size,fun g h1 h2 h3=>?_,h.own⟩
 exact (hg.block g (Nat.lt_of_lt_of_le h1 h.size) (fun e=>by have:=hr g e.symm;omega)).trans (h.stay g h1 h2 h3)
theorem zbxY {B:Nat} {w w' w'':World} {row:Option Nat} (h:Below B w w') (hg:w'.grownBy w'' row) (hB:B≤w'.heap.size) (hr:∀ g,row=some g→B≤g):Below B w w'':=h.grown hg hB hr
section
abbrev NX:=Int × ByteArray × Int × Option Addr × Nat × Nat
def rowX (r:NX):List Value:=[.int .i64 r.1,.string r.2.1,.int .i64 r.2.2.1,.slice none 0 0,.slice r.2.2.2.1 r.2.2.2.2.1 r.2.2.2.2.2]
structure FX (w0 w:World) (S:ProgS) (gF:Nat) (nv:Value) (L:List NX):Prop where
 fo:Blk w gF 73 #[.slice S.A S.p.nodes.length S.ncap,.slice S.B S.p.funcs.length S.fcap,nv]
 row:w.ownsRow w0.heap.size 58 5 nv L.length (L.flatMap rowX)
 bl:Below w0.heap.size w0 w
 bF:w0.heap.size≤gF
def FXP (w0 w:World) (S:ProgS) (gF i:Nat) (nk:Int) (r:Ending) (w':World):Prop:=∃ (nv':Value) (M:List NX) (c:NX),r=.returned (.int .i64 (i:Nat))∧M.length=i∧c.1=nk∧FX w0 w' S gF nv' (M ++ [c])∧KF gF none nv'.ownBlock w w'
theorem FX.below {w0 w w':World} {S:ProgS} {gF:Nat} {nv:Value} {L:List NX} (h:FX w0 w S gF nv L) (hb:Below w.heap.size w w'):FX w0 w' S gF nv L:=⟨h.fo.below hb,zagZ h.row hb,zaaZ hb h.bl h.bl.size,h.bF⟩
structure FLX (w0 w wr:World) (S:ProgS) (gF gN gO:Nat) (nv:Value) (M:List NX) (nb:Array Value) (nk:Int) (nt:ByteArray) (ni:Int) (kv:Value):Prop where
 st:FX w0 wr S gF nv M
 kf:KF gF none nv.ownBlock w wr
 bn:Blk wr gN 58 nb
 bo:Blk wr gO 58 #[.int .i64 nk,.string nt,.int .i64 ni,.slice none 0 0,kv]
 geN:w.heap.size≤gN
 geO:w.heap.size≤gO
 ne:gO≠gN
 ltF:gF<w.heap.size
 nN:nv.ownBlock≠some gN
 nO:nv.ownBlock≠some gO
section
variable {w0 w wr wx:World} {S:ProgS} {gF gN gO:Nat} {nv:Value} {M:List NX} {nb:Array Value} {nk ni:Int} {nt:ByteArray} {kv:Value}
theorem FLX.below (h:FLX w0 w wr S gF gN gO nv M nb nk nt ni kv) (hb:Below wr.heap.size wr wx):FLX w0 w wx S gF gN gO nv M nb nk nt ni kv:=⟨h.st.below hb,h.kf.trans (KF.of_below hb _ _),h.bn.below hb,h.bo.below hb,h.geN,h.geO,h.ne,h.ltF,h.nN,h.nO⟩
theorem FLX.kid {nv3:Value} {M3:List NX} (h:FLX w0 w wr S gF gN gO (.slice none 0 0) M nb nk nt ni kv) (hst:FX w0 wx S gF nv3 M3) (hk:KF gF none nv3.ownBlock wr wx):FLX w0 w wx S gF gN gO nv3 M3 nb nk nt ni kv:=by
 have hnew:∀ g,g<wr.heap.size→nv3.ownBlock≠some g:=fun g h1 e=>by
  rcases hk.own with e2 | ⟨g',e2,e3⟩
  ·rw [e2] at e;cases e
  ·rw [e2] at e;injection e with e;omega
 exact ⟨hst,h.kf.trans hk,hk.blk h.bn (by have:=h.ltF;have:=h.geN;omega) (fun e=>by cases e),hk.blk h.bo (by have:=h.ltF;have:=h.geO;omega) (fun e=>by cases e),h.geN,h.geO,h.ne,h.ltF,hnew _ h.bn.lt,hnew _ h.bo.lt⟩
theorem FLX.set4 (h:FLX w0 w wr S gF gN gO nv M nb nk nt ni kv) (v:Value):FLX w0 w (wr.setCell ⟨gO,4,none⟩ v) S gF gN gO nv M nb nk nt ni v:=by
 have hg2:=zaeY wr gO 4 v;have hbF:gF≠gO:=by have:=h.ltF;have:=h.geO;omega
 have h0:w0.heap.size≤gO:=by have:=h.ltF;have:=h.geO;have:=h.st.bF;omega
 exact ⟨⟨h.st.fo.far (p:=⟨gO,4,none⟩) hbF _,own_grownR h.st.row hg2 (fun g e1 e2=>h.nO (e1.trans e2)),zbxY h.st.bl hg2 h.st.bl.size (fun g e=>by injection e with e;omega),h.st.bF⟩,h.kf.new hg2 (fun g e=>by injection e with e;have:=h.geO;omega),h.bn.far (p:=⟨gO,4,none⟩) (Ne.symm h.ne) _,h.bo.set_ 4 _,h.geN,h.geO,h.ne,h.ltF,h.nN,h.nO⟩
theorem FLX.push {nv2:Value} {c:NX} (h:FLX w0 w wr S gF gN gO nv M nb nk nt ni kv) (hown:wx.ownsRow w0.heap.size 58 5 nv2 (M.length+1) (M.flatMap rowX ++ rowX c)) (hg:wr.grownBy wx nv.ownBlock) (hat:nv.ownBlock=nv2.ownBlock∨nv2.ownBlock=some wr.heap.size):FX w0 (wx.setCell ⟨gF,2,none⟩ nv2) S gF nv2 (M ++ [c])∧KF gF none nv2.ownBlock w (wx.setCell ⟨gF,2,none⟩ nv2):=by
 have bF1:Blk wx gF 73 _:=h.st.fo.grown hg (zafZ h.st.row h.st.fo (by decide));refine ⟨⟨bF1.set_ 2 _,?_,?_,h.st.bF⟩,?_⟩
 ·rw [List.length_append,List.length_singleton,List.flatMap_append,List.flatMap_cons,List.flatMap_nil,List.append_nil]
  exact zaxY hown bF1 (by decide) 2 nv2
 ·exact zbxY (zbxY h.st.bl hg h.st.bl.size (fun g e=>(h.st.row.lt g e).1)) (zaeY wx gF 2 nv2) (Nat.le_trans h.st.bl.size hg.size) (fun g e=>by injection e with e;have:=h.st.bF;omega)
 ·refine (KF.grown (v:=nv) (v':=nv) h.kf hg ?_).setF 2 nv2
  rcases hat with e | e
  ·exact .inl e.symm
  ·exact .inr ⟨_,e,Nat.le_refl _⟩
end
theorem zcdY (w:World) (b s:Nat) (e:TypeId):w.ownsRow b e s (.slice none 0 0) 0 []:=⟨by simp,.inl ⟨rfl,rfl⟩⟩
attribute [local go_sem] zabZ
theorem constX_s (w0 w:World) (S:ProgS) (gF:Nat) (nv:Value) (M:List NX) (c:NX) (h:FX w0 w S gF nv (M ++ [c])) (j:Nat) (hj:M.length=j) (hl:j≤10) (hc:c.1=5∨c.1=17) :
  Calls prog 48 #[.pointer (some ⟨gF,0,none⟩),.int .i64 j] w fun r w'=>r=.returned (.tuple #[.slice none 0 0,.bool false])∧Below w.heap.size w w':=by
 obtain ⟨P,hP⟩:∃ P:Ending→World→Prop,(fun r w'=>r=.returned (.tuple #[.slice none 0 0,.bool false])∧Below w.heap.size w w')=P:=⟨_,rfl⟩
 rw [hP];have HP1:Hid (∀ w',Below w.heap.size w w'→P (.returned (.tuple #[.slice none 0 0,.bool false])) w'):=hZz (fun w' h2=>by rw [← hP];exact ⟨rfl,h2⟩);obtain ⟨A,cap,rfl⟩:=zajZ h.row;have hs:SlAt w A 5 rowX (M ++ [c]):=SlAt.of_own h.row rfl (fun _=>rfl) (by decide);have hjl:j<(M ++ [c]).length:=by simp;omega
 have hg:(M ++ [c])[j]=c:=by subst hj;simp
 obtain ⟨b,off,rfl,hb⟩:=hs.ptr hjl;obtain ⟨k,t,i,iA,il,ic⟩:=c;have hr:∀ q v,(rowX (k,t,i,iA,il,ic))[q]? = some v→w.cell? ⟨b,off+j * 5+q,none⟩=some v:=fun q v hv=>hs.cell hjl (j:=q) (by rw [hg];exact hv)
 have c0:=hr 0 _ rfl;have c1:=hr 1 _ rfl;have c2:=hr 2 _ rfl;have c3:=hr 3 _ rfl;have c4:=hr 4 _ rfl;rw [Nat.add_zero] at c0;obtain ⟨_,_,z2⟩:=blkF h.fo;have hln:(M ++ [(k,t,i,iA,il,ic)]).length=j+1:=by simp;omega
 rw [hln] at z2;have hj':(j:Int)<((j+1:Nat):Int):=by omega
 have hj0:(0:Int)≤(j:Int):=by omega
 obtain ⟨ln,hln2⟩:∃ x,j+1=x:=⟨_,rfl⟩
 rw [hln2] at z2 hj';obtain ⟨g,hg2⟩:∃ g,w.heap.size=g:=⟨_,rfl⟩
 obtain ⟨W1,hW1⟩:∃ W,w.alloc (.cells #[.int .i64 k,.string t,.int .i64 i,.slice none 0 0,.slice iA il ic] 58)=W:=⟨_,rfl⟩
 have HX1:Hid (Blk W1 g 58 #[.int .i64 k,.string t,.int .i64 i,.slice none 0 0,.slice iA il ic]):=hZz (by rw [← hW1,← hg2];exact Blk.new _ _ _);have HB1:Hid (Below w.heap.size w W1):=hZz (by rw [← hW1];exact zacZ _ _);have HW1:=hZz hW1;have HG:=hZz hg2;clear hP h hs hjl hg hb hr hln hln2 hg2 hW1 hj hl;go_enter func48,ntmps48
 go_upto_region 2 with fail
 rw [HG.out,HW1.out];clear HG HW1 c0 c1 c2 c3 c4 z2;have x1:=blk5n HX1.out;rcases hc with hc | hc
 all_goals
  have hc2:k=_:=hc;subst hc2;go_wp2_with (fail)
  exact HP1.out _ HB1.out
def OutX (wr wx:World) (nk:Int) (nt:ByteArray) (ni:Int) (u:Value):Prop:=∃ gO,u=.pointer (some ⟨gO,0,none⟩)∧Below wr.heap.size wr wx∧wr.heap.size≤gO∧Blk wx gO 58 #[.int .i64 nk,.string nt,.int .i64 ni,.slice none 0 0,.slice none 0 0]
set_option maxHeartbeats 16000000 in
theorem nodeZ_s (w0:World) (S:ProgS) (gF i:Nat) (nk:Int) (nt:ByteArray) (ni:Int) (kids:List Int) (hS:ProgV w0 S) (hl3:S.p.nodes.length=3) (hi3:i<S.p.nodes.length) (hn:S.p.nodes[i]=⟨nk,nt,ni,[],kids⟩) (h8:¬ nk=8) (h9:¬ nk=9)
  (hkd:kids.length=0∧i=0∨∃ (j:Nat) (kk:Int),kids=[(j:Int)]∧i=j+1∧(kk=5∨kk=17)∧∀ wx,FX w0 wx S gF (.slice none 0 0) []→Calls prog 34 #[.pointer (some ⟨gF,0,none⟩),.int .i64 j] wx (FXP w0 wx S gF j kk))
  (w:World) (h:FX w0 w S gF (.slice none 0 0) []):Calls prog 34 #[.pointer (some ⟨gF,0,none⟩),.int .i64 i] w (FXP w0 w S gF i nk):=by
 obtain ⟨P,hP⟩:∃ P:Ending→World→Prop,FXP w0 w S gF i nk=P:=⟨_,rfl⟩
 rw [hP];have HP:Hid (∀ r w',FXP w0 w S gF i nk r w'→P r w'):=hZz (fun r w' h=>by rw [← hP];exact h);obtain ⟨b,off,kA,kc,iA,ic,hA,hb,c0,c1,c2,c3,c4,hkv,hiv⟩:=zalY hS.nodes hi3;have hbl:=h.bl
 replace c0:=(hbl.cell hb).trans c0
 replace c1:=(hbl.cell hb).trans c1
 replace c2:=(hbl.cell hb).trans c2
 replace c3:=(hbl.cell hb).trans c3
 replace c4:=(hbl.cell hb).trans c4
 rw [hn] at c0 c1 c2 c3 c4 hiv;simp only [List.length_nil] at c0 c1 c2 c3 c4 hiv
 have HIV:Hid (∀ wx,Below w0.heap.size w0 wx→SlAt wx iA 1 (fun k=>[Value.int .i64 k]) kids):=hZz (fun wx hb=>by
  obtain ⟨A,cap,e,_,hs⟩:=hiv.at;injection e with e1 _ _
  subst e1;exact hs.below hb)
 obtain ⟨y0,y1,y2⟩:=blkF h.fo;rw [hA,hl3] at y0;have hi':(i:Int)<(3:Int):=by omega
 have hi0:(0:Int)≤(i:Int):=by omega
 have hi10:i≤10:=by omega
 obtain ⟨im,him⟩:∃ N,kids.length=N:=⟨_,rfl⟩
 rw [him] at c4;have HIM:=hZz him;have HKD:=hZz hkd;have HIM1:Hid (im≤1):=hZz (by rw [← him];rcases hkd with ⟨a,_⟩ | ⟨j,_,a,_⟩ <;> rw [a] <;> simp);obtain ⟨gN,hgN⟩:∃ g,w.heap.size=g:=⟨_,rfl⟩
 obtain ⟨W1,hW1⟩:∃ W,w.alloc (.cells #[.int .i64 nk,.string nt,.int .i64 ni,.slice kA 0 kc,.slice iA im ic] 58)=W:=⟨_,rfl⟩
 have HX1:Hid (Blk W1 gN 58 #[.int .i64 nk,.string nt,.int .i64 ni,.slice kA 0 kc,.slice iA im ic]):=hZz (by rw [← hW1,← hgN];exact Blk.new _ _ _);have hb1:Below w.heap.size w W1:=by rw [← hW1];exact zacZ _ _
 have HB1:=hZz hb1;have HH:=hZz h;have hfo:=h.fo.below hb1;have HF1:=hZz hfo;have HW1:=hZz hW1;have HG:=hZz hgN;have HGN:=hZz hgN;have HLT1:Hid (w.heap.size<W1.heap.size):=hZz (by rw [← hW1];simp);have HLF:Hid (gF<w.heap.size):=hZz h.fo.lt;clear hP hA hb hbl hn hkv hiv him hkd hgN hW1 hb1 hfo h hS hl3 hi3;go_enter func34,ntmps34
 go_upto_region 2 with fail
 rw [HG.out,HW1.out];clear HG HW1 c0 c1 c2 c3 c4 y0 y1 y2;obtain ⟨y0,y1,y2⟩:=blkF HF1.out;have x1:=blk5n HX1.out;go_upto_region 3 with fail
 clear y0 y1 y2;obtain ⟨i1,hj,hy0,hy1,hy2⟩:=info_parts Tryz.infoStrS;have HS1:Hid (∀ w',Below W1.heap.size W1 w'→w'.cell? ⟨gN,0,none⟩=some (.int .i64 nk)∧w'.cell? ⟨gN,1,none⟩=some (.string nt)∧w'.cell? ⟨gN,2,none⟩=some (.int .i64 ni)∧w'.cell? ⟨gN,3,none⟩=some (.slice kA 0 kc)):=hZz (fun w' hb=>four_n (HX1.out.below hb));have HB_0:=hZz (zadZ W1);clear x1;go_cut [7] from 29 to 38 (fun u wx=>OutX W1 wx nk nt ni u)
 case first =>
  refine wp_region_held_drew (S:=fun w'=>w'.cell? ⟨gN,0,none⟩=some (.int .i64 nk)∧w'.cell? ⟨gN,1,none⟩=some (.string nt)∧w'.cell? ⟨gN,2,none⟩=some (.int .i64 ni)∧w'.cell? ⟨gN,3,none⟩=some (.slice kA 0 kc)) (by kernel_rfl) (HS1.out _ HB_0.out) (fun hHeld=>?_)
  obtain ⟨WD,hWD⟩:∃ W,W1.drew=W:=⟨_,rfl⟩
  rw [hWD] at HB_0 hHeld ⊢;clear hWD;refine tkZ (i:=0) (v:=.pointer (some ⟨gN,0,none⟩)) rfl ?_
  simp only [nz,Act.put];refine tkZ (i:=1) (v:=.int .i64 nk) rfl ?_
  simp only [nz,Act.put];refine tkZ (i:=2) (v:=.pointer (some ⟨gN,1,none⟩)) rfl ?_
  simp only [nz,Act.put];refine tkZ (i:=3) (v:=.string nt) rfl ?_
  simp only [nz,Act.put];refine tkZ (i:=4) (v:=.pointer (some ⟨gN,2,none⟩)) rfl ?_
  simp only [nz,Act.put];refine tkZ (i:=5) (v:=.int .i64 ni) rfl ?_
  simp only [nz,Act.put];refine tkZ (i:=6) (v:=.pointer (some ⟨gN,3,none⟩)) rfl ?_
  simp only [nz,Act.put];refine tkZ (i:=7) (v:=.slice kA 0 kc) rfl ?_
  simp only [nz,Act.put];refine wpAnyH_ready (rs:=[8,10]) (by kernel_rfl) (by simp) ?_
  refine AllReadyH.cons (o:=_) rfl (fun K hK=>?_) ?_
  ·simp only [List.getElem_toArray,List.getElem_cons_succ,List.getElem_cons_zero]
   rw [if_pos (by rfl)];refine zazY (.const (.slice none 0 0)) (.tmp 36) 40 rfl 9 i1 1 underlying40 hj hy1 _ _ 0 0 _ rfl rfl (Nat.le_refl _) ?_
   refine hK.out _ _ (HS1.out _ HB_0.out) (fun hHeld=>?_)
   clear hK K
   try simp only [nz,Act.put]
   refine tkZ (i:=9) (v:=.agg #[.int .i64 nk,.string nt,.int .i64 ni,.slice none 0 0,.slice none 0 0]) rfl ?_
   simp only [nz,Act.put];refine wpAnyH_ready (rs:=[10]) (by kernel_rfl) (by simp) ?_
   refine AllReadyH.cons (o:=_) rfl (fun K hK=>?_) AllReadyH.nil
   go_simp;have HB_aq1:=hZz (HB_0.out.alloc HB_0.out.size (.cells #[.int .i64 0,.string ⟨#[]⟩,.int .i64 0,.slice none 0 0,.slice none 0 0] 58));have HM_aq1:=hZz (Blk.new WD 58 #[.int .i64 0,.string ⟨#[]⟩,.int .i64 0,.slice none 0 0,.slice none 0 0]);refine hK.out _ _ (HS1.out _ HB_aq1.out) (fun hHeld=>?_)
   clear hK K
   try simp only [nz,Act.put]
   obtain ⟨gq2,hgq2⟩:∃ g,WD.heap.size=g:=⟨_,rfl⟩
   have Hgq2:=hZz hgq2;have HGE_gq2:Hid (W1.heap.size≤gq2):=hZz (by rw [← Hgq2.out];exact HB_0.out.size);obtain ⟨Wq3,hWq3⟩:∃ W,WD.alloc (.cells #[.int .i64 0,.string ⟨#[]⟩,.int .i64 0,.slice none 0 0,.slice none 0 0] 58)=W:=⟨_,rfl⟩
   rw [hWq3] at HB_aq1 HM_aq1 hHeld ⊢;rw [hgq2] at HM_aq1
   try rw [hgq2]
   clear hWq3 hgq2;refine wpAnyH_ready (rs:=[11]) (by kernel_rfl) (by simp) ?_
   refine AllReadyH.cons (o:=_) rfl (fun K hK=>?_) AllReadyH.nil
   simp only [List.getElem_toArray,List.getElem_cons_succ,List.getElem_cons_zero];rw [if_pos (by rfl)];refine wp_store_row _ _ _ rfl gq2 #[.int .i64 nk,.string nt,.int .i64 ni,.slice none 0 0,.slice none 0 0] rfl rfl 58 _ HM_aq1.out (by kernel_rfl) rfl (by simp [Value.oneCell']) ?_
   have HB_sq4:=hZz (below_setRow HB_aq1.out HGE_gq2.out #[.int .i64 nk,.string nt,.int .i64 ni,.slice none 0 0,.slice none 0 0]);have HM_sq4:=hZz (HM_aq1.out.setRow (cs':=#[.int .i64 nk,.string nt,.int .i64 ni,.slice none 0 0,.slice none 0 0]));refine hK.out _ _ (HS1.out _ HB_sq4.out) (fun hHeld=>?_)
   clear hK K
   try simp only [nz,Act.put]
   refine wpAnyH_done (by kernel_rfl) ?_ _
   try dsimp only [List.getElem_toArray,List.getElem_cons_succ,List.getElem_cons_zero,Act.put]
   go_wp2_with fail;go_meet
   exact ⟨gq2,rfl,HB_sq4.out,HGE_gq2.out,HM_sq4.out⟩
  refine AllReadyH.cons (o:=_) rfl (fun K hK=>?_) AllReadyH.nil
  go_simp;have HB_aq5:=hZz (HB_0.out.alloc HB_0.out.size (.cells #[.int .i64 0,.string ⟨#[]⟩,.int .i64 0,.slice none 0 0,.slice none 0 0] 58));have HM_aq5:=hZz (Blk.new WD 58 #[.int .i64 0,.string ⟨#[]⟩,.int .i64 0,.slice none 0 0,.slice none 0 0]);refine hK.out _ _ (HS1.out _ HB_aq5.out) (fun hHeld=>?_)
  clear hK K
  try simp only [nz,Act.put]
  obtain ⟨gq6,hgq6⟩:∃ g,WD.heap.size=g:=⟨_,rfl⟩
  have Hgq6:=hZz hgq6;have HGE_gq6:Hid (W1.heap.size≤gq6):=hZz (by rw [← Hgq6.out];exact HB_0.out.size);obtain ⟨Wq7,hWq7⟩:∃ W,WD.alloc (.cells #[.int .i64 0,.string ⟨#[]⟩,.int .i64 0,.slice none 0 0,.slice none 0 0] 58)=W:=⟨_,rfl⟩
  rw [hWq7] at HB_aq5 HM_aq5 hHeld ⊢;rw [hgq6] at HM_aq5
  try rw [hgq6]
  clear hWq7 hgq6;refine wpAnyH_ready (rs:=[8]) (by kernel_rfl) (by simp) ?_
  refine AllReadyH.cons (o:=_) rfl (fun K hK=>?_) AllReadyH.nil
  simp only [List.getElem_toArray,List.getElem_cons_succ,List.getElem_cons_zero];rw [if_pos (by rfl)];refine zazY (.const (.slice none 0 0)) (.tmp 36) 40 rfl 9 i1 1 underlying40 hj hy1 _ _ 0 0 _ rfl rfl (Nat.le_refl _) ?_
  refine hK.out _ _ (HS1.out _ HB_aq5.out) (fun hHeld=>?_)
  clear hK K
  try simp only [nz,Act.put]
  refine tkZ (i:=9) (v:=.agg #[.int .i64 nk,.string nt,.int .i64 ni,.slice none 0 0,.slice none 0 0]) rfl ?_
  simp only [nz,Act.put];refine wpAnyH_ready (rs:=[11]) (by kernel_rfl) (by simp) ?_
  refine AllReadyH.cons (o:=_) rfl (fun K hK=>?_) AllReadyH.nil
  simp only [List.getElem_toArray,List.getElem_cons_succ,List.getElem_cons_zero];rw [if_pos (by rfl)];refine wp_store_row _ _ _ rfl gq6 #[.int .i64 nk,.string nt,.int .i64 ni,.slice none 0 0,.slice none 0 0] rfl rfl 58 _ HM_aq5.out (by kernel_rfl) rfl (by simp [Value.oneCell']) ?_
  have HB_sq8:=hZz (below_setRow HB_aq5.out HGE_gq6.out #[.int .i64 nk,.string nt,.int .i64 ni,.slice none 0 0,.slice none 0 0]);have HM_sq8:=hZz (HM_aq5.out.setRow (cs':=#[.int .i64 nk,.string nt,.int .i64 ni,.slice none 0 0,.slice none 0 0]));refine hK.out _ _ (HS1.out _ HB_sq8.out) (fun hHeld=>?_)
  clear hK K
  try simp only [nz,Act.put]
  refine wpAnyH_done (by kernel_rfl) ?_ _
  try dsimp only [List.getElem_toArray,List.getElem_cons_succ,List.getElem_cons_zero,Act.put]
  go_wp2_with fail;go_meet
  exact ⟨gq6,rfl,HB_sq8.out,HGE_gq6.out,HM_sq8.out⟩
 case rest =>
  obtain ⟨gO,rfl,hbc,hge,hbk⟩:=hcut;have HC0:Hid (FLX w0 w wc S gF gN gO (.slice none 0 0) [] #[.int .i64 nk,.string nt,.int .i64 ni,.slice kA 0 kc,.slice iA im ic] nk nt ni (.slice none 0 0)):=hZz ⟨HH.out.below (zaaZ hbc HB1.out HB1.out.size),KF.of_below (zaaZ hbc HB1.out HB1.out.size) _ _,HX1.out.below hbc,hbk,by rw [HGN.out];exact Nat.le_refl _,Nat.le_trans (Nat.le_of_lt HLT1.out) hge,by have:=HX1.out.lt;omega,HLF.out,(fun e=>by cases e),(fun e=>by cases e)⟩;have HXc:=hZz (HX1.out.below hbc);clear hbc hge hbk HB_0;have x1:=blk5n HXc.out;go_upto_region 6 with (fail)
  try go_wp2_with (fail)
  clear x1;go_loopw [8,10,11,12,13,42,43,44,45,46,47,48,49,50,51,52,53,54,55,56,57,58,59,60,61,62,63,64,65,66] (fun lv _ _ _ _ kv _ _ _ _ _ _ _ _ _ _ _ _ _ _ _ _ _ _ _ _ _ _ _ _ wr=>∃ (k:Nat) (nvk:Value) (M:List NX) (kv2:Option Addr) (kc2:Nat),k≤im∧kv=.int .i64 k∧lv=.slice none 0 0∧Hid ((k=0→nvk=.slice none 0 0∧M=[]∧kv2=none∧kc2=0)∧(k=1→M.length=i))∧Hid (FLX w0 w wr S gF gN gO nvk M #[.int .i64 nk,.string nt,.int .i64 ni,.slice kA 0 kc,.slice iA im ic] nk nt ni (.slice kv2 k kc2))) (fun _ _ _ _ _ kv _ _ _ _ _ _ _ _ _ _ _ _ _ _ _ _ _ _ _ _ _ _ _ _ _=>im - (intOf kv).toNat)
  case atStart=>exact ⟨0,.slice none 0 0,[],none,0,Nat.zero_le _,rfl,rfl,hZz ⟨fun _=>⟨rfl,rfl,rfl,rfl⟩,fun e=>by omega⟩,HC0⟩
  case round =>
   obtain ⟨k,nvk,M,kv2,kc2,hk,rfl,rfl,HLL,HC⟩:=hrel;have hk0:(0:Int)≤(k:Int):=by omega
   have hm1:=HIM1.out;by_cases hlt:k<im
   ·obtain rfl:k=0:=by omega
    have HI1:Hid (im=1):=hZz (by omega);have hlt':(0:Int)<(im:Int):=by omega
    obtain ⟨rfl,rfl,rfl,rfl⟩:=HLL.out.1 rfl
    obtain ⟨j,kk,hkj,hij,hkk,hrec⟩:∃ (j:Nat) (kk:Int),kids=[(j:Int)]∧i=j+1∧(kk=5∨kk=17)∧∀ wx,FX w0 wx S gF (.slice none 0 0) []→Calls prog 34 #[.pointer (some ⟨gF,0,none⟩),.int .i64 j] wx (FXP w0 wx S gF j kk):=by
     rcases HKD.out with ⟨a,_⟩ | a
     ·have:=HIM.out;omega
     ·exact a
    have hsl:=HIV.out wr HC.out.st.bl;rw [hkj] at hsl;obtain ⟨b1,o1,rfl,_⟩:=hsl.ptr (n:=0) (by simp);have d0:=hsl.cell0 (n:=0) (by simp) (v:=.int .i64 (j:Nat)) rfl;simp only [Nat.zero_mul,Nat.add_zero] at d0;have HCR:=hZz (hrec wr HC.out.st);have HIJ:=hZz hij;have HKK:=hZz hkk;clear hsl hrec hkj hij hkk
    go_upto_region 9 with (first
     | (go_at_call 34;(with_reducible refine HCR.out.mono ?_);rintro r w3 ⟨nv3,M3,c3,rfl,hl3,hc3,hst3,hk3⟩;have HL3:=hZz hl3;have HCK:=hZz hc3;have HC3:=hZz (HC.out.kid hst3 hk3);clear hl3 hc3 hst3 hk3))
    clear d0;obtain ⟨WA,hWA⟩:∃ WA,w3.alloc (.cells #[.int .i64 (j:Nat)] 3)=WA:=⟨_,rfl⟩
    have hbA:Below w3.heap.size w3 WA:=by rw [← hWA];exact zacZ _ _
    have HCA:=hZz (HC3.out.below hbA);have HNW:Hid (∀ q u,[Value.int .i64 (j:Nat)][q]? = some u→WA.cell? ((⟨w3.heap.size,0,none⟩:Addr).add q)=some u):=hZz (by rw [← hWA];exact zapY w3 _ 3);have HBO:=hZz HCA.out.bo;have HWA:=hZz hWA;obtain ⟨q1,hj1,hy10,hy11,hy12⟩:=info_parts Tryz.infoIntS;clear hWA hbA;have x3:=blk5n HC3.out.bo;have xA:=blk5n HBO.out;have hwA:=HWA.out
    go_upto_region 10 with (first
     | (at_builtin;refine wpList_append_lies _ rfl (.tmp 50) (.tmp 52) 56 rfl 0 3 q1 _ 1 8 underlying56 hj1 hy10 hy11 hy12 rfl (by decide) _ 0 [] rfl (zcdY _ _ _ _) ⟨w3.heap.size,0,none⟩ 1 1 [.int .i64 (j:Nat)] rfl rfl HNW.out (by simp [Value.oneCell']) (by decide) (by unfold maxLen;omega) (by omega) (Nat.zero_le _) _ rfl ?_;intro g4 cap4 w4 hown4 hgr4 hat4 hlt4;simp only [Nat.zero_add];have HB34:=hZz (zajY hgr4);have HB4:=hZz (HBO.out.below HB34.out);have x4:=blk5n HB4.out;have z4:=HB4.out.frozen 4;clear hown4 hgr4 hat4))
    clear hwA x3 xA;have HC5:=hZz ((HCA.out.below HB34.out).set4 (.slice (some ⟨g4,0,none⟩) 1 cap4));obtain ⟨W5,hW5⟩:∃ W,w4.setCell ⟨gO,4,none⟩ (.slice (some ⟨g4,0,none⟩) 1 cap4)=W:=⟨_,rfl⟩
    rw [hW5] at HC5;have HW5:=hZz hW5;clear hW5 x4 z4;rw [HW5.out];have HCN:=hZz (constX_s w0 W5 S gF nv3 M3 c3 HC5.out.st j HL3.out (by have:=HIJ.out;omega) (by rw [HCK.out];exact HKK.out))
    go_upto_region 11 with (first
     | (go_at_call 48;(with_reducible refine HCN.out.mono ?_);rintro r w6 ⟨rfl,hb6⟩;have HC6:=hZz (HC5.out.below hb6);clear hb6))
    go_wp2_with (fail)
    exact ⟨⟨1,nv3,M3 ++ [c3],some ⟨g4,0,none⟩,cap4,by have:=HI1.out;omega,by simp,rfl,hZz ⟨fun e=>by omega,fun _=>by rw [List.length_append,HL3.out,HIJ.out];rfl⟩,HC6⟩,by have:=HI1.out;simp [intOf];omega⟩
   ·have e9:im=k:=by omega
    subst e9
    have hml:M.length=i:=by
     by_cases q0:im=0
     ·rw [(HLL.out.1 q0).2.1]
      rcases HKD.out with ⟨_,a⟩ | ⟨j,_,a,_⟩
      ·exact a.symm
      ·have:=HIM.out;rw [a] at this;simp at this;omega
     ·exact HLL.out.2 (by omega)
    have xN:=blk5n HC.out.bn;go_upto_region 19 with (fail)
    clear xN h8 h9;obtain ⟨qA,hqA⟩:∃ x,kv2=x:=⟨_,rfl⟩
    obtain ⟨qc,hqc⟩:∃ x,kc2=x:=⟨_,rfl⟩
    rw [hqA,hqc] at HC;have HCC:=HC.out;obtain ⟨vA,vc,rfl⟩:=zajZ HCC.st.row;have hbo:=HCC.bo;have hrow:=HCC.st.row;have hfo:=HCC.st.fo;rw [hml] at hrow hfo;have HML:=hZz hml;obtain ⟨o9,ho9⟩:∃ o,Obj.cells #[.int .i64 nk,.string nt,.int .i64 ni,.slice none 0 0,.slice qA im qc] 58=o:=⟨_,rfl⟩
    have hbA:Below wr.heap.size wr (wr.alloc o9).drew:=(zacZ wr o9).drew;have HCA:=hZz (HCC.below hbA);have HOW:=hZz (zagZ hrow hbA);have HNW:Hid (∀ q u,([.int .i64 nk,.string nt,.int .i64 ni,.slice none 0 0,.slice qA im qc]:List Value)[q]? = some u→(wr.alloc o9).drew.cell? ((⟨wr.heap.size,0,none⟩:Addr).add q)=some u):=hZz (by rw [← ho9];exact zapY wr _ 58);have HSZ:Hid (w0.heap.size≤(wr.alloc o9).drew.heap.size):=hZz (Nat.le_trans HCC.st.bl.size hbA.size);have HBA:=hZz (hbo.below hbA);have HFA:=hZz (hfo.below hbA);have HSd:Hid (Blk wr.drew gO 58 #[.int .i64 nk,.string nt,.int .i64 ni,.slice none 0 0,.slice qA im qc]):=hZz hbo;have HNOO:Hid (some gO≠(Value.slice vA M.length vc).ownBlock):=hZz (fun e=>HCC.nO e.symm);have HOF:Hid (gO≠gF):=hZz (by have:=HCC.geO;have:=HCC.ltF;omega);rw [← ho9] at HCA HOW HNW HSZ HBA HFA;rw [hml] at HNOO;obtain ⟨i9,hj9,hy90,hy91,hy92⟩:=info_parts Tryz.infoNode;obtain ⟨y0,y1,y2⟩:=blkF hfo;obtain ⟨ya0,ya1,ya2⟩:=blkF HFA.out;clear HCC hbo hrow hfo hml hbA ho9 hqA hqc;refine wp_region_held_drew (S:=(fun w'=>w'.cell? ⟨gO,0,none⟩=some (.int .i64 nk)∧w'.cell? ⟨gO,1,none⟩=some (.string nt)∧w'.cell? ⟨gO,2,none⟩=some (.int .i64 ni)∧w'.cell? ⟨gO,3,none⟩=some (.slice none 0 0)∧w'.cell? ⟨gO,4,none⟩=some (.slice qA im qc))) (by kernel_rfl) (by (first | exact blk5n HSd.out | exact blk5n HBA.out | exact blk5n HB9.out | exact blk5n (HB9s.out _))) (fun hHeld=>?_)
    refine tkZ (i:=0) (v:=.pointer (some ⟨gF,0,none⟩)) rfl ?_
    simp only [nz,Act.put];refine tkZ (i:=1) (v:=.pointer (some ⟨gF,0,none⟩)) rfl ?_
    simp only [nz,Act.put];refine tkZ (i:=2) (v:=.pointer (some ⟨gF,0,none⟩)) rfl ?_
    simp only [nz,Act.put];refine tkZ (i:=3) (v:=.pointer (some ⟨gF,2,none⟩)) rfl ?_
    simp only [nz,Act.put];refine tkZ (i:=5) (v:=.agg #[.int .i64 nk,.string nt,.int .i64 ni,.slice none 0 0,.slice qA im qc]) rfl ?_
    simp only [nz,Act.put];refine wpAnyH_ready (rs:=[4,6]) (by kernel_rfl) (by simp) ?_
    refine AllReadyH.cons (o:=_) rfl (fun K hK=>?_) ?_
    focus
     go_simp;refine hK.out _ _ (by (try dsimp only);(first | exact blk5n HSd.out | exact blk5n HBA.out | exact blk5n HB9.out | exact blk5n (HB9s.out _))) (fun hHeld=>?_)
     clear hK K
     try simp only [nz,Act.put]
     refine wpAnyH_ready (rs:=[6]) (by kernel_rfl) (by simp) ?_
     refine AllReadyH.cons (o:=_) rfl (fun K hK=>?_) AllReadyH.nil
     go_simp;refine hK.out _ _ (by (try dsimp only);(first | exact blk5n HSd.out | exact blk5n HBA.out | exact blk5n HB9.out | exact blk5n (HB9s.out _))) (fun hHeld=>?_)
     clear hK K
     try simp only [nz,Act.put]
     refine wpAnyH_ready (rs:=[7]) (by kernel_rfl) (by simp) ?_
     refine AllReadyH.cons (o:=_) rfl (fun K hK=>?_) AllReadyH.nil
     try simp only [List.getElem_toArray,List.getElem_cons_succ,List.getElem_cons_zero]
     (rw [if_pos (by rfl)];refine wp_append_lies _ (.tmp 115) (.tmp 117) 22 rfl w0.heap.size 58 i9 _ 5 80 underlying22 hj9 hy90 hy91 hy92 rfl (by decide) _ i _ rfl HOW.out ⟨wr.heap.size,0,none⟩ 1 1 [.int .i64 nk,.string nt,.int .i64 ni,.slice none 0 0,.slice qA im qc] ?k7 rfl HNW.out (by simp [Value.oneCell']) (by decide) (by unfold maxLen;omega) (by omega) HSZ.out _ rfl ?_;(case k7=>first | rfl | simp);intro g9 cap9 w9 hown9 hgr9 hat9 hlt9;have HB9:=hZz (HBA.out.grown hgr9 HNOO.out);have HB9s:Hid (∀ u,Blk (w9.setCell ⟨gF,2,none⟩ u) gO 58 #[.int .i64 nk,.string nt,.int .i64 ni,.slice none 0 0,.slice qA im qc]):=hZz (fun u=>HB9.out.far (p:=⟨gF,2,none⟩) HOF.out u);have HF9:=hZz (HFA.out.grown hgr9 (zafZ HOW.out HFA.out (by decide)));obtain ⟨f0,f1,f2⟩:=blkF HF9.out;have z9:=HF9.out.frozen 2;have HO9:=hZz hown9;have HG9:Hid ((wr.alloc (.cells #[.int .i64 nk,.string nt,.int .i64 ni,.slice none 0 0,.slice qA im qc] 58)).drew.grownBy w9 (Value.slice vA i vc).ownBlock):=hZz hgr9;have HA9:Hid ((Value.slice vA i vc).ownBlock=some g9∨g9=(wr.alloc (.cells #[.int .i64 nk,.string nt,.int .i64 ni,.slice none 0 0,.slice qA im qc] 58)).drew.heap.size):=hZz hat9;clear hown9 hgr9 hat9)
     refine hK.out _ _ (by (try dsimp only);(first | exact blk5n HSd.out | exact blk5n HBA.out | exact blk5n HB9.out | exact blk5n (HB9s.out _))) (fun hHeld=>?_)
     clear hK K
     try simp only [nz,Act.put]
     refine tkZ (i:=8) (v:=.pointer (some ⟨gF,0,none⟩)) rfl ?_
     simp only [nz,Act.put];refine tkZ (i:=9) (v:=.pointer (some ⟨gF,2,none⟩)) rfl ?_
     simp only [nz,Act.put];refine wpAnyH_ready (rs:=[10]) (by kernel_rfl) (by simp) ?_
     refine AllReadyH.cons (o:=_) rfl (fun K hK=>?_) AllReadyH.nil
     go_simp;refine hK.out _ _ (by (try dsimp only);(first | exact blk5n HSd.out | exact blk5n HBA.out | exact blk5n HB9.out | exact blk5n (HB9s.out _))) (fun hHeld=>?_)
     clear hK K
     try simp only [nz,Act.put]
     refine wpAnyH_done (by kernel_rfl) ?_ _
     try dsimp only [List.getElem_toArray,List.getElem_cons_succ,List.getElem_cons_zero,Act.put]
    rotate_left 1;refine AllReadyH.cons (o:=_) rfl (fun K hK=>?_) AllReadyH.nil
    go_simp;refine hK.out _ _ (by (try dsimp only);(first | exact blk5n HSd.out | exact blk5n HBA.out | exact blk5n HB9.out | exact blk5n (HB9s.out _))) (fun hHeld=>?_)
    clear hK K
    try simp only [nz,Act.put]
    refine wpAnyH_ready (rs:=[4]) (by kernel_rfl) (by simp) ?_
    refine AllReadyH.cons (o:=_) rfl (fun K hK=>?_) AllReadyH.nil
    go_simp;refine hK.out _ _ (by (try dsimp only);(first | exact blk5n HSd.out | exact blk5n HBA.out | exact blk5n HB9.out | exact blk5n (HB9s.out _))) (fun hHeld=>?_)
    clear hK K
    try simp only [nz,Act.put]
    refine wpAnyH_ready (rs:=[7]) (by kernel_rfl) (by simp) ?_
    refine AllReadyH.cons (o:=_) rfl (fun K hK=>?_) AllReadyH.nil
    try simp only [List.getElem_toArray,List.getElem_cons_succ,List.getElem_cons_zero]
    (rw [if_pos (by rfl)];refine wp_append_lies _ (.tmp 115) (.tmp 117) 22 rfl w0.heap.size 58 i9 _ 5 80 underlying22 hj9 hy90 hy91 hy92 rfl (by decide) _ i _ rfl HOW.out ⟨wr.heap.size,0,none⟩ 1 1 [.int .i64 nk,.string nt,.int .i64 ni,.slice none 0 0,.slice qA im qc] ?k7 rfl HNW.out (by simp [Value.oneCell']) (by decide) (by unfold maxLen;omega) (by omega) HSZ.out _ rfl ?_;(case k7=>first | rfl | simp);intro g9 cap9 w9 hown9 hgr9 hat9 hlt9;have HB9:=hZz (HBA.out.grown hgr9 HNOO.out);have HB9s:Hid (∀ u,Blk (w9.setCell ⟨gF,2,none⟩ u) gO 58 #[.int .i64 nk,.string nt,.int .i64 ni,.slice none 0 0,.slice qA im qc]):=hZz (fun u=>HB9.out.far (p:=⟨gF,2,none⟩) HOF.out u);have HF9:=hZz (HFA.out.grown hgr9 (zafZ HOW.out HFA.out (by decide)));obtain ⟨f0,f1,f2⟩:=blkF HF9.out;have z9:=HF9.out.frozen 2;have HO9:=hZz hown9;have HG9:Hid ((wr.alloc (.cells #[.int .i64 nk,.string nt,.int .i64 ni,.slice none 0 0,.slice qA im qc] 58)).drew.grownBy w9 (Value.slice vA i vc).ownBlock):=hZz hgr9;have HA9:Hid ((Value.slice vA i vc).ownBlock=some g9∨g9=(wr.alloc (.cells #[.int .i64 nk,.string nt,.int .i64 ni,.slice none 0 0,.slice qA im qc] 58)).drew.heap.size):=hZz hat9;clear hown9 hgr9 hat9)
    refine hK.out _ _ (by (try dsimp only);(first | exact blk5n HSd.out | exact blk5n HBA.out | exact blk5n HB9.out | exact blk5n (HB9s.out _))) (fun hHeld=>?_)
    clear hK K
    try simp only [nz,Act.put]
    refine tkZ (i:=8) (v:=.pointer (some ⟨gF,0,none⟩)) rfl ?_
    simp only [nz,Act.put];refine tkZ (i:=9) (v:=.pointer (some ⟨gF,2,none⟩)) rfl ?_
    simp only [nz,Act.put];refine wpAnyH_ready (rs:=[10]) (by kernel_rfl) (by simp) ?_
    refine AllReadyH.cons (o:=_) rfl (fun K hK=>?_) AllReadyH.nil
    go_simp;refine hK.out _ _ (by (try dsimp only);(first | exact blk5n HSd.out | exact blk5n HBA.out | exact blk5n HB9.out | exact blk5n (HB9s.out _))) (fun hHeld=>?_)
    clear hK K
    try simp only [nz,Act.put]
    refine wpAnyH_done (by kernel_rfl) ?_ _
    try dsimp only [List.getElem_toArray,List.getElem_cons_succ,List.getElem_cons_zero,Act.put]
    all_goals
     have hpu:=HCA.out.push (c:=(nk,nt,ni,qA,im,qc)) (nv2:=.slice (some ⟨g9,0,none⟩) (i+1) cap9) (by rw [HML.out];exact HO9.out) (by rw [HML.out];exact HG9.out) (by rw [HML.out];exact HA9.out.imp id (fun e=>by rw [e];rfl));have HPU:=hZz hpu;clear hpu;go_wp2_with (fail)
     exact HP.out _ _ ⟨.slice (some ⟨g9,0,none⟩) (i+1) cap9,M,(nk,nt,ni,qA,im,qc),by first | rfl | (congr 2;omega),HML.out,rfl,HPU.out.1,HPU.out.2⟩
end
end Go.Proofs.YthiimbhjpdphpaaGreatDoor
