/- Z0, Z3, Z1, Z2 -/
import Derived.Test.YthiimbhjpdphpaaGreatDoorPU18
import Derived.Test.YthiimbhjpdphpaaGreatDoorPE18
set_option linter.unusedVariables false
set_option linter.unusedSimpArgs false
namespace Go.Proofs.YthiimbhjpdphpaaGreatDoor
open Go.RowKit
set_option maxRecDepth 100000
set_option maxHeartbeats 8000000
open Go.Proofs.Tryz
section
def cV (c:CellD):Value:=.agg #[.int .i64 c.kind,.int .i64 c.int,.string c.str,.int .i64 c.n]
def cA (c:CellD):Array Value:=#[.int .i64 c.kind,.int .i64 c.int,.string c.str,.int .i64 c.n]
def OptC (o:Option CellD) (w:World) (e:Ending) (w':World):Prop:=∃ c,e=.returned (.tuple #[cV c,.bool o.isSome])∧(∀ x,o=some x→c=x)∧Below w.heap.size w w'
def unF (op:List UInt8) (x:CellD):Option CellD:=if op=[110,111,116]∧x.kind=2 then some (bCel (decide (x.int=0))) else if op=[45]∧x.kind=3 then some (iCel (-x.int)) else none
def orF (op:List UInt8) (c:Int):Option CellD:=if op=[60] then some (bCel (decide (c<0))) else if op=[60,61] then some (bCel (decide (c≤0))) else if op=[62] then some (bCel (decide (c > 0))) else if op=[62,61] then some (bCel (decide (c ≥ 0))) else none
def coF (a b:CellD):Int:=if a.int<b.int∨Op.bytesLess a.str.toList b.str.toList=true then -1 else if b.int<a.int∨(!Op.bytesLess a.str.toList b.str.toList && !(a.str.toList == b.str.toList))=true then 1 else 0
theorem set4 {w:World} {g:Nat} {t:TypeId} {a0 a1 a2 a3:Value} (h:Blk w g t #[a0,a1,a2,a3]) (v0 v1 v2 v3:Value):(w.frozen? ⟨g,0,none⟩=false∧(w.setCell ⟨g,0,none⟩ v0).frozen? ⟨g,1,none⟩=false∧((w.setCell ⟨g,0,none⟩ v0).setCell ⟨g,1,none⟩ v1).frozen? ⟨g,2,none⟩=false∧(((w.setCell ⟨g,0,none⟩ v0).setCell ⟨g,1,none⟩ v1).setCell ⟨g,2,none⟩ v2).frozen? ⟨g,3,none⟩=false)∧(w.cell? ⟨g,0,none⟩=some a0∧w.cell? ⟨g,1,none⟩=some a1∧w.cell? ⟨g,2,none⟩=some a2∧w.cell? ⟨g,3,none⟩=some a3)∧Blk ((((w.setCell ⟨g,0,none⟩ v0).setCell ⟨g,1,none⟩ v1).setCell ⟨g,2,none⟩ v2).setCell ⟨g,3,none⟩ v3) g t #[v0,v1,v2,v3]:=by
 have h0:Blk (w.setCell ⟨g,0,none⟩ v0) g t #[v0,a1,a2,a3]:=h.set_ 0 v0;have h1:Blk ((w.setCell ⟨g,0,none⟩ v0).setCell ⟨g,1,none⟩ v1) g t #[v0,v1,a2,a3]:=h0.set_ 1 v1;have h2:Blk (((w.setCell ⟨g,0,none⟩ v0).setCell ⟨g,1,none⟩ v1).setCell ⟨g,2,none⟩ v2) g t #[v0,v1,v2,a3]:=h1.set_ 2 v2;exact ⟨⟨h.frozen 0,h0.frozen 1,h1.frozen 2,h2.frozen 3⟩,⟨h.cell 0 _ rfl,h.cell 1 _ rfl,h.cell 2 _ rfl,h.cell 3 _ rfl⟩,h2.set_ 3 v3⟩
theorem zawY {B g:Nat} {w w':World} (h:Below B w w') (hB:B≤w'.heap.size) (hg:B≤g) (i:Nat) (u:Value):Below B w (w'.setCell ⟨g,i,none⟩ u)∧B≤(w'.setCell ⟨g,i,none⟩ u).heap.size:=by
 have h2:=h.grown (zacY w' g i u) hB (fun k hk=>by injection hk with hk;omega);exact ⟨h2,Nat.le_trans hB (zacY w' g i u).size⟩
theorem zajZ {B g:Nat} {w w':World} (h:Below B w w') (hB:B≤w'.heap.size) (hg:B≤g) (v0 v1 v2 v3:Value):Below B w ((((w'.setCell ⟨g,0,none⟩ v0).setCell ⟨g,1,none⟩ v1).setCell ⟨g,2,none⟩ v2).setCell ⟨g,3,none⟩ v3):=by
 have g0:=zawY h hB hg 0 v0;have g1:=zawY g0.1 g0.2 hg 1 v1;have g2:=zawY g1.1 g1.2 hg 2 v2;exact (zawY g2.1 g2.2 hg 3 v3).1
theorem blk4z {w:World} {g:Nat} {t:TypeId} {v0 v1 v2 v3:Value} (h:Blk w g t #[v0,v1,v2,v3]):w.cell? ⟨g,0,none⟩=some v0∧w.cell? ⟨g,1,none⟩=some v1∧w.cell? ⟨g,2,none⟩=some v2∧w.cell? ⟨g,3,none⟩=some v3 :=
 ⟨h.cell 0 _ rfl,h.cell 1 _ rfl,h.cell 2 _ rfl,h.cell 3 _ rfl⟩
theorem cell_new4 (w:World) (t:TypeId) (a b c d:Value):(w.alloc (.cells #[a,b,c,d] t)).cell? ⟨w.heap.size,0,none⟩=some a∧(w.alloc (.cells #[a,b,c,d] t)).cell? ⟨w.heap.size,1,none⟩=some b∧(w.alloc (.cells #[a,b,c,d] t)).cell? ⟨w.heap.size,2,none⟩=some c∧(w.alloc (.cells #[a,b,c,d] t)).cell? ⟨w.heap.size,3,none⟩=some d:=blk4z (Blk.new w t #[a,b,c,d])
attribute [local go_sem] zacZ
set_option maxHeartbeats 4000000 in
theorem zb1Y (b:Bool) (w:World):Calls prog 128 #[.bool b] w fun e w'=>e=.returned (cV (bCel b))∧Below w.heap.size w w':=by
 obtain ⟨P,hP⟩:∃ P:Ending→World→Prop,(fun e w'=>e=.returned (cV (bCel b))∧Below w.heap.size w w')=P:=⟨_,rfl⟩
 rw [hP];have HP:Hid (∀ v w',v=cV (bCel b)→Below w.heap.size w w'→P (.returned v) w'):=hZz (fun v w' h1 h2=>by rw [← hP,h1];exact ⟨rfl,h2⟩);clear hP;cases b
 all_goals
  go_enter func128,ntmps128
  go_wp2_with (fail)
  refine bodyPost_ret (by simp [results,Tryz.results128,go_sem,cell_new4];rfl) rfl ?_
  exact HP.out _ _ rfl (zabZ _ _)
theorem unary12_s (op:ByteArray) (x:CellD) (w:World) (hx : -1000000000000≤x.int∧x.int≤1000000000000):Calls prog 80 #[.string op,cV x] w (OptC (unF op.toList x) w):=by
 obtain ⟨O,hO⟩:∃ O,unF op.toList x=O:=⟨_,rfl⟩
 rw [hO];obtain ⟨P,hP⟩:∃ P:Ending→World→Prop,OptC O w=P:=⟨_,rfl⟩
 rw [hP];have HP:Hid (∀ c b w',b=O.isSome→(∀ x,O=some x→c=x)→Below w.heap.size w w'→P (.returned (.tuple #[cV c,.bool b])) w'):=hZz (fun c b w' h0 h1 h2=>by rw [← hP,h0];exact ⟨c,rfl,h1,h2⟩);obtain ⟨k,n,s,q⟩:=x;dsimp only at hx;unfold cV at HP ⊢;obtain ⟨gx,hgx⟩:∃ g,w.heap.size=g:=⟨_,rfl⟩
 obtain ⟨W1,hW1⟩:∃ W,w.alloc (.cells #[.int .i64 k,.int .i64 n,.string s,.int .i64 q] 103)=W:=⟨_,rfl⟩
 have HX1:Hid (Blk W1 gx 103 #[.int .i64 k,.int .i64 n,.string s,.int .i64 q]):=hZz (by rw [← hW1,← hgx];exact Blk.new _ _ _);obtain ⟨gr,hgr⟩:∃ g,W1.heap.size=g:=⟨_,rfl⟩
 obtain ⟨W2,hW2⟩:∃ W,W1.alloc (.cells #[.int .i64 0,.int .i64 0,.string ⟨#[]⟩,.int .i64 0] 103)=W:=⟨_,rfl⟩
 have hb1:Below w.heap.size w W1:=by rw [← hW1];exact zabZ _ _
 have hb2:Below W1.heap.size W1 W2:=by rw [← hW2];exact zabZ _ _
 have HX2:=hZz (HX1.out.below hb2);have HZ2:Hid (Blk W2 gr 103 #[.int .i64 0,.int .i64 0,.string ⟨#[]⟩,.int .i64 0]):=hZz (by rw [← hW2,← hgr];exact Blk.new _ _ _);have HB2:=hZz (zaaZ hb2 hb1 hb1.size);have HGL:Hid (w.heap.size≤gr):=hZz (by rw [← hgr];exact hb1.size);have HGR:Hid (gx+1=gr):=hZz (by rw [← hgr,← hW1,← hgx];simp);have HGX:=hZz hgx;have HW1:=hZz hW1;have HW2:=hZz hW2;have HO:=hZz hO;have hneg:IntKind.i64.wrap (-n)=-n:=IntWalk.i64_in _ (by omega);clear hP hgx hW1 hgr hW2 hb1 hb2 hO;go_enter func80,ntmps80
 go_upto_region 1 with fail
 rw [HGX.out,HW1.out];rw [HGR.out,HW2.out];clear HGX HW1 HGR HW2;have HTR:Hid (∀ b wx,Calls prog 128 #[.bool b] wx fun e w'=>e=.returned (cV (bCel b))∧Below wx.heap.size wx w'):=hZz zb1Y;obtain ⟨bn,hbn⟩:∃ b,(op.toList == [110,111,116])=b:=⟨_,rfl⟩
 obtain ⟨bm,hbm⟩:∃ b,(op.toList == [45])=b:=⟨_,rfl⟩
 obtain ⟨k2,hk2⟩:∃ b,(k == 2)=b:=⟨_,rfl⟩
 obtain ⟨k3,hk3⟩:∃ b,(k == 3)=b:=⟨_,rfl⟩
 have HOO:Hid (O=if bn && k2 then some (bCel (n == 0)) else if bm && k3 then some (iCel (-n)) else none):=hZz (by
  rw [← HO.out,← hbn,← hbm,← hk2,← hk3];unfold unF;simp only [Bool.and_eq_true,beq_iff_eq];rfl)
 have x2:=blk4z HX2.out;have hcs:(bn=true∧k2=true)∨((bn && k2)=false):=by cases bn <;> cases k2 <;> simp
 rcases hcs with ⟨rfl,rfl⟩ | hcs
 ·obtain ⟨c,hc⟩:∃ c,bCel (n == 0)=c:=⟨_,rfl⟩
  have HC:=hZz (HTR.out (n == 0) W2);rw [hc] at HC HOO;clear hc;obtain ⟨ck,ci,cs,cn⟩:=c;unfold cV at HC
  go_wp2_with (first
   | (go_at_call 128;(with_reducible refine HC.out.mono ?_);rintro e w3 ⟨rfl,hb3⟩;have HB3:=hZz (zaaZ hb3 HB2.out HB2.out.size);have HZ3:=hZz (HZ2.out.below hb3);clear hb3;obtain ⟨⟨z0,z1,z2,z3⟩,⟨y0,y1,y2,y3⟩,hf⟩:=set4 HZ3.out (.int .i64 ck) (.int .i64 ci) (.string cs) (.int .i64 cn);have HF:=hZz hf;have HBF:=hZz (zajZ HB3.out HB3.out.size HGL.out (.int .i64 ck) (.int .i64 ci) (.string cs) (.int .i64 cn));clear hf))
  obtain ⟨q0,q1,q2,q3⟩:=blk4z HF.out;clear z0 z1 z2 z3 y0 y1 y2 y3;refine bodyPost_ret (by simp [results,Tryz.results80,go_sem,q0,q1,q2,q3];rfl) rfl ?_
  exact HP.out ⟨ck,ci,cs,cn⟩ _ _ (by rw [HOO.out];rfl) (fun x hx=>by rw [HOO.out] at hx;cases hx;rfl) HBF.out
 go_cut [12] from 6 to 12 (fun u wx=>u=.bool false∧wx=W2)
 case first =>
  have h2:bn=false∨(bn=true∧k2=false):=by cases bn <;> cases k2 <;> simp_all
  clear hcs;rcases h2 with rfl | ⟨rfl,rfl⟩
  ·go_wp2_with (fail)
   go_meet
   exact ⟨rfl,rfl⟩
  ·go_wp2_with (fail)
   go_meet
   exact ⟨rfl,rfl⟩
 case rest =>
  obtain ⟨rfl,hwc⟩:=hcut;rw [hwc];clear hwc;have HO2:Hid (O=if bm && k3 then some (iCel (-n)) else none):=hZz (by rw [HOO.out,if_neg (by rw [hcs];simp)]);clear hcs hbn HOO;have hcs:(bm=true∧k3=true)∨((bm && k3)=false):=by cases bm <;> cases k3 <;> simp
  rcases hcs with ⟨rfl,rfl⟩ | hcs
  ·obtain ⟨⟨z0,z1,z2,z3⟩,⟨y0,y1,y2,y3⟩,hf⟩:=set4 HZ2.out (.int .i64 3) (.int .i64 (-n)) (.string ⟨#[]⟩) (.int .i64 0)
   have HF:=hZz hf;have HBF:=hZz (zajZ HB2.out HB2.out.size HGL.out (.int .i64 3) (.int .i64 (-n)) (.string ⟨#[]⟩) (.int .i64 0));clear hf;go_wp2_with (fail)
   obtain ⟨q0,q1,q2,q3⟩:=blk4z HF.out;clear z0 z1 z2 z3 y0 y1 y2 y3;refine bodyPost_ret (by simp [results,Tryz.results80,go_sem,q0,q1,q2,q3];rfl) rfl ?_
   exact HP.out (iCel (-n)) _ _ (by rw [HO2.out];rfl) (fun x hx=>by rw [HO2.out] at hx;cases hx;rfl) HBF.out
  ·obtain ⟨⟨z0,z1,z2,z3⟩,⟨y0,y1,y2,y3⟩,hf⟩:=set4 HZ2.out (.int .i64 0) (.int .i64 0) (.string ⟨#[]⟩) (.int .i64 0)
   have HF:=hZz hf;have HBF:=hZz (zajZ HB2.out HB2.out.size HGL.out (.int .i64 0) (.int .i64 0) (.string ⟨#[]⟩) (.int .i64 0));have HNO:Hid (O=none):=hZz (by rw [HO2.out,if_neg (by rw [hcs];simp)]);clear hf;have hfin:P (.returned (.tuple #[cV noCell,.bool false])) ((((W2.setCell ⟨gr,0,none⟩ (.int .i64 0)).setCell ⟨gr,1,none⟩ (.int .i64 0)).setCell ⟨gr,2,none⟩ (.string ⟨#[]⟩)).setCell ⟨gr,3,none⟩ (.int .i64 0)):=HP.out noCell _ _ (by rw [HNO.out];rfl) (fun x hx=>by rw [HNO.out] at hx;cases hx) HBF.out;have HFN:=hZz hfin;clear hfin;have h2:bm=false∨(bm=true∧k3=false):=by cases bm <;> cases k3 <;> simp_all
   clear hcs HO2;rcases h2 with rfl | ⟨rfl,rfl⟩
   all_goals
    go_wp2_with (fail)
    obtain ⟨q0,q1,q2,q3⟩:=blk4z HF.out;clear z0 z1 z2 z3 y0 y1 y2 y3;refine bodyPost_ret (by simp [results,Tryz.results80,go_sem,q0,q1,q2,q3];rfl) rfl ?_
    exact HFN.out
end
section
structure FtSt (w0 w:World) (S:ProgS) (gF:Nat) (nv:Value) (L:List NodeX):Prop where
 fo:Blk w gF 76 #[.slice S.A S.p.nodes.length S.ncap,.slice S.B S.p.funcs.length S.fcap,nv]
 row:w.ownsRow w0.heap.size 58 5 nv L.length (L.flatMap nodeRow)
 keys:∀ p∈L,KeysV w0 p.2.1 p.1.keys
 kids:∀ p∈L,w.ownsRow w0.heap.size 3 1 p.2.2 p.1.kids.length (p.1.kids.map (Value.int .i64))
 bl:Below w0.heap.size w0 w
 bF:w0.heap.size≤gF
section
variable {w0 w w':World} {S:ProgS} {gF:Nat} {nv nv':Value} {L:List NodeX}
theorem FtSt.below (h:FtSt w0 w S gF nv L) (hb:Below w.heap.size w w'):FtSt w0 w' S gF nv L :=
 ⟨h.fo.below hb,zagZ h.row hb,h.keys,fun p hp=>zagZ (h.kids p hp) hb,zaaZ hb h.bl h.bl.size,h.bF⟩
theorem FtSt.sl (h:FtSt w0 w S gF nv L):∃ A c,nv=.slice A L.length c∧SlAt w A 5 nodeRow L:=by
 obtain ⟨A,c,rfl⟩:=zahZ h.row;exact ⟨A,c,rfl,SlAt.of_own h.row rfl (fun _=>rfl) (by decide)⟩
theorem FtSt.nodes (h:FtSt w0 w S gF nv L) (hl:L.length≤1000000) (hk:∀ p∈L,p.1.kids.length≤1000000):NodesV w nv (L.map Prod.fst):=by
 obtain ⟨A,c,rfl,hs⟩:=h.sl;exact nodes_sl hs (fun p hp=>⟨(h.keys p hp).below h.bl,ints_own (h.kids p hp) (by have:=hk p hp;omega)⟩) (zb6Y h.row) hl
end
attribute [local go_sem] zacZ
theorem constant12_s (w0 w:World) (S:ProgS) (gF:Nat) (nv:Value) (L:List NodeX) (h:FtSt w0 w S gF nv L) (hl:L.length≤100000) (j:Nat) (hj:j<L.length) (h8:(L[j]).1.kind=8→0<(L[j]).1.kids.length∧∃ m:Nat,(L[j]).1.kids.getD 0 0=m∧∃ hm:m<L.length,(L[m]).1.kind=3→(-1000000000000≤(L[m]).1.int∧(L[m]).1.int≤1000000000000)) :
  Calls prog 79 #[nv,.int .i64 j] w (OptC (constF (L.map Prod.fst) (L[j]).1) w):=by
 obtain ⟨O,hO⟩:∃ o,constF (L.map Prod.fst) (L[j]).1=o:=⟨_,rfl⟩
 rw [hO];obtain ⟨P,hP⟩:∃ P:Ending→World→Prop,OptC O w=P:=⟨_,rfl⟩
 rw [hP];have HP:Hid (∀ c b w',b=O.isSome→(∀ x,O=some x→c=x)→Below w.heap.size w w'→P (.returned (.tuple #[cV c,.bool b])) w'):=hZz (fun c b w' h0 h1 h2=>by rw [← hP,h0];exact ⟨c,rfl,h1,h2⟩);unfold cV at HP;obtain ⟨A,cap,hnv,hs⟩:=h.sl;obtain ⟨b,off,rfl,hb⟩:=hs.ptr hj;obtain ⟨c0,c1,c2,c3,c4⟩:=node_sl hs hj;obtain ⟨kA,kc,hk⟩:=(h.keys _ (List.getElem_mem hj)).shape;obtain ⟨iA,ic,hi⟩:=zahZ (h.kids _ (List.getElem_mem hj));rw [hk] at c3;rw [hi] at c4;have hco:O=constF (L.map Prod.fst) (L[j]).1:=hO.symm;unfold constF at hco
 have H8:Hid ((L[j]).1.kind=8→∃ (m:Nat) (b1 o1:Nat) (mk:Int) (mt:ByteArray) (mi:Int) (ka:Option Addr) (kb kc:Nat) (ja:Option Addr) (jb jc:Nat) (iA:Option Addr) (ic:Nat),m<L.length∧(L[j]).2.2=.slice iA (L[j]).1.kids.length ic∧iA=some ⟨b1,o1,none⟩∧0<(L[j]).1.kids.length∧(mk=3→-1000000000000≤mi∧mi≤1000000000000) ∧
   (∀ wx,Below w.heap.size w wx→wx.cell? ⟨b1,o1,none⟩=some (.int .i64 m)∧wx.cell? ⟨b,off+m * 5,none⟩=some (.int .i64 mk)∧wx.cell? ⟨b,off+m * 5+1,none⟩=some (.string mt)∧wx.cell? ⟨b,off+m * 5+2,none⟩=some (.int .i64 mi)∧wx.cell? ⟨b,off+m * 5+3,none⟩=some (.slice ka kb kc)∧wx.cell? ⟨b,off+m * 5+4,none⟩=some (.slice ja jb jc)) ∧
   (O=if (L[j]).1.text.toList=[45]∧mk=3∧0<mi then some (iCel (-mi)) else none)):=hZz (fun hk8=>by
  obtain ⟨hkl,m,hm,hml,hmi⟩:=h8 hk8;obtain ⟨iA,ic,hi⟩:=zahZ (h.kids _ (List.getElem_mem hj));have hid:=h.kids _ (List.getElem_mem hj);rw [hi] at hid;have hsl:SlAt w iA 1 (fun k=>[Value.int .i64 k]) (L[j]).1.kids:=SlAt.of_own hid (by rw [← List.map_eq_flatMap]) (fun _=>rfl) (by decide);obtain ⟨b1,o1,hiA,_⟩:=hsl.ptr hkl;obtain ⟨ka,kc,hka⟩:=(h.keys _ (List.getElem_mem hml)).shape;obtain ⟨ja,jc,hja⟩:=zahZ (h.kids _ (List.getElem_mem hml));refine ⟨m,b1,o1,(L[m]).1.kind,(L[m]).1.text,(L[m]).1.int,ka,(L[m]).1.keys.length,kc,ja,(L[m]).1.kids.length,jc,iA,ic,hml,hi,hiA,hkl,hmi,fun wx hb=>?_,?_⟩
  ·subst hiA
   obtain ⟨d0,d1,d2,d3,d4⟩:=node_sl (hs.below hb) hml;rw [hka] at d3;rw [hja] at d4;have d5:=(hsl.below hb).cell0 hkl (v:=.int .i64 ((L[j]).1.kids[0])) rfl;have e0:(L[j]).1.kids[0]=(m:Int):=by rw [← hm,List.getD_eq_getElem?_getD,List.getElem?_eq_getElem hkl];rfl
   rw [e0] at d5;exact ⟨by simpa using d5,d0,d1,d2,d3,d4⟩
  ·rw [hco,if_neg (by omega),if_neg (by omega),if_neg (by omega),if_neg (by omega)]
   have e1:((L.map Prod.fst).getD ((L[j]).1.kids.getD 0 0).toNat noNode)=(L[m]).1:=by
    rw [hm,Int.toNat_natCast,List.getD_eq_getElem?_getD,List.getElem?_map,List.getElem?_eq_getElem hml];rfl
   rw [e1];simp only [hk8,true_and])
 obtain ⟨n,hn⟩:∃ n,(L[j]).1=n:=⟨_,rfl⟩
 rw [hn] at c0 c1 c2 c3 c4 H8 hco;have H1:Hid (n.kind=1→O=some nulC):=hZz (fun h=>by rw [hco,if_pos h]);have H2:Hid (n.kind=2→O=some ⟨2,n.int,⟨#[]⟩,0⟩):=hZz (fun h=>by rw [hco,if_neg (by omega),if_pos h]);have H3:Hid (n.kind=3→O=some (iCel n.int)):=hZz (fun h=>by rw [hco,if_neg (by omega),if_neg (by omega),if_pos h]);have H4:Hid (n.kind=4→O=some (sCel n.text)):=hZz (fun h=>by rw [hco,if_neg (by omega),if_neg (by omega),if_neg (by omega),if_pos h]);have H0:Hid (n.kind≠1∧n.kind≠2∧n.kind≠3∧n.kind≠4∧n.kind≠8→O=none):=hZz (fun h=>by rw [hco,if_neg h.1,if_neg h.2.1,if_neg h.2.2.1,if_neg h.2.2.2.1,if_neg (fun hh=>h.2.2.2.2 hh.1)]);obtain ⟨nk,hnk⟩:∃ t,n.kind=t:=⟨_,rfl⟩
 obtain ⟨ni,hni⟩:∃ t,n.int=t:=⟨_,rfl⟩
 obtain ⟨nt,hnt⟩:∃ t,n.text=t:=⟨_,rfl⟩
 obtain ⟨nq,hnq⟩:∃ t,n.keys.length=t:=⟨_,rfl⟩
 obtain ⟨nm,hnm⟩:∃ t,n.kids.length=t:=⟨_,rfl⟩
 rw [hnk] at c0 H8 H1 H2 H3 H4 H0;rw [hni] at c2 H2 H3;rw [hnt] at c1 H8 H4;rw [hnq] at c3;rw [hnm] at c4 H8;rw [hi] at H8;obtain ⟨ln,hln⟩:∃ t,L.length=t:=⟨_,rfl⟩
 rw [hnv,hln];rw [hln] at hj hl H8;have hjI:(j:Int)<(ln:Int):=by omega
 have hj0:(0:Int)≤(j:Int):=by omega
 obtain ⟨gr,hgr⟩:∃ g,w.heap.size=g:=⟨_,rfl⟩
 obtain ⟨W1,hW1⟩:∃ W,w.alloc (.cells #[.int .i64 0,.int .i64 0,.string ⟨#[]⟩,.int .i64 0] 103)=W:=⟨_,rfl⟩
 have hb1:Below w.heap.size w W1:=by rw [← hW1];exact zabZ _ _
 obtain ⟨gn,hgn⟩:∃ g,W1.heap.size=g:=⟨_,rfl⟩
 obtain ⟨W2,hW2⟩:∃ W,W1.alloc (.cells #[.int .i64 nk,.string nt,.int .i64 ni,.slice kA nq kc,.slice iA nm ic] 58)=W:=⟨_,rfl⟩
 have hb2:Below W1.heap.size W1 W2:=by rw [← hW2];exact zabZ _ _
 have HZ:Hid (Blk W2 gr 103 #[.int .i64 0,.int .i64 0,.string ⟨#[]⟩,.int .i64 0]):=hZz (by
  have:Blk W1 gr 103 #[.int .i64 0,.int .i64 0,.string ⟨#[]⟩,.int .i64 0]:=by rw [← hW1,← hgr];exact Blk.new _ _ _
  exact this.below hb2)
 have HX:Hid (Blk W2 gn 58 #[.int .i64 nk,.string nt,.int .i64 ni,.slice kA nq kc,.slice iA nm ic]):=hZz (by rw [← hW2,← hgn];exact Blk.new _ _ _);have HBZ:=hZz (zaaZ hb2 hb1 hb1.size);have HGL:Hid (w.heap.size≤gr):=hZz (by rw [← hgr];exact Nat.le_refl _);have HGR:=hZz hgr;have HW1:=hZz hW1;have HW2:=hZz hW2;have HGN:=hZz hgn;have HB1:=hZz hb1;have k0:=cellK c0 hb1;have k1:=cellK c1 hb1;have k2:=cellK c2 hb1;have k3:=cellK c3 hb1;have k4:=cellK c4 hb1;clear hP hO hnv hs hb c0 c1 c2 c3 c4 hk hi hco hn hnk hni hnt hnq hnm hln hgr hW1 hb1 hgn hW2 hb2 h h8;go_enter func79,ntmps79
 go_upto_region 1 with fail
 rw [HGR.out,HW1.out];go_upto_region 2 with fail
 rw [HGN.out,HW2.out];clear k0 k1 k2 k3 k4 HGR HW1 HGN HW2;have x:=zalZ HX.out;have hkk:nk=1∨nk=2∨nk=3∨nk=4∨nk=8∨(nk≠1∧nk≠2∧nk≠3∧nk≠4∧nk≠8):=by omega
 rcases hkk with rfl | rfl | rfl | rfl | rfl | ⟨n1,n2,n3,n4,n8⟩
 ·have HOK:=hZz (H1.out rfl)
  obtain ⟨⟨z0,z1,z2,z3⟩,⟨y0,y1,y2,y3⟩,hf⟩:=set4 HZ.out (.int .i64 1) (.int .i64 0) (.string ⟨#[]⟩) (.int .i64 0);have HF:=hZz hf;have HBF:=hZz (zajZ HBZ.out HBZ.out.size HGL.out (.int .i64 1) (.int .i64 0) (.string ⟨#[]⟩) (.int .i64 0));clear hf;go_wp2_with (fail)
  obtain ⟨q0,q1,q2,q3⟩:=blk4z HF.out;clear z0 z1 z2 z3 y0 y1 y2 y3;refine bodyPost_ret (by simp [results,Tryz.results79,go_sem,q0,q1,q2,q3];rfl) rfl ?_
  exact HP.out (nulC) _ _ (by rw [HOK.out];rfl) (fun x hx=>by rw [HOK.out] at hx;cases hx;rfl) HBF.out
 ·have HOK:=hZz (H2.out rfl)
  obtain ⟨⟨z0,z1,z2,z3⟩,⟨y0,y1,y2,y3⟩,hf⟩:=set4 HZ.out (.int .i64 2) (.int .i64 ni) (.string ⟨#[]⟩) (.int .i64 0);have HF:=hZz hf;have HBF:=hZz (zajZ HBZ.out HBZ.out.size HGL.out (.int .i64 2) (.int .i64 ni) (.string ⟨#[]⟩) (.int .i64 0));clear hf;go_wp2_with (fail)
  obtain ⟨q0,q1,q2,q3⟩:=blk4z HF.out;clear z0 z1 z2 z3 y0 y1 y2 y3;refine bodyPost_ret (by simp [results,Tryz.results79,go_sem,q0,q1,q2,q3];rfl) rfl ?_
  exact HP.out (⟨2,ni,⟨#[]⟩,0⟩) _ _ (by rw [HOK.out];rfl) (fun x hx=>by rw [HOK.out] at hx;cases hx;rfl) HBF.out
 ·have HOK:=hZz (H3.out rfl)
  obtain ⟨⟨z0,z1,z2,z3⟩,⟨y0,y1,y2,y3⟩,hf⟩:=set4 HZ.out (.int .i64 3) (.int .i64 ni) (.string ⟨#[]⟩) (.int .i64 0);have HF:=hZz hf;have HBF:=hZz (zajZ HBZ.out HBZ.out.size HGL.out (.int .i64 3) (.int .i64 ni) (.string ⟨#[]⟩) (.int .i64 0));clear hf;go_wp2_with (fail)
  obtain ⟨q0,q1,q2,q3⟩:=blk4z HF.out;clear z0 z1 z2 z3 y0 y1 y2 y3;refine bodyPost_ret (by simp [results,Tryz.results79,go_sem,q0,q1,q2,q3];rfl) rfl ?_
  exact HP.out (iCel ni) _ _ (by rw [HOK.out];rfl) (fun x hx=>by rw [HOK.out] at hx;cases hx;rfl) HBF.out
 ·have HOK:=hZz (H4.out rfl)
  obtain ⟨⟨z0,z1,z2,z3⟩,⟨y0,y1,y2,y3⟩,hf⟩:=set4 HZ.out (.int .i64 4) (.int .i64 0) (.string nt) (.int .i64 0);have HF:=hZz hf;have HBF:=hZz (zajZ HBZ.out HBZ.out.size HGL.out (.int .i64 4) (.int .i64 0) (.string nt) (.int .i64 0));clear hf;go_wp2_with (fail)
  obtain ⟨q0,q1,q2,q3⟩:=blk4z HF.out;clear z0 z1 z2 z3 y0 y1 y2 y3;refine bodyPost_ret (by simp [results,Tryz.results79,go_sem,q0,q1,q2,q3];rfl) rfl ?_
  exact HP.out (sCel nt) _ _ (by rw [HOK.out];rfl) (fun x hx=>by rw [HOK.out] at hx;cases hx;rfl) HBF.out
 ·obtain ⟨m,b1,o1,mk,mt,mi,ka,kb,kd,ja,jb,jc,iA',ic',hml,he1,he2,hkl,hmi,hcell,hO8⟩:=H8.out rfl
  injection he1 with he1 he3 he4
  subst he1 he4 he2;have HO8:=hZz hO8;obtain ⟨d5,d0,d1,d2,d3,d4⟩:=hcell W2 HBZ.out;have hmI:(m:Int)<(ln:Int):=by omega
  have hm0:(0:Int)≤(m:Int):=by omega
  have hklI:(0:Int)<(nm:Int):=by omega
  have HMI:=hZz hmi;clear hmi;obtain ⟨gy,hgy⟩:∃ g,W2.heap.size=g:=⟨_,rfl⟩
  obtain ⟨W3,hW3⟩:∃ W,W2.alloc (.cells #[.int .i64 mk,.string mt,.int .i64 mi,.slice ka kb kd,.slice ja jb jc] 58)=W:=⟨_,rfl⟩
  have hb3:Below W2.heap.size W2 W3:=by rw [← hW3];exact zabZ _ _
  have HY:Hid (Blk W3 gy 58 #[.int .i64 mk,.string mt,.int .i64 mi,.slice ka kb kd,.slice ja jb jc]):=hZz (by rw [← hW3,← hgy];exact Blk.new _ _ _);have HX3:=hZz (HX.out.below hb3);have HZ3:=hZz (HZ.out.below hb3);have HB3:=hZz (zaaZ hb3 HBZ.out HBZ.out.size);have HGY:=hZz hgy;have HW3:=hZz hW3;clear hcell hO8 hgy hW3 hb3 hml hkl;go_upto_region 13 with fail
  rw [HGY.out,HW3.out];clear HGY HW3 d0 d1 d2 d3 d4 d5 x;have x3:=zalZ HX3.out;have y:=zalZ HY.out;obtain ⟨bm,hbm⟩:∃ b,(nt.toList == [45])=b:=⟨_,rfl⟩
  obtain ⟨k3,hk3⟩:∃ b,(mk == 3)=b:=⟨_,rfl⟩
  have HOO:Hid (O=if bm=true∧k3=true∧0<mi then some (iCel (-mi)) else none):=hZz (by
   rw [HO8.out,← hbm,← hk3];simp only [beq_iff_eq])
  by_cases hok:bm=true∧k3=true∧0<mi
  ·have HOK:Hid (O=some (iCel (-mi))):=hZz (by rw [HOO.out,if_pos hok])
   obtain ⟨rfl,rfl,hp⟩:=hok;have hneg:IntKind.i64.wrap (-mi)=-mi:=IntWalk.i64_in _ (by have:=HMI.out (by simpa using hk3);omega);obtain ⟨⟨z0,z1,z2,z3⟩,⟨y0,y1,y2,y3⟩,hf⟩:=set4 HZ3.out (.int .i64 3) (.int .i64 (-mi)) (.string ⟨#[]⟩) (.int .i64 0);have HF:=hZz hf;have HBF:=hZz (zajZ HB3.out HB3.out.size HGL.out (.int .i64 3) (.int .i64 (-mi)) (.string ⟨#[]⟩) (.int .i64 0));clear hf;go_wp2_with (fail)
   obtain ⟨q0,q1,q2,q3⟩:=blk4z HF.out;clear z0 z1 z2 z3 y0 y1 y2 y3;refine bodyPost_ret (by simp [results,Tryz.results79,go_sem,q0,q1,q2,q3];rfl) rfl ?_
   exact HP.out (iCel (-mi)) _ _ (by rw [HOK.out];rfl) (fun x hx=>by rw [HOK.out] at hx;cases hx;rfl) HBF.out
  ·have HOK:Hid (O=none):=hZz (by rw [HOO.out,if_neg hok])
   have hways:bm=false∨(bm=true∧k3=false)∨(bm=true∧k3=true∧¬ 0<mi):=by
    cases bm with
    | false=>exact .inl rfl
    | true =>
     cases k3 with
     | false=>exact .inr (.inl ⟨rfl,rfl⟩)
     | true=>exact .inr (.inr ⟨rfl,rfl,fun h=>hok ⟨rfl,rfl,h⟩⟩)
   clear hok;obtain ⟨⟨z0,z1,z2,z3⟩,⟨y0,y1,y2,y3⟩,hf⟩:=set4 HZ3.out (.int .i64 0) (.int .i64 0) (.string ⟨#[]⟩) (.int .i64 0);have HF:=hZz hf;have HBF:=hZz (zajZ HB3.out HB3.out.size HGL.out (.int .i64 0) (.int .i64 0) (.string ⟨#[]⟩) (.int .i64 0));clear hf;rcases hways with rfl | ⟨rfl,rfl⟩ | ⟨rfl,rfl,hp⟩
   all_goals
    go_wp2_with (fail)
    obtain ⟨q0,q1,q2,q3⟩:=blk4z HF.out;clear z0 z1 z2 z3 y0 y1 y2 y3;refine bodyPost_ret (by simp [results,Tryz.results79,go_sem,q0,q1,q2,q3];rfl) rfl ?_
    exact HP.out noCell _ _ (by rw [HOK.out];rfl) (fun x hx=>by rw [HOK.out] at hx;cases hx) HBF.out
 ·have HOK:=hZz (H0.out ⟨n1,n2,n3,n4,n8⟩)
  have b1:(nk == 1)=false:=by simp [n1]
  have b2:(nk == 2)=false:=by simp [n2]
  have b3:(nk == 3)=false:=by simp [n3]
  have b4:(nk == 4)=false:=by simp [n4]
  have b8:(nk == 8)=false:=by simp [n8]
  clear n1 n2 n3 n4 n8;obtain ⟨⟨z0,z1,z2,z3⟩,⟨y0,y1,y2,y3⟩,hf⟩:=set4 HZ.out (.int .i64 0) (.int .i64 0) (.string ⟨#[]⟩) (.int .i64 0);have HF:=hZz hf;have HBF:=hZz (zajZ HBZ.out HBZ.out.size HGL.out (.int .i64 0) (.int .i64 0) (.string ⟨#[]⟩) (.int .i64 0));clear hf;go_wp2_with (fail)
  obtain ⟨q0,q1,q2,q3⟩:=blk4z HF.out;clear z0 z1 z2 z3 y0 y1 y2 y3;refine bodyPost_ret (by simp [results,Tryz.results79,go_sem,q0,q1,q2,q3];rfl) rfl ?_
  exact HP.out noCell _ _ (by rw [HOK.out];rfl) (fun x hx=>by rw [HOK.out] at hx;cases hx) HBF.out
end
section
attribute [local go_sem] zacZ
theorem order12_s (op:ByteArray) (c:Int) (w:World):Calls prog 129 #[.string op,.int .i64 c] w (OptC (orF op.toList c) w):=by
 obtain ⟨O,hO⟩:∃ O,orF op.toList c=O:=⟨_,rfl⟩
 rw [hO];obtain ⟨P,hP⟩:∃ P:Ending→World→Prop,OptC O w=P:=⟨_,rfl⟩
 rw [hP];have HP:Hid (∀ c b w',b=O.isSome→(∀ x,O=some x→c=x)→Below w.heap.size w w'→P (.returned (.tuple #[cV c,.bool b])) w'):=hZz (fun c b w' h0 h1 h2=>by rw [← hP,h0];exact ⟨c,rfl,h1,h2⟩);unfold cV at HP;have HO:=hZz hO;clear hP hO;obtain ⟨gr,hgr⟩:∃ g,w.heap.size=g:=⟨_,rfl⟩
 obtain ⟨W1,hW1⟩:∃ W,w.alloc (.cells #[.int .i64 0,.int .i64 0,.string ⟨#[]⟩,.int .i64 0] 103)=W:=⟨_,rfl⟩
 have hb1:Below w.heap.size w W1:=by rw [← hW1];exact zabZ _ _
 have hxr1:Blk W1 gr 103 #[.int .i64 0,.int .i64 0,.string ⟨#[]⟩,.int .i64 0]:=by rw [← hW1,← hgr];exact Blk.new _ _ _
 have hB1:=hb1;have HZ:=hZz hxr1;have HBZ:=hZz hB1;have HGL:Hid (w.heap.size≤gr):=hZz (by rw [← hgr];exact Nat.le_refl _);have HGr:=hZz hgr;have HW1:=hZz hW1;clear hgr hW1 hb1 hB1 hxr1;go_enter func129,ntmps129
 go_upto_region 1 with fail
 rw [HGr.out,HW1.out];clear HGr HW1;have HTR:Hid (∀ b wx,Calls prog 128 #[.bool b] wx fun e w'=>e=.returned (cV (bCel b))∧Below wx.heap.size wx w'):=hZz zb1Y;obtain ⟨a1,ha1⟩:∃ b,(op.toList == [60])=b:=⟨_,rfl⟩
 obtain ⟨a2,ha2⟩:∃ b,(op.toList == [60,61])=b:=⟨_,rfl⟩
 obtain ⟨a3,ha3⟩:∃ b,(op.toList == [62])=b:=⟨_,rfl⟩
 obtain ⟨a4,ha4⟩:∃ b,(op.toList == [62,61])=b:=⟨_,rfl⟩
 have HOO:Hid (O=if a1 then some (bCel (decide (c<0))) else if a2 then some (bCel (decide (c≤0))) else if a3 then some (bCel (decide (0<c))) else if a4 then some (bCel (decide (0≤c))) else none):=hZz (by
  rw [← HO.out,← ha1,← ha2,← ha3,← ha4];unfold orF;simp only [beq_iff_eq]
  try rfl)
 cases a1 with
 | true =>
  obtain ⟨c2,hc2⟩:∃ t,bCel (decide (c<0))=t:=⟨_,rfl⟩
  have HC:=hZz (HTR.out (decide (c<0)) W1);have HOK:Hid (O=some c2):=hZz (by rw [HOO.out,← hc2];rfl);rw [hc2] at HC;clear hc2 HOO;obtain ⟨ck,ci,cs,cn⟩:=c2;unfold cV at HC
  go_wp2_with (first
   | (go_at_call 128;(refine HC.out.mono ?_);rintro e w3 ⟨rfl,hb3⟩;have HB3:=hZz (zaaZ hb3 HBZ.out HBZ.out.size);have HZ3:=hZz (HZ.out.below hb3);clear hb3;obtain ⟨⟨z0,z1,z2,z3⟩,⟨y0,y1,y2,y3⟩,hf⟩:=set4 HZ3.out (.int .i64 ck) (.int .i64 ci) (.string cs) (.int .i64 cn);have HF:=hZz hf;have HBF:=hZz (zajZ HB3.out HB3.out.size HGL.out (.int .i64 ck) (.int .i64 ci) (.string cs) (.int .i64 cn));clear hf))
  obtain ⟨q0,q1,q2,q3⟩:=blk4z HF.out;clear z0 z1 z2 z3 y0 y1 y2 y3;refine bodyPost_ret (by simp [results,Tryz.results129,go_sem,q0,q1,q2,q3];rfl) rfl ?_
  exact HP.out ⟨ck,ci,cs,cn⟩ _ _ (by rw [HOK.out];rfl) (fun x hx=>by rw [HOK.out] at hx;cases hx;rfl) HBF.out
 | false =>
  cases a2 with
  | true =>
   obtain ⟨c2,hc2⟩:∃ t,bCel (decide (c≤0))=t:=⟨_,rfl⟩
   have HC:=hZz (HTR.out (decide (c≤0)) W1);have HOK:Hid (O=some c2):=hZz (by rw [HOO.out,← hc2];rfl);rw [hc2] at HC;clear hc2 HOO;obtain ⟨ck,ci,cs,cn⟩:=c2;unfold cV at HC
   go_wp2_with (first
    | (go_at_call 128;(refine HC.out.mono ?_);rintro e w3 ⟨rfl,hb3⟩;have HB3:=hZz (zaaZ hb3 HBZ.out HBZ.out.size);have HZ3:=hZz (HZ.out.below hb3);clear hb3;obtain ⟨⟨z0,z1,z2,z3⟩,⟨y0,y1,y2,y3⟩,hf⟩:=set4 HZ3.out (.int .i64 ck) (.int .i64 ci) (.string cs) (.int .i64 cn);have HF:=hZz hf;have HBF:=hZz (zajZ HB3.out HB3.out.size HGL.out (.int .i64 ck) (.int .i64 ci) (.string cs) (.int .i64 cn));clear hf))
   obtain ⟨q0,q1,q2,q3⟩:=blk4z HF.out;clear z0 z1 z2 z3 y0 y1 y2 y3;refine bodyPost_ret (by simp [results,Tryz.results129,go_sem,q0,q1,q2,q3];rfl) rfl ?_
   exact HP.out ⟨ck,ci,cs,cn⟩ _ _ (by rw [HOK.out];rfl) (fun x hx=>by rw [HOK.out] at hx;cases hx;rfl) HBF.out
  | false =>
   cases a3 with
   | true =>
    obtain ⟨c2,hc2⟩:∃ t,bCel (decide (0<c))=t:=⟨_,rfl⟩
    have HC:=hZz (HTR.out (decide (0<c)) W1);have HOK:Hid (O=some c2):=hZz (by rw [HOO.out,← hc2];rfl);rw [hc2] at HC;clear hc2 HOO;obtain ⟨ck,ci,cs,cn⟩:=c2;unfold cV at HC
    go_wp2_with (first
     | (go_at_call 128;(refine HC.out.mono ?_);rintro e w3 ⟨rfl,hb3⟩;have HB3:=hZz (zaaZ hb3 HBZ.out HBZ.out.size);have HZ3:=hZz (HZ.out.below hb3);clear hb3;obtain ⟨⟨z0,z1,z2,z3⟩,⟨y0,y1,y2,y3⟩,hf⟩:=set4 HZ3.out (.int .i64 ck) (.int .i64 ci) (.string cs) (.int .i64 cn);have HF:=hZz hf;have HBF:=hZz (zajZ HB3.out HB3.out.size HGL.out (.int .i64 ck) (.int .i64 ci) (.string cs) (.int .i64 cn));clear hf))
    obtain ⟨q0,q1,q2,q3⟩:=blk4z HF.out;clear z0 z1 z2 z3 y0 y1 y2 y3;refine bodyPost_ret (by simp [results,Tryz.results129,go_sem,q0,q1,q2,q3];rfl) rfl ?_
    exact HP.out ⟨ck,ci,cs,cn⟩ _ _ (by rw [HOK.out];rfl) (fun x hx=>by rw [HOK.out] at hx;cases hx;rfl) HBF.out
   | false =>
    cases a4 with
    | true =>
     obtain ⟨c2,hc2⟩:∃ t,bCel (decide (0≤c))=t:=⟨_,rfl⟩
     have HC:=hZz (HTR.out (decide (0≤c)) W1);have HOK:Hid (O=some c2):=hZz (by rw [HOO.out,← hc2];rfl);rw [hc2] at HC;clear hc2 HOO;obtain ⟨ck,ci,cs,cn⟩:=c2;unfold cV at HC
     go_wp2_with (first
      | (go_at_call 128;(refine HC.out.mono ?_);rintro e w3 ⟨rfl,hb3⟩;have HB3:=hZz (zaaZ hb3 HBZ.out HBZ.out.size);have HZ3:=hZz (HZ.out.below hb3);clear hb3;obtain ⟨⟨z0,z1,z2,z3⟩,⟨y0,y1,y2,y3⟩,hf⟩:=set4 HZ3.out (.int .i64 ck) (.int .i64 ci) (.string cs) (.int .i64 cn);have HF:=hZz hf;have HBF:=hZz (zajZ HB3.out HB3.out.size HGL.out (.int .i64 ck) (.int .i64 ci) (.string cs) (.int .i64 cn));clear hf))
     obtain ⟨q0,q1,q2,q3⟩:=blk4z HF.out;clear z0 z1 z2 z3 y0 y1 y2 y3;refine bodyPost_ret (by simp [results,Tryz.results129,go_sem,q0,q1,q2,q3];rfl) rfl ?_
     exact HP.out ⟨ck,ci,cs,cn⟩ _ _ (by rw [HOK.out];rfl) (fun x hx=>by rw [HOK.out] at hx;cases hx;rfl) HBF.out
    | false =>
     have HNO:Hid (O=none):=hZz (by rw [HOO.out];rfl);obtain ⟨⟨z0,z1,z2,z3⟩,⟨y0,y1,y2,y3⟩,hf⟩:=set4 HZ.out (.int .i64 0) (.int .i64 0) (.string ⟨#[]⟩) (.int .i64 0);have HF:=hZz hf;have HBF:=hZz (zajZ HBZ.out HBZ.out.size HGL.out (.int .i64 0) (.int .i64 0) (.string ⟨#[]⟩) (.int .i64 0));clear hf;go_wp2_with (fail)
     obtain ⟨q0,q1,q2,q3⟩:=blk4z HF.out;clear z0 z1 z2 z3 y0 y1 y2 y3;refine bodyPost_ret (by simp [results,Tryz.results129,go_sem,q0,q1,q2,q3];rfl) rfl ?_
     exact HP.out noCell _ _ (by rw [HNO.out];rfl) (fun x hx=>by rw [HNO.out] at hx;cases hx) HBF.out
theorem compare12_s (a b:CellD) (w:World):Calls prog 130 #[cV a,cV b] w fun e w'=>e=.returned (.int .i64 (coF a b))∧Below w.heap.size w w':=by
 obtain ⟨R,hR⟩:∃ R,coF a b=R:=⟨_,rfl⟩
 rw [hR];obtain ⟨P,hP⟩:∃ P:Ending→World→Prop,(fun e w'=>e=.returned (.int .i64 R)∧Below w.heap.size w w')=P:=⟨_,rfl⟩
 rw [hP];have HP:Hid (∀ (x:Int) w',x=R→Below w.heap.size w w'→P (.returned (.int .i64 x)) w'):=hZz (fun x w' h1 h2=>by rw [← hP,h1];exact ⟨rfl,h2⟩);obtain ⟨ak,ai,sa,an⟩:=a;obtain ⟨bk,bi,sb,bn⟩:=b;unfold cV;have HR:=hZz hR;clear hP hR;obtain ⟨ga,hga⟩:∃ g,w.heap.size=g:=⟨_,rfl⟩
 obtain ⟨W1,hW1⟩:∃ W,w.alloc (.cells #[.int .i64 ak,.int .i64 ai,.string sa,.int .i64 an] 103)=W:=⟨_,rfl⟩
 have hb1:Below w.heap.size w W1:=by rw [← hW1];exact zabZ _ _
 have hxa1:Blk W1 ga 103 #[.int .i64 ak,.int .i64 ai,.string sa,.int .i64 an]:=by rw [← hW1,← hga];exact Blk.new _ _ _
 have hB1:=hb1;obtain ⟨gb,hgb⟩:∃ g,W1.heap.size=g:=⟨_,rfl⟩
 obtain ⟨W2,hW2⟩:∃ W,W1.alloc (.cells #[.int .i64 bk,.int .i64 bi,.string sb,.int .i64 bn] 103)=W:=⟨_,rfl⟩
 have hb2:Below W1.heap.size W1 W2:=by rw [← hW2];exact zabZ _ _
 have hxb2:Blk W2 gb 103 #[.int .i64 bk,.int .i64 bi,.string sb,.int .i64 bn]:=by rw [← hW2,← hgb];exact Blk.new _ _ _
 have hxa2:=hxa1.below hb2;have hB2:=zaaZ hb2 hB1 hB1.size;have HXa:=hZz hxa2;have HXb:=hZz hxb2;have HBZ:=hZz hB2;have HGa:=hZz hga;have HW1:=hZz hW1;have HGb:Hid (ga+1=gb):=hZz (by rw [← hgb,← hW1,← hga];simp);have HW2:=hZz hW2;clear hga hW1 hb1 hB1 hgb hW2 hb2 hB2 hxa1 hxa2 hxb2;go_enter func130,ntmps130
 go_upto_region 1 with fail
 rw [HGa.out,HW1.out];rw [HGb.out,HW2.out];clear HGa HW1 HGb HW2;have xa:=blk4z HXa.out;have xb:=blk4z HXb.out;obtain ⟨s1,hs1⟩:∃ t,Op.bytesLess sa.toList sb.toList=t:=⟨_,rfl⟩
 obtain ⟨s2,hs2⟩:∃ t,(sa.toList == sb.toList)=t:=⟨_,rfl⟩
 have HRR:Hid (R=if ai<bi∨s1=true then -1 else if bi<ai∨(!s1 && !s2)=true then 1 else 0):=hZz (by rw [← HR.out,← hs1,← hs2];rfl);by_cases h1:ai<bi
 ·have HRE:Hid (-1=R):=hZz (by rw [HRR.out,if_pos (.inl h1)])
  go_wp2_with (fail)
  exact HP.out _ _ HRE.out HBZ.out
 cases s1 with
 | true =>
  have HRE:Hid (-1=R):=hZz (by rw [HRR.out,if_pos (.inr rfl)]);go_wp2_with (fail)
  exact HP.out _ _ HRE.out HBZ.out
 | false =>
  by_cases h2:bi<ai
  ·have HRE:Hid (1=R):=hZz (by rw [HRR.out,if_neg (by simp;omega),if_pos (.inl h2)])
   go_wp2_with (fail)
   exact HP.out _ _ HRE.out HBZ.out
  cases s2 with
  | false =>
   have HRE:Hid (1=R):=hZz (by rw [HRR.out,if_neg (by simp;omega),if_pos (.inr rfl)]);go_wp2_with (fail)
   exact HP.out _ _ HRE.out HBZ.out
  | true =>
   have HRE:Hid (0=R):=hZz (by rw [HRR.out,if_neg (by simp;omega),if_neg (by simp;omega)]);go_wp2_with (fail)
   exact HP.out _ _ HRE.out HBZ.out
end
section
def nuP (op:List UInt8) (a b:Int):Int × Int:=if op=[43] then numI (a+b) else if op=[45] then numI (a - b) else if op=[42] then numI (a * b) else if op=[47] then ((dmI a b).1,(dmI a b).2.2) else if op=[37] then ((dmI a b).2.1,(dmI a b).2.2) else (0,7)
def nuF (op:List UInt8) (a b:Int):Option CellD:=if (nuP op a b).2=0 then some (iCel (nuP op a b).1) else none
attribute [local go_sem] zacZ
theorem number12_s (op:ByteArray) (a b:Int) (w:World) (ha:inRange a=true) (hb:inRange b=true):Calls prog 131 #[.string op,.int .i64 a,.int .i64 b] w (OptC (nuF op.toList a b) w):=by
 obtain ⟨O,hO⟩:∃ O,nuF op.toList a b=O:=⟨_,rfl⟩
 rw [hO];obtain ⟨P,hP⟩:∃ P:Ending→World→Prop,OptC O w=P:=⟨_,rfl⟩
 rw [hP];obtain ⟨n,e,hr⟩:∃ n e,nuP op.toList a b=(n,e):=⟨_,_,rfl⟩
 have hOE:O=if e=0 then some (iCel n) else none:=by rw [← hO];unfold nuF;rw [hr]
 have HP:Hid (∀ w',Below w.heap.size w w'→P (.returned (.tuple #[cV (iCel n),.bool (e == 0)])) w'):=hZz (fun w' h2=>by
  rw [← hP];refine ⟨iCel n,?_,fun x hx=>?_,h2⟩
  ·rw [hOE]
   by_cases h:e=0
   ·subst h;rfl
   ·rw [if_neg h,show (e == 0)=false by simpa using h];rfl
  ·rw [hOE] at hx
   split at hx
   ·cases hx;rfl
   ·cases hx)
 unfold cV iCel at HP;dsimp only at HP;have HRR:=hZz hr;have HIA:=hZz ha;have HIB:=hZz hb;clear hP hO hOE hr ha hb;obtain ⟨gr,hgr⟩:∃ g,w.heap.size=g:=⟨_,rfl⟩
 obtain ⟨W1,hW1⟩:∃ W,w.alloc (.cells #[.int .i64 0,.int .i64 0,.string ⟨#[]⟩,.int .i64 0] 103)=W:=⟨_,rfl⟩
 have hb1:Below w.heap.size w W1:=by rw [← hW1];exact zabZ _ _
 have hxr1:Blk W1 gr 103 #[.int .i64 0,.int .i64 0,.string ⟨#[]⟩,.int .i64 0]:=by rw [← hW1,← hgr];exact Blk.new _ _ _
 have hB1:=hb1;have HZ:=hZz hxr1;have HBZ:=hZz hB1;have HGL:Hid (w.heap.size≤gr):=hZz (by rw [← hgr];exact Nat.le_refl _);have HGr:=hZz hgr;have HW1:=hZz hW1;clear hgr hW1 hb1 hB1 hxr1;go_enter func131,ntmps131
 go_upto_region 1 with fail
 rw [HGr.out,HW1.out];clear HGr HW1;obtain ⟨a1,ha1⟩:∃ b,(op.toList == [43])=b:=⟨_,rfl⟩
 obtain ⟨a2,ha2⟩:∃ b,(op.toList == [45])=b:=⟨_,rfl⟩
 obtain ⟨a3,ha3⟩:∃ b,(op.toList == [42])=b:=⟨_,rfl⟩
 obtain ⟨a4,ha4⟩:∃ b,(op.toList == [47])=b:=⟨_,rfl⟩
 obtain ⟨a5,ha5⟩:∃ b,(op.toList == [37])=b:=⟨_,rfl⟩
 have HOO:Hid ((if a1 then numI (a+b) else if a2 then numI (a - b) else if a3 then numI (a * b) else if a4 then ((dmI a b).1,(dmI a b).2.2) else if a5 then ((dmI a b).2.1,(dmI a b).2.2) else (0,7))=(n,e)):=hZz (by
  rw [← HRR.out,← ha1,← ha2,← ha3,← ha4,← ha5];unfold nuP;simp only [beq_iff_eq]
  try rfl)
 cases a1 with
 | true =>
  have HC:=hZz (fadd_any a b W1 HIA.out HIB.out);have HN:Hid (numI (a+b)=(n,e)):=hZz (by have:=HOO.out;simpa using this);rw [HN.out] at HC;clear HN HOO;obtain ⟨⟨z0,z1,z2,z3⟩,⟨y0,y1,y2,y3⟩,hf⟩:=set4 HZ.out (.int .i64 3) (.int .i64 n) (.string ⟨#[]⟩) (.int .i64 0);have HF:=hZz hf;have HBF:=hZz (zajZ HBZ.out HBZ.out.size HGL.out (.int .i64 3) (.int .i64 n) (.string ⟨#[]⟩) (.int .i64 0));clear hf
  go_wp2_with (first
   | (go_at_call 169;(refine HC.out.mono ?_);rintro e w3 ⟨rfl,hw3⟩;rw [hw3];clear hw3 w3))
  obtain ⟨q0,q1,q2,q3⟩:=blk4z HF.out;clear z0 z1 z2 z3 y0 y1 y2 y3;refine bodyPost_ret (by simp [results,Tryz.results131,go_sem,q0,q1,q2,q3];rfl) rfl ?_
  exact HP.out _ HBF.out
 | false =>
  cases a2 with
  | true =>
   have HC:=hZz (fsub_any a b W1 HIA.out HIB.out);have HN:Hid (numI (a - b)=(n,e)):=hZz (by have:=HOO.out;simpa using this);rw [HN.out] at HC;clear HN HOO;obtain ⟨⟨z0,z1,z2,z3⟩,⟨y0,y1,y2,y3⟩,hf⟩:=set4 HZ.out (.int .i64 3) (.int .i64 n) (.string ⟨#[]⟩) (.int .i64 0);have HF:=hZz hf;have HBF:=hZz (zajZ HBZ.out HBZ.out.size HGL.out (.int .i64 3) (.int .i64 n) (.string ⟨#[]⟩) (.int .i64 0));clear hf
   go_wp2_with (first
    | (go_at_call 170;(refine HC.out.mono ?_);rintro e w3 ⟨rfl,hw3⟩;rw [hw3];clear hw3 w3))
   obtain ⟨q0,q1,q2,q3⟩:=blk4z HF.out;clear z0 z1 z2 z3 y0 y1 y2 y3;refine bodyPost_ret (by simp [results,Tryz.results131,go_sem,q0,q1,q2,q3];rfl) rfl ?_
   exact HP.out _ HBF.out
  | false =>
   cases a3 with
   | true =>
    have HC:=hZz (fmul_any a b W1 HIA.out HIB.out);have HN:Hid (numI (a * b)=(n,e)):=hZz (by have:=HOO.out;simpa using this);rw [HN.out] at HC;clear HN HOO;obtain ⟨⟨z0,z1,z2,z3⟩,⟨y0,y1,y2,y3⟩,hf⟩:=set4 HZ.out (.int .i64 3) (.int .i64 n) (.string ⟨#[]⟩) (.int .i64 0);have HF:=hZz hf;have HBF:=hZz (zajZ HBZ.out HBZ.out.size HGL.out (.int .i64 3) (.int .i64 n) (.string ⟨#[]⟩) (.int .i64 0));clear hf
    go_wp2_with (first
     | (go_at_call 171;(refine HC.out.mono ?_);rintro e w3 ⟨rfl,hw3⟩;rw [hw3];clear hw3 w3))
    obtain ⟨q0,q1,q2,q3⟩:=blk4z HF.out;clear z0 z1 z2 z3 y0 y1 y2 y3;refine bodyPost_ret (by simp [results,Tryz.results131,go_sem,q0,q1,q2,q3];rfl) rfl ?_
    exact HP.out _ HBF.out
   | false =>
    cases a4 with
    | true =>
     have HC:=hZz (fdiv_any a b W1 HIA.out HIB.out);have HN:Hid (((dmI a b).1,(dmI a b).2.2)=(n,e)):=hZz (by have:=HOO.out;simpa using this);obtain ⟨d1,d2,d3,hd⟩:∃ d1 d2 d3,dmI a b=(d1,d2,d3):=⟨_,_,_,rfl⟩
     rw [hd] at HC HN;dsimp only at HC HN;obtain ⟨rfl,rfl⟩:d1=n∧d3=e:=by have:=HN.out;simpa using this
     clear HN HOO hd
     go_wp2_with (first
      | (go_at_call 172;(refine HC.out.mono ?_);rintro e w3 ⟨rfl,hb3⟩;have HB3:=hZz (zaaZ hb3 HBZ.out HBZ.out.size);have HZ3:=hZz (HZ.out.below hb3);clear hb3;obtain ⟨⟨z0,z1,z2,z3⟩,⟨y0,y1,y2,y3⟩,hf⟩:=set4 HZ3.out (.int .i64 3) (.int .i64 d1) (.string ⟨#[]⟩) (.int .i64 0);have HF:=hZz hf;have HBF:=hZz (zajZ HB3.out HB3.out.size HGL.out (.int .i64 3) (.int .i64 d1) (.string ⟨#[]⟩) (.int .i64 0));clear hf))
     obtain ⟨q0,q1,q2,q3⟩:=blk4z HF.out;clear z0 z1 z2 z3 y0 y1 y2 y3;refine bodyPost_ret (by simp [results,Tryz.results131,go_sem,q0,q1,q2,q3];rfl) rfl ?_
     exact HP.out _ HBF.out
    | false =>
     cases a5 with
     | true =>
      have HC:=hZz (fdiv_any a b W1 HIA.out HIB.out);have HN:Hid (((dmI a b).2.1,(dmI a b).2.2)=(n,e)):=hZz (by have:=HOO.out;simpa using this);obtain ⟨d1,d2,d3,hd⟩:∃ d1 d2 d3,dmI a b=(d1,d2,d3):=⟨_,_,_,rfl⟩
      rw [hd] at HC HN;dsimp only at HC HN;obtain ⟨rfl,rfl⟩:d2=n∧d3=e:=by have:=HN.out;simpa using this
      clear HN HOO hd
      go_wp2_with (first
       | (go_at_call 172;(refine HC.out.mono ?_);rintro e w3 ⟨rfl,hb3⟩;have HB3:=hZz (zaaZ hb3 HBZ.out HBZ.out.size);have HZ3:=hZz (HZ.out.below hb3);clear hb3;obtain ⟨⟨z0,z1,z2,z3⟩,⟨y0,y1,y2,y3⟩,hf⟩:=set4 HZ3.out (.int .i64 3) (.int .i64 d2) (.string ⟨#[]⟩) (.int .i64 0);have HF:=hZz hf;have HBF:=hZz (zajZ HB3.out HB3.out.size HGL.out (.int .i64 3) (.int .i64 d2) (.string ⟨#[]⟩) (.int .i64 0));clear hf))
      obtain ⟨q0,q1,q2,q3⟩:=blk4z HF.out;clear z0 z1 z2 z3 y0 y1 y2 y3;refine bodyPost_ret (by simp [results,Tryz.results131,go_sem,q0,q1,q2,q3];rfl) rfl ?_
      exact HP.out _ HBF.out
     | false =>
      obtain ⟨rfl,rfl⟩:(0:Int)=n∧(7:Int)=e:=by have:=HOO.out;simpa using this
      obtain ⟨⟨z0,z1,z2,z3⟩,⟨y0,y1,y2,y3⟩,hf⟩:=set4 HZ.out (.int .i64 3) (.int .i64 0) (.string ⟨#[]⟩) (.int .i64 0);have HF:=hZz hf;have HBF:=hZz (zajZ HBZ.out HBZ.out.size HGL.out (.int .i64 3) (.int .i64 0) (.string ⟨#[]⟩) (.int .i64 0));clear hf;go_wp2_with (fail)
      obtain ⟨q0,q1,q2,q3⟩:=blk4z HF.out;clear z0 z1 z2 z3 y0 y1 y2 y3;refine bodyPost_ret (by simp [results,Tryz.results131,go_sem,q0,q1,q2,q3];rfl) rfl ?_
      exact HP.out _ HBF.out
end
end Go.Proofs.YthiimbhjpdphpaaGreatDoor
