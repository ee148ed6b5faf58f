/- XB, XC, XD, XE, E45 -/
import Derived.Test.YtekdhlfapejijaaGreatDoorPH8
set_option linter.unusedVariables false
set_option linter.unusedSimpArgs false
namespace Go.Proofs.YtekdhlfapejijaaGreatDoor
open Go.RowKit
set_option maxRecDepth 100000
section
def Tok.val (t:Tok):Value:=.agg #[.int .i64 t.kind,.string t.text,.int .i64 t.int,.int .i64 (t.at_:Int)]
def zTokV:Value:=.agg #[.int .i64 0,.string ⟨#[]⟩,.int .i64 0,.int .i64 0]
section
variable (w0:World) (gp:Nat) (tv:Value) (ts:List Tok) (en:Int) (fx:List FuncX) (fv:Value)
def PX (F:List Nat) (w:World) (p:Nat) (ns:List NodeD):Prop:=∃ nx nv,nx.map Prod.fst=ns∧PSt w0 gp tv ts en fx fv F w p nx nv
end
section
variable {w0 w w':World} {gp:Nat} {tv:Value} {ts:List Tok} {en:Int} {fx:List FuncX} {fv:Value} {F:List Nat} {p:Nat} {ns:List NodeD}
theorem PX.below (h:PX w0 gp tv ts en fx fv F w p ns) (hb:Below w.heap.size w w'):PX w0 gp tv ts en fx fv F w' p ns:=by
 obtain ⟨nx,nv,h1,h2⟩:=h
 exact ⟨nx,nv,h1,h2.below hb⟩
theorem PX.lt (h:PX w0 gp tv ts en fx fv F w p ns):gp<w.heap.size:=by
 obtain ⟨nx,nv,h1,h2⟩:=h
 exact h2.bp.lt
theorem PSt.setT {nx:List NodeX} {nv:Value} {g:Nat} {cs:Array Value} (h:PSt w0 gp tv ts en fx fv F w p nx nv) (hB:Blk w g 161 cs) (ht:tv.ownBlock≠some g) (hg:w0.heap.size≤g) (j:Nat) (u:Value):PSt w0 gp tv ts en fx fv F (w.setCell ⟨g,j,none⟩ u) p nx nv:=by
 have hgr:=grown_setc w g j u
 have hne:∀ {n size:Nat} {e:TypeId} {v:Value} {xs:List Value},w.ownsRow w0.heap.size e size v n xs→e≠161→(w.setCell ⟨g,j,none⟩ u).ownsRow w0.heap.size e size v n xs:=fun ho he=>own_grown ho hgr (fun k hk=>by injection hk with hk;subst hk;exact own_ne_blk ho hB he)
 have hgp:gp≠g:=fun e=>blk_ne h.bp hB (by decide) e
 exact ⟨h.bel.grown hgr h.bel.size (fun k hk=>by injection hk with hk;omega),h.hp,h.bp.far (p:=⟨g,j,none⟩) hgp u,own_grown h.tk hgr (fun k hk=>by injection hk with hk;subst hk;exact fun e=>ht e.symm),hne h.nd (by decide),hne h.fu (by decide),fun q hq=>⟨hne (h.kids q hq).1 (by decide),(h.kids q hq).2⟩,h.kd,fun q hq=>hne (h.pars q hq) (by decide),fun g hg=>(by simpa using h.fb g hg),h.tl⟩
theorem KP.setN {gp g:Nat} {w w1:World} (h:KP gp w w1) (hg:w.heap.size≤g) (j:Nat) (u:Value):KP gp w (w1.setCell ⟨g,j,none⟩ u) :=
 ⟨h.os,h.tape,h.output,by simpa using h.size,fun k o hk h1 h2=>(Below.heap_setCell w1 ⟨g,j,none⟩ u k (fun e=>by have:k=g:=e;have:=lt_of_block hk;omega)).trans (h.block k o hk h1 h2)⟩
attribute [local go_sem] cell_alloc_is
set_option maxHeartbeats 8000000 in
theorem take_no (h:PX w0 gp tv ts en fx fv F w p ns) (k:Int) {tx:Value} {l:List ByteArray} (hx:TxV w tx l) (hn:nextF ts p k l=false) :
  Calls Tryz.prog 185 #[.pointer (some ⟨gp,0,none⟩),.int .i64 k,tx] w fun e w'=>e=.returned (.tuple #[zTokV,.bool false])∧Below w.heap.size w w':=by
 obtain ⟨nx,nv,h1,h2⟩:=h
 obtain ⟨P,hP⟩:∃ P:Ending→World→Prop,(fun e w'=>e=.returned (.tuple #[zTokV,.bool false])∧Below w.heap.size w w')=P:=⟨_,rfl⟩
 rw [hP]
 have HP:=hZz hP
 have HNX:Hid (∀ wx,Below w.heap.size w wx→Calls Tryz.prog 237 #[.pointer (some ⟨gp,0,none⟩),.int .i64 k,tx] wx fun e w'=>e=.returned (.bool false)∧Below wx.heap.size wx w'):=hZz (fun wx hb=>by
  have:=next_x (h2.below hb) k (hx.below hb)
  rw [hn] at this
  exact this)
 clear hP h1 h2 hx hn
 go_enter Tryz.func185,Tryz.ntmps185
 go_upto_region 1 with fail
 obtain ⟨g,hg⟩:∃ g,w.heap.size=g:=⟨_,rfl⟩
 obtain ⟨W,hW⟩:∃ W,w.alloc (.cells #[.int .i64 0,.string ⟨#[]⟩,.int .i64 0,.int .i64 0] 161)=W:=⟨_,rfl⟩
 have HB0:Hid (Below w.heap.size w W):=hZz (by rw [← hW];exact below_new _ _)
 have HB:Hid (Blk W g 161 #[.int .i64 0,.string ⟨#[]⟩,.int .i64 0,.int .i64 0]):=hZz (by rw [← hW,← hg];exact Blk.new _ _ _)
 have HG:Hid (w.heap.size≤g):=hZz (by omega)
 rw [hW,hg]
 clear hW hg
 go_wp2_with (first
  | (go_at_call 237;(with_reducible refine (HNX.out _ HB0.out).mono ?_);rintro e w1 ⟨rfl,hb1⟩;have HB1:=hZz (HB.out.below hb1);have HB2:=hZz (below_call hb1 HB0.out);have p2:=blk4 HB1.out;have z0:=HB1.out.frozen 0;have z1:=HB1.out.frozen 1;have z2:=HB1.out.frozen 2;have z3:=HB1.out.frozen 3;clear hb1))
 (refine bodyPost_ret (by simp [results,Tryz.results185,go_sem,p2];try rfl) rfl ?_)
 rw [← HP.out]
 exact ⟨rfl,st4 HB2.out HG.out _ _ _ _⟩
set_option maxHeartbeats 8000000 in
theorem take_yes (h:PX w0 gp tv ts en fx fv F w p ns) (k:Int) {tx:Value} {l:List ByteArray} (hx:TxV w tx l) (hn:nextF ts p k l=true) {t:Tok} (ht:ts[p]? = some t) :
  Calls Tryz.prog 185 #[.pointer (some ⟨gp,0,none⟩),.int .i64 k,tx] w fun e w'=>e=.returned (.tuple #[t.val,.bool true])∧PX w0 gp tv ts en fx fv F w' (p+1) ns∧KP gp w w':=by
 obtain ⟨nx,nv,h1,h2⟩:=h
 obtain ⟨P,hP⟩:∃ P:Ending→World→Prop,(fun e w'=>e=.returned (.tuple #[t.val,.bool true])∧PX w0 gp tv ts en fx fv F w' (p+1) ns∧KP gp w w')=P:=⟨_,rfl⟩
 rw [hP]
 have HP:=hZz hP
 have HNX:Hid (∀ wx,Below w.heap.size w wx→Calls Tryz.prog 237 #[.pointer (some ⟨gp,0,none⟩),.int .i64 k,tx] wx fun e w'=>e=.returned (.bool true)∧Below wx.heap.size wx w'):=hZz (fun wx hb=>by
  have:=next_x (h2.below hb) k (hx.below hb)
  rw [hn] at this
  exact this)
 obtain ⟨hlt,hte⟩:=List.getElem?_eq_some_iff.1 ht
 have H1:=hZz h1
 have HS:=hZz h2
 have HTE:Hid (∀ h:p<ts.length,ts[p]=t):=hZz (fun _=>hte)
 have HLT:=hZz hlt
 have hp9:(p:Int)+1≤9223372036854775807:=by have:=h2.tl;omega
 have hp0:(0:Int)≤(p:Int):=by omega
 clear hP h1 h2 hx hn ht hte hlt
 go_enter Tryz.func185,Tryz.ntmps185
 go_upto_region 1 with fail
 obtain ⟨g,hg⟩:∃ g,w.heap.size=g:=⟨_,rfl⟩
 obtain ⟨W,hW⟩:∃ W,w.alloc (.cells #[.int .i64 0,.string ⟨#[]⟩,.int .i64 0,.int .i64 0] 161)=W:=⟨_,rfl⟩
 have HB0:Hid (Below w.heap.size w W):=hZz (by rw [← hW];exact below_new _ _)
 have HB:Hid (Blk W g 161 #[.int .i64 0,.string ⟨#[]⟩,.int .i64 0,.int .i64 0]):=hZz (by rw [← hW,← hg];exact Blk.new _ _ _)
 have HG:Hid (w.heap.size≤g):=hZz (by omega)
 have HTV:Hid (tv.ownBlock≠some g):=hZz (fun e=>by
  obtain ⟨_,cs,hB⟩:=own_blk HS.out.tk e
  have:=hB.lt
  have:=HG.out
  omega)
 rw [hW,hg]
 clear hW hg
 go_upto_region 3 with (first
  | (go_at_call 237;(with_reducible refine (HNX.out _ HB0.out).mono ?_);rintro e w1 ⟨rfl,hb1⟩;have HB1:=hZz (HB.out.below hb1);have HB2:=hZz (below_call hb1 HB0.out);clear hb1))
 have HS1:=hZz (HS.out.below HB2.out)
 obtain ⟨c0,c1,c2,c3,c4⟩:=blk5x HS1.out.bp
 have hne:g≠gp:=fun e=>blk_ne HB1.out HS1.out.bp (by decide) e
 have hne2:gp≠g:=fun e=>hne e.symm
 have z1:=HS1.out.bp.frozen 1
 have HS2:=hZz (HS1.out.setP (p+1))
 have HK2:Hid (KP gp w (w1.setCell ⟨gp,1,none⟩ (.int .i64 ((p+1:Nat):Int)))):=hZz ((KP.of_below HB2.out).trans (KP.set _ _ _ _))
 have HB3:=hZz (HB1.out.far (p:=⟨gp,1,none⟩) hne (.int .i64 ((p+1:Nat):Int)))
 obtain ⟨W2,hW2⟩:∃ W2,w1.setCell ⟨gp,1,none⟩ (.int .i64 ((p+1:Nat):Int))=W2:=⟨_,rfl⟩
 have HW2:Hid (w1.setCell ⟨gp,1,none⟩ (.int .i64 ((p:Int)+1))=W2):=hZz (by rw [← hW2];push_cast;rfl)
 rw [hW2] at HS2 HK2 HB3
 go_upto_region 4 with fail
 rw [HW2.out]
 clear c0 c1 c2 c3 c4 z1 hW2
 obtain ⟨c0,c1,c2,c3,c4⟩:=blk5x HS2.out.bp
 obtain ⟨b,off,cap,htv,t0,t1,t2,t3⟩:=HS2.out.tok HLT.out
 rw [htv] at c0
 rw [HTE.out HLT.out] at t0 t1 t2 t3
 have p2:=blk4 HB3.out
 have z0:=HB3.out.frozen 0
 have z1:=HB3.out.frozen 1
 have z2:=HB3.out.frozen 2
 have z3:=HB3.out.frozen 3
 have hpc:((p+1:Nat):Int)=(p:Int)+1:=by push_cast;rfl
 rw [hpc] at c1
 have hl':(p:Int)<(ts.length:Int):=by have:=HLT.out;omega
 go_region
 all_goals
  go_wp2_with (fail)
  (refine bodyPost_ret (by simp [results,Tryz.results185,go_sem,p2];try rfl) rfl ?_)
  rw [← HP.out]
  have s1:=HS2.out.setT HB3.out HTV.out (Nat.le_trans HS.out.bel.size HG.out) 0 (.int .i64 t.kind)
  have b1:=HB3.out.set_ 0 (.int .i64 t.kind)
  have s2:=s1.setT b1 HTV.out (Nat.le_trans HS.out.bel.size HG.out) 1 (.string t.text)
  have b2:=b1.set_ 1 (.string t.text)
  have s3:=s2.setT b2 HTV.out (Nat.le_trans HS.out.bel.size HG.out) 2 (.int .i64 t.int)
  have b3:=b2.set_ 2 (.int .i64 t.int)
  have s4:=s3.setT b3 HTV.out (Nat.le_trans HS.out.bel.size HG.out) 3 (.int .i64 t.at_)
  exact ⟨rfl,⟨nx,nv,H1.out,s4.below (below_drew _)⟩,((((HK2.out.setN HG.out _ _).setN HG.out _ _).setN HG.out _ _).setN HG.out _ _).trans (KP.of_below (below_drew _))⟩
end
end
section
section
variable {w0 w w':World} {gp:Nat} {tv:Value} {ts:List Tok} {en:Int} {fx:List FuncX} {fv:Value} {F:List Nat} {p:Nat} {ns:List NodeD}
theorem PSt.tv_lt {nx:List NodeX} {nv:Value} (h:PSt w0 gp tv ts en fx fv F w p nx nv) {g:Nat} (hg:w.heap.size≤g):tv.ownBlock≠some g:=fun e=>by
 obtain ⟨_,cs,hB⟩:=own_blk h.tk e
 have:=hB.lt
 omega
theorem PX.setT {g:Nat} {cs:Array Value} (h:PX w0 gp tv ts en fx fv F w p ns) (hB:Blk w g 161 cs) (ht:tv.ownBlock≠some g) (hg:w0.heap.size≤g) (j:Nat) (u:Value):PX w0 gp tv ts en fx fv F (w.setCell ⟨g,j,none⟩ u) p ns:=by
 obtain ⟨nx,nv,h1,h2⟩:=h
 exact ⟨nx,nv,h1,h2.setT hB ht hg j u⟩
theorem PX.ge (h:PX w0 gp tv ts en fx fv F w p ns):w0.heap.size≤w.heap.size:=by
 obtain ⟨nx,nv,h1,h2⟩:=h
 exact h2.bel.size
theorem PX.tv_lt (h:PX w0 gp tv ts en fx fv F w p ns) {g:Nat} (hg:w.heap.size≤g):tv.ownBlock≠some g:=by
 obtain ⟨nx,nv,h1,h2⟩:=h
 exact h2.tv_lt hg
attribute [local go_sem] cell_alloc_is
set_option maxHeartbeats 8000000 in
theorem must_x (h:PX w0 gp tv ts en fx fv F w p ns) (k:Int) {tx:Value} {l:List ByteArray} (hx:TxV w tx l) (hn:nextF ts p k l=true) {t:Tok} (ht:ts[p]? = some t) :
  Calls Tryz.prog 126 #[.pointer (some ⟨gp,0,none⟩),.int .i64 k,tx] w fun e w'=>e=.returned t.val∧PX w0 gp tv ts en fx fv F w' (p+1) ns∧KP gp w w':=by
 obtain ⟨P,hP⟩:∃ P:Ending→World→Prop,(fun e w'=>e=.returned t.val∧PX w0 gp tv ts en fx fv F w' (p+1) ns∧KP gp w w')=P:=⟨_,rfl⟩
 rw [hP]
 have HP:=hZz hP
 have HTK:Hid (∀ wx,Below w.heap.size w wx→Calls Tryz.prog 185 #[.pointer (some ⟨gp,0,none⟩),.int .i64 k,tx] wx fun e w'=>e=.returned (.tuple #[t.val,.bool true])∧PX w0 gp tv ts en fx fv F w' (p+1) ns∧KP gp wx w'):=hZz (fun wx hb=>take_yes (h.below hb) k (hx.below hb) hn ht)
 have H:=hZz h
 have hlt:=h.lt
 clear hP h hx hn ht
 go_enter Tryz.func126,Tryz.ntmps126
 go_upto_region 1 with fail
 obtain ⟨g,hg⟩:∃ g,w.heap.size=g:=⟨_,rfl⟩
 obtain ⟨W,hW⟩:∃ W,w.alloc (.cells #[.int .i64 0,.string ⟨#[]⟩,.int .i64 0,.int .i64 0] 161)=W:=⟨_,rfl⟩
 have HB0:Hid (Below w.heap.size w W):=hZz (by rw [← hW];exact below_new _ _)
 have HB:Hid (Blk W g 161 #[.int .i64 0,.string ⟨#[]⟩,.int .i64 0,.int .i64 0]):=hZz (by rw [← hW,← hg];exact Blk.new _ _ _)
 have HG:Hid (w.heap.size≤g):=hZz (by omega)
 have HGN:Hid (g≠gp):=hZz (by omega)
 rw [hW,hg]
 clear hW hg hlt
 go_upto_region 2 with (first
  | (go_at_call 185;(with_reducible refine (HTK.out _ HB0.out).mono ?_);rintro e w1 ⟨rfl,hpx,hkp⟩;have HX:=hZz hpx;have HK:=hZz hkp;have HB1:=hZz (hkp.blk HB.out HGN.out (by decide) (by decide));clear hpx hkp;unfold Tok.val))
 obtain ⟨g7,hg7⟩:∃ g,w1.heap.size=g:=⟨_,rfl⟩
 obtain ⟨W2,hW2⟩:∃ W,w1.alloc (.cells #[.int .i64 t.kind,.string t.text,.int .i64 t.int,.int .i64 (t.at_:Int)] 161)=W:=⟨_,rfl⟩
 have HN2:Hid (Below w1.heap.size w1 W2):=hZz (by rw [← hW2];exact below_new _ _)
 have HB7:Hid (Blk W2 g7 161 #[.int .i64 t.kind,.string t.text,.int .i64 t.int,.int .i64 (t.at_:Int)]):=hZz (by rw [← hW2,← hg7];exact Blk.new _ _ _)
 have HB6:=hZz (HB1.out.below HN2.out)
 have HX2:=hZz (HX.out.below HN2.out)
 have HK2:=hZz (((KP.of_below HB0.out).trans HK.out).trans (KP.of_below HN2.out):KP gp w W2)
 have hne:g≠g7:=by have:=HB1.out.lt;omega
 have hne2:g7≠g:=fun e=>hne e.symm
 have q:=blk4 HB7.out
 have p2:=blk4 HB6.out
 have z0:=HB6.out.frozen 0
 have z1:=HB6.out.frozen 1
 have z2:=HB6.out.frozen 2
 have z3:=HB6.out.frozen 3
 rw [hW2,hg7]
 clear hW2 hg7
 go_wp2_with (fail)
 (refine bodyPost_ret (by simp [results,Tryz.results126,go_sem,p2];try rfl) rfl ?_)
 rw [← HP.out]
 have htv:=H.out.tv_lt HG.out
 have hge:=Nat.le_trans H.out.ge HG.out
 have s1:=HX2.out.setT HB6.out htv hge 0 (.int .i64 t.kind)
 have b1:=HB6.out.set_ 0 (.int .i64 t.kind)
 have s2:=s1.setT b1 htv hge 1 (.string t.text)
 have b2:=b1.set_ 1 (.string t.text)
 have s3:=s2.setT b2 htv hge 2 (.int .i64 t.int)
 have b3:=b2.set_ 2 (.int .i64 t.int)
 have s4:=s3.setT b3 htv hge 3 (.int .i64 t.at_)
 exact ⟨rfl,s4,(((HK2.out.setN HG.out _ _).setN HG.out _ _).setN HG.out _ _).setN HG.out _ _⟩
end
end
section
section
variable {w0 w w':World} {gp:Nat} {tv:Value} {ts:List Tok} {en:Int} {fx:List FuncX} {fv:Value} {F:List Nat} {p:Nat} {ns:List NodeD}
theorem PSt.add {nx:List NodeX} {nv nv':Value} {q:NodeX} {w1:World} (h:PSt w0 gp tv ts en fx fv F w p nx nv) (hg:w.grownBy w1 nv.ownBlock) (ho:w1.ownsRow w0.heap.size 87 5 nv' (nx.length+1) (nx.flatMap nodeRow ++ nodeRow q))
  (hk:w.ownsRow w0.heap.size 3 1 q.2.2 q.1.kids.length (q.1.kids.map (Value.int .i64))) (hq:q.2.1=.slice none 0 0∧q.1.keys=[]) (hF:∀ g∈F,q.2.2.ownBlock≠some g) :
  PSt w0 gp tv ts en fx fv F (w1.setCell ⟨gp,3,none⟩ nv') p (nx ++ [q]) nv':=by
 have hgs:=grown_setc w1 gp 3 nv'
 have hb1:Blk w1 gp 119 #[tv,.int .i64 (p:Int),.int .i64 en,nv,fv]:=h.bp.grown hg (own_ne_blk h.nd h.bp (by decide))
 have hne1:∀ {n size:Nat} {e:TypeId} {v:Value} {xs:List Value},w.ownsRow w0.heap.size e size v n xs→e≠87→w1.ownsRow w0.heap.size e size v n xs:=fun ho' he=>own_grown ho' hg (fun k hk=>by
  obtain ⟨_,cs,hB⟩:=own_blk h.nd hk
  exact own_ne_blk ho' hB he)
 have hne2:∀ {n size:Nat} {e:TypeId} {v:Value} {xs:List Value},w1.ownsRow w0.heap.size e size v n xs→e≠119→(w1.setCell ⟨gp,3,none⟩ nv').ownsRow w0.heap.size e size v n xs:=fun ho' he=>own_grown ho' hgs (fun k hk=>by injection hk with hk;subst hk;exact own_ne_blk ho' hb1 he)
 refine ⟨?_,h.hp,hb1.set_ 3 _,hne2 (hne1 h.tk (by decide)) (by decide),?_,hne2 (hne1 h.fu (by decide)) (by decide),fun x hx=>?_,fun x hx g hg'=>?_,fun x hx=>hne2 (hne1 (h.pars x hx) (by decide)) (by decide),fun g hg'=>?_,h.tl⟩
 ·refine (h.bel.grown hg h.bel.size (fun k hk=>?_)).grown hgs (Nat.le_trans h.bel.size hg.size) (fun k hk=>by injection hk with hk;have:=h.hp;omega)
  exact (h.nd.lt k hk).1
 ·have:=hne2 ho (by decide)
  rw [List.length_append,List.flatMap_append]
  simpa using this
 ·rcases List.mem_append.1 hx with hx | hx
  ·exact ⟨hne2 (hne1 (h.kids x hx).1 (by decide)) (by decide),(h.kids x hx).2⟩
  ·rw [List.mem_singleton.1 hx]
   exact ⟨hne2 (hne1 hk (by decide)) (by decide),hq⟩
 ·rcases List.mem_append.1 hx with hx | hx
  ·exact h.kd x hx g hg'
  ·rw [List.mem_singleton.1 hx]
   exact hF g hg'
 ·have:=h.fb g hg'
  have:=hg.size
  simp
  omega
attribute [local go_sem] cell_alloc_is
set_option maxHeartbeats 8000000 in
theorem add_x (h:PX w0 gp tv ts en fx fv F w p ns) (hl:ns.length≤600) {n:NodeD} {iv:Value} (hk:n.keys=[]) (ho:w.ownsRow w0.heap.size 3 1 iv n.kids.length (n.kids.map (Value.int .i64))) (hF:∀ g∈F,iv.ownBlock≠some g) :
  Calls Tryz.prog 187 #[.pointer (some ⟨gp,0,none⟩),.agg #[.int .i64 n.kind,.string n.text,.int .i64 n.int,.slice none 0 0,iv]] w fun e w'=>e=.returned (.int .i64 (ns.length:Int))∧PX w0 gp tv ts en fx fv F w' p (ns ++ [n])∧KP gp w w':=by
 obtain ⟨nx,nv,h1,h2⟩:=h
 obtain ⟨i1,hj,hy0,hy1,hy2⟩:=info_parts Tryz.infoNodeX
 obtain ⟨P,hP⟩:∃ P:Ending→World→Prop,(fun e w'=>e=.returned (.int .i64 (ns.length:Int))∧PX w0 gp tv ts en fx fv F w' p (ns ++ [n])∧KP gp w w')=P:=⟨_,rfl⟩
 rw [hP]
 have HP:=hZz hP
 obtain ⟨N,hN⟩:∃ N,nx.length=N:=⟨_,rfl⟩
 have HNL:Hid (ns.length=N):=hZz (by rw [← h1,List.length_map];exact hN)
 obtain ⟨A,cap,hnv⟩:=own_shape h2.nd
 obtain ⟨iA,icap,hiv⟩:=own_shape ho
 obtain ⟨il,hil⟩:∃ x,n.kids.length=x:=⟨_,rfl⟩
 rw [hN] at hnv
 rw [hil] at hiv
 subst hiv
 have hN6:N≤600:=by rw [← HNL.out];exact hl
 have H1:=hZz h1
 have HO:=hZz ho
 have HF:=hZz hF
 have HK:=hZz hk
 have HN:=hZz hN
 obtain ⟨kd,hkd⟩:∃ x,n.kind=x:=⟨_,rfl⟩
 obtain ⟨tt,htt⟩:∃ x,n.text=x:=⟨_,rfl⟩
 obtain ⟨ni,hni⟩:∃ x,n.int=x:=⟨_,rfl⟩
 rw [hkd,htt,hni]
 have HD:Hid (n.kind=kd∧n.text=tt∧n.int=ni):=hZz ⟨hkd,htt,hni⟩
 obtain ⟨g,hg⟩:∃ g,w.heap.size=g:=⟨_,rfl⟩
 obtain ⟨W,hW⟩:∃ W,w.alloc (.cells #[.int .i64 kd,.string tt,.int .i64 ni,.slice none 0 0,.slice iA il icap] 87)=W:=⟨_,rfl⟩
 have HB0:Hid (Below w.heap.size w W):=hZz (by rw [← hW];exact below_new _ _)
 have HB:Hid (Blk W g 87 #[.int .i64 kd,.string tt,.int .i64 ni,.slice none 0 0,.slice iA il icap]):=hZz (by rw [← hW,← hg];exact Blk.new _ _ _)
 have HS:=hZz (h2.below HB0.out)
 have HW:=hZz hW
 have HG:=hZz hg
 have HNV:=hZz hnv
 clear hP h1 h2 ho hF hk hil hl hW hg hkd htt hni hN hnv
 go_enter Tryz.func187,Tryz.ntmps187
 go_upto_region 1 with fail
 rw [HW.out,HG.out]
 obtain ⟨c0,c1,c2,c3,c4⟩:=blk5x HS.out.bp
 have p2:=blk5x HB.out
 have z3:=HS.out.bp.frozen 3
 rw [HNV.out] at c3
 have HOW:Hid (W.ownsRow w0.heap.size 87 5 (.slice A N cap) N (nx.flatMap nodeRow)):=hZz (by have:=HS.out.nd;rw [HNV.out,HN.out] at this;exact this)
 obtain ⟨W2,hW2⟩:∃ W2,(W.alloc (.cells #[.int .i64 kd,.string tt,.int .i64 ni,.slice none 0 0,.slice iA il icap] 87)).drew=W2:=⟨_,rfl⟩
 have HB2:Hid (Below W.heap.size W W2):=hZz (by rw [← hW2];exact below_call (below_drew _) (below_new _ _))
 have HBN:Hid (Blk W2 W.heap.size 87 #[.int .i64 kd,.string tt,.int .i64 ni,.slice none 0 0,.slice iA il icap]):=hZz (by rw [← hW2];exact (Blk.new _ _ _).below (below_drew _))
 have HW2:=hZz hW2
 have HOA:=hZz (own_below HOW.out HB2.out)
 have HS2:=hZz (HS.out.below HB2.out)
 have hsz:w0.heap.size≤W2.heap.size:=Nat.le_trans HS.out.bel.size HB2.out.size
 clear hW2
 go_region_law (first
  | (rw [if_pos (by rfl)];rw [HW2.out];refine wp_append_lies _ (.tmp 10) (.tmp 12) 35 rfl w0.heap.size 87 i1 _ 5 80 Tryz.underlying35 hj hy0 hy1 hy2 rfl ?k1 _ N _ rfl HOA.out ⟨W.heap.size,0,none⟩ 1 1 [.int .i64 kd,.string tt,.int .i64 ni,.slice none 0 0,.slice iA il icap] rfl rfl ?k7 ?k2 ?k3 ?k4 ?k5 ?k6 _ rfl ?_;(case k1=>decide);(case k7=>(intro j u hju;have:=HBN.out.cell j u (by simpa using hju);rw [addr_add,Nat.zero_add];exact this));(case k2=>simp [Value.oneCell']);(case k3=>decide);(case k4=>(unfold maxLen;omega));(case k5=>omega);(case k6=>exact hsz);intro g6 cap6 w6 hown6 hgr6 _ _;have HS6:=hZz (HS2.out.bp.grown hgr6 (by have:=own_ne_blk HS2.out.nd HS2.out.bp (by decide);rw [HNV.out] at this;exact this));have z6:=HS6.out.frozen 3;have o6:=HS6.out.cell 3 _ rfl;have HO6:=hZz hown6;have HGR:=hZz hgr6;clear hown6 hgr6))
 all_goals
  have hN0:(0:Int)≤(N:Int):=by omega
  go_wp2_with (fail)
  rw [← HP.out]
  have hgr:W2.grownBy w6 nv.ownBlock:=by rw [HNV.out];exact HGR.out
  have e:nodeRow ((n,.slice none 0 0,.slice iA il icap):NodeX)=[.int .i64 kd,.string tt,.int .i64 ni,.slice none 0 0,.slice iA il icap]:=by unfold nodeRow;rw [HD.out.1,HD.out.2.1,HD.out.2.2]
  have ho6:w6.ownsRow w0.heap.size 87 5 (.slice (some ⟨g6,0,none⟩) (N+1) cap6) (nx.length+1) (nx.flatMap nodeRow ++ nodeRow ((n,.slice none 0 0,.slice iA il icap):NodeX)):=by rw [HN.out,e];exact HO6.out
  have hs:=HS2.out.add hgr ho6 (own_below HO.out (below_call HB2.out HB0.out)) ⟨rfl,HK.out⟩ HF.out
  refine ⟨by rw [HNL.out];rfl,⟨_,_,by rw [List.map_append,H1.out];rfl,hs⟩,?_⟩
  exact (KP.of_below (below_call HB2.out HB0.out)).trans ((KP.row HS2.out.nd (.inl rfl) hgr).trans (KP.set _ _ _ _))
end
end
section
structure ParC where
 w0:World
 gp:Nat
 tv:Value
 ts:List Tok
 en:Int
 fx:List FuncX
 fv:Value
abbrev PXK (K:ParC) (F:List Nat) (w:World) (p:Nat) (ns:List NodeD):Prop:=PX K.w0 K.gp K.tv K.ts K.en K.fx K.fv F w p ns
def ParsR (K:ParC) (F:List Nat) (w:World) (v:Nat) (p:Nat) (ns:List NodeD) (e:Ending) (w':World):Prop:=e=.returned (.int .i64 (v:Int))∧PXK K F w' p ns∧KP K.gp w w'
def ParsP (K:ParC) (f:FuncId) (p:Nat) (ns:List NodeD) (v p':Nat) (ns':List NodeD):Prop:=∀ F w,PXK K F w p ns→Calls Tryz.prog f #[.pointer (some ⟨K.gp,0,none⟩)] w (ParsR K F w v p' ns')
theorem TxV.new (w:World) (l:List ByteArray) (h0:0<l.length) (h1:l.length≤100):TxV (w.alloc (.cells (l.map Value.string).toArray 9)) (.slice (some ⟨w.heap.size,0,none⟩) l.length l.length) l:=.inr ⟨_,rfl,Blk.new _ _ _,h0,h1⟩
section
variable {K:ParC} {p:Nat} {ns:List NodeD} {v p':Nat} {ns':List NodeD}
attribute [local go_sem] cell_alloc_is
set_option maxHeartbeats 8000000 in
theorem unary_x (hn:nextF K.ts p 5 [⟨#[45]⟩]=false) (hp:ParsP K 308 p ns v p' ns'):ParsP K 307 p ns v p' ns':=by
 intro F w h
 obtain ⟨P,hP⟩:∃ P:Ending→World→Prop,ParsR K F w v p' ns'=P:=⟨_,rfl⟩
 rw [hP]
 have HP:=hZz hP
 have HT:Hid (∀ wx tx,PXK K F wx p ns→TxV wx tx [⟨#[45]⟩]→Calls Tryz.prog 185 #[.pointer (some ⟨K.gp,0,none⟩),.int .i64 5,tx] wx fun e w'=>e=.returned (.tuple #[zTokV,.bool false])∧Below wx.heap.size wx w'):=hZz (fun wx tx h1 h2=>take_no h1 5 h2 hn)
 have HQ:=hZz hp
 have H:=hZz h
 clear hP hn hp h
 go_enter Tryz.func307,Tryz.ntmps307
 go_wp2_with (first
  | (go_at_call 185;(refine (HT.out _ _ (H.out.below (below_new _ _)) (TxV.new w [⟨#[45]⟩] (by decide) (by decide))).mono ?_);rintro e w1 ⟨rfl,hb⟩;have HB:=hZz (below_call hb (below_new w _));clear hb;unfold zTokV)
  | (go_at_call 308;(refine (HQ.out F _ (H.out.below (below_call (below_new _ _) HB.out))).mono ?_);rintro e w2 ⟨rfl,hx,hk⟩;have HX:=hZz hx;have HK:=hZz ((KP.of_below (below_call (below_new _ _) HB.out)).trans hk);clear hx hk))
 rw [← HP.out]
 exact ⟨rfl,HX.out,HK.out⟩
end
end
section
theorem RetR.from {w w1 w':World} {r:ResD} {e:Ending} (h:RetR w1 [] r e w') (hb:Below w.heap.size w w1):RetR w [] r e w':=by
 obtain ⟨u,he,hv,hf,hb'⟩:=h
 exact ⟨u,he,hv,hf.up hb.size (Below.refl _ _),below_call hb' hb⟩
theorem vals_at {w:World} {v:Value} {l:List ValD} (h:ValsV w v l) (hl:l≠[]):∃ b off cap,v=.slice (some ⟨b,off,none⟩) l.length cap∧∀ k (hk:k<l.length),∃ x,w.cell? ⟨b,off+k,none⟩=some x∧ValV w x l[k]:=by
 obtain ⟨A,cap,vs,rfl,hc,hm,hs,hla,hva⟩:=h.at
 have hlen:0<l.length:=by cases l <;> simp_all
 obtain ⟨b,off,rfl,_⟩:=hs.ptr (n:=0) (by omega)
 refine ⟨b,off,cap,rfl,fun k hk=>⟨vs[k]'(by omega),?_,hva k (by omega) hk⟩⟩
 have:=hs.cell0 (n:=k) (by omega) (v:=vs[k]'(by omega)) rfl
 rwa [Nat.mul_one] at this
theorem look_cases {s:ByteArray} {n:Int} (h:lookL builtL s=some n):(s=⟨#[108,101,110]⟩∧n=1)∨(s=⟨#[115,116,114]⟩∧n=1)∨(s=⟨#[105,110,116]⟩∧n=1)∨(s=⟨#[112,117,115,104]⟩∧n=2)∨(s=⟨#[112,117,116]⟩∧n=3)∨(s=⟨#[107,101,121,115]⟩∧n=1)∨(s=⟨#[104,97,115]⟩∧n=2)∨(s=⟨#[102,97,105,108]⟩∧n=1):=by
 simp only [bytes_lit]
 unfold lookL builtL at h
 simp only [List.lookup] at h
 repeat' (split at h)
 all_goals first
  | (rename_i hh;have e:=eq_of_beq hh;injection h with h;subst h;simp [e])
  | cases h
attribute [local go_sem] cell_alloc_is
set_option maxHeartbeats 8000000 in
theorem builtin_no (name:ByteArray) (args:List ValD) (av:Value) (w:World) (ha:ValsV w av args) (hp:Pow w) (ho:∀ x∈args,OkV x) (hno:∀ n,lookL builtL name=some n→(args.length:Int)≠n∨firstBad args≠0) :
  Calls Tryz.prog 16 #[.string name,av] w (RetR w [] (builtinR name args)):=by
 obtain ⟨P,hP⟩:∃ P:Ending→World→Prop,RetR w [] (builtinR name args)=P:=⟨_,rfl⟩
 rw [hP]
 have HP:=hZz hP
 have HBU:=hZz (built_any name w)
 have HCK:Hid (∀ wx,Below w.heap.size w wx→Calls Tryz.prog 30 #[av] wx fun e w'=>e=.returned (.int .i64 (firstBad args))∧Below w.heap.size w w'):=hZz fun wx hb=>(echeck_any args av wx (ha.below hb) (hp.below hb) ho).mono fun e w' ⟨he,hb'⟩=>⟨he,below_call hb' hb⟩
 have HU:Hid (builtinR name args=match lookL builtL name with | none=>([],4) | some n=>if (args.length:Int)≠n then ([],7) else if firstBad args≠0 then ([],firstBad args) else builtR name.toList args):=hZz rfl
 obtain ⟨aA,ac,rfl⟩:∃ A c,av=.slice A args.length c:=by
  obtain ⟨A,cap,vs,e,_⟩:=ha.at
  exact ⟨A,cap,e⟩
 obtain ⟨N,hN⟩:∃ N,args.length=N:=⟨_,rfl⟩
 rw [hN] at HU HCK hno ⊢
 obtain ⟨fb,hfb⟩:∃ b,firstBad args=b:=⟨_,rfl⟩
 rw [hfb] at HU HCK hno
 clear hP ha hp ho hN hfb
 cases hlk:lookL builtL name with
 | none =>
  rw [hlk] at HBU HU
  have HR:=HU
  simp only [Option.getD_none,Option.isSome_none] at HBU
  clear hlk hno HU
  go_enter Tryz.func16,Tryz.ntmps16
  go_wp2_with (first
   | (go_at_call 49;((with_reducible refine HBU.out.mono ?_);rintro e w1 ⟨rfl,hb1⟩;have HB1:=hZz hb1;clear hb1)))
  rw [← HP.out]
  exact RetR.err HR.out HB1.out
 | some n =>
  have hno':=hno n hlk
  rw [hlk] at HBU HU
  simp only [Option.getD_some,Option.isSome_some] at HBU
  dsimp only at HU
  clear hlk hno
  by_cases hn:(N:Int)=n
  ·have h1:fb≠0:=hno'.resolve_left (not_not_intro hn)
   have h2:(fb != 0)=true:=by simpa using h1
   have HR:Hid (builtinR name args=([],fb)):=hZz (by rw [HU.out,if_neg (not_not_intro hn),if_pos h1])
   subst hn
   clear h1 hno' HU
   go_enter Tryz.func16,Tryz.ntmps16
   go_wp2_with (first
    | (go_at_call 49;((with_reducible refine HBU.out.mono ?_);rintro e w1 ⟨rfl,hb1⟩;have HB1:=hZz hb1;clear hb1))
    | (go_at_call 30;((with_reducible refine (HCK.out _ HB1.out).mono ?_);rintro e w2 ⟨rfl,hb2⟩;have HB2:=hZz hb2;clear hb2)))
   rw [← HP.out]
   exact RetR.err HR.out HB2.out
  ·have h2:((N:Int) != n)=true:=by simpa using hn
   have HR:Hid (builtinR name args=([],7)):=hZz (by rw [HU.out,if_pos hn])
   clear hn hno' HU
   go_enter Tryz.func16,Tryz.ntmps16
   go_wp2_with (first
    | (go_at_call 49;((with_reducible refine HBU.out.mono ?_);rintro e w1 ⟨rfl,hb1⟩;have HB1:=hZz hb1;clear hb1)))
   rw [← HP.out]
   exact RetR.err HR.out HB1.out
theorem look_len:lookL builtL ⟨#[108,101,110]⟩=some 1:=by unfold lookL;rw [Lib.toList_data];rfl
theorem look_str:lookL builtL ⟨#[115,116,114]⟩=some 1:=by unfold lookL;rw [Lib.toList_data];rfl
theorem look_int:lookL builtL ⟨#[105,110,116]⟩=some 1:=by unfold lookL;rw [Lib.toList_data];rfl
theorem look_push:lookL builtL ⟨#[112,117,115,104]⟩=some 2:=by unfold lookL;rw [Lib.toList_data];rfl
theorem look_put:lookL builtL ⟨#[112,117,116]⟩=some 3:=by unfold lookL;rw [Lib.toList_data];rfl
theorem look_keys:lookL builtL ⟨#[107,101,121,115]⟩=some 1:=by unfold lookL;rw [Lib.toList_data];rfl
theorem look_has:lookL builtL ⟨#[104,97,115]⟩=some 2:=by unfold lookL;rw [Lib.toList_data];rfl
theorem look_fail:lookL builtL ⟨#[102,97,105,108]⟩=some 1:=by unfold lookL;rw [Lib.toList_data];rfl
set_option maxHeartbeats 8000000 in
theorem built_len (a:ValD) (av:Value) (w:World) (ha:ValsV w av [a]) (hp:Pow w) (hse:Sent w) (hf:firstBad [a]=0) :
  Calls Tryz.prog 16 #[.string ⟨#[108,101,110]⟩,av] w (RetR w [] (builtR [108,101,110] [a])):=by
 obtain ⟨P,hP⟩:∃ P:Ending→World→Prop,RetR w [] (builtR [108,101,110] [a])=P:=⟨_,rfl⟩
 rw [hP]
 have HP:=hZz hP
 have hall:=firstBad_all hf
 have HBU:=hZz (built_any ⟨#[108,101,110]⟩ w)
 rw [look_len] at HBU
 simp only [Option.getD_some,Option.isSome_some] at HBU
 have HCK:Hid (∀ wx,Below w.heap.size w wx→Calls Tryz.prog 30 #[av] wx fun e w'=>e=.returned (.int .i64 0)∧Below w.heap.size w w'):=hZz fun wx hb=>(echeck_any [a] av wx (ha.below hb) (hp.below hb) (fun x hx=>okV_of_check (hall x hx))).mono fun e w' ⟨he,hb'⟩=>⟨by rw [he,hf],below_call hb' hb⟩
 obtain ⟨b,off,cap,rfl,hat⟩:=vals_at ha (by simp)
 simp only [List.length_cons,List.length_nil,Nat.zero_add,Nat.reduceAdd] at hat HCK ⊢
 obtain ⟨x0,hx0,hx⟩:=hat 0 (by omega)
 simp only [Nat.add_zero,List.getElem_cons_zero] at hx0 hx
 have hck:checkF a=0:=hall a (by simp)
 obtain ⟨A0,n0,k0,rfl⟩:=hx.shape
 obtain ⟨c,r,rfl⟩:∃ c r,a=c :: r:=by
  cases a with
  | nil=>exact absurd rfl (check_ne hck)
  | cons c r=>exact ⟨c,r,rfl⟩
 have HX0:=hZz hx0
 have HF:Hid (∀ wx,Below w.heap.size w wx→Calls Tryz.prog 50 #[.slice A0 n0 k0] wx (RetR wx [] (sizeR (c :: r)))):=hZz fun wx hb=>size0_any c r _ wx (hx.below hb) (hp.below hb) (okV_of_check hck) hck
 have HR:Hid (builtR [108,101,110] [c :: r]=sizeR (c :: r)):=hZz rfl
 clear hP ha hp hse hf hall hat hx hck hx0
 go_enter Tryz.func16,Tryz.ntmps16
 go_wp2_with (first
  | (go_at_call 49;((with_reducible refine HBU.out.mono ?_);rintro e w1 ⟨rfl,hb1⟩;have HB1:=hZz hb1;clear hb1))
  | (go_at_call 30;((with_reducible refine (HCK.out _ HB1.out).mono ?_);rintro e w2 ⟨rfl,hb2⟩;have HB2:=hZz hb2;have hx0:=(hb2.cell (World.block_lt_of_cell? _ _ HX0.out)).trans HX0.out;clear hb2))
  | (go_at_call 50;((refine (HF.out _ HB2.out).mono ?_);rintro e w3 ⟨u,rfl,hu⟩;have HU:=hZz hu;clear hu)))
 rw [← HP.out,HR.out]
 exact RetR.from ⟨u,rfl,HU.out⟩ HB2.out
set_option maxHeartbeats 8000000 in
theorem built_str (a:ValD) (av:Value) (w:World) (ha:ValsV w av [a]) (hp:Pow w) (hse:Sent w) (hf:firstBad [a]=0) :
  Calls Tryz.prog 16 #[.string ⟨#[115,116,114]⟩,av] w (RetR w [] (builtR [115,116,114] [a])):=by
 obtain ⟨P,hP⟩:∃ P:Ending→World→Prop,RetR w [] (builtR [115,116,114] [a])=P:=⟨_,rfl⟩
 rw [hP]
 have HP:=hZz hP
 have hall:=firstBad_all hf
 have HBU:=hZz (built_any ⟨#[115,116,114]⟩ w)
 rw [look_str] at HBU
 simp only [Option.getD_some,Option.isSome_some] at HBU
 have HCK:Hid (∀ wx,Below w.heap.size w wx→Calls Tryz.prog 30 #[av] wx fun e w'=>e=.returned (.int .i64 0)∧Below w.heap.size w w'):=hZz fun wx hb=>(echeck_any [a] av wx (ha.below hb) (hp.below hb) (fun x hx=>okV_of_check (hall x hx))).mono fun e w' ⟨he,hb'⟩=>⟨by rw [he,hf],below_call hb' hb⟩
 obtain ⟨b,off,cap,rfl,hat⟩:=vals_at ha (by simp)
 simp only [List.length_cons,List.length_nil,Nat.zero_add,Nat.reduceAdd] at hat HCK ⊢
 obtain ⟨x0,hx0,hx⟩:=hat 0 (by omega)
 simp only [Nat.add_zero,List.getElem_cons_zero] at hx0 hx
 have hck:checkF a=0:=hall a (by simp)
 obtain ⟨A0,n0,k0,rfl⟩:=hx.shape
 obtain ⟨c,r,rfl⟩:∃ c r,a=c :: r:=by
  cases a with
  | nil=>exact absurd rfl (check_ne hck)
  | cons c r=>exact ⟨c,r,rfl⟩
 have HX0:=hZz hx0
 have HF:Hid (∀ wx,Below w.heap.size w wx→Calls Tryz.prog 51 #[.slice A0 n0 k0] wx (RetR wx [] (textR (c :: r)))):=hZz fun wx hb=>text_eval c r _ wx (hx.below hb) (hp.below hb) hck
 have HR:Hid (builtR [115,116,114] [c :: r]=textR (c :: r)):=hZz rfl
 clear hP ha hp hse hf hall hat hx hck hx0
 go_enter Tryz.func16,Tryz.ntmps16
 go_wp2_with (first
  | (go_at_call 49;((with_reducible refine HBU.out.mono ?_);rintro e w1 ⟨rfl,hb1⟩;have HB1:=hZz hb1;clear hb1))
  | (go_at_call 30;((with_reducible refine (HCK.out _ HB1.out).mono ?_);rintro e w2 ⟨rfl,hb2⟩;have HB2:=hZz hb2;have hx0:=(hb2.cell (World.block_lt_of_cell? _ _ HX0.out)).trans HX0.out;clear hb2))
  | (go_at_call 51;((refine (HF.out _ HB2.out).mono ?_);rintro e w3 ⟨u,rfl,hu⟩;have HU:=hZz hu;clear hu)))
 rw [← HP.out,HR.out]
 exact RetR.from ⟨u,rfl,HU.out⟩ HB2.out
set_option maxHeartbeats 8000000 in
theorem built_int (a:ValD) (av:Value) (w:World) (ha:ValsV w av [a]) (hp:Pow w) (hse:Sent w) (hf:firstBad [a]=0) :
  Calls Tryz.prog 16 #[.string ⟨#[105,110,116]⟩,av] w (RetR w [] (builtR [105,110,116] [a])):=by
 obtain ⟨P,hP⟩:∃ P:Ending→World→Prop,RetR w [] (builtR [105,110,116] [a])=P:=⟨_,rfl⟩
 rw [hP]
 have HP:=hZz hP
 have hall:=firstBad_all hf
 have HBU:=hZz (built_any ⟨#[105,110,116]⟩ w)
 rw [look_int] at HBU
 simp only [Option.getD_some,Option.isSome_some] at HBU
 have HCK:Hid (∀ wx,Below w.heap.size w wx→Calls Tryz.prog 30 #[av] wx fun e w'=>e=.returned (.int .i64 0)∧Below w.heap.size w w'):=hZz fun wx hb=>(echeck_any [a] av wx (ha.below hb) (hp.below hb) (fun x hx=>okV_of_check (hall x hx))).mono fun e w' ⟨he,hb'⟩=>⟨by rw [he,hf],below_call hb' hb⟩
 obtain ⟨b,off,cap,rfl,hat⟩:=vals_at ha (by simp)
 simp only [List.length_cons,List.length_nil,Nat.zero_add,Nat.reduceAdd] at hat HCK ⊢
 obtain ⟨x0,hx0,hx⟩:=hat 0 (by omega)
 simp only [Nat.add_zero,List.getElem_cons_zero] at hx0 hx
 have hck:checkF a=0:=hall a (by simp)
 obtain ⟨A0,n0,k0,rfl⟩:=hx.shape
 obtain ⟨c,r,rfl⟩:∃ c r,a=c :: r:=by
  cases a with
  | nil=>exact absurd rfl (check_ne hck)
  | cons c r=>exact ⟨c,r,rfl⟩
 have HX0:=hZz hx0
 have HF:Hid (∀ wx,Below w.heap.size w wx→Calls Tryz.prog 52 #[.slice A0 n0 k0] wx (RetR wx [] (integerR (c :: r)))):=hZz fun wx hb=>integer_any c r _ wx (hx.below hb) (hp.below hb) (hse.below hb) (okV_of_check hck) hck
 have HR:Hid (builtR [105,110,116] [c :: r]=integerR (c :: r)):=hZz rfl
 clear hP ha hp hse hf hall hat hx hck hx0
 go_enter Tryz.func16,Tryz.ntmps16
 go_wp2_with (first
  | (go_at_call 49;((with_reducible refine HBU.out.mono ?_);rintro e w1 ⟨rfl,hb1⟩;have HB1:=hZz hb1;clear hb1))
  | (go_at_call 30;((with_reducible refine (HCK.out _ HB1.out).mono ?_);rintro e w2 ⟨rfl,hb2⟩;have HB2:=hZz hb2;have hx0:=(hb2.cell (World.block_lt_of_cell? _ _ HX0.out)).trans HX0.out;clear hb2))
  | (go_at_call 52;((refine (HF.out _ HB2.out).mono ?_);rintro e w3 ⟨u,rfl,hu⟩;have HU:=hZz hu;clear hu)))
 rw [← HP.out,HR.out]
 exact RetR.from ⟨u,rfl,HU.out⟩ HB2.out
set_option maxHeartbeats 8000000 in
theorem built_keys (a:ValD) (av:Value) (w:World) (ha:ValsV w av [a]) (hp:Pow w) (hse:Sent w) (hf:firstBad [a]=0) :
  Calls Tryz.prog 16 #[.string ⟨#[107,101,121,115]⟩,av] w (RetR w [] (builtR [107,101,121,115] [a])):=by
 obtain ⟨P,hP⟩:∃ P:Ending→World→Prop,RetR w [] (builtR [107,101,121,115] [a])=P:=⟨_,rfl⟩
 rw [hP]
 have HP:=hZz hP
 have hall:=firstBad_all hf
 have HBU:=hZz (built_any ⟨#[107,101,121,115]⟩ w)
 rw [look_keys] at HBU
 simp only [Option.getD_some,Option.isSome_some] at HBU
 have HCK:Hid (∀ wx,Below w.heap.size w wx→Calls Tryz.prog 30 #[av] wx fun e w'=>e=.returned (.int .i64 0)∧Below w.heap.size w w'):=hZz fun wx hb=>(echeck_any [a] av wx (ha.below hb) (hp.below hb) (fun x hx=>okV_of_check (hall x hx))).mono fun e w' ⟨he,hb'⟩=>⟨by rw [he,hf],below_call hb' hb⟩
 obtain ⟨b,off,cap,rfl,hat⟩:=vals_at ha (by simp)
 simp only [List.length_cons,List.length_nil,Nat.zero_add,Nat.reduceAdd] at hat HCK ⊢
 obtain ⟨x0,hx0,hx⟩:=hat 0 (by omega)
 simp only [Nat.add_zero,List.getElem_cons_zero] at hx0 hx
 have hck:checkF a=0:=hall a (by simp)
 obtain ⟨A0,n0,k0,rfl⟩:=hx.shape
 obtain ⟨c,r,rfl⟩:∃ c r,a=c :: r:=by
  cases a with
  | nil=>exact absurd rfl (check_ne hck)
  | cons c r=>exact ⟨c,r,rfl⟩
 have HX0:=hZz hx0
 have HF:Hid (∀ wx,Below w.heap.size w wx→Calls Tryz.prog 54 #[.slice A0 n0 k0] wx (RetR wx [] (keysR (c :: r)))):=hZz fun wx hb=>bkeys_any c r _ wx (hx.below hb) (hp.below hb) (okV_of_check hck) hck
 have HR:Hid (builtR [107,101,121,115] [c :: r]=keysR (c :: r)):=hZz rfl
 clear hP ha hp hse hf hall hat hx hck hx0
 go_enter Tryz.func16,Tryz.ntmps16
 go_wp2_with (first
  | (go_at_call 49;((with_reducible refine HBU.out.mono ?_);rintro e w1 ⟨rfl,hb1⟩;have HB1:=hZz hb1;clear hb1))
  | (go_at_call 30;((with_reducible refine (HCK.out _ HB1.out).mono ?_);rintro e w2 ⟨rfl,hb2⟩;have HB2:=hZz hb2;have hx0:=(hb2.cell (World.block_lt_of_cell? _ _ HX0.out)).trans HX0.out;clear hb2))
  | (go_at_call 54;((refine (HF.out _ HB2.out).mono ?_);rintro e w3 ⟨u,rfl,hu⟩;have HU:=hZz hu;clear hu)))
 rw [← HP.out,HR.out]
 exact RetR.from ⟨u,rfl,HU.out⟩ HB2.out
set_option maxHeartbeats 8000000 in
theorem built_fail (a:ValD) (av:Value) (w:World) (ha:ValsV w av [a]) (hp:Pow w) (hse:Sent w) (hf:firstBad [a]=0) :
  Calls Tryz.prog 16 #[.string ⟨#[102,97,105,108]⟩,av] w (RetR w [] (builtR [102,97,105,108] [a])):=by
 obtain ⟨P,hP⟩:∃ P:Ending→World→Prop,RetR w [] (builtR [102,97,105,108] [a])=P:=⟨_,rfl⟩
 rw [hP]
 have HP:=hZz hP
 have hall:=firstBad_all hf
 have HBU:=hZz (built_any ⟨#[102,97,105,108]⟩ w)
 rw [look_fail] at HBU
 simp only [Option.getD_some,Option.isSome_some] at HBU
 have HCK:Hid (∀ wx,Below w.heap.size w wx→Calls Tryz.prog 30 #[av] wx fun e w'=>e=.returned (.int .i64 0)∧Below w.heap.size w w'):=hZz fun wx hb=>(echeck_any [a] av wx (ha.below hb) (hp.below hb) (fun x hx=>okV_of_check (hall x hx))).mono fun e w' ⟨he,hb'⟩=>⟨by rw [he,hf],below_call hb' hb⟩
 obtain ⟨b,off,cap,rfl,hat⟩:=vals_at ha (by simp)
 simp only [List.length_cons,List.length_nil,Nat.zero_add,Nat.reduceAdd] at hat HCK ⊢
 have HR:Hid (builtR [102,97,105,108] [a]=([],20)):=hZz rfl
 clear hP ha hp hse hf hall hat
 go_enter Tryz.func16,Tryz.ntmps16
 go_wp2_with (first
  | (go_at_call 49;((with_reducible refine HBU.out.mono ?_);rintro e w1 ⟨rfl,hb1⟩;have HB1:=hZz hb1;clear hb1))
  | (go_at_call 30;((with_reducible refine (HCK.out _ HB1.out).mono ?_);rintro e w2 ⟨rfl,hb2⟩;have HB2:=hZz hb2;clear hb2)))
 rw [← HP.out]
 exact RetR.err HR.out HB2.out
set_option maxHeartbeats 8000000 in
theorem built_push (a d:ValD) (av:Value) (w:World) (ha:ValsV w av [a,d]) (hp:Pow w) (hse:Sent w) (hf:firstBad [a,d]=0) :
  Calls Tryz.prog 16 #[.string ⟨#[112,117,115,104]⟩,av] w (RetR w [] (builtR [112,117,115,104] [a,d])):=by
 obtain ⟨P,hP⟩:∃ P:Ending→World→Prop,RetR w [] (builtR [112,117,115,104] [a,d])=P:=⟨_,rfl⟩
 rw [hP]
 have HP:=hZz hP
 have hall:=firstBad_all hf
 have HBU:=hZz (built_any ⟨#[112,117,115,104]⟩ w)
 rw [look_push] at HBU
 simp only [Option.getD_some,Option.isSome_some] at HBU
 have HCK:Hid (∀ wx,Below w.heap.size w wx→Calls Tryz.prog 30 #[av] wx fun e w'=>e=.returned (.int .i64 0)∧Below w.heap.size w w'):=hZz fun wx hb=>(echeck_any [a,d] av wx (ha.below hb) (hp.below hb) (fun x hx=>okV_of_check (hall x hx))).mono fun e w' ⟨he,hb'⟩=>⟨by rw [he,hf],below_call hb' hb⟩
 obtain ⟨b,off,cap,rfl,hat⟩:=vals_at ha (by simp)
 simp only [List.length_cons,List.length_nil,Nat.zero_add,Nat.reduceAdd] at hat HCK ⊢
 obtain ⟨x0,hx0,hx⟩:=hat 0 (by omega)
 obtain ⟨x1,hx1,hy⟩:=hat 1 (by omega)
 simp only [Nat.add_zero,List.getElem_cons_zero,List.getElem_cons_succ] at hx0 hx hx1 hy
 have hck:checkF a=0:=hall a (by simp)
 have hck2:checkF d=0:=hall d (by simp)
 obtain ⟨A0,n0,k0,rfl⟩:=hx.shape
 obtain ⟨A1,n1,k1,rfl⟩:=hy.shape
 obtain ⟨c,r,rfl⟩:∃ c r,a=c :: r:=by
  cases a with
  | nil=>exact absurd rfl (check_ne hck)
  | cons c r=>exact ⟨c,r,rfl⟩
 have HX0:=hZz hx0
 have HX1:=hZz hx1
 have HF:Hid (∀ wx,Below w.heap.size w wx→Calls Tryz.prog 53 #[.slice A0 n0 k0,.slice A1 n1 k1] wx (RetR wx [] (pushR (c :: r) d))):=hZz fun wx hb=>push_any c r d _ _ wx (hx.below hb) (hy.below hb) (hp.below hb) (okV_of_check hck) (okV_of_check hck2) hck
 have HR:Hid (builtR [112,117,115,104] [c :: r,d]=pushR (c :: r) d):=hZz rfl
 clear hP ha hp hse hf hall hat hx hck hx0 hx1 hy hck2
 go_enter Tryz.func16,Tryz.ntmps16
 go_upto_region 17 with (first
  | (go_at_call 49;((with_reducible refine HBU.out.mono ?_);rintro e w1 ⟨rfl,hb1⟩;have HB1:=hZz hb1;clear hb1))
  | (go_at_call 30;((with_reducible refine (HCK.out _ HB1.out).mono ?_);rintro e w2 ⟨rfl,hb2⟩;have HB2:=hZz hb2;have hx0:=(hb2.cell (World.block_lt_of_cell? _ _ HX0.out)).trans HX0.out;have hx1:=(hb2.cell (World.block_lt_of_cell? _ _ HX1.out)).trans HX1.out;clear hb2)))
 go_region_law (go_simp;go_at_call 53;((refine (HF.out _ (below_call' (below_drew _) HB2.out HB2.out.size)).mono ?_);rintro e w3 ⟨u,rfl,hu⟩;have HU:=hZz hu;clear hu))
 all_goals
  go_simp
  go_wp2_with (fail)
  rw [← HP.out,HR.out]
  exact RetR.from ⟨u,rfl,HU.out⟩ (below_call' (below_drew _) HB2.out HB2.out.size)
set_option maxHeartbeats 8000000 in
theorem built_put (a d z:ValD) (av:Value) (w:World) (ha:ValsV w av [a,d,z]) (hp:Pow w) (hse:Sent w) (hf:firstBad [a,d,z]=0) :
  Calls Tryz.prog 16 #[.string ⟨#[112,117,116]⟩,av] w (RetR w [] (builtR [112,117,116] [a,d,z])):=by
 obtain ⟨P,hP⟩:∃ P:Ending→World→Prop,RetR w [] (builtR [112,117,116] [a,d,z])=P:=⟨_,rfl⟩
 rw [hP]
 have HP:=hZz hP
 have hall:=firstBad_all hf
 have HBU:=hZz (built_any ⟨#[112,117,116]⟩ w)
 rw [look_put] at HBU
 simp only [Option.getD_some,Option.isSome_some] at HBU
 have HCK:Hid (∀ wx,Below w.heap.size w wx→Calls Tryz.prog 30 #[av] wx fun e w'=>e=.returned (.int .i64 0)∧Below w.heap.size w w'):=hZz fun wx hb=>(echeck_any [a,d,z] av wx (ha.below hb) (hp.below hb) (fun x hx=>okV_of_check (hall x hx))).mono fun e w' ⟨he,hb'⟩=>⟨by rw [he,hf],below_call hb' hb⟩
 obtain ⟨b,off,cap,rfl,hat⟩:=vals_at ha (by simp)
 simp only [List.length_cons,List.length_nil,Nat.zero_add,Nat.reduceAdd] at hat HCK ⊢
 obtain ⟨x0,hx0,hx⟩:=hat 0 (by omega)
 obtain ⟨x1,hx1,hy⟩:=hat 1 (by omega)
 obtain ⟨x2,hx2,hz⟩:=hat 2 (by omega)
 simp only [Nat.add_zero,List.getElem_cons_zero,List.getElem_cons_succ] at hx0 hx hx1 hy hx2 hz
 have hck:checkF a=0:=hall a (by simp)
 have hck2:checkF d=0:=hall d (by simp)
 have hck3:checkF z=0:=hall z (by simp)
 obtain ⟨A2,n2,k2,rfl⟩:=hz.shape
 have HX2:=hZz hx2
 have hks:∀ c r,d=c :: r→c.str.size≤200:=fun c r e=>str_len hck2 c (by rw [e];simp)
 obtain ⟨c,r,rfl⟩:∃ c r,a=c :: r:=by
  cases a with
  | nil=>exact absurd rfl (check_ne hck)
  | cons c r=>exact ⟨c,r,rfl⟩
 obtain ⟨c2,r2,rfl⟩:∃ c r,d=c :: r:=by
  cases d with
  | nil=>exact absurd rfl (check_ne hck2)
  | cons c r=>exact ⟨c,r,rfl⟩
 have hks2:=hks c2 r2 rfl
 have hx9:=hx
 have hy9:=hy
 obtain ⟨bA,oA,nA,cA,rfl,hnA,a0,_,_,_⟩:=head_cell hx9
 obtain ⟨bB,oB,nB,cB,rfl,hnB,b0,_,b2,_⟩:=head_cell hy9
 have hpA:(0:Int)<(nA:Int):=by omega
 have hpB:(0:Int)<(nB:Int):=by omega
 have hpBn:0<nB:=by omega
 have HX0:=hZz hx0
 have HX1:=hZz hx1
 have HA0:=hZz a0
 have HB0:=hZz b0
 have HB5:=hZz b2
 have HF:Hid (∀ wx,Below w.heap.size w wx→Calls Tryz.prog 55 #[.slice (some ⟨bA,oA,none⟩) nA cA,.string c2.str,.slice A2 n2 k2] wx (RetR wx [] (putR (c :: r) c2.str z))):=hZz fun wx hb=>put_any (c :: r) z c2.str _ _ wx (hx.below hb) (hz.below hb) (hp.below hb) (okV_of_check hck) (okV_of_check hck3) (by omega)
 have HU:Hid (builtR [112,117,116] [c :: r,c2 :: r2,z]=if c.kind≠6∨c2.kind≠4 then ([],7) else putR (c :: r) c2.str z):=hZz rfl
 obtain ⟨BR,hBR⟩:∃ t,builtR [112,117,116] [c :: r,c2 :: r2,z]=t:=⟨_,rfl⟩
 rw [hBR] at HP HU
 obtain ⟨k,i,s,nn⟩:=c
 obtain ⟨kk,ii,ss,nnn⟩:=c2
 dsimp only at a0 b0 b2 HA0 HB0 HB5 HF HU hks2
 clear hP ha hp hse hf hall hat hx hy hck hx0 hx1 hck2 hks hx9 hy9 a0 b0 b2 hBR hks2 hnA hnB hx2 hz hck3
 by_cases h6:k=6
 case neg =>
  have h6':(k != 6)=true:=by simpa using h6
  have HR:Hid (BR=([],7)):=hZz (by rw [HU.out,if_pos (.inl h6)])
  clear h6 HU
  go_enter Tryz.func16,Tryz.ntmps16
  go_wp2_with (first
   | (go_at_call 49;((with_reducible refine HBU.out.mono ?_);rintro e w1 ⟨rfl,hb1⟩;have HB1:=hZz hb1;clear hb1))
   | (go_at_call 30;((with_reducible refine (HCK.out _ HB1.out).mono ?_);rintro e w2 ⟨rfl,hb2⟩;have HB2:=hZz hb2;have hx0:=(hb2.cell (World.block_lt_of_cell? _ _ HX0.out)).trans HX0.out;have hx1:=(hb2.cell (World.block_lt_of_cell? _ _ HX1.out)).trans HX1.out;have ha0:=(hb2.cell (World.block_lt_of_cell? _ _ HA0.out)).trans HA0.out;have hb0:=(hb2.cell (World.block_lt_of_cell? _ _ HB0.out)).trans HB0.out;have hb5:=(hb2.cell (World.block_lt_of_cell? _ _ HB5.out)).trans HB5.out;clear hb2)))
  rw [← HP.out]
  exact RetR.err HR.out HB2.out
 subst h6
 by_cases h4:kk=4
 case neg =>
  have h4':(kk != 4)=true:=by simpa using h4
  have HR:Hid (BR=([],7)):=hZz (by rw [HU.out,if_pos (.inr h4)])
  clear h4 HU
  go_enter Tryz.func16,Tryz.ntmps16
  go_wp2_with (first
   | (go_at_call 49;((with_reducible refine HBU.out.mono ?_);rintro e w1 ⟨rfl,hb1⟩;have HB1:=hZz hb1;clear hb1))
   | (go_at_call 30;((with_reducible refine (HCK.out _ HB1.out).mono ?_);rintro e w2 ⟨rfl,hb2⟩;have HB2:=hZz hb2;have hx0:=(hb2.cell (World.block_lt_of_cell? _ _ HX0.out)).trans HX0.out;have hx1:=(hb2.cell (World.block_lt_of_cell? _ _ HX1.out)).trans HX1.out;have ha0:=(hb2.cell (World.block_lt_of_cell? _ _ HA0.out)).trans HA0.out;have hb0:=(hb2.cell (World.block_lt_of_cell? _ _ HB0.out)).trans HB0.out;have hb5:=(hb2.cell (World.block_lt_of_cell? _ _ HB5.out)).trans HB5.out;clear hb2)))
  rw [← HP.out]
  exact RetR.err HR.out HB2.out
 subst h4
 have HR:Hid (BR=putR (⟨6,i,s,nn⟩ :: r) ss z):=hZz (by rw [HU.out,if_neg (by simp)])
 clear HU
 go_enter Tryz.func16,Tryz.ntmps16
 go_upto_region 25 with (first
  | (go_at_call 49;((with_reducible refine HBU.out.mono ?_);rintro e w1 ⟨rfl,hb1⟩;have HB1:=hZz hb1;clear hb1))
  | (go_at_call 30;((with_reducible refine (HCK.out _ HB1.out).mono ?_);rintro e w2 ⟨rfl,hb2⟩;have HB2:=hZz hb2;have hx0:=(hb2.cell (World.block_lt_of_cell? _ _ HX0.out)).trans HX0.out;have hx1:=(hb2.cell (World.block_lt_of_cell? _ _ HX1.out)).trans HX1.out;have ha0:=(hb2.cell (World.block_lt_of_cell? _ _ HA0.out)).trans HA0.out;have hb0:=(hb2.cell (World.block_lt_of_cell? _ _ HB0.out)).trans HB0.out;have hb5:=(hb2.cell (World.block_lt_of_cell? _ _ HB5.out)).trans HB5.out;have hx2:=(hb2.cell (World.block_lt_of_cell? _ _ HX2.out)).trans HX2.out;clear hb2)))
 go_region_law (go_simp;go_at_call 55;((refine (HF.out _ (below_call' (below_drew _) HB2.out HB2.out.size)).mono ?_);rintro e w3 ⟨u,rfl,hu⟩;have HU:=hZz hu;clear hu))
 all_goals
  go_simp
  go_wp2_with (fail)
  rw [← HP.out,HR.out]
  exact RetR.from ⟨u,rfl,HU.out⟩ (below_call' (below_drew _) HB2.out HB2.out.size)
set_option maxHeartbeats 8000000 in
theorem built_has (a d:ValD) (av:Value) (w:World) (ha:ValsV w av [a,d]) (hp:Pow w) (hse:Sent w) (hf:firstBad [a,d]=0) :
  Calls Tryz.prog 16 #[.string ⟨#[104,97,115]⟩,av] w (RetR w [] (builtR [104,97,115] [a,d])):=by
 obtain ⟨P,hP⟩:∃ P:Ending→World→Prop,RetR w [] (builtR [104,97,115] [a,d])=P:=⟨_,rfl⟩
 rw [hP]
 have HP:=hZz hP
 have hall:=firstBad_all hf
 have HBU:=hZz (built_any ⟨#[104,97,115]⟩ w)
 rw [look_has] at HBU
 simp only [Option.getD_some,Option.isSome_some] at HBU
 have HCK:Hid (∀ wx,Below w.heap.size w wx→Calls Tryz.prog 30 #[av] wx fun e w'=>e=.returned (.int .i64 0)∧Below w.heap.size w w'):=hZz fun wx hb=>(echeck_any [a,d] av wx (ha.below hb) (hp.below hb) (fun x hx=>okV_of_check (hall x hx))).mono fun e w' ⟨he,hb'⟩=>⟨by rw [he,hf],below_call hb' hb⟩
 obtain ⟨b,off,cap,rfl,hat⟩:=vals_at ha (by simp)
 simp only [List.length_cons,List.length_nil,Nat.zero_add,Nat.reduceAdd] at hat HCK ⊢
 obtain ⟨x0,hx0,hx⟩:=hat 0 (by omega)
 obtain ⟨x1,hx1,hy⟩:=hat 1 (by omega)
 simp only [Nat.add_zero,List.getElem_cons_zero,List.getElem_cons_succ] at hx0 hx hx1 hy
 have hck:checkF a=0:=hall a (by simp)
 have hck2:checkF d=0:=hall d (by simp)
 have hks:∀ c r,d=c :: r→c.str.size≤200:=fun c r e=>str_len hck2 c (by rw [e];simp)
 obtain ⟨c,r,rfl⟩:∃ c r,a=c :: r:=by
  cases a with
  | nil=>exact absurd rfl (check_ne hck)
  | cons c r=>exact ⟨c,r,rfl⟩
 obtain ⟨c2,r2,rfl⟩:∃ c r,d=c :: r:=by
  cases d with
  | nil=>exact absurd rfl (check_ne hck2)
  | cons c r=>exact ⟨c,r,rfl⟩
 have hks2:=hks c2 r2 rfl
 have hx9:=hx
 have hy9:=hy
 obtain ⟨bA,oA,nA,cA,rfl,hnA,a0,_,_,_⟩:=head_cell hx9
 obtain ⟨bB,oB,nB,cB,rfl,hnB,b0,_,b2,_⟩:=head_cell hy9
 have hpA:(0:Int)<(nA:Int):=by omega
 have hpB:(0:Int)<(nB:Int):=by omega
 have hpBn:0<nB:=by omega
 have HX0:=hZz hx0
 have HX1:=hZz hx1
 have HA0:=hZz a0
 have HB0:=hZz b0
 have HB5:=hZz b2
 have HF:Hid (∀ wx,Below w.heap.size w wx→Calls Tryz.prog 56 #[.slice (some ⟨bA,oA,none⟩) nA cA,.string c2.str] wx (RetR wx [] (getR (c :: r) c2.str))):=hZz fun wx hb=>get_any (c :: r) c2.str _ wx (hx.below hb) (hp.below hb) (okV_of_check hck)
 have HU:Hid (builtR [104,97,115] [c :: r,c2 :: r2]=if c.kind≠6∨c2.kind≠4 then ([],7) else ([bCel (decide ((getR (c :: r) c2.str).2=0))],0)):=hZz rfl
 obtain ⟨⟨gv,ge⟩,hge⟩:∃ t,getR (c :: r) c2.str=t:=⟨_,rfl⟩
 rw [hge] at HF HU
 dsimp only at HF HU
 obtain ⟨BR,hBR⟩:∃ t,builtR [104,97,115] [c :: r,c2 :: r2]=t:=⟨_,rfl⟩
 rw [hBR] at HP HU
 obtain ⟨k,i,s,nn⟩:=c
 obtain ⟨kk,ii,ss,nnn⟩:=c2
 dsimp only at a0 b0 b2 HA0 HB0 HB5 HF HU hks2
 clear hP ha hp hse hf hall hat hx hy hck hx0 hx1 hck2 hks hx9 hy9 a0 b0 b2 hBR hks2 hnA hnB hge
 by_cases h6:k=6
 case neg =>
  have h6':(k != 6)=true:=by simpa using h6
  have HR:Hid (BR=([],7)):=hZz (by rw [HU.out,if_pos (.inl h6)])
  clear h6 HU
  go_enter Tryz.func16,Tryz.ntmps16
  go_wp2_with (first
   | (go_at_call 49;((with_reducible refine HBU.out.mono ?_);rintro e w1 ⟨rfl,hb1⟩;have HB1:=hZz hb1;clear hb1))
   | (go_at_call 30;((with_reducible refine (HCK.out _ HB1.out).mono ?_);rintro e w2 ⟨rfl,hb2⟩;have HB2:=hZz hb2;have hx0:=(hb2.cell (World.block_lt_of_cell? _ _ HX0.out)).trans HX0.out;have hx1:=(hb2.cell (World.block_lt_of_cell? _ _ HX1.out)).trans HX1.out;have ha0:=(hb2.cell (World.block_lt_of_cell? _ _ HA0.out)).trans HA0.out;have hb0:=(hb2.cell (World.block_lt_of_cell? _ _ HB0.out)).trans HB0.out;have hb5:=(hb2.cell (World.block_lt_of_cell? _ _ HB5.out)).trans HB5.out;clear hb2)))
  rw [← HP.out]
  exact RetR.err HR.out HB2.out
 subst h6
 by_cases h4:kk=4
 case neg =>
  have h4':(kk != 4)=true:=by simpa using h4
  have HR:Hid (BR=([],7)):=hZz (by rw [HU.out,if_pos (.inr h4)])
  clear h4 HU
  go_enter Tryz.func16,Tryz.ntmps16
  go_wp2_with (first
   | (go_at_call 49;((with_reducible refine HBU.out.mono ?_);rintro e w1 ⟨rfl,hb1⟩;have HB1:=hZz hb1;clear hb1))
   | (go_at_call 30;((with_reducible refine (HCK.out _ HB1.out).mono ?_);rintro e w2 ⟨rfl,hb2⟩;have HB2:=hZz hb2;have hx0:=(hb2.cell (World.block_lt_of_cell? _ _ HX0.out)).trans HX0.out;have hx1:=(hb2.cell (World.block_lt_of_cell? _ _ HX1.out)).trans HX1.out;have ha0:=(hb2.cell (World.block_lt_of_cell? _ _ HA0.out)).trans HA0.out;have hb0:=(hb2.cell (World.block_lt_of_cell? _ _ HB0.out)).trans HB0.out;have hb5:=(hb2.cell (World.block_lt_of_cell? _ _ HB5.out)).trans HB5.out;clear hb2)))
  rw [← HP.out]
  exact RetR.err HR.out HB2.out
 subst h4
 have HR:Hid (BR=([bCel (decide (ge=0))],0)):=hZz (by rw [HU.out,if_neg (by simp)])
 have HBO:Hid (∀ wx,Calls Tryz.prog 32 #[.bool (ge == 0)] wx fun e w'=>∃ u,e=.returned u∧ValV w' u [bCel (decide (ge=0))]∧FromC wx w' [] u∧Below wx.heap.size wx w'):=hZz fun wx=>by
  have:=cbool_any (decide (ge=0)) wx
  rwa [show (ge == 0)=decide (ge=0) from rfl]
 clear HU
 go_enter Tryz.func16,Tryz.ntmps16
 go_upto_region 26 with (first
  | (go_at_call 49;((with_reducible refine HBU.out.mono ?_);rintro e w1 ⟨rfl,hb1⟩;have HB1:=hZz hb1;clear hb1))
  | (go_at_call 30;((with_reducible refine (HCK.out _ HB1.out).mono ?_);rintro e w2 ⟨rfl,hb2⟩;have HB2:=hZz hb2;have hx0:=(hb2.cell (World.block_lt_of_cell? _ _ HX0.out)).trans HX0.out;have hx1:=(hb2.cell (World.block_lt_of_cell? _ _ HX1.out)).trans HX1.out;have ha0:=(hb2.cell (World.block_lt_of_cell? _ _ HA0.out)).trans HA0.out;have hb0:=(hb2.cell (World.block_lt_of_cell? _ _ HB0.out)).trans HB0.out;have hb5:=(hb2.cell (World.block_lt_of_cell? _ _ HB5.out)).trans HB5.out;clear hb2)))
 go_region_law (go_simp;go_at_call 56;((refine (HF.out _ (below_call' (below_drew _) HB2.out HB2.out.size)).mono ?_);rintro e w3 ⟨u,rfl,hu,hf3,hb3⟩;have HB3:=hZz (below_call' hb3 (below_call' (below_drew _) HB2.out HB2.out.size) (below_call' (below_drew _) HB2.out HB2.out.size).size);clear hu hf3 hb3))
 all_goals
  go_simp
  go_wp2_with (first
   | (go_at_call 32;((refine (HBO.out _).mono ?_);rintro e w4 ⟨u4,rfl,hu4,hf4,hb4⟩;have HU4:=hZz hu4;have HF4:=hZz hf4;have HB4:=hZz hb4;clear hu4 hf4 hb4)))
  rw [← HP.out,HR.out]
  exact RetR.from ⟨u4,rfl,HU4.out,HF4.out,HB4.out⟩ HB3.out
theorem builtin_any (name:ByteArray) (args:List ValD) (av:Value) (w:World) (ha:ValsV w av args) (hp:Pow w) (hse:Sent w) (ho:∀ x∈args,OkV x) :
  Calls Tryz.prog 16 #[.string name,av] w (RetR w [] (builtinR name args)):=by
 by_cases hno:∀ n,lookL builtL name=some n→(args.length:Int)≠n∨firstBad args≠0
 ·exact builtin_no name args av w ha hp ho hno
 ·obtain ⟨n,h⟩:=Classical.not_forall.1 hno
  obtain ⟨hl,h⟩:=Classical.not_imp.1 h
  have h1:(args.length:Int)=n:=Classical.byContradiction fun e=>h (.inl e)
  have h2:firstBad args=0:=Classical.byContradiction fun e=>h (.inr e)
  have HR:builtinR name args=builtR name.toList args:=by
   unfold builtinR
   rw [hl]
   simp only
   rw [if_neg (not_not_intro h1),if_neg (not_not_intro h2)]
  rw [HR]
  have hlen:∀ k:Nat,n=k→args.length=k:=fun k e=>by omega
  rcases look_cases hl with ⟨rfl,e⟩ | ⟨rfl,e⟩ | ⟨rfl,e⟩ | ⟨rfl,e⟩ | ⟨rfl,e⟩ | ⟨rfl,e⟩ | ⟨rfl,e⟩ | ⟨rfl,e⟩
  ·obtain ⟨a,rfl⟩:∃ a,args=[a]:=by
    have:=hlen 1 e
    match args,this with
    | [a],_=>exact ⟨a,rfl⟩
   rw [Lib.toList_data]
   exact built_len a av w ha hp hse h2
  ·obtain ⟨a,rfl⟩:∃ a,args=[a]:=by
    have:=hlen 1 e
    match args,this with
    | [a],_=>exact ⟨a,rfl⟩
   rw [Lib.toList_data]
   exact built_str a av w ha hp hse h2
  ·obtain ⟨a,rfl⟩:∃ a,args=[a]:=by
    have:=hlen 1 e
    match args,this with
    | [a],_=>exact ⟨a,rfl⟩
   rw [Lib.toList_data]
   exact built_int a av w ha hp hse h2
  ·obtain ⟨a,d,rfl⟩:∃ a d,args=[a,d]:=by
    have:=hlen 2 e
    match args,this with
    | [a,d],_=>exact ⟨a,d,rfl⟩
   rw [Lib.toList_data]
   exact built_push a d av w ha hp hse h2
  ·obtain ⟨a,d,z,rfl⟩:∃ a d z,args=[a,d,z]:=by
    have:=hlen 3 e
    match args,this with
    | [a,d,z],_=>exact ⟨a,d,z,rfl⟩
   rw [Lib.toList_data]
   exact built_put a d z av w ha hp hse h2
  ·obtain ⟨a,rfl⟩:∃ a,args=[a]:=by
    have:=hlen 1 e
    match args,this with
    | [a],_=>exact ⟨a,rfl⟩
   rw [Lib.toList_data]
   exact built_keys a av w ha hp hse h2
  ·obtain ⟨a,d,rfl⟩:∃ a d,args=[a,d]:=by
    have:=hlen 2 e
    match args,this with
    | [a,d],_=>exact ⟨a,d,rfl⟩
   rw [Lib.toList_data]
   exact built_has a d av w ha hp hse h2
  ·obtain ⟨a,rfl⟩:∃ a,args=[a]:=by
    have:=hlen 1 e
    match args,this with
    | [a],_=>exact ⟨a,rfl⟩
   rw [Lib.toList_data]
   exact built_fail a av w ha hp hse h2
end
end Go.Proofs.YtekdhlfapejijaaGreatDoor
