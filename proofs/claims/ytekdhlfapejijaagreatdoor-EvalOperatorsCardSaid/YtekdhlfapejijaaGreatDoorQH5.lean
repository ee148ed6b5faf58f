/- XI, XJ, XK, H7, H3, H8, H5 -/
import Derived.Test.YtekdhlfapejijaaGreatDoorQXH
import Derived.Test.YtekdhlfapejijaaGreatDoorQH2
set_option linter.unusedVariables false
set_option linter.unusedSimpArgs false
namespace Go.Proofs.YtekdhlfapejijaaGreatDoor
open Go.RowKit
set_option maxRecDepth 100000
set_option maxHeartbeats 8000000
open Go.Proofs.Tryz
section
section
variable {K:ParC} {p:Nat} {ns:List NodeD} {v p':Nat} {ns':List NodeD}
structure RowK (K:ParC) (wS:World) (g5:Nat) (F:List Nat) (w:World) (p:Nat) (ns:List NodeD) (ks:List Int) (u:Value):Prop where
 px:PXK K (u.ownBlock.toList ++ F) w p ns
 ow:w.ownsRow K.w0.heap.size 3 1 u ks.length (ks.map (Value.int .i64))
 b5:Blk w g5 85 #[u]
 kp:KP K.gp wS w
 g5n:wS.heap.size≤g5
 s0:K.w0.heap.size≤wS.heap.size
 un:∀ g,u.ownBlock=some g→wS.heap.size≤g
theorem KP.rowN {gp:Nat} {wS w1 w6:World} {row:Option Nat} (h:KP gp wS w1) (hg:w1.grownBy w6 row) (hn:∀ g,row=some g→wS.heap.size≤g):KP gp wS w6 :=
 ⟨hg.os.trans h.os,hg.tape.trans h.tape,hg.output.trans h.output,Nat.le_trans h.size hg.size,fun j o hj h1 h2=>(hg.block j (Nat.lt_of_lt_of_le (lt_of_block hj) h.size) (fun e=>by have:=hn j e.symm;have:=lt_of_block hj;omega)).trans (h.block j o hj h1 h2)⟩
theorem PX.setO {F:List Nat} {w:World} {g:Nat} {t:TypeId} {cs:Array Value} (h:PXK K F w p ns) (hB:Blk w g t cs) (h1:t≠119∧t≠161∧t≠87∧t≠89∧t≠3∧t≠9) (hg:K.w0.heap.size≤g) (j:Nat) (u:Value):PXK K F (w.setCell ⟨g,j,none⟩ u) p ns:=by
 obtain ⟨nx,nv,hh,h⟩:=h;have hgr:=zajZ w g j u;have hne:∀ {n size:Nat} {e:TypeId} {v:Value} {xs:List Value},w.ownsRow K.w0.heap.size e size v n xs→t≠e→(w.setCell ⟨g,j,none⟩ u).ownsRow K.w0.heap.size e size v n xs:=fun ho he=>zabY ho hgr (fun k hk=>by injection hk with hk;subst hk;exact zahZ ho hB (fun e=>he e.symm))
 have hgp:K.gp≠g:=fun e=>zbbY h.bp hB (fun e=>h1.1 e.symm) e
 exact ⟨nx,nv,hh,h.bel.grown hgr h.bel.size (fun k hk=>by injection hk with hk;omega),h.hp,h.bp.far (p:=⟨g,j,none⟩) hgp u,hne h.tk h1.2.1,hne h.nd h1.2.2.1,hne h.fu h1.2.2.2.1,fun q hq=>⟨hne (h.kids q hq).1 h1.2.2.2.2.1,(h.kids q hq).2⟩,h.kd,fun q hq=>hne (h.pars q hq) h1.2.2.2.2.2,fun g hg=>(by simpa using h.fb g hg),h.tl⟩
attribute [local go_sem] zacZ
theorem exprs1_x (he:ParsP K 240 p ns v p' ns') {wS:World} {F:List Nat} {w:World} {g5 gb:Nat} {ks:List Int} {u:Value} (h:RowK K wS g5 F w p ns ks u) (hb:Blk w gb 117 #[.pointer (some ⟨K.gp,0,none⟩)]) (hl:ks.length≤100) :
  Calls prog 312 #[.pointer (some ⟨g5,0,none⟩),.pointer (some ⟨gb,0,none⟩)] w fun e w'=>e=.returned (.tuple #[])∧∃ u',RowK K wS g5 F w' p' ns' (ks ++ [(v:Int)]) u':=by
 obtain ⟨i1,hj,hy0,hy1,hy2⟩:=info_parts Tryz.infoIntS;obtain ⟨P,hP⟩:∃ P:Ending→World→Prop,(fun e w'=>e=.returned (.tuple #[])∧∃ u',RowK K wS g5 F w' p' ns' (ks ++ [(v:Int)]) u')=P:=⟨_,rfl⟩
 rw [hP];have HP:=hZz hP;obtain ⟨A,cap,hu⟩:=zafZ h.ow;obtain ⟨N,hN⟩:∃ N,ks.length=N:=⟨_,rfl⟩
 rw [hN] at hu;subst hu;have HR:=hZz h;have HN:=hZz hN;have hN1:N≤100:=by omega
 have hne:g5≠K.gp:=by have:=h.px.lt;obtain ⟨nx,nv,_,hs⟩:=h.px;exact fun e=>zbbY h.b5 hs.bp (by decide) e
 have HE:Hid (∀ wx,Below w.heap.size w wx→Calls prog 240 #[.pointer (some ⟨K.gp,0,none⟩)] wx (ParsR K ((Value.slice A N cap).ownBlock.toList ++ F) wx v p' ns')):=hZz (fun wx hbx=>he _ _ (h.px.below hbx));have o0:=h.b5.cell 0 _ rfl;have ob:=hb.cell 0 _ rfl;have HO:Hid (w.ownsRow K.w0.heap.size 3 1 (.slice A N cap) N (ks.map (Value.int .i64))):=hZz (by have:=h.ow;rw [hN] at this;exact this);have HBB:=hZz hb;have HNE:=hZz hne;clear hP he h hb hl hN hne;go_enter func312,ntmps312
 go_region_law (first
  | (go_simp;go_at_call 240;(refine (HE.out _ (zaeZ w)).mono ?_);rintro e1 w1 ⟨rfl,hx1,hk1⟩;have HX1:=hZz hx1;have hkw:KP K.gp w w1:=((KP.of_below (zaeZ w)).trans hk1);have HK1:=hZz hkw;have HB5:=hZz (hkw.blk HR.out.b5 HNE.out (by decide) (by decide));have o1:=HB5.out.cell 0 _ rfl;have HOA:Hid ((w1.alloc (.cells #[.int .i64 (v:Int)] 3)).ownsRow K.w0.heap.size 3 1 (.slice A N cap) N (ks.map (Value.int .i64))):=hZz (zakZ (hkw.own HO.out (fun g hg e=>by subst e;obtain ⟨nx,nv,_,hs⟩:=HR.out.px;obtain ⟨_,cs,hB⟩:=zanY HO.out hg;exact zbbY hB hs.bp (by decide) rfl) (by decide) (by decide)) (zaaZ w1 _));have hsz:K.w0.heap.size≤(w1.alloc (.cells #[.int .i64 (v:Int)] 3)).heap.size:=Nat.le_trans HX1.out.ge (by simp);clear hx1 hk1 hkw)
  | (rw [if_pos (by rfl)];refine wp_append_lies _ (.tmp 2) (.tmp 5) 85 rfl K.w0.heap.size 3 i1 _ 1 8 underlying85 hj hy0 hy1 hy2 rfl ?k1 _ N _ rfl HOA.out ⟨w1.heap.size,0,none⟩ 1 1 [.int .i64 (v:Int)] rfl rfl (zbaY w1 _ _) ?k2 ?k3 ?k4 ?k5 ?k6 _ rfl ?_;(case k1=>decide);(case k2=>simp [Value.oneCell']);(case k3=>decide);(case k4=>(unfold maxLen;omega));(case k5=>omega);(case k6=>exact hsz);intro g6 cap6 w6 hown6 hgr6 hgg6 hlt6;have HG6:=hZz ((HB5.out.below (zaaZ w1 (.cells #[.int .i64 (v:Int)] 3))).grown hgr6 (zahZ HOA.out (HB5.out.below (zaaZ w1 _)) (by decide)));have z6:=HG6.out.frozen 0;have o6:=HG6.out.cell 0 _ rfl;have HO6:=hZz hown6;have HGR:=hZz hgr6;have HGG:=hZz hgg6;have HLT:=hZz hlt6;clear hown6 hgr6 hgg6 hlt6))
 all_goals
  go_wp2_with (fail)
  go_returns;rw [← HP.out];have hgr:(w1.alloc (.cells #[.int .i64 (v:Int)] 3)).grownBy w6 (Value.slice A N cap).ownBlock:=HGR.out;have hgg:(Value.slice A N cap).ownBlock=some g6∨g6=(w1.alloc (.cells #[.int .i64 (v:Int)] 3)).heap.size:=HGG.out;have hkn:KP K.gp w (w1.alloc (.cells #[.int .i64 (v:Int)] 3)):=HK1.out.trans (KP.of_below (zaaZ w1 _))
  have hp6:=PX.grow (v':=.slice (some ⟨g6,0,none⟩) (N+1) cap6) (HX1.out.below (zaaZ w1 (.cells #[.int .i64 (v:Int)] 3))) HOA.out hgr (fun g hg=>by
   have e:g6=g:=Option.some.inj hg;rw [← e];rcases hgg with h | h
   ·exact .inl h
   ·exact .inr (by rw [h];exact Nat.le_refl _)) (fun g hg=>by
   have e:g6=g:=Option.some.inj hg;rw [← e];exact HLT.out)
  refine ⟨rfl,.slice (some ⟨g6,0,none⟩) (N+1) cap6,hp6.setO HG6.out (by decide) (Nat.le_trans HR.out.s0 HR.out.g5n) 0 _,?_,HG6.out.set_ 0 _,?_,HR.out.g5n,HR.out.s0,fun g hg=>?_⟩
  ·have:=zabY HO6.out (zajZ w6 g5 0 (.slice (some ⟨g6,0,none⟩) (N+1) cap6)) (fun k hk=>by injection hk with hk;subst hk;exact zahZ HO6.out HG6.out (by decide))
   rw [List.length_append,HN.out,List.map_append];exact this
  ·exact (((HR.out.kp.trans hkn).rowN hgr HR.out.un).setN HR.out.g5n _ _)
  ·have e:g6=g:=Option.some.inj hg
   rw [← e];rcases hgg with h | h
   ·exact HR.out.un _ h
   ·rw [h]
    exact (HR.out.kp.trans hkn).size
end
end
section
section
variable {K:ParC} {p:Nat} {ns:List NodeD} {v p':Nat} {ns':List NodeD}
theorem PX.fb {F:List Nat} {w:World} (h:PXK K F w p ns):∀ g∈F,g<w.heap.size:=by
 obtain ⟨nx,nv,_,h⟩:=h;exact h.fb
theorem PX.ne {F:List Nat} {w:World} (h:PXK K F w p ns) {g:Nat} {t:TypeId} {cs:Array Value} (hB:Blk w g t cs) (ht:t≠119):g≠K.gp:=by
 obtain ⟨nx,nv,_,h⟩:=h;exact fun e=>zbbY hB h.bp ht e
attribute [local go_sem] zacZ
def ExprsR (K:ParC) (F:List Nat) (w:World) (ks:List Int) (p:Nat) (ns:List NodeD) (e:Ending) (w':World):Prop:=∃ u,e=.returned u∧PXK K F w' p ns∧w'.ownsRow K.w0.heap.size 3 1 u ks.length (ks.map (Value.int .i64))∧(∀ g∈F,u.ownBlock≠some g)∧KP K.gp w w'
set_option maxHeartbeats 4000000 in
theorem exprs_x (close:ByteArray) (he:ParsP K 240 p ns v p' ns') (hn:nextF K.ts p 5 [close]=false) (hn2:nextF K.ts p' 5 [⟨#[44]⟩,close]=true) {t:Tok} (ht:K.ts[p']? = some t) (htc:(t.text.toList == close.toList)=true) {F:List Nat} {w:World} (h:PXK K F w p ns) :
  Calls prog 310 #[.pointer (some ⟨K.gp,0,none⟩),.string close] w (ExprsR K F w [(v:Int)] (p' + 1) ns'):=by
 obtain ⟨P,hP⟩:∃ P:Ending→World→Prop,ExprsR K F w [(v:Int)] (p' + 1) ns'=P:=⟨_,rfl⟩
 rw [hP];have HP:=hZz hP;obtain ⟨gb,hgb⟩:∃ g,w.heap.size=g:=⟨_,rfl⟩
 obtain ⟨W,hW⟩:∃ W,(w.alloc (.cells #[.pointer (some ⟨K.gp,0,none⟩)] 117)).alloc (.cells #[.slice none 0 0] 85)=W:=⟨_,rfl⟩
 have hbW:Below w.heap.size w W:=by rw [← hW];exact zaqY _ _ _
 have hBb:Blk W gb 117 #[.pointer (some ⟨K.gp,0,none⟩)]:=by rw [← hW,← hgb];exact (Blk.new w _ _).alloc _
 have hB5:Blk W (gb+1) 85 #[.slice none 0 0]:=by rw [← hW,← hgb];exact Blk.second _ _ _ _
 obtain ⟨g5,hg5⟩:∃ g,gb+1=g:=⟨_,rfl⟩
 rw [hg5] at hB5;have hge:=h.ge;have hpxW:=h.below hbW;have hn5:g5≠K.gp:=hpxW.ne hB5 (by decide)
 have HL:=hZz (list1_x (K:=K) (p:=p) (ns:=ns) (p':=p') (ns':=ns') 312 #[.pointer (some ⟨g5,0,none⟩),.pointer (some ⟨gb,0,none⟩)] close (enters_of func312 (by kernel_rfl) rfl) (F:=F) hn
  (fun a=>Blk a g5 85 #[.slice none 0 0]∧Blk a gb 117 #[.pointer (some ⟨K.gp,0,none⟩)]∧KP K.gp w a)
  (fun F' a=>∃ u,F'=u.ownBlock.toList ++ F∧a.ownsRow K.w0.heap.size 3 1 u 1 [.int .i64 (v:Int)]∧Blk a g5 85 #[u]∧KP K.gp w a∧∀ g,u.ownBlock=some g→w.heap.size≤g)
  (fun a b ⟨h1,h2,h3⟩ hb=>⟨h1.below hb,h2.below hb,h3.trans (KP.of_below hb)⟩)
  (fun F' a b hx ⟨u,e,h1,h2,h3,h4⟩ hk=>⟨u,e,hk.own h1 (fun g hg e=>by
   subst e;obtain ⟨_,cs,hB⟩:=zanY h1 hg;exact hx.ne hB (by decide) rfl) (by decide) (by decide),hk.blk h2 hn5 (by decide) (by decide),h3.trans hk,h4⟩)
  (fun wx hx ⟨h1,h2,h3⟩=>by
   refine (exprs1_x (wS:=w) (F:=F) (ks:=[]) (u:=.slice none 0 0) he ⟨hx,World.ownsRow_nil _ _ _ _,h1,h3,by omega,hge,fun g hg=>by cases hg⟩ h2 (by decide)).mono ?_
   rintro e w' ⟨rfl,u',hr⟩;exact ⟨rfl,_,hr.px,u',rfl,hr.ow,hr.b5,hr.kp,hr.un⟩)
  hn2 ht htc hpxW ⟨hB5,hBb,KP.of_below hbW⟩)
 have HFB:=hZz h.fb;have HGE:=hZz hge;have HBb:=hZz hBb;have ob:=hBb.cell 0 _ rfl;have HW:=hZz hW;have HGB:=hZz hgb;have HG5:=hZz hg5;clear hP he hn hn2 ht htc h hge hBb hB5 hW hgb hg5 hpxW hbW hn5;go_enter func310,ntmps310
 go_upto_region 2 with fail
 rw [HW.out,HGB.out,HG5.out]
 go_wp2_with (first
  | (go_at_call 127;(refine HL.out.mono ?_);rintro e w1 ⟨rfl,F',hx,u,hF,hu,hb5,hk,hun⟩;have HX:=hZz hx;have HU:=hZz hu;have HK:=hZz hk;have HUN:=hZz hun;have HF:=hZz hF;have q5:=hb5.cell 0 _ rfl;clear hx hu hk hun hF hb5))
 rw [← HP.out];exact ⟨u,rfl,HX.out.sub (fun g hg=>by rw [HF.out];simp [hg]),HU.out,fun g hg e=>by have:=HUN.out g e;have:=HFB.out g hg;omega,HK.out⟩
end
end
section
section
variable {K:ParC} {p:Nat} {ns:List NodeD} {v p':Nat} {ns':List NodeD}
theorem next_p {F:List Nat} {w:World} (h:PXK K F w p ns) (k:Int) {tx:Value} {l:List ByteArray} (hx:TxV w tx l):Calls prog 237 #[.pointer (some ⟨K.gp,0,none⟩),.int .i64 k,tx] w fun e w'=>e=.returned (.bool (nextF K.ts p k l))∧Below w.heap.size w w':=by
 obtain ⟨nx,nv,_,h⟩:=h;exact next_x h k hx
attribute [local go_sem] zacZ
theorem prim_host (hl:ns'.length≤600) {t t2 t3:Tok} (ht:K.ts[p]? = some t) (hn3:nextF K.ts p 3 []=false) (hn4:nextF K.ts p 4 []=false) (hn2:nextF K.ts p 2 litL=false) (hn1:nextF K.ts p 1 []=false) (hn6:nextF K.ts p 6 []=true) (hn7:nextF K.ts (p+1) 5 [⟨#[40]⟩]=true) (ht2:K.ts[p+1]? = some t2) (he:ParsP K 240 (p+1+1) ns v p' ns') (hn8:nextF K.ts (p+1+1) 5 [⟨#[41]⟩]=false) (hn9:nextF K.ts p' 5 [⟨#[44]⟩,⟨#[41]⟩]=true) (ht3:K.ts[p']? = some t3) (htc:(t3.text.toList == (⟨#[41]⟩:ByteArray).toList)=true):ParsP K 309 p ns ns'.length (p' + 1) (ns' ++ [nodE 12 t.text 0 [(v:Int)]]):=by
 intro F w h;obtain ⟨P,hP⟩:∃ P:Ending→World→Prop,ParsR K F w ns'.length (p' + 1) (ns' ++ [nodE 12 t.text 0 [(v:Int)]])=P:=⟨_,rfl⟩
 rw [hP];have HP:=hZz hP;have HT3:Hid (∀ wx tx,PXK K F wx p ns→TxV wx tx []→Calls prog 185 #[.pointer (some ⟨K.gp,0,none⟩),.int .i64 3,tx] wx fun e w'=>e=.returned (.tuple #[zTokV,.bool false])∧Below wx.heap.size wx w'):=hZz (fun wx tx h1 h2=>zavY h1 3 h2 hn3);have HT4:Hid (∀ wx tx,PXK K F wx p ns→TxV wx tx []→Calls prog 185 #[.pointer (some ⟨K.gp,0,none⟩),.int .i64 4,tx] wx fun e w'=>e=.returned (.tuple #[zTokV,.bool false])∧Below wx.heap.size wx w'):=hZz (fun wx tx h1 h2=>zavY h1 4 h2 hn4);have HT2:Hid (∀ wx tx,PXK K F wx p ns→TxV wx tx litL→Calls prog 185 #[.pointer (some ⟨K.gp,0,none⟩),.int .i64 2,tx] wx fun e w'=>e=.returned (.tuple #[zTokV,.bool false])∧Below wx.heap.size wx w'):=hZz (fun wx tx h1 h2=>zavY h1 2 h2 hn2);have HT1:Hid (∀ wx tx,PXK K F wx p ns→TxV wx tx []→Calls prog 185 #[.pointer (some ⟨K.gp,0,none⟩),.int .i64 1,tx] wx fun e w'=>e=.returned (.tuple #[zTokV,.bool false])∧Below wx.heap.size wx w'):=hZz (fun wx tx h1 h2=>zavY h1 1 h2 hn1)
 have HT6:Hid (∀ wx tx,PXK K F wx p ns→TxV wx tx []→Calls prog 237 #[.pointer (some ⟨K.gp,0,none⟩),.int .i64 6,tx] wx fun e w'=>e=.returned (.bool true)∧Below wx.heap.size wx w'):=hZz (fun wx tx h1 h2=>by
  have:=next_p h1 6 h2
  rw [hn6] at this;exact this)
 have HM6:Hid (∀ wx tx,PXK K F wx p ns→TxV wx tx []→Calls prog 126 #[.pointer (some ⟨K.gp,0,none⟩),.int .i64 6,tx] wx fun e w'=>e=.returned t.val∧PXK K F w' (p+1) ns∧KP K.gp wx w'):=hZz (fun wx tx h1 h2=>zdwY h1 6 h2 hn6 ht);have HM7:Hid (∀ wx tx,PXK K F wx (p+1) ns→TxV wx tx [⟨#[40]⟩]→Calls prog 126 #[.pointer (some ⟨K.gp,0,none⟩),.int .i64 5,tx] wx fun e w'=>e=.returned t2.val∧PXK K F w' (p+1+1) ns∧KP K.gp wx w'):=hZz (fun wx tx h1 h2=>zdwY h1 5 h2 hn7 ht2);have HEX:Hid (∀ wx,PXK K F wx (p+1+1) ns→Calls prog 310 #[.pointer (some ⟨K.gp,0,none⟩),.string ⟨#[41]⟩] wx (ExprsR K F wx [(v:Int)] (p' + 1) ns')):=hZz (fun wx h1=>exprs_x ⟨#[41]⟩ he hn8 hn9 ht3 htc h1);have H:=hZz h;clear hP ht hn3 hn4 hn2 hn1 hn6 hn7 ht2 he hn8 hn9 ht3 htc h;go_enter func309,ntmps309
 go_upto_region 24 with (first
  | (go_at_call 185;(refine (HT3.out _ _ H.out (TxV.nil _)).mono ?_);rintro e w3 ⟨rfl,hb⟩;have HB3:=hZz (zadZ (zaaZ w3 (.cells #[.int .i64 0,.string ⟨#[]⟩,.int .i64 0,.int .i64 0] 161)) hb);have HX3:=hZz (H.out.below HB3.out);clear hb HT3;unfold zTokV)
  | (go_at_call 185;(refine (HT4.out _ _ HX3.out (TxV.nil _)).mono ?_);rintro e w4 ⟨rfl,hb⟩;have HB4:=hZz (zadZ (zadZ (zaaZ w4 (.cells #[.int .i64 0,.string ⟨#[]⟩,.int .i64 0,.int .i64 0] 161)) hb) HB3.out);have HX4:=hZz (H.out.below HB4.out);have HTL:=hZz (TxV.lit1 w4 (.cells #[.int .i64 0,.string ⟨#[]⟩,.int .i64 0,.int .i64 0] 161));clear hb HT4;unfold zTokV)
  | (go_at_call 185;(refine (HT2.out _ _ (HX4.out.below (zaaZ _ _)) HTL.out).mono ?_);rintro e w2 ⟨rfl,hb⟩;have HB2:=hZz (zadZ (zadZ (zaaZ w2 (.cells #[.int .i64 0,.string ⟨#[]⟩,.int .i64 0,.int .i64 0] 161)) (zadZ hb (zaaZ (w4.alloc (.cells #[.int .i64 0,.string ⟨#[]⟩,.int .i64 0,.int .i64 0] 161)) _))) HB4.out);have HX2:=hZz (H.out.below HB2.out);clear hb HT2 HTL;unfold zTokV)
  | (go_at_call 185;(refine (HT1.out _ _ HX2.out (TxV.nil _)).mono ?_);rintro e w1 ⟨rfl,hb⟩;have HB1:=hZz (zadZ (zadZ (zaaZ w1 (.cells #[.int .i64 0,.string ⟨#[]⟩,.int .i64 0,.int .i64 0] 161)) hb) HB2.out);have HX1:=hZz (H.out.below HB1.out);clear hb HT1;unfold zTokV)
  | (go_at_call 237;(refine (HT6.out _ _ HX1.out (TxV.nil _)).mono ?_);rintro e w6 ⟨rfl,hb⟩;have HB6:=hZz (zadZ hb HB1.out);have HX6:=hZz (H.out.below HB6.out);clear hb HT6)
  | (go_at_call 126;(refine (HM6.out _ _ HX6.out (TxV.nil _)).mono ?_);rintro e w7 ⟨rfl,hx,hk⟩;have HX7:=hZz (hx.below (zaaZ w7 (.cells #[.int .i64 t.kind,.string t.text,.int .i64 t.int,.int .i64 (t.at_:Int)] 161)));have HK7:=hZz (((KP.of_below HB6.out).trans hk).trans (KP.of_below (zaaZ w7 (.cells #[.int .i64 t.kind,.string t.text,.int .i64 t.int,.int .i64 (t.at_:Int)] 161))));have HBT:Hid (Blk (w7.alloc (.cells #[.int .i64 t.kind,.string t.text,.int .i64 t.int,.int .i64 (t.at_:Int)] 161)) w7.heap.size 161 #[.int .i64 t.kind,.string t.text,.int .i64 t.int,.int .i64 (t.at_:Int)]):=hZz (Blk.new _ _ _);have HTO:=hZz (TxV.one1 w7 (.cells #[.int .i64 t.kind,.string t.text,.int .i64 t.int,.int .i64 (t.at_:Int)] 161) ⟨#[40]⟩);clear hx hk HM6;unfold Tok.val)
  | (go_at_call 126;(refine (HM7.out _ _ (HX7.out.below (zaaZ _ _)) HTO.out).mono ?_);rintro e w8 ⟨rfl,hx,hk⟩;have HX8:=hZz hx;have hk8:=((KP.of_below (zaaZ (w7.alloc (.cells #[.int .i64 t.kind,.string t.text,.int .i64 t.int,.int .i64 (t.at_:Int)] 161)) (.cells #[.string ⟨#[40]⟩] 9))).trans hk:KP K.gp (w7.alloc (.cells #[.int .i64 t.kind,.string t.text,.int .i64 t.int,.int .i64 (t.at_:Int)] 161)) w8);have HK8:=hZz (HK7.out.trans hk8);have HB8:=hZz (hk8.blk HBT.out (HX7.out.ne HBT.out (by decide)) (by decide) (by decide));clear hx hk hk8 HM7 HTO))
 obtain ⟨g,hg⟩:∃ g,w7.heap.size=g:=⟨_,rfl⟩
 rw [hg] at HB8 ⊢;have o8:=HB8.out.cell 1 _ rfl;have hng:g≠K.gp:=HX8.out.ne HB8.out (by decide);have HNG:=hZz hng;clear hg hng HBT HX7 HK7 HX6 HB6 HX1 HB1 HX2 HB2 HX4 HB4 HX3 HB3
 go_region_law (first
  | (go_simp;go_at_call 310;(refine (HEX.out _ (HX8.out.below (zaeZ _))).mono ?_);rintro e w9 ⟨u,rfl,hx,hu,hf,hk⟩;obtain ⟨uA,uc,rfl⟩:=zafZ hu;have HX9:=hZz hx;have HU:=hZz hu;have HF9:=hZz hf;have hk9:=((KP.of_below (zaeZ w8)).trans hk:KP K.gp w8 w9);have HK9:=hZz (HK8.out.trans hk9);have o9:=(hk9.blk HB8.out HNG.out (by decide) (by decide)).cell 1 _ rfl;clear hx hu hf hk hk9)
  | (go_simp;go_at_call 187;(refine (addK_x HX9.out hl 12 t.text 0 [(v:Int)] HU.out HF9.out).mono ?_);rintro e w10 ⟨rfl,hx,hk⟩;have HX10:=hZz hx;have HK10:=hZz (HK9.out.trans hk);clear hx hk))
 all_goals go_wp2_with (fail)
 all_goals
  go_returns;rw [← HP.out];exact ⟨rfl,HX10.out,HK10.out⟩
end
end
section
theorem ifc_ne (T:TypeId) (v:Value) (w:World):(Go.binOp .neq 100 (.iface T v) .nilIface).run prog w=.ok (.bool true) w:=by kernel_rfl
theorem ifn_ne (w:World):(Go.binOp .neq 100 .nilIface .nilIface).run prog w=.ok (.bool false) w:=by kernel_rfl
theorem ifc_eq (T:TypeId) (v:Value) (w:World):(Go.binOp .eql 100 (.iface T v) .nilIface).run prog w=.ok (.bool false) w:=by kernel_rfl
theorem ifn_eq (w:World):(Go.binOp .eql 100 .nilIface .nilIface).run prog w=.ok (.bool true) w:=by kernel_rfl
theorem as_ret (u:Value) (w:World):(Instr.typeAssert (.iface 149 (.agg #[u])) 100 149 true).run prog w=.ok (.tuple #[.agg #[u],.bool true]) w:=by kernel_rfl
theorem as_ret_fail (u:Value) (w:World):(Instr.typeAssert (.iface 104 u) 100 149 true).run prog w=.ok (.tuple #[.agg #[.slice none 0 0],.bool false]) w:=by kernel_rfl
theorem as_ret_wait (u:Value) (w:World):(Instr.typeAssert (.iface 106 u) 100 149 true).run prog w=.ok (.tuple #[.agg #[.slice none 0 0],.bool false]) w:=by kernel_rfl
theorem as_fail (u:Value) (w:World):(Instr.typeAssert (.iface 104 u) 100 104 true).run prog w=.ok (.tuple #[u,.bool true]) w:=by kernel_rfl
theorem as_fail_wait (u:Value) (w:World):(Instr.typeAssert (.iface 106 u) 100 104 true).run prog w=.ok (.tuple #[.agg #[.int .i64 0],.bool false]) w:=by kernel_rfl
theorem as_fail_nil (w:World):(Instr.typeAssert .nilIface 100 104 true).run prog w=.ok (.tuple #[.agg #[.int .i64 0],.bool false]) w:=by kernel_rfl
theorem as_wait (u:Value) (w:World):(Instr.typeAssert (.iface 106 u) 100 106 true).run prog w=.ok (.tuple #[u,.bool true]) w:=by kernel_rfl
theorem as_wait_nil (w:World):(Instr.typeAssert .nilIface 100 106 true).run prog w=.ok (.tuple #[.agg #[],.bool false]) w:=by kernel_rfl
theorem zblY {w0 w:World} {v:Value} {g:SigD} (h:SigV w0 w v (some g)):∃ T u,v=.iface T u:=by
 cases g with
 | fail e=>exact ⟨_,_,h⟩
 | wait=>exact ⟨_,_,h⟩
 | ret l=>obtain ⟨u,h,_⟩:=h;exact ⟨_,_,h⟩
def OutcP (w0 w:World) (r:ResD) (e:Ending) (w':World):Prop:=∃ A n cap sv,e=.returned (.tuple #[.slice A n cap,sv])∧ValG w0 w (.slice A n cap) (outF r).1∧SigV w0 w sv (outF r).2∧w=w'
theorem valG_t {w0 w:World} {v:Value} {l:ValD} (h:ValT w v l) (hk:VOk l):ValG w0 w v l:=⟨.inr h,hk⟩
attribute [local go_sem] zacZ
set_option maxHeartbeats 2000000 in
theorem zbgY (w0:World) (r:ResD) (u:Value) (w:World) (hu:ValT w u r.1) (hr:ResOk r):Calls prog 164 #[u,.int .i64 r.2] w (OutcP w0 w r):=by
 obtain ⟨A,n,cap,rfl⟩:=hu.shape;obtain ⟨v,e⟩:=r;obtain ⟨P,hP⟩:∃ P:Ending→World→Prop,OutcP w0 w (v,e)=P:=⟨_,rfl⟩
 rw [hP];have HP:=hZz hP;by_cases he:e=0
 ·subst he
  have HV:Hid (ValG w0 w (.slice A n cap) (outF (v,0)).1):=hZz (valG_t hu (.inr (hr rfl)));clear hP hu hr;go_enter func164,ntmps164
  go_wp2_with (fail)
  rw [← HP.out];exact ⟨_,_,_,_,rfl,HV.out,rfl,rfl⟩
 ·have h1:(e != 0)=true:=by simpa using he
  have HE:Hid (outF (v,e)=([],some (.fail e))):=hZz (by unfold outF;rw [if_pos he]);clear hP hu hr he;go_enter func164,ntmps164
  go_wp2_with (fail)
  rw [← HP.out];exact ⟨none,0,0,_,rfl,by rw [HE.out];exact ValG.nil w0 w,by rw [HE.out];rfl,rfl⟩
def CondP (w0:World) (K:EvK) (C:EvC) (gv:Nat) (F:List Nat) (c:Nat) (w:World) (R:(Bool × Option SigD) × EvS) (e:Ending) (w':World):Prop :=
 ∃ sv,e=.returned (.tuple #[.bool R.1.1,sv])∧SigV w0 w' sv R.1.2∧EvX w0 K C gv F c w' R.2∧KX K.gx gv w w'
theorem below_dn {w w':World} {q:Nat} (h:w'=w.drewN q):Below w.heap.size w w':=by rw [h];exact zagZ (Below.refl _ _) q
set_option maxHeartbeats 4000000 in
theorem cond_h {fB:Nat} {w0:World} {K:EvK} {C:EvC} {N:EvN} {c:Nat} (hN:NodeOk w0 K C N c fB) {gv:Nat} {F:List Nat} {k:Nat} {s:EvS} {w:World} {R} (h:EvX w0 K C gv F c w s) (hk:k<C.p.nodes.length) (hf:s.fuel≤fB) (hl:s.vars.length≤1000) (hR:condF N k s=some R) :
  Calls prog 218 #[.pointer (some ⟨K.gx,0,none⟩),.int .i64 k,.slice (some ⟨gv,0,none⟩) s.vars.length s.vars.length] w (CondP w0 K C gv F c w R):=by
 unfold condF at hR;cases hQ:N k s with
 | none=>rw [hQ] at hR;cases hR
 | some Q =>
  rw [hQ] at hR;have HN:=hZz (hN gv F k s w Q h hk hf hl hQ);obtain ⟨P,hP⟩:∃ P:Ending→World→Prop,CondP w0 K C gv F c w R=P:=⟨_,rfl⟩
  rw [hP];have HP:=hZz hP;obtain ⟨⟨v,g⟩,t⟩:=Q;obtain ⟨L,hL⟩:∃ L,s.vars.length=L:=⟨_,rfl⟩
  rw [hL] at HN ⊢;clear hP h hk hf hl hQ hN hL;cases g with
  | some g =>
   have HR:Hid (R=((false,some g),t)):=hZz (by cases hR;rfl);clear hR;go_enter func218,ntmps218
   go_wp2_with (first
    | (go_at_call 116;((with_reducible refine HN.out.mono ?_);rintro e w1 ⟨u,sv,rfl,hu,hsv,hx,hkx⟩;obtain ⟨T,pv,rfl⟩:=zblY hsv;have HS:=hZz hsv;have HX:=hZz hx;have HK:=hZz hkx;have hne:=fun w=>ifc_ne T pv w;clear hsv hx hkx hu)))
   rw [← HP.out,HR.out];exact ⟨_,rfl,HS.out,HX.out,HK.out⟩
  | none =>
   cases v with
   | nil=>cases hR
   | cons ce r =>
    simp only at hR;have hne:=fun w=>ifn_ne w
    by_cases h2:ce.kind=2
    ·obtain ⟨bb,hbb⟩:∃ x,decide (ce.int≠0)=x:=⟨_,rfl⟩
     have HR:Hid (R=((bb,none),t)):=hZz (by rw [if_pos h2,hbb] at hR;cases hR;rfl);have k2:(ce.kind == 2)=true:=by simp [h2]
     have HI:Hid ((ce.int != 0)=bb):=hZz (by rw [← hbb,Bool.eq_iff_iff];simp);clear hR h2 hbb;go_enter func218,ntmps218
     go_wp2_with (first
      | (go_at_call 116;((with_reducible refine HN.out.mono ?_);rintro e w1 ⟨u,sv,rfl,hu,hsv,hx,hkx⟩;(have hsv':sv=.nilIface:=hsv);subst hsv';have HX:=hZz hx;have HK:=hZz hkx;have HT:=hZz (truth_any ce r u w1 (hu.val hx.bel));rw [k2,HI.out] at HT;clear hsv hx hkx hu))
      | (go_at_call 31;((with_reducible refine HT.out.mono ?_);rintro e w2 ⟨rfl,q,hq⟩;have HB:=hZz (below_dn hq);clear hq)))
     rw [← HP.out,HR.out];exact ⟨_,rfl,rfl,HX.out.below HB.out,HK.out.trans (KX.of_below HB.out)⟩
    ·have HR:Hid (R=((false,some (.fail 7)),t)):=hZz (by rw [if_neg h2] at hR;cases hR;rfl)
     have k2:(ce.kind == 2)=false:=by simp [h2]
     clear hR h2;go_enter func218,ntmps218
     go_wp2_with (first
      | (go_at_call 116;((with_reducible refine HN.out.mono ?_);rintro e w1 ⟨u,sv,rfl,hu,hsv,hx,hkx⟩;(have hsv':sv=.nilIface:=hsv);subst hsv';have HX:=hZz hx;have HK:=hZz hkx;have HT:=hZz (truth_any ce r u w1 (hu.val hx.bel));rw [k2] at HT;clear hsv hx hkx hu))
      | (go_at_call 31;((with_reducible refine HT.out.mono ?_);rintro e w2 ⟨rfl,q,hq⟩;have HB:=hZz (below_dn hq);clear hq)))
     rw [← HP.out,HR.out];exact ⟨_,rfl,rfl,HX.out.below HB.out,HK.out.trans (KX.of_below HB.out)⟩
end
section
structure DownR {α:Type} (s:EvS) (R:(α × Option SigD) × EvS):Prop where
 fuel:R.2.fuel≤s.fuel
 reqs:s.reqs <+: R.2.reqs
 len:R.2.vars.length=s.vars.length
theorem DownR.same {α:Type} {s t:EvS} {x:α × Option SigD} (h1:t.fuel=s.fuel) (h2:t.reqs=s.reqs) (h3:t.vars.length=s.vars.length):DownR s (x,t):=⟨by simp only;omega,by simp only;rw [h2];exact List.prefix_refl _,h3⟩
theorem DownR.trans {α β:Type} {s t:EvS} {x:α × Option SigD} {R:(β × Option SigD) × EvS} (h:DownR s (x,t)) (g:DownR t R):DownR s R:=⟨Nat.le_trans g.fuel h.fuel,h.reqs.trans g.reqs,g.len.trans h.len⟩
theorem DownR.val {α β:Type} {s t:EvS} {x:α × Option SigD} (h:DownR s (x,t)) (y:β × Option SigD):DownR s (y,t):=⟨h.fuel,h.reqs,h.len⟩
def DownN (N:EvN):Prop:=∀ i s R,N i s=some R→DownR s R∧(R.1.2=none→R.2.fuel<s.fuel)
section
variable {N:EvN} (hN:DownN N)
include hN
theorem down_all:∀ (r:List Int) (out:List ValD) (s:EvS) (R),allF N r out s=some R→DownR s R:=by
 intro r;induction r with
 | nil=>intro out s R h;simp only [allF] at h;cases h;exact .same rfl rfl rfl
 | cons k r ih =>
  intro out s R h;simp only [allF] at h;cases hR:N k.toNat s with
  | none=>rw [hR] at h;cases h
  | some Q =>
   obtain ⟨⟨v,g⟩,t⟩:=Q;rw [hR] at h;have hd:=(hN _ _ _ hR).1;cases g with
   | none=>exact hd.trans (ih _ _ _ h)
   | some g=>cases h;exact hd.val _
theorem zbqY {k:Nat} {s:EvS} {R} (h:condF N k s=some R):DownR s R∧(R.1.2=none→R.2.fuel<s.fuel):=by
 unfold condF at h;cases hR:N k s with
 | none=>rw [hR] at h;cases h
 | some Q =>
  obtain ⟨⟨v,g⟩,t⟩:=Q;rw [hR] at h;obtain ⟨hd,hl⟩:=hN _ _ _ hR;cases g with
  | some g=>cases h;exact ⟨hd.val _,fun e=>by cases e⟩
  | none =>
   cases v with
   | nil=>cases h
   | cons c r =>
    simp only at h;split at h
    ·cases h;exact ⟨hd.val _,fun _=>hl rfl⟩
    ·cases h;exact ⟨hd.val _,fun e=>by cases e⟩
theorem down_bool {k:Nat} {s:EvS} {R} (h:boolF (condF N k s)=some R):DownR s R:=by
 cases hR:condF N k s with
 | none=>rw [hR] at h;cases h
 | some Q =>
  obtain ⟨⟨v,g⟩,t⟩:=Q;rw [hR] at h;have hd:=(zbqY hN hR).1;cases g with
  | some g=>cases h;exact hd.val _
  | none=>cases h;exact hd.val _
theorem down_both {n:NodeD} {s:EvS} {R} (h:bothF N n s=some R):DownR s R:=by
 unfold bothF at h;cases hR:condF N (kidN n 0) s with
 | none=>rw [hR] at h;cases h
 | some Q =>
  obtain ⟨⟨v,g⟩,t⟩:=Q;rw [hR] at h;have hd:=(zbqY hN hR).1;cases g with
  | some g=>cases h;exact hd.val _
  | none =>
   simp only at h;split at h
   ·exact hd.trans (down_bool hN h)
   ·cases h;exact hd.val _
theorem down_drop {k:Nat} {s:EvS} {R} (h:dropF (N k s)=some R):DownR s R:=by
 cases hR:N k s with
 | none=>rw [hR] at h;cases h
 | some Q =>
  obtain ⟨⟨v,g⟩,t⟩:=Q;rw [hR] at h;cases h
  exact (hN _ _ _ hR).1.val _
theorem down_choose {n:NodeD} {s:EvS} {R} (h:chooseF N n s=some R):DownR s R:=by
 unfold chooseF at h;cases hR:condF N (kidN n 0) s with
 | none=>rw [hR] at h;cases h
 | some Q =>
  obtain ⟨⟨v,g⟩,t⟩:=Q;rw [hR] at h;have hd:=(zbqY hN hR).1;cases g with
  | some g=>cases h;exact hd.val _
  | none =>
   cases v with
   | true=>exact hd.trans (down_drop hN h)
   | false =>
    simp only at h;split at h
    ·exact hd.trans (down_drop hN h)
    ·cases h;exact hd.val _
theorem down_loop {n:NodeD}:∀ (j:Nat) (s:EvS) (R),loopF N n j s=some R→DownR s R:=by
 intro j;induction j with
 | zero=>intro s R h;simp only [loopF] at h;cases h;exact .same rfl rfl rfl
 | succ j ih =>
  intro s R h;simp only [loopF] at h;cases hR:condF N (kidN n 0) s with
  | none=>rw [hR] at h;cases h
  | some Q =>
   obtain ⟨⟨v,g⟩,t⟩:=Q;rw [hR] at h;have hd:=(zbqY hN hR).1;cases g with
   | some g=>cases h;exact hd.val _
   | none =>
    cases v with
    | false=>cases h;exact hd.val _
    | true =>
     simp only at h;cases hQ:N (kidN n 1) t with
     | none=>rw [hQ] at h;cases h
     | some Q =>
      obtain ⟨⟨v,g⟩,u⟩:=Q;rw [hQ] at h;have hq:=(hN _ _ _ hQ).1;cases g with
      | some g=>cases h;exact hd.trans (hq.val _)
      | none=>exact hd.trans (hq.trans (ih _ _ h))
end
theorem down_ask (C:EvC) (op:ByteArray) (args:List ValD) (s:EvS):DownR s (askF C op args s):=by
 unfold askF;split
 ·exact .same rfl rfl rfl
 ·exact ⟨Nat.le_refl _,List.prefix_append _ _,rfl⟩
theorem down_back {vars:List ValD} {s:EvS} {o:EvR ValD} {R} (hv:vars.length=s.vars.length) (ho:∀ Q,o=some Q→Q.2.fuel≤s.fuel∧s.reqs <+: Q.2.reqs) (h:backF vars o=some R):DownR s R:=by
 cases o with
 | none=>cases h
 | some Q =>
  obtain ⟨⟨v,g⟩,t⟩:=Q;have hd:=ho _ rfl;cases g with
  | none=>cases h;exact ⟨hd.1,hd.2,hv⟩
  | some g=>cases g <;> (cases h;exact ⟨hd.1,hd.2,hv⟩)
section
variable {C:EvC} {N:Nat→EvN} (hN:∀ c,DownN (N c))
include hN
theorem down_call {c f:Nat} {args:List ValD} {s:EvS} {R} (h:callF C N c f args s=some R):DownR s R:=by
 unfold callF at h;split at h
 ·cases h;exact .same rfl rfl rfl
 ·split at h
  ·refine down_back rfl (fun Q hQ=>?_) h
   have:=(hN _ _ _ _ hQ).1
   exact ⟨this.fuel,this.reqs⟩
  ·cases h
theorem down_apply {c k:Nat} {n:NodeD} {l:List ValD} {s:EvS} {R} (h:applyF C N c k n l s=some R):DownR s R:=by
 unfold applyF at h;split at h
 ·cases h;exact .same rfl rfl rfl
 split at h
 ·cases h;exact .same rfl rfl rfl
 split at h
 ·cases h;exact .same rfl rfl rfl
 split at h
 ·cases h;exact .same rfl rfl rfl
 split at h
 ·cases h;exact .same rfl rfl rfl
 split at h
 ·cases h;exact down_ask _ _ _ _
 split at h
 ·unfold setF at h
  split at h
  ·cases h
  ·split at h
   ·cases h;exact .same rfl rfl (by simp)
   ·cases h
 split at h
 ·cases h;exact .same rfl rfl rfl
 split at h
 ·split at h
  ·exact down_call hN h
  ·cases h;exact .same rfl rfl rfl
 ·cases h;exact .same rfl rfl rfl
theorem down_step {g c k:Nat} {n:NodeD} {s:EvS} {R} (h:stepN C N g c k n s=some R):DownR s R:=by
 unfold stepN at h;split at h
 ·cases h;exact .same rfl rfl rfl
 split at h
 ·cases h;exact .same rfl rfl rfl
 split at h
 ·cases h;exact .same rfl rfl rfl
 split at h
 ·cases h;exact .same rfl rfl rfl
 split at h
 ·unfold varF at h
  split at h
  ·cases h
  ·split at h
   ·cases h;exact .same rfl rfl rfl
   ·cases h
 split at h
 ·exact down_choose (hN c) h
 split at h
 ·exact down_loop (hN c) _ _ _ h
 split at h
 ·exact down_both (hN c) h
 unfold thenF at h;split at h
 ·cases h
 ·rename_i g t hR
  cases h
  exact (down_all (hN c) _ _ _ _ hR).val _
 ·rename_i l t hR
  exact (down_all (hN c) _ _ _ _ hR).trans (down_apply hN h)
end
theorem down_node (C:EvC):∀ g c,DownN (nodeE C g c):=by
 intro g;induction g with
 | zero=>intro c i s R h;simp only [nodeE] at h;cases h;exact ⟨.same rfl rfl rfl,fun e=>by cases e⟩
 | succ g ih =>
  intro c i s R h;simp only [nodeE] at h;split at h
  ·cases h;exact ⟨.same rfl rfl rfl,fun e=>by cases e⟩
  ·rename_i h0
   split at h
   ·cases h
   ·have hd:=down_step ih h
    have h1:=hd.fuel;simp only at h1;exact ⟨⟨by omega,hd.reqs,hd.len⟩,fun _=>by omega⟩
def up (d:Nat) (s:EvS):EvS:={ s with fuel:=s.fuel+d }
end
section
theorem kid_cells {w0:World} {n:NodeD} {iA:Option Addr} {ic M:Nat} (hi:IntsV w0 (.slice iA n.kids.length ic) n.kids) (hk:∀ k∈n.kids,0≤k∧k<(M:Int)) (hl:0<n.kids.length):∃ b off,iA=some ⟨b,off,none⟩∧b<w0.heap.size∧∀ j,j<n.kids.length→w0.cell? ⟨b,off+j,none⟩=some (.int .i64 (kidN n j:Nat))∧kidN n j<M:=by
 obtain ⟨b,off,hA,hb,_⟩:=hi.cell hl;refine ⟨b,off,hA,hb,fun j hj=>?_⟩
 obtain ⟨b',off',hA',_,c⟩:=hi.cell hj;rw [hA] at hA';cases hA'
 have hm:=hk _ (List.getElem_mem hj);have e:kidN n j=(n.kids[j]).toNat:=by unfold kidN;rw [zacY hj]
 rw [e,c,Int.toNat_of_nonneg hm.1];exact ⟨rfl,by omega⟩
theorem EvX.ne {w0 w:World} {K:EvK} {C:EvC} {gv:Nat} {F:List Nat} {c:Nat} {s:EvS} (h:EvX w0 K C gv F c w s) {g:Nat} {t:TypeId} {cs:Array Value} (hB:Blk w g t cs) (h1:t≠95) (h2:t≠22):g≠K.gx∧g≠gv:=by
 obtain ⟨_,_,_,h⟩:=h;exact ⟨zbbY hB h.ex h1,zbbY hB h.vb h2⟩
theorem EvX.keep {w0 w w':World} {K:EvK} {C:EvC} {gv:Nat} {F:List Nat} {c:Nat} {s:EvS} (h:EvX w0 K C gv F c w s) (hk:KX K.gx gv w w') {g:Nat} {cs:Array Value} (hB:Blk w g 87 cs):Blk w' g 87 cs :=
 hk.blk hB (h.ne hB (by decide) (by decide)).1 (h.ne hB (by decide) (by decide)).2 (by decide)
theorem zbfY {w w':World} {u:Value} {l:ValD} (hv:ValV w' u l) (hf:FromC w w' [] u):ValT w' u l:=⟨hv,fun b off n cap e _=>by
 rcases hf b off n cap e with ⟨x,hx,_⟩ | ⟨_,hc⟩
 ·cases hx
 ·exact hc⟩
theorem bool_h (w0:World) (b:Bool) (w:World):Calls prog 32 #[.bool b] w fun e w'=>∃ A n cap,e=.returned (.slice A n cap)∧ValG w0 w' (.slice A n cap) [bCel b]∧Below w.heap.size w w' :=
 (zdhY b w).mono fun e w' ⟨u,he,hv,hf,hb⟩=>by
  obtain ⟨A,n,cap,rfl⟩:=hv.shape;exact ⟨A,n,cap,he,valG_t (zbfY hv hf) (.inr (zb2Y b)),hb⟩
attribute [local go_sem] zacZ
theorem both_h {fB:Nat} {w0:World} {K:EvK} {C:EvC} (hH:EvH w0 K C) {N:EvN} {c:Nat} (hN:NodeOk w0 K C N c fB) (hD:DownN N) {gv:Nat} {F:List Nat} {n:NodeD} {kA iA:Option Addr} {kc ic:Nat} {s:EvS} {w:World} {R} (h:EvX w0 K C gv F c w s) (hn:n∈C.p.nodes) (hi:IntsV w0 (.slice iA n.kids.length ic) n.kids)
  (hf:s.fuel≤fB) (hl:s.vars.length≤1000) (hk2:n.kids.length=2) (hR:bothF N n s=some R) :
  Calls prog 167 #[.pointer (some ⟨K.gx,0,none⟩),.agg (nodeC n kA kc iA ic),.slice (some ⟨gv,0,none⟩) s.vars.length s.vars.length] w (NodeP w0 K C gv F c w R):=by
 obtain ⟨b,off,rfl,hb,hkc⟩:=kid_cells hi (hH.kids n hn).2.2.1 (by omega);obtain ⟨c0,l0⟩:=hkc 0 (by omega);obtain ⟨c1,l1⟩:=hkc 1 (by omega);rw [Nat.add_zero] at c0;obtain ⟨P,hP⟩:∃ P:Ending→World→Prop,NodeP w0 K C gv F c w R=P:=⟨_,rfl⟩
 rw [hP];have HP:=hZz hP;unfold bothF at hR;cases hQ:condF N (kidN n 0) s with
 | none=>rw [hQ] at hR;cases hR
 | some Q =>
  obtain ⟨⟨b1,g1⟩,t⟩:=Q;rw [hQ] at hR;have hd:=(zbqY hD hQ).1;have hdf:=hd.fuel;have hdl:=hd.len;simp only at hdf hdl;unfold nodeC;obtain ⟨gn,hgn⟩:∃ g,w.heap.size=g:=⟨_,rfl⟩
  obtain ⟨W1,hW1⟩:∃ W,w.alloc (.cells #[.int .i64 n.kind,.string n.text,.int .i64 n.int,.slice kA n.keys.length kc,.slice (some ⟨b,off,none⟩) n.kids.length ic] 87)=W:=⟨_,rfl⟩
  have hb1:Below w.heap.size w W1:=by rw [← hW1];exact zaaZ _ _
  have hX1:Blk W1 gn 87 #[.int .i64 n.kind,.string n.text,.int .i64 n.int,.slice kA n.keys.length kc,.slice (some ⟨b,off,none⟩) n.kids.length ic]:=by rw [← hW1,← hgn];exact Blk.new _ _ _
  have hx1:=h.below hb1;have HC0:Hid (Calls prog 218 #[.pointer (some ⟨K.gx,0,none⟩),.int .i64 (kidN n 0:Nat),.slice (some ⟨gv,0,none⟩) s.vars.length s.vars.length] W1 fun e w'=>∃ sv,e=.returned (.tuple #[.bool b1,sv])∧SigV w0 w' sv g1∧EvX w0 K C gv F c w' t∧KX K.gx gv W1 w'):=hZz (cond_h hN hx1 l0 hf hl hQ)
  have HC1:Hid (∀ Q2,condF N (kidN n 1) t=some Q2→∀ wx,EvX w0 K C gv F c wx t→Calls prog 218 #[.pointer (some ⟨K.gx,0,none⟩),.int .i64 (kidN n 1:Nat),.slice (some ⟨gv,0,none⟩) s.vars.length s.vars.length] wx fun e w'=>∃ sv,e=.returned (.tuple #[.bool Q2.1.1,sv])∧SigV w0 w' sv Q2.1.2∧EvX w0 K C gv F c w' Q2.2∧KX K.gx gv wx w'):=hZz (fun Q2 hQ2 wx hx=>by
   have:=cond_h hN hx l1 (by omega) (by omega) hQ2
   rw [hdl] at this;exact this)
  have HB1:=hZz hb1;have HX1:=hZz hX1;have HE1:=hZz hx1;have HBB:=hZz hb;have HC1C:=hZz c1;have d0:=(hx1.bel.cell hb).trans c0;have HGN:=hZz hgn;have HW1:=hZz hW1;have HBO:=fun b=>hZz (bool_h w0 b)
  obtain ⟨L,hL⟩:∃ L,s.vars.length=L:=⟨_,rfl⟩
  rw [hL] at HC0 HC1 ⊢;rw [hk2] at HX1 HW1 ⊢;obtain ⟨k0,hk0⟩:∃ k,kidN n 0=k:=⟨_,rfl⟩
  rw [hk0] at HC0 d0;obtain ⟨k1,hk1⟩:∃ k,kidN n 1=k:=⟨_,rfl⟩
  rw [hk1] at HC1 HC1C hR;obtain ⟨nt,hnt⟩:∃ k,n.text=k:=⟨_,rfl⟩
  rw [hnt] at HX1 HW1 hR ⊢;generalize n.kind=nk at HX1 HW1 ⊢;generalize n.int=ni at HX1 HW1 ⊢;generalize n.keys.length=nq at HX1 HW1 ⊢;have x1:=blk5n HX1.out;clear hP h hn hi hf hl hk2 hQ hN hD hL c0 c1 l0 l1 hkc hb hb1 hX1 hx1 hgn hW1 hd hdf hdl hH hk0 hk1 hnt;cases g1 with
  | some g =>
   have HR:Hid (R=(([],some g),t)):=hZz (by cases hR;rfl);clear hR;go_enter func167,ntmps167
   go_upto_region 1 with fail
   rw [HGN.out,HW1.out];clear HGN HW1
   go_wp2_with (first
    | (go_at_call 218;((with_reducible refine HC0.out.mono ?_);rintro e w2 ⟨sv,rfl,hsv,hx,hkx⟩;obtain ⟨T,pv,rfl⟩:=zblY hsv;have HS:=hZz hsv;have HX:=hZz hx;have HK:=hZz hkx;have hne:=fun w=>ifc_ne T pv w;have heq:=fun w=>ifc_eq T pv w;clear hsv hx hkx)))
   rw [← HP.out,HR.out];exact ⟨.slice none 0 0,_,rfl,ValG.nil _ _,HS.out,HX.out,(KX.of_below HB1.out).trans HK.out⟩
  | none =>
   have hne:=fun w=>ifn_ne w
   have heq:=fun w=>ifn_eq w
   have hcase:(b1=decide (nt.toList=andS))∨(b1=!decide (nt.toList=andS)):=by
    cases b1 <;> cases decide (nt.toList=andS) <;> simp
   rcases hcase with hcase | hcase
   ·have hR2:boolF (condF N k1 t)=some R:=by simpa only [if_pos hcase] using hR
    cases hQ2:condF N k1 t with
    | none=>rw [hQ2] at hR2;cases hR2
    | some Q2 =>
     obtain ⟨⟨b2,g2⟩,t2⟩:=Q2;rw [hQ2] at hR2;have HC2:=hZz (HC1.out _ hQ2);clear hR HC1 hQ2;simp only at HC2;cases g2 with
     | some g =>
      have HR:Hid (R=(([],some g),t2)):=hZz (by cases hR2;rfl);clear hR2;by_cases hand:nt.toList=andS
      ·have hand':=zagY hand
       rw [decide_eq_true hand] at hcase;subst hcase;unfold andS at hand hand';go_enter func167,ntmps167
       go_upto_region 1 with fail
       rw [HGN.out,HW1.out];clear HGN HW1
       go_wp2_with (first
        | (go_at_call 218;((with_reducible refine HC0.out.mono ?_);rintro e w2 ⟨sv,rfl,hsv,hx,hkx⟩;(have hsv':sv=.nilIface:=hsv);subst hsv';have HX:=hZz hx;have HK:=hZz hkx;have x2:=blk5n (HE1.out.keep hkx HX1.out);have d1:=(hx.bel.cell HBB.out).trans HC1C.out;have HC3:=hZz (HC2.out w2 hx);clear hsv hx hkx HC0))
        | (go_at_call 218;((with_reducible refine HC3.out.mono ?_);rintro e w3 ⟨sv,rfl,hsv,hx,hkx⟩;obtain ⟨T,pv,rfl⟩:=zblY hsv;have HS:=hZz hsv;have HX3:=hZz hx;have HK3:=hZz hkx;have hne:=fun w=>ifc_ne T pv w;have heq:=fun w=>ifc_eq T pv w;clear hsv hx hkx)))
       rw [← HP.out,HR.out];exact ⟨.slice none 0 0,_,rfl,ValG.nil _ _,HS.out,HX3.out,((KX.of_below HB1.out).trans HK.out).trans HK3.out⟩
      ·have hand':=zaiZ hand
       rw [decide_eq_false hand] at hcase;subst hcase;unfold andS at hand hand';go_enter func167,ntmps167
       go_upto_region 1 with fail
       rw [HGN.out,HW1.out];clear HGN HW1
       go_wp2_with (first
        | (go_at_call 218;((with_reducible refine HC0.out.mono ?_);rintro e w2 ⟨sv,rfl,hsv,hx,hkx⟩;(have hsv':sv=.nilIface:=hsv);subst hsv';have HX:=hZz hx;have HK:=hZz hkx;have x2:=blk5n (HE1.out.keep hkx HX1.out);have d1:=(hx.bel.cell HBB.out).trans HC1C.out;have HC3:=hZz (HC2.out w2 hx);clear hsv hx hkx HC0))
        | (go_at_call 218;((with_reducible refine HC3.out.mono ?_);rintro e w3 ⟨sv,rfl,hsv,hx,hkx⟩;obtain ⟨T,pv,rfl⟩:=zblY hsv;have HS:=hZz hsv;have HX3:=hZz hx;have HK3:=hZz hkx;have hne:=fun w=>ifc_ne T pv w;have heq:=fun w=>ifc_eq T pv w;clear hsv hx hkx)))
       rw [← HP.out,HR.out];exact ⟨.slice none 0 0,_,rfl,ValG.nil _ _,HS.out,HX3.out,((KX.of_below HB1.out).trans HK.out).trans HK3.out⟩
     | none =>
      have HR:Hid (R=(([bCel b2],none),t2)):=hZz (by cases hR2;rfl);clear hR2;by_cases hand:nt.toList=andS
      ·have hand':=zagY hand
       rw [decide_eq_true hand] at hcase;subst hcase;unfold andS at hand hand';go_enter func167,ntmps167
       go_upto_region 1 with fail
       rw [HGN.out,HW1.out];clear HGN HW1
       go_wp2_with (first
        | (go_at_call 218;((with_reducible refine HC0.out.mono ?_);rintro e w2 ⟨sv,rfl,hsv,hx,hkx⟩;(have hsv':sv=.nilIface:=hsv);subst hsv';have HX:=hZz hx;have HK:=hZz hkx;have x2:=blk5n (HE1.out.keep hkx HX1.out);have d1:=(hx.bel.cell HBB.out).trans HC1C.out;have HC3:=hZz (HC2.out w2 hx);clear hsv hx hkx HC0))
        | (go_at_call 218;((with_reducible refine HC3.out.mono ?_);rintro e w3 ⟨sv,rfl,hsv,hx,hkx⟩;(have hsv':sv=.nilIface:=hsv);subst hsv';have HX3:=hZz hx;have HK3:=hZz hkx;clear hsv hx hkx))
        | (go_at_call 32;((with_reducible refine ((HBO b2).out w3).mono ?_);rintro e w4 ⟨A,m,cap,rfl,hg,hb4⟩;have HG:=hZz hg;have HB4:=hZz hb4;clear hg hb4)))
       rw [← HP.out,HR.out];exact ⟨_,_,rfl,HG.out,rfl,HX3.out.below HB4.out,(((KX.of_below HB1.out).trans HK.out).trans HK3.out).trans (KX.of_below HB4.out)⟩
      ·have hand':=zaiZ hand
       rw [decide_eq_false hand] at hcase;subst hcase;unfold andS at hand hand';go_enter func167,ntmps167
       go_upto_region 1 with fail
       rw [HGN.out,HW1.out];clear HGN HW1
       go_wp2_with (first
        | (go_at_call 218;((with_reducible refine HC0.out.mono ?_);rintro e w2 ⟨sv,rfl,hsv,hx,hkx⟩;(have hsv':sv=.nilIface:=hsv);subst hsv';have HX:=hZz hx;have HK:=hZz hkx;have x2:=blk5n (HE1.out.keep hkx HX1.out);have d1:=(hx.bel.cell HBB.out).trans HC1C.out;have HC3:=hZz (HC2.out w2 hx);clear hsv hx hkx HC0))
        | (go_at_call 218;((with_reducible refine HC3.out.mono ?_);rintro e w3 ⟨sv,rfl,hsv,hx,hkx⟩;(have hsv':sv=.nilIface:=hsv);subst hsv';have HX3:=hZz hx;have HK3:=hZz hkx;clear hsv hx hkx))
        | (go_at_call 32;((with_reducible refine ((HBO b2).out w3).mono ?_);rintro e w4 ⟨A,m,cap,rfl,hg,hb4⟩;have HG:=hZz hg;have HB4:=hZz hb4;clear hg hb4)))
       rw [← HP.out,HR.out];exact ⟨_,_,rfl,HG.out,rfl,HX3.out.below HB4.out,(((KX.of_below HB1.out).trans HK.out).trans HK3.out).trans (KX.of_below HB4.out)⟩
   ·have HR:Hid (R=(([bCel b1],none),t)):=hZz (by
     simp only at hR;rw [if_neg (by rw [hcase];cases decide (nt.toList=andS) <;> simp)] at hR;cases hR;rfl)
    clear hR HC1;by_cases hand:nt.toList=andS
    ·have hand':=zagY hand
     rw [decide_eq_true hand] at hcase;subst hcase;unfold andS at hand hand';go_enter func167,ntmps167
     go_upto_region 1 with fail
     rw [HGN.out,HW1.out];clear HGN HW1
     go_wp2_with (first
      | (go_at_call 218;((with_reducible refine HC0.out.mono ?_);rintro e w2 ⟨sv,rfl,hsv,hx,hkx⟩;(have hsv':sv=.nilIface:=hsv);subst hsv';have HX:=hZz hx;have HK:=hZz hkx;have x2:=blk5n (HE1.out.keep hkx HX1.out);clear hsv hx hkx HC0))
      | (go_at_call 32;((with_reducible refine ((HBO _).out w2).mono ?_);rintro e w4 ⟨A,m,cap,rfl,hg,hb4⟩;have HG:=hZz hg;have HB4:=hZz hb4;clear hg hb4)))
     rw [← HP.out,HR.out];exact ⟨_,_,rfl,HG.out,rfl,HX.out.below HB4.out,((KX.of_below HB1.out).trans HK.out).trans (KX.of_below HB4.out)⟩
    ·have hand':=zaiZ hand
     rw [decide_eq_false hand] at hcase;subst hcase;unfold andS at hand hand';go_enter func167,ntmps167
     go_upto_region 1 with fail
     rw [HGN.out,HW1.out];clear HGN HW1
     go_wp2_with (first
      | (go_at_call 218;((with_reducible refine HC0.out.mono ?_);rintro e w2 ⟨sv,rfl,hsv,hx,hkx⟩;(have hsv':sv=.nilIface:=hsv);subst hsv';have HX:=hZz hx;have HK:=hZz hkx;have x2:=blk5n (HE1.out.keep hkx HX1.out);clear hsv hx hkx HC0))
      | (go_at_call 32;((with_reducible refine ((HBO _).out w2).mono ?_);rintro e w4 ⟨A,m,cap,rfl,hg,hb4⟩;have HG:=hZz hg;have HB4:=hZz hb4;clear hg hb4)))
     rw [← HP.out,HR.out];exact ⟨_,_,rfl,HG.out,rfl,HX.out.below HB4.out,((KX.of_below HB1.out).trans HK.out).trans (KX.of_below HB4.out)⟩
end
theorem fin_some (R:(ValD × Option SigD) × EvS):∃ o,finF (some R)=some o:=by
 obtain ⟨⟨v,g⟩,t⟩:=R;cases g with
 | none=>exact ⟨_,rfl⟩
 | some g=>cases g <;> exact ⟨_,rfl⟩
end Go.Proofs.YtekdhlfapejijaaGreatDoor
