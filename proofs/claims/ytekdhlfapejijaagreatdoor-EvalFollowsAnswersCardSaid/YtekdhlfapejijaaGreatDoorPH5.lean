/- XP, XQ, H18, H4, H5 -/
import Derived.Test.YtekdhlfapejijaaGreatDoorPXO
import Derived.Test.YtekdhlfapejijaaGreatDoorPH17
set_option linter.unusedVariables false
set_option linter.unusedSimpArgs false
namespace Go.Proofs.YtekdhlfapejijaaGreatDoor
open Go.RowKit
set_option maxRecDepth 100000
section
section
variable {K:ParC} {p:Nat} {ns:List NodeD} {v p':Nat} {ns':List NodeD}
theorem PSt.addF {w0 w w1:World} {gp:Nat} {tv:Value} {ts:List Tok} {en:Int} {F:List Nat} {p:Nat} {nx:List NodeX} {nv fv':Value} {q:FuncX} (h:PSt w0 gp tv ts en [] (.slice none 0 0) F w p nx nv) (hg:w.grownBy w1 none) (ho:w1.ownsRow w0.heap.size 89 3 fv' 1 (funcRow q))
  (hk:w.ownsRow w0.heap.size 9 1 q.2 q.1.params.length (q.1.params.map Value.string)):PSt w0 gp tv ts en [q] fv' F (w1.setCell ⟨gp,4,none⟩ fv') p nx nv:=by
 have hgs:=grown_setc w1 gp 4 fv'
 have hb1:Blk w1 gp 119 #[tv,.int .i64 (p:Int),.int .i64 en,nv,.slice none 0 0]:=h.bp.grown hg (by simp)
 have hne2:∀ {n size:Nat} {e:TypeId} {v:Value} {xs:List Value},w1.ownsRow w0.heap.size e size v n xs→e≠119→(w1.setCell ⟨gp,4,none⟩ fv').ownsRow w0.heap.size e size v n xs:=fun ho' he=>own_grown ho' hgs (fun k hk=>by injection hk with hk;subst hk;exact own_ne_blk ho' hb1 he)
 have hne:∀ {n size:Nat} {e:TypeId} {v:Value} {xs:List Value},w.ownsRow w0.heap.size e size v n xs→e≠119→(w1.setCell ⟨gp,4,none⟩ fv').ownsRow w0.heap.size e size v n xs:=fun ho' he=>hne2 (own_grown ho' hg (fun k hk=>by cases hk)) he
 refine ⟨(h.bel.grown hg h.bel.size (fun k hk=>by cases hk)).grown hgs (Nat.le_trans h.bel.size hg.size) (fun k hk=>by injection hk with hk;have:=h.hp;omega),h.hp,hb1.set_ 4 _,hne h.tk (by decide),hne h.nd (by decide),?_,fun q hq=>⟨hne (h.kids q hq).1 (by decide),(h.kids q hq).2⟩,h.kd,fun x hx=>?_,fun g hg'=>?_,h.tl⟩
 ·have:=hne2 ho (by decide)
  simpa using this
 ·rw [List.mem_singleton.1 hx]
  exact hne hk (by decide)
 ·have:=h.fb g hg'
  have:=hg.size
  simp
  omega
attribute [local go_sem] cell_alloc_is
set_option maxHeartbeats 8000000 in
theorem program1_x (hfx:K.fx=[]) (hfv:K.fv=.slice none 0 0) (hy0:nextF K.ts p 2 [⟨#[102,117,110,99]⟩]=true) {t0 t1 t2 t3 t4:Tok} (ht0:K.ts[p]? = some t0) (hy1:nextF K.ts (p+1) 1 []=true) (ht1:K.ts[p+1]? = some t1) (hy2:nextF K.ts (p+1+1) 5 [⟨#[40]⟩]=true) (ht2:K.ts[p+1+1]? = some t2)
  (hn3:nextF K.ts (p+1+1+1) 5 [⟨#[41]⟩]=false) (hy3:nextF K.ts (p+1+1+1) 1 []=true) (ht3:K.ts[p+1+1+1]? = some t3) (hy4:nextF K.ts (p+1+1+1+1) 5 [⟨#[44]⟩,⟨#[41]⟩]=true) (ht4:K.ts[p+1+1+1+1]? = some t4) (htc:(t4.text.toList == (⟨#[41]⟩:ByteArray).toList)=true)
  (hb:ParsP K 129 (p+1+1+1+1+1) ns v p' ns') (hend:p'=K.ts.length) {F:List Nat} {w:World} (h:PXK K F w p ns) :
  Calls Tryz.prog 77 #[.pointer (some ⟨K.gp,0,none⟩)] w fun e w'=>e=.returned (.tuple #[])∧∃ u fv',PX K.w0 K.gp K.tv K.ts K.en [(⟨t1.text,[t3.text],(v:Int)⟩,u)] fv' F w' p' ns':=by
 obtain ⟨i1,hj,hz0,hz1,hz2⟩:=info_parts Tryz.infoFuncX
 obtain ⟨P,hP⟩:∃ P:Ending→World→Prop,(fun e w'=>e=.returned (.tuple #[])∧∃ u fv',PX K.w0 K.gp K.tv K.ts K.en [(⟨t1.text,[t3.text],(v:Int)⟩,u)] fv' F w' p' ns')=P:=⟨_,rfl⟩
 rw [hP]
 have HP:=hZz hP
 obtain ⟨gb,hgb⟩:∃ g,w.heap.size=g:=⟨_,rfl⟩
 obtain ⟨W,hW⟩:∃ W,w.alloc (.cells #[.pointer (some ⟨K.gp,0,none⟩)] 117)=W:=⟨_,rfl⟩
 have hbW:Below w.heap.size w W:=by rw [← hW];exact below_new _ _
 have hBb:Blk W gb 117 #[.pointer (some ⟨K.gp,0,none⟩)]:=by rw [← hW,← hgb];exact Blk.new w _ _
 have hX:=h.below hbW
 have hnb:gb≠K.gp:=hX.ne hBb (by decide)
 have HNB:=hZz hnb
 have HX:=hZz hX
 have HBB:=hZz hBb
 have HW:=hZz hW
 have HGB:=hZz hgb
 have HLT:Hid (p<K.ts.length):=hZz (List.getElem?_eq_some_iff.1 ht0).1
 have HM0:Hid (∀ wx tx,PXK K F wx p ns→TxV wx tx [⟨#[102,117,110,99]⟩]→Calls Tryz.prog 126 #[.pointer (some ⟨K.gp,0,none⟩),.int .i64 2,tx] wx fun e w'=>e=.returned t0.val∧PXK K F w' (p+1) ns∧KP K.gp wx w'):=hZz (fun wx tx h1 h2=>must_x h1 2 h2 hy0 ht0)
 have HM1:Hid (∀ wx tx,PXK K F wx (p+1) ns→TxV wx tx []→Calls Tryz.prog 126 #[.pointer (some ⟨K.gp,0,none⟩),.int .i64 1,tx] wx fun e w'=>e=.returned t1.val∧PXK K F w' (p+1+1) ns∧KP K.gp wx w'):=hZz (fun wx tx h1 h2=>must_x h1 1 h2 hy1 ht1)
 have HM2:Hid (∀ wx tx,PXK K F wx (p+1+1) ns→TxV wx tx [⟨#[40]⟩]→Calls Tryz.prog 126 #[.pointer (some ⟨K.gp,0,none⟩),.int .i64 5,tx] wx fun e w'=>e=.returned t2.val∧PXK K F w' (p+1+1+1) ns∧KP K.gp wx w'):=hZz (fun wx tx h1 h2=>must_x h1 5 h2 hy2 ht2)
 have HL:Hid (∀ wS wx g2,PXK K F wx (p+1+1+1) ns→Blk wx g2 89 #[.string t1.text,.slice none 0 0,.int .i64 0]→Blk wx gb 117 #[.pointer (some ⟨K.gp,0,none⟩)]→KP K.gp wS wx→wS.heap.size≤g2→K.w0.heap.size≤wS.heap.size →
   Calls Tryz.prog 127 #[.pointer (some ⟨K.gp,0,none⟩),.string ⟨#[41]⟩,.func (.func 128) #[] #[.pointer (some ⟨g2,0,none⟩),.pointer (some ⟨gb,0,none⟩)]] wx fun e w'=>e=.returned (.tuple #[])∧PXK K F w' (p+1+1+1+1+1) ns∧(∃ u,FunK K wS g2 w' t1.text [t3.text] u)∧Blk w' gb 117 #[.pointer (some ⟨K.gp,0,none⟩)]):=hZz (fun wS wx g2 hx h2 hbb hk hg hs=>by
  have hn2:g2≠K.gp:=hx.ne h2 (by decide)
  have hgl:=h2.lt
  refine (list1_x (K:=K) (p:=p+1+1+1) (ns:=ns) (p':=p+1+1+1+1) (ns':=ns) 128 #[.pointer (some ⟨g2,0,none⟩),.pointer (some ⟨gb,0,none⟩)] ⟨#[41]⟩ (enters_of Tryz.func128 (by kernel_rfl) rfl) (F:=F) hn3
   (fun a=>FunK K wS g2 a t1.text [] (.slice none 0 0)∧Blk a gb 117 #[.pointer (some ⟨K.gp,0,none⟩)])
   (fun F' a=>F'=F∧(∃ u,FunK K wS g2 a t1.text [t3.text] u)∧Blk a gb 117 #[.pointer (some ⟨K.gp,0,none⟩)])
   (fun a b ⟨h1,h3⟩ hb=>⟨⟨h1.b2.below hb,World.ownsRow_nil _ _ _ _,h1.kp.trans (KP.of_below hb),h1.gn,h1.s0,h1.un⟩,h3.below hb⟩)
   (fun F' a b hx ⟨e,⟨u,h1⟩,h3⟩ hk=>⟨e,⟨u,hk.blkF h1.b2 hn2 (by decide),hk.own h1.ow (fun g hg e=>by
    subst e
    obtain ⟨_,cs,hB⟩:=own_blk h1.ow hg
    exact hx.ne hB (by decide) rfl) (by decide) (by decide),h1.kp.trans hk,h1.gn,h1.s0,h1.un⟩,hk.blk h3 hnb (by decide) (by decide)⟩)
   (fun wy hy ⟨h1,h3⟩=>?_) hy4 ht4 htc hx ⟨⟨h2,World.ownsRow_nil _ _ _ _,hk,hg,hs,fun g hg=>by cases hg⟩,hbb⟩).mono ?_
  ·refine (param1_x (wS:=wS) (F:=F) hy3 ht3 hfv hy h1 h3).mono ?_
   rintro e w' ⟨rfl,hx',hb',u',hf'⟩
   exact ⟨rfl,F,hx',rfl,⟨u',hf'⟩,hb'⟩
  ·rintro e w' ⟨rfl,F',hx',e',hf',hb'⟩
   subst e'
   exact ⟨rfl,hx',hf',hb'⟩)
 have HB:Hid (∀ wx,PXK K F wx (p+1+1+1+1+1) ns→Calls Tryz.prog 129 #[.pointer (some ⟨K.gp,0,none⟩)] wx (ParsR K F wx v p' ns')):=hZz (fun wx h1=>hb F wx h1)
 have HFX:=hZz hfx
 have HFV:=hZz hfv
 have HEND:=hZz hend
 have HGE:=hZz h.ge
 have hfl:=field_tok
 obtain ⟨nx,nv,hnx,hs⟩:=hX
 have HS:=hZz hs
 obtain ⟨c0,c1,c2,c3,c4⟩:=blk5x hs.bp
 obtain ⟨tA,tcap,htv⟩:=own_shape hs.tk
 have HTV:=hZz htv
 obtain ⟨tn,htn⟩:∃ n,K.ts.length=n:=⟨_,rfl⟩
 have HTN:=hZz htn
 rw [htv,htn] at c0
 have ob:=hBb.cell 0 _ rfl
 have hlt':(p:Int)<(tn:Int):=by have:=HLT.out;omega
 clear hP hfx hfv hy0 ht0 hy1 ht1 hy2 ht2 hn3 hy3 ht3 hy4 ht4 htc hb hend h hgb hW hbW hBb hnb hs htv htn c2 c3 c4 hnx
 go_enter Tryz.func77,Tryz.ntmps77
 go_wp2_with (fail)
 rw [HW.out,HGB.out]
 refine wp_loop_rounds 2 ?_
 rw [rounds_succ]
 go_wp2_with (fail)
 go_quiet (fail)
 have HBD:Hid (Below W.heap.size W (W.drewN nq)):=hZz (below_drewN (Below.refl _ _) _)
 obtain ⟨W1,hW1⟩:∃ W1,W.drewN nq=W1:=⟨_,rfl⟩
 rw [hW1] at HBD ⊢
 clear hW1 c0 c1
 have hb1:=HBB.out.below HBD.out
 have HB1:=hZz hb1
 have ob1:=hb1.cell 0 _ rfl
 have HX1:=hZz (HX.out.below HBD.out)
 have HTA:=hZz (TxV.one W1 ⟨#[102,117,110,99]⟩)
 clear hb1 ob
 go_upto_region 7 with (first
  | (go_at_call 126;(refine (HM0.out _ _ (HX1.out.below (below_new _ _)) HTA.out).mono ?_);rintro e w2 ⟨rfl,hx1,hk1⟩;have HX2:=hZz hx1;have hb2:=(hk1.blk (HB1.out.below (below_new W1 _)) HNB.out (by decide) (by decide));have HB2:=hZz hb2;have ob2:=hb2.cell 0 _ rfl;clear hx1 hk1 hb2 HTA HM0;unfold Tok.val)
  | (go_at_call 126;(refine (HM1.out _ _ HX2.out (TxV.nil _)).mono ?_);rintro e w3 ⟨rfl,hx1,hk1⟩;have HX3:=hZz hx1;have hb3:=(hk1.blk HB2.out HNB.out (by decide) (by decide));have HB3:=hZz (hb3.below (below_new w3 (.cells #[.string t1.text,.slice none 0 0,.int .i64 0] 89)));have ob3:=HB3.out.cell 0 _ rfl;have HX4:=hZz (hx1.below (below_new w3 (.cells #[.string t1.text,.slice none 0 0,.int .i64 0] 89)));have HF4:Hid (Blk (w3.alloc (.cells #[.string t1.text,.slice none 0 0,.int .i64 0] 89)) w3.heap.size 89 #[.string t1.text,.slice none 0 0,.int .i64 0]):=hZz (Blk.new _ _ _);have HTO:=hZz (TxV.one1 w3 (.cells #[.string t1.text,.slice none 0 0,.int .i64 0] 89) ⟨#[40]⟩);have HG3:=hZz hx1.ge;clear hx1 hk1 hb3 HM1;unfold Tok.val)
  | (go_at_call 126;(refine (HM2.out _ _ (HX4.out.below (below_new _ _)) HTO.out).mono ?_);rintro e w5 ⟨rfl,hx1,hk1⟩;have hk35:KP K.gp (w3.alloc (.cells #[.string t1.text,.slice none 0 0,.int .i64 0] 89)) w5:=(KP.of_below (below_new _ _)).trans hk1;have HX5:=hZz hx1;have hb5:=(hk35.blk HB3.out HNB.out (by decide) (by decide));have HB5:=hZz hb5;have ob5:=hb5.cell 0 _ rfl;have HF5:=hZz (hk35.blkF HF4.out (HX4.out.ne HF4.out (by decide)) (by decide));have HK5:=hZz ((KP.of_below (below_new w3 _)).trans hk35);clear hx1 hk1 hk35 hb5 HTO HM2;unfold Tok.val)
  | (go_at_call 127;(refine (HL.out w3 _ _ HX5.out HF5.out HB5.out HK5.out (Nat.le_refl _) HG3.out).mono ?_);rintro e w6 ⟨rfl,hx1,⟨u,hu⟩,hb6⟩;have HX6:=hZz hx1;have HB6:=hZz hb6;have HU:=hZz hu;have ob6:=hb6.cell 0 _ rfl;clear hx1 hu hb6 HL)
  | (go_at_call 129;(refine (HB.out _ HX6.out).mono ?_);rintro e w7 ⟨rfl,hx1,hk1⟩;have HX7:=hZz hx1;have hb7:=(hk1.blk HB6.out HNB.out (by decide) (by decide));have HB7:=hZz hb7;have ob7:=hb7.cell 0 _ rfl;have HF7:=hZz (hk1.blkF HU.out.b2 (HX6.out.ne HU.out.b2 (by decide)) (by decide));have z7:=HF7.out.frozen 2;have q7:=HF7.out.cell 2 _ rfl;have HU7:=hZz (hk1.own HU.out.ow (fun g hg e=>by subst e;obtain ⟨_,cs,hB⟩:=own_blk HU.out.ow hg;exact HX6.out.ne hB (by decide) rfl) (by decide) (by decide));clear hx1 hk1 hb7 HB))
 have hu7:w7.ownsRow K.w0.heap.size 9 1 u 1 [.string t3.text]:=HU7.out
 obtain ⟨uA,uc,rfl⟩:=own_shape hu7
 obtain ⟨g2,hg2⟩:∃ g,w3.heap.size=g:=⟨_,rfl⟩
 have hg2s:=HG3.out
 rw [hg2] at HF7 hg2s ⊢
 have hgb2:gb≠g2:=blk_ne HB7.out HF7.out (by decide)
 have hx8:=HX7.out.setF HF7.out (by rw [HFV.out];simp [Value.ownBlock]) hg2s 2 (.int .i64 (v:Int))
 have hf8:=HF7.out.set_ 2 (.int .i64 (v:Int))
 have hb8:=HB7.out.far (p:=⟨g2,2,none⟩) hgb2 (.int .i64 (v:Int))
 have hu8:=own_grown hu7 (grown_setc w7 g2 2 (.int .i64 (v:Int))) (fun k hk=>by injection hk with hk;subst hk;exact own_ne_blk hu7 HF7.out (by decide))
 obtain ⟨W8,hW8⟩:∃ W8,w7.setCell ⟨g2,2,none⟩ (.int .i64 (v:Int))=W8:=⟨_,rfl⟩
 rw [hW8] at hx8 hf8 hb8 hu8 ⊢
 obtain ⟨nx8,nv8,hn8,hs8⟩:=hx8
 rw [HFX.out,HFV.out] at hs8
 obtain ⟨W9,hW9⟩:∃ W9,(W8.alloc (.cells #[.string t1.text,.slice uA 1 uc,.int .i64 (v:Int)] 89)).drew=W9:=⟨_,rfl⟩
 have hb89:Below W8.heap.size W8 W9:=by rw [← hW9];exact below_call (below_drew _) (below_new _ _)
 have HBN:Hid (Blk W9 W8.heap.size 89 #[.string t1.text,.slice uA 1 uc,.int .i64 (v:Int)]):=hZz (by rw [← hW9];exact (Blk.new _ _ _).below (below_drew _))
 have HS9:=hZz (hs8.below hb89)
 have HU9:=hZz (own_below hu8 hb89)
 have HB9:=hZz (hb8.below hb89)
 have HW9:=hZz hW9
 have HN8:=hZz hn8
 have hsz:K.w0.heap.size≤W9.heap.size:=Nat.le_trans hs8.bel.size hb89.size
 obtain ⟨c0,c1,c2,c3,c4⟩:=blk5x hs8.bp
 have z4:=hs8.bp.frozen 4
 have ob8:=hb8.cell 0 _ rfl
 have f0:W8.cell? ⟨g2,0,none⟩=some (.string t1.text):=hf8.cell 0 _ rfl
 have f1:W8.cell? ⟨g2,1,none⟩=some (.slice uA 1 uc):=hf8.cell 1 _ rfl
 have f2:W8.cell? ⟨g2,2,none⟩=some (.int .i64 (v:Int)):=hf8.cell 2 _ rfl
 have hf8':=hZz hf8
 have HN2:=hZz (HX7.out.ne HF7.out (by decide))
 have HB89:=hZz hb89
 clear c0 c1 c2 c3 hn8 hs8 hW9 hb89 hf8 hb8 hu8 hu7 hW8 ob1 ob2 ob3 ob5 ob6 ob7 q7 z7 hlt'
 refine wp_region_held_drew (S:=(fun w'=>w'.cell? ⟨gb,0,none⟩=some (.pointer (some ⟨K.gp,0,none⟩))∧w'.cell? ⟨g2,0,none⟩=some (.string t1.text)∧w'.cell? ⟨g2,1,none⟩=some (.slice uA 1 uc)∧w'.cell? ⟨g2,2,none⟩=some (.int .i64 (v:Int)))) (by kernel_rfl) (by (first | assumption | go_keep | (refine ⟨ob10,?_,?_,?_⟩ <;> assumption) | (exact ⟨(HGB10.out.far (p:=⟨K.gp,4,none⟩) HNB.out _).cell 0 _ rfl,(HG10.out.far (p:=⟨K.gp,4,none⟩) HN2.out _).cell 0 _ rfl,(HG10.out.far (p:=⟨K.gp,4,none⟩) HN2.out _).cell 1 _ rfl,(HG10.out.far (p:=⟨K.gp,4,none⟩) HN2.out _).cell 2 _ rfl⟩))) (fun hHeld=>?_)
 refine wpAnyH_take (i:=0) (oi:=_) (v:=.pointer (some ⟨K.gp,0,none⟩)) rfl (by kernel_rfl) (by kernel_rfl) (by kernel_rfl) (fun _ _ _ h=>h) (Or.inl ⟨by rfl,by intro w hSw;(try dsimp only at hSw);go_simp⟩) (by assumption) ?_
 simp only [List.getElem_toArray,List.getElem_cons_succ,List.getElem_cons_zero,Act.put,List.setIfInBounds_toArray,List.set_cons_zero,List.set_cons_succ]
 refine wpAnyH_take (i:=1) (oi:=_) (v:=.pointer (some ⟨K.gp,0,none⟩)) rfl (by kernel_rfl) (by kernel_rfl) (by kernel_rfl) (fun _ _ _ h=>h) (Or.inl ⟨by rfl,by intro w hSw;(try dsimp only at hSw);go_simp⟩) (by assumption) ?_
 simp only [List.getElem_toArray,List.getElem_cons_succ,List.getElem_cons_zero,Act.put,List.setIfInBounds_toArray,List.set_cons_zero,List.set_cons_succ]
 refine wpAnyH_take (i:=2) (oi:=_) (v:=.pointer (some ⟨K.gp,0,none⟩)) rfl (by kernel_rfl) (by kernel_rfl) (by kernel_rfl) (fun _ _ _ h=>h) (Or.inl ⟨by rfl,by intro w hSw;(try dsimp only at hSw);go_simp⟩) (by assumption) ?_
 simp only [List.getElem_toArray,List.getElem_cons_succ,List.getElem_cons_zero,Act.put,List.setIfInBounds_toArray,List.set_cons_zero,List.set_cons_succ]
 refine wpAnyH_take (i:=3) (oi:=_) (v:=.pointer (some ⟨K.gp,3,none⟩)) rfl (by kernel_rfl) (by kernel_rfl) (by kernel_rfl) (fun _ _ _ h=>h) (Or.inl ⟨by rfl,by intro w hSw;(try dsimp only at hSw);go_simp⟩) (by assumption) ?_
 simp only [List.getElem_toArray,List.getElem_cons_succ,List.getElem_cons_zero,Act.put,List.setIfInBounds_toArray,List.set_cons_zero,List.set_cons_succ]
 refine wpAnyH_take (i:=4) (oi:=_) (v:=.pointer (some ⟨K.gp,4,none⟩)) rfl (by kernel_rfl) (by kernel_rfl) (by kernel_rfl) (fun _ _ _ h=>h) (Or.inl ⟨by rfl,by intro w hSw;(try dsimp only at hSw);go_simp⟩) (by assumption) ?_
 simp only [List.getElem_toArray,List.getElem_cons_succ,List.getElem_cons_zero,Act.put,List.setIfInBounds_toArray,List.set_cons_zero,List.set_cons_succ]
 refine wpAnyH_take (i:=6) (oi:=_) (v:=.agg #[.string t1.text,.slice uA 1 uc,.int .i64 (v:Int)]) rfl (by kernel_rfl) (by kernel_rfl) (by kernel_rfl) (fun _ _ _ h=>h) (Or.inl ⟨by rfl,by intro w hSw;(try dsimp only at hSw);go_simp⟩) (by assumption) ?_
 simp only [List.getElem_toArray,List.getElem_cons_succ,List.getElem_cons_zero,Act.put,List.setIfInBounds_toArray,List.set_cons_zero,List.set_cons_succ]
 refine wpAnyH_ready (rs:=[5,7]) (by kernel_rfl) (by simp) ?_
 refine AllReadyH.cons (o:=_) rfl (fun KQ hKQ=>?_) ?_
 focus
  go_simp
  refine hKQ.out _ _ (by (try dsimp only);(first | assumption | go_keep | (refine ⟨ob10,?_,?_,?_⟩ <;> assumption) | (exact ⟨(HGB10.out.far (p:=⟨K.gp,4,none⟩) HNB.out _).cell 0 _ rfl,(HG10.out.far (p:=⟨K.gp,4,none⟩) HN2.out _).cell 0 _ rfl,(HG10.out.far (p:=⟨K.gp,4,none⟩) HN2.out _).cell 1 _ rfl,(HG10.out.far (p:=⟨K.gp,4,none⟩) HN2.out _).cell 2 _ rfl⟩))) (fun hHeld=>?_)
  clear hKQ KQ
  try simp only [List.getElem_toArray,List.getElem_cons_succ,List.getElem_cons_zero,Act.put,List.setIfInBounds_toArray,List.set_cons_zero,List.set_cons_succ]
  refine wpAnyH_ready (rs:=[7]) (by kernel_rfl) (by simp) ?_
  refine AllReadyH.cons (o:=_) rfl (fun KQ hKQ=>?_) AllReadyH.nil
  go_simp
  refine hKQ.out _ _ (by (try dsimp only);(first | assumption | go_keep | (refine ⟨ob10,?_,?_,?_⟩ <;> assumption) | (exact ⟨(HGB10.out.far (p:=⟨K.gp,4,none⟩) HNB.out _).cell 0 _ rfl,(HG10.out.far (p:=⟨K.gp,4,none⟩) HN2.out _).cell 0 _ rfl,(HG10.out.far (p:=⟨K.gp,4,none⟩) HN2.out _).cell 1 _ rfl,(HG10.out.far (p:=⟨K.gp,4,none⟩) HN2.out _).cell 2 _ rfl⟩))) (fun hHeld=>?_)
  clear hKQ KQ
  try simp only [List.getElem_toArray,List.getElem_cons_succ,List.getElem_cons_zero,Act.put,List.setIfInBounds_toArray,List.set_cons_zero,List.set_cons_succ]
  refine wpAnyH_ready (rs:=[8]) (by kernel_rfl) (by simp) ?_
  refine AllReadyH.cons (o:=_) rfl (fun KQ hKQ=>?_) AllReadyH.nil
  try simp only [List.getElem_toArray,List.getElem_cons_succ,List.getElem_cons_zero]
  (rw [if_pos (by rfl)];rw [HW9.out];refine wp_append_lies _ (.tmp 34) (.tmp 36) 36 rfl K.w0.heap.size 89 i1 _ 3 48 Tryz.underlying36 hj hz0 hz1 hz2 rfl ?k1 _ 0 [] rfl (World.ownsRow_nil _ _ _ _) ⟨W8.heap.size,0,none⟩ 1 1 [.string t1.text,.slice uA 1 uc,.int .i64 (v:Int)] rfl rfl ?k7 ?k2 ?k3 ?k4 ?k5 ?k6 _ rfl ?_;(case k1=>decide);(case k7=>(intro j u hju;have:=HBN.out.cell j u (by simpa using hju);rw [addr_add,Nat.zero_add];exact this));(case k2=>simp [Value.oneCell']);(case k3=>decide);(case k4=>(unfold maxLen;omega));(case k5=>omega);(case k6=>exact hsz);intro g6 cap6 w10 hown6 hgr6 _ _;have HB10:=hZz (HS9.out.bp.grown hgr6 (fun e=>by cases e));have z10:=HB10.out.frozen 4;have o10:=HB10.out.cell 4 _ rfl;have hg10:=((hf8'.out.below HB89.out).grown hgr6 (fun e=>by cases e));have HG10:=hZz hg10;have HGB10:=hZz (HB9.out.grown hgr6 (fun e=>by cases e));have f10:w10.cell? ⟨g2,0,none⟩=some (.string t1.text):=hg10.cell 0 _ rfl;have f11:w10.cell? ⟨g2,1,none⟩=some (.slice uA 1 uc):=hg10.cell 1 _ rfl;have f12:w10.cell? ⟨g2,2,none⟩=some (.int .i64 (v:Int)):=hg10.cell 2 _ rfl;have ob10:=(HB9.out.grown hgr6 (fun e=>by cases e)).cell 0 _ rfl;have HO10:=hZz hown6;have HGR:=hZz hgr6;clear hown6 hgr6)
  refine hKQ.out _ _ (by (try dsimp only);(first | assumption | go_keep | (refine ⟨ob10,?_,?_,?_⟩ <;> assumption) | (exact ⟨(HGB10.out.far (p:=⟨K.gp,4,none⟩) HNB.out _).cell 0 _ rfl,(HG10.out.far (p:=⟨K.gp,4,none⟩) HN2.out _).cell 0 _ rfl,(HG10.out.far (p:=⟨K.gp,4,none⟩) HN2.out _).cell 1 _ rfl,(HG10.out.far (p:=⟨K.gp,4,none⟩) HN2.out _).cell 2 _ rfl⟩))) (fun hHeld=>?_)
  clear hKQ KQ
  try simp only [List.getElem_toArray,List.getElem_cons_succ,List.getElem_cons_zero,Act.put,List.setIfInBounds_toArray,List.set_cons_zero,List.set_cons_succ]
  refine wpAnyH_take (i:=9) (oi:=_) (v:=.pointer (some ⟨K.gp,0,none⟩)) rfl (by kernel_rfl) (by kernel_rfl) (by kernel_rfl) (fun _ _ _ h=>h) (Or.inl ⟨by rfl,by intro w hSw;(try dsimp only at hSw);go_simp⟩) (by assumption) ?_
  simp only [List.getElem_toArray,List.getElem_cons_succ,List.getElem_cons_zero,Act.put,List.setIfInBounds_toArray,List.set_cons_zero,List.set_cons_succ]
  refine wpAnyH_take (i:=10) (oi:=_) (v:=.pointer (some ⟨K.gp,3,none⟩)) rfl (by kernel_rfl) (by kernel_rfl) (by kernel_rfl) (fun _ _ _ h=>h) (Or.inl ⟨by rfl,by intro w hSw;(try dsimp only at hSw);go_simp⟩) (by assumption) ?_
  simp only [List.getElem_toArray,List.getElem_cons_succ,List.getElem_cons_zero,Act.put,List.setIfInBounds_toArray,List.set_cons_zero,List.set_cons_succ]
  refine wpAnyH_take (i:=11) (oi:=_) (v:=.pointer (some ⟨K.gp,4,none⟩)) rfl (by kernel_rfl) (by kernel_rfl) (by kernel_rfl) (fun _ _ _ h=>h) (Or.inl ⟨by rfl,by intro w hSw;(try dsimp only at hSw);go_simp⟩) (by assumption) ?_
  simp only [List.getElem_toArray,List.getElem_cons_succ,List.getElem_cons_zero,Act.put,List.setIfInBounds_toArray,List.set_cons_zero,List.set_cons_succ]
  refine wpAnyH_ready (rs:=[12]) (by kernel_rfl) (by simp) ?_
  refine AllReadyH.cons (o:=_) rfl (fun KQ hKQ=>?_) AllReadyH.nil
  go_simp
  refine hKQ.out _ _ (by (try dsimp only);(first | assumption | go_keep | (refine ⟨ob10,?_,?_,?_⟩ <;> assumption) | (exact ⟨(HGB10.out.far (p:=⟨K.gp,4,none⟩) HNB.out _).cell 0 _ rfl,(HG10.out.far (p:=⟨K.gp,4,none⟩) HN2.out _).cell 0 _ rfl,(HG10.out.far (p:=⟨K.gp,4,none⟩) HN2.out _).cell 1 _ rfl,(HG10.out.far (p:=⟨K.gp,4,none⟩) HN2.out _).cell 2 _ rfl⟩))) (fun hHeld=>?_)
  clear hKQ KQ
  try simp only [List.getElem_toArray,List.getElem_cons_succ,List.getElem_cons_zero,Act.put,List.setIfInBounds_toArray,List.set_cons_zero,List.set_cons_succ]
  refine wpAnyH_done (by kernel_rfl) ?_ _
  try dsimp only [List.getElem_toArray,List.getElem_cons_succ,List.getElem_cons_zero,Act.put]
 rotate_left 1
 refine AllReadyH.cons (o:=_) rfl (fun KQ hKQ=>?_) AllReadyH.nil
 go_simp
 refine hKQ.out _ _ (by (try dsimp only);(first | assumption | go_keep | (refine ⟨ob10,?_,?_,?_⟩ <;> assumption) | (exact ⟨(HGB10.out.far (p:=⟨K.gp,4,none⟩) HNB.out _).cell 0 _ rfl,(HG10.out.far (p:=⟨K.gp,4,none⟩) HN2.out _).cell 0 _ rfl,(HG10.out.far (p:=⟨K.gp,4,none⟩) HN2.out _).cell 1 _ rfl,(HG10.out.far (p:=⟨K.gp,4,none⟩) HN2.out _).cell 2 _ rfl⟩))) (fun hHeld=>?_)
 clear hKQ KQ
 try simp only [List.getElem_toArray,List.getElem_cons_succ,List.getElem_cons_zero,Act.put,List.setIfInBounds_toArray,List.set_cons_zero,List.set_cons_succ]
 refine wpAnyH_ready (rs:=[5]) (by kernel_rfl) (by simp) ?_
 refine AllReadyH.cons (o:=_) rfl (fun KQ hKQ=>?_) AllReadyH.nil
 go_simp
 refine hKQ.out _ _ (by (try dsimp only);(first | assumption | go_keep | (refine ⟨ob10,?_,?_,?_⟩ <;> assumption) | (exact ⟨(HGB10.out.far (p:=⟨K.gp,4,none⟩) HNB.out _).cell 0 _ rfl,(HG10.out.far (p:=⟨K.gp,4,none⟩) HN2.out _).cell 0 _ rfl,(HG10.out.far (p:=⟨K.gp,4,none⟩) HN2.out _).cell 1 _ rfl,(HG10.out.far (p:=⟨K.gp,4,none⟩) HN2.out _).cell 2 _ rfl⟩))) (fun hHeld=>?_)
 clear hKQ KQ
 try simp only [List.getElem_toArray,List.getElem_cons_succ,List.getElem_cons_zero,Act.put,List.setIfInBounds_toArray,List.set_cons_zero,List.set_cons_succ]
 refine wpAnyH_ready (rs:=[8]) (by kernel_rfl) (by simp) ?_
 refine AllReadyH.cons (o:=_) rfl (fun KQ hKQ=>?_) AllReadyH.nil
 try simp only [List.getElem_toArray,List.getElem_cons_succ,List.getElem_cons_zero]
 (rw [if_pos (by rfl)];rw [HW9.out];refine wp_append_lies _ (.tmp 34) (.tmp 36) 36 rfl K.w0.heap.size 89 i1 _ 3 48 Tryz.underlying36 hj hz0 hz1 hz2 rfl ?k1 _ 0 [] rfl (World.ownsRow_nil _ _ _ _) ⟨W8.heap.size,0,none⟩ 1 1 [.string t1.text,.slice uA 1 uc,.int .i64 (v:Int)] rfl rfl ?k7 ?k2 ?k3 ?k4 ?k5 ?k6 _ rfl ?_;(case k1=>decide);(case k7=>(intro j u hju;have:=HBN.out.cell j u (by simpa using hju);rw [addr_add,Nat.zero_add];exact this));(case k2=>simp [Value.oneCell']);(case k3=>decide);(case k4=>(unfold maxLen;omega));(case k5=>omega);(case k6=>exact hsz);intro g6 cap6 w10 hown6 hgr6 _ _;have HB10:=hZz (HS9.out.bp.grown hgr6 (fun e=>by cases e));have z10:=HB10.out.frozen 4;have o10:=HB10.out.cell 4 _ rfl;have hg10:=((hf8'.out.below HB89.out).grown hgr6 (fun e=>by cases e));have HG10:=hZz hg10;have HGB10:=hZz (HB9.out.grown hgr6 (fun e=>by cases e));have f10:w10.cell? ⟨g2,0,none⟩=some (.string t1.text):=hg10.cell 0 _ rfl;have f11:w10.cell? ⟨g2,1,none⟩=some (.slice uA 1 uc):=hg10.cell 1 _ rfl;have f12:w10.cell? ⟨g2,2,none⟩=some (.int .i64 (v:Int)):=hg10.cell 2 _ rfl;have ob10:=(HB9.out.grown hgr6 (fun e=>by cases e)).cell 0 _ rfl;have HO10:=hZz hown6;have HGR:=hZz hgr6;clear hown6 hgr6)
 refine hKQ.out _ _ (by (try dsimp only);(first | assumption | go_keep | (refine ⟨ob10,?_,?_,?_⟩ <;> assumption) | (exact ⟨(HGB10.out.far (p:=⟨K.gp,4,none⟩) HNB.out _).cell 0 _ rfl,(HG10.out.far (p:=⟨K.gp,4,none⟩) HN2.out _).cell 0 _ rfl,(HG10.out.far (p:=⟨K.gp,4,none⟩) HN2.out _).cell 1 _ rfl,(HG10.out.far (p:=⟨K.gp,4,none⟩) HN2.out _).cell 2 _ rfl⟩))) (fun hHeld=>?_)
 clear hKQ KQ
 try simp only [List.getElem_toArray,List.getElem_cons_succ,List.getElem_cons_zero,Act.put,List.setIfInBounds_toArray,List.set_cons_zero,List.set_cons_succ]
 refine wpAnyH_take (i:=9) (oi:=_) (v:=.pointer (some ⟨K.gp,0,none⟩)) rfl (by kernel_rfl) (by kernel_rfl) (by kernel_rfl) (fun _ _ _ h=>h) (Or.inl ⟨by rfl,by intro w hSw;(try dsimp only at hSw);go_simp⟩) (by assumption) ?_
 simp only [List.getElem_toArray,List.getElem_cons_succ,List.getElem_cons_zero,Act.put,List.setIfInBounds_toArray,List.set_cons_zero,List.set_cons_succ]
 refine wpAnyH_take (i:=10) (oi:=_) (v:=.pointer (some ⟨K.gp,3,none⟩)) rfl (by kernel_rfl) (by kernel_rfl) (by kernel_rfl) (fun _ _ _ h=>h) (Or.inl ⟨by rfl,by intro w hSw;(try dsimp only at hSw);go_simp⟩) (by assumption) ?_
 simp only [List.getElem_toArray,List.getElem_cons_succ,List.getElem_cons_zero,Act.put,List.setIfInBounds_toArray,List.set_cons_zero,List.set_cons_succ]
 refine wpAnyH_take (i:=11) (oi:=_) (v:=.pointer (some ⟨K.gp,4,none⟩)) rfl (by kernel_rfl) (by kernel_rfl) (by kernel_rfl) (fun _ _ _ h=>h) (Or.inl ⟨by rfl,by intro w hSw;(try dsimp only at hSw);go_simp⟩) (by assumption) ?_
 simp only [List.getElem_toArray,List.getElem_cons_succ,List.getElem_cons_zero,Act.put,List.setIfInBounds_toArray,List.set_cons_zero,List.set_cons_succ]
 refine wpAnyH_ready (rs:=[12]) (by kernel_rfl) (by simp) ?_
 refine AllReadyH.cons (o:=_) rfl (fun KQ hKQ=>?_) AllReadyH.nil
 go_simp
 refine hKQ.out _ _ (by (try dsimp only);(first | assumption | go_keep | (refine ⟨ob10,?_,?_,?_⟩ <;> assumption) | (exact ⟨(HGB10.out.far (p:=⟨K.gp,4,none⟩) HNB.out _).cell 0 _ rfl,(HG10.out.far (p:=⟨K.gp,4,none⟩) HN2.out _).cell 0 _ rfl,(HG10.out.far (p:=⟨K.gp,4,none⟩) HN2.out _).cell 1 _ rfl,(HG10.out.far (p:=⟨K.gp,4,none⟩) HN2.out _).cell 2 _ rfl⟩))) (fun hHeld=>?_)
 clear hKQ KQ
 try simp only [List.getElem_toArray,List.getElem_cons_succ,List.getElem_cons_zero,Act.put,List.setIfInBounds_toArray,List.set_cons_zero,List.set_cons_succ]
 refine wpAnyH_done (by kernel_rfl) ?_ _
 try dsimp only [List.getElem_toArray,List.getElem_cons_succ,List.getElem_cons_zero,Act.put]
 all_goals
  have hgr:W9.grownBy w10 none:=HGR.out
  have hs11:=HS9.out.addF (q:=(⟨t1.text,[t3.text],(v:Int)⟩,.slice uA 1 uc)) hgr HO10.out HU9.out
  have hb11:=(HB9.out.grown hgr (by simp)).far (p:=⟨K.gp,4,none⟩) HNB.out (.slice (some ⟨g6,0,none⟩) (0+1) cap6)
  obtain ⟨W11,hW11⟩:∃ W11,w10.setCell ⟨K.gp,4,none⟩ (.slice (some ⟨g6,0,none⟩) (0+1) cap6)=W11:=⟨_,rfl⟩
  have HW11:Hid (w10.setCell ⟨K.gp,4,none⟩ (.slice (some ⟨g6,0,none⟩) 1 cap6)=W11):=hZz hW11
  rw [hW11] at hs11 hb11
  clear hW11 c4 z4 ob8 f0 f1 f2 z10 o10 ob10 f10 f11 f12 hg10
  go_wp2_with (fail)
  rw [HW11.out,rounds_succ]
  obtain ⟨c0,c1,c2,c3,c4⟩:=blk5x hs11.bp
  have ob:=hb11.cell 0 _ rfl
  rw [HTV.out] at c0
  have hpe:=HEND.out
  rw [hpe] at c1
  have HS11:=hZz hs11
  clear hs11 hb11 hpe
  go_wp2_with (fail)
  go_quiet (fail)
  go_wp2_with (fail)
  go_returns
  rw [← HP.out]
  exact ⟨rfl,.slice uA 1 uc,_,nx8,nv8,HN8.out,HS11.out.below (below_drewN (Below.refl _ _) _)⟩
end
end
section
section
variable {K:ParC} {p:Nat} {ns:List NodeD} {v p':Nat} {ns':List NodeD}
theorem upT (h:ParsP K 309 p ns v p' ns') (h1:nextF K.ts p' 5 [⟨#[91]⟩]=false) (h2:nextF K.ts p 5 [⟨#[45]⟩]=false) (h3:nextF K.ts p' 5 [⟨#[42]⟩,⟨#[47]⟩,⟨#[37]⟩]=false):ParsP K 306 p ns v p' ns':=term_x h3 (unary_x h2 (post_x h1 h))
theorem upE (h:ParsP K 303 p ns v p' ns') (h1:nextF K.ts p 2 [⟨#[110,111,116]⟩]=false) (h2:nextF K.ts p' 5 cmpT=false) (h3:nextF K.ts p' 2 [⟨#[97,110,100]⟩]=false) (h4:nextF K.ts p' 2 [⟨#[111,114]⟩]=false):ParsP K 240 p ns v p' ns':=expr_x h4 (and_x h3 (not_x h1 h2 h))
def nodes10:List NodeD:=[nodE 4 "k".toUTF8 0 [],nodE 12 "get".toUTF8 0 [0],nodE 13 "x".toUTF8 0 [1],nodE 5 "x".toUTF8 0 [],nodE 3 ⟨#[]⟩ 1 [],nodE 9 "+".toUTF8 0 [3,4],nodE 17 ⟨#[]⟩ 0 [5],nodE 19 ⟨#[]⟩ 0 [2,6]]
theorem block10 (hts:K.ts=toksE):ParsP K 129 5 [] 7 20 nodes10:=by
 have nf:∀ (p:Nat) (k:Int) (l:List ByteArray) (b:Bool),nextF toksE p k l=b→nextF K.ts p k l=b:=fun p k l b h=>by rw [hts];exact h
 have tk:∀ (p:Nat) (t:Tok),toksE[p]? = some t→K.ts[p]? = some t:=fun p t h=>by rw [hts];exact h
 have e1:=prim_str (K:=K) (p:=11) (ns:=[]) (by decide) (t:=⟨4,"k".toUTF8,0,28⟩) (tk _ _ (by decide +kernel)) (nf _ _ _ _ (by decide +kernel)) (nf _ _ _ _ (by decide +kernel))
 have e2:=upE (sum_x (nf _ _ _ _ (by decide +kernel)) (upT e1 (nf _ _ _ _ (by decide +kernel)) (nf _ _ _ _ (by decide +kernel)) (nf _ _ _ _ (by decide +kernel)))) (nf _ _ _ _ (by decide +kernel)) (nf _ _ _ _ (by decide +kernel)) (nf _ _ _ _ (by decide +kernel)) (nf _ _ _ _ (by decide +kernel))
 have e3:=prim_host (K:=K) (p:=9) (ns:=[]) (by decide) (t:=⟨6,"get".toUTF8,0,23⟩) (t2:=⟨5,"(".toUTF8,0,27⟩) (t3:=⟨5,")".toUTF8,0,31⟩) (tk _ _ (by decide +kernel)) (nf _ _ _ _ (by decide +kernel)) (nf _ _ _ _ (by decide +kernel)) (nf _ _ _ _ (by decide +kernel)) (nf _ _ _ _ (by decide +kernel)) (nf _ _ _ _ (by decide +kernel)) (nf _ _ _ _ (by decide +kernel)) (tk _ _ (by decide +kernel)) e2 (nf _ _ _ _ (by decide +kernel)) (nf _ _ _ _ (by decide +kernel)) (tk _ _ (by decide +kernel)) (by decide +kernel)
 have e4:=upE (sum_x (nf _ _ _ _ (by decide +kernel)) (upT e3 (nf _ _ _ _ (by decide +kernel)) (nf _ _ _ _ (by decide +kernel)) (nf _ _ _ _ (by decide +kernel)))) (nf _ _ _ _ (by decide +kernel)) (nf _ _ _ _ (by decide +kernel)) (nf _ _ _ _ (by decide +kernel)) (nf _ _ _ _ (by decide +kernel))
 have s1:=stmt_let (K:=K) (p:=6) (ns:=[]) (nf _ _ _ _ (by decide +kernel)) (t:=⟨2,"let".toUTF8,0,15⟩) (t1:=⟨1,"x".toUTF8,0,19⟩) (t2:=⟨5,"=".toUTF8,0,21⟩) (t3:=⟨5,";".toUTF8,0,32⟩) (tk _ _ (by decide +kernel)) (by decide +kernel) (nf _ _ _ _ (by decide +kernel)) (tk _ _ (by decide +kernel)) (nf _ _ _ _ (by decide +kernel)) (tk _ _ (by decide +kernel)) e4 (nf _ _ _ _ (by decide +kernel)) (tk _ _ (by decide +kernel)) (by decide)
 have x1:=prim_name (K:=K) (p:=15) (ns:=[nodE 4 "k".toUTF8 0 [],nodE 12 "get".toUTF8 0 [0],nodE 13 "x".toUTF8 0 [1]]) (by decide) (t:=⟨1,"x".toUTF8,0,41⟩) (tk _ _ (by decide +kernel)) (nf _ _ _ _ (by decide +kernel)) (nf _ _ _ _ (by decide +kernel)) (nf _ _ _ _ (by decide +kernel)) (nf _ _ _ _ (by decide +kernel)) (nf _ _ _ _ (by decide +kernel))
 have x2:=upT x1 (nf _ _ _ _ (by decide +kernel)) (nf _ _ _ _ (by decide +kernel)) (nf _ _ _ _ (by decide +kernel))
 have y1:=prim_int (K:=K) (p:=17) (ns:=[nodE 4 "k".toUTF8 0 [],nodE 12 "get".toUTF8 0 [0],nodE 13 "x".toUTF8 0 [1]] ++ [nodE 5 "x".toUTF8 0 []]) (by decide) (t:=⟨3,⟨#[]⟩,1,45⟩) (tk _ _ (by decide +kernel)) (nf _ _ _ _ (by decide +kernel))
 have y2:=upT y1 (nf _ _ _ _ (by decide +kernel)) (nf _ _ _ _ (by decide +kernel)) (nf _ _ _ _ (by decide +kernel))
 have z1:=sum1_x x2 (nf _ _ _ _ (by decide +kernel)) (t:=⟨5,"+".toUTF8,0,43⟩) (tk _ _ (by decide +kernel)) y2 (by decide) (nf _ _ _ _ (by decide +kernel))
 have z2:=upE z1 (nf _ _ _ _ (by decide +kernel)) (nf _ _ _ _ (by decide +kernel)) (nf _ _ _ _ (by decide +kernel)) (nf _ _ _ _ (by decide +kernel))
 have s2:=stmt_ret (K:=K) (p:=14) (nf _ _ _ _ (by decide +kernel)) (t:=⟨2,"return".toUTF8,0,34⟩) (t3:=⟨5,";".toUTF8,0,46⟩) (tk _ _ (by decide +kernel)) (by decide +kernel) z2 (nf _ _ _ _ (by decide +kernel)) (tk _ _ (by decide +kernel)) (by decide)
 exact block2_x (K:=K) (p:=5) (ns:=[]) (nf _ _ _ _ (by decide +kernel)) (t:=⟨5,"{".toUTF8,0,13⟩) (t2:=⟨5,"}".toUTF8,0,48⟩) (tk _ _ (by decide +kernel)) (nf _ _ _ _ (by decide +kernel)) s1 (nf _ _ _ _ (by decide +kernel)) s2 (nf _ _ _ _ (by decide +kernel)) (tk _ _ (by decide +kernel)) (by decide)
end
end
section
structure SmallEv (p:ProgD):Prop where
 nodes:p.nodes.length≤700
 funcs:p.funcs.length≤40
 kids:∀ n∈p.nodes,n.kids.length≤100∧n.keys.length≤100∧n.text.size≤1000∧∀ k∈n.keys,k.size≤1000
 params:∀ f∈p.funcs,f.params.length≤100∧f.name.size≤1000∧∀ k∈f.params,k.size≤1000
theorem SmallEv.ok {p:ProgD} (h:SmallEv p):ProgOk p :=
 ⟨⟨by have:=h.nodes;omega,fun n hn=>by have:=h.kids n hn;omega,fun n hn=>⟨by have:=h.kids n hn;omega,fun k hk=>by have:=(h.kids n hn).2.2.2 k hk;omega⟩⟩,by have:=h.funcs;omega,fun f hf=>⟨by have:=h.params f hf;omega,by have:=h.params f hf;omega,fun k hk=>by have:=(h.params f hf).2.2 k hk;omega⟩⟩
theorem SynOk.tree {p:ProgD} (h:SynOk p) {k:Nat} (hk:k<p.nodes.length):∃ f s,Tree p.nodes f k s:=by
 have key:∀ m,m≤p.funcs.length→∀ j,j<startF p.funcs m→∃ s,firstF p.nodes 600 j=some s:=by
  intro m
  induction m with
  | zero=>intro _ j hj;simp [startF] at hj
  | succ m ih =>
   intro hm j hj
   obtain ⟨b,hb,hs1,hs2⟩:=h.func (k:=m) (by omega)
   by_cases hjm:j<startF p.funcs m
   ·exact ih (by omega) j hjm
   ·obtain ⟨s',h1,_⟩:=firstF_all 600 b _ hb.first j (by omega) (by omega)
    exact ⟨s',h1⟩
 obtain ⟨s,hs⟩:=key p.funcs.length (Nat.le_refl _) k (by rw [← h.fin];exact hk)
 exact ⟨599,s,first_tree hs⟩
theorem SynOk.node {p:ProgD} (h:SynOk p) {n:NodeD} (hn:n∈p.nodes):countB n=true∧fieldsB n=true∧∀ k∈n.kids,0≤k∧k<(p.nodes.length:Int):=by
 obtain ⟨i,hi,e⟩:=mem_get hn
 obtain ⟨f,s,T⟩:=h.tree hi
 have e2:p.nodes.getD i noNode=n:=by rw [getD_at hi,e]
 have hat:p.at_ i=n:=e2
 have hc:=T.count
 have hf:=T.fields
 rw [e2] at hc hf
 refine ⟨hc,hf,fun k hk=>?_⟩
 obtain ⟨j,_,_,h1,h2,_⟩:=T.kid (k:=k) (by rw [hat];exact hk)
 omega
theorem evH_of {w0:World} {S:ProgS} {answers:List AnsD} {gx:Nat} {sA lA aA:Option Addr} {sc lc ac:Nat} (hS:ProgV w0 S) (he:(studyF S.p).err=0) (hsm:SmallEv S.p) (hsl:SlAt w0 sA 1 intS (studyF S.p).slots) (han:AnsV w0 (.slice aA answers.length ac) answers) (hp:Pow w0) (hml:MaxL w0) (hse:Sent w0) (hao:∀ a∈answers,OkV a.value) (hal:answers.length≤40) :
  EvH w0 ⟨gx,S,sA,sc,lA,lc,aA,ac⟩ (ctxF S.p answers):=by
 obtain ⟨hsy,e1,e2,_⟩:=study_ok he
 obtain ⟨q1,_,q3,q4⟩:=hsy.step _ (Nat.le_refl _)
 refine ⟨rfl,hS,hsl,han,hp,hml,hse,hsy.nodes,hsy.funcs,?_,?_,?_,hao,hal,?_,?_,?_,?_⟩
 ·show (studyF S.p).slots.length=_;rw [e1];exact q1
 ·show (studyF S.p).locals.length=_;rw [e2];exact q3
 ·show ∀ x∈(studyF S.p).locals,_;rw [e2];exact q4
 ·intro n hn
  obtain ⟨_,_,h3⟩:=hsy.node hn
  have:=hsm.kids n hn
  exact ⟨by omega,by omega,h3,this.2.2.1,this.2.2.2⟩
 ·exact fun n hn=>(hsy.node hn).1
 ·exact fun n hn=>(hsy.node hn).2.1
 ·intro f hf
  have hf':f∈S.p.funcs:=hf
  obtain ⟨i,hi,e⟩:=mem_get hf'
  obtain ⟨b,hb,_,_⟩:=hsy.func hi
  rw [e] at hb
  have:=hb.lt
  rw [hb.body]
  show 0≤(b:Int)∧(b:Int)<(S.p.nodes.length:Int)
  omega
attribute [local go_sem] cell_alloc_is
theorem run1_h (n:ByteArray) (kA:Option Addr) (m kc:Nat) (body:Int) (w:World):Calls Tryz.prog 70 #[.agg #[.string n,.slice kA m kc,.int .i64 body]] w fun e w'=>e=.returned (.bool (decide (n=mainS)))∧Below w.heap.size w w':=by
 rw [← beq_bytes]
 have HB:=hZz (below_new w (.cells #[.string n,.slice kA m kc,.int .i64 body] 89))
 unfold mainS
 go_enter Tryz.func70,Tryz.ntmps70
 go_wp2
 all_goals (go_returns;exact ⟨by first | rfl | simp_all,HB.out⟩)
theorem main_h (S:ProgS) (w0 w:World) (hS:ProgV w0 S) (hb:Below w0.heap.size w0 w) (hl:S.p.funcs.length≤10000):Calls Tryz.prog 69 #[.slice S.B S.p.funcs.length S.fcap,.func (.func 70) #[] #[]] w fun e w'=>e=.returned (.int .i64 (findF S.p mainS))∧Below w.heap.size w w':=by
 have hent:∀ args w,(callFunc 70 args).run Tryz.prog w=.ok (.enter 70 args) w:=enters_of Tryz.func70 (by kernel_rfl) rfl
 rw [findF_idx]
 exact indexF_any S.p.funcs S.B S.fcap 70 #[] (fun f=>decide (f.name=mainS)) w0 w hS.funcs hb hl hent (fun k hk wx kA kc hb=>run1_h _ kA _ kc _ wx)
end
section
def CntR {α:Type} (A:Nat) (R:(α × Option SigD) × EvS):Prop:=(R.1.2=some .wait∧R.2.reqs.length=A+1)∨(R.1.2≠some .wait∧R.2.reqs.length≤A)
def CntN (A:Nat) (N:EvN):Prop:=∀ i s R,s.reqs.length≤A→N i s=some R→CntR A R
theorem CntR.none {α:Type} {A:Nat} {x:α} {t:EvS} (h:CntR A ((x,Option.none),t)):t.reqs.length≤A:=by
 rcases h with ⟨e,_⟩ | ⟨_,h⟩
 ·cases e
 ·exact h
theorem CntR.mk {α:Type} {A:Nat} {x:α} {g:Option SigD} {t:EvS} (h:t.reqs.length≤A) (hg:g≠some .wait):CntR A ((x,g),t):=.inr ⟨hg,h⟩
theorem CntR.val {α β:Type} {A:Nat} {x:α} {g:Option SigD} {t:EvS} (h:CntR A ((x,g),t)) (y:β):CntR A ((y,g),t):=h
theorem outF_wait {r:ResD}:(outF r).2≠some .wait:=by
 unfold outF
 split
 ·intro h;injection h with h;cases h
 ·intro h;cases h
theorem nw_fail {e:Int}:(some (SigD.fail e))≠some .wait:=fun h=>by injection h with h;cases h
theorem nw_ret {v:ValD}:(some (SigD.ret v))≠some .wait:=fun h=>by injection h with h;cases h
theorem nw_none:(none:Option SigD)≠some .wait:=fun h=>by cases h
section
variable {A:Nat} {N:EvN} (hN:CntN A N)
include hN
theorem cnt_all:∀ (r:List Int) (out:List ValD) (s:EvS) (R),s.reqs.length≤A→allF N r out s=some R→CntR A R:=by
 intro r
 induction r with
 | nil=>intro out s R hs h;simp only [allF] at h;cases h;exact .mk hs nw_none
 | cons k r ih =>
  intro out s R hs h
  simp only [allF] at h
  cases hR:N k.toNat s with
  | none=>rw [hR] at h;cases h
  | some Q =>
   obtain ⟨⟨v,g⟩,t⟩:=Q
   rw [hR] at h
   have hd:=hN _ _ _ hs hR
   cases g with
   | none=>exact ih _ _ _ hd.none h
   | some g=>cases h;exact hd.val _
theorem cnt_cond {k:Nat} {s:EvS} {R} (hs:s.reqs.length≤A) (h:condF N k s=some R):CntR A R:=by
 unfold condF at h
 cases hR:N k s with
 | none=>rw [hR] at h;cases h
 | some Q =>
  obtain ⟨⟨v,g⟩,t⟩:=Q
  rw [hR] at h
  have hd:=hN _ _ _ hs hR
  cases g with
  | some g=>cases h;exact hd.val _
  | none =>
   cases v with
   | nil=>cases h
   | cons c r =>
    simp only at h
    split at h
    ·cases h;exact .mk hd.none nw_none
    ·cases h;exact .mk hd.none nw_fail
theorem cnt_bool {k:Nat} {s:EvS} {R} (hs:s.reqs.length≤A) (h:boolF (condF N k s)=some R):CntR A R:=by
 cases hR:condF N k s with
 | none=>rw [hR] at h;cases h
 | some Q =>
  obtain ⟨⟨v,g⟩,t⟩:=Q
  rw [hR] at h
  have hd:=cnt_cond hN hs hR
  cases g with
  | some g=>cases h;exact hd.val _
  | none=>cases h;exact hd.val _
theorem cnt_both {n:NodeD} {s:EvS} {R} (hs:s.reqs.length≤A) (h:bothF N n s=some R):CntR A R:=by
 unfold bothF at h
 cases hR:condF N (kidN n 0) s with
 | none=>rw [hR] at h;cases h
 | some Q =>
  obtain ⟨⟨v,g⟩,t⟩:=Q
  rw [hR] at h
  have hd:=cnt_cond hN hs hR
  cases g with
  | some g=>cases h;exact hd.val _
  | none =>
   simp only at h
   split at h
   ·exact cnt_bool hN hd.none h
   ·cases h;exact hd.val _
theorem cnt_drop {k:Nat} {s:EvS} {R} (hs:s.reqs.length≤A) (h:dropF (N k s)=some R):CntR A R:=by
 cases hR:N k s with
 | none=>rw [hR] at h;cases h
 | some Q =>
  obtain ⟨⟨v,g⟩,t⟩:=Q
  rw [hR] at h
  cases h
  exact (hN _ _ _ hs hR).val _
theorem cnt_choose {n:NodeD} {s:EvS} {R} (hs:s.reqs.length≤A) (h:chooseF N n s=some R):CntR A R:=by
 unfold chooseF at h
 cases hR:condF N (kidN n 0) s with
 | none=>rw [hR] at h;cases h
 | some Q =>
  obtain ⟨⟨v,g⟩,t⟩:=Q
  rw [hR] at h
  have hd:=cnt_cond hN hs hR
  cases g with
  | some g=>cases h;exact hd.val _
  | none =>
   cases v with
   | true=>exact cnt_drop hN hd.none h
   | false =>
    simp only at h
    split at h
    ·exact cnt_drop hN hd.none h
    ·cases h;exact hd.val _
theorem cnt_loop {n:NodeD}:∀ (j:Nat) (s:EvS) (R),s.reqs.length≤A→loopF N n j s=some R→CntR A R:=by
 intro j
 induction j with
 | zero=>intro s R hs h;simp only [loopF] at h;cases h;exact .mk hs nw_fail
 | succ j ih =>
  intro s R hs h
  simp only [loopF] at h
  cases hR:condF N (kidN n 0) s with
  | none=>rw [hR] at h;cases h
  | some Q =>
   obtain ⟨⟨v,g⟩,t⟩:=Q
   rw [hR] at h
   have hd:=cnt_cond hN hs hR
   cases g with
   | some g=>cases h;exact hd.val _
   | none =>
    cases v with
    | false=>cases h;exact hd.val _
    | true =>
     simp only at h
     cases hQ:N (kidN n 1) t with
     | none=>rw [hQ] at h;cases h
     | some Q =>
      obtain ⟨⟨v,g⟩,u⟩:=Q
      rw [hQ] at h
      have hq:=hN _ _ _ hd.none hQ
      cases g with
      | some g=>cases h;exact hq.val _
      | none=>exact ih _ _ hq.none h
end
theorem cnt_ask (C:EvC) (op:ByteArray) (args:List ValD) (s:EvS) (hs:s.reqs.length≤C.answers.length):CntR C.answers.length (askF C op args s):=by
 unfold askF
 split
 ·exact .mk hs nw_fail
 ·split
  ·rename_i h
   have:=List.getElem?_eq_none_iff.1 h
   exact .inl ⟨rfl,by simp;omega⟩
  ·rename_i a h
   have hl:=(List.getElem?_eq_some_iff.1 h).1
   have hl2:({ s with reqs:=s.reqs ++ [⟨op,args⟩] }:EvS).reqs.length≤C.answers.length:=by simp;omega
   split
   ·exact .mk hl2 nw_fail
   ·split
    ·exact .mk hl2 nw_fail
    ·exact .mk hl2 nw_none
section
variable {C:EvC} {N:Nat→EvN} (hN:∀ c,CntN C.answers.length (N c))
include hN
theorem cnt_call {c f:Nat} {args:List ValD} {s:EvS} {R} (hs:s.reqs.length≤C.answers.length) (h:callF C N c f args s=some R):CntR C.answers.length R:=by
 unfold callF at h
 split at h
 ·cases h;exact .mk hs nw_fail
 ·split at h
  ·rename_i fn L _ _
   cases ho:N (c+1) fn.body.toNat { s with vars:=varsF L.toNat args } with
   | none=>rw [ho] at h;cases h
   | some Q =>
    have hd:=hN _ _ _ _ (by simpa using hs) ho
    obtain ⟨⟨v,g⟩,t⟩:=Q
    rw [ho] at h
    cases g with
    | none=>cases h;exact .mk hd.none nw_none
    | some g =>
     cases g with
     | fail x=>cases h;exact hd
     | wait=>cases h;exact hd
     | ret v =>
      cases h
      rcases hd with ⟨e,_⟩ | ⟨_,h2⟩
      ·exact absurd e nw_ret
      ·exact .mk h2 nw_none
  ·cases h
theorem cnt_apply {c k:Nat} {n:NodeD} {l:List ValD} {s:EvS} {R} (hs:s.reqs.length≤C.answers.length) (h:applyF C N c k n l s=some R):CntR C.answers.length R:=by
 unfold applyF at h
 split at h
 ·cases h;exact .mk hs outF_wait
 split at h
 ·cases h;exact .mk hs outF_wait
 split at h
 ·cases h;exact .mk hs outF_wait
 split at h
 ·cases h;exact .mk hs outF_wait
 split at h
 ·cases h;exact .mk hs outF_wait
 split at h
 ·cases h;exact cnt_ask _ _ _ _ hs
 split at h
 ·unfold setF at h
  split at h
  ·cases h
  ·split at h
   ·cases h;exact .mk hs nw_none
   ·cases h
 split at h
 ·cases h;exact .mk hs nw_ret
 split at h
 ·split at h
  ·exact cnt_call hN hs h
  ·cases h;exact .mk hs outF_wait
 ·cases h;exact .mk hs nw_none
theorem cnt_step {g c k:Nat} {n:NodeD} {s:EvS} {R} (hs:s.reqs.length≤C.answers.length) (h:stepN C N g c k n s=some R):CntR C.answers.length R:=by
 unfold stepN at h
 split at h
 ·cases h;exact .mk hs nw_none
 split at h
 ·cases h;exact .mk hs nw_none
 split at h
 ·cases h;exact .mk hs outF_wait
 split at h
 ·cases h;exact .mk hs outF_wait
 split at h
 ·unfold varF at h
  split at h
  ·cases h
  ·split at h
   ·cases h;exact .mk hs nw_none
   ·cases h
 split at h
 ·exact cnt_choose (hN c) hs h
 split at h
 ·exact cnt_loop (hN c) _ _ _ hs h
 split at h
 ·exact cnt_both (hN c) hs h
 unfold thenF at h
 split at h
 ·cases h
 ·rename_i g t hR
  cases h
  exact (cnt_all (hN c) _ _ _ _ hs hR).val _
 ·rename_i l t hR
  exact cnt_apply hN (cnt_all (hN c) _ _ _ _ hs hR).none h
end
theorem cnt_node (C:EvC):∀ g c,CntN C.answers.length (nodeE C g c):=by
 intro g
 induction g with
 | zero=>intro c i s R hs h;simp only [nodeE] at h;cases h;exact .mk hs nw_fail
 | succ g ih =>
  intro c i s R hs h
  simp only [nodeE] at h
  split at h
  ·cases h;exact .mk hs nw_fail
  ·split at h
   ·cases h
   ·exact cnt_step ih (by simpa using hs) h
end
section
theorem fin_reqs {R:(ValD × Option SigD) × EvS} {o:OutD} (h:finF (some R)=some o):o.requests=R.2.reqs∧(o.done=false↔R.1.2=some .wait):=by
 obtain ⟨⟨v,g⟩,t⟩:=R
 cases g with
 | none=>cases h;exact ⟨rfl,by simp⟩
 | some g=>cases g <;> (cases h;exact ⟨rfl,by simp⟩)
theorem fin_some (R:(ValD × Option SigD) × EvS):∃ o,finF (some R)=some o:=by
 obtain ⟨⟨v,g⟩,t⟩:=R
 cases g with
 | none=>exact ⟨_,rfl⟩
 | some g=>cases g <;> exact ⟨_,rfl⟩
theorem answers_law {p:ProgD} (h:(studyF p).err=0) {event:ValD} (he:checkF event=0) (answers:List AnsD) {k:Nat} (hk:k≤answers.length) (fuel:Nat) {a b:OutD} (ha:mainF p event (answers.take k) fuel=some a) (hb:mainF p event answers fuel=some b) :
  (a.done=true→a=b)∧(a.done=false→a.requests.length=k+1∧a.requests <+: b.requests∧(b.done=false→b.requests.length=answers.length+1)):=by
 obtain ⟨R,hR,_⟩:=main_some h he (answers.take k) fuel
 obtain ⟨R',hR',_⟩:=main_some h he answers fuel
 unfold mainF at ha hb
 rw [hR] at ha
 rw [hR'] at hb
 have hC:MoreC (fun g=>g=SigD.wait) (ctxF p (answers.take k)) (ctxF p answers):=⟨rfl,rfl,rfl,answers.drop k,by simp [ctxF],fun _=>rfl⟩
 have e:(⟨fuel,[],[event]⟩:EvS)=up 0 ⟨fuel,[],[event]⟩:=rfl
 have hc1:=cnt_call (fun c=>cnt_node (ctxF p (answers.take k)) fuel c) (by simp) hR
 have hc2:=cnt_call (fun c=>cnt_node (ctxF p answers) fuel c) (by simp) hR'
 have hl:(ctxF p (answers.take k)).answers.length=k:=by show (answers.take k).length=k;rw [List.length_take];omega
 rw [hl] at hc1
 obtain ⟨a1,a2⟩:=fin_reqs ha
 obtain ⟨b1,b2⟩:=fin_reqs hb
 rw [e] at hR'
 have hs:=sim_call hC (fun v h=>by cases h) (fun c=>sim_node (d:=0) hC (fun v h=>by cases h) (fun h=>absurd rfl h) fuel fuel c) (by simp) (by simp) hR hR'
 refine ⟨fun hd=>?_,fun hd=>?_⟩
 ·rcases hs with e | ⟨g,e1,rfl,e3⟩
  ·subst e
   obtain ⟨⟨v,g⟩,t⟩:=R
   cases g with
   | none=>cases ha;cases hb;rfl
   | some g=>cases g <;> (cases ha;cases hb;rfl)
  ·have:=a2.2 e1
   rw [hd] at this
   cases this
 ·have hw:=a2.1 hd
  refine ⟨?_,?_,fun hd2=>?_⟩
  ·rw [a1]
   rcases hc1 with ⟨_,h⟩ | ⟨h,_⟩
   ·exact h
   ·exact absurd hw h
  ·rw [a1,b1]
   rcases hs with e | ⟨g,e1,_,e3⟩
   ·subst e;exact List.prefix_refl _
   ·exact e3
  ·rw [b1]
   rcases hc2 with ⟨_,h⟩ | ⟨h,_⟩
   ·exact h
   ·exact absurd (b2.1 hd2) h
end
end Go.Proofs.YtekdhlfapejijaaGreatDoor
