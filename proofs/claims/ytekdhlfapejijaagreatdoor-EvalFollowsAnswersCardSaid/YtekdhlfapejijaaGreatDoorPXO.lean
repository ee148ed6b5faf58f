/- XL, XM, XN, XO -/
import Derived.Test.YtekdhlfapejijaaGreatDoorPXK
set_option linter.unusedVariables false
set_option linter.unusedSimpArgs false
namespace Go.Proofs.YtekdhlfapejijaaGreatDoor
open Go.RowKit
set_option maxRecDepth 100000
section
theorem own_lit (w:World) (xs:List Value) (e:TypeId) {base:Nat} (hb:base≤w.heap.size) (hl:xs.length≤1000):(w.alloc (.cells xs.toArray e)).ownsRow base e 1 (.slice (some ⟨w.heap.size,0,none⟩) xs.length xs.length) xs.length xs :=
 ⟨by simp,.inr ⟨_,_,xs.toArray,rfl,hb,Blk.new w e xs.toArray,Nat.le_refl _,(by unfold maxLen;omega),by simp,by simp⟩⟩
section
variable {K:ParC} {p:Nat} {ns:List NodeD} {v p':Nat} {ns':List NodeD}
attribute [local go_sem] cell_alloc_is
set_option maxHeartbeats 4000000 in
theorem chain1_term (k:Int) (l:List ByteArray) (hp:ParsP K 306 p ns v p' ns') (hy:nextF K.ts p' k l=true) {t:Tok} (ht:K.ts[p']? = some t) {v2 p2:Nat} {ns2:List NodeD} (hp2:ParsP K 306 (p' + 1) ns' v2 p2 ns2) (hl:ns2.length≤600) (hn:nextF K.ts p2 k l=false) (F:List Nat) (w:World) (h:PXK K F w p ns) (tx:Value) (hx:TxV w tx l) (hk:∀ b,tx.ownBlock=some b→b≠K.gp) :
  Calls Tryz.prog 268 #[.pointer (some ⟨K.gp,0,none⟩),.func (.func 306) #[.pointer (some ⟨K.gp,0,none⟩)] #[],.int .i64 k,tx] w (ParsR K F w ns2.length p2 (ns2 ++ [nodE 9 t.text 0 [(v:Int),(v2:Int)]])):=by
 obtain ⟨P,hP⟩:∃ P:Ending→World→Prop,ParsR K F w ns2.length p2 (ns2 ++ [nodE 9 t.text 0 [(v:Int),(v2:Int)]])=P:=⟨_,rfl⟩
 rw [hP]
 have HP:=hZz hP
 have HQ:=hZz (hp F w h)
 have HT1:Hid (∀ wx,PXK K F wx p' ns'→TxV wx tx l→Calls Tryz.prog 185 #[.pointer (some ⟨K.gp,0,none⟩),.int .i64 k,tx] wx fun e w'=>e=.returned (.tuple #[t.val,.bool true])∧PXK K F w' (p' + 1) ns'∧KP K.gp wx w'):=hZz (fun wx h1 h2=>take_yes h1 k h2 hy ht)
 have HQ2:Hid (∀ wx,PXK K F wx (p' + 1) ns'→Calls Tryz.prog 306 #[.pointer (some ⟨K.gp,0,none⟩)] wx (ParsR K F wx v2 p2 ns2)):=hZz (fun wx h1=>hp2 F wx h1)
 have HT2:Hid (∀ wx,PXK K F wx p2 (ns2 ++ [nodE 9 t.text 0 [(v:Int),(v2:Int)]])→TxV wx tx l→Calls Tryz.prog 185 #[.pointer (some ⟨K.gp,0,none⟩),.int .i64 k,tx] wx fun e w'=>e=.returned (.tuple #[zTokV,.bool false])∧Below wx.heap.size wx w'):=hZz (fun wx h1 h2=>take_no h1 k h2 hn)
 have HX:=hZz hx
 have HNE:=hZz hk
 have HFB:=hZz h.fb
 clear hP hp hy ht hp2 hn h hx hk
 go_enter Tryz.func268,Tryz.ntmps268
 go_wp2_with (first
  | (go_at_call 306;(refine HQ.out.mono ?_);rintro e w1 ⟨rfl,hx1,hk1⟩;have HX1:=hZz hx1;have HK1:=hZz hk1;have HTX:=hZz (HX.out.kp hk1 HNE.out);clear hx1 hk1))
 refine wp_loop_rounds 2 ?_
 rw [rounds_succ]
 go_wp2_with (first
  | (go_at_call 185;(refine (HT1.out _ HX1.out HTX.out).mono ?_);rintro e w2 ⟨rfl,hx1,hk1⟩;have HX2:=hZz (hx1.below (below_new w2 (.cells #[.int .i64 t.kind,.string t.text,.int .i64 t.int,.int .i64 (t.at_:Int)] 161)));have hkk:KP K.gp w1 (w2.alloc (.cells #[.int .i64 t.kind,.string t.text,.int .i64 t.int,.int .i64 (t.at_:Int)] 161)):=(hk1.trans (KP.of_below (below_new w2 _)));have HK2:=hZz (HK1.out.trans hkk);have HTX2:=hZz (HTX.out.kp hkk HNE.out);have HBT:Hid (Blk (w2.alloc (.cells #[.int .i64 t.kind,.string t.text,.int .i64 t.int,.int .i64 (t.at_:Int)] 161)) w2.heap.size 161 #[.int .i64 t.kind,.string t.text,.int .i64 t.int,.int .i64 (t.at_:Int)]):=hZz (Blk.new _ _ _);clear hx1 hk1 hkk HT1;unfold Tok.val)
  | (go_at_call 306;(refine (HQ2.out _ HX2.out).mono ?_);rintro e w3 ⟨rfl,hx1,hk1⟩;have HX3:=hZz (hx1.below (below_new w3 (.cells #[.int .i64 (v:Int),.int .i64 (v2:Int)] 3)));have hkk:KP K.gp (w2.alloc (.cells #[.int .i64 t.kind,.string t.text,.int .i64 t.int,.int .i64 (t.at_:Int)] 161)) (w3.alloc (.cells #[.int .i64 (v:Int),.int .i64 (v2:Int)] 3)):=(hk1.trans (KP.of_below (below_new w3 _)));have HK3:=hZz (HK2.out.trans hkk);have HTX3:=hZz (HTX2.out.kp hkk HNE.out);have o3:=(hk1.blk HBT.out (HX2.out.ne HBT.out (by decide)) (by decide) (by decide)).cell 1 _ rfl;have HO3:Hid ((w3.alloc (.cells #[.int .i64 (v:Int),.int .i64 (v2:Int)] 3)).ownsRow K.w0.heap.size 3 1 (.slice (some ⟨w3.heap.size,0,none⟩) 2 2) 2 [.int .i64 (v:Int),.int .i64 (v2:Int)]):=hZz (own_lit w3 [.int .i64 (v:Int),.int .i64 (v2:Int)] 3 hx1.ge (by simp));have HSZ:Hid (w.heap.size≤w3.heap.size):=hZz (Nat.le_trans HK2.out.size hk1.size);clear hx1 hk1 hkk HQ2)
  | (go_at_call 187;(refine (addK_x HX3.out hl 9 t.text 0 [(v:Int),(v2:Int)] HO3.out (fun g hg e=>by have h9:w3.heap.size=g:=Option.some.inj e;have:=HFB.out g hg;have:=HSZ.out;omega)).mono ?_);rintro e w4 ⟨rfl,hx1,hk1⟩;have HX4:=hZz hx1;have HK4:=hZz (HK3.out.trans hk1);have HTX4:=hZz (HTX3.out.kp hk1 HNE.out);clear hx1 hk1))
 rw [rounds_succ]
 go_wp2_with (first
  | (go_at_call 185;(refine (HT2.out _ HX4.out HTX4.out).mono ?_);rintro e w5 ⟨rfl,hb⟩;have HB:=hZz hb;clear hb;unfold zTokV))
 rw [← HP.out]
 exact ⟨rfl,HX4.out.below (below_call (below_new _ _) HB.out),HK4.out.trans (KP.of_below (below_call (below_new _ _) HB.out))⟩
set_option maxHeartbeats 4000000 in
theorem sum1_x (hp:ParsP K 306 p ns v p' ns') (hy:nextF K.ts p' 5 [⟨#[43]⟩,⟨#[45]⟩]=true) {t:Tok} (ht:K.ts[p']? = some t) {v2 p2:Nat} {ns2:List NodeD} (hp2:ParsP K 306 (p' + 1) ns' v2 p2 ns2) (hl:ns2.length≤600) (hn:nextF K.ts p2 5 [⟨#[43]⟩,⟨#[45]⟩]=false) :
  ParsP K 303 p ns ns2.length p2 (ns2 ++ [nodE 9 t.text 0 [(v:Int),(v2:Int)]]):=by
 intro F w h
 obtain ⟨P,hP⟩:∃ P:Ending→World→Prop,ParsR K F w ns2.length p2 (ns2 ++ [nodE 9 t.text 0 [(v:Int),(v2:Int)]])=P:=⟨_,rfl⟩
 rw [hP]
 have HP:=hZz hP
 have hlt:=h.lt
 have HQ:=hZz (chain1_term 5 [⟨#[43]⟩,⟨#[45]⟩] hp hy ht hp2 hl hn F _ (h.below (below_new w (.cells #[.string ⟨#[43]⟩,.string ⟨#[45]⟩] 9))) _ (TxV.two w ⟨#[43]⟩ ⟨#[45]⟩) (fun b hb=>by have hb':w.heap.size=b:=Option.some.inj hb;omega))
 clear hP hn hp hy ht hp2 h hlt
 go_enter Tryz.func303,Tryz.ntmps303
 go_wp2_with (first
  | (go_at_call 268;(refine HQ.out.mono ?_);rintro e w1 ⟨rfl,hx,hk⟩;have HX:=hZz hx;have HK:=hZz ((KP.of_below (below_new w _)).trans hk);clear hx hk))
 rw [← HP.out]
 exact ⟨rfl,HX.out,HK.out⟩
end
end
section
def stL:List ByteArray:=[⟨#[108,101,116]⟩,⟨#[105,102]⟩,⟨#[119,104,105,108,101]⟩,⟨#[114,101,116,117,114,110]⟩]
theorem TxV.st (w:World):TxV (w.alloc (.cells #[.string ⟨#[108,101,116]⟩,.string ⟨#[105,102]⟩,.string ⟨#[119,104,105,108,101]⟩,.string ⟨#[114,101,116,117,114,110]⟩] 9)) (.slice (some ⟨w.heap.size,0,none⟩) 4 4) stL:=TxV.new w stL (by decide) (by decide)
section
variable {K:ParC} {p:Nat} {ns:List NodeD} {v p':Nat} {ns':List NodeD}
attribute [local go_sem] cell_alloc_is
set_option maxHeartbeats 4000000 in
theorem value_x (he:ParsP K 240 p ns v p' ns') (hy:nextF K.ts p' 5 [⟨#[59]⟩]=true) {t:Tok} (ht:K.ts[p']? = some t) {F:List Nat} {w:World} (h:PXK K F w p ns) :
  Calls Tryz.prog 238 #[.pointer (some ⟨K.gp,0,none⟩)] w (ExprsR K F w [(v:Int)] (p' + 1) ns'):=by
 obtain ⟨P,hP⟩:∃ P:Ending→World→Prop,ExprsR K F w [(v:Int)] (p' + 1) ns'=P:=⟨_,rfl⟩
 rw [hP]
 have HP:=hZz hP
 have HE:=hZz (he F w h)
 have HM:Hid (∀ wx tx,PXK K F wx p' ns'→TxV wx tx [⟨#[59]⟩]→Calls Tryz.prog 126 #[.pointer (some ⟨K.gp,0,none⟩),.int .i64 5,tx] wx fun e w'=>e=.returned t.val∧PXK K F w' (p' + 1) ns'∧KP K.gp wx w'):=hZz (fun wx tx h1 h2=>must_x h1 5 h2 hy ht)
 have HFB:=hZz h.fb
 clear hP he hy ht h
 go_enter Tryz.func238,Tryz.ntmps238
 go_wp2_with (first
  | (go_at_call 240;(refine HE.out.mono ?_);rintro e w1 ⟨rfl,hx1,hk1⟩;have HX1:=hZz hx1;have HK1:=hZz hk1;have HTX:=hZz (TxV.one w1 ⟨#[59]⟩);clear hx1 hk1)
  | (go_at_call 126;(refine (HM.out _ _ (HX1.out.below (below_new _ _)) HTX.out).mono ?_);rintro e w2 ⟨rfl,hx1,hk1⟩;have HX2:=hZz hx1;have HK2:=hZz ((HK1.out.trans (KP.of_below (below_new w1 _))).trans hk1);clear hx1 hk1;unfold Tok.val))
 rw [← HP.out]
 exact ⟨_,rfl,HX2.out.below (below_new _ _),own_lit w2 [.int .i64 (v:Int)] 3 HX2.out.ge (by simp),fun g hg e=>by have h9:w2.heap.size=g:=Option.some.inj e;have:=HFB.out g hg;have:=HK2.out.size;omega,HK2.out.trans (KP.of_below (below_new _ _))⟩
set_option maxHeartbeats 4000000 in
theorem stmt_let (hy1:nextF K.ts p 2 stL=true) {t t1 t2 t3:Tok} (ht:K.ts[p]? = some t) (htl:(t.text.toList == [108,101,116])=true) (hy2:nextF K.ts (p+1) 1 []=true) (ht1:K.ts[p+1]? = some t1) (hy3:nextF K.ts (p+1+1) 5 [⟨#[61]⟩]=true) (ht2:K.ts[p+1+1]? = some t2)
  (he:ParsP K 240 (p+1+1+1) ns v p' ns') (hy4:nextF K.ts p' 5 [⟨#[59]⟩]=true) (ht3:K.ts[p']? = some t3) (hl:ns'.length≤600) :
  ParsP K 188 p ns ns'.length (p' + 1) (ns' ++ [nodE 13 t1.text 0 [(v:Int)]]):=by
 intro F w h
 obtain ⟨P,hP⟩:∃ P:Ending→World→Prop,ParsR K F w ns'.length (p' + 1) (ns' ++ [nodE 13 t1.text 0 [(v:Int)]])=P:=⟨_,rfl⟩
 rw [hP]
 have HP:=hZz hP
 have HT:=hZz (take_yes (h.below (below_new w (.cells #[.string ⟨#[108,101,116]⟩,.string ⟨#[105,102]⟩,.string ⟨#[119,104,105,108,101]⟩,.string ⟨#[114,101,116,117,114,110]⟩] 9))) 2 (TxV.st w) hy1 ht)
 have HM1:Hid (∀ wx tx,PXK K F wx (p+1) ns→TxV wx tx []→Calls Tryz.prog 126 #[.pointer (some ⟨K.gp,0,none⟩),.int .i64 1,tx] wx fun e w'=>e=.returned t1.val∧PXK K F w' (p+1+1) ns∧KP K.gp wx w'):=hZz (fun wx tx h1 h2=>must_x h1 1 h2 hy2 ht1)
 have HM2:Hid (∀ wx tx,PXK K F wx (p+1+1) ns→TxV wx tx [⟨#[61]⟩]→Calls Tryz.prog 126 #[.pointer (some ⟨K.gp,0,none⟩),.int .i64 5,tx] wx fun e w'=>e=.returned t2.val∧PXK K F w' (p+1+1+1) ns∧KP K.gp wx w'):=hZz (fun wx tx h1 h2=>must_x h1 5 h2 hy3 ht2)
 have HV:Hid (∀ wx,PXK K F wx (p+1+1+1) ns→Calls Tryz.prog 238 #[.pointer (some ⟨K.gp,0,none⟩)] wx (ExprsR K F wx [(v:Int)] (p' + 1) ns')):=hZz (fun wx h1=>value_x he hy4 ht3 h1)
 clear hP hy1 ht hy2 ht1 hy3 ht2 he hy4 ht3 h
 go_enter Tryz.func188,Tryz.ntmps188
 go_wp2_with (first
  | (go_at_call 185;(refine HT.out.mono ?_);rintro e w1 ⟨rfl,hx1,hk1⟩;have HX1:=hZz (hx1.below (below_new w1 (.cells #[.int .i64 t.kind,.string t.text,.int .i64 t.int,.int .i64 (t.at_:Int)] 161)));have HK1:=hZz (((KP.of_below (below_new w _)).trans hk1).trans (KP.of_below (below_new w1 (.cells #[.int .i64 t.kind,.string t.text,.int .i64 t.int,.int .i64 (t.at_:Int)] 161))));clear hx1 hk1 HT;unfold Tok.val)
  | (go_at_call 126;(refine (HM1.out _ _ HX1.out (TxV.nil _)).mono ?_);rintro e w2 ⟨rfl,hx1,hk1⟩;have HX2:=hZz hx1;have HK2:=hZz (HK1.out.trans hk1);have HTX:=hZz (TxV.one w2 ⟨#[61]⟩);clear hx1 hk1 HM1;unfold Tok.val))
 rename_i K1 hK1
 refine hK1 (Act.put _ _ (.string t1.text)) _ ?_
 clear hK1 K1
 go_wp2_with (first
  | (go_at_call 126;(refine (HM2.out _ _ (HX2.out.below (below_new _ _)) HTX.out).mono ?_);rintro e w3 ⟨rfl,hx1,hk1⟩;have HX3:=hZz hx1;have HK3:=hZz ((HK2.out.trans (KP.of_below (below_new w2 _))).trans hk1);clear hx1 hk1 HM2 HTX;unfold Tok.val)
  | (go_at_call 238;(refine (HV.out _ HX3.out).mono ?_);rintro e w4 ⟨u,rfl,hx,hu,hf,hk⟩;obtain ⟨uA,uc,rfl⟩:=own_shape hu;have HX4:=hZz hx;have HU:=hZz hu;have HF:=hZz hf;have HK4:=hZz (HK3.out.trans hk);clear hx hu hf hk)
  | (go_at_call 187;(refine (addK_x HX4.out hl 13 t1.text 0 [(v:Int)] HU.out HF.out).mono ?_);rintro e w5 ⟨rfl,hx1,hk1⟩;have HX5:=hZz hx1;have HK5:=hZz (HK4.out.trans hk1);clear hx1 hk1))
 rw [← HP.out]
 exact ⟨rfl,HX5.out,HK5.out⟩
set_option maxHeartbeats 4000000 in
theorem stmt_ret (hy1:nextF K.ts p 2 stL=true) {t t3:Tok} (ht:K.ts[p]? = some t) (htl:(t.text.toList == [108,101,116])=false∧(t.text.toList == [105,102])=false∧(t.text.toList == [119,104,105,108,101])=false)
  (he:ParsP K 240 (p+1) ns v p' ns') (hy4:nextF K.ts p' 5 [⟨#[59]⟩]=true) (ht3:K.ts[p']? = some t3) (hl:ns'.length≤600) :
  ParsP K 188 p ns ns'.length (p' + 1) (ns' ++ [nodE 17 ⟨#[]⟩ 0 [(v:Int)]]):=by
 intro F w h
 obtain ⟨P,hP⟩:∃ P:Ending→World→Prop,ParsR K F w ns'.length (p' + 1) (ns' ++ [nodE 17 ⟨#[]⟩ 0 [(v:Int)]])=P:=⟨_,rfl⟩
 rw [hP]
 have HP:=hZz hP
 have HT:=hZz (take_yes (h.below (below_new w (.cells #[.string ⟨#[108,101,116]⟩,.string ⟨#[105,102]⟩,.string ⟨#[119,104,105,108,101]⟩,.string ⟨#[114,101,116,117,114,110]⟩] 9))) 2 (TxV.st w) hy1 ht)
 have HV:Hid (∀ wx,PXK K F wx (p+1) ns→Calls Tryz.prog 238 #[.pointer (some ⟨K.gp,0,none⟩)] wx (ExprsR K F wx [(v:Int)] (p' + 1) ns')):=hZz (fun wx h1=>value_x he hy4 ht3 h1)
 obtain ⟨htl1,htl2,htl3⟩:=htl
 clear hP hy1 ht he hy4 ht3 h
 go_enter Tryz.func188,Tryz.ntmps188
 go_wp2_with (first
  | (go_at_call 185;(refine HT.out.mono ?_);rintro e w1 ⟨rfl,hx1,hk1⟩;have HX1:=hZz (hx1.below (below_new w1 (.cells #[.int .i64 t.kind,.string t.text,.int .i64 t.int,.int .i64 (t.at_:Int)] 161)));have HK1:=hZz (((KP.of_below (below_new w _)).trans hk1).trans (KP.of_below (below_new w1 (.cells #[.int .i64 t.kind,.string t.text,.int .i64 t.int,.int .i64 (t.at_:Int)] 161))));clear hx1 hk1 HT;unfold Tok.val)
  | (go_at_call 238;(refine (HV.out _ HX1.out).mono ?_);rintro e w4 ⟨u,rfl,hx,hu,hf,hk⟩;obtain ⟨uA,uc,rfl⟩:=own_shape hu;have HX4:=hZz hx;have HU:=hZz hu;have HF:=hZz hf;have HK4:=hZz (HK1.out.trans hk);clear hx hu hf hk)
  | (go_at_call 187;(refine (addK_x HX4.out hl 17 ⟨#[]⟩ 0 [(v:Int)] HU.out HF.out).mono ?_);rintro e w5 ⟨rfl,hx1,hk1⟩;have HX5:=hZz hx1;have HK5:=hZz (HK4.out.trans hk1);clear hx1 hk1))
 rw [← HP.out]
 exact ⟨rfl,HX5.out,HK5.out⟩
end
end
section
section
variable {K:ParC} {p:Nat} {ns:List NodeD} {v p':Nat} {ns':List NodeD}
theorem row_step {F:List Nat} {w w1 w6:World} {u:Value} {ks:List Int} {g6 cap6:Nat} (hx:PXK K (u.ownBlock.toList ++ F) w1 p ns) (ho:(w1.alloc (.cells #[.int .i64 (v:Int)] 3)).ownsRow K.w0.heap.size 3 1 u ks.length (ks.map (Value.int .i64))) (hk:KP K.gp w w1) (hun:∀ g,u.ownBlock=some g→w.heap.size≤g)
  (hgr:(w1.alloc (.cells #[.int .i64 (v:Int)] 3)).grownBy w6 u.ownBlock) (hgg:u.ownBlock=some g6∨g6=(w1.alloc (.cells #[.int .i64 (v:Int)] 3)).heap.size) (hlt:g6<w6.heap.size) :
  PXK K (g6 :: F) w6 p ns∧KP K.gp w w6∧w.heap.size≤g6:=by
 have hkn:KP K.gp w (w1.alloc (.cells #[.int .i64 (v:Int)] 3)):=hk.trans (KP.of_below (below_new w1 _))
 have hp6:=PX.grow (v':=.slice (some ⟨g6,0,none⟩) (ks.length+1) cap6) (hx.below (below_new w1 (.cells #[.int .i64 (v:Int)] 3))) ho hgr (fun g hg=>by
  have e:g6=g:=Option.some.inj hg
  rw [← e]
  rcases hgg with h | h
  ·exact .inl h
  ·exact .inr (by rw [h];exact Nat.le_refl _)) (fun g hg=>by
  have e:g6=g:=Option.some.inj hg
  rw [← e]
  exact hlt)
 refine ⟨hp6,hkn.rowN hgr hun,?_⟩
 rcases hgg with h | h
 ·exact hun _ h
 ·rw [h]
  exact hkn.size
attribute [local go_sem] cell_alloc_is
set_option maxHeartbeats 8000000 in
theorem block2_x (hy:nextF K.ts p 5 [⟨#[123]⟩]=true) {t t2:Tok} (ht:K.ts[p]? = some t) (hn1:nextF K.ts (p+1) 5 [⟨#[125]⟩]=false) {v1 p1:Nat} {ns1:List NodeD} (hs1:ParsP K 188 (p+1) ns v1 p1 ns1) (hn2:nextF K.ts p1 5 [⟨#[125]⟩]=false)
  {v2 p2:Nat} {ns2:List NodeD} (hs2:ParsP K 188 p1 ns1 v2 p2 ns2) (hy3:nextF K.ts p2 5 [⟨#[125]⟩]=true) (ht2:K.ts[p2]? = some t2) (hl:ns2.length≤600) :
  ParsP K 129 p ns ns2.length (p2+1) (ns2 ++ [nodE 19 ⟨#[]⟩ 0 [(v1:Int),(v2:Int)]]):=by
 intro F w h
 obtain ⟨i1,hj,hy0,hy1,hy2⟩:=info_parts Tryz.infoIntS
 obtain ⟨P,hP⟩:∃ P:Ending→World→Prop,ParsR K F w ns2.length (p2+1) (ns2 ++ [nodE 19 ⟨#[]⟩ 0 [(v1:Int),(v2:Int)]])=P:=⟨_,rfl⟩
 rw [hP]
 have HP:=hZz hP
 have HM:=hZz (must_x (h.below (below_new w (.cells #[.string ⟨#[123]⟩] 9))) 5 (TxV.one w ⟨#[123]⟩) hy ht)
 have HT1:Hid (∀ F wx tx,PXK K F wx (p+1) ns→TxV wx tx [⟨#[125]⟩]→Calls Tryz.prog 185 #[.pointer (some ⟨K.gp,0,none⟩),.int .i64 5,tx] wx fun e w'=>e=.returned (.tuple #[zTokV,.bool false])∧Below wx.heap.size wx w'):=hZz (fun F wx tx h1 h2=>take_no h1 5 h2 hn1)
 have HT2:Hid (∀ F wx tx,PXK K F wx p1 ns1→TxV wx tx [⟨#[125]⟩]→Calls Tryz.prog 185 #[.pointer (some ⟨K.gp,0,none⟩),.int .i64 5,tx] wx fun e w'=>e=.returned (.tuple #[zTokV,.bool false])∧Below wx.heap.size wx w'):=hZz (fun F wx tx h1 h2=>take_no h1 5 h2 hn2)
 have HT3:Hid (∀ F wx tx,PXK K F wx p2 ns2→TxV wx tx [⟨#[125]⟩]→Calls Tryz.prog 185 #[.pointer (some ⟨K.gp,0,none⟩),.int .i64 5,tx] wx fun e w'=>e=.returned (.tuple #[t2.val,.bool true])∧PXK K F w' (p2+1) ns2∧KP K.gp wx w'):=hZz (fun F wx tx h1 h2=>take_yes h1 5 h2 hy3 ht2)
 have HS1:Hid (∀ F wx,PXK K F wx (p+1) ns→Calls Tryz.prog 188 #[.pointer (some ⟨K.gp,0,none⟩)] wx (ParsR K F wx v1 p1 ns1)):=hZz hs1
 have HS2:Hid (∀ F wx,PXK K F wx p1 ns1→Calls Tryz.prog 188 #[.pointer (some ⟨K.gp,0,none⟩)] wx (ParsR K F wx v2 p2 ns2)):=hZz hs2
 have HFB:=hZz h.fb
 clear hP hy ht hn1 hs1 hn2 hs2 hy3 ht2 h
 go_enter Tryz.func129,Tryz.ntmps129
 go_wp2_with (first
  | (go_at_call 126;(refine HM.out.mono ?_);rintro e w1 ⟨rfl,hx1,hk1⟩;have HX1:=hZz hx1;have HK1:=hZz ((KP.of_below (below_new w _)).trans hk1);have HTX:=hZz (TxV.one w1 ⟨#[125]⟩);clear hx1 hk1;unfold Tok.val))
 refine wp_loop_rounds 3 ?_
 rw [rounds_succ]
 go_wp2_with (first
  | (go_at_call 185;(refine (HT1.out F _ _ (HX1.out.below (below_new _ _)) HTX.out).mono ?_);rintro e w2 ⟨rfl,hb⟩;have HB2:=hZz (below_call (below_new w2 (.cells #[.int .i64 0,.string ⟨#[]⟩,.int .i64 0,.int .i64 0] 161)) (below_call hb (below_new w1 _)));clear hb HT1 HTX;unfold zTokV)
  | (go_at_call 188;(refine (HS1.out F _ (HX1.out.below HB2.out)).mono ?_);rintro e w3 ⟨rfl,hx1,hk1⟩;have HX3:=hZz hx1;have HK3:=hZz ((HK1.out.trans (KP.of_below HB2.out)).trans hk1);have hsz:K.w0.heap.size≤(w3.alloc (.cells #[.int .i64 (v1:Int)] 3)).heap.size:=Nat.le_trans hx1.ge (by simp);clear hx1 hk1 HS1)
  | (at_builtin;refine wpList_append_lies _ rfl (.tmp 20) (.tmp 23) 85 rfl K.w0.heap.size 3 i1 _ 1 8 Tryz.underlying85 hj hy0 hy1 hy2 rfl (by omega) _ 0 [] rfl (World.ownsRow_nil _ _ _ _) ⟨w3.heap.size,0,none⟩ 1 1 [.int .i64 (v1:Int)] rfl rfl (cells_new w3 _ _) (by simp [Value.oneCell']) (by decide) (by unfold maxLen;omega) (by omega) hsz _ rfl ?_;intro g6 cap6 w4 hown6 hg6 hgg6 hlt6;have HRS:=hZz (row_step (F:=F) (u:=.slice none 0 0) (ks:=[]) (cap6:=cap6) HX3.out (World.ownsRow_nil _ _ _ _) HK3.out (fun g hg=>by cases hg) hg6 hgg6 hlt6);have HO4:=hZz hown6;clear hown6 hg6 hgg6 hlt6 hsz;have HTX4:=hZz (TxV.one w4 ⟨#[125]⟩)))
 rw [rounds_succ]
 go_wp2_with (first
  | (go_at_call 185;(refine (HT2.out (g6 :: F) _ _ (HRS.out.1.below (below_new _ _)) HTX4.out).mono ?_);rintro e w5 ⟨rfl,hb⟩;have HB5:=hZz (below_call (below_new w5 (.cells #[.int .i64 0,.string ⟨#[]⟩,.int .i64 0,.int .i64 0] 161)) (below_call hb (below_new w4 _)));clear hb HT2 HTX4;unfold zTokV)
  | (go_at_call 188;(refine (HS2.out (g6 :: F) _ (HRS.out.1.below HB5.out)).mono ?_);rintro e w6 ⟨rfl,hx1,hk1⟩;have HX6:=hZz hx1;have hk46:KP K.gp w4 w6:=(KP.of_below HB5.out).trans hk1;have HK6:=hZz (HRS.out.2.1.trans hk46);have HO6:Hid ((w6.alloc (.cells #[.int .i64 (v2:Int)] 3)).ownsRow K.w0.heap.size 3 1 (.slice (some ⟨g6,0,none⟩) 1 cap6) 1 [.int .i64 (v1:Int)]):=hZz (own_below (hk46.own HO4.out (fun g hg e=>by subst e;obtain ⟨_,cs,hB⟩:=own_blk HO4.out hg;exact HRS.out.1.ne hB (by decide) rfl) (by decide) (by decide)) (below_new w6 _));have hsz:K.w0.heap.size≤(w6.alloc (.cells #[.int .i64 (v2:Int)] 3)).heap.size:=Nat.le_trans hx1.ge (by simp);clear hx1 hk1 hk46 HS2)
  | (at_builtin;refine wpList_append_lies _ rfl (.tmp 20) (.tmp 23) 85 rfl K.w0.heap.size 3 i1 _ 1 8 Tryz.underlying85 hj hy0 hy1 hy2 rfl (by omega) _ 1 [.int .i64 (v1:Int)] rfl HO6.out ⟨w6.heap.size,0,none⟩ 1 1 [.int .i64 (v2:Int)] rfl rfl (cells_new w6 _ _) (by simp [Value.oneCell']) (by decide) (by unfold maxLen;omega) (by omega) hsz _ rfl ?_;intro g7 cap7 w7 hown6 hg6 hgg6 hlt6;have HRS7:=hZz (row_step (F:=F) (u:=.slice (some ⟨g6,0,none⟩) 1 cap6) (ks:=[(v1:Int)]) (cap6:=cap7) HX6.out HO6.out HK6.out (fun g hg=>by have h9:g6=g:=Option.some.inj hg;rw [← h9];exact HRS.out.2.2) hg6 hgg6 hlt6);have HO7:=hZz hown6;clear hown6 hg6 hgg6 hlt6 hsz;have HTX7:=hZz (TxV.one w7 ⟨#[125]⟩)))
 rw [rounds_succ]
 go_wp2_with (first
  | (go_at_call 185;(refine (HT3.out (g7 :: F) _ _ (HRS7.out.1.below (below_new _ _)) HTX7.out).mono ?_);rintro e w8 ⟨rfl,hx1,hk1⟩;have hk78:KP K.gp w7 (w8.alloc (.cells #[.int .i64 t2.kind,.string t2.text,.int .i64 t2.int,.int .i64 (t2.at_:Int)] 161)):=((KP.of_below (below_new w7 _)).trans hk1).trans (KP.of_below (below_new w8 _));have HX8:=hZz (hx1.below (below_new w8 (.cells #[.int .i64 t2.kind,.string t2.text,.int .i64 t2.int,.int .i64 (t2.at_:Int)] 161)));have HK8:=hZz (HRS7.out.2.1.trans hk78);have HO8:Hid ((w8.alloc (.cells #[.int .i64 t2.kind,.string t2.text,.int .i64 t2.int,.int .i64 (t2.at_:Int)] 161)).ownsRow K.w0.heap.size 3 1 (.slice (some ⟨g7,0,none⟩) 2 cap7) 2 [.int .i64 (v1:Int),.int .i64 (v2:Int)]):=hZz (hk78.own HO7.out (fun g hg e=>by subst e;obtain ⟨_,cs,hB⟩:=own_blk HO7.out hg;exact HRS7.out.1.ne hB (by decide) rfl) (by decide) (by decide));clear hx1 hk1 hk78 HT3 HTX7;unfold Tok.val)
  | (go_at_call 187;(refine (addK_x (HX8.out.sub (F':=F) (fun g hg=>by simp [hg])) hl 19 ⟨#[]⟩ 0 [(v1:Int),(v2:Int)] HO8.out (fun g hg e=>by have h9:g7=g:=Option.some.inj e;have:=HFB.out g hg;have:=HRS7.out.2.2;omega)).mono ?_);rintro e w9 ⟨rfl,hx1,hk1⟩;have HX9:=hZz hx1;have HK9:=hZz (HK8.out.trans hk1);clear hx1 hk1))
 rw [← HP.out]
 exact ⟨rfl,HX9.out,HK9.out⟩
end
end
section
theorem field_tok:∀ (a b c d:Value) (w:World),(Instr.field 161 (.agg #[a,b,c,d]) 1).run Tryz.prog w=.ok b w:=by intro a b c d w;kernel_rfl
section
variable {K:ParC} {p:Nat} {ns:List NodeD} {v p':Nat} {ns':List NodeD}
structure FunK (K:ParC) (wS:World) (g2:Nat) (w:World) (nm:ByteArray) (ps:List ByteArray) (u:Value):Prop where
 b2:Blk w g2 89 #[.string nm,u,.int .i64 0]
 ow:w.ownsRow K.w0.heap.size 9 1 u ps.length (ps.map Value.string)
 kp:KP K.gp wS w
 gn:wS.heap.size≤g2
 s0:K.w0.heap.size≤wS.heap.size
 un:∀ g,u.ownBlock=some g→wS.heap.size≤g
theorem KP.blkF {gp g:Nat} {w w':World} {t:TypeId} {cs:Array Value} (h:KP gp w w') (hB:Blk w g t cs) (h1:g≠gp) (h2:t≠87):Blk w' g t cs :=
 h.block g _ hB h1 (fun cs' fz e=>by injection e with _ e;exact h2 e)
theorem PX.setF {F:List Nat} {w:World} {g:Nat} {cs:Array Value} (h:PXK K F w p ns) (hB:Blk w g 89 cs) (hf:K.fv.ownBlock≠some g) (hg:K.w0.heap.size≤g) (j:Nat) (u:Value):PXK K F (w.setCell ⟨g,j,none⟩ u) p ns:=by
 obtain ⟨nx,nv,hh,h⟩:=h
 have hgr:=grown_setc w g j u
 have hne:∀ {n size:Nat} {e:TypeId} {v:Value} {xs:List Value},w.ownsRow K.w0.heap.size e size v n xs→89≠e→(w.setCell ⟨g,j,none⟩ u).ownsRow K.w0.heap.size e size v n xs:=fun ho he=>own_grown ho hgr (fun k hk=>by injection hk with hk;subst hk;exact own_ne_blk ho hB (fun e=>he e.symm))
 have hgp:K.gp≠g:=fun e=>blk_ne h.bp hB (by decide) e
 exact ⟨nx,nv,hh,h.bel.grown hgr h.bel.size (fun k hk=>by injection hk with hk;omega),h.hp,h.bp.far (p:=⟨g,j,none⟩) hgp u,hne h.tk (by decide),hne h.nd (by decide),own_grown h.fu hgr (fun k hk=>by injection hk with hk;subst hk;exact fun e=>hf e.symm),fun q hq=>⟨hne (h.kids q hq).1 (by decide),(h.kids q hq).2⟩,h.kd,fun q hq=>hne (h.pars q hq) (by decide),fun g hg=>(by simpa using h.fb g hg),h.tl⟩
theorem PX.growS {F:List Nat} {w w':World} (h:PXK K F w p ns) (hg:w.grownBy w' none):PXK K F w' p ns:=by
 obtain ⟨nx,nv,hh,h⟩:=h
 have hne:∀ {n size:Nat} {e:TypeId} {v:Value} {xs:List Value},w.ownsRow K.w0.heap.size e size v n xs→w'.ownsRow K.w0.heap.size e size v n xs:=fun ho=>own_grown ho hg (fun k hk=>by cases hk)
 exact ⟨nx,nv,hh,h.bel.grown hg h.bel.size (fun k hk=>by cases hk),h.hp,h.bp.grown hg (by simp),hne h.tk,hne h.nd,hne h.fu,fun q hq=>⟨hne (h.kids q hq).1,(h.kids q hq).2⟩,h.kd,fun q hq=>hne (h.pars q hq),fun g hg'=>Nat.lt_of_lt_of_le (h.fb g hg') hg.size,h.tl⟩
attribute [local go_sem] cell_alloc_is
set_option maxHeartbeats 8000000 in
theorem param1_x (hy:nextF K.ts p 1 []=true) {t:Tok} (ht:K.ts[p]? = some t) (hfv:K.fv=.slice none 0 0) {wS:World} {F:List Nat} {w:World} {g2 gb:Nat} {nm:ByteArray} (h:PXK K F w p ns) (hf:FunK K wS g2 w nm [] (.slice none 0 0)) (hb:Blk w gb 117 #[.pointer (some ⟨K.gp,0,none⟩)]) :
  Calls Tryz.prog 128 #[.pointer (some ⟨g2,0,none⟩),.pointer (some ⟨gb,0,none⟩)] w fun e w'=>e=.returned (.tuple #[])∧PXK K F w' (p+1) ns∧Blk w' gb 117 #[.pointer (some ⟨K.gp,0,none⟩)]∧∃ u',FunK K wS g2 w' nm [t.text] u':=by
 obtain ⟨i1,hj,hy0,hy1,hy2⟩:=info_parts Tryz.infoStrS
 obtain ⟨P,hP⟩:∃ P:Ending→World→Prop,(fun e w'=>e=.returned (.tuple #[])∧PXK K F w' (p+1) ns∧Blk w' gb 117 #[.pointer (some ⟨K.gp,0,none⟩)]∧∃ u',FunK K wS g2 w' nm [t.text] u')=P:=⟨_,rfl⟩
 rw [hP]
 have HP:=hZz hP
 have HM:=hZz (must_x (h.below (below_drew w)) 1 (TxV.nil _) hy ht)
 have HR:=hZz hf
 have hne:g2≠K.gp:=h.ne hf.b2 (by decide)
 have HNE:=hZz hne
 have HFV:=hZz hfv
 have o0:=hf.b2.cell 1 _ rfl
 have ob:=hb.cell 0 _ rfl
 have HBP:=hZz hb
 have HNG:=hZz (show gb≠K.gp∧gb≠g2 from ⟨h.ne hb (by decide),blk_ne hb hf.b2 (by decide)⟩)
 have hfl:=field_tok
 clear hP hy ht h hf hne hb hfv
 go_enter Tryz.func128,Tryz.ntmps128
 go_region_law (first
  | (go_simp;go_at_call 126;(refine HM.out.mono ?_);rintro e1 w1 ⟨rfl,hx1,hk1⟩;unfold Tok.val;have HX1:=hZz hx1;have hkw:KP K.gp w w1:=((KP.of_below (below_drew w)).trans hk1);have HK1:=hZz hkw;have HB2:=hZz (hkw.blkF HR.out.b2 HNE.out (by decide));have o1:=HB2.out.cell 1 _ rfl;have hsz:K.w0.heap.size≤(w1.alloc (.cells #[.string t.text] 9)).heap.size:=Nat.le_trans hx1.ge (by simp);clear hx1 hk1 hkw)
  | (rw [if_pos (by rfl)];refine wp_append_lies _ (.tmp 3) (.tmp 7) 68 rfl K.w0.heap.size 9 i1 _ 1 16 Tryz.underlying68 hj hy0 hy1 hy2 rfl ?k1 _ 0 [] rfl (World.ownsRow_nil _ _ _ _) ⟨w1.heap.size,0,none⟩ 1 1 [.string t.text] rfl rfl (cells_new w1 _ _) ?k2 ?k3 ?k4 ?k5 ?k6 _ rfl ?_;(case k1=>decide);(case k2=>simp [Value.oneCell']);(case k3=>decide);(case k4=>(unfold maxLen;omega));(case k5=>omega);(case k6=>exact hsz);intro g6 cap6 w6 hown6 hgr6 hgg6 hlt6;have HG6:=hZz ((HB2.out.below (below_new w1 (.cells #[.string t.text] 9))).grown hgr6 (fun e=>by cases e));have z6:=HG6.out.frozen 1;have o6:=HG6.out.cell 1 _ rfl;have HO6:=hZz hown6;have HGR:=hZz hgr6;have HGG:=hZz hgg6;clear hown6 hgr6 hgg6 hlt6))
 all_goals
  go_wp2_with (fail)
  go_returns
  rw [← HP.out]
  have hgr:(w1.alloc (.cells #[.string t.text] 9)).grownBy w6 none:=HGR.out
  have hgg:none=some g6∨g6=(w1.alloc (.cells #[.string t.text] 9)).heap.size:=HGG.out
  have hg6:g6=(w1.alloc (.cells #[.string t.text] 9)).heap.size:=by
   rcases hgg with h | h
   ·cases h
   ·exact h
  have hkn:KP K.gp wS (w1.alloc (.cells #[.string t.text] 9)):=(HR.out.kp.trans HK1.out).trans (KP.of_below (below_new w1 _))
  have hx6:=((HX1.out.below (below_new w1 (.cells #[.string t.text] 9))).growS hgr).setF HG6.out (by rw [HFV.out];simp [Value.ownBlock]) (Nat.le_trans HR.out.s0 HR.out.gn) 1 (.slice (some ⟨g6,0,none⟩) (0+1) cap6)
  have hb6:Blk w6 gb 117 #[.pointer (some ⟨K.gp,0,none⟩)]:=((HK1.out.blk HBP.out HNG.out.1 (by decide) (by decide)).below (below_new w1 (.cells #[.string t.text] 9))).grown hgr (by simp)
  refine ⟨rfl,hx6,hb6.far (p:=⟨g2,1,none⟩) HNG.out.2 _,.slice (some ⟨g6,0,none⟩) (0+1) cap6,HG6.out.set_ 1 _,?_,(hkn.rowN hgr (fun g hg=>by cases hg)).setN HR.out.gn _ _,HR.out.gn,HR.out.s0,fun g hg=>?_⟩
  ·exact own_grown HO6.out (grown_setc w6 g2 1 (.slice (some ⟨g6,0,none⟩) (0+1) cap6)) (fun k hk=>by injection hk with hk;subst hk;exact own_ne_blk HO6.out HG6.out (by decide))
  ·have e:g6=g:=Option.some.inj hg
   rw [← e,hg6]
   exact hkn.size
end
end
end Go.Proofs.YtekdhlfapejijaaGreatDoor
