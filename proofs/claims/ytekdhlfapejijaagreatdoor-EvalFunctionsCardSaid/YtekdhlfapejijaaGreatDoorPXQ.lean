/- XL, XM, XN, XO, XP, XQ -/
import Derived.Test.YtekdhlfapejijaaGreatDoorPXK
set_option linter.unusedVariables false
set_option linter.unusedSimpArgs false
namespace Go.Proofs.YtekdhlfapejijaaGreatDoor
open Go.RowKit
set_option maxRecDepth 100000
set_option maxHeartbeats 8000000
open Go.Proofs.Tryz
section
theorem own_lit (w:World) (xs:List Value) (e:TypeId) {base:Nat} (hb:base≤w.heap.size) (hl:xs.length≤1000):(w.alloc (.cells xs.toArray e)).ownsRow base e 1 (.slice (some ⟨w.heap.size,0,none⟩) xs.length xs.length) xs.length xs :=
 ⟨by simp,.inr ⟨_,_,xs.toArray,rfl,hb,Blk.new w e xs.toArray,Nat.le_refl _,(by unfold maxLen;omega),by simp,by simp⟩⟩
section
variable {K:ParC} {p:Nat} {ns:List NodeD} {v p':Nat} {ns':List NodeD}
attribute [local go_sem] zacZ
set_option maxHeartbeats 4000000 in
theorem chain1_term (k:Int) (l:List ByteArray) (hp:ParsP K 306 p ns v p' ns') (hy:nextF K.ts p' k l=true) {t:Tok} (ht:K.ts[p']? = some t) {v2 p2:Nat} {ns2:List NodeD} (hp2:ParsP K 306 (p' + 1) ns' v2 p2 ns2) (hl:ns2.length≤600) (hn:nextF K.ts p2 k l=false) (F:List Nat) (w:World) (h:PXK K F w p ns) (tx:Value) (hx:TxV w tx l) (hk:∀ b,tx.ownBlock=some b→b≠K.gp) :
  Calls prog 268 #[.pointer (some ⟨K.gp,0,none⟩),.func (.func 306) #[.pointer (some ⟨K.gp,0,none⟩)] #[],.int .i64 k,tx] w (ParsR K F w ns2.length p2 (ns2 ++ [nodE 9 t.text 0 [(v:Int),(v2:Int)]])):=by
 obtain ⟨P,hP⟩:∃ P:Ending→World→Prop,ParsR K F w ns2.length p2 (ns2 ++ [nodE 9 t.text 0 [(v:Int),(v2:Int)]])=P:=⟨_,rfl⟩
 rw [hP];have HP:=hZz hP;have HQ:=hZz (hp F w h);have HT1:Hid (∀ wx,PXK K F wx p' ns'→TxV wx tx l→Calls prog 185 #[.pointer (some ⟨K.gp,0,none⟩),.int .i64 k,tx] wx fun e w'=>e=.returned (.tuple #[t.val,.bool true])∧PXK K F w' (p' + 1) ns'∧KP K.gp wx w'):=hZz (fun wx h1 h2=>zbjY h1 k h2 hy ht);have HQ2:Hid (∀ wx,PXK K F wx (p' + 1) ns'→Calls prog 306 #[.pointer (some ⟨K.gp,0,none⟩)] wx (ParsR K F wx v2 p2 ns2)):=hZz (fun wx h1=>hp2 F wx h1);have HT2:Hid (∀ wx,PXK K F wx p2 (ns2 ++ [nodE 9 t.text 0 [(v:Int),(v2:Int)]])→TxV wx tx l→Calls prog 185 #[.pointer (some ⟨K.gp,0,none⟩),.int .i64 k,tx] wx fun e w'=>e=.returned (.tuple #[zTokV,.bool false])∧Below wx.heap.size wx w'):=hZz (fun wx h1 h2=>zaqY h1 k h2 hn);have HX:=hZz hx;have HNE:=hZz hk;have HFB:=hZz h.fb;clear hP hp hy ht hp2 hn h hx hk;go_enter func268,ntmps268
 go_wp2_with (first
  | (go_at_call 306;(refine HQ.out.mono ?_);rintro e w1 ⟨rfl,hx1,hk1⟩;have HX1:=hZz hx1;have HK1:=hZz hk1;have HTX:=hZz (HX.out.kp hk1 HNE.out);clear hx1 hk1))
 refine wp_loop_rounds 2 ?_
 rw [rounds_succ]
 go_wp2_with (first
  | (go_at_call 185;(refine (HT1.out _ HX1.out HTX.out).mono ?_);rintro e w2 ⟨rfl,hx1,hk1⟩;have HX2:=hZz (hx1.below (zabZ w2 (.cells #[.int .i64 t.kind,.string t.text,.int .i64 t.int,.int .i64 (t.at_:Int)] 161)));have hkk:KP K.gp w1 (w2.alloc (.cells #[.int .i64 t.kind,.string t.text,.int .i64 t.int,.int .i64 (t.at_:Int)] 161)):=(hk1.trans (KP.of_below (zabZ w2 _)));have HK2:=hZz (HK1.out.trans hkk);have HTX2:=hZz (HTX.out.kp hkk HNE.out);have HBT:Hid (Blk (w2.alloc (.cells #[.int .i64 t.kind,.string t.text,.int .i64 t.int,.int .i64 (t.at_:Int)] 161)) w2.heap.size 161 #[.int .i64 t.kind,.string t.text,.int .i64 t.int,.int .i64 (t.at_:Int)]):=hZz (Blk.new _ _ _);clear hx1 hk1 hkk HT1;unfold Tok.val)
  | (go_at_call 306;(refine (HQ2.out _ HX2.out).mono ?_);rintro e w3 ⟨rfl,hx1,hk1⟩;have HX3:=hZz (hx1.below (zabZ w3 (.cells #[.int .i64 (v:Int),.int .i64 (v2:Int)] 3)));have hkk:KP K.gp (w2.alloc (.cells #[.int .i64 t.kind,.string t.text,.int .i64 t.int,.int .i64 (t.at_:Int)] 161)) (w3.alloc (.cells #[.int .i64 (v:Int),.int .i64 (v2:Int)] 3)):=(hk1.trans (KP.of_below (zabZ w3 _)));have HK3:=hZz (HK2.out.trans hkk);have HTX3:=hZz (HTX2.out.kp hkk HNE.out);have o3:=(hk1.blk HBT.out (HX2.out.ne HBT.out (by decide)) (by decide) (by decide)).cell 1 _ rfl;have HO3:Hid ((w3.alloc (.cells #[.int .i64 (v:Int),.int .i64 (v2:Int)] 3)).ownsRow K.w0.heap.size 3 1 (.slice (some ⟨w3.heap.size,0,none⟩) 2 2) 2 [.int .i64 (v:Int),.int .i64 (v2:Int)]):=hZz (own_lit w3 [.int .i64 (v:Int),.int .i64 (v2:Int)] 3 hx1.ge (by simp));have HSZ:Hid (w.heap.size≤w3.heap.size):=hZz (Nat.le_trans HK2.out.size hk1.size);clear hx1 hk1 hkk HQ2)
  | (go_at_call 187;(refine (addK_x HX3.out hl 9 t.text 0 [(v:Int),(v2:Int)] HO3.out (fun g hg e=>by have h9:w3.heap.size=g:=Option.some.inj e;have:=HFB.out g hg;have:=HSZ.out;omega)).mono ?_);rintro e w4 ⟨rfl,hx1,hk1⟩;have HX4:=hZz hx1;have HK4:=hZz (HK3.out.trans hk1);have HTX4:=hZz (HTX3.out.kp hk1 HNE.out);clear hx1 hk1))
 rw [rounds_succ]
 go_wp2_with (first
  | (go_at_call 185;(refine (HT2.out _ HX4.out HTX4.out).mono ?_);rintro e w5 ⟨rfl,hb⟩;have HB:=hZz hb;clear hb;unfold zTokV))
 rw [← HP.out];exact ⟨rfl,HX4.out.below (zadZ (zabZ _ _) HB.out),HK4.out.trans (KP.of_below (zadZ (zabZ _ _) HB.out))⟩
set_option maxHeartbeats 4000000 in
theorem sum1_x (hp:ParsP K 306 p ns v p' ns') (hy:nextF K.ts p' 5 [⟨#[43]⟩,⟨#[45]⟩]=true) {t:Tok} (ht:K.ts[p']? = some t) {v2 p2:Nat} {ns2:List NodeD} (hp2:ParsP K 306 (p' + 1) ns' v2 p2 ns2) (hl:ns2.length≤600) (hn:nextF K.ts p2 5 [⟨#[43]⟩,⟨#[45]⟩]=false) :
  ParsP K 303 p ns ns2.length p2 (ns2 ++ [nodE 9 t.text 0 [(v:Int),(v2:Int)]]):=by
 intro F w h;obtain ⟨P,hP⟩:∃ P:Ending→World→Prop,ParsR K F w ns2.length p2 (ns2 ++ [nodE 9 t.text 0 [(v:Int),(v2:Int)]])=P:=⟨_,rfl⟩
 rw [hP];have HP:=hZz hP;have hlt:=h.lt;have HQ:=hZz (chain1_term 5 [⟨#[43]⟩,⟨#[45]⟩] hp hy ht hp2 hl hn F _ (h.below (zabZ w (.cells #[.string ⟨#[43]⟩,.string ⟨#[45]⟩] 9))) _ (TxV.two w ⟨#[43]⟩ ⟨#[45]⟩) (fun b hb=>by have hb':w.heap.size=b:=Option.some.inj hb;omega));clear hP hn hp hy ht hp2 h hlt;go_enter func303,ntmps303
 go_wp2_with (first
  | (go_at_call 268;(refine HQ.out.mono ?_);rintro e w1 ⟨rfl,hx,hk⟩;have HX:=hZz hx;have HK:=hZz ((KP.of_below (zabZ w _)).trans hk);clear hx hk))
 rw [← HP.out];exact ⟨rfl,HX.out,HK.out⟩
end
end
section
def stL:List ByteArray:=[⟨#[108,101,116]⟩,⟨#[105,102]⟩,⟨#[119,104,105,108,101]⟩,⟨#[114,101,116,117,114,110]⟩]
theorem TxV.st (w:World):TxV (w.alloc (.cells #[.string ⟨#[108,101,116]⟩,.string ⟨#[105,102]⟩,.string ⟨#[119,104,105,108,101]⟩,.string ⟨#[114,101,116,117,114,110]⟩] 9)) (.slice (some ⟨w.heap.size,0,none⟩) 4 4) stL:=TxV.new w stL (by decide) (by decide)
section
variable {K:ParC} {p:Nat} {ns:List NodeD} {v p':Nat} {ns':List NodeD}
attribute [local go_sem] zacZ
set_option maxHeartbeats 4000000 in
theorem value_x (he:ParsP K 240 p ns v p' ns') (hy:nextF K.ts p' 5 [⟨#[59]⟩]=true) {t:Tok} (ht:K.ts[p']? = some t) {F:List Nat} {w:World} (h:PXK K F w p ns) :
  Calls prog 238 #[.pointer (some ⟨K.gp,0,none⟩)] w (ExprsR K F w [(v:Int)] (p' + 1) ns'):=by
 obtain ⟨P,hP⟩:∃ P:Ending→World→Prop,ExprsR K F w [(v:Int)] (p' + 1) ns'=P:=⟨_,rfl⟩
 rw [hP];have HP:=hZz hP;have HE:=hZz (he F w h);have HM:Hid (∀ wx tx,PXK K F wx p' ns'→TxV wx tx [⟨#[59]⟩]→Calls prog 126 #[.pointer (some ⟨K.gp,0,none⟩),.int .i64 5,tx] wx fun e w'=>e=.returned t.val∧PXK K F w' (p' + 1) ns'∧KP K.gp wx w'):=hZz (fun wx tx h1 h2=>zc3Y h1 5 h2 hy ht);have HFB:=hZz h.fb;clear hP he hy ht h;go_enter func238,ntmps238
 go_wp2_with (first
  | (go_at_call 240;(refine HE.out.mono ?_);rintro e w1 ⟨rfl,hx1,hk1⟩;have HX1:=hZz hx1;have HK1:=hZz hk1;have HTX:=hZz (TxV.one w1 ⟨#[59]⟩);clear hx1 hk1)
  | (go_at_call 126;(refine (HM.out _ _ (HX1.out.below (zabZ _ _)) HTX.out).mono ?_);rintro e w2 ⟨rfl,hx1,hk1⟩;have HX2:=hZz hx1;have HK2:=hZz ((HK1.out.trans (KP.of_below (zabZ w1 _))).trans hk1);clear hx1 hk1;unfold Tok.val))
 rw [← HP.out];exact ⟨_,rfl,HX2.out.below (zabZ _ _),own_lit w2 [.int .i64 (v:Int)] 3 HX2.out.ge (by simp),fun g hg e=>by have h9:w2.heap.size=g:=Option.some.inj e;have:=HFB.out g hg;have:=HK2.out.size;omega,HK2.out.trans (KP.of_below (zabZ _ _))⟩
set_option maxHeartbeats 4000000 in
theorem stmt_let (hy1:nextF K.ts p 2 stL=true) {t t1 t2 t3:Tok} (ht:K.ts[p]? = some t) (htl:(t.text.toList == [108,101,116])=true) (hy2:nextF K.ts (p+1) 1 []=true) (ht1:K.ts[p+1]? = some t1) (hy3:nextF K.ts (p+1+1) 5 [⟨#[61]⟩]=true) (ht2:K.ts[p+1+1]? = some t2)
  (he:ParsP K 240 (p+1+1+1) ns v p' ns') (hy4:nextF K.ts p' 5 [⟨#[59]⟩]=true) (ht3:K.ts[p']? = some t3) (hl:ns'.length≤600) :
  ParsP K 188 p ns ns'.length (p' + 1) (ns' ++ [nodE 13 t1.text 0 [(v:Int)]]):=by
 intro F w h;obtain ⟨P,hP⟩:∃ P:Ending→World→Prop,ParsR K F w ns'.length (p' + 1) (ns' ++ [nodE 13 t1.text 0 [(v:Int)]])=P:=⟨_,rfl⟩
 rw [hP];have HP:=hZz hP;have HT:=hZz (zbjY (h.below (zabZ w (.cells #[.string ⟨#[108,101,116]⟩,.string ⟨#[105,102]⟩,.string ⟨#[119,104,105,108,101]⟩,.string ⟨#[114,101,116,117,114,110]⟩] 9))) 2 (TxV.st w) hy1 ht);have HM1:Hid (∀ wx tx,PXK K F wx (p+1) ns→TxV wx tx []→Calls prog 126 #[.pointer (some ⟨K.gp,0,none⟩),.int .i64 1,tx] wx fun e w'=>e=.returned t1.val∧PXK K F w' (p+1+1) ns∧KP K.gp wx w'):=hZz (fun wx tx h1 h2=>zc3Y h1 1 h2 hy2 ht1);have HM2:Hid (∀ wx tx,PXK K F wx (p+1+1) ns→TxV wx tx [⟨#[61]⟩]→Calls prog 126 #[.pointer (some ⟨K.gp,0,none⟩),.int .i64 5,tx] wx fun e w'=>e=.returned t2.val∧PXK K F w' (p+1+1+1) ns∧KP K.gp wx w'):=hZz (fun wx tx h1 h2=>zc3Y h1 5 h2 hy3 ht2);have HV:Hid (∀ wx,PXK K F wx (p+1+1+1) ns→Calls prog 238 #[.pointer (some ⟨K.gp,0,none⟩)] wx (ExprsR K F wx [(v:Int)] (p' + 1) ns')):=hZz (fun wx h1=>value_x he hy4 ht3 h1);clear hP hy1 ht hy2 ht1 hy3 ht2 he hy4 ht3 h;go_enter func188,ntmps188
 go_wp2_with (first
  | (go_at_call 185;(refine HT.out.mono ?_);rintro e w1 ⟨rfl,hx1,hk1⟩;have HX1:=hZz (hx1.below (zabZ w1 (.cells #[.int .i64 t.kind,.string t.text,.int .i64 t.int,.int .i64 (t.at_:Int)] 161)));have HK1:=hZz (((KP.of_below (zabZ w _)).trans hk1).trans (KP.of_below (zabZ w1 (.cells #[.int .i64 t.kind,.string t.text,.int .i64 t.int,.int .i64 (t.at_:Int)] 161))));clear hx1 hk1 HT;unfold Tok.val)
  | (go_at_call 126;(refine (HM1.out _ _ HX1.out (TxV.nil _)).mono ?_);rintro e w2 ⟨rfl,hx1,hk1⟩;have HX2:=hZz hx1;have HK2:=hZz (HK1.out.trans hk1);have HTX:=hZz (TxV.one w2 ⟨#[61]⟩);clear hx1 hk1 HM1;unfold Tok.val))
 rename_i K1 hK1;refine hK1 (Act.put _ _ (.string t1.text)) _ ?_
 clear hK1 K1
 go_wp2_with (first
  | (go_at_call 126;(refine (HM2.out _ _ (HX2.out.below (zabZ _ _)) HTX.out).mono ?_);rintro e w3 ⟨rfl,hx1,hk1⟩;have HX3:=hZz hx1;have HK3:=hZz ((HK2.out.trans (KP.of_below (zabZ w2 _))).trans hk1);clear hx1 hk1 HM2 HTX;unfold Tok.val)
  | (go_at_call 238;(refine (HV.out _ HX3.out).mono ?_);rintro e w4 ⟨u,rfl,hx,hu,hf,hk⟩;obtain ⟨uA,uc,rfl⟩:=zaeZ hu;have HX4:=hZz hx;have HU:=hZz hu;have HF:=hZz hf;have HK4:=hZz (HK3.out.trans hk);clear hx hu hf hk)
  | (go_at_call 187;(refine (addK_x HX4.out hl 13 t1.text 0 [(v:Int)] HU.out HF.out).mono ?_);rintro e w5 ⟨rfl,hx1,hk1⟩;have HX5:=hZz hx1;have HK5:=hZz (HK4.out.trans hk1);clear hx1 hk1))
 rw [← HP.out];exact ⟨rfl,HX5.out,HK5.out⟩
set_option maxHeartbeats 4000000 in
theorem stmt_ret (hy1:nextF K.ts p 2 stL=true) {t t3:Tok} (ht:K.ts[p]? = some t) (htl:(t.text.toList == [108,101,116])=false∧(t.text.toList == [105,102])=false∧(t.text.toList == [119,104,105,108,101])=false)
  (he:ParsP K 240 (p+1) ns v p' ns') (hy4:nextF K.ts p' 5 [⟨#[59]⟩]=true) (ht3:K.ts[p']? = some t3) (hl:ns'.length≤600) :
  ParsP K 188 p ns ns'.length (p' + 1) (ns' ++ [nodE 17 ⟨#[]⟩ 0 [(v:Int)]]):=by
 intro F w h;obtain ⟨P,hP⟩:∃ P:Ending→World→Prop,ParsR K F w ns'.length (p' + 1) (ns' ++ [nodE 17 ⟨#[]⟩ 0 [(v:Int)]])=P:=⟨_,rfl⟩
 rw [hP];have HP:=hZz hP;have HT:=hZz (zbjY (h.below (zabZ w (.cells #[.string ⟨#[108,101,116]⟩,.string ⟨#[105,102]⟩,.string ⟨#[119,104,105,108,101]⟩,.string ⟨#[114,101,116,117,114,110]⟩] 9))) 2 (TxV.st w) hy1 ht);have HV:Hid (∀ wx,PXK K F wx (p+1) ns→Calls prog 238 #[.pointer (some ⟨K.gp,0,none⟩)] wx (ExprsR K F wx [(v:Int)] (p' + 1) ns')):=hZz (fun wx h1=>value_x he hy4 ht3 h1);obtain ⟨htl1,htl2,htl3⟩:=htl;clear hP hy1 ht he hy4 ht3 h;go_enter func188,ntmps188
 go_wp2_with (first
  | (go_at_call 185;(refine HT.out.mono ?_);rintro e w1 ⟨rfl,hx1,hk1⟩;have HX1:=hZz (hx1.below (zabZ w1 (.cells #[.int .i64 t.kind,.string t.text,.int .i64 t.int,.int .i64 (t.at_:Int)] 161)));have HK1:=hZz (((KP.of_below (zabZ w _)).trans hk1).trans (KP.of_below (zabZ w1 (.cells #[.int .i64 t.kind,.string t.text,.int .i64 t.int,.int .i64 (t.at_:Int)] 161))));clear hx1 hk1 HT;unfold Tok.val)
  | (go_at_call 238;(refine (HV.out _ HX1.out).mono ?_);rintro e w4 ⟨u,rfl,hx,hu,hf,hk⟩;obtain ⟨uA,uc,rfl⟩:=zaeZ hu;have HX4:=hZz hx;have HU:=hZz hu;have HF:=hZz hf;have HK4:=hZz (HK1.out.trans hk);clear hx hu hf hk)
  | (go_at_call 187;(refine (addK_x HX4.out hl 17 ⟨#[]⟩ 0 [(v:Int)] HU.out HF.out).mono ?_);rintro e w5 ⟨rfl,hx1,hk1⟩;have HX5:=hZz hx1;have HK5:=hZz (HK4.out.trans hk1);clear hx1 hk1))
 rw [← HP.out];exact ⟨rfl,HX5.out,HK5.out⟩
end
end
section
section
variable {K:ParC} {p:Nat} {ns:List NodeD} {v p':Nat} {ns':List NodeD}
theorem row_step {F:List Nat} {w w1 w6:World} {u:Value} {ks:List Int} {g6 cap6:Nat} (hx:PXK K (u.ownBlock.toList ++ F) w1 p ns) (ho:(w1.alloc (.cells #[.int .i64 (v:Int)] 3)).ownsRow K.w0.heap.size 3 1 u ks.length (ks.map (Value.int .i64))) (hk:KP K.gp w w1) (hun:∀ g,u.ownBlock=some g→w.heap.size≤g)
  (hgr:(w1.alloc (.cells #[.int .i64 (v:Int)] 3)).grownBy w6 u.ownBlock) (hgg:u.ownBlock=some g6∨g6=(w1.alloc (.cells #[.int .i64 (v:Int)] 3)).heap.size) (hlt:g6<w6.heap.size) :
  PXK K (g6 :: F) w6 p ns∧KP K.gp w w6∧w.heap.size≤g6:=by
 have hkn:KP K.gp w (w1.alloc (.cells #[.int .i64 (v:Int)] 3)):=hk.trans (KP.of_below (zabZ w1 _))
 have hp6:=PX.grow (v':=.slice (some ⟨g6,0,none⟩) (ks.length+1) cap6) (hx.below (zabZ w1 (.cells #[.int .i64 (v:Int)] 3))) ho hgr (fun g hg=>by
  have e:g6=g:=Option.some.inj hg;rw [← e];rcases hgg with h | h
  ·exact .inl h
  ·exact .inr (by rw [h];exact Nat.le_refl _)) (fun g hg=>by
  have e:g6=g:=Option.some.inj hg;rw [← e];exact hlt)
 refine ⟨hp6,hkn.rowN hgr hun,?_⟩
 rcases hgg with h | h
 ·exact hun _ h
 ·rw [h]
  exact hkn.size
attribute [local go_sem] zacZ
theorem block2_x (hy:nextF K.ts p 5 [⟨#[123]⟩]=true) {t t2:Tok} (ht:K.ts[p]? = some t) (hn1:nextF K.ts (p+1) 5 [⟨#[125]⟩]=false) {v1 p1:Nat} {ns1:List NodeD} (hs1:ParsP K 188 (p+1) ns v1 p1 ns1) (hn2:nextF K.ts p1 5 [⟨#[125]⟩]=false)
  {v2 p2:Nat} {ns2:List NodeD} (hs2:ParsP K 188 p1 ns1 v2 p2 ns2) (hy3:nextF K.ts p2 5 [⟨#[125]⟩]=true) (ht2:K.ts[p2]? = some t2) (hl:ns2.length≤600) :
  ParsP K 129 p ns ns2.length (p2+1) (ns2 ++ [nodE 19 ⟨#[]⟩ 0 [(v1:Int),(v2:Int)]]):=by
 intro F w h;obtain ⟨i1,hj,hy0,hy1,hy2⟩:=info_parts Tryz.infoIntS;obtain ⟨P,hP⟩:∃ P:Ending→World→Prop,ParsR K F w ns2.length (p2+1) (ns2 ++ [nodE 19 ⟨#[]⟩ 0 [(v1:Int),(v2:Int)]])=P:=⟨_,rfl⟩
 rw [hP];have HP:=hZz hP;have HM:=hZz (zc3Y (h.below (zabZ w (.cells #[.string ⟨#[123]⟩] 9))) 5 (TxV.one w ⟨#[123]⟩) hy ht);have HT1:Hid (∀ F wx tx,PXK K F wx (p+1) ns→TxV wx tx [⟨#[125]⟩]→Calls prog 185 #[.pointer (some ⟨K.gp,0,none⟩),.int .i64 5,tx] wx fun e w'=>e=.returned (.tuple #[zTokV,.bool false])∧Below wx.heap.size wx w'):=hZz (fun F wx tx h1 h2=>zaqY h1 5 h2 hn1);have HT2:Hid (∀ F wx tx,PXK K F wx p1 ns1→TxV wx tx [⟨#[125]⟩]→Calls prog 185 #[.pointer (some ⟨K.gp,0,none⟩),.int .i64 5,tx] wx fun e w'=>e=.returned (.tuple #[zTokV,.bool false])∧Below wx.heap.size wx w'):=hZz (fun F wx tx h1 h2=>zaqY h1 5 h2 hn2);have HT3:Hid (∀ F wx tx,PXK K F wx p2 ns2→TxV wx tx [⟨#[125]⟩]→Calls prog 185 #[.pointer (some ⟨K.gp,0,none⟩),.int .i64 5,tx] wx fun e w'=>e=.returned (.tuple #[t2.val,.bool true])∧PXK K F w' (p2+1) ns2∧KP K.gp wx w'):=hZz (fun F wx tx h1 h2=>zbjY h1 5 h2 hy3 ht2);have HS1:Hid (∀ F wx,PXK K F wx (p+1) ns→Calls prog 188 #[.pointer (some ⟨K.gp,0,none⟩)] wx (ParsR K F wx v1 p1 ns1)):=hZz hs1;have HS2:Hid (∀ F wx,PXK K F wx p1 ns1→Calls prog 188 #[.pointer (some ⟨K.gp,0,none⟩)] wx (ParsR K F wx v2 p2 ns2)):=hZz hs2;have HFB:=hZz h.fb;clear hP hy ht hn1 hs1 hn2 hs2 hy3 ht2 h;go_enter func129,ntmps129
 go_wp2_with (first
  | (go_at_call 126;(refine HM.out.mono ?_);rintro e w1 ⟨rfl,hx1,hk1⟩;have HX1:=hZz hx1;have HK1:=hZz ((KP.of_below (zabZ w _)).trans hk1);have HTX:=hZz (TxV.one w1 ⟨#[125]⟩);clear hx1 hk1;unfold Tok.val))
 refine wp_loop_rounds 3 ?_
 rw [rounds_succ]
 go_wp2_with (first
  | (go_at_call 185;(refine (HT1.out F _ _ (HX1.out.below (zabZ _ _)) HTX.out).mono ?_);rintro e w2 ⟨rfl,hb⟩;have HB2:=hZz (zadZ (zabZ w2 (.cells #[.int .i64 0,.string ⟨#[]⟩,.int .i64 0,.int .i64 0] 161)) (zadZ hb (zabZ w1 _)));clear hb HT1 HTX;unfold zTokV)
  | (go_at_call 188;(refine (HS1.out F _ (HX1.out.below HB2.out)).mono ?_);rintro e w3 ⟨rfl,hx1,hk1⟩;have HX3:=hZz hx1;have HK3:=hZz ((HK1.out.trans (KP.of_below HB2.out)).trans hk1);have hsz:K.w0.heap.size≤(w3.alloc (.cells #[.int .i64 (v1:Int)] 3)).heap.size:=Nat.le_trans hx1.ge (by simp);clear hx1 hk1 HS1)
  | (at_builtin;refine wpList_append_lies _ rfl (.tmp 20) (.tmp 23) 85 rfl K.w0.heap.size 3 i1 _ 1 8 underlying85 hj hy0 hy1 hy2 rfl (by omega) _ 0 [] rfl (World.ownsRow_nil _ _ _ _) ⟨w3.heap.size,0,none⟩ 1 1 [.int .i64 (v1:Int)] rfl rfl (za3Y w3 _ _) (by simp [Value.oneCell']) (by decide) (by unfold maxLen;omega) (by omega) hsz _ rfl ?_;intro g6 cap6 w4 hown6 hg6 hgg6 hlt6;have HRS:=hZz (row_step (F:=F) (u:=.slice none 0 0) (ks:=[]) (cap6:=cap6) HX3.out (World.ownsRow_nil _ _ _ _) HK3.out (fun g hg=>by cases hg) hg6 hgg6 hlt6);have HO4:=hZz hown6;clear hown6 hg6 hgg6 hlt6 hsz;have HTX4:=hZz (TxV.one w4 ⟨#[125]⟩)))
 rw [rounds_succ]
 go_wp2_with (first
  | (go_at_call 185;(refine (HT2.out (g6 :: F) _ _ (HRS.out.1.below (zabZ _ _)) HTX4.out).mono ?_);rintro e w5 ⟨rfl,hb⟩;have HB5:=hZz (zadZ (zabZ w5 (.cells #[.int .i64 0,.string ⟨#[]⟩,.int .i64 0,.int .i64 0] 161)) (zadZ hb (zabZ w4 _)));clear hb HT2 HTX4;unfold zTokV)
  | (go_at_call 188;(refine (HS2.out (g6 :: F) _ (HRS.out.1.below HB5.out)).mono ?_);rintro e w6 ⟨rfl,hx1,hk1⟩;have HX6:=hZz hx1;have hk46:KP K.gp w4 w6:=(KP.of_below HB5.out).trans hk1;have HK6:=hZz (HRS.out.2.1.trans hk46);have HO6:Hid ((w6.alloc (.cells #[.int .i64 (v2:Int)] 3)).ownsRow K.w0.heap.size 3 1 (.slice (some ⟨g6,0,none⟩) 1 cap6) 1 [.int .i64 (v1:Int)]):=hZz (zajZ (hk46.own HO4.out (fun g hg e=>by subst e;obtain ⟨_,cs,hB⟩:=zakY HO4.out hg;exact HRS.out.1.ne hB (by decide) rfl) (by decide) (by decide)) (zabZ w6 _));have hsz:K.w0.heap.size≤(w6.alloc (.cells #[.int .i64 (v2:Int)] 3)).heap.size:=Nat.le_trans hx1.ge (by simp);clear hx1 hk1 hk46 HS2)
  | (at_builtin;refine wpList_append_lies _ rfl (.tmp 20) (.tmp 23) 85 rfl K.w0.heap.size 3 i1 _ 1 8 underlying85 hj hy0 hy1 hy2 rfl (by omega) _ 1 [.int .i64 (v1:Int)] rfl HO6.out ⟨w6.heap.size,0,none⟩ 1 1 [.int .i64 (v2:Int)] rfl rfl (za3Y w6 _ _) (by simp [Value.oneCell']) (by decide) (by unfold maxLen;omega) (by omega) hsz _ rfl ?_;intro g7 cap7 w7 hown6 hg6 hgg6 hlt6;have HRS7:=hZz (row_step (F:=F) (u:=.slice (some ⟨g6,0,none⟩) 1 cap6) (ks:=[(v1:Int)]) (cap6:=cap7) HX6.out HO6.out HK6.out (fun g hg=>by have h9:g6=g:=Option.some.inj hg;rw [← h9];exact HRS.out.2.2) hg6 hgg6 hlt6);have HO7:=hZz hown6;clear hown6 hg6 hgg6 hlt6 hsz;have HTX7:=hZz (TxV.one w7 ⟨#[125]⟩)))
 rw [rounds_succ]
 go_wp2_with (first
  | (go_at_call 185;(refine (HT3.out (g7 :: F) _ _ (HRS7.out.1.below (zabZ _ _)) HTX7.out).mono ?_);rintro e w8 ⟨rfl,hx1,hk1⟩;have hk78:KP K.gp w7 (w8.alloc (.cells #[.int .i64 t2.kind,.string t2.text,.int .i64 t2.int,.int .i64 (t2.at_:Int)] 161)):=((KP.of_below (zabZ w7 _)).trans hk1).trans (KP.of_below (zabZ w8 _));have HX8:=hZz (hx1.below (zabZ w8 (.cells #[.int .i64 t2.kind,.string t2.text,.int .i64 t2.int,.int .i64 (t2.at_:Int)] 161)));have HK8:=hZz (HRS7.out.2.1.trans hk78);have HO8:Hid ((w8.alloc (.cells #[.int .i64 t2.kind,.string t2.text,.int .i64 t2.int,.int .i64 (t2.at_:Int)] 161)).ownsRow K.w0.heap.size 3 1 (.slice (some ⟨g7,0,none⟩) 2 cap7) 2 [.int .i64 (v1:Int),.int .i64 (v2:Int)]):=hZz (hk78.own HO7.out (fun g hg e=>by subst e;obtain ⟨_,cs,hB⟩:=zakY HO7.out hg;exact HRS7.out.1.ne hB (by decide) rfl) (by decide) (by decide));clear hx1 hk1 hk78 HT3 HTX7;unfold Tok.val)
  | (go_at_call 187;(refine (addK_x (HX8.out.sub (F':=F) (fun g hg=>by simp [hg])) hl 19 ⟨#[]⟩ 0 [(v1:Int),(v2:Int)] HO8.out (fun g hg e=>by have h9:g7=g:=Option.some.inj e;have:=HFB.out g hg;have:=HRS7.out.2.2;omega)).mono ?_);rintro e w9 ⟨rfl,hx1,hk1⟩;have HX9:=hZz hx1;have HK9:=hZz (HK8.out.trans hk1);clear hx1 hk1))
 rw [← HP.out];exact ⟨rfl,HX9.out,HK9.out⟩
end
end
section
theorem field_tok:∀ (a b c d:Value) (w:World),(Instr.field 161 (.agg #[a,b,c,d]) 1).run prog w=.ok b w:=by intro a b c d w;kernel_rfl
section
variable {K:ParC} {p:Nat} {ns:List NodeD} {v p':Nat} {ns':List NodeD}
structure FunK (K:ParC) (wS:World) (g2:Nat) (w:World) (nm:ByteArray) (ps:List ByteArray) (u:Value):Prop where
 b2:Blk w g2 89 #[.string nm,u,.int .i64 0]
 ow:w.ownsRow K.w0.heap.size 9 1 u ps.length (ps.map Value.string)
 kp:KP K.gp wS w
 gn:wS.heap.size≤g2
 s0:K.w0.heap.size≤wS.heap.size
 un:∀ g,u.ownBlock=some g→wS.heap.size≤g
theorem KP.blkF {gp g:Nat} {w w':World} {t:TypeId} {cs:Array Value} (h:KP gp w w') (hB:Blk w g t cs) (h1:g≠gp) (h2:t≠87):Blk w' g t cs :=
 h.block g _ hB h1 (fun cs' fz e=>by injection e with _ e;exact h2 e)
theorem PX.setF {F:List Nat} {w:World} {g:Nat} {cs:Array Value} (h:PXK K F w p ns) (hB:Blk w g 89 cs) (hf:K.fv.ownBlock≠some g) (hg:K.w0.heap.size≤g) (j:Nat) (u:Value):PXK K F (w.setCell ⟨g,j,none⟩ u) p ns:=by
 obtain ⟨nx,nv,hh,h⟩:=h;have hgr:=zamZ w g j u;have hne:∀ {n size:Nat} {e:TypeId} {v:Value} {xs:List Value},w.ownsRow K.w0.heap.size e size v n xs→89≠e→(w.setCell ⟨g,j,none⟩ u).ownsRow K.w0.heap.size e size v n xs:=fun ho he=>zaaY ho hgr (fun k hk=>by injection hk with hk;subst hk;exact zagZ ho hB (fun e=>he e.symm))
 have hgp:K.gp≠g:=fun e=>za7Y h.bp hB (by decide) e
 exact ⟨nx,nv,hh,h.bel.grown hgr h.bel.size (fun k hk=>by injection hk with hk;omega),h.hp,h.bp.far (p:=⟨g,j,none⟩) hgp u,hne h.tk (by decide),hne h.nd (by decide),zaaY h.fu hgr (fun k hk=>by injection hk with hk;subst hk;exact fun e=>hf e.symm),fun q hq=>⟨hne (h.kids q hq).1 (by decide),(h.kids q hq).2⟩,h.kd,fun q hq=>hne (h.pars q hq) (by decide),fun g hg=>(by simpa using h.fb g hg),h.tl⟩
theorem PX.growS {F:List Nat} {w w':World} (h:PXK K F w p ns) (hg:w.grownBy w' none):PXK K F w' p ns:=by
 obtain ⟨nx,nv,hh,h⟩:=h;have hne:∀ {n size:Nat} {e:TypeId} {v:Value} {xs:List Value},w.ownsRow K.w0.heap.size e size v n xs→w'.ownsRow K.w0.heap.size e size v n xs:=fun ho=>zaaY ho hg (fun k hk=>by cases hk)
 exact ⟨nx,nv,hh,h.bel.grown hg h.bel.size (fun k hk=>by cases hk),h.hp,h.bp.grown hg (by simp),hne h.tk,hne h.nd,hne h.fu,fun q hq=>⟨hne (h.kids q hq).1,(h.kids q hq).2⟩,h.kd,fun q hq=>hne (h.pars q hq),fun g hg'=>Nat.lt_of_lt_of_le (h.fb g hg') hg.size,h.tl⟩
attribute [local go_sem] zacZ
theorem param1_x (hy:nextF K.ts p 1 []=true) {t:Tok} (ht:K.ts[p]? = some t) (hfv:K.fv=.slice none 0 0) {wS:World} {F:List Nat} {w:World} {g2 gb:Nat} {nm:ByteArray} (h:PXK K F w p ns) (hf:FunK K wS g2 w nm [] (.slice none 0 0)) (hb:Blk w gb 117 #[.pointer (some ⟨K.gp,0,none⟩)]) :
  Calls prog 128 #[.pointer (some ⟨g2,0,none⟩),.pointer (some ⟨gb,0,none⟩)] w fun e w'=>e=.returned (.tuple #[])∧PXK K F w' (p+1) ns∧Blk w' gb 117 #[.pointer (some ⟨K.gp,0,none⟩)]∧∃ u',FunK K wS g2 w' nm [t.text] u':=by
 obtain ⟨i1,hj,hy0,hy1,hy2⟩:=info_parts Tryz.infoStrS;obtain ⟨P,hP⟩:∃ P:Ending→World→Prop,(fun e w'=>e=.returned (.tuple #[])∧PXK K F w' (p+1) ns∧Blk w' gb 117 #[.pointer (some ⟨K.gp,0,none⟩)]∧∃ u',FunK K wS g2 w' nm [t.text] u')=P:=⟨_,rfl⟩
 rw [hP];have HP:=hZz hP;have HM:=hZz (zc3Y (h.below (zafZ w)) 1 (TxV.nil _) hy ht);have HR:=hZz hf;have hne:g2≠K.gp:=h.ne hf.b2 (by decide);have HNE:=hZz hne;have HFV:=hZz hfv;have o0:=hf.b2.cell 1 _ rfl;have ob:=hb.cell 0 _ rfl;have HBP:=hZz hb;have HNG:=hZz (show gb≠K.gp∧gb≠g2 from ⟨h.ne hb (by decide),za7Y hb hf.b2 (by decide)⟩);have hfl:=field_tok;clear hP hy ht h hf hne hb hfv;go_enter func128,ntmps128
 go_region_law (first
  | (go_simp;go_at_call 126;(refine HM.out.mono ?_);rintro e1 w1 ⟨rfl,hx1,hk1⟩;unfold Tok.val;have HX1:=hZz hx1;have hkw:KP K.gp w w1:=((KP.of_below (zafZ w)).trans hk1);have HK1:=hZz hkw;have HB2:=hZz (hkw.blkF HR.out.b2 HNE.out (by decide));have o1:=HB2.out.cell 1 _ rfl;have hsz:K.w0.heap.size≤(w1.alloc (.cells #[.string t.text] 9)).heap.size:=Nat.le_trans hx1.ge (by simp);clear hx1 hk1 hkw)
  | (rw [if_pos (by rfl)];refine wp_append_lies _ (.tmp 3) (.tmp 7) 68 rfl K.w0.heap.size 9 i1 _ 1 16 underlying68 hj hy0 hy1 hy2 rfl ?k1 _ 0 [] rfl (World.ownsRow_nil _ _ _ _) ⟨w1.heap.size,0,none⟩ 1 1 [.string t.text] rfl rfl (za3Y w1 _ _) ?k2 ?k3 ?k4 ?k5 ?k6 _ rfl ?_;(case k1=>decide);(case k2=>simp [Value.oneCell']);(case k3=>decide);(case k4=>(unfold maxLen;omega));(case k5=>omega);(case k6=>exact hsz);intro g6 cap6 w6 hown6 hgr6 hgg6 hlt6;have HG6:=hZz ((HB2.out.below (zabZ w1 (.cells #[.string t.text] 9))).grown hgr6 (fun e=>by cases e));have z6:=HG6.out.frozen 1;have o6:=HG6.out.cell 1 _ rfl;have HO6:=hZz hown6;have HGR:=hZz hgr6;have HGG:=hZz hgg6;clear hown6 hgr6 hgg6 hlt6))
 all_goals
  go_wp2_with (fail)
  go_returns;rw [← HP.out];have hgr:(w1.alloc (.cells #[.string t.text] 9)).grownBy w6 none:=HGR.out;have hgg:none=some g6∨g6=(w1.alloc (.cells #[.string t.text] 9)).heap.size:=HGG.out
  have hg6:g6=(w1.alloc (.cells #[.string t.text] 9)).heap.size:=by
   rcases hgg with h | h
   ·cases h
   ·exact h
  have hkn:KP K.gp wS (w1.alloc (.cells #[.string t.text] 9)):=(HR.out.kp.trans HK1.out).trans (KP.of_below (zabZ w1 _));have hx6:=((HX1.out.below (zabZ w1 (.cells #[.string t.text] 9))).growS hgr).setF HG6.out (by rw [HFV.out];simp [Value.ownBlock]) (Nat.le_trans HR.out.s0 HR.out.gn) 1 (.slice (some ⟨g6,0,none⟩) (0+1) cap6);have hb6:Blk w6 gb 117 #[.pointer (some ⟨K.gp,0,none⟩)]:=((HK1.out.blk HBP.out HNG.out.1 (by decide) (by decide)).below (zabZ w1 (.cells #[.string t.text] 9))).grown hgr (by simp);refine ⟨rfl,hx6,hb6.far (p:=⟨g2,1,none⟩) HNG.out.2 _,.slice (some ⟨g6,0,none⟩) (0+1) cap6,HG6.out.set_ 1 _,?_,(hkn.rowN hgr (fun g hg=>by cases hg)).setN HR.out.gn _ _,HR.out.gn,HR.out.s0,fun g hg=>?_⟩
  ·exact zaaY HO6.out (zamZ w6 g2 1 (.slice (some ⟨g6,0,none⟩) (0+1) cap6)) (fun k hk=>by injection hk with hk;subst hk;exact zagZ HO6.out HG6.out (by decide))
  ·have e:g6=g:=Option.some.inj hg
   rw [← e,hg6];exact hkn.size
end
end
section
section
variable {K:ParC} {p:Nat} {ns:List NodeD} {v p':Nat} {ns':List NodeD}
theorem PSt.addF {w0 w w1:World} {gp:Nat} {tv:Value} {ts:List Tok} {en:Int} {F:List Nat} {p:Nat} {nx:List NodeX} {nv fv':Value} {q:FuncX} (h:PSt w0 gp tv ts en [] (.slice none 0 0) F w p nx nv) (hg:w.grownBy w1 none) (ho:w1.ownsRow w0.heap.size 89 3 fv' 1 (funcRow q))
  (hk:w.ownsRow w0.heap.size 9 1 q.2 q.1.params.length (q.1.params.map Value.string)):PSt w0 gp tv ts en [q] fv' F (w1.setCell ⟨gp,4,none⟩ fv') p nx nv:=by
 have hgs:=zamZ w1 gp 4 fv';have hb1:Blk w1 gp 119 #[tv,.int .i64 (p:Int),.int .i64 en,nv,.slice none 0 0]:=h.bp.grown hg (by simp);have hne2:∀ {n size:Nat} {e:TypeId} {v:Value} {xs:List Value},w1.ownsRow w0.heap.size e size v n xs→e≠119→(w1.setCell ⟨gp,4,none⟩ fv').ownsRow w0.heap.size e size v n xs:=fun ho' he=>zaaY ho' hgs (fun k hk=>by injection hk with hk;subst hk;exact zagZ ho' hb1 he)
 have hne:∀ {n size:Nat} {e:TypeId} {v:Value} {xs:List Value},w.ownsRow w0.heap.size e size v n xs→e≠119→(w1.setCell ⟨gp,4,none⟩ fv').ownsRow w0.heap.size e size v n xs:=fun ho' he=>hne2 (zaaY ho' hg (fun k hk=>by cases hk)) he
 refine ⟨(h.bel.grown hg h.bel.size (fun k hk=>by cases hk)).grown hgs (Nat.le_trans h.bel.size hg.size) (fun k hk=>by injection hk with hk;have:=h.hp;omega),h.hp,hb1.set_ 4 _,hne h.tk (by decide),hne h.nd (by decide),?_,fun q hq=>⟨hne (h.kids q hq).1 (by decide),(h.kids q hq).2⟩,h.kd,fun x hx=>?_,fun g hg'=>?_,h.tl⟩
 ·have:=hne2 ho (by decide)
  simpa using this
 ·rw [List.mem_singleton.1 hx]
  exact hne hk (by decide)
 ·have:=h.fb g hg'
  have:=hg.size
  simp
  omega
attribute [local go_sem] zacZ
theorem program1_x (hfx:K.fx=[]) (hfv:K.fv=.slice none 0 0) (hy0:nextF K.ts p 2 [⟨#[102,117,110,99]⟩]=true) {t0 t1 t2 t3 t4:Tok} (ht0:K.ts[p]? = some t0) (hy1:nextF K.ts (p+1) 1 []=true) (ht1:K.ts[p+1]? = some t1) (hy2:nextF K.ts (p+1+1) 5 [⟨#[40]⟩]=true) (ht2:K.ts[p+1+1]? = some t2)
  (hn3:nextF K.ts (p+1+1+1) 5 [⟨#[41]⟩]=false) (hy3:nextF K.ts (p+1+1+1) 1 []=true) (ht3:K.ts[p+1+1+1]? = some t3) (hy4:nextF K.ts (p+1+1+1+1) 5 [⟨#[44]⟩,⟨#[41]⟩]=true) (ht4:K.ts[p+1+1+1+1]? = some t4) (htc:(t4.text.toList == (⟨#[41]⟩:ByteArray).toList)=true)
  (hb:ParsP K 129 (p+1+1+1+1+1) ns v p' ns') (hend:p'=K.ts.length) {F:List Nat} {w:World} (h:PXK K F w p ns) :
  Calls prog 77 #[.pointer (some ⟨K.gp,0,none⟩)] w fun e w'=>e=.returned (.tuple #[])∧∃ u fv',PX K.w0 K.gp K.tv K.ts K.en [(⟨t1.text,[t3.text],(v:Int)⟩,u)] fv' F w' p' ns':=by
 obtain ⟨i1,hj,hz0,hz1,hz2⟩:=info_parts Tryz.infoFuncX;obtain ⟨P,hP⟩:∃ P:Ending→World→Prop,(fun e w'=>e=.returned (.tuple #[])∧∃ u fv',PX K.w0 K.gp K.tv K.ts K.en [(⟨t1.text,[t3.text],(v:Int)⟩,u)] fv' F w' p' ns')=P:=⟨_,rfl⟩
 rw [hP];have HP:=hZz hP;obtain ⟨gb,hgb⟩:∃ g,w.heap.size=g:=⟨_,rfl⟩
 obtain ⟨W,hW⟩:∃ W,w.alloc (.cells #[.pointer (some ⟨K.gp,0,none⟩)] 117)=W:=⟨_,rfl⟩
 have hbW:Below w.heap.size w W:=by rw [← hW];exact zabZ _ _
 have hBb:Blk W gb 117 #[.pointer (some ⟨K.gp,0,none⟩)]:=by rw [← hW,← hgb];exact Blk.new w _ _
 have hX:=h.below hbW;have hnb:gb≠K.gp:=hX.ne hBb (by decide);have HNB:=hZz hnb;have HX:=hZz hX;have HBB:=hZz hBb;have HW:=hZz hW;have HGB:=hZz hgb;have HLT:Hid (p<K.ts.length):=hZz (List.getElem?_eq_some_iff.1 ht0).1;have HM0:Hid (∀ wx tx,PXK K F wx p ns→TxV wx tx [⟨#[102,117,110,99]⟩]→Calls prog 126 #[.pointer (some ⟨K.gp,0,none⟩),.int .i64 2,tx] wx fun e w'=>e=.returned t0.val∧PXK K F w' (p+1) ns∧KP K.gp wx w'):=hZz (fun wx tx h1 h2=>zc3Y h1 2 h2 hy0 ht0);have HM1:Hid (∀ wx tx,PXK K F wx (p+1) ns→TxV wx tx []→Calls prog 126 #[.pointer (some ⟨K.gp,0,none⟩),.int .i64 1,tx] wx fun e w'=>e=.returned t1.val∧PXK K F w' (p+1+1) ns∧KP K.gp wx w'):=hZz (fun wx tx h1 h2=>zc3Y h1 1 h2 hy1 ht1);have HM2:Hid (∀ wx tx,PXK K F wx (p+1+1) ns→TxV wx tx [⟨#[40]⟩]→Calls prog 126 #[.pointer (some ⟨K.gp,0,none⟩),.int .i64 5,tx] wx fun e w'=>e=.returned t2.val∧PXK K F w' (p+1+1+1) ns∧KP K.gp wx w'):=hZz (fun wx tx h1 h2=>zc3Y h1 5 h2 hy2 ht2)
 have HL:Hid (∀ wS wx g2,PXK K F wx (p+1+1+1) ns→Blk wx g2 89 #[.string t1.text,.slice none 0 0,.int .i64 0]→Blk wx gb 117 #[.pointer (some ⟨K.gp,0,none⟩)]→KP K.gp wS wx→wS.heap.size≤g2→K.w0.heap.size≤wS.heap.size →
   Calls prog 127 #[.pointer (some ⟨K.gp,0,none⟩),.string ⟨#[41]⟩,.func (.func 128) #[] #[.pointer (some ⟨g2,0,none⟩),.pointer (some ⟨gb,0,none⟩)]] wx fun e w'=>e=.returned (.tuple #[])∧PXK K F w' (p+1+1+1+1+1) ns∧(∃ u,FunK K wS g2 w' t1.text [t3.text] u)∧Blk w' gb 117 #[.pointer (some ⟨K.gp,0,none⟩)]):=hZz (fun wS wx g2 hx h2 hbb hk hg hs=>by
  have hn2:g2≠K.gp:=hx.ne h2 (by decide);have hgl:=h2.lt
  refine (list1_x (K:=K) (p:=p+1+1+1) (ns:=ns) (p':=p+1+1+1+1) (ns':=ns) 128 #[.pointer (some ⟨g2,0,none⟩),.pointer (some ⟨gb,0,none⟩)] ⟨#[41]⟩ (enters_of func128 (by kernel_rfl) rfl) (F:=F) hn3
   (fun a=>FunK K wS g2 a t1.text [] (.slice none 0 0)∧Blk a gb 117 #[.pointer (some ⟨K.gp,0,none⟩)])
   (fun F' a=>F'=F∧(∃ u,FunK K wS g2 a t1.text [t3.text] u)∧Blk a gb 117 #[.pointer (some ⟨K.gp,0,none⟩)])
   (fun a b ⟨h1,h3⟩ hb=>⟨⟨h1.b2.below hb,World.ownsRow_nil _ _ _ _,h1.kp.trans (KP.of_below hb),h1.gn,h1.s0,h1.un⟩,h3.below hb⟩)
   (fun F' a b hx ⟨e,⟨u,h1⟩,h3⟩ hk=>⟨e,⟨u,hk.blkF h1.b2 hn2 (by decide),hk.own h1.ow (fun g hg e=>by
    subst e;obtain ⟨_,cs,hB⟩:=zakY h1.ow hg;exact hx.ne hB (by decide) rfl) (by decide) (by decide),h1.kp.trans hk,h1.gn,h1.s0,h1.un⟩,hk.blk h3 hnb (by decide) (by decide)⟩)
   (fun wy hy ⟨h1,h3⟩=>?_) hy4 ht4 htc hx ⟨⟨h2,World.ownsRow_nil _ _ _ _,hk,hg,hs,fun g hg=>by cases hg⟩,hbb⟩).mono ?_
  ·refine (param1_x (wS:=wS) (F:=F) hy3 ht3 hfv hy h1 h3).mono ?_
   rintro e w' ⟨rfl,hx',hb',u',hf'⟩;exact ⟨rfl,F,hx',rfl,⟨u',hf'⟩,hb'⟩
  ·rintro e w' ⟨rfl,F',hx',e',hf',hb'⟩
   subst e';exact ⟨rfl,hx',hf',hb'⟩)
 have HB:Hid (∀ wx,PXK K F wx (p+1+1+1+1+1) ns→Calls prog 129 #[.pointer (some ⟨K.gp,0,none⟩)] wx (ParsR K F wx v p' ns')):=hZz (fun wx h1=>hb F wx h1);have HFX:=hZz hfx;have HFV:=hZz hfv;have HEND:=hZz hend;have HGE:=hZz h.ge;have hfl:=field_tok;obtain ⟨nx,nv,hnx,hs⟩:=hX;have HS:=hZz hs;obtain ⟨c0,c1,c2,c3,c4⟩:=blk5x hs.bp;obtain ⟨tA,tcap,htv⟩:=zaeZ hs.tk;have HTV:=hZz htv;obtain ⟨tn,htn⟩:∃ n,K.ts.length=n:=⟨_,rfl⟩
 have HTN:=hZz htn;rw [htv,htn] at c0;have ob:=hBb.cell 0 _ rfl;have hlt':(p:Int)<(tn:Int):=by have:=HLT.out;omega
 clear hP hfx hfv hy0 ht0 hy1 ht1 hy2 ht2 hn3 hy3 ht3 hy4 ht4 htc hb hend h hgb hW hbW hBb hnb hs htv htn c2 c3 c4 hnx;go_enter func77,ntmps77
 go_wp2_with (fail)
 rw [HW.out,HGB.out];refine wp_loop_rounds 2 ?_
 rw [rounds_succ];go_wp2_with (fail)
 go_quiet (fail);have HBD:Hid (Below W.heap.size W (W.drewN nq)):=hZz (zaqZ (Below.refl _ _) _);obtain ⟨W1,hW1⟩:∃ W1,W.drewN nq=W1:=⟨_,rfl⟩
 rw [hW1] at HBD ⊢;clear hW1 c0 c1;have hb1:=HBB.out.below HBD.out;have HB1:=hZz hb1;have ob1:=hb1.cell 0 _ rfl;have HX1:=hZz (HX.out.below HBD.out);have HTA:=hZz (TxV.one W1 ⟨#[102,117,110,99]⟩);clear hb1 ob
 go_upto_region 7 with (first
  | (go_at_call 126;(refine (HM0.out _ _ (HX1.out.below (zabZ _ _)) HTA.out).mono ?_);rintro e w2 ⟨rfl,hx1,hk1⟩;have HX2:=hZz hx1;have hb2:=(hk1.blk (HB1.out.below (zabZ W1 _)) HNB.out (by decide) (by decide));have HB2:=hZz hb2;have ob2:=hb2.cell 0 _ rfl;clear hx1 hk1 hb2 HTA HM0;unfold Tok.val)
  | (go_at_call 126;(refine (HM1.out _ _ HX2.out (TxV.nil _)).mono ?_);rintro e w3 ⟨rfl,hx1,hk1⟩;have HX3:=hZz hx1;have hb3:=(hk1.blk HB2.out HNB.out (by decide) (by decide));have HB3:=hZz (hb3.below (zabZ w3 (.cells #[.string t1.text,.slice none 0 0,.int .i64 0] 89)));have ob3:=HB3.out.cell 0 _ rfl;have HX4:=hZz (hx1.below (zabZ w3 (.cells #[.string t1.text,.slice none 0 0,.int .i64 0] 89)));have HF4:Hid (Blk (w3.alloc (.cells #[.string t1.text,.slice none 0 0,.int .i64 0] 89)) w3.heap.size 89 #[.string t1.text,.slice none 0 0,.int .i64 0]):=hZz (Blk.new _ _ _);have HTO:=hZz (TxV.one1 w3 (.cells #[.string t1.text,.slice none 0 0,.int .i64 0] 89) ⟨#[40]⟩);have HG3:=hZz hx1.ge;clear hx1 hk1 hb3 HM1;unfold Tok.val)
  | (go_at_call 126;(refine (HM2.out _ _ (HX4.out.below (zabZ _ _)) HTO.out).mono ?_);rintro e w5 ⟨rfl,hx1,hk1⟩;have hk35:KP K.gp (w3.alloc (.cells #[.string t1.text,.slice none 0 0,.int .i64 0] 89)) w5:=(KP.of_below (zabZ _ _)).trans hk1;have HX5:=hZz hx1;have hb5:=(hk35.blk HB3.out HNB.out (by decide) (by decide));have HB5:=hZz hb5;have ob5:=hb5.cell 0 _ rfl;have HF5:=hZz (hk35.blkF HF4.out (HX4.out.ne HF4.out (by decide)) (by decide));have HK5:=hZz ((KP.of_below (zabZ w3 _)).trans hk35);clear hx1 hk1 hk35 hb5 HTO HM2;unfold Tok.val)
  | (go_at_call 127;(refine (HL.out w3 _ _ HX5.out HF5.out HB5.out HK5.out (Nat.le_refl _) HG3.out).mono ?_);rintro e w6 ⟨rfl,hx1,⟨u,hu⟩,hb6⟩;have HX6:=hZz hx1;have HB6:=hZz hb6;have HU:=hZz hu;have ob6:=hb6.cell 0 _ rfl;clear hx1 hu hb6 HL)
  | (go_at_call 129;(refine (HB.out _ HX6.out).mono ?_);rintro e w7 ⟨rfl,hx1,hk1⟩;have HX7:=hZz hx1;have hb7:=(hk1.blk HB6.out HNB.out (by decide) (by decide));have HB7:=hZz hb7;have ob7:=hb7.cell 0 _ rfl;have HF7:=hZz (hk1.blkF HU.out.b2 (HX6.out.ne HU.out.b2 (by decide)) (by decide));have z7:=HF7.out.frozen 2;have q7:=HF7.out.cell 2 _ rfl;have HU7:=hZz (hk1.own HU.out.ow (fun g hg e=>by subst e;obtain ⟨_,cs,hB⟩:=zakY HU.out.ow hg;exact HX6.out.ne hB (by decide) rfl) (by decide) (by decide));clear hx1 hk1 hb7 HB))
 have hu7:w7.ownsRow K.w0.heap.size 9 1 u 1 [.string t3.text]:=HU7.out;obtain ⟨uA,uc,rfl⟩:=zaeZ hu7;obtain ⟨g2,hg2⟩:∃ g,w3.heap.size=g:=⟨_,rfl⟩
 have hg2s:=HG3.out;rw [hg2] at HF7 hg2s ⊢;have hgb2:gb≠g2:=za7Y HB7.out HF7.out (by decide);have hx8:=HX7.out.setF HF7.out (by rw [HFV.out];simp [Value.ownBlock]) hg2s 2 (.int .i64 (v:Int));have hf8:=HF7.out.set_ 2 (.int .i64 (v:Int));have hb8:=HB7.out.far (p:=⟨g2,2,none⟩) hgb2 (.int .i64 (v:Int));have hu8:=zaaY hu7 (zamZ w7 g2 2 (.int .i64 (v:Int))) (fun k hk=>by injection hk with hk;subst hk;exact zagZ hu7 HF7.out (by decide));obtain ⟨W8,hW8⟩:∃ W8,w7.setCell ⟨g2,2,none⟩ (.int .i64 (v:Int))=W8:=⟨_,rfl⟩
 rw [hW8] at hx8 hf8 hb8 hu8 ⊢;obtain ⟨nx8,nv8,hn8,hs8⟩:=hx8;rw [HFX.out,HFV.out] at hs8;obtain ⟨W9,hW9⟩:∃ W9,(W8.alloc (.cells #[.string t1.text,.slice uA 1 uc,.int .i64 (v:Int)] 89)).drew=W9:=⟨_,rfl⟩
 have hb89:Below W8.heap.size W8 W9:=by rw [← hW9];exact zadZ (zafZ _) (zabZ _ _)
 have HBN:Hid (Blk W9 W8.heap.size 89 #[.string t1.text,.slice uA 1 uc,.int .i64 (v:Int)]):=hZz (by rw [← hW9];exact (Blk.new _ _ _).below (zafZ _));have HS9:=hZz (hs8.below hb89);have HU9:=hZz (zajZ hu8 hb89);have HB9:=hZz (hb8.below hb89);have HW9:=hZz hW9;have HN8:=hZz hn8;have hsz:K.w0.heap.size≤W9.heap.size:=Nat.le_trans hs8.bel.size hb89.size;obtain ⟨c0,c1,c2,c3,c4⟩:=blk5x hs8.bp;have z4:=hs8.bp.frozen 4;have ob8:=hb8.cell 0 _ rfl;have f0:W8.cell? ⟨g2,0,none⟩=some (.string t1.text):=hf8.cell 0 _ rfl;have f1:W8.cell? ⟨g2,1,none⟩=some (.slice uA 1 uc):=hf8.cell 1 _ rfl;have f2:W8.cell? ⟨g2,2,none⟩=some (.int .i64 (v:Int)):=hf8.cell 2 _ rfl;have hf8':=hZz hf8;have HN2:=hZz (HX7.out.ne HF7.out (by decide));have HB89:=hZz hb89;clear c0 c1 c2 c3 hn8 hs8 hW9 hb89 hf8 hb8 hu8 hu7 hW8 ob1 ob2 ob3 ob5 ob6 ob7 q7 z7 hlt';refine wp_region_held_drew (S:=(fun w'=>w'.cell? ⟨gb,0,none⟩=some (.pointer (some ⟨K.gp,0,none⟩))∧w'.cell? ⟨g2,0,none⟩=some (.string t1.text)∧w'.cell? ⟨g2,1,none⟩=some (.slice uA 1 uc)∧w'.cell? ⟨g2,2,none⟩=some (.int .i64 (v:Int)))) (by kernel_rfl) (by (first | assumption | go_keep | (refine ⟨ob10,?_,?_,?_⟩ <;> assumption) | (exact ⟨(HGB10.out.far (p:=⟨K.gp,4,none⟩) HNB.out _).cell 0 _ rfl,(HG10.out.far (p:=⟨K.gp,4,none⟩) HN2.out _).cell 0 _ rfl,(HG10.out.far (p:=⟨K.gp,4,none⟩) HN2.out _).cell 1 _ rfl,(HG10.out.far (p:=⟨K.gp,4,none⟩) HN2.out _).cell 2 _ rfl⟩))) (fun hHeld=>?_)
 refine wpAnyH_take (i:=0) (oi:=_) (v:=.pointer (some ⟨K.gp,0,none⟩)) rfl (by kernel_rfl) (by kernel_rfl) (by kernel_rfl) (fun _ _ _ h=>h) (Or.inl ⟨by rfl,by intro w hSw;(try dsimp only at hSw);go_simp⟩) (by assumption) ?_
 simp only [nz,Act.put];refine wpAnyH_take (i:=1) (oi:=_) (v:=.pointer (some ⟨K.gp,0,none⟩)) rfl (by kernel_rfl) (by kernel_rfl) (by kernel_rfl) (fun _ _ _ h=>h) (Or.inl ⟨by rfl,by intro w hSw;(try dsimp only at hSw);go_simp⟩) (by assumption) ?_
 simp only [nz,Act.put];refine wpAnyH_take (i:=2) (oi:=_) (v:=.pointer (some ⟨K.gp,0,none⟩)) rfl (by kernel_rfl) (by kernel_rfl) (by kernel_rfl) (fun _ _ _ h=>h) (Or.inl ⟨by rfl,by intro w hSw;(try dsimp only at hSw);go_simp⟩) (by assumption) ?_
 simp only [nz,Act.put];refine wpAnyH_take (i:=3) (oi:=_) (v:=.pointer (some ⟨K.gp,3,none⟩)) rfl (by kernel_rfl) (by kernel_rfl) (by kernel_rfl) (fun _ _ _ h=>h) (Or.inl ⟨by rfl,by intro w hSw;(try dsimp only at hSw);go_simp⟩) (by assumption) ?_
 simp only [nz,Act.put];refine wpAnyH_take (i:=4) (oi:=_) (v:=.pointer (some ⟨K.gp,4,none⟩)) rfl (by kernel_rfl) (by kernel_rfl) (by kernel_rfl) (fun _ _ _ h=>h) (Or.inl ⟨by rfl,by intro w hSw;(try dsimp only at hSw);go_simp⟩) (by assumption) ?_
 simp only [nz,Act.put];refine wpAnyH_take (i:=6) (oi:=_) (v:=.agg #[.string t1.text,.slice uA 1 uc,.int .i64 (v:Int)]) rfl (by kernel_rfl) (by kernel_rfl) (by kernel_rfl) (fun _ _ _ h=>h) (Or.inl ⟨by rfl,by intro w hSw;(try dsimp only at hSw);go_simp⟩) (by assumption) ?_
 simp only [nz,Act.put];refine wpAnyH_ready (rs:=[5,7]) (by kernel_rfl) (by simp) ?_
 refine AllReadyH.cons (o:=_) rfl (fun KQ hKQ=>?_) ?_
 focus
  go_simp;refine hKQ.out _ _ (by (try dsimp only);(first | assumption | go_keep | (refine ⟨ob10,?_,?_,?_⟩ <;> assumption) | (exact ⟨(HGB10.out.far (p:=⟨K.gp,4,none⟩) HNB.out _).cell 0 _ rfl,(HG10.out.far (p:=⟨K.gp,4,none⟩) HN2.out _).cell 0 _ rfl,(HG10.out.far (p:=⟨K.gp,4,none⟩) HN2.out _).cell 1 _ rfl,(HG10.out.far (p:=⟨K.gp,4,none⟩) HN2.out _).cell 2 _ rfl⟩))) (fun hHeld=>?_)
  clear hKQ KQ
  try simp only [nz,Act.put]
  refine wpAnyH_ready (rs:=[7]) (by kernel_rfl) (by simp) ?_
  refine AllReadyH.cons (o:=_) rfl (fun KQ hKQ=>?_) AllReadyH.nil
  go_simp;refine hKQ.out _ _ (by (try dsimp only);(first | assumption | go_keep | (refine ⟨ob10,?_,?_,?_⟩ <;> assumption) | (exact ⟨(HGB10.out.far (p:=⟨K.gp,4,none⟩) HNB.out _).cell 0 _ rfl,(HG10.out.far (p:=⟨K.gp,4,none⟩) HN2.out _).cell 0 _ rfl,(HG10.out.far (p:=⟨K.gp,4,none⟩) HN2.out _).cell 1 _ rfl,(HG10.out.far (p:=⟨K.gp,4,none⟩) HN2.out _).cell 2 _ rfl⟩))) (fun hHeld=>?_)
  clear hKQ KQ
  try simp only [nz,Act.put]
  refine wpAnyH_ready (rs:=[8]) (by kernel_rfl) (by simp) ?_
  refine AllReadyH.cons (o:=_) rfl (fun KQ hKQ=>?_) AllReadyH.nil
  try simp only [List.getElem_toArray,List.getElem_cons_succ,List.getElem_cons_zero]
  (rw [if_pos (by rfl)];rw [HW9.out];refine wp_append_lies _ (.tmp 34) (.tmp 36) 36 rfl K.w0.heap.size 89 i1 _ 3 48 underlying36 hj hz0 hz1 hz2 rfl ?k1 _ 0 [] rfl (World.ownsRow_nil _ _ _ _) ⟨W8.heap.size,0,none⟩ 1 1 [.string t1.text,.slice uA 1 uc,.int .i64 (v:Int)] rfl rfl ?k7 ?k2 ?k3 ?k4 ?k5 ?k6 _ rfl ?_;(case k1=>decide);(case k7=>(intro j u hju;have:=HBN.out.cell j u (by simpa using hju);rw [zanY,Nat.zero_add];exact this));(case k2=>simp [Value.oneCell']);(case k3=>decide);(case k4=>(unfold maxLen;omega));(case k5=>omega);(case k6=>exact hsz);intro g6 cap6 w10 hown6 hgr6 _ _;have HB10:=hZz (HS9.out.bp.grown hgr6 (fun e=>by cases e));have z10:=HB10.out.frozen 4;have o10:=HB10.out.cell 4 _ rfl;have hg10:=((hf8'.out.below HB89.out).grown hgr6 (fun e=>by cases e));have HG10:=hZz hg10;have HGB10:=hZz (HB9.out.grown hgr6 (fun e=>by cases e));have f10:w10.cell? ⟨g2,0,none⟩=some (.string t1.text):=hg10.cell 0 _ rfl;have f11:w10.cell? ⟨g2,1,none⟩=some (.slice uA 1 uc):=hg10.cell 1 _ rfl;have f12:w10.cell? ⟨g2,2,none⟩=some (.int .i64 (v:Int)):=hg10.cell 2 _ rfl;have ob10:=(HB9.out.grown hgr6 (fun e=>by cases e)).cell 0 _ rfl;have HO10:=hZz hown6;have HGR:=hZz hgr6;clear hown6 hgr6)
  refine hKQ.out _ _ (by (try dsimp only);(first | assumption | go_keep | (refine ⟨ob10,?_,?_,?_⟩ <;> assumption) | (exact ⟨(HGB10.out.far (p:=⟨K.gp,4,none⟩) HNB.out _).cell 0 _ rfl,(HG10.out.far (p:=⟨K.gp,4,none⟩) HN2.out _).cell 0 _ rfl,(HG10.out.far (p:=⟨K.gp,4,none⟩) HN2.out _).cell 1 _ rfl,(HG10.out.far (p:=⟨K.gp,4,none⟩) HN2.out _).cell 2 _ rfl⟩))) (fun hHeld=>?_)
  clear hKQ KQ
  try simp only [nz,Act.put]
  refine wpAnyH_take (i:=9) (oi:=_) (v:=.pointer (some ⟨K.gp,0,none⟩)) rfl (by kernel_rfl) (by kernel_rfl) (by kernel_rfl) (fun _ _ _ h=>h) (Or.inl ⟨by rfl,by intro w hSw;(try dsimp only at hSw);go_simp⟩) (by assumption) ?_
  simp only [nz,Act.put];refine wpAnyH_take (i:=10) (oi:=_) (v:=.pointer (some ⟨K.gp,3,none⟩)) rfl (by kernel_rfl) (by kernel_rfl) (by kernel_rfl) (fun _ _ _ h=>h) (Or.inl ⟨by rfl,by intro w hSw;(try dsimp only at hSw);go_simp⟩) (by assumption) ?_
  simp only [nz,Act.put];refine wpAnyH_take (i:=11) (oi:=_) (v:=.pointer (some ⟨K.gp,4,none⟩)) rfl (by kernel_rfl) (by kernel_rfl) (by kernel_rfl) (fun _ _ _ h=>h) (Or.inl ⟨by rfl,by intro w hSw;(try dsimp only at hSw);go_simp⟩) (by assumption) ?_
  simp only [nz,Act.put];refine wpAnyH_ready (rs:=[12]) (by kernel_rfl) (by simp) ?_
  refine AllReadyH.cons (o:=_) rfl (fun KQ hKQ=>?_) AllReadyH.nil
  go_simp;refine hKQ.out _ _ (by (try dsimp only);(first | assumption | go_keep | (refine ⟨ob10,?_,?_,?_⟩ <;> assumption) | (exact ⟨(HGB10.out.far (p:=⟨K.gp,4,none⟩) HNB.out _).cell 0 _ rfl,(HG10.out.far (p:=⟨K.gp,4,none⟩) HN2.out _).cell 0 _ rfl,(HG10.out.far (p:=⟨K.gp,4,none⟩) HN2.out _).cell 1 _ rfl,(HG10.out.far (p:=⟨K.gp,4,none⟩) HN2.out _).cell 2 _ rfl⟩))) (fun hHeld=>?_)
  clear hKQ KQ
  try simp only [nz,Act.put]
  refine wpAnyH_done (by kernel_rfl) ?_ _
  try dsimp only [List.getElem_toArray,List.getElem_cons_succ,List.getElem_cons_zero,Act.put]
 rotate_left 1;refine AllReadyH.cons (o:=_) rfl (fun KQ hKQ=>?_) AllReadyH.nil
 go_simp;refine hKQ.out _ _ (by (try dsimp only);(first | assumption | go_keep | (refine ⟨ob10,?_,?_,?_⟩ <;> assumption) | (exact ⟨(HGB10.out.far (p:=⟨K.gp,4,none⟩) HNB.out _).cell 0 _ rfl,(HG10.out.far (p:=⟨K.gp,4,none⟩) HN2.out _).cell 0 _ rfl,(HG10.out.far (p:=⟨K.gp,4,none⟩) HN2.out _).cell 1 _ rfl,(HG10.out.far (p:=⟨K.gp,4,none⟩) HN2.out _).cell 2 _ rfl⟩))) (fun hHeld=>?_)
 clear hKQ KQ
 try simp only [nz,Act.put]
 refine wpAnyH_ready (rs:=[5]) (by kernel_rfl) (by simp) ?_
 refine AllReadyH.cons (o:=_) rfl (fun KQ hKQ=>?_) AllReadyH.nil
 go_simp;refine hKQ.out _ _ (by (try dsimp only);(first | assumption | go_keep | (refine ⟨ob10,?_,?_,?_⟩ <;> assumption) | (exact ⟨(HGB10.out.far (p:=⟨K.gp,4,none⟩) HNB.out _).cell 0 _ rfl,(HG10.out.far (p:=⟨K.gp,4,none⟩) HN2.out _).cell 0 _ rfl,(HG10.out.far (p:=⟨K.gp,4,none⟩) HN2.out _).cell 1 _ rfl,(HG10.out.far (p:=⟨K.gp,4,none⟩) HN2.out _).cell 2 _ rfl⟩))) (fun hHeld=>?_)
 clear hKQ KQ
 try simp only [nz,Act.put]
 refine wpAnyH_ready (rs:=[8]) (by kernel_rfl) (by simp) ?_
 refine AllReadyH.cons (o:=_) rfl (fun KQ hKQ=>?_) AllReadyH.nil
 try simp only [List.getElem_toArray,List.getElem_cons_succ,List.getElem_cons_zero]
 (rw [if_pos (by rfl)];rw [HW9.out];refine wp_append_lies _ (.tmp 34) (.tmp 36) 36 rfl K.w0.heap.size 89 i1 _ 3 48 underlying36 hj hz0 hz1 hz2 rfl ?k1 _ 0 [] rfl (World.ownsRow_nil _ _ _ _) ⟨W8.heap.size,0,none⟩ 1 1 [.string t1.text,.slice uA 1 uc,.int .i64 (v:Int)] rfl rfl ?k7 ?k2 ?k3 ?k4 ?k5 ?k6 _ rfl ?_;(case k1=>decide);(case k7=>(intro j u hju;have:=HBN.out.cell j u (by simpa using hju);rw [zanY,Nat.zero_add];exact this));(case k2=>simp [Value.oneCell']);(case k3=>decide);(case k4=>(unfold maxLen;omega));(case k5=>omega);(case k6=>exact hsz);intro g6 cap6 w10 hown6 hgr6 _ _;have HB10:=hZz (HS9.out.bp.grown hgr6 (fun e=>by cases e));have z10:=HB10.out.frozen 4;have o10:=HB10.out.cell 4 _ rfl;have hg10:=((hf8'.out.below HB89.out).grown hgr6 (fun e=>by cases e));have HG10:=hZz hg10;have HGB10:=hZz (HB9.out.grown hgr6 (fun e=>by cases e));have f10:w10.cell? ⟨g2,0,none⟩=some (.string t1.text):=hg10.cell 0 _ rfl;have f11:w10.cell? ⟨g2,1,none⟩=some (.slice uA 1 uc):=hg10.cell 1 _ rfl;have f12:w10.cell? ⟨g2,2,none⟩=some (.int .i64 (v:Int)):=hg10.cell 2 _ rfl;have ob10:=(HB9.out.grown hgr6 (fun e=>by cases e)).cell 0 _ rfl;have HO10:=hZz hown6;have HGR:=hZz hgr6;clear hown6 hgr6)
 refine hKQ.out _ _ (by (try dsimp only);(first | assumption | go_keep | (refine ⟨ob10,?_,?_,?_⟩ <;> assumption) | (exact ⟨(HGB10.out.far (p:=⟨K.gp,4,none⟩) HNB.out _).cell 0 _ rfl,(HG10.out.far (p:=⟨K.gp,4,none⟩) HN2.out _).cell 0 _ rfl,(HG10.out.far (p:=⟨K.gp,4,none⟩) HN2.out _).cell 1 _ rfl,(HG10.out.far (p:=⟨K.gp,4,none⟩) HN2.out _).cell 2 _ rfl⟩))) (fun hHeld=>?_)
 clear hKQ KQ
 try simp only [nz,Act.put]
 refine wpAnyH_take (i:=9) (oi:=_) (v:=.pointer (some ⟨K.gp,0,none⟩)) rfl (by kernel_rfl) (by kernel_rfl) (by kernel_rfl) (fun _ _ _ h=>h) (Or.inl ⟨by rfl,by intro w hSw;(try dsimp only at hSw);go_simp⟩) (by assumption) ?_
 simp only [nz,Act.put];refine wpAnyH_take (i:=10) (oi:=_) (v:=.pointer (some ⟨K.gp,3,none⟩)) rfl (by kernel_rfl) (by kernel_rfl) (by kernel_rfl) (fun _ _ _ h=>h) (Or.inl ⟨by rfl,by intro w hSw;(try dsimp only at hSw);go_simp⟩) (by assumption) ?_
 simp only [nz,Act.put];refine wpAnyH_take (i:=11) (oi:=_) (v:=.pointer (some ⟨K.gp,4,none⟩)) rfl (by kernel_rfl) (by kernel_rfl) (by kernel_rfl) (fun _ _ _ h=>h) (Or.inl ⟨by rfl,by intro w hSw;(try dsimp only at hSw);go_simp⟩) (by assumption) ?_
 simp only [nz,Act.put];refine wpAnyH_ready (rs:=[12]) (by kernel_rfl) (by simp) ?_
 refine AllReadyH.cons (o:=_) rfl (fun KQ hKQ=>?_) AllReadyH.nil
 go_simp;refine hKQ.out _ _ (by (try dsimp only);(first | assumption | go_keep | (refine ⟨ob10,?_,?_,?_⟩ <;> assumption) | (exact ⟨(HGB10.out.far (p:=⟨K.gp,4,none⟩) HNB.out _).cell 0 _ rfl,(HG10.out.far (p:=⟨K.gp,4,none⟩) HN2.out _).cell 0 _ rfl,(HG10.out.far (p:=⟨K.gp,4,none⟩) HN2.out _).cell 1 _ rfl,(HG10.out.far (p:=⟨K.gp,4,none⟩) HN2.out _).cell 2 _ rfl⟩))) (fun hHeld=>?_)
 clear hKQ KQ
 try simp only [nz,Act.put]
 refine wpAnyH_done (by kernel_rfl) ?_ _
 try dsimp only [List.getElem_toArray,List.getElem_cons_succ,List.getElem_cons_zero,Act.put]
 all_goals
  have hgr:W9.grownBy w10 none:=HGR.out;have hs11:=HS9.out.addF (q:=(⟨t1.text,[t3.text],(v:Int)⟩,.slice uA 1 uc)) hgr HO10.out HU9.out;have hb11:=(HB9.out.grown hgr (by simp)).far (p:=⟨K.gp,4,none⟩) HNB.out (.slice (some ⟨g6,0,none⟩) (0+1) cap6);obtain ⟨W11,hW11⟩:∃ W11,w10.setCell ⟨K.gp,4,none⟩ (.slice (some ⟨g6,0,none⟩) (0+1) cap6)=W11:=⟨_,rfl⟩
  have HW11:Hid (w10.setCell ⟨K.gp,4,none⟩ (.slice (some ⟨g6,0,none⟩) 1 cap6)=W11):=hZz hW11;rw [hW11] at hs11 hb11;clear hW11 c4 z4 ob8 f0 f1 f2 z10 o10 ob10 f10 f11 f12 hg10;go_wp2_with (fail)
  rw [HW11.out,rounds_succ];obtain ⟨c0,c1,c2,c3,c4⟩:=blk5x hs11.bp;have ob:=hb11.cell 0 _ rfl;rw [HTV.out] at c0;have hpe:=HEND.out;rw [hpe] at c1;have HS11:=hZz hs11;clear hs11 hb11 hpe;go_wp2_with (fail)
  go_quiet (fail);go_wp2_with (fail)
  go_returns;rw [← HP.out];exact ⟨rfl,.slice uA 1 uc,_,nx8,nv8,HN8.out,HS11.out.below (zaqZ (Below.refl _ _) _)⟩
end
end
section
section
variable {K:ParC} {p:Nat} {ns:List NodeD} {v p':Nat} {ns':List NodeD}
theorem upT (h:ParsP K 309 p ns v p' ns') (h1:nextF K.ts p' 5 [⟨#[91]⟩]=false) (h2:nextF K.ts p 5 [⟨#[45]⟩]=false) (h3:nextF K.ts p' 5 [⟨#[42]⟩,⟨#[47]⟩,⟨#[37]⟩]=false):ParsP K 306 p ns v p' ns':=term_x h3 (unary_x h2 (post_x h1 h))
theorem upE (h:ParsP K 303 p ns v p' ns') (h1:nextF K.ts p 2 [⟨#[110,111,116]⟩]=false) (h2:nextF K.ts p' 5 cmpT=false) (h3:nextF K.ts p' 2 [⟨#[97,110,100]⟩]=false) (h4:nextF K.ts p' 2 [⟨#[111,114]⟩]=false):ParsP K 240 p ns v p' ns':=expr_x h4 (and_x h3 (not_x h1 h2 h))
def nodes10:List NodeD:=[nodE 4 "k".toUTF8 0 [],nodE 12 "get".toUTF8 0 [0],nodE 13 "x".toUTF8 0 [1],nodE 5 "x".toUTF8 0 [],nodE 3 ⟨#[]⟩ 1 [],nodE 9 "+".toUTF8 0 [3,4],nodE 17 ⟨#[]⟩ 0 [5],nodE 19 ⟨#[]⟩ 0 [2,6]]
theorem block10 (hts:K.ts=toksE):ParsP K 129 5 [] 7 20 nodes10:=by
 have nf:∀ (p:Nat) (k:Int) (l:List ByteArray) (b:Bool),nextF toksE p k l=b→nextF K.ts p k l=b:=fun p k l b h=>by rw [hts];exact h
 have tk:∀ (p:Nat) (t:Tok),toksE[p]? = some t→K.ts[p]? = some t:=fun p t h=>by rw [hts];exact h
 have e1:=prim_str (K:=K) (p:=11) (ns:=[]) (by decide) (t:=⟨4,"k".toUTF8,0,28⟩) (tk _ _ (by decide +kernel)) (nf _ _ _ _ (by decide +kernel)) (nf _ _ _ _ (by decide +kernel))
 have e2:=upE (sum_x (nf _ _ _ _ (by decide +kernel)) (upT e1 (nf _ _ _ _ (by decide +kernel)) (nf _ _ _ _ (by decide +kernel)) (nf _ _ _ _ (by decide +kernel)))) (nf _ _ _ _ (by decide +kernel)) (nf _ _ _ _ (by decide +kernel)) (nf _ _ _ _ (by decide +kernel)) (nf _ _ _ _ (by decide +kernel));have e3:=prim_host (K:=K) (p:=9) (ns:=[]) (by decide) (t:=⟨6,"get".toUTF8,0,23⟩) (t2:=⟨5,"(".toUTF8,0,27⟩) (t3:=⟨5,")".toUTF8,0,31⟩) (tk _ _ (by decide +kernel)) (nf _ _ _ _ (by decide +kernel)) (nf _ _ _ _ (by decide +kernel)) (nf _ _ _ _ (by decide +kernel)) (nf _ _ _ _ (by decide +kernel)) (nf _ _ _ _ (by decide +kernel)) (nf _ _ _ _ (by decide +kernel)) (tk _ _ (by decide +kernel)) e2 (nf _ _ _ _ (by decide +kernel)) (nf _ _ _ _ (by decide +kernel)) (tk _ _ (by decide +kernel)) (by decide +kernel)
 have e4:=upE (sum_x (nf _ _ _ _ (by decide +kernel)) (upT e3 (nf _ _ _ _ (by decide +kernel)) (nf _ _ _ _ (by decide +kernel)) (nf _ _ _ _ (by decide +kernel)))) (nf _ _ _ _ (by decide +kernel)) (nf _ _ _ _ (by decide +kernel)) (nf _ _ _ _ (by decide +kernel)) (nf _ _ _ _ (by decide +kernel));have s1:=stmt_let (K:=K) (p:=6) (ns:=[]) (nf _ _ _ _ (by decide +kernel)) (t:=⟨2,"let".toUTF8,0,15⟩) (t1:=⟨1,"x".toUTF8,0,19⟩) (t2:=⟨5,"=".toUTF8,0,21⟩) (t3:=⟨5,";".toUTF8,0,32⟩) (tk _ _ (by decide +kernel)) (by decide +kernel) (nf _ _ _ _ (by decide +kernel)) (tk _ _ (by decide +kernel)) (nf _ _ _ _ (by decide +kernel)) (tk _ _ (by decide +kernel)) e4 (nf _ _ _ _ (by decide +kernel)) (tk _ _ (by decide +kernel)) (by decide)
 have x1:=prim_name (K:=K) (p:=15) (ns:=[nodE 4 "k".toUTF8 0 [],nodE 12 "get".toUTF8 0 [0],nodE 13 "x".toUTF8 0 [1]]) (by decide) (t:=⟨1,"x".toUTF8,0,41⟩) (tk _ _ (by decide +kernel)) (nf _ _ _ _ (by decide +kernel)) (nf _ _ _ _ (by decide +kernel)) (nf _ _ _ _ (by decide +kernel)) (nf _ _ _ _ (by decide +kernel)) (nf _ _ _ _ (by decide +kernel))
 have x2:=upT x1 (nf _ _ _ _ (by decide +kernel)) (nf _ _ _ _ (by decide +kernel)) (nf _ _ _ _ (by decide +kernel));have y1:=prim_int (K:=K) (p:=17) (ns:=[nodE 4 "k".toUTF8 0 [],nodE 12 "get".toUTF8 0 [0],nodE 13 "x".toUTF8 0 [1]] ++ [nodE 5 "x".toUTF8 0 []]) (by decide) (t:=⟨3,⟨#[]⟩,1,45⟩) (tk _ _ (by decide +kernel)) (nf _ _ _ _ (by decide +kernel))
 have y2:=upT y1 (nf _ _ _ _ (by decide +kernel)) (nf _ _ _ _ (by decide +kernel)) (nf _ _ _ _ (by decide +kernel));have z1:=sum1_x x2 (nf _ _ _ _ (by decide +kernel)) (t:=⟨5,"+".toUTF8,0,43⟩) (tk _ _ (by decide +kernel)) y2 (by decide) (nf _ _ _ _ (by decide +kernel))
 have z2:=upE z1 (nf _ _ _ _ (by decide +kernel)) (nf _ _ _ _ (by decide +kernel)) (nf _ _ _ _ (by decide +kernel)) (nf _ _ _ _ (by decide +kernel));have s2:=stmt_ret (K:=K) (p:=14) (nf _ _ _ _ (by decide +kernel)) (t:=⟨2,"return".toUTF8,0,34⟩) (t3:=⟨5,";".toUTF8,0,46⟩) (tk _ _ (by decide +kernel)) (by decide +kernel) z2 (nf _ _ _ _ (by decide +kernel)) (tk _ _ (by decide +kernel)) (by decide)
 exact block2_x (K:=K) (p:=5) (ns:=[]) (nf _ _ _ _ (by decide +kernel)) (t:=⟨5,"{".toUTF8,0,13⟩) (t2:=⟨5,"}".toUTF8,0,48⟩) (tk _ _ (by decide +kernel)) (nf _ _ _ _ (by decide +kernel)) s1 (nf _ _ _ _ (by decide +kernel)) s2 (nf _ _ _ _ (by decide +kernel)) (tk _ _ (by decide +kernel)) (by decide)
end
end
end Go.Proofs.YtekdhlfapejijaaGreatDoor
