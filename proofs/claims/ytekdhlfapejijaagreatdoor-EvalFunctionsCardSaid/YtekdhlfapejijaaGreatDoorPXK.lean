/- XF, XG, XH, XI, XJ, XK -/
import Derived.Test.YtekdhlfapejijaaGreatDoorPXE
set_option linter.unusedVariables false
set_option linter.unusedSimpArgs false
namespace Go.Proofs.YtekdhlfapejijaaGreatDoor
open Go.RowKit
set_option maxRecDepth 100000
set_option maxHeartbeats 8000000
open Go.Proofs.Tryz
section
section
variable {K:ParC} {p:Nat} {ns:List NodeD} {v p':Nat} {ns':List NodeD}
attribute [local go_sem] zacZ
theorem TxV.kp {gp:Nat} {w w':World} {tx:Value} {l:List ByteArray} (h:TxV w tx l) (hk:KP gp w w') (hne:∀ b,tx.ownBlock=some b→b≠gp):TxV w' tx l:=by
 rcases h with h | ⟨b,rfl,hb,h3⟩
 ·exact .inl h
 ·exact .inr ⟨b,rfl,hk.blk hb (hne b rfl) (by decide) (by decide),h3⟩
theorem chain_unary (k:Int) (l:List ByteArray) (hn:nextF K.ts p' k l=false) (hp:ParsP K 307 p ns v p' ns') (F:List Nat) (w:World) (h:PXK K F w p ns) (tx:Value) (hx:TxV w tx l) (hk:∀ b,tx.ownBlock=some b→b≠K.gp) :
  Calls prog 268 #[.pointer (some ⟨K.gp,0,none⟩),.func (.func 307) #[.pointer (some ⟨K.gp,0,none⟩)] #[],.int .i64 k,tx] w (ParsR K F w v p' ns'):=by
 obtain ⟨P,hP⟩:∃ P:Ending→World→Prop,ParsR K F w v p' ns'=P:=⟨_,rfl⟩
 rw [hP];have HP:=hZz hP;have HT:Hid (∀ wx,PXK K F wx p' ns'→TxV wx tx l→Calls prog 185 #[.pointer (some ⟨K.gp,0,none⟩),.int .i64 k,tx] wx fun e w'=>e=.returned (.tuple #[zTokV,.bool false])∧Below wx.heap.size wx w'):=hZz (fun wx h1 h2=>zaqY h1 k h2 hn);have HQ:=hZz (hp F w h);have HX:=hZz hx;have HNE:=hZz hk;clear hP hn hp h hx hk;go_enter func268,ntmps268
 go_wp2_with (first
  | (go_at_call 307;(refine HQ.out.mono ?_);rintro e w1 ⟨rfl,hx1,hk1⟩;have HX1:=hZz hx1;have HK1:=hZz hk1;have HTX:=hZz (HX.out.kp hk1 HNE.out);clear hx1 hk1))
 refine wp_loop_rounds 1 ?_
 rw [rounds_succ]
 go_wp2_with (first
  | (go_at_call 185;(refine (HT.out _ HX1.out HTX.out).mono ?_);rintro e w2 ⟨rfl,hb⟩;have HB:=hZz hb;clear hb;unfold zTokV))
 rw [← HP.out];exact ⟨rfl,HX1.out.below (zadZ (zabZ _ _) HB.out),HK1.out.trans (KP.of_below (zadZ (zabZ _ _) HB.out))⟩
theorem term_x (hn:nextF K.ts p' 5 [⟨#[42]⟩,⟨#[47]⟩,⟨#[37]⟩]=false) (hp:ParsP K 307 p ns v p' ns'):ParsP K 306 p ns v p' ns':=by
 intro F w h;obtain ⟨P,hP⟩:∃ P:Ending→World→Prop,ParsR K F w v p' ns'=P:=⟨_,rfl⟩
 rw [hP];have HP:=hZz hP;have hlt:=h.lt;have HQ:=hZz (chain_unary 5 [⟨#[42]⟩,⟨#[47]⟩,⟨#[37]⟩] hn hp F _ (h.below (zabZ w (.cells (([⟨#[42]⟩,⟨#[47]⟩,⟨#[37]⟩]:List ByteArray).map Value.string).toArray 9))) _ (TxV.new w [⟨#[42]⟩,⟨#[47]⟩,⟨#[37]⟩] (by decide) (by decide)) (fun b hb=>by have hb':w.heap.size=b:=Option.some.inj hb;omega));clear hP hn hp h hlt;go_enter func306,ntmps306
 go_wp2_with (first
  | (go_at_call 268;(refine HQ.out.mono ?_);rintro e w1 ⟨rfl,hx,hk⟩;have HX:=hZz hx;have HK:=hZz ((KP.of_below (zabZ w _)).trans hk);clear hx hk))
 rw [← HP.out];exact ⟨rfl,HX.out,HK.out⟩
theorem chain_term (k:Int) (l:List ByteArray) (hn:nextF K.ts p' k l=false) (hp:ParsP K 306 p ns v p' ns') (F:List Nat) (w:World) (h:PXK K F w p ns) (tx:Value) (hx:TxV w tx l) (hk:∀ b,tx.ownBlock=some b→b≠K.gp) :
  Calls prog 268 #[.pointer (some ⟨K.gp,0,none⟩),.func (.func 306) #[.pointer (some ⟨K.gp,0,none⟩)] #[],.int .i64 k,tx] w (ParsR K F w v p' ns'):=by
 obtain ⟨P,hP⟩:∃ P:Ending→World→Prop,ParsR K F w v p' ns'=P:=⟨_,rfl⟩
 rw [hP];have HP:=hZz hP;have HT:Hid (∀ wx,PXK K F wx p' ns'→TxV wx tx l→Calls prog 185 #[.pointer (some ⟨K.gp,0,none⟩),.int .i64 k,tx] wx fun e w'=>e=.returned (.tuple #[zTokV,.bool false])∧Below wx.heap.size wx w'):=hZz (fun wx h1 h2=>zaqY h1 k h2 hn);have HQ:=hZz (hp F w h);have HX:=hZz hx;have HNE:=hZz hk;clear hP hn hp h hx hk;go_enter func268,ntmps268
 go_wp2_with (first
  | (go_at_call 306;(refine HQ.out.mono ?_);rintro e w1 ⟨rfl,hx1,hk1⟩;have HX1:=hZz hx1;have HK1:=hZz hk1;have HTX:=hZz (HX.out.kp hk1 HNE.out);clear hx1 hk1))
 refine wp_loop_rounds 1 ?_
 rw [rounds_succ]
 go_wp2_with (first
  | (go_at_call 185;(refine (HT.out _ HX1.out HTX.out).mono ?_);rintro e w2 ⟨rfl,hb⟩;have HB:=hZz hb;clear hb;unfold zTokV))
 rw [← HP.out];exact ⟨rfl,HX1.out.below (zadZ (zabZ _ _) HB.out),HK1.out.trans (KP.of_below (zadZ (zabZ _ _) HB.out))⟩
theorem sum_x (hn:nextF K.ts p' 5 [⟨#[43]⟩,⟨#[45]⟩]=false) (hp:ParsP K 306 p ns v p' ns'):ParsP K 303 p ns v p' ns':=by
 intro F w h;obtain ⟨P,hP⟩:∃ P:Ending→World→Prop,ParsR K F w v p' ns'=P:=⟨_,rfl⟩
 rw [hP];have HP:=hZz hP;have hlt:=h.lt;have HQ:=hZz (chain_term 5 [⟨#[43]⟩,⟨#[45]⟩] hn hp F _ (h.below (zabZ w (.cells (([⟨#[43]⟩,⟨#[45]⟩]:List ByteArray).map Value.string).toArray 9))) _ (TxV.new w [⟨#[43]⟩,⟨#[45]⟩] (by decide) (by decide)) (fun b hb=>by have hb':w.heap.size=b:=Option.some.inj hb;omega));clear hP hn hp h hlt;go_enter func303,ntmps303
 go_wp2_with (first
  | (go_at_call 268;(refine HQ.out.mono ?_);rintro e w1 ⟨rfl,hx,hk⟩;have HX:=hZz hx;have HK:=hZz ((KP.of_below (zabZ w _)).trans hk);clear hx hk))
 rw [← HP.out];exact ⟨rfl,HX.out,HK.out⟩
theorem chain_not (k:Int) (l:List ByteArray) (hn:nextF K.ts p' k l=false) (hp:ParsP K 292 p ns v p' ns') (F:List Nat) (w:World) (h:PXK K F w p ns) (tx:Value) (hx:TxV w tx l) (hk:∀ b,tx.ownBlock=some b→b≠K.gp) :
  Calls prog 268 #[.pointer (some ⟨K.gp,0,none⟩),.func (.func 292) #[.pointer (some ⟨K.gp,0,none⟩)] #[],.int .i64 k,tx] w (ParsR K F w v p' ns'):=by
 obtain ⟨P,hP⟩:∃ P:Ending→World→Prop,ParsR K F w v p' ns'=P:=⟨_,rfl⟩
 rw [hP];have HP:=hZz hP;have HT:Hid (∀ wx,PXK K F wx p' ns'→TxV wx tx l→Calls prog 185 #[.pointer (some ⟨K.gp,0,none⟩),.int .i64 k,tx] wx fun e w'=>e=.returned (.tuple #[zTokV,.bool false])∧Below wx.heap.size wx w'):=hZz (fun wx h1 h2=>zaqY h1 k h2 hn);have HQ:=hZz (hp F w h);have HX:=hZz hx;have HNE:=hZz hk;clear hP hn hp h hx hk;go_enter func268,ntmps268
 go_wp2_with (first
  | (go_at_call 292;(refine HQ.out.mono ?_);rintro e w1 ⟨rfl,hx1,hk1⟩;have HX1:=hZz hx1;have HK1:=hZz hk1;have HTX:=hZz (HX.out.kp hk1 HNE.out);clear hx1 hk1))
 refine wp_loop_rounds 1 ?_
 rw [rounds_succ]
 go_wp2_with (first
  | (go_at_call 185;(refine (HT.out _ HX1.out HTX.out).mono ?_);rintro e w2 ⟨rfl,hb⟩;have HB:=hZz hb;clear hb;unfold zTokV))
 rw [← HP.out];exact ⟨rfl,HX1.out.below (zadZ (zabZ _ _) HB.out),HK1.out.trans (KP.of_below (zadZ (zabZ _ _) HB.out))⟩
theorem and_x (hn:nextF K.ts p' 2 [⟨#[97,110,100]⟩]=false) (hp:ParsP K 292 p ns v p' ns'):ParsP K 269 p ns v p' ns':=by
 intro F w h;obtain ⟨P,hP⟩:∃ P:Ending→World→Prop,ParsR K F w v p' ns'=P:=⟨_,rfl⟩
 rw [hP];have HP:=hZz hP;have hlt:=h.lt;have HQ:=hZz (chain_not 2 [⟨#[97,110,100]⟩] hn hp F _ (h.below (zabZ w (.cells (([⟨#[97,110,100]⟩]:List ByteArray).map Value.string).toArray 9))) _ (TxV.new w [⟨#[97,110,100]⟩] (by decide) (by decide)) (fun b hb=>by have hb':w.heap.size=b:=Option.some.inj hb;omega));clear hP hn hp h hlt;go_enter func269,ntmps269
 go_wp2_with (first
  | (go_at_call 268;(refine HQ.out.mono ?_);rintro e w1 ⟨rfl,hx,hk⟩;have HX:=hZz hx;have HK:=hZz ((KP.of_below (zabZ w _)).trans hk);clear hx hk))
 rw [← HP.out];exact ⟨rfl,HX.out,HK.out⟩
theorem chain_and (k:Int) (l:List ByteArray) (hn:nextF K.ts p' k l=false) (hp:ParsP K 269 p ns v p' ns') (F:List Nat) (w:World) (h:PXK K F w p ns) (tx:Value) (hx:TxV w tx l) (hk:∀ b,tx.ownBlock=some b→b≠K.gp) :
  Calls prog 268 #[.pointer (some ⟨K.gp,0,none⟩),.func (.func 269) #[.pointer (some ⟨K.gp,0,none⟩)] #[],.int .i64 k,tx] w (ParsR K F w v p' ns'):=by
 obtain ⟨P,hP⟩:∃ P:Ending→World→Prop,ParsR K F w v p' ns'=P:=⟨_,rfl⟩
 rw [hP];have HP:=hZz hP;have HT:Hid (∀ wx,PXK K F wx p' ns'→TxV wx tx l→Calls prog 185 #[.pointer (some ⟨K.gp,0,none⟩),.int .i64 k,tx] wx fun e w'=>e=.returned (.tuple #[zTokV,.bool false])∧Below wx.heap.size wx w'):=hZz (fun wx h1 h2=>zaqY h1 k h2 hn);have HQ:=hZz (hp F w h);have HX:=hZz hx;have HNE:=hZz hk;clear hP hn hp h hx hk;go_enter func268,ntmps268
 go_wp2_with (first
  | (go_at_call 269;(refine HQ.out.mono ?_);rintro e w1 ⟨rfl,hx1,hk1⟩;have HX1:=hZz hx1;have HK1:=hZz hk1;have HTX:=hZz (HX.out.kp hk1 HNE.out);clear hx1 hk1))
 refine wp_loop_rounds 1 ?_
 rw [rounds_succ]
 go_wp2_with (first
  | (go_at_call 185;(refine (HT.out _ HX1.out HTX.out).mono ?_);rintro e w2 ⟨rfl,hb⟩;have HB:=hZz hb;clear hb;unfold zTokV))
 rw [← HP.out];exact ⟨rfl,HX1.out.below (zadZ (zabZ _ _) HB.out),HK1.out.trans (KP.of_below (zadZ (zabZ _ _) HB.out))⟩
theorem expr_x (hn:nextF K.ts p' 2 [⟨#[111,114]⟩]=false) (hp:ParsP K 269 p ns v p' ns'):ParsP K 240 p ns v p' ns':=by
 intro F w h;obtain ⟨P,hP⟩:∃ P:Ending→World→Prop,ParsR K F w v p' ns'=P:=⟨_,rfl⟩
 rw [hP];have HP:=hZz hP;have hlt:=h.lt;have HQ:=hZz (chain_and 2 [⟨#[111,114]⟩] hn hp F _ (h.below (zabZ w (.cells (([⟨#[111,114]⟩]:List ByteArray).map Value.string).toArray 9))) _ (TxV.new w [⟨#[111,114]⟩] (by decide) (by decide)) (fun b hb=>by have hb':w.heap.size=b:=Option.some.inj hb;omega));clear hP hn hp h hlt;go_enter func240,ntmps240
 go_wp2_with (first
  | (go_at_call 268;(refine HQ.out.mono ?_);rintro e w1 ⟨rfl,hx,hk⟩;have HX:=hZz hx;have HK:=hZz ((KP.of_below (zabZ w _)).trans hk);clear hx hk))
 rw [← HP.out];exact ⟨rfl,HX.out,HK.out⟩
theorem post_x (hn:nextF K.ts p' 5 [⟨#[91]⟩]=false) (hp:ParsP K 309 p ns v p' ns'):ParsP K 308 p ns v p' ns':=by
 intro F w h;obtain ⟨P,hP⟩:∃ P:Ending→World→Prop,ParsR K F w v p' ns'=P:=⟨_,rfl⟩
 rw [hP];have HP:=hZz hP;have HT:Hid (∀ wx tx,PXK K F wx p' ns'→TxV wx tx [⟨#[91]⟩]→Calls prog 185 #[.pointer (some ⟨K.gp,0,none⟩),.int .i64 5,tx] wx fun e w'=>e=.returned (.tuple #[zTokV,.bool false])∧Below wx.heap.size wx w'):=hZz (fun wx tx h1 h2=>zaqY h1 5 h2 hn);have HQ:=hZz (hp F w h);clear hP hn hp h;go_enter func308,ntmps308
 go_wp2_with (first
  | (go_at_call 309;(refine HQ.out.mono ?_);rintro e w1 ⟨rfl,hx1,hk1⟩;have HX1:=hZz hx1;have HK1:=hZz hk1;clear hx1 hk1))
 refine wp_loop_rounds 1 ?_
 rw [rounds_succ]
 go_wp2_with (first
  | (go_at_call 185;(refine (HT.out _ _ (HX1.out.below (zabZ _ _)) (TxV.new w1 [⟨#[91]⟩] (by decide) (by decide))).mono ?_);rintro e w2 ⟨rfl,hb⟩;have HB:=hZz (zadZ hb (zabZ w1 _));clear hb;unfold zTokV))
 rw [← HP.out];exact ⟨rfl,HX1.out.below (zadZ (zabZ _ _) HB.out),HK1.out.trans (KP.of_below (zadZ (zabZ _ _) HB.out))⟩
def cmpT:List ByteArray:=[⟨#[61,61]⟩,⟨#[33,61]⟩,⟨#[60]⟩,⟨#[60,61]⟩,⟨#[62]⟩,⟨#[62,61]⟩]
theorem TxV.cmp (w:World):TxV (w.alloc (.cells #[.string ⟨#[61,61]⟩,.string ⟨#[33,61]⟩,.string ⟨#[60]⟩,.string ⟨#[60,61]⟩,.string ⟨#[62]⟩,.string ⟨#[62,61]⟩] 9)) (.slice (some ⟨w.heap.size,0,none⟩) 6 6) cmpT:=TxV.new w cmpT (by decide) (by decide)
set_option maxHeartbeats 1000000 in
theorem not_x {K:ParC} {p:Nat} {ns:List NodeD} {v p':Nat} {ns':List NodeD} (hn:nextF K.ts p 2 [⟨#[110,111,116]⟩]=false) (hn2:nextF K.ts p' 5 cmpT=false) (hp:ParsP K 303 p ns v p' ns'):ParsP K 292 p ns v p' ns':=by
 intro F w h;obtain ⟨P,hP⟩:∃ P:Ending→World→Prop,ParsR K F w v p' ns'=P:=⟨_,rfl⟩
 rw [hP];have HP:=hZz hP;have HT:Hid (∀ wx tx,PXK K F wx p ns→TxV wx tx [⟨#[110,111,116]⟩]→Calls prog 185 #[.pointer (some ⟨K.gp,0,none⟩),.int .i64 2,tx] wx fun e w'=>e=.returned (.tuple #[zTokV,.bool false])∧Below wx.heap.size wx w'):=hZz (fun wx tx h1 h2=>zaqY h1 2 h2 hn);have HT2:Hid (∀ wx tx,PXK K F wx p' ns'→TxV wx tx cmpT→Calls prog 185 #[.pointer (some ⟨K.gp,0,none⟩),.int .i64 5,tx] wx fun e w'=>e=.returned (.tuple #[zTokV,.bool false])∧Below wx.heap.size wx w'):=hZz (fun wx tx h1 h2=>zaqY h1 5 h2 hn2);have HQ:Hid (∀ F w,PXK K F w p ns→Calls prog 303 #[.pointer (some ⟨K.gp,0,none⟩)] w (ParsR K F w v p' ns')):=hZz hp;have H:=hZz h;have HTA:=hZz (TxV.new w [⟨#[110,111,116]⟩] (by decide) (by decide));clear hP hn hn2 hp h;go_enter func292,ntmps292
 go_wp2_with (first
  | (go_at_call 185;(refine (HT.out _ _ (H.out.below (zabZ _ _)) HTA.out).mono ?_);rintro e w1 ⟨rfl,hb⟩;have HB:=hZz (zadZ hb (zabZ w _));clear hb HTA;unfold zTokV)
  | (go_at_call 303;(refine (HQ.out F _ (H.out.below (zadZ (zabZ _ _) HB.out))).mono ?_);rintro e w2 ⟨rfl,hx,hk⟩;have HX:=hZz hx;have HK:=hZz ((KP.of_below (zadZ (zabZ _ _) HB.out)).trans hk);clear hx hk;have HTB:=hZz (TxV.cmp w2))
  | (go_at_call 185;(refine (HT2.out _ _ (HX.out.below (zabZ _ _)) HTB.out).mono ?_);rintro e w3 ⟨rfl,hb⟩;have HB3:=hZz (zadZ hb (zabZ w2 _));clear hb HTB;unfold zTokV))
 rw [← HP.out];exact ⟨rfl,HX.out.below (zadZ (zabZ _ _) HB3.out),HK.out.trans (KP.of_below (zadZ (zabZ _ _) HB3.out))⟩
end
end
section
section
variable {K:ParC} {p:Nat} {ns:List NodeD} {v p':Nat} {ns':List NodeD}
def nodE (kd:Int) (tt:ByteArray) (ni:Int) (ks:List Int):NodeD:=⟨kd,tt,ni,[],ks⟩
theorem addK_x {F:List Nat} {w:World} (h:PXK K F w p ns) (hl:ns.length≤600) (kd:Int) (tt:ByteArray) (ni:Int) (ks:List Int) {iv:Value} (ho:w.ownsRow K.w0.heap.size 3 1 iv ks.length (ks.map (Value.int .i64))) (hF:∀ g∈F,iv.ownBlock≠some g) :
  Calls prog 187 #[.pointer (some ⟨K.gp,0,none⟩),.agg #[.int .i64 kd,.string tt,.int .i64 ni,.slice none 0 0,iv]] w (ParsR K F w ns.length p (ns ++ [nodE kd tt ni ks])) :=
 add_x (n:=nodE kd tt ni ks) h hl rfl ho hF
theorem add0_x {F:List Nat} {w:World} (h:PXK K F w p ns) (hl:ns.length≤600) (kd:Int) (tt:ByteArray) (ni:Int) :
  Calls prog 187 #[.pointer (some ⟨K.gp,0,none⟩),.agg #[.int .i64 kd,.string tt,.int .i64 ni,.slice none 0 0,.slice none 0 0]] w (ParsR K F w ns.length p (ns ++ [nodE kd tt ni []])) :=
 addK_x h hl kd tt ni [] (World.ownsRow_nil _ _ _ _) (fun g hg e=>by cases e)
def litL:List ByteArray:=[⟨#[110,117,108,108]⟩,⟨#[116,114,117,101]⟩,⟨#[102,97,108,115,101]⟩]
theorem TxV.lit (w:World):TxV (w.alloc (.cells #[.string ⟨#[110,117,108,108]⟩,.string ⟨#[116,114,117,101]⟩,.string ⟨#[102,97,108,115,101]⟩] 9)) (.slice (some ⟨w.heap.size,0,none⟩) 3 3) litL:=TxV.new w litL (by decide) (by decide)
theorem TxV.one (w:World) (x:ByteArray):TxV (w.alloc (.cells #[.string x] 9)) (.slice (some ⟨w.heap.size,0,none⟩) 1 1) [x]:=TxV.new w [x] (by simp) (by simp)
theorem TxV.lit1 (w:World) (o:Obj):TxV ((w.alloc o).alloc (.cells #[.string ⟨#[110,117,108,108]⟩,.string ⟨#[116,114,117,101]⟩,.string ⟨#[102,97,108,115,101]⟩] 9)) (.slice (some ⟨w.heap.size+1,0,none⟩) 3 3) litL:=by
 have:=TxV.lit (w.alloc o)
 rwa [show (w.alloc o).heap.size=w.heap.size+1 from by simp] at this
theorem TxV.one1 (w:World) (o:Obj) (x:ByteArray):TxV ((w.alloc o).alloc (.cells #[.string x] 9)) (.slice (some ⟨w.heap.size+1,0,none⟩) 1 1) [x]:=by
 have:=TxV.one (w.alloc o) x
 rwa [show (w.alloc o).heap.size=w.heap.size+1 from by simp] at this
attribute [local go_sem] zacZ
theorem prim_int (hl:ns.length≤600) {t:Tok} (ht:K.ts[p]? = some t) (hn3:nextF K.ts p 3 []=true):ParsP K 309 p ns ns.length (p+1) (ns ++ [nodE 3 ⟨#[]⟩ t.int []]):=by
 intro F w h;obtain ⟨P,hP⟩:∃ P:Ending→World→Prop,ParsR K F w ns.length (p+1) (ns ++ [nodE 3 ⟨#[]⟩ t.int []])=P:=⟨_,rfl⟩
 rw [hP];have HP:=hZz hP;have HT3:Hid (∀ wx tx,PXK K F wx p ns→TxV wx tx []→Calls prog 185 #[.pointer (some ⟨K.gp,0,none⟩),.int .i64 3,tx] wx fun e w'=>e=.returned (.tuple #[t.val,.bool true])∧PXK K F w' (p+1) ns∧KP K.gp wx w'):=hZz (fun wx tx h1 h2=>zbjY h1 3 h2 hn3 ht);have H:=hZz h;clear hP ht hn3 h;go_enter func309,ntmps309
 go_wp2_with (first
  | (go_at_call 185;(refine (HT3.out _ _ H.out (TxV.nil _)).mono ?_);rintro e w3 ⟨rfl,hx,hk⟩;have HX:=hZz hx;have HK:=hZz hk;clear hx hk;unfold Tok.val)
  | (go_at_call 187;(refine (add0_x (HX.out.below (zabZ _ _)) hl 3 ⟨#[]⟩ t.int).mono ?_);rintro e w4 ⟨rfl,hx,hk⟩;have HX4:=hZz hx;have HK4:=hZz ((HK.out.trans (KP.of_below (zabZ _ _))).trans hk);clear hx hk))
 rw [← HP.out];exact ⟨rfl,HX4.out,HK4.out⟩
theorem prim_str (hl:ns.length≤600) {t:Tok} (ht:K.ts[p]? = some t) (hn3:nextF K.ts p 3 []=false) (hn4:nextF K.ts p 4 []=true):ParsP K 309 p ns ns.length (p+1) (ns ++ [nodE 4 t.text 0 []]):=by
 intro F w h;obtain ⟨P,hP⟩:∃ P:Ending→World→Prop,ParsR K F w ns.length (p+1) (ns ++ [nodE 4 t.text 0 []])=P:=⟨_,rfl⟩
 rw [hP];have HP:=hZz hP;have HT3:Hid (∀ wx tx,PXK K F wx p ns→TxV wx tx []→Calls prog 185 #[.pointer (some ⟨K.gp,0,none⟩),.int .i64 3,tx] wx fun e w'=>e=.returned (.tuple #[zTokV,.bool false])∧Below wx.heap.size wx w'):=hZz (fun wx tx h1 h2=>zaqY h1 3 h2 hn3);have HT4:Hid (∀ wx tx,PXK K F wx p ns→TxV wx tx []→Calls prog 185 #[.pointer (some ⟨K.gp,0,none⟩),.int .i64 4,tx] wx fun e w'=>e=.returned (.tuple #[t.val,.bool true])∧PXK K F w' (p+1) ns∧KP K.gp wx w'):=hZz (fun wx tx h1 h2=>zbjY h1 4 h2 hn4 ht);have H:=hZz h;clear hP ht hn3 hn4 h;go_enter func309,ntmps309
 go_wp2_with (first
  | (go_at_call 185;(refine (HT3.out _ _ H.out (TxV.nil _)).mono ?_);rintro e w3 ⟨rfl,hb⟩;have HB3:=hZz (zadZ (zabZ w3 (.cells #[.int .i64 0,.string ⟨#[]⟩,.int .i64 0,.int .i64 0] 161)) hb);have HX3:=hZz (H.out.below HB3.out);clear hb HT3;unfold zTokV)
  | (go_at_call 185;(refine (HT4.out _ _ HX3.out (TxV.nil _)).mono ?_);rintro e w4 ⟨rfl,hx,hk⟩;have HX:=hZz hx;have HK:=hZz ((KP.of_below HB3.out).trans hk);clear hx hk;unfold Tok.val)
  | (go_at_call 187;(refine (add0_x (HX.out.below (zabZ _ _)) hl 4 t.text 0).mono ?_);rintro e w5 ⟨rfl,hx,hk⟩;have HX4:=hZz hx;have HK4:=hZz ((HK.out.trans (KP.of_below (zabZ _ _))).trans hk);clear hx hk))
 rw [← HP.out];exact ⟨rfl,HX4.out,HK4.out⟩
theorem prim_name (hl:ns.length≤600) {t:Tok} (ht:K.ts[p]? = some t) (hn3:nextF K.ts p 3 []=false) (hn4:nextF K.ts p 4 []=false) (hn2:nextF K.ts p 2 litL=false) (hn1:nextF K.ts p 1 []=true) (hn5:nextF K.ts (p+1) 5 [⟨#[40]⟩]=false):ParsP K 309 p ns ns.length (p+1) (ns ++ [nodE 5 t.text 0 []]):=by
 intro F w h;obtain ⟨P,hP⟩:∃ P:Ending→World→Prop,ParsR K F w ns.length (p+1) (ns ++ [nodE 5 t.text 0 []])=P:=⟨_,rfl⟩
 rw [hP];have HP:=hZz hP;have HT3:Hid (∀ wx tx,PXK K F wx p ns→TxV wx tx []→Calls prog 185 #[.pointer (some ⟨K.gp,0,none⟩),.int .i64 3,tx] wx fun e w'=>e=.returned (.tuple #[zTokV,.bool false])∧Below wx.heap.size wx w'):=hZz (fun wx tx h1 h2=>zaqY h1 3 h2 hn3);have HT4:Hid (∀ wx tx,PXK K F wx p ns→TxV wx tx []→Calls prog 185 #[.pointer (some ⟨K.gp,0,none⟩),.int .i64 4,tx] wx fun e w'=>e=.returned (.tuple #[zTokV,.bool false])∧Below wx.heap.size wx w'):=hZz (fun wx tx h1 h2=>zaqY h1 4 h2 hn4);have HT2:Hid (∀ wx tx,PXK K F wx p ns→TxV wx tx litL→Calls prog 185 #[.pointer (some ⟨K.gp,0,none⟩),.int .i64 2,tx] wx fun e w'=>e=.returned (.tuple #[zTokV,.bool false])∧Below wx.heap.size wx w'):=hZz (fun wx tx h1 h2=>zaqY h1 2 h2 hn2);have HT1:Hid (∀ wx tx,PXK K F wx p ns→TxV wx tx []→Calls prog 185 #[.pointer (some ⟨K.gp,0,none⟩),.int .i64 1,tx] wx fun e w'=>e=.returned (.tuple #[t.val,.bool true])∧PXK K F w' (p+1) ns∧KP K.gp wx w'):=hZz (fun wx tx h1 h2=>zbjY h1 1 h2 hn1 ht);have HT5:Hid (∀ wx tx,PXK K F wx (p+1) ns→TxV wx tx [⟨#[40]⟩]→Calls prog 185 #[.pointer (some ⟨K.gp,0,none⟩),.int .i64 5,tx] wx fun e w'=>e=.returned (.tuple #[zTokV,.bool false])∧Below wx.heap.size wx w'):=hZz (fun wx tx h1 h2=>zaqY h1 5 h2 hn5);have H:=hZz h;clear hP ht hn3 hn4 hn2 hn1 hn5 h;go_enter func309,ntmps309
 go_wp2_with (first
  | (go_at_call 185;(refine (HT3.out _ _ H.out (TxV.nil _)).mono ?_);rintro e w3 ⟨rfl,hb⟩;have HB3:=hZz (zadZ (zabZ w3 (.cells #[.int .i64 0,.string ⟨#[]⟩,.int .i64 0,.int .i64 0] 161)) hb);have HX3:=hZz (H.out.below HB3.out);clear hb HT3;unfold zTokV)
  | (go_at_call 185;(refine (HT4.out _ _ HX3.out (TxV.nil _)).mono ?_);rintro e w4 ⟨rfl,hb⟩;have HB4:=hZz (zadZ (zadZ (zabZ w4 (.cells #[.int .i64 0,.string ⟨#[]⟩,.int .i64 0,.int .i64 0] 161)) hb) HB3.out);have HX4:=hZz (H.out.below HB4.out);have HTL:=hZz (TxV.lit1 w4 (.cells #[.int .i64 0,.string ⟨#[]⟩,.int .i64 0,.int .i64 0] 161));clear hb HT4;unfold zTokV)
  | (go_at_call 185;(refine (HT2.out _ _ (HX4.out.below (zabZ _ _)) HTL.out).mono ?_);rintro e w2 ⟨rfl,hb⟩;have HB2:=hZz (zadZ (zadZ (zabZ w2 (.cells #[.int .i64 0,.string ⟨#[]⟩,.int .i64 0,.int .i64 0] 161)) (zadZ hb (zabZ (w4.alloc (.cells #[.int .i64 0,.string ⟨#[]⟩,.int .i64 0,.int .i64 0] 161)) _))) HB4.out);have HX2:=hZz (H.out.below HB2.out);clear hb HT2 HTL;unfold zTokV)
  | (go_at_call 185;(refine (HT1.out _ _ HX2.out (TxV.nil _)).mono ?_);rintro e w1 ⟨rfl,hx,hk⟩;have HX:=hZz hx;have HK:=hZz ((KP.of_below HB2.out).trans hk);clear hx hk HT1;have HXN:=hZz (HX.out.below (zabZ w1 (.cells #[.int .i64 t.kind,.string t.text,.int .i64 t.int,.int .i64 (t.at_:Int)] 161)));have HTO:=hZz (TxV.one1 w1 (.cells #[.int .i64 t.kind,.string t.text,.int .i64 t.int,.int .i64 (t.at_:Int)] 161) ⟨#[40]⟩);have HBT:Hid (Blk (w1.alloc (.cells #[.int .i64 t.kind,.string t.text,.int .i64 t.int,.int .i64 (t.at_:Int)] 161)) w1.heap.size 161 #[.int .i64 t.kind,.string t.text,.int .i64 t.int,.int .i64 (t.at_:Int)]):=hZz (Blk.new _ _ _);unfold Tok.val)
  | (go_at_call 185;(refine (HT5.out _ _ (HXN.out.below (zabZ _ _)) HTO.out).mono ?_);rintro e w5 ⟨rfl,hb⟩;have HB5:=hZz (zadZ (zabZ w5 (.cells #[.int .i64 0,.string ⟨#[]⟩,.int .i64 0,.int .i64 0] 161)) (zadZ hb (zabZ (w1.alloc (.cells #[.int .i64 t.kind,.string t.text,.int .i64 t.int,.int .i64 (t.at_:Int)] 161)) (.cells #[.string ⟨#[40]⟩] 9))));have HX5:=hZz (HXN.out.below HB5.out);have q5:=(HBT.out.below HB5.out).cell 1 _ rfl;clear hb HT5 HTO;unfold zTokV)
  | (go_at_call 187;(refine (add0_x HX5.out hl 5 t.text 0).mono ?_);rintro e w6 ⟨rfl,hx,hk⟩;have HX6:=hZz hx;have HK6:=hZz ((HK.out.trans (KP.of_below (zadZ HB5.out (zabZ _ _)))).trans hk);clear hx hk))
 rw [← HP.out];exact ⟨rfl,HX6.out,HK6.out⟩
end
end
section
section
variable {K:ParC} {p:Nat} {ns:List NodeD} {v p':Nat} {ns':List NodeD}
theorem PX.sub {F F':List Nat} {w:World} (h:PXK K F w p ns) (hs:∀ g∈F',g∈F):PXK K F' w p ns:=by
 obtain ⟨nx,nv,h1,h2⟩:=h;exact ⟨nx,nv,h1,⟨h2.bel,h2.hp,h2.bp,h2.tk,h2.nd,h2.fu,h2.kids,fun q hq g hg=>h2.kd q hq g (hs g hg),h2.pars,fun g hg=>h2.fb g (hs g hg),h2.tl⟩⟩
theorem PX.grow {F:List Nat} {w w':World} {n:Nat} {v v':Value} {xs:List Value} (h:PXK K (v.ownBlock.toList ++ F) w p ns) (ho:w.ownsRow K.w0.heap.size 3 1 v n xs) (hg:w.grownBy w' v.ownBlock) (hv:∀ g,v'.ownBlock=some g→v.ownBlock=some g∨w.heap.size≤g) (hlt:∀ g,v'.ownBlock=some g→g<w'.heap.size):PXK K (v'.ownBlock.toList ++ F) w' p ns:=by
 obtain ⟨nx,nv,h1,h⟩:=h
 have hne:∀ {n size:Nat} {e:TypeId} {u:Value} {xs:List Value},w.ownsRow K.w0.heap.size e size u n xs→e≠3→w'.ownsRow K.w0.heap.size e size u n xs:=fun ho' he=>zaaY ho' hg (fun k hk=>by
  obtain ⟨_,cs,hB⟩:=zakY ho hk;exact zagZ ho' hB he)
 refine ⟨nx,nv,h1,h.bel.grown hg h.bel.size (fun k hk=>(ho.lt k hk).1),h.hp,h.bp.grown hg (zagZ ho h.bp (by decide)),hne h.tk (by decide),hne h.nd (by decide),hne h.fu (by decide),fun q hq=>⟨zaaY (h.kids q hq).1 hg (fun k hk e=>h.kd q hq k (by simp [hk]) e.symm),(h.kids q hq).2⟩,fun q hq g hg' e=>?_,fun q hq=>hne (h.pars q hq) (by decide),fun g hg'=>?_,h.tl⟩
 ·rcases List.mem_append.1 hg' with hm | hm
  ·rcases hv g (by simpa using hm) with e' | e'
   ·exact h.kd q hq g (by simp [e']) e
   ·obtain ⟨_,cs,hB⟩:=zakY (h.kids q hq).1 e
    have:=hB.lt
    omega
  ·exact h.kd q hq g (by simp [hm]) e
 ·rcases List.mem_append.1 hg' with hm | hm
  ·exact hlt g (by simpa using hm)
  ·exact Nat.lt_of_lt_of_le (h.fb g (by simp [hm])) hg.size
attribute [local go_sem] zacZ
theorem TxV.two (w:World) (x y:ByteArray):TxV (w.alloc (.cells #[.string x,.string y] 9)) (.slice (some ⟨w.heap.size,0,none⟩) 2 2) [x,y]:=TxV.new w [x,y] (by simp) (by simp)
set_option maxHeartbeats 4000000 in
theorem list1_x (fid:FuncId) (caps:Array Value) (close:ByteArray) (hent:∀ args w,(callFunc fid args).run prog w=.ok (.enter fid args) w) {F:List Nat} (hn:nextF K.ts p 5 [close]=false) (Q0:World→Prop) (Q1:List Nat→World→Prop) (hq0:∀ a b,Q0 a→Below a.heap.size a b→Q0 b)
  (hq1:∀ F a b,PXK K F a p' ns'→Q1 F a→KP K.gp a b→Q1 F b) (hc:∀ wx,PXK K F wx p ns→Q0 wx→Calls prog fid caps wx fun e w'=>e=.returned (.tuple #[])∧∃ F',PXK K F' w' p' ns'∧Q1 F' w')
  (hn2:nextF K.ts p' 5 [⟨#[44]⟩,close]=true) {t:Tok} (ht:K.ts[p']? = some t) (htc:(t.text.toList == close.toList)=true) {w:World} (h:PXK K F w p ns) (h0:Q0 w) :
  Calls prog 127 #[.pointer (some ⟨K.gp,0,none⟩),.string close,.func (.func fid) #[] caps] w fun e w'=>e=.returned (.tuple #[])∧∃ F',PXK K F' w' (p' + 1) ns'∧Q1 F' w':=by
 obtain ⟨P,hP⟩:∃ P:Ending→World→Prop,(fun e w'=>e=.returned (.tuple #[])∧∃ F',PXK K F' w' (p' + 1) ns'∧Q1 F' w')=P:=⟨_,rfl⟩
 rw [hP];have HP:=hZz hP;have HT:Hid (∀ wx tx,PXK K F wx p ns→TxV wx tx [close]→Calls prog 185 #[.pointer (some ⟨K.gp,0,none⟩),.int .i64 5,tx] wx fun e w'=>e=.returned (.tuple #[zTokV,.bool false])∧Below wx.heap.size wx w'):=hZz (fun wx tx h1 h2=>zaqY h1 5 h2 hn);have HM:Hid (∀ F wx tx,PXK K F wx p' ns'→TxV wx tx [⟨#[44]⟩,close]→Calls prog 126 #[.pointer (some ⟨K.gp,0,none⟩),.int .i64 5,tx] wx fun e w'=>e=.returned t.val∧PXK K F w' (p' + 1) ns'∧KP K.gp wx w'):=hZz (fun F wx tx h1 h2=>zc3Y h1 5 h2 hn2 ht);have HC:=hZz hc;have HQ0:=hZz hq0;have HQ1:=hZz hq1;have HW0:=hZz h0;have H:=hZz h;have HTC:=hZz htc;have HTA:=hZz (TxV.one w close);clear hP hn hc hq0 hq1 hn2 ht h h0 htc;go_enter func127,ntmps127
 go_wp2_with (first
  | (go_at_call 185;(refine (HT.out _ _ (H.out.below (zabZ _ _)) HTA.out).mono ?_);rintro e w1 ⟨rfl,hb⟩;have HB:=hZz (zadZ (zabZ w1 (.cells #[.int .i64 0,.string ⟨#[]⟩,.int .i64 0,.int .i64 0] 161)) (zadZ hb (zabZ w _)));clear hb HTA HT;unfold zTokV))
 refine wp_loop_rounds 1 ?_
 rw [rounds_succ]
 go_wp2_with (first
  | (go_at_fn fid;((refine Calls.mono (HC.out _ (H.out.below HB.out) (HQ0.out _ _ HW0.out HB.out)) ?_);rintro e w2 ⟨rfl,F',hx,hq⟩;have HX:=hZz hx;have HQ:=hZz hq;clear hx hq;have HTB:=hZz (TxV.two w2 ⟨#[44]⟩ close)))
  | (go_at_call 126;(refine (HM.out _ _ _ (HX.out.below (zabZ _ _)) HTB.out).mono ?_);rintro e w3 ⟨rfl,hx,hk⟩;have HX3:=hZz hx;have HK3:=hZz ((KP.of_below (zabZ w2 _)).trans hk);clear hx hk HTB;unfold Tok.val;have hh:=HTC.out))
 go_returns;rw [← HP.out];exact ⟨rfl,F',HX3.out.below (zabZ _ _),HQ1.out _ _ _ HX.out HQ.out (HK3.out.trans (KP.of_below (zabZ _ _)))⟩
end
end
section
section
variable {K:ParC} {p:Nat} {ns:List NodeD} {v p':Nat} {ns':List NodeD}
structure RowK (K:ParC) (wS:World) (g5:Nat) (F:List Nat) (w:World) (p:Nat) (ns:List NodeD) (ks:List Int) (u:Value):Prop where
 px:PXK K (u.ownBlock.toList ++ F) w p ns
 ow:w.ownsRow K.w0.heap.size 3 1 u ks.length (ks.map (Value.int .i64))
 b5:Blk w g5 85 #[u]
 kp:KP K.gp wS w
 g5n:wS.heap.size≤g5
 s0:K.w0.heap.size≤wS.heap.size
 un:∀ g,u.ownBlock=some g→wS.heap.size≤g
theorem KP.rowN {gp:Nat} {wS w1 w6:World} {row:Option Nat} (h:KP gp wS w1) (hg:w1.grownBy w6 row) (hn:∀ g,row=some g→wS.heap.size≤g):KP gp wS w6 :=
 ⟨hg.os.trans h.os,hg.tape.trans h.tape,hg.output.trans h.output,Nat.le_trans h.size hg.size,fun j o hj h1 h2=>(hg.block j (Nat.lt_of_lt_of_le (lt_of_block hj) h.size) (fun e=>by have:=hn j e.symm;have:=lt_of_block hj;omega)).trans (h.block j o hj h1 h2)⟩
theorem PX.setO {F:List Nat} {w:World} {g:Nat} {t:TypeId} {cs:Array Value} (h:PXK K F w p ns) (hB:Blk w g t cs) (h1:t≠119∧t≠161∧t≠87∧t≠89∧t≠3∧t≠9) (hg:K.w0.heap.size≤g) (j:Nat) (u:Value):PXK K F (w.setCell ⟨g,j,none⟩ u) p ns:=by
 obtain ⟨nx,nv,hh,h⟩:=h;have hgr:=zamZ w g j u;have hne:∀ {n size:Nat} {e:TypeId} {v:Value} {xs:List Value},w.ownsRow K.w0.heap.size e size v n xs→t≠e→(w.setCell ⟨g,j,none⟩ u).ownsRow K.w0.heap.size e size v n xs:=fun ho he=>zaaY ho hgr (fun k hk=>by injection hk with hk;subst hk;exact zagZ ho hB (fun e=>he e.symm))
 have hgp:K.gp≠g:=fun e=>za7Y h.bp hB (fun e=>h1.1 e.symm) e
 exact ⟨nx,nv,hh,h.bel.grown hgr h.bel.size (fun k hk=>by injection hk with hk;omega),h.hp,h.bp.far (p:=⟨g,j,none⟩) hgp u,hne h.tk h1.2.1,hne h.nd h1.2.2.1,hne h.fu h1.2.2.2.1,fun q hq=>⟨hne (h.kids q hq).1 h1.2.2.2.2.1,(h.kids q hq).2⟩,h.kd,fun q hq=>hne (h.pars q hq) h1.2.2.2.2.2,fun g hg=>(by simpa using h.fb g hg),h.tl⟩
attribute [local go_sem] zacZ
theorem exprs1_x (he:ParsP K 240 p ns v p' ns') {wS:World} {F:List Nat} {w:World} {g5 gb:Nat} {ks:List Int} {u:Value} (h:RowK K wS g5 F w p ns ks u) (hb:Blk w gb 117 #[.pointer (some ⟨K.gp,0,none⟩)]) (hl:ks.length≤100) :
  Calls prog 312 #[.pointer (some ⟨g5,0,none⟩),.pointer (some ⟨gb,0,none⟩)] w fun e w'=>e=.returned (.tuple #[])∧∃ u',RowK K wS g5 F w' p' ns' (ks ++ [(v:Int)]) u':=by
 obtain ⟨i1,hj,hy0,hy1,hy2⟩:=info_parts Tryz.infoIntS;obtain ⟨P,hP⟩:∃ P:Ending→World→Prop,(fun e w'=>e=.returned (.tuple #[])∧∃ u',RowK K wS g5 F w' p' ns' (ks ++ [(v:Int)]) u')=P:=⟨_,rfl⟩
 rw [hP];have HP:=hZz hP;obtain ⟨A,cap,hu⟩:=zaeZ h.ow;obtain ⟨N,hN⟩:∃ N,ks.length=N:=⟨_,rfl⟩
 rw [hN] at hu;subst hu;have HR:=hZz h;have HN:=hZz hN;have hN1:N≤100:=by omega
 have hne:g5≠K.gp:=by have:=h.px.lt;obtain ⟨nx,nv,_,hs⟩:=h.px;exact fun e=>za7Y h.b5 hs.bp (by decide) e
 have HE:Hid (∀ wx,Below w.heap.size w wx→Calls prog 240 #[.pointer (some ⟨K.gp,0,none⟩)] wx (ParsR K ((Value.slice A N cap).ownBlock.toList ++ F) wx v p' ns')):=hZz (fun wx hbx=>he _ _ (h.px.below hbx));have o0:=h.b5.cell 0 _ rfl;have ob:=hb.cell 0 _ rfl;have HO:Hid (w.ownsRow K.w0.heap.size 3 1 (.slice A N cap) N (ks.map (Value.int .i64))):=hZz (by have:=h.ow;rw [hN] at this;exact this);have HBB:=hZz hb;have HNE:=hZz hne;clear hP he h hb hl hN hne;go_enter func312,ntmps312
 go_region_law (first
  | (go_simp;go_at_call 240;(refine (HE.out _ (zafZ w)).mono ?_);rintro e1 w1 ⟨rfl,hx1,hk1⟩;have HX1:=hZz hx1;have hkw:KP K.gp w w1:=((KP.of_below (zafZ w)).trans hk1);have HK1:=hZz hkw;have HB5:=hZz (hkw.blk HR.out.b5 HNE.out (by decide) (by decide));have o1:=HB5.out.cell 0 _ rfl;have HOA:Hid ((w1.alloc (.cells #[.int .i64 (v:Int)] 3)).ownsRow K.w0.heap.size 3 1 (.slice A N cap) N (ks.map (Value.int .i64))):=hZz (zajZ (hkw.own HO.out (fun g hg e=>by subst e;obtain ⟨nx,nv,_,hs⟩:=HR.out.px;obtain ⟨_,cs,hB⟩:=zakY HO.out hg;exact za7Y hB hs.bp (by decide) rfl) (by decide) (by decide)) (zabZ w1 _));have hsz:K.w0.heap.size≤(w1.alloc (.cells #[.int .i64 (v:Int)] 3)).heap.size:=Nat.le_trans HX1.out.ge (by simp);clear hx1 hk1 hkw)
  | (rw [if_pos (by rfl)];refine wp_append_lies _ (.tmp 2) (.tmp 5) 85 rfl K.w0.heap.size 3 i1 _ 1 8 underlying85 hj hy0 hy1 hy2 rfl ?k1 _ N _ rfl HOA.out ⟨w1.heap.size,0,none⟩ 1 1 [.int .i64 (v:Int)] rfl rfl (za3Y w1 _ _) ?k2 ?k3 ?k4 ?k5 ?k6 _ rfl ?_;(case k1=>decide);(case k2=>simp [Value.oneCell']);(case k3=>decide);(case k4=>(unfold maxLen;omega));(case k5=>omega);(case k6=>exact hsz);intro g6 cap6 w6 hown6 hgr6 hgg6 hlt6;have HG6:=hZz ((HB5.out.below (zabZ w1 (.cells #[.int .i64 (v:Int)] 3))).grown hgr6 (zagZ HOA.out (HB5.out.below (zabZ w1 _)) (by decide)));have z6:=HG6.out.frozen 0;have o6:=HG6.out.cell 0 _ rfl;have HO6:=hZz hown6;have HGR:=hZz hgr6;have HGG:=hZz hgg6;have HLT:=hZz hlt6;clear hown6 hgr6 hgg6 hlt6))
 all_goals
  go_wp2_with (fail)
  go_returns;rw [← HP.out];have hgr:(w1.alloc (.cells #[.int .i64 (v:Int)] 3)).grownBy w6 (Value.slice A N cap).ownBlock:=HGR.out;have hgg:(Value.slice A N cap).ownBlock=some g6∨g6=(w1.alloc (.cells #[.int .i64 (v:Int)] 3)).heap.size:=HGG.out;have hkn:KP K.gp w (w1.alloc (.cells #[.int .i64 (v:Int)] 3)):=HK1.out.trans (KP.of_below (zabZ w1 _))
  have hp6:=PX.grow (v':=.slice (some ⟨g6,0,none⟩) (N+1) cap6) (HX1.out.below (zabZ w1 (.cells #[.int .i64 (v:Int)] 3))) HOA.out hgr (fun g hg=>by
   have e:g6=g:=Option.some.inj hg;rw [← e];rcases hgg with h | h
   ·exact .inl h
   ·exact .inr (by rw [h];exact Nat.le_refl _)) (fun g hg=>by
   have e:g6=g:=Option.some.inj hg;rw [← e];exact HLT.out)
  refine ⟨rfl,.slice (some ⟨g6,0,none⟩) (N+1) cap6,hp6.setO HG6.out (by decide) (Nat.le_trans HR.out.s0 HR.out.g5n) 0 _,?_,HG6.out.set_ 0 _,?_,HR.out.g5n,HR.out.s0,fun g hg=>?_⟩
  ·have:=zaaY HO6.out (zamZ w6 g5 0 (.slice (some ⟨g6,0,none⟩) (N+1) cap6)) (fun k hk=>by injection hk with hk;subst hk;exact zagZ HO6.out HG6.out (by decide))
   rw [List.length_append,HN.out,List.map_append];exact this
  ·exact (((HR.out.kp.trans hkn).rowN hgr HR.out.un).setN HR.out.g5n _ _)
  ·have e:g6=g:=Option.some.inj hg
   rw [← e];rcases hgg with h | h
   ·exact HR.out.un _ h
   ·rw [h]
    exact (HR.out.kp.trans hkn).size
end
end
section
section
variable {K:ParC} {p:Nat} {ns:List NodeD} {v p':Nat} {ns':List NodeD}
theorem PX.fb {F:List Nat} {w:World} (h:PXK K F w p ns):∀ g∈F,g<w.heap.size:=by
 obtain ⟨nx,nv,_,h⟩:=h;exact h.fb
theorem PX.ne {F:List Nat} {w:World} (h:PXK K F w p ns) {g:Nat} {t:TypeId} {cs:Array Value} (hB:Blk w g t cs) (ht:t≠119):g≠K.gp:=by
 obtain ⟨nx,nv,_,h⟩:=h;exact fun e=>za7Y hB h.bp ht e
attribute [local go_sem] zacZ
def ExprsR (K:ParC) (F:List Nat) (w:World) (ks:List Int) (p:Nat) (ns:List NodeD) (e:Ending) (w':World):Prop:=∃ u,e=.returned u∧PXK K F w' p ns∧w'.ownsRow K.w0.heap.size 3 1 u ks.length (ks.map (Value.int .i64))∧(∀ g∈F,u.ownBlock≠some g)∧KP K.gp w w'
set_option maxHeartbeats 4000000 in
theorem exprs_x (close:ByteArray) (he:ParsP K 240 p ns v p' ns') (hn:nextF K.ts p 5 [close]=false) (hn2:nextF K.ts p' 5 [⟨#[44]⟩,close]=true) {t:Tok} (ht:K.ts[p']? = some t) (htc:(t.text.toList == close.toList)=true) {F:List Nat} {w:World} (h:PXK K F w p ns) :
  Calls prog 310 #[.pointer (some ⟨K.gp,0,none⟩),.string close] w (ExprsR K F w [(v:Int)] (p' + 1) ns'):=by
 obtain ⟨P,hP⟩:∃ P:Ending→World→Prop,ExprsR K F w [(v:Int)] (p' + 1) ns'=P:=⟨_,rfl⟩
 rw [hP];have HP:=hZz hP;obtain ⟨gb,hgb⟩:∃ g,w.heap.size=g:=⟨_,rfl⟩
 obtain ⟨W,hW⟩:∃ W,(w.alloc (.cells #[.pointer (some ⟨K.gp,0,none⟩)] 117)).alloc (.cells #[.slice none 0 0] 85)=W:=⟨_,rfl⟩
 have hbW:Below w.heap.size w W:=by rw [← hW];exact zasY _ _ _
 have hBb:Blk W gb 117 #[.pointer (some ⟨K.gp,0,none⟩)]:=by rw [← hW,← hgb];exact (Blk.new w _ _).alloc _
 have hB5:Blk W (gb+1) 85 #[.slice none 0 0]:=by rw [← hW,← hgb];exact Blk.second _ _ _ _
 obtain ⟨g5,hg5⟩:∃ g,gb+1=g:=⟨_,rfl⟩
 rw [hg5] at hB5;have hge:=h.ge;have hpxW:=h.below hbW;have hn5:g5≠K.gp:=hpxW.ne hB5 (by decide)
 have HL:=hZz (list1_x (K:=K) (p:=p) (ns:=ns) (p':=p') (ns':=ns') 312 #[.pointer (some ⟨g5,0,none⟩),.pointer (some ⟨gb,0,none⟩)] close (enters_of func312 (by kernel_rfl) rfl) (F:=F) hn
  (fun a=>Blk a g5 85 #[.slice none 0 0]∧Blk a gb 117 #[.pointer (some ⟨K.gp,0,none⟩)]∧KP K.gp w a)
  (fun F' a=>∃ u,F'=u.ownBlock.toList ++ F∧a.ownsRow K.w0.heap.size 3 1 u 1 [.int .i64 (v:Int)]∧Blk a g5 85 #[u]∧KP K.gp w a∧∀ g,u.ownBlock=some g→w.heap.size≤g)
  (fun a b ⟨h1,h2,h3⟩ hb=>⟨h1.below hb,h2.below hb,h3.trans (KP.of_below hb)⟩)
  (fun F' a b hx ⟨u,e,h1,h2,h3,h4⟩ hk=>⟨u,e,hk.own h1 (fun g hg e=>by
   subst e;obtain ⟨_,cs,hB⟩:=zakY h1 hg;exact hx.ne hB (by decide) rfl) (by decide) (by decide),hk.blk h2 hn5 (by decide) (by decide),h3.trans hk,h4⟩)
  (fun wx hx ⟨h1,h2,h3⟩=>by
   refine (exprs1_x (wS:=w) (F:=F) (ks:=[]) (u:=.slice none 0 0) he ⟨hx,World.ownsRow_nil _ _ _ _,h1,h3,by omega,hge,fun g hg=>by cases hg⟩ h2 (by decide)).mono ?_
   rintro e w' ⟨rfl,u',hr⟩;exact ⟨rfl,_,hr.px,u',rfl,hr.ow,hr.b5,hr.kp,hr.un⟩)
  hn2 ht htc hpxW ⟨hB5,hBb,KP.of_below hbW⟩)
 have HFB:=hZz h.fb;have HGE:=hZz hge;have HBb:=hZz hBb;have ob:=hBb.cell 0 _ rfl;have HW:=hZz hW;have HGB:=hZz hgb;have HG5:=hZz hg5;clear hP he hn hn2 ht htc h hge hBb hB5 hW hgb hg5 hpxW hbW hn5;go_enter func310,ntmps310
 go_upto_region 2 with fail
 rw [HW.out,HGB.out,HG5.out]
 go_wp2_with (first
  | (go_at_call 127;(refine HL.out.mono ?_);rintro e w1 ⟨rfl,F',hx,u,hF,hu,hb5,hk,hun⟩;have HX:=hZz hx;have HU:=hZz hu;have HK:=hZz hk;have HUN:=hZz hun;have HF:=hZz hF;have q5:=hb5.cell 0 _ rfl;clear hx hu hk hun hF hb5))
 rw [← HP.out];exact ⟨u,rfl,HX.out.sub (fun g hg=>by rw [HF.out];simp [hg]),HU.out,fun g hg e=>by have:=HUN.out g e;have:=HFB.out g hg;omega,HK.out⟩
end
end
section
section
variable {K:ParC} {p:Nat} {ns:List NodeD} {v p':Nat} {ns':List NodeD}
theorem next_p {F:List Nat} {w:World} (h:PXK K F w p ns) (k:Int) {tx:Value} {l:List ByteArray} (hx:TxV w tx l):Calls prog 237 #[.pointer (some ⟨K.gp,0,none⟩),.int .i64 k,tx] w fun e w'=>e=.returned (.bool (nextF K.ts p k l))∧Below w.heap.size w w':=by
 obtain ⟨nx,nv,_,h⟩:=h;exact next_x h k hx
attribute [local go_sem] zacZ
theorem prim_host (hl:ns'.length≤600) {t t2 t3:Tok} (ht:K.ts[p]? = some t) (hn3:nextF K.ts p 3 []=false) (hn4:nextF K.ts p 4 []=false) (hn2:nextF K.ts p 2 litL=false) (hn1:nextF K.ts p 1 []=false) (hn6:nextF K.ts p 6 []=true) (hn7:nextF K.ts (p+1) 5 [⟨#[40]⟩]=true) (ht2:K.ts[p+1]? = some t2) (he:ParsP K 240 (p+1+1) ns v p' ns') (hn8:nextF K.ts (p+1+1) 5 [⟨#[41]⟩]=false) (hn9:nextF K.ts p' 5 [⟨#[44]⟩,⟨#[41]⟩]=true) (ht3:K.ts[p']? = some t3) (htc:(t3.text.toList == (⟨#[41]⟩:ByteArray).toList)=true):ParsP K 309 p ns ns'.length (p' + 1) (ns' ++ [nodE 12 t.text 0 [(v:Int)]]):=by
 intro F w h;obtain ⟨P,hP⟩:∃ P:Ending→World→Prop,ParsR K F w ns'.length (p' + 1) (ns' ++ [nodE 12 t.text 0 [(v:Int)]])=P:=⟨_,rfl⟩
 rw [hP];have HP:=hZz hP;have HT3:Hid (∀ wx tx,PXK K F wx p ns→TxV wx tx []→Calls prog 185 #[.pointer (some ⟨K.gp,0,none⟩),.int .i64 3,tx] wx fun e w'=>e=.returned (.tuple #[zTokV,.bool false])∧Below wx.heap.size wx w'):=hZz (fun wx tx h1 h2=>zaqY h1 3 h2 hn3);have HT4:Hid (∀ wx tx,PXK K F wx p ns→TxV wx tx []→Calls prog 185 #[.pointer (some ⟨K.gp,0,none⟩),.int .i64 4,tx] wx fun e w'=>e=.returned (.tuple #[zTokV,.bool false])∧Below wx.heap.size wx w'):=hZz (fun wx tx h1 h2=>zaqY h1 4 h2 hn4);have HT2:Hid (∀ wx tx,PXK K F wx p ns→TxV wx tx litL→Calls prog 185 #[.pointer (some ⟨K.gp,0,none⟩),.int .i64 2,tx] wx fun e w'=>e=.returned (.tuple #[zTokV,.bool false])∧Below wx.heap.size wx w'):=hZz (fun wx tx h1 h2=>zaqY h1 2 h2 hn2);have HT1:Hid (∀ wx tx,PXK K F wx p ns→TxV wx tx []→Calls prog 185 #[.pointer (some ⟨K.gp,0,none⟩),.int .i64 1,tx] wx fun e w'=>e=.returned (.tuple #[zTokV,.bool false])∧Below wx.heap.size wx w'):=hZz (fun wx tx h1 h2=>zaqY h1 1 h2 hn1)
 have HT6:Hid (∀ wx tx,PXK K F wx p ns→TxV wx tx []→Calls prog 237 #[.pointer (some ⟨K.gp,0,none⟩),.int .i64 6,tx] wx fun e w'=>e=.returned (.bool true)∧Below wx.heap.size wx w'):=hZz (fun wx tx h1 h2=>by
  have:=next_p h1 6 h2
  rw [hn6] at this;exact this)
 have HM6:Hid (∀ wx tx,PXK K F wx p ns→TxV wx tx []→Calls prog 126 #[.pointer (some ⟨K.gp,0,none⟩),.int .i64 6,tx] wx fun e w'=>e=.returned t.val∧PXK K F w' (p+1) ns∧KP K.gp wx w'):=hZz (fun wx tx h1 h2=>zc3Y h1 6 h2 hn6 ht);have HM7:Hid (∀ wx tx,PXK K F wx (p+1) ns→TxV wx tx [⟨#[40]⟩]→Calls prog 126 #[.pointer (some ⟨K.gp,0,none⟩),.int .i64 5,tx] wx fun e w'=>e=.returned t2.val∧PXK K F w' (p+1+1) ns∧KP K.gp wx w'):=hZz (fun wx tx h1 h2=>zc3Y h1 5 h2 hn7 ht2);have HEX:Hid (∀ wx,PXK K F wx (p+1+1) ns→Calls prog 310 #[.pointer (some ⟨K.gp,0,none⟩),.string ⟨#[41]⟩] wx (ExprsR K F wx [(v:Int)] (p' + 1) ns')):=hZz (fun wx h1=>exprs_x ⟨#[41]⟩ he hn8 hn9 ht3 htc h1);have H:=hZz h;clear hP ht hn3 hn4 hn2 hn1 hn6 hn7 ht2 he hn8 hn9 ht3 htc h;go_enter func309,ntmps309
 go_upto_region 24 with (first
  | (go_at_call 185;(refine (HT3.out _ _ H.out (TxV.nil _)).mono ?_);rintro e w3 ⟨rfl,hb⟩;have HB3:=hZz (zadZ (zabZ w3 (.cells #[.int .i64 0,.string ⟨#[]⟩,.int .i64 0,.int .i64 0] 161)) hb);have HX3:=hZz (H.out.below HB3.out);clear hb HT3;unfold zTokV)
  | (go_at_call 185;(refine (HT4.out _ _ HX3.out (TxV.nil _)).mono ?_);rintro e w4 ⟨rfl,hb⟩;have HB4:=hZz (zadZ (zadZ (zabZ w4 (.cells #[.int .i64 0,.string ⟨#[]⟩,.int .i64 0,.int .i64 0] 161)) hb) HB3.out);have HX4:=hZz (H.out.below HB4.out);have HTL:=hZz (TxV.lit1 w4 (.cells #[.int .i64 0,.string ⟨#[]⟩,.int .i64 0,.int .i64 0] 161));clear hb HT4;unfold zTokV)
  | (go_at_call 185;(refine (HT2.out _ _ (HX4.out.below (zabZ _ _)) HTL.out).mono ?_);rintro e w2 ⟨rfl,hb⟩;have HB2:=hZz (zadZ (zadZ (zabZ w2 (.cells #[.int .i64 0,.string ⟨#[]⟩,.int .i64 0,.int .i64 0] 161)) (zadZ hb (zabZ (w4.alloc (.cells #[.int .i64 0,.string ⟨#[]⟩,.int .i64 0,.int .i64 0] 161)) _))) HB4.out);have HX2:=hZz (H.out.below HB2.out);clear hb HT2 HTL;unfold zTokV)
  | (go_at_call 185;(refine (HT1.out _ _ HX2.out (TxV.nil _)).mono ?_);rintro e w1 ⟨rfl,hb⟩;have HB1:=hZz (zadZ (zadZ (zabZ w1 (.cells #[.int .i64 0,.string ⟨#[]⟩,.int .i64 0,.int .i64 0] 161)) hb) HB2.out);have HX1:=hZz (H.out.below HB1.out);clear hb HT1;unfold zTokV)
  | (go_at_call 237;(refine (HT6.out _ _ HX1.out (TxV.nil _)).mono ?_);rintro e w6 ⟨rfl,hb⟩;have HB6:=hZz (zadZ hb HB1.out);have HX6:=hZz (H.out.below HB6.out);clear hb HT6)
  | (go_at_call 126;(refine (HM6.out _ _ HX6.out (TxV.nil _)).mono ?_);rintro e w7 ⟨rfl,hx,hk⟩;have HX7:=hZz (hx.below (zabZ w7 (.cells #[.int .i64 t.kind,.string t.text,.int .i64 t.int,.int .i64 (t.at_:Int)] 161)));have HK7:=hZz (((KP.of_below HB6.out).trans hk).trans (KP.of_below (zabZ w7 (.cells #[.int .i64 t.kind,.string t.text,.int .i64 t.int,.int .i64 (t.at_:Int)] 161))));have HBT:Hid (Blk (w7.alloc (.cells #[.int .i64 t.kind,.string t.text,.int .i64 t.int,.int .i64 (t.at_:Int)] 161)) w7.heap.size 161 #[.int .i64 t.kind,.string t.text,.int .i64 t.int,.int .i64 (t.at_:Int)]):=hZz (Blk.new _ _ _);have HTO:=hZz (TxV.one1 w7 (.cells #[.int .i64 t.kind,.string t.text,.int .i64 t.int,.int .i64 (t.at_:Int)] 161) ⟨#[40]⟩);clear hx hk HM6;unfold Tok.val)
  | (go_at_call 126;(refine (HM7.out _ _ (HX7.out.below (zabZ _ _)) HTO.out).mono ?_);rintro e w8 ⟨rfl,hx,hk⟩;have HX8:=hZz hx;have hk8:=((KP.of_below (zabZ (w7.alloc (.cells #[.int .i64 t.kind,.string t.text,.int .i64 t.int,.int .i64 (t.at_:Int)] 161)) (.cells #[.string ⟨#[40]⟩] 9))).trans hk:KP K.gp (w7.alloc (.cells #[.int .i64 t.kind,.string t.text,.int .i64 t.int,.int .i64 (t.at_:Int)] 161)) w8);have HK8:=hZz (HK7.out.trans hk8);have HB8:=hZz (hk8.blk HBT.out (HX7.out.ne HBT.out (by decide)) (by decide) (by decide));clear hx hk hk8 HM7 HTO))
 obtain ⟨g,hg⟩:∃ g,w7.heap.size=g:=⟨_,rfl⟩
 rw [hg] at HB8 ⊢;have o8:=HB8.out.cell 1 _ rfl;have hng:g≠K.gp:=HX8.out.ne HB8.out (by decide);have HNG:=hZz hng;clear hg hng HBT HX7 HK7 HX6 HB6 HX1 HB1 HX2 HB2 HX4 HB4 HX3 HB3
 go_region_law (first
  | (go_simp;go_at_call 310;(refine (HEX.out _ (HX8.out.below (zafZ _))).mono ?_);rintro e w9 ⟨u,rfl,hx,hu,hf,hk⟩;obtain ⟨uA,uc,rfl⟩:=zaeZ hu;have HX9:=hZz hx;have HU:=hZz hu;have HF9:=hZz hf;have hk9:=((KP.of_below (zafZ w8)).trans hk:KP K.gp w8 w9);have HK9:=hZz (HK8.out.trans hk9);have o9:=(hk9.blk HB8.out HNG.out (by decide) (by decide)).cell 1 _ rfl;clear hx hu hf hk hk9)
  | (go_simp;go_at_call 187;(refine (addK_x HX9.out hl 12 t.text 0 [(v:Int)] HU.out HF9.out).mono ?_);rintro e w10 ⟨rfl,hx,hk⟩;have HX10:=hZz hx;have HK10:=hZz (HK9.out.trans hk);clear hx hk))
 all_goals go_wp2_with (fail)
 all_goals
  go_returns;rw [← HP.out];exact ⟨rfl,HX10.out,HK10.out⟩
end
end
end Go.Proofs.YtekdhlfapejijaaGreatDoor
