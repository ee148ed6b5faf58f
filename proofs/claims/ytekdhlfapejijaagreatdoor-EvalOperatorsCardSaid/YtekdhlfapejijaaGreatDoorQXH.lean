/- XF, XG, XH -/
import Derived.Test.YtekdhlfapejijaaGreatDoorQXE
set_option linter.unusedVariables false
set_option linter.unusedSimpArgs false
namespace Go.Proofs.YtekdhlfapejijaaGreatDoor
open Go.RowKit
set_option maxRecDepth 100000
set_option maxHeartbeats 8000000
open Go.Proofs.Tryz
section
section
variable {K:ParC} {p:Nat} {ns:List NodeD} {v p':Nat} {ns':List NodeD}
attribute [local go_sem] zacZ
theorem TxV.kp {gp:Nat} {w w':World} {tx:Value} {l:List ByteArray} (h:TxV w tx l) (hk:KP gp w w') (hne:∀ b,tx.ownBlock=some b→b≠gp):TxV w' tx l:=by
 rcases h with h | ⟨b,rfl,hb,h3⟩
 ·exact .inl h
 ·exact .inr ⟨b,rfl,hk.blk hb (hne b rfl) (by decide) (by decide),h3⟩
theorem chain_unary (k:Int) (l:List ByteArray) (hn:nextF K.ts p' k l=false) (hp:ParsP K 307 p ns v p' ns') (F:List Nat) (w:World) (h:PXK K F w p ns) (tx:Value) (hx:TxV w tx l) (hk:∀ b,tx.ownBlock=some b→b≠K.gp) :
  Calls prog 268 #[.pointer (some ⟨K.gp,0,none⟩),.func (.func 307) #[.pointer (some ⟨K.gp,0,none⟩)] #[],.int .i64 k,tx] w (ParsR K F w v p' ns'):=by
 obtain ⟨P,hP⟩:∃ P:Ending→World→Prop,ParsR K F w v p' ns'=P:=⟨_,rfl⟩
 rw [hP];have HP:=hZz hP;have HT:Hid (∀ wx,PXK K F wx p' ns'→TxV wx tx l→Calls prog 185 #[.pointer (some ⟨K.gp,0,none⟩),.int .i64 k,tx] wx fun e w'=>e=.returned (.tuple #[zTokV,.bool false])∧Below wx.heap.size wx w'):=hZz (fun wx h1 h2=>zavY h1 k h2 hn);have HQ:=hZz (hp F w h);have HX:=hZz hx;have HNE:=hZz hk;clear hP hn hp h hx hk;go_enter func268,ntmps268
 go_wp2_with (first
  | (go_at_call 307;(refine HQ.out.mono ?_);rintro e w1 ⟨rfl,hx1,hk1⟩;have HX1:=hZz hx1;have HK1:=hZz hk1;have HTX:=hZz (HX.out.kp hk1 HNE.out);clear hx1 hk1))
 refine wp_loop_rounds 1 ?_
 rw [rounds_succ]
 go_wp2_with (first
  | (go_at_call 185;(refine (HT.out _ HX1.out HTX.out).mono ?_);rintro e w2 ⟨rfl,hb⟩;have HB:=hZz hb;clear hb;unfold zTokV))
 rw [← HP.out];exact ⟨rfl,HX1.out.below (zadZ (zaaZ _ _) HB.out),HK1.out.trans (KP.of_below (zadZ (zaaZ _ _) HB.out))⟩
theorem term_x (hn:nextF K.ts p' 5 [⟨#[42]⟩,⟨#[47]⟩,⟨#[37]⟩]=false) (hp:ParsP K 307 p ns v p' ns'):ParsP K 306 p ns v p' ns':=by
 intro F w h;obtain ⟨P,hP⟩:∃ P:Ending→World→Prop,ParsR K F w v p' ns'=P:=⟨_,rfl⟩
 rw [hP];have HP:=hZz hP;have hlt:=h.lt;have HQ:=hZz (chain_unary 5 [⟨#[42]⟩,⟨#[47]⟩,⟨#[37]⟩] hn hp F _ (h.below (zaaZ w (.cells (([⟨#[42]⟩,⟨#[47]⟩,⟨#[37]⟩]:List ByteArray).map Value.string).toArray 9))) _ (TxV.new w [⟨#[42]⟩,⟨#[47]⟩,⟨#[37]⟩] (by decide) (by decide)) (fun b hb=>by have hb':w.heap.size=b:=Option.some.inj hb;omega));clear hP hn hp h hlt;go_enter func306,ntmps306
 go_wp2_with (first
  | (go_at_call 268;(refine HQ.out.mono ?_);rintro e w1 ⟨rfl,hx,hk⟩;have HX:=hZz hx;have HK:=hZz ((KP.of_below (zaaZ w _)).trans hk);clear hx hk))
 rw [← HP.out];exact ⟨rfl,HX.out,HK.out⟩
theorem chain_term (k:Int) (l:List ByteArray) (hn:nextF K.ts p' k l=false) (hp:ParsP K 306 p ns v p' ns') (F:List Nat) (w:World) (h:PXK K F w p ns) (tx:Value) (hx:TxV w tx l) (hk:∀ b,tx.ownBlock=some b→b≠K.gp) :
  Calls prog 268 #[.pointer (some ⟨K.gp,0,none⟩),.func (.func 306) #[.pointer (some ⟨K.gp,0,none⟩)] #[],.int .i64 k,tx] w (ParsR K F w v p' ns'):=by
 obtain ⟨P,hP⟩:∃ P:Ending→World→Prop,ParsR K F w v p' ns'=P:=⟨_,rfl⟩
 rw [hP];have HP:=hZz hP;have HT:Hid (∀ wx,PXK K F wx p' ns'→TxV wx tx l→Calls prog 185 #[.pointer (some ⟨K.gp,0,none⟩),.int .i64 k,tx] wx fun e w'=>e=.returned (.tuple #[zTokV,.bool false])∧Below wx.heap.size wx w'):=hZz (fun wx h1 h2=>zavY h1 k h2 hn);have HQ:=hZz (hp F w h);have HX:=hZz hx;have HNE:=hZz hk;clear hP hn hp h hx hk;go_enter func268,ntmps268
 go_wp2_with (first
  | (go_at_call 306;(refine HQ.out.mono ?_);rintro e w1 ⟨rfl,hx1,hk1⟩;have HX1:=hZz hx1;have HK1:=hZz hk1;have HTX:=hZz (HX.out.kp hk1 HNE.out);clear hx1 hk1))
 refine wp_loop_rounds 1 ?_
 rw [rounds_succ]
 go_wp2_with (first
  | (go_at_call 185;(refine (HT.out _ HX1.out HTX.out).mono ?_);rintro e w2 ⟨rfl,hb⟩;have HB:=hZz hb;clear hb;unfold zTokV))
 rw [← HP.out];exact ⟨rfl,HX1.out.below (zadZ (zaaZ _ _) HB.out),HK1.out.trans (KP.of_below (zadZ (zaaZ _ _) HB.out))⟩
theorem sum_x (hn:nextF K.ts p' 5 [⟨#[43]⟩,⟨#[45]⟩]=false) (hp:ParsP K 306 p ns v p' ns'):ParsP K 303 p ns v p' ns':=by
 intro F w h;obtain ⟨P,hP⟩:∃ P:Ending→World→Prop,ParsR K F w v p' ns'=P:=⟨_,rfl⟩
 rw [hP];have HP:=hZz hP;have hlt:=h.lt;have HQ:=hZz (chain_term 5 [⟨#[43]⟩,⟨#[45]⟩] hn hp F _ (h.below (zaaZ w (.cells (([⟨#[43]⟩,⟨#[45]⟩]:List ByteArray).map Value.string).toArray 9))) _ (TxV.new w [⟨#[43]⟩,⟨#[45]⟩] (by decide) (by decide)) (fun b hb=>by have hb':w.heap.size=b:=Option.some.inj hb;omega));clear hP hn hp h hlt;go_enter func303,ntmps303
 go_wp2_with (first
  | (go_at_call 268;(refine HQ.out.mono ?_);rintro e w1 ⟨rfl,hx,hk⟩;have HX:=hZz hx;have HK:=hZz ((KP.of_below (zaaZ w _)).trans hk);clear hx hk))
 rw [← HP.out];exact ⟨rfl,HX.out,HK.out⟩
theorem chain_not (k:Int) (l:List ByteArray) (hn:nextF K.ts p' k l=false) (hp:ParsP K 292 p ns v p' ns') (F:List Nat) (w:World) (h:PXK K F w p ns) (tx:Value) (hx:TxV w tx l) (hk:∀ b,tx.ownBlock=some b→b≠K.gp) :
  Calls prog 268 #[.pointer (some ⟨K.gp,0,none⟩),.func (.func 292) #[.pointer (some ⟨K.gp,0,none⟩)] #[],.int .i64 k,tx] w (ParsR K F w v p' ns'):=by
 obtain ⟨P,hP⟩:∃ P:Ending→World→Prop,ParsR K F w v p' ns'=P:=⟨_,rfl⟩
 rw [hP];have HP:=hZz hP;have HT:Hid (∀ wx,PXK K F wx p' ns'→TxV wx tx l→Calls prog 185 #[.pointer (some ⟨K.gp,0,none⟩),.int .i64 k,tx] wx fun e w'=>e=.returned (.tuple #[zTokV,.bool false])∧Below wx.heap.size wx w'):=hZz (fun wx h1 h2=>zavY h1 k h2 hn);have HQ:=hZz (hp F w h);have HX:=hZz hx;have HNE:=hZz hk;clear hP hn hp h hx hk;go_enter func268,ntmps268
 go_wp2_with (first
  | (go_at_call 292;(refine HQ.out.mono ?_);rintro e w1 ⟨rfl,hx1,hk1⟩;have HX1:=hZz hx1;have HK1:=hZz hk1;have HTX:=hZz (HX.out.kp hk1 HNE.out);clear hx1 hk1))
 refine wp_loop_rounds 1 ?_
 rw [rounds_succ]
 go_wp2_with (first
  | (go_at_call 185;(refine (HT.out _ HX1.out HTX.out).mono ?_);rintro e w2 ⟨rfl,hb⟩;have HB:=hZz hb;clear hb;unfold zTokV))
 rw [← HP.out];exact ⟨rfl,HX1.out.below (zadZ (zaaZ _ _) HB.out),HK1.out.trans (KP.of_below (zadZ (zaaZ _ _) HB.out))⟩
theorem and_x (hn:nextF K.ts p' 2 [⟨#[97,110,100]⟩]=false) (hp:ParsP K 292 p ns v p' ns'):ParsP K 269 p ns v p' ns':=by
 intro F w h;obtain ⟨P,hP⟩:∃ P:Ending→World→Prop,ParsR K F w v p' ns'=P:=⟨_,rfl⟩
 rw [hP];have HP:=hZz hP;have hlt:=h.lt;have HQ:=hZz (chain_not 2 [⟨#[97,110,100]⟩] hn hp F _ (h.below (zaaZ w (.cells (([⟨#[97,110,100]⟩]:List ByteArray).map Value.string).toArray 9))) _ (TxV.new w [⟨#[97,110,100]⟩] (by decide) (by decide)) (fun b hb=>by have hb':w.heap.size=b:=Option.some.inj hb;omega));clear hP hn hp h hlt;go_enter func269,ntmps269
 go_wp2_with (first
  | (go_at_call 268;(refine HQ.out.mono ?_);rintro e w1 ⟨rfl,hx,hk⟩;have HX:=hZz hx;have HK:=hZz ((KP.of_below (zaaZ w _)).trans hk);clear hx hk))
 rw [← HP.out];exact ⟨rfl,HX.out,HK.out⟩
theorem chain_and (k:Int) (l:List ByteArray) (hn:nextF K.ts p' k l=false) (hp:ParsP K 269 p ns v p' ns') (F:List Nat) (w:World) (h:PXK K F w p ns) (tx:Value) (hx:TxV w tx l) (hk:∀ b,tx.ownBlock=some b→b≠K.gp) :
  Calls prog 268 #[.pointer (some ⟨K.gp,0,none⟩),.func (.func 269) #[.pointer (some ⟨K.gp,0,none⟩)] #[],.int .i64 k,tx] w (ParsR K F w v p' ns'):=by
 obtain ⟨P,hP⟩:∃ P:Ending→World→Prop,ParsR K F w v p' ns'=P:=⟨_,rfl⟩
 rw [hP];have HP:=hZz hP;have HT:Hid (∀ wx,PXK K F wx p' ns'→TxV wx tx l→Calls prog 185 #[.pointer (some ⟨K.gp,0,none⟩),.int .i64 k,tx] wx fun e w'=>e=.returned (.tuple #[zTokV,.bool false])∧Below wx.heap.size wx w'):=hZz (fun wx h1 h2=>zavY h1 k h2 hn);have HQ:=hZz (hp F w h);have HX:=hZz hx;have HNE:=hZz hk;clear hP hn hp h hx hk;go_enter func268,ntmps268
 go_wp2_with (first
  | (go_at_call 269;(refine HQ.out.mono ?_);rintro e w1 ⟨rfl,hx1,hk1⟩;have HX1:=hZz hx1;have HK1:=hZz hk1;have HTX:=hZz (HX.out.kp hk1 HNE.out);clear hx1 hk1))
 refine wp_loop_rounds 1 ?_
 rw [rounds_succ]
 go_wp2_with (first
  | (go_at_call 185;(refine (HT.out _ HX1.out HTX.out).mono ?_);rintro e w2 ⟨rfl,hb⟩;have HB:=hZz hb;clear hb;unfold zTokV))
 rw [← HP.out];exact ⟨rfl,HX1.out.below (zadZ (zaaZ _ _) HB.out),HK1.out.trans (KP.of_below (zadZ (zaaZ _ _) HB.out))⟩
theorem expr_x (hn:nextF K.ts p' 2 [⟨#[111,114]⟩]=false) (hp:ParsP K 269 p ns v p' ns'):ParsP K 240 p ns v p' ns':=by
 intro F w h;obtain ⟨P,hP⟩:∃ P:Ending→World→Prop,ParsR K F w v p' ns'=P:=⟨_,rfl⟩
 rw [hP];have HP:=hZz hP;have hlt:=h.lt;have HQ:=hZz (chain_and 2 [⟨#[111,114]⟩] hn hp F _ (h.below (zaaZ w (.cells (([⟨#[111,114]⟩]:List ByteArray).map Value.string).toArray 9))) _ (TxV.new w [⟨#[111,114]⟩] (by decide) (by decide)) (fun b hb=>by have hb':w.heap.size=b:=Option.some.inj hb;omega));clear hP hn hp h hlt;go_enter func240,ntmps240
 go_wp2_with (first
  | (go_at_call 268;(refine HQ.out.mono ?_);rintro e w1 ⟨rfl,hx,hk⟩;have HX:=hZz hx;have HK:=hZz ((KP.of_below (zaaZ w _)).trans hk);clear hx hk))
 rw [← HP.out];exact ⟨rfl,HX.out,HK.out⟩
theorem post_x (hn:nextF K.ts p' 5 [⟨#[91]⟩]=false) (hp:ParsP K 309 p ns v p' ns'):ParsP K 308 p ns v p' ns':=by
 intro F w h;obtain ⟨P,hP⟩:∃ P:Ending→World→Prop,ParsR K F w v p' ns'=P:=⟨_,rfl⟩
 rw [hP];have HP:=hZz hP;have HT:Hid (∀ wx tx,PXK K F wx p' ns'→TxV wx tx [⟨#[91]⟩]→Calls prog 185 #[.pointer (some ⟨K.gp,0,none⟩),.int .i64 5,tx] wx fun e w'=>e=.returned (.tuple #[zTokV,.bool false])∧Below wx.heap.size wx w'):=hZz (fun wx tx h1 h2=>zavY h1 5 h2 hn);have HQ:=hZz (hp F w h);clear hP hn hp h;go_enter func308,ntmps308
 go_wp2_with (first
  | (go_at_call 309;(refine HQ.out.mono ?_);rintro e w1 ⟨rfl,hx1,hk1⟩;have HX1:=hZz hx1;have HK1:=hZz hk1;clear hx1 hk1))
 refine wp_loop_rounds 1 ?_
 rw [rounds_succ]
 go_wp2_with (first
  | (go_at_call 185;(refine (HT.out _ _ (HX1.out.below (zaaZ _ _)) (TxV.new w1 [⟨#[91]⟩] (by decide) (by decide))).mono ?_);rintro e w2 ⟨rfl,hb⟩;have HB:=hZz (zadZ hb (zaaZ w1 _));clear hb;unfold zTokV))
 rw [← HP.out];exact ⟨rfl,HX1.out.below (zadZ (zaaZ _ _) HB.out),HK1.out.trans (KP.of_below (zadZ (zaaZ _ _) HB.out))⟩
def cmpT:List ByteArray:=[⟨#[61,61]⟩,⟨#[33,61]⟩,⟨#[60]⟩,⟨#[60,61]⟩,⟨#[62]⟩,⟨#[62,61]⟩]
theorem TxV.cmp (w:World):TxV (w.alloc (.cells #[.string ⟨#[61,61]⟩,.string ⟨#[33,61]⟩,.string ⟨#[60]⟩,.string ⟨#[60,61]⟩,.string ⟨#[62]⟩,.string ⟨#[62,61]⟩] 9)) (.slice (some ⟨w.heap.size,0,none⟩) 6 6) cmpT:=TxV.new w cmpT (by decide) (by decide)
set_option maxHeartbeats 1000000 in
theorem not_x {K:ParC} {p:Nat} {ns:List NodeD} {v p':Nat} {ns':List NodeD} (hn:nextF K.ts p 2 [⟨#[110,111,116]⟩]=false) (hn2:nextF K.ts p' 5 cmpT=false) (hp:ParsP K 303 p ns v p' ns'):ParsP K 292 p ns v p' ns':=by
 intro F w h;obtain ⟨P,hP⟩:∃ P:Ending→World→Prop,ParsR K F w v p' ns'=P:=⟨_,rfl⟩
 rw [hP];have HP:=hZz hP;have HT:Hid (∀ wx tx,PXK K F wx p ns→TxV wx tx [⟨#[110,111,116]⟩]→Calls prog 185 #[.pointer (some ⟨K.gp,0,none⟩),.int .i64 2,tx] wx fun e w'=>e=.returned (.tuple #[zTokV,.bool false])∧Below wx.heap.size wx w'):=hZz (fun wx tx h1 h2=>zavY h1 2 h2 hn);have HT2:Hid (∀ wx tx,PXK K F wx p' ns'→TxV wx tx cmpT→Calls prog 185 #[.pointer (some ⟨K.gp,0,none⟩),.int .i64 5,tx] wx fun e w'=>e=.returned (.tuple #[zTokV,.bool false])∧Below wx.heap.size wx w'):=hZz (fun wx tx h1 h2=>zavY h1 5 h2 hn2);have HQ:Hid (∀ F w,PXK K F w p ns→Calls prog 303 #[.pointer (some ⟨K.gp,0,none⟩)] w (ParsR K F w v p' ns')):=hZz hp;have H:=hZz h;have HTA:=hZz (TxV.new w [⟨#[110,111,116]⟩] (by decide) (by decide));clear hP hn hn2 hp h;go_enter func292,ntmps292
 go_wp2_with (first
  | (go_at_call 185;(refine (HT.out _ _ (H.out.below (zaaZ _ _)) HTA.out).mono ?_);rintro e w1 ⟨rfl,hb⟩;have HB:=hZz (zadZ hb (zaaZ w _));clear hb HTA;unfold zTokV)
  | (go_at_call 303;(refine (HQ.out F _ (H.out.below (zadZ (zaaZ _ _) HB.out))).mono ?_);rintro e w2 ⟨rfl,hx,hk⟩;have HX:=hZz hx;have HK:=hZz ((KP.of_below (zadZ (zaaZ _ _) HB.out)).trans hk);clear hx hk;have HTB:=hZz (TxV.cmp w2))
  | (go_at_call 185;(refine (HT2.out _ _ (HX.out.below (zaaZ _ _)) HTB.out).mono ?_);rintro e w3 ⟨rfl,hb⟩;have HB3:=hZz (zadZ hb (zaaZ w2 _));clear hb HTB;unfold zTokV))
 rw [← HP.out];exact ⟨rfl,HX.out.below (zadZ (zaaZ _ _) HB3.out),HK.out.trans (KP.of_below (zadZ (zaaZ _ _) HB3.out))⟩
end
end
section
section
variable {K:ParC} {p:Nat} {ns:List NodeD} {v p':Nat} {ns':List NodeD}
def nodE (kd:Int) (tt:ByteArray) (ni:Int) (ks:List Int):NodeD:=⟨kd,tt,ni,[],ks⟩
theorem addK_x {F:List Nat} {w:World} (h:PXK K F w p ns) (hl:ns.length≤600) (kd:Int) (tt:ByteArray) (ni:Int) (ks:List Int) {iv:Value} (ho:w.ownsRow K.w0.heap.size 3 1 iv ks.length (ks.map (Value.int .i64))) (hF:∀ g∈F,iv.ownBlock≠some g) :
  Calls prog 187 #[.pointer (some ⟨K.gp,0,none⟩),.agg #[.int .i64 kd,.string tt,.int .i64 ni,.slice none 0 0,iv]] w (ParsR K F w ns.length p (ns ++ [nodE kd tt ni ks])) :=
 add_x (n:=nodE kd tt ni ks) h hl rfl ho hF
theorem add0_x {F:List Nat} {w:World} (h:PXK K F w p ns) (hl:ns.length≤600) (kd:Int) (tt:ByteArray) (ni:Int) :
  Calls prog 187 #[.pointer (some ⟨K.gp,0,none⟩),.agg #[.int .i64 kd,.string tt,.int .i64 ni,.slice none 0 0,.slice none 0 0]] w (ParsR K F w ns.length p (ns ++ [nodE kd tt ni []])) :=
 addK_x h hl kd tt ni [] (World.ownsRow_nil _ _ _ _) (fun g hg e=>by cases e)
def litL:List ByteArray:=[⟨#[110,117,108,108]⟩,⟨#[116,114,117,101]⟩,⟨#[102,97,108,115,101]⟩]
theorem TxV.lit (w:World):TxV (w.alloc (.cells #[.string ⟨#[110,117,108,108]⟩,.string ⟨#[116,114,117,101]⟩,.string ⟨#[102,97,108,115,101]⟩] 9)) (.slice (some ⟨w.heap.size,0,none⟩) 3 3) litL:=TxV.new w litL (by decide) (by decide)
theorem TxV.one (w:World) (x:ByteArray):TxV (w.alloc (.cells #[.string x] 9)) (.slice (some ⟨w.heap.size,0,none⟩) 1 1) [x]:=TxV.new w [x] (by simp) (by simp)
theorem TxV.lit1 (w:World) (o:Obj):TxV ((w.alloc o).alloc (.cells #[.string ⟨#[110,117,108,108]⟩,.string ⟨#[116,114,117,101]⟩,.string ⟨#[102,97,108,115,101]⟩] 9)) (.slice (some ⟨w.heap.size+1,0,none⟩) 3 3) litL:=by
 have:=TxV.lit (w.alloc o)
 rwa [show (w.alloc o).heap.size=w.heap.size+1 from by simp] at this
theorem TxV.one1 (w:World) (o:Obj) (x:ByteArray):TxV ((w.alloc o).alloc (.cells #[.string x] 9)) (.slice (some ⟨w.heap.size+1,0,none⟩) 1 1) [x]:=by
 have:=TxV.one (w.alloc o) x
 rwa [show (w.alloc o).heap.size=w.heap.size+1 from by simp] at this
attribute [local go_sem] zacZ
theorem prim_int (hl:ns.length≤600) {t:Tok} (ht:K.ts[p]? = some t) (hn3:nextF K.ts p 3 []=true):ParsP K 309 p ns ns.length (p+1) (ns ++ [nodE 3 ⟨#[]⟩ t.int []]):=by
 intro F w h;obtain ⟨P,hP⟩:∃ P:Ending→World→Prop,ParsR K F w ns.length (p+1) (ns ++ [nodE 3 ⟨#[]⟩ t.int []])=P:=⟨_,rfl⟩
 rw [hP];have HP:=hZz hP;have HT3:Hid (∀ wx tx,PXK K F wx p ns→TxV wx tx []→Calls prog 185 #[.pointer (some ⟨K.gp,0,none⟩),.int .i64 3,tx] wx fun e w'=>e=.returned (.tuple #[t.val,.bool true])∧PXK K F w' (p+1) ns∧KP K.gp wx w'):=hZz (fun wx tx h1 h2=>zbsY h1 3 h2 hn3 ht);have H:=hZz h;clear hP ht hn3 h;go_enter func309,ntmps309
 go_wp2_with (first
  | (go_at_call 185;(refine (HT3.out _ _ H.out (TxV.nil _)).mono ?_);rintro e w3 ⟨rfl,hx,hk⟩;have HX:=hZz hx;have HK:=hZz hk;clear hx hk;unfold Tok.val)
  | (go_at_call 187;(refine (add0_x (HX.out.below (zaaZ _ _)) hl 3 ⟨#[]⟩ t.int).mono ?_);rintro e w4 ⟨rfl,hx,hk⟩;have HX4:=hZz hx;have HK4:=hZz ((HK.out.trans (KP.of_below (zaaZ _ _))).trans hk);clear hx hk))
 rw [← HP.out];exact ⟨rfl,HX4.out,HK4.out⟩
theorem prim_str (hl:ns.length≤600) {t:Tok} (ht:K.ts[p]? = some t) (hn3:nextF K.ts p 3 []=false) (hn4:nextF K.ts p 4 []=true):ParsP K 309 p ns ns.length (p+1) (ns ++ [nodE 4 t.text 0 []]):=by
 intro F w h;obtain ⟨P,hP⟩:∃ P:Ending→World→Prop,ParsR K F w ns.length (p+1) (ns ++ [nodE 4 t.text 0 []])=P:=⟨_,rfl⟩
 rw [hP];have HP:=hZz hP;have HT3:Hid (∀ wx tx,PXK K F wx p ns→TxV wx tx []→Calls prog 185 #[.pointer (some ⟨K.gp,0,none⟩),.int .i64 3,tx] wx fun e w'=>e=.returned (.tuple #[zTokV,.bool false])∧Below wx.heap.size wx w'):=hZz (fun wx tx h1 h2=>zavY h1 3 h2 hn3);have HT4:Hid (∀ wx tx,PXK K F wx p ns→TxV wx tx []→Calls prog 185 #[.pointer (some ⟨K.gp,0,none⟩),.int .i64 4,tx] wx fun e w'=>e=.returned (.tuple #[t.val,.bool true])∧PXK K F w' (p+1) ns∧KP K.gp wx w'):=hZz (fun wx tx h1 h2=>zbsY h1 4 h2 hn4 ht);have H:=hZz h;clear hP ht hn3 hn4 h;go_enter func309,ntmps309
 go_wp2_with (first
  | (go_at_call 185;(refine (HT3.out _ _ H.out (TxV.nil _)).mono ?_);rintro e w3 ⟨rfl,hb⟩;have HB3:=hZz (zadZ (zaaZ w3 (.cells #[.int .i64 0,.string ⟨#[]⟩,.int .i64 0,.int .i64 0] 161)) hb);have HX3:=hZz (H.out.below HB3.out);clear hb HT3;unfold zTokV)
  | (go_at_call 185;(refine (HT4.out _ _ HX3.out (TxV.nil _)).mono ?_);rintro e w4 ⟨rfl,hx,hk⟩;have HX:=hZz hx;have HK:=hZz ((KP.of_below HB3.out).trans hk);clear hx hk;unfold Tok.val)
  | (go_at_call 187;(refine (add0_x (HX.out.below (zaaZ _ _)) hl 4 t.text 0).mono ?_);rintro e w5 ⟨rfl,hx,hk⟩;have HX4:=hZz hx;have HK4:=hZz ((HK.out.trans (KP.of_below (zaaZ _ _))).trans hk);clear hx hk))
 rw [← HP.out];exact ⟨rfl,HX4.out,HK4.out⟩
theorem prim_name (hl:ns.length≤600) {t:Tok} (ht:K.ts[p]? = some t) (hn3:nextF K.ts p 3 []=false) (hn4:nextF K.ts p 4 []=false) (hn2:nextF K.ts p 2 litL=false) (hn1:nextF K.ts p 1 []=true) (hn5:nextF K.ts (p+1) 5 [⟨#[40]⟩]=false):ParsP K 309 p ns ns.length (p+1) (ns ++ [nodE 5 t.text 0 []]):=by
 intro F w h;obtain ⟨P,hP⟩:∃ P:Ending→World→Prop,ParsR K F w ns.length (p+1) (ns ++ [nodE 5 t.text 0 []])=P:=⟨_,rfl⟩
 rw [hP];have HP:=hZz hP;have HT3:Hid (∀ wx tx,PXK K F wx p ns→TxV wx tx []→Calls prog 185 #[.pointer (some ⟨K.gp,0,none⟩),.int .i64 3,tx] wx fun e w'=>e=.returned (.tuple #[zTokV,.bool false])∧Below wx.heap.size wx w'):=hZz (fun wx tx h1 h2=>zavY h1 3 h2 hn3);have HT4:Hid (∀ wx tx,PXK K F wx p ns→TxV wx tx []→Calls prog 185 #[.pointer (some ⟨K.gp,0,none⟩),.int .i64 4,tx] wx fun e w'=>e=.returned (.tuple #[zTokV,.bool false])∧Below wx.heap.size wx w'):=hZz (fun wx tx h1 h2=>zavY h1 4 h2 hn4);have HT2:Hid (∀ wx tx,PXK K F wx p ns→TxV wx tx litL→Calls prog 185 #[.pointer (some ⟨K.gp,0,none⟩),.int .i64 2,tx] wx fun e w'=>e=.returned (.tuple #[zTokV,.bool false])∧Below wx.heap.size wx w'):=hZz (fun wx tx h1 h2=>zavY h1 2 h2 hn2);have HT1:Hid (∀ wx tx,PXK K F wx p ns→TxV wx tx []→Calls prog 185 #[.pointer (some ⟨K.gp,0,none⟩),.int .i64 1,tx] wx fun e w'=>e=.returned (.tuple #[t.val,.bool true])∧PXK K F w' (p+1) ns∧KP K.gp wx w'):=hZz (fun wx tx h1 h2=>zbsY h1 1 h2 hn1 ht);have HT5:Hid (∀ wx tx,PXK K F wx (p+1) ns→TxV wx tx [⟨#[40]⟩]→Calls prog 185 #[.pointer (some ⟨K.gp,0,none⟩),.int .i64 5,tx] wx fun e w'=>e=.returned (.tuple #[zTokV,.bool false])∧Below wx.heap.size wx w'):=hZz (fun wx tx h1 h2=>zavY h1 5 h2 hn5);have H:=hZz h;clear hP ht hn3 hn4 hn2 hn1 hn5 h;go_enter func309,ntmps309
 go_wp2_with (first
  | (go_at_call 185;(refine (HT3.out _ _ H.out (TxV.nil _)).mono ?_);rintro e w3 ⟨rfl,hb⟩;have HB3:=hZz (zadZ (zaaZ w3 (.cells #[.int .i64 0,.string ⟨#[]⟩,.int .i64 0,.int .i64 0] 161)) hb);have HX3:=hZz (H.out.below HB3.out);clear hb HT3;unfold zTokV)
  | (go_at_call 185;(refine (HT4.out _ _ HX3.out (TxV.nil _)).mono ?_);rintro e w4 ⟨rfl,hb⟩;have HB4:=hZz (zadZ (zadZ (zaaZ w4 (.cells #[.int .i64 0,.string ⟨#[]⟩,.int .i64 0,.int .i64 0] 161)) hb) HB3.out);have HX4:=hZz (H.out.below HB4.out);have HTL:=hZz (TxV.lit1 w4 (.cells #[.int .i64 0,.string ⟨#[]⟩,.int .i64 0,.int .i64 0] 161));clear hb HT4;unfold zTokV)
  | (go_at_call 185;(refine (HT2.out _ _ (HX4.out.below (zaaZ _ _)) HTL.out).mono ?_);rintro e w2 ⟨rfl,hb⟩;have HB2:=hZz (zadZ (zadZ (zaaZ w2 (.cells #[.int .i64 0,.string ⟨#[]⟩,.int .i64 0,.int .i64 0] 161)) (zadZ hb (zaaZ (w4.alloc (.cells #[.int .i64 0,.string ⟨#[]⟩,.int .i64 0,.int .i64 0] 161)) _))) HB4.out);have HX2:=hZz (H.out.below HB2.out);clear hb HT2 HTL;unfold zTokV)
  | (go_at_call 185;(refine (HT1.out _ _ HX2.out (TxV.nil _)).mono ?_);rintro e w1 ⟨rfl,hx,hk⟩;have HX:=hZz hx;have HK:=hZz ((KP.of_below HB2.out).trans hk);clear hx hk HT1;have HXN:=hZz (HX.out.below (zaaZ w1 (.cells #[.int .i64 t.kind,.string t.text,.int .i64 t.int,.int .i64 (t.at_:Int)] 161)));have HTO:=hZz (TxV.one1 w1 (.cells #[.int .i64 t.kind,.string t.text,.int .i64 t.int,.int .i64 (t.at_:Int)] 161) ⟨#[40]⟩);have HBT:Hid (Blk (w1.alloc (.cells #[.int .i64 t.kind,.string t.text,.int .i64 t.int,.int .i64 (t.at_:Int)] 161)) w1.heap.size 161 #[.int .i64 t.kind,.string t.text,.int .i64 t.int,.int .i64 (t.at_:Int)]):=hZz (Blk.new _ _ _);unfold Tok.val)
  | (go_at_call 185;(refine (HT5.out _ _ (HXN.out.below (zaaZ _ _)) HTO.out).mono ?_);rintro e w5 ⟨rfl,hb⟩;have HB5:=hZz (zadZ (zaaZ w5 (.cells #[.int .i64 0,.string ⟨#[]⟩,.int .i64 0,.int .i64 0] 161)) (zadZ hb (zaaZ (w1.alloc (.cells #[.int .i64 t.kind,.string t.text,.int .i64 t.int,.int .i64 (t.at_:Int)] 161)) (.cells #[.string ⟨#[40]⟩] 9))));have HX5:=hZz (HXN.out.below HB5.out);have q5:=(HBT.out.below HB5.out).cell 1 _ rfl;clear hb HT5 HTO;unfold zTokV)
  | (go_at_call 187;(refine (add0_x HX5.out hl 5 t.text 0).mono ?_);rintro e w6 ⟨rfl,hx,hk⟩;have HX6:=hZz hx;have HK6:=hZz ((HK.out.trans (KP.of_below (zadZ HB5.out (zaaZ _ _)))).trans hk);clear hx hk))
 rw [← HP.out];exact ⟨rfl,HX6.out,HK6.out⟩
end
end
section
section
variable {K:ParC} {p:Nat} {ns:List NodeD} {v p':Nat} {ns':List NodeD}
theorem PX.sub {F F':List Nat} {w:World} (h:PXK K F w p ns) (hs:∀ g∈F',g∈F):PXK K F' w p ns:=by
 obtain ⟨nx,nv,h1,h2⟩:=h;exact ⟨nx,nv,h1,⟨h2.bel,h2.hp,h2.bp,h2.tk,h2.nd,h2.fu,h2.kids,fun q hq g hg=>h2.kd q hq g (hs g hg),h2.pars,fun g hg=>h2.fb g (hs g hg),h2.tl⟩⟩
theorem PX.grow {F:List Nat} {w w':World} {n:Nat} {v v':Value} {xs:List Value} (h:PXK K (v.ownBlock.toList ++ F) w p ns) (ho:w.ownsRow K.w0.heap.size 3 1 v n xs) (hg:w.grownBy w' v.ownBlock) (hv:∀ g,v'.ownBlock=some g→v.ownBlock=some g∨w.heap.size≤g) (hlt:∀ g,v'.ownBlock=some g→g<w'.heap.size):PXK K (v'.ownBlock.toList ++ F) w' p ns:=by
 obtain ⟨nx,nv,h1,h⟩:=h
 have hne:∀ {n size:Nat} {e:TypeId} {u:Value} {xs:List Value},w.ownsRow K.w0.heap.size e size u n xs→e≠3→w'.ownsRow K.w0.heap.size e size u n xs:=fun ho' he=>zabY ho' hg (fun k hk=>by
  obtain ⟨_,cs,hB⟩:=zanY ho hk;exact zahZ ho' hB he)
 refine ⟨nx,nv,h1,h.bel.grown hg h.bel.size (fun k hk=>(ho.lt k hk).1),h.hp,h.bp.grown hg (zahZ ho h.bp (by decide)),hne h.tk (by decide),hne h.nd (by decide),hne h.fu (by decide),fun q hq=>⟨zabY (h.kids q hq).1 hg (fun k hk e=>h.kd q hq k (by simp [hk]) e.symm),(h.kids q hq).2⟩,fun q hq g hg' e=>?_,fun q hq=>hne (h.pars q hq) (by decide),fun g hg'=>?_,h.tl⟩
 ·rcases List.mem_append.1 hg' with hm | hm
  ·rcases hv g (by simpa using hm) with e' | e'
   ·exact h.kd q hq g (by simp [e']) e
   ·obtain ⟨_,cs,hB⟩:=zanY (h.kids q hq).1 e
    have:=hB.lt
    omega
  ·exact h.kd q hq g (by simp [hm]) e
 ·rcases List.mem_append.1 hg' with hm | hm
  ·exact hlt g (by simpa using hm)
  ·exact Nat.lt_of_lt_of_le (h.fb g (by simp [hm])) hg.size
attribute [local go_sem] zacZ
theorem TxV.two (w:World) (x y:ByteArray):TxV (w.alloc (.cells #[.string x,.string y] 9)) (.slice (some ⟨w.heap.size,0,none⟩) 2 2) [x,y]:=TxV.new w [x,y] (by simp) (by simp)
set_option maxHeartbeats 4000000 in
theorem list1_x (fid:FuncId) (caps:Array Value) (close:ByteArray) (hent:∀ args w,(callFunc fid args).run prog w=.ok (.enter fid args) w) {F:List Nat} (hn:nextF K.ts p 5 [close]=false) (Q0:World→Prop) (Q1:List Nat→World→Prop) (hq0:∀ a b,Q0 a→Below a.heap.size a b→Q0 b)
  (hq1:∀ F a b,PXK K F a p' ns'→Q1 F a→KP K.gp a b→Q1 F b) (hc:∀ wx,PXK K F wx p ns→Q0 wx→Calls prog fid caps wx fun e w'=>e=.returned (.tuple #[])∧∃ F',PXK K F' w' p' ns'∧Q1 F' w')
  (hn2:nextF K.ts p' 5 [⟨#[44]⟩,close]=true) {t:Tok} (ht:K.ts[p']? = some t) (htc:(t.text.toList == close.toList)=true) {w:World} (h:PXK K F w p ns) (h0:Q0 w) :
  Calls prog 127 #[.pointer (some ⟨K.gp,0,none⟩),.string close,.func (.func fid) #[] caps] w fun e w'=>e=.returned (.tuple #[])∧∃ F',PXK K F' w' (p' + 1) ns'∧Q1 F' w':=by
 obtain ⟨P,hP⟩:∃ P:Ending→World→Prop,(fun e w'=>e=.returned (.tuple #[])∧∃ F',PXK K F' w' (p' + 1) ns'∧Q1 F' w')=P:=⟨_,rfl⟩
 rw [hP];have HP:=hZz hP;have HT:Hid (∀ wx tx,PXK K F wx p ns→TxV wx tx [close]→Calls prog 185 #[.pointer (some ⟨K.gp,0,none⟩),.int .i64 5,tx] wx fun e w'=>e=.returned (.tuple #[zTokV,.bool false])∧Below wx.heap.size wx w'):=hZz (fun wx tx h1 h2=>zavY h1 5 h2 hn);have HM:Hid (∀ F wx tx,PXK K F wx p' ns'→TxV wx tx [⟨#[44]⟩,close]→Calls prog 126 #[.pointer (some ⟨K.gp,0,none⟩),.int .i64 5,tx] wx fun e w'=>e=.returned t.val∧PXK K F w' (p' + 1) ns'∧KP K.gp wx w'):=hZz (fun F wx tx h1 h2=>zdwY h1 5 h2 hn2 ht);have HC:=hZz hc;have HQ0:=hZz hq0;have HQ1:=hZz hq1;have HW0:=hZz h0;have H:=hZz h;have HTC:=hZz htc;have HTA:=hZz (TxV.one w close);clear hP hn hc hq0 hq1 hn2 ht h h0 htc;go_enter func127,ntmps127
 go_wp2_with (first
  | (go_at_call 185;(refine (HT.out _ _ (H.out.below (zaaZ _ _)) HTA.out).mono ?_);rintro e w1 ⟨rfl,hb⟩;have HB:=hZz (zadZ (zaaZ w1 (.cells #[.int .i64 0,.string ⟨#[]⟩,.int .i64 0,.int .i64 0] 161)) (zadZ hb (zaaZ w _)));clear hb HTA HT;unfold zTokV))
 refine wp_loop_rounds 1 ?_
 rw [rounds_succ]
 go_wp2_with (first
  | (go_at_fn fid;((refine Calls.mono (HC.out _ (H.out.below HB.out) (HQ0.out _ _ HW0.out HB.out)) ?_);rintro e w2 ⟨rfl,F',hx,hq⟩;have HX:=hZz hx;have HQ:=hZz hq;clear hx hq;have HTB:=hZz (TxV.two w2 ⟨#[44]⟩ close)))
  | (go_at_call 126;(refine (HM.out _ _ _ (HX.out.below (zaaZ _ _)) HTB.out).mono ?_);rintro e w3 ⟨rfl,hx,hk⟩;have HX3:=hZz hx;have HK3:=hZz ((KP.of_below (zaaZ w2 _)).trans hk);clear hx hk HTB;unfold Tok.val;have hh:=HTC.out))
 go_returns;rw [← HP.out];exact ⟨rfl,F',HX3.out.below (zaaZ _ _),HQ1.out _ _ _ HX.out HQ.out (HK3.out.trans (KP.of_below (zaaZ _ _)))⟩
end
end
end Go.Proofs.YtekdhlfapejijaaGreatDoor
