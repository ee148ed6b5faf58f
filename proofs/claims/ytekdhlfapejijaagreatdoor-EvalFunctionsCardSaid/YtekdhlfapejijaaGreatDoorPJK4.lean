/- JK4 -/
import Derived.Test.YtekdhlfapejijaaGreatDoorPJK
set_option linter.unusedVariables false
set_option linter.unusedSimpArgs false
namespace Go.Proofs.YtekdhlfapejijaaGreatDoor
open Go.RowKit
set_option maxRecDepth 100000
open Go.Proofs.Tryz
attribute [local go_sem] zacZ
set_option maxHeartbeats 16000000 in
theorem awake10_j (w:World) (hp:Pow w) (hs:Sent w) (hm:MaxL w):Calls prog 10 #[] w fun r w'=>r=.returned (.bool true)∧Below w.heap.size w w':=by
 obtain ⟨P,hP⟩:∃ P:Ending→World→Prop,(fun r w'=>r=.returned (.bool true)∧Below w.heap.size w w')=P:=⟨_,rfl⟩
 rw [hP];have HP:Hid (∀ w',Below w.heap.size w w'→P (.returned (.bool true)) w'):=hZz (fun w' h2=>by rw [← hP];exact ⟨rfl,h2⟩);have HI:Hid (∀ (n:Int) wx,Calls prog 28 #[.int .i64 n] wx fun e w'=>∃ g,e=.returned (.slice (some ⟨g,0,none⟩) 1 1)∧ValV w' (.slice (some ⟨g,0,none⟩) 1 1) [iCel n]∧Below wx.heap.size wx w'):=hZz integer_h
 have HQ1:Hid (∀ va vb wx,Below w.heap.size w wx→ValV wx va [iCel (-7)]→ValV wx vb [iCel 2]→Calls prog 13 #[.string ⟨#[47]⟩,va,vb] wx fun e w'=>∃ A c,e=.returned (.tuple #[.slice A 1 c,.int .i64 0])∧ValV w' (.slice A 1 c) [iCel (-4)]∧Below wx.heap.size wx w'):=hZz (fun va vb wx hb h1 h2=>(zccY ⟨#[47]⟩ [iCel (-7)] [iCel 2] va vb wx h1 h2 (hp.below hb) (hm.below hb) (okV1 ⟨by decide,by decide,by decide⟩) (okV1 ⟨by decide,by decide,by decide⟩)).mono fun e w' h=>by
  have hx:=ret1 h;rw [show binaryR ⟨#[47]⟩ [iCel (-7)] [iCel 2]=([iCel (-4)],0) by decide +kernel] at hx;exact hx)
 have HQ2:Hid (∀ va vb wx,Below w.heap.size w wx→ValV wx va [iCel (-7)]→ValV wx vb [iCel 2]→Calls prog 13 #[.string ⟨#[37]⟩,va,vb] wx fun e w'=>∃ A c,e=.returned (.tuple #[.slice A 1 c,.int .i64 0])∧ValV w' (.slice A 1 c) [iCel 1]∧Below wx.heap.size wx w'):=hZz (fun va vb wx hb h1 h2=>(zccY ⟨#[37]⟩ [iCel (-7)] [iCel 2] va vb wx h1 h2 (hp.below hb) (hm.below hb) (okV1 ⟨by decide,by decide,by decide⟩) (okV1 ⟨by decide,by decide,by decide⟩)).mono fun e w' h=>by
  have hx:=ret1 h;rw [show binaryR ⟨#[37]⟩ [iCel (-7)] [iCel 2]=([iCel 1],0) by decide +kernel] at hx;exact hx)
 have HQ3:Hid (∀ va vb wx,Below w.heap.size w wx→ValV wx va [iCel 1]→ValV wx vb [sCel ⟨#[97]⟩]→Calls prog 13 #[.string ⟨#[60]⟩,va,vb] wx fun e w'=>∃ A c,e=.returned (.tuple #[.slice A 0 c,.int .i64 7])∧ValV w' (.slice A 0 c) []∧Below wx.heap.size wx w'):=hZz (fun va vb wx hb h1 h2=>(zccY ⟨#[60]⟩ [iCel 1] [sCel ⟨#[97]⟩] va vb wx h1 h2 (hp.below hb) (hm.below hb) (okV1 ⟨by decide,by decide,by decide⟩) (okV1 ⟨by decide,by decide,by decide⟩)).mono fun e w' h=>by
  have hx:=ret1 h;rw [show binaryR ⟨#[60]⟩ [iCel 1] [sCel ⟨#[97]⟩]=([],7) by decide +kernel] at hx;exact hx)
 have HBU:Hid (∀ av wx,Below w.heap.size w wx→ValsV wx av [[sCel ⟨#[48,55]⟩]]→Calls prog 16 #[.string ⟨#[105,110,116]⟩,av] wx fun e w'=>∃ A c,e=.returned (.tuple #[.slice A 1 c,.int .i64 0])∧ValV w' (.slice A 1 c) [nulC]∧Below wx.heap.size wx w'):=hZz (fun av wx hb h1=>(builtin_any ⟨#[105,110,116]⟩ [[sCel ⟨#[48,55]⟩]] av wx h1 (hp.below hb) (hs.below hb) (fun x hx=>by simp at hx;subst hx;exact okV1 ⟨by decide,by decide,by decide⟩)).mono fun e w' h=>by
  have hx:=ret1 h;rw [show builtinR ⟨#[105,110,116]⟩ [[sCel ⟨#[48,55]⟩]]=([nulC],0) by decide +kernel] at hx;exact hx)
 have HCE:Hid (∀ l va vb wx,ValV wx va l→ValV wx vb l→Calls prog 15 #[va,vb] wx fun e w'=>e=.returned (.bool true)∧Below wx.heap.size wx w'):=hZz (fun l va vb wx h1 h2=>(cells_any l l va vb wx h1 h2).mono fun e w' ⟨h,q,hq⟩=>⟨by rw [h];simp [eqV],by rw [hq];exact zaqZ (Below.refl _ _) _⟩)
 have HPA:Hid (∀ wx,Below w.heap.size w wx→Calls prog 29 #[.string ⟨#[102,117,110,99,32,109,97,105,110,40,101,41,32,123,32,108,101,116,32,120,32,61,32,64,103,101,116,40,34,107,34,41,59,32,114,101,116,117,114,110,32,120,32,43,32,49,59,32,125]⟩] wx fun e w'=>∃ A nc B fc,e=.returned (.tuple #[.agg #[.slice A 8 nc,.slice B 1 fc],.int .i64 0,.int .i64 0])∧ProgV w' ⟨A,B,nc,fc,P10⟩∧Below wx.heap.size wx w'):=hZz (fun wx hb=>by
  have h:=parse10_s wx (hs.below hb) (hp.below hb);rw [show srcE=⟨#[102,117,110,99,32,109,97,105,110,40,101,41,32,123,32,108,101,116,32,120,32,61,32,64,103,101,116,40,34,107,34,41,59,32,114,101,116,117,114,110,32,120,32,43,32,49,59,32,125]⟩ by decide +kernel] at h;exact h)
 have HRA:Hid (∀ A nc B fc ev wx,Below w.heap.size w wx→ProgV wx ⟨A,B,nc,fc,P10⟩→ValV wx ev [iCel 0]→Calls prog 24 #[.agg #[.slice A 8 nc,.slice B 1 fc],ev,.slice none 0 0,.int .i64 100] wx fun e w'=>∃ er vA vn vc b off qc,e=.returned (.tuple #[.agg #[.bool false,.int .i64 er,.slice vA vn vc,.slice (some ⟨b,off,none⟩) 1 qc],.int .i64 0])∧StrAt w' b off ⟨#[103,101,116]⟩∧Below wx.heap.size wx w'):=hZz (fun A nc B fc ev wx hb=>run_aJ wx (hp.below hb) (hm.below hb) (hs.below hb) A nc B fc ev);have HRB:Hid (∀ A nc B fc ev g wx,Below w.heap.size w wx→ProgV wx ⟨A,B,nc,fc,P10⟩→ValV wx ev [iCel 0]→AnsV wx (.slice (some ⟨g,0,none⟩) 1 1) [⟨0,[iCel 4]⟩]→Calls prog 24 #[.agg #[.slice A 8 nc,.slice B 1 fc],ev,.slice (some ⟨g,0,none⟩) 1 1,.int .i64 100] wx fun e w'=>∃ b off vc qA qn qc,e=.returned (.tuple #[.agg #[.bool true,.int .i64 0,.slice (some ⟨b,off,none⟩) 1 vc,.slice qA qn qc],.int .i64 0])∧1≤vc∧One w' b off (iCel 5)∧Below wx.heap.size wx w'):=hZz (fun A nc B fc ev g wx hb=>run_bJ wx (hp.below hb) (hm.below hb) (hs.below hb) A nc B fc ev g);have HB0:=hZz (Below.refl w.heap.size w);clear hP hp hs hm;go_enter func10,ntmps10
 go_upto_region 2 with (first
  | (go_at_call 28;((with_reducible refine (HI.out (-7) _).mono ?_);rintro r w1 ⟨g1,rfl,hv1,hb1⟩;have HV1:=hZz hv1;have HS1:=hZz hb1;have HB1:=hZz (zaaZ hb1 HB0.out HB0.out.size);clear hv1 hb1))
  | (go_at_call 28;((with_reducible refine (HI.out 2 _).mono ?_);rintro r w2 ⟨g2,rfl,hv2,hb2⟩;have HV2:=hZz hv2;have HS2:=hZz hb2;have HB2:=hZz (zaaZ hb2 HB1.out HB1.out.size);clear hv2 hb2))
  | (go_at_call 13;((with_reducible refine (HQ1.out _ _ _ HB2.out (HV1.out.below HS2.out) HV2.out).mono ?_);rintro r w3 ⟨A3,c3,rfl,hv3,hb3⟩;have HV3:=hZz hv3;have HS3:=hZz hb3;have HB3:=hZz (zaaZ hb3 HB2.out HB2.out.size);clear hv3 hb3)))
 go_upto_region 3 with (first
  | (go_at_call 28;((with_reducible refine (HI.out (-7) _).mono ?_);rintro r w4 ⟨g4,rfl,hv4,hb4⟩;have HV4:=hZz hv4;have HS4:=hZz hb4;have HB4:=hZz (zaaZ hb4 HB3.out HB3.out.size);clear hv4 hb4))
  | (go_at_call 28;((with_reducible refine (HI.out 2 _).mono ?_);rintro r w5 ⟨g5,rfl,hv5,hb5⟩;have HV5:=hZz hv5;have HS5:=hZz hb5;have HB5:=hZz (zaaZ hb5 HB4.out HB4.out.size);clear hv5 hb5))
  | (go_at_call 13;((with_reducible refine (HQ2.out _ _ _ HB5.out (HV4.out.below HS5.out) HV5.out).mono ?_);rintro r w6 ⟨A6,c6,rfl,hv6,hb6⟩;have HV6:=hZz hv6;have HS6:=hZz hb6;have HB6:=hZz (zaaZ hb6 HB5.out HB5.out.size);clear hv6 hb6)))
 have HVQ:=hZz (HV3.out.below (zaaZ HS6.out (zaaZ HS5.out HS4.out HS4.out.size) (Nat.le_trans HS4.out.size HS5.out.size)))
 go_upto_region 4 with (first
  | (go_at_call 28;((with_reducible refine (HI.out 1 _).mono ?_);rintro r w7 ⟨g7,rfl,hv7,hb7⟩;have HV7:=hZz hv7;have HS7:=hZz hb7;have HB7:=hZz (zaaZ hb7 HB6.out HB6.out.size);clear hv7 hb7))
  | (go_at_call 13;((refine (HQ3.out _ _ _ (HB7.out.trans ((zabZ w7 _).mono HB7.out.size)) (HV7.out.below (zabZ w7 _)) (zaiY (c:=sCel ⟨#[97]⟩) (Blk.new w7 _ _))).mono ?_);rintro r w8 ⟨A8,c8,rfl,hv8,hb8⟩;have HS8:=hZz (zadZ hb8 (zabZ w7 _));have HB8:=hZz (zaaZ HS8.out HB7.out HB7.out.size);clear hv8 hb8)))
 go_upto_region 5 with (first
  | (go_at_call 16;((refine (HBU.out _ _ (HB8.out.trans ((zasY w8 _ _).mono HB8.out.size)) (vals1 (Blk.second w8 _ _ _) ((zaiY (c:=sCel ⟨#[48,55]⟩) (Blk.new w8 _ _)).below (zabZ _ _)))).mono ?_);rintro r w9 ⟨A9,c9,rfl,hv9,hb9⟩;have HS9:=hZz (zadZ hb9 (zasY w8 _ _));have HV9:=hZz hv9;have HB9:=hZz (zaaZ HS9.out HB8.out HB8.out.size);clear hv9 hb9)))
 have HS69:=hZz (zaaZ HS9.out (zaaZ HS8.out HS7.out HS7.out.size) (Nat.le_trans HS7.out.size HS8.out.size));have HV3b:=hZz (HVQ.out.below HS69.out);have HV6b:=hZz (HV6.out.below HS69.out);obtain ⟨bn,on,hA9,_,_,hone⟩:=One.of HV9.out;subst hA9;have HON:=hZz hone;clear hone HS1 HS2 HS4 HS5 HS6 HS7 HS8 HS69 HV1 HV2 HV4 HV5 HV7 HVQ HQ1 HQ2 HQ3 HBU
 go_upto_region 7 with (first
  | (go_at_call 28;((with_reducible refine (HI.out (-4) _).mono ?_);rintro r w10 ⟨g10,rfl,hv10,hb10⟩;have HV10:=hZz hv10;have HS10:=hZz hb10;have HB10:=hZz (zaaZ hb10 HB9.out HB9.out.size);clear hv10 hb10))
  | (go_at_call 15;((with_reducible refine (HCE.out [iCel (-4)] _ _ _ (HV3b.out.below HS10.out) HV10.out).mono ?_);rintro r w11 ⟨rfl,hb11⟩;have HS11:=hZz (zaaZ hb11 HS10.out HS10.out.size);have HB11:=hZz (zaaZ HS11.out HB9.out HB9.out.size);clear hb11 HV10))
  | (go_at_call 28;((with_reducible refine (HI.out 1 _).mono ?_);rintro r w12 ⟨g12,rfl,hv12,hb12⟩;have HV12:=hZz hv12;have HS12:=hZz hb12;have HB12:=hZz (zaaZ hb12 HB11.out HB11.out.size);clear hv12 hb12))
  | (go_at_call 15;((with_reducible refine (HCE.out [iCel 1] _ _ _ (HV6b.out.below (zaaZ HS12.out HS11.out HS11.out.size)) HV12.out).mono ?_);rintro r w13 ⟨rfl,hb13⟩;have HB13:=hZz (zaaZ hb13 HB12.out HB12.out.size);have cn:=(HON.out.below (zaaZ hb13 (zaaZ HS12.out HS11.out HS11.out.size) (Nat.le_trans HS11.out.size HS12.out.size))).1;simp only [nulC] at cn;clear hb13)))
 clear cn
 go_upto_region 8 with (first
  | (go_at_call 29;((refine (HPA.out _ HB13.out).mono ?_);rintro r w14 ⟨A,nc,B,fc,rfl,hpr,hb14⟩;have HPR:=hZz hpr;have HB14:=hZz (zaaZ hb14 HB13.out HB13.out.size);clear hpr hb14)))
 obtain ⟨gP,hgP⟩:∃ g,w14.heap.size=g:=⟨_,rfl⟩
 obtain ⟨W7,hW7⟩:∃ W,w14.alloc (.cells #[.slice A 8 nc,.slice B 1 fc] 38)=W:=⟨_,rfl⟩
 have HX7:Hid (Blk W7 gP 38 #[.slice A 8 nc,.slice B 1 fc]):=hZz (by rw [← hW7,← hgP];exact Blk.new _ _ _);have HB7:Hid (Below w.heap.size w W7):=hZz (by rw [← hW7];exact HB14.out.alloc HB14.out.size _);have HPV:Hid (ProgV W7 ⟨A,B,nc,fc,P10⟩):=hZz (by rw [← hW7];exact HPR.out.below (zabZ _ _));rw [hgP,hW7];clear hgP hW7 HPA HPR HB14 HB13 HON HV3b HV6b;have HSP:Hid (∀ w',Below W7.heap.size W7 w'→w'.cell? ⟨gP,0,none⟩=some (.slice A 8 nc)∧w'.cell? ⟨gP,1,none⟩=some (.slice B 1 fc)):=hZz (fun w' hb=>blk2 (HX7.out.below hb));have HB_0:=hZz (zafZ W7);go_cut [4,11] from 83 to 87 (fun u v wx=>∃ g er vA vn vc bQ oQ qc,u=.int .i64 0∧v=.pointer (some ⟨g,0,none⟩)∧Below W7.heap.size W7 wx∧Blk wx g 44 #[.bool false,.int .i64 er,.slice vA vn vc,.slice (some ⟨bQ,oQ,none⟩) 1 qc]∧StrAt wx bQ oQ ⟨#[103,101,116]⟩)
 case first =>
  refine wp_region_held_drew (S:=fun w'=>w'.cell? ⟨gP,0,none⟩=some (.slice A 8 nc)∧w'.cell? ⟨gP,1,none⟩=some (.slice B 1 fc)) (by kernel_rfl) (HSP.out _ HB_0.out) (fun hHeld=>?_)
  obtain ⟨WD,hWD⟩:∃ W,W7.drew=W:=⟨_,rfl⟩
  rw [hWD] at HB_0 hHeld ⊢;clear hWD;refine wpAnyH_take (i:=0) (oi:=_) (v:=.agg #[.slice A 8 nc,.slice B 1 fc]) rfl (by kernel_rfl) (by kernel_rfl) (by kernel_rfl) (fun _ _ _ h=>h) (Or.inl ⟨by rfl,by intro w hSw;(try dsimp only at hSw);go_simp⟩) (by assumption) ?_
  simp only [nz,Act.put];refine wpAnyH_ready (rs:=[1,6]) (by kernel_rfl) (by simp) ?_
  refine AllReadyH.cons (o:=_) rfl (fun K hK=>?_) ?_
  ·go_simp
   refine (HI.out 0 _).mono ?_
   rintro r9 Wq2 ⟨gq3,rfl,hv9,hb9⟩;have HB_iq1:=hZz (zaaZ hb9 HB_0.out HB_0.out.size);have HV_iq1:=hZz hv9;clear hv9 hb9;go_wp2_with fail;refine hK.out _ _ (HSP.out _ HB_iq1.out) (fun hHeld=>?_)
   clear hK K
   try simp only [nz,Act.put]
   refine wpAnyH_ready (rs:=[2,6]) (by kernel_rfl) (by simp) ?_
   refine AllReadyH.cons (o:=_) rfl (fun K hK=>?_) ?_
   ·go_simp
    refine (HRA.out A nc B fc _ _ (zaaZ HB_iq1.out HB7.out HB7.out.size) (HPV.out.below HB_iq1.out) HV_iq1.out).mono ?_
    rintro r9 Wq5 ⟨er,vA,vn,vc,bQ,oQ,qc,rfl,hq9,hb9⟩;have HB_rq4:=hZz (zaaZ hb9 HB_iq1.out HB_iq1.out.size);have HV_rq4:=hZz (HV_iq1.out.below hb9);have HQ_rq4:=hZz hq9;clear hq9 hb9;go_wp2_with fail;refine hK.out _ _ (HSP.out _ HB_rq4.out) (fun hHeld=>?_)
    clear hK K
    try simp only [nz,Act.put]
    refine wpAnyH_take (i:=3) (oi:=_) (v:=.tuple #[.agg #[.bool false,.int .i64 er,.slice vA vn vc,.slice (some ⟨bQ,oQ,none⟩) 1 qc],.int .i64 0]) rfl (by kernel_rfl) (by kernel_rfl) (by kernel_rfl) (fun _ _ _ h=>h) (Or.inl ⟨by rfl,by intro w hSw;(try dsimp only at hSw);go_simp⟩) (by assumption) ?_
    simp only [nz,Act.put];refine wpAnyH_take (i:=4) (oi:=_) (v:=.agg #[.bool false,.int .i64 er,.slice vA vn vc,.slice (some ⟨bQ,oQ,none⟩) 1 qc]) rfl (by kernel_rfl) (by kernel_rfl) (by kernel_rfl) (fun _ _ _ h=>h) (Or.inl ⟨by rfl,by intro w hSw;(try dsimp only at hSw);go_simp⟩) (by assumption) ?_
    simp only [nz,Act.put];refine wpAnyH_take (i:=5) (oi:=_) (v:=.int .i64 0) rfl (by kernel_rfl) (by kernel_rfl) (by kernel_rfl) (fun _ _ _ h=>h) (Or.inl ⟨by rfl,by intro w hSw;(try dsimp only at hSw);go_simp⟩) (by assumption) ?_
    simp only [nz,Act.put];refine wpAnyH_ready (rs:=[6]) (by kernel_rfl) (by simp) ?_
    refine AllReadyH.cons (o:=_) rfl (fun K hK=>?_) AllReadyH.nil
    go_simp;have HB_aq6:=hZz (HB_rq4.out.alloc HB_rq4.out.size (.cells #[.bool false,.int .i64 0,.slice none 0 0,.slice none 0 0] 44));have HV_aq6:=hZz (HV_rq4.out.below (zabZ Wq5 (.cells #[.bool false,.int .i64 0,.slice none 0 0,.slice none 0 0] 44)));have HQ_aq6:=hZz (HQ_rq4.out.below (zabZ Wq5 (.cells #[.bool false,.int .i64 0,.slice none 0 0,.slice none 0 0] 44)));have HM_aq6:=hZz (Blk.new Wq5 44 #[.bool false,.int .i64 0,.slice none 0 0,.slice none 0 0]);refine hK.out _ _ (HSP.out _ HB_aq6.out) (fun hHeld=>?_)
    clear hK K
    try simp only [nz,Act.put]
    obtain ⟨gq7,hgq7⟩:∃ g,Wq5.heap.size=g:=⟨_,rfl⟩
    have Hgq7:=hZz hgq7;have HGE_gq7:Hid (W7.heap.size≤gq7):=hZz (by rw [← Hgq7.out];exact HB_rq4.out.size);obtain ⟨Wq8,hWq8⟩:∃ W,Wq5.alloc (.cells #[.bool false,.int .i64 0,.slice none 0 0,.slice none 0 0] 44)=W:=⟨_,rfl⟩
    rw [hWq8] at HB_aq6 HV_aq6 HQ_aq6 HM_aq6 hHeld ⊢;rw [hgq7] at HM_aq6
    try rw [hgq7]
    have hhgq7:=HB_aq6.out.size;clear hWq8 hgq7 hhgq7;refine wpAnyH_ready (rs:=[7]) (by kernel_rfl) (by simp) ?_
    refine AllReadyH.cons (o:=_) rfl (fun K hK=>?_) AllReadyH.nil
    rw [if_pos (by rfl)];refine wp_store_row _ _ _ rfl gq7 #[.bool false,.int .i64 er,.slice vA vn vc,.slice (some ⟨bQ,oQ,none⟩) 1 qc] rfl rfl 44 _ HM_aq6.out (by kernel_rfl) rfl (by simp [Value.oneCell']) ?_
    have HB_sq9:=hZz (below_setRow HB_aq6.out HGE_gq7.out #[.bool false,.int .i64 er,.slice vA vn vc,.slice (some ⟨bQ,oQ,none⟩) 1 qc]);have HM_sq9:=hZz (HM_aq6.out.setRow (cs':=#[.bool false,.int .i64 er,.slice vA vn vc,.slice (some ⟨bQ,oQ,none⟩) 1 qc]));have HQ_sq9:=hZz (HQ_aq6.out.setRow (cs:=#[.bool false,.int .i64 er,.slice vA vn vc,.slice (some ⟨bQ,oQ,none⟩) 1 qc]) HM_aq6.out);refine hK.out _ _ (HSP.out _ HB_sq9.out) (fun hHeld=>?_)
    clear hK K
    try simp only [nz,Act.put]
    refine wpAnyH_take (i:=8) (oi:=_) (v:=.int .i64 0) rfl (by kernel_rfl) (by kernel_rfl) (by kernel_rfl) (fun _ _ _ h=>h) (Or.inl ⟨by rfl,by intro w hSw;(try dsimp only at hSw);go_simp⟩) (by assumption) ?_
    simp only [nz,Act.put];refine wpAnyH_done (by kernel_rfl) ?_ _
    try dsimp only [List.getElem_toArray,List.getElem_cons_succ,List.getElem_cons_zero,Act.put]
    go_wp2_with fail;go_meet
    exact ⟨gq7,er,vA,vn,vc,bQ,oQ,qc,rfl,rfl,HB_sq9.out,HM_sq9.out,HQ_sq9.out⟩
   refine AllReadyH.cons (o:=_) rfl (fun K hK=>?_) AllReadyH.nil
   go_simp;have HB_aq10:=hZz (HB_iq1.out.alloc HB_iq1.out.size (.cells #[.bool false,.int .i64 0,.slice none 0 0,.slice none 0 0] 44));have HV_aq10:=hZz (HV_iq1.out.below (zabZ Wq2 (.cells #[.bool false,.int .i64 0,.slice none 0 0,.slice none 0 0] 44)));have HM_aq10:=hZz (Blk.new Wq2 44 #[.bool false,.int .i64 0,.slice none 0 0,.slice none 0 0]);refine hK.out _ _ (HSP.out _ HB_aq10.out) (fun hHeld=>?_)
   clear hK K
   try simp only [nz,Act.put]
   obtain ⟨gq11,hgq11⟩:∃ g,Wq2.heap.size=g:=⟨_,rfl⟩
   have Hgq11:=hZz hgq11;have HGE_gq11:Hid (W7.heap.size≤gq11):=hZz (by rw [← Hgq11.out];exact HB_iq1.out.size);obtain ⟨Wq12,hWq12⟩:∃ W,Wq2.alloc (.cells #[.bool false,.int .i64 0,.slice none 0 0,.slice none 0 0] 44)=W:=⟨_,rfl⟩
   rw [hWq12] at HB_aq10 HV_aq10 HM_aq10 hHeld ⊢;rw [hgq11] at HM_aq10
   try rw [hgq11]
   have hhgq11:=HB_aq10.out.size;clear hWq12 hgq11 hhgq11;refine wpAnyH_ready (rs:=[2]) (by kernel_rfl) (by simp) ?_
   refine AllReadyH.cons (o:=_) rfl (fun K hK=>?_) AllReadyH.nil
   go_simp;refine (HRA.out A nc B fc _ _ (zaaZ HB_aq10.out HB7.out HB7.out.size) (HPV.out.below HB_aq10.out) HV_aq10.out).mono ?_
   rintro r9 Wq14 ⟨er,vA,vn,vc,bQ,oQ,qc,rfl,hq9,hb9⟩;have HB_rq13:=hZz (zaaZ hb9 HB_aq10.out HB_aq10.out.size);have HV_rq13:=hZz (HV_aq10.out.below hb9);have HM_rq13:=hZz (HM_aq10.out.below hb9);have HQ_rq13:=hZz hq9;clear hq9 hb9;go_wp2_with fail;refine hK.out _ _ (HSP.out _ HB_rq13.out) (fun hHeld=>?_)
   clear hK K
   try simp only [nz,Act.put]
   refine wpAnyH_take (i:=3) (oi:=_) (v:=.tuple #[.agg #[.bool false,.int .i64 er,.slice vA vn vc,.slice (some ⟨bQ,oQ,none⟩) 1 qc],.int .i64 0]) rfl (by kernel_rfl) (by kernel_rfl) (by kernel_rfl) (fun _ _ _ h=>h) (Or.inl ⟨by rfl,by intro w hSw;(try dsimp only at hSw);go_simp⟩) (by assumption) ?_
   simp only [nz,Act.put];refine wpAnyH_take (i:=4) (oi:=_) (v:=.agg #[.bool false,.int .i64 er,.slice vA vn vc,.slice (some ⟨bQ,oQ,none⟩) 1 qc]) rfl (by kernel_rfl) (by kernel_rfl) (by kernel_rfl) (fun _ _ _ h=>h) (Or.inl ⟨by rfl,by intro w hSw;(try dsimp only at hSw);go_simp⟩) (by assumption) ?_
   simp only [nz,Act.put];refine wpAnyH_take (i:=5) (oi:=_) (v:=.int .i64 0) rfl (by kernel_rfl) (by kernel_rfl) (by kernel_rfl) (fun _ _ _ h=>h) (Or.inl ⟨by rfl,by intro w hSw;(try dsimp only at hSw);go_simp⟩) (by assumption) ?_
   simp only [nz,Act.put];refine wpAnyH_ready (rs:=[7]) (by kernel_rfl) (by simp) ?_
   refine AllReadyH.cons (o:=_) rfl (fun K hK=>?_) AllReadyH.nil
   rw [if_pos (by rfl)];refine wp_store_row _ _ _ rfl gq11 #[.bool false,.int .i64 er,.slice vA vn vc,.slice (some ⟨bQ,oQ,none⟩) 1 qc] rfl rfl 44 _ HM_rq13.out (by kernel_rfl) rfl (by simp [Value.oneCell']) ?_
   have HB_sq15:=hZz (below_setRow HB_rq13.out HGE_gq11.out #[.bool false,.int .i64 er,.slice vA vn vc,.slice (some ⟨bQ,oQ,none⟩) 1 qc]);have HM_sq15:=hZz (HM_rq13.out.setRow (cs':=#[.bool false,.int .i64 er,.slice vA vn vc,.slice (some ⟨bQ,oQ,none⟩) 1 qc]));have HQ_sq15:=hZz (HQ_rq13.out.setRow (cs:=#[.bool false,.int .i64 er,.slice vA vn vc,.slice (some ⟨bQ,oQ,none⟩) 1 qc]) HM_rq13.out);refine hK.out _ _ (HSP.out _ HB_sq15.out) (fun hHeld=>?_)
   clear hK K
   try simp only [nz,Act.put]
   refine wpAnyH_take (i:=8) (oi:=_) (v:=.int .i64 0) rfl (by kernel_rfl) (by kernel_rfl) (by kernel_rfl) (fun _ _ _ h=>h) (Or.inl ⟨by rfl,by intro w hSw;(try dsimp only at hSw);go_simp⟩) (by assumption) ?_
   simp only [nz,Act.put];refine wpAnyH_done (by kernel_rfl) ?_ _
   try dsimp only [List.getElem_toArray,List.getElem_cons_succ,List.getElem_cons_zero,Act.put]
   go_wp2_with fail;go_meet
   exact ⟨gq11,er,vA,vn,vc,bQ,oQ,qc,rfl,rfl,HB_sq15.out,HM_sq15.out,HQ_sq15.out⟩
  refine AllReadyH.cons (o:=_) rfl (fun K hK=>?_) AllReadyH.nil
  go_simp;have HB_aq16:=hZz (HB_0.out.alloc HB_0.out.size (.cells #[.bool false,.int .i64 0,.slice none 0 0,.slice none 0 0] 44));have HM_aq16:=hZz (Blk.new WD 44 #[.bool false,.int .i64 0,.slice none 0 0,.slice none 0 0]);refine hK.out _ _ (HSP.out _ HB_aq16.out) (fun hHeld=>?_)
  clear hK K
  try simp only [nz,Act.put]
  obtain ⟨gq17,hgq17⟩:∃ g,WD.heap.size=g:=⟨_,rfl⟩
  have Hgq17:=hZz hgq17;have HGE_gq17:Hid (W7.heap.size≤gq17):=hZz (by rw [← Hgq17.out];exact HB_0.out.size);obtain ⟨Wq18,hWq18⟩:∃ W,WD.alloc (.cells #[.bool false,.int .i64 0,.slice none 0 0,.slice none 0 0] 44)=W:=⟨_,rfl⟩
  rw [hWq18] at HB_aq16 HM_aq16 hHeld ⊢;rw [hgq17] at HM_aq16
  try rw [hgq17]
  have hhgq17:=HB_aq16.out.size;clear hWq18 hgq17 hhgq17;refine wpAnyH_ready (rs:=[1]) (by kernel_rfl) (by simp) ?_
  refine AllReadyH.cons (o:=_) rfl (fun K hK=>?_) AllReadyH.nil
  go_simp;refine (HI.out 0 _).mono ?_
  rintro r9 Wq20 ⟨gq21,rfl,hv9,hb9⟩;have HB_iq19:=hZz (zaaZ hb9 HB_aq16.out HB_aq16.out.size);have HM_iq19:=hZz (HM_aq16.out.below hb9);have HV_iq19:=hZz hv9;clear hv9 hb9;go_wp2_with fail;refine hK.out _ _ (HSP.out _ HB_iq19.out) (fun hHeld=>?_)
  clear hK K
  try simp only [nz,Act.put]
  refine wpAnyH_ready (rs:=[2]) (by kernel_rfl) (by simp) ?_
  refine AllReadyH.cons (o:=_) rfl (fun K hK=>?_) AllReadyH.nil
  go_simp;refine (HRA.out A nc B fc _ _ (zaaZ HB_iq19.out HB7.out HB7.out.size) (HPV.out.below HB_iq19.out) HV_iq19.out).mono ?_
  rintro r9 Wq23 ⟨er,vA,vn,vc,bQ,oQ,qc,rfl,hq9,hb9⟩;have HB_rq22:=hZz (zaaZ hb9 HB_iq19.out HB_iq19.out.size);have HM_rq22:=hZz (HM_iq19.out.below hb9);have HV_rq22:=hZz (HV_iq19.out.below hb9);have HQ_rq22:=hZz hq9;clear hq9 hb9;go_wp2_with fail;refine hK.out _ _ (HSP.out _ HB_rq22.out) (fun hHeld=>?_)
  clear hK K
  try simp only [nz,Act.put]
  refine wpAnyH_take (i:=3) (oi:=_) (v:=.tuple #[.agg #[.bool false,.int .i64 er,.slice vA vn vc,.slice (some ⟨bQ,oQ,none⟩) 1 qc],.int .i64 0]) rfl (by kernel_rfl) (by kernel_rfl) (by kernel_rfl) (fun _ _ _ h=>h) (Or.inl ⟨by rfl,by intro w hSw;(try dsimp only at hSw);go_simp⟩) (by assumption) ?_
  simp only [nz,Act.put];refine wpAnyH_take (i:=4) (oi:=_) (v:=.agg #[.bool false,.int .i64 er,.slice vA vn vc,.slice (some ⟨bQ,oQ,none⟩) 1 qc]) rfl (by kernel_rfl) (by kernel_rfl) (by kernel_rfl) (fun _ _ _ h=>h) (Or.inl ⟨by rfl,by intro w hSw;(try dsimp only at hSw);go_simp⟩) (by assumption) ?_
  simp only [nz,Act.put];refine wpAnyH_take (i:=5) (oi:=_) (v:=.int .i64 0) rfl (by kernel_rfl) (by kernel_rfl) (by kernel_rfl) (fun _ _ _ h=>h) (Or.inl ⟨by rfl,by intro w hSw;(try dsimp only at hSw);go_simp⟩) (by assumption) ?_
  simp only [nz,Act.put];refine wpAnyH_ready (rs:=[7]) (by kernel_rfl) (by simp) ?_
  refine AllReadyH.cons (o:=_) rfl (fun K hK=>?_) AllReadyH.nil
  rw [if_pos (by rfl)];refine wp_store_row _ _ _ rfl gq17 #[.bool false,.int .i64 er,.slice vA vn vc,.slice (some ⟨bQ,oQ,none⟩) 1 qc] rfl rfl 44 _ HM_rq22.out (by kernel_rfl) rfl (by simp [Value.oneCell']) ?_
  have HB_sq24:=hZz (below_setRow HB_rq22.out HGE_gq17.out #[.bool false,.int .i64 er,.slice vA vn vc,.slice (some ⟨bQ,oQ,none⟩) 1 qc]);have HM_sq24:=hZz (HM_rq22.out.setRow (cs':=#[.bool false,.int .i64 er,.slice vA vn vc,.slice (some ⟨bQ,oQ,none⟩) 1 qc]));have HQ_sq24:=hZz (HQ_rq22.out.setRow (cs:=#[.bool false,.int .i64 er,.slice vA vn vc,.slice (some ⟨bQ,oQ,none⟩) 1 qc]) HM_rq22.out);refine hK.out _ _ (HSP.out _ HB_sq24.out) (fun hHeld=>?_)
  clear hK K
  try simp only [nz,Act.put]
  refine wpAnyH_take (i:=8) (oi:=_) (v:=.int .i64 0) rfl (by kernel_rfl) (by kernel_rfl) (by kernel_rfl) (fun _ _ _ h=>h) (Or.inl ⟨by rfl,by intro w hSw;(try dsimp only at hSw);go_simp⟩) (by assumption) ?_
  simp only [nz,Act.put];refine wpAnyH_done (by kernel_rfl) ?_ _
  try dsimp only [List.getElem_toArray,List.getElem_cons_succ,List.getElem_cons_zero,Act.put]
  go_wp2_with fail;go_meet
  exact ⟨gq17,er,vA,vn,vc,bQ,oQ,qc,rfl,rfl,HB_sq24.out,HM_sq24.out,HQ_sq24.out⟩
 case rest =>
  obtain ⟨gA,er,vA,vn,vc,bR,oR,qc,rfl,rfl,hb8,hx8,hq8⟩:=hcut;have HB78:=hZz hb8;have HX8:=hZz hx8;have HQ8:=hZz hq8;have HB8:=hZz (zaaZ hb8 HB7.out HB7.out.size);have HPV8:=hZz (HPV.out.below hb8);obtain ⟨W8,hW8⟩:∃ W,wc=W:=⟨_,rfl⟩
  rw [hW8] at HB78 HX8 HQ8 HB8 HPV8 ⊢;have HSP8:Hid (∀ w',Below W8.heap.size W8 w'→w'.cell? ⟨gP,0,none⟩=some (.slice A 8 nc)∧w'.cell? ⟨gP,1,none⟩=some (.slice B 1 fc)):=hZz (fun w' hb=>HSP.out w' (zaaZ hb HB78.out HB78.out.size));clear hb8 hx8 hq8 hW8 HB_0;have HB_0:=hZz (zafZ W8);go_upto_region 9 with (fail)
  go_cut [6,12] from 89 to 96 (fun u v wx=>∃ g bQ oQ vc qA qn qc,u=.int .i64 0∧v=.pointer (some ⟨g,0,none⟩)∧Below W8.heap.size W8 wx∧Blk wx g 44 #[.bool true,.int .i64 0,.slice (some ⟨bQ,oQ,none⟩) 1 vc,.slice qA qn qc]∧1≤vc∧One wx bQ oQ (iCel 5))
  case first =>
   refine wp_region_held_drew (S:=fun w'=>w'.cell? ⟨gP,0,none⟩=some (.slice A 8 nc)∧w'.cell? ⟨gP,1,none⟩=some (.slice B 1 fc)) (by kernel_rfl) (HSP8.out _ HB_0.out) (fun hHeld=>?_)
   obtain ⟨WD,hWD⟩:∃ W,W8.drew=W:=⟨_,rfl⟩
   rw [hWD] at HB_0 hHeld ⊢;clear hWD;refine wpAnyH_take (i:=0) (oi:=_) (v:=.agg #[.slice A 8 nc,.slice B 1 fc]) rfl (by kernel_rfl) (by kernel_rfl) (by kernel_rfl) (fun _ _ _ h=>h) (Or.inl ⟨by rfl,by intro w hSw;(try dsimp only at hSw);go_simp⟩) (by assumption) ?_
   simp only [nz,Act.put];refine wpAnyH_ready (rs:=[1,9]) (by kernel_rfl) (by simp) ?_
   refine AllReadyH.cons (o:=_) rfl (fun K hK=>?_) ?_
   ·go_simp
    refine (HI.out 0 _).mono ?_
    rintro r9 Wq26 ⟨gq27,rfl,hv9,hb9⟩;have HB_iq25:=hZz (zaaZ hb9 HB_0.out HB_0.out.size);have HV_iq25:=hZz hv9;clear hv9 hb9;go_wp2_with fail;refine hK.out _ _ (HSP8.out _ HB_iq25.out) (fun hHeld=>?_)
    clear hK K
    try simp only [nz,Act.put]
    refine wpAnyH_ready (rs:=[2,9]) (by kernel_rfl) (by simp) ?_
    refine AllReadyH.cons (o:=_) rfl (fun K hK=>?_) ?_
    ·go_simp
     refine (HI.out 4 _).mono ?_
     rintro r9 Wq29 ⟨gq30,rfl,hv9,hb9⟩;have HB_iq28:=hZz (zaaZ hb9 HB_iq25.out HB_iq25.out.size);have HV_iq28:=hZz (HV_iq25.out.below hb9);have HA_iq28:=hZz hv9;clear hv9 hb9;go_wp2_with fail;refine hK.out _ _ (HSP8.out _ HB_iq28.out) (fun hHeld=>?_)
     clear hK K
     try simp only [nz,Act.put]
     refine wpAnyH_take (i:=3) (oi:=_) (v:=.agg #[.int .i64 0,.slice (some ⟨gq30,0,none⟩) 1 1]) rfl (by kernel_rfl) (by kernel_rfl) (by kernel_rfl) (fun _ _ _ h=>h) (Or.inl ⟨by rfl,by intro w hSw;(try dsimp only at hSw);go_simp⟩) (by assumption) ?_
     simp only [nz,Act.put];refine wpAnyH_ready (rs:=[4,9]) (by kernel_rfl) (by simp) ?_
     refine AllReadyH.cons (o:=_) rfl (fun K hK=>?_) ?_
     ·go_simp
      have HB_sq31:=hZz (HB_iq28.out.alloc HB_iq28.out.size (.cells #[.int .i64 0,.slice (some ⟨gq30,0,none⟩) 1 1] 58));have HV_sq31:=hZz (HV_iq28.out.below (zabZ Wq29 (.cells #[.int .i64 0,.slice (some ⟨gq30,0,none⟩) 1 1] 58)));have HA_sq31:=hZz (HA_iq28.out.below (zabZ Wq29 (.cells #[.int .i64 0,.slice (some ⟨gq30,0,none⟩) 1 1] 58)));have HN_sq31:=hZz (ans1 (Blk.new Wq29 58 #[.int .i64 0,.slice (some ⟨gq30,0,none⟩) 1 1]) HA_sq31.out);refine hK.out _ _ (HSP8.out _ HB_sq31.out) (fun hHeld=>?_)
      clear hK K
      try simp only [nz,Act.put]
      obtain ⟨gq32,hgq32⟩:∃ g,Wq29.heap.size=g:=⟨_,rfl⟩
      obtain ⟨Wq33,hWq33⟩:∃ W,Wq29.alloc (.cells #[.int .i64 0,.slice (some ⟨gq30,0,none⟩) 1 1] 58)=W:=⟨_,rfl⟩
      rw [hWq33] at HB_sq31 HV_sq31 HA_sq31 HN_sq31 hHeld ⊢;rw [hgq32] at HN_sq31
      try rw [hgq32]
      clear hWq33 hgq32;refine wpAnyH_ready (rs:=[5,9]) (by kernel_rfl) (by simp) ?_
      refine AllReadyH.cons (o:=_) rfl (fun K hK=>?_) ?_
      ·go_simp
       refine (HRB.out A nc B fc _ _ _ (zaaZ HB_sq31.out HB8.out HB8.out.size) (HPV8.out.below HB_sq31.out) HV_sq31.out HN_sq31.out).mono ?_
       rintro r9 Wq35 ⟨bQ,oQ,vc,qA,qn,qc,rfl,hvc,hq9,hb9⟩;have HVC:=hZz hvc;clear hvc;have HB_rq34:=hZz (zaaZ hb9 HB_sq31.out HB_sq31.out.size);have HV_rq34:=hZz (HV_sq31.out.below hb9);have HA_rq34:=hZz (HA_sq31.out.below hb9);have HN_rq34:=hZz (HN_sq31.out.below hb9);have HQ_rq34:=hZz hq9;clear hq9 hb9;go_wp2_with fail;refine hK.out _ _ (HSP8.out _ HB_rq34.out) (fun hHeld=>?_)
       clear hK K
       try simp only [nz,Act.put]
       refine wpAnyH_take (i:=6) (oi:=_) (v:=.tuple #[.agg #[.bool true,.int .i64 0,.slice (some ⟨bQ,oQ,none⟩) 1 vc,.slice qA qn qc],.int .i64 0]) rfl (by kernel_rfl) (by kernel_rfl) (by kernel_rfl) (fun _ _ _ h=>h) (Or.inl ⟨by rfl,by intro w hSw;(try dsimp only at hSw);go_simp⟩) (by assumption) ?_
       simp only [nz,Act.put];refine wpAnyH_take (i:=7) (oi:=_) (v:=.agg #[.bool true,.int .i64 0,.slice (some ⟨bQ,oQ,none⟩) 1 vc,.slice qA qn qc]) rfl (by kernel_rfl) (by kernel_rfl) (by kernel_rfl) (fun _ _ _ h=>h) (Or.inl ⟨by rfl,by intro w hSw;(try dsimp only at hSw);go_simp⟩) (by assumption) ?_
       simp only [nz,Act.put];refine wpAnyH_take (i:=8) (oi:=_) (v:=.int .i64 0) rfl (by kernel_rfl) (by kernel_rfl) (by kernel_rfl) (fun _ _ _ h=>h) (Or.inl ⟨by rfl,by intro w hSw;(try dsimp only at hSw);go_simp⟩) (by assumption) ?_
       simp only [nz,Act.put];refine wpAnyH_ready (rs:=[9]) (by kernel_rfl) (by simp) ?_
       refine AllReadyH.cons (o:=_) rfl (fun K hK=>?_) AllReadyH.nil
       go_simp;have HB_aq36:=hZz (HB_rq34.out.alloc HB_rq34.out.size (.cells #[.bool false,.int .i64 0,.slice none 0 0,.slice none 0 0] 44));have HV_aq36:=hZz (HV_rq34.out.below (zabZ Wq35 (.cells #[.bool false,.int .i64 0,.slice none 0 0,.slice none 0 0] 44)));have HA_aq36:=hZz (HA_rq34.out.below (zabZ Wq35 (.cells #[.bool false,.int .i64 0,.slice none 0 0,.slice none 0 0] 44)));have HN_aq36:=hZz (HN_rq34.out.below (zabZ Wq35 (.cells #[.bool false,.int .i64 0,.slice none 0 0,.slice none 0 0] 44)));have HQ_aq36:=hZz (HQ_rq34.out.below (zabZ Wq35 (.cells #[.bool false,.int .i64 0,.slice none 0 0,.slice none 0 0] 44)));have HM_aq36:=hZz (Blk.new Wq35 44 #[.bool false,.int .i64 0,.slice none 0 0,.slice none 0 0]);refine hK.out _ _ (HSP8.out _ HB_aq36.out) (fun hHeld=>?_)
       clear hK K
       try simp only [nz,Act.put]
       obtain ⟨gq37,hgq37⟩:∃ g,Wq35.heap.size=g:=⟨_,rfl⟩
       have Hgq37:=hZz hgq37;have HGE_gq37:Hid (W8.heap.size≤gq37):=hZz (by rw [← Hgq37.out];exact HB_rq34.out.size);obtain ⟨Wq38,hWq38⟩:∃ W,Wq35.alloc (.cells #[.bool false,.int .i64 0,.slice none 0 0,.slice none 0 0] 44)=W:=⟨_,rfl⟩
       rw [hWq38] at HB_aq36 HV_aq36 HA_aq36 HN_aq36 HQ_aq36 HM_aq36 hHeld ⊢;rw [hgq37] at HM_aq36
       try rw [hgq37]
       have hhgq37:=HB_aq36.out.size;clear hWq38 hgq37 hhgq37;refine wpAnyH_ready (rs:=[10]) (by kernel_rfl) (by simp) ?_
       refine AllReadyH.cons (o:=_) rfl (fun K hK=>?_) AllReadyH.nil
       rw [if_pos (by rfl)];refine wp_store_row _ _ _ rfl gq37 #[.bool true,.int .i64 0,.slice (some ⟨bQ,oQ,none⟩) 1 vc,.slice qA qn qc] rfl rfl 44 _ HM_aq36.out (by kernel_rfl) rfl (by simp [Value.oneCell']) ?_
       have HB_sq39:=hZz (below_setRow HB_aq36.out HGE_gq37.out #[.bool true,.int .i64 0,.slice (some ⟨bQ,oQ,none⟩) 1 vc,.slice qA qn qc]);have HM_sq39:=hZz (HM_aq36.out.setRow (cs':=#[.bool true,.int .i64 0,.slice (some ⟨bQ,oQ,none⟩) 1 vc,.slice qA qn qc]));have HQ_sq39:=hZz (HQ_aq36.out.setRow (cs:=#[.bool true,.int .i64 0,.slice (some ⟨bQ,oQ,none⟩) 1 vc,.slice qA qn qc]) HM_aq36.out);refine hK.out _ _ (HSP8.out _ HB_sq39.out) (fun hHeld=>?_)
       clear hK K
       try simp only [nz,Act.put]
       refine wpAnyH_take (i:=11) (oi:=_) (v:=.int .i64 0) rfl (by kernel_rfl) (by kernel_rfl) (by kernel_rfl) (fun _ _ _ h=>h) (Or.inl ⟨by rfl,by intro w hSw;(try dsimp only at hSw);go_simp⟩) (by assumption) ?_
       simp only [nz,Act.put];refine wpAnyH_done (by kernel_rfl) ?_ _
       try dsimp only [List.getElem_toArray,List.getElem_cons_succ,List.getElem_cons_zero,Act.put]
       go_wp2_with fail;go_meet
       exact ⟨gq37,bQ,oQ,vc,qA,qn,qc,rfl,rfl,HB_sq39.out,HM_sq39.out,HVC.out,HQ_sq39.out⟩
      refine AllReadyH.cons (o:=_) rfl (fun K hK=>?_) AllReadyH.nil
      go_simp;have HB_aq40:=hZz (HB_sq31.out.alloc HB_sq31.out.size (.cells #[.bool false,.int .i64 0,.slice none 0 0,.slice none 0 0] 44));have HV_aq40:=hZz (HV_sq31.out.below (zabZ Wq33 (.cells #[.bool false,.int .i64 0,.slice none 0 0,.slice none 0 0] 44)));have HA_aq40:=hZz (HA_sq31.out.below (zabZ Wq33 (.cells #[.bool false,.int .i64 0,.slice none 0 0,.slice none 0 0] 44)));have HN_aq40:=hZz (HN_sq31.out.below (zabZ Wq33 (.cells #[.bool false,.int .i64 0,.slice none 0 0,.slice none 0 0] 44)));have HM_aq40:=hZz (Blk.new Wq33 44 #[.bool false,.int .i64 0,.slice none 0 0,.slice none 0 0]);refine hK.out _ _ (HSP8.out _ HB_aq40.out) (fun hHeld=>?_)
      clear hK K
      try simp only [nz,Act.put]
      obtain ⟨gq41,hgq41⟩:∃ g,Wq33.heap.size=g:=⟨_,rfl⟩
      have Hgq41:=hZz hgq41;have HGE_gq41:Hid (W8.heap.size≤gq41):=hZz (by rw [← Hgq41.out];exact HB_sq31.out.size);obtain ⟨Wq42,hWq42⟩:∃ W,Wq33.alloc (.cells #[.bool false,.int .i64 0,.slice none 0 0,.slice none 0 0] 44)=W:=⟨_,rfl⟩
      rw [hWq42] at HB_aq40 HV_aq40 HA_aq40 HN_aq40 HM_aq40 hHeld ⊢;rw [hgq41] at HM_aq40
      try rw [hgq41]
      have hhgq41:=HB_aq40.out.size;clear hWq42 hgq41 hhgq41;refine wpAnyH_ready (rs:=[5]) (by kernel_rfl) (by simp) ?_
      refine AllReadyH.cons (o:=_) rfl (fun K hK=>?_) AllReadyH.nil
      go_simp;refine (HRB.out A nc B fc _ _ _ (zaaZ HB_aq40.out HB8.out HB8.out.size) (HPV8.out.below HB_aq40.out) HV_aq40.out HN_aq40.out).mono ?_
      rintro r9 Wq44 ⟨bQ,oQ,vc,qA,qn,qc,rfl,hvc,hq9,hb9⟩;have HVC:=hZz hvc;clear hvc;have HB_rq43:=hZz (zaaZ hb9 HB_aq40.out HB_aq40.out.size);have HV_rq43:=hZz (HV_aq40.out.below hb9);have HA_rq43:=hZz (HA_aq40.out.below hb9);have HN_rq43:=hZz (HN_aq40.out.below hb9);have HM_rq43:=hZz (HM_aq40.out.below hb9);have HQ_rq43:=hZz hq9;clear hq9 hb9;go_wp2_with fail;refine hK.out _ _ (HSP8.out _ HB_rq43.out) (fun hHeld=>?_)
      clear hK K
      try simp only [nz,Act.put]
      refine wpAnyH_take (i:=6) (oi:=_) (v:=.tuple #[.agg #[.bool true,.int .i64 0,.slice (some ⟨bQ,oQ,none⟩) 1 vc,.slice qA qn qc],.int .i64 0]) rfl (by kernel_rfl) (by kernel_rfl) (by kernel_rfl) (fun _ _ _ h=>h) (Or.inl ⟨by rfl,by intro w hSw;(try dsimp only at hSw);go_simp⟩) (by assumption) ?_
      simp only [nz,Act.put];refine wpAnyH_take (i:=7) (oi:=_) (v:=.agg #[.bool true,.int .i64 0,.slice (some ⟨bQ,oQ,none⟩) 1 vc,.slice qA qn qc]) rfl (by kernel_rfl) (by kernel_rfl) (by kernel_rfl) (fun _ _ _ h=>h) (Or.inl ⟨by rfl,by intro w hSw;(try dsimp only at hSw);go_simp⟩) (by assumption) ?_
      simp only [nz,Act.put];refine wpAnyH_take (i:=8) (oi:=_) (v:=.int .i64 0) rfl (by kernel_rfl) (by kernel_rfl) (by kernel_rfl) (fun _ _ _ h=>h) (Or.inl ⟨by rfl,by intro w hSw;(try dsimp only at hSw);go_simp⟩) (by assumption) ?_
      simp only [nz,Act.put];refine wpAnyH_ready (rs:=[10]) (by kernel_rfl) (by simp) ?_
      refine AllReadyH.cons (o:=_) rfl (fun K hK=>?_) AllReadyH.nil
      rw [if_pos (by rfl)];refine wp_store_row _ _ _ rfl gq41 #[.bool true,.int .i64 0,.slice (some ⟨bQ,oQ,none⟩) 1 vc,.slice qA qn qc] rfl rfl 44 _ HM_rq43.out (by kernel_rfl) rfl (by simp [Value.oneCell']) ?_
      have HB_sq45:=hZz (below_setRow HB_rq43.out HGE_gq41.out #[.bool true,.int .i64 0,.slice (some ⟨bQ,oQ,none⟩) 1 vc,.slice qA qn qc]);have HM_sq45:=hZz (HM_rq43.out.setRow (cs':=#[.bool true,.int .i64 0,.slice (some ⟨bQ,oQ,none⟩) 1 vc,.slice qA qn qc]));have HQ_sq45:=hZz (HQ_rq43.out.setRow (cs:=#[.bool true,.int .i64 0,.slice (some ⟨bQ,oQ,none⟩) 1 vc,.slice qA qn qc]) HM_rq43.out);refine hK.out _ _ (HSP8.out _ HB_sq45.out) (fun hHeld=>?_)
      clear hK K
      try simp only [nz,Act.put]
      refine wpAnyH_take (i:=11) (oi:=_) (v:=.int .i64 0) rfl (by kernel_rfl) (by kernel_rfl) (by kernel_rfl) (fun _ _ _ h=>h) (Or.inl ⟨by rfl,by intro w hSw;(try dsimp only at hSw);go_simp⟩) (by assumption) ?_
      simp only [nz,Act.put];refine wpAnyH_done (by kernel_rfl) ?_ _
      try dsimp only [List.getElem_toArray,List.getElem_cons_succ,List.getElem_cons_zero,Act.put]
      go_wp2_with fail;go_meet
      exact ⟨gq41,bQ,oQ,vc,qA,qn,qc,rfl,rfl,HB_sq45.out,HM_sq45.out,HVC.out,HQ_sq45.out⟩
     refine AllReadyH.cons (o:=_) rfl (fun K hK=>?_) AllReadyH.nil
     go_simp;have HB_aq46:=hZz (HB_iq28.out.alloc HB_iq28.out.size (.cells #[.bool false,.int .i64 0,.slice none 0 0,.slice none 0 0] 44));have HV_aq46:=hZz (HV_iq28.out.below (zabZ Wq29 (.cells #[.bool false,.int .i64 0,.slice none 0 0,.slice none 0 0] 44)));have HA_aq46:=hZz (HA_iq28.out.below (zabZ Wq29 (.cells #[.bool false,.int .i64 0,.slice none 0 0,.slice none 0 0] 44)));have HM_aq46:=hZz (Blk.new Wq29 44 #[.bool false,.int .i64 0,.slice none 0 0,.slice none 0 0]);refine hK.out _ _ (HSP8.out _ HB_aq46.out) (fun hHeld=>?_)
     clear hK K
     try simp only [nz,Act.put]
     obtain ⟨gq47,hgq47⟩:∃ g,Wq29.heap.size=g:=⟨_,rfl⟩
     have Hgq47:=hZz hgq47;have HGE_gq47:Hid (W8.heap.size≤gq47):=hZz (by rw [← Hgq47.out];exact HB_iq28.out.size);obtain ⟨Wq48,hWq48⟩:∃ W,Wq29.alloc (.cells #[.bool false,.int .i64 0,.slice none 0 0,.slice none 0 0] 44)=W:=⟨_,rfl⟩
     rw [hWq48] at HB_aq46 HV_aq46 HA_aq46 HM_aq46 hHeld ⊢;rw [hgq47] at HM_aq46
     try rw [hgq47]
     have hhgq47:=HB_aq46.out.size;clear hWq48 hgq47 hhgq47;refine wpAnyH_ready (rs:=[4]) (by kernel_rfl) (by simp) ?_
     refine AllReadyH.cons (o:=_) rfl (fun K hK=>?_) AllReadyH.nil
     go_simp;have HB_sq49:=hZz (HB_aq46.out.alloc HB_aq46.out.size (.cells #[.int .i64 0,.slice (some ⟨gq30,0,none⟩) 1 1] 58));have HV_sq49:=hZz (HV_aq46.out.below (zabZ Wq48 (.cells #[.int .i64 0,.slice (some ⟨gq30,0,none⟩) 1 1] 58)));have HA_sq49:=hZz (HA_aq46.out.below (zabZ Wq48 (.cells #[.int .i64 0,.slice (some ⟨gq30,0,none⟩) 1 1] 58)));have HM_sq49:=hZz (HM_aq46.out.below (zabZ Wq48 (.cells #[.int .i64 0,.slice (some ⟨gq30,0,none⟩) 1 1] 58)));have HN_sq49:=hZz (ans1 (Blk.new Wq48 58 #[.int .i64 0,.slice (some ⟨gq30,0,none⟩) 1 1]) HA_sq49.out);refine hK.out _ _ (HSP8.out _ HB_sq49.out) (fun hHeld=>?_)
     clear hK K
     try simp only [nz,Act.put]
     obtain ⟨gq50,hgq50⟩:∃ g,Wq48.heap.size=g:=⟨_,rfl⟩
     obtain ⟨Wq51,hWq51⟩:∃ W,Wq48.alloc (.cells #[.int .i64 0,.slice (some ⟨gq30,0,none⟩) 1 1] 58)=W:=⟨_,rfl⟩
     rw [hWq51] at HB_sq49 HV_sq49 HA_sq49 HM_sq49 HN_sq49 hHeld ⊢;rw [hgq50] at HN_sq49
     try rw [hgq50]
     clear hWq51 hgq50;refine wpAnyH_ready (rs:=[5]) (by kernel_rfl) (by simp) ?_
     refine AllReadyH.cons (o:=_) rfl (fun K hK=>?_) AllReadyH.nil
     go_simp;refine (HRB.out A nc B fc _ _ _ (zaaZ HB_sq49.out HB8.out HB8.out.size) (HPV8.out.below HB_sq49.out) HV_sq49.out HN_sq49.out).mono ?_
     rintro r9 Wq53 ⟨bQ,oQ,vc,qA,qn,qc,rfl,hvc,hq9,hb9⟩;have HVC:=hZz hvc;clear hvc;have HB_rq52:=hZz (zaaZ hb9 HB_sq49.out HB_sq49.out.size);have HV_rq52:=hZz (HV_sq49.out.below hb9);have HA_rq52:=hZz (HA_sq49.out.below hb9);have HM_rq52:=hZz (HM_sq49.out.below hb9);have HN_rq52:=hZz (HN_sq49.out.below hb9);have HQ_rq52:=hZz hq9;clear hq9 hb9;go_wp2_with fail;refine hK.out _ _ (HSP8.out _ HB_rq52.out) (fun hHeld=>?_)
     clear hK K
     try simp only [nz,Act.put]
     refine wpAnyH_take (i:=6) (oi:=_) (v:=.tuple #[.agg #[.bool true,.int .i64 0,.slice (some ⟨bQ,oQ,none⟩) 1 vc,.slice qA qn qc],.int .i64 0]) rfl (by kernel_rfl) (by kernel_rfl) (by kernel_rfl) (fun _ _ _ h=>h) (Or.inl ⟨by rfl,by intro w hSw;(try dsimp only at hSw);go_simp⟩) (by assumption) ?_
     simp only [nz,Act.put];refine wpAnyH_take (i:=7) (oi:=_) (v:=.agg #[.bool true,.int .i64 0,.slice (some ⟨bQ,oQ,none⟩) 1 vc,.slice qA qn qc]) rfl (by kernel_rfl) (by kernel_rfl) (by kernel_rfl) (fun _ _ _ h=>h) (Or.inl ⟨by rfl,by intro w hSw;(try dsimp only at hSw);go_simp⟩) (by assumption) ?_
     simp only [nz,Act.put];refine wpAnyH_take (i:=8) (oi:=_) (v:=.int .i64 0) rfl (by kernel_rfl) (by kernel_rfl) (by kernel_rfl) (fun _ _ _ h=>h) (Or.inl ⟨by rfl,by intro w hSw;(try dsimp only at hSw);go_simp⟩) (by assumption) ?_
     simp only [nz,Act.put];refine wpAnyH_ready (rs:=[10]) (by kernel_rfl) (by simp) ?_
     refine AllReadyH.cons (o:=_) rfl (fun K hK=>?_) AllReadyH.nil
     rw [if_pos (by rfl)];refine wp_store_row _ _ _ rfl gq47 #[.bool true,.int .i64 0,.slice (some ⟨bQ,oQ,none⟩) 1 vc,.slice qA qn qc] rfl rfl 44 _ HM_rq52.out (by kernel_rfl) rfl (by simp [Value.oneCell']) ?_
     have HB_sq54:=hZz (below_setRow HB_rq52.out HGE_gq47.out #[.bool true,.int .i64 0,.slice (some ⟨bQ,oQ,none⟩) 1 vc,.slice qA qn qc]);have HM_sq54:=hZz (HM_rq52.out.setRow (cs':=#[.bool true,.int .i64 0,.slice (some ⟨bQ,oQ,none⟩) 1 vc,.slice qA qn qc]));have HQ_sq54:=hZz (HQ_rq52.out.setRow (cs:=#[.bool true,.int .i64 0,.slice (some ⟨bQ,oQ,none⟩) 1 vc,.slice qA qn qc]) HM_rq52.out);refine hK.out _ _ (HSP8.out _ HB_sq54.out) (fun hHeld=>?_)
     clear hK K
     try simp only [nz,Act.put]
     refine wpAnyH_take (i:=11) (oi:=_) (v:=.int .i64 0) rfl (by kernel_rfl) (by kernel_rfl) (by kernel_rfl) (fun _ _ _ h=>h) (Or.inl ⟨by rfl,by intro w hSw;(try dsimp only at hSw);go_simp⟩) (by assumption) ?_
     simp only [nz,Act.put];refine wpAnyH_done (by kernel_rfl) ?_ _
     try dsimp only [List.getElem_toArray,List.getElem_cons_succ,List.getElem_cons_zero,Act.put]
     go_wp2_with fail;go_meet
     exact ⟨gq47,bQ,oQ,vc,qA,qn,qc,rfl,rfl,HB_sq54.out,HM_sq54.out,HVC.out,HQ_sq54.out⟩
    refine AllReadyH.cons (o:=_) rfl (fun K hK=>?_) AllReadyH.nil
    go_simp;have HB_aq55:=hZz (HB_iq25.out.alloc HB_iq25.out.size (.cells #[.bool false,.int .i64 0,.slice none 0 0,.slice none 0 0] 44));have HV_aq55:=hZz (HV_iq25.out.below (zabZ Wq26 (.cells #[.bool false,.int .i64 0,.slice none 0 0,.slice none 0 0] 44)));have HM_aq55:=hZz (Blk.new Wq26 44 #[.bool false,.int .i64 0,.slice none 0 0,.slice none 0 0]);refine hK.out _ _ (HSP8.out _ HB_aq55.out) (fun hHeld=>?_)
    clear hK K
    try simp only [nz,Act.put]
    obtain ⟨gq56,hgq56⟩:∃ g,Wq26.heap.size=g:=⟨_,rfl⟩
    have Hgq56:=hZz hgq56;have HGE_gq56:Hid (W8.heap.size≤gq56):=hZz (by rw [← Hgq56.out];exact HB_iq25.out.size);obtain ⟨Wq57,hWq57⟩:∃ W,Wq26.alloc (.cells #[.bool false,.int .i64 0,.slice none 0 0,.slice none 0 0] 44)=W:=⟨_,rfl⟩
    rw [hWq57] at HB_aq55 HV_aq55 HM_aq55 hHeld ⊢;rw [hgq56] at HM_aq55
    try rw [hgq56]
    have hhgq56:=HB_aq55.out.size;clear hWq57 hgq56 hhgq56;refine wpAnyH_ready (rs:=[2]) (by kernel_rfl) (by simp) ?_
    refine AllReadyH.cons (o:=_) rfl (fun K hK=>?_) AllReadyH.nil
    go_simp;refine (HI.out 4 _).mono ?_
    rintro r9 Wq59 ⟨gq60,rfl,hv9,hb9⟩;have HB_iq58:=hZz (zaaZ hb9 HB_aq55.out HB_aq55.out.size);have HV_iq58:=hZz (HV_aq55.out.below hb9);have HM_iq58:=hZz (HM_aq55.out.below hb9);have HA_iq58:=hZz hv9;clear hv9 hb9;go_wp2_with fail;refine hK.out _ _ (HSP8.out _ HB_iq58.out) (fun hHeld=>?_)
    clear hK K
    try simp only [nz,Act.put]
    refine wpAnyH_take (i:=3) (oi:=_) (v:=.agg #[.int .i64 0,.slice (some ⟨gq60,0,none⟩) 1 1]) rfl (by kernel_rfl) (by kernel_rfl) (by kernel_rfl) (fun _ _ _ h=>h) (Or.inl ⟨by rfl,by intro w hSw;(try dsimp only at hSw);go_simp⟩) (by assumption) ?_
    simp only [nz,Act.put];refine wpAnyH_ready (rs:=[4]) (by kernel_rfl) (by simp) ?_
    refine AllReadyH.cons (o:=_) rfl (fun K hK=>?_) AllReadyH.nil
    go_simp;have HB_sq61:=hZz (HB_iq58.out.alloc HB_iq58.out.size (.cells #[.int .i64 0,.slice (some ⟨gq60,0,none⟩) 1 1] 58));have HV_sq61:=hZz (HV_iq58.out.below (zabZ Wq59 (.cells #[.int .i64 0,.slice (some ⟨gq60,0,none⟩) 1 1] 58)));have HM_sq61:=hZz (HM_iq58.out.below (zabZ Wq59 (.cells #[.int .i64 0,.slice (some ⟨gq60,0,none⟩) 1 1] 58)));have HA_sq61:=hZz (HA_iq58.out.below (zabZ Wq59 (.cells #[.int .i64 0,.slice (some ⟨gq60,0,none⟩) 1 1] 58)));have HN_sq61:=hZz (ans1 (Blk.new Wq59 58 #[.int .i64 0,.slice (some ⟨gq60,0,none⟩) 1 1]) HA_sq61.out);refine hK.out _ _ (HSP8.out _ HB_sq61.out) (fun hHeld=>?_)
    clear hK K
    try simp only [nz,Act.put]
    obtain ⟨gq62,hgq62⟩:∃ g,Wq59.heap.size=g:=⟨_,rfl⟩
    obtain ⟨Wq63,hWq63⟩:∃ W,Wq59.alloc (.cells #[.int .i64 0,.slice (some ⟨gq60,0,none⟩) 1 1] 58)=W:=⟨_,rfl⟩
    rw [hWq63] at HB_sq61 HV_sq61 HM_sq61 HA_sq61 HN_sq61 hHeld ⊢;rw [hgq62] at HN_sq61
    try rw [hgq62]
    clear hWq63 hgq62;refine wpAnyH_ready (rs:=[5]) (by kernel_rfl) (by simp) ?_
    refine AllReadyH.cons (o:=_) rfl (fun K hK=>?_) AllReadyH.nil
    go_simp;refine (HRB.out A nc B fc _ _ _ (zaaZ HB_sq61.out HB8.out HB8.out.size) (HPV8.out.below HB_sq61.out) HV_sq61.out HN_sq61.out).mono ?_
    rintro r9 Wq65 ⟨bQ,oQ,vc,qA,qn,qc,rfl,hvc,hq9,hb9⟩;have HVC:=hZz hvc;clear hvc;have HB_rq64:=hZz (zaaZ hb9 HB_sq61.out HB_sq61.out.size);have HV_rq64:=hZz (HV_sq61.out.below hb9);have HM_rq64:=hZz (HM_sq61.out.below hb9);have HA_rq64:=hZz (HA_sq61.out.below hb9);have HN_rq64:=hZz (HN_sq61.out.below hb9);have HQ_rq64:=hZz hq9;clear hq9 hb9;go_wp2_with fail;refine hK.out _ _ (HSP8.out _ HB_rq64.out) (fun hHeld=>?_)
    clear hK K
    try simp only [nz,Act.put]
    refine wpAnyH_take (i:=6) (oi:=_) (v:=.tuple #[.agg #[.bool true,.int .i64 0,.slice (some ⟨bQ,oQ,none⟩) 1 vc,.slice qA qn qc],.int .i64 0]) rfl (by kernel_rfl) (by kernel_rfl) (by kernel_rfl) (fun _ _ _ h=>h) (Or.inl ⟨by rfl,by intro w hSw;(try dsimp only at hSw);go_simp⟩) (by assumption) ?_
    simp only [nz,Act.put];refine wpAnyH_take (i:=7) (oi:=_) (v:=.agg #[.bool true,.int .i64 0,.slice (some ⟨bQ,oQ,none⟩) 1 vc,.slice qA qn qc]) rfl (by kernel_rfl) (by kernel_rfl) (by kernel_rfl) (fun _ _ _ h=>h) (Or.inl ⟨by rfl,by intro w hSw;(try dsimp only at hSw);go_simp⟩) (by assumption) ?_
    simp only [nz,Act.put];refine wpAnyH_take (i:=8) (oi:=_) (v:=.int .i64 0) rfl (by kernel_rfl) (by kernel_rfl) (by kernel_rfl) (fun _ _ _ h=>h) (Or.inl ⟨by rfl,by intro w hSw;(try dsimp only at hSw);go_simp⟩) (by assumption) ?_
    simp only [nz,Act.put];refine wpAnyH_ready (rs:=[10]) (by kernel_rfl) (by simp) ?_
    refine AllReadyH.cons (o:=_) rfl (fun K hK=>?_) AllReadyH.nil
    rw [if_pos (by rfl)];refine wp_store_row _ _ _ rfl gq56 #[.bool true,.int .i64 0,.slice (some ⟨bQ,oQ,none⟩) 1 vc,.slice qA qn qc] rfl rfl 44 _ HM_rq64.out (by kernel_rfl) rfl (by simp [Value.oneCell']) ?_
    have HB_sq66:=hZz (below_setRow HB_rq64.out HGE_gq56.out #[.bool true,.int .i64 0,.slice (some ⟨bQ,oQ,none⟩) 1 vc,.slice qA qn qc]);have HM_sq66:=hZz (HM_rq64.out.setRow (cs':=#[.bool true,.int .i64 0,.slice (some ⟨bQ,oQ,none⟩) 1 vc,.slice qA qn qc]));have HQ_sq66:=hZz (HQ_rq64.out.setRow (cs:=#[.bool true,.int .i64 0,.slice (some ⟨bQ,oQ,none⟩) 1 vc,.slice qA qn qc]) HM_rq64.out);refine hK.out _ _ (HSP8.out _ HB_sq66.out) (fun hHeld=>?_)
    clear hK K
    try simp only [nz,Act.put]
    refine wpAnyH_take (i:=11) (oi:=_) (v:=.int .i64 0) rfl (by kernel_rfl) (by kernel_rfl) (by kernel_rfl) (fun _ _ _ h=>h) (Or.inl ⟨by rfl,by intro w hSw;(try dsimp only at hSw);go_simp⟩) (by assumption) ?_
    simp only [nz,Act.put];refine wpAnyH_done (by kernel_rfl) ?_ _
    try dsimp only [List.getElem_toArray,List.getElem_cons_succ,List.getElem_cons_zero,Act.put]
    go_wp2_with fail;go_meet
    exact ⟨gq56,bQ,oQ,vc,qA,qn,qc,rfl,rfl,HB_sq66.out,HM_sq66.out,HVC.out,HQ_sq66.out⟩
   refine AllReadyH.cons (o:=_) rfl (fun K hK=>?_) AllReadyH.nil
   go_simp;have HB_aq67:=hZz (HB_0.out.alloc HB_0.out.size (.cells #[.bool false,.int .i64 0,.slice none 0 0,.slice none 0 0] 44));have HM_aq67:=hZz (Blk.new WD 44 #[.bool false,.int .i64 0,.slice none 0 0,.slice none 0 0]);refine hK.out _ _ (HSP8.out _ HB_aq67.out) (fun hHeld=>?_)
   clear hK K
   try simp only [nz,Act.put]
   obtain ⟨gq68,hgq68⟩:∃ g,WD.heap.size=g:=⟨_,rfl⟩
   have Hgq68:=hZz hgq68;have HGE_gq68:Hid (W8.heap.size≤gq68):=hZz (by rw [← Hgq68.out];exact HB_0.out.size);obtain ⟨Wq69,hWq69⟩:∃ W,WD.alloc (.cells #[.bool false,.int .i64 0,.slice none 0 0,.slice none 0 0] 44)=W:=⟨_,rfl⟩
   rw [hWq69] at HB_aq67 HM_aq67 hHeld ⊢;rw [hgq68] at HM_aq67
   try rw [hgq68]
   have hhgq68:=HB_aq67.out.size;clear hWq69 hgq68 hhgq68;refine wpAnyH_ready (rs:=[1]) (by kernel_rfl) (by simp) ?_
   refine AllReadyH.cons (o:=_) rfl (fun K hK=>?_) AllReadyH.nil
   go_simp;refine (HI.out 0 _).mono ?_
   rintro r9 Wq71 ⟨gq72,rfl,hv9,hb9⟩;have HB_iq70:=hZz (zaaZ hb9 HB_aq67.out HB_aq67.out.size);have HM_iq70:=hZz (HM_aq67.out.below hb9);have HV_iq70:=hZz hv9;clear hv9 hb9;go_wp2_with fail;refine hK.out _ _ (HSP8.out _ HB_iq70.out) (fun hHeld=>?_)
   clear hK K
   try simp only [nz,Act.put]
   refine wpAnyH_ready (rs:=[2]) (by kernel_rfl) (by simp) ?_
   refine AllReadyH.cons (o:=_) rfl (fun K hK=>?_) AllReadyH.nil
   go_simp;refine (HI.out 4 _).mono ?_
   rintro r9 Wq74 ⟨gq75,rfl,hv9,hb9⟩;have HB_iq73:=hZz (zaaZ hb9 HB_iq70.out HB_iq70.out.size);have HM_iq73:=hZz (HM_iq70.out.below hb9);have HV_iq73:=hZz (HV_iq70.out.below hb9);have HA_iq73:=hZz hv9;clear hv9 hb9;go_wp2_with fail;refine hK.out _ _ (HSP8.out _ HB_iq73.out) (fun hHeld=>?_)
   clear hK K
   try simp only [nz,Act.put]
   refine wpAnyH_take (i:=3) (oi:=_) (v:=.agg #[.int .i64 0,.slice (some ⟨gq75,0,none⟩) 1 1]) rfl (by kernel_rfl) (by kernel_rfl) (by kernel_rfl) (fun _ _ _ h=>h) (Or.inl ⟨by rfl,by intro w hSw;(try dsimp only at hSw);go_simp⟩) (by assumption) ?_
   simp only [nz,Act.put];refine wpAnyH_ready (rs:=[4]) (by kernel_rfl) (by simp) ?_
   refine AllReadyH.cons (o:=_) rfl (fun K hK=>?_) AllReadyH.nil
   go_simp;have HB_sq76:=hZz (HB_iq73.out.alloc HB_iq73.out.size (.cells #[.int .i64 0,.slice (some ⟨gq75,0,none⟩) 1 1] 58));have HM_sq76:=hZz (HM_iq73.out.below (zabZ Wq74 (.cells #[.int .i64 0,.slice (some ⟨gq75,0,none⟩) 1 1] 58)));have HV_sq76:=hZz (HV_iq73.out.below (zabZ Wq74 (.cells #[.int .i64 0,.slice (some ⟨gq75,0,none⟩) 1 1] 58)));have HA_sq76:=hZz (HA_iq73.out.below (zabZ Wq74 (.cells #[.int .i64 0,.slice (some ⟨gq75,0,none⟩) 1 1] 58)));have HN_sq76:=hZz (ans1 (Blk.new Wq74 58 #[.int .i64 0,.slice (some ⟨gq75,0,none⟩) 1 1]) HA_sq76.out);refine hK.out _ _ (HSP8.out _ HB_sq76.out) (fun hHeld=>?_)
   clear hK K
   try simp only [nz,Act.put]
   obtain ⟨gq77,hgq77⟩:∃ g,Wq74.heap.size=g:=⟨_,rfl⟩
   obtain ⟨Wq78,hWq78⟩:∃ W,Wq74.alloc (.cells #[.int .i64 0,.slice (some ⟨gq75,0,none⟩) 1 1] 58)=W:=⟨_,rfl⟩
   rw [hWq78] at HB_sq76 HM_sq76 HV_sq76 HA_sq76 HN_sq76 hHeld ⊢;rw [hgq77] at HN_sq76
   try rw [hgq77]
   clear hWq78 hgq77;refine wpAnyH_ready (rs:=[5]) (by kernel_rfl) (by simp) ?_
   refine AllReadyH.cons (o:=_) rfl (fun K hK=>?_) AllReadyH.nil
   go_simp;refine (HRB.out A nc B fc _ _ _ (zaaZ HB_sq76.out HB8.out HB8.out.size) (HPV8.out.below HB_sq76.out) HV_sq76.out HN_sq76.out).mono ?_
   rintro r9 Wq80 ⟨bQ,oQ,vc,qA,qn,qc,rfl,hvc,hq9,hb9⟩;have HVC:=hZz hvc;clear hvc;have HB_rq79:=hZz (zaaZ hb9 HB_sq76.out HB_sq76.out.size);have HM_rq79:=hZz (HM_sq76.out.below hb9);have HV_rq79:=hZz (HV_sq76.out.below hb9);have HA_rq79:=hZz (HA_sq76.out.below hb9);have HN_rq79:=hZz (HN_sq76.out.below hb9);have HQ_rq79:=hZz hq9;clear hq9 hb9;go_wp2_with fail;refine hK.out _ _ (HSP8.out _ HB_rq79.out) (fun hHeld=>?_)
   clear hK K
   try simp only [nz,Act.put]
   refine wpAnyH_take (i:=6) (oi:=_) (v:=.tuple #[.agg #[.bool true,.int .i64 0,.slice (some ⟨bQ,oQ,none⟩) 1 vc,.slice qA qn qc],.int .i64 0]) rfl (by kernel_rfl) (by kernel_rfl) (by kernel_rfl) (fun _ _ _ h=>h) (Or.inl ⟨by rfl,by intro w hSw;(try dsimp only at hSw);go_simp⟩) (by assumption) ?_
   simp only [nz,Act.put];refine wpAnyH_take (i:=7) (oi:=_) (v:=.agg #[.bool true,.int .i64 0,.slice (some ⟨bQ,oQ,none⟩) 1 vc,.slice qA qn qc]) rfl (by kernel_rfl) (by kernel_rfl) (by kernel_rfl) (fun _ _ _ h=>h) (Or.inl ⟨by rfl,by intro w hSw;(try dsimp only at hSw);go_simp⟩) (by assumption) ?_
   simp only [nz,Act.put];refine wpAnyH_take (i:=8) (oi:=_) (v:=.int .i64 0) rfl (by kernel_rfl) (by kernel_rfl) (by kernel_rfl) (fun _ _ _ h=>h) (Or.inl ⟨by rfl,by intro w hSw;(try dsimp only at hSw);go_simp⟩) (by assumption) ?_
   simp only [nz,Act.put];refine wpAnyH_ready (rs:=[10]) (by kernel_rfl) (by simp) ?_
   refine AllReadyH.cons (o:=_) rfl (fun K hK=>?_) AllReadyH.nil
   rw [if_pos (by rfl)];refine wp_store_row _ _ _ rfl gq68 #[.bool true,.int .i64 0,.slice (some ⟨bQ,oQ,none⟩) 1 vc,.slice qA qn qc] rfl rfl 44 _ HM_rq79.out (by kernel_rfl) rfl (by simp [Value.oneCell']) ?_
   have HB_sq81:=hZz (below_setRow HB_rq79.out HGE_gq68.out #[.bool true,.int .i64 0,.slice (some ⟨bQ,oQ,none⟩) 1 vc,.slice qA qn qc]);have HM_sq81:=hZz (HM_rq79.out.setRow (cs':=#[.bool true,.int .i64 0,.slice (some ⟨bQ,oQ,none⟩) 1 vc,.slice qA qn qc]));have HQ_sq81:=hZz (HQ_rq79.out.setRow (cs:=#[.bool true,.int .i64 0,.slice (some ⟨bQ,oQ,none⟩) 1 vc,.slice qA qn qc]) HM_rq79.out);refine hK.out _ _ (HSP8.out _ HB_sq81.out) (fun hHeld=>?_)
   clear hK K
   try simp only [nz,Act.put]
   refine wpAnyH_take (i:=11) (oi:=_) (v:=.int .i64 0) rfl (by kernel_rfl) (by kernel_rfl) (by kernel_rfl) (fun _ _ _ h=>h) (Or.inl ⟨by rfl,by intro w hSw;(try dsimp only at hSw);go_simp⟩) (by assumption) ?_
   simp only [nz,Act.put];refine wpAnyH_done (by kernel_rfl) ?_ _
   try dsimp only [List.getElem_toArray,List.getElem_cons_succ,List.getElem_cons_zero,Act.put]
   go_wp2_with fail;go_meet
   exact ⟨gq68,bQ,oQ,vc,qA,qn,qc,rfl,rfl,HB_sq81.out,HM_sq81.out,HVC.out,HQ_sq81.out⟩
  case rest =>
   obtain ⟨gB,bV,oV,vd,qA,qn,qd,rfl,rfl,hb9,hx9,hvd,hone⟩:=hcut;have HB9:=hZz (zaaZ hb9 HB8.out HB8.out.size);have HX9:=hZz hx9;have HA9:=hZz (HX8.out.below hb9);have HQ9:=hZz (HQ8.out.below hb9);have HV9:=hZz (hone.val hvd);clear hb9 hx9 hvd hone;obtain ⟨W9,hW9⟩:∃ W,wc=W:=⟨_,rfl⟩
   rw [hW9] at HB9 HX9 HA9 HQ9 HV9 ⊢;clear hW9;have HSQ:Hid (∀ w',Below W9.heap.size W9 w'→(w'.cell? ⟨gA,0,none⟩=some (.bool false)∧w'.cell? ⟨gA,1,none⟩=some (.int .i64 er)∧w'.cell? ⟨gA,2,none⟩=some (.slice vA vn vc)∧w'.cell? ⟨gA,3,none⟩=some (.slice (some ⟨bR,oR,none⟩) 1 qc))∧(w'.cell? ⟨gB,0,none⟩=some (.bool true)∧w'.cell? ⟨gB,1,none⟩=some (.int .i64 0)∧w'.cell? ⟨gB,2,none⟩=some (.slice (some ⟨bV,oV,none⟩) 1 vd)∧w'.cell? ⟨gB,3,none⟩=some (.slice qA qn qd))∧w'.cell? ⟨bR,oR,none⟩=some (.string ⟨#[103,101,116]⟩)):=hZz (fun w' hb=>⟨blk4 (HA9.out.below hb),blk4 (HX9.out.below hb),HQ9.out.below hb⟩);have HD9:=hZz (zafZ W9);go_upto_region 10 with (fail)
   go_region_held3 (fun w'=>(w'.cell? ⟨gA,0,none⟩=some (.bool false)∧w'.cell? ⟨gA,1,none⟩=some (.int .i64 er)∧w'.cell? ⟨gA,2,none⟩=some (.slice vA vn vc)∧w'.cell? ⟨gA,3,none⟩=some (.slice (some ⟨bR,oR,none⟩) 1 qc))∧(w'.cell? ⟨gB,0,none⟩=some (.bool true)∧w'.cell? ⟨gB,1,none⟩=some (.int .i64 0)∧w'.cell? ⟨gB,2,none⟩=some (.slice (some ⟨bV,oV,none⟩) 1 vd)∧w'.cell? ⟨gB,3,none⟩=some (.slice qA qn qd))∧w'.cell? ⟨bR,oR,none⟩=some (.string ⟨#[103,101,116]⟩)) (first | with_reducible exact HSQ.out _ HD9.out | with_reducible exact HSQ.out _ HB11.out | with_reducible exact HSQ.out _ HB10.out) (first
    | (go_at_call 28;(with_reducible refine (HI.out 5 _).mono ?_);rintro r w10 ⟨g10,rfl,hv10,hb10⟩;have HB10:=hZz (zadZ hb10 (zafZ W9));have HV10:=hZz hv10;clear hv10 hb10)
    | (go_at_call 15;(with_reducible refine (HCE.out [iCel 5] _ _ _ (HV9.out.below HB10.out) HV10.out).mono ?_);rintro r w11 ⟨rfl,hb11⟩;have HB11:=hZz (zaaZ hb11 HB10.out HB10.out.size);clear hb11))
   go_wp2_with (fail)
   exact HP.out _ (zaaZ HB11.out HB9.out HB9.out.size)
end Go.Proofs.YtekdhlfapejijaaGreatDoor
