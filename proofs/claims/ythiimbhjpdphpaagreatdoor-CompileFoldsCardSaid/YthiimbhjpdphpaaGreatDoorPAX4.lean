/- W18, FA2, AX3, AX4 -/
import Derived.Test.YthiimbhjpdphpaaGreatDoorPFB6
import Derived.Test.YthiimbhjpdphpaaGreatDoorPAX2
import Derived.Laws.BytesArg
import Derived.OwnWalk
set_option linter.unusedVariables false
set_option linter.unusedSimpArgs false
namespace Go.Proofs.YthiimbhjpdphpaaGreatDoor
open Go.RowKit
set_option maxRecDepth 100000
set_option maxHeartbeats 8000000
open Go.Proofs.Tryz
section
theorem Tryz.infoCF:(prog.info? 50).map (fun i=>(i.zero,i.size,i.bytes))=some (some (.agg #[.string ByteArray.empty,.int .i64 0,.int .i64 0,.int .i64 0,.int .i64 0]),5,48):=by kernel_rfl
theorem two_f {w:World} {g:Nat} {t:TypeId} {a b c:Value} (h:Blk w g t #[a,b,c]):w.cell? ⟨g,0,none⟩=some a∧w.cell? ⟨g,1,none⟩=some b:=⟨h.cell 0 _ rfl,h.cell 1 _ rfl⟩
attribute [local go_sem] zacZ
end
section
theorem ex_ok:ProgOk exP:=by
 refine ⟨⟨by decide,fun n hn=>?_,fun n hn=>?_⟩,by decide,fun f hf=>?_⟩
 ·simp only [exP,List.mem_cons,List.not_mem_nil,or_false] at hn
  rcases hn with rfl | rfl | rfl <;> decide
 ·simp only [exP,List.mem_cons,List.not_mem_nil,or_false] at hn
  rcases hn with rfl | rfl | rfl <;> exact ⟨by decide,fun k hk=>by cases hk⟩
 ·simp only [exP,List.mem_cons,List.not_mem_nil,or_false] at hf
  subst hf;refine ⟨by decide,by decide,fun s hs=>?_⟩
  simp only [List.mem_cons,List.not_mem_nil,or_false] at hs;subst hs;decide
theorem ex_err:(studyF exP).err=0:=by rw [ex_study];rfl
theorem ex_fold:(foldG exP).2=0∧(foldG exP).1.nodes.length=3∧(foldG exP).1.funcs.length=1:=by
 unfold foldG;rw [if_neg (by rw [ex_err];simp)];exact ⟨rfl,by kernel_rfl,by kernel_rfl⟩
attribute [local go_sem] zacZ
end
section
def eL:InsD × Value:=(insO 5 0,nilK)
def eR:InsD × Value:=(insO 20 0,nilK)
def eZ:InsD × Value:=(insO 1 0,nilK)
section
variable {w0:World} {S:ProgS} {sA:Option Addr} {sc gW:Nat} {L:List (InsD × Value)} {w:World}
theorem n0_s (hS:ProgV w0 S) (he:S.p=exP) (hsl:SlAt w0 sA 1 intS [0,-1,-1]) (h:WrSt w0 w S sA 3 sc gW 0 L) (hL:L.length≤900) :
  Calls prog 41 #[.pointer (some ⟨gW,0,none⟩),.int .i64 0] w fun e w'=>e=.returned (.tuple #[])∧WE w0 S sA sc gW (L ++ [eL]) w w':=by
 obtain ⟨A,B,nc,fc,p⟩:=S;obtain rfl:p=exP:=he
 have:=nodeX_s w0 ⟨A,B,nc,fc,exP⟩ sA sc gW hS 0 (show 0<3 by decide) (show 3≤1000 by decide) ⟨5,eS,0,[],[]⟩ rfl rfl rfl rfl L [] (some (5,0)) w h (by simp;omega)
  (fun iA ic wx _ hx=>(all0_s gW ic iA wx).mono (fun r w' ⟨h1,h2⟩=>⟨h1,by subst h2;rw [List.append_nil];exact ⟨hx,KW.refl _ _ _⟩⟩))
  (fun kA kc iA ic wx hx=>lastX_s w0 _ sA sc gW _ wx 5 0 eS kA iA kc ic 0 0 0 hx hsl _ (.inl ⟨rfl,rfl,rfl⟩))
 rw [List.append_nil] at this;exact this
theorem n1_s (hS:ProgV w0 S) (he:S.p=exP) (hsl:SlAt w0 sA 1 intS [0,-1,-1]) (h:WrSt w0 w S sA 3 sc gW 0 L) (hL:L.length≤900) :
  Calls prog 41 #[.pointer (some ⟨gW,0,none⟩),.int .i64 1] w fun e w'=>e=.returned (.tuple #[])∧WE w0 S sA sc gW (L ++ [eL] ++ [eR]) w w':=by
 have h0:=fun wx (hx:WrSt w0 wx S sA 3 sc gW 0 L)=>n0_s hS he hsl hx hL
 obtain ⟨A,B,nc,fc,p⟩:=S;obtain rfl:p=exP:=he
 exact nodeX_s w0 ⟨A,B,nc,fc,exP⟩ sA sc gW hS 1 (show 1<3 by decide) (show 3≤1000 by decide) ⟨17,⟨#[]⟩,0,[],[0]⟩ rfl rfl rfl rfl L [eL] (some (20,0)) w h (by simp;omega)
  (fun iA ic wx hi hx=>all1_s gW ic iA 0 w0 wx hx.bl hi (fun w'=>WE w0 _ sA sc gW (L ++ [eL]) wx w') (h0 wx hx))
  (fun kA kc iA ic wx hx=>lastX_s w0 _ sA sc gW _ wx 17 0 ⟨#[]⟩ kA iA kc ic 0 1 1 hx hsl _ (.inr (.inl ⟨rfl,rfl,rfl⟩)))
theorem n2_s (hS:ProgV w0 S) (he:S.p=exP) (hsl:SlAt w0 sA 1 intS [0,-1,-1]) (h:WrSt w0 w S sA 3 sc gW 0 L) (hL:L.length≤900) :
  Calls prog 41 #[.pointer (some ⟨gW,0,none⟩),.int .i64 2] w fun e w'=>e=.returned (.tuple #[])∧WE w0 S sA sc gW (L ++ [eL,eR]) w w':=by
 have h0:=fun wx (hx:WrSt w0 wx S sA 3 sc gW 0 L)=>n1_s hS he hsl hx hL
 obtain ⟨A,B,nc,fc,p⟩:=S;obtain rfl:p=exP:=he
 have:=nodeX_s w0 ⟨A,B,nc,fc,exP⟩ sA sc gW hS 2 (show 2<3 by decide) (show 3≤1000 by decide) ⟨19,⟨#[]⟩,0,[],[1]⟩ rfl rfl rfl rfl L [eL,eR] none w h (by simp;omega)
  (fun iA ic wx hi hx=>all1_s gW ic iA 1 w0 wx hx.bl hi (fun w'=>WE w0 _ sA sc gW (L ++ [eL,eR]) wx w') (by
   have:=h0 wx hx
   rw [List.append_assoc] at this;exact this))
  (fun kA kc iA ic wx hx=>lastX_s w0 _ sA sc gW _ wx 19 0 ⟨#[]⟩ kA iA kc ic 0 1 2 hx hsl _ (.inr (.inr ⟨rfl,rfl,rfl⟩)))
 unfold outX at this;rw [List.append_nil] at this;exact this
end
attribute [local go_sem] zacZ
theorem wfE_s (w0:World) (S:ProgS) (sA:Option Addr) (sc gW:Nat) (hS:ProgV w0 S) (he:S.p=exP) (hsl:SlAt w0 sA 1 intS [0,-1,-1]) (w:World) (h:WrSt w0 w S sA 3 sc gW 0 []) :
  Calls prog 28 #[.pointer (some ⟨gW,0,none⟩),.int .i64 0] w fun e w'=>e=.returned (.tuple #[])∧WE w0 S sA sc gW [eL,eR,eZ,eR] w w':=by
 obtain ⟨P,hP⟩:∃ P:Ending→World→Prop,(fun e w'=>e=.returned (.tuple #[])∧WE w0 S sA sc gW [eL,eR,eZ,eR] w w')=P:=⟨_,rfl⟩
 rw [hP];have HP:Hid (∀ w',WE w0 S sA sc gW [eL,eR,eZ,eR] w w'→P (.returned (.tuple #[])) w'):=hZz (fun w' h1=>by rw [← hP];exact ⟨rfl,h1⟩);have HC2:=hZz (n2_s hS he hsl h (by simp));have HAD:Hid (∀ wx,WrSt w0 wx S sA 3 sc gW 0 ([] ++ [eL,eR])→_):=hZz (fun wx hx=>add2_s w0 S sA 3 sc gW 0 ([] ++ [eL,eR]) wx 1 20 hx (by simp))
 have hf:∃ bF offF,S.B=some ⟨bF,offF,none⟩∧w.cell? ⟨bF,offF+2,none⟩=some (.int .i64 2):=by
  obtain ⟨A,B,nc,fc,p⟩:=S;obtain rfl:p=exP:=he;obtain ⟨bF,offF,kA,kc,hA,hbF,_,_,c2,_⟩:=zamY (i:=0) hS.funcs (show 0<1 by decide);exact ⟨bF,offF,hA,by have:=(h.bl.cell hbF).trans c2;simpa using (show _=some (Value.int .i64 2) from this)⟩
 obtain ⟨bF,offF,hA,c2⟩:=hf;obtain ⟨⟨iv,hb0,_⟩,_,_,_⟩:=h;obtain ⟨s0,s1,s2,s3,s4⟩:=blkW hb0;rw [hA,show S.p.funcs.length=1 by rw [he];rfl] at s1;clear hP hA he hb0 hS hsl;go_enter func28,ntmps28
 go_upto_region 1 with (first
  | (go_at_call 41;(with_reducible refine HC2.out.mono ?_);rintro e w2 ⟨rfl,hs2,hk2⟩;have HS2:=hZz hs2;have HK2:=hZz hk2;clear hs2 hk2))
 have HC3:=hZz (HAD.out w2 HS2.out);clear s0 s1 s2 s3 s4 c2
 go_wp2_with (first
  | (go_at_call 42;(refine HC3.out.mono ?_);rintro e w3 ⟨rfl,hs3,hk3⟩;have HS3:=hZz hs3;have HK3:=hZz hk3;clear hs3 hk3))
 go_end0
 exact HP.out _ ⟨HS3.out,HK2.out.trans HK3.out⟩
theorem startE_s (S:ProgS) (w:World) (hS:ProgV w S) (hp:Pow w) (he:S.p=exP):Calls prog 26 #[S.val,.int .i64 0] w fun r w'=>∃ w0 sA sc gW,Below w.heap.size w w0∧ProgV w0 S∧SlAt w0 sA 1 intS [0,-1,-1]∧WrSt w0 w' S sA 3 sc gW 0 []∧r=.returned (.tuple #[.pointer (some ⟨gW,0,none⟩),.int .i64 0]):=by
 have hst:studyF S.p=exS:=by rw [he];exact ex_study
 refine (start_s S 0 w hS hp (by rw [he];exact ex_ok)).mono ?_
 rintro r w' (⟨h0,_⟩ | ⟨h0,w0,sA,sc,gW,hb,hc,hw,rfl⟩)
 ·exact absurd (by rw [hst];rfl) h0
 ·rw [hst] at hc hw
  exact ⟨w0,sA,sc,gW,hb,hc.prog,hc.slots,hw,rfl⟩
theorem lengthE_s (S:ProgS) (w:World) (hS:ProgV w S) (hp:Pow w) (he:S.p=exP):Calls prog 21 #[S.val] w fun r w'=>r=.returned (.tuple #[.int .i64 4,.int .i64 0])∧Below w.heap.size w w':=by
 obtain ⟨P,hP⟩:∃ P:Ending→World→Prop,(fun r w'=>r=.returned (.tuple #[.int .i64 4,.int .i64 0])∧Below w.heap.size w w')=P:=⟨_,rfl⟩
 rw [hP];have HP:Hid (∀ w',Below w.heap.size w w'→P (.returned (.tuple #[.int .i64 4,.int .i64 0])) w'):=hZz (fun w' h2=>by rw [← hP];exact ⟨rfl,h2⟩);obtain ⟨W1,hW1⟩:∃ W,w.alloc (.cells #[.slice S.A S.p.nodes.length S.ncap,.slice S.B S.p.funcs.length S.fcap] 25)=W:=⟨_,rfl⟩
 obtain ⟨g,hg⟩:∃ g,w.heap.size=g:=⟨_,rfl⟩
 have hb1:Below w.heap.size w W1:=by rw [← hW1];exact zabZ _ _
 have HB1:=hZz hb1;have HX1:Hid (Blk W1 g 25 #[.slice S.A S.p.nodes.length S.ncap,.slice S.B S.p.funcs.length S.fcap]):=hZz (by rw [← hW1,← hg];exact Blk.new _ _ _);have HC:=hZz (startE_s S W1 (hS.below hb1) (hp.below hb1) he);have HE:=hZz he;have HNF:Hid (S.p.funcs.length=1):=hZz (by rw [he];rfl);unfold ProgS.val at HC ⊢;have HG:=hZz hg;have HW1:=hZz hW1;clear hP hS hp he hg hW1 hb1;go_enter func21,ntmps21
 go_upto_region 1 with fail
 rw [HG.out,HW1.out];clear HG HW1;rw [HNF.out] at HX1 HC ⊢;have x1:=blk2 HX1.out
 go_upto_region 2 with (first
  | (go_at_call 26;(with_reducible refine HC.out.mono ?_);rintro r w2 ⟨w0,sA,sc,gW,hb0,hS0,hsl,hst,rfl⟩))
 have HC2:=hZz (wfE_s w0 S sA sc gW hS0 HE.out hsl w2 hst);have HB0:=hZz (zaaZ hb0 HB1.out HB1.out.size);have HX2:=hZz (HX1.out.below (zaaZ hst.bl hb0 hb0.size));clear x1 hb0 hS0 hsl hst HC;have x2:=blk2 HX2.out;go_upto_region 4 with (fail)
 go_wp2_with (fail)
 refine wp_loop_rounds 2 ?_
 rw [rounds_succ]
 go_wp2_with (first
  | (go_at_call 28;(with_reducible refine HC2.out.mono ?_);rintro r w3 ⟨rfl,hs3,hk3⟩;have HS3:=hZz hs3;clear hs3 hk3))
 rw [rounds_succ];obtain ⟨iA,ic,hbk,hio⟩:=HS3.out.insO (a:=w.heap.size) HB0.out.size;have HB3:=hZz (zaaZ HS3.out.bl HB0.out HB0.out.size);have y:=blkW hbk;simp only [List.length_cons,List.length_nil] at y;clear hbk hio x2;go_wp2_with (fail)
 exact HP.out _ HB3.out
end
section
theorem RowE.of_own {w:World} {b n sz cap g:Nat} {e:TypeId} {xs:List Value} (h:w.ownsRow b e sz (.slice (some ⟨g,0,none⟩) n cap) n xs):RowE w g xs:=fun i v hv=>by
 rcases h.2 with ⟨h1,_⟩ | ⟨g',cap',cur,h1,_,hb,_,_,_,ht⟩
 ·cases h1
 ·injection h1 with h1 h2 h3
  injection h1 with h1
  injection h1 with h1
  subst h1;rw [← ht,List.getElem?_take] at hv;split at hv
  ·exact Blk.cell hb i v (by simpa using hv)
  ·cases hv
def progE (w:World) (r:Ending) (w':World):Prop:=∃ gF fc gI ic,r=.returned (.tuple #[.agg #[.slice (some ⟨gF,0,none⟩) 1 fc,.slice (some ⟨gI,0,none⟩) 4 ic],.int .i64 0])∧Code4 w' gF gI∧Below w.heap.size w w'
attribute [local go_sem] zacZ
set_option maxHeartbeats 16000000 in
theorem progE_s (S:ProgS) (w:World) (hS:ProgV w S) (hp:Pow w) (he:S.p=exP) (hsh:Shaped w):Calls prog 11 #[S.val] w (progE w):=by
 obtain ⟨P,hP⟩:∃ P:Ending→World→Prop,progE w=P:=⟨_,rfl⟩
 rw [hP];have HP:Hid (∀ gF fc gI ic w',Code4 w' gF gI→Below w.heap.size w w'→P (.returned (.tuple #[.agg #[.slice (some ⟨gF,0,none⟩) 1 fc,.slice (some ⟨gI,0,none⟩) 4 ic],.int .i64 0])) w'):=hZz (fun gF fc gI ic w' h1 h2=>by rw [← hP];exact ⟨gF,fc,gI,ic,rfl,h1,h2⟩);obtain ⟨W1,hW1⟩:∃ W,w.alloc (.cells #[.slice S.A S.p.nodes.length S.ncap,.slice S.B S.p.funcs.length S.fcap] 25)=W:=⟨_,rfl⟩
 obtain ⟨g,hg⟩:∃ g,w.heap.size=g:=⟨_,rfl⟩
 obtain ⟨gR,hgR⟩:∃ g,W1.heap.size=g:=⟨_,rfl⟩
 obtain ⟨W2,hW2⟩:∃ W,W1.alloc (.cells #[.slice none 0 0,.slice none 0 0] 31)=W:=⟨_,rfl⟩
 have hb2:Below w.heap.size w W2:=by rw [← hW2,← hW1];exact zaxY _ _ _
 have HB2:=hZz hb2;have hx1:Blk W1 g 25 #[.slice S.A S.p.nodes.length S.ncap,.slice S.B S.p.funcs.length S.fcap]:=by rw [← hW1,← hg];exact Blk.new _ _ _
 have HX2:Hid (Blk W2 g 25 #[.slice S.A S.p.nodes.length S.ncap,.slice S.B S.p.funcs.length S.fcap]):=hZz (by rw [← hW2];exact hx1.alloc _);have HR2:Hid (Blk W2 gR 31 #[.slice none 0 0,.slice none 0 0]):=hZz (by rw [← hW2,← hgR];exact Blk.new _ _ _);have HC:=hZz (startE_s S W2 (hS.below hb2) (hp.below hb2) he);have HSH:=hZz hsh;have HPW:=hZz hp;have HSE:=hZz he;have HLE:Hid (w.heap.size≤gR):=hZz (by rw [← hgR,← hW1];simp);have HGR:Hid (g+1=gR):=hZz (by rw [← hgR,← hW1,← hg];simp);have HNF:Hid (S.p.funcs.length=1):=hZz (by rw [he];rfl);unfold ProgS.val at HC ⊢;have HG:=hZz hg;have HW1:=hZz hW1;have HW2:=hZz hW2;clear hP hg hW1 hW2 hb2 hgR hx1 hS hp he hsh;go_enter func11,ntmps11
 go_upto_region 1 with fail
 rw [HG.out,HW1.out]
 try rw [HGR.out]
 rw [HW2.out];clear HG HW1 HW2 HGR;have x2:=blk2 HX2.out
 go_upto_region 2 with (first
  | (go_at_call 26;(with_reducible refine HC.out.mono ?_);rintro r w3 ⟨w0,sA,sc,gW,hb0,hS0,hsl,hst,rfl⟩))
 have HB0:=hZz (zaaZ hb0 HB2.out HB2.out.size);have HX0:=hZz (HX2.out.below hb0);have HR0:=hZz (HR2.out.below hb0);have HS0:=hZz hS0;have HSL:=hZz hsl;have HST:=hZz hst;have HNE0:Hid (gW<w3.heap.size):=hZz (by obtain ⟨⟨_,h1,_⟩,_⟩:=hst;exact h1.lt);have HLE0:Hid (w0.heap.size≤w3.heap.size):=hZz hst.bl.size;clear hst hb0 hS0 hsl x2 HC;obtain ⟨gC,hgC⟩:∃ g,w3.heap.size=g:=⟨_,rfl⟩
 obtain ⟨W4,hW4⟩:∃ W,w3.alloc (.cells #[.slice none 0 0,.slice none 0 0] 31)=W:=⟨_,rfl⟩
 have hb34:Below w3.heap.size w3 W4:=by rw [← hW4];exact zabZ _ _
 have HS:=hZz (HST.out.below hb34);have HCC:Hid (Blk W4 gC 31 #[.slice none 0 0,.slice none 0 0]):=hZz (by rw [← hW4,← hgC];exact Blk.new _ _ _);have HLC:Hid (w0.heap.size≤gC):=hZz (by rw [← hgC];exact HLE0.out);have HNE:Hid (gW≠gC):=hZz (by rw [← hgC];have:=HNE0.out;omega);have HGC:=hZz hgC;have HW4:=hZz hW4;clear hgC hW4 hb34;go_upto_region 5 with (fail)
 rw [HGC.out,HW4.out];rw [HNF.out] at HX0 ⊢
 have hf:∃ bF offF kA kc,S.B=some ⟨bF,offF,none⟩∧W4.cell? ⟨bF,offF,none⟩=some (.string ⟨#[109,97,105,110]⟩)∧W4.cell? ⟨bF,offF+1,none⟩=some (.slice kA 1 kc)∧W4.cell? ⟨bF,offF+2,none⟩=some (.int .i64 2):=by
  have h0:=HS0.out;have hbl:=HS.out.bl;have he:=HSE.out;clear HS0 HS HSE;obtain ⟨A,B,nc,fc,p⟩:=S;obtain rfl:p=exP:=he;obtain ⟨bF,offF,kA,kc,hA,hbF,c0,c1,c2,_⟩:=zamY (i:=0) h0.funcs (show 0<1 by decide)
  replace c0:=(hbl.cell hbF).trans c0
  replace c1:=(hbl.cell hbF).trans c1
  replace c2:=(hbl.cell hbF).trans c2
  exact ⟨bF,offF,kA,kc,hA,by simpa using (show _=some (Value.string ⟨#[109,97,105,110]⟩) from c0),by simpa using (show _=some (Value.slice kA 1 kc) from c1),by simpa using (show _=some (Value.int .i64 2) from c2)⟩
 obtain ⟨bF,offF,kA,kc,hA,c0,c1,c2⟩:=hf
 have HL6:Hid (∀ wx,Below w0.heap.size w0 wx→Calls prog 29 #[S.val,.int .i64 0] wx fun e w'=>e=.returned (.tuple #[.int .i64 1,.int .i64 0])∧Below wx.heap.size wx w'):=hZz (fun wx hb=>by
  have:=locals_s S 0 wx (HS0.out.below hb) ((HPW.out.below HB0.out).below hb) (by rw [HSE.out];exact ex_ok)
  have e:localsF S.p 0=(1,0):=by rw [HSE.out];unfold localsF;rw [ex_study];rfl
  rw [e] at this;exact this)
 unfold ProgS.val at HL6;rw [HNF.out] at HL6;rw [hA] at HX0 HL6 ⊢;have x4:=blk2 (HX0.out.below HS.out.bl);clear hA;go_upto_region 6 with (fail)
 try go_wp2_with (fail)
 refine wp_loop_rounds 2 ?_
 rw [rounds_succ];obtain ⟨gF,hgF⟩:∃ g,W4.heap.size=g:=⟨_,rfl⟩
 obtain ⟨WF,hWF⟩:∃ W,W4.alloc (.cells #[.string ⟨#[109,97,105,110]⟩,.slice kA 1 kc,.int .i64 2] 42)=W:=⟨_,rfl⟩
 have hbWF:Below W4.heap.size W4 WF:=by rw [← hWF];exact zabZ _ _
 have HFB:Hid (Blk WF gF 42 #[.string ⟨#[109,97,105,110]⟩,.slice kA 1 kc,.int .i64 2]):=hZz (by rw [← hWF,← hgF];exact Blk.new _ _ _);have HSF:=hZz (HS.out.below hbWF);have HCF:=hZz (HCC.out.below hbWF);have HFC:Hid (gF≠gC):=hZz (by rw [← hgF];have:=HCC.out.lt;omega);have HGF:Hid (gF≠gW):=hZz (by rw [← hgF];obtain ⟨⟨_,h1,_⟩,_⟩:=HS.out;have:=h1.lt;omega);have HH1:Hid (Calls prog 27 #[.pointer (some ⟨gW,0,none⟩)] WF fun e w'=>e=.returned (.int .i64 0)∧∃ q,w'=WF.drewN q):=hZz (here_s w0 S sA 3 sc gW 0 [] WF HSF.out (by omega) (by simp));have HGF0:=hZz hgF;have HWF:=hZz hWF;clear hgF hWF hbWF;go_upto_region 8 with (fail)
 rw [HWF.out]
 try rw [HGF0.out]
 clear c0 c1 c2 HGF0 HWF x4
 go_upto_region 9 with (first
  | (go_at_call 27;(with_reducible refine HH1.out.mono ?_);rintro r w5 ⟨rfl,q5,hq5⟩;have HB5:Hid (Below WF.heap.size WF w5):=hZz (by rw [hq5];exact zaiZ (Below.refl _ _) _);clear hq5))
 have HS5:=hZz (HSF.out.below HB5.out);have HCW:=hZz (wfE_s w0 S sA sc gW HS0.out HSE.out HSL.out w5 HS5.out)
 go_upto_region 10 with (first
  | (go_at_call 28;(with_reducible refine HCW.out.mono ?_);rintro r w6 ⟨rfl,s6,k6⟩))
 obtain ⟨⟨iv5,hbk5,_⟩,_⟩:=HS5.out;have HS6:=hZz s6;have HF6:=hZz (k6.blk (HFB.out.below HB5.out) HGF.out (by decide));have HC6:=hZz (k6.blk (HCF.out.below HB5.out) (Ne.symm HNE.out) (by decide));clear s6 k6 hbk5;have x6:=blk2 (HX0.out.below HS6.out.bl);have HL7:=hZz (HL6.out w6 HS6.out.bl)
 go_upto_region 13 with (first
  | (go_at_call 29;(with_reducible refine HL7.out.mono ?_);rintro r w7 ⟨rfl,hb7⟩;have HB7:=hZz hb7;clear hb7))
 clear x6;have HS7:=hZz (HS6.out.below HB7.out);have HF7:=hZz (HF6.out.below HB7.out);have HC7:=hZz (HC6.out.below HB7.out);have HO7:Hid (w7.ownsRow w0.heap.size 50 5 (.slice none 0 0) 0 []):=hZz ⟨rfl,.inl ⟨rfl,rfl⟩⟩;have HH2:Hid (∀ W,Below w7.heap.size w7 W→Calls prog 27 #[.pointer (some ⟨gW,0,none⟩)] W fun e w'=>e=.returned (.int .i64 4)∧∃ q,w'=W.drewN q):=hZz (fun W hb=>here_s w0 S sA 3 sc gW 0 [eL,eR,eZ,eR] W (HS7.out.below hb) (by omega) (by simp));have c7:=blk2 HC7.out;obtain ⟨i1,hj,hy0,hy1,hy2⟩:=info_parts Tryz.infoCF;have HF7d:Hid (Blk w7.drew gF 42 #[.string ⟨#[109,97,105,110]⟩,.slice kA 1 kc,.int .i64 2]):=hZz HF7.out;refine wp_region_held_drew (S:=(fun w'=>w'.cell? ⟨gF,0,none⟩=some (.string ⟨#[109,97,105,110]⟩)∧w'.cell? ⟨gF,1,none⟩=some (.slice kA 1 kc))) (by kernel_rfl) (by (first | with_reducible exact two_f HF7d.out | with_reducible exact two_f HF8.out | with_reducible exact two_f HFA.out | with_reducible exact two_f HF9.out | with_reducible exact two_f (HF9s.out _))) (fun hHeld=>?_)
 refine tkZ (i:=0) (v:=.pointer (some ⟨gC,0,none⟩)) rfl ?_
 simp only [nz,Act.put];refine tkZ (i:=2) (v:=.pointer (some ⟨gF,0,none⟩)) rfl ?_
 simp only [nz,Act.put];refine tkZ (i:=3) (v:=.string ⟨#[109,97,105,110]⟩) rfl ?_
 simp only [nz,Act.put];refine tkZ (i:=4) (v:=.pointer (some ⟨gF,1,none⟩)) rfl ?_
 simp only [nz,Act.put];refine tkZ (i:=5) (v:=.slice kA 1 kc) rfl ?_
 simp only [nz,Act.put];refine tkZ (i:=6) (v:=.int .i64 1) rfl ?_
 simp only [nz,Act.put];refine tkZ (i:=7) (v:=.int .i64 1) rfl ?_
 simp only [nz,Act.put];refine tkZ (i:=8) (v:=.int .i64 0) rfl ?_
 simp only [nz,Act.put];refine tkZ (i:=9) (v:=.pointer (some ⟨gW,0,none⟩)) rfl ?_
 simp only [nz,Act.put];refine wpAnyH_ready (rs:=[1,10]) (by kernel_rfl) (by simp) ?_
 refine AllReadyH.cons (o:=_) rfl (fun K hK=>?_) ?_
 focus
  go_simp;refine hK.out _ _ (by (try dsimp only);(first | with_reducible exact two_f HF7d.out | with_reducible exact two_f HF8.out | with_reducible exact two_f HFA.out | with_reducible exact two_f HF9.out | with_reducible exact two_f (HF9s.out _))) (fun hHeld=>?_)
  clear hK K
  try simp only [nz,Act.put]
  refine wpAnyH_ready (rs:=[10]) (by kernel_rfl) (by simp) ?_
  refine AllReadyH.cons (o:=_) rfl (fun K hK=>?_) AllReadyH.nil
  go_simp
  (go_at_call 27;((with_reducible refine (HH2.out _ (zadZ _)).mono ?_);rintro r w8 ⟨rfl,q8,hq8⟩;have HB8:Hid (Below w7.heap.size w7 w8):=hZz (by rw [hq8];exact zaiZ (zadZ _) _);have HC8:=hZz (HC7.out.below HB8.out);have c8:=blk2 HC8.out;have HF8:=hZz (HF7.out.below HB8.out);have HFA:=hZz (HF8.out.below (zabZ w8 (.cells #[.string ⟨#[109,97,105,110]⟩,.int .i64 1,.int .i64 1,.int .i64 0,.int .i64 4] 50)));have HO8:=hZz (zagZ (zagZ HO7.out HB8.out) (zabZ w8 (.cells #[.string ⟨#[109,97,105,110]⟩,.int .i64 1,.int .i64 1,.int .i64 0,.int .i64 4] 50)));have HNW:Hid (∀ q u,[Value.string ⟨#[109,97,105,110]⟩,.int .i64 1,.int .i64 1,.int .i64 0,.int .i64 4][q]? = some u→(w8.alloc (.cells #[.string ⟨#[109,97,105,110]⟩,.int .i64 1,.int .i64 1,.int .i64 0,.int .i64 4] 50)).cell? ((⟨w8.heap.size,0,none⟩:Addr).add q)=some u):=hZz (zadY w8 _ 50);have HSZ:Hid (w0.heap.size≤(w8.alloc (.cells #[.string ⟨#[109,97,105,110]⟩,.int .i64 1,.int .i64 1,.int .i64 0,.int .i64 4] 50)).heap.size):=hZz (Nat.le_trans HS7.out.bl.size (Nat.le_trans HB8.out.size (zabZ w8 _).size));clear hq8))
  refine hK.out _ _ (by (try dsimp only);(first | with_reducible exact two_f HF7d.out | with_reducible exact two_f HF8.out | with_reducible exact two_f HFA.out | with_reducible exact two_f HF9.out | with_reducible exact two_f (HF9s.out _))) (fun hHeld=>?_)
  clear hK K
  try simp only [nz,Act.put]
  refine tkZ (i:=11) (v:=.agg #[.string ⟨#[109,97,105,110]⟩,.int .i64 1,.int .i64 1,.int .i64 0,.int .i64 4]) rfl ?_
  simp only [nz,Act.put];refine wpAnyH_ready (rs:=[12]) (by kernel_rfl) (by simp) ?_
  refine AllReadyH.cons (o:=_) rfl (fun K hK=>?_) AllReadyH.nil
  go_simp;refine hK.out _ _ (by (try dsimp only);(first | with_reducible exact two_f HF7d.out | with_reducible exact two_f HF8.out | with_reducible exact two_f HFA.out | with_reducible exact two_f HF9.out | with_reducible exact two_f (HF9s.out _))) (fun hHeld=>?_)
  clear hK K
  try simp only [nz,Act.put]
  refine wpAnyH_ready (rs:=[13]) (by kernel_rfl) (by simp) ?_
  refine AllReadyH.cons (o:=_) rfl (fun K hK=>?_) AllReadyH.nil
  try simp only [List.getElem_toArray,List.getElem_cons_succ,List.getElem_cons_zero]
  (rw [if_pos (by rfl)];refine wp_append_lies _ (.tmp 47) (.tmp 58) 28 rfl w0.heap.size 50 i1 _ 5 48 underlying28 hj hy0 hy1 hy2 rfl ?k1 _ 0 _ rfl HO8.out ⟨w8.heap.size,0,none⟩ 1 1 [.string ⟨#[109,97,105,110]⟩,.int .i64 1,.int .i64 1,.int .i64 0,.int .i64 4] ?k7 rfl HNW.out ?k2 ?k3 ?k4 ?k5 ?k6 _ rfl ?_;(case k7=>first | rfl | simp);(case k1=>decide);(case k2=>simp [Value.oneCell']);(case k3=>decide);(case k4=>(unfold maxLen;omega));(case k5=>decide);(case k6=>exact HSZ.out);intro g9 cap9 w9 hown9 hgr9 hat9 hlt9;have HE9:=hZz ((HC8.out.below (zabZ w8 (.cells #[.string ⟨#[109,97,105,110]⟩,.int .i64 1,.int .i64 1,.int .i64 0,.int .i64 4] 50))).grown hgr9 (zaeZ HO8.out (HC8.out.below (zabZ w8 _)) (by decide)));have c9:=blk2 HE9.out;have z9:=HE9.out.frozen 0;have HF9:=hZz (HFA.out.grown hgr9 (zaeZ HO8.out HFA.out (by decide)));have HF9s:Hid (∀ u,Blk (w9.setCell ⟨gC,0,none⟩ u) gF 42 #[.string ⟨#[109,97,105,110]⟩,.slice kA 1 kc,.int .i64 2]):=hZz (fun u=>HF9.out.far (p:=⟨gC,0,none⟩) HFC.out u);have HO9:=hZz hown9;have HG9:=hZz hgr9;clear hown9 hgr9 hat9)
  refine hK.out _ _ (by (try dsimp only);(first | with_reducible exact two_f HF7d.out | with_reducible exact two_f HF8.out | with_reducible exact two_f HFA.out | with_reducible exact two_f HF9.out | with_reducible exact two_f (HF9s.out _))) (fun hHeld=>?_)
  clear hK K
  try simp only [nz,Act.put]
  refine tkZ (i:=14) (v:=.pointer (some ⟨gC,0,none⟩)) rfl ?_
  simp only [nz,Act.put];refine wpAnyH_ready (rs:=[15]) (by kernel_rfl) (by simp) ?_
  refine AllReadyH.cons (o:=_) rfl (fun K hK=>?_) AllReadyH.nil
  go_simp;refine hK.out _ _ (by (try dsimp only);(first | with_reducible exact two_f HF7d.out | with_reducible exact two_f HF8.out | with_reducible exact two_f HFA.out | with_reducible exact two_f HF9.out | with_reducible exact two_f (HF9s.out _))) (fun hHeld=>?_)
  clear hK K
  try simp only [nz,Act.put]
  refine wpAnyH_done (by kernel_rfl) ?_ _
  try dsimp only [List.getElem_toArray,List.getElem_cons_succ,List.getElem_cons_zero,Act.put]
 rotate_left 1;refine AllReadyH.cons (o:=_) rfl (fun K hK=>?_) AllReadyH.nil
 go_simp
 (go_at_call 27;((with_reducible refine (HH2.out _ (zadZ _)).mono ?_);rintro r w8 ⟨rfl,q8,hq8⟩;have HB8:Hid (Below w7.heap.size w7 w8):=hZz (by rw [hq8];exact zaiZ (zadZ _) _);have HC8:=hZz (HC7.out.below HB8.out);have c8:=blk2 HC8.out;have HF8:=hZz (HF7.out.below HB8.out);have HFA:=hZz (HF8.out.below (zabZ w8 (.cells #[.string ⟨#[109,97,105,110]⟩,.int .i64 1,.int .i64 1,.int .i64 0,.int .i64 4] 50)));have HO8:=hZz (zagZ (zagZ HO7.out HB8.out) (zabZ w8 (.cells #[.string ⟨#[109,97,105,110]⟩,.int .i64 1,.int .i64 1,.int .i64 0,.int .i64 4] 50)));have HNW:Hid (∀ q u,[Value.string ⟨#[109,97,105,110]⟩,.int .i64 1,.int .i64 1,.int .i64 0,.int .i64 4][q]? = some u→(w8.alloc (.cells #[.string ⟨#[109,97,105,110]⟩,.int .i64 1,.int .i64 1,.int .i64 0,.int .i64 4] 50)).cell? ((⟨w8.heap.size,0,none⟩:Addr).add q)=some u):=hZz (zadY w8 _ 50);have HSZ:Hid (w0.heap.size≤(w8.alloc (.cells #[.string ⟨#[109,97,105,110]⟩,.int .i64 1,.int .i64 1,.int .i64 0,.int .i64 4] 50)).heap.size):=hZz (Nat.le_trans HS7.out.bl.size (Nat.le_trans HB8.out.size (zabZ w8 _).size));clear hq8))
 refine hK.out _ _ (by (try dsimp only);(first | with_reducible exact two_f HF7d.out | with_reducible exact two_f HF8.out | with_reducible exact two_f HFA.out | with_reducible exact two_f HF9.out | with_reducible exact two_f (HF9s.out _))) (fun hHeld=>?_)
 clear hK K
 try simp only [nz,Act.put]
 refine tkZ (i:=11) (v:=.agg #[.string ⟨#[109,97,105,110]⟩,.int .i64 1,.int .i64 1,.int .i64 0,.int .i64 4]) rfl ?_
 simp only [nz,Act.put];refine wpAnyH_ready (rs:=[1,12]) (by kernel_rfl) (by simp) ?_
 refine AllReadyH.cons (o:=_) rfl (fun K hK=>?_) ?_
 focus
  go_simp;refine hK.out _ _ (by (try dsimp only);(first | with_reducible exact two_f HF7d.out | with_reducible exact two_f HF8.out | with_reducible exact two_f HFA.out | with_reducible exact two_f HF9.out | with_reducible exact two_f (HF9s.out _))) (fun hHeld=>?_)
  clear hK K
  try simp only [nz,Act.put]
  refine wpAnyH_ready (rs:=[12]) (by kernel_rfl) (by simp) ?_
  refine AllReadyH.cons (o:=_) rfl (fun K hK=>?_) AllReadyH.nil
  go_simp;refine hK.out _ _ (by (try dsimp only);(first | with_reducible exact two_f HF7d.out | with_reducible exact two_f HF8.out | with_reducible exact two_f HFA.out | with_reducible exact two_f HF9.out | with_reducible exact two_f (HF9s.out _))) (fun hHeld=>?_)
  clear hK K
  try simp only [nz,Act.put]
  refine wpAnyH_ready (rs:=[13]) (by kernel_rfl) (by simp) ?_
  refine AllReadyH.cons (o:=_) rfl (fun K hK=>?_) AllReadyH.nil
  try simp only [List.getElem_toArray,List.getElem_cons_succ,List.getElem_cons_zero]
  (rw [if_pos (by rfl)];refine wp_append_lies _ (.tmp 47) (.tmp 58) 28 rfl w0.heap.size 50 i1 _ 5 48 underlying28 hj hy0 hy1 hy2 rfl ?k1 _ 0 _ rfl HO8.out ⟨w8.heap.size,0,none⟩ 1 1 [.string ⟨#[109,97,105,110]⟩,.int .i64 1,.int .i64 1,.int .i64 0,.int .i64 4] ?k7 rfl HNW.out ?k2 ?k3 ?k4 ?k5 ?k6 _ rfl ?_;(case k7=>first | rfl | simp);(case k1=>decide);(case k2=>simp [Value.oneCell']);(case k3=>decide);(case k4=>(unfold maxLen;omega));(case k5=>decide);(case k6=>exact HSZ.out);intro g9 cap9 w9 hown9 hgr9 hat9 hlt9;have HE9:=hZz ((HC8.out.below (zabZ w8 (.cells #[.string ⟨#[109,97,105,110]⟩,.int .i64 1,.int .i64 1,.int .i64 0,.int .i64 4] 50))).grown hgr9 (zaeZ HO8.out (HC8.out.below (zabZ w8 _)) (by decide)));have c9:=blk2 HE9.out;have z9:=HE9.out.frozen 0;have HF9:=hZz (HFA.out.grown hgr9 (zaeZ HO8.out HFA.out (by decide)));have HF9s:Hid (∀ u,Blk (w9.setCell ⟨gC,0,none⟩ u) gF 42 #[.string ⟨#[109,97,105,110]⟩,.slice kA 1 kc,.int .i64 2]):=hZz (fun u=>HF9.out.far (p:=⟨gC,0,none⟩) HFC.out u);have HO9:=hZz hown9;have HG9:=hZz hgr9;clear hown9 hgr9 hat9)
  refine hK.out _ _ (by (try dsimp only);(first | with_reducible exact two_f HF7d.out | with_reducible exact two_f HF8.out | with_reducible exact two_f HFA.out | with_reducible exact two_f HF9.out | with_reducible exact two_f (HF9s.out _))) (fun hHeld=>?_)
  clear hK K
  try simp only [nz,Act.put]
  refine tkZ (i:=14) (v:=.pointer (some ⟨gC,0,none⟩)) rfl ?_
  simp only [nz,Act.put];refine wpAnyH_ready (rs:=[15]) (by kernel_rfl) (by simp) ?_
  refine AllReadyH.cons (o:=_) rfl (fun K hK=>?_) AllReadyH.nil
  go_simp;refine hK.out _ _ (by (try dsimp only);(first | with_reducible exact two_f HF7d.out | with_reducible exact two_f HF8.out | with_reducible exact two_f HFA.out | with_reducible exact two_f HF9.out | with_reducible exact two_f (HF9s.out _))) (fun hHeld=>?_)
  clear hK K
  try simp only [nz,Act.put]
  refine wpAnyH_done (by kernel_rfl) ?_ _
  try dsimp only [List.getElem_toArray,List.getElem_cons_succ,List.getElem_cons_zero,Act.put]
 rotate_left 1;refine AllReadyH.cons (o:=_) rfl (fun K hK=>?_) AllReadyH.nil
 go_simp;refine hK.out _ _ (by (try dsimp only);(first | with_reducible exact two_f HF7d.out | with_reducible exact two_f HF8.out | with_reducible exact two_f HFA.out | with_reducible exact two_f HF9.out | with_reducible exact two_f (HF9s.out _))) (fun hHeld=>?_)
 clear hK K
 try simp only [nz,Act.put]
 refine wpAnyH_ready (rs:=[1]) (by kernel_rfl) (by simp) ?_
 refine AllReadyH.cons (o:=_) rfl (fun K hK=>?_) AllReadyH.nil
 go_simp;refine hK.out _ _ (by (try dsimp only);(first | with_reducible exact two_f HF7d.out | with_reducible exact two_f HF8.out | with_reducible exact two_f HFA.out | with_reducible exact two_f HF9.out | with_reducible exact two_f (HF9s.out _))) (fun hHeld=>?_)
 clear hK K
 try simp only [nz,Act.put]
 refine wpAnyH_ready (rs:=[13]) (by kernel_rfl) (by simp) ?_
 refine AllReadyH.cons (o:=_) rfl (fun K hK=>?_) AllReadyH.nil
 try simp only [List.getElem_toArray,List.getElem_cons_succ,List.getElem_cons_zero]
 (rw [if_pos (by rfl)];refine wp_append_lies _ (.tmp 47) (.tmp 58) 28 rfl w0.heap.size 50 i1 _ 5 48 underlying28 hj hy0 hy1 hy2 rfl ?k1 _ 0 _ rfl HO8.out ⟨w8.heap.size,0,none⟩ 1 1 [.string ⟨#[109,97,105,110]⟩,.int .i64 1,.int .i64 1,.int .i64 0,.int .i64 4] ?k7 rfl HNW.out ?k2 ?k3 ?k4 ?k5 ?k6 _ rfl ?_;(case k7=>first | rfl | simp);(case k1=>decide);(case k2=>simp [Value.oneCell']);(case k3=>decide);(case k4=>(unfold maxLen;omega));(case k5=>decide);(case k6=>exact HSZ.out);intro g9 cap9 w9 hown9 hgr9 hat9 hlt9;have HE9:=hZz ((HC8.out.below (zabZ w8 (.cells #[.string ⟨#[109,97,105,110]⟩,.int .i64 1,.int .i64 1,.int .i64 0,.int .i64 4] 50))).grown hgr9 (zaeZ HO8.out (HC8.out.below (zabZ w8 _)) (by decide)));have c9:=blk2 HE9.out;have z9:=HE9.out.frozen 0;have HF9:=hZz (HFA.out.grown hgr9 (zaeZ HO8.out HFA.out (by decide)));have HF9s:Hid (∀ u,Blk (w9.setCell ⟨gC,0,none⟩ u) gF 42 #[.string ⟨#[109,97,105,110]⟩,.slice kA 1 kc,.int .i64 2]):=hZz (fun u=>HF9.out.far (p:=⟨gC,0,none⟩) HFC.out u);have HO9:=hZz hown9;have HG9:=hZz hgr9;clear hown9 hgr9 hat9)
 refine hK.out _ _ (by (try dsimp only);(first | with_reducible exact two_f HF7d.out | with_reducible exact two_f HF8.out | with_reducible exact two_f HFA.out | with_reducible exact two_f HF9.out | with_reducible exact two_f (HF9s.out _))) (fun hHeld=>?_)
 clear hK K
 try simp only [nz,Act.put]
 refine tkZ (i:=14) (v:=.pointer (some ⟨gC,0,none⟩)) rfl ?_
 simp only [nz,Act.put];refine wpAnyH_ready (rs:=[15]) (by kernel_rfl) (by simp) ?_
 refine AllReadyH.cons (o:=_) rfl (fun K hK=>?_) AllReadyH.nil
 go_simp;refine hK.out _ _ (by (try dsimp only);(first | with_reducible exact two_f HF7d.out | with_reducible exact two_f HF8.out | with_reducible exact two_f HFA.out | with_reducible exact two_f HF9.out | with_reducible exact two_f (HF9s.out _))) (fun hHeld=>?_)
 clear hK K
 try simp only [nz,Act.put]
 refine wpAnyH_done (by kernel_rfl) ?_ _
 try dsimp only [List.getElem_toArray,List.getElem_cons_succ,List.getElem_cons_zero,Act.put]
 all_goals
  try go_wp2_with (fail)
  have HCA:=hZz (HC8.out.below (zabZ w8 (.cells #[.string ⟨#[109,97,105,110]⟩,.int .i64 1,.int .i64 1,.int .i64 0,.int .i64 4] 50)));obtain ⟨WR,hWR⟩:∃ W,w9.setCell ⟨gC,0,none⟩ (.slice (some ⟨g9,0,none⟩) 1 cap9)=W:=⟨_,rfl⟩
  have HSR:Hid (WrSt w0 WR S sA 3 sc gW 0 [eL,eR,eZ,eR]):=hZz (by
   rw [← hWR];exact (((HS7.out.below HB8.out).below (zabZ w8 (.cells #[.string ⟨#[109,97,105,110]⟩,.int .i64 1,.int .i64 1,.int .i64 0,.int .i64 4] 50)))).kc (((KC.refl _ gC _).grown HO8.out (Nat.le_refl _) HSZ.out HG9.out).setC HLC.out 0 _) HCA.out HNE.out)
  have HCR:Hid (Blk WR gC 31 #[.slice (some ⟨g9,0,none⟩) 1 cap9,.slice none 0 0]):=hZz (by rw [← hWR];exact HE9.out.set_ 0 _);have HOR:Hid (WR.ownsRow w0.heap.size 50 5 (.slice (some ⟨g9,0,none⟩) 1 cap9) 1 cF4):=hZz (by rw [← hWR];exact zakY HO9.out HE9.out (by decide) 0 _)
  try rw [hWR]
  clear hWR c9 z9 HF9 HF9s HO9 HG9 HE9 HCA HC8 HO8 HNW HSZ HF8 HFA HB8 c8 HF7 HF7d HC7 HS7 HO7 c7 HH2;rw [rounds_succ];obtain ⟨⟨iv,hbk,hio⟩,_,hbl,_⟩:=HSR.out;rcases hio.2 with ⟨_,h0⟩ | ⟨gI,ic,cur,rfl,_⟩
  ·cases h0
  simp only [List.length_cons,List.length_nil,Nat.zero_add,Nat.reduceAdd] at hbk hio;have y:=blkW hbk;have c:=blk2 HCR.out;have z:=HCR.out.frozen 1;have HLW:Hid (w.heap.size≤gC):=hZz (Nat.le_trans HB0.out.size HLC.out);obtain ⟨W9,hW9⟩:∃ W,WR.setCell ⟨gC,1,none⟩ (.slice (some ⟨gI,0,none⟩) 4 ic)=W:=⟨_,rfl⟩
  have HC9:Hid (Blk W9 gC 31 #[.slice (some ⟨g9,0,none⟩) 1 cap9,.slice (some ⟨gI,0,none⟩) 4 ic]):=hZz (by rw [← hW9];exact HCR.out.set_ 1 _);have HB09:Hid (Below w0.heap.size w0 W9):=hZz (by rw [← hW9];exact hbl.setCell (p:=⟨gC,1,none⟩) HLC.out _);have HB9:=hZz (zaaZ HB09.out HB0.out HB0.out.size);have HI9:Hid (W9.ownsRow w0.heap.size 53 4 (.slice (some ⟨gI,0,none⟩) 4 ic) 4 cI4):=hZz (by rw [← hW9];exact zakY hio HCR.out (by decide) 1 _);have HO9:Hid (W9.ownsRow w0.heap.size 50 5 (.slice (some ⟨g9,0,none⟩) 1 cap9) 1 cF4):=hZz (by rw [← hW9];exact zakY HOR.out HCR.out (by decide) 1 _);have HCX9:=hZz (check_ok4 g9 gI cap9 ic W9 ⟨RowE.of_own HO9.out,RowE.of_own HI9.out⟩ (HSH.out.below HB9.out));have HW9:=hZz hW9;clear hW9 hbk hio hbl;go_upto_region 16 with (fail)
  rw [HW9.out];clear y c z HW9;have c9:=blk2 HC9.out
  go_upto_region 19 with (first
   | (go_at_call 23;(refine HCX9.out.mono ?_);rintro r w10 ⟨rfl,hb10⟩;have HB910:=hZz hb10;clear hb10))
  have HB10:=hZz (zaaZ HB910.out HB9.out HB9.out.size);have HRR:=hZz ((HR0.out.below HB09.out).below HB910.out);obtain ⟨r0,r1⟩:=blk2 HRR.out;have z10:=(fun i=>HRR.out.frozen i:∀ i,w10.frozen? ⟨gR,i,none⟩=false)
  clear c9;obtain ⟨c0,c1⟩:=blk2 (HC9.out.below HB910.out);obtain ⟨W11,hW11⟩:∃ W,(w10.setCell ⟨gR,0,none⟩ (.slice (some ⟨g9,0,none⟩) 1 cap9)).setCell ⟨gR,1,none⟩ (.slice (some ⟨gI,0,none⟩) 4 ic)=W:=⟨_,rfl⟩
  have HR11:Hid (Blk W11 gR 31 #[.slice (some ⟨g9,0,none⟩) 1 cap9,.slice (some ⟨gI,0,none⟩) 4 ic]):=hZz (by rw [← hW11];exact (HRR.out.set_ 0 _).set_ 1 _);have HB11:Hid (Below w.heap.size w W11):=hZz (by rw [← hW11];exact (HB10.out.setCell (p:=⟨gR,0,none⟩) HLE.out _).setCell (p:=⟨gR,1,none⟩) HLE.out _)
  have HK11:Hid (Code4 W11 g9 gI):=hZz (by
   rw [← hW11];exact ⟨RowE.of_own (zakY (zakY (zagZ HO9.out HB910.out) HRR.out (by decide) 0 _) (HRR.out.set_ 0 _) (by decide) 1 _),RowE.of_own (zakY (zakY (zagZ HI9.out HB910.out) HRR.out (by decide) 0 _) (HRR.out.set_ 0 _) (by decide) 1 _)⟩)
  have HW11:=hZz hW11;clear hW11;go_wp2_with (fail)
  rw [HW11.out];clear r0 r1 c0 c1;obtain ⟨r0,r1⟩:=blk2 HR11.out;refine bodyPost_ret (by simp [results,Tryz.results11,r0,r1,go_sem];try rfl) rfl ?_
  exact HP.out _ _ _ _ _ HK11.out HB11.out
end
end Go.Proofs.YthiimbhjpdphpaaGreatDoor
