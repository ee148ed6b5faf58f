/- U24, U29, U30 -/
import Derived.Test.YthiimbhjpdphpaaGreatDoorPU23
import Derived.Test.YthiimbhjpdphpaaGreatDoorPU28
import Derived.Test.YthiimbhjpdphpaaGreatDoorPW17
set_option linter.unusedVariables false
set_option linter.unusedSimpArgs false
namespace Go.Proofs.YthiimbhjpdphpaaGreatDoor
open Go.RowKit
set_option maxRecDepth 100000
open Go.Proofs.Tryz
section
def RSlotsP (p:ProgD) (w:World) (e:Ending) (w':World):Prop :=
 ((studyF p).err≠0∧e=.returned (.tuple #[.slice none 0 0,.int .i64 (studyF p).err])∧Below w.heap.size w w') ∨
 ((studyF p).err=0∧∃ gl,e=.returned (.tuple #[.slice (some ⟨gl,0,none⟩) (studyF p).slots.length (studyF p).slots.length,.int .i64 0])∧Blk w' gl 3 ((studyF p).slots.map (Value.int .i64)).toArray∧Below w.heap.size w w')
attribute [local go_sem] zabZ
set_option maxHeartbeats 16000000 in
theorem rslots_s (S:ProgS) (w:World) (hS:ProgV w S) (hok:ProgOk S.p):Calls prog 30 #[S.val] w (RSlotsP S.p w):=by
 obtain ⟨A,B,ncap,fcap,p⟩:=S;dsimp only at hok ⊢;obtain ⟨P,hP⟩:∃ P:Ending→World→Prop,RSlotsP p w=P:=⟨_,rfl⟩
 rw [hP];obtain ⟨er,her⟩:∃ t,(studyF p).err=t:=⟨_,rfl⟩
 obtain ⟨sl,hsl⟩:∃ t,(studyF p).slots=t:=⟨_,rfl⟩
 have HP1:Hid (∀ w',er≠0→Below w.heap.size w w'→P (.returned (.tuple #[.slice none 0 0,.int .i64 er])) w'):=hZz (fun w' h1 h2=>by rw [← hP];unfold RSlotsP;rw [her];exact .inl ⟨h1,rfl,h2⟩);have HP2:Hid (∀ gl w',er=0→Blk w' gl 3 (sl.map (Value.int .i64)).toArray→Below w.heap.size w w'→P (.returned (.tuple #[.slice (some ⟨gl,0,none⟩) sl.length sl.length,.int .i64 0])) w'):=hZz (fun gl w' h1 h2 h3=>by rw [← hP];unfold RSlotsP;rw [her,hsl];exact .inr ⟨h1,gl,rfl,h2,h3⟩);have HCH:Hid (∀ wx,Below w.heap.size w wx→Calls prog 35 #[(ProgS.mk A B ncap fcap p).val] wx fun e w'=>∃ nd,e=.returned (.tuple #[.int .i64 nd,.int .i64 er])∧Below wx.heap.size wx w'):=hZz (fun wx hb=>by rw [← her,study_err];exact wcheck_s ⟨A,B,ncap,fcap,p⟩ wx (hS.below hb) hok)
 have HAL:Hid (er=0→∃ AW:WkD,AW.slot=sl∧∀ wx,Below w.heap.size w wx→Calls prog 43 #[(ProgS.mk A B ncap fcap p).val] wx (AllP ⟨A,B,ncap,fcap,p⟩ wx AW)):=hZz (fun h=>by
  obtain ⟨h1,h2,_,h4,h5,_⟩:=za5Y (her.trans h)
  have h6:errK p p.funcs.length=0:=by
   have:=(study_err p).symm.trans (her.trans h)
   unfold errP at this
   rwa [if_neg (by rw [h4];simp),if_neg (by rw [h5];simp)] at this
  refine ⟨allW p p.funcs.length,?_,fun wx hb=>wall_s ⟨A,B,ncap,fcap,p⟩ wx (hS.below hb) h1⟩
  rw [(all_law h4 h5 _ (Nat.le_refl _)).2 h6,← hsl,h2])
 unfold ProgS.val at HCH HAL ⊢;dsimp only at HCH HAL ⊢;obtain ⟨N,hN⟩:∃ N,p.funcs.length=N:=⟨_,rfl⟩
 have HN:=hZz hN;obtain ⟨nn,hnn⟩:∃ t,p.nodes.length=t:=⟨_,rfl⟩
 have HNN:=hZz hnn;rw [hN,hnn] at HCH HAL ⊢;obtain ⟨g,hg⟩:∃ g,w.heap.size=g:=⟨_,rfl⟩
 obtain ⟨W1,hW1⟩:∃ W,w.alloc (.cells #[.slice A nn ncap,.slice B N fcap] 25)=W:=⟨_,rfl⟩
 have HX1:Hid (Blk W1 g 25 #[.slice A nn ncap,.slice B N fcap]):=hZz (by rw [← hW1,← hg];exact Blk.new _ _ _);have HB1:Hid (Below w.heap.size w W1):=hZz (by rw [← hW1];exact zacZ _ _);have HW1:=hZz hW1;have HG:=hZz hg;clear hP her hsl hS hok hN hnn hg hW1;go_enter func30,ntmps30
 go_upto_region 1 with fail
 rw [HG.out,HW1.out];clear HG HW1;have x1:=blk2 HX1.out
 go_upto_region 2 with (first
  | (go_at_call 35;(with_reducible refine (HCH.out _ HB1.out).mono ?_);rintro e w2 ⟨nd,rfl,hb2⟩;have HB2:=hZz (zaaZ hb2 HB1.out HB1.out.size);have HX2:=hZz (HX1.out.below hb2);clear hb2))
 clear x1;by_cases h0:er=0
 case neg =>
  have h1:(er != 0)=true:=by simp [h0]
  have H0:=hZz h0;clear h0;go_wp2_with (fail)
  exact HP1.out _ H0.out HB2.out
 subst h0;obtain ⟨AW,hA1,hA2⟩:=HAL.out rfl;have HA1:=hZz hA1;have HA2:=hZz hA2;clear hA1 hA2 HAL;have x2:=blk2 HX2.out
 go_upto_region 5 with (first
  | (go_at_call 43;(with_reducible refine (HA2.out _ HB2.out).mono ?_);rintro e w6 ⟨nA,nc,sA,sc,gl,he,hb6,_,hl6⟩;unfold WkV at he;dsimp only at he;rw [HN.out,HNN.out] at he;subst he;have HL6:=hZz hl6;have HB6:=hZz (zaaZ hb6 HB2.out HB2.out.size);clear hb6 hl6 x2))
 rw [HA1.out] at HL6 ⊢;generalize AW.node=wn;generalize AW.next=wnx;generalize AW.err=er;generalize AW.vis.length=vl;obtain ⟨ln,hln⟩:∃ t,sl.length=t:=⟨_,rfl⟩
 rw [hln] at HP2 ⊢;obtain ⟨gq,hgq⟩:∃ g,w6.heap.size=g:=⟨_,rfl⟩
 obtain ⟨W7,hW7⟩:∃ W,w6.alloc (.cells #[.slice A nn ncap,.slice B N fcap,.slice nA vl nc,.slice sA vl sc,.int .i64 wnx,.slice (some ⟨gl,0,none⟩) ln ln,.int .i64 wn,.int .i64 er] 86)=W:=⟨_,rfl⟩
 have hq:Blk W7 gq 86 #[.slice A nn ncap,.slice B N fcap,.slice nA vl nc,.slice sA vl sc,.int .i64 wnx,.slice (some ⟨gl,0,none⟩) ln ln,.int .i64 wn,.int .i64 er]:=by rw [← hW7,← hgq];exact Blk.new _ _ _
 have HB7:Hid (Below w.heap.size w W7):=hZz (by rw [← hW7];exact HB6.out.alloc HB6.out.size _);have HL7:=hZz (HL6.out.below (w':=W7) (by rw [← hW7];exact zacZ _ _));rw [hgq,hW7];clear hW7 hgq hln;have q5:=hq.cell 5 _ rfl;clear hq;go_wp2_with (fail)
 exact HP2.out gl _ (by first | rfl | trivial) HL7.out HB7.out
end
section
theorem tnode_all (w0:World) (S:ProgS) (sA:Option Addr) (sc gW:Nat) (e0:Int) (sl:List Int) (hC:WrCtx w0 S sA sl) (he:0≤e0∧e0≤4000):∀ f,NodeT w0 S sA sc gW e0 sl f:=by
 intro f;induction f with
 | zero=>intro i s L w hf;cases hf
 | succ f ih=>exact tnode_s w0 S sA sc gW e0 sl hC.prog hC.ok (by have:=hC.ok.funcs;omega) hC.slots hC.len he f ih
theorem TrSt.insV {w0 w:World} {S:ProgS} {sA:Option Addr} {sn sc gW:Nat} {e0:Int} {L:List (InsD × Value)} (h:TrSt w0 w S sA sn sc gW e0 L):∃ iA ic,Blk w gW 89 #[.slice S.A S.p.nodes.length S.ncap,.slice S.B S.p.funcs.length S.fcap,.slice sA sn sc,.slice iA L.length ic,.int .i64 e0]∧InsV w iA (L.map Prod.fst):=by
 obtain ⟨⟨iv,h1,h2⟩,h3,h4,_⟩:=h;obtain ⟨iA,ic,rfl⟩:=zaiZ h2;refine ⟨iA,ic,h1,L.map insRow,?_,by simp,?_⟩
 ·have hs:=SlAt.of_own (c:=insRow) (l:=L) h2 rfl (fun _=>rfl) (by decide)
  unfold SlAt at hs ⊢;rw [List.map_id'];exact hs
 ·intro k hk hk'
  have hkN:k<L.length:=by simpa using hk
  refine ⟨(L[k]).2,by simp [insRow],?_⟩
  have:=(h3 (L[k]) (List.getElem_mem hkN)).below h4
  simpa using this
theorem insV_nil (w:World):InsV w none []:=⟨[],by intro i row h;simp at h,rfl,fun k hk=>absurd hk (by simp)⟩
def TransP (S:ProgS) (sl:List Int) (k:Nat) (e0:Int) (w:World) (r:Ending) (w':World):Prop:=∃ A c,r=.returned (.slice A (funcSeg S.p sl k e0).length c)∧InsV w' A (funcSeg S.p sl k e0)∧Below w.heap.size w w'
attribute [local go_sem] zabZ
set_option maxHeartbeats 16000000 in
theorem translate_s (S:ProgS) (sA:Option Addr) (sc:Nat) (sl:List Int) (k:Nat) (e0:Int) (w:World) (hC:WrCtx w S sA sl) (he:0≤e0∧e0≤4000) (hk:k<S.p.funcs.length) :
  Calls prog 31 #[S.val,.slice sA sl.length sc,.int .i64 k,.int .i64 e0] w (TransP S sl k e0 w):=by
 obtain ⟨R,hR⟩:∃ R,funcSeg S.p sl k e0=R:=⟨_,rfl⟩
 obtain ⟨P,hP⟩:∃ P:Ending→World→Prop,TransP S sl k e0 w=P:=⟨_,rfl⟩
 rw [hP];have HP:Hid (∀ A c n w',n=R.length→InsV w' A R→Below w.heap.size w w'→P (.returned (.slice A n c)) w'):=hZz (fun A c n w' h0 h1 h2=>by rw [← hP,h0,← hR];exact ⟨A,c,rfl,by rw [hR];exact h1,h2⟩);obtain ⟨b,hfo,_,_⟩:=hC.syn.func hk;obtain ⟨bF,offF,kA,kc,hA,hbF,_,_,c2,_⟩:=zalY hC.prog.funcs hk;have hbo:=hfo.body;rw [hbo] at c2;have HC2:Hid (∀ wx,Below w.heap.size w wx→wx.cell? ⟨bF,offF+k * 3+2,none⟩=some (.int .i64 b)):=hZz (fun wx hb=>(hb.cell hbF).trans c2);have hgd:(S.p.funcs.getD k noFunc)=S.p.funcs[k]:=zajZ hk _;unfold funcSeg at hR;rw [hgd,hbo,Int.toNat_natCast] at hR;have HR:=hZz hR;have hN:=hC.syn.nodes;have HFO:=hZz hfo;have HSL:Hid ((segF S.p sl 600 b e0).length≤6000):=hZz (by have:=zauY S.p sl 600 b _ e0 hfo.first;have:=hfo.lt;omega);have HNB:Hid (6 * (b+1 - startF S.p.funcs k)≤90000):=hZz (by have:=hfo.lt;omega);have HCX:=hZz hC;have HE:=hZz he;unfold ProgS.val;obtain ⟨gp,hgp⟩:∃ g,w.heap.size=g:=⟨_,rfl⟩
 obtain ⟨W1,hW1⟩:∃ W,w.alloc (.cells #[.slice S.A S.p.nodes.length S.ncap,.slice S.B S.p.funcs.length S.fcap] 25)=W:=⟨_,rfl⟩
 have hb1:Below w.heap.size w W1:=by rw [← hW1];exact zacZ _ _
 have hX1:Blk W1 gp 25 #[.slice S.A S.p.nodes.length S.ncap,.slice S.B S.p.funcs.length S.fcap]:=by rw [← hW1,← hgp];exact Blk.new _ _ _
 obtain ⟨gW,hgW⟩:∃ g,W1.heap.size=g:=⟨_,rfl⟩
 obtain ⟨W2,hW2⟩:∃ W,W1.alloc (.cells #[.slice S.A S.p.nodes.length S.ncap,.slice S.B S.p.funcs.length S.fcap,.slice sA sl.length sc,.slice none 0 0,.int .i64 e0] 89)=W:=⟨_,rfl⟩
 have hb2:Below W1.heap.size W1 W2:=by rw [← hW2];exact zacZ _ _
 have hT2:TrSt W1 W2 S sA sl.length sc gW e0 []:=⟨⟨.slice none 0 0,by rw [← hW2,← hgW];exact Blk.new _ _ _,⟨rfl,.inl ⟨rfl,rfl⟩⟩⟩,fun p hp=>absurd hp (by simp),hb2,by omega⟩
 have hCX1:WrCtx W1 S sA sl:=⟨hC.prog.below hb1,hC.ok,hC.syn,hC.slots.below hb1,hC.len⟩
 have HNA:=hZz (tnode_all W1 S sA sc gW e0 sl hCX1 he 600 b _ [] W2 hfo.first hfo.lt hT2 (by simpa using HNB.out));have HT2:=hZz hT2;have HX2:=hZz (hX1.below hb2);have HX1:=hZz hX1;have HB1:=hZz hb1;have HB12:=hZz hb2;have HB2:=hZz (zaaZ hb2 hb1 hb1.size);have HGP:=hZz hgp;have HW1:=hZz hW1;have HGW:=hZz hgW;have HW2:=hZz hW2;obtain ⟨N,hNe⟩:∃ N,S.p.funcs.length=N:=⟨_,rfl⟩
 rw [hA,hNe] at HX1 HX2 HW1 HW2;rw [hA,hNe];rw [hNe] at hk;have hkN:(k:Int)<(N:Int):=by omega
 have hk0:(0:Int)≤(k:Int):=by omega
 clear hR hP hbF c2 hbo hgd hfo hC he hgp hW1 hb1 hX1 hgW hW2 hb2 hT2 hCX1 hN hk;go_enter func31,ntmps31
 go_upto_region 1 with fail
 rw [HGP.out,HW1.out];have x1:=blk2 HX1.out;go_upto_region 2 with fail
 rw [HGW.out,HW2.out];clear x1 HW1 HW2;have x2:=blk2 HX2.out;have y2:=HC2.out _ HB2.out
 go_upto_region 3 with (first
  | (go_at_call 44;(with_reducible refine HNA.out.mono ?_);rintro e w3 ⟨rfl,hw3⟩;have HW3:=hZz hw3;clear hw3))
 clear x2 y2;obtain ⟨N0,n0,l0,s3,k3⟩:=HW3.out.st;rw [List.nil_append] at s3;have HN0:=hZz n0;have HS3:=hZz s3
 have hl0:N0.length≤6000:=by
  have:=HSL.out
  rw [l0];simpa using this
 have HL0:=hZz hl0;clear n0 l0 s3 k3 hl0;have HA3:=hZz (zacY W1 S sA sl.length sc gW e0 N0 w3 1 0 ⟨#[]⟩ HS3.out (by have:=HL0.out;omega))
 go_upto_region 4 with (first
  | (go_at_call 45;(with_reducible refine HA3.out.mono ?_);rintro e w4 ⟨rfl,hs4,hk4⟩;have HS4:=hZz hs4;clear hs4 hk4))
 have HA4:=hZz (zacY W1 S sA sl.length sc gW e0 (N0 ++ [(⟨1,0,⟨#[]⟩,[]⟩,nilK)]) w4 20 0 ⟨#[]⟩ HS4.out (by have:=HL0.out;simp only [List.length_append,List.length_cons,List.length_nil];omega))
 go_upto_region 5 with (first
  | (go_at_call 45;(with_reducible refine HA4.out.mono ?_);rintro e w5 ⟨rfl,hs5,hk5⟩;have HS5:=hZz hs5;clear hs5 hk5))
 obtain ⟨iA,ic,hbk,hio⟩:=HS5.out.insV
 have he:(N0 ++ [((⟨1,0,⟨#[]⟩,[]⟩:InsD),nilK)] ++ [((⟨20,0,⟨#[]⟩,[]⟩:InsD),nilK)]).map Prod.fst=R:=by
  rw [← HR.out,List.map_append,List.map_append,HN0.out];simp [insO]
 rw [he] at hio;have HIO:=hZz hio;have HLN:Hid ((N0 ++ [((⟨1,0,⟨#[]⟩,[]⟩:InsD),nilK)] ++ [((⟨20,0,⟨#[]⟩,[]⟩:InsD),nilK)]).length=R.length):=hZz (by rw [← he,List.length_map]);have HB5:=hZz (zaaZ HS5.out.bl HB1.out HB1.out.size);have y:=blkW hbk;clear hbk hio he;generalize (N0 ++ [((⟨1,0,⟨#[]⟩,[]⟩:InsD),nilK)] ++ [((⟨20,0,⟨#[]⟩,[]⟩:InsD),nilK)]).length=ln at y HLN;go_wp2_with (fail)
 exact HP.out _ _ _ _ HLN.out HIO.out HB5.out
def RFunctionP (S:ProgS) (f e:Int) (w:World) (r:Ending) (w':World):Prop:=∃ A c,r=.returned (.tuple #[.slice A (functionF S.p f e).1.length c,.int .i64 (functionF S.p f e).2])∧InsV w' A (functionF S.p f e).1∧Below w.heap.size w w'
theorem RSlotsP.ctx {S:ProgS} {w w':World} {gl:Nat} (h0:(studyF S.p).err=0) (hS:ProgV w S) (hok:ProgOk S.p) (hb:Below w.heap.size w w') (h:Blk w' gl 3 ((studyF S.p).slots.map (Value.int .i64)).toArray):WrCtx w' S (some ⟨gl,0,none⟩) (studyF S.p).slots :=
 ⟨hS.below hb,hok,(za5Y h0).1,slAt_blk h,slots_len h0⟩
theorem WrCtx.below {w w':World} {S:ProgS} {sA:Option Addr} {sl:List Int} (h:WrCtx w S sA sl) (hb:Below w.heap.size w w'):WrCtx w' S sA sl:=⟨h.prog.below hb,h.ok,h.syn,h.slots.below hb,h.len⟩
set_option maxHeartbeats 16000000 in
theorem rfunction_s (S:ProgS) (f e:Int) (w:World) (hS:ProgV w S) (hok:ProgOk S.p):Calls prog 20 #[S.val,.int .i64 f,.int .i64 e] w (RFunctionP S f e w):=by
 obtain ⟨P,hP⟩:∃ P:Ending→World→Prop,RFunctionP S f e w=P:=⟨_,rfl⟩
 rw [hP];have HP1:Hid (∀ w' er,functionF S.p f e=([],er)→Below w.heap.size w w'→P (.returned (.tuple #[.slice none 0 0,.int .i64 er])) w'):=hZz (fun w' er h h2=>by rw [← hP];exact ⟨none,0,by rw [h];rfl,by rw [h];exact insV_nil _,h2⟩);have HP2:Hid (∀ w' A c is,functionF S.p f e=(is,0)→InsV w' A is→Below w.heap.size w w'→P (.returned (.tuple #[.slice A is.length c,.int .i64 0])) w'):=hZz (fun w' A c is h h1 h2=>by rw [← hP];exact ⟨A,c,by rw [h],by rw [h];exact h1,h2⟩);obtain ⟨W1,hW1⟩:∃ W,w.alloc (.cells #[.slice S.A S.p.nodes.length S.ncap,.slice S.B S.p.funcs.length S.fcap] 25)=W:=⟨_,rfl⟩
 obtain ⟨g,hg⟩:∃ g,w.heap.size=g:=⟨_,rfl⟩
 have hb1:Below w.heap.size w W1:=by rw [← hW1];exact zacZ _ _
 have HB1:=hZz hb1;have HX1:Hid (Blk W1 g 25 #[.slice S.A S.p.nodes.length S.ncap,.slice S.B S.p.funcs.length S.fcap]):=hZz (by rw [← hW1,← hg];exact Blk.new _ _ _);have HC:Hid (Calls prog 30 #[S.val] W1 (RSlotsP S.p W1)):=hZz (rslots_s S W1 (hS.below hb1) hok);have HFN:Hid (functionF S.p f e=if (studyF S.p).err≠0 then ([],(studyF S.p).err) else if f<0∨(S.p.funcs.length:Int)≤f∨e<0∨4000<e then ([],2) else (funcSeg S.p (studyF S.p).slots f.toNat e,0)):=hZz rfl;have HCT:Hid ((studyF S.p).err=0→∀ gl w',Below W1.heap.size W1 w'→Blk w' gl 3 ((studyF S.p).slots.map (Value.int .i64)).toArray→∀ k:Nat,k<S.p.funcs.length→0≤e∧e≤4000→Calls prog 31 #[S.val,.slice (some ⟨gl,0,none⟩) (studyF S.p).slots.length (studyF S.p).slots.length,.int .i64 k,.int .i64 e] w' (TransP S (studyF S.p).slots k e w')):=hZz (fun h0 gl w' hb h k hk he=>translate_s S _ _ _ k e w' (RSlotsP.ctx h0 (hS.below hb1) hok hb h) he hk);unfold ProgS.val at HC HCT ⊢;have HG:=hZz hg;have HW1:=hZz hW1;clear hP hS hok hg hW1 hb1;go_enter func20,ntmps20
 go_upto_region 1 with fail
 rw [HG.out,HW1.out];clear HG HW1;have x1:=blk2 HX1.out
 go_upto_region 2 with (first
  | (go_at_call 30;(with_reducible refine HC.out.mono ?_);rintro r w2 hq;rcases hq with ⟨h0,rfl,hb2⟩ | ⟨h0,gl,rfl,hl2,hb2⟩))
 ·have HB2:=hZz (zaaZ hb2 HB1.out HB1.out.size)
  obtain ⟨er,her⟩:∃ x,(studyF S.p).err=x:=⟨_,rfl⟩
  rw [her] at h0 HFN ⊢;have e0:(er != 0)=true:=by simp [h0]
  have H0:=hZz h0;clear h0 her hb2;go_wp2_with (fail)
  exact HP1.out _ _ (by rw [HFN.out,if_pos H0.out]) HB2.out
 ·have HB2:=hZz (zaaZ hb2 HB1.out HB1.out.size)
  have HCT2:=hZz (HCT.out h0 gl w2 hb2 hl2);have HFN2:Hid (functionF S.p f e=if f<0∨(S.p.funcs.length:Int)≤f∨e<0∨4000<e then ([],2) else (funcSeg S.p (studyF S.p).slots f.toNat e,0)):=hZz (by rw [HFN.out,if_neg (by rw [h0];simp)]);have HX2:=hZz (HX1.out.below hb2);obtain ⟨sl,hsl⟩:∃ t,(studyF S.p).slots=t:=⟨_,rfl⟩
  rw [hsl] at HCT2 HFN2 ⊢;clear hsl h0 hb2 hl2 x1 HFN HC HCT;have x2:=blk2 HX2.out;obtain ⟨nf,hnf⟩:∃ n,S.p.funcs.length=n:=⟨_,rfl⟩
  have HNF:=hZz hnf;rw [hnf] at x2 HFN2 HCT2;clear hnf;by_cases e1:f<0
  ·go_wp2_with (fail)
   exact HP1.out _ _ (by rw [HFN2.out,if_pos (.inl e1)]) HB2.out
  by_cases e2:(nf:Int)≤f
  ·go_wp2_with (fail)
   exact HP1.out _ _ (by rw [HFN2.out,if_pos (.inr (.inl e2))]) HB2.out
  by_cases e3:e<0
  ·go_wp2_with (fail)
   exact HP1.out _ _ (by rw [HFN2.out,if_pos (.inr (.inr (.inl e3)))]) HB2.out
  by_cases e4:4000<e
  ·go_wp2_with (fail)
   exact HP1.out _ _ (by rw [HFN2.out,if_pos (.inr (.inr (.inr e4)))]) HB2.out
  obtain ⟨k,rfl⟩:∃ k:Nat,f=(k:Int):=⟨f.toNat,by omega⟩
  have HC2:=hZz (HCT2.out k (by omega) (by omega));have HFN3:Hid (functionF S.p k e=(funcSeg S.p sl k e,0)):=hZz (by rw [HFN2.out,if_neg (by omega),Int.toNat_natCast]);clear HFN2
  go_wp2_with (first
   | (go_at_call 31;(with_reducible refine HC2.out.mono ?_);rintro r w3 ⟨A,c,rfl,hi3,hb3⟩;have HI3:=hZz hi3;have HB3:=hZz (zaaZ hb3 HB2.out HB2.out.size);clear hi3 hb3))
  exact HP2.out _ _ _ _ HFN3.out HI3.out HB3.out
set_option maxHeartbeats 16000000 in
theorem rlength_s (S:ProgS) (w:World) (hS:ProgV w S) (hok:ProgOk S.p):Calls prog 22 #[S.val] w fun r w'=>r=.returned (.tuple #[.int .i64 (lengthF S.p).1,.int .i64 (lengthF S.p).2])∧Below w.heap.size w w':=by
 obtain ⟨R,hR⟩:∃ R,lengthF S.p=R:=⟨_,rfl⟩
 rw [hR];obtain ⟨P,hP⟩:∃ P:Ending→World→Prop,(fun r w'=>r=.returned (.tuple #[.int .i64 R.1,.int .i64 R.2])∧Below w.heap.size w w')=P:=⟨_,rfl⟩
 rw [hP];have HP:Hid (∀ (a b:Int) w',R=(a,b)→Below w.heap.size w w'→P (.returned (.tuple #[.int .i64 a,.int .i64 b])) w'):=hZz (fun a b w' h h2=>by rw [← hP,h];exact ⟨rfl,h2⟩);obtain ⟨W1,hW1⟩:∃ W,w.alloc (.cells #[.slice S.A S.p.nodes.length S.ncap,.slice S.B S.p.funcs.length S.fcap] 25)=W:=⟨_,rfl⟩
 obtain ⟨g,hg⟩:∃ g,w.heap.size=g:=⟨_,rfl⟩
 have hb1:Below w.heap.size w W1:=by rw [← hW1];exact zacZ _ _
 have HB1:=hZz hb1;have HX1:Hid (Blk W1 g 25 #[.slice S.A S.p.nodes.length S.ncap,.slice S.B S.p.funcs.length S.fcap]):=hZz (by rw [← hW1,← hg];exact Blk.new _ _ _);have HC:Hid (Calls prog 30 #[S.val] W1 (RSlotsP S.p W1)):=hZz (rslots_s S W1 (hS.below hb1) hok);have HLN:Hid (R=if (studyF S.p).err≠0 then (0,(studyF S.p).err) else (((allSeg S.p (studyF S.p).slots S.p.funcs.length).length:Int),0)):=hZz (by rw [← hR];rfl);have HCT:Hid ((studyF S.p).err=0→∀ gl w',Below W1.heap.size W1 w'→Blk w' gl 3 ((studyF S.p).slots.map (Value.int .i64)).toArray→∀ w'',Below w'.heap.size w' w''→∀ k:Nat,k<S.p.funcs.length→Calls prog 31 #[S.val,.slice (some ⟨gl,0,none⟩) (studyF S.p).slots.length (studyF S.p).slots.length,.int .i64 k,.int .i64 0] w'' (TransP S (studyF S.p).slots k 0 w'')):=hZz (fun h0 gl w' hb h w'' hb' k hk=>translate_s S _ _ _ k 0 w'' ((RSlotsP.ctx h0 (hS.below hb1) hok hb h).below hb') (by omega) hk);unfold ProgS.val at HC HCT ⊢;have HG:=hZz hg;have HW1:=hZz hW1;clear hP hR hS hok hg hW1 hb1;go_enter func22,ntmps22
 go_upto_region 1 with fail
 rw [HG.out,HW1.out];clear HG HW1;have x1:=blk2 HX1.out
 go_upto_region 2 with (first
  | (go_at_call 30;(with_reducible refine HC.out.mono ?_);rintro r w2 hq;rcases hq with ⟨h0,rfl,hb2⟩ | ⟨h0,gl,rfl,hl2,hb2⟩))
 ·have HB2:=hZz (zaaZ hb2 HB1.out HB1.out.size)
  obtain ⟨er,her⟩:∃ x,(studyF S.p).err=x:=⟨_,rfl⟩
  rw [her] at h0 HLN ⊢;have e0:(er != 0)=true:=by simp [h0]
  have H0:=hZz h0;clear h0 her hb2;go_wp2_with (fail)
  exact HP.out _ _ _ (by rw [HLN.out,if_pos H0.out]) HB2.out
 ·have HB2:=hZz (zaaZ hb2 HB1.out HB1.out.size)
  have HCT2:=hZz (HCT.out h0 gl w2 hb2 hl2);have HLN2:Hid (R=(((allSeg S.p (studyF S.p).slots S.p.funcs.length).length:Int),0)):=hZz (by rw [HLN.out,if_neg (by rw [h0];simp)]);have HX2:=hZz (HX1.out.below hb2);have HSY:=hZz (za5Y h0).1;obtain ⟨sl,hsl⟩:∃ t,(studyF S.p).slots=t:=⟨_,rfl⟩
  rw [hsl] at HCT2 HLN2 ⊢;clear hsl h0 hb2 hl2 x1 HLN HC HCT;obtain ⟨nf,hnf⟩:∃ n,S.p.funcs.length=n:=⟨_,rfl⟩
  have HNF:=hZz hnf;rw [hnf] at HX2 HLN2 HCT2;have hnf16:nf≤16:=by rw [← hnf];exact HSY.out.funcs
  clear hnf;go_wp2_with (fail)
  go_loopw [6,7] (fun nv iv wr=>∃ k:Nat,k≤nf∧iv=.int .i64 k∧nv=.int .i64 ((allSeg S.p sl k).length:Nat)∧Hid (Below w2.heap.size w2 wr)) (fun _ iv _=>nf - (intOf iv).toNat)
  case atStart=>exact ⟨0,Nat.zero_le _,rfl,rfl,hZz (Below.refl _ _)⟩
  case round =>
   obtain ⟨k,hk,rfl,rfl,HB⟩:=hrel;have hk0:(0:Int)≤(k:Int):=by omega
   have x2:=blk2 (HX2.out.below HB.out);have hle:=HSY.out.all_le sl (k:=k) (by rw [HNF.out];exact hk);obtain ⟨ln,hln⟩:∃ t,(allSeg S.p sl k).length=t:=⟨_,rfl⟩
   rw [hln] at hle ⊢;have HLK:=hZz hln;clear hln;by_cases hlt:k<nf
   ·have hlt':(k:Int)<(nf:Int):=by omega
    have HC2:=hZz (HCT2.out wr HB.out k hlt);have hle2:=HSY.out.all_le sl (k:=k+1) (by rw [HNF.out];exact hlt);simp only [allSeg,List.length_append] at hle2
    have hsg:(funcSeg S.p sl k (allSeg S.p sl k).length).length=(funcSeg S.p sl k 0).length:=by
     unfold funcSeg;rw [List.length_append,List.length_append,seg_len S.p sl _ _ _ 0]
    have HSG:Hid ((allSeg S.p sl (k+1)).length=ln+(funcSeg S.p sl k 0).length):=hZz (by rw [allSeg,List.length_append,hsg,HLK.out]);rw [hsg,HLK.out] at hle2;obtain ⟨fn,hfn⟩:∃ t,(funcSeg S.p sl k 0).length=t:=⟨_,rfl⟩
    unfold TransP at HC2;rw [hfn] at hle2 HSG HC2;clear hsg hfn;have hwr:IntKind.i64.wrap ((ln:Int)+(fn:Int))=(ln:Int)+(fn:Int):=IntWalk.i64_in _ (by omega)
    go_wp2_with (first
     | (go_at_call 31;(with_reducible refine HC2.out.mono ?_);rintro r w3 ⟨A,c,rfl,_,hb3⟩;have HB3:=hZz (zaaZ hb3 HB.out HB.out.size);clear hb3))
    exact ⟨⟨k+1,hlt,by simp,by rw [HSG.out];simp [hwr],HB3⟩,by simp [intOf];omega⟩
   ·have e:nf=k:=by omega
    subst e;have HRE:Hid (R=((ln:Int),0)):=hZz (by rw [HLN2.out,HLK.out]);have HBF:=hZz (zaaZ HB.out HB2.out HB2.out.size);clear hle;go_wp2_with (fail)
    exact HP.out _ _ _ HRE.out HBF.out
end
section
theorem fn_len12 {p:ProgD} (f e:Int):(functionF p f e).1.length≤3602:=by
 unfold functionF;by_cases h1:(studyF p).err≠0
 ·rw [if_pos h1];show (0:Nat)≤3602;omega
 rw [if_neg h1];by_cases h2:f<0∨(p.funcs.length:Int)≤f∨e<0∨(4000:Int)<e
 ·rw [if_pos h2];show (0:Nat)≤3602;omega
 rw [if_neg h2];exact (za5Y (p:=p) (by omega)).1.seg_le (studyF p).slots (k:=f.toNat) (by omega) e
theorem fn_ok12 {p:ProgD} (hkl:∀ i,(p.at_ i).keys.length≤1000) (f e:Int):∀ x∈(functionF p f e).1,InsOk x:=by
 intro x hx;unfold functionF at hx;by_cases h1:(studyF p).err≠0
 ·rw [if_pos h1] at hx;cases hx
 rw [if_neg h1] at hx;by_cases h2:f<0∨(p.funcs.length:Int)≤f∨e<0∨(4000:Int)<e
 ·rw [if_pos h2] at hx;cases hx
 rw [if_neg h2] at hx;have hok:=(za5Y (p:=p) (by omega)).1
 change x∈funcSeg p (studyF p).slots f.toNat e at hx
 unfold funcSeg at hx;rcases List.mem_append.1 hx with hx | hx
 ·obtain ⟨b,hfo,_,hb⟩:=hok.func (k:=f.toNat) (by omega)
  rw [hb] at hx;exact seg_small p _ hkl 600 b _ _ hfo.first x hx
 ·simp only [List.mem_cons,List.not_mem_nil,or_false] at hx
  rcases hx with rfl | rfl <;> exact ok_O _ _
attribute [local go_sem] zabZ
set_option maxHeartbeats 16000000 in
theorem lfunctions_s (S:ProgS) (f e:Int) (w:World) (hS:ProgV w S) (hp:Pow w) (ht:TextsOk S.p) (hA:∀ wx,Below w.heap.size w wx→Calls prog 10 #[] wx fun r w'=>r=.returned (.bool true)∧Below wx.heap.size wx w') :
  Calls prog 6 #[S.val,.int .i64 f,.int .i64 e] w fun r w'=>r=.returned (.bool true)∧Below w.heap.size w w':=by
 obtain ⟨P,hP⟩:∃ P:Ending→World→Prop,(fun r w'=>r=.returned (.bool true)∧Below w.heap.size w w')=P:=⟨_,rfl⟩
 rw [hP];have HP:Hid (∀ w',Below w.heap.size w w'→P (.returned (.bool true)) w'):=hZz (fun w' h2=>by rw [← hP];exact ⟨rfl,h2⟩);obtain ⟨W1,hW1⟩:∃ W,w.alloc (.cells #[.slice S.A S.p.nodes.length S.ncap,.slice S.B S.p.funcs.length S.fcap] 25)=W:=⟨_,rfl⟩
 obtain ⟨g,hg⟩:∃ g,w.heap.size=g:=⟨_,rfl⟩
 have hb1:Below w.heap.size w W1:=by rw [← hW1];exact zacZ _ _
 have HB1:=hZz hb1;have HX1:Hid (Blk W1 g 25 #[.slice S.A S.p.nodes.length S.ncap,.slice S.B S.p.funcs.length S.fcap]):=hZz (by rw [← hW1,← hg];exact Blk.new _ _ _);have HCS:Hid (Calls prog 9 #[S.val] W1 fun e w'=>(∃ b,e=.returned (.bool b)∧(b=true→SmallPr S.p))∧Below W1.heap.size W1 w'):=hZz (small_s S W1 (hS.below hb1));have HCF:Hid (SmallPr S.p→∀ wx,Below w.heap.size w wx→Calls prog 19 #[S.val,.int .i64 f,.int .i64 e] wx (FunctionP S f e wx)):=hZz (fun hs wx hb=>cfunction_s S f e wx (hS.below hb) (hp.below hb) (hs.ok ht));have HRF:Hid (SmallPr S.p→∀ wx,Below w.heap.size w wx→Calls prog 20 #[S.val,.int .i64 f,.int .i64 e] wx (RFunctionP S f e wx)):=hZz (fun hs wx hb=>rfunction_s S f e wx (hS.below hb) (hs.ok ht));have HCL:Hid (SmallPr S.p→∀ wx,Below w.heap.size w wx→Calls prog 21 #[S.val] wx fun r w'=>r=.returned (.tuple #[.int .i64 (lengthF S.p).1,.int .i64 (lengthF S.p).2])∧Below wx.heap.size wx w'):=hZz (fun hs wx hb=>clength_s S wx (hS.below hb) (hp.below hb) (hs.ok ht));have HRL:Hid (SmallPr S.p→∀ wx,Below w.heap.size w wx→Calls prog 22 #[S.val] wx fun r w'=>r=.returned (.tuple #[.int .i64 (lengthF S.p).1,.int .i64 (lengthF S.p).2])∧Below wx.heap.size wx w'):=hZz (fun hs wx hb=>rlength_s S wx (hS.below hb) (hs.ok ht));have HIK:Hid (SmallPr S.p→∀ i∈(functionF S.p f e).1,InsOk i):=hZz (fun hs=>fn_ok12 hs.keys f e);have HIL:Hid ((functionF S.p f e).1.length≤3602):=hZz (fn_len12 f e);have HA:=hZz hA;unfold ProgS.val at HCS HCF HRF HCL HRL ⊢;unfold FunctionP at HCF;unfold RFunctionP at HRF;have HG:=hZz hg;have HW1:=hZz hW1;generalize functionF S.p f e=R at HCF HRF HIK HIL;generalize lengthF S.p=RL at HCL HRL;obtain ⟨is,er⟩:=R;obtain ⟨ln,le⟩:=RL;dsimp only at HCF HRF HIK HIL HCL HRL;clear hP hS hp ht hA hg hW1 hb1;go_enter func6,ntmps6
 go_upto_region 1 with fail
 rw [HG.out,HW1.out];clear HG HW1;have x1:=blk2 HX1.out
 go_upto_region 3 with (first
  | (go_at_call 9;(with_reducible refine HCS.out.mono ?_);rintro r w2 ⟨⟨b,rfl,hb⟩,hb2⟩;have HB12:=hZz hb2;have HB2:=hZz (zaaZ hb2 HB1.out HB1.out.size);have HSM:=hZz hb;clear hb2 hb;cases b)
  | (go_at_call 10;(with_reducible refine (HA.out _ HB2.out).mono ?_);rintro r w3 ⟨rfl,hb3⟩;have HB3:=hZz (zaaZ hb3 HB2.out HB2.out.size);clear hb3))
 ·try go_wp2_with (fail)
  exact HP.out _ HB3.out
 have HSP:=HSM.out (by simp);have HCF2:=hZz (HCF.out HSP);have HRF2:=hZz (HRF.out HSP);have HCL2:=hZz (HCL.out HSP);have HRL2:=hZz (HRL.out HSP);have HIK2:=hZz (HIK.out HSP);have HX2:=hZz (HX1.out.below HB12.out);clear x1 HSP HCF HRF HCL HRL HIK;have x2:=blk2 HX2.out;have HC3:=hZz (HCF2.out w2 HB2.out)
 go_upto_region 4 with (first
  | (go_at_call 19;(with_reducible refine HC3.out.mono ?_);rintro r w3 ⟨v1,rfl,hi3,hb3⟩;obtain ⟨A1,c1,rfl⟩:=hi3.shape;have HI3:=hZz hi3.insV.2;have HB23:=hZz hb3;have HB3:=hZz (zaaZ hb3 HB2.out HB2.out.size);clear hb3 hi3))
 clear x2;have HX3:=hZz (HX2.out.below HB23.out);have x3:=blk2 HX3.out;have HC4:=hZz (HRF2.out w3 HB3.out)
 go_upto_region 5 with (first
  | (go_at_call 20;(with_reducible refine HC4.out.mono ?_);rintro r w4 ⟨A2,c2,rfl,hi4,hb4⟩;have HI4:=hZz hi4;have HJ4:=hZz (HI3.out.below hb4);have HB34:=hZz hb4;have HB4:=hZz (zaaZ hb4 HB3.out HB3.out.size);clear hb4 hi4))
 clear x3;have HX4:=hZz (HX3.out.below HB34.out);have x4:=blk2 HX4.out;have HC5:=hZz (HCL2.out w4 HB4.out)
 go_upto_region 6 with (first
  | (go_at_call 21;(with_reducible refine HC5.out.mono ?_);rintro r w5 ⟨rfl,hb5⟩;have HI5:=hZz (HI4.out.below hb5);have HJ5:=hZz (HJ4.out.below hb5);have HX5:=hZz (HX4.out.below hb5);have HB5:=hZz (zaaZ hb5 HB4.out HB4.out.size);clear hb5))
 clear x4;have x5:=blk2 HX5.out;have HC6:=hZz (HRL2.out w5 HB5.out)
 go_upto_region 7 with (first
  | (go_at_call 22;(with_reducible refine HC6.out.mono ?_);rintro r w6 ⟨rfl,hb6⟩;have HI6:=hZz (HI5.out.below hb6);have HJ6:=hZz (HJ5.out.below hb6);have HB6:=hZz (zaaZ hb6 HB5.out HB5.out.size);clear hb6))
 clear x5;have HLS:=hZz (list_s is A1 A2 c1 c2 w6 HJ6.out HI6.out (by have:=HIL.out;omega) (fun i hi=>by have:=(HIK2.out i hi).2.1;omega));have hee:(er == er)=true:=by simp
 have hll:(ln == ln)=true:=by simp
 have hle:(le == le)=true:=by simp
 go_wp2_with (first
  | (go_at_call 13;(with_reducible refine HLS.out.mono ?_);rintro r w7 ⟨rfl,hb7⟩;have HB7:=hZz (zaaZ hb7 HB6.out HB6.out.size);clear hb7)
  | (go_at_call 10;(with_reducible refine (HA.out _ HB7.out).mono ?_);rintro r w8 ⟨rfl,hb8⟩;have HB8:=hZz (zaaZ hb8 HB7.out HB7.out.size);clear hb8))
 exact HP.out _ HB8.out
end
end Go.Proofs.YthiimbhjpdphpaaGreatDoor
