/- U32, U33 -/
import Derived.Test.YthiimbhjpdphpaaGreatDoorPW18
import Derived.Test.YthiimbhjpdphpaaGreatDoorPQ7
set_option linter.unusedVariables false
set_option linter.unusedSimpArgs false
namespace Go.Proofs.YthiimbhjpdphpaaGreatDoor
open Go.RowKit
set_option maxRecDepth 100000
set_option maxHeartbeats 8000000
open Go.Proofs.Tryz
section
def TransB (S:ProgS) (sl:List Int) (k:Nat) (e0:Int) (w:World) (r:Ending) (w':World):Prop:=∃ (L:List (InsD × Value)) (A:Option Addr) (c:Nat),r=.returned (.slice A L.length c)∧L.map Prod.fst=funcSeg S.p sl k e0∧w'.ownsRow w.heap.size 53 4 (.slice A L.length c) L.length (L.flatMap insRow)∧(∀ p∈L,KeysB S w p.2 p.1.keys)∧Below w.heap.size w w'
attribute [local go_sem] zabZ
set_option maxHeartbeats 16000000 in
theorem translateB_s (S:ProgS) (sA:Option Addr) (sc:Nat) (sl:List Int) (k:Nat) (e0:Int) (w:World) (hC:WrCtx w S sA sl) (he:0≤e0∧e0≤4000) (hk:k<S.p.funcs.length) :
  Calls prog 31 #[S.val,.slice sA sl.length sc,.int .i64 k,.int .i64 e0] w (TransB S sl k e0 w):=by
 obtain ⟨R,hR⟩:∃ R,funcSeg S.p sl k e0=R:=⟨_,rfl⟩
 obtain ⟨P,hP⟩:∃ P:Ending→World→Prop,TransB S sl k e0 w=P:=⟨_,rfl⟩
 rw [hP];have HP:Hid (∀ (L:List (InsD × Value)) A c n w',n=L.length→L.map Prod.fst=R→w'.ownsRow w.heap.size 53 4 (.slice A L.length c) L.length (L.flatMap insRow)→(∀ p∈L,KeysB S w p.2 p.1.keys)→Below w.heap.size w w'→P (.returned (.slice A n c)) w'):=hZz (fun L A c n w' h0 h1 h2 h3 h4=>by rw [← hP,h0];exact ⟨L,A,c,rfl,by rw [hR];exact h1,h2,h3,h4⟩);obtain ⟨b,hfo,_,_⟩:=hC.syn.func hk;obtain ⟨bF,offF,kA,kc,hA,hbF,_,_,c2,_⟩:=zakY hC.prog.funcs hk;have hbo:=hfo.body;rw [hbo] at c2;have HC2:Hid (∀ wx,Below w.heap.size w wx→wx.cell? ⟨bF,offF+k * 3+2,none⟩=some (.int .i64 b)):=hZz (fun wx hb=>(hb.cell hbF).trans c2);have hgd:(S.p.funcs.getD k noFunc)=S.p.funcs[k]:=zaiZ hk _;unfold funcSeg at hR;rw [hgd,hbo,Int.toNat_natCast] at hR;have HR:=hZz hR;have hN:=hC.syn.nodes;have HFO:=hZz hfo;have HSL:Hid ((segF S.p sl 600 b e0).length≤6000):=hZz (by have:=zaqY S.p sl 600 b _ e0 hfo.first;have:=hfo.lt;omega);have HNB:Hid (6 * (b+1 - startF S.p.funcs k)≤90000):=hZz (by have:=hfo.lt;omega);have HCX:=hZz hC;have HE:=hZz he;unfold ProgS.val;obtain ⟨gp,hgp⟩:∃ g,w.heap.size=g:=⟨_,rfl⟩
 obtain ⟨W1,hW1⟩:∃ W,w.alloc (.cells #[.slice S.A S.p.nodes.length S.ncap,.slice S.B S.p.funcs.length S.fcap] 25)=W:=⟨_,rfl⟩
 have hb1:Below w.heap.size w W1:=by rw [← hW1];exact zacZ _ _
 have hX1:Blk W1 gp 25 #[.slice S.A S.p.nodes.length S.ncap,.slice S.B S.p.funcs.length S.fcap]:=by rw [← hW1,← hgp];exact Blk.new _ _ _
 obtain ⟨gW,hgW⟩:∃ g,W1.heap.size=g:=⟨_,rfl⟩
 obtain ⟨W2,hW2⟩:∃ W,W1.alloc (.cells #[.slice S.A S.p.nodes.length S.ncap,.slice S.B S.p.funcs.length S.fcap,.slice sA sl.length sc,.slice none 0 0,.int .i64 e0] 89)=W:=⟨_,rfl⟩
 have hb2:Below W1.heap.size W1 W2:=by rw [← hW2];exact zacZ _ _
 have hT2:TrSt W1 W2 S sA sl.length sc gW e0 []:=⟨⟨.slice none 0 0,by rw [← hW2,← hgW];exact Blk.new _ _ _,⟨rfl,.inl ⟨rfl,rfl⟩⟩⟩,fun p hp=>absurd hp (by simp),hb2,by omega⟩
 have hCX1:WrCtx W1 S sA sl:=⟨hC.prog.below hb1,hC.ok,hC.syn,hC.slots.below hb1,hC.len⟩
 have HNA:=hZz (tnode_all W1 S sA sc gW e0 sl hCX1 he 600 b _ [] W2 hfo.first hfo.lt hT2 (by simpa using HNB.out));have HT2:=hZz hT2;have HPR1:=hZz hCX1.prog;have HX2:=hZz (hX1.below hb2);have HX1:=hZz hX1;have HB1:=hZz hb1;have HB12:=hZz hb2;have HB2:=hZz (zaaZ hb2 hb1 hb1.size);have HGP:=hZz hgp;have HW1:=hZz hW1;have HGW:=hZz hgW;have HW2:=hZz hW2;obtain ⟨N,hNe⟩:∃ N,S.p.funcs.length=N:=⟨_,rfl⟩
 rw [hA,hNe] at HX1 HX2 HW1 HW2;rw [hA,hNe];rw [hNe] at hk;have hkN:(k:Int)<(N:Int):=by omega
 have hk0:(0:Int)≤(k:Int):=by omega
 clear hR hP hbF c2 hbo hgd hfo hC he hgp hW1 hb1 hX1 hgW hW2 hb2 hT2 hCX1 hN hk;go_enter func31,ntmps31
 go_upto_region 1 with fail
 rw [HGP.out,HW1.out];have x1:=blk2 HX1.out;go_upto_region 2 with fail
 rw [HGW.out,HW2.out];clear x1 HW1 HW2;have x2:=blk2 HX2.out;have y2:=HC2.out _ HB2.out
 go_upto_region 3 with (first
  | (go_at_call 44;(with_reducible refine HNA.out.mono ?_);rintro e w3 ⟨rfl,hw3⟩;have HW3:=hZz hw3;clear hw3))
 clear x2 y2;obtain ⟨N0,n0,l0,s3,k3⟩:=HW3.out.st;rw [List.nil_append] at s3;have HN0:=hZz n0;have HS3:=hZz s3
 have hl0:N0.length≤6000:=by
  have:=HSL.out
  rw [l0];simpa using this
 have HL0:=hZz hl0;clear n0 l0 s3 k3 hl0;have HA3:=hZz (zacY W1 S sA sl.length sc gW e0 N0 w3 1 0 ⟨#[]⟩ HS3.out (by have:=HL0.out;omega))
 go_upto_region 4 with (first
  | (go_at_call 45;(with_reducible refine HA3.out.mono ?_);rintro e w4 ⟨rfl,hs4,hk4⟩;have HS4:=hZz hs4;clear hs4 hk4))
 have HA4:=hZz (zacY W1 S sA sl.length sc gW e0 (N0 ++ [(⟨1,0,⟨#[]⟩,[]⟩,nilK)]) w4 20 0 ⟨#[]⟩ HS4.out (by have:=HL0.out;simp only [List.length_append,List.length_cons,List.length_nil];omega))
 go_upto_region 5 with (first
  | (go_at_call 45;(with_reducible refine HA4.out.mono ?_);rintro e w5 ⟨rfl,hs5,hk5⟩;have HS5:=hZz hs5;clear hs5 hk5))
 obtain ⟨⟨iv,hbk,hio⟩,hks,_,_⟩:=HS5.out;obtain ⟨iA,ic,rfl⟩:=zajZ hio
 have he:(N0 ++ [((⟨1,0,⟨#[]⟩,[]⟩:InsD),nilK)] ++ [((⟨20,0,⟨#[]⟩,[]⟩:InsD),nilK)]).map Prod.fst=R:=by
  rw [← HR.out,List.map_append,List.map_append,HN0.out];simp [insO]
 have HIO:=hZz (own_baseW hio HB1.out.size);have HKS:Hid (∀ p∈N0 ++ [((⟨1,0,⟨#[]⟩,[]⟩:InsD),nilK)] ++ [((⟨20,0,⟨#[]⟩,[]⟩:InsD),nilK)],KeysB S w p.2 p.1.keys):=hZz (fun p hp wk hb hq=>hks p hp wk (zaaZ HB1.out hb hb.size) hq);have HLE:=hZz he;have HB5:=hZz (zaaZ HS5.out.bl HB1.out HB1.out.size);have y:=blkW hbk;clear hbk hio he hks;obtain ⟨M,hM⟩:∃ M,N0 ++ [((⟨1,0,⟨#[]⟩,[]⟩:InsD),nilK)] ++ [((⟨20,0,⟨#[]⟩,[]⟩:InsD),nilK)]=M:=⟨_,rfl⟩
 rw [hM] at y HIO HKS HLE;clear hM;obtain ⟨ln,hln⟩:∃ t,M.length=t:=⟨_,rfl⟩
 have HLN:=hZz hln;rw [hln] at y;clear hln;go_wp2_with (fail)
 exact HP.out M _ _ _ _ HLN.out.symm HLE.out HIO.out HKS.out HB5.out
theorem KC.bel {w0 w w':World} {gC:Nat} (h:KC w0.heap.size gC w w') (hb:Below w0.heap.size w0 w):Below w0.heap.size w0 w' :=
 ⟨h.os.trans hb.os,h.tape.trans hb.tape,h.output.trans hb.output,Nat.le_trans hb.size h.size,fun j hj=>(h.low j hj).trans (hb.block j hj)⟩
theorem insV_rows {w0 w:World} {base:Nat} {L:List (InsD × Value)} {A:Option Addr} {c:Nat} (h:w.ownsRow base 53 4 (.slice A L.length c) L.length (L.flatMap insRow)) (hk:∀ p∈L,KeysV w0 p.2 p.1.keys) (hb:Below w0.heap.size w0 w):InsV w A (L.map Prod.fst):=by
 refine ⟨L.map insRow,?_,by simp,?_⟩
 ·have hs:=SlAt.of_own (c:=insRow) (l:=L) h rfl (fun _=>rfl) (by decide)
  unfold SlAt at hs ⊢;rw [List.map_id'];exact hs
 ·intro k hk1 hk'
  have hkN:k<L.length:=by simpa using hk1
  refine ⟨(L[k]).2,by simp [insRow],?_⟩
  have:=(hk (L[k]) (List.getElem_mem hkN)).below hb
  simpa using this
def RProgramP (S:ProgS) (w:World) (r:Ending) (w':World):Prop:=∃ A nc B ic c e,r=.returned (.tuple #[.agg #[.slice A c.fns.length nc,.slice B c.ins.length ic],.int .i64 e])∧ProgR S.p c e∧SlAt w' A 5 FnD.cells c.fns∧InsV w' B c.ins∧Below w.heap.size w w'
set_option maxHeartbeats 16000000 in
theorem rprogram_s (S:ProgS) (w:World) (hS:ProgV w S) (hok:ProgOk S.p) (hky:∀ i,(S.p.at_ i).keys.length≤1000):Calls prog 12 #[S.val] w (RProgramP S w):=by
 obtain ⟨P,hP⟩:∃ P:Ending→World→Prop,RProgramP S w=P:=⟨_,rfl⟩
 rw [hP];have HP:Hid (∀ A nc B ic c e w',ProgR S.p c e→SlAt w' A 5 FnD.cells c.fns→InsV w' B c.ins→Below w.heap.size w w'→P (.returned (.tuple #[.agg #[.slice A c.fns.length nc,.slice B c.ins.length ic],.int .i64 e])) w'):=hZz (fun A nc B ic c e w' h1 h2 h3 h4=>by rw [← hP];exact ⟨A,nc,B,ic,c,e,rfl,h1,h2,h3,h4⟩);obtain ⟨W1,hW1⟩:∃ W,w.alloc (.cells #[.slice S.A S.p.nodes.length S.ncap,.slice S.B S.p.funcs.length S.fcap] 25)=W:=⟨_,rfl⟩
 obtain ⟨g,hg⟩:∃ g,w.heap.size=g:=⟨_,rfl⟩
 obtain ⟨gR,hgR⟩:∃ g,W1.heap.size=g:=⟨_,rfl⟩
 obtain ⟨W2,hW2⟩:∃ W,W1.alloc (.cells #[.slice none 0 0,.slice none 0 0] 31)=W:=⟨_,rfl⟩
 have hb2:Below w.heap.size w W2:=by rw [← hW2,← hW1];exact zauY _ _ _
 have HB2:=hZz hb2;have hx1:Blk W1 g 25 #[.slice S.A S.p.nodes.length S.ncap,.slice S.B S.p.funcs.length S.fcap]:=by rw [← hW1,← hg];exact Blk.new _ _ _
 have HX2:Hid (Blk W2 g 25 #[.slice S.A S.p.nodes.length S.ncap,.slice S.B S.p.funcs.length S.fcap]):=hZz (by rw [← hW2];exact hx1.alloc _);have HR2:Hid (Blk W2 gR 31 #[.slice none 0 0,.slice none 0 0]):=hZz (by rw [← hW2,← hgR];exact Blk.new _ _ _);have HC:Hid (Calls prog 30 #[S.val] W2 (RSlotsP S.p W2)):=hZz (rslots_s S W2 (hS.below hb2) hok);have HS0:=hZz (hS.below hb2);have HSW:=hZz hS;have HKY:=hZz hky;have HOK:=hZz hok;have HLE:Hid (w.heap.size≤gR):=hZz (by rw [← hgR,← hW1];simp);have HGR:Hid (g+1=gR):=hZz (by rw [← hgR,← hW1,← hg];simp);unfold ProgS.val at HC ⊢;have HG:=hZz hg;have HW1:=hZz hW1;have HW2:=hZz hW2;clear hP hg hW1 hW2 hb2 hgR hx1 hS hok hky;go_enter func12,ntmps12
 go_upto_region 1 with fail
 rw [HG.out,HW1.out]
 try rw [HGR.out]
 rw [HW2.out];clear HG HW1 HW2 HGR;have x2:=blk2 HX2.out
 go_upto_region 2 with (first
  | (go_at_call 30;(with_reducible refine HC.out.mono ?_);rintro r w3 hq;rcases hq with ⟨h0,rfl,hb3⟩ | ⟨h0,gl,rfl,hl3,hb3⟩))
 ·have HB3:=hZz (zaaZ hb3 HB2.out HB2.out.size)
  have HR3:=hZz (HR2.out.below hb3);obtain ⟨er,her⟩:∃ x,(studyF S.p).err=x:=⟨_,rfl⟩
  have HER:Hid (ProgR S.p noCode er):=hZz (.inl ⟨h0,rfl,her.symm⟩);rw [her] at h0 ⊢;have e0:(er != 0)=true:=by simp [h0]
  clear h0 her hb3 x2;obtain ⟨r0,r1⟩:=blk2 HR3.out;have z3:=(fun i=>HR3.out.frozen i:∀ i,w3.frozen? ⟨gR,i,none⟩=false)
  obtain ⟨W4,hW4⟩:∃ W,(w3.setCell ⟨gR,0,none⟩ (.slice none 0 0)).setCell ⟨gR,1,none⟩ (.slice none 0 0)=W:=⟨_,rfl⟩
  have HR4:Hid (Blk W4 gR 31 #[.slice none 0 0,.slice none 0 0]):=hZz (by rw [← hW4];exact (HR3.out.set_ 0 _).set_ 1 _);have HB4:Hid (Below w.heap.size w W4):=hZz (by rw [← hW4];exact (HB3.out.setCell (p:=⟨gR,0,none⟩) HLE.out _).setCell (p:=⟨gR,1,none⟩) HLE.out _);have HW4:=hZz hW4;clear hW4;go_wp2_with (fail)
  rw [HW4.out];clear r0 r1;obtain ⟨r0,r1⟩:=blk2 HR4.out;refine bodyPost_ret (by simp [results,Tryz.results12,r0,r1,go_sem];try rfl) rfl ?_
  exact HP.out none 0 none 0 noCode er _ HER.out SlAt.nil (insV_nil _) HB4.out
 have HB3:=hZz (zaaZ hb3 HB2.out HB2.out.size);have HX3:=hZz (HX2.out.below hb3);have HR3:=hZz (HR2.out.below hb3);obtain ⟨sl,hsl⟩:∃ x,(studyF S.p).slots=x:=⟨_,rfl⟩
 obtain ⟨lo,hlo⟩:∃ x,(studyF S.p).locals=x:=⟨_,rfl⟩
 have HCX:Hid (WrCtx w3 S (some ⟨gl,0,none⟩) sl):=hZz (by rw [← hsl];exact RSlotsP.ctx h0 HS0.out HOK.out hb3 hl3)
 have HPR:Hid (∀ R,CodeR (codeP S.p sl lo) R→(R.2≠0→ProgR S.p noCode R.2)∧(R.2=0→ProgR S.p (codeP S.p sl lo) 0)):=hZz (fun R hR=>by
  rw [← hsl,← hlo] at hR ⊢;exact ⟨fun h=>.inr ⟨h0,R,hR,.inl ⟨h,rfl,rfl⟩⟩,fun h=>.inr ⟨h0,R,hR,.inr ⟨h,rfl,rfl⟩⟩⟩)
 have HLO:Hid (∀ wx (k:Nat),Below w3.heap.size w3 wx→k<S.p.funcs.length→Calls prog 32 #[S.val,.int .i64 k] wx fun e w'=>e=.returned (.tuple #[.int .i64 (lo.getD k 0),.int .i64 0])∧Below wx.heap.size wx w'):=hZz (fun wx k hb hk=>by
  rw [← hlo];exact rlocals_s S k wx (HCX.out.prog.below hb) HOK.out h0 hk)
 have HTR:Hid (∀ wx (k:Nat) (e0:Int),Below w3.heap.size w3 wx→k<S.p.funcs.length→0≤e0∧e0≤4000→Calls prog 31 #[S.val,.slice (some ⟨gl,0,none⟩) sl.length sl.length,.int .i64 k,.int .i64 e0] wx (TransB S sl k e0 wx)):=hZz (fun wx k e0 hb hk he=>translateB_s S _ _ sl k e0 wx (HCX.out.below hb) he hk);rw [hsl];clear h0 hsl hlo hb3 hl3 x2 HC;obtain ⟨gC,hgC⟩:∃ g,w3.heap.size=g:=⟨_,rfl⟩
 obtain ⟨W4,hW4⟩:∃ W,w3.alloc (.cells #[.slice none 0 0,.slice none 0 0] 31)=W:=⟨_,rfl⟩
 have HB34:Hid (Below w3.heap.size w3 W4):=hZz (by rw [← hW4];exact zacZ _ _);have HC4:Hid (Blk W4 gC 31 #[.slice none 0 0,.slice none 0 0]):=hZz (by rw [← hW4,← hgC];exact Blk.new _ _ _);have HLC:Hid (w3.heap.size≤gC):=hZz (by rw [← hgC];exact Nat.le_refl _);have HGC:=hZz hgC;have HW4:=hZz hW4;clear hgC hW4;obtain ⟨sn,hsn⟩:∃ n,sl.length=n:=⟨_,rfl⟩
 have HSN:=hZz hsn;unfold ProgS.val at HLO HTR;rw [hsn] at HTR ⊢;clear hsn;obtain ⟨nf,hnf⟩:∃ n,S.p.funcs.length=n:=⟨_,rfl⟩
 have HNF:=hZz hnf;have hNF:S.p.funcs.length≤16:=HCX.out.syn.funcs;obtain ⟨SB,hSB⟩:∃ x,S.B=x:=⟨_,rfl⟩
 have HSB:=hZz hSB;rw [hnf,hSB] at HX3 HLO HTR ⊢;rw [hnf] at hNF;clear hnf hSB;go_upto_region 5 with (fail)
 rw [HGC.out,HW4.out];clear HGC HW4;go_upto_region 6 with (fail)
 try go_wp2_with (fail)
 go_loopw [7,8,9,10,20,21,22,23,24,25,26,27,28,29,30,31,32,33,34,35,36,37,38,39,40,41,42,43,44,45,46,47,48,49,50,51,52,53,54,55,56,57,58,59,60,61,62,63,64,65,66,67,68,69,70,71,72,73] (fun kv _ _ _ _ _ _ _ _ _ _ _ _ _ _ _ _ _ _ _ _ _ _ _ _ _ _ _ _ _ _ _ _ _ _ _ _ _ _ _ _ _ _ _ _ _ _ _ _ _ _ _ _ _ _ _ _ _ wr=>∃ (k:Nat) (L:List (InsD × Value)) (fA iA:Option Addr) (fc ic:Nat),k≤nf∧kv=.int .i64 k∧Hid (L.map Prod.fst=allSeg S.p sl k)∧Hid (Below w3.heap.size w3 wr)∧Hid (Blk wr gC 31 #[.slice fA k fc,.slice iA L.length ic])∧Hid (wr.ownsRow w3.heap.size 50 5 (.slice fA k fc) k (((List.range k).map (fnAt S.p sl lo)).flatMap FnD.cells))∧Hid (wr.ownsRow w3.heap.size 53 4 (.slice iA L.length ic) L.length (L.flatMap insRow))∧Hid (∀ p∈L,KeysV w p.2 p.1.keys)) (fun kv _ _ _ _ _ _ _ _ _ _ _ _ _ _ _ _ _ _ _ _ _ _ _ _ _ _ _ _ _ _ _ _ _ _ _ _ _ _ _ _ _ _ _ _ _ _ _ _ _ _ _ _ _ _ _ _ _ _=>nf - (intOf kv).toNat)
 case atStart=>exact ⟨0,[],none,none,0,0,Nat.zero_le _,rfl,hZz rfl,HB34,HC4,hZz ⟨rfl,.inl ⟨rfl,rfl⟩⟩,hZz ⟨rfl,.inl ⟨rfl,rfl⟩⟩,hZz (fun p hp=>absurd hp (by simp))⟩
 case round =>
  obtain ⟨k,L,fA,iA,fc,ic,hk,rfl,HL,HB,HCC,HO,HI,HKE⟩:=hrel;have hk0:(0:Int)≤(k:Int):=by omega
  have hlen:L.length≤3632:=by
   have:=congrArg List.length HL.out
   rw [List.length_map] at this;rw [this];exact HCX.out.syn.all_le sl (by rw [HNF.out];exact hk)
  have HLL:Hid ((allSeg S.p sl k).length=L.length):=hZz (by rw [← HL.out,List.length_map]);have x4:=blk2 (HX3.out.below HB.out);by_cases hlt:k<nf
  ·have hlt':(k:Int)<(nf:Int):=by omega
   have hkl:k<S.p.funcs.length:=by rw [HNF.out];exact hlt
   obtain ⟨bF,offF,kA,kc,hA,hbF,c0,c1,c2,hkv⟩:=zakY HCX.out.prog.funcs hkl;clear hkv c2;have hA':SB=some ⟨bF,offF,none⟩:=HSB.out.symm.trans hA;subst hA';have hlf:=HLO.out;obtain ⟨pn,hpn⟩:∃ n,(S.p.funcs[k]).params.length=n:=⟨_,rfl⟩
   obtain ⟨nm,hnm⟩:∃ s,(S.p.funcs[k]).name=s:=⟨_,rfl⟩
   obtain ⟨lk,hlk⟩:∃ s,lo.getD k 0=s:=⟨_,rfl⟩
   obtain ⟨ln,hln⟩:∃ n,L.length=n:=⟨_,rfl⟩
   have HLN:=hZz hln;rw [hnm] at c0;rw [hpn] at c1
   have HFE:Hid (fnAt S.p sl lo k=⟨nm,(pn:Nat),lk,((ln:Nat):Int),((allSeg S.p sl (k+1)).length:Nat)⟩):=hZz (by
    unfold fnAt;rw [zaiZ hkl,hnm,hpn,hlk,HLL.out,hln])
   have HSF:Hid (∀ wx u,Below w3.heap.size w3 wx→Blk wx gC 31 #[u,.slice iA ln ic]→wx.cell? ⟨g,1,none⟩=some (.slice (some ⟨bF,offF,none⟩) nf S.fcap)∧wx.cell? ⟨bF,offF+k * 3,none⟩=some (.string nm)∧wx.cell? ⟨bF,offF+k * 3+1,none⟩=some (.slice kA pn kc)∧wx.cell? ⟨gC,1,none⟩=some (.slice iA ln ic)):=hZz (fun wx u hb hc=>⟨(blk2 (HX3.out.below hb)).2,(hb.cell hbF).trans c0,(hb.cell hbF).trans c1,(blk2 hc).2⟩);rw [hln] at HCC hlen HI;have hbk:=HCC.out;have c:=blk2 hbk;have hcl:(0:Int)≤(ln:Int)∧(ln:Int)≤4000:=by omega
   have HT:=hZz (HTR.out wr k (ln:Int) HB.out hlt hcl);clear hA c0 c1 hbF hpn hnm hln hlf hbk hkl
   go_upto_region 9 with (first
    | (go_at_call 31;(with_reducible refine HT.out.mono ?_);rintro r w5 ⟨L5,A5,c5,rfl,hl5,ho5,hk5,hb5⟩;have HL5:=hZz hl5;have HO5:=hZz ho5;have HK5:=hZz hk5;have HB45:=hZz hb5;clear hl5 ho5 hk5 hb5))
   have HB5:=hZz (zaaZ HB45.out HB.out HB.out.size);have HLC5:=hZz (HLO.out w5 k HB5.out hlt);rw [hlk] at HLC5;clear x4 c;have x5:=blk2 (HX3.out.below HB5.out)
   go_upto_region 10 with (first
    | (go_at_call 32;(with_reducible refine HLC5.out.mono ?_);rintro r w6 ⟨rfl,hb6⟩;have HB56:=hZz hb6;clear hb6))
   have HB6:=hZz (zaaZ HB56.out HB5.out HB5.out.size);have HC6:=hZz ((HCC.out.below HB45.out).below HB56.out);have HO6:=hZz (zagZ (zagZ HO.out HB45.out) HB56.out);have HI6:=hZz (zagZ (zagZ HI.out HB45.out) HB56.out);have HJ6:=hZz (zagZ HO5.out HB56.out);obtain ⟨fn,hfn⟩:∃ n,L5.length=n:=⟨_,rfl⟩
   have HFN:=hZz hfn
   have hfl:ln+fn≤3632:=by
    have h2:=HCX.out.syn.all_le sl (k:=k+1) (by rw [HNF.out];exact hlt);simp only [allSeg] at h2;rw [List.length_append,HLL.out,HLN.out,← HL5.out,List.length_map,hfn] at h2;exact h2
   have HAS:Hid (allSeg S.p sl (k+1)=(L ++ L5).map Prod.fst):=hZz (by
    rw [List.map_append,HL.out,HL5.out];simp only [allSeg];rw [HLL.out,HLN.out])
   have HRW:Hid (FnD.cells (fnAt S.p sl lo k)=[.string nm,.int .i64 (pn:Nat),.int .i64 lk,.int .i64 (ln:Nat),.int .i64 ((ln:Int)+(fn:Int))]):=hZz (by
    rw [HFE.out,HAS.out,List.length_map,List.length_append,HLN.out,hfn];rfl)
   have hwr:IntKind.i64.wrap ((ln:Int)+(fn:Int))=(ln:Int)+(fn:Int):=IntWalk.i64_in _ (by omega);rw [hfn] at HJ6 ⊢;clear hfn x5 hlk;have c6:=blk2 HC6.out;have fd:=HSF.out _ _ HB6.out.drew (HC6.out.below (zadZ w6));have f0:=HSF.out _ _ HB6.out HC6.out;have cd:=blk2 (HC6.out.below (zadZ w6));have hk16:k≤16:=by omega
   obtain ⟨i1,hj,hy0,hy1,hy2⟩:=info_parts Tryz.infoCF;have hbA:Below w6.heap.size w6 ((w6.alloc (.cells #[.string nm,.int .i64 (pn:Nat),.int .i64 lk,.int .i64 (ln:Nat),.int .i64 ((ln:Int)+(fn:Int))] 50)).drew):=(zacZ w6 (.cells #[.string nm,.int .i64 (pn:Nat),.int .i64 lk,.int .i64 (ln:Nat),.int .i64 ((ln:Int)+(fn:Int))] 50)).drew;have HBA:=hZz hbA;have HCA:=hZz (HC6.out.below hbA);have HOA:=hZz (zagZ HO6.out hbA);have HSZ:Hid (w3.heap.size≤((w6.alloc (.cells #[.string nm,.int .i64 (pn:Nat),.int .i64 lk,.int .i64 (ln:Nat),.int .i64 ((ln:Int)+(fn:Int))] 50)).drew).heap.size):=hZz (Nat.le_trans HB6.out.size hbA.size);have fa:=HSF.out _ _ (zaaZ hbA HB6.out HB6.out.size) HCA.out;have HNW:Hid (∀ j u,([.string nm,.int .i64 (pn:Nat),.int .i64 lk,.int .i64 (ln:Nat),.int .i64 ((ln:Int)+(fn:Int))]:List Value)[j]? = some u→((w6.alloc (.cells #[.string nm,.int .i64 (pn:Nat),.int .i64 lk,.int .i64 (ln:Nat),.int .i64 ((ln:Int)+(fn:Int))] 50)).drew).cell? ((⟨w6.heap.size,0,none⟩:Addr).add j)=some u):=hZz (fun j u h=>zapY w6 _ 50 j u h);clear hbA;go_upto_region 10 with (fail)
   refine wp_region_held_drew (S:=(fun w'=>w'.cell? ⟨g,1,none⟩=some (.slice (some ⟨bF,offF,none⟩) nf S.fcap)∧w'.cell? ⟨bF,offF+k * 3,none⟩=some (.string nm)∧w'.cell? ⟨bF,offF+k * 3+1,none⟩=some (.slice kA pn kc)∧w'.cell? ⟨gC,1,none⟩=some (.slice iA ln ic))) (by kernel_rfl) (by (first | with_reducible exact fd | with_reducible exact fa | with_reducible exact f9 | with_reducible exact f9s _ | with_reducible exact f0)) (fun hHeld=>?_)
   refine tkZ (i:=0) (v:=.pointer (some ⟨gC,0,none⟩)) rfl ?_
   simp only [nz,Act.put];refine tkZ (i:=2) (v:=.pointer (some ⟨g,1,none⟩)) rfl ?_
   simp only [nz,Act.put];refine tkZ (i:=3) (v:=.slice (some ⟨bF,offF,none⟩) nf S.fcap) rfl ?_
   simp only [nz,Act.put];refine tkZ (i:=4) (v:=.int .i64 k) rfl ?_
   simp only [nz,Act.put];refine tkZ (i:=5) (v:=.pointer (some ⟨bF,offF+k * 3,none⟩)) rfl ?_
   simp only [nz,Act.put];refine tkZ (i:=6) (v:=.pointer (some ⟨bF,offF+k * 3,none⟩)) rfl ?_
   simp only [nz,Act.put];refine tkZ (i:=7) (v:=.string nm) rfl ?_
   simp only [nz,Act.put];refine tkZ (i:=8) (v:=.pointer (some ⟨g,1,none⟩)) rfl ?_
   simp only [nz,Act.put];refine tkZ (i:=9) (v:=.slice (some ⟨bF,offF,none⟩) nf S.fcap) rfl ?_
   simp only [nz,Act.put];refine tkZ (i:=10) (v:=.int .i64 k) rfl ?_
   simp only [nz,Act.put];refine tkZ (i:=11) (v:=.pointer (some ⟨bF,offF+k * 3,none⟩)) rfl ?_
   simp only [nz,Act.put];refine tkZ (i:=12) (v:=.pointer (some ⟨bF,offF+k * 3+1,none⟩)) rfl ?_
   simp only [nz,Act.put];refine tkZ (i:=13) (v:=.slice kA pn kc) rfl ?_
   simp only [nz,Act.put];refine tkZ (i:=14) (v:=.int .i64 (pn:Nat)) rfl ?_
   simp only [nz,Act.put];refine tkZ (i:=15) (v:=.int .i64 lk) rfl ?_
   simp only [nz,Act.put];refine tkZ (i:=16) (v:=.pointer (some ⟨gC,1,none⟩)) rfl ?_
   simp only [nz,Act.put];refine tkZ (i:=17) (v:=.slice iA ln ic) rfl ?_
   simp only [nz,Act.put];refine tkZ (i:=18) (v:=.int .i64 (ln:Nat)) rfl ?_
   simp only [nz,Act.put];refine tkZ (i:=19) (v:=.pointer (some ⟨gC,1,none⟩)) rfl ?_
   simp only [nz,Act.put];refine tkZ (i:=20) (v:=.slice iA ln ic) rfl ?_
   simp only [nz,Act.put];refine tkZ (i:=21) (v:=.int .i64 (ln:Nat)) rfl ?_
   simp only [nz,Act.put];refine tkZ (i:=22) (v:=.slice A5 fn c5) rfl ?_
   simp only [nz,Act.put];refine tkZ (i:=23) (v:=.int .i64 (fn:Nat)) rfl ?_
   simp only [nz,Act.put];refine tkZ (i:=24) (v:=.int .i64 ((ln:Int)+(fn:Int))) rfl ?_
   simp only [nz,Act.put];refine tkZ (i:=25) (v:=.agg #[.string nm,.int .i64 (pn:Nat),.int .i64 lk,.int .i64 (ln:Nat),.int .i64 ((ln:Int)+(fn:Int))]) rfl ?_
   simp only [nz,Act.put];refine wpAnyH_ready (rs:=[1,26]) (by kernel_rfl) (by simp) ?_
   refine AllReadyH.cons (o:=_) rfl (fun K hK=>?_) ?_
   focus
    go_simp;refine hK.out _ _ (by (try dsimp only);(first | with_reducible exact fd | with_reducible exact fa | with_reducible exact f9 | with_reducible exact f9s _ | with_reducible exact f0)) (fun hHeld=>?_)
    clear hK K
    try simp only [nz,Act.put]
    refine wpAnyH_ready (rs:=[26]) (by kernel_rfl) (by simp) ?_
    refine AllReadyH.cons (o:=_) rfl (fun K hK=>?_) AllReadyH.nil
    go_simp;refine hK.out _ _ (by (try dsimp only);(first | with_reducible exact fd | with_reducible exact fa | with_reducible exact f9 | with_reducible exact f9s _ | with_reducible exact f0)) (fun hHeld=>?_)
    clear hK K
    try simp only [nz,Act.put]
    refine wpAnyH_ready (rs:=[27]) (by kernel_rfl) (by simp) ?_
    refine AllReadyH.cons (o:=_) rfl (fun K hK=>?_) AllReadyH.nil
    try simp only [List.getElem_toArray,List.getElem_cons_succ,List.getElem_cons_zero]
    (rw [if_pos (by rfl)];refine wp_append_lies _ (.tmp 41) (.tmp 66) 28 rfl w3.heap.size 50 i1 _ 5 48 underlying28 hj hy0 hy1 hy2 rfl ?k1 _ k _ rfl HOA.out ⟨w6.heap.size,0,none⟩ 1 1 [.string nm,.int .i64 (pn:Nat),.int .i64 lk,.int .i64 (ln:Nat),.int .i64 ((ln:Int)+(fn:Int))] rfl rfl HNW.out ?k2 ?k3 ?k4 ?k5 ?k6 _ rfl ?_;(case k1=>decide);(case k2=>simp [Value.oneCell']);(case k3=>decide);(case k4=>(unfold maxLen;omega));(case k5=>omega);(case k6=>exact HSZ.out);intro g9 cap9 w9 hown9 hgr9 hat9 hlt9;have HE9:=hZz (HCA.out.grown hgr9 (zafZ HOA.out HCA.out (by decide)));have c9:=blk2 HE9.out;have z9:=HE9.out.frozen 0;have HB9:Hid (Below w3.heap.size w3 w9):=hZz ((((KC.refl w3.heap.size gC _).grown HOA.out (Nat.le_refl _) HSZ.out hgr9)).bel (zaaZ HBA.out HB6.out HB6.out.size));have f9:=HSF.out _ _ HB9.out HE9.out;have f9s:=fun u=>HSF.out _ _ (HB9.out.setCell (p:=⟨gC,0,none⟩) HLC.out u) (HE9.out.set_ 0 u);have HO9:=hZz hown9;have HG9:=hZz hgr9;clear hown9 hgr9 hat9)
    refine hK.out _ _ (by (try dsimp only);(first | with_reducible exact fd | with_reducible exact fa | with_reducible exact f9 | with_reducible exact f9s _ | with_reducible exact f0)) (fun hHeld=>?_)
    clear hK K
    try simp only [nz,Act.put]
    refine tkZ (i:=28) (v:=.pointer (some ⟨gC,0,none⟩)) rfl ?_
    simp only [nz,Act.put];refine wpAnyH_ready (rs:=[29]) (by kernel_rfl) (by simp) ?_
    refine AllReadyH.cons (o:=_) rfl (fun K hK=>?_) AllReadyH.nil
    go_simp;refine hK.out _ _ (by (try dsimp only);(first | with_reducible exact fd | with_reducible exact fa | with_reducible exact f9 | with_reducible exact f9s _ | with_reducible exact f0)) (fun hHeld=>?_)
    clear hK K
    try simp only [nz,Act.put]
    refine wpAnyH_done (by kernel_rfl) ?_ _
    try dsimp only [List.getElem_toArray,List.getElem_cons_succ,List.getElem_cons_zero,Act.put]
   rotate_left 1;refine AllReadyH.cons (o:=_) rfl (fun K hK=>?_) AllReadyH.nil
   go_simp;refine hK.out _ _ (by (try dsimp only);(first | with_reducible exact fd | with_reducible exact fa | with_reducible exact f9 | with_reducible exact f9s _ | with_reducible exact f0)) (fun hHeld=>?_)
   clear hK K
   try simp only [nz,Act.put]
   refine wpAnyH_ready (rs:=[1]) (by kernel_rfl) (by simp) ?_
   refine AllReadyH.cons (o:=_) rfl (fun K hK=>?_) AllReadyH.nil
   go_simp;refine hK.out _ _ (by (try dsimp only);(first | with_reducible exact fd | with_reducible exact fa | with_reducible exact f9 | with_reducible exact f9s _ | with_reducible exact f0)) (fun hHeld=>?_)
   clear hK K
   try simp only [nz,Act.put]
   refine wpAnyH_ready (rs:=[27]) (by kernel_rfl) (by simp) ?_
   refine AllReadyH.cons (o:=_) rfl (fun K hK=>?_) AllReadyH.nil
   try simp only [List.getElem_toArray,List.getElem_cons_succ,List.getElem_cons_zero]
   (rw [if_pos (by rfl)];refine wp_append_lies _ (.tmp 41) (.tmp 66) 28 rfl w3.heap.size 50 i1 _ 5 48 underlying28 hj hy0 hy1 hy2 rfl ?k1 _ k _ rfl HOA.out ⟨w6.heap.size,0,none⟩ 1 1 [.string nm,.int .i64 (pn:Nat),.int .i64 lk,.int .i64 (ln:Nat),.int .i64 ((ln:Int)+(fn:Int))] rfl rfl HNW.out ?k2 ?k3 ?k4 ?k5 ?k6 _ rfl ?_;(case k1=>decide);(case k2=>simp [Value.oneCell']);(case k3=>decide);(case k4=>(unfold maxLen;omega));(case k5=>omega);(case k6=>exact HSZ.out);intro g9 cap9 w9 hown9 hgr9 hat9 hlt9;have HE9:=hZz (HCA.out.grown hgr9 (zafZ HOA.out HCA.out (by decide)));have c9:=blk2 HE9.out;have z9:=HE9.out.frozen 0;have HB9:Hid (Below w3.heap.size w3 w9):=hZz ((((KC.refl w3.heap.size gC _).grown HOA.out (Nat.le_refl _) HSZ.out hgr9)).bel (zaaZ HBA.out HB6.out HB6.out.size));have f9:=HSF.out _ _ HB9.out HE9.out;have f9s:=fun u=>HSF.out _ _ (HB9.out.setCell (p:=⟨gC,0,none⟩) HLC.out u) (HE9.out.set_ 0 u);have HO9:=hZz hown9;have HG9:=hZz hgr9;clear hown9 hgr9 hat9)
   refine hK.out _ _ (by (try dsimp only);(first | with_reducible exact fd | with_reducible exact fa | with_reducible exact f9 | with_reducible exact f9s _ | with_reducible exact f0)) (fun hHeld=>?_)
   clear hK K
   try simp only [nz,Act.put]
   refine tkZ (i:=28) (v:=.pointer (some ⟨gC,0,none⟩)) rfl ?_
   simp only [nz,Act.put];refine wpAnyH_ready (rs:=[29]) (by kernel_rfl) (by simp) ?_
   refine AllReadyH.cons (o:=_) rfl (fun K hK=>?_) AllReadyH.nil
   go_simp;refine hK.out _ _ (by (try dsimp only);(first | with_reducible exact fd | with_reducible exact fa | with_reducible exact f9 | with_reducible exact f9s _ | with_reducible exact f0)) (fun hHeld=>?_)
   clear hK K
   try simp only [nz,Act.put]
   refine wpAnyH_done (by kernel_rfl) ?_ _
   try dsimp only [List.getElem_toArray,List.getElem_cons_succ,List.getElem_cons_zero,Act.put]
   all_goals
    obtain ⟨W10,hW10⟩:∃ W,w9.setCell ⟨gC,0,none⟩ (.slice (some ⟨g9,0,none⟩) (k+1) cap9)=W:=⟨_,rfl⟩
    have hkc:KC w3.heap.size gC w6 W10:=by rw [← hW10];exact (((KC.of_below HBA.out HB6.out.size).trans ((KC.refl _ gC _).grown HOA.out (Nat.le_refl _) HSZ.out HG9.out))).setC HLC.out 0 _
    have HC10:Hid (Blk W10 gC 31 #[.slice (some ⟨g9,0,none⟩) (k+1) cap9,.slice iA ln ic]):=hZz (by rw [← hW10];exact HE9.out.set_ 0 _);have HB10:=hZz (hkc.bel HB6.out);have HI10:=hZz (hkc.own HC6.out (by decide) (by decide) HI6.out);have HJ10:=hZz (hkc.own HC6.out (by decide) (by decide) HJ6.out);have HO10:Hid (W10.ownsRow w3.heap.size 50 5 (.slice (some ⟨g9,0,none⟩) (k+1) cap9) (k+1) _):=hZz (by rw [← hW10];exact zaxY HO9.out HE9.out (by decide) 0 _)
    have hf0:0<fn:=by
     have h1:=congrArg List.length HL5.out;unfold funcSeg at h1;rw [List.length_map,HFN.out,List.length_append] at h1;simp only [List.length_cons,List.length_nil] at h1;omega
    obtain ⟨g5,c5',e5⟩:=own_ptr HJ10.out hf0;injection e5 with e5 _ e5'
    subst e5 e5';have HNW5:Hid (∀ j u,(L5.flatMap insRow)[j]? = some u→W10.cell? ((⟨g5,0,none⟩:Addr).add j)=some u):=hZz (fun j u hj=>by rw [za6Y,Nat.zero_add];exact RowE.of_own HJ10.out j u hj);have HLN5:Hid ((L5.flatMap insRow).length=fn * 4):=hZz (by rw [flat_len,HFN.out]);have HK5w:Hid (∀ p∈L5,KeysV w p.2 p.1.keys):=hZz (fun p hp=>HK5.out p hp w (zaaZ HB.out HB3.out HB3.out.size) HSW.out)
    have HON5:Hid (∀ u∈L5.flatMap insRow,u.oneCell'=true):=hZz (by
     intro u hu;obtain ⟨p,hp,hup⟩:=List.mem_flatMap.1 hu;simp only [insRow,List.mem_cons,List.not_mem_nil,or_false] at hup;rcases hup with rfl | rfl | rfl | rfl
     ·rfl
     ·rfl
     ·rfl
     ·obtain ⟨A,cap,e,_⟩:=HK5w.out p hp
      rw [e];rfl)
    obtain ⟨i0,hi,hz0,hz1,hz2⟩:=info_parts Tryz.infoIns;have HW10:=hZz hW10;clear hW10 hkc c9 z9 f9 f9s fd fa f0 cd c6 HE9 HO9 HG9 HB9 HOA HCA HSZ HNW HBA
    try rw [HW10.out]
    clear HW10;have c10:=blk2 HC10.out;have z10:=HC10.out.frozen 1;have hsz:=HB10.out.size
    go_wp2_with (first
     | (at_builtin;refine wpList_append_own _ rfl (.tmp 70) (.tmp 71) 29 rfl w3.heap.size 53 i0 _ 4 56 underlying29 hi hz0 hz1 hz2 rfl (by omega) _ ln _ rfl HI10.out ⟨g5,0,none⟩ fn c5 (L5.flatMap insRow) rfl HLN5.out HNW5.out HON5.out (by unfold maxLen;omega) (by omega) hsz ?_;intro v' w11 hown hg11 _;obtain ⟨oA,oc,hoe⟩:=zajZ hown;subst hoe;have HO11:=hZz hown;have HG11:=hZz hg11;have HC11:=hZz (HC10.out.grown hg11 (zafZ HI10.out HC10.out (by decide)));have d11:=blk2 HC11.out;have y11:=HC11.out.frozen 1;clear hown hg11))
    have HKX:Hid (KW w3.heap.size gC W10 (w11.setCell ⟨gC,1,none⟩ (.slice oA (ln+fn) oc))):=hZz (((KW.refl _ _ W10).grown HI10.out (Nat.le_refl _) hsz HG11.out).setW HLC.out 1 _);have hll:(L ++ L5).length=ln+fn:=by rw [List.length_append,HLN.out,HFN.out]
    refine ⟨⟨k+1,L ++ L5,some ⟨g9,0,none⟩,oA,cap9,oc,by omega,by simp,hZz HAS.out.symm,hZz (HKX.out.bel HB10.out),hZz (by rw [hll];exact HC11.out.set_ 1 _),hZz ?_,hZz ?_,hZz ?_⟩,by simp [intOf];omega⟩
    ·rw [List.range_succ,List.map_append,List.flatMap_append,List.map_cons,List.map_nil,List.flatMap_cons,List.flatMap_nil,List.append_nil,HRW.out]
     exact HKX.out.ownR HC10.out (by decide) (by decide) HO10.out
    ·rw [hll,List.flatMap_append]
     exact zaxY HO11.out HC11.out (by decide) 1 _
    ·intro p hp
     rcases List.mem_append.1 hp with hp | hp
     ·exact HKE.out p hp
     ·exact HK5w.out p hp
  ·have e9:nf=k:=by omega
   subst e9;obtain ⟨ln,hln⟩:∃ n,L.length=n:=⟨_,rfl⟩
   have HLN:=hZz hln;have hiv:=insV_rows HI.out HKE.out (zaaZ HB.out HB3.out HB3.out.size);rw [HL.out] at hiv;have hfs:SlAt wr fA 5 FnD.cells ((List.range nf).map (fnAt S.p sl lo)):=SlAt.of_own HO.out rfl (fun _=>rfl) (by decide);rw [hln] at HCC hlen;have hcp:codeP S.p sl lo=⟨(List.range nf).map (fnAt S.p sl lo),allSeg S.p sl nf⟩:=by unfold codeP;rw [HNF.out]
   have hfl:((List.range nf).map (fnAt S.p sl lo)).length=nf:=by simp
   have hil:(allSeg S.p sl nf).length=ln:=by rw [HLL.out,hln]
   have hck:=rcheck11_any (codeP S.p sl lo) fA iA fc ic wr (by rw [hcp];show ((List.range nf).map (fnAt S.p sl lo)).length≤40;rw [hfl];omega) (by rw [hcp];show (allSeg S.p sl nf).length≤4100;rw [hil];omega)
    (fun f hf=>by
     rw [hcp] at hf;obtain ⟨j,hj,rfl⟩:=List.mem_map.1 hf;have hj':j<S.p.funcs.length:=by rw [HNF.out];exact List.mem_range.1 hj
     obtain ⟨b,hfo,_,_⟩:=HCX.out.syn.func hj'
     have:=zceY hfo.name
     show (S.p.funcs.getD j noFunc).name.size≤1000;rw [zaiZ hj'];omega)
    (fun i hi=>by
     rw [hcp] at hi;exact HCX.out.syn.small sl HKY.out nf (by rw [HNF.out];exact Nat.le_refl _) i hi)
    (by rw [hcp];exact hfs) (by rw [hcp];exact hiv)
   rw [hcp] at hck HPR;simp only [] at hck;rw [hfl,hil] at hck;have HFL:=hZz hfl;have HIL:=hZz hil;have HCX9:=hZz hck;have HFS:=hZz hfs;have HIV:=hZz hiv;have c9:=blk2 HCC.out;have hle':¬ (4000:Int)<(ln:Int):=by omega
   clear hcp hfl hil hck hln hfs hiv
   go_upto_region 15 with (first
    | (go_at_call 33;(refine HCX9.out.mono ?_);rintro r w10 ⟨R,rfl,hR,hb10⟩;have HR10:=hZz hR;have HB910:=hZz hb10;clear hR hb10))
   have HB310:=hZz (zaaZ HB910.out HB.out HB.out.size);have HB10:=hZz (zaaZ HB310.out HB3.out HB3.out.size);have HRR:=hZz (HR3.out.below HB310.out);obtain ⟨R1,R2⟩:=R;have HPQ:=hZz (HPR.out _ HR10.out);obtain ⟨r0,r1⟩:=blk2 HRR.out;have z10:=(fun i=>HRR.out.frozen i:∀ i,w10.frozen? ⟨gR,i,none⟩=false)
   clear c9 x4;by_cases h2:R2=0
   ·subst h2
    obtain ⟨c0,c1⟩:=blk2 (HCC.out.below HB910.out);obtain ⟨W11,hW11⟩:∃ W,(w10.setCell ⟨gR,0,none⟩ (.slice fA nf fc)).setCell ⟨gR,1,none⟩ (.slice iA ln ic)=W:=⟨_,rfl⟩
    have HR11:Hid (Blk W11 gR 31 #[.slice fA nf fc,.slice iA ln ic]):=hZz (by rw [← hW11];exact (HRR.out.set_ 0 _).set_ 1 _);have HB11:Hid (Below w.heap.size w W11):=hZz (by rw [← hW11];exact (HB10.out.setCell (p:=⟨gR,0,none⟩) HLE.out _).setCell (p:=⟨gR,1,none⟩) HLE.out _)
    have HF11:Hid (SlAt W11 fA 5 FnD.cells ((List.range nf).map (fnAt S.p sl lo))):=hZz (by
     rw [← hW11];exact SlAt.of_own (zaxY (zaxY (zagZ HO.out HB910.out) HRR.out (by decide) 0 _) (HRR.out.set_ 0 _) (by decide) 1 _) rfl (fun _=>rfl) (by decide))
    have HI11:Hid (InsV W11 iA (allSeg S.p sl nf)):=hZz (by
     have ho:=zaxY (zaxY (zagZ HI.out HB910.out) HRR.out (by decide) 0 (.slice fA nf fc)) (HRR.out.set_ 0 _) (by decide) 1 (.slice iA ln ic);rw [hW11] at ho
     have:=insV_rows ho HKE.out HB11.out
     rw [HL.out] at this;exact this)
    have HW11:=hZz hW11;clear hW11;go_wp2_with (fail)
    rw [HW11.out];clear r0 r1 c0 c1;obtain ⟨r0,r1⟩:=blk2 HR11.out;refine bodyPost_ret (by simp [results,Tryz.results12,r0,r1,go_sem];try rfl) rfl ?_
    have hfin:=HP.out fA fc iA ic ⟨(List.range nf).map (fnAt S.p sl lo),allSeg S.p sl nf⟩ 0 W11 (HPQ.out.2 (by simp)) HF11.out;simp only [] at hfin;rw [HFL.out,HIL.out] at hfin;exact hfin HI11.out HB11.out
   ·have e2:(R2 != 0)=true:=by simp [h2]
    have H2:=hZz h2;clear h2;obtain ⟨W11,hW11⟩:∃ W,(w10.setCell ⟨gR,0,none⟩ (.slice none 0 0)).setCell ⟨gR,1,none⟩ (.slice none 0 0)=W:=⟨_,rfl⟩
    have HR11:Hid (Blk W11 gR 31 #[.slice none 0 0,.slice none 0 0]):=hZz (by rw [← hW11];exact (HRR.out.set_ 0 _).set_ 1 _);have HB11:Hid (Below w.heap.size w W11):=hZz (by rw [← hW11];exact (HB10.out.setCell (p:=⟨gR,0,none⟩) HLE.out _).setCell (p:=⟨gR,1,none⟩) HLE.out _);have HW11:=hZz hW11;clear hW11;go_wp2_with (fail)
    rw [HW11.out];clear r0 r1;obtain ⟨r0,r1⟩:=blk2 HR11.out;refine bodyPost_ret (by simp [results,Tryz.results12,r0,r1,go_sem];try rfl) rfl ?_
    exact HP.out none 0 none 0 noCode R2 _ (HPQ.out.1 H2.out) SlAt.nil (insV_nil _) HB11.out
end
section
theorem progR_bd {p:ProgD} {c:CodeD} {e:Int} (h:ProgR p c e) (hk:∀ i,(p.at_ i).keys.length≤1000):c.ins.length≤4000∧c.fns.length≤100∧∀ i∈c.ins,InsOk i:=by
 have hn:noCode.ins.length≤4000∧noCode.fns.length≤100∧∀ i∈noCode.ins,InsOk i:=⟨by decide,by decide,fun i hi=>by cases hi⟩
 rcases h with ⟨_,rfl,_⟩ | ⟨h0,R,hR,⟨_,rfl,_⟩ | ⟨_,rfl,_⟩⟩
 ·exact hn
 ·exact hn
 ·have hs:=(za2Y h0).1
  refine ⟨?_,?_,hs.small _ hk _ (Nat.le_refl _)⟩
  ·have:=hs.all_le (studyF p).slots (k:=p.funcs.length) (Nat.le_refl _)
   show (allSeg p _ p.funcs.length).length≤4000;omega
  ·have:=hs.funcs
   show ((List.range p.funcs.length).map _).length≤100;rw [List.length_map,List.length_range];omega
attribute [local go_sem] zabZ
theorem fns12_s (l:List FnD) (A B:Option Addr) (c d:Nat) (w:World) (hA:SlAt w A 5 FnD.cells l) (hB:SlAt w B 5 FnD.cells l) (hl:l.length≤1000):Calls prog 14 #[.slice A l.length c,.slice B l.length d] w fun e w'=>e=.returned (.bool true)∧Below w.heap.size w w':=by
 obtain ⟨P,hP⟩:∃ P:Ending→World→Prop,(fun e w'=>e=.returned (.bool true)∧Below w.heap.size w w')=P:=⟨_,rfl⟩
 rw [hP];have HP:Hid (∀ w',Below w.heap.size w w'→P (.returned (.bool true)) w'):=hZz (fun w' h2=>by rw [← hP];exact ⟨rfl,h2⟩);have HA:=hZz hA;have HB:=hZz hB;obtain ⟨n,hn⟩:∃ n,l.length=n:=⟨_,rfl⟩
 have HN:=hZz hn;rw [hn] at hl ⊢;have hnn:((n:Int) != (n:Int))=false:=by simp
 clear hP hA hB hn;go_enter func14,ntmps14
 go_upto_region 4 with (fail)
 try go_wp2_with (fail)
 clear hnn;go_loopw [5,13,14,15,16,17,18,19,20,21,22,23,24,25] (fun _ kv _ _ _ _ _ _ _ _ _ _ _ _ wr=>∃ k:Nat,k≤n∧kv=.int .i64 k∧Hid (Below w.heap.size w wr)) (fun _ kv _ _ _ _ _ _ _ _ _ _ _ _ _=>n - (intOf kv).toNat)
 case atStart=>exact ⟨0,Nat.zero_le _,rfl,hZz (Below.refl _ _)⟩
 case round =>
  obtain ⟨k,hk,rfl,HBw⟩:=hrel;have hk0:(0:Int)≤(k:Int):=by omega
  by_cases hlt:k<n
  ·have hlt':(k:Int)<(n:Int):=by omega
   have hkl:k<l.length:=by rw [HN.out];exact hlt
   have ha:=HA.out.below HBw.out;have hb:=HB.out.below HBw.out;obtain ⟨b1,o1,rfl,_⟩:=ha.ptr hkl;obtain ⟨b2,o2,rfl,_⟩:=hb.ptr hkl;obtain ⟨F,hF⟩:∃ F,l[k]=F:=⟨_,rfl⟩
   have c0:=ha.cell hkl (j:=0) (v:=.string F.name) (by rw [hF];rfl);have c1:=ha.cell hkl (j:=1) (v:=.int .i64 F.params) (by rw [hF];rfl);have c2:=ha.cell hkl (j:=2) (v:=.int .i64 F.locals) (by rw [hF];rfl);have c3:=ha.cell hkl (j:=3) (v:=.int .i64 F.entry) (by rw [hF];rfl);have c4:=ha.cell hkl (j:=4) (v:=.int .i64 F.fin) (by rw [hF];rfl);have d0:=hb.cell hkl (j:=0) (v:=.string F.name) (by rw [hF];rfl);have d1:=hb.cell hkl (j:=1) (v:=.int .i64 F.params) (by rw [hF];rfl);have d2:=hb.cell hkl (j:=2) (v:=.int .i64 F.locals) (by rw [hF];rfl);have d3:=hb.cell hkl (j:=3) (v:=.int .i64 F.entry) (by rw [hF];rfl);have d4:=hb.cell hkl (j:=4) (v:=.int .i64 F.fin) (by rw [hF];rfl);simp only [Nat.add_zero] at c0 d0;obtain ⟨f0,f1,f2,f3,f4⟩:=F;clear ha hb hF hkl;go_upto_region 6 with (fail)
   go_quiet (fail);go_wp2_with (fail)
   exact ⟨⟨k+1,by omega,by simp,hZz (zaeZ HBw.out _)⟩,by simp [intOf];omega⟩
  ·have e9:n=k:=by omega
   subst e9;go_wp2_with (fail)
   exact HP.out _ HBw.out
set_option maxHeartbeats 16000000 in
theorem lprograms_s (S:ProgS) (w:World) (hS:ProgV w S) (hp:Pow w) (hv:Sent w) (hsh:Shaped w) (ht:TextsOk S.p) (hA:∀ wx,Below w.heap.size w wx→Calls prog 10 #[] wx fun r w'=>r=.returned (.bool true)∧Below wx.heap.size wx w') :
  Calls prog 3 #[S.val] w fun r w'=>r=.returned (.bool true)∧Below w.heap.size w w':=by
 obtain ⟨P,hP⟩:∃ P:Ending→World→Prop,(fun r w'=>r=.returned (.bool true)∧Below w.heap.size w w')=P:=⟨_,rfl⟩
 rw [hP];have HP:Hid (∀ w',Below w.heap.size w w'→P (.returned (.bool true)) w'):=hZz (fun w' h2=>by rw [← hP];exact ⟨rfl,h2⟩);obtain ⟨W1,hW1⟩:∃ W,w.alloc (.cells #[.slice S.A S.p.nodes.length S.ncap,.slice S.B S.p.funcs.length S.fcap] 25)=W:=⟨_,rfl⟩
 obtain ⟨g,hg⟩:∃ g,w.heap.size=g:=⟨_,rfl⟩
 have hb1:Below w.heap.size w W1:=by rw [← hW1];exact zacZ _ _
 have HB1:=hZz hb1;have HX1:Hid (Blk W1 g 25 #[.slice S.A S.p.nodes.length S.ncap,.slice S.B S.p.funcs.length S.fcap]):=hZz (by rw [← hW1,← hg];exact Blk.new _ _ _);have HCS:Hid (Calls prog 9 #[S.val] W1 fun e w'=>(∃ b,e=.returned (.bool b)∧(b=true→SmallPr S.p))∧Below W1.heap.size W1 w'):=hZz (small_s S W1 (hS.below hb1));have HCF:Hid (SmallPr S.p→∀ wx,Below w.heap.size w wx→Calls prog 11 #[S.val] wx (ProgramP S wx)):=hZz (fun hs wx hb=>cprogram_s S wx (hS.below hb) (hp.below hb) (hs.ok ht) (hv.below hb) (hsh.below hb) hs.keys);have HRF:Hid (SmallPr S.p→∀ wx,Below w.heap.size w wx→Calls prog 12 #[S.val] wx (RProgramP S wx)):=hZz (fun hs wx hb=>rprogram_s S wx (hS.below hb) (hs.ok ht) hs.keys);have HA:=hZz hA;unfold ProgS.val at HCS HCF HRF ⊢;have HG:=hZz hg;have HW1:=hZz hW1;clear hP hS hp hv hsh ht hA hg hW1 hb1;go_enter func3,ntmps3
 go_upto_region 1 with fail
 rw [HG.out,HW1.out];clear HG HW1;have x1:=blk2 HX1.out
 go_upto_region 3 with (first
  | (go_at_call 9;(with_reducible refine HCS.out.mono ?_);rintro r w2 ⟨⟨b,rfl,hb⟩,hb2⟩;have HB12:=hZz hb2;have HB2:=hZz (zaaZ hb2 HB1.out HB1.out.size);have HSM:=hZz hb;clear hb2 hb;cases b)
  | (go_at_call 10;(with_reducible refine (HA.out _ HB2.out).mono ?_);rintro r w3 ⟨rfl,hb3⟩;have HB3:=hZz (zaaZ hb3 HB2.out HB2.out.size);clear hb3))
 ·try go_wp2_with (fail)
  exact HP.out _ HB3.out
 have HSP:=hZz (HSM.out (by simp));have HX2:=hZz (HX1.out.below HB12.out);clear x1;have x2:=blk2 HX2.out;have HC3:=hZz (HCF.out HSP.out w2 HB2.out)
 go_upto_region 4 with (first
  | (go_at_call 11;(with_reducible refine HC3.out.mono ?_);rintro r w3 ⟨QA,qc,QB,qi,c,er,rfl,hr,hf,hi,hb3⟩;have HRA:=hZz hr;have HF3:=hZz hf;have HI3:=hZz hi.insV.2;have HB3:=hZz (zaaZ hb3 HB2.out HB2.out.size);have HX3:=hZz (HX2.out.below hb3);clear hr hf hi hb3))
 obtain ⟨cf,hcf⟩:∃ n,c.fns.length=n:=⟨_,rfl⟩
 obtain ⟨ci,hci⟩:∃ n,c.ins.length=n:=⟨_,rfl⟩
 have HCFN:=hZz hcf;have HCI:=hZz hci;rw [hcf,hci];clear x2 hcf hci;obtain ⟨gQ,hgQ⟩:∃ g,w3.heap.size=g:=⟨_,rfl⟩
 obtain ⟨W4,hW4⟩:∃ W,w3.alloc (.cells #[.slice QA cf qc,.slice QB ci qi] 31)=W:=⟨_,rfl⟩
 have hb4:Below w3.heap.size w3 W4:=by rw [← hW4];exact zacZ _ _
 have HQ4:Hid (Blk W4 gQ 31 #[.slice QA cf qc,.slice QB ci qi]):=hZz (by rw [← hW4,← hgQ];exact Blk.new _ _ _);have HB4:=hZz (zaaZ hb4 HB3.out HB3.out.size);have HX4:=hZz (HX3.out.below hb4);have HF4:=hZz (HF3.out.below hb4);have HI4:=hZz (HI3.out.below hb4);rw [hgQ,hW4];clear hgQ hW4 hb4;have x4:=blk2 HX4.out;have HC5:=hZz (HRF.out HSP.out W4 HB4.out)
 go_upto_region 5 with (first
  | (go_at_call 12;(with_reducible refine HC5.out.mono ?_);rintro r w5 ⟨RA,rc,RB,ri,c',er',rfl,hr,hf,hi,hb5⟩;obtain ⟨rfl,rfl⟩:=HRA.out.det hr;have HF5:=hZz hf;have HI5:=hZz hi;have HB5:=hZz (zaaZ hb5 HB4.out HB4.out.size);have HQ5:=hZz (HQ4.out.below hb5);have HG5:=hZz (HF4.out.below hb5);have HJ5:=hZz (HI4.out.below hb5);clear hr hf hi hb5))
 rw [HCFN.out,HCI.out];clear x4;obtain ⟨gR,hgR⟩:∃ g,w5.heap.size=g:=⟨_,rfl⟩
 obtain ⟨W6,hW6⟩:∃ W,w5.alloc (.cells #[.slice RA cf rc,.slice RB ci ri] 31)=W:=⟨_,rfl⟩
 have hb6:Below w5.heap.size w5 W6:=by rw [← hW6];exact zacZ _ _
 have HR6:Hid (Blk W6 gR 31 #[.slice RA cf rc,.slice RB ci ri]):=hZz (by rw [← hW6,← hgR];exact Blk.new _ _ _);have HB6:=hZz (zaaZ hb6 HB5.out HB5.out.size);have HQ6:=hZz (HQ5.out.below hb6);have HBD:=hZz (progR_bd HRA.out HSP.out.keys)
 have HLS:Hid (∀ wx,Below W6.heap.size W6 wx→Calls prog 13 #[.slice QB ci qi,.slice RB ci ri] wx fun e w'=>e=.returned (.bool true)∧Below wx.heap.size wx w'):=hZz (fun wx hb=>by
  have:=list_s c.ins QB RB qi ri wx ((HJ5.out.below hb6).below hb) ((HI5.out.below hb6).below hb) (by have:=HBD.out.1;omega) (fun i hi=>by have:=(HBD.out.2.2 i hi).2.1;omega)
  rw [HCI.out] at this;exact this)
 have HFS:Hid (∀ wx,Below W6.heap.size W6 wx→Calls prog 14 #[.slice QA cf qc,.slice RA cf rc] wx fun e w'=>e=.returned (.bool true)∧Below wx.heap.size wx w'):=hZz (fun wx hb=>by
  have:=fns12_s c.fns QA RA qc rc wx ((HG5.out.below hb6).below hb) ((HF5.out.below hb6).below hb) (by have:=HBD.out.2.1;omega)
  rw [HCFN.out] at this;exact this)
 rw [hgR,hW6];clear hgR hW6 hb6;have y:=blk2 HQ6.out;have z:=blk2 HR6.out;have hee:(er == er)=true:=by simp
 go_wp2_with (first
  | (go_at_call 13;(with_reducible refine (HLS.out _ (Below.refl _ _)).mono ?_);rintro r w7 ⟨rfl,hb7⟩;have HB67:=hZz hb7;have HB7:=hZz (zaaZ hb7 HB6.out HB6.out.size);have y7:=blk2 (HQ6.out.below hb7);have z7:=blk2 (HR6.out.below hb7);clear hb7)
  | (go_at_call 14;(with_reducible refine (HFS.out _ HB67.out).mono ?_);rintro r w8 ⟨rfl,hb8⟩;have HB8:=hZz (zaaZ hb8 HB7.out HB7.out.size);clear hb8)
  | (go_at_call 10;(with_reducible refine (HA.out _ HB8.out).mono ?_);rintro r w9 ⟨rfl,hb9⟩;have HB9:=hZz (zaaZ hb9 HB8.out HB8.out.size);clear hb9))
 exact HP.out _ HB9.out
end
end Go.Proofs.YthiimbhjpdphpaaGreatDoor
