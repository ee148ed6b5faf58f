/- W18 -/
import Derived.Test.YthiimbhjpdphpaaGreatDoorPVA
import Derived.Test.YthiimbhjpdphpaaGreatDoorPGK11
set_option linter.unusedVariables false
set_option linter.unusedSimpArgs false
namespace Go.Proofs.YthiimbhjpdphpaaGreatDoor
open Go.RowKit
set_option maxRecDepth 100000
open Go.Proofs.Tryz
theorem Tryz.infoCF:(prog.info? 50).map (fun i=>(i.zero,i.size,i.bytes))=some (some (.agg #[.string ByteArray.empty,.int .i64 0,.int .i64 0,.int .i64 0,.int .i64 0]),5,48):=by kernel_rfl
theorem blk3 {w:World} {g:Nat} {t:TypeId} {v0 v1 v2:Value} (h:Blk w g t #[v0,v1,v2]):w.cell? ⟨g,0,none⟩=some v0∧w.cell? ⟨g,1,none⟩=some v1∧w.cell? ⟨g,2,none⟩=some v2:=⟨h.cell 0 _ rfl,h.cell 1 _ rfl,h.cell 2 _ rfl⟩
theorem two_f {w:World} {g:Nat} {t:TypeId} {a b c:Value} (h:Blk w g t #[a,b,c]):w.cell? ⟨g,0,none⟩=some a∧w.cell? ⟨g,1,none⟩=some b:=⟨h.cell 0 _ rfl,h.cell 1 _ rfl⟩
theorem InsO.far {n0 g:Nat} {w:World} {v:Value} {is:List InsD} {t:TypeId} {cs:Array Value} (h:InsO n0 w v is) (hb:Blk w g t cs) (h1:53≠t) (h2:9≠t) (j:Nat) (u:Value):InsO n0 (w.setCell ⟨g,j,none⟩ u) v is:=by
 obtain ⟨N,e1,e2,e3⟩:=h;exact ⟨N,e1,zaxY e2 hb h1 j u,fun p hp=>zaxY (e3 p hp) hb h2 j u⟩
def ProgramP (S:ProgS) (w:World) (r:Ending) (w':World):Prop:=∃ A nc B ic c e,r=.returned (.tuple #[.agg #[.slice A c.fns.length nc,.slice B c.ins.length ic],.int .i64 e])∧ProgR S.p c e∧SlAt w' A 5 FnD.cells c.fns∧InsO w.heap.size w' (.slice B c.ins.length ic) c.ins∧Below w.heap.size w w'
attribute [local go_sem] zabZ
set_option maxHeartbeats 16000000 in
theorem cprogram_s (S:ProgS) (w:World) (hS:ProgV w S) (hp:Pow w) (hok:ProgOk S.p) (hv:Sent w) (hsh:Shaped w) (hky:∀ i,(S.p.at_ i).keys.length≤1000):Calls prog 11 #[S.val] w (ProgramP S w):=by
 obtain ⟨P,hP⟩:∃ P:Ending→World→Prop,ProgramP S w=P:=⟨_,rfl⟩
 rw [hP];have HP:Hid (∀ A nc B ic c e w',ProgR S.p c e→SlAt w' A 5 FnD.cells c.fns→InsO w.heap.size w' (.slice B c.ins.length ic) c.ins→Below w.heap.size w w'→P (.returned (.tuple #[.agg #[.slice A c.fns.length nc,.slice B c.ins.length ic],.int .i64 e])) w'):=hZz (fun A nc B ic c e w' h1 h2 h3 h4=>by rw [← hP];exact ⟨A,nc,B,ic,c,e,rfl,h1,h2,h3,h4⟩);obtain ⟨W1,hW1⟩:∃ W,w.alloc (.cells #[.slice S.A S.p.nodes.length S.ncap,.slice S.B S.p.funcs.length S.fcap] 25)=W:=⟨_,rfl⟩
 obtain ⟨g,hg⟩:∃ g,w.heap.size=g:=⟨_,rfl⟩
 obtain ⟨gR,hgR⟩:∃ g,W1.heap.size=g:=⟨_,rfl⟩
 obtain ⟨W2,hW2⟩:∃ W,W1.alloc (.cells #[.slice none 0 0,.slice none 0 0] 31)=W:=⟨_,rfl⟩
 have hb2:Below w.heap.size w W2:=by rw [← hW2,← hW1];exact zauY _ _ _
 have HB2:=hZz hb2;have hx1:Blk W1 g 25 #[.slice S.A S.p.nodes.length S.ncap,.slice S.B S.p.funcs.length S.fcap]:=by rw [← hW1,← hg];exact Blk.new _ _ _
 have HX2:Hid (Blk W2 g 25 #[.slice S.A S.p.nodes.length S.ncap,.slice S.B S.p.funcs.length S.fcap]):=hZz (by rw [← hW2];exact hx1.alloc _);have HR2:Hid (Blk W2 gR 31 #[.slice none 0 0,.slice none 0 0]):=hZz (by rw [← hW2,← hgR];exact Blk.new _ _ _);have HC:Hid (Calls prog 26 #[S.val,.int .i64 0] W2 (StartP S W2 0)):=hZz (start_s S 0 W2 (hS.below hb2) (hp.below hb2) hok);have HKY:=hZz hky;have HSE:=hZz hv;have HSH:=hZz hsh;clear hky;have HLE:Hid (w.heap.size≤gR):=hZz (by rw [← hgR,← hW1];simp);have HGR:Hid (g+1=gR):=hZz (by rw [← hgR,← hW1,← hg];simp);unfold ProgS.val at HC ⊢;have HG:=hZz hg;have HW1:=hZz hW1;have HW2:=hZz hW2;clear hP hg hW1 hW2 hb2 hgR hx1;go_enter func11,ntmps11
 go_upto_region 1 with fail
 rw [HG.out,HW1.out]
 try rw [HGR.out]
 rw [HW2.out];clear HG HW1 HW2 HGR;have x2:=blk2 HX2.out
 go_upto_region 2 with (first
  | (go_at_call 26;(with_reducible refine HC.out.mono ?_);rintro r w3 hq;rcases hq with ⟨h0,rfl,hb3⟩ | ⟨h0,w0,sA,sc,gW,hb0,hcx,hst,rfl⟩))
 ·have HB3:=hZz (zaaZ hb3 HB2.out HB2.out.size)
  have HR3:=hZz (HR2.out.below hb3);obtain ⟨er,her⟩:∃ x,(studyF S.p).err=x:=⟨_,rfl⟩
  have HER:Hid (ProgR S.p noCode er):=hZz (.inl ⟨h0,rfl,her.symm⟩);rw [her] at h0 ⊢;have e0:(er != 0)=true:=by simp [h0]
  clear h0 her hb3 x2;obtain ⟨r0,r1⟩:=blk2 HR3.out;have z3:=(fun i=>HR3.out.frozen i:∀ i,w3.frozen? ⟨gR,i,none⟩=false)
  obtain ⟨W4,hW4⟩:∃ W,(w3.setCell ⟨gR,0,none⟩ (.slice none 0 0)).setCell ⟨gR,1,none⟩ (.slice none 0 0)=W:=⟨_,rfl⟩
  have HR4:Hid (Blk W4 gR 31 #[.slice none 0 0,.slice none 0 0]):=hZz (by rw [← hW4];exact (HR3.out.set_ 0 _).set_ 1 _);have HB4:Hid (Below w.heap.size w W4):=hZz (by rw [← hW4];exact (HB3.out.setCell (p:=⟨gR,0,none⟩) HLE.out _).setCell (p:=⟨gR,1,none⟩) HLE.out _);have HW4:=hZz hW4;clear hW4;go_wp2_with (fail)
  rw [HW4.out];clear r0 r1;obtain ⟨r0,r1⟩:=blk2 HR4.out;refine bodyPost_ret (by simp [results,Tryz.results11,r0,r1,go_sem];try rfl) rfl ?_
  exact HP.out none 0 none 0 noCode er _ HER.out SlAt.nil (InsO.nil _ _) HB4.out
 ·have HB0:=hZz (zaaZ hb0 HB2.out HB2.out.size)
  have HX0:=hZz (HX2.out.below hb0);have HR0:=hZz (HR2.out.below hb0);have hb3:Below W2.heap.size W2 w3:=zaaZ hst.bl hb0 hb0.size;have HBW:=hZz (zaaZ hb3 HB2.out HB2.out.size);obtain ⟨sl,hsl⟩:∃ x,(studyF S.p).slots=x:=⟨_,rfl⟩
  obtain ⟨lo,hlo⟩:∃ x,(studyF S.p).locals=x:=⟨_,rfl⟩
  have hll:lo.length=S.p.funcs.length:=by
   rw [← hlo];obtain ⟨h1,_,h3,_⟩:=za2Y h0;rw [h3];exact (h1.step _ (Nat.le_refl _)).2.2.1
  have HPR:Hid (∀ R,CodeR (codeP S.p sl lo) R→(R.2≠0→ProgR S.p noCode R.2)∧(R.2=0→ProgR S.p (codeP S.p sl lo) 0)):=hZz (fun R hR=>by
   rw [← hsl,← hlo] at hR ⊢;exact ⟨fun h=>.inr ⟨h0,R,hR,.inl ⟨h,rfl,rfl⟩⟩,fun h=>.inr ⟨h0,R,hR,.inr ⟨h,rfl,rfl⟩⟩⟩)
  have HLF:Hid (∀ k,k<S.p.funcs.length→localsF S.p (k:Nat)=(lo.getD k 0,0)):=hZz (fun k hk=>by
   unfold localsF;rw [if_neg (by rw [h0];simp),hlo,if_neg (by rw [hll];omega),Int.toNat_natCast])
  rw [hsl] at hcx hst;have HCX:=hZz hcx;have HST:=hZz hst;have HPW:=hZz (hp.below HB0.out);have HNE0:Hid (gW<w3.heap.size):=hZz (by obtain ⟨⟨_,h1,_⟩,_⟩:=hst;exact h1.lt);have HLE0:Hid (w0.heap.size≤w3.heap.size):=hZz hst.bl.size;have hNF:S.p.funcs.length≤16:=hcx.syn.funcs;have HLE1:=hZz HLE.out;clear h0 hsl hlo hll hcx hst hb3 hb0 x2 HC;obtain ⟨gC,hgC⟩:∃ g,w3.heap.size=g:=⟨_,rfl⟩
  obtain ⟨W4,hW4⟩:∃ W,w3.alloc (.cells #[.slice none 0 0,.slice none 0 0] 31)=W:=⟨_,rfl⟩
  have hb34:Below w3.heap.size w3 W4:=by rw [← hW4];exact zacZ _ _
  have HST4:=hZz (HST.out.below hb34);have HC4:Hid (Blk W4 gC 31 #[.slice none 0 0,.slice none 0 0]):=hZz (by rw [← hW4,← hgC];exact Blk.new _ _ _);have HLC:Hid (w0.heap.size≤gC):=hZz (by rw [← hgC];exact HLE0.out);have HNE:Hid (gW≠gC):=hZz (by rw [← hgC];have:=HNE0.out;omega);have HGC:=hZz hgC;have HW4:=hZz hW4;clear hgC hW4 hb34;go_upto_region 5 with (fail)
  rw [HGC.out,HW4.out];obtain ⟨SB,hSB⟩:∃ x,S.B=x:=⟨_,rfl⟩
  obtain ⟨SA,hSA⟩:∃ x,S.A=x:=⟨_,rfl⟩
  obtain ⟨nf,hnf⟩:∃ n,S.p.funcs.length=n:=⟨_,rfl⟩
  have HSB:=hZz hSB;have HNF:=hZz hnf;rw [hSB,hnf] at HX0;rw [hnf] at hNF HLF;have x4:=blk2 (HX0.out.below HST4.out.bl);clear hSB hSA hnf;go_upto_region 6 with (fail)
  try go_wp2_with (fail)
  go_loopw [7,8,9,10,11,26,27,28,29,30,31,32,33,34,35,36,37,38,39,40,41,42,43,46,47,48,49,50,51,52,53,54,55,56,57,58,59,60,61] (fun _ _ _ _ _ kv _ _ _ _ _ _ _ _ _ _ _ _ _ _ _ _ _ _ _ _ _ _ _ _ _ _ _ _ _ _ _ _ _ wr=>∃ (k:Nat) (L:List (InsD × Value)) (fA:Option Addr) (fc:Nat),k≤nf∧kv=.int .i64 k∧Hid (L.map Prod.fst=allSeg S.p sl k)∧Hid (WrSt w0 wr S sA sl.length sc gW 0 L)∧Hid (Blk wr gC 31 #[.slice fA k fc,.slice none 0 0])∧Hid (wr.ownsRow w0.heap.size 50 5 (.slice fA k fc) k (((List.range k).map (fnAt S.p sl lo)).flatMap FnD.cells))) (fun _ _ _ _ _ kv _ _ _ _ _ _ _ _ _ _ _ _ _ _ _ _ _ _ _ _ _ _ _ _ _ _ _ _ _ _ _ _ _ _=>nf - (intOf kv).toNat)
  case atStart=>exact ⟨0,[],none,0,Nat.zero_le _,rfl,hZz rfl,HST4,HC4,hZz ⟨rfl,.inl ⟨rfl,rfl⟩⟩⟩
  case round =>
   clear x4;obtain ⟨k,L,fA,fc,hk,rfl,HL,HS,HCC,HO⟩:=hrel;have hk0:(0:Int)≤(k:Int):=by omega
   have hlen:L.length≤3632:=by
    have:=congrArg List.length HL.out
    rw [List.length_map] at this;rw [this];exact HCX.out.syn.all_le sl (by rw [HNF.out];exact hk)
   have HLL:Hid ((allSeg S.p sl k).length=L.length):=hZz (by rw [← HL.out,List.length_map]);have HLE:=hZz hlen;clear hlen;by_cases hlt:k<nf
   ·have hlt':(k:Int)<(nf:Int):=by omega
    have hkl:k<S.p.funcs.length:=by rw [HNF.out];exact hlt
    obtain ⟨bF,offF,kA,kc,hA,hbF,c0,c1,c2,hkv⟩:=zakY HCX.out.prog.funcs hkl;clear hkv;have hA':SB=some ⟨bF,offF,none⟩:=HSB.out.symm.trans hA
    replace c0:=(HS.out.bl.cell hbF).trans c0
    replace c1:=(HS.out.bl.cell hbF).trans c1
    replace c2:=(HS.out.bl.cell hbF).trans c2
    obtain ⟨pn,hpn⟩:∃ n,(S.p.funcs[k]).params.length=n:=⟨_,rfl⟩
    obtain ⟨nm,hnm⟩:∃ s,(S.p.funcs[k]).name=s:=⟨_,rfl⟩
    obtain ⟨bd,hbd⟩:∃ s,(S.p.funcs[k]).body=s:=⟨_,rfl⟩
    obtain ⟨lk,hlk⟩:∃ s,lo.getD k 0=s:=⟨_,rfl⟩
    obtain ⟨ln,hln⟩:∃ n,L.length=n:=⟨_,rfl⟩
    have HLN:=hZz hln
    have HFN:Hid (fnAt S.p sl lo k=⟨nm,(pn:Nat),lk,((ln:Nat):Int),((allSeg S.p sl (k+1)).length:Nat)⟩):=hZz (by
     unfold fnAt;rw [zaiZ hkl,hnm,hpn,hlk,HLL.out,hln])
    have hlf:=HLF.out k hlt;rw [hlk] at hlf;have HLK:=hZz hlf;rw [hnm] at c0;rw [hpn] at c1;rw [hbd] at c2;have HKL:=hZz hkl;clear hA hkl hpn hnm hbd hlk hln hlf;subst hA';obtain ⟨gF,hgF⟩:∃ g,wr.heap.size=g:=⟨_,rfl⟩
    obtain ⟨WF,hWF⟩:∃ W,wr.alloc (.cells #[.string nm,.slice kA pn kc,.int .i64 bd] 42)=W:=⟨_,rfl⟩
    have hbWF:Below wr.heap.size wr WF:=by rw [← hWF];exact zacZ _ _
    have HFB:Hid (Blk WF gF 42 #[.string nm,.slice kA pn kc,.int .i64 bd]):=hZz (by rw [← hWF,← hgF];exact Blk.new _ _ _);have HSF:=hZz (HS.out.below hbWF);have HCF:=hZz (HCC.out.below hbWF);have HOF:=hZz (zagZ HO.out hbWF);have HFC:Hid (gF≠gC):=hZz (by rw [← hgF];have:=HCC.out.lt;omega);have HGF:Hid (gF≠gW):=hZz (by rw [← hgF];obtain ⟨⟨_,h1,_⟩,_⟩:=HS.out;have:=h1.lt;omega)
    have HH1:Hid (Calls prog 27 #[.pointer (some ⟨gW,0,none⟩)] WF fun e w'=>e=.returned (.int .i64 (ln:Nat))∧∃ q,w'=WF.drewN q):=hZz (by
     have:=here_s w0 S sA sl.length sc gW 0 L WF HSF.out (by omega) (by have:=HLE.out;omega)
     rw [Int.zero_add,HLN.out] at this;exact this)
    have HGF0:=hZz hgF;have HWF:=hZz hWF;clear hgF hWF hbWF;go_upto_region 8 with (fail)
    rw [HWF.out]
    try rw [HGF0.out]
    clear c0 c1 c2 HGF0 HWF
    go_upto_region 9 with (first
     | (go_at_call 27;(with_reducible refine HH1.out.mono ?_);rintro r w5 ⟨rfl,q5,hq5⟩;have HB5:Hid (Below WF.heap.size WF w5):=hZz (by rw [hq5];exact zaeZ (Below.refl _ _) _);clear hq5))
    have HS5:=hZz (HSF.out.below HB5.out);have HCW:=hZz (wfunc_s w0 S sA sc gW 0 sl HCX.out (by omega) k HKL.out L w5 HS5.out (by have:=HLE.out;omega))
    go_upto_region 10 with (first
     | (go_at_call 28;(with_reducible refine HCW.out.mono ?_);rintro r w6 ⟨rfl,hw6⟩;have HW6:=hZz hw6;clear hw6))
    obtain ⟨N0,n0,l0,s6,k6⟩:=HW6.out.st;obtain ⟨⟨iv5,hbk5,_⟩,_⟩:=HS5.out;have HN0:=hZz n0;have HS6:=hZz s6;have HF6:=hZz (k6.blk (HFB.out.below HB5.out) HGF.out (by decide));have HC6:=hZz (k6.blk (HCF.out.below HB5.out) (Ne.symm HNE.out) (by decide));have HO6:=hZz (k6.ownR hbk5 (by decide) (by decide) (zagZ HOF.out HB5.out));clear n0 l0 s6 k6 hbk5
    have HL6:Hid (Calls prog 29 #[S.val,.int .i64 k] w6 fun e w'=>e=.returned (.tuple #[.int .i64 lk,.int .i64 0])∧Below w6.heap.size w6 w'):=hZz (by
     have:=locals_s S k w6 (HCX.out.prog.below HS6.out.bl) (HPW.out.below HS6.out.bl) hok
     rw [HLK.out] at this;exact this)
    unfold ProgS.val at HL6;rw [HSB.out,HNF.out] at HL6;have x6:=blk2 (HX0.out.below HS6.out.bl)
    go_upto_region 13 with (first
     | (go_at_call 29;(with_reducible refine HL6.out.mono ?_);rintro r w7 ⟨rfl,hb7⟩;have HB7:=hZz hb7;clear hb7))
    clear x6;have HS7:=hZz (HS6.out.below HB7.out);have HF7:=hZz (HF6.out.below HB7.out);have HC7:=hZz (HC6.out.below HB7.out);have HO7:=hZz (zagZ HO6.out HB7.out)
    have hl2:(L ++ N0).length≤3632:=by
     have h2:=HCX.out.syn.all_le sl (k:=k+1) (by rw [HNF.out];exact hlt);simp only [allSeg] at h2;rw [List.length_append,HLL.out] at h2;have h3:=congrArg List.length HN0.out;rw [List.length_map,Int.zero_add] at h3;rw [List.length_append,h3];exact h2
    obtain ⟨ln2,hln2⟩:∃ n,(L ++ N0).length=n:=⟨_,rfl⟩
    have HAS:Hid (allSeg S.p sl (k+1)=(L ++ N0).map Prod.fst):=hZz (by
     rw [List.map_append,HL.out,HN0.out];simp only [allSeg];rw [HLL.out,Int.zero_add])
    have HRW:Hid (FnD.cells (fnAt S.p sl lo k)=[.string nm,.int .i64 (pn:Nat),.int .i64 lk,.int .i64 (ln:Nat),.int .i64 (ln2:Nat)]):=hZz (by
     rw [HFN.out,HAS.out,List.length_map,hln2];rfl)
    have HH2:Hid (∀ W,Below w7.heap.size w7 W→Calls prog 27 #[.pointer (some ⟨gW,0,none⟩)] W fun e w'=>e=.returned (.int .i64 (ln2:Nat))∧∃ q,w'=W.drewN q):=hZz (fun W hb=>by
     have:=here_s w0 S sA sl.length sc gW 0 (L ++ N0) W (HS7.out.below hb) (by omega) (by omega)
     rw [Int.zero_add,hln2] at this;exact this)
    clear hl2 hln2;have c7:=blk2 HC7.out;have f7:=blk3 HF7.out;obtain ⟨i1,hj,hy0,hy1,hy2⟩:=info_parts Tryz.infoCF;have hnf63:k≤16:=by omega
    have HF7d:Hid (Blk w7.drew gF 42 #[.string nm,.slice kA pn kc,.int .i64 bd]):=hZz HF7.out;clear f7;refine wp_region_held_drew (S:=(fun w'=>w'.cell? ⟨gF,0,none⟩=some (.string nm)∧w'.cell? ⟨gF,1,none⟩=some (.slice kA pn kc))) (by kernel_rfl) (by (first | with_reducible exact two_f HF7d.out | with_reducible exact two_f HF8.out | with_reducible exact two_f HFA.out | with_reducible exact two_f HF9.out | with_reducible exact two_f (HF9s.out _))) (fun hHeld=>?_)
    refine tkZ (i:=0) (v:=.pointer (some ⟨gC,0,none⟩)) rfl ?_
    simp only [nz,Act.put];refine tkZ (i:=2) (v:=.pointer (some ⟨gF,0,none⟩)) rfl ?_
    simp only [nz,Act.put];refine tkZ (i:=3) (v:=.string nm) rfl ?_
    simp only [nz,Act.put];refine tkZ (i:=4) (v:=.pointer (some ⟨gF,1,none⟩)) rfl ?_
    simp only [nz,Act.put];refine tkZ (i:=5) (v:=.slice kA pn kc) rfl ?_
    simp only [nz,Act.put];refine tkZ (i:=6) (v:=.int .i64 (pn:Nat)) rfl ?_
    simp only [nz,Act.put];refine tkZ (i:=7) (v:=.int .i64 lk) rfl ?_
    simp only [nz,Act.put];refine tkZ (i:=8) (v:=.int .i64 (ln:Nat)) rfl ?_
    simp only [nz,Act.put];refine tkZ (i:=9) (v:=.pointer (some ⟨gW,0,none⟩)) rfl ?_
    simp only [nz,Act.put];refine wpAnyH_ready (rs:=[1,10]) (by kernel_rfl) (by simp) ?_
    refine AllReadyH.cons (o:=_) rfl (fun K hK=>?_) ?_
    focus
     go_simp;refine hK.out _ _ (by (try dsimp only);(first | with_reducible exact two_f HF7d.out | with_reducible exact two_f HF8.out | with_reducible exact two_f HFA.out | with_reducible exact two_f HF9.out | with_reducible exact two_f (HF9s.out _))) (fun hHeld=>?_)
     clear hK K
     try simp only [nz,Act.put]
     refine wpAnyH_ready (rs:=[10]) (by kernel_rfl) (by simp) ?_
     refine AllReadyH.cons (o:=_) rfl (fun K hK=>?_) AllReadyH.nil
     go_simp
     (go_at_call 27;((with_reducible refine (HH2.out _ (zadZ _)).mono ?_);rintro r w8 ⟨rfl,q8,hq8⟩;have HB8:Hid (Below w7.heap.size w7 w8):=hZz (by rw [hq8];exact zaeZ (zadZ _) _);have HC8:=hZz (HC7.out.below HB8.out);have c8:=blk2 HC8.out;have HF8:=hZz (HF7.out.below HB8.out);have HFA:=hZz (HF8.out.below (zacZ w8 (.cells #[.string nm,.int .i64 (pn:Nat),.int .i64 lk,.int .i64 (ln:Nat),.int .i64 (ln2:Nat)] 50)));have HO8:=hZz (zagZ (zagZ HO7.out HB8.out) (zacZ w8 (.cells #[.string nm,.int .i64 (pn:Nat),.int .i64 lk,.int .i64 (ln:Nat),.int .i64 (ln2:Nat)] 50)));have HNW:Hid (∀ q u,[Value.string nm,.int .i64 (pn:Nat),.int .i64 lk,.int .i64 (ln:Nat),.int .i64 (ln2:Nat)][q]? = some u→(w8.alloc (.cells #[.string nm,.int .i64 (pn:Nat),.int .i64 lk,.int .i64 (ln:Nat),.int .i64 (ln2:Nat)] 50)).cell? ((⟨w8.heap.size,0,none⟩:Addr).add q)=some u):=hZz (zapY w8 _ 50);have HSZ:Hid (w0.heap.size≤(w8.alloc (.cells #[.string nm,.int .i64 (pn:Nat),.int .i64 lk,.int .i64 (ln:Nat),.int .i64 (ln2:Nat)] 50)).heap.size):=hZz (Nat.le_trans HS7.out.bl.size (Nat.le_trans HB8.out.size (zacZ w8 _).size));clear hq8))
     refine hK.out _ _ (by (try dsimp only);(first | with_reducible exact two_f HF7d.out | with_reducible exact two_f HF8.out | with_reducible exact two_f HFA.out | with_reducible exact two_f HF9.out | with_reducible exact two_f (HF9s.out _))) (fun hHeld=>?_)
     clear hK K
     try simp only [nz,Act.put]
     refine tkZ (i:=11) (v:=.agg #[.string nm,.int .i64 (pn:Nat),.int .i64 lk,.int .i64 (ln:Nat),.int .i64 (ln2:Nat)]) rfl ?_
     simp only [nz,Act.put];refine wpAnyH_ready (rs:=[12]) (by kernel_rfl) (by simp) ?_
     refine AllReadyH.cons (o:=_) rfl (fun K hK=>?_) AllReadyH.nil
     go_simp;refine hK.out _ _ (by (try dsimp only);(first | with_reducible exact two_f HF7d.out | with_reducible exact two_f HF8.out | with_reducible exact two_f HFA.out | with_reducible exact two_f HF9.out | with_reducible exact two_f (HF9s.out _))) (fun hHeld=>?_)
     clear hK K
     try simp only [nz,Act.put]
     refine wpAnyH_ready (rs:=[13]) (by kernel_rfl) (by simp) ?_
     refine AllReadyH.cons (o:=_) rfl (fun K hK=>?_) AllReadyH.nil
     try simp only [List.getElem_toArray,List.getElem_cons_succ,List.getElem_cons_zero]
     (rw [if_pos (by rfl)];refine wp_append_lies _ (.tmp 47) (.tmp 58) 28 rfl w0.heap.size 50 i1 _ 5 48 underlying28 hj hy0 hy1 hy2 rfl ?k1 _ k _ rfl HO8.out ⟨w8.heap.size,0,none⟩ 1 1 [.string nm,.int .i64 (pn:Nat),.int .i64 lk,.int .i64 (ln:Nat),.int .i64 (ln2:Nat)] ?k7 rfl HNW.out ?k2 ?k3 ?k4 ?k5 ?k6 _ rfl ?_;(case k7=>first | rfl | simp);(case k1=>decide);(case k2=>simp [Value.oneCell']);(case k3=>decide);(case k4=>(unfold maxLen;omega));(case k5=>omega);(case k6=>exact HSZ.out);intro g9 cap9 w9 hown9 hgr9 hat9 hlt9;have HE9:=hZz ((HC8.out.below (zacZ w8 (.cells #[.string nm,.int .i64 (pn:Nat),.int .i64 lk,.int .i64 (ln:Nat),.int .i64 (ln2:Nat)] 50))).grown hgr9 (zafZ HO8.out (HC8.out.below (zacZ w8 _)) (by decide)));have c9:=blk2 HE9.out;have z9:=HE9.out.frozen 0;have HF9:=hZz (HFA.out.grown hgr9 (zafZ HO8.out HFA.out (by decide)));have HF9s:Hid (∀ u,Blk (w9.setCell ⟨gC,0,none⟩ u) gF 42 #[.string nm,.slice kA pn kc,.int .i64 bd]):=hZz (fun u=>HF9.out.far (p:=⟨gC,0,none⟩) HFC.out u);have HO9:=hZz hown9;have HG9:=hZz hgr9;clear hown9 hgr9 hat9)
     refine hK.out _ _ (by (try dsimp only);(first | with_reducible exact two_f HF7d.out | with_reducible exact two_f HF8.out | with_reducible exact two_f HFA.out | with_reducible exact two_f HF9.out | with_reducible exact two_f (HF9s.out _))) (fun hHeld=>?_)
     clear hK K
     try simp only [nz,Act.put]
     refine tkZ (i:=14) (v:=.pointer (some ⟨gC,0,none⟩)) rfl ?_
     simp only [nz,Act.put];refine wpAnyH_ready (rs:=[15]) (by kernel_rfl) (by simp) ?_
     refine AllReadyH.cons (o:=_) rfl (fun K hK=>?_) AllReadyH.nil
     go_simp;refine hK.out _ _ (by (try dsimp only);(first | with_reducible exact two_f HF7d.out | with_reducible exact two_f HF8.out | with_reducible exact two_f HFA.out | with_reducible exact two_f HF9.out | with_reducible exact two_f (HF9s.out _))) (fun hHeld=>?_)
     clear hK K
     try simp only [nz,Act.put]
     refine wpAnyH_done (by kernel_rfl) ?_ _
     try dsimp only [List.getElem_toArray,List.getElem_cons_succ,List.getElem_cons_zero,Act.put]
    rotate_left 1;refine AllReadyH.cons (o:=_) rfl (fun K hK=>?_) AllReadyH.nil
    go_simp
    (go_at_call 27;((with_reducible refine (HH2.out _ (zadZ _)).mono ?_);rintro r w8 ⟨rfl,q8,hq8⟩;have HB8:Hid (Below w7.heap.size w7 w8):=hZz (by rw [hq8];exact zaeZ (zadZ _) _);have HC8:=hZz (HC7.out.below HB8.out);have c8:=blk2 HC8.out;have HF8:=hZz (HF7.out.below HB8.out);have HFA:=hZz (HF8.out.below (zacZ w8 (.cells #[.string nm,.int .i64 (pn:Nat),.int .i64 lk,.int .i64 (ln:Nat),.int .i64 (ln2:Nat)] 50)));have HO8:=hZz (zagZ (zagZ HO7.out HB8.out) (zacZ w8 (.cells #[.string nm,.int .i64 (pn:Nat),.int .i64 lk,.int .i64 (ln:Nat),.int .i64 (ln2:Nat)] 50)));have HNW:Hid (∀ q u,[Value.string nm,.int .i64 (pn:Nat),.int .i64 lk,.int .i64 (ln:Nat),.int .i64 (ln2:Nat)][q]? = some u→(w8.alloc (.cells #[.string nm,.int .i64 (pn:Nat),.int .i64 lk,.int .i64 (ln:Nat),.int .i64 (ln2:Nat)] 50)).cell? ((⟨w8.heap.size,0,none⟩:Addr).add q)=some u):=hZz (zapY w8 _ 50);have HSZ:Hid (w0.heap.size≤(w8.alloc (.cells #[.string nm,.int .i64 (pn:Nat),.int .i64 lk,.int .i64 (ln:Nat),.int .i64 (ln2:Nat)] 50)).heap.size):=hZz (Nat.le_trans HS7.out.bl.size (Nat.le_trans HB8.out.size (zacZ w8 _).size));clear hq8))
    refine hK.out _ _ (by (try dsimp only);(first | with_reducible exact two_f HF7d.out | with_reducible exact two_f HF8.out | with_reducible exact two_f HFA.out | with_reducible exact two_f HF9.out | with_reducible exact two_f (HF9s.out _))) (fun hHeld=>?_)
    clear hK K
    try simp only [nz,Act.put]
    refine tkZ (i:=11) (v:=.agg #[.string nm,.int .i64 (pn:Nat),.int .i64 lk,.int .i64 (ln:Nat),.int .i64 (ln2:Nat)]) rfl ?_
    simp only [nz,Act.put];refine wpAnyH_ready (rs:=[1,12]) (by kernel_rfl) (by simp) ?_
    refine AllReadyH.cons (o:=_) rfl (fun K hK=>?_) ?_
    focus
     go_simp;refine hK.out _ _ (by (try dsimp only);(first | with_reducible exact two_f HF7d.out | with_reducible exact two_f HF8.out | with_reducible exact two_f HFA.out | with_reducible exact two_f HF9.out | with_reducible exact two_f (HF9s.out _))) (fun hHeld=>?_)
     clear hK K
     try simp only [nz,Act.put]
     refine wpAnyH_ready (rs:=[12]) (by kernel_rfl) (by simp) ?_
     refine AllReadyH.cons (o:=_) rfl (fun K hK=>?_) AllReadyH.nil
     go_simp;refine hK.out _ _ (by (try dsimp only);(first | with_reducible exact two_f HF7d.out | with_reducible exact two_f HF8.out | with_reducible exact two_f HFA.out | with_reducible exact two_f HF9.out | with_reducible exact two_f (HF9s.out _))) (fun hHeld=>?_)
     clear hK K
     try simp only [nz,Act.put]
     refine wpAnyH_ready (rs:=[13]) (by kernel_rfl) (by simp) ?_
     refine AllReadyH.cons (o:=_) rfl (fun K hK=>?_) AllReadyH.nil
     try simp only [List.getElem_toArray,List.getElem_cons_succ,List.getElem_cons_zero]
     (rw [if_pos (by rfl)];refine wp_append_lies _ (.tmp 47) (.tmp 58) 28 rfl w0.heap.size 50 i1 _ 5 48 underlying28 hj hy0 hy1 hy2 rfl ?k1 _ k _ rfl HO8.out ⟨w8.heap.size,0,none⟩ 1 1 [.string nm,.int .i64 (pn:Nat),.int .i64 lk,.int .i64 (ln:Nat),.int .i64 (ln2:Nat)] ?k7 rfl HNW.out ?k2 ?k3 ?k4 ?k5 ?k6 _ rfl ?_;(case k7=>first | rfl | simp);(case k1=>decide);(case k2=>simp [Value.oneCell']);(case k3=>decide);(case k4=>(unfold maxLen;omega));(case k5=>omega);(case k6=>exact HSZ.out);intro g9 cap9 w9 hown9 hgr9 hat9 hlt9;have HE9:=hZz ((HC8.out.below (zacZ w8 (.cells #[.string nm,.int .i64 (pn:Nat),.int .i64 lk,.int .i64 (ln:Nat),.int .i64 (ln2:Nat)] 50))).grown hgr9 (zafZ HO8.out (HC8.out.below (zacZ w8 _)) (by decide)));have c9:=blk2 HE9.out;have z9:=HE9.out.frozen 0;have HF9:=hZz (HFA.out.grown hgr9 (zafZ HO8.out HFA.out (by decide)));have HF9s:Hid (∀ u,Blk (w9.setCell ⟨gC,0,none⟩ u) gF 42 #[.string nm,.slice kA pn kc,.int .i64 bd]):=hZz (fun u=>HF9.out.far (p:=⟨gC,0,none⟩) HFC.out u);have HO9:=hZz hown9;have HG9:=hZz hgr9;clear hown9 hgr9 hat9)
     refine hK.out _ _ (by (try dsimp only);(first | with_reducible exact two_f HF7d.out | with_reducible exact two_f HF8.out | with_reducible exact two_f HFA.out | with_reducible exact two_f HF9.out | with_reducible exact two_f (HF9s.out _))) (fun hHeld=>?_)
     clear hK K
     try simp only [nz,Act.put]
     refine tkZ (i:=14) (v:=.pointer (some ⟨gC,0,none⟩)) rfl ?_
     simp only [nz,Act.put];refine wpAnyH_ready (rs:=[15]) (by kernel_rfl) (by simp) ?_
     refine AllReadyH.cons (o:=_) rfl (fun K hK=>?_) AllReadyH.nil
     go_simp;refine hK.out _ _ (by (try dsimp only);(first | with_reducible exact two_f HF7d.out | with_reducible exact two_f HF8.out | with_reducible exact two_f HFA.out | with_reducible exact two_f HF9.out | with_reducible exact two_f (HF9s.out _))) (fun hHeld=>?_)
     clear hK K
     try simp only [nz,Act.put]
     refine wpAnyH_done (by kernel_rfl) ?_ _
     try dsimp only [List.getElem_toArray,List.getElem_cons_succ,List.getElem_cons_zero,Act.put]
    rotate_left 1;refine AllReadyH.cons (o:=_) rfl (fun K hK=>?_) AllReadyH.nil
    go_simp;refine hK.out _ _ (by (try dsimp only);(first | with_reducible exact two_f HF7d.out | with_reducible exact two_f HF8.out | with_reducible exact two_f HFA.out | with_reducible exact two_f HF9.out | with_reducible exact two_f (HF9s.out _))) (fun hHeld=>?_)
    clear hK K
    try simp only [nz,Act.put]
    refine wpAnyH_ready (rs:=[1]) (by kernel_rfl) (by simp) ?_
    refine AllReadyH.cons (o:=_) rfl (fun K hK=>?_) AllReadyH.nil
    go_simp;refine hK.out _ _ (by (try dsimp only);(first | with_reducible exact two_f HF7d.out | with_reducible exact two_f HF8.out | with_reducible exact two_f HFA.out | with_reducible exact two_f HF9.out | with_reducible exact two_f (HF9s.out _))) (fun hHeld=>?_)
    clear hK K
    try simp only [nz,Act.put]
    refine wpAnyH_ready (rs:=[13]) (by kernel_rfl) (by simp) ?_
    refine AllReadyH.cons (o:=_) rfl (fun K hK=>?_) AllReadyH.nil
    try simp only [List.getElem_toArray,List.getElem_cons_succ,List.getElem_cons_zero]
    (rw [if_pos (by rfl)];refine wp_append_lies _ (.tmp 47) (.tmp 58) 28 rfl w0.heap.size 50 i1 _ 5 48 underlying28 hj hy0 hy1 hy2 rfl ?k1 _ k _ rfl HO8.out ⟨w8.heap.size,0,none⟩ 1 1 [.string nm,.int .i64 (pn:Nat),.int .i64 lk,.int .i64 (ln:Nat),.int .i64 (ln2:Nat)] ?k7 rfl HNW.out ?k2 ?k3 ?k4 ?k5 ?k6 _ rfl ?_;(case k7=>first | rfl | simp);(case k1=>decide);(case k2=>simp [Value.oneCell']);(case k3=>decide);(case k4=>(unfold maxLen;omega));(case k5=>omega);(case k6=>exact HSZ.out);intro g9 cap9 w9 hown9 hgr9 hat9 hlt9;have HE9:=hZz ((HC8.out.below (zacZ w8 (.cells #[.string nm,.int .i64 (pn:Nat),.int .i64 lk,.int .i64 (ln:Nat),.int .i64 (ln2:Nat)] 50))).grown hgr9 (zafZ HO8.out (HC8.out.below (zacZ w8 _)) (by decide)));have c9:=blk2 HE9.out;have z9:=HE9.out.frozen 0;have HF9:=hZz (HFA.out.grown hgr9 (zafZ HO8.out HFA.out (by decide)));have HF9s:Hid (∀ u,Blk (w9.setCell ⟨gC,0,none⟩ u) gF 42 #[.string nm,.slice kA pn kc,.int .i64 bd]):=hZz (fun u=>HF9.out.far (p:=⟨gC,0,none⟩) HFC.out u);have HO9:=hZz hown9;have HG9:=hZz hgr9;clear hown9 hgr9 hat9)
    refine hK.out _ _ (by (try dsimp only);(first | with_reducible exact two_f HF7d.out | with_reducible exact two_f HF8.out | with_reducible exact two_f HFA.out | with_reducible exact two_f HF9.out | with_reducible exact two_f (HF9s.out _))) (fun hHeld=>?_)
    clear hK K
    try simp only [nz,Act.put]
    refine tkZ (i:=14) (v:=.pointer (some ⟨gC,0,none⟩)) rfl ?_
    simp only [nz,Act.put];refine wpAnyH_ready (rs:=[15]) (by kernel_rfl) (by simp) ?_
    refine AllReadyH.cons (o:=_) rfl (fun K hK=>?_) AllReadyH.nil
    go_simp;refine hK.out _ _ (by (try dsimp only);(first | with_reducible exact two_f HF7d.out | with_reducible exact two_f HF8.out | with_reducible exact two_f HFA.out | with_reducible exact two_f HF9.out | with_reducible exact two_f (HF9s.out _))) (fun hHeld=>?_)
    clear hK K
    try simp only [nz,Act.put]
    refine wpAnyH_done (by kernel_rfl) ?_ _
    try dsimp only [List.getElem_toArray,List.getElem_cons_succ,List.getElem_cons_zero,Act.put]
    all_goals
     try go_wp2_with (fail)
     have HCA:=hZz (HC8.out.below (zacZ w8 (.cells #[.string nm,.int .i64 (pn:Nat),.int .i64 lk,.int .i64 (ln:Nat),.int .i64 (ln2:Nat)] 50)));refine ⟨⟨k+1,L ++ N0,some ⟨g9,0,none⟩,cap9,by omega,by simp,hZz HAS.out.symm,hZz ?_,hZz (HE9.out.set_ 0 _),hZz ?_⟩,by simp [intOf];omega⟩
     ·refine (((HS7.out.below HB8.out).below (zacZ w8 (.cells #[.string nm,.int .i64 (pn:Nat),.int .i64 lk,.int .i64 (ln:Nat),.int .i64 (ln2:Nat)] 50)))).kc (((KC.refl _ gC _).grown HO8.out (Nat.le_refl _) HSZ.out HG9.out).setC HLC.out 0 _) HCA.out HNE.out
     ·rw [List.range_succ,List.map_append,List.flatMap_append,List.map_cons,List.map_nil,List.flatMap_cons,List.flatMap_nil,List.append_nil,HRW.out]
      exact zaxY HO9.out HE9.out (by decide) 0 _
   ·have e9:nf=k:=by omega
    subst e9;obtain ⟨iA,ic,hbk,hio⟩:=HS.out.insO (a:=w.heap.size) HB0.out.size;rw [HL.out] at hio;have HCK:=hZz (HL.out ▸ (Eq.refl (L.map Prod.fst)));obtain ⟨ln,hln⟩:∃ n,L.length=n:=⟨_,rfl⟩
    have HLN:=hZz hln;have hle:ln≤3632:=by rw [← hln];exact HLE.out
    rw [hln] at hbk hio;have HIO:=hZz hio;have y:=blkW hbk;have c:=blk2 HCC.out;have z:=HCC.out.frozen 1;have HBR:=hZz (zaaZ HS.out.bl HB0.out HB0.out.size);have HLW:Hid (w.heap.size≤gC):=hZz (Nat.le_trans HB0.out.size HLC.out);obtain ⟨W9,hW9⟩:∃ W,wr.setCell ⟨gC,1,none⟩ (.slice iA ln ic)=W:=⟨_,rfl⟩
    have HC9:Hid (Blk W9 gC 31 #[.slice fA nf fc,.slice iA ln ic]):=hZz (by rw [← hW9];exact HCC.out.set_ 1 _);have HB9:Hid (Below w.heap.size w W9):=hZz (by rw [← hW9];exact HBR.out.setCell (p:=⟨gC,1,none⟩) HLW.out _);have HB09:Hid (Below w0.heap.size w0 W9):=hZz (by rw [← hW9];exact HS.out.bl.setCell (p:=⟨gC,1,none⟩) HLC.out _);have HIO9:Hid (InsO w.heap.size W9 (.slice iA ln ic) (allSeg S.p sl nf)):=hZz (by rw [← hW9];exact HIO.out.far HCC.out (by decide) (by decide) 1 _);have HO9:Hid (W9.ownsRow w0.heap.size 50 5 (.slice fA nf fc) nf (((List.range nf).map (fnAt S.p sl lo)).flatMap FnD.cells)):=hZz (by rw [← hW9];exact zaxY HO.out HCC.out (by decide) 1 _);have HFS:Hid (SlAt W9 fA 5 FnD.cells ((List.range nf).map (fnAt S.p sl lo))):=hZz (SlAt.of_own HO9.out rfl (fun _=>rfl) (by decide));have hcp:codeP S.p sl lo=⟨(List.range nf).map (fnAt S.p sl lo),allSeg S.p sl nf⟩:=by unfold codeP;rw [HNF.out]
    have hfl:((List.range nf).map (fnAt S.p sl lo)).length=nf:=by simp
    have hil:(allSeg S.p sl nf).length=ln:=by rw [HLL.out,hln]
    have hck:=ccheck_any (codeP S.p sl lo) fA iA fc ic W9 (by rw [hcp];show ((List.range nf).map (fnAt S.p sl lo)).length≤40;rw [hfl];omega) (by rw [hcp];show (allSeg S.p sl nf).length≤4100;rw [hil];omega)
     (fun f hf=>by
      rw [hcp] at hf;obtain ⟨j,hj,rfl⟩:=List.mem_map.1 hf;have hj':j<S.p.funcs.length:=by rw [HNF.out];exact List.mem_range.1 hj
      obtain ⟨b,hfo,_,_⟩:=HCX.out.syn.func hj'
      have:=zceY hfo.name
      show (S.p.funcs.getD j noFunc).name.size≤1000;rw [zaiZ hj'];omega)
     (fun i hi=>by
      rw [hcp] at hi;exact HCX.out.syn.small sl HKY.out nf (by rw [HNF.out];exact Nat.le_refl _) i hi)
     (HSE.out.below HB9.out) (HPW.out.below HB09.out) (HSH.out.below HB9.out) (by rw [hcp];exact HFS.out) (by rw [hcp];exact HIO9.out.insV.2)
    rw [hcp] at hck HPR;simp only [] at hck;rw [hfl,hil] at hck;have HFL:=hZz hfl;have HIL:=hZz hil;have HCX9:=hZz hck;have HW9:=hZz hW9;clear hcp hfl hil hck hW9 hbk hio hln;go_upto_region 16 with (fail)
    rw [HW9.out];clear y c z HW9;have c9:=blk2 HC9.out;have hle':¬ (4000:Int)<(ln:Int):=by omega
    go_upto_region 19 with (first
     | (go_at_call 23;(refine HCX9.out.mono ?_);rintro r w10 ⟨R,rfl,hR,hb10⟩;have HR10:=hZz hR;have HB910:=hZz hb10;clear hR hb10))
    have HB10:=hZz (zaaZ HB910.out HB9.out HB9.out.size);have HRR:=hZz ((HR0.out.below HB09.out).below HB910.out);obtain ⟨R1,R2⟩:=R;have HPQ:=hZz (HPR.out _ HR10.out);obtain ⟨r0,r1⟩:=blk2 HRR.out;have z10:=(fun i=>HRR.out.frozen i:∀ i,w10.frozen? ⟨gR,i,none⟩=false)
    clear c9;by_cases h2:R2=0
    ·subst h2
     obtain ⟨c0,c1⟩:=blk2 (HC9.out.below HB910.out);obtain ⟨W11,hW11⟩:∃ W,(w10.setCell ⟨gR,0,none⟩ (.slice fA nf fc)).setCell ⟨gR,1,none⟩ (.slice iA ln ic)=W:=⟨_,rfl⟩
     have HR11:Hid (Blk W11 gR 31 #[.slice fA nf fc,.slice iA ln ic]):=hZz (by rw [← hW11];exact (HRR.out.set_ 0 _).set_ 1 _);have HB11:Hid (Below w.heap.size w W11):=hZz (by rw [← hW11];exact (HB10.out.setCell (p:=⟨gR,0,none⟩) HLE1.out _).setCell (p:=⟨gR,1,none⟩) HLE1.out _)
     have HF11:Hid (SlAt W11 fA 5 FnD.cells ((List.range nf).map (fnAt S.p sl lo))):=hZz (by
      rw [← hW11];exact SlAt.of_own (zaxY (zaxY (zagZ HO9.out HB910.out) HRR.out (by decide) 0 _) (HRR.out.set_ 0 _) (by decide) 1 _) rfl (fun _=>rfl) (by decide))
     have HI11:Hid (InsO w.heap.size W11 (.slice iA ln ic) (allSeg S.p sl nf)):=hZz (by
      rw [← hW11];exact ((HIO9.out.below HB910.out).far HRR.out (by decide) (by decide) 0 _).far (HRR.out.set_ 0 _) (by decide) (by decide) 1 _)
     have HW11:=hZz hW11;clear hW11;go_wp2_with (fail)
     rw [HW11.out];clear r0 r1 c0 c1;obtain ⟨r0,r1⟩:=blk2 HR11.out;refine bodyPost_ret (by simp [results,Tryz.results11,r0,r1,go_sem];try rfl) rfl ?_
     have hfin:=HP.out fA fc iA ic ⟨(List.range nf).map (fnAt S.p sl lo),allSeg S.p sl nf⟩ 0 W11 (HPQ.out.2 (by simp)) HF11.out;simp only [] at hfin;rw [HFL.out,HIL.out] at hfin;exact hfin HI11.out HB11.out
    ·have e2:(R2 != 0)=true:=by simp [h2]
     have H2:=hZz h2;clear h2;obtain ⟨W11,hW11⟩:∃ W,(w10.setCell ⟨gR,0,none⟩ (.slice none 0 0)).setCell ⟨gR,1,none⟩ (.slice none 0 0)=W:=⟨_,rfl⟩
     have HR11:Hid (Blk W11 gR 31 #[.slice none 0 0,.slice none 0 0]):=hZz (by rw [← hW11];exact (HRR.out.set_ 0 _).set_ 1 _);have HB11:Hid (Below w.heap.size w W11):=hZz (by rw [← hW11];exact (HB10.out.setCell (p:=⟨gR,0,none⟩) HLE1.out _).setCell (p:=⟨gR,1,none⟩) HLE1.out _);have HW11:=hZz hW11;clear hW11;go_wp2_with (fail)
     rw [HW11.out];clear r0 r1;obtain ⟨r0,r1⟩:=blk2 HR11.out;refine bodyPost_ret (by simp [results,Tryz.results11,r0,r1,go_sem];try rfl) rfl ?_
     exact HP.out none 0 none 0 noCode R2 _ (HPQ.out.1 H2.out) SlAt.nil (InsO.nil _ _) HB11.out
end Go.Proofs.YthiimbhjpdphpaaGreatDoor
