/- U26 -/
import Derived.Test.YthiimbhjpdphpaaGreatDoorPU25
set_option linter.unusedVariables false
set_option linter.unusedSimpArgs false
namespace Go.Proofs.YthiimbhjpdphpaaGreatDoor
open Go.RowKit
set_option maxRecDepth 100000
open Go.Proofs.Tryz
def WroteT (w0:World) (S:ProgS) (sA:Option Addr) (sn sc gW:Nat) (e0:Int) (L:List (InsD × Value)) (I:List InsD) (w w':World):Prop :=
 ∃ N:List (InsD × Value),N.map Prod.fst=I∧TrSt w0 w' S sA sn sc gW e0 (L ++ N)∧KW w0.heap.size gW w w'
theorem WroteT.st {w0:World} {S:ProgS} {sA:Option Addr} {sn sc gW:Nat} {e0:Int} {L:List (InsD × Value)} {I:List InsD} {w w':World} (h:WroteT w0 S sA sn sc gW e0 L I w w'):∃ N:List (InsD × Value),N.map Prod.fst=I∧N.length=I.length∧TrSt w0 w' S sA sn sc gW e0 (L ++ N)∧KW w0.heap.size gW w w':=by
 obtain ⟨N,h1,h2,h3⟩:=h;exact ⟨N,h1,by rw [← h1,List.length_map],h2,h3⟩
def NodeT (w0:World) (S:ProgS) (sA:Option Addr) (sc gW:Nat) (e0:Int) (sl:List Int) (f:Nat):Prop:=∀ i s L w,firstF S.p.nodes f i=some s→i<S.p.nodes.length→TrSt w0 w S sA sl.length sc gW e0 L→L.length+6 * (i+1 - s)≤90000 →
 Calls prog 44 #[.pointer (some ⟨gW,0,none⟩),.int .i64 i] w fun e w'=>e=.returned (.tuple #[])∧WroteT w0 S sA sl.length sc gW e0 L (segF S.p sl f i (e0+L.length)) w w'
attribute [local go_sem] zabZ
set_option maxHeartbeats 16000000 in
theorem tcho2_s (w0:World) (S:ProgS) (sA:Option Addr) (sc gW:Nat) (e0:Int) (sl:List Int) (f:Nat) (hw:NodeT w0 S sA sc gW e0 sl f) (n:NodeD) (kA iA:Option Addr) (kc ic s i:Nat) (L:List (InsD × Value)) (w:World) (a b:Int)
  (hk:n.kind=15) (hks:n.kids=[a,b]) (hc:Cover S.p.nodes f n.kids s i) (hil:i≤S.p.nodes.length) (hi:IntsV w0 (.slice iA n.kids.length ic) n.kids) (h:TrSt w0 w S sA sl.length sc gW e0 L) (hL:L.length+6 * (i+1 - s)≤90000) (he:0≤e0∧e0≤4000) :
  Calls prog 68 #[.pointer (some ⟨gW,0,none⟩),.agg (nodeC n kA kc iA ic)] w fun r w'=>r=.returned (.tuple #[])∧WroteT w0 S sA sl.length sc gW e0 L (ctlF (segF S.p sl f) n.kind n.kids (e0+L.length)) w w':=by
 obtain ⟨R,hR⟩:∃ R,ctlF (segF S.p sl f) n.kind n.kids (e0+L.length)=R:=⟨_,rfl⟩
 rw [hR];obtain ⟨P,hP⟩:∃ P:Ending→World→Prop,(fun r w'=>r=.returned (.tuple #[])∧WroteT w0 S sA sl.length sc gW e0 L R w w')=P:=⟨_,rfl⟩
 rw [hP];have HP:Hid (∀ w',WroteT w0 S sA sl.length sc gW e0 L R w w'→P (.returned (.tuple #[])) w'):=hZz (fun w' h1=>by rw [← hP];exact ⟨rfl,h1⟩);unfold nodeC;rw [hks] at hc hi hR ⊢;rw [hk] at hR ⊢;obtain ⟨m,k,rfl,rfl,hik,hmk,f0,f1⟩:=hc.two';obtain ⟨bI,offI,rfl,hbI,ck0,ck1⟩:=hi.cells2;have HKC:Hid (∀ wx,Below w0.heap.size w0 wx→wx.cell? ⟨bI,offI,none⟩=some (.int .i64 m)∧wx.cell? ⟨bI,offI+1,none⟩=some (.int .i64 k)):=hZz (fun wx hb=>⟨(hb.cell hbI).trans ck0,(hb.cell hbI).trans ck1⟩);have g0:=zaaY f0;have hl0:=fun b=>zaqY S.p sl f m s b f0
 have hl1:=fun b=>zaqY S.p sl f k (m+1) b f1
 have HF0:=hZz f0;have HF1:=hZz f1;have HL0:=hZz hl0;have HL1:=hZz hl1;have HR:=hZz hR;have HW:=hZz hw;have HE:=hZz he;have HB:Hid ((s≤m∧m+1≤k)∧k+1≤S.p.nodes.length∧L.length+6 * (k+2 - s)≤90000):=hZz (by omega);have HH:=hZz h;generalize n.text=nt;generalize n.int=ni;generalize n.keys.length=q;show Calls _ _ #[_,.agg #[.int .i64 15,.string nt,.int .i64 ni,.slice kA q kc,.slice (some ⟨bI,offI,none⟩) 2 ic]] w P;obtain ⟨g,hg⟩:∃ g,w.heap.size=g:=⟨_,rfl⟩
 obtain ⟨W1,hW1⟩:∃ W,w.alloc (.cells #[.int .i64 15,.string nt,.int .i64 ni,.slice kA q kc,.slice (some ⟨bI,offI,none⟩) 2 ic] 58)=W:=⟨_,rfl⟩
 have hlt:gW<w.heap.size:=by obtain ⟨iv,q,_⟩:=h.wr;exact q.lt
 have HNE:Hid (g≠gW):=hZz (by omega);have HX2:Hid (Blk W1 g 58 #[.int .i64 15,.string nt,.int .i64 ni,.slice kA q kc,.slice (some ⟨bI,offI,none⟩) 2 ic]):=hZz (by rw [← hW1,← hg];exact Blk.new _ _ _);have HB1:Hid (Below w.heap.size w W1):=hZz (by rw [← hW1];exact zacZ _ _);have HS2:=hZz (h.below HB1.out);have HK2:=hZz (h.kw HB1.out);have HG:=hZz hg;have HW1:=hZz hW1;clear hR hP hw he h hg hW1 hlt hc hi hk hks hil hL hik hbI ck0 ck1 f0 f1 g0 hl0 hl1 hmk;go_enter func68,ntmps68
 go_upto_region 1 with fail
 rw [HG.out,HW1.out];clear HG HW1;have x_3:=blk5n HX2.out;have y_3:=HKC.out _ HS2.out.bl;have HC_3:=hZz (HW.out m s (L) W1 HF0.out (by have:=HB.out;omega) HS2.out (by have:=HB.out;(try simp only [List.length_append,List.length_cons,List.length_nil]);omega))
 go_upto_region 2 with (first
  | (go_at_call 44;(with_reducible refine HC_3.out.mono ?_);rintro e w3 ⟨rfl,hw3⟩;have HW_3:=hZz hw3;clear hw3))
 obtain ⟨N0,n0,l0,s3,k3⟩:=HW_3.out.st;have HN0:=hZz n0;have b0:=HL0.out (e0+(L).length);rw [← l0] at b0;have HS3:=hZz s3;have HK3:=hZz (HK2.out.trans k3);have HX3:=hZz (k3.blk HX2.out HNE.out (by decide));have HL0':=hZz l0;have HB0':=hZz b0;clear n0 l0 s3 k3 b0 x_3 y_3;have HC_4:=hZz (zacY w0 S sA sl.length sc gW e0 (L ++ N0) w3 14 (0) ⟨#[]⟩ HS3.out (by have:=HB.out;have:=HB0'.out;(try simp only [List.length_append,List.length_cons,List.length_nil]);omega));obtain ⟨ix,hix⟩:∃ t,(L ++ N0).length=t:=⟨_,rfl⟩
 rw [hix] at HC_4;have HIX_ix:=hZz hix;clear hix
 go_upto_region 3 with (first
  | (go_at_call 45;(with_reducible refine HC_4.out.mono ?_);rintro e w4 ⟨rfl,hs4,hk4⟩;have HS4:=hZz hs4;have HK4:=hZz (HK3.out.trans hk4);have HX4:=hZz (hk4.blk HX3.out HNE.out (by decide));clear hs4 hk4))
 have x_5:=blk5n HX4.out;have y_5:=HKC.out _ HS4.out.bl;have HC_5:=hZz (HW.out k (m+1) (L ++ N0 ++ [(insO 14 0,nilK)]) w4 HF1.out (by have:=HB.out;omega) HS4.out (by have:=HB.out;have:=HB0'.out;(try simp only [List.length_append,List.length_cons,List.length_nil]);omega))
 go_upto_region 4 with (first
  | (go_at_call 44;(with_reducible refine HC_5.out.mono ?_);rintro e w5 ⟨rfl,hw3⟩;have HW_5:=hZz hw3;clear hw3))
 obtain ⟨N1,n0,l0,s3,k3⟩:=HW_5.out.st;have HN1:=hZz n0;have b0:=HL1.out (e0+(L ++ N0 ++ [(insO 14 0,nilK)]).length);rw [← l0] at b0;have HS5:=hZz s3;have HK5:=hZz (HK4.out.trans k3);have HX5:=hZz (k3.blk HX4.out HNE.out (by decide));have HL1':=hZz l0;have HB1':=hZz b0;clear n0 l0 s3 k3 b0 x_5 y_5;have e6:L ++ N0 ++ [(insO 14 0,nilK)] ++ N1=(L ++ N0) ++ (insO 14 0,nilK) :: N1:=by simp
 have HS6:Hid (TrSt w0 w5 S sA sl.length sc gW e0 ((L ++ N0) ++ (insO 14 0,nilK) :: N1)):=hZz (by rw [← e6];exact HS5.out);clear e6;have x5:=blk5n HX5.out;go_upto_region 5 with (fail)
 clear x5;obtain ⟨gi,ic,d3,da,dz,hset⟩:=HS6.out.jump;have hlJ:(L ++ N0 ++ (insO 14 0,nilK) :: N1).length=(L ++ N0).length+(N1).length+1:=by rw [List.length_append,List.length_cons];omega
 have hHE:=fun wx (hb:Below w5.heap.size w5 wx)=>zb7Y w0 S sA sl.length sc gW e0 _ wx (HS6.out.below hb) HE.out (by have:=HB.out;have:=HB0'.out;have:=HB1'.out;(try simp only [List.length_append,List.length_cons,List.length_nil]);omega)
 rw [hlJ] at hHE;obtain ⟨vJ,hvJ⟩:∃ t:Int,e0+(((L ++ N0).length+(N1).length+1:Nat):Int)=t:=⟨_,rfl⟩
 rw [hvJ] at hHE;have HVJ7:=hZz hvJ;have hpJ:(L ++ N0).length=ix:=HIX_ix.out;rw [hpJ] at d3 da dz hset;obtain ⟨qJ,hqJ⟩:∃ t,ix+(N1).length+1=t:=⟨_,rfl⟩
 rw [hqJ] at d3 hset;have hpq:(ix:Int)<(qJ:Int):=by omega
 have hp0:(0:Int)≤(ix:Int):=by omega
 have HHE:=hZz hHE;have HSET:=hZz hset;have HFAC:Hid (∀ wx,Below w5.heap.size w5 wx→wx.cell? ⟨gW,3,none⟩=some (.slice (some ⟨gi,0,none⟩) qJ ic)):=hZz (fun wx hb=>(hb.cell (bLZ d3)).trans d3);have HFA2:Hid (∀ wx,Below w5.heap.size w5 wx→wx.cell? ⟨gi,ix * 4+1,none⟩=some (.int .i64 0)∧wx.frozen? ⟨gi,ix * 4+1,none⟩=false):=hZz (fun wx hb=>⟨(hb.cell (bLZ da)).trans da,(hb.frozen (bLZ da)).trans dz⟩);have f0:=HFAC.out _ (Below.refl _ _);have fd:=HFAC.out _ (zadZ w5);clear d3 da dz hset hHE hlJ hvJ hpJ hqJ
 go_region_held3 (fun w'=>w'.cell? ⟨gW,3,none⟩=some (.slice (some ⟨gi,0,none⟩) qJ ic)) (first | with_reducible exact f0 | with_reducible exact fd | with_reducible exact f3 | with_reducible exact f4 _) (first
  | (go_at_call 102;(with_reducible refine (HHE.out _ (zadZ w5)).mono ?_);rintro e w7 ⟨rfl,hw3⟩;have HBJ7:Hid (Below w5.heap.size w5 w7):=hZz (by obtain ⟨q,rfl⟩:=hw3;exact zaeZ (zadZ w5) q);have f3:=HFAC.out _ HBJ7.out;have f4:=fun v=>(HSET.out _ HBJ7.out v).2.2;obtain ⟨d3,z3⟩:=HFA2.out _ HBJ7.out;clear hw3))
 all_goals
  clear f0 fd f3 f4;go_wp2_with (fail)
  first | go_end0 | go_returns | skip
  obtain ⟨hs8,hk8,_⟩:=HSET.out _ HBJ7.out vJ;refine HP.out _ ⟨N0 ++ (insO 14 vJ,nilK) :: N1,?_,by rw [← List.append_assoc];exact hs8,HK5.out.trans hk8⟩
  rw [← HVJ7.out];rw [← HR.out];have q0:=HN0.out;have q1:=HN1.out;have q2:=HL0'.out;have q3:=HL1'.out;simp only [List.length_append,List.length_cons,List.length_nil] at q1 q3;have e1:e0+((L.length+N0.length+(0+1):Nat):Int)=e0+(L.length:Int)+((segF S.p sl f m (e0+(L.length:Int))).length:Int)+1:=by rw [← q2];omega
  rw [e1] at q1 q3
  have e2:e0+(((L ++ N0).length+N1.length+1:Nat):Int)=e0+(L.length:Int)+((segF S.p sl f m (e0+(L.length:Int))).length:Int)+1+((segF S.p sl f k (e0+(L.length:Int)+((segF S.p sl f m (e0+(L.length:Int))).length:Int)+1)).length:Int):=by
   rw [← q3,← q2,List.length_append];omega
  simp only [ctlF,List.map_append,List.map_cons,List.map_nil,List.getD_cons_zero,List.getD_cons_succ,Int.toNat_natCast,List.length_cons,List.length_nil];rw [if_neg (by decide),if_neg (by decide),q0,q1,e2];simp only [List.append_assoc,List.cons_append,List.nil_append,List.singleton_append]
set_option maxHeartbeats 16000000 in
theorem tloop_s (w0:World) (S:ProgS) (sA:Option Addr) (sc gW:Nat) (e0:Int) (sl:List Int) (f:Nat) (hw:NodeT w0 S sA sc gW e0 sl f) (n:NodeD) (kA iA:Option Addr) (kc ic s i:Nat) (L:List (InsD × Value)) (w:World) (a b:Int)
  (hk:n.kind=16) (hks:n.kids=[a,b]) (hc:Cover S.p.nodes f n.kids s i) (hil:i≤S.p.nodes.length) (hi:IntsV w0 (.slice iA n.kids.length ic) n.kids) (h:TrSt w0 w S sA sl.length sc gW e0 L) (hL:L.length+6 * (i+1 - s)≤90000) (he:0≤e0∧e0≤4000) :
  Calls prog 69 #[.pointer (some ⟨gW,0,none⟩),.agg (nodeC n kA kc iA ic)] w fun r w'=>r=.returned (.tuple #[])∧WroteT w0 S sA sl.length sc gW e0 L (ctlF (segF S.p sl f) n.kind n.kids (e0+L.length)) w w':=by
 obtain ⟨R,hR⟩:∃ R,ctlF (segF S.p sl f) n.kind n.kids (e0+L.length)=R:=⟨_,rfl⟩
 rw [hR];obtain ⟨P,hP⟩:∃ P:Ending→World→Prop,(fun r w'=>r=.returned (.tuple #[])∧WroteT w0 S sA sl.length sc gW e0 L R w w')=P:=⟨_,rfl⟩
 rw [hP];have HP:Hid (∀ w',WroteT w0 S sA sl.length sc gW e0 L R w w'→P (.returned (.tuple #[])) w'):=hZz (fun w' h1=>by rw [← hP];exact ⟨rfl,h1⟩);unfold nodeC;rw [hks] at hc hi hR ⊢;rw [hk] at hR ⊢;obtain ⟨m,k,rfl,rfl,hik,hmk,f0,f1⟩:=hc.two';obtain ⟨bI,offI,rfl,hbI,ck0,ck1⟩:=hi.cells2;have HKC:Hid (∀ wx,Below w0.heap.size w0 wx→wx.cell? ⟨bI,offI,none⟩=some (.int .i64 m)∧wx.cell? ⟨bI,offI+1,none⟩=some (.int .i64 k)):=hZz (fun wx hb=>⟨(hb.cell hbI).trans ck0,(hb.cell hbI).trans ck1⟩);have g0:=zaaY f0;have hl0:=fun b=>zaqY S.p sl f m s b f0
 have hl1:=fun b=>zaqY S.p sl f k (m+1) b f1
 have HF0:=hZz f0;have HF1:=hZz f1;have HL0:=hZz hl0;have HL1:=hZz hl1;have HR:=hZz hR;have HW:=hZz hw;have HE:=hZz he;have HB:Hid ((s≤m∧m+1≤k)∧k+1≤S.p.nodes.length∧L.length+6 * (k+2 - s)≤90000):=hZz (by omega);have HH:=hZz h;generalize n.text=nt;generalize n.int=ni;generalize n.keys.length=q;show Calls _ _ #[_,.agg #[.int .i64 16,.string nt,.int .i64 ni,.slice kA q kc,.slice (some ⟨bI,offI,none⟩) 2 ic]] w P;obtain ⟨g,hg⟩:∃ g,w.heap.size=g:=⟨_,rfl⟩
 obtain ⟨W1,hW1⟩:∃ W,w.alloc (.cells #[.int .i64 16,.string nt,.int .i64 ni,.slice kA q kc,.slice (some ⟨bI,offI,none⟩) 2 ic] 58)=W:=⟨_,rfl⟩
 have hlt:gW<w.heap.size:=by obtain ⟨iv,q,_⟩:=h.wr;exact q.lt
 have HNE:Hid (g≠gW):=hZz (by omega);have HX2:Hid (Blk W1 g 58 #[.int .i64 16,.string nt,.int .i64 ni,.slice kA q kc,.slice (some ⟨bI,offI,none⟩) 2 ic]):=hZz (by rw [← hW1,← hg];exact Blk.new _ _ _);have HB1:Hid (Below w.heap.size w W1):=hZz (by rw [← hW1];exact zacZ _ _);have HS2:=hZz (h.below HB1.out);have HK2:=hZz (h.kw HB1.out);have HG:=hZz hg;have HW1:=hZz hW1;clear hR hP hw he h hg hW1 hlt hc hi hk hks hil hL hik hbI ck0 ck1 f0 f1 g0 hl0 hl1 hmk;go_enter func69,ntmps69
 go_upto_region 1 with fail
 rw [HG.out,HW1.out];clear HG HW1;have HC0:=hZz (zb7Y w0 S sA sl.length sc gW e0 L W1 HS2.out HE.out (by have:=HB.out;(try simp only [List.length_append,List.length_cons,List.length_nil]);omega))
 go_upto_region 2 with (first
  | (go_at_call 102;(with_reducible refine HC0.out.mono ?_);rintro e w9 ⟨rfl,hq⟩;have HQ:=hZz hq;clear hq))
 have HB2:Hid (Below W1.heap.size W1 w9):=hZz (by obtain ⟨q,rfl⟩:=HQ.out;exact zaeZ (Below.refl _ _) _);have HS9:=hZz (HS2.out.below HB2.out);have HK9:=hZz (HK2.out.trans (HS2.out.kw HB2.out));have HX9:=hZz (HX2.out.below HB2.out);have x_3:=blk5n HX9.out;have y_3:=HKC.out _ HS9.out.bl;have HC_3:=hZz (HW.out m s (L) w9 HF0.out (by have:=HB.out;omega) HS9.out (by have:=HB.out;(try simp only [List.length_append,List.length_cons,List.length_nil]);omega))
 go_upto_region 3 with (first
  | (go_at_call 44;(with_reducible refine HC_3.out.mono ?_);rintro e w3 ⟨rfl,hw3⟩;have HW_3:=hZz hw3;clear hw3))
 obtain ⟨N0,n0,l0,s3,k3⟩:=HW_3.out.st;have HN0:=hZz n0;have b0:=HL0.out (e0+(L).length);rw [← l0] at b0;have HS3:=hZz s3;have HK3:=hZz (HK9.out.trans k3);have HX3:=hZz (k3.blk HX9.out HNE.out (by decide));have HL0':=hZz l0;have HB0':=hZz b0;clear n0 l0 s3 k3 b0 x_3 y_3;have HC_4:=hZz (zacY w0 S sA sl.length sc gW e0 (L ++ N0) w3 14 (0) ⟨#[]⟩ HS3.out (by have:=HB.out;have:=HB0'.out;(try simp only [List.length_append,List.length_cons,List.length_nil]);omega));obtain ⟨ix,hix⟩:∃ t,(L ++ N0).length=t:=⟨_,rfl⟩
 rw [hix] at HC_4;have HIX_ix:=hZz hix;clear hix
 go_upto_region 4 with (first
  | (go_at_call 45;(with_reducible refine HC_4.out.mono ?_);rintro e w4 ⟨rfl,hs4,hk4⟩;have HS4:=hZz hs4;have HK4:=hZz (HK3.out.trans hk4);have HX4:=hZz (hk4.blk HX3.out HNE.out (by decide));clear hs4 hk4))
 have x_5:=blk5n HX4.out;have y_5:=HKC.out _ HS4.out.bl;have HC_5:=hZz (HW.out k (m+1) (L ++ N0 ++ [(insO 14 0,nilK)]) w4 HF1.out (by have:=HB.out;omega) HS4.out (by have:=HB.out;have:=HB0'.out;(try simp only [List.length_append,List.length_cons,List.length_nil]);omega))
 go_upto_region 5 with (first
  | (go_at_call 44;(with_reducible refine HC_5.out.mono ?_);rintro e w5 ⟨rfl,hw3⟩;have HW_5:=hZz hw3;clear hw3))
 obtain ⟨N1,n0,l0,s3,k3⟩:=HW_5.out.st;have HN1:=hZz n0;have b0:=HL1.out (e0+(L ++ N0 ++ [(insO 14 0,nilK)]).length);rw [← l0] at b0;have HS5:=hZz s3;have HK5:=hZz (HK4.out.trans k3);have HX5:=hZz (k3.blk HX4.out HNE.out (by decide));have HL1':=hZz l0;have HB1':=hZz b0;clear n0 l0 s3 k3 b0 x_5 y_5;have HC_6:=hZz (zacY w0 S sA sl.length sc gW e0 (L ++ N0 ++ [(insO 14 0,nilK)] ++ N1) w5 13 (e0+L.length) ⟨#[]⟩ HS5.out (by have:=HB.out;have:=HB0'.out;have:=HB1'.out;(try simp only [List.length_append,List.length_cons,List.length_nil]);omega));obtain ⟨z6,hix⟩:∃ t,(L ++ N0 ++ [(insO 14 0,nilK)] ++ N1).length=t:=⟨_,rfl⟩
 rw [hix] at HC_6;clear hix
 go_upto_region 6 with (first
  | (go_at_call 45;(with_reducible refine HC_6.out.mono ?_);rintro e w6 ⟨rfl,hs4,hk4⟩;have HS6:=hZz hs4;have HK6:=hZz (HK5.out.trans hk4);have HX6:=hZz (hk4.blk HX5.out HNE.out (by decide));clear hs4 hk4))
 have e6:L ++ N0 ++ [(insO 14 0,nilK)] ++ N1 ++ [(⟨13,e0+L.length,⟨#[]⟩,[]⟩,nilK)]=(L ++ N0) ++ (insO 14 0,nilK) :: (N1 ++ [(insO 13 (e0+L.length),nilK)]):=by simp [insO]
 rw [e6] at HS6;clear e6;obtain ⟨gi,ic,d3,da,dz,hset⟩:=HS6.out.jump;have hlJ:(L ++ N0 ++ (insO 14 0,nilK) :: (N1 ++ [(insO 13 (e0+L.length),nilK)])).length=(L ++ N0).length+((N1 ++ [(insO 13 (e0+L.length),nilK)])).length+1:=by rw [List.length_append,List.length_cons];omega
 have hHE:=fun wx (hb:Below w6.heap.size w6 wx)=>zb7Y w0 S sA sl.length sc gW e0 _ wx (HS6.out.below hb) HE.out (by have:=HB.out;have:=HB0'.out;have:=HB1'.out;(try simp only [List.length_append,List.length_cons,List.length_nil]);omega)
 rw [hlJ] at hHE;obtain ⟨vJ,hvJ⟩:∃ t:Int,e0+(((L ++ N0).length+((N1 ++ [(insO 13 (e0+L.length),nilK)])).length+1:Nat):Int)=t:=⟨_,rfl⟩
 rw [hvJ] at hHE;have HVJ7:=hZz hvJ;have hpJ:(L ++ N0).length=ix:=HIX_ix.out;rw [hpJ] at d3 da dz hset;obtain ⟨qJ,hqJ⟩:∃ t,ix+((N1 ++ [(insO 13 (e0+L.length),nilK)])).length+1=t:=⟨_,rfl⟩
 rw [hqJ] at d3 hset;have hpq:(ix:Int)<(qJ:Int):=by omega
 have hp0:(0:Int)≤(ix:Int):=by omega
 have HHE:=hZz hHE;have HSET:=hZz hset;have HFAC:Hid (∀ wx,Below w6.heap.size w6 wx→wx.cell? ⟨gW,3,none⟩=some (.slice (some ⟨gi,0,none⟩) qJ ic)):=hZz (fun wx hb=>(hb.cell (bLZ d3)).trans d3);have HFA2:Hid (∀ wx,Below w6.heap.size w6 wx→wx.cell? ⟨gi,ix * 4+1,none⟩=some (.int .i64 0)∧wx.frozen? ⟨gi,ix * 4+1,none⟩=false):=hZz (fun wx hb=>⟨(hb.cell (bLZ da)).trans da,(hb.frozen (bLZ da)).trans dz⟩);have f0:=HFAC.out _ (Below.refl _ _);have fd:=HFAC.out _ (zadZ w6);clear d3 da dz hset hHE hlJ hvJ hpJ hqJ
 go_region_held3 (fun w'=>w'.cell? ⟨gW,3,none⟩=some (.slice (some ⟨gi,0,none⟩) qJ ic)) (first | with_reducible exact f0 | with_reducible exact fd | with_reducible exact f3 | with_reducible exact f4 _) (first
  | (go_at_call 102;(with_reducible refine (HHE.out _ (zadZ w6)).mono ?_);rintro e w7 ⟨rfl,hw3⟩;have HBJ7:Hid (Below w6.heap.size w6 w7):=hZz (by obtain ⟨q,rfl⟩:=hw3;exact zaeZ (zadZ w6) q);have f3:=HFAC.out _ HBJ7.out;have f4:=fun v=>(HSET.out _ HBJ7.out v).2.2;obtain ⟨d3,z3⟩:=HFA2.out _ HBJ7.out;clear hw3))
 all_goals
  clear f0 fd f3 f4;go_wp2_with (fail)
  first | go_end0 | go_returns | skip
  obtain ⟨hs8,hk8,_⟩:=HSET.out _ HBJ7.out vJ;refine HP.out _ ⟨N0 ++ (insO 14 vJ,nilK) :: (N1 ++ [(insO 13 (e0+L.length),nilK)]),?_,by rw [← List.append_assoc];exact hs8,HK6.out.trans hk8⟩
  rw [← HVJ7.out];rw [← HR.out];have q0:=HN0.out;have q1:=HN1.out;have q2:=HL0'.out;have q3:=HL1'.out;simp only [List.length_append,List.length_cons,List.length_nil] at q1 q3;simp only [ctlF,List.map_append,List.map_cons,List.map_nil,List.getD_cons_zero,List.getD_cons_succ,Int.toNat_natCast,if_pos];have e1:e0+((L.length+N0.length+(0+1):Nat):Int)=e0+(L.length:Int)+((segF S.p sl f m (e0+(L.length:Int))).length:Int)+1:=by rw [← q2];omega
  rw [e1] at q1 q3
  have e2:∀ x:InsD × Value,e0+(((L ++ N0).length+(N1 ++ [x]).length+1:Nat):Int)=e0+(L.length:Int)+((segF S.p sl f m (e0+(L.length:Int))).length:Int)+1+((segF S.p sl f k (e0+(L.length:Int)+((segF S.p sl f m (e0+(L.length:Int))).length:Int)+1)).length:Int)+1:=by
   intro x;rw [← q3,← q2,List.length_append,List.length_append,List.length_singleton];omega
  rw [q0,q1,e2];simp only [List.append_assoc,List.cons_append,List.nil_append,List.singleton_append]
set_option maxHeartbeats 16000000 in
theorem tcho3_s (w0:World) (S:ProgS) (sA:Option Addr) (sc gW:Nat) (e0:Int) (sl:List Int) (f:Nat) (hw:NodeT w0 S sA sc gW e0 sl f) (n:NodeD) (kA iA:Option Addr) (kc ic s i:Nat) (L:List (InsD × Value)) (w:World) (a b c:Int)
  (hk:n.kind=15) (hks:n.kids=[a,b,c]) (hc:Cover S.p.nodes f n.kids s i) (hil:i≤S.p.nodes.length) (hi:IntsV w0 (.slice iA n.kids.length ic) n.kids) (h:TrSt w0 w S sA sl.length sc gW e0 L) (hL:L.length+6 * (i+1 - s)≤90000) (he:0≤e0∧e0≤4000) :
  Calls prog 68 #[.pointer (some ⟨gW,0,none⟩),.agg (nodeC n kA kc iA ic)] w fun r w'=>r=.returned (.tuple #[])∧WroteT w0 S sA sl.length sc gW e0 L (ctlF (segF S.p sl f) n.kind n.kids (e0+L.length)) w w':=by
 obtain ⟨R,hR⟩:∃ R,ctlF (segF S.p sl f) n.kind n.kids (e0+L.length)=R:=⟨_,rfl⟩
 rw [hR];obtain ⟨P,hP⟩:∃ P:Ending→World→Prop,(fun r w'=>r=.returned (.tuple #[])∧WroteT w0 S sA sl.length sc gW e0 L R w w')=P:=⟨_,rfl⟩
 rw [hP];have HP:Hid (∀ w',WroteT w0 S sA sl.length sc gW e0 L R w w'→P (.returned (.tuple #[])) w'):=hZz (fun w' h1=>by rw [← hP];exact ⟨rfl,h1⟩);unfold nodeC;rw [hks] at hc hi hR ⊢;rw [hk] at hR ⊢;obtain ⟨m,k,j,rfl,rfl,rfl,hik,hmk,hkj,f0,f1,f2⟩:=hc.three';obtain ⟨bI,offI,rfl,hbI,ck0,ck1,ck2⟩:=hi.cells3;have HKC:Hid (∀ wx,Below w0.heap.size w0 wx→wx.cell? ⟨bI,offI,none⟩=some (.int .i64 m)∧wx.cell? ⟨bI,offI+1,none⟩=some (.int .i64 k)∧wx.cell? ⟨bI,offI+2,none⟩=some (.int .i64 j)):=hZz (fun wx hb=>⟨(hb.cell hbI).trans ck0,(hb.cell hbI).trans ck1,(hb.cell hbI).trans ck2⟩);have hl2:=fun b=>zaqY S.p sl f j (k+1) b f2
 have HF2:=hZz f2;have HL2:=hZz hl2;have g0:=zaaY f0;have hl0:=fun b=>zaqY S.p sl f m s b f0
 have hl1:=fun b=>zaqY S.p sl f k (m+1) b f1
 have HF0:=hZz f0;have HF1:=hZz f1;have HL0:=hZz hl0;have HL1:=hZz hl1;have HR:=hZz hR;have HW:=hZz hw;have HE:=hZz he;have HB:Hid ((s≤m∧m+1≤k∧k+1≤j)∧j+1≤S.p.nodes.length∧L.length+6 * (j+2 - s)≤90000):=hZz (by omega);have HH:=hZz h;generalize n.text=nt;generalize n.int=ni;generalize n.keys.length=q;show Calls _ _ #[_,.agg #[.int .i64 15,.string nt,.int .i64 ni,.slice kA q kc,.slice (some ⟨bI,offI,none⟩) 3 ic]] w P;obtain ⟨g,hg⟩:∃ g,w.heap.size=g:=⟨_,rfl⟩
 obtain ⟨W1,hW1⟩:∃ W,w.alloc (.cells #[.int .i64 15,.string nt,.int .i64 ni,.slice kA q kc,.slice (some ⟨bI,offI,none⟩) 3 ic] 58)=W:=⟨_,rfl⟩
 have hlt:gW<w.heap.size:=by obtain ⟨iv,q,_⟩:=h.wr;exact q.lt
 have HNE:Hid (g≠gW):=hZz (by omega);have HX2:Hid (Blk W1 g 58 #[.int .i64 15,.string nt,.int .i64 ni,.slice kA q kc,.slice (some ⟨bI,offI,none⟩) 3 ic]):=hZz (by rw [← hW1,← hg];exact Blk.new _ _ _);have HB1:Hid (Below w.heap.size w W1):=hZz (by rw [← hW1];exact zacZ _ _);have HS2:=hZz (h.below HB1.out);have HK2:=hZz (h.kw HB1.out);have HG:=hZz hg;have HW1:=hZz hW1;clear hR hP hw he h hg hW1 hlt hc hi hk hks hil hL hik hbI ck0 ck1 f0 f1 g0 hl0 hl1 ck2 f2 hl2 hkj hmk;go_enter func68,ntmps68
 go_upto_region 1 with fail
 rw [HG.out,HW1.out];clear HG HW1;have x_3:=blk5n HX2.out;have y_3:=HKC.out _ HS2.out.bl;have HC_3:=hZz (HW.out m s (L) W1 HF0.out (by have:=HB.out;omega) HS2.out (by have:=HB.out;(try simp only [List.length_append,List.length_cons,List.length_nil]);omega))
 go_upto_region 2 with (first
  | (go_at_call 44;(with_reducible refine HC_3.out.mono ?_);rintro e w3 ⟨rfl,hw3⟩;have HW_3:=hZz hw3;clear hw3))
 obtain ⟨N0,n0,l0,s3,k3⟩:=HW_3.out.st;have HN0:=hZz n0;have b0:=HL0.out (e0+(L).length);rw [← l0] at b0;have HS3:=hZz s3;have HK3:=hZz (HK2.out.trans k3);have HX3:=hZz (k3.blk HX2.out HNE.out (by decide));have HL0':=hZz l0;have HB0':=hZz b0;clear n0 l0 s3 k3 b0 x_3 y_3;have HC_4:=hZz (zacY w0 S sA sl.length sc gW e0 (L ++ N0) w3 14 (0) ⟨#[]⟩ HS3.out (by have:=HB.out;have:=HB0'.out;(try simp only [List.length_append,List.length_cons,List.length_nil]);omega));obtain ⟨ix,hix⟩:∃ t,(L ++ N0).length=t:=⟨_,rfl⟩
 rw [hix] at HC_4;have HIX_ix:=hZz hix;clear hix
 go_upto_region 3 with (first
  | (go_at_call 45;(with_reducible refine HC_4.out.mono ?_);rintro e w4 ⟨rfl,hs4,hk4⟩;have HS4:=hZz hs4;have HK4:=hZz (HK3.out.trans hk4);have HX4:=hZz (hk4.blk HX3.out HNE.out (by decide));clear hs4 hk4))
 have x_5:=blk5n HX4.out;have y_5:=HKC.out _ HS4.out.bl;have HC_5:=hZz (HW.out k (m+1) (L ++ N0 ++ [(insO 14 0,nilK)]) w4 HF1.out (by have:=HB.out;omega) HS4.out (by have:=HB.out;have:=HB0'.out;(try simp only [List.length_append,List.length_cons,List.length_nil]);omega))
 go_upto_region 4 with (first
  | (go_at_call 44;(with_reducible refine HC_5.out.mono ?_);rintro e w5 ⟨rfl,hw3⟩;have HW_5:=hZz hw3;clear hw3))
 obtain ⟨N1,n0,l0,s3,k3⟩:=HW_5.out.st;have HN1:=hZz n0;have b0:=HL1.out (e0+(L ++ N0 ++ [(insO 14 0,nilK)]).length);rw [← l0] at b0;have HS5:=hZz s3;have HK5:=hZz (HK4.out.trans k3);have HX5:=hZz (k3.blk HX4.out HNE.out (by decide));have HL1':=hZz l0;have HB1':=hZz b0;clear n0 l0 s3 k3 b0 x_5 y_5;have x5:=blk5n HX5.out;go_upto_region 6 with (fail)
 clear x5;have HC_6:=hZz (zacY w0 S sA sl.length sc gW e0 (L ++ N0 ++ [(insO 14 0,nilK)] ++ N1) w5 13 (0) ⟨#[]⟩ HS5.out (by have:=HB.out;have:=HB0'.out;have:=HB1'.out;(try simp only [List.length_append,List.length_cons,List.length_nil]);omega));obtain ⟨iy,hix⟩:∃ t,(L ++ N0 ++ [(insO 14 0,nilK)] ++ N1).length=t:=⟨_,rfl⟩
 rw [hix] at HC_6;have HIX_iy:=hZz hix;clear hix
 go_upto_region 7 with (first
  | (go_at_call 45;(with_reducible refine HC_6.out.mono ?_);rintro e w6 ⟨rfl,hs4,hk4⟩;have HS6:=hZz hs4;have HK6:=hZz (HK5.out.trans hk4);have HX6:=hZz (hk4.blk HX5.out HNE.out (by decide));clear hs4 hk4))
 have e6:L ++ N0 ++ [(insO 14 0,nilK)] ++ N1 ++ [(⟨13,0,⟨#[]⟩,[]⟩,nilK)]=(L ++ N0) ++ (insO 14 0,nilK) :: (N1 ++ [(insO 13 0,nilK)]):=by simp [insO]
 rw [e6] at HS6;clear e6;obtain ⟨gi,ic,d3,da,dz,hset⟩:=HS6.out.jump;have hlJ:(L ++ N0 ++ (insO 14 0,nilK) :: (N1 ++ [(insO 13 0,nilK)])).length=(L ++ N0).length+((N1 ++ [(insO 13 0,nilK)])).length+1:=by rw [List.length_append,List.length_cons];omega
 have hHE:=fun wx (hb:Below w6.heap.size w6 wx)=>zb7Y w0 S sA sl.length sc gW e0 _ wx (HS6.out.below hb) HE.out (by have:=HB.out;have:=HB0'.out;have:=HB1'.out;(try simp only [List.length_append,List.length_cons,List.length_nil]);omega)
 rw [hlJ] at hHE;obtain ⟨v1,hvJ⟩:∃ t:Int,e0+(((L ++ N0).length+((N1 ++ [(insO 13 0,nilK)])).length+1:Nat):Int)=t:=⟨_,rfl⟩
 rw [hvJ] at hHE;have HV1:=hZz hvJ;have hpJ:(L ++ N0).length=ix:=HIX_ix.out;rw [hpJ] at d3 da dz hset;obtain ⟨qJ,hqJ⟩:∃ t,ix+((N1 ++ [(insO 13 0,nilK)])).length+1=t:=⟨_,rfl⟩
 rw [hqJ] at d3 hset;have hpq:(ix:Int)<(qJ:Int):=by omega
 have hp0:(0:Int)≤(ix:Int):=by omega
 have HHE:=hZz hHE;have HSET:=hZz hset;have HFAC:Hid (∀ wx,Below w6.heap.size w6 wx→wx.cell? ⟨gW,3,none⟩=some (.slice (some ⟨gi,0,none⟩) qJ ic)):=hZz (fun wx hb=>(hb.cell (bLZ d3)).trans d3);have HFA2:Hid (∀ wx,Below w6.heap.size w6 wx→wx.cell? ⟨gi,ix * 4+1,none⟩=some (.int .i64 0)∧wx.frozen? ⟨gi,ix * 4+1,none⟩=false):=hZz (fun wx hb=>⟨(hb.cell (bLZ da)).trans da,(hb.frozen (bLZ da)).trans dz⟩);have f0:=HFAC.out _ (Below.refl _ _);have fd:=HFAC.out _ (zadZ w6);clear d3 da dz hset hHE hlJ hvJ hpJ hqJ;go_cut [] from 37 to 46 (fun wx=>TrSt w0 wx S sA sl.length sc gW e0 ((L ++ N0) ++ (insO 14 v1,nilK) :: (N1 ++ [(insO 13 0,nilK)]))∧KW w0.heap.size gW w6 wx)
 case first =>
  go_region_held3 (fun w'=>w'.cell? ⟨gW,3,none⟩=some (.slice (some ⟨gi,0,none⟩) qJ ic)) (first | with_reducible exact f0 | with_reducible exact fd | with_reducible exact f3 | with_reducible exact f4 _) (first
   | (go_at_call 102;(with_reducible refine (HHE.out _ (zadZ w6)).mono ?_);rintro e w7 ⟨rfl,hw3⟩;have HBJ7:Hid (Below w6.heap.size w6 w7):=hZz (by obtain ⟨q,rfl⟩:=hw3;exact zaeZ (zadZ w6) q);have f3:=HFAC.out _ HBJ7.out;have f4:=fun v=>(HSET.out _ HBJ7.out v).2.2;obtain ⟨d3,z3⟩:=HFA2.out _ HBJ7.out;clear hw3))
  all_goals
   clear f0 fd f3 f4;go_wp2_with (fail)
   go_meet
   exact ⟨(HSET.out _ HBJ7.out v1).1,(HSET.out _ HBJ7.out v1).2.1⟩
 case rest =>
  obtain ⟨hs7,hk7⟩:=hcut;have HK7:=hZz (HK6.out.trans hk7);have HX7:=hZz (hk7.blk HX6.out HNE.out (by decide));have e7:(L ++ N0) ++ (insO 14 v1,nilK) :: (N1 ++ [(insO 13 0,nilK)])=(L ++ (N0 ++ (insO 14 v1,nilK) :: N1)) ++ [(insO 13 0,nilK)]:=by simp
  rw [e7] at hs7;have HS7:=hZz hs7;clear hs7 hk7 e7 f0 fd HHE HSET HFAC HFA2 hpq hp0;have x_8:=blk5n HX7.out;have y_8:=HKC.out _ HS7.out.bl;have HC_8:=hZz (HW.out j (k+1) (L ++ (N0 ++ (insO 14 v1,nilK) :: N1) ++ [(insO 13 0,nilK)]) _ HF2.out (by have:=HB.out;omega) HS7.out (by have:=HB.out;have:=HB0'.out;have:=HB1'.out;(try simp only [List.length_append,List.length_cons,List.length_nil]);omega))
  go_upto_region 9 with (first
   | (go_at_call 44;(with_reducible refine HC_8.out.mono ?_);rintro e w8 ⟨rfl,hw3⟩;have HW_8:=hZz hw3;clear hw3))
  obtain ⟨N2,n0,l0,s3,k3⟩:=HW_8.out.st;have HN2:=hZz n0;have b0:=HL2.out (e0+(L ++ (N0 ++ (insO 14 v1,nilK) :: N1) ++ [(insO 13 0,nilK)]).length);rw [← l0] at b0;have HS8:=hZz s3;have HK8:=hZz (HK7.out.trans k3);have HX8:=hZz (k3.blk HX7.out HNE.out (by decide));have HL2':=hZz l0;have HB2':=hZz b0;clear n0 l0 s3 k3 b0 x_8 y_8;have e8:L ++ (N0 ++ (insO 14 v1,nilK) :: N1) ++ [(insO 13 0,nilK)] ++ N2=(L ++ (N0 ++ (insO 14 v1,nilK) :: N1)) ++ (insO 13 0,nilK) :: N2:=by simp
  rw [e8] at HS8;clear e8;obtain ⟨gi,ic,d3,da,dz,hset⟩:=HS8.out.jump;have hlJ:(L ++ (N0 ++ (insO 14 v1,nilK) :: N1) ++ (insO 13 0,nilK) :: N2).length=(L ++ (N0 ++ (insO 14 v1,nilK) :: N1)).length+(N2).length+1:=by rw [List.length_append,List.length_cons];omega
  have hHE:=fun wx (hb:Below w8.heap.size w8 wx)=>zb7Y w0 S sA sl.length sc gW e0 _ wx (HS8.out.below hb) HE.out (by have:=HB.out;have:=HB0'.out;have:=HB1'.out;have:=HB2'.out;(try simp only [List.length_append,List.length_cons,List.length_nil]);omega)
  rw [hlJ] at hHE;obtain ⟨vJ,hvJ⟩:∃ t:Int,e0+(((L ++ (N0 ++ (insO 14 v1,nilK) :: N1)).length+(N2).length+1:Nat):Int)=t:=⟨_,rfl⟩
  rw [hvJ] at hHE;have HVJ9:=hZz hvJ;have hpJ:(L ++ (N0 ++ (insO 14 v1,nilK) :: N1)).length=iy:=(by rw [← HIX_iy.out];simp only [List.length_append,List.length_cons,List.length_nil];omega)
  rw [hpJ] at d3 da dz hset;obtain ⟨qJ,hqJ⟩:∃ t,iy+(N2).length+1=t:=⟨_,rfl⟩
  rw [hqJ] at d3 hset;have hpq:(iy:Int)<(qJ:Int):=by omega
  have hp0:(0:Int)≤(iy:Int):=by omega
  have HHE:=hZz hHE;have HSET:=hZz hset;have HFAC:Hid (∀ wx,Below w8.heap.size w8 wx→wx.cell? ⟨gW,3,none⟩=some (.slice (some ⟨gi,0,none⟩) qJ ic)):=hZz (fun wx hb=>(hb.cell (bLZ d3)).trans d3);have HFA2:Hid (∀ wx,Below w8.heap.size w8 wx→wx.cell? ⟨gi,iy * 4+1,none⟩=some (.int .i64 0)∧wx.frozen? ⟨gi,iy * 4+1,none⟩=false):=hZz (fun wx hb=>⟨(hb.cell (bLZ da)).trans da,(hb.frozen (bLZ da)).trans dz⟩);have f0:=HFAC.out _ (Below.refl _ _);have fd:=HFAC.out _ (zadZ w8);clear d3 da dz hset hHE hlJ hvJ hpJ hqJ
  go_region_held3 (fun w'=>w'.cell? ⟨gW,3,none⟩=some (.slice (some ⟨gi,0,none⟩) qJ ic)) (first | with_reducible exact f0 | with_reducible exact fd | with_reducible exact f3 | with_reducible exact f4 _) (first
   | (go_at_call 102;(with_reducible refine (HHE.out _ (zadZ w8)).mono ?_);rintro e w9 ⟨rfl,hw3⟩;have HBJ9:Hid (Below w8.heap.size w8 w9):=hZz (by obtain ⟨q,rfl⟩:=hw3;exact zaeZ (zadZ w8) q);have f3:=HFAC.out _ HBJ9.out;have f4:=fun v=>(HSET.out _ HBJ9.out v).2.2;obtain ⟨d3,z3⟩:=HFA2.out _ HBJ9.out;clear hw3))
  all_goals
   clear f0 fd f3 f4;go_wp2_with (fail)
   first | go_end0 | go_returns | skip
   obtain ⟨hs8,hk8,_⟩:=HSET.out _ HBJ9.out vJ;refine HP.out _ ⟨(N0 ++ (insO 14 v1,nilK) :: N1) ++ (insO 13 vJ,nilK) :: N2,?_,by rw [← List.append_assoc];exact hs8,HK8.out.trans hk8⟩
   rw [← HVJ9.out];rw [← HR.out];have q0:=HN0.out;have q1:=HN1.out;have q2:=HL0'.out;have q3:=HL1'.out;have q4:=HN2.out;have q5:=HL2'.out;have q6:=HV1.out;simp only [List.length_append,List.length_cons,List.length_nil] at q1 q3 q4 q5 q6;have e1:e0+((L.length+N0.length+(0+1):Nat):Int)=e0+(L.length:Int)+((segF S.p sl f m (e0+(L.length:Int))).length:Int)+1:=by rw [← q2];omega
   rw [e1] at q1 q3
   have e2:v1=e0+(L.length:Int)+((segF S.p sl f m (e0+(L.length:Int))).length:Int)+1+((segF S.p sl f k (e0+(L.length:Int)+((segF S.p sl f m (e0+(L.length:Int))).length:Int)+1)).length:Int)+1:=by
    rw [← q3,← q2];omega
   have e3:e0+((L.length+(N0.length+(N1.length+1))+(0+1):Nat):Int)=e0+(L.length:Int)+((segF S.p sl f m (e0+(L.length:Int))).length:Int)+1+((segF S.p sl f k (e0+(L.length:Int)+((segF S.p sl f m (e0+(L.length:Int))).length:Int)+1)).length:Int)+1:=by
    rw [← q3,← q2];omega
   rw [e3] at q4 q5
   have e4:e0+(((L ++ (N0 ++ (insO 14 v1,nilK) :: N1)).length+N2.length+1:Nat):Int)=e0+(L.length:Int)+((segF S.p sl f m (e0+(L.length:Int))).length:Int)+1+((segF S.p sl f k (e0+(L.length:Int)+((segF S.p sl f m (e0+(L.length:Int))).length:Int)+1)).length:Int)+1+((segF S.p sl f j (e0+(L.length:Int)+((segF S.p sl f m (e0+(L.length:Int))).length:Int)+1+((segF S.p sl f k (e0+(L.length:Int)+((segF S.p sl f m (e0+(L.length:Int))).length:Int)+1)).length:Int)+1)).length:Int):=by
    rw [← q5,← q3,← q2];simp only [List.length_append,List.length_cons];omega
   simp only [ctlF,List.map_append,List.map_cons,List.map_nil,List.getD_cons_zero,List.getD_cons_succ,Int.toNat_natCast,List.length_cons,List.length_nil];rw [if_neg (by decide),if_pos (by decide),q0,q1,q4,e4,← e2];simp only [List.append_assoc,List.cons_append,List.nil_append,List.singleton_append]
end Go.Proofs.YthiimbhjpdphpaaGreatDoor
