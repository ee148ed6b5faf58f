/- U27, U28 -/
import Derived.Test.YthiimbhjpdphpaaGreatDoorPU26
import Derived.Test.YthiimbhjpdphpaaGreatDoorPJD
set_option linter.unusedVariables false
set_option linter.unusedSimpArgs false
namespace Go.Proofs.YthiimbhjpdphpaaGreatDoor
open Go.RowKit
set_option maxRecDepth 100000
open Go.Proofs.Tryz
section
attribute [local go_sem] zabZ
set_option maxHeartbeats 16000000 in
theorem tlog0_s (w0:World) (S:ProgS) (sA:Option Addr) (sc gW:Nat) (e0:Int) (sl:List Int) (f:Nat) (hw:NodeT w0 S sA sc gW e0 sl f) (n:NodeD) (kA iA:Option Addr) (kc ic s i:Nat) (L:List (InsD × Value)) (w:World) (a b:Int)
  (ho:isOr n=false) (hks:n.kids=[a,b]) (hc:Cover S.p.nodes f n.kids s i) (hil:i≤S.p.nodes.length) (hi:IntsV w0 (.slice iA n.kids.length ic) n.kids) (h:TrSt w0 w S sA sl.length sc gW e0 L) (hL:L.length+6 * (i+1 - s)≤90000) (he:0≤e0∧e0≤4000) :
  Calls prog 67 #[.pointer (some ⟨gW,0,none⟩),.agg (nodeC n kA kc iA ic)] w fun r w'=>r=.returned (.tuple #[])∧WroteT w0 S sA sl.length sc gW e0 L (shoF (segF S.p sl f) false n.kids (e0+L.length)) w w':=by
 obtain ⟨R,hR⟩:∃ R,shoF (segF S.p sl f) false n.kids (e0+L.length)=R:=⟨_,rfl⟩
 rw [hR];obtain ⟨P,hP⟩:∃ P:Ending→World→Prop,(fun r w'=>r=.returned (.tuple #[])∧WroteT w0 S sA sl.length sc gW e0 L R w w')=P:=⟨_,rfl⟩
 rw [hP];have HP:Hid (∀ w',WroteT w0 S sA sl.length sc gW e0 L R w w'→P (.returned (.tuple #[])) w'):=hZz (fun w' h1=>by rw [← hP];exact ⟨rfl,h1⟩)
 have ho':(n.text.toList == [111,114])=false:=by
  have:isOr n=(n.text.toList == [111,114]):=by
   unfold isOr;rw [Bool.eq_iff_iff];simp
  rw [← this,ho]
 clear ho;unfold nodeC;rw [hks] at hc hi hR ⊢;obtain ⟨m,k,rfl,rfl,hik,hmk,f0,f1⟩:=hc.two';obtain ⟨bI,offI,rfl,hbI,ck0,ck1⟩:=hi.cells2;have HKC:Hid (∀ wx,Below w0.heap.size w0 wx→wx.cell? ⟨bI,offI,none⟩=some (.int .i64 m)∧wx.cell? ⟨bI,offI+1,none⟩=some (.int .i64 k)):=hZz (fun wx hb=>⟨(hb.cell hbI).trans ck0,(hb.cell hbI).trans ck1⟩);have g0:=zaaY f0;have hl0:=fun b=>zaqY S.p sl f m s b f0
 have hl1:=fun b=>zaqY S.p sl f k (m+1) b f1
 have HF0:=hZz f0;have HF1:=hZz f1;have HL0:=hZz hl0;have HL1:=hZz hl1;have HR:=hZz hR;have HW:=hZz hw;have HE:=hZz he;have HB:Hid ((s≤m∧m+1≤k)∧k+1≤S.p.nodes.length∧L.length+6 * (k+2 - s)≤90000):=hZz (by omega);have HH:=hZz h;generalize n.kind=nk;generalize n.text=nt at ho' ⊢;generalize n.int=ni;generalize n.keys.length=q;have HO:=hZz ho';clear ho';show Calls _ _ #[_,.agg #[.int .i64 nk,.string nt,.int .i64 ni,.slice kA q kc,.slice (some ⟨bI,offI,none⟩) 2 ic]] w P;obtain ⟨g,hg⟩:∃ g,w.heap.size=g:=⟨_,rfl⟩
 obtain ⟨W1,hW1⟩:∃ W,w.alloc (.cells #[.int .i64 nk,.string nt,.int .i64 ni,.slice kA q kc,.slice (some ⟨bI,offI,none⟩) 2 ic] 58)=W:=⟨_,rfl⟩
 have hlt:gW<w.heap.size:=by obtain ⟨iv,q,_⟩:=h.wr;exact q.lt
 have HNE:Hid (g≠gW):=hZz (by omega);have HX2:Hid (Blk W1 g 58 #[.int .i64 nk,.string nt,.int .i64 ni,.slice kA q kc,.slice (some ⟨bI,offI,none⟩) 2 ic]):=hZz (by rw [← hW1,← hg];exact Blk.new _ _ _);have HB1:Hid (Below w.heap.size w W1):=hZz (by rw [← hW1];exact zacZ _ _);have HS2:=hZz (h.below HB1.out);have HK2:=hZz (h.kw HB1.out);have HG:=hZz hg;have HW1:=hZz hW1;clear hR hP hw he h hg hW1 hlt hc hi hks hil hL hik hbI ck0 ck1 f0 f1 g0 hl0 hl1 hmk;go_enter func67,ntmps67
 go_upto_region 1 with fail
 rw [HG.out,HW1.out];clear HG HW1;have x_3:=blk5n HX2.out;have y_3:=HKC.out _ HS2.out.bl;have HC_3:=hZz (HW.out m s (L) W1 HF0.out (by have:=HB.out;omega) HS2.out (by have:=HB.out;(try simp only [List.length_append,List.length_cons,List.length_nil]);omega))
 go_upto_region 2 with (first
  | (go_at_call 44;(with_reducible refine HC_3.out.mono ?_);rintro e w3 ⟨rfl,hw3⟩;have HW_3:=hZz hw3;clear hw3))
 obtain ⟨N0,n0,l0,s3,k3⟩:=HW_3.out.st;have HN0:=hZz n0;have b0:=HL0.out (e0+(L).length);rw [← l0] at b0;have HS3:=hZz s3;have HK3:=hZz (HK2.out.trans k3);have HX3:=hZz (k3.blk HX2.out HNE.out (by decide));have HL0':=hZz l0;have HB0':=hZz b0;clear n0 l0 s3 k3 b0 x_3 y_3;have HC_4:=hZz (zacY w0 S sA sl.length sc gW e0 (L ++ N0) w3 15 (0) ⟨#[]⟩ HS3.out (by have:=HB.out;have:=HB0'.out;(try simp only [List.length_append,List.length_cons,List.length_nil]);omega));obtain ⟨z4,hix⟩:∃ t,(L ++ N0).length=t:=⟨_,rfl⟩
 rw [hix] at HC_4;clear hix
 go_upto_region 3 with (first
  | (go_at_call 45;(with_reducible refine HC_4.out.mono ?_);rintro e w4 ⟨rfl,hs4,hk4⟩;have HS4:=hZz hs4;have HK4:=hZz (HK3.out.trans hk4);have HX4:=hZz (hk4.blk HX3.out HNE.out (by decide));clear hs4 hk4))
 have HC_5:=hZz (zacY w0 S sA sl.length sc gW e0 (L ++ N0 ++ [(insO 15 0,nilK)]) w4 16 (0) ⟨#[]⟩ HS4.out (by have:=HB.out;have:=HB0'.out;(try simp only [List.length_append,List.length_cons,List.length_nil]);omega));obtain ⟨z5,hix⟩:∃ t,(L ++ N0 ++ [(insO 15 0,nilK)]).length=t:=⟨_,rfl⟩
 rw [hix] at HC_5;clear hix
 go_upto_region 4 with (first
  | (go_at_call 45;(with_reducible refine HC_5.out.mono ?_);rintro e w5 ⟨rfl,hs4,hk4⟩;have HS5:=hZz hs4;have HK5:=hZz (HK4.out.trans hk4);have HX5:=hZz (hk4.blk HX4.out HNE.out (by decide));clear hs4 hk4))
 have ho2:=HO.out;have x5:=blk5n HX5.out;go_upto_region 6 with (fail)
 clear x5 ho2;obtain ⟨M,hM⟩:∃ M:List (InsD × Value),[(insO 15 0,nilK),(insO 16 0,nilK)]=M:=⟨_,rfl⟩
 have e5:L ++ N0 ++ [(insO 15 0,nilK)] ++ [(⟨16,0,⟨#[]⟩,[]⟩,nilK)]=L ++ N0 ++ M:=by rw [← hM];simp [insO]
 obtain ⟨w6,hw6⟩:∃ W,w5=W:=⟨_,rfl⟩
 have HS6:=HS5;have HK6:=HK5;have HX6:=HX5;rw [e5,hw6] at HS6;rw [hw6] at HK6 HX6 ⊢;clear e5 hw6;have HMF:Hid (M.map Prod.fst=[insO 15 0,insO 16 0]∧M.length=2):=hZz (by rw [← hM];exact ⟨rfl,rfl⟩);clear hM;have HC_7:=hZz (zacY w0 S sA sl.length sc gW e0 (L ++ N0 ++ M) w6 14 (0) ⟨#[]⟩ HS6.out (by have:=HB.out;have:=HB0'.out;have:=HMF.out.2;(try simp only [List.length_append,List.length_cons,List.length_nil]);omega));obtain ⟨ix,hix⟩:∃ t,(L ++ N0 ++ M).length=t:=⟨_,rfl⟩
 rw [hix] at HC_7;have HIX_ix:=hZz hix;clear hix
 go_upto_region 7 with (first
  | (go_at_call 45;(with_reducible refine HC_7.out.mono ?_);rintro e w7 ⟨rfl,hs4,hk4⟩;have HS7:=hZz hs4;have HK7:=hZz (HK6.out.trans hk4);have HX7:=hZz (hk4.blk HX6.out HNE.out (by decide));clear hs4 hk4))
 have HC_8:=hZz (zacY w0 S sA sl.length sc gW e0 (L ++ N0 ++ M ++ [(insO 14 0,nilK)]) w7 7 (0) ⟨#[]⟩ HS7.out (by have:=HB.out;have:=HB0'.out;have:=HMF.out.2;(try simp only [List.length_append,List.length_cons,List.length_nil]);omega));obtain ⟨z8,hix⟩:∃ t,(L ++ N0 ++ M ++ [(insO 14 0,nilK)]).length=t:=⟨_,rfl⟩
 rw [hix] at HC_8;clear hix
 go_upto_region 8 with (first
  | (go_at_call 45;(with_reducible refine HC_8.out.mono ?_);rintro e w8 ⟨rfl,hs4,hk4⟩;have HS8:=hZz hs4;have HK8:=hZz (HK7.out.trans hk4);have HX8:=hZz (hk4.blk HX7.out HNE.out (by decide));clear hs4 hk4))
 have e7:L ++ N0 ++ M ++ [(insO 14 0,nilK)] ++ [(⟨7,0,⟨#[]⟩,[]⟩,nilK)]=L ++ N0 ++ M ++ [(insO 14 0,nilK),(insO 7 0,nilK)]:=by simp [insO]
 rw [e7] at HS8;clear e7;have x_9:=blk5n HX8.out;have y_9:=HKC.out _ HS8.out.bl;have HC_9:=hZz (HW.out k (m+1) (L ++ N0 ++ M ++ [(insO 14 0,nilK),(insO 7 0,nilK)]) w8 HF1.out (by have:=HB.out;omega) HS8.out (by have:=HB.out;have:=HB0'.out;have:=HMF.out.2;(try simp only [List.length_append,List.length_cons,List.length_nil]);omega))
 go_upto_region 9 with (first
  | (go_at_call 44;(with_reducible refine HC_9.out.mono ?_);rintro e w9 ⟨rfl,hw3⟩;have HW_9:=hZz hw3;clear hw3))
 obtain ⟨N1,n0,l0,s3,k3⟩:=HW_9.out.st;have HN1:=hZz n0;have b0:=HL1.out (e0+(L ++ N0 ++ M ++ [(insO 14 0,nilK),(insO 7 0,nilK)]).length);rw [← l0] at b0;have HS9:=hZz s3;have HK9:=hZz (HK8.out.trans k3);have HX9:=hZz (k3.blk HX8.out HNE.out (by decide));have HL1':=hZz l0;have HB1':=hZz b0;clear n0 l0 s3 k3 b0 x_9 y_9;have HC_10:=hZz (zacY w0 S sA sl.length sc gW e0 (L ++ N0 ++ M ++ [(insO 14 0,nilK),(insO 7 0,nilK)] ++ N1) w9 15 (0) ⟨#[]⟩ HS9.out (by have:=HB.out;have:=HB0'.out;have:=HB1'.out;have:=HMF.out.2;(try simp only [List.length_append,List.length_cons,List.length_nil]);omega));obtain ⟨z10,hix⟩:∃ t,(L ++ N0 ++ M ++ [(insO 14 0,nilK),(insO 7 0,nilK)] ++ N1).length=t:=⟨_,rfl⟩
 rw [hix] at HC_10;clear hix
 go_upto_region 10 with (first
  | (go_at_call 45;(with_reducible refine HC_10.out.mono ?_);rintro e w10 ⟨rfl,hs4,hk4⟩;have HS10:=hZz hs4;have HK10:=hZz (HK9.out.trans hk4);have HX10:=hZz (hk4.blk HX9.out HNE.out (by decide));clear hs4 hk4))
 have e9:L ++ N0 ++ M ++ [(insO 14 0,nilK),(insO 7 0,nilK)] ++ N1 ++ [(⟨15,0,⟨#[]⟩,[]⟩,nilK)]=(L ++ N0 ++ M) ++ (insO 14 0,nilK) :: ((insO 7 0,nilK) :: N1 ++ [(insO 15 0,nilK)]):=by simp [insO]
 rw [e9] at HS10;clear e9;obtain ⟨gi,ic,d3,da,dz,hset⟩:=HS10.out.jump;have hlJ:(L ++ N0 ++ M ++ (insO 14 0,nilK) :: ((insO 7 0,nilK) :: N1 ++ [(insO 15 0,nilK)])).length=(L ++ N0 ++ M).length+(((insO 7 0,nilK) :: N1 ++ [(insO 15 0,nilK)])).length+1:=by rw [List.length_append,List.length_cons];omega
 have hHE:=fun wx (hb:Below w10.heap.size w10 wx)=>zb7Y w0 S sA sl.length sc gW e0 _ wx (HS10.out.below hb) HE.out (by have:=HB.out;have:=HB0'.out;have:=HB1'.out;have:=HMF.out.2;(try simp only [List.length_append,List.length_cons,List.length_nil]);omega)
 rw [hlJ] at hHE;obtain ⟨vJ,hvJ⟩:∃ t:Int,e0+(((L ++ N0 ++ M).length+(((insO 7 0,nilK) :: N1 ++ [(insO 15 0,nilK)])).length+1:Nat):Int)=t:=⟨_,rfl⟩
 rw [hvJ] at hHE;have HVJ11:=hZz hvJ;have hpJ:(L ++ N0 ++ M).length=ix:=HIX_ix.out;rw [hpJ] at d3 da dz hset;obtain ⟨qJ,hqJ⟩:∃ t,ix+(((insO 7 0,nilK) :: N1 ++ [(insO 15 0,nilK)])).length+1=t:=⟨_,rfl⟩
 rw [hqJ] at d3 hset;have hpq:(ix:Int)<(qJ:Int):=by omega
 have hp0:(0:Int)≤(ix:Int):=by omega
 have HHE:=hZz hHE;have HSET:=hZz hset;have HFAC:Hid (∀ wx,Below w10.heap.size w10 wx→wx.cell? ⟨gW,3,none⟩=some (.slice (some ⟨gi,0,none⟩) qJ ic)):=hZz (fun wx hb=>(hb.cell (bLZ d3)).trans d3);have HFA2:Hid (∀ wx,Below w10.heap.size w10 wx→wx.cell? ⟨gi,ix * 4+1,none⟩=some (.int .i64 0)∧wx.frozen? ⟨gi,ix * 4+1,none⟩=false):=hZz (fun wx hb=>⟨(hb.cell (bLZ da)).trans da,(hb.frozen (bLZ da)).trans dz⟩);have f0:=HFAC.out _ (Below.refl _ _);have fd:=HFAC.out _ (zadZ w10);clear d3 da dz hset hHE hlJ hvJ hpJ hqJ
 go_region_held3 (fun w'=>w'.cell? ⟨gW,3,none⟩=some (.slice (some ⟨gi,0,none⟩) qJ ic)) (first | with_reducible exact f0 | with_reducible exact fd | with_reducible exact f3 | with_reducible exact f4 _) (first
  | (go_at_call 102;(with_reducible refine (HHE.out _ (zadZ w10)).mono ?_);rintro e w11 ⟨rfl,hw3⟩;have HBJ11:Hid (Below w10.heap.size w10 w11):=hZz (by obtain ⟨q,rfl⟩:=hw3;exact zaeZ (zadZ w10) q);have f3:=HFAC.out _ HBJ11.out;have f4:=fun v=>(HSET.out _ HBJ11.out v).2.2;obtain ⟨d3,z3⟩:=HFA2.out _ HBJ11.out;clear hw3))
 all_goals
  clear f0 fd f3 f4;go_wp2_with (fail)
  first | go_end0 | go_returns | skip
  obtain ⟨hs8,hk8,_⟩:=HSET.out _ HBJ11.out vJ;refine HP.out _ ⟨N0 ++ M ++ (insO 14 vJ,nilK) :: ((insO 7 0,nilK) :: N1 ++ [(insO 15 0,nilK)]),?_,by rw [← List.append_assoc,← List.append_assoc];exact hs8,HK10.out.trans hk8⟩
  rw [← HVJ11.out];rw [← HR.out];have q0:=HN0.out;have q1:=HN1.out;have q2:=HL0'.out;have q3:=HL1'.out;have q4:=HMF.out.1;have q5:=HMF.out.2;simp only [List.length_append,List.length_cons,List.length_nil,q5] at q1 q3;have e1:e0+((L.length+N0.length+2+(0+1+1):Nat):Int)=e0+(L.length:Int)+((segF S.p sl f m (e0+(L.length:Int))).length:Int)+2+2:=by rw [← q2];omega
  rw [e1] at q1 q3
  have e2:e0+(((L ++ N0 ++ M).length+((insO 7 0,nilK) :: N1 ++ [(insO 15 0,nilK)]).length+1:Nat):Int)=e0+(L.length:Int)+((segF S.p sl f m (e0+(L.length:Int))).length:Int)+2+2+((segF S.p sl f k (e0+(L.length:Int)+((segF S.p sl f m (e0+(L.length:Int))).length:Int)+2+2)).length:Int)+1:=by
   rw [← q3,← q2];simp only [List.length_append,List.length_cons,List.length_nil,q5];omega
  rw [e2];simp only [shoF,List.map_append,List.map_cons,List.map_nil,List.getD_cons_zero,List.getD_cons_succ,Int.toNat_natCast];rw [q0,q1,q4];simp
set_option maxHeartbeats 16000000 in
theorem tlog1_s (w0:World) (S:ProgS) (sA:Option Addr) (sc gW:Nat) (e0:Int) (sl:List Int) (f:Nat) (hw:NodeT w0 S sA sc gW e0 sl f) (n:NodeD) (kA iA:Option Addr) (kc ic s i:Nat) (L:List (InsD × Value)) (w:World) (a b:Int)
  (ho:isOr n=true) (hks:n.kids=[a,b]) (hc:Cover S.p.nodes f n.kids s i) (hil:i≤S.p.nodes.length) (hi:IntsV w0 (.slice iA n.kids.length ic) n.kids) (h:TrSt w0 w S sA sl.length sc gW e0 L) (hL:L.length+6 * (i+1 - s)≤90000) (he:0≤e0∧e0≤4000) :
  Calls prog 67 #[.pointer (some ⟨gW,0,none⟩),.agg (nodeC n kA kc iA ic)] w fun r w'=>r=.returned (.tuple #[])∧WroteT w0 S sA sl.length sc gW e0 L (shoF (segF S.p sl f) true n.kids (e0+L.length)) w w':=by
 obtain ⟨R,hR⟩:∃ R,shoF (segF S.p sl f) true n.kids (e0+L.length)=R:=⟨_,rfl⟩
 rw [hR];obtain ⟨P,hP⟩:∃ P:Ending→World→Prop,(fun r w'=>r=.returned (.tuple #[])∧WroteT w0 S sA sl.length sc gW e0 L R w w')=P:=⟨_,rfl⟩
 rw [hP];have HP:Hid (∀ w',WroteT w0 S sA sl.length sc gW e0 L R w w'→P (.returned (.tuple #[])) w'):=hZz (fun w' h1=>by rw [← hP];exact ⟨rfl,h1⟩)
 have ho':(n.text.toList == [111,114])=true:=by
  have:isOr n=(n.text.toList == [111,114]):=by
   unfold isOr;rw [Bool.eq_iff_iff];simp
  rw [← this,ho]
 clear ho;unfold nodeC;rw [hks] at hc hi hR ⊢;obtain ⟨m,k,rfl,rfl,hik,hmk,f0,f1⟩:=hc.two';obtain ⟨bI,offI,rfl,hbI,ck0,ck1⟩:=hi.cells2;have HKC:Hid (∀ wx,Below w0.heap.size w0 wx→wx.cell? ⟨bI,offI,none⟩=some (.int .i64 m)∧wx.cell? ⟨bI,offI+1,none⟩=some (.int .i64 k)):=hZz (fun wx hb=>⟨(hb.cell hbI).trans ck0,(hb.cell hbI).trans ck1⟩);have g0:=zaaY f0;have hl0:=fun b=>zaqY S.p sl f m s b f0
 have hl1:=fun b=>zaqY S.p sl f k (m+1) b f1
 have HF0:=hZz f0;have HF1:=hZz f1;have HL0:=hZz hl0;have HL1:=hZz hl1;have HR:=hZz hR;have HW:=hZz hw;have HE:=hZz he;have HB:Hid ((s≤m∧m+1≤k)∧k+1≤S.p.nodes.length∧L.length+6 * (k+2 - s)≤90000):=hZz (by omega);have HH:=hZz h;generalize n.kind=nk;generalize n.text=nt at ho' ⊢;generalize n.int=ni;generalize n.keys.length=q;have HO:=hZz ho';clear ho';show Calls _ _ #[_,.agg #[.int .i64 nk,.string nt,.int .i64 ni,.slice kA q kc,.slice (some ⟨bI,offI,none⟩) 2 ic]] w P;obtain ⟨g,hg⟩:∃ g,w.heap.size=g:=⟨_,rfl⟩
 obtain ⟨W1,hW1⟩:∃ W,w.alloc (.cells #[.int .i64 nk,.string nt,.int .i64 ni,.slice kA q kc,.slice (some ⟨bI,offI,none⟩) 2 ic] 58)=W:=⟨_,rfl⟩
 have hlt:gW<w.heap.size:=by obtain ⟨iv,q,_⟩:=h.wr;exact q.lt
 have HNE:Hid (g≠gW):=hZz (by omega);have HX2:Hid (Blk W1 g 58 #[.int .i64 nk,.string nt,.int .i64 ni,.slice kA q kc,.slice (some ⟨bI,offI,none⟩) 2 ic]):=hZz (by rw [← hW1,← hg];exact Blk.new _ _ _);have HB1:Hid (Below w.heap.size w W1):=hZz (by rw [← hW1];exact zacZ _ _);have HS2:=hZz (h.below HB1.out);have HK2:=hZz (h.kw HB1.out);have HG:=hZz hg;have HW1:=hZz hW1;clear hR hP hw he h hg hW1 hlt hc hi hks hil hL hik hbI ck0 ck1 f0 f1 g0 hl0 hl1 hmk;go_enter func67,ntmps67
 go_upto_region 1 with fail
 rw [HG.out,HW1.out];clear HG HW1;have x_3:=blk5n HX2.out;have y_3:=HKC.out _ HS2.out.bl;have HC_3:=hZz (HW.out m s (L) W1 HF0.out (by have:=HB.out;omega) HS2.out (by have:=HB.out;(try simp only [List.length_append,List.length_cons,List.length_nil]);omega))
 go_upto_region 2 with (first
  | (go_at_call 44;(with_reducible refine HC_3.out.mono ?_);rintro e w3 ⟨rfl,hw3⟩;have HW_3:=hZz hw3;clear hw3))
 obtain ⟨N0,n0,l0,s3,k3⟩:=HW_3.out.st;have HN0:=hZz n0;have b0:=HL0.out (e0+(L).length);rw [← l0] at b0;have HS3:=hZz s3;have HK3:=hZz (HK2.out.trans k3);have HX3:=hZz (k3.blk HX2.out HNE.out (by decide));have HL0':=hZz l0;have HB0':=hZz b0;clear n0 l0 s3 k3 b0 x_3 y_3;have HC_4:=hZz (zacY w0 S sA sl.length sc gW e0 (L ++ N0) w3 15 (0) ⟨#[]⟩ HS3.out (by have:=HB.out;have:=HB0'.out;(try simp only [List.length_append,List.length_cons,List.length_nil]);omega));obtain ⟨z4,hix⟩:∃ t,(L ++ N0).length=t:=⟨_,rfl⟩
 rw [hix] at HC_4;clear hix
 go_upto_region 3 with (first
  | (go_at_call 45;(with_reducible refine HC_4.out.mono ?_);rintro e w4 ⟨rfl,hs4,hk4⟩;have HS4:=hZz hs4;have HK4:=hZz (HK3.out.trans hk4);have HX4:=hZz (hk4.blk HX3.out HNE.out (by decide));clear hs4 hk4))
 have HC_5:=hZz (zacY w0 S sA sl.length sc gW e0 (L ++ N0 ++ [(insO 15 0,nilK)]) w4 16 (0) ⟨#[]⟩ HS4.out (by have:=HB.out;have:=HB0'.out;(try simp only [List.length_append,List.length_cons,List.length_nil]);omega));obtain ⟨z5,hix⟩:∃ t,(L ++ N0 ++ [(insO 15 0,nilK)]).length=t:=⟨_,rfl⟩
 rw [hix] at HC_5;clear hix
 go_upto_region 4 with (first
  | (go_at_call 45;(with_reducible refine HC_5.out.mono ?_);rintro e w5 ⟨rfl,hs4,hk4⟩;have HS5:=hZz hs4;have HK5:=hZz (HK4.out.trans hk4);have HX5:=hZz (hk4.blk HX4.out HNE.out (by decide));clear hs4 hk4))
 have ho2:=HO.out;have x5:=blk5n HX5.out;go_upto_region 5 with (fail)
 clear x5 ho2;have HC_6:=hZz (zacY w0 S sA sl.length sc gW e0 (L ++ N0 ++ [(insO 15 0,nilK)] ++ [(insO 16 0,nilK)]) w5 8 (0) ⟨#[110,111,116]⟩ HS5.out (by have:=HB.out;have:=HB0'.out;(try simp only [List.length_append,List.length_cons,List.length_nil]);omega));obtain ⟨z6,hix⟩:∃ t,(L ++ N0 ++ [(insO 15 0,nilK)] ++ [(insO 16 0,nilK)]).length=t:=⟨_,rfl⟩
 rw [hix] at HC_6;clear hix
 go_upto_region 6 with (first
  | (go_at_call 45;(with_reducible refine HC_6.out.mono ?_);rintro e w6 ⟨rfl,hs4,hk4⟩;have HS6:=hZz hs4;have HK6:=hZz (HK5.out.trans hk4);have HX6:=hZz (hk4.blk HX5.out HNE.out (by decide));clear hs4 hk4))
 obtain ⟨M,hM⟩:∃ M:List (InsD × Value),[(insO 15 0,nilK),(insO 16 0,nilK),(insT 8 notS,nilK)]=M:=⟨_,rfl⟩
 have e5:L ++ N0 ++ [(insO 15 0,nilK)] ++ [(insO 16 0,nilK)] ++ [(⟨8,0,⟨#[110,111,116]⟩,[]⟩,nilK)]=L ++ N0 ++ M:=by rw [← hM];simp [insT,insO,notS]
 rw [e5] at HS6;clear e5;have HMF:Hid (M.map Prod.fst=[insO 15 0,insO 16 0,insT 8 notS]∧M.length=3):=hZz (by rw [← hM];exact ⟨rfl,rfl⟩);clear hM;have HC_7:=hZz (zacY w0 S sA sl.length sc gW e0 (L ++ N0 ++ M) w6 14 (0) ⟨#[]⟩ HS6.out (by have:=HB.out;have:=HB0'.out;have:=HMF.out.2;(try simp only [List.length_append,List.length_cons,List.length_nil]);omega));obtain ⟨ix,hix⟩:∃ t,(L ++ N0 ++ M).length=t:=⟨_,rfl⟩
 rw [hix] at HC_7;have HIX_ix:=hZz hix;clear hix
 go_upto_region 7 with (first
  | (go_at_call 45;(with_reducible refine HC_7.out.mono ?_);rintro e w7 ⟨rfl,hs4,hk4⟩;have HS7:=hZz hs4;have HK7:=hZz (HK6.out.trans hk4);have HX7:=hZz (hk4.blk HX6.out HNE.out (by decide));clear hs4 hk4))
 have HC_8:=hZz (zacY w0 S sA sl.length sc gW e0 (L ++ N0 ++ M ++ [(insO 14 0,nilK)]) w7 7 (0) ⟨#[]⟩ HS7.out (by have:=HB.out;have:=HB0'.out;have:=HMF.out.2;(try simp only [List.length_append,List.length_cons,List.length_nil]);omega));obtain ⟨z8,hix⟩:∃ t,(L ++ N0 ++ M ++ [(insO 14 0,nilK)]).length=t:=⟨_,rfl⟩
 rw [hix] at HC_8;clear hix
 go_upto_region 8 with (first
  | (go_at_call 45;(with_reducible refine HC_8.out.mono ?_);rintro e w8 ⟨rfl,hs4,hk4⟩;have HS8:=hZz hs4;have HK8:=hZz (HK7.out.trans hk4);have HX8:=hZz (hk4.blk HX7.out HNE.out (by decide));clear hs4 hk4))
 have e7:L ++ N0 ++ M ++ [(insO 14 0,nilK)] ++ [(⟨7,0,⟨#[]⟩,[]⟩,nilK)]=L ++ N0 ++ M ++ [(insO 14 0,nilK),(insO 7 0,nilK)]:=by simp [insO]
 rw [e7] at HS8;clear e7;have x_9:=blk5n HX8.out;have y_9:=HKC.out _ HS8.out.bl;have HC_9:=hZz (HW.out k (m+1) (L ++ N0 ++ M ++ [(insO 14 0,nilK),(insO 7 0,nilK)]) w8 HF1.out (by have:=HB.out;omega) HS8.out (by have:=HB.out;have:=HB0'.out;have:=HMF.out.2;(try simp only [List.length_append,List.length_cons,List.length_nil]);omega))
 go_upto_region 9 with (first
  | (go_at_call 44;(with_reducible refine HC_9.out.mono ?_);rintro e w9 ⟨rfl,hw3⟩;have HW_9:=hZz hw3;clear hw3))
 obtain ⟨N1,n0,l0,s3,k3⟩:=HW_9.out.st;have HN1:=hZz n0;have b0:=HL1.out (e0+(L ++ N0 ++ M ++ [(insO 14 0,nilK),(insO 7 0,nilK)]).length);rw [← l0] at b0;have HS9:=hZz s3;have HK9:=hZz (HK8.out.trans k3);have HX9:=hZz (k3.blk HX8.out HNE.out (by decide));have HL1':=hZz l0;have HB1':=hZz b0;clear n0 l0 s3 k3 b0 x_9 y_9;have HC_10:=hZz (zacY w0 S sA sl.length sc gW e0 (L ++ N0 ++ M ++ [(insO 14 0,nilK),(insO 7 0,nilK)] ++ N1) w9 15 (0) ⟨#[]⟩ HS9.out (by have:=HB.out;have:=HB0'.out;have:=HB1'.out;have:=HMF.out.2;(try simp only [List.length_append,List.length_cons,List.length_nil]);omega));obtain ⟨z10,hix⟩:∃ t,(L ++ N0 ++ M ++ [(insO 14 0,nilK),(insO 7 0,nilK)] ++ N1).length=t:=⟨_,rfl⟩
 rw [hix] at HC_10;clear hix
 go_upto_region 10 with (first
  | (go_at_call 45;(with_reducible refine HC_10.out.mono ?_);rintro e w10 ⟨rfl,hs4,hk4⟩;have HS10:=hZz hs4;have HK10:=hZz (HK9.out.trans hk4);have HX10:=hZz (hk4.blk HX9.out HNE.out (by decide));clear hs4 hk4))
 have e9:L ++ N0 ++ M ++ [(insO 14 0,nilK),(insO 7 0,nilK)] ++ N1 ++ [(⟨15,0,⟨#[]⟩,[]⟩,nilK)]=(L ++ N0 ++ M) ++ (insO 14 0,nilK) :: ((insO 7 0,nilK) :: N1 ++ [(insO 15 0,nilK)]):=by simp [insO]
 rw [e9] at HS10;clear e9;obtain ⟨gi,ic,d3,da,dz,hset⟩:=HS10.out.jump;have hlJ:(L ++ N0 ++ M ++ (insO 14 0,nilK) :: ((insO 7 0,nilK) :: N1 ++ [(insO 15 0,nilK)])).length=(L ++ N0 ++ M).length+(((insO 7 0,nilK) :: N1 ++ [(insO 15 0,nilK)])).length+1:=by rw [List.length_append,List.length_cons];omega
 have hHE:=fun wx (hb:Below w10.heap.size w10 wx)=>zb7Y w0 S sA sl.length sc gW e0 _ wx (HS10.out.below hb) HE.out (by have:=HB.out;have:=HB0'.out;have:=HB1'.out;have:=HMF.out.2;(try simp only [List.length_append,List.length_cons,List.length_nil]);omega)
 rw [hlJ] at hHE;obtain ⟨vJ,hvJ⟩:∃ t:Int,e0+(((L ++ N0 ++ M).length+(((insO 7 0,nilK) :: N1 ++ [(insO 15 0,nilK)])).length+1:Nat):Int)=t:=⟨_,rfl⟩
 rw [hvJ] at hHE;have HVJ11:=hZz hvJ;have hpJ:(L ++ N0 ++ M).length=ix:=HIX_ix.out;rw [hpJ] at d3 da dz hset;obtain ⟨qJ,hqJ⟩:∃ t,ix+(((insO 7 0,nilK) :: N1 ++ [(insO 15 0,nilK)])).length+1=t:=⟨_,rfl⟩
 rw [hqJ] at d3 hset;have hpq:(ix:Int)<(qJ:Int):=by omega
 have hp0:(0:Int)≤(ix:Int):=by omega
 have HHE:=hZz hHE;have HSET:=hZz hset;have HFAC:Hid (∀ wx,Below w10.heap.size w10 wx→wx.cell? ⟨gW,3,none⟩=some (.slice (some ⟨gi,0,none⟩) qJ ic)):=hZz (fun wx hb=>(hb.cell (bLZ d3)).trans d3);have HFA2:Hid (∀ wx,Below w10.heap.size w10 wx→wx.cell? ⟨gi,ix * 4+1,none⟩=some (.int .i64 0)∧wx.frozen? ⟨gi,ix * 4+1,none⟩=false):=hZz (fun wx hb=>⟨(hb.cell (bLZ da)).trans da,(hb.frozen (bLZ da)).trans dz⟩);have f0:=HFAC.out _ (Below.refl _ _);have fd:=HFAC.out _ (zadZ w10);clear d3 da dz hset hHE hlJ hvJ hpJ hqJ
 go_region_held3 (fun w'=>w'.cell? ⟨gW,3,none⟩=some (.slice (some ⟨gi,0,none⟩) qJ ic)) (first | with_reducible exact f0 | with_reducible exact fd | with_reducible exact f3 | with_reducible exact f4 _) (first
  | (go_at_call 102;(with_reducible refine (HHE.out _ (zadZ w10)).mono ?_);rintro e w11 ⟨rfl,hw3⟩;have HBJ11:Hid (Below w10.heap.size w10 w11):=hZz (by obtain ⟨q,rfl⟩:=hw3;exact zaeZ (zadZ w10) q);have f3:=HFAC.out _ HBJ11.out;have f4:=fun v=>(HSET.out _ HBJ11.out v).2.2;obtain ⟨d3,z3⟩:=HFA2.out _ HBJ11.out;clear hw3))
 all_goals
  clear f0 fd f3 f4;go_wp2_with (fail)
  first | go_end0 | go_returns | skip
  obtain ⟨hs8,hk8,_⟩:=HSET.out _ HBJ11.out vJ;refine HP.out _ ⟨N0 ++ M ++ (insO 14 vJ,nilK) :: ((insO 7 0,nilK) :: N1 ++ [(insO 15 0,nilK)]),?_,by rw [← List.append_assoc,← List.append_assoc];exact hs8,HK10.out.trans hk8⟩
  rw [← HVJ11.out];rw [← HR.out];have q0:=HN0.out;have q1:=HN1.out;have q2:=HL0'.out;have q3:=HL1'.out;have q4:=HMF.out.1;have q5:=HMF.out.2;simp only [List.length_append,List.length_cons,List.length_nil,q5] at q1 q3;have e1:e0+((L.length+N0.length+3+(0+1+1):Nat):Int)=e0+(L.length:Int)+((segF S.p sl f m (e0+(L.length:Int))).length:Int)+3+2:=by rw [← q2];omega
  rw [e1] at q1 q3
  have e2:e0+(((L ++ N0 ++ M).length+((insO 7 0,nilK) :: N1 ++ [(insO 15 0,nilK)]).length+1:Nat):Int)=e0+(L.length:Int)+((segF S.p sl f m (e0+(L.length:Int))).length:Int)+3+2+((segF S.p sl f k (e0+(L.length:Int)+((segF S.p sl f m (e0+(L.length:Int))).length:Int)+3+2)).length:Int)+1:=by
   rw [← q3,← q2];simp only [List.length_append,List.length_cons,List.length_nil,q5];omega
  rw [e2];simp only [shoF,List.map_append,List.map_cons,List.map_nil,List.getD_cons_zero,List.getD_cons_succ,Int.toNat_natCast];rw [q0,q1,q4];simp
end
section
theorem choice_s (w0:World) (S:ProgS) (sA:Option Addr) (sc gW:Nat) (e0:Int) (sl:List Int) (f:Nat) (hw:NodeT w0 S sA sc gW e0 sl f) (n:NodeD) (kA iA:Option Addr) (kc ic s i:Nat) (L:List (InsD × Value)) (w:World)
  (hk:n.kind=15) (hct:countB n=true) (hc:Cover S.p.nodes f n.kids s i) (hil:i≤S.p.nodes.length) (hi:IntsV w0 (.slice iA n.kids.length ic) n.kids) (h:TrSt w0 w S sA sl.length sc gW e0 L) (hL:L.length+6 * (i+1 - s)≤90000) (he:0≤e0∧e0≤4000) :
  Calls prog 68 #[.pointer (some ⟨gW,0,none⟩),.agg (nodeC n kA kc iA ic)] w fun r w'=>r=.returned (.tuple #[])∧WroteT w0 S sA sl.length sc gW e0 L (ctlF (segF S.p sl f) n.kind n.kids (e0+L.length)) w w':=by
 rcases cnt_if hct hk with h2 | h3
 ·obtain ⟨a,b,hab⟩:=zatY h2
  exact tcho2_s w0 S sA sc gW e0 sl f hw n kA iA kc ic s i L w a b hk hab hc hil hi h hL he
 ·obtain ⟨a,b,c,habc⟩:=zbkY h3
  exact tcho3_s w0 S sA sc gW e0 sl f hw n kA iA kc ic s i L w a b c hk habc hc hil hi h hL he
theorem loop_s (w0:World) (S:ProgS) (sA:Option Addr) (sc gW:Nat) (e0:Int) (sl:List Int) (f:Nat) (hw:NodeT w0 S sA sc gW e0 sl f) (n:NodeD) (kA iA:Option Addr) (kc ic s i:Nat) (L:List (InsD × Value)) (w:World)
  (hk:n.kind=16) (hct:countB n=true) (hc:Cover S.p.nodes f n.kids s i) (hil:i≤S.p.nodes.length) (hi:IntsV w0 (.slice iA n.kids.length ic) n.kids) (h:TrSt w0 w S sA sl.length sc gW e0 L) (hL:L.length+6 * (i+1 - s)≤90000) (he:0≤e0∧e0≤4000) :
  Calls prog 69 #[.pointer (some ⟨gW,0,none⟩),.agg (nodeC n kA kc iA ic)] w fun r w'=>r=.returned (.tuple #[])∧WroteT w0 S sA sl.length sc gW e0 L (ctlF (segF S.p sl f) n.kind n.kids (e0+L.length)) w w':=by
 obtain ⟨a,b,hab⟩:=zatY (zbyY hct (.inr (.inr hk)));exact tloop_s w0 S sA sc gW e0 sl f hw n kA iA kc ic s i L w a b hk hab hc hil hi h hL he
theorem logic_s (w0:World) (S:ProgS) (sA:Option Addr) (sc gW:Nat) (e0:Int) (sl:List Int) (f:Nat) (hw:NodeT w0 S sA sc gW e0 sl f) (n:NodeD) (kA iA:Option Addr) (kc ic s i:Nat) (L:List (InsD × Value)) (w:World)
  (hk:n.kind=9) (hct:countB n=true) (hc:Cover S.p.nodes f n.kids s i) (hil:i≤S.p.nodes.length) (hi:IntsV w0 (.slice iA n.kids.length ic) n.kids) (h:TrSt w0 w S sA sl.length sc gW e0 L) (hL:L.length+6 * (i+1 - s)≤90000) (he:0≤e0∧e0≤4000) :
  Calls prog 67 #[.pointer (some ⟨gW,0,none⟩),.agg (nodeC n kA kc iA ic)] w fun r w'=>r=.returned (.tuple #[])∧WroteT w0 S sA sl.length sc gW e0 L (shoF (segF S.p sl f) (isOr n) n.kids (e0+L.length)) w w':=by
 obtain ⟨a,b,hab⟩:=zatY (zbyY hct (.inl hk));cases ho:isOr n with
 | false=>exact tlog0_s w0 S sA sc gW e0 sl f hw n kA iA kc ic s i L w a b ho hab hc hil hi h hL he
 | true=>exact tlog1_s w0 S sA sc gW e0 sl f hw n kA iA kc ic s i L w a b ho hab hc hil hi h hL he
def tailF (p:ProgD) (sl:List Int) (n:NodeD) (i:Nat):List InsD:=if n.kind=9 then [insT 9 n.text] else optL (lastF p sl n i)
attribute [local go_sem] zabZ
set_option maxHeartbeats 32000000 in
theorem tnode_s (w0:World) (S:ProgS) (sA:Option Addr) (sc gW:Nat) (e0:Int) (sl:List Int) (hS:ProgV w0 S) (hok:ProgOk S.p) (hfl:S.p.funcs.length≤1000) (hsl:SlAt w0 sA 1 intS sl) (hsn:sl.length=S.p.nodes.length) (he:0≤e0∧e0≤4000) (f:Nat) (hw:NodeT w0 S sA sc gW e0 sl f):NodeT w0 S sA sc gW e0 sl (f+1):=by
 intro i s L w hf hil h hL;have T:=zadY hf;have hsi:=zaaY hf;obtain ⟨R,hR⟩:∃ R,segF S.p sl (f+1) i (e0+L.length)=R:=⟨_,rfl⟩
 rw [hR];obtain ⟨P,hP⟩:∃ P:Ending→World→Prop,(fun e w'=>e=.returned (.tuple #[])∧WroteT w0 S sA sl.length sc gW e0 L R w w')=P:=⟨_,rfl⟩
 rw [hP];have HP:Hid (∀ w',WroteT w0 S sA sl.length sc gW e0 L R w w'→P (.returned (.tuple #[])) w'):=hZz (fun w' h1=>by rw [← hP];exact ⟨rfl,h1⟩);obtain ⟨bN,offN,kA,kc,iA,ic,hA,hbN,c0,c1,c2,c3,c4,hk,hi⟩:=zalY hS.nodes hil
 have hkB:KeysB S w0 (.slice kA (S.p.nodes[i]).keys.length kc) (S.p.nodes[i]).keys:=fun wk hb hp=>by
  obtain ⟨bM,offM,kA',kc',iA',ic',hA',hbM,_,_,_,c3',_,hk',_⟩:=zalY hp.nodes hil;have e1:=hA.symm.trans hA';injection e1 with e1
  injection e1 with e1 e2
  subst e1 e2;have e3:=((hb.cell hbM).trans c3').symm.trans c3;injection e3 with e3
  rw [← e3];exact hk'
 replace c0:=(h.bl.cell hbN).trans c0
 replace c1:=(h.bl.cell hbN).trans c1
 replace c2:=(h.bl.cell hbN).trans c2
 replace c3:=(h.bl.cell hbN).trans c3
 replace c4:=(h.bl.cell hbN).trans c4
 obtain ⟨n,hn⟩:∃ n,S.p.nodes[i]=n:=⟨_,rfl⟩
 have hgd:S.p.nodes.getD i noNode=n:=by rw [zaiZ hil,hn]
 have hat:S.p.at_ i=n:=hgd;have hcv:=T.cover;have hct:=T.count;rw [hgd] at hcv hct;rw [hn] at c0 c1 c2 c3 c4 hk hi hkB;have hmem:n∈S.p.nodes:=by rw [← hn];exact List.getElem_mem hil
 have hm:=(hok.nodes.kids n hmem).1;have hlen:=hok.nodes.len;have HB:Hid (s≤i∧i<S.p.nodes.length∧L.length+6 * (i+1 - s)≤90000∧n.kids.length≤10000):=hZz (by omega);have HE:=hZz he;have HH:=hZz h;have hisl:i<sl.length:=by omega
 have HR1:Hid ((n.kind=15∨n.kind=16)→R=ctlF (segF S.p sl f) n.kind n.kids (e0+L.length)):=hZz (fun hh=>by rw [← hR,seg_ctl S.p sl f i _ (by rw [hat];exact hh),hat]);have HR2:Hid (n.kind=9→(isAnd n || isOr n)=true→R=shoF (segF S.p sl f) (isOr n) n.kids (e0+L.length)):=hZz (fun h1 h2=>by rw [← hR,seg_sho S.p sl f i _ (by rw [hat];exact h1) (by rw [hat];exact h2),hat]);obtain ⟨Q,hQ⟩:∃ Q,seqF (segF S.p sl f) n.kids (e0+L.length)=Q:=⟨_,rfl⟩
 have HR3:Hid (¬ (n.kind=15∨n.kind=16)→(n.kind=9→(isAnd n || isOr n)=false)→R=Q ++ tailF S.p sl n i):=hZz (fun h1 h2=>by
  unfold tailF;by_cases h9:n.kind=9
  ·rw [if_pos h9,← hR,← hQ,seg_bin S.p sl f i _ (by rw [hat];exact h9) (by rw [hat];exact h2 h9),hat]
  ·rw [if_neg h9,← hR,← hQ,seg_oth S.p sl f i _ (by rw [hat];exact h1) (by rw [hat];exact h9),hat])
 have HCC:Hid (n.kind=15→∀ wx,TrSt w0 wx S sA sl.length sc gW e0 L→Calls prog 68 #[.pointer (some ⟨gW,0,none⟩),.agg (nodeC n kA kc iA ic)] wx fun r w'=>r=.returned (.tuple #[])∧WroteT w0 S sA sl.length sc gW e0 L (ctlF (segF S.p sl f) n.kind n.kids (e0+L.length)) wx w'):=hZz (fun hh wx hx=>choice_s w0 S sA sc gW e0 sl f hw n kA iA kc ic s i L wx hh hct hcv (by omega) hi hx hL he);have HCO:Hid (n.kind=16→∀ wx,TrSt w0 wx S sA sl.length sc gW e0 L→Calls prog 69 #[.pointer (some ⟨gW,0,none⟩),.agg (nodeC n kA kc iA ic)] wx fun r w'=>r=.returned (.tuple #[])∧WroteT w0 S sA sl.length sc gW e0 L (ctlF (segF S.p sl f) n.kind n.kids (e0+L.length)) wx w'):=hZz (fun hh wx hx=>loop_s w0 S sA sc gW e0 sl f hw n kA iA kc ic s i L wx hh hct hcv (by omega) hi hx hL he);have HCS:Hid (n.kind=9→∀ wx,TrSt w0 wx S sA sl.length sc gW e0 L→Calls prog 67 #[.pointer (some ⟨gW,0,none⟩),.agg (nodeC n kA kc iA ic)] wx fun r w'=>r=.returned (.tuple #[])∧WroteT w0 S sA sl.length sc gW e0 L (shoF (segF S.p sl f) (isOr n) n.kids (e0+L.length)) wx w'):=hZz (fun hh wx hx=>logic_s w0 S sA sc gW e0 sl f hw n kA iA kc ic s i L wx hh hct hcv (by omega) hi hx hL he);obtain ⟨fi,hfi⟩:∃ t,findF S.p n.text=t:=⟨_,rfl⟩
 obtain ⟨sv,hsv⟩:∃ t,sl.getD i 0=t:=⟨_,rfl⟩
 have HFF:Hid (∀ wx,Below w0.heap.size w0 wx→Calls prog 70 #[.agg #[.slice S.A S.p.nodes.length S.ncap,.slice S.B S.p.funcs.length S.fcap],.string n.text] wx fun e w'=>e=.returned (.int .i64 fi)∧Below wx.heap.size wx w'):=hZz (fun wx hb=>by rw [← hfi];exact tfunction_s S n.text wx (hS.below hb) (by omega))
 have HSV:Hid (∃ b off,sA=some ⟨b,off,none⟩∧∀ wx,Below w0.heap.size w0 wx→wx.cell? ⟨b,off+i,none⟩=some (.int .i64 sv)):=hZz (by
  obtain ⟨b,off,e,hlt⟩:=hsl.ptr hisl;rw [e] at hsl;have c:=hsl.cell0 hisl (v:=.int .i64 sl[i]) (by rfl);simp only [Nat.mul_one] at c;rw [zaiZ hisl] at hsv;rw [hsv] at c;exact ⟨b,off,e,fun wx hb=>(hb.cell hlt).trans c⟩)
 -- the instruction behind the parts
 have HT1:Hid (n.kind=1→tailF S.p sl n i=[insO 1 0]):=hZz (fun h=>by unfold tailF lastF;rw [h];rfl);have HT2:Hid (n.kind=2→tailF S.p sl n i=[insO 2 n.int]):=hZz (fun h=>by unfold tailF lastF;rw [h];rfl);have HT3:Hid (n.kind=3→tailF S.p sl n i=[insO 3 n.int]):=hZz (fun h=>by unfold tailF lastF;rw [h];rfl);have HT4:Hid (n.kind=4→tailF S.p sl n i=[insT 4 n.text]):=hZz (fun h=>by unfold tailF lastF;rw [h];rfl);have HT5:Hid (n.kind=5→tailF S.p sl n i=[insO 5 sv]):=hZz (fun h=>by rw [← hsv];unfold tailF lastF;rw [h];rfl);have HT6:Hid (n.kind=6→tailF S.p sl n i=[insO 11 n.kids.length]):=hZz (fun h=>by unfold tailF lastF;rw [h];rfl);have HT7:Hid (n.kind=7→tailF S.p sl n i=[⟨12,n.kids.length,⟨#[]⟩,n.keys⟩]):=hZz (fun h=>by unfold tailF lastF;rw [h];rfl);have HT8:Hid (n.kind=8→tailF S.p sl n i=[insT 8 n.text]):=hZz (fun h=>by unfold tailF lastF;rw [h];rfl);have HT9:Hid (n.kind=9→tailF S.p sl n i=[insT 9 n.text]):=hZz (fun h=>by unfold tailF lastF;rw [h];rfl);have HT10:Hid (n.kind=10→tailF S.p sl n i=[insO 10 0]):=hZz (fun h=>by unfold tailF lastF;rw [h];rfl);have HT12:Hid (n.kind=12→tailF S.p sl n i=[⟨19,n.kids.length,n.text,[]⟩]):=hZz (fun h=>by unfold tailF lastF;rw [h];rfl);have HT13:Hid (n.kind=13→tailF S.p sl n i=[insO 6 sv]):=hZz (fun h=>by rw [← hsv];unfold tailF lastF;rw [h];rfl);have HT14:Hid (n.kind=14→tailF S.p sl n i=[insO 6 sv]):=hZz (fun h=>by rw [← hsv];unfold tailF lastF;rw [h];rfl);have HT17:Hid (n.kind=17→tailF S.p sl n i=[insO 20 0]):=hZz (fun h=>by unfold tailF lastF;rw [h];rfl);have HT18:Hid (n.kind=18→tailF S.p sl n i=[insO 7 0]):=hZz (fun h=>by unfold tailF lastF;rw [h];rfl);have HT11:Hid (n.kind=11→tailF S.p sl n i=[if 0≤fi then insO 17 fi else ⟨18,n.kids.length,n.text,[]⟩]):=hZz (fun h=>by rw [← hfi];unfold tailF lastF;rw [h];rfl)
 have HT0:Hid ((n.kind≠1∧n.kind≠2∧n.kind≠3∧n.kind≠4∧n.kind≠5∧n.kind≠6∧n.kind≠7∧n.kind≠8∧n.kind≠9)∧(n.kind≠10∧n.kind≠11∧n.kind≠12∧n.kind≠13∧n.kind≠14∧n.kind≠17∧n.kind≠18)→tailF S.p sl n i=[]):=hZz (fun h=>by
  obtain ⟨⟨k1,k2,k3,k4,k5,k6,k7,k8,k9⟩,k10,k11,k12,k13,k14,k17,k18⟩:=h;unfold tailF lastF;rw [if_neg k9,if_neg k1,if_neg k2,if_neg k3,if_neg k4,if_neg k5,if_neg k6,if_neg k7,if_neg k8,if_neg k10,if_neg k11,if_neg k12,if_neg (by omega),if_neg k17,if_neg k18];rfl)
 obtain ⟨TL,hTL⟩:∃ t,tailF S.p sl n i=t:=⟨_,rfl⟩
 rw [hTL] at HR3 HT1 HT2 HT3 HT4 HT5 HT6 HT7 HT8 HT9 HT10 HT12 HT13 HT14 HT17 HT18 HT11 HT0;have HKV:=hZz hkB;obtain ⟨q,hqe⟩:∃ q,n.keys.length=q:=⟨_,rfl⟩
 have HQE:=hZz hqe;obtain ⟨m,hme⟩:∃ m,n.kids.length=m:=⟨_,rfl⟩
 have HM:=hZz hme;obtain ⟨nk,hnk⟩:∃ x,n.kind=x:=⟨_,rfl⟩
 obtain ⟨nt,hnt⟩:∃ x,n.text=x:=⟨_,rfl⟩
 obtain ⟨ni,hni⟩:∃ x,n.int=x:=⟨_,rfl⟩
 have HAO:Hid (isAnd n=(nt.toList == [97,110,100])∧isOr n=(nt.toList == [111,114])):=hZz (by rw [← hnt];exact ⟨and_eq n,or_eq n⟩);unfold nodeC at HCC HCO HCS;rw [hnk] at c0 HR1 HR2 HR3 HCC HCO HCS HT1 HT2 HT3 HT4 HT5 HT6 HT7 HT8 HT9 HT10 HT12 HT13 HT14 HT17 HT18 HT11 HT0;rw [hnt] at c1 HCC HCO HCS HFF HT4 HT8 HT9 HT11 HT12;rw [hni] at c2 HCC HCO HCS HT2 HT3;rw [hqe] at c3 HCC HCO HCS;rw [hme] at c4 HCC HCO HCS HB hi HT6 HT7 HT11 HT12;have HI:=hZz hi;have HW:=hZz hw;have HCV:=hZz hcv;have HQ:=hZz hQ;have HMX:Hid (m≤10000):=hZz (by omega);obtain ⟨⟨iv,hb0,_⟩,_,_,_⟩:=h;obtain ⟨s0,s1,s2,s3,s4⟩:=blkW hb0;rw [hA] at s0;have HA:=hZz hA;obtain ⟨N9,hN9⟩:∃ N,S.p.nodes.length=N:=⟨_,rfl⟩
 have HN9:=hZz hN9;rw [hN9] at s0 hil hlen;have hiN:(i:Int)<(N9:Int):=by omega
 have hi0:(0:Int)≤(i:Int):=by omega
 have hmI:(m:Int)≤10000:=by omega
 obtain ⟨g,hg⟩:∃ g,w.heap.size=g:=⟨_,rfl⟩
 obtain ⟨W1,hW1⟩:∃ W,w.alloc (.cells #[.int .i64 nk,.string nt,.int .i64 ni,.slice kA q kc,.slice iA m ic] 58)=W:=⟨_,rfl⟩
 have HNE:Hid (g≠gW):=hZz (by have:=hb0.lt;omega);have HX1:Hid (Blk W1 g 58 #[.int .i64 nk,.string nt,.int .i64 ni,.slice kA q kc,.slice iA m ic]):=hZz (by rw [← hW1,← hg];exact Blk.new _ _ _);have HB1:Hid (Below w.heap.size w W1):=hZz (by rw [← hW1];exact zacZ _ _);have HS1:=hZz (HH.out.below HB1.out);have HK1:=hZz (HH.out.kw HB1.out);have HSN:=hZz hsn;have HG:=hZz hg;have HW1:=hZz hW1;clear hR hP hA hbN hk hkB hi hn hgd hat hcv hct hmem hw hS hok hme hqe hnk hnt hni hN9 hg hW1 hf T hsi hsl hsn he hL hm hb0 hfl hisl hfi hsv hTL hQ;go_enter func44,ntmps44
 go_upto_region 1 with fail
 rw [HG.out,HW1.out];clear HG HW1 c0 c1 c2 c3 c4 s0 s1 s2 s3 s4;have x1:=blk5n HX1.out;by_cases h15:nk=15
 ·subst h15
  go_wp2_with (first
   | (go_at_call 68;(with_reducible refine (HCC.out (by first | rfl | trivial) W1 HS1.out).mono ?_);rintro e w2 ⟨rfl,hw2⟩;have HW2:=hZz hw2;clear hw2))
  go_end0
  obtain ⟨N0,n0,s0,k0⟩:=HW2.out;exact HP.out _ ⟨N0,by rw [n0,HR1.out (by simp)],s0,HK1.out.trans k0⟩
 by_cases h16:nk=16
 ·subst h16
  go_wp2_with (first
   | (go_at_call 69;(with_reducible refine (HCO.out (by first | rfl | trivial) W1 HS1.out).mono ?_);rintro e w2 ⟨rfl,hw2⟩;have HW2:=hZz hw2;clear hw2))
  go_end0
  obtain ⟨N0,n0,s0,k0⟩:=HW2.out;exact HP.out _ ⟨N0,by rw [n0,HR1.out (by simp)],s0,HK1.out.trans k0⟩
 have d15:(nk == 15)=false:=by simp [h15]
 have d16:(nk == 16)=false:=by simp [h16]
 have hlog:(nk=9∧(isAnd n || isOr n)=true)∨(nk=9→(isAnd n || isOr n)=false):=by
  by_cases h9:nk=9
  ·cases hh:(isAnd n || isOr n) with
   | true=>exact .inl ⟨h9,rfl⟩
   | false=>exact .inr (fun _=>rfl)
  ·exact .inr (fun h=>absurd h h9)
 obtain ⟨ba,hba⟩:∃ b,(nt.toList == [97,110,100])=b:=⟨_,rfl⟩
 obtain ⟨bo,hbo⟩:∃ b,(nt.toList == [111,114])=b:=⟨_,rfl⟩
 rw [hba,hbo] at HAO;rcases hlog with ⟨rfl,hbb⟩ | hbb
 ·have HBB:=hZz hbb
  rw [HAO.out.1,HAO.out.2] at hbb;cases ba with
  | true =>
   clear hbb
   go_wp2_with (first
    | (go_at_call 67;(with_reducible refine (HCS.out (by first | rfl | trivial) W1 HS1.out).mono ?_);rintro e w2 ⟨rfl,hw2⟩;have HW2:=hZz hw2;clear hw2))
   go_end0
   obtain ⟨N0,n0,s0,k0⟩:=HW2.out;exact HP.out _ ⟨N0,by rw [n0,HR2.out (by first | rfl | trivial) HBB.out],s0,HK1.out.trans k0⟩
  | false =>
   have hbo1:bo=true:=by simpa using hbb
   subst hbo1;clear hbb
   go_wp2_with (first
    | (go_at_call 67;(with_reducible refine (HCS.out (by first | rfl | trivial) W1 HS1.out).mono ?_);rintro e w2 ⟨rfl,hw2⟩;have HW2:=hZz hw2;clear hw2))
   go_end0
   obtain ⟨N0,n0,s0,k0⟩:=HW2.out;exact HP.out _ ⟨N0,by rw [n0,HR2.out (by first | rfl | trivial) HBB.out],s0,HK1.out.trans k0⟩
 have HRQ:Hid (R=Q ++ TL):=hZz (HR3.out (by omega) hbb)
 have hnl:(nk == 9 && (ba || bo))=false:=by
  by_cases h9:nk=9
  ·have:=hbb h9
   rw [HAO.out.1,HAO.out.2] at this;rw [this,Bool.and_false]
  ·simp [h9]
 clear hbb HR1 HR2 HR3 HCC HCO HCS h15 h16
 have hcase:(nk == 9)=false∨((nk == 9)=true∧ba=false∧bo=false):=by
  cases hh:(nk == 9) with
  | false=>exact .inl rfl
  | true =>
   rw [hh] at hnl;simp at hnl
   exact .inr ⟨rfl,hnl.1,hnl.2⟩
 clear hnl
 -- up to the loop over the parts
 go_cut [27] from 15 to 27 (fun u wx=>u=.bool false∧wx=W1)
 case first =>
  rcases hcase with h9 | ⟨h9,rfl,rfl⟩
  ·go_wp2_with (fail)
   go_meet
   exact ⟨rfl,rfl⟩
  ·go_wp2_with (fail)
   go_meet
   exact ⟨rfl,rfl⟩
 case rest =>
  obtain ⟨rfl,rfl⟩:=hcut;clear hcase hba hbo;go_wp2_with (fail)
  clear x1;go_loopw [5] (fun iv wr=>∃ (j:Nat) (N:List (InsD × Value)) (sj:Nat),j≤m∧iv=.int .i64 j∧Hid (Cover S.p.nodes f (n.kids.drop j) sj i)∧Hid (N.map Prod.fst ++ seqF (segF S.p sl f) (n.kids.drop j) (e0+(L ++ N).length)=Q)∧Hid (TrSt w0 wr S sA sl.length sc gW e0 (L ++ N))∧Hid (KW w0.heap.size gW w wr)∧Hid ((L ++ N).length+6 * (i+1 - sj)≤90000)∧Hid (Blk wr g 58 #[.int .i64 nk,.string nt,.int .i64 ni,.slice kA q kc,.slice iA m ic])) (fun iv _=>m - (intOf iv).toNat)
  case atStart=>exact ⟨0,[],s,Nat.zero_le _,rfl,hZz (by rw [List.drop_zero];exact HCV.out),hZz (by rw [List.append_nil,List.drop_zero];exact HQ.out),hZz (by rw [List.append_nil];exact HS1.out),HK1,hZz (by rw [List.append_nil];exact HB.out.2.2.1),HX1⟩
  case round =>
   obtain ⟨j,N,sj,hj,rfl,HC,HEj,HSj,HKj,HLj,HX⟩:=hrel;have hj0:(0:Int)≤(j:Int):=by omega
   have x1:=blk5n HX.out;by_cases hlt:j<m
   ·have hlt':(j:Int)<(m:Int):=by omega
    have hkl:j<n.kids.length:=by rw [HM.out];exact hlt
    obtain ⟨bI,offI,rfl,hbI,ck⟩:=HI.out.cell hkl
    replace ck:=(HSj.out.bl.cell hbI).trans ck
    have hcv:=HC.out;have hfl:=HEj.out;rw [List.drop_eq_getElem_cons hkl] at hcv hfl;obtain ⟨z,hz⟩:∃ x,n.kids[j]=x:=⟨_,rfl⟩
    rw [hz] at hcv hfl ck;cases hcv with
    | cons _ _ mk _ hf1 hc2 =>
     simp only [seqF,Int.toNat_natCast] at hfl;have q1:=zaaY hf1;have q2:=hc2.le';have hmN:mk<S.p.nodes.length:=by have:=HB.out;omega
     have q3:=zaqY S.p sl f mk sj (e0+(L ++ N).length) hf1;have HCW:=hZz (HW.out mk sj (L ++ N) wr hf1 hmN HSj.out (by have:=HLj.out;omega));have HXQ:=hZz hfl;have HC2:=hZz hc2;have HQ3:=hZz q3;have HQ12:Hid (sj≤mk∧mk+1≤i+1):=hZz (by omega);clear hfl hz hf1 hc2 hbI hmN q1 q2 q3
     go_wp2_with (first
      | (go_at_call 44;(with_reducible refine HCW.out.mono ?_);rintro r2 w2 ⟨rfl,hw2⟩;have HW2:=hZz hw2;clear hw2))
     obtain ⟨N2,hn2,hs2,hk2⟩:=HW2.out;have hl2:=congrArg List.length hn2;rw [List.length_map] at hl2;have hq3:=HQ3.out;have hlj:=HLj.out;have hq12:=HQ12.out;refine ⟨⟨j+1,N ++ N2,mk+1,by omega,by simp,HC2,hZz ?_,hZz (by rw [← List.append_assoc];exact hs2),hZz (HKj.out.trans hk2),hZz (by rw [← List.append_assoc,List.length_append];omega),hZz (hk2.blk HX.out HNE.out (by decide))⟩,by simp [intOf];omega⟩
     rw [← HXQ.out,List.map_append,hn2,← List.append_assoc,List.append_assoc];congr 2
     have e8:(L ++ (N ++ N2)).length=(L ++ N).length+N2.length:=by rw [← List.append_assoc,List.length_append]
     have e7:(L ++ N ++ N2).length=(L ++ N).length+N2.length:=List.length_append;have e6:e0+(((L ++ N).length+N2.length:Nat):Int)=e0+((L ++ N).length:Int)+(N2.length:Int):=by omega
     rw [← hl2,← e6,← e7]
   ·have e:m=j:=by omega
    subst e
    have HN:Hid (N.map Prod.fst=Q):=hZz (by
     have:=HEj.out
     rw [← HM.out,List.drop_length] at this;simpa only [seqF,List.append_nil] using this)
    have HLN:Hid ((L ++ N).length≤100000):=hZz (by have:=HLj.out;omega);clear HEj HC HW HCV HS1 HK1 HB1 HX1 hlt HQ;have hfin:∀ (V:InsD × Value) w3,R=Q ++ [V.1]→TrSt w0 w3 S sA sl.length sc gW e0 (L ++ N ++ [V])→KW w0.heap.size gW wr w3→P (.returned (.tuple #[])) w3:=fun V w3 h1 h2 h3=>HP.out _ ⟨N ++ [V],by rw [List.map_append,HN.out,h1];rfl,by rw [← List.append_assoc];exact h2,HKj.out.trans h3⟩
    have HFIN:=hZz hfin;clear hfin
    have hbs:∀ wx,Below wr.heap.size wr wx→(wx.cell? ⟨gW,0,none⟩=some (.slice S.A S.p.nodes.length S.ncap)∧wx.cell? ⟨gW,1,none⟩=some (.slice S.B S.p.funcs.length S.fcap)∧wx.cell? ⟨gW,2,none⟩=some (.slice sA sl.length sc))∧Below w0.heap.size w0 wx:=fun wx hb=>by
     obtain ⟨⟨iv,hb0,_⟩,_,_,_⟩:=HSj.out.below hb;obtain ⟨s0,s1,s2,s3,s4⟩:=blkW hb0;exact ⟨⟨s0,s1,s2⟩,zaaZ hb HSj.out.bl HSj.out.bl.size⟩
    have HBS:=hZz hbs;clear hbs;have hk:(nk=1∨nk=2∨nk=3∨nk=4∨nk=5∨nk=6∨nk=7∨nk=8∨nk=9)∨(nk=10∨nk=11∨nk=12∨nk=13∨nk=14∨nk=17∨nk=18)∨((nk≠1∧nk≠2∧nk≠3∧nk≠4∧nk≠5∧nk≠6∧nk≠7∧nk≠8∧nk≠9)∧(nk≠10∧nk≠11∧nk≠12∧nk≠13∧nk≠14∧nk≠17∧nk≠18)):=by omega
    rcases hk with (rfl | rfl | rfl | rfl | rfl | rfl | rfl | rfl | rfl) | (rfl | rfl | rfl | rfl | rfl | rfl | rfl) | hk
    ·-- kind 1
     have HC:=hZz (zacY w0 S _ sl.length sc gW e0 (L ++ N) wr 1 (0) ⟨#[]⟩ HSj.out HLN.out)
     go_wp2_with (first
      | (go_at_call 45;(with_reducible refine HC.out.mono ?_);rintro e w3 ⟨rfl,hs3,hk3⟩;have HS3:=hZz hs3;have HK3:=hZz hk3;clear hs3 hk3))
     go_end0
     exact HFIN.out (⟨1,0,⟨#[]⟩,[]⟩,nilK) _ (by rw [HRQ.out,HT1.out (by first | rfl | trivial)] <;> rfl) HS3.out HK3.out
    ·-- kind 2
     have HC:=hZz (zacY w0 S _ sl.length sc gW e0 (L ++ N) wr 2 (ni) ⟨#[]⟩ HSj.out HLN.out)
     go_wp2_with (first
      | (go_at_call 45;(with_reducible refine HC.out.mono ?_);rintro e w3 ⟨rfl,hs3,hk3⟩;have HS3:=hZz hs3;have HK3:=hZz hk3;clear hs3 hk3))
     go_end0
     exact HFIN.out (⟨2,ni,⟨#[]⟩,[]⟩,nilK) _ (by rw [HRQ.out,HT2.out (by first | rfl | trivial)] <;> rfl) HS3.out HK3.out
    ·-- kind 3
     have HC:=hZz (zacY w0 S _ sl.length sc gW e0 (L ++ N) wr 3 (ni) ⟨#[]⟩ HSj.out HLN.out)
     go_wp2_with (first
      | (go_at_call 45;(with_reducible refine HC.out.mono ?_);rintro e w3 ⟨rfl,hs3,hk3⟩;have HS3:=hZz hs3;have HK3:=hZz hk3;clear hs3 hk3))
     go_end0
     exact HFIN.out (⟨3,ni,⟨#[]⟩,[]⟩,nilK) _ (by rw [HRQ.out,HT3.out (by first | rfl | trivial)] <;> rfl) HS3.out HK3.out
    ·-- kind 4
     have HC:=hZz (zacY w0 S _ sl.length sc gW e0 (L ++ N) wr 4 (0) nt HSj.out HLN.out)
     go_wp2_with (first
      | (go_at_call 45;(with_reducible refine HC.out.mono ?_);rintro e w3 ⟨rfl,hs3,hk3⟩;have HS3:=hZz hs3;have HK3:=hZz hk3;clear hs3 hk3))
     go_end0
     exact HFIN.out (⟨4,0,nt,[]⟩,nilK) _ (by rw [HRQ.out,HT4.out (by first | rfl | trivial)] <;> rfl) HS3.out HK3.out
    ·-- kind 5
     obtain ⟨bS,oS,rfl,hcS⟩:=HSV.out;have f2:=(HBS.out _ (Below.refl _ _)).1.2.2;have fs:=hcS _ (HBS.out _ (Below.refl _ _)).2;have hiS:(i:Int)<(sl.length:Int):=by rw [HSN.out,HN9.out];exact hiN
     clear hcS;have HC:=hZz (zacY w0 S _ sl.length sc gW e0 (L ++ N) wr 5 (sv) ⟨#[]⟩ HSj.out HLN.out)
     go_wp2_with (first
      | (go_at_call 45;(with_reducible refine HC.out.mono ?_);rintro e w3 ⟨rfl,hs3,hk3⟩;have HS3:=hZz hs3;have HK3:=hZz hk3;clear hs3 hk3))
     go_end0
     exact HFIN.out (⟨5,sv,⟨#[]⟩,[]⟩,nilK) _ (by rw [HRQ.out,HT5.out (by first | rfl | trivial)] <;> rfl) HS3.out HK3.out
    ·-- kind 6
     have HC:=hZz (zacY w0 S _ sl.length sc gW e0 (L ++ N) wr 11 ((m:Nat)) ⟨#[]⟩ HSj.out HLN.out)
     go_wp2_with (first
      | (go_at_call 45;(with_reducible refine HC.out.mono ?_);rintro e w3 ⟨rfl,hs3,hk3⟩;have HS3:=hZz hs3;have HK3:=hZz hk3;clear hs3 hk3))
     go_end0
     exact HFIN.out (⟨11,(m:Nat),⟨#[]⟩,[]⟩,nilK) _ (by rw [HRQ.out,HT6.out (by first | rfl | trivial)] <;> rfl) HS3.out HK3.out
    ·-- kind 7
     have HC:=hZz (tadd_s w0 S sA sl.length sc gW e0 (L ++ N) wr 12 (m:Nat) ⟨#[]⟩ n.keys kA kc HSj.out HLN.out (by have h:=HKV.out;exact h));rw [HQE.out] at HC
     go_wp2_with (first
      | (go_at_call 45;(with_reducible refine HC.out.mono ?_);rintro e w3 ⟨rfl,hs3,hk3⟩;have HS3:=hZz hs3;have HK3:=hZz hk3;clear hs3 hk3))
     go_end0
     exact HFIN.out (⟨12,(m:Nat),⟨#[]⟩,n.keys⟩,.slice kA q kc) _ (by rw [HRQ.out,HT7.out (by first | rfl | trivial)] <;> rfl) HS3.out HK3.out
    ·-- kind 8
     have HC:=hZz (zacY w0 S _ sl.length sc gW e0 (L ++ N) wr 8 (0) nt HSj.out HLN.out)
     go_wp2_with (first
      | (go_at_call 45;(with_reducible refine HC.out.mono ?_);rintro e w3 ⟨rfl,hs3,hk3⟩;have HS3:=hZz hs3;have HK3:=hZz hk3;clear hs3 hk3))
     go_end0
     exact HFIN.out (⟨8,0,nt,[]⟩,nilK) _ (by rw [HRQ.out,HT8.out (by first | rfl | trivial)] <;> rfl) HS3.out HK3.out
    ·-- kind 9
     have HC:=hZz (zacY w0 S _ sl.length sc gW e0 (L ++ N) wr 9 (0) nt HSj.out HLN.out)
     go_wp2_with (first
      | (go_at_call 45;(with_reducible refine HC.out.mono ?_);rintro e w3 ⟨rfl,hs3,hk3⟩;have HS3:=hZz hs3;have HK3:=hZz hk3;clear hs3 hk3))
     go_end0
     exact HFIN.out (⟨9,0,nt,[]⟩,nilK) _ (by rw [HRQ.out,HT9.out (by first | rfl | trivial)] <;> rfl) HS3.out HK3.out
    ·-- kind 10
     have HC:=hZz (zacY w0 S _ sl.length sc gW e0 (L ++ N) wr 10 (0) ⟨#[]⟩ HSj.out HLN.out)
     go_wp2_with (first
      | (go_at_call 45;(with_reducible refine HC.out.mono ?_);rintro e w3 ⟨rfl,hs3,hk3⟩;have HS3:=hZz hs3;have HK3:=hZz hk3;clear hs3 hk3))
     go_end0
     exact HFIN.out (⟨10,0,⟨#[]⟩,[]⟩,nilK) _ (by rw [HRQ.out,HT10.out (by first | rfl | trivial)] <;> rfl) HS3.out HK3.out
    ·-- kind 11
     have f01:=(HBS.out _ (Below.refl _ _)).1;have fd1:=(HBS.out _ (zadZ wr)).1;have xd:=blk5n (HX.out.below (zadZ wr));have HFC:=hZz (HFF.out _ (HBS.out _ (zadZ wr)).2);go_upto_region 33 with (fail)
     go_region_law (go_simp;go_at_call 70;((refine HFC.out.mono ?_);rintro e w3 ⟨rfl,hb3⟩;have HB3:=hZz (zahZ hb3 (zadZ wr));clear hb3))
     all_goals
      clear f01 fd1 xd x1;have HS3:=hZz (HSj.out.below HB3.out);have HK3:=hZz (HSj.out.kw HB3.out);have x3:=blk5n (HX.out.below HB3.out);by_cases h0:0≤fi
      ·have HTT:=hZz (HT11.out (by first | rfl | trivial))
       rw [if_pos h0] at HTT;have HC:=hZz (zacY w0 S _ sl.length sc gW e0 (L ++ N) w3 17 (fi) ⟨#[]⟩ HS3.out HLN.out)
       go_wp2_with (first
        | (go_at_call 45;(with_reducible refine HC.out.mono ?_);rintro e w4 ⟨rfl,hs4,hk4⟩;have HS4:=hZz hs4;have HK4:=hZz (HK3.out.trans hk4);clear hs4 hk4))
       go_end0
       exact HFIN.out (⟨17,fi,⟨#[]⟩,[]⟩,nilK) _ (by rw [HRQ.out,HTT.out] <;> rfl) HS4.out HK4.out
      ·have HTT:=hZz (HT11.out (by first | rfl | trivial))
       rw [if_neg h0] at HTT;have HC:=hZz (zacY w0 S _ sl.length sc gW e0 (L ++ N) w3 18 ((m:Nat)) nt HS3.out HLN.out)
       go_wp2_with (first
        | (go_at_call 45;(with_reducible refine HC.out.mono ?_);rintro e w4 ⟨rfl,hs4,hk4⟩;have HS4:=hZz hs4;have HK4:=hZz (HK3.out.trans hk4);clear hs4 hk4))
       go_end0
       exact HFIN.out (⟨18,(m:Nat),nt,[]⟩,nilK) _ (by rw [HRQ.out,HTT.out] <;> rfl) HS4.out HK4.out
    ·-- kind 12
     have HC:=hZz (zacY w0 S _ sl.length sc gW e0 (L ++ N) wr 19 ((m:Nat)) nt HSj.out HLN.out)
     go_wp2_with (first
      | (go_at_call 45;(with_reducible refine HC.out.mono ?_);rintro e w3 ⟨rfl,hs3,hk3⟩;have HS3:=hZz hs3;have HK3:=hZz hk3;clear hs3 hk3))
     go_end0
     exact HFIN.out (⟨19,(m:Nat),nt,[]⟩,nilK) _ (by rw [HRQ.out,HT12.out (by first | rfl | trivial)] <;> rfl) HS3.out HK3.out
    ·-- kind 13
     obtain ⟨bS,oS,rfl,hcS⟩:=HSV.out;have f2:=(HBS.out _ (Below.refl _ _)).1.2.2;have fs:=hcS _ (HBS.out _ (Below.refl _ _)).2;have hiS:(i:Int)<(sl.length:Int):=by rw [HSN.out,HN9.out];exact hiN
     clear hcS;have HC:=hZz (zacY w0 S _ sl.length sc gW e0 (L ++ N) wr 6 (sv) ⟨#[]⟩ HSj.out HLN.out)
     go_wp2_with (first
      | (go_at_call 45;(with_reducible refine HC.out.mono ?_);rintro e w3 ⟨rfl,hs3,hk3⟩;have HS3:=hZz hs3;have HK3:=hZz hk3;clear hs3 hk3))
     go_end0
     exact HFIN.out (⟨6,sv,⟨#[]⟩,[]⟩,nilK) _ (by rw [HRQ.out,HT13.out (by first | rfl | trivial)] <;> rfl) HS3.out HK3.out
    ·-- kind 14
     obtain ⟨bS,oS,rfl,hcS⟩:=HSV.out;have f2:=(HBS.out _ (Below.refl _ _)).1.2.2;have fs:=hcS _ (HBS.out _ (Below.refl _ _)).2;have hiS:(i:Int)<(sl.length:Int):=by rw [HSN.out,HN9.out];exact hiN
     clear hcS;have HC:=hZz (zacY w0 S _ sl.length sc gW e0 (L ++ N) wr 6 (sv) ⟨#[]⟩ HSj.out HLN.out)
     go_wp2_with (first
      | (go_at_call 45;(with_reducible refine HC.out.mono ?_);rintro e w3 ⟨rfl,hs3,hk3⟩;have HS3:=hZz hs3;have HK3:=hZz hk3;clear hs3 hk3))
     go_end0
     exact HFIN.out (⟨6,sv,⟨#[]⟩,[]⟩,nilK) _ (by rw [HRQ.out,HT14.out (by first | rfl | trivial)] <;> rfl) HS3.out HK3.out
    ·-- kind 17
     have HC:=hZz (zacY w0 S _ sl.length sc gW e0 (L ++ N) wr 20 (0) ⟨#[]⟩ HSj.out HLN.out)
     go_wp2_with (first
      | (go_at_call 45;(with_reducible refine HC.out.mono ?_);rintro e w3 ⟨rfl,hs3,hk3⟩;have HS3:=hZz hs3;have HK3:=hZz hk3;clear hs3 hk3))
     go_end0
     exact HFIN.out (⟨20,0,⟨#[]⟩,[]⟩,nilK) _ (by rw [HRQ.out,HT17.out (by first | rfl | trivial)] <;> rfl) HS3.out HK3.out
    ·-- kind 18
     have HC:=hZz (zacY w0 S _ sl.length sc gW e0 (L ++ N) wr 7 (0) ⟨#[]⟩ HSj.out HLN.out)
     go_wp2_with (first
      | (go_at_call 45;(with_reducible refine HC.out.mono ?_);rintro e w3 ⟨rfl,hs3,hk3⟩;have HS3:=hZz hs3;have HK3:=hZz hk3;clear hs3 hk3))
     go_end0
     exact HFIN.out (⟨7,0,⟨#[]⟩,[]⟩,nilK) _ (by rw [HRQ.out,HT18.out (by first | rfl | trivial)] <;> rfl) HS3.out HK3.out
    ·-- nothing
     have HTT:=hZz (HT0.out hk);obtain ⟨⟨k1,k2,k3,k4,k5,k6,k7,k8,k9⟩,k10,k11,k12,k13,k14,k17,k18⟩:=hk;have b1:(nk == 1)=false:=by simp [k1]
     have b2:(nk == 2)=false:=by simp [k2]
     have b3:(nk == 3)=false:=by simp [k3]
     have b4:(nk == 4)=false:=by simp [k4]
     have b5:(nk == 5)=false:=by simp [k5]
     have b6:(nk == 6)=false:=by simp [k6]
     have b7:(nk == 7)=false:=by simp [k7]
     have b8:(nk == 8)=false:=by simp [k8]
     have b9:(nk == 9)=false:=by simp [k9]
     have b10:(nk == 10)=false:=by simp [k10]
     have b11:(nk == 11)=false:=by simp [k11]
     have b12:(nk == 12)=false:=by simp [k12]
     have b13:(nk == 13)=false:=by simp [k13]
     have b14:(nk == 14)=false:=by simp [k14]
     have b17:(nk == 17)=false:=by simp [k17]
     have b18:(nk == 18)=false:=by simp [k18]
     clear k1 k2 k3 k4 k5 k6 k7 k8 k9 k10 k11 k12 k13 k14 k17 k18;go_wp2_with (fail)
     go_end0
     exact HP.out _ ⟨N,by rw [HN.out,HRQ.out,HTT.out,List.append_nil],HSj.out,HKj.out⟩
end
end Go.Proofs.YthiimbhjpdphpaaGreatDoor
