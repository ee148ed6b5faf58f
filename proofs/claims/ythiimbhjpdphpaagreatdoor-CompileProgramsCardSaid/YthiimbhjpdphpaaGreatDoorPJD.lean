/- W9, W10, W11, W12, W13, W14, JB, JD -/
import Derived.Test.YthiimbhjpdphpaaGreatDoorPW8
set_option linter.unusedVariables false
set_option linter.unusedSimpArgs false
namespace Go.Proofs.YthiimbhjpdphpaaGreatDoor
open Go.RowKit
set_option maxRecDepth 100000
set_option maxHeartbeats 8000000
open Go.Proofs.Tryz
section
attribute [local go_sem] zabZ
set_option maxHeartbeats 16000000 in
theorem sho0_s (w0:World) (S:ProgS) (sA:Option Addr) (sc gW:Nat) (e0:Int) (sl:List Int) (f:Nat) (hw:NodeH w0 S sA sc gW e0 sl f) (n:NodeD) (kA iA:Option Addr) (kc ic s i:Nat) (L:List (InsD × Value)) (w:World) (a b:Int)
  (ho:isOr n=false) (hks:n.kids=[a,b]) (hc:Cover S.p.nodes f n.kids s i) (hil:i≤S.p.nodes.length) (hi:IntsV w0 (.slice iA n.kids.length ic) n.kids) (h:WrSt w0 w S sA sl.length sc gW e0 L) (hL:L.length+6 * (i+1 - s)≤90000) (he:0≤e0∧e0≤4000) :
  Calls prog 64 #[.pointer (some ⟨gW,0,none⟩),.agg (nodeC n kA kc iA ic)] w fun r w'=>r=.returned (.tuple #[])∧Wrote w0 S sA sl.length sc gW e0 L (shoF (segF S.p sl f) false n.kids (e0+L.length)) w w':=by
 obtain ⟨R,hR⟩:∃ R,shoF (segF S.p sl f) false n.kids (e0+L.length)=R:=⟨_,rfl⟩
 rw [hR];obtain ⟨P,hP⟩:∃ P:Ending→World→Prop,(fun r w'=>r=.returned (.tuple #[])∧Wrote w0 S sA sl.length sc gW e0 L R w w')=P:=⟨_,rfl⟩
 rw [hP];have HP:Hid (∀ w',Wrote w0 S sA sl.length sc gW e0 L R w w'→P (.returned (.tuple #[])) w'):=hZz (fun w' h1=>by rw [← hP];exact ⟨rfl,h1⟩)
 have ho':(n.text.toList == [111,114])=false:=by
  have:isOr n=(n.text.toList == [111,114]):=by
   unfold isOr;rw [Bool.eq_iff_iff];simp
  rw [← this,ho]
 clear ho;unfold nodeC;rw [hks] at hc hi hR ⊢;obtain ⟨m,k,rfl,rfl,hik,hmk,f0,f1⟩:=hc.two';obtain ⟨bI,offI,rfl,hbI,ck0,ck1⟩:=hi.cells2;have HKC:Hid (∀ wx,Below w0.heap.size w0 wx→wx.cell? ⟨bI,offI,none⟩=some (.int .i64 m)∧wx.cell? ⟨bI,offI+1,none⟩=some (.int .i64 k)):=hZz (fun wx hb=>⟨(hb.cell hbI).trans ck0,(hb.cell hbI).trans ck1⟩);have g0:=zaaY f0;have hl0:=fun b=>zaqY S.p sl f m s b f0
 have hl1:=fun b=>zaqY S.p sl f k (m+1) b f1
 have HF0:=hZz f0;have HF1:=hZz f1;have HL0:=hZz hl0;have HL1:=hZz hl1;have HR:=hZz hR;have HW:=hZz hw;have HE:=hZz he;have HB:Hid ((s≤m∧m+1≤k)∧k+1≤S.p.nodes.length∧L.length+6 * (k+2 - s)≤90000):=hZz (by omega);have HH:=hZz h;have hentN:∀ args w,(callFunc 147 args).run prog w=.ok (.enter 147 args) w:=enters_of func147 (by kernel_rfl) rfl
 generalize n.kind=nk;generalize n.text=nt at ho' ⊢;generalize n.int=ni;generalize n.keys.length=q;have HO:=hZz ho';clear ho';show Calls _ _ #[_,.agg #[.int .i64 nk,.string nt,.int .i64 ni,.slice kA q kc,.slice (some ⟨bI,offI,none⟩) 2 ic]] w P;obtain ⟨g,hg⟩:∃ g,w.heap.size=g:=⟨_,rfl⟩
 obtain ⟨W1,hW1⟩:∃ W,w.alloc (.cells #[.int .i64 nk,.string nt,.int .i64 ni,.slice kA q kc,.slice (some ⟨bI,offI,none⟩) 2 ic] 58)=W:=⟨_,rfl⟩
 have hlt:gW<w.heap.size:=by obtain ⟨iv,q,_⟩:=h.wr;exact q.lt
 have HNE:Hid (g≠gW):=hZz (by omega);have HX1:Hid (Blk W1 g 58 #[.int .i64 nk,.string nt,.int .i64 ni,.slice kA q kc,.slice (some ⟨bI,offI,none⟩) 2 ic]):=hZz (by rw [← hW1,← hg];exact Blk.new _ _ _);have HB1:Hid (Below w.heap.size w W1):=hZz (by rw [← hW1];exact zacZ _ _);have HS2:=hZz (h.below HB1.out);have HK2:=hZz (h.kw HB1.out);have HG:=hZz hg;have HW1:=hZz hW1;clear hR hP hw he h hg hW1 hlt hc hi hks hil hL hik hbI ck0 ck1 f0 f1 g0 hl0 hl1 hmk;have HC2:=hZz (HW.out m s L W1 HF0.out (by have:=HB.out;omega) HS2.out (by have:=HB.out;omega));go_enter func64,ntmps64
 go_upto_region 1 with fail
 rw [HG.out,HW1.out];clear HG HW1;have x2:=blk5n HX1.out;have y2:=HKC.out _ HS2.out.bl
 go_upto_region 2 with (first
  | (go_at_call 41;(with_reducible refine HC2.out.mono ?_);rintro e w3 ⟨rfl,hw3⟩;have HW3:=hZz hw3;clear hw3))
 obtain ⟨N0,n0,l0,s3,k3⟩:=HW3.out.st;have HN0:=hZz n0;have b0:=HL0.out (e0+L.length);rw [← l0] at b0;have HS3:=hZz s3;have HK3:=hZz (HK2.out.trans k3);have HX3:=hZz (k3.blk HX1.out HNE.out (by decide));have HL0':=hZz l0;have HB0:=hZz b0;clear n0 l0 s3 k3 b0 x2 y2;have HC3:=hZz (add2_s w0 S sA sl.length sc gW e0 (L ++ N0) w3 15 16 HS3.out (by have:=HB.out;have:=HB0.out;rw [List.length_append];omega))
 go_upto_region 3 with (first
  | (go_at_call 42;(refine HC3.out.mono ?_);rintro e w4 ⟨rfl,hs4,hk4⟩;have HS4:=hZz hs4;have HK4:=hZz (HK3.out.trans hk4);have HX4:=hZz (hk4.blk HX3.out HNE.out (by decide));clear hs4 hk4))
 have ho2:=HO.out;have x4:=blk5n HX4.out;go_upto_region 5 with (fail)
 obtain ⟨M,hM⟩:∃ M:List (InsD × Value),[(insO 15 0,nilK),(insO 16 0,nilK)]=M:=⟨_,rfl⟩
 obtain ⟨w5,hw5⟩:∃ W,w4=W:=⟨_,rfl⟩
 have HS5:=HS4;have HK5:=HK4;have HX5:=HX4;rw [hM,hw5] at HS5;rw [hw5] at HK5 HX5 ⊢;clear hw5;have HMF:Hid (M.map Prod.fst=[insO 15 0,insO 16 0]∧M.length=2):=hZz (by rw [← hM];exact ⟨rfl,rfl⟩);clear hM x4 ho2;have HC5:=hZz (za7Y w0 S sA sl.length sc gW e0 (L ++ N0 ++ M) w5 14 HS5.out (by have:=HB.out;have:=HB0.out;have:=HMF.out.2;simp only [List.length_append];omega))
 go_upto_region 6 with (first
  | (go_at_call 100;(with_reducible refine HC5.out.mono ?_);rintro e w6 ⟨gb,ga,rfl,hf6,hs6,hk6⟩;have HF6:=hZz hf6;have HS6:=hZz hs6;have HK6:=hZz (HK5.out.trans hk6);have HX6:=hZz (hk6.blk HX5.out HNE.out (by decide));clear hf6 hs6 hk6))
 have HC6:=hZz (addP_s w0 S sA sl.length sc gW e0 (L ++ N0 ++ M ++ [(insO 14 0,nilK)]) w6 7 0 ⟨#[]⟩ HS6.out (by have:=HB.out;have:=HB0.out;have:=HMF.out.2;simp only [List.length_append,List.length_cons,List.length_nil];omega))
 go_upto_region 7 with (first
  | (go_at_call 42;(with_reducible refine HC6.out.mono ?_);rintro e w7 ⟨rfl,hs7,hk7⟩;have HS7:=hZz hs7;have HF7:=hZz (HF6.out.kw hk7);have HK7:=hZz (HK6.out.trans hk7);have HX7:=hZz (hk7.blk HX6.out HNE.out (by decide));clear hs7 hk7))
 have e7:L ++ N0 ++ M ++ [(insO 14 0,nilK)] ++ [(⟨7,0,⟨#[]⟩,[]⟩,nilK)]=L ++ N0 ++ M ++ [(insO 14 0,nilK),(insO 7 0,nilK)]:=by simp [insO]
 rw [e7] at HS7;clear e7;have x7:=blk5n HX7.out;have y7:=HKC.out _ HS7.out.bl;have HC7:=hZz (HW.out k (m+1) (L ++ N0 ++ M ++ [(insO 14 0,nilK),(insO 7 0,nilK)]) w7 HF1.out (by have:=HB.out;omega) HS7.out (by have:=HB.out;have:=HB0.out;have:=HMF.out.2;simp only [List.length_append,List.length_cons,List.length_nil];omega))
 go_upto_region 8 with (first
  | (go_at_call 41;(with_reducible refine HC7.out.mono ?_);rintro e w8 ⟨rfl,hw8⟩;have HW8:=hZz hw8;clear hw8))
 obtain ⟨N1,n1,l1,s8,k8⟩:=HW8.out.st;have HN1:=hZz n1;have b1:=HL1.out (e0+(L ++ N0 ++ M ++ [(insO 14 0,nilK),(insO 7 0,nilK)]).length);rw [← l1] at b1;have HS8:=hZz s8;have HK8:=hZz (HK7.out.trans k8);have HX8:=hZz (k8.blk HX7.out HNE.out (by decide));have HF8:=hZz (HF7.out.kw k8);have HL1':=hZz l1;have HB1':=hZz b1;clear n1 l1 s8 k8 b1 x7 y7;have HC8:=hZz (addP_s w0 S sA sl.length sc gW e0 (L ++ N0 ++ M ++ [(insO 14 0,nilK),(insO 7 0,nilK)] ++ N1) w8 15 0 ⟨#[]⟩ HS8.out (by have:=HB.out;have:=HB0.out;have:=HB1'.out;have:=HMF.out.2;simp only [List.length_append,List.length_cons,List.length_nil];omega))
 go_upto_region 9 with (first
  | (go_at_call 42;(with_reducible refine HC8.out.mono ?_);rintro e w9 ⟨rfl,hs9,hk9⟩;have HS9:=hZz hs9;have HF9:=hZz (HF8.out.kw hk9);have HK9:=hZz (HK8.out.trans hk9);clear hs9 hk9))
 have e9:L ++ N0 ++ M ++ [(insO 14 0,nilK),(insO 7 0,nilK)] ++ N1 ++ [(⟨15,0,⟨#[]⟩,[]⟩,nilK)]=(L ++ N0 ++ M) ++ (insO 14 0,nilK) :: ((insO 7 0,nilK) :: N1 ++ [(insO 15 0,nilK)]):=by simp [insO]
 rw [e9] at HS9;clear e9;have HC9:=hZz (endAt_s w0 S sA sl.length sc gW e0 (L ++ N0 ++ M) ((insO 7 0,nilK) :: N1 ++ [(insO 15 0,nilK)]) 14 w9 gb ga HS9.out (by have:=HB.out;have:=HB0.out;have:=HB1'.out;have:=HMF.out.2;simp only [List.length_append,List.length_cons,List.length_nil];omega) HE.out HF9.out)
 go_wp2_with (first
  | (go_at_fn 147;(with_reducible refine HC9.out.mono ?_);rintro e w10 ⟨rfl,hs10,hk10⟩;have HS10:=hZz hs10;have HK10:=hZz (HK9.out.trans hk10);clear hs10 hk10))
 try go_end0
 refine HP.out _ ⟨N0 ++ M ++ (insO 14 _,nilK) :: ((insO 7 0,nilK) :: N1 ++ [(insO 15 0,nilK)]),?_,by rw [← List.append_assoc,← List.append_assoc];exact HS10.out,HK10.out⟩
 rw [← HR.out];have q0:=HN0.out;have q1:=HN1.out;have q2:=HL0'.out;have q3:=HL1'.out;have q4:=HMF.out.1;have q5:=HMF.out.2;simp only [List.length_append,List.length_cons,List.length_nil,q5] at q1 q3;have e1:e0+((L.length+N0.length+2+(0+1+1):Nat):Int)=e0+(L.length:Int)+((segF S.p sl f m (e0+(L.length:Int))).length:Int)+2+2:=by rw [← q2];omega
 rw [e1] at q1 q3
 have e2:e0+(((L ++ N0 ++ M).length+((insO 7 0,nilK) :: N1 ++ [(insO 15 0,nilK)]).length+1:Nat):Int)=e0+(L.length:Int)+((segF S.p sl f m (e0+(L.length:Int))).length:Int)+2+2+((segF S.p sl f k (e0+(L.length:Int)+((segF S.p sl f m (e0+(L.length:Int))).length:Int)+2+2)).length:Int)+1:=by
  rw [← q3,← q2];simp only [List.length_append,List.length_cons,List.length_nil,q5];omega
 rw [e2];simp only [shoF,List.map_append,List.map_cons,List.map_nil,List.getD_cons_zero,List.getD_cons_succ,Int.toNat_natCast];rw [q0,q1,q4];simp
set_option maxHeartbeats 16000000 in
theorem sho1_s (w0:World) (S:ProgS) (sA:Option Addr) (sc gW:Nat) (e0:Int) (sl:List Int) (f:Nat) (hw:NodeH w0 S sA sc gW e0 sl f) (n:NodeD) (kA iA:Option Addr) (kc ic s i:Nat) (L:List (InsD × Value)) (w:World) (a b:Int)
  (ho:isOr n=true) (hks:n.kids=[a,b]) (hc:Cover S.p.nodes f n.kids s i) (hil:i≤S.p.nodes.length) (hi:IntsV w0 (.slice iA n.kids.length ic) n.kids) (h:WrSt w0 w S sA sl.length sc gW e0 L) (hL:L.length+6 * (i+1 - s)≤90000) (he:0≤e0∧e0≤4000) :
  Calls prog 64 #[.pointer (some ⟨gW,0,none⟩),.agg (nodeC n kA kc iA ic)] w fun r w'=>r=.returned (.tuple #[])∧Wrote w0 S sA sl.length sc gW e0 L (shoF (segF S.p sl f) true n.kids (e0+L.length)) w w':=by
 obtain ⟨R,hR⟩:∃ R,shoF (segF S.p sl f) true n.kids (e0+L.length)=R:=⟨_,rfl⟩
 rw [hR];obtain ⟨P,hP⟩:∃ P:Ending→World→Prop,(fun r w'=>r=.returned (.tuple #[])∧Wrote w0 S sA sl.length sc gW e0 L R w w')=P:=⟨_,rfl⟩
 rw [hP];have HP:Hid (∀ w',Wrote w0 S sA sl.length sc gW e0 L R w w'→P (.returned (.tuple #[])) w'):=hZz (fun w' h1=>by rw [← hP];exact ⟨rfl,h1⟩)
 have ho':(n.text.toList == [111,114])=true:=by
  have:isOr n=(n.text.toList == [111,114]):=by
   unfold isOr;rw [Bool.eq_iff_iff];simp
  rw [← this,ho]
 clear ho;unfold nodeC;rw [hks] at hc hi hR ⊢;obtain ⟨m,k,rfl,rfl,hik,hmk,f0,f1⟩:=hc.two';obtain ⟨bI,offI,rfl,hbI,ck0,ck1⟩:=hi.cells2;have HKC:Hid (∀ wx,Below w0.heap.size w0 wx→wx.cell? ⟨bI,offI,none⟩=some (.int .i64 m)∧wx.cell? ⟨bI,offI+1,none⟩=some (.int .i64 k)):=hZz (fun wx hb=>⟨(hb.cell hbI).trans ck0,(hb.cell hbI).trans ck1⟩);have g0:=zaaY f0;have hl0:=fun b=>zaqY S.p sl f m s b f0
 have hl1:=fun b=>zaqY S.p sl f k (m+1) b f1
 have HF0:=hZz f0;have HF1:=hZz f1;have HL0:=hZz hl0;have HL1:=hZz hl1;have HR:=hZz hR;have HW:=hZz hw;have HE:=hZz he;have HB:Hid ((s≤m∧m+1≤k)∧k+1≤S.p.nodes.length∧L.length+6 * (k+2 - s)≤90000):=hZz (by omega);have HH:=hZz h;have hentN:∀ args w,(callFunc 147 args).run prog w=.ok (.enter 147 args) w:=enters_of func147 (by kernel_rfl) rfl
 generalize n.kind=nk;generalize n.text=nt at ho' ⊢;generalize n.int=ni;generalize n.keys.length=q;have HO:=hZz ho';clear ho';show Calls _ _ #[_,.agg #[.int .i64 nk,.string nt,.int .i64 ni,.slice kA q kc,.slice (some ⟨bI,offI,none⟩) 2 ic]] w P;obtain ⟨g,hg⟩:∃ g,w.heap.size=g:=⟨_,rfl⟩
 obtain ⟨W1,hW1⟩:∃ W,w.alloc (.cells #[.int .i64 nk,.string nt,.int .i64 ni,.slice kA q kc,.slice (some ⟨bI,offI,none⟩) 2 ic] 58)=W:=⟨_,rfl⟩
 have hlt:gW<w.heap.size:=by obtain ⟨iv,q,_⟩:=h.wr;exact q.lt
 have HNE:Hid (g≠gW):=hZz (by omega);have HX1:Hid (Blk W1 g 58 #[.int .i64 nk,.string nt,.int .i64 ni,.slice kA q kc,.slice (some ⟨bI,offI,none⟩) 2 ic]):=hZz (by rw [← hW1,← hg];exact Blk.new _ _ _);have HB1:Hid (Below w.heap.size w W1):=hZz (by rw [← hW1];exact zacZ _ _);have HS2:=hZz (h.below HB1.out);have HK2:=hZz (h.kw HB1.out);have HG:=hZz hg;have HW1:=hZz hW1;clear hR hP hw he h hg hW1 hlt hc hi hks hil hL hik hbI ck0 ck1 f0 f1 g0 hl0 hl1 hmk;have HC2:=hZz (HW.out m s L W1 HF0.out (by have:=HB.out;omega) HS2.out (by have:=HB.out;omega));go_enter func64,ntmps64
 go_upto_region 1 with fail
 rw [HG.out,HW1.out];clear HG HW1;have x2:=blk5n HX1.out;have y2:=HKC.out _ HS2.out.bl
 go_upto_region 2 with (first
  | (go_at_call 41;(with_reducible refine HC2.out.mono ?_);rintro e w3 ⟨rfl,hw3⟩;have HW3:=hZz hw3;clear hw3))
 obtain ⟨N0,n0,l0,s3,k3⟩:=HW3.out.st;have HN0:=hZz n0;have b0:=HL0.out (e0+L.length);rw [← l0] at b0;have HS3:=hZz s3;have HK3:=hZz (HK2.out.trans k3);have HX3:=hZz (k3.blk HX1.out HNE.out (by decide));have HL0':=hZz l0;have HB0:=hZz b0;clear n0 l0 s3 k3 b0 x2 y2;have HC3:=hZz (add2_s w0 S sA sl.length sc gW e0 (L ++ N0) w3 15 16 HS3.out (by have:=HB.out;have:=HB0.out;rw [List.length_append];omega))
 go_upto_region 3 with (first
  | (go_at_call 42;(refine HC3.out.mono ?_);rintro e w4 ⟨rfl,hs4,hk4⟩;have HS4:=hZz hs4;have HK4:=hZz (HK3.out.trans hk4);have HX4:=hZz (hk4.blk HX3.out HNE.out (by decide));clear hs4 hk4))
 have ho2:=HO.out;have x4:=blk5n HX4.out;have HC4:=hZz (addP_s w0 S sA sl.length sc gW e0 (L ++ N0 ++ [(insO 15 0,nilK),(insO 16 0,nilK)]) w4 8 0 notS HS4.out (by have:=HB.out;have:=HB0.out;simp only [List.length_append,List.length_cons,List.length_nil];omega));unfold notS at HC4
 go_upto_region 5 with (first
  | (go_at_call 42;(refine HC4.out.mono ?_);rintro e w5 ⟨rfl,hs5,hk5⟩;have HS5:=hZz hs5;have HK5:=hZz (HK4.out.trans hk5);have HX5:=hZz (hk5.blk HX4.out HNE.out (by decide));clear hs5 hk5))
 obtain ⟨M,hM⟩:∃ M:List (InsD × Value),[(insO 15 0,nilK),(insO 16 0,nilK),(insT 8 notS,nilK)]=M:=⟨_,rfl⟩
 have e5:L ++ N0 ++ [(insO 15 0,nilK),(insO 16 0,nilK)] ++ [(⟨8,0,⟨#[110,111,116]⟩,[]⟩,nilK)]=L ++ N0 ++ M:=by rw [← hM];simp [insT,notS]
 rw [e5] at HS5;clear e5;have HMF:Hid (M.map Prod.fst=[insO 15 0,insO 16 0,insT 8 notS]∧M.length=3):=hZz (by rw [← hM];exact ⟨rfl,rfl⟩);clear hM x4 ho2;have HC5:=hZz (za7Y w0 S sA sl.length sc gW e0 (L ++ N0 ++ M) w5 14 HS5.out (by have:=HB.out;have:=HB0.out;have:=HMF.out.2;simp only [List.length_append];omega))
 go_upto_region 6 with (first
  | (go_at_call 100;(with_reducible refine HC5.out.mono ?_);rintro e w6 ⟨gb,ga,rfl,hf6,hs6,hk6⟩;have HF6:=hZz hf6;have HS6:=hZz hs6;have HK6:=hZz (HK5.out.trans hk6);have HX6:=hZz (hk6.blk HX5.out HNE.out (by decide));clear hf6 hs6 hk6))
 have HC6:=hZz (addP_s w0 S sA sl.length sc gW e0 (L ++ N0 ++ M ++ [(insO 14 0,nilK)]) w6 7 0 ⟨#[]⟩ HS6.out (by have:=HB.out;have:=HB0.out;have:=HMF.out.2;simp only [List.length_append,List.length_cons,List.length_nil];omega))
 go_upto_region 7 with (first
  | (go_at_call 42;(with_reducible refine HC6.out.mono ?_);rintro e w7 ⟨rfl,hs7,hk7⟩;have HS7:=hZz hs7;have HF7:=hZz (HF6.out.kw hk7);have HK7:=hZz (HK6.out.trans hk7);have HX7:=hZz (hk7.blk HX6.out HNE.out (by decide));clear hs7 hk7))
 have e7:L ++ N0 ++ M ++ [(insO 14 0,nilK)] ++ [(⟨7,0,⟨#[]⟩,[]⟩,nilK)]=L ++ N0 ++ M ++ [(insO 14 0,nilK),(insO 7 0,nilK)]:=by simp [insO]
 rw [e7] at HS7;clear e7;have x7:=blk5n HX7.out;have y7:=HKC.out _ HS7.out.bl;have HC7:=hZz (HW.out k (m+1) (L ++ N0 ++ M ++ [(insO 14 0,nilK),(insO 7 0,nilK)]) w7 HF1.out (by have:=HB.out;omega) HS7.out (by have:=HB.out;have:=HB0.out;have:=HMF.out.2;simp only [List.length_append,List.length_cons,List.length_nil];omega))
 go_upto_region 8 with (first
  | (go_at_call 41;(with_reducible refine HC7.out.mono ?_);rintro e w8 ⟨rfl,hw8⟩;have HW8:=hZz hw8;clear hw8))
 obtain ⟨N1,n1,l1,s8,k8⟩:=HW8.out.st;have HN1:=hZz n1;have b1:=HL1.out (e0+(L ++ N0 ++ M ++ [(insO 14 0,nilK),(insO 7 0,nilK)]).length);rw [← l1] at b1;have HS8:=hZz s8;have HK8:=hZz (HK7.out.trans k8);have HX8:=hZz (k8.blk HX7.out HNE.out (by decide));have HF8:=hZz (HF7.out.kw k8);have HL1':=hZz l1;have HB1':=hZz b1;clear n1 l1 s8 k8 b1 x7 y7;have HC8:=hZz (addP_s w0 S sA sl.length sc gW e0 (L ++ N0 ++ M ++ [(insO 14 0,nilK),(insO 7 0,nilK)] ++ N1) w8 15 0 ⟨#[]⟩ HS8.out (by have:=HB.out;have:=HB0.out;have:=HB1'.out;have:=HMF.out.2;simp only [List.length_append,List.length_cons,List.length_nil];omega))
 go_upto_region 9 with (first
  | (go_at_call 42;(with_reducible refine HC8.out.mono ?_);rintro e w9 ⟨rfl,hs9,hk9⟩;have HS9:=hZz hs9;have HF9:=hZz (HF8.out.kw hk9);have HK9:=hZz (HK8.out.trans hk9);clear hs9 hk9))
 have e9:L ++ N0 ++ M ++ [(insO 14 0,nilK),(insO 7 0,nilK)] ++ N1 ++ [(⟨15,0,⟨#[]⟩,[]⟩,nilK)]=(L ++ N0 ++ M) ++ (insO 14 0,nilK) :: ((insO 7 0,nilK) :: N1 ++ [(insO 15 0,nilK)]):=by simp [insO]
 rw [e9] at HS9;clear e9;have HC9:=hZz (endAt_s w0 S sA sl.length sc gW e0 (L ++ N0 ++ M) ((insO 7 0,nilK) :: N1 ++ [(insO 15 0,nilK)]) 14 w9 gb ga HS9.out (by have:=HB.out;have:=HB0.out;have:=HB1'.out;have:=HMF.out.2;simp only [List.length_append,List.length_cons,List.length_nil];omega) HE.out HF9.out)
 go_wp2_with (first
  | (go_at_fn 147;(with_reducible refine HC9.out.mono ?_);rintro e w10 ⟨rfl,hs10,hk10⟩;have HS10:=hZz hs10;have HK10:=hZz (HK9.out.trans hk10);clear hs10 hk10))
 try go_end0
 refine HP.out _ ⟨N0 ++ M ++ (insO 14 _,nilK) :: ((insO 7 0,nilK) :: N1 ++ [(insO 15 0,nilK)]),?_,by rw [← List.append_assoc,← List.append_assoc];exact HS10.out,HK10.out⟩
 rw [← HR.out];have q0:=HN0.out;have q1:=HN1.out;have q2:=HL0'.out;have q3:=HL1'.out;have q4:=HMF.out.1;have q5:=HMF.out.2;simp only [List.length_append,List.length_cons,List.length_nil,q5] at q1 q3;have e1:e0+((L.length+N0.length+3+(0+1+1):Nat):Int)=e0+(L.length:Int)+((segF S.p sl f m (e0+(L.length:Int))).length:Int)+3+2:=by rw [← q2];omega
 rw [e1] at q1 q3
 have e2:e0+(((L ++ N0 ++ M).length+((insO 7 0,nilK) :: N1 ++ [(insO 15 0,nilK)]).length+1:Nat):Int)=e0+(L.length:Int)+((segF S.p sl f m (e0+(L.length:Int))).length:Int)+3+2+((segF S.p sl f k (e0+(L.length:Int)+((segF S.p sl f m (e0+(L.length:Int))).length:Int)+3+2)).length:Int)+1:=by
  rw [← q3,← q2];simp only [List.length_append,List.length_cons,List.length_nil,q5];omega
 rw [e2];simp only [shoF,List.map_append,List.map_cons,List.map_nil,List.getD_cons_zero,List.getD_cons_succ,Int.toNat_natCast];rw [q0,q1,q4];simp
end
section
theorem or_eq (n:NodeD):isOr n=(n.text.toList == [111,114]):=by
 unfold isOr;rw [Bool.eq_iff_iff];simp
theorem and_eq (n:NodeD):isAnd n=(n.text.toList == [97,110,100]):=by
 unfold isAnd;rw [Bool.eq_iff_iff];simp
theorem control_s (w0:World) (S:ProgS) (sA:Option Addr) (sc gW:Nat) (e0:Int) (sl:List Int) (f:Nat) (hw:NodeH w0 S sA sc gW e0 sl f) (n:NodeD) (kA iA:Option Addr) (kc ic s i:Nat) (L:List (InsD × Value)) (w:World)
  (hk:n.kind=15∨n.kind=16) (hct:countB n=true) (hc:Cover S.p.nodes f n.kids s i) (hil:i≤S.p.nodes.length) (hi:IntsV w0 (.slice iA n.kids.length ic) n.kids) (h:WrSt w0 w S sA sl.length sc gW e0 L) (hL:L.length+6 * (i+1 - s)≤90000) (he:0≤e0∧e0≤4000) :
  Calls prog 63 #[.pointer (some ⟨gW,0,none⟩),.agg (nodeC n kA kc iA ic)] w fun r w'=>r=.returned (.tuple #[])∧Wrote w0 S sA sl.length sc gW e0 L (ctlF (segF S.p sl f) n.kind n.kids (e0+L.length)) w w':=by
 rcases hk with hk | hk
 ·rcases cnt_if hct hk with h2 | h3
  ·obtain ⟨a,b,hab⟩:=zatY h2
   exact ctl2_s w0 S sA sc gW e0 sl f hw n kA iA kc ic s i L w a b hk hab hc hil hi h hL he
  ·obtain ⟨a,b,c,habc⟩:=zbkY h3
   exact ctl3_s w0 S sA sc gW e0 sl f hw n kA iA kc ic s i L w a b c hk habc hc hil hi h hL he
 ·obtain ⟨a,b,hab⟩:=zatY (zbyY hct (.inr (.inr hk)))
  exact ctl16_s w0 S sA sc gW e0 sl f hw n kA iA kc ic s i L w a b hk hab hc hil hi h hL he
theorem short_s (w0:World) (S:ProgS) (sA:Option Addr) (sc gW:Nat) (e0:Int) (sl:List Int) (f:Nat) (hw:NodeH w0 S sA sc gW e0 sl f) (n:NodeD) (kA iA:Option Addr) (kc ic s i:Nat) (L:List (InsD × Value)) (w:World)
  (hk:n.kind=9) (hct:countB n=true) (hc:Cover S.p.nodes f n.kids s i) (hil:i≤S.p.nodes.length) (hi:IntsV w0 (.slice iA n.kids.length ic) n.kids) (h:WrSt w0 w S sA sl.length sc gW e0 L) (hL:L.length+6 * (i+1 - s)≤90000) (he:0≤e0∧e0≤4000) :
  Calls prog 64 #[.pointer (some ⟨gW,0,none⟩),.agg (nodeC n kA kc iA ic)] w fun r w'=>r=.returned (.tuple #[])∧Wrote w0 S sA sl.length sc gW e0 L (shoF (segF S.p sl f) (isOr n) n.kids (e0+L.length)) w w':=by
 obtain ⟨a,b,hab⟩:=zatY (zbyY hct (.inl hk));cases ho:isOr n with
 | false=>exact sho0_s w0 S sA sc gW e0 sl f hw n kA iA kc ic s i L w a b ho hab hc hil hi h hL he
 | true=>exact sho1_s w0 S sA sc gW e0 sl f hw n kA iA kc ic s i L w a b ho hab hc hil hi h hL he
def LastE (n0:Nat) (w:World) (o:Option InsD) (e:Ending) (w':World):Prop :=
 (∃ x A c,Hid (o=some x)∧e=.returned (.tuple #[.agg #[.int .i64 x.op,.int .i64 x.a,.string x.s,.slice A x.keys.length c],.bool true])∧Hid (OKeys n0 w' (x,.slice A x.keys.length c))∧Hid (Below w.heap.size w w')) ∨
 (Hid (o=none)∧e=.returned (.tuple #[.agg #[.int .i64 0,.int .i64 0,.string ⟨#[]⟩,.slice none 0 0],.bool false])∧Hid (Below w.heap.size w w'))
theorem lastA_s (w0:World) (S:ProgS) (sA:Option Addr) (sc gW:Nat) (e0:Int) (L:List (InsD × Value)) (w:World) (n:NodeD) (i:Nat) (sl:List Int) (kA iA:Option Addr) (kc ic:Nat) (h:WrSt w0 w S sA sl.length sc gW e0 L) (hS:ProgV w0 S) (hfl:S.p.funcs.length≤1000) (hsl:SlAt w0 sA 1 intS sl) (hi:i<sl.length) (hK:KeysV w0 (.slice kA n.keys.length kc) n.keys) (hkl:n.keys.length≤10000) :
  Calls prog 66 #[.pointer (some ⟨gW,0,none⟩),.agg (nodeC n kA kc iA ic),.int .i64 i] w (LastE w0.heap.size w (lastF S.p sl n i)):=by
 have H:Calls prog 66 #[.pointer (some ⟨gW,0,none⟩),.agg (nodeC n kA kc iA ic),.int .i64 i] w fun e w'=>∃ R b,e=.returned (.tuple #[.agg R,.bool b])∧LastQ w0.heap.size w' (lastF S.p sl n i) R b∧Below w.heap.size w w':=by
  by_cases hk7:n.kind=7
  ·exact last7_s w0 S sA sc gW e0 L w n i sl kA iA kc ic h hS hfl hsl hi hk7 hK hkl
  ·exact last_s w0 S sA sc gW e0 L w n i sl kA iA kc ic h hS hfl hsl hi hk7
 refine H.mono ?_
 rintro e w' ⟨R,b,rfl,hq,hb⟩;rcases hq with ⟨x,kv,ho,rfl,rfl,hk⟩ | ⟨ho,rfl,rfl⟩
 ·obtain ⟨A,c,rfl⟩:∃ A c,kv=.slice A x.keys.length c:=zajZ hk
  exact .inl ⟨x,A,c,hZz ho,rfl,hZz hk,hZz hb⟩
 ·exact .inr ⟨hZz ho,rfl,hZz hb⟩
attribute [local go_sem] zabZ
set_option maxHeartbeats 16000000 in
theorem node_s (w0:World) (S:ProgS) (sA:Option Addr) (sc gW:Nat) (e0:Int) (sl:List Int) (hS:ProgV w0 S) (hok:ProgOk S.p) (hfl:S.p.funcs.length≤1000) (hsl:SlAt w0 sA 1 intS sl) (hsn:sl.length=S.p.nodes.length) (he:0≤e0∧e0≤4000) (f:Nat) (hw:NodeH w0 S sA sc gW e0 sl f):NodeH w0 S sA sc gW e0 sl (f+1):=by
 intro i s L w hf hil h hL;have T:=zadY hf;have hsi:=zaaY hf;obtain ⟨R,hR⟩:∃ R,segF S.p sl (f+1) i (e0+L.length)=R:=⟨_,rfl⟩
 rw [hR];obtain ⟨P,hP⟩:∃ P:Ending→World→Prop,(fun e w'=>e=.returned (.tuple #[])∧Wrote w0 S sA sl.length sc gW e0 L R w w')=P:=⟨_,rfl⟩
 rw [hP];have HP:Hid (∀ w',Wrote w0 S sA sl.length sc gW e0 L R w w'→P (.returned (.tuple #[])) w'):=hZz (fun w' h1=>by rw [← hP];exact ⟨rfl,h1⟩);obtain ⟨bN,offN,kA,kc,iA,ic,hA,hbN,c0,c1,c2,c3,c4,hk,hi⟩:=zalY hS.nodes hil
 replace c0:=(h.bl.cell hbN).trans c0
 replace c1:=(h.bl.cell hbN).trans c1
 replace c2:=(h.bl.cell hbN).trans c2
 replace c3:=(h.bl.cell hbN).trans c3
 replace c4:=(h.bl.cell hbN).trans c4
 obtain ⟨n,hn⟩:∃ n,S.p.nodes[i]=n:=⟨_,rfl⟩
 have hgd:S.p.nodes.getD i noNode=n:=by rw [zaiZ hil,hn]
 have hat:S.p.at_ i=n:=hgd;have hcv:=T.cover;have hct:=T.count;rw [hgd] at hcv hct;rw [hn] at c0 c1 c2 c3 c4 hk hi;have hmem:n∈S.p.nodes:=by rw [← hn];exact List.getElem_mem hil
 have hm:=(hok.nodes.kids n hmem).1;have hlen:=hok.nodes.len;have HB:Hid (s≤i∧i<S.p.nodes.length∧L.length+6 * (i+1 - s)≤90000∧n.kids.length≤10000):=hZz (by omega);have HE:=hZz he;have HH:=hZz h;have HIL:Hid (i<sl.length):=hZz (by omega)
 -- what a node writes
 have HR1:Hid ((n.kind=15∨n.kind=16)→R=ctlF (segF S.p sl f) n.kind n.kids (e0+L.length)):=hZz (fun hh=>by rw [← hR,seg_ctl S.p sl f i _ (by rw [hat];exact hh),hat]);have HR2:Hid (n.kind=9→(isAnd n || isOr n)=true→R=shoF (segF S.p sl f) (isOr n) n.kids (e0+L.length)):=hZz (fun h1 h2=>by rw [← hR,seg_sho S.p sl f i _ (by rw [hat];exact h1) (by rw [hat];exact h2),hat]);have HR3:Hid (n.kind=9→(isAnd n || isOr n)=false→R=seqF (segF S.p sl f) n.kids (e0+L.length) ++ [insT 9 n.text]):=hZz (fun h1 h2=>by rw [← hR,seg_bin S.p sl f i _ (by rw [hat];exact h1) (by rw [hat];exact h2),hat]);have HR4:Hid (¬ (n.kind=15∨n.kind=16)→n.kind≠9→R=seqF (segF S.p sl f) n.kids (e0+L.length) ++ optL (lastF S.p sl n i)):=hZz (fun h1 h2=>by rw [← hR,seg_oth S.p sl f i _ (by rw [hat];exact h1) (by rw [hat];exact h2),hat])
 -- the calls
 have HCC:Hid ((n.kind=15∨n.kind=16)→∀ wx,WrSt w0 wx S sA sl.length sc gW e0 L→Calls prog 63 #[.pointer (some ⟨gW,0,none⟩),.agg (nodeC n kA kc iA ic)] wx fun r w'=>r=.returned (.tuple #[])∧Wrote w0 S sA sl.length sc gW e0 L (ctlF (segF S.p sl f) n.kind n.kids (e0+L.length)) wx w'):=hZz (fun hh wx hx=>control_s w0 S sA sc gW e0 sl f hw n kA iA kc ic s i L wx hh hct hcv (by omega) hi hx hL he);have HCS:Hid (n.kind=9→∀ wx,WrSt w0 wx S sA sl.length sc gW e0 L→Calls prog 64 #[.pointer (some ⟨gW,0,none⟩),.agg (nodeC n kA kc iA ic)] wx fun r w'=>r=.returned (.tuple #[])∧Wrote w0 S sA sl.length sc gW e0 L (shoF (segF S.p sl f) (isOr n) n.kids (e0+L.length)) wx w'):=hZz (fun hh wx hx=>short_s w0 S sA sc gW e0 sl f hw n kA iA kc ic s i L wx hh hct hcv (by omega) hi hx hL he);have HCA:Hid (∀ wx,WrSt w0 wx S sA sl.length sc gW e0 L→Calls prog 65 #[.slice iA n.kids.length ic,nodeFn gW] wx fun r w'=>r=.returned (.tuple #[])∧Wrote w0 S sA sl.length sc gW e0 L (seqF (segF S.p sl f) n.kids (e0+L.length)) wx w'):=hZz (fun wx hx=>all_s w0 S sA sc gW e0 sl f hw (by omega) n.kids iA ic s i L wx hcv (by omega) (by omega) hi hx (by omega));have HSQ:Hid ((seqF (segF S.p sl f) n.kids (e0+L.length)).length≤6 * (i - s)):=hZz (seq_bd (fun i s b h=>zaqY S.p sl f i s b h) hcv _);have HCL:Hid (∀ L2 wx,WrSt w0 wx S sA sl.length sc gW e0 L2→Calls prog 66 #[.pointer (some ⟨gW,0,none⟩),.agg (nodeC n kA kc iA ic),.int .i64 i] wx (LastE w0.heap.size wx (lastF S.p sl n i))):=hZz (fun L2 wx hx=>lastA_s w0 S sA sc gW e0 L2 wx n i sl kA iA kc ic hx hS hfl hsl HIL.out hk (by have:=(hok.nodes.kids n hmem).2;omega));obtain ⟨m,hme⟩:∃ m,n.kids.length=m:=⟨_,rfl⟩
 have HM:=hZz hme;obtain ⟨q,hqe⟩:∃ q,n.keys.length=q:=⟨_,rfl⟩
 obtain ⟨nk,hnk⟩:∃ x,n.kind=x:=⟨_,rfl⟩
 obtain ⟨nt,hnt⟩:∃ x,n.text=x:=⟨_,rfl⟩
 obtain ⟨ni,hni⟩:∃ x,n.int=x:=⟨_,rfl⟩
 have HAO:Hid (isAnd n=(nt.toList == [97,110,100])∧isOr n=(nt.toList == [111,114])):=hZz (by rw [← hnt];exact ⟨and_eq n,or_eq n⟩);unfold nodeC at HCC HCS HCL;unfold nodeFn at HCA;rw [hnk] at c0 HR1 HR2 HR3 HR4 HCC HCS HCL;rw [hnt] at c1 HR3 HCC HCS HCL;rw [hni] at c2 HCC HCS HCL;rw [hqe] at c3 HCC HCS HCL;rw [hme] at c4 HCC HCS HCL HCA;obtain ⟨⟨iv,hb0,_⟩,_,_,_⟩:=h;obtain ⟨s0,s1,s2,s3,s4⟩:=blkW hb0;rw [hA] at s0;obtain ⟨N,hN⟩:∃ N,S.p.nodes.length=N:=⟨_,rfl⟩
 have HN:=hZz hN;rw [hN] at s0 hil hlen;have hiN:(i:Int)<(N:Int):=by omega
 have hi0:(0:Int)≤(i:Int):=by omega
 obtain ⟨g,hg⟩:∃ g,w.heap.size=g:=⟨_,rfl⟩
 obtain ⟨W1,hW1⟩:∃ W,w.alloc (.cells #[.int .i64 nk,.string nt,.int .i64 ni,.slice kA q kc,.slice iA m ic] 58)=W:=⟨_,rfl⟩
 have HNE:Hid (g≠gW):=hZz (by have:=hb0.lt;omega);have HX1:Hid (Blk W1 g 58 #[.int .i64 nk,.string nt,.int .i64 ni,.slice kA q kc,.slice iA m ic]):=hZz (by rw [← hW1,← hg];exact Blk.new _ _ _);have HB1:Hid (Below w.heap.size w W1):=hZz (by rw [← hW1];exact zacZ _ _);have HS1:=hZz (HH.out.below HB1.out);have HK1:=hZz (HH.out.kw HB1.out);have HG:=hZz hg;have HW1:=hZz hW1;clear hR hP hA hbN hk hi hn hgd hat hcv hct hmem hw hS hok hme hqe hnk hnt hni hN hg hW1 hf T hsi hsl hsn he hL hm hb0 hfl;go_enter func41,ntmps41
 go_upto_region 1 with fail
 rw [HG.out,HW1.out];clear HG HW1 c0 c1 c2 c3 c4 s0 s1 s2 s3 s4;have x1:=blk5n HX1.out;by_cases h15:nk=15
 ·subst h15
  go_wp2_with (first
   | (go_at_call 63;(with_reducible refine (HCC.out (.inl rfl) W1 HS1.out).mono ?_);rintro e w2 ⟨rfl,hw2⟩;have HW2:=hZz hw2;clear hw2))
  go_end0
  obtain ⟨N0,n0,s0,k0⟩:=HW2.out;exact HP.out _ ⟨N0,by rw [n0,HR1.out (by simp)],s0,HK1.out.trans k0⟩
 by_cases h16:nk=16
 ·subst h16
  go_wp2_with (first
   | (go_at_call 63;(with_reducible refine (HCC.out (.inr rfl) W1 HS1.out).mono ?_);rintro e w2 ⟨rfl,hw2⟩;have HW2:=hZz hw2;clear hw2))
  go_end0
  obtain ⟨N0,n0,s0,k0⟩:=HW2.out;exact HP.out _ ⟨N0,by rw [n0,HR1.out (by simp)],s0,HK1.out.trans k0⟩
 by_cases h9:nk=9
 ·subst h9
  obtain ⟨ba,hba⟩:∃ b,(nt.toList == [97,110,100])=b:=⟨_,rfl⟩
  obtain ⟨bo,hbo⟩:∃ b,(nt.toList == [111,114])=b:=⟨_,rfl⟩
  rw [hba,hbo] at HAO;cases ba with
  | true =>
   go_wp2_with (first
    | (go_at_call 64;(with_reducible refine (HCS.out rfl W1 HS1.out).mono ?_);rintro e w2 ⟨rfl,hw2⟩;have HW2:=hZz hw2;clear hw2))
   go_end0
   obtain ⟨N0,n0,s0,k0⟩:=HW2.out;exact HP.out _ ⟨N0,by rw [n0,HR2.out (by simp) (by simp [HAO.out.1])],s0,HK1.out.trans k0⟩
  | false =>
   cases bo with
   | true =>
    go_wp2_with (first
     | (go_at_call 64;(with_reducible refine (HCS.out rfl W1 HS1.out).mono ?_);rintro e w2 ⟨rfl,hw2⟩;have HW2:=hZz hw2;clear hw2))
    go_end0
    obtain ⟨N0,n0,s0,k0⟩:=HW2.out;exact HP.out _ ⟨N0,by rw [n0,HR2.out (by simp) (by simp [HAO.out.1,HAO.out.2])],s0,HK1.out.trans k0⟩
   | false =>
    go_upto_region 14 with (first
     | (go_at_call 65;(with_reducible refine (HCA.out W1 HS1.out).mono ?_);rintro e w2 ⟨rfl,hw2⟩;have HW2:=hZz hw2;clear hw2))
    obtain ⟨N0,n0,l0,s2,k2⟩:=HW2.out.st;have HN0:=hZz n0;have HS2:=hZz s2;have HK2:=hZz k2;have HL0:Hid (L.length+N0.length≤90000):=hZz (by have:=HB.out;have:=HSQ.out;omega);have HX2:=hZz (k2.blk HX1.out HNE.out (by decide));clear n0 l0 s2 k2 x1;have x2:=blk5n HX2.out;have HC3:=hZz (addP_s w0 S sA sl.length sc gW e0 (L ++ N0) w2 9 0 nt HS2.out (by have:=HL0.out;rw [List.length_append];omega))
    go_wp2_with (first
     | (go_at_call 42;(with_reducible refine HC3.out.mono ?_);rintro e w3 ⟨rfl,hs3,hk3⟩;have HS3:=hZz hs3;have HK3:=hZz hk3;clear hs3 hk3))
    go_end0
    exact HP.out _ ⟨N0 ++ [(insT 9 nt,nilK)],by rw [List.map_append,HN0.out,HR3.out (by simp) (by simp [HAO.out.1,HAO.out.2])];rfl,by rw [← List.append_assoc];exact HS3.out,(HK1.out.trans HK2.out).trans HK3.out⟩
 have d15:(nk == 15)=false:=by simp [h15]
 have d16:(nk == 16)=false:=by simp [h16]
 have d9:(nk == 9)=false:=by simp [h9]
 have HNR:Hid (R=seqF (segF S.p sl f) n.kids (e0+L.length) ++ optL (lastF S.p sl n i)):=hZz (HR4.out (by omega) h9);clear h15 h16 h9
 go_upto_region 4 with (first
  | (go_at_call 65;(with_reducible refine (HCA.out W1 HS1.out).mono ?_);rintro e w2 ⟨rfl,hw2⟩;have HW2:=hZz hw2;clear hw2))
 obtain ⟨N0,n0,l0,s2,k2⟩:=HW2.out.st;have HN0:=hZz n0;have HS2:=hZz s2;have HK2:=hZz k2;have HL0:Hid (L.length+N0.length≤90000):=hZz (by have:=HB.out;have:=HSQ.out;omega);have HX2:=hZz (k2.blk HX1.out HNE.out (by decide));clear n0 l0 s2 k2 x1 d15 d16 d9;have x2:=blk5n HX2.out;have HC4:=hZz (HCL.out (L ++ N0) w2 HS2.out)
 go_upto_region 5 with (first
  | (go_at_call 66;(with_reducible refine HC4.out.mono ?_);rintro e w6 (⟨x6,A6,c6,HO6,rfl,HK6,HB6⟩ | ⟨HO6,rfl,HB6⟩)))
 ·obtain ⟨g6,hg6⟩:∃ g,w6.heap.size=g:=⟨_,rfl⟩
  obtain ⟨W7,hW7⟩:∃ W,w6.alloc (.cells #[.int .i64 x6.op,.int .i64 x6.a,.string x6.s,.slice A6 x6.keys.length c6] 53)=W:=⟨_,rfl⟩
  have HB7:Hid (Below w6.heap.size w6 W7):=hZz (by rw [← hW7];exact zacZ _ _);have HX7:Hid (Blk W7 g6 53 #[.int .i64 x6.op,.int .i64 x6.a,.string x6.s,.slice A6 x6.keys.length c6]):=hZz (by rw [← hW7,← hg6];exact Blk.new _ _ _);have HS7:=hZz ((HS2.out.below HB6.out).below HB7.out);have HK7:Hid (OKeys w0.heap.size W7 (x6,.slice A6 x6.keys.length c6)):=hZz (zagZ HK6.out HB7.out);have HC7:=hZz (add1_s w0 S sA sl.length sc gW e0 (L ++ N0) W7 x6.op x6.a x6.s x6.keys (.slice A6 x6.keys.length c6) HS7.out (by have:=HL0.out;rw [List.length_append];omega) HK7.out rfl);rw [hg6,hW7];have HG6:=hZz hg6;clear hg6 hW7 x2;have x7:=blk4n HX7.out
  go_wp2_with (first
   | (go_at_call 42;(with_reducible refine HC7.out.mono ?_);rintro e w8 ⟨rfl,hs8,hk8⟩;have HS8:=hZz hs8;have HK8:=hZz hk8;clear hs8 hk8))
  go_end0
  refine HP.out _ ⟨N0 ++ [(x6,.slice A6 x6.keys.length c6)],by rw [List.map_append,HN0.out,HNR.out,HO6.out];rfl,by rw [← List.append_assoc];exact HS8.out,?_⟩
  exact ((HK1.out.trans HK2.out).trans ((HS2.out.kw HB6.out).trans ((HS2.out.below HB6.out).kw HB7.out))).trans HK8.out
 ·go_wp2_with (fail)
  go_end0
  have hb7:=zacZ w6 (.cells #[.int .i64 0,.int .i64 0,.string ⟨#[]⟩,.slice none 0 0] 53);refine HP.out _ ⟨N0,by rw [HN0.out,HNR.out,HO6.out];exact (List.append_nil _).symm,(HS2.out.below HB6.out).below hb7,?_⟩
  exact (HK1.out.trans HK2.out).trans ((HS2.out.kw HB6.out).trans ((HS2.out.below HB6.out).kw hb7))
end
section
structure WrCtx (w0:World) (S:ProgS) (sA:Option Addr) (sl:List Int):Prop where
 prog:ProgV w0 S
 ok:ProgOk S.p
 syn:SynOk S.p
 slots:SlAt w0 sA 1 intS sl
 len:sl.length=S.p.nodes.length
theorem node_all (w0:World) (S:ProgS) (sA:Option Addr) (sc gW:Nat) (e0:Int) (sl:List Int) (hC:WrCtx w0 S sA sl) (he:0≤e0∧e0≤4000):∀ f,NodeH w0 S sA sc gW e0 sl f:=by
 intro f;induction f with
 | zero=>intro i s L w hf;cases hf
 | succ f ih=>exact node_s w0 S sA sc gW e0 sl hC.prog hC.ok (by have:=hC.ok.funcs;omega) hC.slots hC.len he f ih
attribute [local go_sem] zabZ
theorem wfunc_s (w0:World) (S:ProgS) (sA:Option Addr) (sc gW:Nat) (e0:Int) (sl:List Int) (hC:WrCtx w0 S sA sl) (he:0≤e0∧e0≤4000) (k:Nat) (hk:k<S.p.funcs.length) (L:List (InsD × Value)) (w:World) (h:WrSt w0 w S sA sl.length sc gW e0 L) (hL:L.length≤20000) :
  Calls prog 28 #[.pointer (some ⟨gW,0,none⟩),.int .i64 k] w fun e w'=>e=.returned (.tuple #[])∧Wrote w0 S sA sl.length sc gW e0 L (funcSeg S.p sl k (e0+L.length)) w w':=by
 obtain ⟨R,hR⟩:∃ R,funcSeg S.p sl k (e0+L.length)=R:=⟨_,rfl⟩
 rw [hR];obtain ⟨P,hP⟩:∃ P:Ending→World→Prop,(fun e w'=>e=.returned (.tuple #[])∧Wrote w0 S sA sl.length sc gW e0 L R w w')=P:=⟨_,rfl⟩
 rw [hP];have HP:Hid (∀ w',Wrote w0 S sA sl.length sc gW e0 L R w w'→P (.returned (.tuple #[])) w'):=hZz (fun w' h1=>by rw [← hP];exact ⟨rfl,h1⟩);obtain ⟨b,hfo,_,_⟩:=hC.syn.func hk;obtain ⟨bF,offF,kA,kc,hA,hbF,_,_,c2,_⟩:=zakY hC.prog.funcs hk
 replace c2:=(h.bl.cell hbF).trans c2
 have hbo:=hfo.body;rw [hbo] at c2;have hgd:(S.p.funcs.getD k noFunc)=S.p.funcs[k]:=zaiZ hk _;unfold funcSeg at hR;rw [hgd,hbo,Int.toNat_natCast] at hR;have hN:=hC.syn.nodes;have HC2:=hZz (node_all w0 S sA sc gW e0 sl hC he 600 b _ L w hfo.first hfo.lt h (by have:=zaaY hfo.first;have:=hfo.lt;omega));have HSG:=hZz (zaqY S.p sl 600 b _ (e0+L.length) hfo.first);have HSL:Hid ((segF S.p sl 600 b (e0+L.length)).length≤6000):=hZz (by have:=HSG.out;have:=hfo.lt;omega);have HR:=hZz hR;have HLL:=hZz hL;obtain ⟨⟨iv,hb0,_⟩,_,_,_⟩:=h;obtain ⟨s0,s1,s2,s3,s4⟩:=blkW hb0;rw [hA] at s1;obtain ⟨N,hNe⟩:∃ N,S.p.funcs.length=N:=⟨_,rfl⟩
 rw [hNe] at s1 hk;have hkN:(k:Int)<(N:Int):=by omega
 have hk0:(0:Int)≤(k:Int):=by omega
 clear hR hP hA hbF hbo hgd hfo hC he hL hb0 hNe hN HSG;go_enter func28,ntmps28
 go_upto_region 1 with (first
  | (go_at_call 41;(with_reducible refine HC2.out.mono ?_);rintro e w2 ⟨rfl,hw2⟩;have HW2:=hZz hw2;clear hw2))
 obtain ⟨N0,n0,l0,s2',k2⟩:=HW2.out.st;have HN0:=hZz n0;have HS2:=hZz s2';have HK2:=hZz k2;have HC3:=hZz (add2_s w0 S sA sl.length sc gW e0 (L ++ N0) w2 1 20 HS2.out (by have:=HLL.out;have:=HSL.out;rw [List.length_append];omega));clear n0 l0 s2' k2 s0 s1 s2 s3 s4 c2
 go_wp2_with (first
  | (go_at_call 42;(refine HC3.out.mono ?_);rintro e w3 ⟨rfl,hs3,hk3⟩;have HS3:=hZz hs3;have HK3:=hZz hk3;clear hs3 hk3))
 go_end0
 exact HP.out _ ⟨N0 ++ [(insO 1 0,nilK),(insO 20 0,nilK)],by rw [List.map_append,HN0.out,← HR.out];rfl,by rw [← List.append_assoc];exact HS3.out,HK2.out.trans HK3.out⟩
end
section
theorem slots_len {p:ProgD} (h:(studyF p).err=0):(studyF p).slots.length=p.nodes.length:=by
 obtain ⟨h1,h2,_⟩:=za2Y h;rw [h2];exact (h1.step _ (Nat.le_refl _)).1
def StartP (S:ProgS) (w:World) (e0:Int) (r:Ending) (w':World):Prop :=
 ((studyF S.p).err≠0∧r=.returned (.tuple #[.pointer none,.int .i64 (studyF S.p).err])∧Below w.heap.size w w') ∨
 ((studyF S.p).err=0∧∃ w0 sA sc gW,Below w.heap.size w w0∧WrCtx w0 S sA (studyF S.p).slots∧WrSt w0 w' S sA (studyF S.p).slots.length sc gW e0 []∧r=.returned (.tuple #[.pointer (some ⟨gW,0,none⟩),.int .i64 0]))
attribute [local go_sem] zabZ
set_option maxHeartbeats 4000000 in
theorem start_s (S:ProgS) (e0:Int) (w:World) (hS:ProgV w S) (hp:Pow w) (hok:ProgOk S.p):Calls prog 26 #[S.val,.int .i64 e0] w (StartP S w e0):=by
 obtain ⟨P,hP⟩:∃ P:Ending→World→Prop,StartP S w e0=P:=⟨_,rfl⟩
 rw [hP];have HP1:Hid (∀ w',(studyF S.p).err≠0→Below w.heap.size w w'→P (.returned (.tuple #[.pointer none,.int .i64 (studyF S.p).err])) w'):=hZz (fun w' h h2=>by rw [← hP];exact .inl ⟨h,rfl,h2⟩);have HP2:Hid (∀ w0 w' sA sc gW,(studyF S.p).err=0→Below w.heap.size w w0→WrCtx w0 S sA (studyF S.p).slots→WrSt w0 w' S sA (studyF S.p).slots.length sc gW e0 []→P (.returned (.tuple #[.pointer (some ⟨gW,0,none⟩),.int .i64 0])) w'):=hZz (fun w0 w' sA sc gW h h2 h3 h4=>by rw [← hP];exact .inr ⟨h,w0,sA,sc,gW,h2,h3,h4,rfl⟩);have HS:=hZz hS;have HOK:=hZz hok;obtain ⟨W1,hW1⟩:∃ W,w.alloc (.cells #[.slice S.A S.p.nodes.length S.ncap,.slice S.B S.p.funcs.length S.fcap] 25)=W:=⟨_,rfl⟩
 obtain ⟨g,hg⟩:∃ g,w.heap.size=g:=⟨_,rfl⟩
 have hb1:Below w.heap.size w W1:=by rw [← hW1];exact zacZ _ _
 have HB1:=hZz hb1;have HX1:Hid (Blk W1 g 25 #[.slice S.A S.p.nodes.length S.ncap,.slice S.B S.p.funcs.length S.fcap]):=hZz (by rw [← hW1,← hg];exact Blk.new _ _ _);have HC:Hid (Calls prog 40 #[S.val] W1 (SlotsP S.p W1)):=hZz (slots_s S W1 (hS.below hb1) (hp.below hb1) hok);unfold ProgS.val at HC ⊢;have HG:=hZz hg;have HW1:=hZz hW1;clear hP hS hp hok hg hW1 hb1;go_enter func26,ntmps26
 go_upto_region 1 with fail
 rw [HG.out,HW1.out];clear HG HW1;have x1:=blk2 HX1.out
 go_upto_region 2 with (first
  | (go_at_call 40;(with_reducible refine HC.out.mono ?_);rintro e w2 ⟨hq,hb2⟩;have HB12:=hZz hb2;have HB2:=hZz (zaaZ hb2 HB1.out HB1.out.size);clear hb2;rcases hq with ⟨h0,rfl⟩ | ⟨h0,A,c,rfl,h1⟩))
 ·have H0:=hZz h0
  obtain ⟨er,her⟩:∃ x,(studyF S.p).err=x:=⟨_,rfl⟩
  rw [her] at h0 HP1 ⊢;have e0:(er != 0)=true:=by simp [h0]
  have HER:=hZz her;clear h0 her;go_wp2_with (fail)
  exact HP1.out _ (by rw [← HER.out];exact H0.out) HB2.out
 ·have H0:=hZz h0
  have H1:=hZz h1;have HX2:=hZz (HX1.out.below HB12.out);obtain ⟨sn,hsn⟩:∃ n,(studyF S.p).slots.length=n:=⟨_,rfl⟩
  have HSN:=hZz hsn;rw [hsn] at HP2 ⊢;clear h0 h1 x1 hsn;have x2:=blk2 HX2.out;go_wp2_with (fail)
  refine HP2.out w2 _ A c _ H0.out HB2.out ⟨HS.out.below HB2.out,HOK.out,(za2Y H0.out).1,H1.out,slots_len H0.out⟩ ?_
  have hlt:w2.heap.size≤w2.heap.size:=Nat.le_refl _;refine ⟨⟨.slice none 0 0,Blk.new _ _ _,⟨rfl,.inl ⟨rfl,rfl⟩⟩⟩,fun p hp=>absurd hp (by simp),zacZ _ _,Nat.le_refl _⟩
end
section
theorem own_baseW {w:World} {a b n size:Nat} {v:Value} {xs:List Value} {e:TypeId} (h:w.ownsRow b e size v n xs) (hab:a≤b):w.ownsRow a e size v n xs:=by
 obtain ⟨h1,h2⟩:=h;refine ⟨h1,h2.imp id (fun ⟨g,cap,cur,ev,eg,r⟩=>⟨g,cap,cur,ev,Nat.le_trans hab eg,r⟩)⟩
def InsO (n0:Nat) (w:World) (v:Value) (is:List InsD):Prop:=∃ N:List (InsD × Value),N.map Prod.fst=is∧w.ownsRow n0 53 4 v N.length (N.flatMap insRow)∧∀ p∈N,OKeys n0 w p
theorem InsO.nil (n0:Nat) (w:World):InsO n0 w (.slice none 0 0) []:=⟨[],rfl,⟨rfl,.inl ⟨rfl,rfl⟩⟩,fun p hp=>by cases hp⟩
theorem InsO.below {n0:Nat} {w w':World} {v:Value} {is:List InsD} (h:InsO n0 w v is) (hb:Below w.heap.size w w'):InsO n0 w' v is:=by
 obtain ⟨N,h1,h2,h3⟩:=h;exact ⟨N,h1,zagZ h2 hb,fun p hp=>zagZ (h3 p hp) hb⟩
theorem WrSt.insO {w0 w:World} {S:ProgS} {sA:Option Addr} {sn sc gW a:Nat} {e0:Int} {L:List (InsD × Value)} (h:WrSt w0 w S sA sn sc gW e0 L) (ha:a≤w0.heap.size):∃ iA ic,Blk w gW 67 #[.slice S.A S.p.nodes.length S.ncap,.slice S.B S.p.funcs.length S.fcap,.slice sA sn sc,.int .i64 e0,.slice iA L.length ic]∧InsO a w (.slice iA L.length ic) (L.map Prod.fst):=by
 obtain ⟨⟨iv,h1,h2⟩,h3,_,_⟩:=h;obtain ⟨iA,ic,rfl⟩:=zajZ h2;exact ⟨iA,ic,h1,L,rfl,own_baseW h2 ha,fun p hp=>own_baseW (h3 p hp) ha⟩
attribute [local go_sem] zabZ
end
section
attribute [local go_sem] zabZ
theorem clength_s (S:ProgS) (w:World) (hS:ProgV w S) (hp:Pow w) (hok:ProgOk S.p):Calls prog 21 #[S.val] w fun r w'=>r=.returned (.tuple #[.int .i64 (lengthF S.p).1,.int .i64 (lengthF S.p).2])∧Below w.heap.size w w':=by
 obtain ⟨R,hR⟩:∃ R,lengthF S.p=R:=⟨_,rfl⟩
 rw [hR];obtain ⟨P,hP⟩:∃ P:Ending→World→Prop,(fun r w'=>r=.returned (.tuple #[.int .i64 R.1,.int .i64 R.2])∧Below w.heap.size w w')=P:=⟨_,rfl⟩
 rw [hP];have HP:Hid (∀ w' a b,R=(a,b)→Below w.heap.size w w'→P (.returned (.tuple #[.int .i64 a,.int .i64 b])) w'):=hZz (fun w' a b h h2=>by rw [← hP];exact ⟨by rw [h],h2⟩);have HR:Hid (R=if (studyF S.p).err≠0 then (0,(studyF S.p).err) else (((allSeg S.p (studyF S.p).slots S.p.funcs.length).length:Int),0)):=hZz hR.symm;obtain ⟨W1,hW1⟩:∃ W,w.alloc (.cells #[.slice S.A S.p.nodes.length S.ncap,.slice S.B S.p.funcs.length S.fcap] 25)=W:=⟨_,rfl⟩
 obtain ⟨g,hg⟩:∃ g,w.heap.size=g:=⟨_,rfl⟩
 have hb1:Below w.heap.size w W1:=by rw [← hW1];exact zacZ _ _
 have HB1:=hZz hb1;have HX1:Hid (Blk W1 g 25 #[.slice S.A S.p.nodes.length S.ncap,.slice S.B S.p.funcs.length S.fcap]):=hZz (by rw [← hW1,← hg];exact Blk.new _ _ _);have HC:Hid (Calls prog 26 #[S.val,.int .i64 0] W1 (StartP S W1 0)):=hZz (start_s S 0 W1 (hS.below hb1) (hp.below hb1) hok);unfold ProgS.val at HC ⊢;have HG:=hZz hg;have HW1:=hZz hW1;clear hP hR hS hp hok hg hW1 hb1;go_enter func21,ntmps21
 go_upto_region 1 with fail
 rw [HG.out,HW1.out];clear HG HW1;have x1:=blk2 HX1.out
 go_upto_region 2 with (first
  | (go_at_call 26;(with_reducible refine HC.out.mono ?_);rintro r w2 hq;rcases hq with ⟨h0,rfl,hb2⟩ | ⟨h0,w0,sA,sc,gW,hb0,hcx,hst,rfl⟩))
 ·have HB2:=hZz (zaaZ hb2 HB1.out HB1.out.size)
  obtain ⟨er,her⟩:∃ x,(studyF S.p).err=x:=⟨_,rfl⟩
  rw [her] at h0 HR ⊢;have e0:(er != 0)=true:=by simp [h0]
  have H0:=hZz h0;clear h0 her hb2;go_wp2_with (fail)
  exact HP.out _ _ _ (by rw [HR.out,if_pos H0.out]) HB2.out
 ·have HCX:=hZz hcx
  have HST:=hZz hst;have HB0:=hZz (zaaZ hb0 HB1.out HB1.out.size);have HB2:Hid (Below W1.heap.size W1 w2):=hZz (zaaZ hst.bl hb0 hb0.size);have HR2:Hid (R=(((allSeg S.p (studyF S.p).slots S.p.funcs.length).length:Int),0)):=hZz (by rw [HR.out,if_neg (by rw [h0];simp)]);have HX2:=hZz (HX1.out.below HB2.out);have hN:=hcx.syn.funcs;generalize (studyF S.p).slots=sl at HCX HST HR2;clear h0 hb0 hcx hst x1 HR HC;have x2:=blk2 HX2.out;obtain ⟨nf,hnf⟩:∃ n,S.p.funcs.length=n:=⟨_,rfl⟩
  have HNF:=hZz hnf;rw [hnf] at x2 HR2 hN;clear hnf;go_upto_region 4 with (fail)
  go_wp2_with (fail)
  go_loopw [6,18,19,20,21,22,23,24] (fun _ kv _ _ _ _ _ _ wr=>∃ (k:Nat) (L:List (InsD × Value)),k≤nf∧kv=.int .i64 k∧Hid (L.map Prod.fst=allSeg S.p sl k)∧Hid (WrSt w0 wr S sA sl.length sc gW 0 L)) (fun _ kv _ _ _ _ _ _ _=>nf - (intOf kv).toNat)
  case atStart=>exact ⟨0,[],Nat.zero_le _,rfl,hZz rfl,HST⟩
  case round =>
   obtain ⟨k,L,hk,rfl,HL,HS⟩:=hrel;have hk0:(0:Int)≤(k:Int):=by omega
   have hlen:L.length≤3632:=by
    have:=congrArg List.length HL.out
    rw [List.length_map] at this;rw [this];exact HCX.out.syn.all_le sl (by rw [HNF.out];exact hk)
   have hlL:(allSeg S.p sl k).length=L.length:=by rw [← HL.out,List.length_map]
   have HLL:=hZz hlL;have HLE:=hZz hlen;clear hlL hlen;by_cases hlt:k<nf
   ·have hlt':(k:Int)<(nf:Int):=by omega
    have HC2:=hZz (wfunc_s w0 S sA sc gW 0 sl HCX.out (by omega) k (by rw [HNF.out];exact hlt) L wr HS.out (by have:=HLE.out;omega))
    go_wp2_with (first
     | (go_at_call 28;(with_reducible refine HC2.out.mono ?_);rintro r w3 ⟨rfl,hw3⟩;have HW3:=hZz hw3;clear hw3))
    obtain ⟨N0,n0,_,s3,k3⟩:=HW3.out.st;refine ⟨⟨k+1,L ++ N0,by omega,by simp,hZz ?_,hZz s3⟩,by simp [intOf];omega⟩
    rw [List.map_append,HL.out,n0];simp only [allSeg];rw [HLL.out];congr 2
    omega
   ·have e9:nf=k:=by omega
    subst e9;obtain ⟨iA,ic,hbk,hio⟩:=HS.out.insO (a:=w.heap.size) HB0.out.size;have HB3:=hZz (zaaZ HS.out.bl HB0.out HB0.out.size);have y:=blkW hbk;have HR3:Hid (R=((L.length:Int),0)):=hZz (by rw [HR2.out,HLL.out]);clear hbk hio x2;generalize L.length=ln at y HR3;go_wp2_with (fail)
    exact HP.out _ _ _ HR3.out HB3.out
end
section
def insV (x:InsD) (A:Option Addr) (c:Nat):Value:=.agg #[.int .i64 x.op,.int .i64 x.a,.string x.s,.slice A x.keys.length c]
attribute [local go_sem] zabZ
theorem same_s (x y:InsD) (A B:Option Addr) (c d:Nat) (w:World) (hx:SlAt w A 1 strCs x.keys) (hy:SlAt w B 1 strCs y.keys) (hxy:x=y) (hl:x.keys.length≤100000):Calls prog 24 #[insV x A c,insV y B d] w fun e w'=>e=.returned (.bool true)∧Below w.heap.size w w':=by
 subst hxy;obtain ⟨P,hP⟩:∃ P:Ending→World→Prop,(fun e w'=>e=.returned (.bool true)∧Below w.heap.size w w')=P:=⟨_,rfl⟩
 rw [hP];have HP:Hid (∀ w',Below w.heap.size w w'→P (.returned (.bool true)) w'):=hZz (fun w' h2=>by rw [← hP];exact ⟨rfl,h2⟩);have HX:=hZz hx;have HY:=hZz hy;unfold insV;generalize x.op=op;generalize x.a=xa;generalize x.s=xs;generalize x.keys=ks at HX HY hl ⊢;obtain ⟨n,hn⟩:∃ n,ks.length=n:=⟨_,rfl⟩
 have HN:=hZz hn;rw [hn] at hl ⊢;obtain ⟨g,hg⟩:∃ g,w.heap.size=g:=⟨_,rfl⟩
 obtain ⟨W1,hW1⟩:∃ W,w.alloc (.cells #[.int .i64 op,.int .i64 xa,.string xs,.slice A n c] 53)=W:=⟨_,rfl⟩
 obtain ⟨g2,hg2⟩:∃ g,W1.heap.size=g:=⟨_,rfl⟩
 obtain ⟨W2,hW2⟩:∃ W,W1.alloc (.cells #[.int .i64 op,.int .i64 xa,.string xs,.slice B n d] 53)=W:=⟨_,rfl⟩
 have hx1:Blk W1 g 53 #[.int .i64 op,.int .i64 xa,.string xs,.slice A n c]:=by rw [← hW1,← hg];exact Blk.new _ _ _
 have HX1:Hid (Blk W2 g 53 #[.int .i64 op,.int .i64 xa,.string xs,.slice A n c]):=hZz (by rw [← hW2];exact hx1.alloc _);have HY1:Hid (Blk W2 g2 53 #[.int .i64 op,.int .i64 xa,.string xs,.slice B n d]):=hZz (by rw [← hW2,← hg2];exact Blk.new _ _ _);have HB1:Hid (Below w.heap.size w W2):=hZz (by rw [← hW2,← hW1];exact zauY _ _ _);have HG2:Hid (g+1=g2):=hZz (by rw [← hg2,← hW1,← hg];simp);have HW1:=hZz hW1;have HW2:=hZz hW2;have HG:=hZz hg;clear hP hx hy hn hg hW1 hg2 hW2 hx1;go_enter func24,ntmps24
 go_upto_region 1 with fail
 rw [HG.out,HW1.out]
 try rw [HG2.out]
 rw [HW2.out];clear HG HW1 HG2 HW2;have x1:=blk4n HX1.out;have y1:=blk4n HY1.out;go_upto_region 4 with (fail)
 go_loopw [5,37] (fun _ kv wr=>∃ k:Nat,k≤n∧kv=.int .i64 k∧Hid (Below W2.heap.size W2 wr)) (fun _ kv _=>n - (intOf kv).toNat)
 case atStart=>exact ⟨0,Nat.zero_le _,rfl,hZz (Below.refl _ _)⟩
 case round =>
  obtain ⟨k,hk,rfl,HB⟩:=hrel;have hk0:(0:Int)≤(k:Int):=by omega
  clear x1 y1;have x1:=blk4n (HX1.out.below HB.out);have y1:=blk4n (HY1.out.below HB.out);have HBw:=hZz (zaaZ HB.out HB1.out HB1.out.size);by_cases hlt:k<n
  ·have hlt':(k:Int)<(n:Int):=by omega
   have hkl:k<ks.length:=by rw [HN.out];exact hlt
   have hsx:=HX.out.below HBw.out;have hsy:=HY.out.below HBw.out;obtain ⟨s,hs⟩:∃ s,ks[k]=s:=⟨_,rfl⟩
   obtain ⟨b1,o1,rfl,_⟩:=hsx.ptr hkl;obtain ⟨b2,o2,rfl,_⟩:=hsy.ptr hkl;have c1:=hsx.cell0 hkl (v:=.string s) (by rw [hs];rfl);have c2:=hsy.cell0 hkl (v:=.string s) (by rw [hs];rfl);simp only [Nat.mul_one] at c1 c2;clear hsx hsy hs hkl;go_upto_region 6 with (fail)
   go_quiet (fail);go_wp2_with (fail)
   exact ⟨⟨k+1,by omega,by simp,hZz (zaeZ HB.out _)⟩,by simp [intOf];omega⟩
  ·have e9:n=k:=by omega
   subst e9;go_wp2_with (fail)
   exact HP.out _ HBw.out
end
section
structure TextsOk (p:ProgD):Prop where
 node:∀ n∈p.nodes,n.text.size≤140737488351232∧∀ k∈n.keys,k.size≤140737488351232
 fn:∀ f∈p.funcs,f.name.size≤140737488351232∧∀ s∈f.params,s.size≤140737488351232
theorem SmallPr.ok {p:ProgD} (h:SmallPr p) (ht:TextsOk p):ProgOk p:=by
 refine ⟨⟨by have:=h.nodes;omega,fun n hn=>?_,ht.node⟩,by have:=h.funcs;omega,fun f hf=>?_⟩
 ·obtain ⟨i,hi,rfl⟩:=List.getElem_of_mem hn
  have:=h.node i hi
  omega
 ·obtain ⟨i,hi,rfl⟩:=List.getElem_of_mem hf
  have:=h.fn i hi
  exact ⟨(ht.fn _ hf).1,by omega,(ht.fn _ hf).2⟩
theorem SmallPr.keys {p:ProgD} (h:SmallPr p):∀ i,(p.at_ i).keys.length≤1000:=by
 intro i;by_cases hi:i<p.nodes.length
 ·have e:p.at_ i=p.nodes[i]:=zaiZ hi _
  rw [e]
  have:=h.node i hi
  omega
 ·have e:p.at_ i=noNode:=by
   show p.nodes.getD i noNode=noNode;rw [List.getD_eq_getElem?_getD,List.getElem?_eq_none (by omega)];rfl
  rw [e];show (0:Nat)≤1000;omega
theorem keys_sl {w:World} {n0:Nat} {x:InsD} {kv:Value} (h:OKeys n0 w (x,kv)):∃ A cap,kv=.slice A x.keys.length cap∧SlAt w A 1 strCs x.keys:=by
 obtain ⟨A,cap,rfl⟩:∃ A cap,kv=.slice A x.keys.length cap:=zajZ h
 exact ⟨A,cap,rfl,SlAt.of_own h (map_strCs x.keys) (fun _=>rfl) (by decide)⟩
theorem InsO.at {n0:Nat} {w:World} {A:Option Addr} {m c:Nat} {is:List InsD} (h:InsO n0 w (.slice A m c) is) {k:Nat} (hk:k<is.length):∃ b off kA kc,A=some ⟨b,off,none⟩∧b<w.heap.size ∧
  w.cell? ⟨b,off+k * 4,none⟩=some (.int .i64 (is[k]).op)∧w.cell? ⟨b,off+k * 4+1,none⟩=some (.int .i64 (is[k]).a)∧w.cell? ⟨b,off+k * 4+2,none⟩=some (.string (is[k]).s)∧w.cell? ⟨b,off+k * 4+3,none⟩=some (.slice kA (is[k]).keys.length kc)∧SlAt w kA 1 strCs (is[k]).keys:=by
 obtain ⟨N,rfl,h2,h3⟩:=h;obtain ⟨A',c',e⟩:=zajZ h2;injection e with e1 e2 e3
 subst e1 e2 e3;have hkN:k<N.length:=by simpa using hk
 have hs:=SlAt.of_own (c:=insRow) (l:=N) h2 rfl (fun _=>rfl) (by decide);obtain ⟨kA,kc,hkv,hks⟩:=keys_sl (h3 (N[k]) (List.getElem_mem hkN));have hkv:(N[k]).2=.slice kA (N[k]).1.keys.length kc:=hkv;obtain ⟨b,off,rfl,hb⟩:=hs.ptr hkN;have c0:=hs.cell0 hkN (v:=.int .i64 (N[k]).1.op) rfl;have c1:=hs.cell hkN (j:=1) (v:=.int .i64 (N[k]).1.a) rfl;have c2:=hs.cell hkN (j:=2) (v:=.string (N[k]).1.s) rfl;have c3:=hs.cell hkN (j:=3) (v:=(N[k]).2) rfl;rw [hkv] at c3;refine ⟨b,off,kA,kc,rfl,hb,?_⟩
 simp only [List.getElem_map];exact ⟨c0,c1,c2,c3,hks⟩
attribute [local go_sem] zabZ
end
end Go.Proofs.YthiimbhjpdphpaaGreatDoor
