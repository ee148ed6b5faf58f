/- W4, W5 -/
import Derived.Test.YthiimbhjpdphpaaGreatDoorPW8
set_option linter.unusedVariables false
set_option linter.unusedSimpArgs false
namespace Go.Proofs.YthiimbhjpdphpaaGreatDoor
open Go.RowKit
set_option maxRecDepth 100000
open Go.Proofs.Tryz
section
def lastG (k ni:Int) (nt:ByteArray) (ks:List ByteArray) (m:Nat) (sv:Int) (x:InsD):Option InsD :=
 if k=1 then some (insO 1 0)
 else if k=2 then some (insO 2 ni)
 else if k=3 then some (insO 3 ni)
 else if k=4 then some (insT 4 nt)
 else if k=5 then some (insO 5 sv)
 else if k=6 then some (insO 11 m)
 else if k=7 then some ⟨12,m,⟨#[]⟩,ks⟩
 else if k=8 then some (insT 8 nt)
 else if k=10 then some (insO 10 0)
 else if k=11 then some x
 else if k=12 then some ⟨19,m,nt,[]⟩
 else if k=13∨k=14 then some (insO 6 sv)
 else if k=17 then some (insO 20 0)
 else if k=18 then some (insO 7 0)
 else none
theorem last_G (p:ProgD) (sl:List Int) (n:NodeD) (i:Nat):lastF p sl n i=lastG n.kind n.int n.text n.keys n.kids.length (sl.getD i 0) (callI p n):=rfl
def LastQ (n0:Nat) (w':World) (o:Option InsD) (R:Array Value) (b:Bool):Prop :=
 (∃ x kv,o=some x∧b=true∧R=(insRow (x,kv)).toArray∧OKeys n0 w' (x,kv))∨(o=none∧b=false∧R=#[.int .i64 0,.int .i64 0,.string ⟨#[]⟩,.slice none 0 0])
theorem zaiY {n0:Nat} {w':World} {o:Option InsD} (x:InsD) (h:o=some x) (hk:x.keys=[]):LastQ n0 w' o #[.int .i64 x.op,.int .i64 x.a,.string x.s,.slice none 0 0] true:=.inl ⟨x,nilK,h,rfl,rfl,zbsY _ _ _ hk⟩
attribute [local go_sem] zabZ
set_option maxHeartbeats 16000000 in
theorem last_s (w0:World) (S:ProgS) (sA:Option Addr) (sc gW:Nat) (e0:Int) (L:List (InsD × Value)) (w:World) (n:NodeD) (i:Nat) (sl:List Int) (kA iA:Option Addr) (kc ic:Nat) (h:WrSt w0 w S sA sl.length sc gW e0 L) (hS:ProgV w0 S) (hfl:S.p.funcs.length≤1000) (hsl:SlAt w0 sA 1 intS sl) (hi:i<sl.length) (hk7:n.kind≠7) :
  Calls prog 66 #[.pointer (some ⟨gW,0,none⟩),.agg (nodeC n kA kc iA ic),.int .i64 i] w fun e w'=>∃ R b,e=.returned (.tuple #[.agg R,.bool b])∧LastQ w0.heap.size w' (lastF S.p sl n i) R b∧Below w.heap.size w w':=by
 rw [last_G];obtain ⟨P,hP⟩:∃ P:Ending→World→Prop,(fun e w'=>∃ R b,e=.returned (.tuple #[.agg R,.bool b])∧LastQ w0.heap.size w' (lastG n.kind n.int n.text n.keys n.kids.length (sl.getD i 0) (callI S.p n)) R b∧Below w.heap.size w w')=P:=⟨_,rfl⟩
 rw [hP];have HP:Hid (∀ R b w',LastQ w0.heap.size w' (lastG n.kind n.int n.text n.keys n.kids.length (sl.getD i 0) (callI S.p n)) R b→Below w.heap.size w w'→P (.returned (.tuple #[.agg R,.bool b])) w'):=hZz (fun R b w' h1 h2=>by rw [← hP];exact ⟨R,b,rfl,h1,h2⟩);obtain ⟨x,hx⟩:∃ x,callI S.p n=x:=⟨_,rfl⟩
 have hxk:x.keys=[]:=by rw [← hx];exact callI_keys _ _
 have HC:Hid (∀ wx,Below w.heap.size w wx→Calls prog 101 #[.pointer (some ⟨gW,0,none⟩),.agg (nodeC n kA kc iA ic)] wx fun e w'=>e=.returned (.agg #[.int .i64 x.op,.int .i64 x.a,.string x.s,.slice none 0 0])∧Below wx.heap.size wx w'):=hZz (fun wx hb=>by
  rw [← hx];exact wcall_s w0 S sA _ sc gW e0 L wx n kA iA kc ic (h.below hb) hS hfl)
 obtain ⟨B,off,rfl,_⟩:=hsl.ptr hi
 have HS:Hid (∀ wx,Below w.heap.size w wx→wx.cell? ⟨B,off+i,none⟩=some (.int .i64 (sl.getD i 0))):=hZz (fun wx hb=>by
  have hcell:=(hsl.below (zaaZ hb h.bl h.bl.size)).cell0 hi (v:=.int .i64 (sl[i])) rfl;rw [zajZ hi];simpa using hcell)
 obtain ⟨⟨iv,h1,_⟩,_,_,_⟩:=h;have HW:=hZz h1;have hiI:(i:Int)<(sl.length:Int):=by omega
 have hi0:(0:Int)≤(i:Int):=by omega
 unfold nodeC at HC ⊢;obtain ⟨m,hme⟩:∃ m,n.kids.length=m:=⟨_,rfl⟩
 rw [hme] at HP HC ⊢;rw [hx] at HP;generalize sl.getD i 0=sv at HS HP;obtain ⟨N,hN⟩:∃ N,sl.length=N:=⟨_,rfl⟩
 rw [hN] at HW hi hiI;obtain ⟨ks,hks⟩:∃ ks,n.keys=ks:=⟨_,rfl⟩
 rw [hks] at HP HC ⊢;generalize ks.length=q at HC ⊢;generalize n.kind=nk at HC HP hk7 ⊢;generalize n.text=nt at HC HP ⊢;generalize n.int=ni at HC HP ⊢;obtain ⟨g,hg⟩:∃ g,w.heap.size=g:=⟨_,rfl⟩
 obtain ⟨W1,hW1⟩:∃ W,w.alloc (.cells #[.int .i64 nk,.string nt,.int .i64 ni,.slice kA q kc,.slice iA m ic] 58)=W:=⟨_,rfl⟩
 obtain ⟨g2,hg2⟩:∃ g,W1.heap.size=g:=⟨_,rfl⟩
 obtain ⟨W2,hW2⟩:∃ W,W1.alloc (.cells #[.int .i64 0,.int .i64 0,.string ⟨#[]⟩,.slice none 0 0] 53)=W:=⟨_,rfl⟩
 have hx1:Blk W1 g 58 #[.int .i64 nk,.string nt,.int .i64 ni,.slice kA q kc,.slice iA m ic]:=by rw [← hW1,← hg];exact Blk.new _ _ _
 have HX1:Hid (Blk W2 g 58 #[.int .i64 nk,.string nt,.int .i64 ni,.slice kA q kc,.slice iA m ic]):=hZz (by rw [← hW2];exact hx1.alloc _);have HY1:Hid (Blk W2 g2 53 #[.int .i64 0,.int .i64 0,.string ⟨#[]⟩,.slice none 0 0]):=hZz (by rw [← hW2,← hg2];exact Blk.new _ _ _);have hb2:Below w.heap.size w W2:=by rw [← hW2,← hW1];exact za4Y _ _ _
 have HB1:=hZz hb2;have s2:W2.cell? ⟨B,off+i,none⟩=some (.int .i64 sv):=HS.out _ hb2;have ww:=blkW (HW.out.below hb2);have hle:w.heap.size≤g2:=by rw [← hg2,← hW1];simp
 have HLE:=hZz hle;have HW1:=hZz hW1;have HW2:=hZz hW2;have HG:=hZz hg;have HG2:Hid (g+1=g2):=hZz (by rw [← hg2,← hW1,← hg];simp);clear hP hx h1 hme hN hks hg hW1 hW2 hg2 hx1 hle hb2 hsl HS;go_enter func66,ntmps66
 go_upto_region 1 with fail
 rw [HG.out,HW1.out]
 try rw [HG2.out]
 rw [HW2.out];clear HG HW1 HW2 HG2;have x1:=blk5n HX1.out;obtain ⟨y0,y1,y2,y3⟩:=blk4n HY1.out;have z3:=fun i=>HY1.out.frozen i
 by_cases k1:nk=1
 ·subst k1
  obtain ⟨W4,hW4⟩:∃ W,((((W2.setCell ⟨g2,0,none⟩ (.int .i64 1)).setCell ⟨g2,1,none⟩ (.int .i64 0)).setCell ⟨g2,2,none⟩ (.string ⟨#[]⟩)).setCell ⟨g2,3,none⟩ (.slice none 0 0))=W:=⟨_,rfl⟩
  have HY4:Hid (Blk W4 g2 53 #[.int .i64 1,.int .i64 0,.string ⟨#[]⟩,.slice none 0 0]):=hZz (by rw [← hW4];exact (((HY1.out.set_ 0 _).set_ 1 _).set_ 2 _).set_ 3 _);have HB4:Hid (Below w.heap.size w W4):=hZz (by rw [← hW4];exact (((HB1.out.setCell (p:=⟨g2,0,none⟩) HLE.out _).setCell (p:=⟨g2,1,none⟩) HLE.out _).setCell (p:=⟨g2,2,none⟩) HLE.out _).setCell (p:=⟨g2,3,none⟩) HLE.out _);have HW4:=hZz hW4;clear hW4;go_wp2_with (fail)
  rw [HW4.out];clear y0 y1 y2 y3;obtain ⟨y0,y1,y2,y3⟩:=blk4n HY4.out;refine bodyPost_ret (by simp [results,Tryz.results66,y0,y1,y2,y3,go_sem];try rfl) rfl ?_
  exact HP.out _ _ _ (zaiY (insO 1 0) (by simp [lastG]) rfl) HB4.out
 by_cases k2:nk=2
 ·subst k2
  obtain ⟨W4,hW4⟩:∃ W,((((W2.setCell ⟨g2,0,none⟩ (.int .i64 2)).setCell ⟨g2,1,none⟩ (.int .i64 ni)).setCell ⟨g2,2,none⟩ (.string ⟨#[]⟩)).setCell ⟨g2,3,none⟩ (.slice none 0 0))=W:=⟨_,rfl⟩
  have HY4:Hid (Blk W4 g2 53 #[.int .i64 2,.int .i64 ni,.string ⟨#[]⟩,.slice none 0 0]):=hZz (by rw [← hW4];exact (((HY1.out.set_ 0 _).set_ 1 _).set_ 2 _).set_ 3 _);have HB4:Hid (Below w.heap.size w W4):=hZz (by rw [← hW4];exact (((HB1.out.setCell (p:=⟨g2,0,none⟩) HLE.out _).setCell (p:=⟨g2,1,none⟩) HLE.out _).setCell (p:=⟨g2,2,none⟩) HLE.out _).setCell (p:=⟨g2,3,none⟩) HLE.out _);have HW4:=hZz hW4;clear hW4;go_wp2_with (fail)
  rw [HW4.out];clear y0 y1 y2 y3;obtain ⟨y0,y1,y2,y3⟩:=blk4n HY4.out;refine bodyPost_ret (by simp [results,Tryz.results66,y0,y1,y2,y3,go_sem];try rfl) rfl ?_
  exact HP.out _ _ _ (zaiY (insO 2 ni) (by simp [lastG]) rfl) HB4.out
 by_cases k3:nk=3
 ·subst k3
  obtain ⟨W4,hW4⟩:∃ W,((((W2.setCell ⟨g2,0,none⟩ (.int .i64 3)).setCell ⟨g2,1,none⟩ (.int .i64 ni)).setCell ⟨g2,2,none⟩ (.string ⟨#[]⟩)).setCell ⟨g2,3,none⟩ (.slice none 0 0))=W:=⟨_,rfl⟩
  have HY4:Hid (Blk W4 g2 53 #[.int .i64 3,.int .i64 ni,.string ⟨#[]⟩,.slice none 0 0]):=hZz (by rw [← hW4];exact (((HY1.out.set_ 0 _).set_ 1 _).set_ 2 _).set_ 3 _);have HB4:Hid (Below w.heap.size w W4):=hZz (by rw [← hW4];exact (((HB1.out.setCell (p:=⟨g2,0,none⟩) HLE.out _).setCell (p:=⟨g2,1,none⟩) HLE.out _).setCell (p:=⟨g2,2,none⟩) HLE.out _).setCell (p:=⟨g2,3,none⟩) HLE.out _);have HW4:=hZz hW4;clear hW4;go_wp2_with (fail)
  rw [HW4.out];clear y0 y1 y2 y3;obtain ⟨y0,y1,y2,y3⟩:=blk4n HY4.out;refine bodyPost_ret (by simp [results,Tryz.results66,y0,y1,y2,y3,go_sem];try rfl) rfl ?_
  exact HP.out _ _ _ (zaiY (insO 3 ni) (by simp [lastG]) rfl) HB4.out
 by_cases k4:nk=4
 ·subst k4
  obtain ⟨W4,hW4⟩:∃ W,((((W2.setCell ⟨g2,0,none⟩ (.int .i64 4)).setCell ⟨g2,1,none⟩ (.int .i64 0)).setCell ⟨g2,2,none⟩ (.string nt)).setCell ⟨g2,3,none⟩ (.slice none 0 0))=W:=⟨_,rfl⟩
  have HY4:Hid (Blk W4 g2 53 #[.int .i64 4,.int .i64 0,.string nt,.slice none 0 0]):=hZz (by rw [← hW4];exact (((HY1.out.set_ 0 _).set_ 1 _).set_ 2 _).set_ 3 _);have HB4:Hid (Below w.heap.size w W4):=hZz (by rw [← hW4];exact (((HB1.out.setCell (p:=⟨g2,0,none⟩) HLE.out _).setCell (p:=⟨g2,1,none⟩) HLE.out _).setCell (p:=⟨g2,2,none⟩) HLE.out _).setCell (p:=⟨g2,3,none⟩) HLE.out _);have HW4:=hZz hW4;clear hW4;go_wp2_with (fail)
  rw [HW4.out];clear y0 y1 y2 y3;obtain ⟨y0,y1,y2,y3⟩:=blk4n HY4.out;refine bodyPost_ret (by simp [results,Tryz.results66,y0,y1,y2,y3,go_sem];try rfl) rfl ?_
  exact HP.out _ _ _ (zaiY (insT 4 nt) (by simp [lastG]) rfl) HB4.out
 by_cases k5:nk=5
 ·subst k5
  obtain ⟨W4,hW4⟩:∃ W,((((W2.setCell ⟨g2,0,none⟩ (.int .i64 5)).setCell ⟨g2,1,none⟩ (.int .i64 sv)).setCell ⟨g2,2,none⟩ (.string ⟨#[]⟩)).setCell ⟨g2,3,none⟩ (.slice none 0 0))=W:=⟨_,rfl⟩
  have HY4:Hid (Blk W4 g2 53 #[.int .i64 5,.int .i64 sv,.string ⟨#[]⟩,.slice none 0 0]):=hZz (by rw [← hW4];exact (((HY1.out.set_ 0 _).set_ 1 _).set_ 2 _).set_ 3 _);have HB4:Hid (Below w.heap.size w W4):=hZz (by rw [← hW4];exact (((HB1.out.setCell (p:=⟨g2,0,none⟩) HLE.out _).setCell (p:=⟨g2,1,none⟩) HLE.out _).setCell (p:=⟨g2,2,none⟩) HLE.out _).setCell (p:=⟨g2,3,none⟩) HLE.out _);have HW4:=hZz hW4;clear hW4;go_wp2_with (fail)
  rw [HW4.out];clear y0 y1 y2 y3;obtain ⟨y0,y1,y2,y3⟩:=blk4n HY4.out;refine bodyPost_ret (by simp [results,Tryz.results66,y0,y1,y2,y3,go_sem];try rfl) rfl ?_
  exact HP.out _ _ _ (zaiY (insO 5 sv) (by simp [lastG]) rfl) HB4.out
 by_cases k6:nk=6
 ·subst k6
  obtain ⟨W4,hW4⟩:∃ W,((((W2.setCell ⟨g2,0,none⟩ (.int .i64 11)).setCell ⟨g2,1,none⟩ (.int .i64 m)).setCell ⟨g2,2,none⟩ (.string ⟨#[]⟩)).setCell ⟨g2,3,none⟩ (.slice none 0 0))=W:=⟨_,rfl⟩
  have HY4:Hid (Blk W4 g2 53 #[.int .i64 11,.int .i64 m,.string ⟨#[]⟩,.slice none 0 0]):=hZz (by rw [← hW4];exact (((HY1.out.set_ 0 _).set_ 1 _).set_ 2 _).set_ 3 _);have HB4:Hid (Below w.heap.size w W4):=hZz (by rw [← hW4];exact (((HB1.out.setCell (p:=⟨g2,0,none⟩) HLE.out _).setCell (p:=⟨g2,1,none⟩) HLE.out _).setCell (p:=⟨g2,2,none⟩) HLE.out _).setCell (p:=⟨g2,3,none⟩) HLE.out _);have HW4:=hZz hW4;clear hW4;go_wp2_with (fail)
  rw [HW4.out];clear y0 y1 y2 y3;obtain ⟨y0,y1,y2,y3⟩:=blk4n HY4.out;refine bodyPost_ret (by simp [results,Tryz.results66,y0,y1,y2,y3,go_sem];try rfl) rfl ?_
  exact HP.out _ _ _ (zaiY (insO 11 m) (by simp [lastG]) rfl) HB4.out
 by_cases k8:nk=8
 ·subst k8
  obtain ⟨W4,hW4⟩:∃ W,((((W2.setCell ⟨g2,0,none⟩ (.int .i64 8)).setCell ⟨g2,1,none⟩ (.int .i64 0)).setCell ⟨g2,2,none⟩ (.string nt)).setCell ⟨g2,3,none⟩ (.slice none 0 0))=W:=⟨_,rfl⟩
  have HY4:Hid (Blk W4 g2 53 #[.int .i64 8,.int .i64 0,.string nt,.slice none 0 0]):=hZz (by rw [← hW4];exact (((HY1.out.set_ 0 _).set_ 1 _).set_ 2 _).set_ 3 _);have HB4:Hid (Below w.heap.size w W4):=hZz (by rw [← hW4];exact (((HB1.out.setCell (p:=⟨g2,0,none⟩) HLE.out _).setCell (p:=⟨g2,1,none⟩) HLE.out _).setCell (p:=⟨g2,2,none⟩) HLE.out _).setCell (p:=⟨g2,3,none⟩) HLE.out _);have HW4:=hZz hW4;clear hW4;go_wp2_with (fail)
  rw [HW4.out];clear y0 y1 y2 y3;obtain ⟨y0,y1,y2,y3⟩:=blk4n HY4.out;refine bodyPost_ret (by simp [results,Tryz.results66,y0,y1,y2,y3,go_sem];try rfl) rfl ?_
  exact HP.out _ _ _ (zaiY (insT 8 nt) (by simp [lastG]) rfl) HB4.out
 by_cases k10:nk=10
 ·subst k10
  obtain ⟨W4,hW4⟩:∃ W,((((W2.setCell ⟨g2,0,none⟩ (.int .i64 10)).setCell ⟨g2,1,none⟩ (.int .i64 0)).setCell ⟨g2,2,none⟩ (.string ⟨#[]⟩)).setCell ⟨g2,3,none⟩ (.slice none 0 0))=W:=⟨_,rfl⟩
  have HY4:Hid (Blk W4 g2 53 #[.int .i64 10,.int .i64 0,.string ⟨#[]⟩,.slice none 0 0]):=hZz (by rw [← hW4];exact (((HY1.out.set_ 0 _).set_ 1 _).set_ 2 _).set_ 3 _);have HB4:Hid (Below w.heap.size w W4):=hZz (by rw [← hW4];exact (((HB1.out.setCell (p:=⟨g2,0,none⟩) HLE.out _).setCell (p:=⟨g2,1,none⟩) HLE.out _).setCell (p:=⟨g2,2,none⟩) HLE.out _).setCell (p:=⟨g2,3,none⟩) HLE.out _);have HW4:=hZz hW4;clear hW4;go_wp2_with (fail)
  rw [HW4.out];clear y0 y1 y2 y3;obtain ⟨y0,y1,y2,y3⟩:=blk4n HY4.out;refine bodyPost_ret (by simp [results,Tryz.results66,y0,y1,y2,y3,go_sem];try rfl) rfl ?_
  exact HP.out _ _ _ (zaiY (insO 10 0) (by simp [lastG]) rfl) HB4.out
 by_cases k11:nk=11
 ·subst k11
  go_wp2_with (first
   | (go_at_call 101;(with_reducible refine (HC.out _ HB1.out).mono ?_);rintro e w3 ⟨rfl,hb3⟩;have HB3:=hZz (zaaZ hb3 HB1.out HB1.out.size);have HY3:=hZz (HY1.out.below hb3);have y5:=blk4n HY3.out;have z5:=(fun i=>HY3.out.frozen i);clear hb3 y0 y1 y2 y3 z3))
  obtain ⟨W4,hW4⟩:∃ W,((((w3.setCell ⟨g2,0,none⟩ (.int .i64 x.op)).setCell ⟨g2,1,none⟩ (.int .i64 x.a)).setCell ⟨g2,2,none⟩ (.string x.s)).setCell ⟨g2,3,none⟩ (.slice none 0 0))=W:=⟨_,rfl⟩
  have HY4:Hid (Blk W4 g2 53 #[.int .i64 x.op,.int .i64 x.a,.string x.s,.slice none 0 0]):=hZz (by rw [← hW4];exact (((HY3.out.set_ 0 _).set_ 1 _).set_ 2 _).set_ 3 _);have HB4:Hid (Below w.heap.size w W4):=hZz (by rw [← hW4];exact (((HB3.out.setCell (p:=⟨g2,0,none⟩) HLE.out _).setCell (p:=⟨g2,1,none⟩) HLE.out _).setCell (p:=⟨g2,2,none⟩) HLE.out _).setCell (p:=⟨g2,3,none⟩) HLE.out _);have HW4:=hZz hW4;clear hW4;rw [HW4.out];obtain ⟨y0,y1,y2,y3⟩:=blk4n HY4.out;refine bodyPost_ret (by simp [results,Tryz.results66,y0,y1,y2,y3,go_sem];try rfl) rfl ?_
  exact HP.out _ _ _ (zaiY x (by simp [lastG]) hxk) HB4.out
 by_cases k12:nk=12
 ·subst k12
  obtain ⟨W4,hW4⟩:∃ W,((((W2.setCell ⟨g2,0,none⟩ (.int .i64 19)).setCell ⟨g2,1,none⟩ (.int .i64 m)).setCell ⟨g2,2,none⟩ (.string nt)).setCell ⟨g2,3,none⟩ (.slice none 0 0))=W:=⟨_,rfl⟩
  have HY4:Hid (Blk W4 g2 53 #[.int .i64 19,.int .i64 m,.string nt,.slice none 0 0]):=hZz (by rw [← hW4];exact (((HY1.out.set_ 0 _).set_ 1 _).set_ 2 _).set_ 3 _);have HB4:Hid (Below w.heap.size w W4):=hZz (by rw [← hW4];exact (((HB1.out.setCell (p:=⟨g2,0,none⟩) HLE.out _).setCell (p:=⟨g2,1,none⟩) HLE.out _).setCell (p:=⟨g2,2,none⟩) HLE.out _).setCell (p:=⟨g2,3,none⟩) HLE.out _);have HW4:=hZz hW4;clear hW4;go_wp2_with (fail)
  rw [HW4.out];clear y0 y1 y2 y3;obtain ⟨y0,y1,y2,y3⟩:=blk4n HY4.out;refine bodyPost_ret (by simp [results,Tryz.results66,y0,y1,y2,y3,go_sem];try rfl) rfl ?_
  exact HP.out _ _ _ (zaiY (⟨19,m,nt,[]⟩) (by simp [lastG]) rfl) HB4.out
 by_cases k13:nk=13
 ·subst k13
  obtain ⟨W4,hW4⟩:∃ W,((((W2.setCell ⟨g2,0,none⟩ (.int .i64 6)).setCell ⟨g2,1,none⟩ (.int .i64 sv)).setCell ⟨g2,2,none⟩ (.string ⟨#[]⟩)).setCell ⟨g2,3,none⟩ (.slice none 0 0))=W:=⟨_,rfl⟩
  have HY4:Hid (Blk W4 g2 53 #[.int .i64 6,.int .i64 sv,.string ⟨#[]⟩,.slice none 0 0]):=hZz (by rw [← hW4];exact (((HY1.out.set_ 0 _).set_ 1 _).set_ 2 _).set_ 3 _);have HB4:Hid (Below w.heap.size w W4):=hZz (by rw [← hW4];exact (((HB1.out.setCell (p:=⟨g2,0,none⟩) HLE.out _).setCell (p:=⟨g2,1,none⟩) HLE.out _).setCell (p:=⟨g2,2,none⟩) HLE.out _).setCell (p:=⟨g2,3,none⟩) HLE.out _);have HW4:=hZz hW4;clear hW4;go_wp2_with (fail)
  rw [HW4.out];clear y0 y1 y2 y3;obtain ⟨y0,y1,y2,y3⟩:=blk4n HY4.out;refine bodyPost_ret (by simp [results,Tryz.results66,y0,y1,y2,y3,go_sem];try rfl) rfl ?_
  exact HP.out _ _ _ (zaiY (insO 6 sv) (by simp [lastG]) rfl) HB4.out
 by_cases k14:nk=14
 ·subst k14
  obtain ⟨W4,hW4⟩:∃ W,((((W2.setCell ⟨g2,0,none⟩ (.int .i64 6)).setCell ⟨g2,1,none⟩ (.int .i64 sv)).setCell ⟨g2,2,none⟩ (.string ⟨#[]⟩)).setCell ⟨g2,3,none⟩ (.slice none 0 0))=W:=⟨_,rfl⟩
  have HY4:Hid (Blk W4 g2 53 #[.int .i64 6,.int .i64 sv,.string ⟨#[]⟩,.slice none 0 0]):=hZz (by rw [← hW4];exact (((HY1.out.set_ 0 _).set_ 1 _).set_ 2 _).set_ 3 _);have HB4:Hid (Below w.heap.size w W4):=hZz (by rw [← hW4];exact (((HB1.out.setCell (p:=⟨g2,0,none⟩) HLE.out _).setCell (p:=⟨g2,1,none⟩) HLE.out _).setCell (p:=⟨g2,2,none⟩) HLE.out _).setCell (p:=⟨g2,3,none⟩) HLE.out _);have HW4:=hZz hW4;clear hW4;go_wp2_with (fail)
  rw [HW4.out];clear y0 y1 y2 y3;obtain ⟨y0,y1,y2,y3⟩:=blk4n HY4.out;refine bodyPost_ret (by simp [results,Tryz.results66,y0,y1,y2,y3,go_sem];try rfl) rfl ?_
  exact HP.out _ _ _ (zaiY (insO 6 sv) (by simp [lastG]) rfl) HB4.out
 by_cases k17:nk=17
 ·subst k17
  obtain ⟨W4,hW4⟩:∃ W,((((W2.setCell ⟨g2,0,none⟩ (.int .i64 20)).setCell ⟨g2,1,none⟩ (.int .i64 0)).setCell ⟨g2,2,none⟩ (.string ⟨#[]⟩)).setCell ⟨g2,3,none⟩ (.slice none 0 0))=W:=⟨_,rfl⟩
  have HY4:Hid (Blk W4 g2 53 #[.int .i64 20,.int .i64 0,.string ⟨#[]⟩,.slice none 0 0]):=hZz (by rw [← hW4];exact (((HY1.out.set_ 0 _).set_ 1 _).set_ 2 _).set_ 3 _);have HB4:Hid (Below w.heap.size w W4):=hZz (by rw [← hW4];exact (((HB1.out.setCell (p:=⟨g2,0,none⟩) HLE.out _).setCell (p:=⟨g2,1,none⟩) HLE.out _).setCell (p:=⟨g2,2,none⟩) HLE.out _).setCell (p:=⟨g2,3,none⟩) HLE.out _);have HW4:=hZz hW4;clear hW4;go_wp2_with (fail)
  rw [HW4.out];clear y0 y1 y2 y3;obtain ⟨y0,y1,y2,y3⟩:=blk4n HY4.out;refine bodyPost_ret (by simp [results,Tryz.results66,y0,y1,y2,y3,go_sem];try rfl) rfl ?_
  exact HP.out _ _ _ (zaiY (insO 20 0) (by simp [lastG]) rfl) HB4.out
 by_cases k18:nk=18
 ·subst k18
  obtain ⟨W4,hW4⟩:∃ W,((((W2.setCell ⟨g2,0,none⟩ (.int .i64 7)).setCell ⟨g2,1,none⟩ (.int .i64 0)).setCell ⟨g2,2,none⟩ (.string ⟨#[]⟩)).setCell ⟨g2,3,none⟩ (.slice none 0 0))=W:=⟨_,rfl⟩
  have HY4:Hid (Blk W4 g2 53 #[.int .i64 7,.int .i64 0,.string ⟨#[]⟩,.slice none 0 0]):=hZz (by rw [← hW4];exact (((HY1.out.set_ 0 _).set_ 1 _).set_ 2 _).set_ 3 _);have HB4:Hid (Below w.heap.size w W4):=hZz (by rw [← hW4];exact (((HB1.out.setCell (p:=⟨g2,0,none⟩) HLE.out _).setCell (p:=⟨g2,1,none⟩) HLE.out _).setCell (p:=⟨g2,2,none⟩) HLE.out _).setCell (p:=⟨g2,3,none⟩) HLE.out _);have HW4:=hZz hW4;clear hW4;go_wp2_with (fail)
  rw [HW4.out];clear y0 y1 y2 y3;obtain ⟨y0,y1,y2,y3⟩:=blk4n HY4.out;refine bodyPost_ret (by simp [results,Tryz.results66,y0,y1,y2,y3,go_sem];try rfl) rfl ?_
  exact HP.out _ _ _ (zaiY (insO 7 0) (by simp [lastG]) rfl) HB4.out
 have e0:∀ c∈[1,2,3,4,5,6,7,8,10,11,12,13,14,17,18],(nk == c)=false:=by
  intro c hc;simp only [List.mem_cons,List.not_mem_nil,or_false] at hc;rcases hc with rfl | rfl | rfl | rfl | rfl | rfl | rfl | rfl | rfl | rfl | rfl | rfl | rfl | rfl | rfl <;> simpa using by assumption
 have HN:Hid (lastG nk ni nt ks m sv x=none):=hZz (by simp [lastG,hk7,k1,k2,k3,k4,k5,k6,k8,k10,k11,k12,k13,k14,k17,k18]);have d1:=e0 1 (by simp);have d2:=e0 2 (by simp);have d3:=e0 3 (by simp);have d4:=e0 4 (by simp);have d5:=e0 5 (by simp);have d6:=e0 6 (by simp);have d7:=e0 7 (by simp);have d8:=e0 8 (by simp);have d10:=e0 10 (by simp);have d11:=e0 11 (by simp);have d12:=e0 12 (by simp);have d13:=e0 13 (by simp);have d14:=e0 14 (by simp);have d17:=e0 17 (by simp);have d18:=e0 18 (by simp);clear e0 hk7 k1 k2 k3 k4 k5 k6 k8 k10 k11 k12 k13 k14 k17 k18;go_wp2_with (fail)
 refine bodyPost_ret (by simp [results,Tryz.results66,y0,y1,y2,y3,go_sem];try rfl) rfl ?_
 exact HP.out _ _ _ (.inr ⟨HN.out,rfl,rfl⟩) ((((HB1.out.setCell (p:=⟨g2,0,none⟩) HLE.out _).setCell (p:=⟨g2,1,none⟩) HLE.out _).setCell (p:=⟨g2,2,none⟩) HLE.out _).setCell (p:=⟨g2,3,none⟩) HLE.out _)
end
section
theorem run_append_zero {P:Program} (w:World) (t ty e:TypeId) (i:TypeInfo) (size:Nat) (ht:P.underlying t=some (.slice e)) (hi:P.info? e=some i) (hsize:i.size=size)
  (A B:Option Addr) (n c c2:Nat) (h:n≤c):(Builtin.append_ #[t,t] ty #[.slice A n c,.slice B 0 c2]).run P w=.ok (.slice A n c) w:=by
 cases A <;> cases B <;> simp [Builtin.append_,run_underlying ht,sizeOf,typeInfo,hi,Builtin.lenOf,Builtin.firstCells,loadCells,loadCellsFrom,h,storeCells]
theorem zasY {P:Program} {w:World} {o:Oper} {a:Act} {K:Act→World→Prop} {Q:Exit→Act→World→Prop} (s x:Operand) (t:TypeId)
  (ho:o.op=.call { callee:=.builtin .append,args:=#[s,x],argTypes:=#[t,t] }) (e:TypeId) (i:TypeInfo) (size:Nat) (ht:P.underlying t=some (.slice e)) (hi:P.info? e=some i) (hsize:i.size=size)
  (A B:Option Addr) (n c c2:Nat) (hs:a.eval s=.slice A n c) (hx:a.eval x=.slice B 0 c2) (h:n≤c) (hK:K (a.put o.dst (.slice A n c)) w):o.wp P a w K Q:=by
 unfold Oper.wp execOp;simp only [ho,resolve,invoke,builtin,Sem.run_bind,Sem.run_pure,Result.andThen_ok,List.map_toArray,List.map_cons,List.map_nil,hs,hx,run_append_zero w t o.type e i size ht hi hsize A B n c c2 h];exact hK
theorem zapY {w:World} {base:Nat} {e t:TypeId} {size n g:Nat} {v:Value} {xs:List Value} {cs:Array Value} (h:w.ownsRow base e size v n xs) (hb:Blk w g t cs) (hne:e≠t) (j:Nat) (u:Value):(w.setCell ⟨g,j,none⟩ u).ownsRow base e size v n xs:=by
 have hn:=zafZ h hb hne;obtain ⟨h1,h2⟩:=h;refine ⟨h1,h2.imp id (fun ⟨g',cap,cur,ev,eg,eh,e4⟩=>⟨g',cap,cur,ev,eg,?_,e4⟩)⟩
 subst ev;exact (Below.heap_setCell w _ u g' (fun e'=>hn (by show some g=some g';rw [show g'=g from e']))).trans eh
attribute [local go_sem] zabZ
set_option maxHeartbeats 16000000 in
theorem last7_s (w0:World) (S:ProgS) (sA:Option Addr) (sc gW:Nat) (e0:Int) (L:List (InsD × Value)) (w:World) (n:NodeD) (i:Nat) (sl:List Int) (kA iA:Option Addr) (kc ic:Nat) (h:WrSt w0 w S sA sl.length sc gW e0 L) (hS:ProgV w0 S) (hfl:S.p.funcs.length≤1000) (hsl:SlAt w0 sA 1 intS sl) (hi:i<sl.length) (hk7:n.kind=7) (hK:KeysV w0 (.slice kA n.keys.length kc) n.keys) (hkl:n.keys.length≤10000) :
  Calls prog 66 #[.pointer (some ⟨gW,0,none⟩),.agg (nodeC n kA kc iA ic),.int .i64 i] w fun e w'=>∃ R b,e=.returned (.tuple #[.agg R,.bool b])∧LastQ w0.heap.size w' (lastF S.p sl n i) R b∧Below w.heap.size w w':=by
 rw [last_G];obtain ⟨P,hP⟩:∃ P:Ending→World→Prop,(fun e w'=>∃ R b,e=.returned (.tuple #[.agg R,.bool b])∧LastQ w0.heap.size w' (lastG n.kind n.int n.text n.keys n.kids.length (sl.getD i 0) (callI S.p n)) R b∧Below w.heap.size w w')=P:=⟨_,rfl⟩
 rw [hP];have HP:Hid (∀ R b w',LastQ w0.heap.size w' (lastG n.kind n.int n.text n.keys n.kids.length (sl.getD i 0) (callI S.p n)) R b→Below w.heap.size w w'→P (.returned (.tuple #[.agg R,.bool b])) w'):=hZz (fun R b w' h1 h2=>by rw [← hP];exact ⟨R,b,rfl,h1,h2⟩);obtain ⟨i1,hj,hy0,hy1,hy2⟩:=info_parts Tryz.infoStrS;have hkk:∃ A cap,Value.slice kA n.keys.length kc=.slice A n.keys.length cap∧n.keys.length≤cap∧SlAt w0 A 1 strCs n.keys:=hK
 obtain ⟨_,_,hke,_,hks0⟩:=hkk;injection hke with e1 e2 e3
 subst e1;clear e2 e3;have HKS:Hid (∀ wx,Below w.heap.size w wx→SlAt wx kA 1 strCs n.keys):=hZz (fun wx hb=>hks0.below (zaaZ hb h.bl h.bl.size));clear hks0;have hsz0:=h.bl.size;obtain ⟨B,off,rfl,_⟩:=hsl.ptr hi
 have HS:Hid (∀ wx,Below w.heap.size w wx→wx.cell? ⟨B,off+i,none⟩=some (.int .i64 (sl.getD i 0))):=hZz (fun wx hb=>by
  have hcell:=(hsl.below (zaaZ hb h.bl h.bl.size)).cell0 hi (v:=.int .i64 (sl[i])) rfl;rw [zajZ hi];simpa using hcell)
 obtain ⟨⟨iv,h1,_⟩,_,_,_⟩:=h;have HW:=hZz h1;have hiI:(i:Int)<(sl.length:Int):=by omega
 have hi0:(0:Int)≤(i:Int):=by omega
 unfold nodeC;obtain ⟨m,hme⟩:∃ m,n.kids.length=m:=⟨_,rfl⟩
 rw [hme] at HP ⊢;generalize callI S.p n=x at HP;generalize sl.getD i 0=sv at HS HP;obtain ⟨N,hN⟩:∃ N,sl.length=N:=⟨_,rfl⟩
 rw [hN] at HW hi hiI;obtain ⟨ks,hks⟩:∃ ks,n.keys=ks:=⟨_,rfl⟩
 rw [hks] at HP HKS hkl ⊢;obtain ⟨q,hq⟩:∃ q,ks.length=q:=⟨_,rfl⟩
 rw [hq] at hkl ⊢;rw [hk7] at HP ⊢;generalize n.text=nt at HP ⊢;generalize n.int=ni at HP ⊢;obtain ⟨g,hg⟩:∃ g,w.heap.size=g:=⟨_,rfl⟩
 obtain ⟨W1,hW1⟩:∃ W,w.alloc (.cells #[.int .i64 7,.string nt,.int .i64 ni,.slice kA q kc,.slice iA m ic] 58)=W:=⟨_,rfl⟩
 obtain ⟨g2,hg2⟩:∃ g,W1.heap.size=g:=⟨_,rfl⟩
 obtain ⟨W2,hW2⟩:∃ W,W1.alloc (.cells #[.int .i64 0,.int .i64 0,.string ⟨#[]⟩,.slice none 0 0] 53)=W:=⟨_,rfl⟩
 have hx1:Blk W1 g 58 #[.int .i64 7,.string nt,.int .i64 ni,.slice kA q kc,.slice iA m ic]:=by rw [← hW1,← hg];exact Blk.new _ _ _
 have HX1:Hid (Blk W2 g 58 #[.int .i64 7,.string nt,.int .i64 ni,.slice kA q kc,.slice iA m ic]):=hZz (by rw [← hW2];exact hx1.alloc _);have HY1:Hid (Blk W2 g2 53 #[.int .i64 0,.int .i64 0,.string ⟨#[]⟩,.slice none 0 0]):=hZz (by rw [← hW2,← hg2];exact Blk.new _ _ _);have hb2:Below w.heap.size w W2:=by rw [← hW2,← hW1];exact za4Y _ _ _
 have HB1:=hZz hb2;have s2:W2.cell? ⟨B,off+i,none⟩=some (.int .i64 sv):=HS.out _ hb2;have ww:=blkW (HW.out.below hb2);have hle:w.heap.size≤g2:=by rw [← hg2,← hW1];simp
 have HLE:=hZz hle;have HW1:=hZz hW1;have HW2:=hZz hW2;have HG:=hZz hg;have HG2:Hid (g+1=g2):=hZz (by rw [← hg2,← hW1,← hg];simp);clear hP h1 hk7 hK hme hN hks hg hW1 hW2 hg2 hx1 hle hb2 hsl HS;go_enter func66,ntmps66
 go_upto_region 1 with fail
 rw [HG.out,HW1.out]
 try rw [HG2.out]
 rw [HW2.out];clear HG HW1 HW2 HG2;have x1:=blk5n HX1.out;have z3:=(fun i=>HY1.out.frozen i:∀ i,W2.frozen? ⟨g2,i,none⟩=false)
 have x1':W2.cell? ⟨g,3,none⟩=some (.slice kA q kc):=x1.2.2.2.1;obtain ⟨WA,hWA⟩:∃ WA,W2.drew.alloc (.cells #[] 9)=WA:=⟨_,rfl⟩
 have hbA:Below W2.heap.size W2 WA:=by rw [← hWA];exact (Below.refl _ _).drew.alloc (Nat.le_refl _) _
 have HBA:Hid (Below w.heap.size w WA):=hZz (zaaZ hbA HB1.out HB1.out.size)
 have HOA:Hid (WA.ownsRow w0.heap.size 9 1 (.slice (some ⟨W2.heap.size,0,none⟩) 0 0) 0 []):=hZz (by
  rw [← hWA]
  have:=World.ownsRow_lit (base:=w0.heap.size) (size:=1) (e:=9) W2.drew #[] 0 (by have:=HB1.out.size;show w0.heap.size≤W2.heap.size;omega) (by decide) rfl
  exact this)
 have HYA:Hid (Blk WA g2 53 #[.int .i64 0,.int .i64 0,.string ⟨#[]⟩,.slice none 0 0]):=hZz (HY1.out.below hbA);have HXA:Hid (Blk WA g 58 #[.int .i64 7,.string nt,.int .i64 ni,.slice kA q kc,.slice iA m ic]):=hZz (HX1.out.below hbA);have HWA:=hZz hWA;clear hWA hbA;have xa:=blk5n HXA.out;obtain ⟨ya0,ya1,ya2,ya3⟩:=blk4n HYA.out;have za:=(fun i=>HYA.out.frozen i:∀ i,WA.frozen? ⟨g2,i,none⟩=false)
 have HAL:=hZz (HWA.out);go_upto_region 15 with fail
 by_cases q0:q=0
 ·subst q0
  have hks0:ks=[]:=List.length_eq_zero_iff.1 hq;have hwa:=HWA.out
  go_region_law (first
   | (rw [if_pos (by rfl)];refine zasY (.tmp 49) (.tmp 51) 40 rfl 9 i1 1 underlying40 hj hy1 _ _ 0 0 _ rfl rfl (Nat.le_refl _) ?_))
  all_goals
   clear hwa;obtain ⟨W4,hW4⟩:∃ W,(((WA.setCell ⟨g2,0,none⟩ (.int .i64 12)).setCell ⟨g2,1,none⟩ (.int .i64 m)).setCell ⟨g2,2,none⟩ (.string ⟨#[]⟩)).setCell ⟨g2,3,none⟩ (.slice (some ⟨W2.heap.size,0,none⟩) 0 0)=W:=⟨_,rfl⟩
   have HY4:Hid (Blk W4 g2 53 #[.int .i64 12,.int .i64 m,.string ⟨#[]⟩,.slice (some ⟨W2.heap.size,0,none⟩) 0 0]):=hZz (by rw [← hW4];exact (((HYA.out.set_ 0 _).set_ 1 _).set_ 2 _).set_ 3 _);have HB4:Hid (Below w.heap.size w W4):=hZz (by rw [← hW4];exact (((HBA.out.setCell (p:=⟨g2,0,none⟩) HLE.out _).setCell (p:=⟨g2,1,none⟩) HLE.out _).setCell (p:=⟨g2,2,none⟩) HLE.out _).setCell (p:=⟨g2,3,none⟩) HLE.out _)
   have HO4:Hid (W4.ownsRow w0.heap.size 9 1 (.slice (some ⟨W2.heap.size,0,none⟩) 0 0) 0 []):=hZz (by
    rw [← hW4];have hne:=fun (W:World) (hW:W.ownsRow w0.heap.size 9 1 (.slice (some ⟨W2.heap.size,0,none⟩) 0 0) 0 []) (hB:∃ cs,Blk W g2 53 cs) (j:Nat) (u:Value)=>zapY hW hB.choose_spec (by decide) j u
    exact hne _ (hne _ (hne _ (hne _ HOA.out ⟨_,HYA.out⟩ 0 _) ⟨_,HYA.out.set_ 0 _⟩ 1 _) ⟨_,(HYA.out.set_ 0 _).set_ 1 _⟩ 2 _) ⟨_,((HYA.out.set_ 0 _).set_ 1 _).set_ 2 _⟩ 3 _)
   have HW4:=hZz hW4;clear hW4;go_wp2_with (fail)
   try rw [HW4.out]
   clear ya0 ya1 ya2 ya3;obtain ⟨y0,y1,y2,y3⟩:=blk4n HY4.out;refine bodyPost_ret (by simp [results,Tryz.results66,y0,y1,y2,y3,go_sem];try rfl) rfl ?_
   exact HP.out _ _ _ (.inl ⟨_,.slice (some ⟨W2.heap.size,0,none⟩) 0 0,rfl,rfl,rfl,by unfold OKeys;rw [hks0];exact HO4.out⟩) HB4.out
 ·have hq0:0<q:=by omega
  obtain ⟨kb,ko,rfl,_⟩:=(HKS.out w (Below.refl _ _)).ptr (n:=0) (by omega)
  have HNW:Hid (∀ j u,(ks.map Value.string)[j]? = some u→WA.cell? ((⟨kb,ko,none⟩:Addr).add j)=some u):=hZz (fun j u hj=>by
   rw [List.getElem?_map] at hj;cases hl:ks[j]? with
   | none=>rw [hl] at hj;cases hj
   | some k =>
    rw [hl] at hj;injection hj with hj
    subst hj;obtain ⟨hjl,hje⟩:=List.getElem?_eq_some_iff.1 hl
    have:=(HKS.out WA HBA.out).cell0 hjl (v:=.string ks[j]) rfl
    rw [hje] at this;rw [zbeY];simpa using this)
  have HLQ:Hid ((ks.map Value.string).length=q * 1):=hZz (by rw [List.length_map,hq];omega)
  have HON:Hid (∀ u∈ks.map Value.string,u.oneCell'=true):=hZz (fun u hu=>by
   obtain ⟨k,_,rfl⟩:=List.mem_map.1 hu;rfl)
  have HSZ:Hid (w0.heap.size≤WA.heap.size):=hZz (by have:=HBA.out.size;omega);have hwa:=HWA.out
  go_region_law (first
   | (rw [if_pos (by rfl)];refine wp_append_lies _ (.tmp 49) (.tmp 51) 40 rfl w0.heap.size 9 i1 _ 1 16 underlying40 hj hy0 hy1 hy2 rfl ?k1 _ 0 _ rfl HOA.out ⟨kb,ko,none⟩ q kc (ks.map Value.string) rfl HLQ.out HNW.out HON.out ?k3 ?k4 ?k5 HSZ.out _ rfl ?_;(case k1=>decide);(case k3=>exact hq0);(case k4=>(unfold maxLen;omega));(case k5=>omega);intro g6 cap6 w6 hown6 hgr6 hat6 hlt6;have HY6:=hZz (HYA.out.grown hgr6 (zafZ HOA.out HYA.out (by decide)));have HX6:=hZz (HXA.out.grown hgr6 (zafZ HOA.out HXA.out (by decide)));have x6:=blk5n HX6.out;have y6:=blk4n HY6.out;have z6:=(fun i=>HY6.out.frozen i:∀ i,w6.frozen? ⟨g2,i,none⟩=false);have HO6:=hZz hown6;have HG6:Hid (WA.grownBy w6 (some W2.heap.size)):=hZz hgr6;clear hown6 hgr6 hat6))
  all_goals
   clear hwa;have HB6:Hid (Below w.heap.size w w6):=hZz (HBA.out.grown HG6.out HBA.out.size (fun b hb=>Nat.le_trans HB1.out.size (Nat.le_of_eq (Option.some.inj hb))));obtain ⟨W4,hW4⟩:∃ W,(((w6.setCell ⟨g2,0,none⟩ (.int .i64 12)).setCell ⟨g2,1,none⟩ (.int .i64 m)).setCell ⟨g2,2,none⟩ (.string ⟨#[]⟩)).setCell ⟨g2,3,none⟩ (.slice (some ⟨g6,0,none⟩) (0+q) cap6)=W:=⟨_,rfl⟩
   have HY4:Hid (Blk W4 g2 53 #[.int .i64 12,.int .i64 m,.string ⟨#[]⟩,.slice (some ⟨g6,0,none⟩) (0+q) cap6]):=hZz (by rw [← hW4];exact (((HY6.out.set_ 0 _).set_ 1 _).set_ 2 _).set_ 3 _);have HB4:Hid (Below w.heap.size w W4):=hZz (by rw [← hW4];exact (((HB6.out.setCell (p:=⟨g2,0,none⟩) HLE.out _).setCell (p:=⟨g2,1,none⟩) HLE.out _).setCell (p:=⟨g2,2,none⟩) HLE.out _).setCell (p:=⟨g2,3,none⟩) HLE.out _)
   have HO4:Hid (W4.ownsRow w0.heap.size 9 1 (.slice (some ⟨g6,0,none⟩) (0+q) cap6) ks.length (ks.map Value.string)):=hZz (by
    rw [← hW4];have hne:=fun (W:World) (hW:W.ownsRow w0.heap.size 9 1 (.slice (some ⟨g6,0,none⟩) (0+q) cap6) (0+q) ([] ++ ks.map Value.string)) (hB:∃ cs,Blk W g2 53 cs) (j:Nat) (u:Value)=>zapY hW hB.choose_spec (by decide) j u
    have h9:=hne _ (hne _ (hne _ (hne _ HO6.out ⟨_,HY6.out⟩ 0 (.int .i64 12)) ⟨_,HY6.out.set_ 0 _⟩ 1 (.int .i64 m)) ⟨_,(HY6.out.set_ 0 _).set_ 1 _⟩ 2 (.string ⟨#[]⟩)) ⟨_,((HY6.out.set_ 0 _).set_ 1 _).set_ 2 _⟩ 3 (.slice (some ⟨g6,0,none⟩) (0+q) cap6);rw [hq];have h10:0+q=q:=by omega
    simp only [h10,List.nil_append] at h9 ⊢;exact h9)
   have HW4:=hZz hW4;clear hW4;have h10:0+q=q:=by omega
   rw [h10] at HW4 HY4 HO4;go_wp2_with (fail)
   try rw [HW4.out]
   clear y6 ya0 ya1 ya2 ya3;obtain ⟨y0,y1,y2,y3⟩:=blk4n HY4.out;refine bodyPost_ret (by simp [results,Tryz.results66,y0,y1,y2,y3,go_sem];try rfl) rfl ?_
   exact HP.out _ _ _ (.inl ⟨_,.slice (some ⟨g6,0,none⟩) q cap6,rfl,rfl,rfl,HO4.out⟩) HB4.out
end
end Go.Proofs.YthiimbhjpdphpaaGreatDoor
