/- AX8 -/
import Derived.Test.YthiimbhjpdphpaaGreatDoorPAX7
import Derived.Test.YthiimbhjpdphpaaGreatDoorPW18
set_option linter.unusedVariables false
set_option linter.unusedSimpArgs false
namespace Go.Proofs.YthiimbhjpdphpaaGreatDoor
open Go.RowKit
set_option maxRecDepth 100000
open Go.Proofs.Tryz
attribute [local go_sem] zabZ
set_option maxHeartbeats 16000000 in
theorem awakeP_s (w:World) (hp:Pow w) (hv:Sent w) (hsh:Shaped w):Calls prog 10 #[] w fun r w'=>r=.returned (.bool true)∧Below w.heap.size w w':=by
 obtain ⟨P,hP⟩:∃ P:Ending→World→Prop,(fun r w'=>r=.returned (.bool true)∧Below w.heap.size w w')=P:=⟨_,rfl⟩
 rw [hP];have HP:Hid (∀ w',Below w.heap.size w w'→P (.returned (.bool true)) w'):=hZz (fun w' h2=>by rw [← hP];exact ⟨rfl,h2⟩);have HE:Hid (∀ wx,Calls prog 25 #[] wx fun e w'=>∃ S:ProgS,e=.returned S.val∧S.p=exP∧ProgV w' S∧Below wx.heap.size wx w'):=hZz example12_s
 have HPG:Hid (∀ wx (S:ProgS),Below w.heap.size w wx→S.p=exP→ProgV wx S→Calls prog 11 #[S.val] wx fun r w'=>∃ A nc B ic,r=.returned (.tuple #[.agg #[.slice A 1 nc,.slice B 4 ic],.int .i64 0])∧SlAt w' A 5 FnD.cells exC.fns∧InsO wx.heap.size w' (.slice B 4 ic) exI∧Below wx.heap.size wx w'):=hZz (fun wx S hb he hS=>by
  refine (cprogram_s S wx hS (hp.below hb) (by rw [he];exact ex_ok) (hv.below hb) (hsh.below hb) (by rw [he];exact ex_keys)).mono ?_
  rintro r w' ⟨A,nc,B,ic,c,e,rfl,hR,h1,h2,h3⟩;rw [he] at hR;obtain ⟨rfl,rfl⟩:=ex_prog hR;exact ⟨A,nc,B,ic,rfl,h1,h2,h3⟩)
 have HLN:Hid (∀ wx (S:ProgS),Below w.heap.size w wx→S.p=exP→ProgV wx S→Calls prog 21 #[S.val] wx fun r w'=>r=.returned (.tuple #[.int .i64 4,.int .i64 0])∧Below wx.heap.size wx w'):=hZz (fun wx S hb he hS=>by
  have:=clength_s S wx hS (hp.below hb) (by rw [he];exact ex_ok)
  rw [he,ex_len] at this;exact this)
 have HFD:Hid (∀ wx (S:ProgS),Below w.heap.size w wx→S.p=exP→ProgV wx S→Calls prog 15 #[S.val] wx fun r w'=>∃ A nc B fc,r=.returned (.tuple #[.agg #[.slice A 3 nc,.slice B 1 fc],.int .i64 0])∧Below wx.heap.size wx w'):=hZz (fun wx S hb he hS=>foldX_s S wx hS (hp.below hb) he);clear hP hp hv hsh;unfold ProgS.val at HE HPG HLN HFD;go_enter func10,ntmps10
 go_upto_region 2 with (first
  | (go_at_call 25;((refine (HE.out _).mono ?_);rintro r w1 ⟨S1,rfl,he1,hS1,hb1⟩;have HE1:=hZz he1;have HS1:=hZz hS1;have HB1:=hZz hb1;clear he1 hS1 hb1))
  | (go_at_call 11;((refine (HPG.out _ _ HB1.out HE1.out HS1.out).mono ?_);rintro r w2 ⟨A,nc,B,ic,rfl,h1,h2,hb2⟩;have HA2:=hZz h1;have HI2:=hZz h2;have HB12:=hZz hb2;clear h1 h2 hb2)))
 obtain ⟨bA,oA,hA,_⟩:=HA2.out.ptr (n:=0) (by decide);subst hA;obtain ⟨bB,oB,_,_,hB,_,_⟩:=HI2.out.at (k:=0) (by decide);subst hB
 have HCL:Hid (∀ wx,Below w2.heap.size w2 wx→wx.cell? ⟨bA,oA+4,none⟩=some (.int .i64 4)∧wx.cell? ⟨bB,oB,none⟩=some (.int .i64 5)∧wx.cell? ⟨bB,oB+4,none⟩=some (.int .i64 20)∧wx.cell? ⟨bB,oB+8,none⟩=some (.int .i64 1)):=hZz (fun wx hb=>by
  have a:=(HA2.out.below hb).cell (n:=0) (by decide) (j:=4) (v:=.int .i64 4) rfl;have hi:=HI2.out.below hb;obtain ⟨b1,o1,_,_,e1,_,c1,_⟩:=hi.at (k:=0) (by decide);injection e1 with e1
  injection e1 with e1 e2
  subst e1 e2;obtain ⟨b2,o2,_,_,e1,_,c2,_⟩:=hi.at (k:=1) (by decide);injection e1 with e1
  injection e1 with e1 e2
  subst e1 e2;obtain ⟨b3,o3,_,_,e1,_,c3,_⟩:=hi.at (k:=2) (by decide);injection e1 with e1
  injection e1 with e1 e2
  subst e1 e2;exact ⟨by simpa using a,by simpa using (show _=some (Value.int .i64 5) from c1),by simpa using (show _=some (Value.int .i64 20) from c2),by simpa using (show _=some (Value.int .i64 1) from c3)⟩)
 obtain ⟨gC,hgC⟩:∃ g,w2.heap.size=g:=⟨_,rfl⟩
 obtain ⟨W3,hW3⟩:∃ W,w2.alloc (.cells #[.slice (some ⟨bA,oA,none⟩) 1 nc,.slice (some ⟨bB,oB,none⟩) 4 ic] 31)=W:=⟨_,rfl⟩
 have hb3:Below w2.heap.size w2 W3:=by rw [← hW3];exact zacZ _ _
 have HB23:=hZz hb3;have HX3:Hid (Blk W3 gC 31 #[.slice (some ⟨bA,oA,none⟩) 1 nc,.slice (some ⟨bB,oB,none⟩) 4 ic]):=hZz (by rw [← hW3,← hgC];exact Blk.new _ _ _);have HB3:Hid (Below w.heap.size w W3):=hZz (zaaZ hb3 (zaaZ HB12.out HB1.out HB1.out.size) (Nat.le_trans HB1.out.size HB12.out.size));rw [hgC,hW3];clear hgC hW3 hb3
 go_upto_region 3 with (first
  | (go_at_call 25;((refine (HE.out _).mono ?_);rintro r w4 ⟨S4,rfl,he4,hS4,hb4⟩;have HE4:=hZz he4;have HS4:=hZz hS4;have HB34:=hZz hb4;have HB4:=hZz (zaaZ hb4 HB3.out HB3.out.size);clear he4 hS4 hb4))
  | (go_at_call 21;((refine (HLN.out _ _ HB4.out HE4.out HS4.out).mono ?_);rintro r w5 ⟨rfl,hb5⟩;have HB35:=hZz (zaaZ hb5 HB34.out HB34.out.size);have HB5:=hZz (zaaZ hb5 HB4.out HB4.out.size);clear hb5)))
 go_wp2_with (first
  | (go_at_call 25;((refine (HE.out _).mono ?_);rintro r w6 ⟨S6,rfl,he6,hS6,hb6⟩;have HE6:=hZz he6;have HS6:=hZz hS6;have HB36:=hZz (zaaZ hb6 HB35.out HB35.out.size);have HB6:=hZz (zaaZ hb6 HB5.out HB5.out.size);clear he6 hS6 hb6))
  | (go_at_call 15;((refine (HFD.out _ _ HB6.out HE6.out HS6.out).mono ?_);rintro r w7 ⟨F1,f1,F2,f2,rfl,hb7⟩;have HB37:=hZz (zaaZ hb7 HB36.out HB36.out.size);have HB7:=hZz (zaaZ hb7 HB6.out HB6.out.size);have cc:=HCL.out _ (zaaZ HB37.out HB23.out HB23.out.size);have cx:=blk2 (HX3.out.below HB37.out);clear hb7)))
 exact HP.out _ (HB7.out.alloc HB7.out.size _)
end Go.Proofs.YthiimbhjpdphpaaGreatDoor
