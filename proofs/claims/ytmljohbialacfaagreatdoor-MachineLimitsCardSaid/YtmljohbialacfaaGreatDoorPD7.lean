/- D7 -/
import Derived.Test.YtmljohbialacfaaGreatDoorPGD6
import Derived.WalkMore
set_option linter.unusedVariables false
set_option linter.unusedSimpArgs false
namespace Go.Proofs.YtmljohbialacfaaGreatDoor
open Go.RowKit
set_option maxRecDepth 100000
/-- Where the walk of look stands. -/
structure LSt (w W:World) (gV g:Nat) (a b:Int):Prop where
 hr:Blk W g 102 #[.int .i64 0,.int .i64 0,.bool false,.bool false]
 hi:Blk W (g+1) 102 #[.int .i64 a,.int .i64 b,.bool false,.bool false]
 hc:Blk W (g+1+1) 62 #[.int .i64 3,.int .i64 7,.string ⟨#[]⟩,.int .i64 0]
 hV:Blk W gV 62 #[.int .i64 3,.int .i64 7,.string ⟨#[]⟩,.int .i64 0]
 hB:Below w.heap.size w W
theorem LSt.below {w W W':World} {gV g:Nat} {a b:Int} (h:LSt w W gV g a b) (hb:Below W.heap.size W W'):LSt w W' gV g a b :=
 ⟨h.hr.below hb,h.hi.below hb,h.hc.below hb,h.hV.below hb,below_call hb h.hB⟩
theorem LSt.set {w W:World} {gV g:Nat} {a b a' b':Int} (h:LSt w W gV g a b) (hg:w.heap.size=g) (hV:gV<g) (j:Nat) (u:Value) (he:(#[.int .i64 a,.int .i64 b,.bool false,.bool false]:Array Value).setIfInBounds j u=#[.int .i64 a',.int .i64 b',.bool false,.bool false]):LSt w (W.setCell ⟨g+1,j,none⟩ u) gV g a' b' :=
 ⟨h.hr.far (p:=⟨g+1,j,none⟩) (by simp) u,by rw [← he];exact h.hi.set_ j u,h.hc.far (p:=⟨g+1,j,none⟩) (by simp) u,h.hV.far (p:=⟨g+1,j,none⟩) (by simp;omega) u,h.hB.setCell (p:=⟨g+1,j,none⟩) (by simp;omega) u⟩
attribute [local go_sem] cell_alloc_is
set_option maxHeartbeats 4000000 in
theorem look_7 (gV:Nat) (w:World) (h:Blk w gV 62 #[.int .i64 3,.int .i64 7,.string ⟨#[]⟩,.int .i64 0]) :
  Calls Tryz.prog 54 #[.slice (some ⟨gV,0,none⟩) 1 1] w fun e w'=>e=.returned (.tuple #[.int .i64 1,.agg #[.int .i64 1,.int .i64 1,.bool false,.bool false],.bool true])∧Below w.heap.size w w':=by
 have hlt:gV<w.heap.size:=lt_of_block h
 have HB:=Lib.hid (below_3 w (.cells #[.int .i64 0,.int .i64 0,.bool false,.bool false] 102) (.cells #[.int .i64 0,.int .i64 0,.bool false,.bool false] 102) (.cells #[.int .i64 3,.int .i64 7,.string ⟨#[]⟩,.int .i64 0] 62))
 have HL0:Hid (LSt w (((w.alloc (.cells #[.int .i64 0,.int .i64 0,.bool false,.bool false] 102)).alloc (.cells #[.int .i64 0,.int .i64 0,.bool false,.bool false] 102)).alloc (.cells #[.int .i64 3,.int .i64 7,.string ⟨#[]⟩,.int .i64 0] 62)) gV w.heap.size 0 0):=Lib.hid
  ⟨((Blk.new w _ _).alloc _).alloc _,(Blk.second w _ _ _).alloc _,Blk.third w _ _ _ _,h.below HB.out,HB.out⟩
 obtain ⟨P,hP⟩:∃ P:Ending→World→Prop,(fun e w'=>e=.returned (.tuple #[.int .i64 1,.agg #[.int .i64 1,.int .i64 1,.bool false,.bool false],.bool true])∧Below w.heap.size w w')=P:=⟨_,rfl⟩
 rw [hP]
 have HP:=Lib.hid hP
 clear hP HB
 have v0:=blk4 h
 clear h
 go_enter Tryz.func54,Tryz.ntmps54
 go_wp2_with (fail)
 go_step3
 go_wp2_with (fail)
 go_step3
 go_wp2_with (fail)
 refine wp_loop_rounds 1 ?_
 rw [rounds_succ]
 go_upto_region 6 with fail
 obtain ⟨g,hg⟩:∃ g,w.heap.size=g:=⟨_,rfl⟩
 obtain ⟨W0,hW0⟩:∃ W0,((w.alloc (.cells #[.int .i64 0,.int .i64 0,.bool false,.bool false] 102)).alloc (.cells #[.int .i64 0,.int .i64 0,.bool false,.bool false] 102)).alloc (.cells #[.int .i64 3,.int .i64 7,.string ⟨#[]⟩,.int .i64 0] 62)=W0:=⟨_,rfl⟩
 rw [hW0] at HL0 ⊢
 rw [hg] at HL0 hlt ⊢
 clear hW0 v0
 have HG:=Lib.hid hg
 clear hg
 have c0:=blk4 HL0.out.hc
 go_upto_region 16 with (first
  | (go_at_call 83;with_reducible refine (plain_7 _).mono ?_;rintro e W1 ⟨rfl,hb1⟩;have HL1:=Lib.hid (HL0.out.below hb1);have c1:=blk4 HL1.out.hc;have i1:=blk4 HL1.out.hi;have z1:=HL1.out.hi.frozen 0;clear hb1 c0))
 go_upto_region 17 with fail
 obtain ⟨W2,hW2⟩:∃ W2,W1.setCell ⟨g+1,0,none⟩ (.int .i64 1)=W2:=⟨_,rfl⟩
 have HL2:=Lib.hid (HL1.out.set HG.out hlt 0 (.int .i64 1) (a':=1) (b':=0) rfl)
 rw [hW2] at HL2 ⊢
 clear hW2 c1 i1 z1 HL1 HL0
 have c2:=blk4 HL2.out.hc
 have i2:=blk4 HL2.out.hi
 have z2:=HL2.out.hi.frozen 1
 go_cut [] from 92 to 97 (fun wx=>LSt w wx gV g 1 1)
 case first =>
  have HLd:=Lib.hid (HL2.out.below (below_drew W2))
  go_region_with (first
   | (go_at_call 85;with_reducible refine (size_7 _).mono ?_;rintro e W3 ⟨rfl,hb3⟩;have HL3:=Lib.hid (HLd.out.below hb3);have c3:=blk4 HL3.out.hc;have i3:=blk4 HL3.out.hi;have z3:=HL3.out.hi.frozen 1;clear hb3))
  all_goals
   go_wp2_with fail
   go_meet
   exact HL3.out.set HG.out hlt 1 (.int .i64 1) (a':=1) (b':=1) rfl
 case rest =>
  have HL4:=Lib.hid hcut
  have c4:=blk4 HL4.out.hc
  have i4:=blk4 HL4.out.hi
  have z4:=HL4.out.hi.frozen 2
  clear hcut c2 i2 z2
  go_upto_region 19 with (first
   | (go_at_call 86;with_reducible refine (valid_7 _).mono ?_;rintro e W5 ⟨rfl,hw5⟩;rw [hw5];clear hw5 W5))
  obtain ⟨W6,hW6⟩:∃ W6,wc.setCell ⟨g+1,2,none⟩ (.bool false)=W6:=⟨_,rfl⟩
  have HL6:=Lib.hid (HL4.out.set HG.out hlt 2 (.bool false) (a':=1) (b':=1) rfl)
  rw [hW6] at HL6 ⊢
  clear hW6 c4 i4 z4
  have c6:=blk4 HL6.out.hc
  have i6:=blk4 HL6.out.hi
  have z6:=HL6.out.hi.frozen 3
  go_upto_region 20 with fail
  obtain ⟨W7,hW7⟩:∃ W7,W6.setCell ⟨g+1,3,none⟩ (.bool false)=W7:=⟨_,rfl⟩
  have HL7:=Lib.hid (HL6.out.set HG.out hlt 3 (.bool false) (a':=1) (b':=1) rfl)
  rw [hW7] at HL7 ⊢
  clear hW7 c6 i6 z6
  have c7:=blk4 HL7.out.hc
  have i7:=blk4 HL7.out.hi
  have r7:=blk4 HL7.out.hr
  have y0:=HL7.out.hr.frozen 0
  have y1':=HL7.out.hr.frozen 1
  have y2':=HL7.out.hr.frozen 2
  have y3':=HL7.out.hr.frozen 3
  go_upto_region 26 with (first
   | (go_at_call 87;with_reducible refine (closed_nil _).mono ?_;rintro e W8 ⟨rfl,hw8⟩;rw [hw8];clear hw8 W8))
  go_region
  have HE:Hid (Blk (((((W7.setCell ⟨g,0,none⟩ (.int .i64 1)).setCell ⟨g,1,none⟩ (.int .i64 1)).setCell ⟨g,2,none⟩ (.bool false)).setCell ⟨g,3,none⟩ (.bool false)).drew) g 102 #[.int .i64 1,.int .i64 1,.bool false,.bool false]):=Lib.hid ((((HL7.out.hr.set_ 0 (.int .i64 1)).set_ 1 (.int .i64 1)).set_ 2 (.bool false)).set_ 3 (.bool false)).drew
  have hle:w.heap.size≤g:=Nat.le_of_eq HG.out
  have HBE:Hid (Below w.heap.size w (((((W7.setCell ⟨g,0,none⟩ (.int .i64 1)).setCell ⟨g,1,none⟩ (.int .i64 1)).setCell ⟨g,2,none⟩ (.bool false)).setCell ⟨g,3,none⟩ (.bool false)).drew)):=Lib.hid ((((HL7.out.hB.setCell (p:=⟨g,0,none⟩) hle (.int .i64 1)).setCell (p:=⟨g,1,none⟩) hle (.int .i64 1)).setCell (p:=⟨g,2,none⟩) hle (.bool false)).setCell (p:=⟨g,3,none⟩) hle (.bool false)).drew
  obtain ⟨WE,hWE⟩:∃ WE,((((W7.setCell ⟨g,0,none⟩ (.int .i64 1)).setCell ⟨g,1,none⟩ (.int .i64 1)).setCell ⟨g,2,none⟩ (.bool false)).setCell ⟨g,3,none⟩ (.bool false)).drew=WE:=⟨_,rfl⟩
  rw [hWE] at HE HBE ⊢
  clear hWE c7 i7 r7 y0 y1' y2' y3'
  have ge:=blk4 HE.out
  go_wp2_with (fail)
  rw [Exit.noGoto_ret]
  refine bodyPost_ret (v:=.tuple #[.int .i64 1,.agg #[.int .i64 1,.int .i64 1,.bool false,.bool false],.bool true]) (by simp [results,Tryz.results54,go_sem,ge]) rfl ?_
  rw [← HP.out]
  exact ⟨rfl,HBE.out⟩
set_option maxHeartbeats 4000000 in
theorem vcheck_7 (gV:Nat) (w:World) (h:Blk w gV 62 #[.int .i64 3,.int .i64 7,.string ⟨#[]⟩,.int .i64 0]) :
  Calls Tryz.prog 24 #[.slice (some ⟨gV,0,none⟩) 1 1] w fun e w'=>e=.returned (.int .i64 0)∧Below w.heap.size w w':=by
 have HV:=Lib.hid h
 clear h
 go_enter Tryz.func24,Tryz.ntmps24
 go_wp2_with (first
  | (go_at_call 54;with_reducible refine (look_7 gV _ HV.out).mono ?_;rintro e W1 ⟨rfl,hb1⟩;have HB1:=Lib.hid hb1;clear hb1))
 go_returns
 exact ⟨rfl,HB1.out.alloc HB1.out.size _⟩
end Go.Proofs.YtmljohbialacfaaGreatDoor
