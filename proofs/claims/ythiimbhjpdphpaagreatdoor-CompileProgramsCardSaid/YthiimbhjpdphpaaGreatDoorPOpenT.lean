/- OpenT -/
import Derived.Test.YthiimbhjpdphpaaGreatDoorPOpenSh
import Derived.Test.YthiimbhjpdphpaaGreatDoorPGL4
import Derived.Lib.LaidTab
set_option linter.unusedVariables false
set_option linter.unusedSimpArgs false
namespace Go.Proofs.YthiimbhjpdphpaaGreatDoor
set_option maxRecDepth 100000
open Go.Proofs.Tryz
open Go.RowKit Go.ChangeShapes Go.WideShapes Go.Deep
theorem laid3_of {W:World} (h:laidMetH prog Rows.compileShiftsRow.laid W):Shaped W∧Pow W∧Sent W:=by
 rw [MakeChecks.laidMetH_plain _ _ _ (by kernel_rfl)] at h;obtain ⟨ps,⟨g0,t0,cs0,f0,p0,q0,hg0,ht0,hv0,hd0,⟨g1,t1,cs1,f1,p1,q1,hg1,ht1,hv1,hd1,⟨g2,t2,cs2,f2,p2,q2,hg2,ht2,hv2,hd2,⟨g3,t3,cs3,f3,p3,q3,hg3,ht3,hv3,hd3,⟨g4,t4,cs4,f4,p4,q4,hg4,ht4,hv4,hd4,⟨g5,t5,cs5,f5,p5,q5,hg5,ht5,hv5,hd5,_,_⟩,_⟩,_⟩,_⟩,_⟩,_⟩,_⟩:=h;obtain rfl:=Option.some.inj ((show prog.globalNamed "faas/code.shapes"=some 0 by kernel_rfl).symm.trans hg5)
 obtain rfl:=Option.some.inj ((show (prog.globals[0]?).map (·.type)=some 145 by kernel_rfl).symm.trans ht5);obtain rfl:=Option.some.inj ((show prog.globalNamed "internal/strconv.uint64pow10"=some 4 by kernel_rfl).symm.trans hg2)
 obtain rfl:=Option.some.inj ((show prog.globalNamed "strconv.ErrRange"=some 3 by kernel_rfl).symm.trans hg3)
 obtain rfl:=Option.some.inj ((show prog.globalNamed "strconv.ErrSyntax"=some 2 by kernel_rfl).symm.trans hg4)
 obtain rfl:=Option.some.inj ((show (prog.globals[4]?).map (·.type)=some 276 by kernel_rfl).symm.trans ht2);obtain rfl:=Option.some.inj ((show (prog.globals[3]?).map (·.type)=some 244 by kernel_rfl).symm.trans ht3);obtain rfl:=Option.some.inj ((show (prog.globals[2]?).map (·.type)=some 244 by kernel_rfl).symm.trans ht4);refine ⟨?_,?_,⟨?_,?_⟩⟩
 rotate_left
 ·have hd:DataW.trod _ prog W 0 _ false f2 276 cs2.toList=some (Lib.tabData .u64 Lib.pow10Tab,p2):=hd2
  have:=Lib.cells_of_tab underlying276 underlying217 (by kernel_rfl) (by kernel_rfl) hd
  unfold Pow Lib.TabIs;rw [hv2];congr 1;cases cs2;simp at this;rw [this]
 ·obtain ⟨_,u,v,e,_⟩:=iface_of_trod underlying244 hd4
  exact ⟨u,v,by rw [hv4];congr 1;cases cs4;simp at e;rw [e]⟩
 ·obtain ⟨_,u,v,e,_⟩:=iface_of_trod underlying244 hd3
  exact ⟨u,v,by rw [hv3];congr 1;cases cs3;simp at e;rw [e]⟩
 have hd:DataW.trod _ prog W 0 _ false f5 145 cs5.toList=some (Rows.laid_faas_code_shapes,p5):=hd5;have hs:=shapes_open hd;intro i v hv;have h1:=hs i v hv
 have hv6:((some 0:Option Nat).bind fun g=>match W.heap[g]? with
  | some (.cells cs _ _)=>some cs
  | _=>none)=some cs5:=by rw [← hv5,← hg5];rfl
 simp only [Option.bind_some] at hv6;unfold World.cell?;split at hv6
 ·rename_i cs t f hh
  rw [hh];injection hv6 with hv6
  subst hv6;simpa using h1
 ·cases hv6
end Go.Proofs.YthiimbhjpdphpaaGreatDoor
