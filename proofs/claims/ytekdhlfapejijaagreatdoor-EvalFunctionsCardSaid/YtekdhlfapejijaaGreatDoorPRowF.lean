/- RowF -/
import Derived.Test.YtekdhlfapejijaaGreatDoorPOpenE
import Derived.Test.YtekdhlfapejijaaGreatDoorPJK4
import Derived.LaidMore
import Derived.Lay
import Derived.Lib.LaidTab
import Derived.SevenTiedAt
import Derived.Shelf.Vars
import Derived.Stop.Joined
import Derived.Test.YtekdhlfapejijaaGreatDoorCards
import Derived.Test.YtekdhlfapejijaaGreatDoorTie
set_option linter.unusedVariables false
set_option linter.unusedSimpArgs false
namespace Go.Proofs.YtekdhlfapejijaaGreatDoor
set_option maxRecDepth 100000
open Go.Proofs.Tryz
open Go.RowKit Go.ChangeShapes Go.WideShapes Go.ChangeAt Go.Deep
theorem laid2_of {W:World} (h:laidMetH prog Rows.evalLawsRow.laid W):Pow W∧Sent W:=by
 rw [MakeChecks.laidMetH_plain _ _ _ (by kernel_rfl)] at h;obtain ⟨ps,⟨g0,t0,cs0,f0,p0,q0,hg0,ht0,hv0,hd0,⟨g1,t1,cs1,f1,p1,q1,hg1,ht1,hv1,hd1,⟨g2,t2,cs2,f2,p2,q2,hg2,ht2,hv2,hd2,⟨g3,t3,cs3,f3,p3,q3,hg3,ht3,hv3,hd3,⟨g4,t4,cs4,f4,p4,q4,hg4,ht4,hv4,hd4,_,_⟩,_⟩,_⟩,_⟩,_⟩,_⟩:=h;obtain rfl:=Option.some.inj ((show prog.globalNamed "internal/strconv.uint64pow10"=some 3 by kernel_rfl).symm.trans hg2)
 obtain rfl:=Option.some.inj ((show prog.globalNamed "strconv.ErrRange"=some 2 by kernel_rfl).symm.trans hg3)
 obtain rfl:=Option.some.inj ((show prog.globalNamed "strconv.ErrSyntax"=some 1 by kernel_rfl).symm.trans hg4)
 obtain rfl:=Option.some.inj ((show (prog.globals[3]?).map (·.type)=some 287 by kernel_rfl).symm.trans ht2);obtain rfl:=Option.some.inj ((show (prog.globals[2]?).map (·.type)=some 193 by kernel_rfl).symm.trans ht3);obtain rfl:=Option.some.inj ((show (prog.globals[1]?).map (·.type)=some 193 by kernel_rfl).symm.trans ht4);refine ⟨?_,⟨?_,?_⟩⟩
 ·have hd:DataW.trod _ prog W 0 _ false f2 287 cs2.toList=some (Lib.tabData .u64 Lib.pow10Tab,p2):=hd2
  have:=Lib.cells_of_tab underlying287 underlying178 (by kernel_rfl) (by kernel_rfl) hd
  unfold Pow Lib.TabIs;rw [hv2];congr 1;cases cs2;simp at this;rw [this]
 ·obtain ⟨_,u,v,e,_⟩:=iface_of_trod underlying193 hd4
  exact ⟨u,v,by rw [hv4];congr 1;cases cs4;simp at e;rw [e]⟩
 ·obtain ⟨_,u,v,e,_⟩:=iface_of_trod underlying193 hd3
  exact ⟨u,v,by rw [hv3];congr 1;cases cs3;simp at e;rw [e]⟩
theorem maxl_of {W:World} (h:W.ShapedOpen prog):MaxL W :=
 cell_of_shapedOpen_int (g:=0) (zero:=#[.int .i64 0]) (t:=3) h (of_decide_eq_true (by kernel_rfl)) (by kernel_rfl) rfl (by kernel_rfl) (by kernel_rfl) underlying3
theorem Tryz.own:ownKnob prog.godebug=none:=by kernel_rfl
theorem Tryz.laidOut:laidOutB prog=true:=by kernel_rfl
theorem wrap_shaped {H:Type} {enc:TypeId × Value→H} {a:Assume} {C:Checked} {os:Os} {f:FuncId} {fn:Func} {s:ChangeSpec} {conds:List PathCond} {apart fresh handsOn again:Bool} {X:World→Array Value→Prop}
  (hX:∀ (w w':World) (args:Array Value),w.heap=w'.heap→X w args→X w' args)
  (own:ownKnob C.prog.godebug=none) (started:os.Started) (noInit:C.prog.inits.idxOf? f=none) (hfn:C.prog.funcs[f]? = some fn)
  (witness:∃ (w:World) (tape:Tape) (i:Input),w.os=os∧World.Shaped C.prog (w.forCall tape i)∧i.vars=[]∧Input.okWide C.prog (w.forCall tape i) .any w.heap.size f i ∧
   ((s.pre enc C.prog fn conds apart (w.forCall tape i).memory i.args∧X (w.forCall tape i).memory i.args)∧sizedMet enc C.prog fn (OpenSpec.ofChange s) apart (w.forCall tape i).memory i.args)∧a.holds C.prog (lone (Frame.enter C.prog f i.args .normal) [] (w.forCall tape i)))
  (contract:∀ (W:World) (base:Nat) (args:Array Value) (ds gs:List (DataW H)) (before:List MemPlace),
   (∀ (j:Nat) t v,fn.params[j]? = some t→args[j]? = some v→Value.okWide C.prog W .any base t v) →
   DataW.Whole enc C.prog fn.params.toList s.vars apart W args.toList ds gs before →
   (DataW.weightsEach C.prog (fn.params.toList ++ s.plain.varTypes C.prog) (ds ++ gs)).all (·≤reachBytes)=true→X W args→W.ShapedOpen C.prog →
   Calls C.prog f args W fun e W'=>∃ v,e=.returned v∧s.post enc C.prog fn apart fresh handsOn again W args v W') :
  ReturnsInHanded a C os f .any (fun w args=>(s.pre enc C.prog fn conds apart w args∧X w args)∧sizedMet enc C.prog fn (OpenSpec.ofChange s) apart w args) (s.post enc C.prog fn apart fresh handsOn again):=by
 refine returnsInHanded_of_calls own started noInit witness ?_
 intro w tape i _ hsh _ hok hpre _;obtain ⟨_,_,_,fn',hfn',_,_,_,_,hval⟩:=hok;obtain rfl:fn'=fn:=Option.some.inj (hfn'.symm.trans hfn);obtain ⟨⟨⟨ds,gs,before,hw,_⟩,hx⟩,hz⟩:=hpre;refine (contract (w.forCall tape i) w.heap.size i.args ds gs before hval (hw.of_heap (w':=w.forCall tape i) (by rfl)) (hz.weights hw) (hX _ _ _ (by rfl) hx) hsh).mono fun e W' ⟨v,he,hp⟩=>?_
 subst he;exact ChangeSpec.post_blind hp
end Go.Proofs.YtekdhlfapejijaaGreatDoor
