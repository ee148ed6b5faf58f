/- An event opened: what reads as an event's datum is an event in memory; the tables, out of the row's premise. -/
import Derived.Test.YtahcjgjigbedoaaGreatDoorOpenM
import Derived.Test.YtahcjgjigbedoaaGreatDoorOpenSh
import Derived.Test.YtahcjgjigbedoaaGreatDoorGB10
import Derived.Lib.LaidTab
set_option linter.unusedVariables false
set_option linter.unusedSimpArgs false
namespace Go.Proofs.YtahcjgjigbedoaaGreatDoor
open Go.RowKit Go.ChangeShapes Go.WideShapes Go.Deep
set_option maxRecDepth 100000
set_option linter.unusedSimpArgs false
theorem Tryz.cells24 : Tryz.prog.cellsOf 24 = 7 := by kernel_rfl
def IntsOk (c : CellD) : Prop := (-9223372036854775808 ≤ c.int ∧ c.int ≤ 9223372036854775807) ∧ c.n ≤ 9223372036854775807
section
variable {H : Type} {enc : TypeId × Value → H} {w : World} {base : Nat} {spare : Nat → Bool} {held : Bool}
theorem cell_elemI (n : Nat) (cs : List Value) (y : DataW H × List MemPlace) (hl : cs.length = 4) (h : DataW.trod enc Tryz.prog w base spare held n 47 cs = some y) (hw : ∀ m ∈ y.1.weights Tryz.prog 47, m ≤ Rb) : ∃ c : CellD, cellR w cs c ∧ (c.str.size ≤ Rb ∧ IntsOk c) := by
 obtain ⟨c, hc, hs⟩ := cell_elem n cs y hl h hw
 refine ⟨c, hc, hs, ?_⟩
 obtain ⟨xs, m, _, rfl, _, hxl, hg⟩ := DataW.trod_struct Tryz.underlying47 h
 unfold cellR at hc
 subst hc
 match xs, hxl with
 | [x0, x1, x2, x3], _ =>
  obtain ⟨a, e1, _, r1⟩ := DataW.trod_int Tryz.underlying3 (hg 1 _ rfl)
  obtain ⟨b, e3, _, r3⟩ := DataW.trod_int Tryz.underlying3 (hg 3 _ rfl)
  have n3 : Tryz.prog.cellsOf 3 = 1 := by kernel_rfl
  have n9 : Tryz.prog.cellsOf 9 = 1 := by kernel_rfl
  have n50 : Tryz.prog.cellsOf 45 = 1 := by kernel_rfl
  simp [n3, n9, n50, CellD.cells] at e1 e3
  subst e1 e3
  simp [Lit.wf, IntKind.min, IntKind.max, IntKind.signed, IntKind.bits] at r1 r3
  exact ⟨by omega, by omega⟩
theorem val_openI {fuel : Nat} {cs : List Value} {x : DataW H × List MemPlace} (hR : ∀ m ∈ x.1.weights Tryz.prog 22, m ≤ Rb) (h : DataW.trod enc Tryz.prog w base spare held fuel 22 cs = some x) : ∃ (v : Value) (l : ValD), cs = [v] ∧ ValV w v l ∧ ∀ c ∈ l, c.str.size ≤ Rb ∧ IntsOk c :=
 open_rowsV 3518437208780 Rb 40 4 cellR (fun c : CellD => c.str.size ≤ Rb ∧ IntsOk c) Tryz.underlying22 Tryz.cells47 Tryz.bytes47 (by omega) (fun n hn => by unfold Rb at hn; omega) cell_elemI hR h
theorem event_open {fuel : Nat} {cs : Array Value} {x : DataW H × List MemPlace} (hl : cs.toList.length = 7) (hw : ∀ m ∈ x.1.weights Tryz.prog 24, m ≤ Rb) (h : DataW.trod enc Tryz.prog w base spare held fuel 24 cs.toList = some x) : ∃ e : EvD, EvV w (.agg cs) e ∧ ∀ c ∈ e.body, c.str.size ≤ Rb ∧ IntsOk c := by
 obtain ⟨xs, m, _, rfl, _, hxl, hg⟩ := DataW.trod_struct Tryz.underlying24 h
 obtain ⟨l, hcs⟩ : ∃ l, cs.toList = l := ⟨_, rfl⟩
 rw [hcs] at hl hg
 match l, hl, hcs, hg with
 | [c0, c1, c2, c3, c4, c5, c6], _, hcs, hg =>
  match xs, hxl with
  | [x0, x1, x2, x3, x4, x5, x6], _ =>
   have hww : DataW.weights Tryz.prog 24 (DataW.agg ([x0, x1, x2, x3, x4, x5, x6].map (·.1))) = DataW.weightsEach Tryz.prog [9, 9, 9, 9, 3, 9, 22] ([x0, x1, x2, x3, x4, x5, x6].map (·.1)) := by
    simp only [DataW.weights, Tryz.underlying24]
    rfl
   have hw' : ∀ m ∈ DataW.weights Tryz.prog 24 (DataW.agg ([x0, x1, x2, x3, x4, x5, x6].map (·.1))), m ≤ Rb := hw
   rw [hww] at hw'
   obtain ⟨s0, e0, _, _⟩ := DataW.trod_string Tryz.underlying9 (hg 0 _ rfl)
   obtain ⟨s1, e1, _, _⟩ := DataW.trod_string Tryz.underlying9 (hg 1 _ rfl)
   obtain ⟨s2, e2, _, _⟩ := DataW.trod_string Tryz.underlying9 (hg 2 _ rfl)
   obtain ⟨s3, e3, _, _⟩ := DataW.trod_string Tryz.underlying9 (hg 3 _ rfl)
   obtain ⟨a4, e4, _, _⟩ := DataW.trod_int Tryz.underlying3 (hg 4 _ rfl)
   obtain ⟨s5, e5, _, _⟩ := DataW.trod_string Tryz.underlying9 (hg 5 _ rfl)
   obtain ⟨v, l, e6, hv, hc⟩ := val_openI (fun m hm => hw' m (DataW.weights_mem_each (j := 6) (t := 22) (d := x6.1) rfl rfl _ hm)) (hg 6 _ rfl)
   have n3 : Tryz.prog.cellsOf 3 = 1 := by kernel_rfl
   have n9 : Tryz.prog.cellsOf 9 = 1 := by kernel_rfl
   have n22 : Tryz.prog.cellsOf 22 = 1 := by kernel_rfl
   simp [n3, n9, n22] at e0 e1 e2 e3 e4 e5 e6
   subst e0 e1 e2 e3 e4 e5 e6
   refine ⟨⟨s0, s1, s2, s3, a4, s5, l⟩, ⟨_, ?_, hv⟩, hc⟩
   congr 1
   exact Array.toList_inj.1 hcs
end
theorem laid2_of {W : World} (h : laidMetH Tryz.prog Rows.sandboxBodiesRow.laid W) : Shaped W ∧ Pow W := by
 rw [MakeChecks.laidMetH_plain _ _ _ (by kernel_rfl)] at h
 obtain ⟨ps, ⟨g0, t0, cs0, f0, p0, q0, hg0, ht0, hv0, hd0, ⟨g1, t1, cs1, f1, p1, q1, hg1, ht1, hv1, hd1, ⟨g2, t2, cs2, f2, p2, q2, hg2, ht2, hv2, hd2, ⟨g3, t3, cs3, f3, p3, q3, hg3, ht3, hv3, hd3, ⟨g4, t4, cs4, f4, p4, q4, hg4, ht4, hv4, hd4, ⟨g5, t5, cs5, f5, p5, q5, hg5, ht5, hv5, hd5, _, _⟩, _⟩, _⟩, _⟩, _⟩, _⟩, _⟩ := h
 obtain rfl := Option.some.inj ((show Tryz.prog.globalNamed "faas/code.shapes" = some 0 by kernel_rfl).symm.trans hg5)
 obtain rfl := Option.some.inj ((show (Tryz.prog.globals[0]?).map (·.type) = some 131 by kernel_rfl).symm.trans ht5)
 obtain rfl := Option.some.inj ((show Tryz.prog.globalNamed "internal/strconv.uint64pow10" = some 2 by kernel_rfl).symm.trans hg2)
 obtain rfl := Option.some.inj ((show Tryz.prog.globalNamed "strconv.ErrRange" = some 6 by kernel_rfl).symm.trans hg3)
 obtain rfl := Option.some.inj ((show Tryz.prog.globalNamed "strconv.ErrSyntax" = some 5 by kernel_rfl).symm.trans hg4)
 obtain rfl := Option.some.inj ((show (Tryz.prog.globals[2]?).map (·.type) = some 211 by kernel_rfl).symm.trans ht2)
 obtain rfl := Option.some.inj ((show (Tryz.prog.globals[6]?).map (·.type) = some 217 by kernel_rfl).symm.trans ht3)
 obtain rfl := Option.some.inj ((show (Tryz.prog.globals[5]?).map (·.type) = some 217 by kernel_rfl).symm.trans ht4)
 refine ⟨?_, ?_⟩
 rotate_left
 ·have hd : DataW.trod _ Tryz.prog W 0 _ false f2 211 cs2.toList = some (Lib.tabData .u64 Lib.pow10Tab, p2) := hd2
  have := Lib.cells_of_tab Tryz.underlying211 Tryz.underlying185 (by kernel_rfl) (by kernel_rfl) hd
  unfold Pow Lib.TabIs
  rw [hv2]; congr 1; cases cs2; simp at this; rw [this]
 have hd : DataW.trod _ Tryz.prog W 0 _ false f5 131 cs5.toList = some (Rows.laid_faas_code_shapes, p5) := hd5
 have hs := shapes_open hd
 intro i v hv
 have h1 := hs i v hv
 have hv6 : ((some 0 : Option Nat).bind fun g => match W.heap[g]? with
  | some (.cells cs _ _) => some cs
  | _ => none) = some cs5 := by rw [← hv5, ← hg5]; rfl
 simp only [Option.bind_some] at hv6
 unfold World.cell?
 split at hv6
 ·rename_i cs t f hh
  rw [hh]
  injection hv6 with hv6
  subst hv6
  simpa using h1
 ·cases hv6
end Go.Proofs.YtahcjgjigbedoaaGreatDoor
