/- What the rows of the audit laws share: facts as data. -/
import Derived.Test.YtcnmdhdoiekfoaaDoorW1
import Derived.Test.YtcnmdhdoiekfoaaDoorOpen
namespace Go.Proofs.YtcnmdhdoiekfoaaDoor
open Go.RowKit Go.ChangeShapes Go.WideShapes Go.ChangeAt Go.Deep

theorem Tryd.own : ownKnob Tryd.prog.godebug = none := by kernel_rfl
theorem Tryd.laidOut : laidOutB Tryd.prog = true := by kernel_rfl
theorem Tryd.cells33 : Tryd.prog.cellsOf 33 = 10 := by kernel_rfl

set_option maxRecDepth 100000 in
theorem fact_elem {H : Type} {enc : TypeId × Value → H} {w : World} {base : Nat} {spare : Nat → Bool} {held : Bool} (n : Nat) (cs : List Value) (y : DataW H × List MemPlace) (hl : cs.length = 10)
    (h : DataW.trod enc Tryd.prog w base spare held n 33 cs = some y) : ∃ f : FactD, cs = f.cells := by
  obtain ⟨xs, m, _, _, _, hxl, hg⟩ := DataW.trod_struct Tryd.underlying33 h
  match cs, hl with
  | [c0, c1, c2, c3, c4, c5, c6, c7, c8, c9], _ =>
    match xs, hxl with
    | [x0, x1, x2, x3, x4, x5, x6, x7, x8, x9], _ =>
      obtain ⟨k, e0, _, _⟩ := DataW.trod_int Tryd.underlying31 (hg 0 _ rfl)
      obtain ⟨a, e1, _, _⟩ := DataW.trod_int Tryd.underlying3 (hg 1 _ rfl)
      obtain ⟨s2, e2, _, _⟩ := DataW.trod_string Tryd.underlying9 (hg 2 _ rfl)
      obtain ⟨s3, e3, _, _⟩ := DataW.trod_string Tryd.underlying9 (hg 3 _ rfl)
      obtain ⟨s4, e4, _, _⟩ := DataW.trod_string Tryd.underlying9 (hg 4 _ rfl)
      obtain ⟨s5, e5, _, _⟩ := DataW.trod_string Tryd.underlying9 (hg 5 _ rfl)
      obtain ⟨a6, e6, _, _⟩ := DataW.trod_int Tryd.underlying3 (hg 6 _ rfl)
      obtain ⟨a7, e7, _, _⟩ := DataW.trod_int Tryd.underlying3 (hg 7 _ rfl)
      obtain ⟨s8, e8, _, _⟩ := DataW.trod_string Tryd.underlying9 (hg 8 _ rfl)
      obtain ⟨a9, e9, _, _⟩ := DataW.trod_int Tryd.underlying3 (hg 9 _ rfl)
      have n3 : Tryd.prog.cellsOf 3 = 1 := by kernel_rfl
      have n9 : Tryd.prog.cellsOf 9 = 1 := by kernel_rfl
      have n28 : Tryd.prog.cellsOf 31 = 1 := by kernel_rfl
      simp [n3, n9, n28] at e0 e1 e2 e3 e4 e5 e6 e7 e8 e9
      subst e0 e1 e2 e3 e4 e5 e6 e7 e8 e9
      exact ⟨⟨k, a, s2, s3, s4, s5, a6, a7, s8, a9⟩, rfl⟩

end Go.Proofs.YtcnmdhdoiekfoaaDoor
