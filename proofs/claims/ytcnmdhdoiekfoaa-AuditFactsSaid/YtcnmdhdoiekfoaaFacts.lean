/- For every list of facts the law AuditFacts answers true and leaves its argument as it was. No condition. -/
import Derived.Test.YtcnmdhdoiekfoaaW13
import Derived.Test.YtcnmdhdoiekfoaaOpen
namespace Go.Proofs.Ytcnmdhdoiekfoaa
open Go.RowKit Go.ChangeShapes Go.WideShapes Go.ChangeAt Go.Deep

theorem Try.own : ownKnob Try.prog.godebug = none := by kernel_rfl
theorem Try.laidOut : laidOutB Try.prog = true := by kernel_rfl
theorem Try.cells30 : Try.prog.cellsOf 30 = 10 := by kernel_rfl

theorem fact_elem {H : Type} {enc : TypeId × Value → H} {w : World} {base : Nat} {spare : Nat → Bool} {held : Bool} (n : Nat) (cs : List Value) (y : DataW H × List MemPlace) (hl : cs.length = 10)
    (h : DataW.trod enc Try.prog w base spare held n 30 cs = some y) : ∃ f : FactD, cs = f.cells := by
  obtain ⟨xs, m, _, _, _, hxl, hg⟩ := DataW.trod_struct Try.underlying30 h
  match cs, hl with
  | [c0, c1, c2, c3, c4, c5, c6, c7, c8, c9], _ =>
    match xs, hxl with
    | [x0, x1, x2, x3, x4, x5, x6, x7, x8, x9], _ =>
      obtain ⟨k, e0, _, _⟩ := DataW.trod_int Try.underlying28 (hg 0 _ rfl)
      obtain ⟨a, e1, _, _⟩ := DataW.trod_int Try.underlying3 (hg 1 _ rfl)
      obtain ⟨s2, e2, _, _⟩ := DataW.trod_string Try.underlying9 (hg 2 _ rfl)
      obtain ⟨s3, e3, _, _⟩ := DataW.trod_string Try.underlying9 (hg 3 _ rfl)
      obtain ⟨s4, e4, _, _⟩ := DataW.trod_string Try.underlying9 (hg 4 _ rfl)
      obtain ⟨s5, e5, _, _⟩ := DataW.trod_string Try.underlying9 (hg 5 _ rfl)
      obtain ⟨a6, e6, _, _⟩ := DataW.trod_int Try.underlying3 (hg 6 _ rfl)
      obtain ⟨a7, e7, _, _⟩ := DataW.trod_int Try.underlying3 (hg 7 _ rfl)
      obtain ⟨s8, e8, _, _⟩ := DataW.trod_string Try.underlying9 (hg 8 _ rfl)
      obtain ⟨a9, e9, _, _⟩ := DataW.trod_int Try.underlying3 (hg 9 _ rfl)
      have n3 : Try.prog.cellsOf 3 = 1 := by kernel_rfl
      have n9 : Try.prog.cellsOf 9 = 1 := by kernel_rfl
      have n28 : Try.prog.cellsOf 28 = 1 := by kernel_rfl
      simp [n3, n9, n28] at e0 e1 e2 e3 e4 e5 e6 e7 e8 e9
      subst e0 e1 e2 e3 e4 e5 e6 e7 e8 e9
      exact ⟨⟨k, a, s2, s3, s4, s5, a6, a7, s8, a9⟩, rfl⟩

set_option maxRecDepth 100000 in
theorem auditFacts_lifted (os : Os) (started : os.Started) (H : Type) (enc : TypeId × Value → H) :
    ReturnsInHanded {} Try.checked os 3 .any (Rows.auditFactsSpec.pre6 enc Try.prog Try.f3 Rows.auditFactsRow.domain false) (Rows.auditFactsSpec.post enc Try.prog Try.f3 false true false false) := by
  refine returnsInHanded_of_change (C := Try.checked) Try.own started (by kernel_rfl) Try.func3
    (ChangeSpec.witness6 (enc := enc) (C := Try.checked) false ⟨#[], #[.slice none 0 0], []⟩ 8 (by kernel_rfl) (by kernel_rfl) (by kernel_rfl) (by kernel_rfl)) ?_
  intro W base args ds gs before hval0 hW hcnd _
  have hval : ∀ (j : Nat) t v, Try.f3.params[j]? = some t → args[j]? = some v → Value.okWide Try.prog W .any base t v := hval0
  have hW' := hW
  obtain ⟨p, q, hA0, hV, rfl, hfz, hnd⟩ := hW
  have hA : DataW.TrodAll enc Try.prog W 0 (fun _ => true) true Try.f3.params.toList args.toList ds p := hA0
  rw [Try.params3] at hA hval
  obtain ⟨v0, vs0, d0, ds0, p0, q0, hargs, rfl, rfl, h0, r0⟩ := trodAll_cons hA
  obtain ⟨rfl, rfl, rfl⟩ := trodAll_nil r0
  obtain rfl : args = #[v0] := by cases args; simp_all
  obtain ⟨rfl, rfl⟩ := trodVars_none hV
  obtain ⟨a0, len0, cap0, rfl⟩ := okWide_slice Try.underlying22 (hval 0 22 v0 rfl rfl)
  have k0 := h0
  have lt0 : ∀ x ∈ p0, x.block < W.heap.size := by obtain ⟨m, hm⟩ := k0; exact DataW.trod_lt m _ _ _ hm
  obtain ⟨l, rfl, hlc, hcm, hsl⟩ : ∃ l : List FactD, l.length = len0 ∧ len0 ≤ cap0 ∧ cap0 ≤ maxLen ∧ FactsAt W a0 l := by
    obtain ⟨fuel, hf⟩ := h0
    exact open_sl FactD.cells 10 Try.underlying22 Try.cells30 (by omega) fact_elem (by simpa [Value.cells] using hf)
  clear hA0 hval0
  refine (auditFacts_any a0 cap0 l W (by omega) hlc hsl).mono fun e W' ⟨he, bel⟩ => ?_
  subst he
  exact ⟨_, rfl, _, _, _, [], _, [], hW', trodAll_mk1 (shut_bool Try.underlying4 _), (trodAll_cons_mk (Below.trod Try.laidOut (by kernel_rfl) (of_decide_eq_true (by kernel_rfl)) k0 bel lt0) trodAll_mk0), rfl, bel.frame _, fun h => by cases h⟩

theorem auditFacts_holds : Rows.AuditFactsSaid :=
  OpenClaim.holds_of_wide 3 Try.f3 rfl rfl rfl rfl rfl rfl rfl ⟨rfl, rfl, rfl, rfl, rfl⟩ rfl rfl rfl rfl rfl (by kernel_rfl) Try.func3 (by kernel_rfl)
    (of_decide_eq_true (by kernel_rfl)) (by unfold Func.isWrapper; first | (rw [if_pos (by decide +kernel)]; kernel_rfl) | (rw [if_neg (by decide +kernel)]; exact ⟨rfl, rfl⟩))
    (fun os started H enc _ => auditFacts_lifted os started H enc)
#print axioms auditFacts_holds
end Go.Proofs.Ytcnmdhdoiekfoaa
