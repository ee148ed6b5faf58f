/- For every list of facts, every tenant and all invoices the law AuditBills answers true and leaves its arguments as they were. No condition. -/
import Derived.Test.YtcnmdhdoiekfoaaB4
import Derived.Test.YtcnmdhdoiekfoaaOpenF
namespace Go.Proofs.Ytcnmdhdoiekfoaa
open Go.RowKit Go.ChangeShapes Go.WideShapes Go.ChangeAt Go.Deep
open Go.ChangeMaps (open_string shut_string)

theorem Try.cells39 : Try.prog.cellsOf 39 = 6 := by kernel_rfl
theorem Try.cells70 : Try.prog.cellsOf 70 = 6 := by kernel_rfl
theorem Try.cells68 : Try.prog.cellsOf 68 = 4 := by kernel_rfl
theorem Try.cells37 : Try.prog.cellsOf 37 = 1 := by kernel_rfl
theorem Try.cells3 : Try.prog.cellsOf 3 = 1 := by kernel_rfl
theorem Try.cells9 : Try.prog.cellsOf 9 = 1 := by kernel_rfl

theorem line_elem {H : Type} {enc : TypeId × Value → H} {w : World} {base : Nat} {spare : Nat → Bool} {held : Bool} (n : Nat) (cs : List Value) (y : DataW H × List MemPlace) (hl : cs.length = 6)
    (h : DataW.trod enc Try.prog w base spare held n 70 cs = some y) : ∃ f : LineD, cs = f.cells := by
  obtain ⟨xs, m, _, _, _, hxl, hg⟩ := DataW.trod_struct Try.underlying70 h
  match cs, hl with
  | [c0, c1, c2, c3, c4, c5], _ =>
    match xs, hxl with
    | [x0, x1, x2], _ =>
      obtain ⟨s0, e0, _, _⟩ := DataW.trod_string Try.underlying9 (hg 0 _ rfl)
      have h1 := hg 1 _ rfl
      obtain ⟨ys, m2, _, _, _, hyl, hu⟩ := DataW.trod_struct Try.underlying68 h1
      obtain ⟨a5, e5, _, _⟩ := DataW.trod_int Try.underlying3 (hg 2 _ rfl)
      match ys, hyl with
      | [y0, y1, y2, y3], _ =>
        obtain ⟨b0, f0, _, _⟩ := DataW.trod_int Try.underlying3 (hu 0 _ rfl)
        obtain ⟨b1, f1, _, _⟩ := DataW.trod_int Try.underlying3 (hu 1 _ rfl)
        obtain ⟨b2, f2, _, _⟩ := DataW.trod_int Try.underlying3 (hu 2 _ rfl)
        obtain ⟨b3, f3, _, _⟩ := DataW.trod_int Try.underlying3 (hu 3 _ rfl)
        simp [Try.cells3, Try.cells9, Try.cells68] at e0 e5 f0 f1 f2 f3
        subst e0 e5 f0 f1 f2 f3
        exact ⟨⟨s0, b0, b1, b2, b3, a5⟩, rfl⟩

theorem inv_elem {H : Type} {enc : TypeId × Value → H} {w : World} {base : Nat} {spare : Nat → Bool} {held : Bool} (n : Nat) (cs : List Value) (y : DataW H × List MemPlace) (hl : cs.length = 6)
    (h : DataW.trod enc Try.prog w base spare held n 39 cs = some y) : ∃ f : InvD, cs = f.cells ∧ SlAt w f.la 6 LineD.cells f.lines ∧ f.lines.length ≤ maxLen := by
  obtain ⟨xs, m, _, _, _, hxl, hg⟩ := DataW.trod_struct Try.underlying39 h
  match cs, hl with
  | [c0, c1, c2, c3, c4, c5], _ =>
    match xs, hxl with
    | [x0, x1, x2, x3, x4, x5], _ =>
      obtain ⟨s0, e0, _, _⟩ := DataW.trod_string Try.underlying9 (hg 0 _ rfl)
      obtain ⟨a1, e1, _, _⟩ := DataW.trod_int Try.underlying3 (hg 1 _ rfl)
      obtain ⟨a3, e3, _, _⟩ := DataW.trod_int Try.underlying3 (hg 3 _ rfl)
      obtain ⟨a4, e4, _, _⟩ := DataW.trod_int Try.underlying3 (hg 4 _ rfl)
      obtain ⟨a5, e5, _, _⟩ := DataW.trod_int Try.underlying3 (hg 5 _ rfl)
      have h2 := hg 2 _ rfl
      simp [Try.cells3, Try.cells9] at e0 e1 e3 e4 e5
      have h2' : DataW.trod enc Try.prog w base spare held m 37 [c2] = some x2 := by simpa [Try.cells37] using h2
      have hsl : ∃ A len cap, c2 = .slice A len cap := by
        rcases open_slice Try.underlying37 h2' with ⟨h0, _⟩ | ⟨a, len, cap, _, _, _, _, h0, _⟩
        · exact ⟨none, 0, 0, by simpa using h0⟩
        · exact ⟨some a, len, cap, by simpa using h0⟩
      obtain ⟨A, len, cap, rfl⟩ := hsl
      obtain ⟨l, rfl, hlc, hcm, hls⟩ := open_sl LineD.cells 6 Try.underlying37 Try.cells70 (by omega) line_elem h2'
      subst e0 e1 e3 e4 e5
      exact ⟨⟨s0, a1, A, cap, l, a3, a4, a5⟩, rfl, hls, by show l.length ≤ maxLen; omega⟩

set_option maxRecDepth 100000 in
theorem auditBills_lifted (os : Os) (started : os.Started) (H : Type) (enc : TypeId × Value → H) :
    ReturnsInHanded {} Try.checked os 6 .any (Rows.auditBillsSpec.pre6 enc Try.prog Try.f6 Rows.auditBillsRow.domain false) (Rows.auditBillsSpec.post enc Try.prog Try.f6 false true false false) := by
  refine returnsInHanded_of_change (C := Try.checked) Try.own started (by kernel_rfl) Try.func6
    (ChangeSpec.witness6 (enc := enc) (C := Try.checked) false ⟨#[], #[.slice none 0 0, .string ByteArray.empty, .slice none 0 0], []⟩ 8 (by kernel_rfl) (by kernel_rfl) (by kernel_rfl) (by kernel_rfl)) ?_
  intro W base args ds gs before hval0 hW hcnd _
  have hval : ∀ (j : Nat) t v, Try.f6.params[j]? = some t → args[j]? = some v → Value.okWide Try.prog W .any base t v := hval0
  have hW' := hW
  obtain ⟨p, q, hA0, hV, rfl, hfz, hnd⟩ := hW
  have hA : DataW.TrodAll enc Try.prog W 0 (fun _ => true) true Try.f6.params.toList args.toList ds p := hA0
  rw [Try.params6] at hA hval
  obtain ⟨v0, vs0, d0, ds0, p0, q0, hargs, rfl, rfl, h0, r0⟩ := trodAll_cons hA
  obtain ⟨v1, vs1, d1, ds1, p1, q1, rfl, rfl, rfl, h1, r1⟩ := trodAll_cons r0
  obtain ⟨v2, vs2, d2, ds2, p2, q2, rfl, rfl, rfl, h2, r2⟩ := trodAll_cons r1
  obtain ⟨rfl, rfl, rfl⟩ := trodAll_nil r2
  obtain rfl : args = #[v0, v1, v2] := by cases args; simp_all
  obtain ⟨rfl, rfl⟩ := trodVars_none hV
  obtain ⟨a0, len0, cap0, rfl⟩ := okWide_slice Try.underlying22 (hval 0 22 v0 rfl rfl)
  have k0 := h0
  have lt0 : ∀ x ∈ p0, x.block < W.heap.size := by obtain ⟨m, hm⟩ := k0; exact DataW.trod_lt m _ _ _ hm
  obtain ⟨l, rfl, hlc, hcm, hsl⟩ : ∃ l : List FactD, l.length = len0 ∧ len0 ≤ cap0 ∧ cap0 ≤ maxLen ∧ FactsAt W a0 l := by
    obtain ⟨fuel, hf⟩ := h0
    exact open_sl FactD.cells 10 Try.underlying22 Try.cells30 (by omega) fact_elem (by simpa [Value.cells] using hf)
  obtain ⟨t1, rfl, rfl, rfl, ws1⟩ := open_string Try.underlying9 (hval 1 9 v1 rfl rfl) h1
  obtain ⟨a2, len2, cap2, rfl⟩ := okWide_slice Try.underlying36 (hval 2 36 v2 rfl rfl)
  have k2 := h2
  have lt2 : ∀ x ∈ p2, x.block < W.heap.size := by obtain ⟨m, hm⟩ := k2; exact DataW.trod_lt m _ _ _ hm
  obtain ⟨bl, rfl, hbc, hbm, hbt, hbq⟩ : ∃ bl : List InvD, bl.length = len2 ∧ len2 ≤ cap2 ∧ cap2 ≤ maxLen ∧ SlAt W a2 6 InvD.cells bl ∧ ∀ x ∈ bl, SlAt W x.la 6 LineD.cells x.lines ∧ x.lines.length ≤ maxLen := by
    obtain ⟨fuel, hf⟩ := h2
    exact open_slQ InvD.cells (fun x => SlAt W x.la 6 LineD.cells x.lines ∧ x.lines.length ≤ maxLen) 6 Try.underlying36 Try.cells39 (by omega) inv_elem (by simpa [Value.cells] using hf)
  clear hA0 hval0
  refine (auditBills_any a0 a2 cap0 cap2 l t1 bl W (by omega) (by omega) (fun x hx => (hbq x hx).2) hlc hsl ⟨hbt, fun x hx => (hbq x hx).1⟩).mono fun e W' ⟨he, bel⟩ => ?_
  subst he
  exact ⟨_, rfl, _, _, _, [], _, [], hW', trodAll_mk1 (shut_bool Try.underlying4 _), (trodAll_cons_mk (Below.trod Try.laidOut (by kernel_rfl) (of_decide_eq_true (by kernel_rfl)) k0 bel lt0) (trodAll_cons_mk (shut_string Try.underlying9 ws1) (trodAll_cons_mk (Below.trod Try.laidOut (by kernel_rfl) (of_decide_eq_true (by kernel_rfl)) k2 bel lt2) trodAll_mk0))), rfl, bel.frame _, fun h => by cases h⟩

theorem auditBills_holds : Rows.AuditBillsSaid :=
  OpenClaim.holds_of_wide 6 Try.f6 rfl rfl rfl rfl rfl rfl rfl ⟨rfl, rfl, rfl, rfl, rfl⟩ rfl rfl rfl rfl rfl (by kernel_rfl) Try.func6 (by kernel_rfl)
    (of_decide_eq_true (by kernel_rfl)) (by unfold Func.isWrapper; first | (rw [if_pos (by decide +kernel)]; kernel_rfl) | (rw [if_neg (by decide +kernel)]; exact ⟨rfl, rfl⟩))
    (fun os started H enc _ => auditBills_lifted os started H enc)
#print axioms auditBills_holds
end Go.Proofs.Ytcnmdhdoiekfoaa
