/- For every list of facts the law AuditSpans answers true and leaves its argument as it was, the listed package variables reading as listed (which the card ties to the program's text). No condition. -/
import Derived.Test.YtcnmdhdoiekfoaaDoorI10
import Derived.Test.YtcnmdhdoiekfoaaDoorOpenF
import Derived.Test.YtcnmdhdoiekfoaaDoorOpenW
import Derived.Test.YtcnmdhdoiekfoaaDoorCards
import Derived.Test.YtcnmdhdoiekfoaaDoorTie
import Derived.ProofKit
import Derived.LaidMore
import Derived.Lay
import Derived.Lib.LaidTab
import Derived.SevenTiedAt
import Derived.Stop.Joined
namespace Go.Proofs.YtcnmdhdoiekfoaaDoor
open Go.RowKit Go.ChangeShapes Go.WideShapes Go.ChangeAt Go.Deep

set_option maxRecDepth 100000
def factTypes : List TypeId := [31, 3, 9, 9, 9, 9, 3, 3, 9, 3]
/-- The bytes of a fact's event stand among the weights of its datum. -/
theorem fact_elem_w {H : Type} {enc : TypeId × Value → H} {w : World} {base : Nat} {spare : Nat → Bool} {held : Bool} (n : Nat) (cs : List Value) (y : DataW H × List MemPlace) (hl : cs.length = 10)
    (h : DataW.trod enc Tryd.prog w base spare held n 33 cs = some y) : ∃ f : FactD, cs = f.cells ∧ f.event.size ∈ y.1.weights Tryd.prog 33 := by
  obtain ⟨f, rfl⟩ := fact_elem n cs y hl h
  refine ⟨f, rfl, ?_⟩
  obtain ⟨xs, m, _, rfl, _, hxl, hg⟩ := DataW.trod_struct Tryd.underlying33 h
  match xs, hxl with
  | [x0, x1, x2, x3, x4, x5, x6, x7, x8, x9], _ =>
    obtain ⟨s5, e5, h5, _⟩ := DataW.trod_string Tryd.underlying9 (hg 5 _ rfl)
    have n9 : Tryd.prog.cellsOf 9 = 1 := by kernel_rfl
    simp [FactD.cells, n9] at e5
    subst e5
    have hw : DataW.weights Tryd.prog 33 (DataW.agg ([x0, x1, x2, x3, x4, x5, x6, x7, x8, x9].map (·.1))) = DataW.weightsEach Tryd.prog factTypes ([x0, x1, x2, x3, x4, x5, x6, x7, x8, x9].map (·.1)) := by
      simp only [DataW.weights, Tryd.underlying33]
      rfl
    show _ ∈ DataW.weights Tryd.prog 33 (DataW.agg ([x0, x1, x2, x3, x4, x5, x6, x7, x8, x9].map (·.1)))
    rw [hw]
    refine DataW.weights_mem_each (j := 5) (t := 9) (d := x5.1) rfl rfl _ ?_
    rw [h5]
    simp only [DataW.weights, List.mem_singleton]
    simp

theorem open_facts_w {H : Type} {enc : TypeId × Value → H} {w : World} {base : Nat} {spare : Nat → Bool} {held : Bool} {fuel : Nat} {A : Option Addr} {len cap : Nat} {x : DataW H × List MemPlace}
    (h : DataW.trod enc Tryd.prog w base spare held fuel 22 [.slice A len cap] = some x) (hsz : ∀ n ∈ x.1.weights Tryd.prog 22, n ≤ reachBytes) :
    ∃ l : List FactD, l.length = len ∧ len ≤ cap ∧ cap ≤ maxLen ∧ FactsAt w A l ∧ ∀ f ∈ l, f.event.size ≤ 140737488351232 := by
  obtain ⟨l, h1, h2, h3, h4, h5⟩ := open_slW reachBytes FactD.cells (fun f => f.event.size ≤ 140737488351232) 10 Tryd.underlying22 Tryd.cells33 (by omega)
    (fun n cs y hl hy hR => by
      obtain ⟨f, hf, hm⟩ := fact_elem_w n cs y hl hy
      exact ⟨f, hf, hR _ hm⟩) hsz h
  exact ⟨l, h1, h2, h3, h4, h5⟩

theorem laid_of {W : World} (h : laidMetH Tryd.prog Rows.auditSpansRow.laid W) : Laid W := by
  rw [MakeChecks.laidMetH_plain _ _ _ (by kernel_rfl)] at h
  obtain ⟨ps, ⟨g0, t0, cs0, f0, p0, q0, hg0, ht0, hv0, hd0, ⟨g1, t1, cs1, f1, p1, q1, hg1, ht1, hv1, hd1, ⟨g2, t2, cs2, f2, p2, q2, hg2, ht2, hv2, hd2, ⟨g3, t3, cs3, f3, p3, q3, hg3, ht3, hv3, hd3, ⟨g4, t4, cs4, f4, p4, q4, hg4, ht4, hv4, hd4, _, _⟩, _⟩, _⟩, _⟩, _⟩, _⟩ := h
  obtain rfl := Option.some.inj ((show Tryd.prog.globalNamed "internal/strconv.uint64pow10" = some 3 by kernel_rfl).symm.trans hg2)
  obtain rfl := Option.some.inj ((show Tryd.prog.globalNamed "strconv.ErrRange" = some 2 by kernel_rfl).symm.trans hg3)
  obtain rfl := Option.some.inj ((show Tryd.prog.globalNamed "strconv.ErrSyntax" = some 1 by kernel_rfl).symm.trans hg4)
  obtain rfl := Option.some.inj ((show (Tryd.prog.globals[3]?).map (·.type) = some 99 by kernel_rfl).symm.trans ht2)
  obtain rfl := Option.some.inj ((show (Tryd.prog.globals[2]?).map (·.type) = some 65 by kernel_rfl).symm.trans ht3)
  obtain rfl := Option.some.inj ((show (Tryd.prog.globals[1]?).map (·.type) = some 65 by kernel_rfl).symm.trans ht4)
  refine ⟨?_, ?_, ?_⟩
  · obtain ⟨_, u, v, e, _⟩ := iface_of_trod Tryd.underlying65 hd4
    exact ⟨u, v, by rw [hv4]; congr 1; cases cs4; simp at e; rw [e]⟩
  · obtain ⟨_, u, v, e, _⟩ := iface_of_trod Tryd.underlying65 hd3
    exact ⟨u, v, by rw [hv3]; congr 1; cases cs3; simp at e; rw [e]⟩
  · have hd : DataW.trod _ Tryd.prog W 0 _ false f2 99 cs2.toList = some (Lib.tabData .u64 Lib.pow10Tab, p2) := hd2
    have := Lib.cells_of_tab Tryd.underlying99 Tryd.underlying78 (by kernel_rfl) (by kernel_rfl) hd
    unfold Lib.TabIs
    rw [hv2]; congr 1; cases cs2; simp at this; rw [this]

theorem auditSpans_lifted (os : Os) (started : os.Started) (H : Type) (enc : TypeId × Value → H) :
    ReturnsInHanded {} Tryd.checked os 3 .any (fun w args => (Rows.auditSpansSpec.pre enc Tryd.prog Tryd.f3 Rows.auditSpansRow.domain false w args ∧ laidMetH Tryd.prog Rows.auditSpansRow.laid w) ∧ sizedMet enc Tryd.prog Tryd.f3 (OpenSpec.ofChange Rows.auditSpansSpec) false w args)
      (Rows.auditSpansSpec.post enc Tryd.prog Tryd.f3 false true false false) := by
  refine returnsInHanded_of_change_and (C := Tryd.checked) (X := fun w _ => laidMetH Tryd.prog Rows.auditSpansRow.laid w) (fun _ _ _ hh h => h.of_heap hh) Tryd.own started (by kernel_rfl) Tryd.func3
    (ChangeSpec.witness_shaped (enc := enc) (C := Tryd.checked) (os := os) (X := fun w _ => laidMetH Tryd.prog Rows.auditSpansRow.laid w) false (World.laidAll Tryd.prog os Rows.auditSpansRow.laid) #[.slice none 0 0] 8 (World.laidAll_os _ _ _)
      (World.shaped_of_ZipB (by kernel_rfl) (by kernel_rfl)) (by kernel_rfl) (by kernel_rfl) (by kernel_rfl)
      (by rw [MakeChecks.laidMetH_plain _ _ _ (by kernel_rfl)]; exact laidMet_laidAll _ (by kernel_rfl) (by kernel_rfl))) ?_
  intro W base args ds gs before hval0 hW _ hsz0 hL _
  have hsz : (DataW.weightsEach Tryd.prog (Tryd.f3.params.toList ++ Rows.auditSpansSpec.plain.varTypes Tryd.prog) (ds ++ gs)).all (· ≤ reachBytes) = true := hsz0
  clear hsz0
  have hval : ∀ (j : Nat) t v, Tryd.f3.params[j]? = some t → args[j]? = some v → Value.okWide Tryd.prog W .any base t v := hval0
  have hW' := hW
  obtain ⟨p, q, hA0, hV, rfl, hfz, hnd⟩ := hW
  have hA : DataW.TrodAll enc Tryd.prog W 0 (fun _ => true) true Tryd.f3.params.toList args.toList ds p := hA0
  rw [Tryd.params3] at hA hval hsz
  obtain ⟨v0, vs0, d0, ds0, p0, q0, hargs, rfl, rfl, h0, r0⟩ := trodAll_cons hA
  obtain ⟨rfl, rfl, rfl⟩ := trodAll_nil r0
  obtain rfl : args = #[v0] := by cases args; simp_all
  obtain ⟨rfl, rfl⟩ := trodVars_none hV
  obtain ⟨a0, len0, cap0, rfl⟩ := okWide_slice Tryd.underlying22 (hval 0 22 v0 rfl rfl)
  have k0 := h0
  have lt0 : ∀ x ∈ p0, x.block < W.heap.size := by obtain ⟨m, hm⟩ := k0; exact DataW.trod_lt m _ _ _ hm
  obtain ⟨l, rfl, hlc, hcm, hsl, hev⟩ : ∃ l : List FactD, l.length = len0 ∧ len0 ≤ cap0 ∧ cap0 ≤ maxLen ∧ FactsAt W a0 l ∧ ∀ f ∈ l, f.event.size ≤ 140737488351232 := by
    obtain ⟨fuel, hf⟩ := h0
    refine open_facts_w (by simpa [Value.cells] using hf) (fun n hn => ?_)
    exact of_decide_eq_true (List.all_eq_true.1 hsz _ (DataW.weights_mem_each (j := 0) rfl rfl n hn))
  clear hA0 hval0
  refine (auditSpans_any a0 cap0 l W (by omega) hlc hev hsl (laid_of hL)).mono fun e W' ⟨he, bel⟩ => ?_
  subst he
  exact ⟨_, rfl, _, _, _, [], _, [], hW', trodAll_mk1 (shut_bool Tryd.underlying4 _), (trodAll_cons_mk (Below.trod Tryd.laidOut (by kernel_rfl) (of_decide_eq_true (by kernel_rfl)) k0 bel lt0) trodAll_mk0), rfl, bel.frame _, fun h => by cases h⟩

theorem auditSpans_said : Rows.AuditSpansSaid :=
  OpenClaim.holds_of_wide 3 Tryd.f3 rfl rfl rfl rfl rfl rfl rfl ⟨rfl, rfl, rfl, rfl, rfl⟩ rfl rfl rfl rfl rfl (by kernel_rfl) Tryd.func3 (by kernel_rfl)
    (of_decide_eq_true (by kernel_rfl)) (by unfold Func.isWrapper; first | (rw [if_pos (by decide +kernel)]; kernel_rfl) | (rw [if_neg (by decide +kernel)]; exact ⟨rfl, rfl⟩))
    (fun os started H enc _ => auditSpans_lifted os started H enc)

theorem auditSpans_holds : Rows.AuditSpansCardSaid :=
  Claim7.holds_tied_plain_at .later [] [.data, .data, .data, .sentinel, .sentinel] true (true, "d6058f92e0ab6bb902784d9c190401479a769d4ce1acf8fc2db29ffb118664c9") true
    auditSpans_said (fun _ h => by cases h) (by kernel_rfl) (fun _ h => by cases h) auditSpans_row_tie rfl ⟨rfl, rfl⟩ (by kernel_rfl) rfl
    (fun f fn hf hfn => by
      obtain rfl : f = 3 := Option.some.inj ((show Tryd.prog.funcNamed "faas/faaslaw59.AuditSpans" = some 3 by kernel_rfl).symm.trans hf) |>.symm
      obtain rfl : fn = Tryd.f3 := (Option.some.inj (Tryd.func3.symm.trans hfn)).symm
      exact ⟨by kernel_rfl, fun j t ht => by
        rw [Tryd.params3] at ht
        have hm : t ∈ [22] := by simpa using Array.mem_of_getElem? ht
        have hall : ([22].all fun u => !Tryd.prog.wantsStandIn u) = true := by kernel_rfl
        exact (show Tryd.prog.wantsStandIn t = false by simpa using List.all_eq_true.1 hall t hm)⟩)
    (by kernel_rfl)
#print axioms auditSpans_holds
end Go.Proofs.YtcnmdhdoiekfoaaDoor
