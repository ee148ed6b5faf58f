/- The law AuditSpans answers true on every list of facts. -/
import Derived.Test.YtcnmdhdoiekfoaaDoorI8
import Derived.Test.YtcnmdhdoiekfoaaDoorI9
import Derived.Test.YtcnmdhdoiekfoaaDoorW12
namespace Go.Proofs.YtcnmdhdoiekfoaaDoor
open Go.RowKit Go.Sort
set_option maxRecDepth 100000

theorem spans_slice {w : World} {base : Nat} {v : Value} {l : List SpanD} (h : SpansAt w base v l) : ∃ A cap, v = .slice A l.length cap ∧ SlAt w A 6 SpanD.cells l := by
  obtain ⟨A, cap, rfl⟩ := own_shape h
  exact ⟨A, cap, rfl, SlAt.of_own h rfl (fun _ => rfl) (by omega)⟩

attribute [local go_sem] cell_alloc_is
set_option maxHeartbeats 2000000 in
theorem auditSpans_any (A : Option Addr) (cap : Nat) (l : List FactD) (w : World) (hm : l.length ≤ maxLen) (hc : l.length ≤ cap) (hev : ∀ f ∈ l, f.event.size ≤ 140737488351232) (hf : FactsAt w A l) (hL : Laid w) :
    Calls Tryd.prog 3 #[.slice A l.length cap] w fun e w' => e = .returned (.bool true) ∧ Below w.heap.size w w' := by
  unfold maxLen at hm
  by_cases hl : l.length ≤ 60
  · have HF := Lib.hid hf
    have HE := Lib.hid hev
    have HLd := Lib.hid hL
    clear hf hev hL
    go_enter Tryd.func3, Tryd.ntmps3
    go_wp2_with (fail)
    refine (pspans_any _ _ _ _ hl hc HE.out HF.out HLd.out).mono ?_
    rintro e w1 ⟨v, base, hbase, rfl, hp, hb⟩
    obtain ⟨A1, cap1, rfl, hs⟩ := spans_slice hp
    have HB1 := Lib.hid hb
    have HS1 := Lib.hid hs
    have HF1 := Lib.hid (HF.out.below hb)
    clear hb hs hp hbase
    go_wp2_with (fail)
    refine (rspans_any _ _ _ _ hl HE.out HF1.out).mono ?_
    rintro e w2 ⟨v, rfl, hp, hb⟩
    obtain ⟨A2, cap2, rfl, hs⟩ := spans_slice hp
    have HB2 := Lib.hid (below_call hb HB1.out)
    have HS1b := Lib.hid (HS1.out.below hb)
    have HS2 := Lib.hid hs
    have hsl := spansN_len l l.length
    clear hb hs hp
    go_wp2_with (fail)
    go_loopw [5] (fun i wr => ∃ n q : Nat, n ≤ (spansN l l.length).length ∧ i = .int .i64 n ∧ wr = w2.drewN q) (fun i _ => (spansN l l.length).length - (intOf i).toNat)
    case atStart => exact ⟨0, 0, Nat.zero_le _, rfl, rfl⟩
    case round =>
      obtain ⟨n, q, hn, rfl, rfl⟩ := hrel
      by_cases hlt : n < (spansN l l.length).length
      · obtain ⟨b, off, rfl, _⟩ := HS1b.out.ptr hlt
        obtain ⟨b', off', rfl, _⟩ := HS2.out.ptr hlt
        obtain ⟨sp, hsp⟩ : ∃ sp, (spansN l l.length)[n] = sp := ⟨_, rfl⟩
        have c0 := HS1b.out.cell0 hlt (v := .string sp.id) (by rw [hsp]; rfl)
        have c1 := HS1b.out.cell hlt (j := 1) (v := .string ⟨#[]⟩) (by rw [hsp]; rfl)
        have c2 := HS1b.out.cell hlt (j := 2) (v := .string sp.cause) (by rw [hsp]; rfl)
        have c3 := HS1b.out.cell hlt (j := 3) (v := .string sp.name) (by rw [hsp]; rfl)
        have c4 := HS1b.out.cell hlt (j := 4) (v := .int .i64 sp.from_) (by rw [hsp]; rfl)
        have c5 := HS1b.out.cell hlt (j := 5) (v := .int .i64 sp.to_) (by rw [hsp]; rfl)
        have d0 := HS2.out.cell0 hlt (v := .string sp.id) (by rw [hsp]; rfl)
        have d1 := HS2.out.cell hlt (j := 1) (v := .string ⟨#[]⟩) (by rw [hsp]; rfl)
        have d2 := HS2.out.cell hlt (j := 2) (v := .string sp.cause) (by rw [hsp]; rfl)
        have d3 := HS2.out.cell hlt (j := 3) (v := .string sp.name) (by rw [hsp]; rfl)
        have d4 := HS2.out.cell hlt (j := 4) (v := .int .i64 sp.from_) (by rw [hsp]; rfl)
        have d5 := HS2.out.cell hlt (j := 5) (v := .int .i64 sp.to_) (by rw [hsp]; rfl)
        clear hsp
        have hlt' : (n : Int) < ((spansN l l.length).length : Int) := by omega
        have hn0 : (0 : Int) ≤ (n : Int) := by omega
        go_wp2
        go_quiet (fail)
        go_wp2
        go_roundw
        case rel => exact ⟨n + 1, _, by omega, by go_num, rfl⟩
        case measure => simp [intOf]; omega
      · go_wp2_with (fail)
        refine (awake_any _).mono ?_
        rintro e w7 ⟨rfl, hb⟩
        have HB7 := Lib.hid (below_call (w0 := w2.drewN q) hb (below_drewN HB2.out _))
        clear hb
        go_wp2_with (fail)
        go_ret
        exact ⟨rfl, HB7.out⟩
  · clear hf
    go_enter Tryd.func3, Tryd.ntmps3
    go_wp2_with (fail)
    refine (awake_any _).mono ?_
    rintro e w7 ⟨rfl, hb⟩
    have HB7 := Lib.hid hb
    clear hb
    go_wp2_with (fail)
    go_ret
    exact ⟨rfl, HB7.out⟩
end Go.Proofs.YtcnmdhdoiekfoaaDoor
