/- The law AuditBills answers true on every list of facts, every tenant, all invoices. -/
import Derived.Test.YtcnmdhdoiekfoaaB3
namespace Go.Proofs.Ytcnmdhdoiekfoaa
open Go.RowKit

theorem billedN_len (l : List FactD) (t : ByteArray) (b : List InvD) : (billedN l t b).length ≤ 1 := by unfold billedN; split <;> simp

set_option maxHeartbeats 2000000 in
theorem auditBills_any (A A2 : Option Addr) (cap cap2 : Nat) (l : List FactD) (t : ByteArray) (bl : List InvD) (w : World) (hm : l.length ≤ maxLen) (hm2 : bl.length ≤ maxLen) (hm3 : ∀ x ∈ bl, x.lines.length ≤ maxLen) (hc : l.length ≤ cap) (hf : FactsAt w A l) (hi : InvsAt w A2 bl) :
    Calls Try.prog 6 #[.slice A l.length cap, .string t, .slice A2 bl.length cap2] w fun e w' => e = .returned (.bool true) ∧ Below w.heap.size w w' := by
  have HM3 := Lib.hid hm3
  clear hm3
  unfold maxLen at hm hm2
  have HF := Lib.hid hf
  have HI := Lib.hid hi
  clear hf
  by_cases hl : l.length ≤ 100
  · by_cases hb : bl.length ≤ 20
    · go_enter Try.func6, Try.ntmps6
      go_wp2_with (fail)
      go_loop [7] (fun i => ∃ n : Nat, n ≤ bl.length ∧ i = .int .i64 n ∧ ∀ x ∈ bl.take n, x.lines.length ≤ 100) (fun i => bl.length - (intOf i).toNat)
      case atStart => exact ⟨0, Nat.zero_le _, rfl, by simp⟩
      case round =>
        obtain ⟨n, hn, rfl, hall⟩ := hrel
        have HA := Lib.hid hall
        clear hall
        by_cases hlt : n < bl.length
        · obtain ⟨b, off, rfl, _⟩ := hi.1.ptr hlt
          have i2 := HI.out.1.cell hlt (j := 2) (v := .slice bl[n].la bl[n].lines.length bl[n].lcap) rfl
          have hml := HM3.out bl[n] (List.getElem_mem hlt)
          unfold maxLen at hml
          by_cases h100 : bl[n].lines.length ≤ 100
          · have HA2 : Hid (∀ x ∈ bl.take (n + 1), x.lines.length ≤ 100) := fun x hx => by
              rw [List.take_succ_eq_append_getElem hlt, List.mem_append, List.mem_singleton] at hx
              rcases hx with hx | rfl
              · exact HA.out x hx
              · exact h100
            go_wp2
            go_round
            case rel => exact ⟨n + 1, by omega, by go_num, HA2.out⟩
            case measure => simp [intOf]; omega
          · have h100' : (100 : Int) < (bl[n].lines.length : Int) := by omega
            go_wp2_with (fail)
            refine (awake_any _).mono ?_
            rintro e w7 ⟨rfl, hb7⟩
            have HB7 := Lib.hid hb7
            clear hb7
            go_wp2_with (fail)
            go_ret
            exact ⟨rfl, HB7.out⟩
        · have HBL : Hid (∀ x ∈ bl, x.lines.length ≤ 100) := by
            have := HA.out
            rw [List.take_of_length_le (by omega)] at this
            exact this
          clear hi HM3
          go_wp2_with (fail)
          refine (pbilled_any _ _ _ _ _ _ _ _ hl hc hb HBL.out HF.out HI.out).mono ?_
          rintro e w1 ⟨v, rfl, hp, hb1⟩
          obtain ⟨A3, cap3, rfl, hs⟩ := probs_slice hp
          have HB1 := Lib.hid hb1
          have HS1 := Lib.hid hs
          have HF1 := Lib.hid (HF.out.below hb1)
          have HI1 := Lib.hid (HI.out.below hb1)
          clear hb1 hs hp
          go_wp2_with (fail)
          refine (rbilled_any _ _ _ _ _ _ _ _ hl hb HBL.out HF1.out HI1.out).mono ?_
          rintro e w2 ⟨v, rfl, hp, hb2⟩
          obtain ⟨A4, cap4, rfl, hs⟩ := probs_slice hp
          have HB2 := Lib.hid (below_call hb2 HB1.out)
          have HS1b := Lib.hid (HS1.out.below hb2)
          have HS2 := Lib.hid hs
          clear hb2 hs hp
          go_wp2_with (fail)
          refine (same_any _ _ _ _ _ _ _ (Nat.le_trans (billedN_len _ _ _) (by omega)) HS1b.out HS2.out).mono ?_
          rintro e w3 ⟨rfl, q, rfl⟩
          go_wp2_with (fail)
          refine (awake_any _).mono ?_
          rintro e w7 ⟨rfl, hb7⟩
          have HB7 := Lib.hid (below_call (w0 := w2.drewN q) hb7 (below_drewN HB2.out _))
          clear hb7
          go_wp2_with (fail)
          go_ret
          exact ⟨rfl, HB7.out⟩
    · have hb' : (20 : Int) < (bl.length : Int) := by omega
      clear hi
      go_enter Try.func6, Try.ntmps6
      go_wp2_with (fail)
      refine (awake_any _).mono ?_
      rintro e w7 ⟨rfl, hb7⟩
      have HB7 := Lib.hid hb7
      clear hb7
      go_wp2_with (fail)
      go_ret
      exact ⟨rfl, HB7.out⟩
  · have hl' : (100 : Int) < (l.length : Int) := by omega
    clear hi
    go_enter Try.func6, Try.ntmps6
    go_wp2_with (fail)
    refine (awake_any _).mono ?_
    rintro e w7 ⟨rfl, hb7⟩
    have HB7 := Lib.hid hb7
    clear hb7
    go_wp2_with (fail)
    go_ret
    exact ⟨rfl, HB7.out⟩
end Go.Proofs.Ytcnmdhdoiekfoaa
