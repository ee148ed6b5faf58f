/- The law AuditShares answers true on every list of facts, all tenants and every bound. -/
import Derived.Test.YtcnmdhdoiekfoaaS3
import Derived.Test.YtcnmdhdoiekfoaaW12
namespace Go.Proofs.Ytcnmdhdoiekfoaa
open Go.RowKit

set_option maxHeartbeats 1000000 in
theorem auditShares_any (A A2 : Option Addr) (cap cap2 : Nat) (l : List FactD) (ts : List ByteArray) (bound : Int) (w : World) (hm : l.length ≤ maxLen) (hm2 : ts.length ≤ maxLen) (hc : l.length ≤ cap) (hbd1 : -9223372036854775808 ≤ bound) (hbd2 : bound ≤ 9223372036854775807) (hf : FactsAt w A l) (hs : SlAt w A2 1 strCells ts) :
    Calls Try.prog 5 #[.slice A l.length cap, .slice A2 ts.length cap2, .int .i64 bound] w fun e w' => e = .returned (.bool true) ∧ Below w.heap.size w w' := by
  unfold maxLen at hm hm2
  by_cases hl : l.length ≤ 200
  · by_cases ht : ts.length ≤ 20
    · have HF := Lib.hid hf
      have HS := Lib.hid hs
      clear hf hs
      go_enter Try.func5, Try.ntmps5
      go_wp2_with (fail)
      refine (pfair_any _ _ _ _ _ _ _ _ hl hc ht hbd1 hbd2 HF.out HS.out).mono ?_
      rintro e w1 ⟨v, rfl, hp, hb⟩
      obtain ⟨A3, cap3, rfl, hs⟩ := probs_slice hp
      have HB1 := Lib.hid hb
      have HS1 := Lib.hid hs
      have HF1 := Lib.hid (HF.out.below hb)
      have HT1 := Lib.hid (HS.out.below hb)
      clear hb hs hp
      go_wp2_with (fail)
      refine (rfair_any _ _ _ _ _ _ _ _ hl ht hbd1 hbd2 HF1.out HT1.out).mono ?_
      rintro e w2 ⟨v, rfl, hp, hb⟩
      obtain ⟨A4, cap4, rfl, hs⟩ := probs_slice hp
      have HB2 := Lib.hid (below_call hb HB1.out)
      have HS1b := Lib.hid (HS1.out.below hb)
      have HS2 := Lib.hid hs
      clear hb hs hp
      go_wp2_with (fail)
      refine (same_any _ _ _ _ _ _ _ (Nat.le_trans (fairN_len _ _ _ _) (by omega)) HS1b.out HS2.out).mono ?_
      rintro e w3 ⟨rfl, q, rfl⟩
      go_wp2_with (fail)
      refine (awake_any _).mono ?_
      rintro e w7 ⟨rfl, hb⟩
      have HB7 := Lib.hid (below_call (w0 := w2.drewN q) hb (below_drewN HB2.out _))
      clear hb
      go_wp2_with (fail)
      go_ret
      exact ⟨rfl, HB7.out⟩
    · clear hf hs
      go_enter Try.func5, Try.ntmps5
      go_wp2_with (fail)
      refine (awake_any _).mono ?_
      rintro e w7 ⟨rfl, hb⟩
      have HB7 := Lib.hid hb
      clear hb
      go_wp2_with (fail)
      go_ret
      exact ⟨rfl, HB7.out⟩
  · clear hf hs
    go_enter Try.func5, Try.ntmps5
    go_wp2_with (fail)
    refine (awake_any _).mono ?_
    rintro e w7 ⟨rfl, hb⟩
    have HB7 := Lib.hid hb
    clear hb
    go_wp2_with (fail)
    go_ret
    exact ⟨rfl, HB7.out⟩
end Go.Proofs.Ytcnmdhdoiekfoaa
