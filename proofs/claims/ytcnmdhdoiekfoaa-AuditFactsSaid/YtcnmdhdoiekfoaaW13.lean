/- The law AuditFacts answers true on every list of facts. -/
import Derived.Test.YtcnmdhdoiekfoaaW12
namespace Go.Proofs.Ytcnmdhdoiekfoaa
open Go.RowKit

set_option maxHeartbeats 1000000 in
theorem auditFacts_any (A : Option Addr) (cap : Nat) (l : List FactD) (w : World) (hm : l.length ≤ maxLen) (hc : l.length ≤ cap) (hf : FactsAt w A l) :
    Calls Try.prog 3 #[.slice A l.length cap] w fun e w' => e = .returned (.bool true) ∧ Below w.heap.size w w' := by
  unfold maxLen at hm
  by_cases hl : l.length ≤ 60
  · have HF := Lib.hid hf
    clear hf
    have hl' : l.length ≤ 4000 := by omega
    go_enter Try.func3, Try.ntmps3
    go_wp2_with (fail)
    refine (ponce_any _ _ _ _ hl' hc HF.out).mono ?_
    rintro e w1 ⟨v, rfl, hp, hb⟩
    obtain ⟨A1, cap1, rfl, hs⟩ := probs_slice hp
    have HB1 := Lib.hid hb
    have HS1 := Lib.hid hs
    have HF1 := Lib.hid (HF.out.below hb)
    clear hb hs hp
    go_wp2_with (fail)
    refine (ronce_any _ _ _ _ hl' HF1.out).mono ?_
    rintro e w2 ⟨v, rfl, hp, hb⟩
    obtain ⟨A2, cap2, rfl, hs⟩ := probs_slice hp
    have HB2 := Lib.hid (below_call hb HB1.out)
    have HS1b := Lib.hid (HS1.out.below hb)
    have HS2 := Lib.hid hs
    have HF2 := Lib.hid (HF1.out.below hb)
    clear hb hs hp
    go_wp2_with (fail)
    refine (same_any _ _ _ _ _ _ _ (Nat.le_trans (selN_len _ _ _) hl') HS1b.out HS2.out).mono ?_
    rintro e w3 ⟨rfl, q, rfl⟩
    go_wp2_with (fail)
    refine (pordered_any _ _ _ _ hl' hc (HF2.out.drewN _)).mono ?_
    rintro e w3 ⟨v, rfl, hp, hb⟩
    obtain ⟨A3, cap3, rfl, hs⟩ := probs_slice hp
    have HB3 := Lib.hid (below_call (w0 := w2.drewN q) hb (below_drewN HB2.out _))
    have HS3 := Lib.hid hs
    have HF3 := Lib.hid ((HF2.out.drewN q).below hb)
    clear hb hs hp
    go_wp2_with (fail)
    refine (rordered_any _ _ _ _ hl' HF3.out).mono ?_
    rintro e w4 ⟨v, rfl, hp, hb⟩
    obtain ⟨A4, cap4, rfl, hs⟩ := probs_slice hp
    have HB4 := Lib.hid (below_call hb HB3.out)
    have HS3b := Lib.hid (HS3.out.below hb)
    have HS4 := Lib.hid hs
    have HF4 := Lib.hid (HF3.out.below hb)
    clear hb hs hp
    go_wp2_with (fail)
    refine (same_any _ _ _ _ _ _ _ (Nat.le_trans (selN_len _ _ _) hl') HS3b.out HS4.out).mono ?_
    rintro e w5 ⟨rfl, q5, rfl⟩
    go_wp2_with (fail)
    refine (psettled_any _ _ _ _ hl' hc (HF4.out.drewN _)).mono ?_
    rintro e w5 ⟨v, rfl, hp, hb⟩
    obtain ⟨A5, cap5, rfl, hs⟩ := probs_slice hp
    have HB5 := Lib.hid (below_call (w0 := w4.drewN q5) hb (below_drewN HB4.out _))
    have HS5 := Lib.hid hs
    have HF5 := Lib.hid ((HF4.out.drewN q5).below hb)
    clear hb hs hp
    go_wp2_with (fail)
    refine (rsettled_any _ _ _ _ hl' HF5.out).mono ?_
    rintro e w6 ⟨v, rfl, hp, hb⟩
    obtain ⟨A6, cap6, rfl, hs⟩ := probs_slice hp
    have HB6 := Lib.hid (below_call hb HB5.out)
    have HS5b := Lib.hid (HS5.out.below hb)
    have HS6 := Lib.hid hs
    clear hb hs hp
    go_wp2_with (fail)
    refine (same_any _ _ _ _ _ _ _ (Nat.le_trans (selN_len _ _ _) hl') HS5b.out HS6.out).mono ?_
    rintro e w7 ⟨rfl, q7, rfl⟩
    go_wp2_with (fail)
    refine (awake_any _).mono ?_
    rintro e w7 ⟨rfl, hb⟩
    have HB7 := Lib.hid (below_call (w0 := w6.drewN q7) hb (below_drewN HB6.out _))
    clear hb
    go_wp2_with (fail)
    go_ret
    exact ⟨rfl, HB7.out⟩
  · clear hf
    go_enter Try.func3, Try.ntmps3
    go_wp2_with (fail)
    refine (awake_any _).mono ?_
    rintro e w7 ⟨rfl, hb⟩
    have HB7 := Lib.hid hb
    clear hb
    go_wp2_with (fail)
    go_ret
    exact ⟨rfl, HB7.out⟩
end Go.Proofs.Ytcnmdhdoiekfoaa
