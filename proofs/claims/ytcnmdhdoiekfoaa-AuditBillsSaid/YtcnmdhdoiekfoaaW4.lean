/- The walks of the reference's Ordered and Settled. -/
import Derived.Test.YtcnmdhdoiekfoaaW3
namespace Go.Proofs.Ytcnmdhdoiekfoaa
open Go.RowKit

def settledB (l : List FactD) (e : ByteArray) : Bool := decide (0 ≤ firstN l 1 e 0) && decide (firstN l 5 e 0 < 0) && decide (firstN l 8 e 0 < 0)

set_option maxHeartbeats 1000000 in
theorem rordered_any (A : Option Addr) (cap : Nat) (l : List FactD) (w : World) (hl : l.length ≤ 4000) (hf : FactsAt w A l) :
    Calls Try.prog 12 #[.slice A l.length cap] w fun e w' => ∃ v, e = .returned v ∧ ProbsAt w' w.heap.size v sOrder (selN l (overB l) l.length) ∧ Below w.heap.size w w' := by
  obtain ⟨i0, hi, hz0, hz1, hz2⟩ := info_parts Try.infoProb
  go_enter Try.func12, Try.ntmps12
  go_wp2_with (first | (go_at_call 25; refine (counted_any _ _ _ _ hl).mono ?_; rintro e w' ⟨rfl, rfl⟩))
  go_loopw [3, 4] (fun out i wr => ∃ n : Nat, n ≤ l.length ∧ i = .int .i64 n ∧ ProbsAt wr w.heap.size out sOrder (selN l (overB l) n) ∧ Below w.heap.size w wr) (fun _ i _ => l.length - (intOf i).toNat)
  case atStart => exact ⟨0, Nat.zero_le _, rfl, World.ownsRow_nil _ _ _ _, Below.refl _ _⟩
  case round =>
    obtain ⟨n, hn, rfl, hown, hbel⟩ := hrel
    have hsl := selN_len l (overB l) n
    have hsz := hbel.size
    by_cases hlt : n < l.length
    · have hfr := hf.below hbel
      obtain ⟨b, off, rfl, hbb⟩ := hf.ptr hlt
      have h5 := hfr.cell hlt (j := 5) (v := _) rfl
      have HF := Lib.hid hfr
      have HB := Lib.hid hbel
      have HO := Lib.hid hown
      clear hfr hbel hown
      cases hfresh : freshB l n
      · have HN := Lib.hid (selN_no (p := overB l) hlt (by rw [hfresh]; rfl))
        go_wp2_with (first | (go_at_call 26; refine (fresh_any _ _ _ _ _ hl hlt HF.out).mono ?_; rintro e w' ⟨rfl, q, rfl⟩; rw [hfresh]))
        go_roundw
        case rel => exact ⟨n + 1, by omega, by go_num, by rw [HN.out]; exact own_drewN HO.out _, below_drewN HB.out _⟩
        case measure => simp [intOf]; omega
      · cases hover : overB l l[n].event
        · have HN := Lib.hid (selN_no (p := overB l) hlt (by rw [hfresh, hover]; rfl))
          go_wp2_with (first | (go_at_call 26; refine (fresh_any _ _ _ _ _ hl hlt HF.out).mono ?_; rintro e w' ⟨rfl, q, rfl⟩; rw [hfresh]) | (go_at_call 31; refine (over_any _ _ _ _ _ hl (HF.out.drewN _)).mono ?_; rintro e w' ⟨rfl, q2, rfl⟩; rw [hover]))
          go_roundw
          case rel => exact ⟨n + 1, by omega, by go_num, by rw [HN.out]; exact own_drewN HO.out _, below_drewN HB.out _⟩
          case measure => simp [intOf]; omega
        · have HN := Lib.hid (selN_yes hlt hfresh hover)
          go_wp2_with (first | (go_at_call 26; refine (fresh_any _ _ _ _ _ hl hlt HF.out).mono ?_; rintro e w' ⟨rfl, q, rfl⟩; rw [hfresh]) | (go_at_call 31; refine (over_any _ _ _ _ _ hl (HF.out.drewN _)).mono ?_; rintro e w' ⟨rfl, q2, rfl⟩; rw [hover]) | (at_builtin; refine wpList_app1 rfl (.tmp 25) (.tmp 32) 25 rfl i0 _ 32 Try.underlying25 hi hz0 hz1 hz2 rfl (by omega) rfl (own_drewN HO.out _) [.string sOrder, .string l[n].event] rfl rfl (one2 _ _) (by omega) (by omega) (by simp; omega) ?_; intro v' w1 hown1 hb1 _ _))
          go_roundw
          case rel => exact ⟨n + 1, by omega, by go_num, by rw [HN.out]; unfold ProbsAt; rw [flat_snoc, List.length_append]; exact hown1, (below_drewN HB.out _).trans hb1⟩
          case measure => simp [intOf]; omega
    · go_wp2
      go_ret
      have hnl : n = l.length := by omega
      subst hnl
      exact ⟨_, rfl, hown, hbel⟩

set_option maxHeartbeats 1000000 in
theorem rsettled_any (A : Option Addr) (cap : Nat) (l : List FactD) (w : World) (hl : l.length ≤ 4000) (hf : FactsAt w A l) :
    Calls Try.prog 14 #[.slice A l.length cap] w fun e w' => ∃ v, e = .returned v ∧ ProbsAt w' w.heap.size v sSettled (selN l (settledB l) l.length) ∧ Below w.heap.size w w' := by
  obtain ⟨i0, hi, hz0, hz1, hz2⟩ := info_parts Try.infoProb
  go_enter Try.func14, Try.ntmps14
  go_wp2_with (first | (go_at_call 25; refine (counted_any _ _ _ _ hl).mono ?_; rintro e w' ⟨rfl, rfl⟩))
  go_loopw [3, 4] (fun out i wr => ∃ n : Nat, n ≤ l.length ∧ i = .int .i64 n ∧ ProbsAt wr w.heap.size out sSettled (selN l (settledB l) n) ∧ Below w.heap.size w wr) (fun _ i _ => l.length - (intOf i).toNat)
  case atStart => exact ⟨0, Nat.zero_le _, rfl, World.ownsRow_nil _ _ _ _, Below.refl _ _⟩
  case round =>
    obtain ⟨n, hn, rfl, hown, hbel⟩ := hrel
    have hsl := selN_len l (settledB l) n
    have hsz := hbel.size
    by_cases hlt : n < l.length
    · have hfr := hf.below hbel
      obtain ⟨b, off, rfl, hbb⟩ := hf.ptr hlt
      have h5 := hfr.cell hlt (j := 5) (v := _) rfl
      have HF := Lib.hid hfr
      have HB := Lib.hid hbel
      have HO := Lib.hid hown
      clear hfr hbel hown
      cases hfresh : freshB l n
      · have HN := Lib.hid (selN_no (p := settledB l) hlt (by rw [hfresh]; rfl))
        go_wp2_with (first | (go_at_call 26; refine (fresh_any _ _ _ _ _ hl hlt HF.out).mono ?_; rintro e w' ⟨rfl, q, rfl⟩; rw [hfresh]))
        go_roundw
        case rel => exact ⟨n + 1, by omega, by go_num, by rw [HN.out]; exact own_drewN HO.out _, below_drewN HB.out _⟩
        case measure => simp [intOf]; omega
      · by_cases ha : 0 ≤ firstN l 1 l[n].event 0
        · by_cases hb : firstN l 5 l[n].event 0 < 0
          · by_cases hc : firstN l 8 l[n].event 0 < 0
            · have HN := Lib.hid (selN_yes (p := settledB l) hlt hfresh (by simp [settledB, ha, hb, hc]))
              go_wp2_with (first | (go_at_call 26; refine (fresh_any _ _ _ _ _ hl hlt HF.out).mono ?_; rintro e w' ⟨rfl, q, rfl⟩; rw [hfresh]) | (go_at_call 28; refine (first_any _ _ _ _ _ _ hl (HF.out.drewN _)).mono ?_; rintro e w' ⟨rfl, rfl⟩) | (at_builtin; refine wpList_app1 rfl (.tmp 40) (.tmp 43) 25 rfl i0 _ 32 Try.underlying25 hi hz0 hz1 hz2 rfl (by omega) rfl (own_drewN HO.out _) [.string sSettled, .string l[n].event] rfl rfl (one2 _ _) (by omega) (by omega) (by simp; omega) ?_; intro v' w1 hown1 hb1 _ _))
              go_roundw
              case rel => exact ⟨n + 1, by omega, by go_num, by rw [HN.out]; unfold ProbsAt; rw [flat_snoc, List.length_append]; exact hown1, (below_drewN HB.out _).trans hb1⟩
              case measure => simp [intOf]; omega
            · have HN := Lib.hid (selN_no (p := settledB l) hlt (by simp [settledB, hc]))
              have hc' : 0 ≤ firstN l 8 l[n].event 0 := by omega
              go_wp2_with (first | (go_at_call 26; refine (fresh_any _ _ _ _ _ hl hlt HF.out).mono ?_; rintro e w' ⟨rfl, q, rfl⟩; rw [hfresh]) | (go_at_call 28; refine (first_any _ _ _ _ _ _ hl (HF.out.drewN _)).mono ?_; rintro e w' ⟨rfl, rfl⟩))
              go_roundw
              case rel => exact ⟨n + 1, by omega, by go_num, by rw [HN.out]; exact own_drewN HO.out _, below_drewN HB.out _⟩
              case measure => simp [intOf]; omega
          · have HN := Lib.hid (selN_no (p := settledB l) hlt (by simp [settledB, hb]))
            have hb' : 0 ≤ firstN l 5 l[n].event 0 := by omega
            go_wp2_with (first | (go_at_call 26; refine (fresh_any _ _ _ _ _ hl hlt HF.out).mono ?_; rintro e w' ⟨rfl, q, rfl⟩; rw [hfresh]) | (go_at_call 28; refine (first_any _ _ _ _ _ _ hl (HF.out.drewN _)).mono ?_; rintro e w' ⟨rfl, rfl⟩))
            go_roundw
            case rel => exact ⟨n + 1, by omega, by go_num, by rw [HN.out]; exact own_drewN HO.out _, below_drewN HB.out _⟩
            case measure => simp [intOf]; omega
        · have HN := Lib.hid (selN_no (p := settledB l) hlt (by simp [settledB, ha]))
          have ha' : firstN l 1 l[n].event 0 < 0 := by omega
          go_wp2_with (first | (go_at_call 26; refine (fresh_any _ _ _ _ _ hl hlt HF.out).mono ?_; rintro e w' ⟨rfl, q, rfl⟩; rw [hfresh]) | (go_at_call 28; refine (first_any _ _ _ _ _ _ hl (HF.out.drewN _)).mono ?_; rintro e w' ⟨rfl, rfl⟩))
          go_roundw
          case rel => exact ⟨n + 1, by omega, by go_num, by rw [HN.out]; exact own_drewN HO.out _, below_drewN HB.out _⟩
          case measure => simp [intOf]; omega
    · go_wp2
      go_ret
      have hnl : n = l.length := by omega
      subst hnl
      exact ⟨_, rfl, hown, hbel⟩

end Go.Proofs.Ytcnmdhdoiekfoaa
