/- The walks of the reference's repeated and Billed. -/
import Derived.Test.YtcnmdhdoiekfoaaB1
namespace Go.Proofs.Ytcnmdhdoiekfoaa
open Go.RowKit

attribute [local go_sem] cell_alloc_is
set_option maxHeartbeats 1000000 in
theorem repeated_any (A : Option Addr) (cap : Nat) (l : List FactD) (x : FactD) (w : World) (hl : l.length ≤ 4000) (hf : FactsAt w A l) :
    Calls Try.prog 36 #[.slice A l.length cap, .agg #[.int .i64 x.kind, .int .i64 x.at_, .string x.tenant, .string x.source, .string x.key, .string x.event, .int .i64 x.attempt, .int .i64 x.version, .string x.worker, .int .i64 x.units]] w
      fun e w' => e = .returned (.bool (repB l x.event x.attempt)) ∧ Below w.heap.size w w' := by
  have HF := Lib.hid (hf.alloc (.cells x.cells.toArray 30))
  have BX := Blk.new w 30 x.cells.toArray
  have x5 := BX.cell 5 (.string x.event) rfl
  have x6 := BX.cell 6 (.int .i64 x.attempt) rfl
  have HB := Lib.hid (below_new w (.cells #[.int .i64 x.kind, .int .i64 x.at_, .string x.tenant, .string x.source, .string x.key, .string x.event, .int .i64 x.attempt, .int .i64 x.version, .string x.worker, .int .i64 x.units] 30))
  clear BX
  unfold FactD.cells at x5 x6
  go_enter Try.func36, Try.ntmps36
  go_wp2
  go_loopw [5] (fun i wr => ∃ n q : Nat, n ≤ l.length ∧ i = .int .i64 n ∧ repB (l.take n) x.event x.attempt = false ∧ wr = (w.alloc (.cells #[.int .i64 x.kind, .int .i64 x.at_, .string x.tenant, .string x.source, .string x.key, .string x.event, .int .i64 x.attempt, .int .i64 x.version, .string x.worker, .int .i64 x.units] 30)).drewN q) (fun i _ => l.length - (intOf i).toNat)
  case atStart => exact ⟨0, 0, Nat.zero_le _, rfl, rfl, rfl⟩
  case round =>
    obtain ⟨n, q, hn, rfl, hno, rfl⟩ := hrel
    have HN := Lib.hid hno
    clear hno
    by_cases hlt : n < l.length
    · obtain ⟨b, off, rfl, _⟩ := hf.ptr hlt
      have h0 := HF.out.cell0 hlt (v := .int .i64 l[n].kind) rfl
      have h5 := HF.out.cell hlt (j := 5) (v := .string l[n].event) rfl
      have h6 := HF.out.cell hlt (j := 6) (v := .int .i64 l[n].attempt) rfl
      unfold FactD.cells at h0 h5 h6
      by_cases hk : l[n].kind = 6
      · have hk' : (l[n].kind == 6) = true := by simp [hk]
        cases he : (l[n].event.toList == x.event.toList)
        · have hr : repF x.event x.attempt l[n] = false := by
            rw [toList_beq, decide_eq_false_iff_not] at he
            simp [repF, he]
          clear hk
          go_wp2
          go_quiet (fail)
          go_wp2
          go_roundw
          case rel => exact ⟨n + 1, _, by omega, by go_num, by rw [repB_snoc l n hlt, HN.out, hr]; rfl, rfl⟩
          case measure => simp [intOf]; omega
        · by_cases ha : l[n].attempt = x.attempt
          · have hr : Hid (repB l x.event x.attempt = true) := by
              show _ = _
              rw [toList_beq, decide_eq_true_eq] at he
              unfold repB; rw [List.any_eq_true]
              exact ⟨l[n], List.getElem_mem _, by simp [repF, hk, he, ha]⟩
            have ha' : (l[n].attempt == x.attempt) = true := by simp [ha]
            clear hk ha
            go_wp2
            go_quiet (fail)
            go_wp2
            go_ret
            refine ⟨by rw [hr.out]; rfl, ?_⟩
            first | exact below_drewN HB.out _ | exact below_drewN (below_drewN HB.out _) _
          · have hr : repF x.event x.attempt l[n] = false := by simp [repF, ha]
            have ha' : (l[n].attempt == x.attempt) = false := by simpa using ha
            clear hk ha
            go_wp2
            go_quiet (fail)
            go_wp2
            go_roundw
            case rel => exact ⟨n + 1, _, by omega, by go_num, by rw [repB_snoc l n hlt, HN.out, hr]; rfl, rfl⟩
            case measure => simp [intOf]; omega
      · have hk' : (l[n].kind == 6) = false := by simpa using hk
        have hr : repF x.event x.attempt l[n] = false := by simp [repF, hk]
        clear hk
        go_wp2
        go_quiet (fail)
        go_wp2
        go_roundw
        case rel => exact ⟨n + 1, _, by omega, by go_num, by rw [repB_snoc l n hlt, HN.out, hr]; rfl, rfl⟩
        case measure => simp [intOf]; omega
    · go_wp2
      go_ret
      have hN := HN.out
      rw [List.take_of_length_le (by omega)] at hN
      exact ⟨by rw [hN]; rfl, below_drewN HB.out _⟩

set_option maxHeartbeats 4000000 in
set_option maxRecDepth 100000 in
theorem rbilled_any (A A2 : Option Addr) (cap cap2 : Nat) (l : List FactD) (t : ByteArray) (bl : List InvD) (w : World) (hl : l.length ≤ 100) (hb : bl.length ≤ 20) (hbl : ∀ x ∈ bl, x.lines.length ≤ 100) (hf : FactsAt w A l) (hi : InvsAt w A2 bl) :
    Calls Try.prog 19 #[.slice A l.length cap, .string t, .slice A2 bl.length cap2] w fun e w' => ∃ v, e = .returned v ∧ ProbsAt w' w.heap.size v sBilled (billedN l t bl) ∧ Below w.heap.size w w' := by
  have HF := Lib.hid hf
  have HI := Lib.hid hi
  have HBL := Lib.hid hbl
  clear hbl
  go_enter Try.func19, Try.ntmps19
  go_wp2_with (first | (go_at_call 25; refine (counted_any _ _ _ _ (by omega)).mono ?_; rintro e w' ⟨rfl, rfl⟩))
  go_loopw [7, 8] (fun m i wr => ∃ n : Nat, n ≤ l.length ∧ i = .int .i64 n ∧ m = .int .i64 (metN l t n) ∧ Below w.heap.size w wr) (fun _ i _ => l.length - (intOf i).toNat)
  case atStart => exact ⟨0, Nat.zero_le _, rfl, rfl, Below.refl _ _⟩
  case round =>
    obtain ⟨n, hn, rfl, rfl, hbel⟩ := hrel
    obtain ⟨wo, rfl⟩ : ∃ wo : World, wo = wr := ⟨_, rfl⟩
    have HBE := Lib.hid hbel
    have hmb := metN_bd l t n
    obtain ⟨mn, hmn⟩ : ∃ mn, mn = metN l t n := ⟨_, rfl⟩
    rw [← hmn] at hmb
    have HMN := Lib.hid hmn
    rw [← hmn]
    clear hbel hmn
    by_cases hlt : n < l.length
    · have HS := Lib.hid (metN_succ hlt t)
      have HFw := Lib.hid (HF.out.below HBE.out)
      obtain ⟨b, off, rfl, _⟩ := hf.ptr hlt
      have c0 := (HFw.out).cell0 hlt (v := .int .i64 l[n].kind) rfl
      have c1 := (HFw.out).cell hlt (j := 1) (v := .int .i64 l[n].at_) rfl
      have c2 := (HFw.out).cell hlt (j := 2) (v := .string l[n].tenant) rfl
      have c3 := (HFw.out).cell hlt (j := 3) (v := .string l[n].source) rfl
      have c4 := (HFw.out).cell hlt (j := 4) (v := .string l[n].key) rfl
      have c5 := (HFw.out).cell hlt (j := 5) (v := .string l[n].event) rfl
      have c6 := (HFw.out).cell hlt (j := 6) (v := .int .i64 l[n].attempt) rfl
      have c7 := (HFw.out).cell hlt (j := 7) (v := .int .i64 l[n].version) rfl
      have c8 := (HFw.out).cell hlt (j := 8) (v := .string l[n].worker) rfl
      have c9 := (HFw.out).cell hlt (j := 9) (v := .int .i64 l[n].units) rfl
      by_cases hk : l[n].kind = 4
      · have hk' : (l[n].kind == 4) = true := by simp [hk]
        cases ht : (l[n].tenant.toList == t.toList)
        · have hno : ¬ (l[n].kind = 4 ∧ l[n].tenant = t ∧ repB l l[n].event l[n].attempt = false) := by
            rw [toList_beq, decide_eq_false_iff_not] at ht
            exact fun h => ht h.2.1
          have HN := Lib.hid (show metN l t (n + 1) = mn by rw [HS.out, if_neg hno, HMN.out]; omega)
          clear hno hk
          go_wp2
          go_roundw
          case rel => exact ⟨n + 1, by omega, by go_num, by rw [HN.out], HBE.out⟩
          case measure => simp [intOf]; omega
        · cases hr : repB l l[n].event l[n].attempt
          · have hye : l[n].kind = 4 ∧ l[n].tenant = t ∧ repB l l[n].event l[n].attempt = false := by
              rw [toList_beq, decide_eq_true_eq] at ht
              exact ⟨hk, ht, hr⟩
            have HN := Lib.hid (show metN l t (n + 1) = mn + unitsZ l[n].units by rw [HS.out, if_pos hye, HMN.out])
            have hub := unitsZ_bd l[n].units
            clear hye hk
            go_wp2_with (first
              | (go_at_call 36; refine (repeated_any _ _ _ l[n] _ (by omega) HFw.out).mono ?_; rintro e w2 ⟨rfl, hb2⟩; rw [hr]; have HB2 := Lib.hid (below_call hb2 HBE.out); have y9 := (HFw.out.below hb2).cell hlt (j := 9) (v := .int .i64 l[n].units) rfl; clear hb2)
              | (go_at_call 37; refine (runits_any _ _).mono ?_; rintro e w3 ⟨rfl, rfl⟩))
            go_roundw
            case rel => exact ⟨n + 1, by omega, by go_num, by rw [HN.out], HB2.out⟩
            case measure => simp [intOf]; omega
          · have hno : ¬ (l[n].kind = 4 ∧ l[n].tenant = t ∧ repB l l[n].event l[n].attempt = false) := by rw [hr]; simp
            have HN := Lib.hid (show metN l t (n + 1) = mn by rw [HS.out, if_neg hno, HMN.out]; omega)
            clear hno hk
            go_wp2_with (first
              | (go_at_call 36; refine (repeated_any _ _ _ l[n] _ (by omega) HFw.out).mono ?_; rintro e w2 ⟨rfl, hb2⟩; rw [hr]; have HB2 := Lib.hid (below_call hb2 HBE.out); clear hb2))
            go_roundw
            case rel => exact ⟨n + 1, by omega, by go_num, by rw [HN.out], HB2.out⟩
            case measure => simp [intOf]; omega
      · have hk' : (l[n].kind == 4) = false := by simpa using hk
        have HN := Lib.hid (show metN l t (n + 1) = mn by rw [HS.out, if_neg (fun h => hk h.1), HMN.out]; omega)
        clear hk
        go_wp2
        go_roundw
        case rel => exact ⟨n + 1, by omega, by go_num, by rw [HN.out], HBE.out⟩
        case measure => simp [intOf]; omega
    · have HIw := Lib.hid (HI.out.below HBE.out)
      have HMT := Lib.hid (show mn = metN l t l.length by rw [HMN.out, show n = l.length by omega])
      go_wp2_with (fail)
      go_loop [9, 10, 11] (fun bi c i => ∃ n : Nat, n ≤ bl.length ∧ i = .int .i64 n ∧ bi = .int .i64 (bilN bl t n) ∧ c = .int .i64 (numN bl n)) (fun _ _ i => bl.length - (intOf i).toNat)
      case atStart => exact ⟨0, Nat.zero_le _, rfl, rfl, rfl⟩
      case round =>
        obtain ⟨n, hn2, rfl, rfl, rfl⟩ := hrel
        have hnb := numN_bd bl HBL.out n
        have hbb := bilN_bd bl HBL.out t n
        obtain ⟨bn, hbn⟩ : ∃ bn, bn = bilN bl t n := ⟨_, rfl⟩
        rw [← hbn] at hbb
        have HBN := Lib.hid hbn
        rw [← hbn]
        obtain ⟨cn, hcn⟩ : ∃ cn, cn = numN bl n := ⟨_, rfl⟩
        rw [← hcn] at hnb
        have HCN := Lib.hid hcn
        rw [← hcn]
        clear hbn hcn
        by_cases hltn : n < bl.length
        · have HSB := Lib.hid (bilN_succ hltn t)
          have HSN := Lib.hid (numN_succ hltn)
          have hlen := HBL.out bl[n] (List.getElem_mem hltn)
          have HL := Lib.hid (HIw.out.2 bl[n] (List.getElem_mem hltn))
          obtain ⟨b, off, rfl, _⟩ := hi.1.ptr hltn
          have i0 := HIw.out.1.cell0 hltn (v := .string bl[n].tenant) rfl
          have i2 := HIw.out.1.cell hltn (j := 2) (v := .slice bl[n].la bl[n].lines.length bl[n].lcap) rfl
          obtain ⟨bt, hbt⟩ : ∃ x, x = bl[n].tenant := ⟨_, rfl⟩
          obtain ⟨ln, hln⟩ : ∃ x, x = bl[n].lines := ⟨_, rfl⟩
          obtain ⟨la, hla⟩ : ∃ x, x = bl[n].la := ⟨_, rfl⟩
          rw [← hbt] at i0 HSB
          rw [← hln] at i2 HSB HSN hlen HL
          rw [← hla] at i2 HL
          clear hbt hln hla
          cases htt : (bt.toList == t.toList)
          · have HNE := Lib.hid (show bilN bl t (n + 1) = bn by
              rw [toList_beq, decide_eq_false_iff_not] at htt
              rw [HSB.out, if_neg htt, HBN.out]; omega)
            go_wp2
            go_loop [9, 10, 12] (fun bi c k => ∃ j : Nat, j ≤ ln.length ∧ k = .int .i64 j ∧ c = .int .i64 ((cn : Int) + j) ∧ bi = .int .i64 bn) (fun _ _ k => ln.length - (intOf k).toNat)
            case atStart => exact ⟨0, Nat.zero_le _, rfl, by simp, rfl⟩
            case round =>
              obtain ⟨j, hj, rfl, rfl, rfl⟩ := hrel
              by_cases hltj : j < ln.length
              · go_wp2
                go_round
                case rel => exact ⟨j + 1, by omega, by go_num, by go_num, rfl⟩
                case measure => simp [intOf]; omega
              · go_wp2
                go_round
                case rel => exact ⟨n + 1, by omega, by go_num, by rw [HNE.out], by rw [HSN.out, ← HCN.out, ← show j = ln.length from by omega]; go_num⟩
                case measure => simp [intOf]; omega
          · have HYE := Lib.hid (show bilN bl t (n + 1) = bn + lineN ln ln.length by
              rw [toList_beq, decide_eq_true_eq] at htt
              rw [HSB.out, if_pos htt, HBN.out])
            go_wp2
            go_loop [9, 10, 12] (fun bi c k => ∃ j : Nat, j ≤ ln.length ∧ k = .int .i64 j ∧ c = .int .i64 ((cn : Int) + j) ∧ bi = .int .i64 (bn + lineN ln j)) (fun _ _ k => ln.length - (intOf k).toNat)
            case atStart => exact ⟨0, Nat.zero_le _, rfl, by simp, by simp [lineN]⟩
            case round =>
              obtain ⟨j, hj, rfl, rfl, rfl⟩ := hrel
              have hlb := lineN_bd ln j
              obtain ⟨lj, hlj⟩ : ∃ x, x = lineN ln j := ⟨_, rfl⟩
              rw [← hlj] at hlb
              rw [← hlj]
              have HLJ := Lib.hid hlj
              clear hlj
              by_cases hltj : j < ln.length
              · have HLS := Lib.hid (lineN_succ hltj)
                obtain ⟨b3, off3, rfl, _⟩ := HL.out.ptr hltj
                have u4 := HL.out.cell hltj (j := 4) (v := .int .i64 ln[j].units) rfl
                rw [show off3 + j * 6 + 4 = off3 + j * 6 + 1 + 3 from rfl] at u4
                have hub := unitsZ_bd ln[j].units
                go_wp2_with (first
                  | (go_at_call 37; refine (runits_any _ _).mono ?_; rintro e w3 ⟨rfl, rfl⟩))
                go_round
                case rel => exact ⟨j + 1, by omega, by go_num, by go_num, by rw [HLS.out, ← HLJ.out]; go_num⟩
                case measure => simp [intOf]; omega
              · go_wp2
                have hjl : j = ln.length := by omega
                go_round
                case rel => exact ⟨n + 1, by omega, by go_num, by rw [HYE.out, HLJ.out, hjl], by rw [HSN.out, ← HCN.out, hjl]; go_num⟩
                case measure => simp [intOf]; omega
        · have HBT := Lib.hid (show bn = bilN bl t bl.length by rw [HBN.out, show n = bl.length by omega])
          by_cases hmb2 : mn = bn
          · have HO := Lib.hid (show billedN l t bl = [] by unfold billedN; rw [if_pos (by rw [← HMT.out, ← HBT.out, hmb2])])
            have hm1 : (mn == bn) = true := by simp [hmb2]
            clear hmb2
            go_wp2
            go_ret
            exact ⟨_, rfl, by rw [HO.out]; exact World.ownsRow_nil _ _ _ _, HBE.out⟩
          · have HO := Lib.hid (show billedN l t bl = [t] by unfold billedN; rw [if_neg (by rw [← HMT.out, ← HBT.out]; exact hmb2)])
            have hm1 : (mn == bn) = false := by simpa using hmb2
            have hszb := HBE.out.size
            clear hmb2
            go_wp2
            go_ret
            exact ⟨_, rfl, by rw [HO.out]; exact ⟨rfl, .inr ⟨wo.heap.size, 1, #[.string sBilled, .string t], rfl, hszb, heap_alloc_new wo _, Nat.le_refl _, by decide, rfl, rfl⟩⟩, below_call (below_new _ _) HBE.out⟩
end Go.Proofs.Ytcnmdhdoiekfoaa

