/- The walk of the program's Billed. -/
import Derived.Test.YtcnmdhdoiekfoaaB2
import Derived.Test.YtcnmdhdoiekfoaaS3
namespace Go.Proofs.Ytcnmdhdoiekfoaa
open Go.RowKit

def RMap (l : List FactD) (n : Nat) (m : List ((ByteArray × Int) × Bool)) : Prop := ∀ k, (alGet m k).getD false = repB (l.take n) k.1 k.2

theorem RMap.skip {l : List FactD} {n : Nat} {m : List ((ByteArray × Int) × Bool)} (h : RMap l n m) (hn : n < l.length) (hk : ¬ l[n].kind = 6) : RMap l (n + 1) m := by
  intro k
  rw [h k, repB_snoc l n hn]
  have : repF k.1 k.2 l[n] = false := by simp [repF, hk]
  rw [this]; simp
theorem RMap.step {l : List FactD} {n : Nat} {m : List ((ByteArray × Int) × Bool)} (h : RMap l n m) (hn : n < l.length) (hk : l[n].kind = 6) : RMap l (n + 1) (alSet m (l[n].event, l[n].attempt) true) := by
  intro k
  rw [alGet_set, repB_snoc l n hn]
  by_cases he : (l[n].event, l[n].attempt) = k
  · subst he
    rw [if_pos rfl]
    have : repF l[n].event l[n].attempt l[n] = true := by simp [repF, hk]
    simp [this]
  · rw [if_neg he, h k]
    have : repF k.1 k.2 l[n] = false := by
      obtain ⟨e, a⟩ := k
      simp only [repF, Bool.and_eq_false_iff, decide_eq_false_iff_not]
      by_cases h1 : l[n].event = e
      · by_cases h2 : l[n].attempt = a
        · exact absurd (by rw [h1, h2]) he
        · exact .inr h2
      · exact .inl (.inr h1)
    rw [this]; simp

attribute [local go_sem] cell_alloc_is
set_option maxHeartbeats 4000000 in
set_option maxRecDepth 100000 in
theorem pbilled_any (A A2 : Option Addr) (cap cap2 : Nat) (l : List FactD) (t : ByteArray) (bl : List InvD) (w : World) (hl : l.length ≤ 100) (hc : l.length ≤ cap) (hb : bl.length ≤ 20) (hbl : ∀ x ∈ bl, x.lines.length ≤ 100) (hf : FactsAt w A l) (hi : InvsAt w A2 bl) :
    Calls Try.prog 18 #[.slice A l.length cap, .string t, .slice A2 bl.length cap2] w fun e w' => ∃ v, e = .returned v ∧ ProbsAt w' w.heap.size v sBilled (billedN l t bl) ∧ Below w.heap.size w w' := by
  have hmm := @run_makeMap Try.prog
  have HF := Lib.hid hf
  have HI := Lib.hid hi
  have HBL := Lib.hid hbl
  clear hbl
  go_enter Try.func18, Try.ntmps18
  go_wp2_with (first | (go_at_call 22; refine (pfirst_any _ _ _ _ (by omega) hc).mono ?_; rintro e w' ⟨rfl, rfl⟩))
  clear hmm
  go_loopw [24] (fun i wr => ∃ (n : Nat) (m : List ((ByteArray × Int) × Bool)), n ≤ l.length ∧ i = .int .i64 n ∧ MapAt wr w.heap.size atK Value.bool m ∧ RMap l n m ∧ Below w.heap.size w wr) (fun i _ => l.length - (intOf i).toNat)
  case atStart => exact ⟨0, [], Nat.zero_le _, rfl, MapAt.new _ _ _, fun k => by simp [alGet, repB], below_new _ _⟩
  case round =>
    obtain ⟨n, m, hn, rfl, hm, hr, hbel⟩ := hrel
    obtain ⟨wo, rfl⟩ : ∃ wo : World, wo = wr := ⟨_, rfl⟩
    have HM := Lib.hid hm
    have HR := Lib.hid hr
    have HBE := Lib.hid hbel
    have hlo := hm.lt
    clear hm hr hbel
    by_cases hlt : n < l.length
    · have HFw := Lib.hid (HF.out.below HBE.out)
      obtain ⟨b, off, rfl, _⟩ := hf.ptr hlt
      have c0 := (HFw.out).cell0 hlt (v := .int .i64 l[n].kind) rfl
      have c1 := (HFw.out).cell hlt (j := 1) (v := .int .i64 l[n].at_) rfl
      have c2 := (HFw.out).cell hlt (j := 2) (v := .string l[n].tenant) rfl
      have c3 := (HFw.out).cell hlt (j := 3) (v := .string l[n].source) rfl
      have c4 := (HFw.out).cell hlt (j := 4) (v := .string l[n].key) rfl
      have c5 := (HFw.out).cell hlt (j := 5) (v := .string l[n].event) rfl
      have c6 := (HFw.out).cell hlt (j := 6) (v := .int .i64 l[n].attempt) rfl
      have c7 := (HFw.out).cell hlt (j := 7) (v := .int .i64 l[n].version) rfl
      have c8 := (HFw.out).cell hlt (j := 8) (v := .string l[n].worker) rfl
      have c9 := (HFw.out).cell hlt (j := 9) (v := .int .i64 l[n].units) rfl
      by_cases hk : l[n].kind = 6
      · have hk' : (l[n].kind == 6) = true := by simp [hk]
        have HR2 := Lib.hid (HR.out.step hlt hk)
        clear hk
        go_wp2_with (first
          | (at_mapUpdate; refine wpList_store rfl (.tmp 31) (.tmp 36) (.const (.bool true)) rfl Try.kA Try.underlying63 rfl (l[n].event, l[n].attempt) rfl true rfl (HM.out.alloc _) ?_; intro w1 hm1 hg1 hs1))
        go_roundw
        case rel => exact ⟨n + 1, _, by omega, by go_num, hm1, HR2.out, (below_call (below_new _ _) HBE.out).grown hg1 (by simp; omega) (fun k hk => by cases hk; exact Nat.le_refl _)⟩
        case measure => simp [intOf]; omega
      · have hk' : (l[n].kind == 6) = false := by simpa using hk
        have HR2 := Lib.hid (HR.out.skip hlt hk)
        clear hk
        go_wp2
        go_roundw
        case rel => exact ⟨n + 1, m, by omega, by go_num, HM.out.alloc _, HR2.out, below_call (below_new _ _) HBE.out⟩
        case measure => simp [intOf]; omega
    · have HRT : Hid (∀ e a, (alGet m (e, a)).getD false = repB l e a) := fun e a => by
        have := HR.out (e, a)
        rw [List.take_of_length_le (by omega)] at this
        exact this
      clear HR
      go_wp2_with (fail)
      go_loopw [10, 40] (fun mt i wr => ∃ n : Nat, n ≤ l.length ∧ i = .int .i64 n ∧ mt = .int .i64 (metN l t n) ∧ MapAt wr w.heap.size atK Value.bool m ∧ Below w.heap.size w wr) (fun _ i _ => l.length - (intOf i).toNat)
      case atStart => exact ⟨0, Nat.zero_le _, rfl, rfl, HM.out, HBE.out⟩
      case round =>
        clear HM HBE hlo
        obtain ⟨n, hn2, rfl, rfl, hm, hbel⟩ := hrel
        obtain ⟨wo, rfl⟩ : ∃ wo : World, wo = wr := ⟨_, rfl⟩
        have HM := Lib.hid hm
        have HBE := Lib.hid hbel
        have hmb := metN_bd l t n
        obtain ⟨mn, hmn⟩ : ∃ mn, mn = metN l t n := ⟨_, rfl⟩
        rw [← hmn] at hmb
        have HMN := Lib.hid hmn
        rw [← hmn]
        clear hm hbel hmn
        by_cases hlt2 : n < l.length
        · have HS := Lib.hid (metN_succ hlt2 t)
          have HFw := Lib.hid (HF.out.below HBE.out)
          obtain ⟨b, off, rfl, _⟩ := hf.ptr hlt2
          have c0 := (HFw.out).cell0 hlt2 (v := .int .i64 l[n].kind) rfl
          have c1 := (HFw.out).cell hlt2 (j := 1) (v := .int .i64 l[n].at_) rfl
          have c2 := (HFw.out).cell hlt2 (j := 2) (v := .string l[n].tenant) rfl
          have c3 := (HFw.out).cell hlt2 (j := 3) (v := .string l[n].source) rfl
          have c4 := (HFw.out).cell hlt2 (j := 4) (v := .string l[n].key) rfl
          have c5 := (HFw.out).cell hlt2 (j := 5) (v := .string l[n].event) rfl
          have c6 := (HFw.out).cell hlt2 (j := 6) (v := .int .i64 l[n].attempt) rfl
          have c7 := (HFw.out).cell hlt2 (j := 7) (v := .int .i64 l[n].version) rfl
          have c8 := (HFw.out).cell hlt2 (j := 8) (v := .string l[n].worker) rfl
          have c9 := (HFw.out).cell hlt2 (j := 9) (v := .int .i64 l[n].units) rfl
          by_cases hk : l[n].kind = 4
          · have hk' : (l[n].kind == 4) = true := by simp [hk]
            cases ht : (l[n].tenant.toList == t.toList)
            · have hno : ¬ (l[n].kind = 4 ∧ l[n].tenant = t ∧ repB l l[n].event l[n].attempt = false) := by
                rw [toList_beq, decide_eq_false_iff_not] at ht
                exact fun h => ht h.2.1
              have HN := Lib.hid (show metN l t (n + 1) = mn by rw [HS.out, if_neg hno, HMN.out]; omega)
              clear hno hk
              go_wp2
              go_roundw
              case rel => exact ⟨n + 1, by omega, by go_num, by rw [HN.out], HM.out.alloc _, below_call (below_new _ _) HBE.out⟩
              case measure => simp [intOf]; omega
            · cases hr : repB l l[n].event l[n].attempt
              · have hye : l[n].kind = 4 ∧ l[n].tenant = t ∧ repB l l[n].event l[n].attempt = false := by
                  rw [toList_beq, decide_eq_true_eq] at ht
                  exact ⟨hk, ht, hr⟩
                have HN := Lib.hid (show metN l t (n + 1) = mn + unitsZ l[n].units by rw [HS.out, if_pos hye, HMN.out])
                have HG := Lib.hid ((HRT.out l[n].event l[n].attempt).trans hr)
                have hub := unitsZ_bd l[n].units
                clear hye hk hr
                go_wp2_with (first
                  | (at_lookup; refine wpList_look' rfl (.tmp 54) (.tmp 59) rfl Try.kA Try.underlying63 false (Try.zero4 _) rfl (l[n].event, l[n].attempt) rfl (HM.out.alloc _) _ rfl (.bool false) (congrArg Value.bool HG.out) ?_)
                  | (go_at_call 35; refine (units_any _ _).mono ?_; rintro e w3 ⟨rfl, rfl⟩))
                go_roundw
                case rel => exact ⟨n + 1, by omega, by go_num, by rw [HN.out], HM.out.alloc _, below_call (below_new _ _) HBE.out⟩
                case measure => simp [intOf]; omega
              · have hno : ¬ (l[n].kind = 4 ∧ l[n].tenant = t ∧ repB l l[n].event l[n].attempt = false) := by rw [hr]; simp
                have HN := Lib.hid (show metN l t (n + 1) = mn by rw [HS.out, if_neg hno, HMN.out]; omega)
                have HG := Lib.hid ((HRT.out l[n].event l[n].attempt).trans hr)
                clear hno hk hr
                go_wp2_with (first
                  | (at_lookup; refine wpList_look' rfl (.tmp 54) (.tmp 59) rfl Try.kA Try.underlying63 false (Try.zero4 _) rfl (l[n].event, l[n].attempt) rfl (HM.out.alloc _) _ rfl (.bool true) (congrArg Value.bool HG.out) ?_))
                go_roundw
                case rel => exact ⟨n + 1, by omega, by go_num, by rw [HN.out], HM.out.alloc _, below_call (below_new _ _) HBE.out⟩
                case measure => simp [intOf]; omega
          · have hk' : (l[n].kind == 4) = false := by simpa using hk
            have HN := Lib.hid (show metN l t (n + 1) = mn by rw [HS.out, if_neg (fun h => hk h.1), HMN.out]; omega)
            clear hk
            go_wp2
            go_roundw
            case rel => exact ⟨n + 1, by omega, by go_num, by rw [HN.out], HM.out.alloc _, below_call (below_new _ _) HBE.out⟩
            case measure => simp [intOf]; omega
        · have HMT := Lib.hid (show mn = metN l t l.length by rw [HMN.out, show n = l.length by omega])
          go_wp2_with (fail)
          go_loopw [13, 14, 71] (fun bi c i wr => ∃ n : Nat, n ≤ bl.length ∧ i = .int .i64 n ∧ bi = .int .i64 (bilN bl t n) ∧ c = .int .i64 (numN bl n) ∧ Below w.heap.size w wr) (fun _ _ i _ => bl.length - (intOf i).toNat)
          case atStart => exact ⟨0, Nat.zero_le _, rfl, rfl, rfl, HBE.out⟩
          case round =>
            clear HM HBE HRT
            obtain ⟨n, hn3, rfl, rfl, rfl, hbel⟩ := hrel
            obtain ⟨wo, rfl⟩ : ∃ wo : World, wo = wr := ⟨_, rfl⟩
            have HBE := Lib.hid hbel
            have hnb := numN_bd bl HBL.out n
            have hbb := bilN_bd bl HBL.out t n
            obtain ⟨bn, hbn⟩ : ∃ bn, bn = bilN bl t n := ⟨_, rfl⟩
            rw [← hbn] at hbb
            have HBN := Lib.hid hbn
            rw [← hbn]
            obtain ⟨cn, hcn⟩ : ∃ cn, cn = numN bl n := ⟨_, rfl⟩
            rw [← hcn] at hnb
            have HCN := Lib.hid hcn
            rw [← hcn]
            clear hbn hcn hbel
            by_cases hltn : n < bl.length
            · have HIw := Lib.hid (HI.out.below HBE.out)
              have HSB := Lib.hid (bilN_succ hltn t)
              have HSN := Lib.hid (numN_succ hltn)
              have hlen := HBL.out bl[n] (List.getElem_mem hltn)
              have HL := Lib.hid (HIw.out.2 bl[n] (List.getElem_mem hltn))
              obtain ⟨b, off, rfl, _⟩ := hi.1.ptr hltn
              have i0 := HIw.out.1.cell0 hltn (v := .string bl[n].tenant) rfl
              have i1 := HIw.out.1.cell hltn (j := 1) (v := .int .i64 bl[n].period) rfl
              have i2 := HIw.out.1.cell hltn (j := 2) (v := .slice bl[n].la bl[n].lines.length bl[n].lcap) rfl
              have i3 := HIw.out.1.cell hltn (j := 3) (v := .int .i64 bl[n].gross) rfl
              have i4 := HIw.out.1.cell hltn (j := 4) (v := .int .i64 bl[n].refund) rfl
              have i5 := HIw.out.1.cell hltn (j := 5) (v := .int .i64 bl[n].net) rfl
              obtain ⟨bt, hbt⟩ : ∃ x, x = bl[n].tenant := ⟨_, rfl⟩
              obtain ⟨ln, hln⟩ : ∃ x, x = bl[n].lines := ⟨_, rfl⟩
              obtain ⟨la, hla⟩ : ∃ x, x = bl[n].la := ⟨_, rfl⟩
              obtain ⟨lc, hlc⟩ : ∃ x, x = bl[n].lcap := ⟨_, rfl⟩
              obtain ⟨pe, hpe⟩ : ∃ x, x = bl[n].period := ⟨_, rfl⟩
              obtain ⟨gr, hgr⟩ : ∃ x, x = bl[n].gross := ⟨_, rfl⟩
              obtain ⟨rf, hrf⟩ : ∃ x, x = bl[n].refund := ⟨_, rfl⟩
              obtain ⟨ne, hne⟩ : ∃ x, x = bl[n].net := ⟨_, rfl⟩
              rw [← hbt] at i0 HSB
              rw [← hln] at i2 HSB HSN hlen HL
              rw [← hla] at i2 HL
              rw [← hlc] at i2
              rw [← hpe] at i1
              rw [← hgr] at i3
              rw [← hrf] at i4
              rw [← hne] at i5
              have HX := Lib.hid (Blk.new wo 39 #[.string bt, .int .i64 pe, .slice la ln.length lc, .int .i64 gr, .int .i64 rf, .int .i64 ne])
              have HBX := Lib.hid (below_call (below_new wo (.cells #[.string bt, .int .i64 pe, .slice la ln.length lc, .int .i64 gr, .int .i64 rf, .int .i64 ne] 39)) HBE.out)
              clear hbt hln hla hlc hpe hgr hrf hne
              cases htt : (bt.toList == t.toList)
              · have HNE := Lib.hid (show bilN bl t (n + 1) = bn by
                  rw [toList_beq, decide_eq_false_iff_not] at htt
                  rw [HSB.out, if_neg htt, HBN.out]; omega)
                go_wp2
                clear i0 i1 i2 i3 i4 i5
                go_loopw [13, 14, 78] (fun bi c k wr => ∃ j : Nat, j ≤ ln.length ∧ k = .int .i64 j ∧ c = .int .i64 ((cn : Int) + j) ∧ bi = .int .i64 bn ∧ Blk wr wo.heap.size 39 #[.string bt, .int .i64 pe, .slice la ln.length lc, .int .i64 gr, .int .i64 rf, .int .i64 ne] ∧ Below w.heap.size w wr ∧ wo.heap.size < wr.heap.size ∧ SlAt wr la 6 LineD.cells ln) (fun _ _ k _ => ln.length - (intOf k).toNat)
                case atStart => exact ⟨0, Nat.zero_le _, rfl, by simp, rfl, HX.out, HBX.out, by simp, HL.out.alloc _⟩
                case round =>
                  obtain ⟨j, hj, rfl, rfl, rfl, hx, hbw, hsw, hsl⟩ := hrel
                  have HXw := Lib.hid hx
                  have HBw := Lib.hid hbw
                  have HSl := Lib.hid hsl
                  have x0 := hx.cell 0 (.string bt) rfl
                  clear hx hbw
                  by_cases hltj : j < ln.length
                  · obtain ⟨b3, off3, rfl, _⟩ := hsl.ptr hltj
                    have y0 := HSl.out.cell0 hltj (v := .string ln[j].function) rfl
                    have y1 := HSl.out.cell hltj (j := 1) (v := .int .i64 ln[j].invocations) rfl
                    have y2 := HSl.out.cell hltj (j := 2) (v := .int .i64 ln[j].steps) rfl
                    have y3 := HSl.out.cell hltj (j := 3) (v := .int .i64 ln[j].ticks) rfl
                    have y4 := HSl.out.cell hltj (j := 4) (v := .int .i64 ln[j].units) rfl
                    have y5 := HSl.out.cell hltj (j := 5) (v := .int .i64 ln[j].micros) rfl
                    clear hsl
                    go_wp2
                    go_roundw
                    case rel => exact ⟨j + 1, by omega, by go_num, by go_num, rfl, HXw.out.alloc _, below_call (below_new _ _) HBw.out, by simp; omega, HSl.out.alloc _⟩
                    case measure => simp [intOf]; omega
                  · go_wp2
                    go_roundw
                    case rel => exact ⟨n + 1, by omega, by go_num, by rw [HNE.out], by rw [HSN.out, ← HCN.out, ← show j = ln.length from by omega]; go_num, HBw.out⟩
                    case measure => simp [intOf]; omega
              · have HYE := Lib.hid (show bilN bl t (n + 1) = bn + lineN ln ln.length by
                  rw [toList_beq, decide_eq_true_eq] at htt
                  rw [HSB.out, if_pos htt, HBN.out])
                go_wp2
                clear i0 i1 i2 i3 i4 i5
                go_loopw [13, 14, 78] (fun bi c k wr => ∃ j : Nat, j ≤ ln.length ∧ k = .int .i64 j ∧ c = .int .i64 ((cn : Int) + j) ∧ bi = .int .i64 (bn + lineN ln j) ∧ Blk wr wo.heap.size 39 #[.string bt, .int .i64 pe, .slice la ln.length lc, .int .i64 gr, .int .i64 rf, .int .i64 ne] ∧ Below w.heap.size w wr ∧ wo.heap.size < wr.heap.size ∧ SlAt wr la 6 LineD.cells ln) (fun _ _ k _ => ln.length - (intOf k).toNat)
                case atStart => exact ⟨0, Nat.zero_le _, rfl, by simp, by simp [lineN], HX.out, HBX.out, by simp, HL.out.alloc _⟩
                case round =>
                  obtain ⟨j, hj, rfl, rfl, rfl, hx, hbw, hsw, hsl⟩ := hrel
                  have hlb := lineN_bd ln j
                  obtain ⟨lj, hlj⟩ : ∃ x, x = lineN ln j := ⟨_, rfl⟩
                  rw [← hlj] at hlb
                  rw [← hlj]
                  have HLJ := Lib.hid hlj
                  clear hlj
                  have HXw := Lib.hid hx
                  have HBw := Lib.hid hbw
                  have HSl := Lib.hid hsl
                  have x0 := hx.cell 0 (.string bt) rfl
                  clear hx hbw
                  by_cases hltj : j < ln.length
                  · obtain ⟨b3, off3, rfl, _⟩ := hsl.ptr hltj
                    have HLS := Lib.hid (lineN_succ hltj)
                    have y0 := HSl.out.cell0 hltj (v := .string ln[j].function) rfl
                    have y1 := HSl.out.cell hltj (j := 1) (v := .int .i64 ln[j].invocations) rfl
                    have y2 := HSl.out.cell hltj (j := 2) (v := .int .i64 ln[j].steps) rfl
                    have y3 := HSl.out.cell hltj (j := 3) (v := .int .i64 ln[j].ticks) rfl
                    have y4 := HSl.out.cell hltj (j := 4) (v := .int .i64 ln[j].units) rfl
                    have y5 := HSl.out.cell hltj (j := 5) (v := .int .i64 ln[j].micros) rfl
                    have hub := unitsZ_bd ln[j].units
                    clear hsl
                    go_wp2_with (first
                      | (go_at_call 35; refine (units_any _ _).mono ?_; rintro e w3 ⟨rfl, rfl⟩))
                    go_roundw
                    case rel => exact ⟨j + 1, by omega, by go_num, by go_num, by rw [HLS.out, ← HLJ.out]; go_num, HXw.out.alloc _, below_call (below_new _ _) HBw.out, by simp; omega, HSl.out.alloc _⟩
                    case measure => simp [intOf]; omega
                  · go_wp2
                    have hjl : j = ln.length := by omega
                    go_roundw
                    case rel => exact ⟨n + 1, by omega, by go_num, by rw [HYE.out, HLJ.out, hjl], by rw [HSN.out, ← HCN.out, hjl]; go_num, HBw.out⟩
                    case measure => simp [intOf]; omega
            · have HBT := Lib.hid (show bn = bilN bl t bl.length by rw [HBN.out, show n = bl.length by omega])
              by_cases hmb2 : mn = bn
              · have HO := Lib.hid (show billedN l t bl = [] by unfold billedN; rw [if_pos (by rw [← HMT.out, ← HBT.out, hmb2])])
                have hm1 : (mn != bn) = false := by simp [hmb2]
                clear hmb2
                go_wp2
                go_ret
                exact ⟨_, rfl, by rw [HO.out]; exact World.ownsRow_nil _ _ _ _, HBE.out⟩
              · have HO := Lib.hid (show billedN l t bl = [t] by unfold billedN; rw [if_neg (by rw [← HMT.out, ← HBT.out]; exact hmb2)])
                have hm1 : (mn != bn) = true := by simpa using hmb2
                have hszb := HBE.out.size
                clear hmb2
                go_wp2
                go_ret
                exact ⟨_, rfl, by rw [HO.out]; exact ⟨rfl, .inr ⟨wo.heap.size, 1, #[.string sBilled, .string t], rfl, hszb, heap_alloc_new wo _, Nat.le_refl _, by decide, rfl, rfl⟩⟩, below_call (below_new _ _) HBE.out⟩
end Go.Proofs.Ytcnmdhdoiekfoaa

