/- The law AuditNotices answers true on every list of facts. -/
import Derived.Test.YtcnmdhdoiekfoaaN1
namespace Go.Proofs.Ytcnmdhdoiekfoaa
open Go.RowKit

theorem Try.infoFact : (Try.prog.info? 30).map (fun i => (i.zero, i.size, i.bytes)) = some (some (.agg #[.int .i64 0, .int .i64 0, .string ByteArray.empty, .string ByteArray.empty, .string ByteArray.empty, .string ByteArray.empty, .int .i64 0, .int .i64 0, .string ByteArray.empty, .int .i64 0]), 10, 120) := by kernel_rfl

theorem fact_one (f : FactD) : ∀ u ∈ f.cells, u.oneCell' = true := by simp [FactD.cells, Value.oneCell']

/-- The facts that the call keeps lie in a row of its own. -/
def KeptAt (w : World) (base : Nat) (v : Value) (l : List FactD) : Prop := w.ownsRow base 30 10 v l.length (l.flatMap FactD.cells)

theorem kept_slice {w : World} {base : Nat} {v : Value} {l : List FactD} (h : KeptAt w base v l) : ∃ A cap, v = .slice A l.length cap ∧ l.length ≤ cap ∧ FactsAt w A l := by
  obtain ⟨A, cap, rfl⟩ := own_shape h
  refine ⟨A, cap, rfl, ?_, SlAt.of_own h rfl (fun _ => rfl) (by omega)⟩
  rcases h.2 with ⟨hv, hn⟩ | ⟨g, cap', cur, hv, _, _, hnc, _⟩
  · omega
  · injection hv with _ _ h3; omega

attribute [local go_sem] cell_alloc_is
set_option maxHeartbeats 4000000 in
set_option maxRecDepth 100000 in
theorem auditNotices_any (A : Option Addr) (cap : Nat) (l : List FactD) (a : Int) (w : World) (ha0 : 0 ≤ a) (ha1 : a ≤ 255) (hm : l.length ≤ maxLen) (hf : FactsAt w A l) :
    Calls Try.prog 4 #[.slice A l.length cap, .int .u8 a] w fun e w' => e = .returned (.bool true) ∧ Below w.heap.size w w' := by
  unfold maxLen at hm
  by_cases hl0 : l.length = 0
  · have hl0' : ((l.length : Int) == 0) = true := by simp [hl0]
    clear hl0 hf
    go_enter Try.func4, Try.ntmps4
    go_wp2_with (fail)
    refine (awake_any _).mono ?_
    rintro e w7 ⟨rfl, hb⟩
    have HB7 := Lib.hid hb
    clear hb
    go_wp2_with (fail)
    go_ret
    exact ⟨rfl, HB7.out⟩
  have hl0' : ((l.length : Int) == 0) = false := by simpa using hl0
  by_cases hl : l.length ≤ 60
  · obtain ⟨k, hk⟩ : ∃ k : Nat, a % (l.length : Int) = (k : Int) := ⟨(a % (l.length : Int)).toNat, by rw [Int.toNat_of_nonneg (Int.emod_nonneg _ (by omega))]⟩
    have hkl : k < l.length := by have := Int.emod_lt_of_pos a (show (0 : Int) < (l.length : Int) by omega); omega
    obtain ⟨i0, hi, hz0, hz1, hz2⟩ := info_parts Try.infoFact
    obtain ⟨b, off, rfl, _⟩ := hf.ptr hkl
    have HF := Lib.hid hf
    have c0 := (HF.out).cell0 hkl (v := .int .i64 l[k].kind) rfl
    have c1 := (HF.out).cell hkl (j := 1) (v := .int .i64 l[k].at_) rfl
    have c2 := (HF.out).cell hkl (j := 2) (v := .string l[k].tenant) rfl
    have c3 := (HF.out).cell hkl (j := 3) (v := .string l[k].source) rfl
    have c4 := (HF.out).cell hkl (j := 4) (v := .string l[k].key) rfl
    have c5 := (HF.out).cell hkl (j := 5) (v := .string l[k].event) rfl
    have c6 := (HF.out).cell hkl (j := 6) (v := .int .i64 l[k].attempt) rfl
    have c7 := (HF.out).cell hkl (j := 7) (v := .int .i64 l[k].version) rfl
    have c8 := (HF.out).cell hkl (j := 8) (v := .string l[k].worker) rfl
    have c9 := (HF.out).cell hkl (j := 9) (v := .int .i64 l[k].units) rfl
    clear hf
    go_enter Try.func4, Try.ntmps4
    go_wp2_with (fail)
    have HB0 := Lib.hid (below_new w (.cells l[k].cells.toArray 30))
    have HX0 := Lib.hid (Blk.new w 30 l[k].cells.toArray)
    clear c0 c1 c2 c3 c4 c5 c6 c7 c8 c9 hk hl0 hl0'
    go_loopw [6, 7] (fun m i wr => ∃ n : Nat, n ≤ l.length ∧ i = .int .i64 n ∧ KeptAt wr (w.heap.size + 1) m (keepN l l[k].event n) ∧ Below (w.heap.size + 1) (w.alloc (.cells l[k].cells.toArray 30)) wr) (fun _ i _ => l.length - (intOf i).toNat)
    case atStart => exact ⟨0, Nat.zero_le _, rfl, World.ownsRow_nil _ _ _ _, Below.refl _ _⟩
    case round =>
      obtain ⟨n, hn, rfl, hown, hbr⟩ := hrel
      have hkl' := keepN_len l l[k].event n
      have hsz := hbr.size
      simp only [World.size_alloc] at hsz
      have HO := Lib.hid hown
      have HBR := Lib.hid hbr
      have HBW := Lib.hid (show Below w.heap.size w wr from HB0.out.trans (hbr.mono (by omega)))
      have HXR : Hid (Blk wr w.heap.size 30 l[k].cells.toArray) := (hbr.block w.heap.size (by omega)).trans HX0.out
      clear hown hbr
      by_cases hlt : n < l.length
      · have b5 := HXR.out.cell 5 (.string l[k].event) rfl
        have c0 := (HF.out.below HBW.out).cell0 hlt (v := .int .i64 l[n].kind) rfl
        have c1 := (HF.out.below HBW.out).cell hlt (j := 1) (v := .int .i64 l[n].at_) rfl
        have c2 := (HF.out.below HBW.out).cell hlt (j := 2) (v := .string l[n].tenant) rfl
        have c3 := (HF.out.below HBW.out).cell hlt (j := 3) (v := .string l[n].source) rfl
        have c4 := (HF.out.below HBW.out).cell hlt (j := 4) (v := .string l[n].key) rfl
        have c5 := (HF.out.below HBW.out).cell hlt (j := 5) (v := .string l[n].event) rfl
        have c6 := (HF.out.below HBW.out).cell hlt (j := 6) (v := .int .i64 l[n].attempt) rfl
        have c7 := (HF.out.below HBW.out).cell hlt (j := 7) (v := .int .i64 l[n].version) rfl
        have c8 := (HF.out.below HBW.out).cell hlt (j := 8) (v := .string l[n].worker) rfl
        have c9 := (HF.out.below HBW.out).cell hlt (j := 9) (v := .int .i64 l[n].units) rfl
        cases he : (l[n].event.toList == l[k].event.toList)
        · have hst : stays l[k].event l[n] = true := by
            rw [toList_beq, decide_eq_false_iff_not] at he
            simp [stays, he]
          have HN := Lib.hid (show keepN l l[k].event (n + 1) = keepN l l[k].event n ++ [l[n]] by rw [keepN_snoc l _ n hlt, if_pos hst])
          clear hst
          go_wp2
          go_quiet (fail)
          go_wp2_with (first
            | (at_builtin; refine wpList_app1 rfl (.tmp 55) (.tmp 60) 22 rfl i0 _ 120 Try.underlying22 hi hz0 hz1 hz2 rfl (by omega) rfl (own_drewN HO.out _) l[n].cells rfl rfl (fact_one _) (by omega) (by omega) (by simp; omega) ?_; intro v' w1 hown1 hb1 _ _))
          go_roundw
          case rel => exact ⟨n + 1, by omega, by go_num, by rw [HN.out]; unfold KeptAt; rw [List.flatMap_append, List.length_append]; simpa using hown1, (below_drewN HBR.out _).trans hb1⟩
          case measure => simp [intOf]; omega
        · by_cases h5 : l[n].kind = 5
          · have hst : ¬ stays l[k].event l[n] = true := by
              rw [toList_beq, decide_eq_true_eq] at he
              simp [stays, he, h5]
            have h5' : (l[n].kind != 5) = false := by simp [h5]
            have HN := Lib.hid (show keepN l l[k].event (n + 1) = keepN l l[k].event n by rw [keepN_snoc l _ n hlt, if_neg hst, List.append_nil])
            clear hst
            go_wp2
            go_quiet (fail)
            go_wp2
            go_roundw
            case rel => exact ⟨n + 1, by omega, by go_num, by rw [HN.out]; exact own_drewN HO.out _, below_drewN HBR.out _⟩
            case measure => simp [intOf]; omega
          · have h5' : (l[n].kind != 5) = true := by simp [h5]
            by_cases h8 : l[n].kind = 8
            · have hst : ¬ stays l[k].event l[n] = true := by
                rw [toList_beq, decide_eq_true_eq] at he
                simp [stays, he, h8]
              have h8' : (l[n].kind != 8) = false := by simp [h8]
              have HN := Lib.hid (show keepN l l[k].event (n + 1) = keepN l l[k].event n by rw [keepN_snoc l _ n hlt, if_neg hst, List.append_nil])
              clear hst
              go_wp2
              go_quiet (fail)
              go_wp2
              go_roundw
              case rel => exact ⟨n + 1, by omega, by go_num, by rw [HN.out]; exact own_drewN HO.out _, below_drewN HBR.out _⟩
              case measure => simp [intOf]; omega
            · have hst : stays l[k].event l[n] = true := by simp [stays, h5, h8]
              have h8' : (l[n].kind != 8) = true := by simp [h8]
              have HN := Lib.hid (show keepN l l[k].event (n + 1) = keepN l l[k].event n ++ [l[n]] by rw [keepN_snoc l _ n hlt, if_pos hst])
              clear hst
              go_wp2
              go_quiet (fail)
              go_wp2_with (first
                | (at_builtin; refine wpList_app1 rfl (.tmp 55) (.tmp 60) 22 rfl i0 _ 120 Try.underlying22 hi hz0 hz1 hz2 rfl (by omega) rfl (own_drewN HO.out _) l[n].cells rfl rfl (fact_one _) (by omega) (by omega) (by simp; omega) ?_; intro v' w1 hown1 hb1 _ _))
              go_roundw
              case rel => exact ⟨n + 1, by omega, by go_num, by rw [HN.out]; unfold KeptAt; rw [List.flatMap_append, List.length_append]; simpa using hown1, (below_drewN HBR.out _).trans hb1⟩
              case measure => simp [intOf]; omega
      · have hnl : n = l.length := by omega
        have HM := Lib.hid (show keepN l l[k].event n = l.filter (stays l[k].event) by rw [hnl]; unfold keepN; rw [List.take_length])
        clear hnl
        have b5 := HXR.out.cell 5 (.string l[k].event) rfl
        have hO := HO.out
        unfold KeptAt at hO
        have HO2 := Lib.hid hO
        clear hO
        go_wp2_with (first
          | (at_builtin; refine wpList_app1 rfl (.tmp 62) (.tmp 66) 22 rfl i0 _ 120 Try.underlying22 hi hz0 hz1 hz2 rfl (by omega) rfl HO2.out (accOf l[k].event).cells rfl rfl (fact_one _) (by omega) (by omega) (by omega) ?_; intro v' w1 hown1 hb1 _ hg1))
        obtain ⟨m1, hm1⟩ : ∃ m1, m1 = l.filter (stays l[k].event) ++ [accOf l[k].event] := ⟨_, rfl⟩
        have hK1 : KeptAt w1 (w.heap.size + 1) v' m1 := by
          unfold KeptAt
          rw [HM.out] at hown1
          rw [hm1, List.length_append, List.flatMap_append]
          simpa using hown1
        have hlen1 : m1.length ≤ 61 := by
          have := List.length_filter_le (stays l[k].event) l
          rw [hm1]; simp; omega
        have HK1 := Lib.hid hK1
        have HT1 := Lib.hid ((memB_iff _ _).2 (settled_tells l l[k].event _ hm1))
        obtain ⟨A1, cap1, rfl, hc1, hf1⟩ := kept_slice hK1
        have HF1 := Lib.hid hf1
        have HB1 := Lib.hid (show Below w.heap.size w w1 from HBW.out.trans (hb1.mono (by omega)))
        have HX1 : Hid (Blk w1 w.heap.size 30 l[k].cells.toArray) := (hb1.block w.heap.size (by omega)).trans HXR.out
        have hz1' : w.heap.size + 1 ≤ w1.heap.size := Nat.le_trans (by omega) hb1.size
        have HX1d : Hid (Blk w1.drew w.heap.size 30 l[k].cells.toArray) := HX1.out
        have HS1 := Lib.hid (selN_len m1 (settledB m1) m1.length)
        have b15 := HX1.out.cell 5 (.string l[k].event) rfl
        clear hK1 hf1 hown1 hb1 b5 hg1 hm1
        go_region_held3 (fun w' => w'.cell? ⟨w.heap.size, 5, none⟩ = some (.string l[k].event)) (first | assumption | go_keep)
          ((first
            | (go_at_call 13
               refine (psettled_any _ _ _ _ (by omega) hc1 HF1.out.drew).mono ?_
               rintro e w2 ⟨v, rfl, hp, hb⟩
               obtain ⟨A2, cap2, rfl, hs2⟩ := probs_slice hp
               have HB2 := Lib.hid hb
               have HS2 := Lib.hid hs2
               have b25 := (HX1d.out.below hb).cell 5 (.string l[k].event) rfl
               clear hb hp hs2)
            | (go_at_call 15
               refine (told_any _ _ _ _ _ _ (Nat.le_trans HS1.out (by omega)) HS2.out).mono ?_
               rintro e w3 ⟨rfl, rfl⟩
               rw [HT1.out])))
        have HX2 := Lib.hid (HX1d.out.below HB2.out)
        have HBw2 := Lib.hid (below_call (w0 := w1.drew) HB2.out HB1.out.drew)
        have HO3 := Lib.hid (own_below (w := w1.drew) (show w1.drew.ownsRow _ 30 10 _ _ _ from HK1.out) HB2.out)
        have hz2' : w.heap.size + 1 ≤ w2.heap.size := by
          have h1 := HB2.out.size
          have h2 : w1.drew.heap.size = w1.heap.size := rfl
          omega
        have e0 := HX2.out.cell 0 (.int .i64 l[k].kind) rfl
        have e1 := HX2.out.cell 1 (.int .i64 l[k].at_) rfl
        have e2 := HX2.out.cell 2 (.string l[k].tenant) rfl
        have e3 := HX2.out.cell 3 (.string l[k].source) rfl
        have e4 := HX2.out.cell 4 (.string l[k].key) rfl
        have e5 := HX2.out.cell 5 (.string l[k].event) rfl
        have e6 := HX2.out.cell 6 (.int .i64 l[k].attempt) rfl
        have e7 := HX2.out.cell 7 (.int .i64 l[k].version) rfl
        have e8 := HX2.out.cell 8 (.string l[k].worker) rfl
        have e9 := HX2.out.cell 9 (.int .i64 l[k].units) rfl
        have fz := HX2.out.frozen 0
        have HO4 := Lib.hid (ownsRow_setCell_below HO3.out (a := ⟨w.heap.size, 0, none⟩) (by simp) (.int .i64 5))
        have HX3 := Lib.hid (HX2.out.set_ 0 (.int .i64 5))
        have HB3 := Lib.hid (HBw2.out.setCell (p := ⟨w.heap.size, 0, none⟩) (Nat.le_refl _) (.int .i64 5))
        have hz3 : w.heap.size + 1 ≤ (w2.setCell ⟨w.heap.size, 0, none⟩ (.int .i64 5)).heap.size := by simp; omega
        obtain ⟨x, hx⟩ : ∃ x : FactD, x = { l[k] with kind := 5 } := ⟨_, rfl⟩
        have hxe : x.event = l[k].event := by rw [hx]
        have hxk : x.kind = 5 := by rw [hx]
        have HXC := Lib.hid (show x.cells ++ x.cells = [.int .i64 5, .int .i64 l[k].at_, .string l[k].tenant, .string l[k].source, .string l[k].key, .string l[k].event, .int .i64 l[k].attempt, .int .i64 l[k].version, .string l[k].worker, .int .i64 l[k].units, .int .i64 5, .int .i64 l[k].at_, .string l[k].tenant, .string l[k].source, .string l[k].key, .string l[k].event, .int .i64 l[k].attempt, .int .i64 l[k].version, .string l[k].worker, .int .i64 l[k].units] by rw [hx]; rfl)
        have HXE := Lib.hid hxe
        have HXK := Lib.hid hxk
        clear hx hxe hxk b15 b25
        go_wp2_with (first
          | (at_builtin; refine wpList_appk rfl (.tmp 75) (.tmp 78) 22 rfl i0 _ 120 Try.underlying22 hi hz0 hz1 hz2 rfl (by omega) rfl HO4.out 2 [.int .i64 5, .int .i64 l[k].at_, .string l[k].tenant, .string l[k].source, .string l[k].key, .string l[k].event, .int .i64 l[k].attempt, .int .i64 l[k].version, .string l[k].worker, .int .i64 l[k].units, .int .i64 5, .int .i64 l[k].at_, .string l[k].tenant, .string l[k].source, .string l[k].key, .string l[k].event, .int .i64 l[k].attempt, .int .i64 l[k].version, .string l[k].worker, .int .i64 l[k].units] w2.heap.size rfl (by simp) rfl (by rw [← HXC.out]; intro u hu; rcases List.mem_append.1 hu with h | h <;> exact fact_one x u h) (by omega) (by omega) hz3 ?_; intro v'' w4 hown4 hb4 hs4 _))
        obtain ⟨m2, hm2⟩ : ∃ m2, m2 = m1 ++ [x, x] := ⟨_, rfl⟩
        have hK2 : KeptAt w4 (w.heap.size + 1) v'' m2 := by
          unfold KeptAt
          rw [hm2, List.length_append, List.flatMap_append]
          have : [x, x].flatMap FactD.cells = x.cells ++ x.cells := by simp
          rw [this, HXC.out]
          exact hown4
        have hlen2 : m2.length ≤ 63 := by rw [hm2]; simp; omega
        have hto := once_tells m1 l[k].event x HXE.out HXK.out m2 hm2
        have HT2 := Lib.hid ((memB_iff _ _).2 hto.1)
        have HT3 := Lib.hid ((memB_not _ _).2 hto.2)
        obtain ⟨A4, cap4, rfl, hc4, hf4⟩ := kept_slice hK2
        have HF4 := Lib.hid hf4
        have HB4 := Lib.hid (show Below w.heap.size w w4 from HB3.out.trans (hb4.mono (by omega)))
        have HX4 : Hid (Blk w4 w.heap.size 30 _) := (hb4.block w.heap.size (by omega)).trans HX3.out
        have HX4d := Lib.hid HX4.out.drew
        have HL2 := Lib.hid (selN_len m2 (onceB m2) m2.length)
        have HL3 := Lib.hid (selN_len m2 (settledB m2) m2.length)
        have b45 := HX4.out.cell 5 (.string l[k].event) rfl
        clear hK2 hf4 hown4 hb4 hm2 hto hs4 e0 e1 e2 e3 e4 e5 e6 e7 e8 e9 fz
        go_region_held3 (fun w' => w'.cell? ⟨w.heap.size, 5, none⟩ = some (.string l[k].event)) (first | assumption | go_keep)
          ((first
            | (go_at_call 9
               refine (ponce_any _ _ _ _ (by omega) hc4 HF4.out.drew).mono ?_
               rintro e w5 ⟨v, rfl, hp, hb⟩
               obtain ⟨A5, cap5, rfl, hs5⟩ := probs_slice hp
               have HB5 := Lib.hid hb
               have HS5 := Lib.hid hs5
               have HX5 := Lib.hid (HX4d.out.below hb)
               have HF5 := Lib.hid (HF4.out.drew.below hb)
               have b55 := HX5.out.cell 5 (.string l[k].event) rfl
               clear hb hp hs5)
            | (go_at_call 15
               (with_reducible refine (told_any A5 cap5 sOnce _ _ _ (Nat.le_trans HL2.out (by omega)) HS5.out).mono ?_)
               rintro e w3 ⟨rfl, rfl⟩
               rw [HT2.out])
            | (go_at_call 13
               refine (psettled_any _ _ _ _ (by omega) hc4 HF5.out).mono ?_
               rintro e w6 ⟨v, rfl, hp, hb⟩
               obtain ⟨A6, cap6, rfl, hs6⟩ := probs_slice hp
               have HB6 := Lib.hid (below_call hb HB5.out)
               have HS6 := Lib.hid hs6
               have HX6 := Lib.hid (HX5.out.below hb)
               have b65 := HX6.out.cell 5 (.string l[k].event) rfl
               clear hb hp hs6)
            | (go_at_call 15
               (with_reducible refine (told_any A6 cap6 sSettled _ _ _ (Nat.le_trans HL3.out (by omega)) HS6.out).mono ?_)
               rintro e w3 ⟨rfl, rfl⟩
               rw [HT3.out])
            | (go_at_call 7
               refine (awake_any _).mono ?_
               rintro e w7 ⟨rfl, hb⟩
               have HB7 := Lib.hid (below_call hb HB6.out)
               have b75 := (HX6.out.below hb).cell 5 (.string l[k].event) rfl
               clear hb)))
        go_wp2_with (fail)
        go_ret
        exact ⟨rfl, below_call (w0 := w4.drew) HB7.out HB4.out.drew⟩
  · have hl' : (60 : Int) < (l.length : Int) := by omega
    clear hl hf hl0
    go_enter Try.func4, Try.ntmps4
    go_wp2_with (fail)
    refine (awake_any _).mono ?_
    rintro e w7 ⟨rfl, hb⟩
    have HB7 := Lib.hid hb
    clear hb
    go_wp2_with (fail)
    go_ret
    exact ⟨rfl, HB7.out⟩
end Go.Proofs.Ytcnmdhdoiekfoaa
