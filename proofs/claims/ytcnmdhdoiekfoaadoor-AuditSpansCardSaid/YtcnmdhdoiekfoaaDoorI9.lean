/- The walk of the reference's Spans. -/
import Derived.Test.YtcnmdhdoiekfoaaDoorI8a
import Derived.Deep.QuietTactic
import Derived.BigQuiet
namespace Go.Proofs.YtcnmdhdoiekfoaaDoor
open Go.RowKit Go.Sort
set_option maxRecDepth 100000

attribute [local go_sem] cell_alloc_is
set_option maxHeartbeats 4000000 in
theorem rspans_any (A : Option Addr) (cap : Nat) (l : List FactD) (w : World) (hl : l.length ≤ 60) (hev : ∀ f ∈ l, f.event.size ≤ 140737488351232) (hf : FactsAt w A l) :
    Calls Tryd.prog 6 #[.slice A l.length cap] w fun e w' => ∃ v, e = .returned v ∧ SpansAt w' w.heap.size v (spansN l l.length) ∧ Below w.heap.size w w' := by
  obtain ⟨i0, hi, hz0, hz1, hz2⟩ := info_parts Tryd.infoSpan
  have HF := Lib.hid hf
  go_enter Tryd.func6, Tryd.ntmps6
  go_wp2_with (first
    | (go_at_call 14; refine (counted_any _ _ _ _ (by omega)).mono ?_; rintro e w' ⟨rfl, rfl⟩))
  go_loopw [3, 4] (fun out i wr => ∃ n : Nat, n ≤ l.length ∧ i = .int .i64 n ∧ SpansAt wr w.heap.size out (spansN l n) ∧ Below w.heap.size w wr) (fun _ i _ => l.length - (intOf i).toNat)
  case atStart => exact ⟨0, Nat.zero_le _, rfl, World.ownsRow_nil _ _ _ _, Below.refl _ _⟩
  case round =>
    obtain ⟨n, hn, rfl, hown, hbel⟩ := hrel
    obtain ⟨wo, rfl⟩ : ∃ wo : World, wo = wr := ⟨_, rfl⟩
    have HO := Lib.hid (show wo.ownsRow w.heap.size 27 6 _ _ _ from hown)
    have HB := Lib.hid hbel
    have hsl := spansN_len l n
    clear hown
    by_cases hlt : n < l.length
    · obtain ⟨b, off, rfl, hbw⟩ := hf.ptr hlt
      have hwwo := HB.out.size
      have hlt' : (n : Int) < (l.length : Int) := by omega
      have hn0 : (0 : Int) ≤ (n : Int) := by omega
      have hfn := HF.out.below HB.out
      have HFO := Lib.hid hfn
      have c0 := hfn.cell0 hlt (v := .int .i64 l[n].kind) rfl
      have c1 := hfn.cell hlt (j := 1) (v := .int .i64 l[n].at_) rfl
      have c3 := hfn.cell hlt (j := 3) (v := .string l[n].source) rfl
      have c5 := hfn.cell hlt (j := 5) (v := .string l[n].event) rfl
      have hes := hev l[n] (List.getElem_mem _)
      clear hfn
      by_cases hk : l[n].kind = 1
      · have hge := first_ge hlt hk
        by_cases hfn : firstN l 1 l[n].event 0 = n
        · by_cases hid : idB l[n].event = true
          · have HN := Lib.hid (spansN_yes hlt (show keepB l n l[n] = true by simp [keepB, hk, hfn, hid]))
            have HI := Lib.hid hid
            have HFI := Lib.hid hfn
            have HC1 : Hid (Calls Tryd.prog 17 #[.slice (some ⟨b, off, none⟩) l.length cap, .string l[n].event] wo.drew fun e w' => e = .returned (.string (causeR l l[n].event)) ∧ wo.drew = w') :=
              (ancestor_any _ cap l l[n].event _ (by omega) hes HFO.out.drew).mono fun e w' h => ⟨h.1, h.2.symm⟩
            have HC2 : Hid (∀ o, Calls Tryd.prog 17 #[.slice (some ⟨b, off, none⟩) l.length cap, .string l[n].event] (wo.alloc o).drew fun e w' => e = .returned (.string (causeR l l[n].event)) ∧ (wo.alloc o).drew = w') :=
              fun o => (ancestor_any _ cap l l[n].event _ (by omega) hes (HFO.out.alloc _).drew).mono fun e w' h => ⟨h.1, h.2.symm⟩
            clear hfn hid hge
            go_upto_region 8 with (first
              | (go_at_call 15; refine (first_any _ _ _ _ _ _ (by omega) HFO.out).mono ?_; rintro e w2 ⟨rfl, rfl⟩; rw [HFI.out])
              | (go_at_call 16; refine (rid_any _ _ hes).mono ?_; rintro e w2 ⟨rfl, h2⟩; obtain rfl := h2.symm; clear h2; rw [HI.out]))
            go_cut [6] from 39 to 58 (fun v wx => SpanVar wo l[n].event l[n].source (causeR l l[n].event) l[n].at_ l[n].at_ v wx)
            case first =>
              go_region_held3 (fun w' => w'.cell? ⟨b, off + n * 10 + 3, none⟩ = some (.string l[n].source) ∧ w'.cell? ⟨b, off + n * 10 + 1, none⟩ = some (.int .i64 l[n].at_)) (first | assumption | go_keep) ((first
                | (go_at_call 17; with_reducible refine HC1.out.mono ?_; rintro e w4 ⟨rfl, rfl⟩)
                | (go_at_call 17; with_reducible refine (HC2.out _).mono ?_; rintro e w4 ⟨rfl, rfl⟩)))
              all_goals (go_wp2_with fail; go_meet; exact ⟨wo.heap.size, rfl, Nat.le_refl _, Blk.new _ _ _, below_new_drew _ _⟩)
            case rest =>
              obtain ⟨g, rfl, hg9, hB9, hb9⟩ := hcut
              have HB9 := Lib.hid hb9
              have HG9 := Lib.hid hB9
              clear hb9 hB9
              go_wp2_with (fail)
              go_loopw [7] (fun i wi => ∃ k : Nat, k ≤ l.length ∧ i = .int .i64 k ∧ Below wo.heap.size wo wi ∧ Blk wi g 27 #[.string l[n].event, .string ⟨#[]⟩, .string (causeR l l[n].event), .string l[n].source, .int .i64 (minA (l.take k) l[n].event l[n].at_), .int .i64 (maxA (l.take k) l[n].event l[n].at_)]) (fun i _ => l.length - (intOf i).toNat)
              case atStart => exact ⟨0, Nat.zero_le _, rfl, HB9.out, HG9.out⟩
              case round =>
                obtain ⟨k, hk, rfl, hbk, hGk⟩ := hrel
                have HGk := Lib.hid hGk
                have HBk := Lib.hid hbk
                clear hGk hbk
                by_cases hlk : k < l.length
                · have hlk' : (k : Int) < (l.length : Int) := by omega
                  have hk0 : (0 : Int) ≤ (k : Int) := by omega
                  have HFK := Lib.hid (HFO.out.below HBk.out)
                  have d1 := HFK.out.cell hlk (j := 1) (v := .int .i64 l[k].at_) rfl
                  have d5 := HFK.out.cell hlk (j := 5) (v := .string l[k].event) rfl
                  have HMI := Lib.hid (minA_snoc l l[n].event l[n].at_ k hlk)
                  have HMA := Lib.hid (maxA_snoc l l[n].event l[n].at_ k hlk)
                  have q4 := HGk.out.cell 4 (.int .i64 (minA (l.take k) l[n].event l[n].at_)) rfl
                  have q5 := HGk.out.cell 5 (.int .i64 (maxA (l.take k) l[n].event l[n].at_)) rfl
                  have z4 := HGk.out.frozen 4
                  have z5 := HGk.out.frozen 5
                  have hgb : ¬ g = b := by omega
                  have hbg : ¬ b = g := by omega
                  by_cases hev2 : l[k].event = l[n].event
                  · have h3 : (l[k].event.toList == l[n].event.toList) = true := by rw [toList_beq]; simpa using hev2
                    have HE := Lib.hid hev2
                    clear hev2
                    by_cases hmi : l[k].at_ < minA (l.take k) l[n].event l[n].at_
                    · by_cases hma : maxA (l.take k) l[n].event l[n].at_ < l[k].at_
                      · go_wp2_with fail
                        go_quiet (fail)
                        go_wp2_with fail
                        go_quiet (fail)
                        go_wp2_with fail
                        refine ⟨⟨k + 1, by omega, by simp, ((below_drewN ((below_drewN HBk.out _).setCell (p := ⟨g, 4, none⟩) hg9 _) _).setCell (p := ⟨g, 5, none⟩) hg9 _), ?_⟩, by simp [intOf]; omega⟩
                        rw [HMI.out, HMA.out, if_pos HE.out, if_pos HE.out, (show min (minA (l.take k) l[n].event l[n].at_) l[k].at_ = l[k].at_ by omega), (show max (maxA (l.take k) l[n].event l[n].at_) l[k].at_ = l[k].at_ by omega)]
                        exact (HGk.out.set_ 4 _).set_ 5 _
                      · go_wp2_with fail
                        go_quiet (fail)
                        go_wp2_with fail
                        go_quiet (fail)
                        go_wp2_with fail
                        refine ⟨⟨k + 1, by omega, by simp, below_drewN ((below_drewN HBk.out _).setCell (p := ⟨g, 4, none⟩) hg9 _) _, ?_⟩, by simp [intOf]; omega⟩
                        rw [HMI.out, HMA.out, if_pos HE.out, if_pos HE.out, (show min (minA (l.take k) l[n].event l[n].at_) l[k].at_ = l[k].at_ by omega), (show max (maxA (l.take k) l[n].event l[n].at_) l[k].at_ = maxA (l.take k) l[n].event l[n].at_ by omega)]
                        exact (HGk.out.set_ 4 _)
                    · by_cases hma : maxA (l.take k) l[n].event l[n].at_ < l[k].at_
                      · go_wp2_with fail
                        go_quiet (fail)
                        go_wp2_with fail
                        go_quiet (fail)
                        go_wp2_with fail
                        refine ⟨⟨k + 1, by omega, by simp, (below_drewN HBk.out _).setCell (p := ⟨g, 5, none⟩) hg9 _, ?_⟩, by simp [intOf]; omega⟩
                        rw [HMI.out, HMA.out, if_pos HE.out, if_pos HE.out, (show min (minA (l.take k) l[n].event l[n].at_) l[k].at_ = minA (l.take k) l[n].event l[n].at_ by omega), (show max (maxA (l.take k) l[n].event l[n].at_) l[k].at_ = l[k].at_ by omega)]
                        exact (HGk.out.set_ 5 _)
                      · go_wp2_with fail
                        go_quiet (fail)
                        go_wp2_with fail
                        go_quiet (fail)
                        go_wp2_with fail
                        refine ⟨⟨k + 1, by omega, by simp, below_drewN HBk.out _, ?_⟩, by simp [intOf]; omega⟩
                        rw [HMI.out, HMA.out, if_pos HE.out, if_pos HE.out, (show min (minA (l.take k) l[n].event l[n].at_) l[k].at_ = minA (l.take k) l[n].event l[n].at_ by omega), (show max (maxA (l.take k) l[n].event l[n].at_) l[k].at_ = maxA (l.take k) l[n].event l[n].at_ by omega)]
                        exact HGk.out.drewN _
                  · have h3 : (l[k].event.toList == l[n].event.toList) = false := by rw [toList_beq]; simpa using hev2
                    have HE := Lib.hid hev2
                    clear hev2
                    go_wp2_with fail
                    go_quiet (fail)
                    go_wp2_with fail
                    go_quiet (fail)
                    go_wp2_with fail
                    refine ⟨⟨k + 1, by omega, by simp, below_drewN HBk.out _, ?_⟩, by simp [intOf]; omega⟩
                    rw [HMI.out, HMA.out, if_neg HE.out, if_neg HE.out]
                    exact HGk.out.drewN _
                · have e : k = l.length := by omega
                  subst e
                  have HGe := Lib.hid (show Blk wr g 27 #[.string (spanOf l l[n]).id, .string ⟨#[]⟩, .string (spanOf l l[n]).cause, .string (spanOf l l[n]).name, .int .i64 (spanOf l l[n]).from_, .int .i64 (spanOf l l[n]).to_] by have := HGk.out; rw [List.take_length] at this; exact this)
                  have q0 := HGe.out.cell 0 (.string (spanOf l l[n]).id) rfl
                  have q1 := HGe.out.cell 1 (.string ⟨#[]⟩) rfl
                  have q2 := HGe.out.cell 2 (.string (spanOf l l[n]).cause) rfl
                  have q3 := HGe.out.cell 3 (.string (spanOf l l[n]).name) rfl
                  have q4 := HGe.out.cell 4 (.int .i64 (spanOf l l[n]).from_) rfl
                  have q5 := HGe.out.cell 5 (.int .i64 (spanOf l l[n]).to_) rfl
                  have HOk := Lib.hid (own_below HO.out HBk.out)
                  have hsz1 : w.heap.size ≤ wr.heap.size := by have := HBk.out.size; have := HB.out.size; omega
                  go_wp2_with (first
                    | (at_builtin; refine wpList_app1 rfl (.tmp 111) (.tmp 113) 24 rfl i0 _ 80 Tryd.underlying24 hi hz0 hz1 hz2 rfl (by omega) rfl HOk.out [.string (spanOf l l[n]).id, .string ⟨#[]⟩, .string (spanOf l l[n]).cause, .string (spanOf l l[n]).name, .int .i64 (spanOf l l[n]).from_, .int .i64 (spanOf l l[n]).to_] rfl rfl (one6 _ _ _ _ _ _) (by omega) (by omega) hsz1 ?_; intro v' w6 hown1 hb6 _ _))
                  refine ⟨⟨n + 1, by omega, by simp, ?_, ?_⟩, by simp [intOf]; omega⟩
                  · rw [HN.out]
                    unfold SpansAt
                    rw [flat_spans, List.length_append]
                    exact hown1
                  · exact (below_call' HBk.out HB.out HB.out.size).trans hb6
          · have HN := Lib.hid (spansN_no hlt (show keepB l n l[n] = false by simp [keepB, hid]))
            have HI := Lib.hid (show idB l[n].event = false by simpa using hid)
            have HFI := Lib.hid hfn
            clear hfn hid hge
            go_wp2_with (first
              | (go_at_call 15; refine (first_any _ _ _ _ _ _ (by omega) HFO.out).mono ?_; rintro e w2 ⟨rfl, rfl⟩; rw [HFI.out])
              | (go_at_call 16; refine (rid_any _ _ hes).mono ?_; rintro e w2 ⟨rfl, h2⟩; obtain rfl := h2.symm; clear h2; rw [HI.out]))
            refine ⟨⟨n + 1, by omega, by simp, by rw [HN.out]; exact HO.out, HB.out⟩, by simp [intOf]; omega⟩
        · have HN := Lib.hid (spansN_no hlt (show keepB l n l[n] = false by simp [keepB, hfn]))
          obtain ⟨d, hd⟩ : ∃ d, firstN l 1 l[n].event 0 = d := ⟨_, rfl⟩
          have hdn : ¬ d = (n : Int) := by rw [← hd]; exact hfn
          have HD := Lib.hid hd
          clear hfn hge hd
          go_wp2_with (first
            | (go_at_call 15; refine (first_any _ _ _ _ _ _ (by omega) HFO.out).mono ?_; rintro e w2 ⟨rfl, rfl⟩; rw [HD.out]))
          refine ⟨⟨n + 1, by omega, by simp, by rw [HN.out]; exact HO.out, HB.out⟩, by simp [intOf]; omega⟩
      · have HN := Lib.hid (spansN_no hlt (show keepB l n l[n] = false by simp [keepB, hk]))
        go_wp2_with fail
        refine ⟨⟨n + 1, by omega, by simp, by rw [HN.out]; exact HO.out, HB.out⟩, by simp [intOf]; omega⟩
    · have e : n = l.length := by omega
      subst e
      go_wp2
      go_ret
      exact ⟨_, rfl, HO.out, HB.out⟩
end Go.Proofs.YtcnmdhdoiekfoaaDoor
