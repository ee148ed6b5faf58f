/- The walk of the program's Spans. -/
import Derived.Test.YtcnmdhdoiekfoaaDoorI8a
namespace Go.Proofs.YtcnmdhdoiekfoaaDoor
open Go.RowKit Go.Sort
set_option maxRecDepth 100000
attribute [local go_sem] cell_alloc_is
set_option maxHeartbeats 4000000 in
theorem pspans_any (A : Option Addr) (cap : Nat) (l : List FactD) (w : World) (hl : l.length ≤ 60) (hc : l.length ≤ cap) (hev : ∀ f ∈ l, f.event.size ≤ 140737488351232) (hf : FactsAt w A l) (hL : Laid w) :
    Calls Tryd.prog 5 #[.slice A l.length cap] w fun e w' => ∃ v base, w.heap.size ≤ base ∧ e = .returned v ∧ SpansAt w' base v (spansN l l.length) ∧ Below w.heap.size w w' := by
  obtain ⟨i0, hi, hz0, hz1, hz2⟩ := info_parts Tryd.infoSpan
  have HF := Lib.hid hf
  go_enter Tryd.func5, Tryd.ntmps5
  go_wp2_with (first
    | (go_at_call 10; refine (pfirst_any _ _ _ _ (by omega) hc).mono ?_; rintro e w' ⟨rfl, rfl⟩)
    | (go_at_call 11; refine (histories_any _ _ _ _ (by omega) hf).mono ?_; rintro e w1 ⟨ov, o, hs, rfl, hown, hh, habs, hb1⟩))
  have HH := Lib.hid hh
  have HA := Lib.hid habs
  have HB1 := Lib.hid hb1
  clear hown hh habs hb1
  go_loopw [5, 21] (fun out i wr => ∃ n : Nat, n ≤ l.length ∧ i = .int .i64 n ∧ SpansAt wr w1.heap.size out (spansN l n) ∧ Below w1.heap.size w1 wr) (fun _ i _ => l.length - (intOf i).toNat)
  case atStart => exact ⟨0, Nat.zero_le _, rfl, World.ownsRow_nil _ _ _ _, Below.refl _ _⟩
  case round =>
    obtain ⟨n, hn, rfl, hown, hbel⟩ := hrel
    obtain ⟨wo, rfl⟩ : ∃ wo : World, wo = wr := ⟨_, rfl⟩
    have HO := Lib.hid (show wo.ownsRow w1.heap.size 27 6 _ _ _ from hown)
    have HB := Lib.hid (below_call' hbel HB1.out HB1.out.size)
    have HHw := Lib.hid (HH.out.below hbel)
    have hsl := spansN_len l n
    clear hown
    by_cases hlt : n < l.length
    · obtain ⟨b, off, rfl, _⟩ := hf.ptr hlt
      have hfn := HF.out.below HB.out
      have c0 := hfn.cell0 hlt (v := .int .i64 l[n].kind) rfl
      have c1 := hfn.cell hlt (j := 1) (v := .int .i64 l[n].at_) rfl
      have c2 := hfn.cell hlt (j := 2) (v := .string l[n].tenant) rfl
      have c3 := hfn.cell hlt (j := 3) (v := .string l[n].source) rfl
      have c4 := hfn.cell hlt (j := 4) (v := .string l[n].key) rfl
      have c5 := hfn.cell hlt (j := 5) (v := .string l[n].event) rfl
      have c6 := hfn.cell hlt (j := 6) (v := .int .i64 l[n].attempt) rfl
      have c7 := hfn.cell hlt (j := 7) (v := .int .i64 l[n].version) rfl
      have c8 := hfn.cell hlt (j := 8) (v := .string l[n].worker) rfl
      have c9 := hfn.cell hlt (j := 9) (v := .int .i64 l[n].units) rfl
      obtain ⟨r, hr⟩ := ev_some HA.out hlt
      have HG := Lib.hid (show alGet (hs.map fun p => (p.1, (some p.2.ab, some p.2.cb))) l[n].event = some (some r.ab, some r.cb) by rw [alGet_map hs (fun r : HR => (some r.ab, some r.cb)), hr]; rfl)
      have HM := Lib.hid (HHw.out.get hr)
      have HAT := Lib.hid (at_of HA.out hr)
      have hes := hev l[n] (List.getElem_mem _)
      clear hfn hr
      by_cases hk : l[n].kind = 1
      · have hge := first_ge hlt hk
        by_cases hfn : firstN l 1 l[n].event 0 = n
        · have HD := Lib.hid (show (alGet r.am 1).getD 0 = (n : Int) by rw [HAT.out, if_neg (by omega), hfn])
          by_cases hid : idB l[n].event = true
          · have HN := Lib.hid (spansN_yes hlt (show keepB l n l[n] = true by simp [keepB, hk, hfn, hid]))
            have HI := Lib.hid hid
            clear hfn hid hge
            go_wp2_with (first
              | (at_lookup; refine wpList_look' rfl (.tmp 26) (.tmp 28) rfl Tryd.kS Tryd.underlying39 (none, none) (Tryd.zero44 _) rfl l[n].event rfl (HHw.out.1.alloc _) (some (some r.ab, some r.cb)) HG.out (.agg #[.map (some r.ab), .map (some r.cb)]) rfl ?_)
              | (at_lookup; refine wpList_look' rfl (.tmp 35) (.const (.int .i64 1)) rfl Tryd.kI Tryd.underlying42 0 (Tryd.zero3 _) rfl 1 rfl ((HM.out.1.alloc _).alloc _) _ rfl (.int .i64 n) (congrArg (Value.int .i64) HD.out) ?_))
            refine (id_any _ _ hes).mono ?_
            rintro e w3 ⟨rfl, hb3⟩
            rw [HI.out]
            have hbl : Below wo.heap.size wo w3 := below_call hb3 (below_call (below_new _ _) (below_new wo _))
            have HX := Lib.hid ((((Blk.new wo 33 #[.int .i64 1, .int .i64 l[n].at_, .string l[n].tenant, .string l[n].source, .string l[n].key, .string l[n].event, .int .i64 l[n].attempt, .int .i64 l[n].version, .string l[n].worker, .int .i64 l[n].units]).alloc (.cells #[.map (some r.ab), .map (some r.cb)] 44)).below hb3))
            have HC1 : Hid (Calls Tryd.prog 13 #[.map (some o), .string l[n].event] w3.drew fun e w' => e = .returned (.string (causeR l l[n].event)) ∧ Below w3.heap.size w3 w') :=
              (cause_any w.heap.size o l hs l[n].event _ hes (HHw.out.below (below_call (below_drew w3) hbl)) HA.out (hL.below (below_call' (below_call (below_drew w3) hbl) HB.out HB.out.size))).mono fun e w' h => ⟨h.1, below_call h.2 (below_drew w3)⟩
            have HC2 : Hid (Calls Tryd.prog 13 #[.map (some o), .string l[n].event] (w3.alloc (.cells #[.string ⟨#[]⟩, .string ⟨#[]⟩, .string ⟨#[]⟩, .string ⟨#[]⟩, .int .i64 0, .int .i64 0] 27)).drew fun e w' => e = .returned (.string (causeR l l[n].event)) ∧ Below w3.heap.size w3 w' ∧ Blk w' w3.heap.size 27 #[.string ⟨#[]⟩, .string ⟨#[]⟩, .string ⟨#[]⟩, .string ⟨#[]⟩, .int .i64 0, .int .i64 0]) :=
              (cause_any w.heap.size o l hs l[n].event _ hes (HHw.out.below (below_call (below_new_drew w3 _) hbl)) HA.out (hL.below (below_call' (below_call (below_new_drew w3 _) hbl) HB.out HB.out.size))).mono fun e w' h => ⟨h.1, below_call h.2 (below_new_drew w3 _), (Blk.new w3 _ _).drew.below h.2⟩
            have HBL := Lib.hid hbl
            clear hb3 hbl
            have x1 := HX.out.cell 1 (.int .i64 l[n].at_) rfl
            have x3 := HX.out.cell 3 (.string l[n].source) rfl
            have x5 := HX.out.cell 5 (.string l[n].event) rfl
            go_upto_region 9 with fail
            go_cut [9] from 46 to 58 (fun v wx => SpanVar w3 l[n].event l[n].source (causeR l l[n].event) l[n].at_ l[n].at_ v wx)
            case first =>
              refine wp_region_held_drew (S := fun w' => w'.cell? ⟨wo.heap.size, 5, none⟩ = some (.string l[n].event) ∧ w'.cell? ⟨wo.heap.size, 3, none⟩ = some (.string l[n].source) ∧ w'.cell? ⟨wo.heap.size, 1, none⟩ = some (.int .i64 l[n].at_)) (by kernel_rfl) ⟨x5, x3, x1⟩ (fun hHeld => ?_)
              refine wpAnyH_take (i := 0) (oi := _) (v := .pointer (some ⟨wo.heap.size, 5, none⟩)) rfl (by kernel_rfl) (by kernel_rfl) (by kernel_rfl) (fun _ _ _ h => h) (Or.inl ⟨by rfl, by intro w hSw; (try dsimp only at hSw); go_simp⟩) (by assumption) ?_
              simp only [Act.put, List.setIfInBounds_toArray, List.set_cons_zero, List.set_cons_succ]
              refine wpAnyH_take (i := 1) (oi := _) (v := .string l[n].event) rfl (by kernel_rfl) (by kernel_rfl) (by kernel_rfl) (fun _ _ _ h => h) (Or.inl ⟨by rfl, by intro w hSw; (try dsimp only at hSw); go_simp⟩) (by assumption) ?_
              simp only [Act.put, List.setIfInBounds_toArray, List.set_cons_zero, List.set_cons_succ]
              refine wpAnyH_take (i := 2) (oi := _) (v := .pointer (some ⟨wo.heap.size, 3, none⟩)) rfl (by kernel_rfl) (by kernel_rfl) (by kernel_rfl) (fun _ _ _ h => h) (Or.inl ⟨by rfl, by intro w hSw; (try dsimp only at hSw); go_simp⟩) (by assumption) ?_
              simp only [Act.put, List.setIfInBounds_toArray, List.set_cons_zero, List.set_cons_succ]
              refine wpAnyH_take (i := 3) (oi := _) (v := .string l[n].source) rfl (by kernel_rfl) (by kernel_rfl) (by kernel_rfl) (fun _ _ _ h => h) (Or.inl ⟨by rfl, by intro w hSw; (try dsimp only at hSw); go_simp⟩) (by assumption) ?_
              simp only [Act.put, List.setIfInBounds_toArray, List.set_cons_zero, List.set_cons_succ]
              refine wpAnyH_take (i := 4) (oi := _) (v := .map (some o)) rfl (by kernel_rfl) (by kernel_rfl) (by kernel_rfl) (fun _ _ _ h => h) (Or.inl ⟨by rfl, by intro w hSw; (try dsimp only at hSw); go_simp⟩) (by assumption) ?_
              simp only [Act.put, List.setIfInBounds_toArray, List.set_cons_zero, List.set_cons_succ]
              refine wpAnyH_take (i := 5) (oi := _) (v := .pointer (some ⟨wo.heap.size, 5, none⟩)) rfl (by kernel_rfl) (by kernel_rfl) (by kernel_rfl) (fun _ _ _ h => h) (Or.inl ⟨by rfl, by intro w hSw; (try dsimp only at hSw); go_simp⟩) (by assumption) ?_
              simp only [Act.put, List.setIfInBounds_toArray, List.set_cons_zero, List.set_cons_succ]
              refine wpAnyH_take (i := 6) (oi := _) (v := .string l[n].event) rfl (by kernel_rfl) (by kernel_rfl) (by kernel_rfl) (fun _ _ _ h => h) (Or.inl ⟨by rfl, by intro w hSw; (try dsimp only at hSw); go_simp⟩) (by assumption) ?_
              simp only [Act.put, List.setIfInBounds_toArray, List.set_cons_zero, List.set_cons_succ]
              refine wpAnyH_take (i := 8) (oi := _) (v := .pointer (some ⟨wo.heap.size, 1, none⟩)) rfl (by kernel_rfl) (by kernel_rfl) (by kernel_rfl) (fun _ _ _ h => h) (Or.inl ⟨by rfl, by intro w hSw; (try dsimp only at hSw); go_simp⟩) (by assumption) ?_
              simp only [Act.put, List.setIfInBounds_toArray, List.set_cons_zero, List.set_cons_succ]
              refine wpAnyH_take (i := 9) (oi := _) (v := .int .i64 l[n].at_) rfl (by kernel_rfl) (by kernel_rfl) (by kernel_rfl) (fun _ _ _ h => h) (Or.inl ⟨by rfl, by intro w hSw; (try dsimp only at hSw); go_simp⟩) (by assumption) ?_
              simp only [Act.put, List.setIfInBounds_toArray, List.set_cons_zero, List.set_cons_succ]
              refine wpAnyH_take (i := 10) (oi := _) (v := .pointer (some ⟨wo.heap.size, 1, none⟩)) rfl (by kernel_rfl) (by kernel_rfl) (by kernel_rfl) (fun _ _ _ h => h) (Or.inl ⟨by rfl, by intro w hSw; (try dsimp only at hSw); go_simp⟩) (by assumption) ?_
              simp only [Act.put, List.setIfInBounds_toArray, List.set_cons_zero, List.set_cons_succ]
              refine wpAnyH_take (i := 11) (oi := _) (v := .int .i64 l[n].at_) rfl (by kernel_rfl) (by kernel_rfl) (by kernel_rfl) (fun _ _ _ h => h) (Or.inl ⟨by rfl, by intro w hSw; (try dsimp only at hSw); go_simp⟩) (by assumption) ?_
              simp only [Act.put, List.setIfInBounds_toArray, List.set_cons_zero, List.set_cons_succ]
              refine wpAnyH_ready (rs := [7, 13]) (by kernel_rfl) (by simp) ?_
              refine AllReadyH.cons (o := _) rfl (fun K hK => ?_) ?_
              · go_simp
                with_reducible refine HC1.out.mono ?_
                rintro e w4 ⟨rfl, h34⟩
                go_wp2_with fail
                have HX4 := Lib.hid (HX.out.below h34)
                refine hK.out _ _ ⟨HX4.out.cell 5 (.string l[n].event) rfl, HX4.out.cell 3 (.string l[n].source) rfl, HX4.out.cell 1 (.int .i64 l[n].at_) rfl⟩ (fun hHeld => ?_)
                clear hK K
                try simp only [Act.put, List.setIfInBounds_toArray, List.set_cons_zero, List.set_cons_succ]
                refine wpAnyH_take (i := 12) (oi := _) (v := .agg #[.string l[n].event, .string ⟨#[]⟩, .string (causeR l l[n].event), .string l[n].source, .int .i64 l[n].at_, .int .i64 l[n].at_]) rfl (by kernel_rfl) (by kernel_rfl) (by kernel_rfl) (fun _ _ _ h => h) (Or.inl ⟨by rfl, by intro w hSw; (try dsimp only at hSw); go_simp⟩) (by assumption) ?_
                simp only [Act.put, List.setIfInBounds_toArray, List.set_cons_zero, List.set_cons_succ]
                refine wpAnyH_ready (rs := [13]) (by kernel_rfl) (by simp) ?_
                refine AllReadyH.cons (o := _) rfl (fun K hK => ?_) AllReadyH.nil
                go_simp
                have HX5 := Lib.hid (HX4.out.alloc (.cells #[.string ⟨#[]⟩, .string ⟨#[]⟩, .string ⟨#[]⟩, .string ⟨#[]⟩, .int .i64 0, .int .i64 0] 27))
                refine hK.out _ _ ⟨HX5.out.cell 5 (.string l[n].event) rfl, HX5.out.cell 3 (.string l[n].source) rfl, HX5.out.cell 1 (.int .i64 l[n].at_) rfl⟩ (fun hHeld => ?_)
                clear hK K
                try simp only [Act.put, List.setIfInBounds_toArray, List.set_cons_zero, List.set_cons_succ]
                refine wpAnyH_ready (rs := [14]) (by kernel_rfl) (by simp) ?_
                refine AllReadyH.cons (o := _) rfl (fun K hK => ?_) AllReadyH.nil
                rw [if_pos (by rfl)]
                refine wp_store_row _ _ _ rfl w4.heap.size #[.string l[n].event, .string ⟨#[]⟩, .string (causeR l l[n].event), .string l[n].source, .int .i64 l[n].at_, .int .i64 l[n].at_] rfl rfl 27 _ (Blk.new w4 27 _) (by kernel_rfl) rfl (by simp [Value.oneCell']) ?_
                have HX6 := Lib.hid (HX5.out.row_far (cs' := #[.string l[n].event, .string ⟨#[]⟩, .string (causeR l l[n].event), .string l[n].source, .int .i64 l[n].at_, .int .i64 l[n].at_]) (Nat.ne_of_lt HX4.out.lt))
                refine hK.out _ _ ⟨HX6.out.cell 5 (.string l[n].event) rfl, HX6.out.cell 3 (.string l[n].source) rfl, HX6.out.cell 1 (.int .i64 l[n].at_) rfl⟩ (fun hHeld => ?_)
                refine wpAnyH_done (by kernel_rfl) ?_ _
                dsimp only [List.getElem_toArray, List.getElem_cons_succ, List.getElem_cons_zero, Act.put]
                go_wp2_with fail
                go_meet
                exact ⟨_, rfl, h34.size, (Blk.new w4 27 _).setRow, below_setRow (h34.alloc h34.size _) h34.size _⟩
              · refine AllReadyH.cons (o := _) rfl (fun K hK => ?_) AllReadyH.nil
                go_simp
                have HX3 := Lib.hid (HX.out.alloc (.cells #[.string ⟨#[]⟩, .string ⟨#[]⟩, .string ⟨#[]⟩, .string ⟨#[]⟩, .int .i64 0, .int .i64 0] 27))
                refine hK.out _ _ ⟨HX3.out.cell 5 (.string l[n].event) rfl, HX3.out.cell 3 (.string l[n].source) rfl, HX3.out.cell 1 (.int .i64 l[n].at_) rfl⟩ (fun hHeld => ?_)
                clear hK K
                try simp only [Act.put, List.setIfInBounds_toArray, List.set_cons_zero, List.set_cons_succ]
                refine wpAnyH_ready (rs := [7]) (by kernel_rfl) (by simp) ?_
                refine AllReadyH.cons (o := _) rfl (fun K hK => ?_) AllReadyH.nil
                go_simp
                with_reducible refine HC2.out.mono ?_
                rintro e w4 ⟨rfl, h34, BZ⟩
                go_wp2_with fail
                have HX4 := Lib.hid (HX.out.below h34)
                refine hK.out _ _ ⟨HX4.out.cell 5 (.string l[n].event) rfl, HX4.out.cell 3 (.string l[n].source) rfl, HX4.out.cell 1 (.int .i64 l[n].at_) rfl⟩ (fun hHeld => ?_)
                clear hK K
                try simp only [Act.put, List.setIfInBounds_toArray, List.set_cons_zero, List.set_cons_succ]
                refine wpAnyH_take (i := 12) (oi := _) (v := .agg #[.string l[n].event, .string ⟨#[]⟩, .string (causeR l l[n].event), .string l[n].source, .int .i64 l[n].at_, .int .i64 l[n].at_]) rfl (by kernel_rfl) (by kernel_rfl) (by kernel_rfl) (fun _ _ _ h => h) (Or.inl ⟨by rfl, by intro w hSw; (try dsimp only at hSw); go_simp⟩) (by assumption) ?_
                simp only [Act.put, List.setIfInBounds_toArray, List.set_cons_zero, List.set_cons_succ]
                refine wpAnyH_ready (rs := [14]) (by kernel_rfl) (by simp) ?_
                refine AllReadyH.cons (o := _) rfl (fun K hK => ?_) AllReadyH.nil
                rw [if_pos (by rfl)]
                refine wp_store_row _ _ _ rfl w3.heap.size #[.string l[n].event, .string ⟨#[]⟩, .string (causeR l l[n].event), .string l[n].source, .int .i64 l[n].at_, .int .i64 l[n].at_] rfl rfl 27 _ BZ (by kernel_rfl) rfl (by simp [Value.oneCell']) ?_
                have HX6 := Lib.hid (HX4.out.row_far (cs' := #[.string l[n].event, .string ⟨#[]⟩, .string (causeR l l[n].event), .string l[n].source, .int .i64 l[n].at_, .int .i64 l[n].at_]) (Nat.ne_of_lt HX.out.lt))
                refine hK.out _ _ ⟨HX6.out.cell 5 (.string l[n].event) rfl, HX6.out.cell 3 (.string l[n].source) rfl, HX6.out.cell 1 (.int .i64 l[n].at_) rfl⟩ (fun hHeld => ?_)
                refine wpAnyH_done (by kernel_rfl) ?_ _
                dsimp only [List.getElem_toArray, List.getElem_cons_succ, List.getElem_cons_zero, Act.put]
                go_wp2_with fail
                go_meet
                exact ⟨_, rfl, Nat.le_refl _, BZ.setRow, below_setRow h34 (Nat.le_refl _) _⟩
            case rest =>
              obtain ⟨g, rfl, hg9, hB9, hb9⟩ := hcut
              have HB9 := Lib.hid hb9
              have HG9 := Lib.hid hB9
              have HX9 := Lib.hid (HX.out.below hb9)
              have HBW := Lib.hid (below_call' HBL.out HB.out HB.out.size)
              clear hb9 hB9 x1 x3 x5
              go_wp2_with (fail)
              go_loopw [61] (fun i wi => ∃ k : Nat, k ≤ l.length ∧ i = .int .i64 k ∧ Below w3.heap.size w3 wi ∧ Blk wi g 27 #[.string l[n].event, .string ⟨#[]⟩, .string (causeR l l[n].event), .string l[n].source, .int .i64 (minA (l.take k) l[n].event l[n].at_), .int .i64 (maxA (l.take k) l[n].event l[n].at_)]) (fun i _ => l.length - (intOf i).toNat)
              case atStart => exact ⟨0, Nat.zero_le _, rfl, HB9.out, HG9.out⟩
              case round =>
                obtain ⟨k, hk, rfl, hbk, hGk⟩ := hrel
                have HGk := Lib.hid hGk
                have HBk := Lib.hid hbk
                clear hGk hbk
                by_cases hlk : k < l.length
                · have HFK := Lib.hid (HF.out.below (below_call' HBk.out HBW.out HBW.out.size))
                  have HXk := Lib.hid (HX.out.below HBk.out)
                  have d0 := HFK.out.cell0 hlk (v := .int .i64 l[k].kind) rfl
                  have d1 := HFK.out.cell hlk (j := 1) (v := .int .i64 l[k].at_) rfl
                  have d2 := HFK.out.cell hlk (j := 2) (v := .string l[k].tenant) rfl
                  have d3 := HFK.out.cell hlk (j := 3) (v := .string l[k].source) rfl
                  have d4 := HFK.out.cell hlk (j := 4) (v := .string l[k].key) rfl
                  have d5 := HFK.out.cell hlk (j := 5) (v := .string l[k].event) rfl
                  have d6 := HFK.out.cell hlk (j := 6) (v := .int .i64 l[k].attempt) rfl
                  have d7 := HFK.out.cell hlk (j := 7) (v := .int .i64 l[k].version) rfl
                  have d8 := HFK.out.cell hlk (j := 8) (v := .string l[k].worker) rfl
                  have d9 := HFK.out.cell hlk (j := 9) (v := .int .i64 l[k].units) rfl
                  have x5 := HXk.out.cell 5 (.string l[n].event) rfl
                  have HMI := Lib.hid (minA_snoc l l[n].event l[n].at_ k hlk)
                  have HMA := Lib.hid (maxA_snoc l l[n].event l[n].at_ k hlk)
                  by_cases hev2 : l[k].event = l[n].event
                  · have h3 : (l[k].event.toList == l[n].event.toList) = true := by rw [toList_beq]; simpa using hev2
                    have HE := Lib.hid hev2
                    clear hev2
                    have q4 := HGk.out.cell 4 (.int .i64 (minA (l.take k) l[n].event l[n].at_)) rfl
                    have q5 := HGk.out.cell 5 (.int .i64 (maxA (l.take k) l[n].event l[n].at_)) rfl
                    have HGa := Lib.hid (HGk.out.alloc (.cells #[.int .i64 l[k].kind, .int .i64 l[k].at_, .string l[k].tenant, .string l[k].source, .string l[k].key, .string l[k].event, .int .i64 l[k].attempt, .int .i64 l[k].version, .string l[k].worker, .int .i64 l[k].units] 33))
                    have z4 := HGa.out.frozen 4
                    have z5 := HGa.out.frozen 5
                    go_wp2_with fail
                    go_region
                    go_wp2_with fail
                    refine ⟨⟨k + 1, by omega, by simp, ?_, ?_⟩, by simp [intOf]; omega⟩
                    · exact (((HBk.out.alloc HBk.out.size _).setCell (p := ⟨g, 4, none⟩) hg9 _).setCell (p := ⟨g, 5, none⟩) hg9 _).drew
                    · rw [HMI.out, HMA.out, if_pos HE.out, if_pos HE.out]
                      exact ((HGa.out.set_ 4 _).set_ 5 _).drew
                  · have h3 : (l[k].event.toList == l[n].event.toList) = false := by rw [toList_beq]; simpa using hev2
                    have HE := Lib.hid hev2
                    clear hev2
                    go_wp2_with fail
                    refine ⟨⟨k + 1, by omega, by simp, HBk.out.alloc HBk.out.size _, ?_⟩, by simp [intOf]; omega⟩
                    rw [HMI.out, HMA.out, if_neg HE.out, if_neg HE.out]
                    exact HGk.out.alloc _
                · have e : k = l.length := by omega
                  subst e
                  have HGe := Lib.hid (show Blk wr g 27 #[.string (spanOf l l[n]).id, .string ⟨#[]⟩, .string (spanOf l l[n]).cause, .string (spanOf l l[n]).name, .int .i64 (spanOf l l[n]).from_, .int .i64 (spanOf l l[n]).to_] by have := HGk.out; rw [List.take_length] at this; exact this)
                  have q0 := HGe.out.cell 0 (.string (spanOf l l[n]).id) rfl
                  have q1 := HGe.out.cell 1 (.string ⟨#[]⟩) rfl
                  have q2 := HGe.out.cell 2 (.string (spanOf l l[n]).cause) rfl
                  have q3 := HGe.out.cell 3 (.string (spanOf l l[n]).name) rfl
                  have q4 := HGe.out.cell 4 (.int .i64 (spanOf l l[n]).from_) rfl
                  have q5 := HGe.out.cell 5 (.int .i64 (spanOf l l[n]).to_) rfl
                  have hwow := below_call HBk.out HBL.out
                  have HWO := Lib.hid hwow
                  have HOk := Lib.hid (own_below HO.out hwow)
                  have hsz1 : w1.heap.size ≤ wr.heap.size := by have := hwow.size; have := hbel.size; omega
                  clear hwow
                  go_wp2_with (first
                    | (at_builtin; refine wpList_app1 rfl (.tmp 83) (.tmp 85) 24 rfl i0 _ 80 Tryd.underlying24 hi hz0 hz1 hz2 rfl (by omega) rfl HOk.out [.string (spanOf l l[n]).id, .string ⟨#[]⟩, .string (spanOf l l[n]).cause, .string (spanOf l l[n]).name, .int .i64 (spanOf l l[n]).from_, .int .i64 (spanOf l l[n]).to_] rfl rfl (one6 _ _ _ _ _ _) (by omega) (by omega) hsz1 ?_; intro v' w6 hown1 hb6 _ _))
                  refine ⟨⟨n + 1, by omega, by simp, ?_, ?_⟩, by simp [intOf]; omega⟩
                  · rw [HN.out]
                    unfold SpansAt
                    rw [flat_spans, List.length_append]
                    exact hown1
                  · exact (below_call' HWO.out hbel hbel.size).trans hb6
          · have HN := Lib.hid (spansN_no hlt (show keepB l n l[n] = false by simp [keepB, hid]))
            have HI := Lib.hid (show idB l[n].event = false by simpa using hid)
            clear hfn hid hge
            go_wp2_with (first
              | (at_lookup; refine wpList_look' rfl (.tmp 26) (.tmp 28) rfl Tryd.kS Tryd.underlying39 (none, none) (Tryd.zero44 _) rfl l[n].event rfl (HHw.out.1.alloc _) (some (some r.ab, some r.cb)) HG.out (.agg #[.map (some r.ab), .map (some r.cb)]) rfl ?_)
              | (at_lookup; refine wpList_look' rfl (.tmp 35) (.const (.int .i64 1)) rfl Tryd.kI Tryd.underlying42 0 (Tryd.zero3 _) rfl 1 rfl ((HM.out.1.alloc _).alloc _) _ rfl (.int .i64 n) (congrArg (Value.int .i64) HD.out) ?_))
            refine (id_any _ _ hes).mono ?_
            rintro e w3 ⟨rfl, hb3⟩
            rw [HI.out]
            go_wp2
            refine ⟨⟨n + 1, by omega, by simp, by rw [HN.out]; exact own_below (own_below (own_below HO.out (below_new _ _)) (below_new _ _)) hb3, below_call' (below_call hb3 (below_call (below_new _ _) (below_new _ _))) hbel hbel.size⟩, by simp [intOf]; omega⟩
        · have HN := Lib.hid (spansN_no hlt (show keepB l n l[n] = false by simp [keepB, hfn]))
          obtain ⟨d, hd⟩ : ∃ d, (alGet r.am 1).getD 0 = d := ⟨_, rfl⟩
          have hdn : ¬ d = (n : Int) := by
            rw [← hd, HAT.out, if_neg (by omega)]; exact hfn
          have HD := Lib.hid hd
          clear hfn hge hd
          go_wp2_with (first
            | (at_lookup; refine wpList_look' rfl (.tmp 26) (.tmp 28) rfl Tryd.kS Tryd.underlying39 (none, none) (Tryd.zero44 _) rfl l[n].event rfl (HHw.out.1.alloc _) (some (some r.ab, some r.cb)) HG.out (.agg #[.map (some r.ab), .map (some r.cb)]) rfl ?_)
            | (at_lookup; refine wpList_look' rfl (.tmp 35) (.const (.int .i64 1)) rfl Tryd.kI Tryd.underlying42 0 (Tryd.zero3 _) rfl 1 rfl ((HM.out.1.alloc _).alloc _) _ rfl (.int .i64 d) (congrArg (Value.int .i64) HD.out) ?_))
          refine ⟨⟨n + 1, by omega, by simp, by rw [HN.out]; exact own_below (own_below HO.out (below_new _ _)) (below_new _ _), below_call' (below_call (below_new _ _) (below_new _ _)) hbel hbel.size⟩, by simp [intOf]; omega⟩
      · have HN := Lib.hid (spansN_no hlt (show keepB l n l[n] = false by simp [keepB, hk]))
        go_wp2_with (first
          | (at_lookup; refine wpList_look' rfl (.tmp 26) (.tmp 28) rfl Tryd.kS Tryd.underlying39 (none, none) (Tryd.zero44 _) rfl l[n].event rfl (HHw.out.1.alloc _) (some (some r.ab, some r.cb)) HG.out (.agg #[.map (some r.ab), .map (some r.cb)]) rfl ?_))
        refine ⟨⟨n + 1, by omega, by simp, by rw [HN.out]; exact own_below (own_below HO.out (below_new _ _)) (below_new _ _), below_call' (below_call (below_new _ _) (below_new _ _)) hbel hbel.size⟩, by simp [intOf]; omega⟩
    · have e : n = l.length := by omega
      subst e
      go_wp2
      go_ret
      exact ⟨_, _, HB1.out.size, rfl, HO.out, HB.out⟩
end Go.Proofs.YtcnmdhdoiekfoaaDoor
