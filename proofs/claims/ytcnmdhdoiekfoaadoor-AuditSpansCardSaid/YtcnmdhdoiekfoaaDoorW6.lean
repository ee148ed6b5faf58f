/- The walk of the program's histories. -/
import Derived.Test.YtcnmdhdoiekfoaaDoorW5b
namespace Go.Proofs.YtcnmdhdoiekfoaaDoor
open Go.RowKit
set_option maxRecDepth 100000

theorem Tryd.zero44 (w : World) : (zeroValue 44).run Tryd.prog w = .ok (.agg #[.map none, .map none]) w := by kernel_rfl
theorem Tryd.zero3 (w : World) : (zeroValue 3).run Tryd.prog w = .ok (.int .i64 0) w := by kernel_rfl
theorem Tryd.kS : KeyOk Tryd.prog 9 Value.string := keyOk_string Tryd.underlying9
theorem Tryd.kI : KeyOk Tryd.prog 31 (Value.int .i64) := keyOk_int Tryd.underlying31
theorem Tryd.infoStr : (Tryd.prog.info? 9).map (fun i => (i.zero, i.size, i.bytes)) = some (some (.string ByteArray.empty), 1, 16) := by kernel_rfl

theorem one1 (a : ByteArray) : ∀ u ∈ [Value.string a], u.oneCell' = true := by simp [Value.oneCell']

/-- The world behind the making of the round's two variables. -/
def W2h (w : World) (f : FactD) (a c : Nat) : World := (w.alloc (.cells f.cells.toArray 33)).alloc (.cells #[.map (some a), .map (some c)] 44)
def W4h (w : World) (f : FactD) : World := ((W2h w f (w.heap.size + 1 + 1) (w.heap.size + 1 + 1 + 1)).alloc (.map #[] 0)).alloc (.map #[] 0)

theorem W2h_size (w : World) (f : FactD) (a c : Nat) : (W2h w f a c).heap.size = w.heap.size + 1 + 1 := by simp [W2h]
theorem W4h_size (w : World) (f : FactD) : (W4h w f).heap.size = w.heap.size + 1 + 1 + 1 + 1 := by simp [W4h, W2h_size]
theorem W2h_below (w : World) (f : FactD) (a c : Nat) : Below w.heap.size w (W2h w f a c) := ((Below.refl _ _).alloc (Nat.le_refl _) _).alloc (by simp) _
theorem W4h_below (w : World) (f : FactD) : Below w.heap.size w (W4h w f) := ((W2h_below w f _ _).alloc (by rw [W2h_size]; omega) _).alloc (by rw [World.size_alloc, W2h_size]; omega) _
theorem W2h_f (w : World) (f : FactD) (a c : Nat) : Blk (W2h w f a c) w.heap.size 33 f.cells.toArray := (Blk.new w 33 _).alloc _
theorem W2h_h (w : World) (f : FactD) (a c : Nat) : Blk (W2h w f a c) (w.heap.size + 1) 44 #[.map (some a), .map (some c)] := Blk.new' (by simp)
theorem W4h_f (w : World) (f : FactD) : Blk (W4h w f) w.heap.size 33 f.cells.toArray := ((W2h_f w f _ _).alloc _).alloc _
theorem W4h_h (w : World) (f : FactD) : Blk (W4h w f) (w.heap.size + 1) 44 #[.map (some (w.heap.size + 1 + 1)), .map (some (w.heap.size + 1 + 1 + 1))] := ((W2h_h w f _ _).alloc _).alloc _
theorem W4h_a (w : World) (f : FactD) : MapAt (W4h w f) (w.heap.size + 1 + 1) (Value.int .i64) (Value.int .i64) ([] : IM) := (MapAt.new' (by rw [W2h_size])).alloc _
theorem W4h_c (w : World) (f : FactD) : MapAt (W4h w f) (w.heap.size + 1 + 1 + 1) (Value.int .i64) (Value.int .i64) ([] : IM) := MapAt.new' (by rw [World.size_alloc, W2h_size])

set_option maxHeartbeats 1000000 in
theorem histories_any (A : Option Addr) (cap : Nat) (l : List FactD) (w : World) (hl : l.length ≤ 4000) (hf : FactsAt w A l) :
    Calls Tryd.prog 11 #[.slice A l.length cap] w fun e w' => ∃ v o hs, e = .returned (.tuple #[v, .map (some o)]) ∧ w'.ownsRow w.heap.size 9 1 v hs.length (hs.map fun p => Value.string p.1) ∧ HistW w' w.heap.size o hs ∧ absH hs = hist l l.length ∧ Below w.heap.size w w' := by
  obtain ⟨i0, hi, hz0, hz1, hz2⟩ := info_parts Tryd.infoStr
  have hmm := @run_makeMap Tryd.prog
  go_enter Tryd.func11, Tryd.ntmps11
  go_wp2
  go_loopw [4, 13] (fun ord i wr => ∃ (n : Nat) (hs : List (ByteArray × HR)), n ≤ l.length ∧ i = .int .i64 n ∧ wr.ownsRow w.heap.size 9 1 ord hs.length (hs.map fun p => Value.string p.1) ∧ HistW wr w.heap.size w.heap.size hs ∧ absH hs = hist l n ∧ Below w.heap.size w wr) (fun _ i _ => l.length - (intOf i).toNat)
  case atStart => exact ⟨0, [], Nat.zero_le _, rfl, World.ownsRow_nil _ _ _ _, ⟨MapAt.new _ _ _, Nat.le_refl _, by simp, by simp⟩, rfl, (Below.refl _ _).alloc (Nat.le_refl _) _⟩
  case round =>
    obtain ⟨n, hs, hn, rfl, hown, hh, habs, hbel⟩ := hrel
    have hsz := hbel.size
    have hhl : hs.length ≤ n := by
      have h1 := hist_len l n
      rw [← habs] at h1
      simpa [absH] using h1
    by_cases hlt : n < l.length
    · have hfr := hf.below hbel
      obtain ⟨b, off, rfl, hbb⟩ := hf.ptr hlt
      have h0 := hfr.cell0 hlt (v := _) rfl
      have h1 := hfr.cell hlt (j := 1) (v := _) rfl
      have h2 := hfr.cell hlt (j := 2) (v := _) rfl
      have h3 := hfr.cell hlt (j := 3) (v := _) rfl
      have h4 := hfr.cell hlt (j := 4) (v := _) rfl
      have h5 := hfr.cell hlt (j := 5) (v := _) rfl
      have h6 := hfr.cell hlt (j := 6) (v := _) rfl
      have h7 := hfr.cell hlt (j := 7) (v := _) rfl
      have h8 := hfr.cell hlt (j := 8) (v := _) rfl
      have h9 := hfr.cell hlt (j := 9) (v := _) rfl
      have HB := Lib.hid hbel
      have HO := Lib.hid hown
      have HH := Lib.hid hh
      have HA := Lib.hid habs
      clear hfr hbel hown hh habs
      have hlo := HH.out.1.lt
      cases hr : alGet hs l[n].event with
      | some r =>
        have HG := Lib.hid (show alGet (hs.map fun p => (p.1, (some p.2.ab, some p.2.cb))) l[n].event = some (some r.ab, some r.cb) by rw [alGet_map hs (fun r : HR => (some r.ab, some r.cb)), hr]; rfl)
        have HR' := Lib.hid hr
        have hcn : ∃ c : Nat, (alGet r.cm l[n].kind).getD 0 = (c : Int) ∧ c ≤ n := by
          have h1 := cntOf_hist l l[n].event l[n].kind n hn
          rw [← HA.out] at h1
          unfold cntOf at h1
          rw [absH_get, hr] at h1
          have h2 := countN_le (l.take n) l[n].kind l[n].event
          have h3 : (l.take n).length ≤ n := List.length_take_le _ _
          exact ⟨_, h1, by omega⟩
        clear hr
        obtain ⟨c, hc, hcn⟩ := hcn
        have HC := Lib.hid hc
        by_cases hc0 : c = 0
        · have HM := Lib.hid (show (alGet r.cm l[n].kind).getD 0 = 0 by rw [hc, hc0]; rfl)
          clear hc hc0
          have HH2 := Lib.hid (HH.out.below (W2h_below wr l[n] r.ab r.cb))
          have HG3 := Lib.hid (show alGet (alSet hs l[n].event { r with am := alSet r.am l[n].kind (n : Int) }) l[n].event = some { r with am := alSet r.am l[n].kind (n : Int) } by rw [alGet_set, if_pos rfl])
          go_wp2_with (first
            | (at_lookup; refine wpList_look_ok' rfl (.tmp 19) (.tmp 21) rfl Tryd.kS Tryd.underlying39 (none, none) (Tryd.zero44 _) rfl l[n].event rfl (HH.out.1.alloc _) (some (some r.ab, some r.cb)) HG.out (.agg #[.map (some r.ab), .map (some r.cb)]) rfl true rfl ?_)
            | (at_lookup; refine wpList_look' rfl (.tmp 40) (.tmp 42) rfl Tryd.kI Tryd.underlying42 0 (Tryd.zero3 _) rfl l[n].kind rfl (HH2.out.get HR'.out).2.1 _ rfl (.int .i64 0) (congrArg (Value.int .i64) HM.out) ?_)
            | (at_mapUpdate
               refine wpList_store rfl (.tmp 46) (.tmp 48) (.tmp 49) rfl Tryd.kI Tryd.underlying42 rfl l[n].kind rfl (n : Int) rfl (HH2.out.get HR'.out).1 ?_
               intro w3 hm3 hg3 hs3
               have hg : (W2h wr l[n] r.ab r.cb).grownBy w3 (some r.ab) := hg3
               have f30 := ((W2h_f wr l[n] r.ab r.cb).grown hg ((W2h_f wr l[n] r.ab r.cb).ne_map (HH2.out.get HR'.out).1)).cell 0 (.int .i64 l[n].kind) rfl
               have f31 := ((W2h_h wr l[n] r.ab r.cb).grown hg ((W2h_h wr l[n] r.ab r.cb).ne_map (HH2.out.get HR'.out).1)).cell 1 _ rfl
               have HH3 := Lib.hid (HH2.out.set_at HR'.out hm3 hg)
               have HO3 := Lib.hid (own_grown (own_below HO.out (W2h_below wr l[n] r.ab r.cb)) hg (fun k hk => by cases hk; exact own_ne_map (own_below HO.out (W2h_below wr l[n] r.ab r.cb)) (HH2.out.get HR'.out).1))
               have HB3 := Lib.hid ((HB.out.trans ((W2h_below wr l[n] r.ab r.cb).mono hsz)).grown hg (by rw [W2h_size]; omega) (fun k hk => by cases hk; exact (HH2.out.get HR'.out).2.2.1))
               clear hm3 hg3 hs3 hg)
            | (at_lookup; refine wpList_look' rfl (.tmp 51) (.tmp 53) rfl Tryd.kI Tryd.underlying42 0 (Tryd.zero3 _) rfl l[n].kind rfl (HH3.out.get HG3.out).2.1 _ rfl (.int .i64 0) (congrArg (Value.int .i64) HM.out) ?_)
            | (at_mapUpdate
               refine wpList_store rfl (.tmp 51) (.tmp 53) (.tmp 55) rfl Tryd.kI Tryd.underlying42 rfl l[n].kind rfl (1 : Int) rfl (HH3.out.get HG3.out).2.1 ?_
               intro w4 hm4 hg4 hs4))
          go_roundw
          case rel =>
            have hh4 := HH3.out.set_count HG3.out hm4 hg4
            rw [alSet_twice] at hh4
            have hlen : (alSet hs l[n].event { r with am := alSet r.am l[n].kind (n : Int), cm := alSet r.cm l[n].kind 1 }).map (·.1) = hs.map (·.1) := by
              rw [alSet_keys, HR'.out]; rfl
            refine ⟨n + 1, _, by omega, by go_num, ?_, hh4, abs_old hlt HA.out HR'.out (by rw [HM.out]; rfl) (by rw [HM.out]; rfl), HB3.out.grown hg4 HB3.out.size (fun k hk => by cases hk; exact (HH3.out.get HG3.out).2.2.2.1)⟩
            have hl2 := congrArg List.length hlen
            have hx2 := congrArg (List.map Value.string) hlen
            simp only [List.length_map, List.map_map] at hl2 hx2
            rw [hl2]
            have := own_grown HO3.out hg4 (fun k hk => by cases hk; exact own_ne_map HO3.out (HH3.out.get HG3.out).2.1)
            rw [show (hs.map fun p => Value.string p.1) = _ from hx2.symm] at this
            exact this
          case measure => simp [intOf]; omega
        · have HM := Lib.hid hc
          have hcb : 1 ≤ (c : Int) := by omega
          have hcb2 : (c : Int) ≤ 4000 := by omega
          have hc1 : ¬ (alGet r.cm l[n].kind).getD 0 = 0 := by rw [hc]; omega
          have HC1 := Lib.hid hc1
          clear hc hc0 hc1
          have HH2 := Lib.hid (HH.out.below (W2h_below wr l[n] r.ab r.cb))
          go_wp2_with (first
            | (at_lookup; refine wpList_look_ok' rfl (.tmp 19) (.tmp 21) rfl Tryd.kS Tryd.underlying39 (none, none) (Tryd.zero44 _) rfl l[n].event rfl (HH.out.1.alloc _) (some (some r.ab, some r.cb)) HG.out (.agg #[.map (some r.ab), .map (some r.cb)]) rfl true rfl ?_)
            | (at_lookup; refine wpList_look' rfl (.tmp 40) (.tmp 42) rfl Tryd.kI Tryd.underlying42 0 (Tryd.zero3 _) rfl l[n].kind rfl (HH2.out.get HR'.out).2.1 _ rfl (.int .i64 c) (congrArg (Value.int .i64) HM.out) ?_)
            | (at_lookup; refine wpList_look' rfl (.tmp 51) (.tmp 53) rfl Tryd.kI Tryd.underlying42 0 (Tryd.zero3 _) rfl l[n].kind rfl (HH2.out.get HR'.out).2.1 _ rfl (.int .i64 c) (congrArg (Value.int .i64) HM.out) ?_)
            | (at_mapUpdate
               refine wpList_store rfl (.tmp 51) (.tmp 53) (.tmp 55) rfl Tryd.kI Tryd.underlying42 rfl l[n].kind rfl ((c : Int) + 1) rfl (HH2.out.get HR'.out).2.1 ?_
               intro w4 hm4 hg4 hs4))
          go_roundw
          case rel =>
            have hg : (W2h wr l[n] r.ab r.cb).grownBy w4 (some r.cb) := hg4
            have hh4 := HH2.out.set_count HR'.out hm4 hg
            have hlen : (alSet hs l[n].event { r with cm := alSet r.cm l[n].kind ((c : Int) + 1) }).map (·.1) = hs.map (·.1) := by
              rw [alSet_keys, HR'.out]; rfl
            have hO2 := own_below HO.out (W2h_below wr l[n] r.ab r.cb)
            refine ⟨n + 1, _, by omega, by go_num, ?_, hh4, abs_old hlt HA.out HR'.out (by rw [if_neg HC1.out]) (by rw [HM.out]), (HB.out.trans ((W2h_below wr l[n] r.ab r.cb).mono hsz)).grown hg (by rw [W2h_size]; omega) (fun k hk => by cases hk; exact (HH2.out.get HR'.out).2.2.2.1)⟩
            have hl2 := congrArg List.length hlen
            have hx2 := congrArg (List.map Value.string) hlen
            simp only [List.length_map, List.map_map] at hl2 hx2
            rw [hl2]
            have := own_grown hO2 hg (fun k hk => by cases hk; exact own_ne_map hO2 (HH2.out.get HR'.out).2.1)
            rw [show (hs.map fun p => Value.string p.1) = _ from hx2.symm] at this
            exact this
          case measure => simp [intOf]; omega
      | none =>
        have HG := Lib.hid (show alGet (hs.map fun p => (p.1, (some p.2.ab, some p.2.cb))) l[n].event = none by rw [alGet_map hs (fun r : HR => (some r.ab, some r.cb)), hr]; rfl)
        have HR' := Lib.hid hr
        clear hr
        have HO4 := Lib.hid (own_below HO.out (W4h_below wr l[n]))
        have HB4 := Lib.hid (HB.out.trans ((W4h_below wr l[n]).mono hsz))
        have HGN := Lib.hid (alGet_snoc hs l[n].event ⟨wr.heap.size + 1 + 1, wr.heap.size + 1 + 1 + 1, [], []⟩ HR'.out)
        have HG3 := Lib.hid (show alGet (alSet (hs ++ [(l[n].event, (⟨wr.heap.size + 1 + 1, wr.heap.size + 1 + 1 + 1, [], []⟩ : HR))]) l[n].event ⟨wr.heap.size + 1 + 1, wr.heap.size + 1 + 1 + 1, [(l[n].kind, (n : Int))], []⟩) l[n].event = some ⟨wr.heap.size + 1 + 1, wr.heap.size + 1 + 1 + 1, [(l[n].kind, (n : Int))], []⟩ by rw [alGet_set, if_pos rfl])
        go_wp2_with (first
          | (at_lookup; refine wpList_look_ok' rfl (.tmp 19) (.tmp 21) rfl Tryd.kS Tryd.underlying39 (none, none) (Tryd.zero44 _) rfl l[n].event rfl (HH.out.1.alloc _) none HG.out (.agg #[.map none, .map none]) rfl false rfl ?_)
          | (at_mapUpdate
             refine wpList_store rfl (.tmp 30) (.tmp 32) (.tmp 33) rfl Tryd.kS Tryd.underlying39 rfl l[n].event rfl (some (wr.heap.size + 1 + 1), some (wr.heap.size + 1 + 1 + 1)) rfl ((((HH.out.1.alloc _).alloc _).alloc _).alloc _) ?_
             intro w1 hm1 hg1 hs1
             have hg : (W4h wr l[n]).grownBy w1 (some w.heap.size) := hg1
             have HF1 := Lib.hid ((W4h_f wr l[n]).grown hg (by intro he; simp at he; omega))
             have HP1 := Lib.hid ((W4h_h wr l[n]).grown hg (by intro he; simp at he; omega))
             have f15 := HF1.out.cell 5 (.string l[n].event) rfl
             have HH1 := Lib.hid (HH.out.add HR'.out (W4h_below wr l[n]) hsz (by omega) (by omega) (by omega) (W4h_a wr l[n]) (W4h_c wr l[n]) hm1 hg)
             have HO1 := Lib.hid (own_grown HO4.out hg (fun k hk => by cases hk; exact own_ne_map HO.out HH.out.1))
             have HB1 := Lib.hid (HB4.out.grown hg (by rw [W4h_size]; omega) (fun k hk => by cases hk; exact Nat.le_refl _))
             have hz1' : wr.heap.size < w1.heap.size := by have := hg.size; rw [W4h_size] at this; omega
             clear hm1 hg1 hs1 hg)
          | (at_builtin
             refine wpList_app1 rfl (.tmp 34) (.tmp 37) 38 rfl i0 _ 16 Tryd.underlying38 hi hz0 hz1 hz2 rfl (by omega) rfl HO1.out [.string l[n].event] rfl rfl (one1 _) (by omega) (by omega) (by omega) ?_
             intro v' w2 hown2 hb2 hs2 hg2
             have HH2 := Lib.hid (HH1.out.own_grown HO1.out hg2)
             have HO2 := Lib.hid hown2
             have HB2 := Lib.hid (HB1.out.trans hb2)
             have HF2 := Lib.hid (HF1.out.grown hg2 (fun he => by have := (HO.out.lt _ he.symm).2; omega))
             have HP2 := Lib.hid (HP1.out.grown hg2 (fun he => by have := (HO.out.lt _ he.symm).2; omega))
             have f20 := HF2.out.cell 0 (.int .i64 l[n].kind) rfl
             have f220 := HP2.out.cell 0 _ rfl
             have f221 := HP2.out.cell 1 _ rfl
             clear hown2 hb2 hg2)
          | (at_lookup; refine wpList_look' rfl (.tmp 40) (.tmp 42) rfl Tryd.kI Tryd.underlying42 0 (Tryd.zero3 _) rfl l[n].kind rfl (HH2.out.get HGN.out).2.1 _ rfl (.int .i64 0) rfl ?_)
          | (at_mapUpdate
             refine wpList_store rfl (.tmp 46) (.tmp 48) (.tmp 49) rfl Tryd.kI Tryd.underlying42 rfl l[n].kind rfl (n : Int) rfl (HH2.out.get HGN.out).1 ?_
             intro w3 hm3 hg3 hs3
             have f30 := (HF2.out.grown hg3 (HF2.out.ne_map (HH2.out.get HGN.out).1)).cell 0 (.int .i64 l[n].kind) rfl
             have f31 := (HP2.out.grown hg3 (HP2.out.ne_map (HH2.out.get HGN.out).1)).cell 1 _ rfl
             have HH3 := Lib.hid (HH2.out.set_at HGN.out hm3 hg3)
             have HO3 := Lib.hid (own_grown HO2.out hg3 (fun k hk => by cases hk; exact own_ne_map HO2.out (HH2.out.get HGN.out).1))
             have HB3 := Lib.hid (HB2.out.grown hg3 HB2.out.size (fun k hk => by cases hk; exact (HH2.out.get HGN.out).2.2.1))
             clear hm3 hg3 hs3)
          | (at_lookup; refine wpList_look' rfl (.tmp 51) (.tmp 53) rfl Tryd.kI Tryd.underlying42 0 (Tryd.zero3 _) rfl l[n].kind rfl (HH3.out.get HG3.out).2.1 _ rfl (.int .i64 0) rfl ?_)
          | (at_mapUpdate
             refine wpList_store rfl (.tmp 51) (.tmp 53) (.tmp 55) rfl Tryd.kI Tryd.underlying42 rfl l[n].kind rfl (1 : Int) rfl (HH3.out.get HG3.out).2.1 ?_
             intro w4 hm4 hg4 hs4))
        go_roundw
        case rel =>
          have hh4 := HH3.out.set_count HG3.out hm4 hg4
          have e1 : alSet (alSet (hs ++ [(l[n].event, (⟨wr.heap.size + 1 + 1, wr.heap.size + 1 + 1 + 1, [], []⟩ : HR))]) l[n].event ⟨wr.heap.size + 1 + 1, wr.heap.size + 1 + 1 + 1, [(l[n].kind, (n : Int))], []⟩) l[n].event ⟨wr.heap.size + 1 + 1, wr.heap.size + 1 + 1 + 1, [(l[n].kind, (n : Int))], [(l[n].kind, 1)]⟩ = hs ++ [(l[n].event, (⟨wr.heap.size + 1 + 1, wr.heap.size + 1 + 1 + 1, [(l[n].kind, (n : Int))], [(l[n].kind, 1)]⟩ : HR))] := by
            rw [alSet_twice, alSet_snoc _ _ _ _ HR'.out]
          refine ⟨n + 1, hs ++ [(l[n].event, (⟨wr.heap.size + 1 + 1, wr.heap.size + 1 + 1 + 1, [(l[n].kind, (n : Int))], [(l[n].kind, 1)]⟩ : HR))], by omega, by go_num, ?_, ?_, abs_new hlt HA.out HR'.out _ _, HB3.out.grown hg4 HB3.out.size (fun k hk => by cases hk; exact (HH3.out.get HG3.out).2.2.2.1)⟩
          · have := own_grown HO3.out hg4 (fun k hk => by cases hk; exact own_ne_map HO3.out (HH3.out.get HG3.out).2.1)
            simpa using this
          · rw [← e1]; exact hh4
        case measure => simp [intOf]; omega
    · go_wp2
      go_ret2
      have hnl : n = l.length := by omega
      subst hnl
      exact ⟨_, _, hs, rfl, hown, hh, habs, hbel⟩
end Go.Proofs.YtcnmdhdoiekfoaaDoor
