/- The program's Ordered: the condition. -/
import Derived.Test.YtcnmdhdoiekfoaaDoorW9
namespace Go.Proofs.YtcnmdhdoiekfoaaDoor
open Go.RowKit
set_option maxRecDepth 100000

/-- Event t was accepted before event s of its key, and committed after it. -/
def ordAt (l : List FactD) (s t : ByteArray) : Bool :=
  decide (t ≠ s) && decide (countN l 1 t ≠ 0) && decide (countN l 5 t ≠ 0) &&
  match l[(firstN l 1 s 0).toNat]?, l[(firstN l 1 t 0).toNat]? with
  | some x, some y => decide (x.tenant = y.tenant) && decide (x.source = y.source) && decide (x.key = y.key) && decide (firstN l 1 t 0 < firstN l 1 s 0) && decide (firstN l 5 s 0 < firstN l 5 t 0)
  | _, _ => false

def ordB (l : List FactD) (keys : List ByteArray) (s : ByteArray) : Bool :=
  decide (countN l 1 s ≠ 0) && decide (countN l 5 s ≠ 0) && keys.any (ordAt l s)

theorem first_nat {l : List FactD} {k : Int} {e : ByteArray} (h : countN l k e ≠ 0) : ∃ m : Nat, firstN l k e 0 = (m : Int) ∧ m < l.length := by
  rcases firstN_lo l k e 0 with h1 | ⟨m, h1, _, h2⟩
  · exact absurd ((countN_pos l k e 0).2 (by omega)) h
  · exact ⟨m, h1, by omega⟩

theorem has15 {l : List FactD} {q : ByteArray × (IM × IM)} (hq : q ∈ hist l l.length) : hasB q.2.2 [1, 5] = (decide (countN l 1 q.1 ≠ 0) && decide (countN l 5 q.1 ≠ 0)) := by
  unfold hasB
  simp only [List.all_cons, List.all_nil, Bool.and_true, hist_count hq]
  rw [Bool.eq_iff_iff]
  simp only [Bool.and_eq_true, decide_eq_true_eq]
  omega

theorem at_nat {l : List FactD} {q : ByteArray × (IM × IM)} (hq : q ∈ hist l l.length) {k : Int} {m : Nat} (h : firstN l k q.1 0 = (m : Int)) : (alGet q.2.1 k).getD 0 = (m : Int) := by
  rw [hist_at hq, h, if_neg (by omega)]

theorem any_snoc {α : Type} (l : List α) (p : α → Bool) (n : Nat) (hn : n < l.length) (h : (l.take n).any p = false) : (l.take (n + 1)).any p = p l[n] := by
  rw [List.take_succ_eq_append_getElem hn, List.any_append, h]; simp

attribute [local go_sem] cell_alloc_is
set_option maxHeartbeats 4000000 in
set_option maxRecDepth 100000 in
theorem pord1_any (A Ao : Option Addr) (cap co B o : Nat) (l : List FactD) (hs : List (ByteArray × HR)) (s : ByteArray) (am cm : IM) (a c bl bo ba : Nat) (w : World)
    (hl : l.length ≤ 4000) (hf : FactsAt w A l) (hbl : Blk w bl 22 #[.slice A l.length cap]) (hbo : Blk w bo 38 #[.slice Ao hs.length co]) (hba : Blk w ba 39 #[.map (some o)])
    (hsl : SlAt w Ao 1 strCells (hs.map (·.1))) (hh : HistW w B o hs) (habs : absH hs = hist l l.length) (hq : (s, (am, cm)) ∈ hist l l.length)
    (hma : MapAt w a (Value.int .i64) (Value.int .i64) am) (hmc : MapAt w c (Value.int .i64) (Value.int .i64) cm) :
    Calls Tryd.prog 21 #[.string s, .agg #[.map (some a), .map (some c)], .pointer (some ⟨bl, 0, none⟩), .pointer (some ⟨bo, 0, none⟩), .pointer (some ⟨ba, 0, none⟩)] w
      fun e w' => e = .returned (.bool (ordB l (hs.map (·.1)) s)) ∧ Below w.heap.size w w' := by
  have hhl : hs.length ≤ 4000 := by
    have h1 := hist_len l l.length
    rw [← habs] at h1
    simp [absH] at h1; omega
  have h15 := has15 hq
  have HBOX := Blk.new w 44 #[.map (some a), .map (some c)]
  have HHAS := Lib.hid (has_any a c cm (some ⟨w.heap.size + 1, 0, none⟩) 2 [1, 5] _ (by simp) ((hmc.alloc (.cells #[.map (some a), .map (some c)] 44)).alloc (.cells #[.int .i64 1, .int .i64 5] 31)) (two_new (by simp) _ _ _))
  by_cases hcc : countN l 1 s ≠ 0 ∧ countN l 5 s ≠ 0
  · obtain ⟨m, hm, hml⟩ := first_nat hcc.1
    obtain ⟨d, hd, _⟩ := first_nat hcc.2
    have hOB := Lib.hid (show ordB l (hs.map (·.1)) s = (hs.map (·.1)).any (ordAt l s) by unfold ordB; simp [hcc.1, hcc.2])
    have h15' := Lib.hid (show hasB cm [1, 5] = true by rw [h15]; simp [hcc.1, hcc.2])
    have HVM := Lib.hid (at_nat hq hm)
    have HVD := Lib.hid (at_nat hq hd)
    have HM := Lib.hid hm
    have HD := Lib.hid hd
    clear h15 hcc hm hd hq
    obtain ⟨b, off, rfl, _⟩ := hf.ptr hml
    have HBL := Lib.hid hbl
    have HBO := Lib.hid hbo
    have HBA := Lib.hid hba
    have HF := Lib.hid hf
    have HSL := Lib.hid hsl
    have HH := Lib.hid hh
    have HMA := Lib.hid hma
    have HBX := Lib.hid HBOX
    have HA := Lib.hid habs
    clear hbl hbo hba hf hsl hh hma hmc HBOX habs
    go_enter Tryd.func21, Tryd.ntmps21
    go_wp2_with (fail)
    refine HHAS.out.mono ?_
    rintro e w1 ⟨rfl, hb1⟩
    rw [h15'.out]
    have HB1 := Lib.hid (below_call hb1 (below_call (below_new _ _) (below_new _ _)))
    have HBX1 := Lib.hid ((HBX.out.alloc _).below hb1)
    clear hb1
    have l1 := (HBL.out.below HB1.out).cell 0 (.slice (some ⟨b, off, none⟩) l.length cap) rfl
    have o1 := (HBO.out.below HB1.out).cell 0 (.slice Ao hs.length co) rfl
    have x1 := HBX1.out.cell 0 (.map (some a)) rfl
    have c0 := (HF.out.below HB1.out).cell0 hml (v := .int .i64 l[m].kind) rfl
    have c1 := (HF.out.below HB1.out).cell hml (j := 1) (v := .int .i64 l[m].at_) rfl
    have c2 := (HF.out.below HB1.out).cell hml (j := 2) (v := .string l[m].tenant) rfl
    have c3 := (HF.out.below HB1.out).cell hml (j := 3) (v := .string l[m].source) rfl
    have c4 := (HF.out.below HB1.out).cell hml (j := 4) (v := .string l[m].key) rfl
    have c5 := (HF.out.below HB1.out).cell hml (j := 5) (v := .string l[m].event) rfl
    have c6 := (HF.out.below HB1.out).cell hml (j := 6) (v := .int .i64 l[m].attempt) rfl
    have c7 := (HF.out.below HB1.out).cell hml (j := 7) (v := .int .i64 l[m].version) rfl
    have c8 := (HF.out.below HB1.out).cell hml (j := 8) (v := .string l[m].worker) rfl
    have c9 := (HF.out.below HB1.out).cell hml (j := 9) (v := .int .i64 l[m].units) rfl
    go_wp2_with (first
      | (at_lookup; refine wpList_look' rfl (.tmp 19) (.const (.int .i64 1)) rfl Tryd.kI Tryd.underlying42 0 (Tryd.zero3 _) rfl 1 rfl (HMA.out.below' HB1.out) _ rfl (.int .i64 m) (congrArg (Value.int .i64) HVM.out) ?_))
    have HBl := Lib.hid (below_call (below_new w1 (.cells (l[m]).cells.toArray 33)) HB1.out)
    have HX := Lib.hid (Blk.new w1 33 (l[m]).cells.toArray)
    have HBx := Lib.hid (HBX1.out.alloc (.cells (l[m]).cells.toArray 33))
    clear l1 o1 x1 c0 c1 c2 c3 c4 c5 c6 c7 c8 c9
    go_loopw [25] (fun i wr => ∃ n : Nat, n ≤ hs.length ∧ i = .int .i64 n ∧ ((hs.map (·.1)).take n).any (ordAt l s) = false ∧ Below (w1.alloc (.cells (l[m]).cells.toArray 33)).heap.size (w1.alloc (.cells (l[m]).cells.toArray 33)) wr) (fun i _ => hs.length - (intOf i).toNat)
    case atStart => exact ⟨0, Nat.zero_le _, rfl, rfl, Below.refl _ _⟩
    case round =>
      obtain ⟨n, hn, rfl, hany, hbr⟩ := hrel
      have HN := Lib.hid hany
      clear hany
      by_cases hlt : n < hs.length
      · have hln : n < (hs.map (·.1)).length := by simpa using hlt
        obtain ⟨bb, oo, rfl, _⟩ := HSL.out.ptr hln
        have HBR := Lib.hid (below_call hbr HBl.out)
        have hHr := HH.out.below HBR.out
        have s0 := (HSL.out.below HBR.out).cell0 hln (v := .string hs[n].1) (by simp [strCells])
        rw [Nat.mul_one] at s0
        have ba0 := (HBA.out.below HBR.out).cell 0 (.map (some o)) rfl
        have hg0 := alGet_at hs (by have := hist_nodup l l.length; rw [← HA.out, absH, List.map_map] at this; exact this) n hlt
        have HG := Lib.hid (show alGet (hs.map fun p => (p.1, (some p.2.ab, some p.2.cb))) hs[n].1 = some (some hs[n].2.ab, some hs[n].2.cb) by rw [alGet_map hs (fun r : HR => (some r.ab, some r.cb)), hg0]; rfl)
        have hnS : n < (hist l l.length).length := by rw [← HA.out]; simpa [absH] using hlt
        have hmem : (hs[n].1, (hs[n].2.am, hs[n].2.cm)) ∈ hist l l.length := by
          have := absH_at hs n hlt (by rw [HA.out]; exact hnS)
          simp only [HA.out] at this
          rw [← this]; exact List.getElem_mem _
        have HMR := Lib.hid (hHr.get hg0)
        have HHr := Lib.hid hHr
        have hSN : ∀ v, ordAt l s hs[n].1 = v → Hid (((hs.map (·.1)).take (n + 1)).any (ordAt l s) = v) := fun v hv => by
          show _ = _
          rw [any_snoc _ _ n hln HN.out]
          simpa using hv
        have h15t := has15 hmem
        clear hHr hg0 hnS
        cases hts : (hs[n].1.toList == s.toList)
        · have hts' : hs[n].1 ≠ s := by
            intro he
            rw [toList_beq] at hts
            simp [he] at hts
          by_cases hct : countN l 1 hs[n].1 ≠ 0 ∧ countN l 5 hs[n].1 ≠ 0
          · obtain ⟨m2, hm2, hml2⟩ := first_nat hct.1
            obtain ⟨d2, hd2, _⟩ := first_nat hct.2
            have h15t' := Lib.hid (show hasB hs[n].2.cm [1, 5] = true by rw [h15t]; simp [hct.1, hct.2])
            have HVM2 := Lib.hid (at_nat hmem hm2)
            have HVD2 := Lib.hid (at_nat hmem hd2)
            have hOA : ordAt l s hs[n].1 = (decide ((l[m]).tenant = (l[m2]).tenant) && decide ((l[m]).source = (l[m2]).source) && decide ((l[m]).key = (l[m2]).key) && decide ((m2 : Int) < (m : Int)) && decide ((d : Int) < (d2 : Int))) := by
              unfold ordAt
              rw [HM.out, hm2, HD.out, hd2]
              simp [hts', hct.1, hct.2, hml, hml2]
            clear hct hm2 hd2 hmem h15t hts'
            cases ht1 : (l[m].tenant.toList == l[m2].tenant.toList)
            · have HV := hSN false (by rw [hOA]; rw [toList_beq, decide_eq_false_iff_not] at ht1; simp [ht1])
              go_wp2_with (first
                | (at_lookup; refine wpList_look' rfl (.tmp 29) (.tmp 30) rfl Tryd.kS Tryd.underlying39 (none, none) (Tryd.zero44 _) rfl hs[n].1 rfl HHr.out.1 (some (some hs[n].2.ab, some hs[n].2.cb)) HG.out (.agg #[.map (some hs[n].2.ab), .map (some hs[n].2.cb)]) rfl ?_))
              refine (has_any hs[n].2.ab hs[n].2.cb hs[n].2.cm _ _ [1, 5] _ (by simp) (((HMR.out.2.1).alloc _).alloc _) (two_new (by simp) _ _ _)).mono ?_
              rintro e w3 ⟨rfl, hb3⟩
              rw [h15t'.out]
              have HB3 := Lib.hid (below_call hb3 (below_call (below_new _ _) (below_new wr (.cells #[.map (some hs[n].2.ab), .map (some hs[n].2.cb)] 44))))
              have HB13 := Lib.hid (below_call HB3.out HBR.out)
              have HP3 := ((Blk.new wr 44 #[.map (some hs[n].2.ab), .map (some hs[n].2.cb)]).alloc _).below hb3
              have p0 := HP3.cell 0 (.map (some hs[n].2.ab)) rfl
              have l3 := (HBL.out.below HB13.out).cell 0 (.slice (some ⟨b, off, none⟩) l.length cap) rfl
              have HX3 := (HX.out.below hbr).below HB3.out
              have x2 := HX3.cell 2 (.string l[m].tenant) rfl
              have x3 := HX3.cell 3 (.string l[m].source) rfl
              have x4 := HX3.cell 4 (.string l[m].key) rfl
              have q0 := ((HBx.out.below hbr).below HB3.out).cell 0 (.map (some a)) rfl
              have HMA3 := Lib.hid (HMA.out.below' HB13.out)
              have HMR3 := Lib.hid ((HMR.out.1).below' HB3.out)
              have HB3' := Lib.hid (below_call' HB3.out hbr hbr.size)
              clear hSN hOA HX3 HP3 hb3
              have c0 := (HF.out.below HB13.out).cell0 hml2 (v := .int .i64 l[m2].kind) rfl
              have c1 := (HF.out.below HB13.out).cell hml2 (j := 1) (v := .int .i64 l[m2].at_) rfl
              have c2 := (HF.out.below HB13.out).cell hml2 (j := 2) (v := .string l[m2].tenant) rfl
              have c3 := (HF.out.below HB13.out).cell hml2 (j := 3) (v := .string l[m2].source) rfl
              have c4 := (HF.out.below HB13.out).cell hml2 (j := 4) (v := .string l[m2].key) rfl
              have c5 := (HF.out.below HB13.out).cell hml2 (j := 5) (v := .string l[m2].event) rfl
              have c6 := (HF.out.below HB13.out).cell hml2 (j := 6) (v := .int .i64 l[m2].attempt) rfl
              have c7 := (HF.out.below HB13.out).cell hml2 (j := 7) (v := .int .i64 l[m2].version) rfl
              have c8 := (HF.out.below HB13.out).cell hml2 (j := 8) (v := .string l[m2].worker) rfl
              have c9 := (HF.out.below HB13.out).cell hml2 (j := 9) (v := .int .i64 l[m2].units) rfl
              go_wp2_with (first
                | (at_lookup; refine wpList_look' rfl (.tmp 43) (.const (.int .i64 1)) rfl Tryd.kI Tryd.underlying42 0 (Tryd.zero3 _) rfl 1 rfl HMR3.out _ rfl (.int .i64 m2) (congrArg (Value.int .i64) HVM2.out) ?_))
              go_roundw
              case rel => exact ⟨n + 1, by omega, by go_num, HV.out, below_call' (below_new _ _) HB3'.out HB3'.out.size⟩
              case measure => simp [intOf]; omega
            cases ht2 : (l[m].source.toList == l[m2].source.toList)
            · have HV := hSN false (by rw [hOA]; rw [toList_beq, decide_eq_false_iff_not] at ht2; simp [ht2])
              go_wp2_with (first
                | (at_lookup; refine wpList_look' rfl (.tmp 29) (.tmp 30) rfl Tryd.kS Tryd.underlying39 (none, none) (Tryd.zero44 _) rfl hs[n].1 rfl HHr.out.1 (some (some hs[n].2.ab, some hs[n].2.cb)) HG.out (.agg #[.map (some hs[n].2.ab), .map (some hs[n].2.cb)]) rfl ?_))
              refine (has_any hs[n].2.ab hs[n].2.cb hs[n].2.cm _ _ [1, 5] _ (by simp) (((HMR.out.2.1).alloc _).alloc _) (two_new (by simp) _ _ _)).mono ?_
              rintro e w3 ⟨rfl, hb3⟩
              rw [h15t'.out]
              have HB3 := Lib.hid (below_call hb3 (below_call (below_new _ _) (below_new wr (.cells #[.map (some hs[n].2.ab), .map (some hs[n].2.cb)] 44))))
              have HB13 := Lib.hid (below_call HB3.out HBR.out)
              have HP3 := ((Blk.new wr 44 #[.map (some hs[n].2.ab), .map (some hs[n].2.cb)]).alloc _).below hb3
              have p0 := HP3.cell 0 (.map (some hs[n].2.ab)) rfl
              have l3 := (HBL.out.below HB13.out).cell 0 (.slice (some ⟨b, off, none⟩) l.length cap) rfl
              have HX3 := (HX.out.below hbr).below HB3.out
              have x2 := HX3.cell 2 (.string l[m].tenant) rfl
              have x3 := HX3.cell 3 (.string l[m].source) rfl
              have x4 := HX3.cell 4 (.string l[m].key) rfl
              have q0 := ((HBx.out.below hbr).below HB3.out).cell 0 (.map (some a)) rfl
              have HMA3 := Lib.hid (HMA.out.below' HB13.out)
              have HMR3 := Lib.hid ((HMR.out.1).below' HB3.out)
              have HB3' := Lib.hid (below_call' HB3.out hbr hbr.size)
              clear hSN hOA HX3 HP3 hb3
              have c0 := (HF.out.below HB13.out).cell0 hml2 (v := .int .i64 l[m2].kind) rfl
              have c1 := (HF.out.below HB13.out).cell hml2 (j := 1) (v := .int .i64 l[m2].at_) rfl
              have c2 := (HF.out.below HB13.out).cell hml2 (j := 2) (v := .string l[m2].tenant) rfl
              have c3 := (HF.out.below HB13.out).cell hml2 (j := 3) (v := .string l[m2].source) rfl
              have c4 := (HF.out.below HB13.out).cell hml2 (j := 4) (v := .string l[m2].key) rfl
              have c5 := (HF.out.below HB13.out).cell hml2 (j := 5) (v := .string l[m2].event) rfl
              have c6 := (HF.out.below HB13.out).cell hml2 (j := 6) (v := .int .i64 l[m2].attempt) rfl
              have c7 := (HF.out.below HB13.out).cell hml2 (j := 7) (v := .int .i64 l[m2].version) rfl
              have c8 := (HF.out.below HB13.out).cell hml2 (j := 8) (v := .string l[m2].worker) rfl
              have c9 := (HF.out.below HB13.out).cell hml2 (j := 9) (v := .int .i64 l[m2].units) rfl
              go_wp2_with (first
                | (at_lookup; refine wpList_look' rfl (.tmp 43) (.const (.int .i64 1)) rfl Tryd.kI Tryd.underlying42 0 (Tryd.zero3 _) rfl 1 rfl HMR3.out _ rfl (.int .i64 m2) (congrArg (Value.int .i64) HVM2.out) ?_))
              go_roundw
              case rel => exact ⟨n + 1, by omega, by go_num, HV.out, below_call' (below_new _ _) HB3'.out HB3'.out.size⟩
              case measure => simp [intOf]; omega
            cases ht3 : (l[m].key.toList == l[m2].key.toList)
            · have HV := hSN false (by rw [hOA]; rw [toList_beq, decide_eq_false_iff_not] at ht3; simp [ht3])
              go_wp2_with (first
                | (at_lookup; refine wpList_look' rfl (.tmp 29) (.tmp 30) rfl Tryd.kS Tryd.underlying39 (none, none) (Tryd.zero44 _) rfl hs[n].1 rfl HHr.out.1 (some (some hs[n].2.ab, some hs[n].2.cb)) HG.out (.agg #[.map (some hs[n].2.ab), .map (some hs[n].2.cb)]) rfl ?_))
              refine (has_any hs[n].2.ab hs[n].2.cb hs[n].2.cm _ _ [1, 5] _ (by simp) (((HMR.out.2.1).alloc _).alloc _) (two_new (by simp) _ _ _)).mono ?_
              rintro e w3 ⟨rfl, hb3⟩
              rw [h15t'.out]
              have HB3 := Lib.hid (below_call hb3 (below_call (below_new _ _) (below_new wr (.cells #[.map (some hs[n].2.ab), .map (some hs[n].2.cb)] 44))))
              have HB13 := Lib.hid (below_call HB3.out HBR.out)
              have HP3 := ((Blk.new wr 44 #[.map (some hs[n].2.ab), .map (some hs[n].2.cb)]).alloc _).below hb3
              have p0 := HP3.cell 0 (.map (some hs[n].2.ab)) rfl
              have l3 := (HBL.out.below HB13.out).cell 0 (.slice (some ⟨b, off, none⟩) l.length cap) rfl
              have HX3 := (HX.out.below hbr).below HB3.out
              have x2 := HX3.cell 2 (.string l[m].tenant) rfl
              have x3 := HX3.cell 3 (.string l[m].source) rfl
              have x4 := HX3.cell 4 (.string l[m].key) rfl
              have q0 := ((HBx.out.below hbr).below HB3.out).cell 0 (.map (some a)) rfl
              have HMA3 := Lib.hid (HMA.out.below' HB13.out)
              have HMR3 := Lib.hid ((HMR.out.1).below' HB3.out)
              have HB3' := Lib.hid (below_call' HB3.out hbr hbr.size)
              clear hSN hOA HX3 HP3 hb3
              have c0 := (HF.out.below HB13.out).cell0 hml2 (v := .int .i64 l[m2].kind) rfl
              have c1 := (HF.out.below HB13.out).cell hml2 (j := 1) (v := .int .i64 l[m2].at_) rfl
              have c2 := (HF.out.below HB13.out).cell hml2 (j := 2) (v := .string l[m2].tenant) rfl
              have c3 := (HF.out.below HB13.out).cell hml2 (j := 3) (v := .string l[m2].source) rfl
              have c4 := (HF.out.below HB13.out).cell hml2 (j := 4) (v := .string l[m2].key) rfl
              have c5 := (HF.out.below HB13.out).cell hml2 (j := 5) (v := .string l[m2].event) rfl
              have c6 := (HF.out.below HB13.out).cell hml2 (j := 6) (v := .int .i64 l[m2].attempt) rfl
              have c7 := (HF.out.below HB13.out).cell hml2 (j := 7) (v := .int .i64 l[m2].version) rfl
              have c8 := (HF.out.below HB13.out).cell hml2 (j := 8) (v := .string l[m2].worker) rfl
              have c9 := (HF.out.below HB13.out).cell hml2 (j := 9) (v := .int .i64 l[m2].units) rfl
              go_wp2_with (first
                | (at_lookup; refine wpList_look' rfl (.tmp 43) (.const (.int .i64 1)) rfl Tryd.kI Tryd.underlying42 0 (Tryd.zero3 _) rfl 1 rfl HMR3.out _ rfl (.int .i64 m2) (congrArg (Value.int .i64) HVM2.out) ?_))
              go_roundw
              case rel => exact ⟨n + 1, by omega, by go_num, HV.out, below_call' (below_new _ _) HB3'.out HB3'.out.size⟩
              case measure => simp [intOf]; omega
            by_cases hmm : m2 < m
            · have hmm' : (m2 : Int) < (m : Int) := by omega
              by_cases hdd : d < d2
              · have hdd' : (d : Int) < (d2 : Int) := by omega
                have HV := hSN true (by rw [hOA]; rw [toList_beq, decide_eq_true_eq] at ht1 ht2 ht3; simp [ht1, ht2, ht3, hmm, hdd])
                go_wp2_with (first
                  | (at_lookup; refine wpList_look' rfl (.tmp 29) (.tmp 30) rfl Tryd.kS Tryd.underlying39 (none, none) (Tryd.zero44 _) rfl hs[n].1 rfl HHr.out.1 (some (some hs[n].2.ab, some hs[n].2.cb)) HG.out (.agg #[.map (some hs[n].2.ab), .map (some hs[n].2.cb)]) rfl ?_))
                refine (has_any hs[n].2.ab hs[n].2.cb hs[n].2.cm _ _ [1, 5] _ (by simp) (((HMR.out.2.1).alloc _).alloc _) (two_new (by simp) _ _ _)).mono ?_
                rintro e w3 ⟨rfl, hb3⟩
                rw [h15t'.out]
                have HB3 := Lib.hid (below_call hb3 (below_call (below_new _ _) (below_new wr (.cells #[.map (some hs[n].2.ab), .map (some hs[n].2.cb)] 44))))
                have HB13 := Lib.hid (below_call HB3.out HBR.out)
                have HP3 := ((Blk.new wr 44 #[.map (some hs[n].2.ab), .map (some hs[n].2.cb)]).alloc _).below hb3
                have p0 := HP3.cell 0 (.map (some hs[n].2.ab)) rfl
                have l3 := (HBL.out.below HB13.out).cell 0 (.slice (some ⟨b, off, none⟩) l.length cap) rfl
                have HX3 := (HX.out.below hbr).below HB3.out
                have x2 := HX3.cell 2 (.string l[m].tenant) rfl
                have x3 := HX3.cell 3 (.string l[m].source) rfl
                have x4 := HX3.cell 4 (.string l[m].key) rfl
                have q0 := ((HBx.out.below hbr).below HB3.out).cell 0 (.map (some a)) rfl
                have HMA3 := Lib.hid (HMA.out.below' HB13.out)
                have HMR3 := Lib.hid ((HMR.out.1).below' HB3.out)
                have HB3' := Lib.hid (below_call' HB3.out hbr hbr.size)
                clear hSN hOA HX3 HP3 hb3
                have c0 := (HF.out.below HB13.out).cell0 hml2 (v := .int .i64 l[m2].kind) rfl
                have c1 := (HF.out.below HB13.out).cell hml2 (j := 1) (v := .int .i64 l[m2].at_) rfl
                have c2 := (HF.out.below HB13.out).cell hml2 (j := 2) (v := .string l[m2].tenant) rfl
                have c3 := (HF.out.below HB13.out).cell hml2 (j := 3) (v := .string l[m2].source) rfl
                have c4 := (HF.out.below HB13.out).cell hml2 (j := 4) (v := .string l[m2].key) rfl
                have c5 := (HF.out.below HB13.out).cell hml2 (j := 5) (v := .string l[m2].event) rfl
                have c6 := (HF.out.below HB13.out).cell hml2 (j := 6) (v := .int .i64 l[m2].attempt) rfl
                have c7 := (HF.out.below HB13.out).cell hml2 (j := 7) (v := .int .i64 l[m2].version) rfl
                have c8 := (HF.out.below HB13.out).cell hml2 (j := 8) (v := .string l[m2].worker) rfl
                have c9 := (HF.out.below HB13.out).cell hml2 (j := 9) (v := .int .i64 l[m2].units) rfl
                go_wp2_with (first
                  | (at_lookup; refine wpList_look' rfl (.tmp 43) (.const (.int .i64 1)) rfl Tryd.kI Tryd.underlying42 0 (Tryd.zero3 _) rfl 1 rfl HMR3.out _ rfl (.int .i64 m2) (congrArg (Value.int .i64) HVM2.out) ?_)
                  | (at_lookup; refine wpList_look' rfl (.tmp 68) (.const (.int .i64 1)) rfl Tryd.kI Tryd.underlying42 0 (Tryd.zero3 _) rfl 1 rfl (HMR3.out.alloc _) _ rfl (.int .i64 m2) (congrArg (Value.int .i64) HVM2.out) ?_)
                  | (at_lookup; refine wpList_look' rfl (.tmp 71) (.const (.int .i64 1)) rfl Tryd.kI Tryd.underlying42 0 (Tryd.zero3 _) rfl 1 rfl (HMA3.out.alloc _) _ rfl (.int .i64 m) (congrArg (Value.int .i64) HVM.out) ?_)
                  | (at_lookup; refine wpList_look' rfl (.tmp 77) (.const (.int .i64 5)) rfl Tryd.kI Tryd.underlying42 0 (Tryd.zero3 _) rfl 5 rfl (HMR3.out.alloc _) _ rfl (.int .i64 d2) (congrArg (Value.int .i64) HVD2.out) ?_)
                  | (at_lookup; refine wpList_look' rfl (.tmp 80) (.const (.int .i64 5)) rfl Tryd.kI Tryd.underlying42 0 (Tryd.zero3 _) rfl 5 rfl (HMA3.out.alloc _) _ rfl (.int .i64 d) (congrArg (Value.int .i64) HVD.out) ?_))
                go_ret
                refine ⟨?_, below_call (below_new _ _) HB13.out⟩
                have : (hs.map (·.1)).any (ordAt l s) = true := by
                  have h := HV.out
                  rw [List.any_eq_true] at h ⊢
                  obtain ⟨x, hx, hp⟩ := h
                  exact ⟨x, List.mem_of_mem_take hx, hp⟩
                rw [hOB.out, this]; rfl
              · have hdd' : (d2 : Int) ≤ (d : Int) := by omega
                have HV := hSN false (by rw [hOA]; simp [hdd])
                go_wp2_with (first
                  | (at_lookup; refine wpList_look' rfl (.tmp 29) (.tmp 30) rfl Tryd.kS Tryd.underlying39 (none, none) (Tryd.zero44 _) rfl hs[n].1 rfl HHr.out.1 (some (some hs[n].2.ab, some hs[n].2.cb)) HG.out (.agg #[.map (some hs[n].2.ab), .map (some hs[n].2.cb)]) rfl ?_))
                refine (has_any hs[n].2.ab hs[n].2.cb hs[n].2.cm _ _ [1, 5] _ (by simp) (((HMR.out.2.1).alloc _).alloc _) (two_new (by simp) _ _ _)).mono ?_
                rintro e w3 ⟨rfl, hb3⟩
                rw [h15t'.out]
                have HB3 := Lib.hid (below_call hb3 (below_call (below_new _ _) (below_new wr (.cells #[.map (some hs[n].2.ab), .map (some hs[n].2.cb)] 44))))
                have HB13 := Lib.hid (below_call HB3.out HBR.out)
                have HP3 := ((Blk.new wr 44 #[.map (some hs[n].2.ab), .map (some hs[n].2.cb)]).alloc _).below hb3
                have p0 := HP3.cell 0 (.map (some hs[n].2.ab)) rfl
                have l3 := (HBL.out.below HB13.out).cell 0 (.slice (some ⟨b, off, none⟩) l.length cap) rfl
                have HX3 := (HX.out.below hbr).below HB3.out
                have x2 := HX3.cell 2 (.string l[m].tenant) rfl
                have x3 := HX3.cell 3 (.string l[m].source) rfl
                have x4 := HX3.cell 4 (.string l[m].key) rfl
                have q0 := ((HBx.out.below hbr).below HB3.out).cell 0 (.map (some a)) rfl
                have HMA3 := Lib.hid (HMA.out.below' HB13.out)
                have HMR3 := Lib.hid ((HMR.out.1).below' HB3.out)
                have HB3' := Lib.hid (below_call' HB3.out hbr hbr.size)
                clear hSN hOA HX3 HP3 hb3
                have c0 := (HF.out.below HB13.out).cell0 hml2 (v := .int .i64 l[m2].kind) rfl
                have c1 := (HF.out.below HB13.out).cell hml2 (j := 1) (v := .int .i64 l[m2].at_) rfl
                have c2 := (HF.out.below HB13.out).cell hml2 (j := 2) (v := .string l[m2].tenant) rfl
                have c3 := (HF.out.below HB13.out).cell hml2 (j := 3) (v := .string l[m2].source) rfl
                have c4 := (HF.out.below HB13.out).cell hml2 (j := 4) (v := .string l[m2].key) rfl
                have c5 := (HF.out.below HB13.out).cell hml2 (j := 5) (v := .string l[m2].event) rfl
                have c6 := (HF.out.below HB13.out).cell hml2 (j := 6) (v := .int .i64 l[m2].attempt) rfl
                have c7 := (HF.out.below HB13.out).cell hml2 (j := 7) (v := .int .i64 l[m2].version) rfl
                have c8 := (HF.out.below HB13.out).cell hml2 (j := 8) (v := .string l[m2].worker) rfl
                have c9 := (HF.out.below HB13.out).cell hml2 (j := 9) (v := .int .i64 l[m2].units) rfl
                go_wp2_with (first
                  | (at_lookup; refine wpList_look' rfl (.tmp 43) (.const (.int .i64 1)) rfl Tryd.kI Tryd.underlying42 0 (Tryd.zero3 _) rfl 1 rfl HMR3.out _ rfl (.int .i64 m2) (congrArg (Value.int .i64) HVM2.out) ?_)
                  | (at_lookup; refine wpList_look' rfl (.tmp 68) (.const (.int .i64 1)) rfl Tryd.kI Tryd.underlying42 0 (Tryd.zero3 _) rfl 1 rfl (HMR3.out.alloc _) _ rfl (.int .i64 m2) (congrArg (Value.int .i64) HVM2.out) ?_)
                  | (at_lookup; refine wpList_look' rfl (.tmp 71) (.const (.int .i64 1)) rfl Tryd.kI Tryd.underlying42 0 (Tryd.zero3 _) rfl 1 rfl (HMA3.out.alloc _) _ rfl (.int .i64 m) (congrArg (Value.int .i64) HVM.out) ?_)
                  | (at_lookup; refine wpList_look' rfl (.tmp 77) (.const (.int .i64 5)) rfl Tryd.kI Tryd.underlying42 0 (Tryd.zero3 _) rfl 5 rfl (HMR3.out.alloc _) _ rfl (.int .i64 d2) (congrArg (Value.int .i64) HVD2.out) ?_)
                  | (at_lookup; refine wpList_look' rfl (.tmp 80) (.const (.int .i64 5)) rfl Tryd.kI Tryd.underlying42 0 (Tryd.zero3 _) rfl 5 rfl (HMA3.out.alloc _) _ rfl (.int .i64 d) (congrArg (Value.int .i64) HVD.out) ?_))
                go_roundw
                case rel => exact ⟨n + 1, by omega, by go_num, HV.out, below_call' (below_new _ _) HB3'.out HB3'.out.size⟩
                case measure => simp [intOf]; omega
            · have hmm' : (m : Int) ≤ (m2 : Int) := by omega
              have HV := hSN false (by rw [hOA]; simp [hmm])
              go_wp2_with (first
                | (at_lookup; refine wpList_look' rfl (.tmp 29) (.tmp 30) rfl Tryd.kS Tryd.underlying39 (none, none) (Tryd.zero44 _) rfl hs[n].1 rfl HHr.out.1 (some (some hs[n].2.ab, some hs[n].2.cb)) HG.out (.agg #[.map (some hs[n].2.ab), .map (some hs[n].2.cb)]) rfl ?_))
              refine (has_any hs[n].2.ab hs[n].2.cb hs[n].2.cm _ _ [1, 5] _ (by simp) (((HMR.out.2.1).alloc _).alloc _) (two_new (by simp) _ _ _)).mono ?_
              rintro e w3 ⟨rfl, hb3⟩
              rw [h15t'.out]
              have HB3 := Lib.hid (below_call hb3 (below_call (below_new _ _) (below_new wr (.cells #[.map (some hs[n].2.ab), .map (some hs[n].2.cb)] 44))))
              have HB13 := Lib.hid (below_call HB3.out HBR.out)
              have HP3 := ((Blk.new wr 44 #[.map (some hs[n].2.ab), .map (some hs[n].2.cb)]).alloc _).below hb3
              have p0 := HP3.cell 0 (.map (some hs[n].2.ab)) rfl
              have l3 := (HBL.out.below HB13.out).cell 0 (.slice (some ⟨b, off, none⟩) l.length cap) rfl
              have HX3 := (HX.out.below hbr).below HB3.out
              have x2 := HX3.cell 2 (.string l[m].tenant) rfl
              have x3 := HX3.cell 3 (.string l[m].source) rfl
              have x4 := HX3.cell 4 (.string l[m].key) rfl
              have q0 := ((HBx.out.below hbr).below HB3.out).cell 0 (.map (some a)) rfl
              have HMA3 := Lib.hid (HMA.out.below' HB13.out)
              have HMR3 := Lib.hid ((HMR.out.1).below' HB3.out)
              have HB3' := Lib.hid (below_call' HB3.out hbr hbr.size)
              clear hSN hOA HX3 HP3 hb3
              have c0 := (HF.out.below HB13.out).cell0 hml2 (v := .int .i64 l[m2].kind) rfl
              have c1 := (HF.out.below HB13.out).cell hml2 (j := 1) (v := .int .i64 l[m2].at_) rfl
              have c2 := (HF.out.below HB13.out).cell hml2 (j := 2) (v := .string l[m2].tenant) rfl
              have c3 := (HF.out.below HB13.out).cell hml2 (j := 3) (v := .string l[m2].source) rfl
              have c4 := (HF.out.below HB13.out).cell hml2 (j := 4) (v := .string l[m2].key) rfl
              have c5 := (HF.out.below HB13.out).cell hml2 (j := 5) (v := .string l[m2].event) rfl
              have c6 := (HF.out.below HB13.out).cell hml2 (j := 6) (v := .int .i64 l[m2].attempt) rfl
              have c7 := (HF.out.below HB13.out).cell hml2 (j := 7) (v := .int .i64 l[m2].version) rfl
              have c8 := (HF.out.below HB13.out).cell hml2 (j := 8) (v := .string l[m2].worker) rfl
              have c9 := (HF.out.below HB13.out).cell hml2 (j := 9) (v := .int .i64 l[m2].units) rfl
              go_wp2_with (first
                | (at_lookup; refine wpList_look' rfl (.tmp 43) (.const (.int .i64 1)) rfl Tryd.kI Tryd.underlying42 0 (Tryd.zero3 _) rfl 1 rfl HMR3.out _ rfl (.int .i64 m2) (congrArg (Value.int .i64) HVM2.out) ?_)
                | (at_lookup; refine wpList_look' rfl (.tmp 68) (.const (.int .i64 1)) rfl Tryd.kI Tryd.underlying42 0 (Tryd.zero3 _) rfl 1 rfl (HMR3.out.alloc _) _ rfl (.int .i64 m2) (congrArg (Value.int .i64) HVM2.out) ?_)
                | (at_lookup; refine wpList_look' rfl (.tmp 71) (.const (.int .i64 1)) rfl Tryd.kI Tryd.underlying42 0 (Tryd.zero3 _) rfl 1 rfl (HMA3.out.alloc _) _ rfl (.int .i64 m) (congrArg (Value.int .i64) HVM.out) ?_))
              go_roundw
              case rel => exact ⟨n + 1, by omega, by go_num, HV.out, below_call' (below_new _ _) HB3'.out HB3'.out.size⟩
              case measure => simp [intOf]; omega
          · have hct' : ¬ (hasB hs[n].2.cm [1, 5] = true) := by rw [h15t]; simpa using hct
            have h15t' := Lib.hid (show hasB hs[n].2.cm [1, 5] = false by simpa using hct')
            have HV := hSN false (by unfold ordAt; rw [h15t] at hct'; simp at hct'; by_cases h1 : countN l 1 hs[n].1 = 0 <;> simp [h1]; intro _ h5; exact absurd (hct' h1) h5)
            clear hSN hct hct' h15t hmem
            go_wp2_with (first
              | (at_lookup; refine wpList_look' rfl (.tmp 29) (.tmp 30) rfl Tryd.kS Tryd.underlying39 (none, none) (Tryd.zero44 _) rfl hs[n].1 rfl HHr.out.1 (some (some hs[n].2.ab, some hs[n].2.cb)) HG.out (.agg #[.map (some hs[n].2.ab), .map (some hs[n].2.cb)]) rfl ?_))
            refine (has_any hs[n].2.ab hs[n].2.cb hs[n].2.cm _ _ [1, 5] _ (by simp) (((HMR.out.2.1).alloc _).alloc _) (two_new (by simp) _ _ _)).mono ?_
            rintro e w3 ⟨rfl, hb3⟩
            rw [h15t'.out]
            go_wp2_with (fail)
            go_roundw
            case rel => exact ⟨n + 1, by omega, by go_num, HV.out, below_call' hb3 (below_call' (below_new _ _) (below_call' (below_new _ _) hbr hbr.size) (by have := hbr.size; simp at this ⊢; omega)) (by have := hbr.size; simp at this ⊢; omega)⟩
            case measure => simp [intOf]; omega
        · have HV := hSN false (by unfold ordAt; rw [toList_beq, decide_eq_true_eq] at hts; simp [hts])
          clear hSN h15t hmem
          go_wp2_with (first
            | (at_lookup; refine wpList_look' rfl (.tmp 29) (.tmp 30) rfl Tryd.kS Tryd.underlying39 (none, none) (Tryd.zero44 _) rfl hs[n].1 rfl HHr.out.1 (some (some hs[n].2.ab, some hs[n].2.cb)) HG.out (.agg #[.map (some hs[n].2.ab), .map (some hs[n].2.cb)]) rfl ?_))
          go_roundw
          case rel => exact ⟨n + 1, by omega, by go_num, HV.out, below_call' (below_new _ _) hbr hbr.size⟩
          case measure => simp [intOf]; omega
      · go_wp2
        go_ret
        have hN := HN.out
        rw [List.take_of_length_le (by simp; omega)] at hN
        exact ⟨by rw [hOB.out, hN]; rfl, below_call hbr HBl.out⟩
  · have hOB := Lib.hid (show ordB l (hs.map (·.1)) s = false by
      unfold ordB
      by_cases h1 : countN l 1 s = 0
      · simp [h1]
      · by_cases h5 : countN l 5 s = 0
        · simp [h5]
        · exact absurd ⟨h1, h5⟩ hcc)
    have h15' := Lib.hid (show hasB cm [1, 5] = false by
      rw [h15]
      by_cases h1 : countN l 1 s = 0
      · simp [h1]
      · by_cases h5 : countN l 5 s = 0
        · simp [h5]
        · exact absurd ⟨h1, h5⟩ hcc)
    clear h15 hcc hbl hbo hba hf hsl hh hma hmc habs
    go_enter Tryd.func21, Tryd.ntmps21
    go_wp2_with (fail)
    refine HHAS.out.mono ?_
    rintro e w1 ⟨rfl, hb1⟩
    rw [h15'.out]
    have HB1 := Lib.hid (below_call hb1 (below_call (below_new _ _) (below_new _ _)))
    clear hb1
    go_wp2_with (fail)
    go_ret
    exact ⟨by rw [hOB.out]; rfl, HB1.out⟩
end Go.Proofs.YtcnmdhdoiekfoaaDoor

