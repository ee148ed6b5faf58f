/- The walk of the program's Fair. -/
import Derived.Test.YtcnmdhdoiekfoaaS2
import Derived.Test.YtcnmdhdoiekfoaaW6
namespace Go.Proofs.Ytcnmdhdoiekfoaa
open Go.RowKit

theorem Try.zero4 (w : World) : (zeroValue 4).run Try.prog w = .ok (.bool false) w := by kernel_rfl

/-- What the map of counts holds behind i facts. -/
def CMap (l : List FactD) (ts : List ByteArray) (i : Nat) (m : List (ByteArray × Int)) : Prop := ∀ t, alGet m t = if memB t ts then some (stC l i t) else none
/-- What the map of those that were told holds. -/
def FMap (out : List ByteArray) (m : List (ByteArray × Bool)) : Prop := ∀ t, (alGet m t).getD false = memB t out

theorem CMap.skip {l : List FactD} {ts : List ByteArray} {i : Nat} {m : List (ByteArray × Int)} (h : CMap l ts i m) (hi : i < l.length) (hk : ¬ (l[i].kind = 3 ∧ memB l[i].tenant ts = true)) : CMap l ts (i + 1) m := by
  intro t
  rw [h t, stC_succ hi]
  by_cases ht : memB t ts = true
  · rw [if_pos ht, if_pos ht, if_neg]
    · simp
    · rintro ⟨a, rfl⟩; exact hk ⟨a, ht⟩
  · rw [if_neg ht, if_neg ht]
theorem CMap.step {l : List FactD} {ts : List ByteArray} {i : Nat} {m : List (ByteArray × Int)} (h : CMap l ts i m) (hi : i < l.length) (hk : l[i].kind = 3) (hm : memB l[i].tenant ts = true) : CMap l ts (i + 1) (alSet m l[i].tenant (stC l i l[i].tenant + 1)) := by
  intro t
  rw [alGet_set, h t, stC_succ hi]
  by_cases ht : l[i].tenant = t
  · subst ht; rw [if_pos rfl, if_pos hm, if_pos ⟨hk, rfl⟩]
  · rw [if_neg ht]
    by_cases hmt : memB t ts = true
    · rw [if_pos hmt, if_pos hmt, if_neg (fun hh => ht hh.2)]; simp
    · rw [if_neg hmt, if_neg hmt]
theorem memB_snoc (t s : ByteArray) (out : List ByteArray) : memB t (out ++ [s]) = (memB t out || decide (s = t)) := by simp [memB]
theorem FMap.more {out : List ByteArray} {m : List (ByteArray × Bool)} (h : FMap out m) (s : ByteArray) : FMap (out ++ [s]) (alSet m s true) := by
  intro t
  rw [alGet_set, memB_snoc]
  by_cases hs : s = t
  · simp [hs]
  · rw [if_neg hs, h t]; simp [hs]
theorem memB_take_succ (ts : List ByteArray) (n : Nat) (hn : n < ts.length) (t : ByteArray) : memB t (ts.take (n + 1)) = (memB t (ts.take n) || decide (ts[n] = t)) := by
  rw [List.take_succ_eq_append_getElem hn, memB_snoc]

attribute [local go_sem] cell_alloc_is
set_option maxHeartbeats 4000000 in
set_option maxRecDepth 100000 in
theorem pfair_any (A A2 : Option Addr) (cap cap2 : Nat) (l : List FactD) (ts : List ByteArray) (bound : Int) (w : World) (hl : l.length ≤ 200) (hc : l.length ≤ cap) (ht : ts.length ≤ 20) (hbd1 : -9223372036854775808 ≤ bound) (hbd2 : bound ≤ 9223372036854775807) (hf : FactsAt w A l) (hs : SlAt w A2 1 strCells ts) :
    Calls Try.prog 16 #[.slice A l.length cap, .slice A2 ts.length cap2, .int .i64 bound] w fun e w' => ∃ v, e = .returned v ∧ ProbsAt w' w.heap.size v sFair (fairN l ts (max 0 bound) l.length) ∧ Below w.heap.size w w' := by
  obtain ⟨i0, hi, hz0, hz1, hz2⟩ := info_parts Try.infoProb
  have hmm := @run_makeMap Try.prog
  obtain ⟨B, hB⟩ : ∃ B, B = max 0 bound := ⟨_, rfl⟩
  have hB0 : 0 ≤ B := by omega
  have hB1 : B ≤ 9223372036854775807 := by omega
  rw [← hB]
  have HB := Lib.hid hB
  have HF := Lib.hid hf
  have HS := Lib.hid hs
  clear hB
  go_enter Try.func16, Try.ntmps16
  go_wp2_with (fail)
  go_loopw [22] (fun i wr => ∃ (n : Nat) (m : List (ByteArray × Int)), n ≤ ts.length ∧ i = .int .i64 n ∧ MapAt wr w.heap.size Value.string (Value.int .i64) m ∧ (∀ t, alGet m t = if memB t (ts.take n) then some 0 else none) ∧ MapAt wr (w.heap.size + 1) Value.string Value.bool ([] : List (ByteArray × Bool)) ∧ Below w.heap.size w wr) (fun i _ => ts.length - (intOf i).toNat)
  case atStart => exact ⟨0, [], Nat.zero_le _, rfl, (MapAt.new _ _ _).alloc _, fun t => by simp [memB, alGet], MapAt.new' (by simp), below_call (below_new _ _) (below_new _ _)⟩
  case round =>
    obtain ⟨n, m, hn, rfl, hm, hmt, hd, hbel⟩ := hrel
    obtain ⟨wo, rfl⟩ : ∃ wo : World, wo = wr := ⟨_, rfl⟩
    have HM := Lib.hid hm
    have HT := Lib.hid hmt
    have HD := Lib.hid hd
    have HBE := Lib.hid hbel
    have hlo := hd.lt
    clear hm hmt hd hbel
    by_cases hlt : n < ts.length
    · obtain ⟨b, off, rfl, _⟩ := hs.ptr hlt
      have h0 := (HS.out.below HBE.out).cell0 hlt (v := .string ts[n]) rfl
      rw [Nat.mul_one] at h0
      go_wp2_with (first
        | (at_mapUpdate; refine wpList_store rfl (.tmp 26) (.tmp 27) (.const (.int .i64 0)) rfl Try.kS Try.underlying58 rfl ts[n] rfl (0 : Int) rfl HM.out ?_; intro w1 hm1 hg1 hs1))
      go_roundw
      case rel =>
        refine ⟨n + 1, _, by omega, by go_num, hm1, fun t => ?_, HD.out.grown hg1 (by intro he; simp at he), HBE.out.grown hg1 HBE.out.size (fun k hk => by cases hk; exact Nat.le_refl _)⟩
        rw [alGet_set, HT.out t, memB_take_succ ts n hlt]
        by_cases hh : ts[n] = t
        · simp [hh]
        · simp [hh]
      case measure => simp [intOf]; omega
    · have HT2 : Hid (CMap l ts 0 m) := fun t => by
        have := HT.out t
        rw [List.take_of_length_le (by omega)] at this
        exact this
      clear HT hn
      go_wp2_with (first | (go_at_call 22; refine (pfirst_any _ _ _ _ (by omega) hc).mono ?_; rintro e w' ⟨rfl, rfl⟩))
      go_loopw [11, 32] (fun out i wr => ∃ (n : Nat) (m : List (ByteArray × Int)) (fm : List (ByteArray × Bool)), n ≤ l.length ∧ i = .int .i64 n ∧ MapAt wr w.heap.size Value.string (Value.int .i64) m ∧ CMap l ts n m ∧ MapAt wr (w.heap.size + 1) Value.string Value.bool fm ∧ FMap (fairN l ts B n) fm ∧ ProbsAt wr (w.heap.size + 2) out sFair (fairN l ts B n) ∧ Below w.heap.size w wr) (fun _ i _ => l.length - (intOf i).toNat)
      case atStart => exact ⟨0, m, [], Nat.zero_le _, rfl, HM.out, HT2.out, HD.out, fun t => by simp [alGet, memB, fairN], World.ownsRow_nil _ _ _ _, HBE.out⟩
      case round =>
        clear HM HT2 HD HBE hlo
        obtain ⟨n, m, fm, hn, rfl, hm, hcm, hd, hfm, hown, hbel⟩ := hrel
        obtain ⟨wo, rfl⟩ : ∃ wo : World, wo = wr := ⟨_, rfl⟩
        have HM := Lib.hid hm
        have HCM := Lib.hid hcm
        have HD := Lib.hid hd
        have HFM := Lib.hid hfm
        have HO := Lib.hid (show wo.ownsRow (w.heap.size + 2) 44 2 _ _ _ from hown)
        have HBE := Lib.hid hbel
        have hlo := hd.lt
        have hfl := fairN_len l ts B n
        clear hm hcm hd hfm hown hbel
        by_cases hlt : n < l.length
        · obtain ⟨b, off, rfl, _⟩ := hf.ptr hlt
          have c0 := (HF.out.below HBE.out).cell0 hlt (v := .int .i64 l[n].kind) rfl
          have c1 := (HF.out.below HBE.out).cell hlt (j := 1) (v := .int .i64 l[n].at_) rfl
          have c2 := (HF.out.below HBE.out).cell hlt (j := 2) (v := .string l[n].tenant) rfl
          have c3 := (HF.out.below HBE.out).cell hlt (j := 3) (v := .string l[n].source) rfl
          have c4 := (HF.out.below HBE.out).cell hlt (j := 4) (v := .string l[n].key) rfl
          have c5 := (HF.out.below HBE.out).cell hlt (j := 5) (v := .string l[n].event) rfl
          have c6 := (HF.out.below HBE.out).cell hlt (j := 6) (v := .int .i64 l[n].attempt) rfl
          have c7 := (HF.out.below HBE.out).cell hlt (j := 7) (v := .int .i64 l[n].version) rfl
          have c8 := (HF.out.below HBE.out).cell hlt (j := 8) (v := .string l[n].worker) rfl
          have c9 := (HF.out.below HBE.out).cell hlt (j := 9) (v := .int .i64 l[n].units) rfl
          have HX0 := Lib.hid (Blk.new wo 30 l[n].cells.toArray)
          have HB0 := Lib.hid (below_new wo (.cells l[n].cells.toArray 30))
          cases hmem : memB l[n].tenant ts
          · have HG := Lib.hid (show alGet m l[n].tenant = none by rw [HCM.out, hmem]; rfl)
            have hno : ¬ (l[n].kind = 3 ∧ memB l[n].tenant ts = true) := by simp [hmem]
            have HFN := Lib.hid (fairN_no (B := B) hlt hno)
            have HCM2 := Lib.hid (HCM.out.skip hlt hno)
            clear hmem hno
            go_wp2_with (first
              | (at_lookup; refine wpList_look_ok' rfl (.tmp 37) (.tmp 39) rfl Try.kS Try.underlying58 0 (Try.zero3 _) rfl l[n].tenant rfl (HM.out.alloc _) none HG.out (.int .i64 0) rfl false rfl ?_))
            go_roundw
            case rel => exact ⟨n + 1, m, fm, by omega, by go_num, HM.out.alloc _, HCM2.out, HD.out.alloc _, by rw [HFN.out]; exact HFM.out, by rw [HFN.out]; exact HO.out.alloc _, below_call (below_new _ _) HBE.out⟩
            case measure => simp [intOf]; omega
          · have HG := Lib.hid (show alGet m l[n].tenant = some (stC l n l[n].tenant) by rw [HCM.out, hmem]; rfl)
            by_cases hk : l[n].kind = 3
            · have HFN := Lib.hid (fairN_yes (B := B) hlt hk hmem)
              have HCM2 := Lib.hid (HCM.out.step hlt hk hmem)
              have hk' : (l[n].kind != 3) = false := by simp [hk]
              have sb := stC_bd l l[n].tenant n
              obtain ⟨c, hcc⟩ : ∃ c, c = stC l n l[n].tenant := ⟨_, rfl⟩
              rw [← hcc] at HG HCM2 sb
              have HSS := Lib.hid (show stC l (n + 1) l[n].tenant = c + 1 by rw [stC_succ hlt, if_pos ⟨hk, rfl⟩, hcc])
              obtain ⟨p, hp⟩ : ∃ p, p = ahead l ts B n l[n].tenant := ⟨_, rfl⟩
              have HP := Lib.hid hp
              have HMT := Lib.hid hmem
              clear hmem hk hcc hp
              go_wp2_with (first
                | (at_lookup; refine wpList_look_ok' rfl (.tmp 37) (.tmp 39) rfl Try.kS Try.underlying58 0 (Try.zero3 _) rfl l[n].tenant rfl (HM.out.alloc _) _ HG.out (.int .i64 c) rfl true rfl ?_)
                | (at_lookup; refine wpList_look' rfl (.tmp 50) (.tmp 52) rfl Try.kS Try.underlying58 0 (Try.zero3 _) rfl l[n].tenant rfl (HM.out.alloc _) _ HG.out (.int .i64 c) rfl ?_)
                | (at_mapUpdate
                   refine wpList_store rfl (.tmp 50) (.tmp 52) (.tmp 54) rfl Try.kS Try.underlying58 rfl l[n].tenant rfl (c + 1) rfl (HM.out.alloc (.cells l[n].cells.toArray 30)) ?_
                   intro w1 hm1 hg1 hs1
                   have HM1 := Lib.hid hm1
                   have hg : (wo.alloc (.cells l[n].cells.toArray 30)).grownBy w1 (some w.heap.size) := hg1
                   have HD1 := Lib.hid ((HD.out.alloc (.cells l[n].cells.toArray 30)).grown hg (by intro he; simp at he))
                   have HO1 := Lib.hid (own_grown (HO.out.alloc (.cells l[n].cells.toArray 30)) hg (fun k hk => by cases hk; exact own_ne_map HO.out HM.out))
                   have HX1 := Lib.hid (HX0.out.grown hg (by intro he; simp at he; omega))
                   have HB1 := Lib.hid ((below_call HB0.out HBE.out).grown hg (by simp; omega) (fun k hk => by cases hk; exact Nat.le_refl _))
                   have hsz1 : wo.heap.size < w1.heap.size := by have := hg.size; simp at this; omega
                   clear hm1 hg1 hs1 hg))
              clear c0 c1 c2 c3 c4 c5 c6 c7 c8 c9 hk'
              go_loopw [11, 57] (fun out i wr => ∃ (k : Nat) (fm : List (ByteArray × Bool)), k ≤ ts.length ∧ i = .int .i64 k ∧ MapAt wr w.heap.size Value.string (Value.int .i64) (alSet m l[n].tenant (c + 1)) ∧ MapAt wr (w.heap.size + 1) Value.string Value.bool fm ∧ FMap (inner (fairN l ts B n) l[n].tenant p k) fm ∧ wr.ownsRow (w.heap.size + 2) 44 2 out (inner (fairN l ts B n) l[n].tenant p k).length ((inner (fairN l ts B n) l[n].tenant p k).flatMap (probRow sFair)) ∧ Blk wr wo.heap.size 30 l[n].cells.toArray ∧ Below w.heap.size w wr ∧ w1.heap.size ≤ wr.heap.size) (fun _ i _ => ts.length - (intOf i).toNat)
              case atStart => exact ⟨0, fm, Nat.zero_le _, rfl, HM1.out, HD1.out, by rw [inner_zero]; exact HFM.out, by rw [inner_zero]; exact HO1.out, HX1.out, HB1.out, Nat.le_refl _⟩
              case round =>
                clear HM HD HO HBE HX0 HB0 HM1 HD1 HO1 HX1 HB1 HFM HG
                obtain ⟨k, fm, hk, rfl, hm, hd, hfm, hown, hx, hbel, hsz2⟩ := hrel
                have hil := inner_len (fairN l ts B n) l[n].tenant p k
                have HM := Lib.hid hm
                have HD := Lib.hid hd
                have HFM := Lib.hid hfm
                have HO := Lib.hid hown
                have HX := Lib.hid hx
                have HBE := Lib.hid hbel
                have hdl := hd.lt
                have x2 := hx.cell 2 (.string l[n].tenant) rfl
                clear hm hd hfm hown hx hbel
                by_cases hltk : k < ts.length
                · obtain ⟨b2, off2, rfl, _⟩ := hs.ptr hltk
                  have tk := (HS.out.below HBE.out).cell0 hltk (v := .string ts[k]) rfl
                  rw [Nat.mul_one] at tk
                  have HGS := Lib.hid (show alGet (alSet m l[n].tenant (c + 1)) l[n].tenant = some (c + 1) by rw [alGet_set, if_pos rfl])
                  have HGF := Lib.hid (HFM.out l[n].tenant)
                  cases heq : (ts[k].toList == l[n].tenant.toList)
                  · obtain ⟨e, he⟩ : ∃ e, e = stC l (n + 1) ts[k] := ⟨_, rfl⟩
                    have HGT := Lib.hid (show alGet (alSet m l[n].tenant (c + 1)) ts[k] = some e by
                      rw [HCM2.out ts[k], (memB_iff _ _).2 (List.getElem_mem hltk), he]; rfl)
                    have eb := stC_bd l ts[k] (n + 1)
                    rw [← he] at eb
                    obtain ⟨d, hd0⟩ : ∃ d, d = c + 1 - e := ⟨_, rfl⟩
                    have hw : IntKind.i64.wrap (c + 1 - e) = d := by rw [hd0]; exact IntWalk.i64_in _ (by omega)
                    have HPK := Lib.hid (show p k = decide (B < d) by
                      rw [HP.out]; unfold ahead; rw [List.getElem?_eq_getElem hltk]; simp only []; rw [HSS.out, ← he, hd0])
                    have db : -1000 ≤ d ∧ d ≤ 1000 := by omega
                    clear he
                    by_cases hd : B < d
                    · cases hmem : memB l[n].tenant (inner (fairN l ts B n) l[n].tenant p k)
                      · have HN := Lib.hid (inner_more (out := fairN l ts B n) (show p k = true by rw [HPK.out]; simpa using hd) hmem)
                        have HGB := Lib.hid (HGF.out.trans hmem)
                        have hd1 : (0 : Int) < d := by omega
                        have hd2 : bound < d := by have := HB.out; omega
                        clear hd0 hd hmem
                        by_cases hbp : 0 < bound
                        · go_wp2_with (first
                            | (at_lookup; refine wpList_look' rfl (.tmp 66) (.tmp 68) rfl Try.kS Try.underlying58 0 (Try.zero3 _) rfl l[n].tenant rfl HM.out _ HGS.out (.int .i64 (c + 1)) rfl ?_)
                            | (at_lookup; refine wpList_look' rfl (.tmp 70) (.tmp 71) rfl Try.kS Try.underlying58 0 (Try.zero3 _) rfl ts[k] rfl HM.out _ HGT.out (.int .i64 e) rfl ?_)
                            | (at_lookup; refine wpList_look' rfl (.tmp 79) (.tmp 81) rfl Try.kS Try.underlying59 false (Try.zero4 _) rfl l[n].tenant rfl HD.out _ rfl (.bool false) (congrArg Value.bool HGB.out) ?_)
                            | (at_mapUpdate
                               refine wpList_store rfl (.tmp 85) (.tmp 87) (.const (.bool true)) rfl Try.kS Try.underlying59 rfl l[n].tenant rfl true rfl HD.out ?_
                               intro w5 hm5 hg5 hs5
                               have HD5 := Lib.hid hm5
                               have HM5 := Lib.hid (HM.out.grown hg5 (by intro he; simp at he))
                               have HO5 := Lib.hid (own_grown HO.out hg5 (fun k hk => by cases hk; exact own_ne_map HO.out HD.out))
                               have HX5 := Lib.hid (HX.out.grown hg5 (HX.out.ne_map HD.out))
                               have HB5 := Lib.hid (HBE.out.grown hg5 HBE.out.size (fun k hk => by cases hk; omega))
                               have y2 := HX5.out.cell 2 (.string l[n].tenant) rfl
                               have hz5 : w.heap.size + 2 ≤ w5.heap.size := by omega
                               have hz6 : w1.heap.size ≤ w5.heap.size := by omega
                               clear hm5 hg5 hs5)
                            | (at_builtin; refine wpList_app1 rfl (.tmp 88) (.tmp 92) 25 rfl i0 _ 32 Try.underlying25 hi hz0 hz1 hz2 rfl (by omega) rfl HO5.out [.string sFair, .string l[n].tenant] rfl rfl (one2 _ _) (by omega) (by omega) (by omega) ?_; intro v' w6 hown6 hb6 hs6 hg6))
                          go_roundw
                          case rel =>
                            refine ⟨k + 1, _, by omega, by go_num, HM5.out.grown hg6 (own_ne_map HO5.out HM5.out), HD5.out.grown hg6 (own_ne_map HO5.out HD5.out), by rw [HN.out]; exact HFM.out.more _, by rw [HN.out, flat_snoc, List.length_append]; exact hown6, HX5.out.grown hg6 (own_ne_blk HO5.out HX5.out (by decide)), HB5.out.trans (hb6.mono (by omega)), by omega⟩
                          case measure => simp [intOf]; omega
                        · go_wp2_with (first
                            | (at_lookup; refine wpList_look' rfl (.tmp 66) (.tmp 68) rfl Try.kS Try.underlying58 0 (Try.zero3 _) rfl l[n].tenant rfl HM.out _ HGS.out (.int .i64 (c + 1)) rfl ?_)
                            | (at_lookup; refine wpList_look' rfl (.tmp 70) (.tmp 71) rfl Try.kS Try.underlying58 0 (Try.zero3 _) rfl ts[k] rfl HM.out _ HGT.out (.int .i64 e) rfl ?_)
                            | (at_lookup; refine wpList_look' rfl (.tmp 79) (.tmp 81) rfl Try.kS Try.underlying59 false (Try.zero4 _) rfl l[n].tenant rfl HD.out _ rfl (.bool false) (congrArg Value.bool HGB.out) ?_)
                            | (at_mapUpdate
                               refine wpList_store rfl (.tmp 85) (.tmp 87) (.const (.bool true)) rfl Try.kS Try.underlying59 rfl l[n].tenant rfl true rfl HD.out ?_
                               intro w5 hm5 hg5 hs5
                               have HD5 := Lib.hid hm5
                               have HM5 := Lib.hid (HM.out.grown hg5 (by intro he; simp at he))
                               have HO5 := Lib.hid (own_grown HO.out hg5 (fun k hk => by cases hk; exact own_ne_map HO.out HD.out))
                               have HX5 := Lib.hid (HX.out.grown hg5 (HX.out.ne_map HD.out))
                               have HB5 := Lib.hid (HBE.out.grown hg5 HBE.out.size (fun k hk => by cases hk; omega))
                               have y2 := HX5.out.cell 2 (.string l[n].tenant) rfl
                               have hz5 : w.heap.size + 2 ≤ w5.heap.size := by omega
                               have hz6 : w1.heap.size ≤ w5.heap.size := by omega
                               clear hm5 hg5 hs5)
                            | (at_builtin; refine wpList_app1 rfl (.tmp 88) (.tmp 92) 25 rfl i0 _ 32 Try.underlying25 hi hz0 hz1 hz2 rfl (by omega) rfl HO5.out [.string sFair, .string l[n].tenant] rfl rfl (one2 _ _) (by omega) (by omega) (by omega) ?_; intro v' w6 hown6 hb6 hs6 hg6))
                          go_roundw
                          case rel =>
                            refine ⟨k + 1, _, by omega, by go_num, HM5.out.grown hg6 (own_ne_map HO5.out HM5.out), HD5.out.grown hg6 (own_ne_map HO5.out HD5.out), by rw [HN.out]; exact HFM.out.more _, by rw [HN.out, flat_snoc, List.length_append]; exact hown6, HX5.out.grown hg6 (own_ne_blk HO5.out HX5.out (by decide)), HB5.out.trans (hb6.mono (by omega)), by omega⟩
                          case measure => simp [intOf]; omega
                      · have HN := Lib.hid (inner_same (out := fairN l ts B n) (p := p) (j := k) (.inr hmem))
                        have HGB := Lib.hid (HGF.out.trans hmem)
                        have hd1 : (0 : Int) < d := by omega
                        have hd2 : bound < d := by have := HB.out; omega
                        clear hd0 hd hmem
                        by_cases hbp : 0 < bound
                        · go_wp2_with (first
                            | (at_lookup; refine wpList_look' rfl (.tmp 66) (.tmp 68) rfl Try.kS Try.underlying58 0 (Try.zero3 _) rfl l[n].tenant rfl HM.out _ HGS.out (.int .i64 (c + 1)) rfl ?_)
                            | (at_lookup; refine wpList_look' rfl (.tmp 70) (.tmp 71) rfl Try.kS Try.underlying58 0 (Try.zero3 _) rfl ts[k] rfl HM.out _ HGT.out (.int .i64 e) rfl ?_)
                            | (at_lookup; refine wpList_look' rfl (.tmp 79) (.tmp 81) rfl Try.kS Try.underlying59 false (Try.zero4 _) rfl l[n].tenant rfl HD.out _ rfl (.bool true) (congrArg Value.bool HGB.out) ?_))
                          go_roundw
                          case rel => exact ⟨k + 1, fm, by omega, by go_num, HM.out, HD.out, by rw [HN.out]; exact HFM.out, by rw [HN.out]; exact HO.out, HX.out, HBE.out, hsz2⟩
                          case measure => simp [intOf]; omega
                        · go_wp2_with (first
                            | (at_lookup; refine wpList_look' rfl (.tmp 66) (.tmp 68) rfl Try.kS Try.underlying58 0 (Try.zero3 _) rfl l[n].tenant rfl HM.out _ HGS.out (.int .i64 (c + 1)) rfl ?_)
                            | (at_lookup; refine wpList_look' rfl (.tmp 70) (.tmp 71) rfl Try.kS Try.underlying58 0 (Try.zero3 _) rfl ts[k] rfl HM.out _ HGT.out (.int .i64 e) rfl ?_)
                            | (at_lookup; refine wpList_look' rfl (.tmp 79) (.tmp 81) rfl Try.kS Try.underlying59 false (Try.zero4 _) rfl l[n].tenant rfl HD.out _ rfl (.bool true) (congrArg Value.bool HGB.out) ?_))
                          go_roundw
                          case rel => exact ⟨k + 1, fm, by omega, by go_num, HM.out, HD.out, by rw [HN.out]; exact HFM.out, by rw [HN.out]; exact HO.out, HX.out, HBE.out, hsz2⟩
                          case measure => simp [intOf]; omega
                    · have HN := Lib.hid (inner_same (out := fairN l ts B n) (s := l[n].tenant) (j := k) (.inl (show p k = false by rw [HPK.out]; simpa using hd)))
                      have hB' := HB.out
                      by_cases hbp : 0 < bound
                      · have hd1 : d ≤ bound := by omega
                        clear hd0 hd hB'
                        go_wp2_with (first
                          | (at_lookup; refine wpList_look' rfl (.tmp 66) (.tmp 68) rfl Try.kS Try.underlying58 0 (Try.zero3 _) rfl l[n].tenant rfl HM.out _ HGS.out (.int .i64 (c + 1)) rfl ?_)
                          | (at_lookup; refine wpList_look' rfl (.tmp 70) (.tmp 71) rfl Try.kS Try.underlying58 0 (Try.zero3 _) rfl ts[k] rfl HM.out _ HGT.out (.int .i64 e) rfl ?_))
                        go_roundw
                        case rel => exact ⟨k + 1, fm, by omega, by go_num, HM.out, HD.out, by rw [HN.out]; exact HFM.out, by rw [HN.out]; exact HO.out, HX.out, HBE.out, hsz2⟩
                        case measure => simp [intOf]; omega
                      · have hd1 : d ≤ 0 := by omega
                        have hbp' : bound ≤ 0 := by omega
                        clear hd0 hd hB'
                        go_wp2_with (first
                          | (at_lookup; refine wpList_look' rfl (.tmp 66) (.tmp 68) rfl Try.kS Try.underlying58 0 (Try.zero3 _) rfl l[n].tenant rfl HM.out _ HGS.out (.int .i64 (c + 1)) rfl ?_)
                          | (at_lookup; refine wpList_look' rfl (.tmp 70) (.tmp 71) rfl Try.kS Try.underlying58 0 (Try.zero3 _) rfl ts[k] rfl HM.out _ HGT.out (.int .i64 e) rfl ?_))
                        go_roundw
                        case rel => exact ⟨k + 1, fm, by omega, by go_num, HM.out, HD.out, by rw [HN.out]; exact HFM.out, by rw [HN.out]; exact HO.out, HX.out, HBE.out, hsz2⟩
                        case measure => simp [intOf]; omega
                  · have HN := Lib.hid (inner_same (out := fairN l ts B n) (s := l[n].tenant) (j := k) (.inl (show p k = false by
                      rw [toList_beq, decide_eq_true_eq] at heq
                      rw [HP.out]; unfold ahead; rw [List.getElem?_eq_getElem hltk]; simp only []
                      rw [heq]; simp; omega)))
                    go_wp2
                    go_roundw
                    case rel => exact ⟨k + 1, fm, by omega, by go_num, HM.out, HD.out, by rw [HN.out]; exact HFM.out, by rw [HN.out]; exact HO.out, HX.out, HBE.out, hsz2⟩
                    case measure => simp [intOf]; omega
                · go_wp2
                  have hkl : k = ts.length := by omega
                  go_roundw
                  case rel => exact ⟨n + 1, _, fm, by omega, by go_num, HM.out, HCM2.out, HD.out, by rw [HFN.out, ← HP.out, ← hkl]; exact HFM.out, by rw [HFN.out, ← HP.out, ← hkl]; exact HO.out, HBE.out⟩
                  case measure => simp [intOf]; omega
            · have hk' : (l[n].kind != 3) = true := by simp [hk]
              have HFN := Lib.hid (fairN_no (ts := ts) (B := B) hlt (fun h => hk h.1))
              have HCM2 := Lib.hid (HCM.out.skip hlt (fun h => hk h.1))
              clear hmem hk
              go_wp2_with (first
                | (at_lookup; refine wpList_look_ok' rfl (.tmp 37) (.tmp 39) rfl Try.kS Try.underlying58 0 (Try.zero3 _) rfl l[n].tenant rfl (HM.out.alloc _) _ HG.out (.int .i64 (stC l n l[n].tenant)) rfl true rfl ?_))
              go_roundw
              case rel => exact ⟨n + 1, m, fm, by omega, by go_num, HM.out.alloc _, HCM2.out, HD.out.alloc _, by rw [HFN.out]; exact HFM.out, by rw [HFN.out]; exact HO.out.alloc _, below_call (below_new _ _) HBE.out⟩
              case measure => simp [intOf]; omega
        · go_wp2
          go_ret
          have hnl : n = l.length := by omega
          subst hnl
          obtain ⟨h1, h2⟩ := HO.out
          exact ⟨_, rfl, ⟨h1, h2.imp id (fun ⟨g, cap, cur, e1, e2, e3⟩ => ⟨g, cap, cur, e1, Nat.le_trans (Nat.le_add_right _ 2) e2, e3⟩)⟩, HBE.out⟩
end Go.Proofs.Ytcnmdhdoiekfoaa
