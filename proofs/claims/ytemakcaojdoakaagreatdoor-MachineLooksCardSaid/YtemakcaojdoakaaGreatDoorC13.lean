/- The law's bounds: looked. -/
import Derived.Test.YtemakcaojdoakaaGreatDoorC12
import Derived.IntWalk
namespace Go.Proofs.YtemakcaojdoakaaGreatDoor
open Go.RowKit
set_option maxRecDepth 100000

def lookedB (m : MachD) : Bool := decide (m.frames.length ≤ 40) && (decide (m.requests.length ≤ 40) && (smallB m.value && (m.frames.all (fun f => decide (f.locals.length + f.stack.length ≤ 100)) && m.requests.all (fun r => decide (r.args.length ≤ 20)))))
theorem lookedB_small {m : MachD} (h : lookedB m = true) : m.frames.length ≤ 40 ∧ m.requests.length ≤ 40 ∧ (∀ f ∈ m.frames, f.locals.length ≤ 1000 ∧ f.stack.length ≤ 1000) ∧ ∀ r ∈ m.requests, r.args.length ≤ 20 := by
  simp only [lookedB, Bool.and_eq_true, decide_eq_true_eq, List.all_eq_true] at h
  obtain ⟨h1, h2, _, h4, h5⟩ := h
  exact ⟨h1, h2, fun f hf => by have := h4 f hf; omega, h5⟩

attribute [local go_sem] cell_alloc_is
set_option maxHeartbeats 4000000 in
theorem looked_any (m : MachD) (v : Value) (w : World) (h : MachV w v m) (hs : ∀ c ∈ m.value, c.str.size ≤ 140737488351232) :
    Calls Tryz.prog 4 #[v] w fun e w' => e = .returned (.bool (lookedB m)) ∧ Below w.heap.size w w' := by
  obtain ⟨vv, fv, qv, rfl, hvv, hfv, hqv⟩ := h
  obtain ⟨t3, ht3⟩ : ∃ t, smallB m.value = t := ⟨_, rfl⟩
  have HC : Hid (∀ wx, Below w.heap.size w wx → Calls Tryz.prog 9 #[vv] wx fun e w' => e = .returned (.bool t3) ∧ w' = wx) := Lib.hid (fun wx hx => by
    have := small_any _ _ wx (hvv.below hx) hs; rw [ht3] at this; exact this)
  obtain ⟨A1, n1, k1, rfl⟩ := hvv.shape
  obtain ⟨A2, kf, rows, rfl, hcf, hmf, hsf, hlf, hvf⟩ := hfv
  obtain ⟨A3, kq, rowq, rfl, hcq, hmq, hsq, hlq, hvq⟩ := hqv
  have HSF := Lib.hid hsf
  have HLF := Lib.hid hlf
  have HVF := Lib.hid hvf
  have HSQ := Lib.hid hsq
  have HLQ := Lib.hid hlq
  have HVQ := Lib.hid hvq
  have HT3 := Lib.hid ht3
  clear hvv hsf hlf hvf hsq hlq hvq hs ht3
  obtain ⟨r, hr⟩ : ∃ r, lookedB m = r := ⟨_, rfl⟩
  have HR : Hid ((decide (m.frames.length ≤ 40) && (decide (m.requests.length ≤ 40) && (t3 && (m.frames.all (fun f => decide (f.locals.length + f.stack.length ≤ 100)) && m.requests.all (fun r => decide (r.args.length ≤ 20)))))) = r) := Lib.hid (by rw [← hr, ← HT3.out]; rfl)
  rw [hr]
  clear hr
  obtain ⟨st, er, va, fr, rq, ls, lm, sp, pk⟩ := m
  dsimp only at hcf hmf hcq hmq HLF HVF HLQ HVQ HR ⊢
  by_cases h1 : fr.length ≤ 40
  · by_cases h2 : rq.length ≤ 40
    · cases t3
      · have e : r = false := by rw [← HR.out]; simp
        subst e
        have h1' : (fr.length : Int) ≤ 40 := by omega
        have h2' : (rq.length : Int) ≤ 40 := by omega
        go_enter Tryz.func4, Tryz.ntmps4
        go_wp2_with (first | (go_at_call 9; with_reducible refine (HC.out _ (below_new _ _)).mono ?_; rintro e w1 ⟨rfl, rfl⟩))
        go_ret
        exact ⟨rfl, below_new _ _⟩
      · have h1' : (fr.length : Int) ≤ 40 := by omega
        have h2' : (rq.length : Int) ≤ 40 := by omega
        have HR2 : Hid ((fr.all (fun f => decide (f.locals.length + f.stack.length ≤ 100)) && rq.all (fun r => decide (r.args.length ≤ 20))) = r) := Lib.hid (by
          rw [← HR.out, decide_eq_true h1, decide_eq_true h2]; rfl)
        clear h1 h2
        go_enter Tryz.func4, Tryz.ntmps4
        go_wp2_with (first | (go_at_call 9; with_reducible refine (HC.out _ (below_new _ _)).mono ?_; rintro e w1 ⟨rfl, h⟩; obtain rfl := h.symm; clear h))
        go_loopw [24] (fun i wr => ∃ n q : Nat, n ≤ fr.length ∧ i = .int .i64 n ∧ wr = (w.alloc (.cells #[.int .i64 st, .int .i64 er, .slice A1 n1 k1, .slice A2 fr.length kf, .slice A3 rq.length kq, .int .i64 ls, .int .i64 lm, .int .i64 sp, .int .i64 pk] 30)).drewN q ∧ Hid (∀ f ∈ fr.take n, f.locals.length + f.stack.length ≤ 100)) (fun i _ => fr.length - (intOf i).toNat)
        case atStart => exact ⟨0, 0, Nat.zero_le _, rfl, rfl, Lib.hid (by simp)⟩
        case round =>
          obtain ⟨n, q, hn, rfl, rfl, HT⟩ := hrel
          by_cases hlt : n < fr.length
          · have hna : n < rows.length := by rw [HLF.out]; exact hlt
            have hlt' : (n : Int) < (fr.length : Int) := by omega
            have hn0 : (0 : Int) ≤ (n : Int) := by omega
            have hsa := HSF.out
            obtain ⟨bA, off, rfl, _⟩ := hsa.ptr hna
            obtain ⟨lv, sv, hrow, hlv, hsv⟩ := HVF.out n hna hlt
            obtain ⟨B1, y1, vs1, rfl, _, hm1, _⟩ := hlv.at
            obtain ⟨B2, y2, vs2, rfl, _, hm2, _⟩ := hsv.at
            obtain ⟨x1, hx1⟩ : ∃ x, fr[n].locals.length = x := ⟨_, rfl⟩
            obtain ⟨x2, hx2⟩ : ∃ x, fr[n].stack.length = x := ⟨_, rfl⟩
            rw [hx1] at hm1 hrow
            rw [hx2] at hm2 hrow
            have c2 := hsa.cell hna (j := 2) (v := .slice B1 x1 y1) (by rw [hrow]; rfl)
            have c3 := hsa.cell hna (j := 3) (v := .slice B2 x2 y2) (by rw [hrow]; rfl)
            have HX1 := Lib.hid hx1
            have HX2 := Lib.hid hx2
            clear hsa hrow hlv hsv hx1 hx2
            have u1 : (0 : Int) ≤ (x1 : Int) := by omega
            have u2 : (x1 : Int) ≤ 5864062014634 := by omega
            have u3 : (0 : Int) ≤ (x2 : Int) := by omega
            have u4 : (x2 : Int) ≤ 5864062014634 := by omega
            have hw : IntKind.i64.wrap ((x1 : Int) + (x2 : Int)) = (x1 : Int) + (x2 : Int) := IntWalk.i64_in _ (by omega)
            by_cases hx : x1 + x2 ≤ 100
            · have HT2 : Hid (∀ f ∈ fr.take (n + 1), f.locals.length + f.stack.length ≤ 100) := Lib.hid (by
                rw [List.take_succ_eq_append_getElem hlt]
                intro c hc
                rcases List.mem_append.1 hc with hc | hc
                · exact HT.out c hc
                · simp at hc; subst hc; rw [HX1.out, HX2.out]; exact hx)
              have hx' : (x1 : Int) + (x2 : Int) ≤ 100 := by omega
              clear hx
              go_wp2
              go_quiet (fail)
              clear hw
              go_wp2
              refine ⟨⟨n + 1, _, by omega, by simp, (by first | rfl | exact World.drewN_drewN _ _ _), HT2⟩, by simp [intOf]; omega⟩
            · have e : r = false := by
                rw [← HR2.out, Bool.and_eq_false_iff]
                left
                rw [List.all_eq_false]
                exact ⟨fr[n], List.getElem_mem hlt, by rw [HX1.out, HX2.out]; simpa using hx⟩
              subst e
              have hx' : (100 : Int) < (x1 : Int) + (x2 : Int) := by omega
              clear hx
              go_wp2
              go_quiet (fail)
              clear hw
              go_wp2
              go_ret
              exact ⟨rfl, (by first | exact below_drewN (below_new _ _) _ | exact below_drewN (below_drewN (below_new _ _) _) _)⟩
          · have e : n = fr.length := by omega
            subst e
            have HR3 : Hid (rq.all (fun r => decide (r.args.length ≤ 20)) = r) := Lib.hid (by
              have h3 := HT.out
              rw [List.take_length] at h3
              rw [← HR2.out, show fr.all (fun f => decide (f.locals.length + f.stack.length ≤ 100)) = true by rw [List.all_eq_true]; exact fun f hf => by simpa using h3 f hf]
              rfl)
            go_wp2
            go_loop [47] (fun i => ∃ k : Nat, k ≤ rq.length ∧ i = .int .i64 k ∧ Hid (∀ f ∈ rq.take k, f.args.length ≤ 20)) (fun i => rq.length - (intOf i).toNat)
            case atStart => exact ⟨0, Nat.zero_le _, rfl, Lib.hid (by simp)⟩
            case round =>
              obtain ⟨k, hk, rfl, HK⟩ := hrel
              by_cases hlk : k < rq.length
              · have hnq : k < rowq.length := by rw [HLQ.out]; exact hlk
                have hlk' : (k : Int) < (rq.length : Int) := by omega
                have hk0 : (0 : Int) ≤ (k : Int) := by omega
                have hsa := HSQ.out
                obtain ⟨bQ, off2, rfl, _⟩ := hsa.ptr hnq
                obtain ⟨lv, hrow, hlv⟩ := HVQ.out k hnq hlk
                obtain ⟨B1, y1, vs1, rfl, _, hm1, _⟩ := hlv.at
                obtain ⟨x1, hx1⟩ : ∃ x, rq[k].args.length = x := ⟨_, rfl⟩
                rw [hx1] at hm1 hrow
                have c1 := hsa.cell hnq (j := 1) (v := .slice B1 x1 y1) (by rw [hrow]; rfl)
                have HX1 := Lib.hid hx1
                clear hsa hrow hlv hx1
                by_cases hx : x1 ≤ 20
                · have HK2 : Hid (∀ f ∈ rq.take (k + 1), f.args.length ≤ 20) := Lib.hid (by
                    rw [List.take_succ_eq_append_getElem hlk]
                    intro c hc
                    rcases List.mem_append.1 hc with hc | hc
                    · exact HK.out c hc
                    · simp at hc; subst hc; rw [HX1.out]; exact hx)
                  have hx' : (x1 : Int) ≤ 20 := by omega
                  clear hx
                  go_wp2
                  refine ⟨⟨k + 1, by omega, by simp, HK2⟩, by simp [intOf]; omega⟩
                · have e : r = false := by
                    rw [← HR3.out, List.all_eq_false]
                    exact ⟨rq[k], List.getElem_mem hlk, by rw [HX1.out]; simpa using hx⟩
                  subst e
                  have hx' : (20 : Int) < (x1 : Int) := by omega
                  clear hx
                  go_wp2
                  go_ret
                  exact ⟨rfl, below_drewN (below_new _ _) _⟩
              · have e : k = rq.length := by omega
                subst e
                have e : r = true := by
                  have h3 := HK.out
                  rw [List.take_length] at h3
                  rw [← HR3.out, List.all_eq_true]
                  exact fun f hf => by simpa using h3 f hf
                subst e
                go_wp2
                go_ret
                exact ⟨rfl, below_drewN (below_new _ _) _⟩
    · have e : r = false := by rw [← HR.out]; simp [h2]
      subst e
      have h1' : (fr.length : Int) ≤ 40 := by omega
      have h2' : (40 : Int) < (rq.length : Int) := by omega
      clear h1 h2
      go_enter Tryz.func4, Tryz.ntmps4
      go_wp2
      go_ret
      exact ⟨rfl, below_new _ _⟩
  · have e : r = false := by rw [← HR.out]; simp [h1]
    subst e
    have h1' : (40 : Int) < (fr.length : Int) := by omega
    clear h1
    go_enter Tryz.func4, Tryz.ntmps4
    go_wp2
    go_ret
    exact ⟨rfl, below_new _ _⟩
end Go.Proofs.YtemakcaojdoakaaGreatDoor
