/- Equality of machines, as the program decides it. The memory of machines, on both sides. The law's bounds: SmallValue, looked. Equality of requests as the reference decides it. -/
import Derived.Test.YtmljohbialacfaaGreatDoorGC4
set_option linter.unusedVariables false
set_option linter.unusedSimpArgs false
namespace Go.Proofs.YtmljohbialacfaaGreatDoor
open Go.RowKit
set_option maxRecDepth 100000

/-- A machine as a value. -/
def MachV (w : World) (v : Value) (m : MachD) : Prop := ∃ vv fv qv, v = .agg #[.int .i64 m.status, .int .i64 m.err, vv, fv, qv, .int .i64 m.lsteps, .int .i64 m.lmem, .int .i64 m.steps, .int .i64 m.peak] ∧ ValV w vv m.value ∧ FramesV w fv m.frames ∧ ReqsV w qv m.requests
theorem MachV.below {w w' : World} {v : Value} {m : MachD} (h : MachV w v m) (hb : Below w.heap.size w w') : MachV w' v m := by
 obtain ⟨vv, fv, qv, rfl, h1, h2, h3⟩ := h; exact ⟨vv, fv, qv, rfl, h1.below hb, h2.below hb, h3.below hb⟩

def eqM (a b : MachD) : Bool := eqFs a.frames b.frames && (eqQs a.requests b.requests && (decide (a.status = b.status) && (decide (a.err = b.err) && (eqV a.value b.value && (decide (a.lsteps = b.lsteps ∧ a.lmem = b.lmem) && (decide (a.steps = b.steps) && decide (a.peak = b.peak)))))))
theorem eqV_comm (a b : ValD) : eqV a b = eqV b a := by simp [eqV, eq_comm]
theorem eqFs_comm (a b : List FrameD) : eqFs a b = eqFs b a := by simp [eqFs, eq_comm]
theorem eqQs_comm (a b : List ReqD) : eqQs a b = eqQs b a := by simp [eqQs, eq_comm]
theorem eqM_comm (a b : MachD) : eqM a b = eqM b a := by
 simp only [eqM, eqV_comm a.value, eqFs_comm a.frames, eqQs_comm a.requests, eq_comm]
theorem eqM_self (a : MachD) : eqM a a = true := by simp [eqM, eqV, eqFs, eqQs]

end Go.Proofs.YtmljohbialacfaaGreatDoor
namespace Go.Proofs.YtmljohbialacfaaGreatDoor
open Go.RowKit
set_option maxRecDepth 100000

theorem cellsN_bd {w : World} {v : Value} {l : List ValD} (h : ValsV w v l) (hl : l.length ≤ 1000) (n : Nat) : cellsN (l.take n) ≤ 8796093022208000 := by
 have h1 := cellsN_take_le l n
 have h2 := cellsN_le l _ h.short
 have h3 : l.length * 8796093022208 ≤ 1000 * 8796093022208 := Nat.mul_le_mul_right _ hl
 omega

attribute [local go_sem] cell_alloc_is
set_option maxHeartbeats 1000000 in
theorem cells38_any (l : List ValD) (v : Value) (w : World) (h : ValsV w v l) (hl : l.length ≤ 1000) :
  Calls Tryz.prog 38 #[v] w fun e w' => e = .returned (.int .i64 (cellsN l)) ∧ w' = w := by
 have HB := Lib.hid (cellsN_bd h hl)
 obtain ⟨A, cap, vs, rfl, hca, hma, hsa, hla, hva⟩ := h.at
 have HV := Lib.hid hva
 have HLA := Lib.hid hla
 clear h hva hla
 go_enter Tryz.func38, Tryz.ntmps38
 go_wp2
 go_loop [3, 8] (fun s i => ∃ n : Nat, n ≤ l.length ∧ i = .int .i64 n ∧ s = .int .i64 (cellsN (l.take n))) (fun _ i => l.length - (intOf i).toNat)
 case atStart => exact ⟨0, Nat.zero_le _, rfl, rfl⟩
 case round =>
  obtain ⟨n, hn, rfl, rfl⟩ := hrel
  by_cases hlt : n < l.length
  ·have hna : n < vs.length := by rw [HLA.out]; exact hlt
   obtain ⟨bA, off, rfl, _⟩ := hsa.ptr hna
   obtain ⟨x, hx⟩ : ∃ x, vs[n] = x := ⟨_, rfl⟩
   have hvx : ValV w x l[n] := hx ▸ HV.out n hna hlt
   obtain ⟨A1, k1, rfl, hc1, hm1, _⟩ := hvx.at
   have c0 := hsa.cell0 hna (v := .slice A1 l[n].length k1) (by rw [hx]; rfl)
   rw [Nat.mul_one] at c0
   have HS := Lib.hid (cellsN_snoc l n hlt)
   have hb1 := HB.out n
   have hb0 : (0 : Int) ≤ (cellsN (l.take n) : Int) := by omega
   have hb2 : (cellsN (l.take n) : Int) ≤ 8796093022208000 := by omega
   clear hx hvx
   go_wp2
   refine ⟨⟨n + 1, by omega, by simp, by rw [HS.out]; simp⟩, by simp [intOf]; omega⟩
  ·have e : n = l.length := by omega
   subst e
   have HT := Lib.hid (show l.take l.length = l from List.take_length)
   go_wp2
   go_ret
   exact ⟨by rw [← HT.out]; simp [List.take_length], rfl⟩

/-- Frames that are gone through. -/
def SmallF (l : List FrameD) : Prop := l.length ≤ 40 ∧ ∀ f ∈ l, f.locals.length ≤ 1000 ∧ f.stack.length ≤ 1000

theorem memN_bd {w : World} {v : Value} {l : List FrameD} (h : FramesV w v l) (hl : SmallF l) (n : Nat) : memN (l.take n) ≤ 703687441776640000 := by
 refine Nat.le_trans (memN_take_le l n) ?_
 have hall : ∀ f ∈ l, cellsN f.locals + cellsN f.stack ≤ 17592186044416000 := fun f hf => by
  obtain ⟨A, cap, rows, _, _, _, _, h5, h6⟩ := h
  obtain ⟨i, hi, rfl⟩ := List.getElem_of_mem hf
  obtain ⟨lv, sv, _, h1, h2⟩ := h6 i (by omega) hi
  have b1 := cellsN_bd h1 (hl.2 _ hf).1 l[i].locals.length
  have b2 := cellsN_bd h2 (hl.2 _ hf).2 l[i].stack.length
  rw [List.take_length] at b1 b2
  omega
 have key : ∀ l : List FrameD, (∀ f ∈ l, cellsN f.locals + cellsN f.stack ≤ 17592186044416000) → memN l ≤ l.length * 17592186044416000 := by
  intro l
  induction l with
  | nil => intro _; simp [memN]
  | cons f r ih =>
   intro hh
   have := ih (fun x hx => hh x (by simp [hx]))
   have h1 := hh f (by simp)
   simp only [memN, List.map_cons, List.sum_cons, List.length_cons, Nat.succ_mul] at this ⊢
   omega
 have := key l hall
 have h3 : l.length * 17592186044416000 ≤ 40 * 17592186044416000 := Nat.mul_le_mul_right _ hl.1
 omega

set_option maxHeartbeats 2000000 in
theorem memory_any (m : MachD) (v : Value) (w : World) (h : MachV w v m) (hm : SmallF m.frames) :
  Calls Tryz.prog 16 #[v] w fun e w' => e = .returned (.int .i64 (memN m.frames)) ∧ Below w.heap.size w w' := by
 obtain ⟨vv, fv, qv, rfl, hvv, hfv, hqv⟩ := h
 have HBD := Lib.hid (memN_bd hfv hm)
 obtain ⟨A1, n1, k1, rfl⟩ := hvv.shape
 obtain ⟨A2, n2, k2, rfl⟩ := hqv.shape
 have HSM := Lib.hid hm.2
 clear hvv hqv hm
 obtain ⟨A, cap, rows, rfl, hca, hma, hsa, hla, hva⟩ := hfv
 have HV := Lib.hid hva
 have HLA := Lib.hid hla
 have HSA := Lib.hid hsa
 clear hva hla hsa
 go_enter Tryz.func16, Tryz.ntmps16
 go_wp2
 go_loopw [3, 9] (fun s i wr => ∃ n : Nat, n ≤ m.frames.length ∧ i = .int .i64 n ∧ s = .int .i64 (memN (m.frames.take n)) ∧ Below w.heap.size w wr) (fun _ i _ => m.frames.length - (intOf i).toNat)
 case atStart => exact ⟨0, Nat.zero_le _, rfl, rfl, below_new _ _⟩
 case round =>
  obtain ⟨n, hn, rfl, rfl, hbel⟩ := hrel
  have HB := Lib.hid hbel
  clear hbel
  by_cases hlt : n < m.frames.length
  ·have hna : n < rows.length := by rw [HLA.out]; exact hlt
   have hsa := HSA.out.below HB.out
   obtain ⟨bA, off, rfl, _⟩ := hsa.ptr hna
   obtain ⟨lv, sv, hrow, hlv, hsv⟩ := HV.out n hna hlt
   obtain ⟨B1, z1, y1, rfl⟩ := hlv.shape
   obtain ⟨B2, z2, y2, rfl⟩ := hsv.shape
   obtain ⟨f1, hf1⟩ : ∃ x, m.frames[n].func = x := ⟨_, rfl⟩
   obtain ⟨c1, hc1⟩ : ∃ x, m.frames[n].pc = x := ⟨_, rfl⟩
   rw [hf1, hc1] at hrow
   have c0 := hsa.cell0 hna (v := .int .i64 f1) (by rw [hrow]; rfl)
   have c1' := hsa.cell hna (j := 1) (v := .int .i64 c1) (by rw [hrow]; rfl)
   have c2 := hsa.cell hna (j := 2) (v := .slice B1 z1 y1) (by rw [hrow]; rfl)
   have c3 := hsa.cell hna (j := 3) (v := .slice B2 z2 y2) (by rw [hrow]; rfl)
   have hsm := HSM.out _ (List.getElem_mem hlt)
   have HS := Lib.hid (memN_snoc m.frames n hlt)
   obtain ⟨x1, hx1⟩ : ∃ x, cellsN m.frames[n].locals = x := ⟨_, rfl⟩
   obtain ⟨x2, hx2⟩ : ∃ x, cellsN m.frames[n].stack = x := ⟨_, rfl⟩
   have b1 := cellsN_bd hlv hsm.1 m.frames[n].locals.length
   have b2 := cellsN_bd hsv hsm.2 m.frames[n].stack.length
   rw [List.take_length, hx1] at b1
   rw [List.take_length, hx2] at b2
   have HC1 : Hid (∀ wx, Below wr.heap.size wr wx → Calls Tryz.prog 38 #[.slice B1 z1 y1] wx fun e w' => e = .returned (.int .i64 x1) ∧ w' = wx) := Lib.hid (fun wx hx => by
    have := cells38_any _ _ wx ((hlv.below HB.out).below hx) hsm.1; rw [hx1] at this; exact this)
   have HC2 : Hid (∀ wx, Below wr.heap.size wr wx → Calls Tryz.prog 38 #[.slice B2 z2 y2] wx fun e w' => e = .returned (.int .i64 x2) ∧ w' = wx) := Lib.hid (fun wx hx => by
    have := cells38_any _ _ wx ((hsv.below HB.out).below hx) hsm.2; rw [hx2] at this; exact this)
   have HX : Hid (memN (m.frames.take (n + 1)) = memN (m.frames.take n) + (x1 + x2)) := Lib.hid (by rw [HS.out, hx1, hx2])
   obtain ⟨s, hs⟩ : ∃ s, memN (m.frames.take n) = s := ⟨_, rfl⟩
   have hb1 := HBD.out n
   rw [hs] at hb1
   rw [hs]
   have HSS := Lib.hid hs
   clear hf1 hc1 hrow hlv hsv hsm hx1 hx2 hsa hs
   have k0 : (0 : Int) ≤ (s : Int) := by omega
   have k1' : (s : Int) ≤ 703687441776640000 := by omega
   have k2' : (0 : Int) ≤ (x1 : Int) := by omega
   have k3 : (x1 : Int) ≤ 8796093022208000 := by omega
   have k4 : (0 : Int) ≤ (x2 : Int) := by omega
   have k5 : (x2 : Int) ≤ 8796093022208000 := by omega
   go_wp2
   go_quiet (first
    | (go_at_call 38; with_reducible exact Calls.quiet_of_same (HC1.out _ (by first | exact below_new _ _ | exact below_drewN (below_new _ _) _)))
    | (go_at_call 38; with_reducible exact Calls.quiet_of_same (HC2.out _ (by first | exact below_new _ _ | exact below_drewN (below_new _ _) _))))
   go_wp2
   refine ⟨⟨n + 1, by omega, by simp, by rw [HX.out, HSS.out]; simp, below_drewN (below_call (below_new _ _) HB.out) _⟩, by simp [intOf]; omega⟩
  ·have e : n = m.frames.length := by omega
   subst e
   have HT := Lib.hid (show m.frames.take m.frames.length = m.frames from List.take_length)
   go_wp2
   go_ret
   exact ⟨by rw [← HT.out]; simp [List.take_length], HB.out⟩

set_option maxHeartbeats 4000000 in
theorem rmemory_any (m : MachD) (v : Value) (w : World) (h : MachV w v m) (hm : SmallF m.frames) :
  Calls Tryz.prog 43 #[v] w fun e w' => e = .returned (.int .i64 (memN m.frames)) ∧ Below w.heap.size w w' := by
 obtain ⟨vv, fv, qv, rfl, hvv, hfv, hqv⟩ := h
 have HBD := Lib.hid (memN_bd hfv hm)
 obtain ⟨A1, n1, k1, rfl⟩ := hvv.shape
 obtain ⟨A2, n2, k2, rfl⟩ := hqv.shape
 have HSM := Lib.hid hm.2
 clear hvv hqv hm
 obtain ⟨A, cap, rows, rfl, hca, hma, hsa, hla, hva⟩ := hfv
 have HV := Lib.hid hva
 have HLA := Lib.hid hla
 have HSA := Lib.hid hsa
 clear hva hla hsa
 go_enter Tryz.func43, Tryz.ntmps43
 go_wp2
 go_loop [3, 10] (fun s i => ∃ n : Nat, n ≤ m.frames.length ∧ i = .int .i64 n ∧ s = .int .i64 (memN (m.frames.take n))) (fun _ i => m.frames.length - (intOf i).toNat)
 case atStart => exact ⟨0, Nat.zero_le _, rfl, rfl⟩
 case round =>
  obtain ⟨n, hn, rfl, rfl⟩ := hrel
  by_cases hlt : n < m.frames.length
  ·have hna : n < rows.length := by rw [HLA.out]; exact hlt
   have hlt' : (n : Int) < (m.frames.length : Int) := by omega
   have hn0 : (0 : Int) ≤ (n : Int) := by omega
   have hsa := HSA.out
   obtain ⟨bA, off, rfl, _⟩ := hsa.ptr hna
   obtain ⟨lv, sv, hrow, hlv, hsv⟩ := HV.out n hna hlt
   obtain ⟨B1, y1, vs1, rfl, _, hm1, hs1, hl1, hv1⟩ := hlv.at
   obtain ⟨B2, y2, vs2, rfl, _, hm2, hs2, hl2, hv2⟩ := hsv.at
   have c2 := hsa.cell hna (j := 2) (v := .slice B1 m.frames[n].locals.length y1) (by rw [hrow]; rfl)
   have c3 := hsa.cell hna (j := 3) (v := .slice B2 m.frames[n].stack.length y2) (by rw [hrow]; rfl)
   have hsm := HSM.out _ (List.getElem_mem hlt)
   have HS := Lib.hid (memN_snoc m.frames n hlt)
   have HB1 := Lib.hid (cellsN_bd hlv hsm.1)
   have HB2 := Lib.hid (cellsN_bd hsv hsm.2)
   have hbb := HB1.out m.frames[n].locals.length
   rw [List.take_length] at hbb
   have hb1 := HBD.out n
   have HS1 := Lib.hid hs1
   have HS2 := Lib.hid hs2
   have HL1 := Lib.hid hl1
   have HL2 := Lib.hid hl2
   have HV1 := Lib.hid hv1
   have HV2 := Lib.hid hv2
   obtain ⟨sB, hs⟩ : ∃ s, memN (m.frames.take n) = s := ⟨_, rfl⟩
   rw [hs] at hb1
   rw [hs]
   have HSS := Lib.hid hs
   clear hrow hlv hsv hsm hsa hs hs1 hs2 hl1 hl2 hv1 hv2
   go_wp2
   go_loop [3, 20] (fun u i => ∃ k : Nat, k ≤ m.frames[n].locals.length ∧ i = .int .i64 k ∧ u = .int .i64 (((sB + cellsN (m.frames[n].locals.take k) : Nat)) : Int)) (fun _ i => m.frames[n].locals.length - (intOf i).toNat)
   case atStart => exact ⟨0, Nat.zero_le _, rfl, by simp [cellsN]⟩
   case round =>
    obtain ⟨k, hk, rfl, rfl⟩ := hrel
    by_cases hkl : k < m.frames[n].locals.length
    ·have hka : k < vs1.length := by rw [HL1.out]; exact hkl
     have hss := HS1.out
     obtain ⟨b3, off3, rfl, _⟩ := hss.ptr hka
     obtain ⟨x, hx⟩ : ∃ x, vs1[k] = x := ⟨_, rfl⟩
     have hvx : ValV w x m.frames[n].locals[k] := hx ▸ HV1.out k hka hkl
     obtain ⟨A9, k9, rfl, hc9, hm9, _⟩ := hvx.at
     have e0 := hss.cell0 hka (v := .slice A9 m.frames[n].locals[k].length k9) (by rw [hx]; rfl)
     rw [Nat.mul_one] at e0
     have HSK := Lib.hid (cellsN_snoc m.frames[n].locals k hkl)
     have hb9 := HB1.out k
     obtain ⟨s9, hs9⟩ : ∃ s, sB + cellsN (m.frames[n].locals.take k) = s := ⟨_, rfl⟩
     have hbx : s9 ≤ 800000000000000000 := by omega
     rw [hs9]
     have HS9 := Lib.hid hs9
     have q0 : (0 : Int) ≤ (s9 : Int) := by omega
     have q1 : (s9 : Int) ≤ 800000000000000000 := by omega
     have hk1 : (k : Int) < (m.frames[n].locals.length : Int) := by omega
     have hk2 : (0 : Int) ≤ (k : Int) := by omega
     clear hx hvx hss hs9
     go_wp2
     refine ⟨⟨k + 1, by omega, by simp, by rw [HSK.out, ← Nat.add_assoc, HS9.out]; simp⟩, by simp [intOf]; omega⟩
    ·have e : k = m.frames[n].locals.length := by omega
     subst e
     have HTT20 := Lib.hid (show m.frames[n].locals.take m.frames[n].locals.length = m.frames[n].locals from List.take_length)
     go_wp2
     go_loop [3, 43] (fun u i => ∃ k : Nat, k ≤ m.frames[n].stack.length ∧ i = .int .i64 k ∧ u = .int .i64 ((((sB + cellsN m.frames[n].locals) + cellsN (m.frames[n].stack.take k) : Nat)) : Int)) (fun _ i => m.frames[n].stack.length - (intOf i).toNat)
     case atStart => exact ⟨0, Nat.zero_le _, rfl, by simp [cellsN]⟩
     case round =>
      obtain ⟨k, hk, rfl, rfl⟩ := hrel
      by_cases hkl : k < m.frames[n].stack.length
      ·have hka : k < vs2.length := by rw [HL2.out]; exact hkl
       have hss := HS2.out
       obtain ⟨b3, off3, rfl, _⟩ := hss.ptr hka
       obtain ⟨x, hx⟩ : ∃ x, vs2[k] = x := ⟨_, rfl⟩
       have hvx : ValV w x m.frames[n].stack[k] := hx ▸ HV2.out k hka hkl
       obtain ⟨A9, k9, rfl, hc9, hm9, _⟩ := hvx.at
       have e0 := hss.cell0 hka (v := .slice A9 m.frames[n].stack[k].length k9) (by rw [hx]; rfl)
       rw [Nat.mul_one] at e0
       have HSK := Lib.hid (cellsN_snoc m.frames[n].stack k hkl)
       have hb9 := HB2.out k
       obtain ⟨s9, hs9⟩ : ∃ s, (sB + cellsN m.frames[n].locals) + cellsN (m.frames[n].stack.take k) = s := ⟨_, rfl⟩
       have hbx : s9 ≤ 800000000000000000 := by omega
       rw [hs9]
       have HS9 := Lib.hid hs9
       have q0 : (0 : Int) ≤ (s9 : Int) := by omega
       have q1 : (s9 : Int) ≤ 800000000000000000 := by omega
       have hk1 : (k : Int) < (m.frames[n].stack.length : Int) := by omega
       have hk2 : (0 : Int) ≤ (k : Int) := by omega
       clear hx hvx hss hs9
       go_wp2
       refine ⟨⟨k + 1, by omega, by simp, by rw [HSK.out, ← Nat.add_assoc, HS9.out]; simp⟩, by simp [intOf]; omega⟩
      ·have e : k = m.frames[n].stack.length := by omega
       subst e
       have HTT43 := Lib.hid (show m.frames[n].stack.take m.frames[n].stack.length = m.frames[n].stack from List.take_length)
       go_wp2
       refine ⟨⟨n + 1, by omega, by simp, by rw [HS.out, HSS.out, ← Nat.add_assoc]; simp⟩, by simp [intOf]; omega⟩
  ·have e : n = m.frames.length := by omega
   subst e
   have HT := Lib.hid (show m.frames.take m.frames.length = m.frames from List.take_length)
   go_wp2
   go_ret
   exact ⟨by rw [← HT.out]; simp [List.take_length], below_new _ _⟩
end Go.Proofs.YtmljohbialacfaaGreatDoor
namespace Go.Proofs.YtmljohbialacfaaGreatDoor
open Go.RowKit
set_option maxRecDepth 100000

attribute [local go_sem] cell_alloc_is
def smallB (l : ValD) : Bool := decide (l.length ≤ 300) && l.all (fun c => decide (c.str.size ≤ 5000))
set_option maxHeartbeats 1000000 in
theorem small_any (l : ValD) (v : Value) (w : World) (h : ValV w v l) (hs : ∀ c ∈ l, c.str.size ≤ 140737488351232) :
  Calls Tryz.prog 8 #[v] w fun e w' => e = .returned (.bool (smallB l)) ∧ w' = w := by
 obtain ⟨A, cap, rfl, hca, hma, hsa⟩ := h.at
 have HSA := Lib.hid hsa
 have HSS := Lib.hid hs
 clear h hsa hs
 by_cases hl : l.length ≤ 300
 ·have hl' : ((l.length : Int) > 300) = False := by simp; omega
  go_enter Tryz.func8, Tryz.ntmps8
  go_wp2
  go_loop [9] (fun i => ∃ n : Nat, n ≤ l.length ∧ i = .int .i64 n ∧ Hid (∀ c ∈ l.take n, c.str.size ≤ 5000)) (fun i => l.length - (intOf i).toNat)
  case atStart => exact ⟨0, Nat.zero_le _, rfl, Lib.hid (by simp)⟩
  case round =>
   obtain ⟨n, hn, rfl, HT⟩ := hrel
   by_cases hlt : n < l.length
   ·have hlt' : (n : Int) < (l.length : Int) := by omega
    have hn0 : (0 : Int) ≤ (n : Int) := by omega
    have hsa := HSA.out
    obtain ⟨b, off, rfl, _⟩ := hsa.ptr hlt
    obtain ⟨s, hs⟩ : ∃ s, l[n].str = s := ⟨_, rfl⟩
    have c2 := hsa.cell hlt (j := 2) (v := .string s) (by rw [← hs]; rfl)
    have hsz := HSS.out _ (List.getElem_mem hlt)
    rw [hs] at hsz
    have HS := Lib.hid hs
    clear hsa hs
    by_cases h5 : s.size ≤ 5000
    ·have HT2 : Hid (∀ c ∈ l.take (n + 1), c.str.size ≤ 5000) := Lib.hid (by
      rw [List.take_succ_eq_append_getElem hlt]
      intro c hc
      rcases List.mem_append.1 hc with hc | hc
      ·exact HT.out c hc
      ·simp at hc; subst hc; rw [HS.out]; exact h5)
     go_wp2
     refine ⟨⟨n + 1, by omega, by simp, HT2⟩, by simp [intOf]; omega⟩
    ·have e : smallB l = false := by
      unfold smallB
      rw [Bool.and_eq_false_iff]
      right
      rw [List.all_eq_false]
      exact ⟨l[n], List.getElem_mem hlt, by rw [HS.out]; simpa using h5⟩
     have HE := Lib.hid e
     have h5' : (5000 : Int) < (s.size : Int) := by omega
     clear h5 e
     go_wp2
     go_ret
     exact ⟨by rw [HE.out]; rfl, rfl⟩
   ·have e : n = l.length := by omega
    subst e
    have HE : Hid (smallB l = true) := Lib.hid (by
     have := HT.out
     rw [List.take_length] at this
     simp only [smallB, Bool.and_eq_true, decide_eq_true_eq, List.all_eq_true]
     exact ⟨hl, this⟩)
    go_wp2
    go_ret
    exact ⟨by rw [HE.out]; rfl, rfl⟩
 ·have e : smallB l = false := by unfold smallB; simp; intro h; omega
  have HE := Lib.hid e
  have hl' : (300 : Int) < (l.length : Int) := by omega
  clear hl e
  go_enter Tryz.func8, Tryz.ntmps8
  go_wp2
  go_ret
  exact ⟨by rw [HE.out]; rfl, rfl⟩
end Go.Proofs.YtmljohbialacfaaGreatDoor
namespace Go.Proofs.YtmljohbialacfaaGreatDoor
open Go.RowKit
set_option maxRecDepth 100000

attribute [local go_sem] cell_alloc_is
set_option maxHeartbeats 4000000 in
theorem sreq_any (a b : List ReqD) (va vb : Value) (w : World) (ha : ReqsV w va a) (hb : ReqsV w vb b) :
  Calls Tryz.prog 33 #[va, vb] w fun e w' => e = .returned (.bool (eqQs a b)) ∧ ∃ q, w' = w.drewN q := by
 obtain ⟨A, cap, rs1, rfl, hca, hma, hsa0, hla, hva⟩ := ha
 obtain ⟨B, cbp, rs2, rfl, hcb, hmb, hsb0, hlb, hvb⟩ := hb
 have HVA := Lib.hid hva
 have HVB := Lib.hid hvb
 have HSA := Lib.hid hsa0
 have HSB := Lib.hid hsb0
 clear hva hvb hsa0 hsb0
 by_cases hl : b.length = a.length
 ·rw [hl]
  have HL := Lib.hid hl
  have HLA := Lib.hid hla
  have HLB := Lib.hid hlb
  clear hl hla hlb
  go_enter Tryz.func33, Tryz.ntmps33
  go_wp2
  go_loopw [14] (fun i wr => ∃ n q : Nat, n ≤ a.length ∧ i = .int .i64 n ∧ wr = w.drewN q ∧ Hid (a.take n = b.take n)) (fun i _ => a.length - (intOf i).toNat)
  case atStart => exact ⟨0, 0, Nat.zero_le _, rfl, rfl, Lib.hid rfl⟩
  case round =>
   obtain ⟨n, q, hn, rfl, rfl, HT⟩ := hrel
   by_cases hlt : n < a.length
   ·have hltb : n < b.length := by rw [HL.out]; exact hlt
    have hna : n < rs1.length := by rw [HLA.out]; exact hlt
    have hnb : n < rs2.length := by rw [HLB.out]; exact hltb
    have hlt' : (n : Int) < (a.length : Int) := by omega
    have hn0 : (0 : Int) ≤ (n : Int) := by omega
    have hsa := HSA.out
    have hsb := HSB.out
    obtain ⟨bA, off, rfl, _⟩ := hsa.ptr hna
    obtain ⟨bB, off', rfl, _⟩ := hsb.ptr hnb
    obtain ⟨la, hra, hla⟩ := HVA.out n hna hlt
    obtain ⟨lb, hrb, hlb⟩ := HVB.out n hnb hltb
    obtain ⟨fa, hfa⟩ : ∃ x, a[n].op = x := ⟨_, rfl⟩
    obtain ⟨fb, hfb⟩ : ∃ x, b[n].op = x := ⟨_, rfl⟩
    obtain ⟨xa, hxa⟩ : ∃ x, a[n].args = x := ⟨_, rfl⟩
    obtain ⟨xb, hxb⟩ : ∃ x, b[n].args = x := ⟨_, rfl⟩
    rw [hxa] at hla
    rw [hxb] at hlb
    obtain ⟨A1, k1, vs1, rfl, hc1, hm1, hs1, hl1, hv1⟩ := hla.at
    obtain ⟨B1, k2, vs2, rfl, hc2, hm2, hs2, hl2, hv2⟩ := hlb.at
    rw [hfa] at hra
    rw [hfb] at hrb
    have c0 := hsa.cell0 hna (v := .string fa) (by rw [hra]; rfl)
    have c1 := hsa.cell hna (j := 1) (v := .slice A1 xa.length k1) (by rw [hra]; rfl)
    have d0 := hsb.cell0 hnb (v := .string fb) (by rw [hrb]; rfl)
    have d1 := hsb.cell hnb (j := 1) (v := .slice B1 xb.length k2) (by rw [hrb]; rfl)
    have HFA := Lib.hid hfa
    have HFB := Lib.hid hfb
    have HXA := Lib.hid hxa
    have HXB := Lib.hid hxb
    have HS1 := Lib.hid hs1
    have HS2 := Lib.hid hs2
    have HL1 := Lib.hid hl1
    have HL2 := Lib.hid hl2
    have HV1 := Lib.hid hv1
    have HV2 := Lib.hid hv2
    clear hfa hfb hxa hxb hra hrb hsa hsb hla hlb hs1 hs2 hl1 hl2 hv1 hv2
    by_cases he : fa = fb
    ·subst he
     by_cases hx : xb.length = xa.length
     ·rw [hx] at d1
      have HXL := Lib.hid hx
      clear hx
      go_wp2
      go_quiet (fail)
      go_wp2
      go_loopw [49] (fun i wi => ∃ k p : Nat, k ≤ xa.length ∧ i = .int .i64 k ∧ wi = w.drewN p ∧ Hid (xa.take k = xb.take k)) (fun i _ => xa.length - (intOf i).toNat)
      case atStart => exact ⟨0, _, Nat.zero_le _, rfl, (by first | rfl | exact World.drewN_drewN _ _ _), Lib.hid rfl⟩
      case round =>
       obtain ⟨k, p, hk, rfl, rfl, HK⟩ := hrel
       by_cases hkl : k < xa.length
       ·have hkb : k < xb.length := by rw [HXL.out]; exact hkl
        have hka : k < vs1.length := by rw [HL1.out]; exact hkl
        have hkb' : k < vs2.length := by rw [HL2.out]; exact hkb
        have hkl' : (k : Int) < (xa.length : Int) := by omega
        have hk0 : (0 : Int) ≤ (k : Int) := by omega
        have hs1 := HS1.out
        have hs2 := HS2.out
        obtain ⟨b3, off3, rfl, _⟩ := hs1.ptr hka
        obtain ⟨b4, off4, rfl, _⟩ := hs2.ptr hkb'
        obtain ⟨x, hx⟩ : ∃ x, vs1[k] = x := ⟨_, rfl⟩
        obtain ⟨y, hy⟩ : ∃ y, vs2[k] = y := ⟨_, rfl⟩
        have e0 := hs1.cell0 hka (v := x) (by rw [hx]; rfl)
        have e1 := hs2.cell0 hkb' (v := y) (by rw [hy]; rfl)
        have hvx : ValV w x xa[k] := hx ▸ HV1.out k hka hkl
        have hvy : ValV w y xb[k] := hy ▸ HV2.out k hkb' hkb
        rw [Nat.mul_one] at e0 e1
        clear hx hy hs1 hs2
        obtain ⟨t, ht⟩ : ∃ t, eqV xa[k] xb[k] = t := ⟨_, rfl⟩
        have HTT := Lib.hid ht
        have HC : Hid (∀ k, Calls Tryz.prog 21 #[x, y] (w.drewN k) fun e w' => e = .returned (.bool t) ∧ ∃ q, w' = (w.drewN k).drewN q) := Lib.hid (fun j => by
         have := cells_any xa[k] xb[k] x y (w.drewN j) hvx hvy
         rw [ht] at this; exact this)
        clear hvx hvy ht
        cases t
        ·have HE : Hid (eqQs a b = false) := Lib.hid (by
          unfold eqQs; rw [decide_eq_false_iff_not]; rintro rfl
          have h1 := HTT.out
          have h2 := HXA.out.symm.trans HXB.out
          subst h2
          simp [eqV] at h1)
         go_wp2
         go_quiet ((go_at_call 21; exact quiet_add (HC.out _)))
         go_wp2
         go_ret
         exact ⟨by rw [HE.out]; rfl, _, (by first | rfl | exact World.drewN_drewN _ _ _)⟩
        ·have HK2 := Lib.hid (take_succ_eq hkl hkb HK.out (by have := HTT.out; simpa [eqV] using this))
         go_wp2
         go_quiet ((go_at_call 21; exact quiet_add (HC.out _)))
         go_wp2
         refine ⟨⟨k + 1, _, by omega, by simp, (by first | rfl | exact World.drewN_drewN _ _ _), HK2⟩, by simp [intOf]; omega⟩
       ·have e : k = xa.length := by omega
        subst e
        have HT2 := Lib.hid (take_succ_eq hlt hltb HT.out (by
         have h1 := HK.out
         rw [List.take_length, ← HXL.out, List.take_length] at h1
         have h2 := HFA.out
         have h3 := HFB.out
         have h4 := HXA.out
         have h5 := HXB.out
         subst h1
         generalize a[n] = p1 at h2 h4 ⊢
         generalize b[n] = p2 at h3 h5 ⊢
         cases p1; cases p2; simp_all))
        go_wp2
        refine ⟨⟨n + 1, _, by omega, by simp, rfl, HT2⟩, by simp [intOf]; omega⟩
     ·have HE : Hid (eqQs a b = false) := Lib.hid (by
       unfold eqQs; rw [decide_eq_false_iff_not]; rintro rfl
       exact hx (by rw [← HXA.out, ← HXB.out]))
      have hx' : ((xa.length : Int) != (xb.length : Int)) = true := by simp; omega
      clear hx
      go_wp2
      go_quiet (fail)
      go_wp2
      go_ret
      exact ⟨by rw [HE.out]; rfl, _, (by first | rfl | exact World.drewN_drewN _ _ _)⟩
    ·have HE : Hid (eqQs a b = false) := Lib.hid (by
      unfold eqQs; rw [decide_eq_false_iff_not]; rintro rfl
      exact he (by rw [← HFA.out, ← HFB.out]))
     have he' : (fa.toList == fb.toList) = false := by rw [toList_beq]; simpa using he
     clear he
     go_wp2
     go_quiet (fail)
     go_wp2
     go_ret
     exact ⟨by rw [HE.out]; rfl, _, (by first | rfl | exact World.drewN_drewN _ _ _)⟩
   ·have e : n = a.length := by omega
    subst e
    have HE : Hid (eqQs a b = true) := Lib.hid (by
     have := HT.out
     rw [List.take_length, ← HL.out, List.take_length] at this
     simp [eqQs, this])
    go_wp2
    go_ret
    exact ⟨by rw [HE.out]; rfl, q, rfl⟩
 ·have e : eqQs a b = false := by
   unfold eqQs; rw [decide_eq_false_iff_not]; rintro rfl; exact hl rfl
  have HE := Lib.hid e
  have hl' : ((a.length : Int) != (b.length : Int)) = true := by simp; omega
  clear hl e hla hlb
  go_enter Tryz.func33, Tryz.ntmps33
  go_wp2
  go_ret
  exact ⟨by rw [HE.out]; rfl, 0, rfl⟩
end Go.Proofs.YtmljohbialacfaaGreatDoor
