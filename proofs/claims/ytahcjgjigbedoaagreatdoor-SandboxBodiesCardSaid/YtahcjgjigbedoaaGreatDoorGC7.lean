/- Equality of lists of values. Equality of frames, requests, as the program's closures decide it. Equality of lists of frames and of requests, as slices.EqualFunc decides it. Equality of machines, as the program decides it. The memory of machines, on both sides. Equality of requests as the reference decides it. Equality of outcomes and of machines as the reference decides it. -/
import Derived.Test.YtahcjgjigbedoaaGreatDoorGB9
set_option linter.unusedVariables false
set_option linter.unusedSimpArgs false
namespace Go.Proofs.YtahcjgjigbedoaaGreatDoor
open Go.RowKit
set_option maxRecDepth 100000

def eqVs (a b : List ValD) : Bool := decide (a = b)
attribute [local go_sem] cell_alloc_is

end Go.Proofs.YtahcjgjigbedoaaGreatDoor
namespace Go.Proofs.YtahcjgjigbedoaaGreatDoor
open Go.RowKit
set_option maxRecDepth 100000

def eqF (a b : FrameD) : Bool := decide (a = b)
def eqQ (a b : ReqD) : Bool := decide (a = b)
/-- A frame as a value. -/
def FrameV (w : World) (v : Value) (f : FrameD) : Prop := ∃ lv sv, v = .agg #[.int .i64 f.func, .int .i64 f.pc, lv, sv] ∧ ValsV w lv f.locals ∧ ValsV w sv f.stack
def ReqV (w : World) (v : Value) (r : ReqD) : Prop := ∃ av, v = .agg #[.string r.op, av] ∧ ValsV w av r.args
theorem FrameV.below {w w' : World} {v : Value} {f : FrameD} (h : FrameV w v f) (hb : Below w.heap.size w w') : FrameV w' v f := by
 obtain ⟨lv, sv, rfl, h1, h2⟩ := h; exact ⟨lv, sv, rfl, h1.below hb, h2.below hb⟩
theorem ReqV.below {w w' : World} {v : Value} {f : ReqD} (h : ReqV w v f) (hb : Below w.heap.size w w') : ReqV w' v f := by
 obtain ⟨av, rfl, h1⟩ := h; exact ⟨av, rfl, h1.below hb⟩


attribute [local go_sem] cell_alloc_is
end Go.Proofs.YtahcjgjigbedoaaGreatDoor
namespace Go.Proofs.YtahcjgjigbedoaaGreatDoor
open Go.RowKit
set_option maxRecDepth 100000

def eqFs (a b : List FrameD) : Bool := decide (a = b)
def eqQs (a b : List ReqD) : Bool := decide (a = b)
attribute [local go_sem] cell_alloc_is
end Go.Proofs.YtahcjgjigbedoaaGreatDoor
namespace Go.Proofs.YtahcjgjigbedoaaGreatDoor
open Go.RowKit
set_option maxRecDepth 100000

/-- A machine as a value. -/
def MachV (w : World) (v : Value) (m : MachD) : Prop := ∃ vv fv qv, v = .agg #[.int .i64 m.status, .int .i64 m.err, vv, fv, qv, .int .i64 m.lsteps, .int .i64 m.lmem, .int .i64 m.steps, .int .i64 m.peak] ∧ ValV w vv m.value ∧ FramesV w fv m.frames ∧ ReqsV w qv m.requests
theorem MachV.below {w w' : World} {v : Value} {m : MachD} (h : MachV w v m) (hb : Below w.heap.size w w') : MachV w' v m := by
 obtain ⟨vv, fv, qv, rfl, h1, h2, h3⟩ := h; exact ⟨vv, fv, qv, rfl, h1.below hb, h2.below hb, h3.below hb⟩

def eqM (a b : MachD) : Bool := eqFs a.frames b.frames && (eqQs a.requests b.requests && (decide (a.status = b.status) && (decide (a.err = b.err) && (eqV a.value b.value && (decide (a.lsteps = b.lsteps ∧ a.lmem = b.lmem) && (decide (a.steps = b.steps) && decide (a.peak = b.peak)))))))
theorem eqV_comm (a b : ValD) : eqV a b = eqV b a := by simp [eqV, eq_comm]
theorem eqFs_comm (a b : List FrameD) : eqFs a b = eqFs b a := by simp [eqFs, eq_comm]
theorem eqQs_comm (a b : List ReqD) : eqQs a b = eqQs b a := by simp [eqQs, eq_comm]
theorem eqM_comm (a b : MachD) : eqM a b = eqM b a := by
 simp only [eqM, eqV_comm a.value, eqFs_comm a.frames, eqQs_comm a.requests, eq_comm]
theorem eqM_self (a : MachD) : eqM a a = true := by simp [eqM, eqV, eqFs, eqQs]

end Go.Proofs.YtahcjgjigbedoaaGreatDoor
namespace Go.Proofs.YtahcjgjigbedoaaGreatDoor
open Go.RowKit
set_option maxRecDepth 100000

theorem cellsN_bd {w : World} {v : Value} {l : List ValD} (h : ValsV w v l) (hl : l.length ≤ 1000) (n : Nat) : cellsN (l.take n) ≤ 8796093022208000 := by
 have h1 := cellsN_take_le l n
 have h2 := cellsN_le l _ h.short
 have h3 : l.length * 8796093022208 ≤ 1000 * 8796093022208 := Nat.mul_le_mul_right _ hl
 omega

attribute [local go_sem] cell_alloc_is
set_option maxHeartbeats 1000000 in
theorem cells38_any (l : List ValD) (v : Value) (w : World) (h : ValsV w v l) (hl : l.length ≤ 1000) :
  Calls Tryz.prog 77 #[v] w fun e w' => e = .returned (.int .i64 (cellsN l)) ∧ w' = w := by
 have HB := Lib.hid (cellsN_bd h hl)
 obtain ⟨A, cap, vs, rfl, hca, hma, hsa, hla, hva⟩ := h.at
 have HV := Lib.hid hva
 have HLA := Lib.hid hla
 clear h hva hla
 go_enter Tryz.func77, Tryz.ntmps77
 go_wp2
 go_loop [3, 8] (fun s i => ∃ n : Nat, n ≤ l.length ∧ i = .int .i64 n ∧ s = .int .i64 (cellsN (l.take n))) (fun _ i => l.length - (intOf i).toNat)
 case atStart => exact ⟨0, Nat.zero_le _, rfl, rfl⟩
 case round =>
  obtain ⟨n, hn, rfl, rfl⟩ := hrel
  by_cases hlt : n < l.length
  ·have hna : n < vs.length := by rw [HLA.out]; exact hlt
   obtain ⟨bA, off, rfl, _⟩ := hsa.ptr hna
   obtain ⟨x, hx⟩ : ∃ x, vs[n] = x := ⟨_, rfl⟩
   have hvx : ValV w x l[n] := hx ▸ HV.out n hna hlt
   obtain ⟨A1, k1, rfl, hc1, hm1, _⟩ := hvx.at
   have c0 := hsa.cell0 hna (v := .slice A1 l[n].length k1) (by rw [hx]; rfl)
   rw [Nat.mul_one] at c0
   have HS := Lib.hid (cellsN_snoc l n hlt)
   have hb1 := HB.out n
   have hb0 : (0 : Int) ≤ (cellsN (l.take n) : Int) := by omega
   have hb2 : (cellsN (l.take n) : Int) ≤ 8796093022208000 := by omega
   clear hx hvx
   go_wp2
   refine ⟨⟨n + 1, by omega, by simp, by rw [HS.out]; simp⟩, by simp [intOf]; omega⟩
  ·have e : n = l.length := by omega
   subst e
   have HT := Lib.hid (show l.take l.length = l from List.take_length)
   go_wp2
   go_ret
   exact ⟨by rw [← HT.out]; simp [List.take_length], rfl⟩

/-- Frames that are gone through. -/
def SmallF (l : List FrameD) : Prop := l.length ≤ 40 ∧ ∀ f ∈ l, f.locals.length ≤ 1000 ∧ f.stack.length ≤ 1000

theorem memN_bd {w : World} {v : Value} {l : List FrameD} (h : FramesV w v l) (hl : SmallF l) (n : Nat) : memN (l.take n) ≤ 703687441776640000 := by
 refine Nat.le_trans (memN_take_le l n) ?_
 have hall : ∀ f ∈ l, cellsN f.locals + cellsN f.stack ≤ 17592186044416000 := fun f hf => by
  obtain ⟨A, cap, rows, _, _, _, _, h5, h6⟩ := h
  obtain ⟨i, hi, rfl⟩ := List.getElem_of_mem hf
  obtain ⟨lv, sv, _, h1, h2⟩ := h6 i (by omega) hi
  have b1 := cellsN_bd h1 (hl.2 _ hf).1 l[i].locals.length
  have b2 := cellsN_bd h2 (hl.2 _ hf).2 l[i].stack.length
  rw [List.take_length] at b1 b2
  omega
 have key : ∀ l : List FrameD, (∀ f ∈ l, cellsN f.locals + cellsN f.stack ≤ 17592186044416000) → memN l ≤ l.length * 17592186044416000 := by
  intro l
  induction l with
  | nil => intro _; simp [memN]
  | cons f r ih =>
   intro hh
   have := ih (fun x hx => hh x (by simp [hx]))
   have h1 := hh f (by simp)
   simp only [memN, List.map_cons, List.sum_cons, List.length_cons, Nat.succ_mul] at this ⊢
   omega
 have := key l hall
 have h3 : l.length * 17592186044416000 ≤ 40 * 17592186044416000 := Nat.mul_le_mul_right _ hl.1
 omega

set_option maxHeartbeats 2000000 in
theorem memory_any (m : MachD) (v : Value) (w : World) (h : MachV w v m) (hm : SmallF m.frames) :
  Calls Tryz.prog 53 #[v] w fun e w' => e = .returned (.int .i64 (memN m.frames)) ∧ Below w.heap.size w w' := by
 obtain ⟨vv, fv, qv, rfl, hvv, hfv, hqv⟩ := h
 have HBD := Lib.hid (memN_bd hfv hm)
 obtain ⟨A1, n1, k1, rfl⟩ := hvv.shape
 obtain ⟨A2, n2, k2, rfl⟩ := hqv.shape
 have HSM := Lib.hid hm.2
 clear hvv hqv hm
 obtain ⟨A, cap, rows, rfl, hca, hma, hsa, hla, hva⟩ := hfv
 have HV := Lib.hid hva
 have HLA := Lib.hid hla
 have HSA := Lib.hid hsa
 clear hva hla hsa
 go_enter Tryz.func53, Tryz.ntmps53
 go_wp2
 go_loopw [3, 9] (fun s i wr => ∃ n : Nat, n ≤ m.frames.length ∧ i = .int .i64 n ∧ s = .int .i64 (memN (m.frames.take n)) ∧ Below w.heap.size w wr) (fun _ i _ => m.frames.length - (intOf i).toNat)
 case atStart => exact ⟨0, Nat.zero_le _, rfl, rfl, below_new _ _⟩
 case round =>
  obtain ⟨n, hn, rfl, rfl, hbel⟩ := hrel
  have HB := Lib.hid hbel
  clear hbel
  by_cases hlt : n < m.frames.length
  ·have hna : n < rows.length := by rw [HLA.out]; exact hlt
   have hsa := HSA.out.below HB.out
   obtain ⟨bA, off, rfl, _⟩ := hsa.ptr hna
   obtain ⟨lv, sv, hrow, hlv, hsv⟩ := HV.out n hna hlt
   obtain ⟨B1, z1, y1, rfl⟩ := hlv.shape
   obtain ⟨B2, z2, y2, rfl⟩ := hsv.shape
   obtain ⟨f1, hf1⟩ : ∃ x, m.frames[n].func = x := ⟨_, rfl⟩
   obtain ⟨c1, hc1⟩ : ∃ x, m.frames[n].pc = x := ⟨_, rfl⟩
   rw [hf1, hc1] at hrow
   have c0 := hsa.cell0 hna (v := .int .i64 f1) (by rw [hrow]; rfl)
   have c1' := hsa.cell hna (j := 1) (v := .int .i64 c1) (by rw [hrow]; rfl)
   have c2 := hsa.cell hna (j := 2) (v := .slice B1 z1 y1) (by rw [hrow]; rfl)
   have c3 := hsa.cell hna (j := 3) (v := .slice B2 z2 y2) (by rw [hrow]; rfl)
   have hsm := HSM.out _ (List.getElem_mem hlt)
   have HS := Lib.hid (memN_snoc m.frames n hlt)
   obtain ⟨x1, hx1⟩ : ∃ x, cellsN m.frames[n].locals = x := ⟨_, rfl⟩
   obtain ⟨x2, hx2⟩ : ∃ x, cellsN m.frames[n].stack = x := ⟨_, rfl⟩
   have b1 := cellsN_bd hlv hsm.1 m.frames[n].locals.length
   have b2 := cellsN_bd hsv hsm.2 m.frames[n].stack.length
   rw [List.take_length, hx1] at b1
   rw [List.take_length, hx2] at b2
   have HC1 : Hid (∀ wx, Below wr.heap.size wr wx → Calls Tryz.prog 77 #[.slice B1 z1 y1] wx fun e w' => e = .returned (.int .i64 x1) ∧ w' = wx) := Lib.hid (fun wx hx => by
    have := cells38_any _ _ wx ((hlv.below HB.out).below hx) hsm.1; rw [hx1] at this; exact this)
   have HC2 : Hid (∀ wx, Below wr.heap.size wr wx → Calls Tryz.prog 77 #[.slice B2 z2 y2] wx fun e w' => e = .returned (.int .i64 x2) ∧ w' = wx) := Lib.hid (fun wx hx => by
    have := cells38_any _ _ wx ((hsv.below HB.out).below hx) hsm.2; rw [hx2] at this; exact this)
   have HX : Hid (memN (m.frames.take (n + 1)) = memN (m.frames.take n) + (x1 + x2)) := Lib.hid (by rw [HS.out, hx1, hx2])
   obtain ⟨s, hs⟩ : ∃ s, memN (m.frames.take n) = s := ⟨_, rfl⟩
   have hb1 := HBD.out n
   rw [hs] at hb1
   rw [hs]
   have HSS := Lib.hid hs
   clear hf1 hc1 hrow hlv hsv hsm hx1 hx2 hsa hs
   have k0 : (0 : Int) ≤ (s : Int) := by omega
   have k1' : (s : Int) ≤ 703687441776640000 := by omega
   have k2' : (0 : Int) ≤ (x1 : Int) := by omega
   have k3 : (x1 : Int) ≤ 8796093022208000 := by omega
   have k4 : (0 : Int) ≤ (x2 : Int) := by omega
   have k5 : (x2 : Int) ≤ 8796093022208000 := by omega
   go_wp2
   go_quiet (first
    | (go_at_call 77; with_reducible exact Calls.quiet_of_same (HC1.out _ (by first | exact below_new _ _ | exact below_drewN (below_new _ _) _)))
    | (go_at_call 77; with_reducible exact Calls.quiet_of_same (HC2.out _ (by first | exact below_new _ _ | exact below_drewN (below_new _ _) _))))
   go_wp2
   refine ⟨⟨n + 1, by omega, by simp, by rw [HX.out, HSS.out]; simp, below_drewN (below_call (below_new _ _) HB.out) _⟩, by simp [intOf]; omega⟩
  ·have e : n = m.frames.length := by omega
   subst e
   have HT := Lib.hid (show m.frames.take m.frames.length = m.frames from List.take_length)
   go_wp2
   go_ret
   exact ⟨by rw [← HT.out]; simp [List.take_length], HB.out⟩

end Go.Proofs.YtahcjgjigbedoaaGreatDoor
namespace Go.Proofs.YtahcjgjigbedoaaGreatDoor
open Go.RowKit
set_option maxRecDepth 100000

attribute [local go_sem] cell_alloc_is
end Go.Proofs.YtahcjgjigbedoaaGreatDoor
namespace Go.Proofs.YtahcjgjigbedoaaGreatDoor
open Go.RowKit
set_option maxRecDepth 100000

structure OutD where
 done : Bool
 err : Int
 value : ValD
 requests : List ReqD
def OutV (w : World) (v : Value) (o : OutD) : Prop := ∃ vv qv, v = .agg #[.bool o.done, .int .i64 o.err, vv, qv] ∧ ValV w vv o.value ∧ ReqsV w qv o.requests
theorem OutV.below {w w' : World} {v : Value} {m : OutD} (h : OutV w v m) (hb : Below w.heap.size w w') : OutV w' v m := by
 obtain ⟨vv, qv, rfl, h1, h3⟩ := h; exact ⟨vv, qv, rfl, h1.below hb, h3.below hb⟩

attribute [local go_sem] cell_alloc_is
end Go.Proofs.YtahcjgjigbedoaaGreatDoor
