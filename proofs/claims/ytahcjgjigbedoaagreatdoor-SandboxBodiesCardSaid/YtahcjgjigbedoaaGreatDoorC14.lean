/- Pending on both sides. -/
import Derived.Test.YtahcjgjigbedoaaGreatDoorC10
import Derived.Deep.RegionWith
set_option linter.unusedVariables false
set_option linter.unusedSimpArgs false
namespace Go.Proofs.YtahcjgjigbedoaaGreatDoor
open Go.RowKit
set_option maxRecDepth 100000

/-- The request that is not answered yet. -/
def pendR (m : MachD) : ReqD × Bool := if m.status = 2 then (match m.requests.getLast? with | some r => (r, true) | none => (⟨ByteArray.empty, []⟩, false)) else (⟨ByteArray.empty, []⟩, false)
def PendPost (m : MachD) (w : World) (e : Ending) (w' : World) : Prop := ∃ rv, e = .returned (.tuple #[rv, .bool (pendR m).2]) ∧ ReqV w' rv (pendR m).1 ∧ Below w.heap.size w w'
theorem emptyReq (w : World) : ReqV w (.agg #[.string ByteArray.empty, .slice none 0 0]) ⟨ByteArray.empty, []⟩ := ⟨_, rfl, RowsV.nil none 0⟩

attribute [local go_sem] cell_alloc_is
set_option maxHeartbeats 2000000 in
theorem mpending_any (m : MachD) (v : Value) (w : World) (h : MachV w v m) :
  Calls Tryz.prog 38 #[v] w (PendPost m w) := by
 obtain ⟨vv, fv, qv, rfl, hvv, hfv, hqv⟩ := h
 obtain ⟨A1, n1, k1, rfl⟩ := hvv.shape
 obtain ⟨A2, n2, k2, rfl⟩ := hfv.shape
 obtain ⟨A3, kq, rowq, rfl, hcq, hmq, hsq, hlq, hvq⟩ := hqv
 have HSQ := Lib.hid hsq
 have HLQ := Lib.hid hlq
 have HVQ := Lib.hid hvq
 clear hvv hfv hsq hlq hvq
 obtain ⟨P, hP⟩ : ∃ P, PendPost m w = P := ⟨_, rfl⟩
 rw [hP]
 have HP := Lib.hid hP
 clear hP
 by_cases hst : m.status = 2
 ·by_cases hq : m.requests = []
  ·have HR : Hid (pendR m = (⟨ByteArray.empty, []⟩, false)) := Lib.hid (by simp [pendR, hst, hq])
   rw [hst, show m.requests.length = 0 by rw [hq]; rfl]
   clear hst hq
   go_enter Tryz.func38, Tryz.ntmps38
   go_wp2
   refine bodyPost_ret (v := .tuple #[.agg #[.string ⟨#[]⟩, .slice none 0 0], .bool false]) (by simp [results, Tryz.results38, go_sem]) rfl ?_
   rw [← HP.out]
   exact ⟨_, by rw [HR.out], by rw [HR.out]; exact emptyReq _, below_2 _ _ _⟩
  ·obtain ⟨n, hn⟩ : ∃ n, m.requests.length = n + 1 := ⟨m.requests.length - 1, by have := List.length_pos_iff.2 hq; omega⟩
   have hlt : n < m.requests.length := by omega
   have HR : Hid (pendR m = (m.requests[n], true)) := Lib.hid (by
    have : m.requests.getLast? = some m.requests[n] := by
     rw [List.getLast?_eq_getElem?, show m.requests.length - 1 = n by omega, List.getElem?_eq_getElem hlt]
    simp only [pendR, hst, if_true, this])
   have hna : n < rowq.length := by rw [HLQ.out]; exact hlt
   have hsa := HSQ.out
   obtain ⟨bA, off, rfl, _⟩ := hsa.ptr hna
   obtain ⟨av, hrow, hav⟩ := HVQ.out n hna hlt
   obtain ⟨B1, z1, y1, rfl⟩ := hav.shape
   obtain ⟨op, hop⟩ : ∃ x, m.requests[n].op = x := ⟨_, rfl⟩
   rw [hop] at hrow
   have c0 := hsa.cell0 hna (v := .string op) (by rw [hrow]; rfl)
   have c1 := hsa.cell hna (j := 1) (v := .slice B1 z1 y1) (by rw [hrow]; rfl)
   have HRV := Lib.hid (show ReqV w (.agg #[.string op, .slice B1 z1 y1]) m.requests[n] from ⟨_, by rw [hop], hav⟩)
   have HRV2 := Lib.hid hav
   rw [hst, hn]
   clear hsa hrow hav hop hq hst
   have e1 : ((n + 1 : Nat) : Int) - 1 = (n : Int) := by omega
   have e2 : ¬ ((n + 1 : Nat) : Int) = 0 := by omega
   go_enter Tryz.func38, Tryz.ntmps38
   have HC : Hid (∀ wx, Below w.heap.size w wx → Calls Tryz.prog 57 #[.slice B1 z1 y1] wx fun e w' => ∃ v', e = .returned v' ∧ OVals w' wx.heap.size v' m.requests[n].args ∧ Below wx.heap.size wx w') := Lib.hid (fun wx hx => mvalues_any _ _ wx (HRV2.out.below hx))
   have HBD := Lib.hid HRV2.out.bounds
   have HOP := Lib.hid (show m.requests[n].op = op by obtain ⟨_, h, _⟩ := HRV.out; injection h with h; injection h with h; simp at h; exact h.1.symm)
   go_upto_region 4 with fail
   obtain ⟨W, hW⟩ : ∃ W, ((w.alloc (.cells #[.int .i64 2, .int .i64 m.err, .slice A1 n1 k1, .slice A2 n2 k2, .slice (some ⟨bA, off, none⟩) (n + 1) kq, .int .i64 m.lsteps, .int .i64 m.lmem, .int .i64 m.steps, .int .i64 m.peak] 61)).alloc (.cells #[.string ⟨#[]⟩, .slice none 0 0] 66)).alloc (.cells #[.string op, .slice B1 z1 y1] 66) = W := ⟨_, rfl⟩
   have HT4 := Lib.hid (show Blk W (w.heap.size + 1 + 1) 66 #[.string op, .slice B1 z1 y1] by rw [← hW]; exact Blk.new' (by simp))
   have HT2 := Lib.hid (show Blk W (w.heap.size + 1) 66 #[.string ⟨#[]⟩, .slice none 0 0] by rw [← hW]; exact (Blk.second w _ _ _).alloc _)
   have HBW := Lib.hid (show Below w.heap.size w W by rw [← hW]; exact below_3 _ _ _ _)
   rw [hW]
   clear hW c0 c1
   have g4 := blk2 HT4.out
   go_region_held3 (fun w' => w'.cell? ⟨w.heap.size + 1 + 1, 0, none⟩ = some (.string op) ∧ w'.cell? ⟨w.heap.size + 1 + 1, 1, none⟩ = some (.slice B1 z1 y1)) (first | assumption | go_keep) (first
    | (go_at_call 57; with_reducible refine (HC.out _ HBW.out.drew).mono ?_; rintro e w3 ⟨v3, rfl, ho3, hb3⟩; have HT43 := Lib.hid (HT4.out.drew.below hb3); have HT23 := Lib.hid (HT2.out.drew.below hb3); have g43 := blk2 HT43.out; have g23 := blk2 HT23.out; have z0 := HT23.out.frozen 0; have z1' := HT23.out.frozen 1; obtain ⟨A9, k9, rfl⟩ := ho3.shape; have HO3 := Lib.hid ho3; have HB3 := Lib.hid (below_call hb3 HBW.out.drew); clear ho3 hb3))
   go_wp2
   have HZ := Lib.hid ((HT23.out.set_ 0 (.string op)).set_ 1 (.slice A9 m.requests[n].args.length k9))
   have HK := Lib.hid ((KT.set HT23.out 0 (.string op)).trans (KT.set (HT23.out.set_ 0 (.string op)) 1 (.slice A9 m.requests[n].args.length k9)))
   have HBZ := Lib.hid ((HB3.out.setCell (p := ⟨w.heap.size + 1, 0, none⟩) (Nat.le_succ _) (.string op)).setCell (p := ⟨w.heap.size + 1, 1, none⟩) (Nat.le_succ _) (.slice A9 m.requests[n].args.length k9))
   obtain ⟨wz, hwz⟩ : ∃ wz, (w3.setCell ⟨w.heap.size + 1, 0, none⟩ (.string op)).setCell ⟨w.heap.size + 1, 1, none⟩ (.slice A9 m.requests[n].args.length k9) = wz := ⟨_, rfl⟩
   rw [hwz] at HZ HK HBZ ⊢
   clear hwz g23 g43 z0 z1'
   have gz : wz.cell? ⟨w.heap.size + 1, 0, none⟩ = some (.string op) ∧ wz.cell? ⟨w.heap.size + 1, 1, none⟩ = some (.slice A9 m.requests[n].args.length k9) := blk2 HZ.out
   refine bodyPost_ret (v := .tuple #[.agg #[.string op, .slice A9 m.requests[n].args.length k9], .bool true]) (by simp [results, Tryz.results38, go_sem, gz]) rfl ?_
   rw [← HP.out]
   exact ⟨_, by rw [HR.out], by rw [HR.out]; exact ⟨_, by rw [HOP.out], (HK.out.ovals (by decide) (by decide) HO3.out).vals HBD.out.1 HBD.out.2⟩, HBZ.out⟩
 ·have HR : Hid (pendR m = (⟨ByteArray.empty, []⟩, false)) := Lib.hid (by simp [pendR, hst])
  go_enter Tryz.func38, Tryz.ntmps38
  go_wp2
  refine bodyPost_ret (v := .tuple #[.agg #[.string ⟨#[]⟩, .slice none 0 0], .bool false]) (by simp [results, Tryz.results38, go_sem]) rfl ?_
  rw [← HP.out]
  exact ⟨_, by rw [HR.out], by rw [HR.out]; exact emptyReq _, below_2 _ _ _⟩
end Go.Proofs.YtahcjgjigbedoaaGreatDoor
