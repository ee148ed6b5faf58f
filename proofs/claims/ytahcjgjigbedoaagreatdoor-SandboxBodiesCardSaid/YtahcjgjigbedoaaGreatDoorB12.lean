/- The law wakes: serve runs the machine to its end. -/
import Derived.Test.YtahcjgjigbedoaaGreatDoorD23
import Derived.Test.YtahcjgjigbedoaaGreatDoorC14
set_option linter.unusedVariables false
set_option linter.unusedSimpArgs false
namespace Go.Proofs.YtahcjgjigbedoaaGreatDoor
open Go.RowKit
set_option maxRecDepth 100000
variable {vd : ValD}
theorem MachV.shape {w : World} {v : Value} {m : MachD} (h : MachV w v m) : ∃ A1 n1 k1 A2 n2 k2 A3 n3 k3, v = .agg #[.int .i64 m.status, .int .i64 m.err, .slice A1 n1 k1, .slice A2 n2 k2, .slice A3 n3 k3, .int .i64 m.lsteps, .int .i64 m.lmem, .int .i64 m.steps, .int .i64 m.peak] := by
 obtain ⟨vv, fv, qv, rfl, h1, h2, h3⟩ := h
 obtain ⟨A1, n1, k1, rfl⟩ := h1.shape
 obtain ⟨A2, n2, k2, rfl⟩ := h2.shape
 obtain ⟨A3, n3, k3, rfl⟩ := h3.shape
 exact ⟨_, _, _, _, _, _, _, _, _, rfl⟩
/-- The machine at its end. -/
def m3 (vd : ValD) : MachD := ⟨3, 0, vd, [], [], 10, 100, 2, max (vd.length : Int) (2 * (vd.length : Int))⟩
def zM : Array Value := #[.int .i64 0, .int .i64 0, .slice none 0 0, .slice none 0 0, .slice none 0 0, .int .i64 0, .int .i64 0, .int .i64 0, .int .i64 0]
theorem pend_none {m : MachD} {v : Value} {w : World} (h : MachV w v m) (hs : m.status = 3) :
  Calls Tryz.prog 38 #[v] w fun e w' => ∃ A c, e = .returned (.tuple #[.agg #[.string ⟨#[]⟩, .slice A 0 c], .bool false]) ∧ Below w.heap.size w w' := by
 have e1 : pendR m = (⟨ByteArray.empty, []⟩, false) := by unfold pendR; rw [if_neg (by omega)]
 refine (mpending_any m v w h).mono ?_
 rintro e w' ⟨rv, rfl, hr, hb⟩
 rw [e1] at hr ⊢
 obtain ⟨av, rfl, hav⟩ := hr
 obtain ⟨A, cap, vs, rfl, _⟩ := hav.at
 exact ⟨A, cap, rfl, hb⟩
attribute [local go_sem] cell_alloc_is
set_option maxHeartbeats 8000000 in
theorem serve_ok (gF gI : Nat) (v f : Value) (w : World) (h : CodeAt w gF gI) (hm : MachV w v (m1 vd 100)) (hl : vd.length ≤ 50) :
  Calls Tryz.prog 22 #[.agg #[.slice (some ⟨gF, 0, none⟩) 1 1, .slice (some ⟨gI, 0, none⟩) 2 2], v, f] w fun e w' => ∃ x, e = .returned x ∧ OMach w' w.heap.size x (m3 vd) ∧ Below w.heap.size w w' := by
 obtain ⟨P, hP⟩ : ∃ P : Ending → World → Prop, (fun e w' => ∃ x, e = .returned x ∧ OMach w' w.heap.size x (m3 vd) ∧ Below w.heap.size w w') = P := ⟨_, rfl⟩
 rw [hP]
 have HP := Lib.hid hP
 obtain ⟨A1, n1, k1, A2, n2, k2, A3, n3, k3, rfl⟩ := hm.shape
 replace hm : MachV w (.agg #[.int .i64 1, .int .i64 0, .slice A1 n1 k1, .slice A2 n2 k2, .slice A3 n3 k3, .int .i64 10, .int .i64 100, .int .i64 0, .int .i64 vd.length]) (m1 vd 100) := hm
 dsimp only [m1]
 have HB := Lib.hid (below_3 w (.cells #[.slice (some ⟨gF, 0, none⟩) 1 1, .slice (some ⟨gI, 0, none⟩) 2 2] 41) (.cells #[.int .i64 1, .int .i64 0, .slice A1 n1 k1, .slice A2 n2 k2, .slice A3 n3 k3, .int .i64 10, .int .i64 100, .int .i64 0, .int .i64 vd.length] 61) (.cells #[.int .i64 0, .int .i64 0, .slice none 0 0, .slice none 0 0, .slice none 0 0, .int .i64 0, .int .i64 0, .int .i64 0, .int .i64 0] 61))
 have HC0 := Lib.hid (((Blk.new w 41 #[.slice (some ⟨gF, 0, none⟩) 1 1, .slice (some ⟨gI, 0, none⟩) 2 2]).alloc (.cells #[.int .i64 1, .int .i64 0, .slice A1 n1 k1, .slice A2 n2 k2, .slice A3 n3 k3, .int .i64 10, .int .i64 100, .int .i64 0, .int .i64 vd.length] 61)).alloc (.cells #[.int .i64 0, .int .i64 0, .slice none 0 0, .slice none 0 0, .slice none 0 0, .int .i64 0, .int .i64 0, .int .i64 0, .int .i64 0] 61))
 have HM0 := Lib.hid ((Blk.second w (.cells #[.slice (some ⟨gF, 0, none⟩) 1 1, .slice (some ⟨gI, 0, none⟩) 2 2] 41) 61 #[.int .i64 1, .int .i64 0, .slice A1 n1 k1, .slice A2 n2 k2, .slice A3 n3 k3, .int .i64 10, .int .i64 100, .int .i64 0, .int .i64 vd.length]).alloc (.cells #[.int .i64 0, .int .i64 0, .slice none 0 0, .slice none 0 0, .slice none 0 0, .int .i64 0, .int .i64 0, .int .i64 0, .int .i64 0] 61))
 have HZ0 := Lib.hid (Blk.third w (.cells #[.slice (some ⟨gF, 0, none⟩) 1 1, .slice (some ⟨gI, 0, none⟩) 2 2] 41) (.cells #[.int .i64 1, .int .i64 0, .slice A1 n1 k1, .slice A2 n2 k2, .slice A3 n3 k3, .int .i64 10, .int .i64 100, .int .i64 0, .int .i64 vd.length] 61) 61 #[.int .i64 0, .int .i64 0, .slice none 0 0, .slice none 0 0, .slice none 0 0, .int .i64 0, .int .i64 0, .int .i64 0, .int .i64 0])
 obtain ⟨pk, hpk⟩ : ∃ p : Int, max (vd.length : Int) (2 * (vd.length : Int)) = p := ⟨_, rfl⟩
 have HM3 : Hid (m3 vd = ⟨3, 0, vd, [], [], 10, 100, 2, pk⟩) := Lib.hid (by rw [← hpk]; rfl)
 have HR : Hid (∀ wx, Below w.heap.size w wx → Calls Tryz.prog 37 #[.agg #[.slice (some ⟨gF, 0, none⟩) 1 1, .slice (some ⟨gI, 0, none⟩) 2 2], .agg #[.int .i64 1, .int .i64 0, .slice A1 n1 k1, .slice A2 n2 k2, .slice A3 n3 k3, .int .i64 10, .int .i64 100, .int .i64 0, .int .i64 vd.length], .int .i64 20001] wx fun e w' => ∃ x, e = .returned x ∧ OMach w' wx.heap.size x ⟨3, 0, vd, [], [], 10, 100, 2, pk⟩ ∧ Below wx.heap.size wx w') := Lib.hid fun wx hb => by rw [← hpk]; exact run_five gF gI _ wx (h.below hb) (hm.below hb) hl
 have HL := Lib.hid hl
 clear hP h hm hl hpk
 have x := blk2 HC0.out
 have y := blk9 HM0.out
 go_enter Tryz.func22, Tryz.ntmps22
 go_wp2_with (fail)
 refine wp_loop_rounds 1 ?_
 rw [rounds_succ]
 go_wp2_with (first
  | (go_at_call 37; (with_reducible refine (HR.out _ HB.out).mono ?_); rintro e w1 ⟨v1, rfl, ho1, hb1⟩; obtain ⟨C1, l1, z1, C2, l2, z2, C3, l3, z3, rfl⟩ := ho1.shape; have HO1 := Lib.hid ho1; have HM1 := Lib.hid (HM0.out.below hb1); have HZ1 := Lib.hid (HZ0.out.below hb1); have HB1 := Lib.hid (below_call hb1 HB.out); clear ho1 hb1 x y)
  | ((refine wpList_store_row rfl 61 (.tmp 4) (.tmp 14) rfl (w.heap.size + 1) #[.int .i64 3, .int .i64 0, .slice C1 l1 z1, .slice C2 l2 z2, .slice C3 l3 z3, .int .i64 10, .int .i64 100, .int .i64 2, .int .i64 pk] rfl rfl 61 _ HM1.out (by kernel_rfl) rfl (by simp [Value.oneCell']) ?_); have HM2 := Lib.hid (HM1.out.setRow (cs' := #[.int .i64 3, .int .i64 0, .slice C1 l1 z1, .slice C2 l2 z2, .slice C3 l3 z3, .int .i64 10, .int .i64 100, .int .i64 2, .int .i64 pk])); have HO2 := Lib.hid (HO1.out.kt (KT.row HM1.out #[.int .i64 3, .int .i64 0, .slice C1 l1 z1, .slice C2 l2 z2, .slice C3 l3 z3, .int .i64 10, .int .i64 100, .int .i64 2, .int .i64 pk])); have HB2 := Lib.hid (below_setRow HB1.out (show w.heap.size ≤ w.heap.size + 1 by omega) #[.int .i64 3, .int .i64 0, .slice C1 l1 z1, .slice C2 l2 z2, .slice C3 l3 z3, .int .i64 10, .int .i64 100, .int .i64 2, .int .i64 pk]); have HZ2 := Lib.hid (HZ1.out.row_far (cs' := #[.int .i64 3, .int .i64 0, .slice C1 l1 z1, .slice C2 l2 z2, .slice C3 l3 z3, .int .i64 10, .int .i64 100, .int .i64 2, .int .i64 pk]) (show w.heap.size + 1 + 1 ≠ w.heap.size + 1 by omega)); obtain ⟨w2, hw2⟩ : ∃ w2, w1.setRow (w.heap.size + 1) #[.int .i64 3, .int .i64 0, .slice C1 l1 z1, .slice C2 l2 z2, .slice C3 l3 z3, .int .i64 10, .int .i64 100, .int .i64 2, .int .i64 pk] = w2 := ⟨_, rfl⟩; rw [hw2] at HM2 HO2 HB2 HZ2; (try rw [hw2]); clear hw2; have hmv : MachV w2 (.agg #[.int .i64 3, .int .i64 0, .slice C1 l1 z1, .slice C2 l2 z2, .slice C3 l3 z3, .int .i64 10, .int .i64 100, .int .i64 2, .int .i64 pk]) ⟨3, 0, vd, [], [], 10, 100, 2, pk⟩ := mach_none HO2.out (by have := HL.out; omega); have HMV := Lib.hid hmv; have HP2 := Lib.hid (pend_none hmv rfl); have y := blk9 HM2.out; clear hmv)
  | (go_at_call 38; (refine HP2.out.mono ?_); rintro e w3 ⟨A9, c9, rfl, hb3⟩; have HM3' := Lib.hid (HM2.out.below hb3); have HZ3 := Lib.hid (HZ2.out.below hb3); have HB3 := Lib.hid (below_call' hb3 HB2.out HB2.out.size); have HMV3 := Lib.hid (HMV.out.below hb3); have y3 := blk9 HM3'.out; have HO3 := Lib.hid (HO2.out.kt (KT.of_below hb3)); clear hb3 y)
  | (refine wpList_store_row rfl 61 (.tmp 6) (.tmp 22) rfl (w.heap.size + 1 + 1) #[.int .i64 3, .int .i64 0, .slice C1 l1 z1, .slice C2 l2 z2, .slice C3 l3 z3, .int .i64 10, .int .i64 100, .int .i64 2, .int .i64 pk] rfl rfl 61 _ (HZ3.out.alloc _) (by kernel_rfl) rfl (by simp [Value.oneCell']) ?_))
 have HB4 := Lib.hid (below_setRow (HB3.out.alloc HB3.out.size (.cells #[.string ⟨#[]⟩, .slice A9 0 c9] 66)) (show w.heap.size ≤ w.heap.size + 1 + 1 by omega) #[.int .i64 3, .int .i64 0, .slice C1 l1 z1, .slice C2 l2 z2, .slice C3 l3 z3, .int .i64 10, .int .i64 100, .int .i64 2, .int .i64 pk])
 have HO4 := Lib.hid ((HO3.out.kt (KT.of_below (below_new w3 (.cells #[.string ⟨#[]⟩, .slice A9 0 c9] 66)))).kt (KT.row (HZ3.out.alloc (.cells #[.string ⟨#[]⟩, .slice A9 0 c9] 66)) #[.int .i64 3, .int .i64 0, .slice C1 l1 z1, .slice C2 l2 z2, .slice C3 l3 z3, .int .i64 10, .int .i64 100, .int .i64 2, .int .i64 pk]))
 have gz := blk9 ((HZ3.out.alloc (.cells #[.string ⟨#[]⟩, .slice A9 0 c9] 66)).setRow (cs' := #[.int .i64 3, .int .i64 0, .slice C1 l1 z1, .slice C2 l2 z2, .slice C3 l3 z3, .int .i64 10, .int .i64 100, .int .i64 2, .int .i64 pk]))
 obtain ⟨w5, hw5⟩ : ∃ w5, (w3.alloc (.cells #[.string ⟨#[]⟩, .slice A9 0 c9] 66)).setRow (w.heap.size + 1 + 1) #[.int .i64 3, .int .i64 0, .slice C1 l1 z1, .slice C2 l2 z2, .slice C3 l3 z3, .int .i64 10, .int .i64 100, .int .i64 2, .int .i64 pk] = w5 := ⟨_, rfl⟩
 rw [hw5] at HB4 HO4 gz
 try rw [hw5]
 clear hw5
 refine bodyPost_ret (v := .agg #[.int .i64 3, .int .i64 0, .slice C1 l1 z1, .slice C2 l2 z2, .slice C3 l3 z3, .int .i64 10, .int .i64 100, .int .i64 2, .int .i64 pk]) (by simp [results, Tryz.results22, go_sem, gz]) rfl ?_
 rw [← HP.out, HM3.out]
 exact ⟨_, rfl, HO4.out.base (by simp <;> omega), HB4.out⟩
end Go.Proofs.YtahcjgjigbedoaaGreatDoor
