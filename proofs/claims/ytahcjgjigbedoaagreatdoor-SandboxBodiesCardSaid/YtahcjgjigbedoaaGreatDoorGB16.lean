/- The law wakes: Replay at the example's code and event. The law wakes. The law SandboxBodies answers true. -/
import Derived.Test.YtahcjgjigbedoaaGreatDoorGB8
import Derived.Test.YtahcjgjigbedoaaGreatDoorB12
import Derived.Test.YtahcjgjigbedoaaGreatDoorGB13
import Derived.Test.YtahcjgjigbedoaaGreatDoorGB9
import Derived.Test.YtahcjgjigbedoaaGreatDoorGB10
set_option linter.unusedVariables false
set_option linter.unusedSimpArgs false
namespace Go.Proofs.YtahcjgjigbedoaaGreatDoor
open Go.RowKit
set_option maxRecDepth 100000
/-- The five boxes of the call. -/
structure RpSt (w W : World) (gF gI : Nat) (UA : Option Addr) (un uc : Nat) : Prop where
 c : Blk W w.heap.size 41 #[.slice (some ⟨gF, 0, none⟩) 1 1, .slice (some ⟨gI, 0, none⟩) 2 2]
 e : Blk W (w.heap.size + 1) 24 #[.string ⟨#[101]⟩, .string ⟨#[116]⟩, .string ⟨#[115]⟩, .string ⟨#[107]⟩, .int .i64 5, .string ⟨#[]⟩, .slice UA un uc]
 l : Blk W (w.heap.size + 1 + 1) 44 #[.int .i64 10, .int .i64 100]
 o : Blk W (w.heap.size + 1 + 1 + 1 + 1) 35 #[.bool false, .int .i64 0, .slice none 0 0, .slice none 0 0]
 co : CodeAt W gF gI
 sh : Shaped W
 pw : Pow W
 ev : EvV W (.agg #[.string ⟨#[101]⟩, .string ⟨#[116]⟩, .string ⟨#[115]⟩, .string ⟨#[107]⟩, .int .i64 5, .string ⟨#[]⟩, .slice UA un uc]) evE
 bel : Below w.heap.size w W
theorem RpSt.below {w W W' : World} {gF gI : Nat} {UA : Option Addr} {un uc : Nat} (h : RpSt w W gF gI UA un uc) (hb : Below W.heap.size W W') : RpSt w W' gF gI UA un uc :=
 ⟨h.c.below hb, h.e.below hb, h.l.below hb, h.o.below hb, h.co.below hb, h.sh.below hb, h.pw.below hb, h.ev.below hb, below_call' hb h.bel h.bel.size⟩
theorem RpSt.cells {w W : World} {gF gI : Nat} {UA : Option Addr} {un uc : Nat} (h : RpSt w W gF gI UA un uc) :
  W.cell? ⟨w.heap.size, 0, none⟩ = some (.slice (some ⟨gF, 0, none⟩) 1 1) ∧ W.cell? ⟨w.heap.size, 1, none⟩ = some (.slice (some ⟨gI, 0, none⟩) 2 2) ∧
  W.cell? ⟨w.heap.size + 1, 0, none⟩ = some (.string ⟨#[101]⟩) ∧ W.cell? ⟨w.heap.size + 1, 1, none⟩ = some (.string ⟨#[116]⟩) ∧ W.cell? ⟨w.heap.size + 1, 2, none⟩ = some (.string ⟨#[115]⟩) ∧ W.cell? ⟨w.heap.size + 1, 3, none⟩ = some (.string ⟨#[107]⟩) ∧ W.cell? ⟨w.heap.size + 1, 4, none⟩ = some (.int .i64 5) ∧ W.cell? ⟨w.heap.size + 1, 5, none⟩ = some (.string ⟨#[]⟩) ∧ W.cell? ⟨w.heap.size + 1, 6, none⟩ = some (.slice UA un uc) ∧
  W.cell? ⟨w.heap.size + 1 + 1, 0, none⟩ = some (.int .i64 10) ∧ W.cell? ⟨w.heap.size + 1 + 1, 1, none⟩ = some (.int .i64 100) :=
 have a := blk2 h.c
 have b := blk7 h.e
 have c := blk2 h.l
 ⟨a.1, a.2, b.1, b.2.1, b.2.2.1, b.2.2.2.1, b.2.2.2.2.1, b.2.2.2.2.2.1, b.2.2.2.2.2.2, c.1, c.2⟩
theorem Blk.al {w : World} {g : Nat} {t : TypeId} {cs : Array Value} (h : Blk w g t cs) (o : Obj) : Blk (w.alloc o) g t cs := h.alloc o
attribute [local go_sem] cell_alloc_is
set_option maxHeartbeats 16000000 in
theorem replay_ok (gF gI : Nat) (v : Value) (w : World) (h : CodeAt w gF gI) (hev : EvV w v evE) (hs : Shaped w) (hp : Pow w) :
  Calls Tryz.prog 11 #[.agg #[.slice (some ⟨gF, 0, none⟩) 1 1, .slice (some ⟨gI, 0, none⟩) 2 2], v, .agg #[.int .i64 10, .int .i64 100], .slice none 0 0] w
   fun e w' => ∃ A4 n4 k4 A6 n6 k6, e = .returned (.tuple #[.agg #[.bool true, .int .i64 0, .slice A4 n4 k4, .slice A6 n6 k6], .int .i64 0]) ∧ OVal w' w.heap.size (.slice A4 n4 k4) vdE ∧ Below w.heap.size w w' := by
 obtain ⟨P, hP⟩ : ∃ P : Ending → World → Prop, (fun e w' => ∃ A4 n4 k4 A6 n6 k6, e = .returned (.tuple #[.agg #[.bool true, .int .i64 0, .slice A4 n4 k4, .slice A6 n6 k6], .int .i64 0]) ∧ OVal w' w.heap.size (.slice A4 n4 k4) vdE ∧ Below w.heap.size w w') = P := ⟨_, rfl⟩
 rw [hP]
 have HP := Lib.hid hP
 have hev0 := hev
 obtain ⟨u, rfl, hu⟩ := hev
 obtain ⟨UA, un, uc, rfl⟩ := hu.shape
 dsimp only [evE] at hev0 hu ⊢
 obtain ⟨W, hW⟩ : ∃ W, ((((w.alloc (.cells #[.slice (some ⟨gF, 0, none⟩) 1 1, .slice (some ⟨gI, 0, none⟩) 2 2] 41)).alloc (.cells #[.string ⟨#[101]⟩, .string ⟨#[116]⟩, .string ⟨#[115]⟩, .string ⟨#[107]⟩, .int .i64 5, .string ⟨#[]⟩, .slice UA un uc] 24)).alloc (.cells #[.int .i64 10, .int .i64 100] 44)).alloc (.cells #[.slice none 0 0] 55)).alloc (.cells #[.bool false, .int .i64 0, .slice none 0 0, .slice none 0 0] 35) = W := ⟨_, rfl⟩
 have hB : Below w.heap.size w W := by
  rw [← hW]
  exact Below.al (Below.al (Below.al (Below.al (below_new _ _) _) _) _) _
 have hR : RpSt w W gF gI UA un uc := by
  refine ⟨?_, ?_, ?_, ?_, h.below hB, hs.below hB, hp.below hB, hev0.below hB, hB⟩
  ·rw [← hW]; exact ((((Blk.new w _ _).al _).al _).al _).al _
  ·rw [← hW]; exact (((Blk.new' (by simp)).al _).al _).al _
  ·rw [← hW]; exact ((Blk.new' (by simp)).al _).al _
  ·rw [← hW]; exact Blk.new' (by simp)
 have HR := Lib.hid hR
 have HBD : Hid (∀ wx, RpSt w wx gF gI UA un uc → Calls Tryz.prog 6 #[.agg #[.string ⟨#[101]⟩, .string ⟨#[116]⟩, .string ⟨#[115]⟩, .string ⟨#[107]⟩, .int .i64 5, .string ⟨#[]⟩, .slice UA un uc]] wx fun e w' => ∃ A c, e = .returned (.tuple #[.slice A vdE.length c, .int .i64 0]) ∧ ValV w' (.slice A vdE.length c) vdE ∧ Below wx.heap.size wx w') := Lib.hid fun wx hx => by
  refine (cbody_any evE _ wx hx.ev hx.pw evE_small).mono ?_
  rintro e w' ⟨u, rfl, hu, _, hb⟩
  rw [body_evE] at hu ⊢
  obtain ⟨A, cap, rfl, _⟩ := hu.at
  exact ⟨A, cap, rfl, hu, hb⟩
 have x := hR.cells
 clear hB hR h hev0 hs hp hu hP
 go_enter Tryz.func11, Tryz.ntmps11
 go_upto_region 1 with fail
 try rw [hW]
 clear hW
 go_upto_region 7 with (first
  | (go_at_call 20; ((with_reducible refine (check_ok gF gI _ HR.out.co HR.out.sh).mono ?_); rintro e w1 ⟨rfl, hb1⟩; have HR := Lib.hid (HR.out.below hb1); clear hb1 x; have x := HR.out.cells))
  | (go_at_call 6; ((with_reducible refine (HBD.out _ HR.out).mono ?_); rintro e w1 ⟨A, c, rfl, hu1, hb1⟩; have HR := Lib.hid (HR.out.below hb1); have HU := Lib.hid hu1; clear hb1 x hu1; have x := HR.out.cells)))
 have HST : Hid (Calls Tryz.prog 21 #[.agg #[.slice (some ⟨gF, 0, none⟩) 1 1, .slice (some ⟨gI, 0, none⟩) 2 2], .slice A vdE.length c, .agg #[.int .i64 10, .int .i64 100]] w1 fun e w' => ∃ A1 n1 k1 A2 n2 k2 A3 n3 k3, e = .returned (.tuple #[.agg #[.int .i64 1, .int .i64 0, .slice A1 n1 k1, .slice A2 n2 k2, .slice A3 n3 k3, .int .i64 10, .int .i64 100, .int .i64 0, .int .i64 vdE.length], .int .i64 0]) ∧ MachV w' (.agg #[.int .i64 1, .int .i64 0, .slice A1 n1 k1, .slice A2 n2 k2, .slice A3 n3 k3, .int .i64 10, .int .i64 100, .int .i64 0, .int .i64 vdE.length]) (m1 vdE 100) ∧ Below w1.heap.size w1 w') := Lib.hid (by
  refine (start_ok (vd := vdE) gF gI A c 100 w1 HR.out.co HR.out.sh HU.out vdE_check HR.out.pw vdE_okV (by rw [vdE_len]; decide) (by decide) (by decide)).mono ?_
  rintro e w' ⟨x, rfl, hm, hb⟩
  obtain ⟨A1, n1, k1, A2, n2, k2, A3, n3, k3, rfl⟩ := hm.shape
  exact ⟨A1, n1, k1, A2, n2, k2, A3, n3, k3, rfl, hm, hb⟩)
 go_upto_region 11 with (first
  | (go_at_call 21; ((with_reducible refine HST.out.mono ?_); rintro e w2 ⟨A1, n1, k1, A2, n2, k2, A3, n3, k3, rfl, hm, hb1⟩; have HR := Lib.hid (HR.out.below hb1); have HR0 := HR; have HM := Lib.hid hm; clear hb1 x hm HST; have x := HR.out.cells)))
 have HGM := Lib.hid ((Blk.new w2 61 #[.int .i64 1, .int .i64 0, .slice A1 n1 k1, .slice A2 n2 k2, .slice A3 n3 k3, .int .i64 10, .int .i64 100, .int .i64 0, .int .i64 vdE.length]).alloc (.cells #[.int .i64 0] 3))
 have HR := Lib.hid (HR.out.below (below_2 w2 (.cells #[.int .i64 1, .int .i64 0, .slice A1 n1 k1, .slice A2 n2 k2, .slice A3 n3 k3, .int .i64 10, .int .i64 100, .int .i64 0, .int .i64 vdE.length] 61) (.cells #[.int .i64 0] 3)))
 have HM := Lib.hid (HM.out.below (below_2 w2 (.cells #[.int .i64 1, .int .i64 0, .slice A1 n1 k1, .slice A2 n2 k2, .slice A3 n3 k3, .int .i64 10, .int .i64 100, .int .i64 0, .int .i64 vdE.length] 61) (.cells #[.int .i64 0] 3)))
 have hgm : w.heap.size + 1 + 1 + 1 + 1 < w2.heap.size := lt_of_block HR0.out.o
 obtain ⟨W3, hW3⟩ : ∃ W3, (w2.alloc (.cells #[.int .i64 1, .int .i64 0, .slice A1 n1 k1, .slice A2 n2 k2, .slice A3 n3 k3, .int .i64 10, .int .i64 100, .int .i64 0, .int .i64 vdE.length] 61)).alloc (.cells #[.int .i64 0] 3) = W3 := ⟨_, rfl⟩
 obtain ⟨gM, hgM⟩ : ∃ g, w2.heap.size = g := ⟨_, rfl⟩
 rw [hW3, hgM] at HGM
 rw [hW3] at HR HM
 rw [hgM] at hgm
 rw [hW3, hgM]
 have HGL := Lib.hid hgm
 clear hW3 hgM hgm x HR0
 obtain ⟨pk, hpk⟩ : ∃ p : Int, max (vdE.length : Int) (2 * (vdE.length : Int)) = p := ⟨_, rfl⟩
 have HSV : Hid (∀ f, Calls Tryz.prog 22 #[.agg #[.slice (some ⟨gF, 0, none⟩) 1 1, .slice (some ⟨gI, 0, none⟩) 2 2], .agg #[.int .i64 1, .int .i64 0, .slice A1 n1 k1, .slice A2 n2 k2, .slice A3 n3 k3, .int .i64 10, .int .i64 100, .int .i64 0, .int .i64 vdE.length], f] W3 fun e w' => ∃ C1 l1 z1 C2 l2 z2 C3 l3 z3, e = .returned (.agg #[.int .i64 3, .int .i64 0, .slice C1 l1 z1, .slice C2 l2 z2, .slice C3 l3 z3, .int .i64 10, .int .i64 100, .int .i64 2, .int .i64 pk]) ∧ OMach w' W3.heap.size (.agg #[.int .i64 3, .int .i64 0, .slice C1 l1 z1, .slice C2 l2 z2, .slice C3 l3 z3, .int .i64 10, .int .i64 100, .int .i64 2, .int .i64 pk]) ⟨3, 0, vdE, [], [], 10, 100, 2, pk⟩ ∧ Below W3.heap.size W3 w') := Lib.hid fun f => by
  refine (serve_ok gF gI _ f W3 HR.out.co HM.out (by rw [vdE_len]; decide)).mono ?_
  rintro e w' ⟨x, rfl, hm, hb⟩
  unfold m3 at hm
  rw [hpk] at hm
  obtain ⟨C1, l1, z1, C2, l2, z2, C3, l3, z3, rfl⟩ := hm.shape
  exact ⟨C1, l1, z1, C2, l2, z2, C3, l3, z3, rfl, hm, hb⟩
 clear hpk
 have x := HR.out.cells
 have y := blk9 HGM.out
 go_wp2_with (first
  | (go_at_call 22; ((refine (HSV.out _).mono ?_); rintro e w4 ⟨C1, l1, z1, C2, l2, z2, C3, l3, z3, rfl, hm, hb1⟩; have HR4 := Lib.hid (HR.out.below hb1); have HM4 := Lib.hid hm; have HG4 := Lib.hid (HGM.out.below hb1); clear hb1 x y hm HSV))
  | ((refine wpList_store_row rfl 61 (.tmp 14) (.tmp 48) rfl gM #[.int .i64 3, .int .i64 0, .slice C1 l1 z1, .slice C2 l2 z2, .slice C3 l3 z3, .int .i64 10, .int .i64 100, .int .i64 2, .int .i64 pk] rfl rfl 61 _ HG4.out (by kernel_rfl) rfl (by simp [Value.oneCell']) ?_); have HG5 := Lib.hid (HG4.out.setRow (cs' := #[.int .i64 3, .int .i64 0, .slice C1 l1 z1, .slice C2 l2 z2, .slice C3 l3 z3, .int .i64 10, .int .i64 100, .int .i64 2, .int .i64 pk])); have HM5 := Lib.hid (HM4.out.kt (KT.row HG4.out #[.int .i64 3, .int .i64 0, .slice C1 l1 z1, .slice C2 l2 z2, .slice C3 l3 z3, .int .i64 10, .int .i64 100, .int .i64 2, .int .i64 pk])); have HO5 := Lib.hid ((KT.row HG4.out #[.int .i64 3, .int .i64 0, .slice C1 l1 z1, .slice C2 l2 z2, .slice C3 l3 z3, .int .i64 10, .int .i64 100, .int .i64 2, .int .i64 pk]).blk (by decide) HR4.out.o); have HB5 := Lib.hid (below_setRow HR4.out.bel (Nat.le_trans (by omega) (Nat.le_of_lt HGL.out)) #[.int .i64 3, .int .i64 0, .slice C1 l1 z1, .slice C2 l2 z2, .slice C3 l3 z3, .int .i64 10, .int .i64 100, .int .i64 2, .int .i64 pk]); obtain ⟨w5, hw5⟩ : ∃ w5, w4.setRow gM #[.int .i64 3, .int .i64 0, .slice C1 l1 z1, .slice C2 l2 z2, .slice C3 l3 z3, .int .i64 10, .int .i64 100, .int .i64 2, .int .i64 pk] = w5 := ⟨_, rfl⟩; rw [hw5] at HG5 HM5 HO5 HB5; (try rw [hw5]); clear hw5; have HOC := Lib.hid (outcome_done _ _ w5 (mach_none HM5.out (by rw [vdE_len]; decide)) rfl (by simp) (by simp)); have y := blk9 HG5.out)
  | (go_at_call 24; ((refine HOC.out.mono ?_); rintro e w6 ⟨A4, n4, k4, A6, n6, k6, rfl, ho6, hb1⟩; have HO6 := Lib.hid (HO5.out.below hb1); have HV6 := Lib.hid ho6; have HB6 := Lib.hid (below_call' hb1 HB5.out HB5.out.size); clear hb1 y ho6))
  | (refine wpList_store_row rfl 35 (.tmp 8) (.tmp 50) rfl (w.heap.size + 1 + 1 + 1 + 1) #[.bool true, .int .i64 0, .slice A4 n4 k4, .slice A6 n6 k6] rfl rfl 35 _ HO6.out (by kernel_rfl) rfl (by simp [Value.oneCell']) ?_))
 have gz := blk4 (HO6.out.setRow (cs' := #[.bool true, .int .i64 0, .slice A4 n4 k4, .slice A6 n6 k6]))
 have HV7 := Lib.hid ((KT.row HO6.out #[.bool true, .int .i64 0, .slice A4 n4 k4, .slice A6 n6 k6]).oval (by decide) HV6.out)
 have HB7 := Lib.hid (below_setRow HB6.out (show w.heap.size ≤ w.heap.size + 1 + 1 + 1 + 1 by omega) #[.bool true, .int .i64 0, .slice A4 n4 k4, .slice A6 n6 k6])
 obtain ⟨w7, hw7⟩ : ∃ w7, w6.setRow (w.heap.size + 1 + 1 + 1 + 1) #[.bool true, .int .i64 0, .slice A4 n4 k4, .slice A6 n6 k6] = w7 := ⟨_, rfl⟩
 rw [hw7] at gz HV7 HB7
 try rw [hw7]
 clear hw7
 refine bodyPost_ret (v := .tuple #[.agg #[.bool true, .int .i64 0, .slice A4 n4 k4, .slice A6 n6 k6], .int .i64 0]) (by simp [results, Tryz.results11, go_sem, gz]) rfl ?_
 rw [← HP.out]
 exact ⟨A4, n4, k4, A6, n6, k6, rfl, HV7.out.base HB5.out.size, HB7.out⟩
end Go.Proofs.YtahcjgjigbedoaaGreatDoor
namespace Go.Proofs.YtahcjgjigbedoaaGreatDoor
open Go.RowKit
set_option maxRecDepth 100000
attribute [local go_sem] cell_alloc_is
set_option maxHeartbeats 16000000 in
theorem awake36_ok (w : World) (hs : Shaped w) (hp : Pow w) : Calls Tryz.prog 5 #[] w fun e w' => e = .returned (.bool true) ∧ Below w.heap.size w w' := by
 obtain ⟨P, hP⟩ : ∃ P : Ending → World → Prop, (fun e w' => e = .returned (.bool true) ∧ Below w.heap.size w w') = P := ⟨_, rfl⟩
 rw [hP]
 have HP := Lib.hid hP
 have HS := Lib.hid hs
 have HW := Lib.hid hp
 have HEV : Hid (∀ wx, Calls Tryz.prog 10 #[] wx fun e w' => ∃ u, e = .returned u ∧ EvV w' u evE ∧ Below wx.heap.size wx w') := Lib.hid event36_any
 have HCD : Hid (∀ wx, Calls Tryz.prog 12 #[] wx fun e w' => ∃ gF gI, e = .returned (.agg #[.slice (some ⟨gF, 0, none⟩) 1 1, .slice (some ⟨gI, 0, none⟩) 2 2]) ∧ CodeAt w' gF gI ∧ Below wx.heap.size wx w') := Lib.hid code36_any
 have HBD : Hid (∀ wx u, Below w.heap.size w wx → EvV wx u evE → Calls Tryz.prog 6 #[u] wx fun e w' => ∃ b off c, e = .returned (.tuple #[.slice (some ⟨b, off, none⟩) 9 c, .int .i64 0]) ∧ ValV w' (.slice (some ⟨b, off, none⟩) 9 c) vdE ∧ w'.cell? ⟨b, off, none⟩ = some (.int .i64 6) ∧ Below wx.heap.size wx w') := Lib.hid fun wx u hb hx => by
  refine (cbody_any evE _ wx hx (hp.below hb) evE_small).mono ?_
  rintro e w' ⟨u, rfl, hu, _, hb⟩
  rw [body_evE] at hu ⊢
  have hu0 := hu
  obtain ⟨A, cap, rfl, hc, hm, hsl⟩ := hu.at
  obtain ⟨b, off, rfl, _⟩ := hsl.ptr (n := 0) (by rw [vdE_len]; decide)
  have := hsl.cell0 (n := 0) (by rw [vdE_len]; decide) (v := .int .i64 6) rfl
  simp only [Nat.zero_mul, Nat.add_zero] at this
  exact ⟨b, off, cap, rfl, hu0, this, hb⟩
 have HRP : Hid (∀ wx u gF gI, Below w.heap.size w wx → CodeAt wx gF gI → EvV wx u evE → Calls Tryz.prog 11 #[.agg #[.slice (some ⟨gF, 0, none⟩) 1 1, .slice (some ⟨gI, 0, none⟩) 2 2], u, .agg #[.int .i64 10, .int .i64 100], .slice none 0 0] wx
   fun e w' => ∃ A4 n4 k4 A6 n6 k6, e = .returned (.tuple #[.agg #[.bool true, .int .i64 0, .slice A4 n4 k4, .slice A6 n6 k6], .int .i64 0]) ∧ ValV w' (.slice A4 n4 k4) vdE ∧ Below wx.heap.size wx w') := Lib.hid fun wx u gF gI hb hc hx => by
  refine (replay_ok gF gI u wx hc hx (hs.below hb) (hp.below hb)).mono ?_
  rintro e w' ⟨A4, n4, k4, A6, n6, k6, rfl, ho, hb⟩
  exact ⟨A4, n4, k4, A6, n6, k6, rfl, ho.val (by rw [vdE_len]; decide), hb⟩
 have HSM : Hid (∀ wx a b, ValV wx a vdE → ValV wx b vdE → Calls Tryz.prog 8 #[a, b] wx fun e w' => e = .returned (.bool true) ∧ ∃ q, w' = wx.drewN q) := Lib.hid fun wx a b ha hb => by
  have := same6_any vdE vdE a b wx ha hb
  rwa [show eqV vdE vdE = true by simp [eqV]] at this
 have HB := Lib.hid (Below.refl w.heap.size w)
 clear hP hs hp
 go_enter Tryz.func5, Tryz.ntmps5
 go_upto_region 2 with (first
  | (go_at_call 10; ((with_reducible refine (HEV.out _).mono ?_); rintro e w1 ⟨u1, rfl, he1, hb1⟩; have HE1 := Lib.hid he1; have HB := Lib.hid (below_call' hb1 HB.out HB.out.size); clear hb1 he1))
  | (go_at_call 6; ((with_reducible refine (HBD.out _ _ HB.out HE1.out).mono ?_); rintro e w2 ⟨b, off, c, rfl, hv2, hc2, hb1⟩; have HV2 := Lib.hid hv2; have HC2 := Lib.hid hc2; have HB := Lib.hid (below_call' hb1 HB.out HB.out.size); clear hb1 hv2 hc2)))
 go_upto_region 3 with (first
  | (go_at_call 12; ((with_reducible refine (HCD.out _).mono ?_); rintro e w3 ⟨gF, gI, rfl, hcd, hb1⟩; have HD3 := Lib.hid hcd; have HV3 := Lib.hid (HV2.out.below hb1); have HC3 := Lib.hid ((hb1.cell (p := ⟨b, off, none⟩) (World.block_lt_of_cell? _ _ HC2.out)).trans HC2.out); have HB := Lib.hid (below_call' hb1 HB.out HB.out.size); clear hb1 hcd))
  | (go_at_call 10; ((with_reducible refine (HEV.out _).mono ?_); rintro e w4 ⟨u4, rfl, he4, hb1⟩; have HE4 := Lib.hid he4; have HD4 := Lib.hid (HD3.out.below hb1); have HV4 := Lib.hid (HV3.out.below hb1); have HC4 := Lib.hid ((hb1.cell (p := ⟨b, off, none⟩) (World.block_lt_of_cell? _ _ HC3.out)).trans HC3.out); have HB := Lib.hid (below_call' hb1 HB.out HB.out.size); clear hb1 he4))
  | (go_at_call 11; ((with_reducible refine (HRP.out _ _ _ _ HB.out HD4.out HE4.out).mono ?_); rintro e w5 ⟨A4, n4, k4, A6, n6, k6, rfl, ho5, hb1⟩; have HO5 := Lib.hid ho5; have HV5 := Lib.hid (HV4.out.below hb1); have HC5 := Lib.hid ((hb1.cell (p := ⟨b, off, none⟩) (World.block_lt_of_cell? _ _ HC4.out)).trans HC4.out); have HB := Lib.hid (below_call' hb1 HB.out HB.out.size); clear hb1 ho5)))
 have hx6 := blk4 (Blk.new w5 35 #[.bool true, .int .i64 0, .slice A4 n4 k4, .slice A6 n6 k6])
 have hc6 := HC5.out
 go_wp2_with (first
  | (go_at_call 8; ((refine (HSM.out _ _ _ (HO5.out.below (below_new _ _)) (HV5.out.below (below_new _ _))).mono ?_); rintro e w6 ⟨rfl, q6, rfl⟩)))
 rw [← HP.out]
 exact ⟨rfl, below_drewN (HB.out.alloc HB.out.size _) _⟩
end Go.Proofs.YtahcjgjigbedoaaGreatDoor
namespace Go.Proofs.YtahcjgjigbedoaaGreatDoor
open Go.RowKit
set_option maxRecDepth 100000
attribute [local go_sem] cell_alloc_is
set_option maxHeartbeats 16000000 in
theorem bodies_any (ev : EvD) (v : Value) (w : World) (hs : Shaped w) (hp : Pow w) (h : EvV w v ev) (hvs : ∀ c ∈ ev.body, c.str.size ≤ 140737488351232) (hvi : ∀ c ∈ ev.body, (-9223372036854775808 ≤ c.int ∧ c.int ≤ 9223372036854775807) ∧ c.n ≤ 9223372036854775807) :
  Calls Tryz.prog 3 #[v] w fun e w' => e = .returned (.bool true) ∧ Below w.heap.size w w' := by
 obtain ⟨P, hP⟩ : ∃ P : Ending → World → Prop, (fun e w' => e = .returned (.bool true) ∧ Below w.heap.size w w') = P := ⟨_, rfl⟩
 rw [hP]
 have HP := Lib.hid hP
 have HLI : Hid (∀ wx, Below w.heap.size w wx → Calls Tryz.prog 4 #[v] wx fun e w' => (∃ b, e = .returned (.bool b) ∧ (b = true → light36 ev)) ∧ Below wx.heap.size wx w') := Lib.hid fun wx hb => light_any ev v wx (h.below hb) hvs
 have HAW : Hid (∀ wx, Below w.heap.size w wx → Calls Tryz.prog 5 #[] wx fun e w' => e = .returned (.bool true) ∧ Below wx.heap.size wx w') := Lib.hid fun wx hb => awake36_ok wx (hs.below hb) (hp.below hb)
 have hsm : light36 ev → EvSmall ev := fun h => by
  obtain ⟨a, b, c, d, e, f, g⟩ := h
  exact ⟨by omega, by omega, by omega, by omega, by omega, by omega, fun c hc => ⟨by have := g c hc; omega, (hvi c hc).1, (hvi c hc).2⟩⟩
 have HB1 : Hid (light36 ev → ∀ wx, Below w.heap.size w wx → Calls Tryz.prog 6 #[v] wx (RetR wx [] (bodyR ev))) := Lib.hid fun hl wx hb => cbody_any ev v wx (h.below hb) (hp.below hb) (hsm hl)
 have HB2 : Hid (light36 ev → ∀ wx, Below w.heap.size w wx → Calls Tryz.prog 7 #[v] wx (RetR wx [] (bodyR ev))) := Lib.hid fun hl wx hb => rbody_any ev v wx (h.below hb) (hp.below hb) (hsm hl)
 obtain ⟨R, hR⟩ : ∃ R, bodyR ev = R := ⟨_, rfl⟩
 rw [hR] at HB1 HB2
 obtain ⟨r1, r2⟩ := R
 have HSM : Hid (∀ wx a b, ValV wx a r1 → ValV wx b r1 → Calls Tryz.prog 8 #[a, b] wx fun e w' => e = .returned (.bool true) ∧ ∃ q, w' = wx.drewN q) := Lib.hid fun wx a b ha hb => by
  have := same6_any r1 r1 a b wx ha hb
  rwa [show eqV r1 r1 = true by simp [eqV]] at this
 obtain ⟨id, tn, so, ky, tm, ca, bd⟩ := ev
 obtain ⟨u, rfl, hu⟩ := h
 obtain ⟨A, n, cap, rfl⟩ := hu.shape
 dsimp only at HLI HB1 HB2 ⊢
 have HX := Lib.hid (Blk.new w 24 #[.string id, .string tn, .string so, .string ky, .int .i64 tm, .string ca, .slice A n cap])
 have HB := Lib.hid (below_new w (.cells #[.string id, .string tn, .string so, .string ky, .int .i64 tm, .string ca, .slice A n cap] 24))
 have x := blk7 HX.out
 clear hP hs hp hvs hvi hsm hR hu
 go_enter Tryz.func3, Tryz.ntmps3
 go_wp2_with (fail)
 refine (HLI.out _ HB.out).mono ?_
 rintro e w1 ⟨⟨b1, rfl, hb1⟩, hw1⟩
 have HL := Lib.hid hb1
 have HX := Lib.hid (HX.out.below hw1)
 have HB := Lib.hid (below_call' hw1 HB.out HB.out.size)
 clear hb1 hw1 x
 have x := blk7 HX.out
 cases b1 with
 | false =>
  go_wp2_with (first
   | (go_at_call 5; ((with_reducible refine (HAW.out _ HB.out).mono ?_); rintro e w2 ⟨rfl, hw2⟩; have HB := Lib.hid (below_call' hw2 HB.out HB.out.size); clear hw2)))
  rw [← HP.out]
  exact ⟨rfl, HB.out⟩
 | true =>
  have HC1 := Lib.hid (HB1.out (HL.out rfl))
  have HC2 := Lib.hid (HB2.out (HL.out rfl))
  clear HB1 HB2 HL
  go_wp2_with (first
   | (go_at_call 6; ((with_reducible refine (HC1.out _ HB.out).mono ?_); rintro e w2 ⟨u2, rfl, hu2, _, hw2⟩; obtain ⟨A2, n2, c2, rfl⟩ := hu2.shape; have HU2 := Lib.hid hu2; have HX := Lib.hid (HX.out.below hw2); have HB := Lib.hid (below_call' hw2 HB.out HB.out.size); clear hw2 hu2 x; have x := blk7 HX.out))
   | (go_at_call 7; ((with_reducible refine (HC2.out _ HB.out).mono ?_); rintro e w3 ⟨u3, rfl, hu3, _, hw3⟩; obtain ⟨A3, n3, c3, rfl⟩ := hu3.shape; have HU3 := Lib.hid hu3; have HU2 := Lib.hid (HU2.out.below hw3); have HB := Lib.hid (below_call' hw3 HB.out HB.out.size); clear hw3 hu3 x))
   | (go_at_call 8; ((refine (HSM.out _ _ _ HU2.out HU3.out).mono ?_); rintro e w4 ⟨rfl, q4, rfl⟩; have HB := Lib.hid (below_drewN HB.out q4)))
   | (go_at_call 5; ((with_reducible refine (HAW.out _ HB.out).mono ?_); rintro e w5 ⟨rfl, hw5⟩; have HB := Lib.hid (below_call' hw5 HB.out HB.out.size); clear hw5)))
  rw [← HP.out]
  exact ⟨rfl, HB.out⟩
end Go.Proofs.YtahcjgjigbedoaaGreatDoor
