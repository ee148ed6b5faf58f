/- The law's alike: both sides say the same of one machine. -/
import Derived.Test.YtemakcaojdoakaaGreatDoorC15
import Derived.Test.YtemakcaojdoakaaGreatDoorC14
import Derived.Test.YtemakcaojdoakaaGreatDoorC13
import Derived.Test.YtemakcaojdoakaaGreatDoorC8
import Derived.Test.YtemakcaojdoakaaGreatDoorC7
namespace Go.Proofs.YtemakcaojdoakaaGreatDoor
open Go.RowKit
set_option maxRecDepth 100000

theorem blk22 {w : World} {g h k l : Nat} {t1 t2 t3 t4 : TypeId} {u0 u1 u2 u3 u4 u5 u6 u7 u8 v0 v1 v2 v3 v4 v5 v6 v7 v8 p0 p1 q0 q1 : Value} (h1 : Blk w g t1 #[u0, u1, u2, u3, u4, u5, u6, u7, u8]) (h2 : Blk w h t2 #[v0, v1, v2, v3, v4, v5, v6, v7, v8]) (h3 : Blk w k t3 #[p0, p1]) (h4 : Blk w l t4 #[q0, q1]) :
    w.cell? ⟨g, 0, none⟩ = some u0 ∧ w.cell? ⟨g, 1, none⟩ = some u1 ∧ w.cell? ⟨g, 2, none⟩ = some u2 ∧ w.cell? ⟨g, 3, none⟩ = some u3 ∧ w.cell? ⟨g, 4, none⟩ = some u4 ∧ w.cell? ⟨g, 5, none⟩ = some u5 ∧ w.cell? ⟨g, 6, none⟩ = some u6 ∧ w.cell? ⟨g, 7, none⟩ = some u7 ∧ w.cell? ⟨g, 8, none⟩ = some u8 ∧ w.cell? ⟨h, 0, none⟩ = some v0 ∧ w.cell? ⟨h, 1, none⟩ = some v1 ∧ w.cell? ⟨h, 2, none⟩ = some v2 ∧ w.cell? ⟨h, 3, none⟩ = some v3 ∧ w.cell? ⟨h, 4, none⟩ = some v4 ∧ w.cell? ⟨h, 5, none⟩ = some v5 ∧ w.cell? ⟨h, 6, none⟩ = some v6 ∧ w.cell? ⟨h, 7, none⟩ = some v7 ∧ w.cell? ⟨h, 8, none⟩ = some v8 ∧ w.cell? ⟨k, 0, none⟩ = some p0 ∧ w.cell? ⟨k, 1, none⟩ = some p1 ∧ w.cell? ⟨l, 0, none⟩ = some q0 ∧ w.cell? ⟨l, 1, none⟩ = some q1 :=
  ⟨h1.cell 0 _ rfl, h1.cell 1 _ rfl, h1.cell 2 _ rfl, h1.cell 3 _ rfl, h1.cell 4 _ rfl, h1.cell 5 _ rfl, h1.cell 6 _ rfl, h1.cell 7 _ rfl, h1.cell 8 _ rfl, h2.cell 0 _ rfl, h2.cell 1 _ rfl, h2.cell 2 _ rfl, h2.cell 3 _ rfl, h2.cell 4 _ rfl, h2.cell 5 _ rfl, h2.cell 6 _ rfl, h2.cell 7 _ rfl, h2.cell 8 _ rfl, h3.cell 0 _ rfl, h3.cell 1 _ rfl, h4.cell 0 _ rfl, h4.cell 1 _ rfl⟩

theorem OutV.shape {w : World} {v : Value} {o : OutD} (h : OutV w v o) : ∃ A1 n1 k1 A2 n2 k2, v = .agg #[.bool o.done, .int .i64 o.err, .slice A1 n1 k1, .slice A2 n2 k2] := by
  obtain ⟨vv, qv, rfl, h1, h3⟩ := h
  obtain ⟨A1, n1, k1, rfl⟩ := h1.shape
  obtain ⟨A2, n2, k2, rfl⟩ := h3.shape
  exact ⟨A1, n1, k1, A2, n2, k2, rfl⟩
theorem ValsV.drew {w : World} {v : Value} {l : List ValD} (h : ValsV w v l) : ValsV w.drew v l := h
theorem reqsOne {w : World} {g : Nat} {t : TypeId} {op : ByteArray} {av : Value} {r : ReqD} (h : Blk w g t #[.string op, av]) (hop : r.op = op) (ha : ValsV w av r.args) : ReqsV w (.slice (some ⟨g, 0, none⟩) 1 1) [r] := by
  refine ⟨_, 1, [[.string op, av]], rfl, by simp, by simp, ?_, rfl, fun i hi hi' => ?_⟩
  · intro i row hr
    have hi : i = 0 := by
      by_cases h0 : i = 0
      · exact h0
      · rw [List.getElem?_eq_none (by simp; omega)] at hr; cases hr
    subst hi
    simp at hr
    subst hr
    refine ⟨g, 0, rfl, lt_of_block h, fun j v hv => ?_⟩
    have := h.cell j v (by rw [← hv, ← Array.getElem?_toList])
    simpa using this
  · have : i = 0 := by simp at hi; omega
    subst this
    exact ⟨av, by simp [hop], ha⟩
theorem reqsOne2 {w : World} {op : ByteArray} {A : Option Addr} {n k : Nat} {o : Obj} {r : ReqD} (ha : ValsV w (.slice A n k) r.args) (hop : r.op = op) :
    ReqsV ((w.alloc (.cells #[.string op, .slice A n k] 39)).alloc o) (.slice (some ⟨w.heap.size, 0, none⟩) 1 1) [r] :=
  reqsOne ((Blk.new w 39 #[.string op, .slice A n k]).alloc o) hop (ha.below (below_2 _ _ _))
theorem reqsOne1 {w : World} {op : ByteArray} {A : Option Addr} {n k : Nat} {o : Obj} {r : ReqD} (ha : ValsV w (.slice A n k) r.args) (hop : r.op = op) :
    ReqsV ((w.alloc o).alloc (.cells #[.string op, .slice A n k] 39)) (.slice (some ⟨w.heap.size + 1, 0, none⟩) 1 1) [r] :=
  reqsOne (Blk.second w o 39 #[.string op, .slice A n k]) hop (ha.below (below_2 _ _ _))
theorem below_two {w0 w : World} (h : Below w0.heap.size w0 w) (o1 o2 : Obj) (q : Nat) : Below w0.heap.size w0 (((w.alloc o1).alloc o2).drewN q) :=
  below_drewN ((h.alloc h.size o1).alloc (Nat.le_trans h.size (by simp)) o2) q
theorem lookedB_smallF {m : MachD} (h : lookedB m = true) : SmallF m.frames := ⟨(lookedB_small h).1, (lookedB_small h).2.2.1⟩

attribute [local go_sem] cell_alloc_is
set_option maxHeartbeats 8000000 in
theorem alike_any (m : MachD) (x y : Value) (w : World) (hx : MachV w x m) (hy : MachV w y m) (hl : lookedB m = true) :
    Calls Tryz.prog 6 #[x, y] w fun e w' => e = .returned (.bool true) ∧ Below w.heap.size w w' := by
  have HF := Lib.hid (lookedB_smallF hl)
  have hls := lookedB_small hl
  have HC8 : Hid (∀ wx, Below w.heap.size w wx → Calls Tryz.prog 8 #[x, y] wx fun e w' => e = .returned (.bool true) ∧ Below wx.heap.size wx w') := Lib.hid (fun wx h => by
    have := rsame_any m m x y wx (hx.below h) (hy.below h); rw [eqM_self] at this; exact this)
  have HC13 : Hid (∀ wx, Below w.heap.size w wx → Calls Tryz.prog 13 #[x] wx fun e w' => e = .returned (.int .i64 (memN m.frames)) ∧ Below wx.heap.size wx w') := Lib.hid (fun wx h => memory_any m x wx (hx.below h) HF.out)
  have HC17 : Hid (∀ wx, Below w.heap.size w wx → Calls Tryz.prog 17 #[y] wx fun e w' => e = .returned (.int .i64 (memN m.frames)) ∧ Below wx.heap.size wx w') := Lib.hid (fun wx h => rmemory_any m y wx (hy.below h) HF.out)
  have HC19 : Hid (∀ wx, Below w.heap.size w wx → Calls Tryz.prog 19 #[x] wx fun e w' => ∃ o1, e = .returned o1 ∧ OutV w' o1 (outR m) ∧ Below wx.heap.size wx w') := Lib.hid (fun wx h => moutcome_any m x wx (hx.below h) (by have := hls.1; omega) (by have := hls.2.1; omega))
  have HC20 : Hid (∀ wx, Below w.heap.size w wx → Calls Tryz.prog 20 #[y] wx fun e w' => ∃ o1, e = .returned o1 ∧ OutV w' o1 (outR m) ∧ Below wx.heap.size wx w') := Lib.hid (fun wx h => routcome_any m y wx (hy.below h))
  have HC18 : Hid (∀ wx, Below w.heap.size w wx → ∀ o1 o2, OutV wx o1 (outR m) → OutV wx o2 (outR m) → Calls Tryz.prog 18 #[o1, o2] wx fun e w' => e = .returned (.bool true) ∧ Below wx.heap.size wx w') := Lib.hid (fun wx _ o1 o2 h1 h2 => osame_any (outR m) o1 o2 wx h1 h2)
  have HC21 : Hid (∀ wx {a b : Value}, ReqsV wx a [(pendR m).1] → ReqsV wx b [(pendR m).1] → Calls Tryz.prog 21 #[a, b] wx fun e w' => e = .returned (.bool true) ∧ ∃ q, w' = wx.drewN q) := Lib.hid (fun wx a b h1 h2 => by
    have := sreq_any [(pendR m).1] [(pendR m).1] a b wx h1 h2; rw [show eqQs [(pendR m).1] [(pendR m).1] = true by simp [eqQs]] at this; exact this)
  have HC15 : Hid (∀ wx, Below w.heap.size w wx → Calls Tryz.prog 15 #[x] wx (PendPost m wx)) := Lib.hid (fun wx h => mpending_any m x wx (hx.below h))
  have HC16 : Hid (∀ wx, Below w.heap.size w wx → Calls Tryz.prog 16 #[y] wx (PendPost m wx)) := Lib.hid (fun wx h => rpending_any m y wx (hy.below h))
  obtain ⟨vv, fv, qv, rfl, hvv, hfv, hqv⟩ := hx
  obtain ⟨vv', fv', qv', rfl, hvv', hfv', hqv'⟩ := hy
  obtain ⟨A1, n1, k1, rfl⟩ := hvv.shape
  obtain ⟨A2, n2, k2, rfl⟩ := hfv.shape
  obtain ⟨A3, n3, k3, rfl⟩ := hqv.shape
  obtain ⟨B1, z1, y1, rfl⟩ := hvv'.shape
  obtain ⟨B2, z2, y2, rfl⟩ := hfv'.shape
  obtain ⟨B3, z3, y3, rfl⟩ := hqv'.shape
  obtain ⟨M, hM⟩ : ∃ M : Int, (memN m.frames : Int) = M := ⟨_, rfl⟩
  rw [hM] at HC13 HC17
  obtain ⟨st, hst⟩ : ∃ x, m.status = x := ⟨_, rfl⟩
  obtain ⟨er, her⟩ : ∃ x, m.err = x := ⟨_, rfl⟩
  obtain ⟨ls, hls'⟩ : ∃ x, m.lsteps = x := ⟨_, rfl⟩
  obtain ⟨lm, hlm⟩ : ∃ x, m.lmem = x := ⟨_, rfl⟩
  obtain ⟨sp, hsp⟩ : ∃ x, m.steps = x := ⟨_, rfl⟩
  obtain ⟨pk, hpk⟩ : ∃ x, m.peak = x := ⟨_, rfl⟩
  rw [hst, her, hls', hlm, hsp, hpk] at HC8 HC13 HC17 HC19 HC20 HC15 HC16 ⊢
  clear hst her hls' hlm hsp hpk hvv hfv hqv hvv' hfv' hqv' hls hl hM
  go_enter Tryz.func6, Tryz.ntmps6
  go_wp2_with (fail)
  refine (HC15.out _ (below_2 _ _ _)).mono ?_
  rintro e w1 ⟨r1, rfl, hr1, hb1⟩
  obtain ⟨av1, rfl, hav1⟩ := hr1
  obtain ⟨C1, q1, p1, rfl⟩ := hav1.shape
  have HB1 := Lib.hid (below_call hb1 (below_2 w _ _))
  have HM1 := Lib.hid (((Blk.new w 30 #[.int .i64 st, .int .i64 er, .slice A1 n1 k1, .slice A2 n2 k2, .slice A3 n3 k3, .int .i64 ls, .int .i64 lm, .int .i64 sp, .int .i64 pk]).alloc _).below hb1)
  have HN1 := Lib.hid ((Blk.second w _ 30 #[.int .i64 st, .int .i64 er, .slice B1 z1 y1, .slice B2 z2 y2, .slice B3 z3 y3, .int .i64 ls, .int .i64 lm, .int .i64 sp, .int .i64 pk]).below hb1)
  obtain ⟨bo, hbo⟩ : ∃ x, (pendR m).2 = x := ⟨_, rfl⟩
  obtain ⟨op1, hop1⟩ : ∃ x, (pendR m).1.op = x := ⟨_, rfl⟩
  rw [hbo, hop1]
  have HAV1 := Lib.hid hav1
  have HBO := Lib.hid hbo
  have HOP := Lib.hid hop1
  have gm := blk9 HM1.out
  have gn := blk9 HN1.out
  clear hav1 hb1 hbo hop1
  go_wp2_with (fail)
  refine (HC16.out _ (HB1.out.alloc HB1.out.size _)).mono ?_
  rintro e w2 ⟨r2, rfl, hr2, hb2⟩
  obtain ⟨av2, rfl, hav2⟩ := hr2
  obtain ⟨C2, q2, p2, rfl⟩ := hav2.shape
  rw [HBO.out, HOP.out]
  have HB2 := Lib.hid (below_call hb2 (HB1.out.alloc HB1.out.size (.cells #[.string op1, .slice C1 q1 p1] 39)))
  have HM2 := Lib.hid ((HM1.out.alloc (.cells #[.string op1, .slice C1 q1 p1] 39)).below hb2)
  have HN2 := Lib.hid ((HN1.out.alloc (.cells #[.string op1, .slice C1 q1 p1] 39)).below hb2)
  have HU2 := Lib.hid ((Blk.new w1 39 #[.string op1, .slice C1 q1 p1]).below hb2)
  have HAV2 := Lib.hid hav2
  have HAV1b := Lib.hid ((HAV1.out.below (below_new w1 (.cells #[.string op1, .slice C1 q1 p1] 39))).below hb2)
  have hsz2 : w1.heap.size < w2.heap.size := Nat.lt_of_lt_of_le (by simp) hb2.size
  clear hav2 hb2 gm gn
  go_upto_region 3 with fail
  obtain ⟨W, hW⟩ : ∃ W, w2.alloc (.cells #[.string op1, .slice C2 q2 p2] 39) = W := ⟨_, rfl⟩
  have HB0 := Lib.hid (show Below w.heap.size w W by rw [← hW]; exact HB2.out.alloc HB2.out.size _)
  have HM0 := Lib.hid (show Blk W w.heap.size 30 _ by rw [← hW]; exact HM2.out.alloc _)
  have HN0 := Lib.hid (show Blk W (w.heap.size + 1) 30 _ by rw [← hW]; exact HN2.out.alloc _)
  have HU0 := Lib.hid (show Blk W w1.heap.size 39 _ by rw [← hW]; exact HU2.out.alloc _)
  have HV0 := Lib.hid (show Blk W w2.heap.size 39 #[.string op1, .slice C2 q2 p2] by rw [← hW]; exact Blk.new w2 _ _)
  have HR0 := Lib.hid (show ValsV W (.slice C1 q1 p1) (pendR m).1.args by rw [← hW]; exact HAV1b.out.below (below_new _ _))
  have HQ0 := Lib.hid (show ValsV W (.slice C2 q2 p2) (pendR m).1.args by rw [← hW]; exact HAV2.out.below (below_new _ _))
  rw [hW]
  clear hW
  have gs0 := blk22 HM0.out HN0.out HU0.out HV0.out
  clear HM1 HN1 HAV1 HB1 HB2 HM2 HN2 HU2 HAV2 HAV1b HC15 HC16
  go_region_held3 (fun w' => w'.cell? ⟨w.heap.size, 0, none⟩ = some (.int .i64 st) ∧ w'.cell? ⟨w.heap.size, 1, none⟩ = some (.int .i64 er) ∧ w'.cell? ⟨w.heap.size, 2, none⟩ = some (.slice A1 n1 k1) ∧ w'.cell? ⟨w.heap.size, 3, none⟩ = some (.slice A2 n2 k2) ∧ w'.cell? ⟨w.heap.size, 4, none⟩ = some (.slice A3 n3 k3) ∧ w'.cell? ⟨w.heap.size, 5, none⟩ = some (.int .i64 ls) ∧ w'.cell? ⟨w.heap.size, 6, none⟩ = some (.int .i64 lm) ∧ w'.cell? ⟨w.heap.size, 7, none⟩ = some (.int .i64 sp) ∧ w'.cell? ⟨w.heap.size, 8, none⟩ = some (.int .i64 pk) ∧ w'.cell? ⟨w.heap.size + 1, 0, none⟩ = some (.int .i64 st) ∧ w'.cell? ⟨w.heap.size + 1, 1, none⟩ = some (.int .i64 er) ∧ w'.cell? ⟨w.heap.size + 1, 2, none⟩ = some (.slice B1 z1 y1) ∧ w'.cell? ⟨w.heap.size + 1, 3, none⟩ = some (.slice B2 z2 y2) ∧ w'.cell? ⟨w.heap.size + 1, 4, none⟩ = some (.slice B3 z3 y3) ∧ w'.cell? ⟨w.heap.size + 1, 5, none⟩ = some (.int .i64 ls) ∧ w'.cell? ⟨w.heap.size + 1, 6, none⟩ = some (.int .i64 lm) ∧ w'.cell? ⟨w.heap.size + 1, 7, none⟩ = some (.int .i64 sp) ∧ w'.cell? ⟨w.heap.size + 1, 8, none⟩ = some (.int .i64 pk) ∧ w'.cell? ⟨w1.heap.size, 0, none⟩ = some (.string op1) ∧ w'.cell? ⟨w1.heap.size, 1, none⟩ = some (.slice C1 q1 p1) ∧ w'.cell? ⟨w2.heap.size, 0, none⟩ = some (.string op1) ∧ w'.cell? ⟨w2.heap.size, 1, none⟩ = some (.slice C2 q2 p2)) (first | assumption | go_keep) (first
    | (go_at_call 8; with_reducible refine (HC8.out _ HB0.out.drew).mono ?_; rintro e wc1 ⟨rfl, hb1⟩; have HM1 := Lib.hid (HM0.out.drew.below hb1); have HN1 := Lib.hid (HN0.out.drew.below hb1); have HU1 := Lib.hid (HU0.out.drew.below hb1); have HV1 := Lib.hid (HV0.out.drew.below hb1); have gs1 := blk22 HM1.out HN1.out HU1.out HV1.out; have HR1 := Lib.hid ((HR0.out.drew).below hb1); have HQ1 := Lib.hid ((HQ0.out.drew).below hb1); have HB1 := Lib.hid (below_call hb1 HB0.out.drew); clear hb1)
    | (go_at_call 13; with_reducible refine (HC13.out _ HB1.out).mono ?_; rintro e wc2 ⟨rfl, hb2⟩; have HM2 := Lib.hid (HM1.out.below hb2); have HN2 := Lib.hid (HN1.out.below hb2); have HU2 := Lib.hid (HU1.out.below hb2); have HV2 := Lib.hid (HV1.out.below hb2); have gs2 := blk22 HM2.out HN2.out HU2.out HV2.out; have HR2 := Lib.hid ((HR1.out).below hb2); have HQ2 := Lib.hid ((HQ1.out).below hb2); have HB2 := Lib.hid (below_call hb2 HB1.out); clear hb2)
    | (go_at_call 17; with_reducible refine (HC17.out _ HB2.out).mono ?_; rintro e wc3 ⟨rfl, hb3⟩; have HM3 := Lib.hid (HM2.out.below hb3); have HN3 := Lib.hid (HN2.out.below hb3); have HU3 := Lib.hid (HU2.out.below hb3); have HV3 := Lib.hid (HV2.out.below hb3); have gs3 := blk22 HM3.out HN3.out HU3.out HV3.out; have HR3 := Lib.hid ((HR2.out).below hb3); have HQ3 := Lib.hid ((HQ2.out).below hb3); have HB3 := Lib.hid (below_call hb3 HB2.out); clear hb3)
    | (go_at_call 20; with_reducible refine (HC20.out _ HB4.out).mono ?_; rintro e wc5 ⟨o2, rfl, ho2, hb5⟩; have HM5 := Lib.hid (HM4.out.below hb5); have HN5 := Lib.hid (HN4.out.below hb5); have HU5 := Lib.hid (HU4.out.below hb5); have HV5 := Lib.hid (HV4.out.below hb5); have gs5 := blk22 HM5.out HN5.out HU5.out HV5.out; have HR5 := Lib.hid ((HR4.out).below hb5); have HQ5 := Lib.hid ((HQ4.out).below hb5); have HB5 := Lib.hid (below_call hb5 HB4.out); have HO1 := Lib.hid (HO1a.out.below hb5); obtain ⟨D3, d3, e3, D4, d4, e4, rfl⟩ := ho2.shape; have HO2 := Lib.hid ho2; clear ho2; clear hb5)
    | (go_at_call 18; with_reducible refine (HC18.out _ HB5.out _ _ HO1.out HO2.out).mono ?_; rintro e wc6 ⟨rfl, hb6⟩; have HM6 := Lib.hid (HM5.out.below hb6); have HN6 := Lib.hid (HN5.out.below hb6); have HU6 := Lib.hid (HU5.out.below hb6); have HV6 := Lib.hid (HV5.out.below hb6); have gs6 := blk22 HM6.out HN6.out HU6.out HV6.out; have HR6 := Lib.hid ((HR5.out).below hb6); have HQ6 := Lib.hid ((HQ5.out).below hb6); have HB6 := Lib.hid (below_call hb6 HB5.out); clear hb6)
    | (go_at_call 19; with_reducible refine (HC19.out _ HB3.out).mono ?_; rintro e wc4 ⟨o1, rfl, ho1, hb4⟩; have HM4 := Lib.hid (HM3.out.below hb4); have HN4 := Lib.hid (HN3.out.below hb4); have HU4 := Lib.hid (HU3.out.below hb4); have HV4 := Lib.hid (HV3.out.below hb4); have gs4 := blk22 HM4.out HN4.out HU4.out HV4.out; have HR4 := Lib.hid ((HR3.out).below hb4); have HQ4 := Lib.hid ((HQ3.out).below hb4); have HB4 := Lib.hid (below_call hb4 HB3.out); obtain ⟨D1, d1, e1, D2, d2, e2, rfl⟩ := ho1.shape; have HO1a := Lib.hid ho1; clear ho1; clear hb4)
    | (go_at_call 21; with_reducible refine (HC21.out _ (reqsOne2 HR6.out HOP.out) (reqsOne1 HQ6.out HOP.out)).mono ?_; rintro e wc7 ⟨rfl, q7, rfl⟩; have HB7 := Lib.hid (below_two HB6.out (.cells #[.string op1, .slice C1 q1 p1] 39) (.cells #[.string op1, .slice C2 q2 p2] 39) q7))
    | (go_at_call 21; with_reducible refine (HC21.out _ (reqsOne1 HR6.out HOP.out) (reqsOne2 HQ6.out HOP.out)).mono ?_; rintro e wc7 ⟨rfl, q7, rfl⟩; have HB7 := Lib.hid (below_two HB6.out (.cells #[.string op1, .slice C2 q2 p2] 39) (.cells #[.string op1, .slice C1 q1 p1] 39) q7)))
  all_goals
    go_wp2_with (fail)
    go_ret
    exact ⟨rfl, HB7.out⟩
end Go.Proofs.YtemakcaojdoakaaGreatDoor
