/- The law, given that the machines wake. -/
import Derived.Test.YtemakcaojdoakaaGreatDoorC16
namespace Go.Proofs.YtemakcaojdoakaaGreatDoor
open Go.RowKit
set_option maxRecDepth 100000

theorem blk18 {w : World} {g h : Nat} {t1 t2 : TypeId} {u0 u1 u2 u3 u4 u5 u6 u7 u8 v0 v1 v2 v3 v4 v5 v6 v7 v8 : Value} (h1 : Blk w g t1 #[u0, u1, u2, u3, u4, u5, u6, u7, u8]) (h2 : Blk w h t2 #[v0, v1, v2, v3, v4, v5, v6, v7, v8]) :
    w.cell? ⟨g, 0, none⟩ = some u0 ∧ w.cell? ⟨g, 1, none⟩ = some u1 ∧ w.cell? ⟨g, 2, none⟩ = some u2 ∧ w.cell? ⟨g, 3, none⟩ = some u3 ∧ w.cell? ⟨g, 4, none⟩ = some u4 ∧ w.cell? ⟨g, 5, none⟩ = some u5 ∧ w.cell? ⟨g, 6, none⟩ = some u6 ∧ w.cell? ⟨g, 7, none⟩ = some u7 ∧ w.cell? ⟨g, 8, none⟩ = some u8 ∧ w.cell? ⟨h, 0, none⟩ = some v0 ∧ w.cell? ⟨h, 1, none⟩ = some v1 ∧ w.cell? ⟨h, 2, none⟩ = some v2 ∧ w.cell? ⟨h, 3, none⟩ = some v3 ∧ w.cell? ⟨h, 4, none⟩ = some v4 ∧ w.cell? ⟨h, 5, none⟩ = some v5 ∧ w.cell? ⟨h, 6, none⟩ = some v6 ∧ w.cell? ⟨h, 7, none⟩ = some v7 ∧ w.cell? ⟨h, 8, none⟩ = some v8 :=
  ⟨h1.cell 0 _ rfl, h1.cell 1 _ rfl, h1.cell 2 _ rfl, h1.cell 3 _ rfl, h1.cell 4 _ rfl, h1.cell 5 _ rfl, h1.cell 6 _ rfl, h1.cell 7 _ rfl, h1.cell 8 _ rfl, h2.cell 0 _ rfl, h2.cell 1 _ rfl, h2.cell 2 _ rfl, h2.cell 3 _ rfl, h2.cell 4 _ rfl, h2.cell 5 _ rfl, h2.cell 6 _ rfl, h2.cell 7 _ rfl, h2.cell 8 _ rfl⟩

attribute [local go_sem] cell_alloc_is
set_option maxHeartbeats 8000000 in
theorem law_any (a b : MachD) (x y : Value) (w : World) (hx : MachV w x a) (hy : MachV w y b) (hsa : ∀ c ∈ a.value, c.str.size ≤ 140737488351232) (hsb : ∀ c ∈ b.value, c.str.size ≤ 140737488351232)
    (haw : ∀ wx, Below w.heap.size w wx → Calls Tryz.prog 5 #[] wx fun e w' => e = .returned (.bool true) ∧ Below wx.heap.size wx w') :
    Calls Tryz.prog 3 #[x, y] w fun e w' => e = .returned (.bool true) ∧ Below w.heap.size w w' := by
  have HAW := Lib.hid haw
  obtain ⟨la, hla⟩ : ∃ t, lookedB a = t := ⟨_, rfl⟩
  obtain ⟨lb, hlb⟩ : ∃ t, lookedB b = t := ⟨_, rfl⟩
  obtain ⟨tt, htt⟩ : ∃ t, eqM a b = t := ⟨_, rfl⟩
  have HLA : Hid (∀ wx, Below w.heap.size w wx → Calls Tryz.prog 4 #[x] wx fun e w' => e = .returned (.bool la) ∧ Below wx.heap.size wx w') := Lib.hid (fun wx h => by
    have := looked_any a x wx (hx.below h) hsa; rw [hla] at this; exact this)
  have HLB : Hid (∀ wx, Below w.heap.size w wx → Calls Tryz.prog 4 #[y] wx fun e w' => e = .returned (.bool lb) ∧ Below wx.heap.size wx w') := Lib.hid (fun wx h => by
    have := looked_any b y wx (hy.below h) hsb; rw [hlb] at this; exact this)
  have HA : Hid (la = true → ∀ wx, Below w.heap.size w wx → Calls Tryz.prog 6 #[x, x] wx fun e w' => e = .returned (.bool true) ∧ Below wx.heap.size wx w') := Lib.hid (fun hl wx h => alike_any a x x wx (hx.below h) (hx.below h) (hla.trans hl))
  have HB : Hid (lb = true → ∀ wx, Below w.heap.size w wx → Calls Tryz.prog 6 #[y, y] wx fun e w' => e = .returned (.bool true) ∧ Below wx.heap.size wx w') := Lib.hid (fun hl wx h => alike_any b y y wx (hy.below h) (hy.below h) (hlb.trans hl))
  have HSab : Hid (∀ wx, Below w.heap.size w wx → Calls Tryz.prog 7 #[x, y] wx fun e w' => e = .returned (.bool tt) ∧ Below wx.heap.size wx w') := Lib.hid (fun wx h => by
    have := msame_any a b x y wx (hx.below h) (hy.below h); rw [htt] at this; exact this)
  have HRab : Hid (∀ wx, Below w.heap.size w wx → Calls Tryz.prog 8 #[x, y] wx fun e w' => e = .returned (.bool tt) ∧ Below wx.heap.size wx w') := Lib.hid (fun wx h => by
    have := rsame_any a b x y wx (hx.below h) (hy.below h); rw [htt] at this; exact this)
  have HSaa : Hid (∀ wx, Below w.heap.size w wx → Calls Tryz.prog 7 #[x, x] wx fun e w' => e = .returned (.bool true) ∧ Below wx.heap.size wx w') := Lib.hid (fun wx h => by
    have := msame_any a a x x wx (hx.below h) (hx.below h); rw [eqM_self] at this; exact this)
  have HSba : Hid (∀ wx, Below w.heap.size w wx → Calls Tryz.prog 7 #[y, x] wx fun e w' => e = .returned (.bool tt) ∧ Below wx.heap.size wx w') := Lib.hid (fun wx h => by
    have := msame_any b a y x wx (hy.below h) (hx.below h); rw [eqM_comm, htt] at this; exact this)
  obtain ⟨vv, fv, qv, rfl, hvv, hfv, hqv⟩ := hx
  obtain ⟨vv', fv', qv', rfl, hvv', hfv', hqv'⟩ := hy
  obtain ⟨A1, n1, k1, rfl⟩ := hvv.shape
  obtain ⟨A2, n2, k2, rfl⟩ := hfv.shape
  obtain ⟨A3, n3, k3, rfl⟩ := hqv.shape
  obtain ⟨B1, z1, y1, rfl⟩ := hvv'.shape
  obtain ⟨B2, z2, y2, rfl⟩ := hfv'.shape
  obtain ⟨B3, z3, y3, rfl⟩ := hqv'.shape
  obtain ⟨st, er, va, fr, rq, ls, lm, sp, pk⟩ := a
  obtain ⟨st', er', va', fr', rq', ls', lm', sp', pk'⟩ := b
  dsimp only at HLA HLB HA HB HSab HRab HSaa HSba ⊢
  clear hvv hfv hqv hvv' hfv' hqv' hla hlb htt hsa hsb haw
  have HW0 := Lib.hid (below_2 w (.cells #[.int .i64 st, .int .i64 er, .slice A1 n1 k1, .slice A2 n2 k2, .slice A3 n3 k3, .int .i64 ls, .int .i64 lm, .int .i64 sp, .int .i64 pk] 30) (.cells #[.int .i64 st', .int .i64 er', .slice B1 z1 y1, .slice B2 z2 y2, .slice B3 z3 y3, .int .i64 ls', .int .i64 lm', .int .i64 sp', .int .i64 pk'] 30))
  have HM0 := Lib.hid (((Blk.new w 30 #[.int .i64 st, .int .i64 er, .slice A1 n1 k1, .slice A2 n2 k2, .slice A3 n3 k3, .int .i64 ls, .int .i64 lm, .int .i64 sp, .int .i64 pk]).alloc (.cells #[.int .i64 st', .int .i64 er', .slice B1 z1 y1, .slice B2 z2 y2, .slice B3 z3 y3, .int .i64 ls', .int .i64 lm', .int .i64 sp', .int .i64 pk'] 30)))
  have HN0 := Lib.hid ((Blk.second w (.cells #[.int .i64 st, .int .i64 er, .slice A1 n1 k1, .slice A2 n2 k2, .slice A3 n3 k3, .int .i64 ls, .int .i64 lm, .int .i64 sp, .int .i64 pk] 30) 30 #[.int .i64 st', .int .i64 er', .slice B1 z1 y1, .slice B2 z2 y2, .slice B3 z3 y3, .int .i64 ls', .int .i64 lm', .int .i64 sp', .int .i64 pk']))
  cases la with
  | false =>
    go_enter Tryz.func3, Tryz.ntmps3
    go_wp2_with (first
      | (go_at_call 4; with_reducible refine (HLA.out _ HW0.out).mono ?_; rintro e w1 ⟨rfl, hb1⟩; have HW1 := Lib.hid (below_call hb1 HW0.out); clear hb1)
      | (go_at_call 5; with_reducible refine (HAW.out _ HW1.out).mono ?_; rintro e w2 ⟨rfl, hb2⟩; have HW2 := Lib.hid (below_call hb2 HW1.out); clear hb2))
    go_ret
    exact ⟨rfl, HW2.out⟩
  | true =>
    have HA' := Lib.hid (HA.out rfl)
    clear HA
    cases lb with
    | false =>
      go_enter Tryz.func3, Tryz.ntmps3
      go_wp2_with (first
        | (go_at_call 4; with_reducible refine (HLA.out _ HW0.out).mono ?_; rintro e w1 ⟨rfl, hb1⟩; have HW1 := Lib.hid (below_call hb1 HW0.out); have HN1 := Lib.hid (HN0.out.below hb1); have gn1 := blk9 HN1.out; clear hb1)
        | (go_at_call 4; with_reducible refine (HLB.out _ HW1.out).mono ?_; rintro e w2 ⟨rfl, hb2⟩; have HW2 := Lib.hid (below_call hb2 HW1.out); clear hb2)
        | (go_at_call 5; with_reducible refine (HAW.out _ HW2.out).mono ?_; rintro e w3 ⟨rfl, hb3⟩; have HW3 := Lib.hid (below_call hb3 HW2.out); clear hb3))
      go_ret
      exact ⟨rfl, HW3.out⟩
    | true =>
      have HB' := Lib.hid (HB.out rfl)
      clear HB
      go_enter Tryz.func3, Tryz.ntmps3
      go_upto_region 3 with (first
        | (go_at_call 4; with_reducible refine (HLA.out _ HW0.out).mono ?_; rintro e w1 ⟨rfl, hb1⟩; have HW1 := Lib.hid (below_call hb1 HW0.out); have HM1 := Lib.hid (HM0.out.below hb1); have HN1 := Lib.hid (HN0.out.below hb1); have gn1 := blk9 HN1.out; clear hb1)
        | (go_at_call 4; with_reducible refine (HLB.out _ HW1.out).mono ?_; rintro e w2 ⟨rfl, hb2⟩; have HW2 := Lib.hid (below_call hb2 HW1.out); have HM2 := Lib.hid (HM1.out.below hb2); have HN2 := Lib.hid (HN1.out.below hb2); clear hb2 gn1))
      have gs2 := blk18 HM2.out HN2.out
      clear HM0 HN0 HW0 HM1 HN1 HW1 HLA HLB
      cases tt with
      | true =>
        go_region_held3 (fun w' => w'.cell? ⟨w.heap.size, 0, none⟩ = some (.int .i64 st) ∧ w'.cell? ⟨w.heap.size, 1, none⟩ = some (.int .i64 er) ∧ w'.cell? ⟨w.heap.size, 2, none⟩ = some (.slice A1 n1 k1) ∧ w'.cell? ⟨w.heap.size, 3, none⟩ = some (.slice A2 n2 k2) ∧ w'.cell? ⟨w.heap.size, 4, none⟩ = some (.slice A3 n3 k3) ∧ w'.cell? ⟨w.heap.size, 5, none⟩ = some (.int .i64 ls) ∧ w'.cell? ⟨w.heap.size, 6, none⟩ = some (.int .i64 lm) ∧ w'.cell? ⟨w.heap.size, 7, none⟩ = some (.int .i64 sp) ∧ w'.cell? ⟨w.heap.size, 8, none⟩ = some (.int .i64 pk) ∧ w'.cell? ⟨w.heap.size + 1, 0, none⟩ = some (.int .i64 st') ∧ w'.cell? ⟨w.heap.size + 1, 1, none⟩ = some (.int .i64 er') ∧ w'.cell? ⟨w.heap.size + 1, 2, none⟩ = some (.slice B1 z1 y1) ∧ w'.cell? ⟨w.heap.size + 1, 3, none⟩ = some (.slice B2 z2 y2) ∧ w'.cell? ⟨w.heap.size + 1, 4, none⟩ = some (.slice B3 z3 y3) ∧ w'.cell? ⟨w.heap.size + 1, 5, none⟩ = some (.int .i64 ls') ∧ w'.cell? ⟨w.heap.size + 1, 6, none⟩ = some (.int .i64 lm') ∧ w'.cell? ⟨w.heap.size + 1, 7, none⟩ = some (.int .i64 sp') ∧ w'.cell? ⟨w.heap.size + 1, 8, none⟩ = some (.int .i64 pk')) (first | assumption | go_keep) (first
          | (go_at_call 6; with_reducible refine (HA'.out _ HW2.out.drew).mono ?_; rintro e wc3 ⟨rfl, hb3⟩; have HM3 := Lib.hid (HM2.out.drew.below hb3); have HN3 := Lib.hid (HN2.out.drew.below hb3); have gs3 := blk18 HM3.out HN3.out; have HW3 := Lib.hid (below_call hb3 HW2.out.drew); clear hb3 HW2)
          | (go_at_call 6; with_reducible refine (HB'.out _ HW3.out).mono ?_; rintro e wc4 ⟨rfl, hb4⟩; have HM4 := Lib.hid (HM3.out.below hb4); have HN4 := Lib.hid (HN3.out.below hb4); have gs4 := blk18 HM4.out HN4.out; have HW4 := Lib.hid (below_call hb4 HW3.out); clear hb4 HW3)
          | (go_at_call 7; with_reducible refine (HSab.out _ HW4.out).mono ?_; rintro e wc5 ⟨rfl, hb5⟩; have HM5 := Lib.hid (HM4.out.below hb5); have HN5 := Lib.hid (HN4.out.below hb5); have gs5 := blk18 HM5.out HN5.out; have HW5 := Lib.hid (below_call hb5 HW4.out); clear hb5 HW4)
          | (go_at_call 8; with_reducible refine (HRab.out _ HW5.out).mono ?_; rintro e wc6 ⟨rfl, hb6⟩; have HM6 := Lib.hid (HM5.out.below hb6); have HN6 := Lib.hid (HN5.out.below hb6); have gs6 := blk18 HM6.out HN6.out; have HW6 := Lib.hid (below_call hb6 HW5.out); clear hb6 HW5)
          | (go_at_call 7; with_reducible refine (HSaa.out _ HW6.out).mono ?_; rintro e wc7 ⟨rfl, hb7⟩; have HM7 := Lib.hid (HM6.out.below hb7); have HN7 := Lib.hid (HN6.out.below hb7); have gs7 := blk18 HM7.out HN7.out; have HW7 := Lib.hid (below_call hb7 HW6.out); clear hb7 HW6)
          | (go_at_call 7; with_reducible refine (HSba.out _ HW7.out).mono ?_; rintro e wc8 ⟨rfl, hb8⟩; have HM8 := Lib.hid (HM7.out.below hb8); have HN8 := Lib.hid (HN7.out.below hb8); have gs8 := blk18 HM8.out HN8.out; have HW8 := Lib.hid (below_call hb8 HW7.out); clear hb8 HW7)
          | (go_at_call 7; with_reducible refine (HSab.out _ HW8.out).mono ?_; rintro e wc9 ⟨rfl, hb9⟩; have HM9 := Lib.hid (HM8.out.below hb9); have HN9 := Lib.hid (HN8.out.below hb9); have gs9 := blk18 HM9.out HN9.out; have HW9 := Lib.hid (below_call hb9 HW8.out); clear hb9 HW8)
          | (go_at_call 5; with_reducible refine (HAW.out _ HW9.out).mono ?_; rintro e wc10 ⟨rfl, hb10⟩; have HM10 := Lib.hid (HM9.out.below hb10); have HN10 := Lib.hid (HN9.out.below hb10); have gs10 := blk18 HM10.out HN10.out; have HW10 := Lib.hid (below_call hb10 HW9.out); clear hb10 HW9))
        all_goals
          go_wp2_with (fail)
          go_ret
          exact ⟨rfl, HW10.out⟩
      | false =>
        go_region_held3 (fun w' => w'.cell? ⟨w.heap.size, 0, none⟩ = some (.int .i64 st) ∧ w'.cell? ⟨w.heap.size, 1, none⟩ = some (.int .i64 er) ∧ w'.cell? ⟨w.heap.size, 2, none⟩ = some (.slice A1 n1 k1) ∧ w'.cell? ⟨w.heap.size, 3, none⟩ = some (.slice A2 n2 k2) ∧ w'.cell? ⟨w.heap.size, 4, none⟩ = some (.slice A3 n3 k3) ∧ w'.cell? ⟨w.heap.size, 5, none⟩ = some (.int .i64 ls) ∧ w'.cell? ⟨w.heap.size, 6, none⟩ = some (.int .i64 lm) ∧ w'.cell? ⟨w.heap.size, 7, none⟩ = some (.int .i64 sp) ∧ w'.cell? ⟨w.heap.size, 8, none⟩ = some (.int .i64 pk) ∧ w'.cell? ⟨w.heap.size + 1, 0, none⟩ = some (.int .i64 st') ∧ w'.cell? ⟨w.heap.size + 1, 1, none⟩ = some (.int .i64 er') ∧ w'.cell? ⟨w.heap.size + 1, 2, none⟩ = some (.slice B1 z1 y1) ∧ w'.cell? ⟨w.heap.size + 1, 3, none⟩ = some (.slice B2 z2 y2) ∧ w'.cell? ⟨w.heap.size + 1, 4, none⟩ = some (.slice B3 z3 y3) ∧ w'.cell? ⟨w.heap.size + 1, 5, none⟩ = some (.int .i64 ls') ∧ w'.cell? ⟨w.heap.size + 1, 6, none⟩ = some (.int .i64 lm') ∧ w'.cell? ⟨w.heap.size + 1, 7, none⟩ = some (.int .i64 sp') ∧ w'.cell? ⟨w.heap.size + 1, 8, none⟩ = some (.int .i64 pk')) (first | assumption | go_keep) (first
          | (go_at_call 6; with_reducible refine (HA'.out _ HW2.out.drew).mono ?_; rintro e wc3 ⟨rfl, hb3⟩; have HM3 := Lib.hid (HM2.out.drew.below hb3); have HN3 := Lib.hid (HN2.out.drew.below hb3); have gs3 := blk18 HM3.out HN3.out; have HW3 := Lib.hid (below_call hb3 HW2.out.drew); clear hb3 HW2)
          | (go_at_call 6; with_reducible refine (HB'.out _ HW3.out).mono ?_; rintro e wc4 ⟨rfl, hb4⟩; have HM4 := Lib.hid (HM3.out.below hb4); have HN4 := Lib.hid (HN3.out.below hb4); have gs4 := blk18 HM4.out HN4.out; have HW4 := Lib.hid (below_call hb4 HW3.out); clear hb4 HW3)
          | (go_at_call 7; with_reducible refine (HSab.out _ HW4.out).mono ?_; rintro e wc5 ⟨rfl, hb5⟩; have HM5 := Lib.hid (HM4.out.below hb5); have HN5 := Lib.hid (HN4.out.below hb5); have gs5 := blk18 HM5.out HN5.out; have HW5 := Lib.hid (below_call hb5 HW4.out); clear hb5 HW4)
          | (go_at_call 8; with_reducible refine (HRab.out _ HW5.out).mono ?_; rintro e wc6 ⟨rfl, hb6⟩; have HM6 := Lib.hid (HM5.out.below hb6); have HN6 := Lib.hid (HN5.out.below hb6); have gs6 := blk18 HM6.out HN6.out; have HW6 := Lib.hid (below_call hb6 HW5.out); clear hb6 HW5)
          | (go_at_call 7; with_reducible refine (HSaa.out _ HW6.out).mono ?_; rintro e wc7 ⟨rfl, hb7⟩; have HM7 := Lib.hid (HM6.out.below hb7); have HN7 := Lib.hid (HN6.out.below hb7); have gs7 := blk18 HM7.out HN7.out; have HW7 := Lib.hid (below_call hb7 HW6.out); clear hb7 HW6)
          | (go_at_call 7; with_reducible refine (HSba.out _ HW7.out).mono ?_; rintro e wc8 ⟨rfl, hb8⟩; have HM8 := Lib.hid (HM7.out.below hb8); have HN8 := Lib.hid (HN7.out.below hb8); have gs8 := blk18 HM8.out HN8.out; have HW8 := Lib.hid (below_call hb8 HW7.out); clear hb8 HW7)
          | (go_at_call 7; with_reducible refine (HSab.out _ HW8.out).mono ?_; rintro e wc9 ⟨rfl, hb9⟩; have HM9 := Lib.hid (HM8.out.below hb9); have HN9 := Lib.hid (HN8.out.below hb9); have gs9 := blk18 HM9.out HN9.out; have HW9 := Lib.hid (below_call hb9 HW8.out); clear hb9 HW8)
          | (go_at_call 5; with_reducible refine (HAW.out _ HW9.out).mono ?_; rintro e wc10 ⟨rfl, hb10⟩; have HM10 := Lib.hid (HM9.out.below hb10); have HN10 := Lib.hid (HN9.out.below hb10); have gs10 := blk18 HM10.out HN10.out; have HW10 := Lib.hid (below_call hb10 HW9.out); clear hb10 HW9))
        all_goals
          go_wp2_with (fail)
          go_ret
          exact ⟨rfl, HW10.out⟩
end Go.Proofs.YtemakcaojdoakaaGreatDoor
