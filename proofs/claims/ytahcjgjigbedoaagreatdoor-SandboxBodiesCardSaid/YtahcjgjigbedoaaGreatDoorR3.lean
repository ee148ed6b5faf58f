/- The reference's values: pairs, given Next. -/
import Derived.Test.YtahcjgjigbedoaaGreatDoorGR2
set_option linter.unusedVariables false
set_option linter.unusedSimpArgs false
namespace Go.Proofs.YtahcjgjigbedoaaGreatDoor
open Go.RowKit
set_option maxRecDepth 100000

/-- The string of the key before. -/
def lastS (last : Option ByteArray) : ByteArray := last.getD ByteArray.empty
attribute [local go_sem] cell_alloc_is
set_option maxHeartbeats 4000000 in
theorem pairs_of (l : List CellD) (A : Option Addr) (cap a i N : Nat) (w : World) (hN : NextFrom l A cap a) (h : SlAt w A 4 CellD.cells l) (ha : a ≤ i) (hi : i ≤ l.length) (hl : l.length ≤ 1000000) (hb : N ≤ 9223372036854775807) (hok : ∀ c ∈ l, c.str.size ≤ 4294967296) :
  Calls Tryz.prog 97 #[.slice A l.length cap, .int .i64 i, .int .i64 N] w fun e w' => e = .returned (.int .i64 (shR (pairs l (px l) 0 N none ⟨i, 0, 0⟩))) ∧ Below w.heap.size w w' := by
 obtain ⟨E, hE⟩ : ∃ E, pairs l (px l) 0 N none ⟨i, 0, 0⟩ = E := ⟨_, rfl⟩
 rw [hE]
 have HE := Lib.hid hE
 have HN := Lib.hid hN
 have HA := Lib.hid h
 have HK := Lib.hid hok
 have hb' : (N : Int) ≤ 9223372036854775807 := by omega
 clear hE hN h hok
 go_enter Tryz.func97, Tryz.ntmps97
 go_wp2
 go_loopw [1, 7, 8] (fun iv lv kv wr => ∃ (k : Nat) (s : Sh) (last : Option ByteArray), k ≤ N ∧ iv = .int .i64 s.j ∧ lv = .string (lastS last) ∧ kv = .int .i64 k ∧ a ≤ s.j ∧ s.j ≤ l.length ∧ (last.isSome = true ↔ 0 < k) ∧ Hid (pairs l (px l) 0 (N - k) last s = E) ∧ Below w.heap.size w wr) (fun _ _ kv _ => N - (intOf kv).toNat)
 case atStart => exact ⟨0, ⟨i, 0, 0⟩, none, Nat.zero_le _, rfl, rfl, rfl, ha, hi, by simp, Lib.hid HE.out, Below.refl _ _⟩
 case round =>
  obtain ⟨k, s, last, hk, rfl, rfl, rfl, has, hsl, hlast, HS, hbel⟩ := hrel
  have HB := Lib.hid hbel
  clear hbel
  have hk0 : (0 : Int) ≤ (k : Int) := by omega
  by_cases hlt : k < N
  ·have hlt' : (k : Int) < (N : Int) := by omega
   obtain ⟨m, hm⟩ : ∃ m, N - k = m + 1 := ⟨N - k - 1, by omega⟩
   have hm2 : N - (k + 1) = m := by omega
   have HM := Lib.hid hm2
   have HM1 := Lib.hid hm
   clear hm hm2
   by_cases hend : s.j = l.length
   ·have hE : E = none := by
     rw [← HS.out, HM1.out]
     refine pairs_none (fun c hc => ?_)
     rw [hend] at hc
     simp at hc
    subst hE
    have hge : (l.length : Int) ≤ (s.j : Int) := by omega
    have hge' : ¬ (s.j : Int) < (l.length : Int) := by omega
    clear hlast
    go_wp2_with (fail)
    go_returns
    exact ⟨rfl, HB.out⟩
   ·have hjl : s.j < l.length := by omega
    have hji : (s.j : Int) < (l.length : Int) := by omega
    have hj0 : (0 : Int) ≤ (s.j : Int) := by omega
    obtain ⟨c, hc⟩ : ∃ c, l[s.j] = c := ⟨_, rfl⟩
    have hcl : l[s.j]? = some c := by rw [List.getElem?_eq_getElem hjl, hc]
    have HCL := Lib.hid hcl
    have hck := HK.out c (hc ▸ List.getElem_mem hjl)
    have hsa := HA.out.below HB.out
    obtain ⟨bA, off, rfl, _⟩ := hsa.ptr hjl
    have c0 := hsa.cell0 hjl (v := .int .i64 c.kind) (by rw [hc]; rfl)
    have c1 := hsa.cell hjl (j := 1) (v := .int .i64 c.int) (by rw [hc]; rfl)
    have c2 := hsa.cell hjl (j := 2) (v := .string c.str) (by rw [hc]; rfl)
    have c3 := hsa.cell hjl (j := 3) (v := .int .i64 c.n) (by rw [hc]; rfl)
    obtain ⟨kb, hkb⟩ : ∃ b, keyB c = b := ⟨_, rfl⟩
    have HKB := Lib.hid hkb
    have HKY : Hid (∀ wx, Calls Tryz.prog 95 #[.agg #[.int .i64 c.kind, .int .i64 c.int, .string c.str, .int .i64 c.n]] wx fun e w' => e = .returned (.bool kb) ∧ Below wx.heap.size wx w') := Lib.hid (fun wx => by rw [← hkb]; exact key6_any c wx hck)
    have HCC := Lib.hid hc
    clear hc hcl hkb hsa
    cases kb with
    | false =>
     have hE : E = none := by
      rw [← HS.out, HM1.out]
      refine pairs_none (fun c' hc' => ?_)
      rw [HCL.out] at hc'
      injection hc' with hc'
      subst hc'
      rw [keyOk_eq, HKB.out]
      rfl
     subst hE
     clear hlast
     go_wp2_with (first
      | (go_at_call 95; (with_reducible refine (HKY.out _).mono ?_); rintro e w1 ⟨rfl, hb1⟩; have HB1 := Lib.hid (below_call' hb1 HB.out HB.out.size); clear hb1))
     go_returns
     exact ⟨rfl, HB1.out⟩
    | true =>
     cases last with
     | none =>
      have hk00 : k = 0 := by
       by_cases h : 0 < k
       ·exact absurd (hlast.2 h) (by simp)
       ·omega
      have hkn : ¬ ((0 : Int) < (k : Int)) := by omega
      clear hk00
      have HKO : Hid (keyOk none c = true) := Lib.hid (by rw [keyOk_eq, HKB.out]; rfl)
      cases hr : px l (s.j + 1) with
      | none =>
       have hE : E = none := by rw [← HS.out, HM1.out]; exact pairs_none2 hr
       subst hE
       have HNX : Hid (∀ wx, SlAt wx (some ⟨bA, off, none⟩) 4 CellD.cells l → Calls Tryz.prog 68 #[.slice (some ⟨bA, off, none⟩) l.length cap, .int .i64 ((s.j : Int) + 1)] wx fun e w' => e = .returned (.int .i64 (-1)) ∧ Below wx.heap.size wx w') := Lib.hid (fun wx hx => by
        have := HN.out (s.j + 1) (by omega) (by omega) wx hx
        rw [hr] at this
        simpa [shR] using this)
       clear hr hlast
       go_wp2_with (first
        | (go_at_call 95; (with_reducible refine (HKY.out _).mono ?_); rintro e w1 ⟨rfl, hb1⟩; have hy1 := below_call' hb1 HB.out HB.out.size; have HB1 := Lib.hid hy1; have d2 := (HA.out.below hy1).cell hjl (j := 2) (v := .string c.str) (by rw [HCC.out]; rfl); clear hb1 hy1)
        | (go_at_call 68; (with_reducible refine (HNX.out _ (HA.out.below HB1.out)).mono ?_); rintro e w2 ⟨rfl, hb2⟩; have HB2 := Lib.hid (below_call' hb2 HB1.out HB1.out.size); clear hb2))
       go_returns
       exact ⟨rfl, HB2.out⟩
      | some r =>
       have had := px_adv hr
       have h1 := had.1
       have h2 := had.2
       have hr0 : ¬ ((r.j : Int) < 0) := by omega
       have hE : pairs l (px l) 0 (N - (k + 1)) (some c.str) ⟨r.j, max s.d (0 + r.d), s.b + (quotedN c.str + 1) + r.b⟩ = E := by rw [← HS.out, HM1.out, HM.out]; exact (pairs_some HCL.out HKO.out hr).symm
       have HEE := Lib.hid hE
       have HNX : Hid (∀ wx, SlAt wx (some ⟨bA, off, none⟩) 4 CellD.cells l → Calls Tryz.prog 68 #[.slice (some ⟨bA, off, none⟩) l.length cap, .int .i64 ((s.j : Int) + 1)] wx fun e w' => e = .returned (.int .i64 (r.j : Nat)) ∧ Below wx.heap.size wx w') := Lib.hid (fun wx hx => by
        have := HN.out (s.j + 1) (by omega) (by omega) wx hx
        rw [hr] at this
        simpa [shR] using this)
       clear hr hlast hE had
       go_wp2_with (first
        | (go_at_call 95; (with_reducible refine (HKY.out _).mono ?_); rintro e w1 ⟨rfl, hb1⟩; have hy1 := below_call' hb1 HB.out HB.out.size; have HB1 := Lib.hid hy1; have d2 := (HA.out.below hy1).cell hjl (j := 2) (v := .string c.str) (by rw [HCC.out]; rfl); clear hb1 hy1)
        | (go_at_call 68; (with_reducible refine (HNX.out _ (HA.out.below HB1.out)).mono ?_); rintro e w2 ⟨rfl, hb2⟩; have HB2 := Lib.hid (below_call' hb2 HB1.out HB1.out.size); clear hb2))
       refine ⟨⟨k + 1, ⟨r.j, max s.d (0 + r.d), s.b + (quotedN c.str + 1) + r.b⟩, some c.str, by omega, rfl, rfl, by simp, by simp; omega, h2, by simp, HEE, HB2.out⟩, by simp [intOf]; omega⟩
     | some la =>
      have hkp : 0 < k := hlast.1 rfl
      have hkp' : (0 : Int) < (k : Int) := by omega
      have hls : lastS (some la) = la := rfl
      rw [hls]
      cases hs : sleB c.str la with
      | true =>
       have h5 : (Op.bytesLess c.str.toList la.toList || c.str.toList == la.toList) = true := hs
       have hE : E = none := by
        rw [← HS.out, HM1.out]
        refine pairs_none (fun c' hc' => ?_)
        rw [HCL.out] at hc'
        injection hc' with hc'
        subst hc'
        rw [keyOk_eq, HKB.out]
        simp [hs]
       subst hE
       clear hlast hs hls
       go_wp2_with (first
        | (go_at_call 95; (with_reducible refine (HKY.out _).mono ?_); rintro e w1 ⟨rfl, hb1⟩; have hy1 := below_call' hb1 HB.out HB.out.size; have HB1 := Lib.hid hy1; have d2 := (HA.out.below hy1).cell hjl (j := 2) (v := .string c.str) (by rw [HCC.out]; rfl); clear hb1 hy1))
       go_returns
       exact ⟨rfl, HB1.out⟩
      | false =>
       have h5 : (Op.bytesLess c.str.toList la.toList || c.str.toList == la.toList) = false := hs
       have HKO : Hid (keyOk (some la) c = true) := Lib.hid (by rw [keyOk_eq, HKB.out]; simp [hs])
       cases hr : px l (s.j + 1) with
       | none =>
        have hE : E = none := by rw [← HS.out, HM1.out]; exact pairs_none2 hr
        subst hE
        have HNX : Hid (∀ wx, SlAt wx (some ⟨bA, off, none⟩) 4 CellD.cells l → Calls Tryz.prog 68 #[.slice (some ⟨bA, off, none⟩) l.length cap, .int .i64 ((s.j : Int) + 1)] wx fun e w' => e = .returned (.int .i64 (-1)) ∧ Below wx.heap.size wx w') := Lib.hid (fun wx hx => by
         have := HN.out (s.j + 1) (by omega) (by omega) wx hx
         rw [hr] at this
         simpa [shR] using this)
        clear hr hlast hs hls
        go_wp2_with (first
         | (go_at_call 95; (with_reducible refine (HKY.out _).mono ?_); rintro e w1 ⟨rfl, hb1⟩; have hy1 := below_call' hb1 HB.out HB.out.size; have HB1 := Lib.hid hy1; have d2 := (HA.out.below hy1).cell hjl (j := 2) (v := .string c.str) (by rw [HCC.out]; rfl); clear hb1 hy1)
         | (go_at_call 68; (with_reducible refine (HNX.out _ (HA.out.below HB1.out)).mono ?_); rintro e w2 ⟨rfl, hb2⟩; have HB2 := Lib.hid (below_call' hb2 HB1.out HB1.out.size); clear hb2))
        go_returns
        exact ⟨rfl, HB2.out⟩
       | some r =>
        have had := px_adv hr
        have h1 := had.1
        have h2 := had.2
        have hr0 : ¬ ((r.j : Int) < 0) := by omega
        have hE : pairs l (px l) 0 (N - (k + 1)) (some c.str) ⟨r.j, max s.d (0 + r.d), s.b + (quotedN c.str + 1) + r.b⟩ = E := by rw [← HS.out, HM1.out, HM.out]; exact (pairs_some HCL.out HKO.out hr).symm
        have HEE := Lib.hid hE
        have HNX : Hid (∀ wx, SlAt wx (some ⟨bA, off, none⟩) 4 CellD.cells l → Calls Tryz.prog 68 #[.slice (some ⟨bA, off, none⟩) l.length cap, .int .i64 ((s.j : Int) + 1)] wx fun e w' => e = .returned (.int .i64 (r.j : Nat)) ∧ Below wx.heap.size wx w') := Lib.hid (fun wx hx => by
         have := HN.out (s.j + 1) (by omega) (by omega) wx hx
         rw [hr] at this
         simpa [shR] using this)
        clear hr hlast hE had hs hls
        go_wp2_with (first
         | (go_at_call 95; (with_reducible refine (HKY.out _).mono ?_); rintro e w1 ⟨rfl, hb1⟩; have hy1 := below_call' hb1 HB.out HB.out.size; have HB1 := Lib.hid hy1; have d2 := (HA.out.below hy1).cell hjl (j := 2) (v := .string c.str) (by rw [HCC.out]; rfl); clear hb1 hy1)
         | (go_at_call 68; (with_reducible refine (HNX.out _ (HA.out.below HB1.out)).mono ?_); rintro e w2 ⟨rfl, hb2⟩; have HB2 := Lib.hid (below_call' hb2 HB1.out HB1.out.size); clear hb2))
        refine ⟨⟨k + 1, ⟨r.j, max s.d (0 + r.d), s.b + (quotedN c.str + 1) + r.b⟩, some c.str, by omega, rfl, rfl, by simp, by simp; omega, h2, by simp, HEE, HB2.out⟩, by simp [intOf]; omega⟩
  ·have e : k = N := by omega
   subst e
   have hE : E = some s := by rw [← HS.out, Nat.sub_self]; rfl
   subst hE
   clear hlast
   go_wp2_with (fail)
   go_returns
   exact ⟨rfl, HB.out⟩
end Go.Proofs.YtahcjgjigbedoaaGreatDoor
