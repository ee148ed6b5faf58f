/- Events: the program's event.Check and the reference's find the same error. Events: the program's event.Check. The law's look at the size of an event. -/
import Derived.Test.YtahcjgjigbedoaaGreatDoorB1
import Derived.Test.YtahcjgjigbedoaaGreatDoorGD10
import Derived.Test.YtahcjgjigbedoaaGreatDoorR10
set_option linter.unusedVariables false
set_option linter.unusedSimpArgs false
namespace Go.Proofs.YtahcjgjigbedoaaGreatDoor
open Go.RowKit
set_option maxRecDepth 100000
structure EvD where
 id : ByteArray
 tenant : ByteArray
 source : ByteArray
 key : ByteArray
 at' : Int
 cause : ByteArray
 body : ValD
/-- An event as a value. -/
def EvV (w : World) (v : Value) (e : EvD) : Prop := ∃ u, v = .agg #[.string e.id, .string e.tenant, .string e.source, .string e.key, .int .i64 e.at', .string e.cause, u] ∧ ValV w u e.body
theorem EvV.below {w w' : World} {v : Value} {e : EvD} (h : EvV w v e) (hb : Below w.heap.size w w') : EvV w' v e := by
 obtain ⟨u, rfl, h1⟩ := h; exact ⟨u, rfl, h1.below hb⟩
def EvSmall (e : EvD) : Prop := e.id.size ≤ 4294967296 ∧ e.tenant.size ≤ 4294967296 ∧ e.source.size ≤ 4294967296 ∧ e.key.size ≤ 4294967296 ∧ e.cause.size ≤ 4294967296 ∧ e.body.length ≤ 1000000 ∧ ∀ c ∈ e.body, okC c
def optB (s : ByteArray) : Bool := s.toList.isEmpty || idB s
def evNames (e : EvD) : Bool := idB e.id && (idB e.tenant && (idB e.source && (optB e.key && optB e.cause)))
/-- The error of an event. -/
def evR (e : EvD) : Int := if evNames e = false then 4 else if e.at' < 0 ∨ 1073741824 < e.at' then 2 else checkF e.body
theorem opt_empty {s : ByteArray} (h : s.toList = []) : optB s = true := by simp [optB, h]
theorem opt_some {s : ByteArray} (h : ¬ s.toList = []) : optB s = idB s := by
 unfold optB
 have : s.toList.isEmpty = false := by simpa using h
 rw [this, Bool.false_or]
attribute [local go_sem] cell_alloc_is
theorem optional_any (s : ByteArray) (w : World) (hs : s.size ≤ 140737488351232) : Calls Tryz.prog 29 #[.string s] w fun e w' => e = .returned (.bool (optB s)) ∧ w' = w := by
 have HI := Lib.hid (rid_any s w hs)
 by_cases h : s.toList = []
 ·rw [opt_empty h]
  have h2 : s.toList.isEmpty = true := by simpa using h
  go_enter Tryz.func29, Tryz.ntmps29
  go_wp2_with (fail)
  go_ret
  exact ⟨rfl, rfl⟩
 ·rw [opt_some h]
  have h2 : s.toList.isEmpty = false := by simpa using h
  go_enter Tryz.func29, Tryz.ntmps29
  go_wp2_with (first | (go_at_call 28; (with_reducible refine HI.out.mono ?_); rintro e w1 ⟨rfl, rfl⟩))
  go_returns
  exact ⟨rfl, rfl⟩
set_option maxHeartbeats 8000000 in
theorem revent_any (ev : EvD) (v : Value) (w : World) (h : EvV w v ev) (hp : Pow w) (hs : EvSmall ev) :
  Calls Tryz.prog 16 #[v] w fun e w' => e = .returned (.int .i64 (evR ev)) ∧ Below w.heap.size w w' := by
 obtain ⟨P, hP⟩ : ∃ P : Ending → World → Prop, (fun e w' => e = .returned (.int .i64 (evR ev)) ∧ Below w.heap.size w w') = P := ⟨_, rfl⟩
 rw [hP]
 have HP := Lib.hid hP
 obtain ⟨id, tn, so, ky, tm, ca, bd⟩ := ev
 obtain ⟨u, rfl, hu⟩ := h
 obtain ⟨s1, s2, s3, s4, s5, s6, s7⟩ := hs
 dsimp only at hu s1 s2 s3 s4 s5 s6 s7 ⊢
 obtain ⟨A, cap, rfl, hc, hm, hsl⟩ := hu.at
 have HC : Hid (∀ wx, Below w.heap.size w wx → Calls Tryz.prog 30 #[.slice A bd.length cap] wx fun e w' => e = .returned (.int .i64 (checkF bd)) ∧ Below wx.heap.size wx w') := Lib.hid fun wx hb => rcheck_any bd A cap wx (hsl.below hb) (hp.below hb) s6 s7
 have H1 : Hid (∀ wx, Calls Tryz.prog 28 #[.string id] wx fun e w' => e = .returned (.bool (idB id)) ∧ w' = wx) := Lib.hid fun wx => rid_any id wx (by omega)
 have H2 : Hid (∀ wx, Calls Tryz.prog 28 #[.string tn] wx fun e w' => e = .returned (.bool (idB tn)) ∧ w' = wx) := Lib.hid fun wx => rid_any tn wx (by omega)
 have H3 : Hid (∀ wx, Calls Tryz.prog 28 #[.string so] wx fun e w' => e = .returned (.bool (idB so)) ∧ w' = wx) := Lib.hid fun wx => rid_any so wx (by omega)
 have H4 : Hid (∀ wx, Calls Tryz.prog 29 #[.string ky] wx fun e w' => e = .returned (.bool (optB ky)) ∧ w' = wx) := Lib.hid fun wx => optional_any ky wx (by omega)
 have H5 : Hid (∀ wx, Calls Tryz.prog 29 #[.string ca] wx fun e w' => e = .returned (.bool (optB ca)) ∧ w' = wx) := Lib.hid fun wx => optional_any ca wx (by omega)
 obtain ⟨N, hN⟩ : ∃ N, bd.length = N := ⟨_, rfl⟩
 rw [hN] at HC ⊢
 obtain ⟨ck, hck⟩ : ∃ c, checkF bd = c := ⟨_, rfl⟩
 have HR : Hid (evR ⟨id, tn, so, ky, tm, ca, bd⟩ = if (idB id && (idB tn && (idB so && (optB ky && optB ca)))) = false then 4 else if tm < 0 ∨ 1073741824 < tm then 2 else ck) := Lib.hid (by rw [← hck]; rfl)
 rw [hck] at HC
 obtain ⟨b1, h1⟩ : ∃ b, idB id = b := ⟨_, rfl⟩
 obtain ⟨b2, h2⟩ : ∃ b, idB tn = b := ⟨_, rfl⟩
 obtain ⟨b3, h3⟩ : ∃ b, idB so = b := ⟨_, rfl⟩
 obtain ⟨b4, h4⟩ : ∃ b, optB ky = b := ⟨_, rfl⟩
 obtain ⟨b5, h5⟩ : ∃ b, optB ca = b := ⟨_, rfl⟩
 rw [h1] at H1
 rw [h2] at H2
 rw [h3] at H3
 rw [h4] at H4
 rw [h5] at H5
 rw [h1, h2, h3, h4, h5] at HR
 have hX := Blk.new w 24 #[.string id, .string tn, .string so, .string ky, .int .i64 tm, .string ca, .slice A N cap]
 have x0 := hX.cell 0 _ rfl
 have x1 := hX.cell 1 _ rfl
 have x2 := hX.cell 2 _ rfl
 have x3 := hX.cell 3 _ rfl
 have x4 := hX.cell 4 _ rfl
 have x5 := hX.cell 5 _ rfl
 have x6 := hX.cell 6 _ rfl
 have HB0 := Lib.hid (below_new w (.cells #[.string id, .string tn, .string so, .string ky, .int .i64 tm, .string ca, .slice A N cap] 24))
 clear hX hP h1 h2 h3 h4 h5 hck hN hc hm hsl hu s1 s2 s3 s4 s5 s6 s7 hp
 cases b1 <;> cases b2 <;> cases b3 <;> cases b4 <;> cases b5
 all_goals
  go_enter Tryz.func16, Tryz.ntmps16
  go_wp2_with (first
   | (go_at_call 28; first | ((with_reducible refine (H1.out _).mono ?_); rintro e w1 ⟨rfl, hw1⟩; rw [hw1]; clear hw1 w1) | ((with_reducible refine (H2.out _).mono ?_); rintro e w1 ⟨rfl, hw1⟩; rw [hw1]; clear hw1 w1) | ((with_reducible refine (H3.out _).mono ?_); rintro e w1 ⟨rfl, hw1⟩; rw [hw1]; clear hw1 w1))
   | (go_at_call 29; first | ((with_reducible refine (H4.out _).mono ?_); rintro e w1 ⟨rfl, hw1⟩; rw [hw1]; clear hw1 w1) | ((with_reducible refine (H5.out _).mono ?_); rintro e w1 ⟨rfl, hw1⟩; rw [hw1]; clear hw1 w1))
   | (go_at_call 30; (with_reducible refine (HC.out _ HB0.out).mono ?_); rintro e w1 ⟨rfl, hb1⟩; have HB1 := Lib.hid (below_call hb1 HB0.out); clear hb1))
  all_goals
   rw [← HP.out]
   first
    | exact ⟨by rw [HR.out]; rfl, HB0.out⟩
    | exact ⟨by rw [HR.out, if_neg (by simp), if_pos (by omega)]; try rfl, HB0.out⟩
    | exact ⟨by rw [HR.out, if_neg (by simp), if_neg (by omega)]; try rfl, HB1.out⟩
end Go.Proofs.YtahcjgjigbedoaaGreatDoor
namespace Go.Proofs.YtahcjgjigbedoaaGreatDoor
open Go.RowKit
set_option maxRecDepth 100000
theorem blk7 {w : World} {g : Nat} {t : TypeId} {v0 v1 v2 v3 v4 v5 v6 : Value} (h : Blk w g t #[v0, v1, v2, v3, v4, v5, v6]) : w.cell? ⟨g, 0, none⟩ = some v0 ∧ w.cell? ⟨g, 1, none⟩ = some v1 ∧ w.cell? ⟨g, 2, none⟩ = some v2 ∧ w.cell? ⟨g, 3, none⟩ = some v3 ∧ w.cell? ⟨g, 4, none⟩ = some v4 ∧ w.cell? ⟨g, 5, none⟩ = some v5 ∧ w.cell? ⟨g, 6, none⟩ = some v6 :=
 ⟨h.cell 0 _ rfl, h.cell 1 _ rfl, h.cell 2 _ rfl, h.cell 3 _ rfl, h.cell 4 _ rfl, h.cell 5 _ rfl, h.cell 6 _ rfl⟩
attribute [local go_sem] cell_alloc_is
set_option maxHeartbeats 8000000 in
theorem cevent_any (ev : EvD) (v : Value) (w : World) (h : EvV w v ev) (hp : Pow w) (hs : EvSmall ev) :
  Calls Tryz.prog 13 #[v] w fun e w' => e = .returned (.int .i64 (evR ev)) ∧ Below w.heap.size w w' := by
 obtain ⟨P, hP⟩ : ∃ P : Ending → World → Prop, (fun e w' => e = .returned (.int .i64 (evR ev)) ∧ Below w.heap.size w w') = P := ⟨_, rfl⟩
 rw [hP]
 have HP := Lib.hid hP
 obtain ⟨id, tn, so, ky, tm, ca, bd⟩ := ev
 obtain ⟨u, rfl, hu⟩ := h
 obtain ⟨s1, s2, s3, s4, s5, s6, s7⟩ := hs
 dsimp only at hu s1 s2 s3 s4 s5 s6 s7 ⊢
 obtain ⟨A, cap, rfl, hc, hm, hsl⟩ := hu.at
 have HC : Hid (∀ wx, Below w.heap.size w wx → Calls Tryz.prog 26 #[.slice A bd.length cap] wx fun e w' => e = .returned (.int .i64 (checkF bd)) ∧ Below wx.heap.size wx w') := Lib.hid fun wx hb => vcheck_any bd A cap wx (hsl.below hb) (hp.below hb) s6 hc s7
 have H1 : Hid (∀ wx, Calls Tryz.prog 25 #[.string id] wx fun e w' => e = .returned (.bool (idB id)) ∧ Below wx.heap.size wx w') := Lib.hid fun wx => cid_any id wx (by omega)
 have H2 : Hid (∀ wx, Calls Tryz.prog 25 #[.string tn] wx fun e w' => e = .returned (.bool (idB tn)) ∧ Below wx.heap.size wx w') := Lib.hid fun wx => cid_any tn wx (by omega)
 have H3 : Hid (∀ wx, Calls Tryz.prog 25 #[.string so] wx fun e w' => e = .returned (.bool (idB so)) ∧ Below wx.heap.size wx w') := Lib.hid fun wx => cid_any so wx (by omega)
 have H4 : Hid (∀ wx, Calls Tryz.prog 25 #[.string ky] wx fun e w' => e = .returned (.bool (idB ky)) ∧ Below wx.heap.size wx w') := Lib.hid fun wx => cid_any ky wx (by omega)
 have H5 : Hid (∀ wx, Calls Tryz.prog 25 #[.string ca] wx fun e w' => e = .returned (.bool (idB ca)) ∧ Below wx.heap.size wx w') := Lib.hid fun wx => cid_any ca wx (by omega)
 obtain ⟨N, hN⟩ : ∃ N, bd.length = N := ⟨_, rfl⟩
 rw [hN] at HC ⊢
 obtain ⟨ck, hck⟩ : ∃ c, checkF bd = c := ⟨_, rfl⟩
 have HR : Hid (evR ⟨id, tn, so, ky, tm, ca, bd⟩ = if (idB id && (idB tn && (idB so && (optB ky && optB ca)))) = false then 4 else if tm < 0 ∨ 1073741824 < tm then 2 else ck) := Lib.hid (by rw [← hck]; rfl)
 rw [hck] at HC
 obtain ⟨b1, h1⟩ : ∃ b, idB id = b := ⟨_, rfl⟩
 obtain ⟨b2, h2⟩ : ∃ b, idB tn = b := ⟨_, rfl⟩
 obtain ⟨b3, h3⟩ : ∃ b, idB so = b := ⟨_, rfl⟩
 rw [h1] at H1
 rw [h2] at H2
 rw [h3] at H3
 rw [h1, h2, h3] at HR
 have hX := Blk.new w 24 #[.string id, .string tn, .string so, .string ky, .int .i64 tm, .string ca, .slice A N cap]
 have HX := Lib.hid hX
 have x := blk7 hX
 have HB := Lib.hid (below_new w (.cells #[.string id, .string tn, .string so, .string ky, .int .i64 tm, .string ca, .slice A N cap] 24))
 clear hX hP h1 h2 h3 hck hN hc hm hsl hu s1 s2 s3 s4 s5 s6 s7 hp
 cases b1 <;> cases b2 <;> cases b3
 case true.true.true =>
  by_cases k1 : ky.toList = []
  all_goals by_cases c1 : ca.toList = []
  all_goals
   obtain ⟨b4, h4⟩ : ∃ b, idB ky = b := ⟨_, rfl⟩
   obtain ⟨b5, h5⟩ : ∃ b, idB ca = b := ⟨_, rfl⟩
   rw [h4] at H4
   rw [h5] at H5
   first | rw [opt_empty k1] at HR | rw [opt_some k1, h4] at HR
   first | rw [opt_empty c1] at HR | rw [opt_some c1, h5] at HR
   clear h4 h5
   first | (have k2 : ky.toList.isEmpty = true := by simpa using k1) | (have k2 : ky.toList.isEmpty = false := by simpa using k1)
   first | (have c2 : ca.toList.isEmpty = true := by simpa using c1) | (have c2 : ca.toList.isEmpty = false := by simpa using c1)
   cases b4 <;> cases b5
  all_goals
   go_enter Tryz.func13, Tryz.ntmps13
   go_wp2_with (first
    | (go_at_call 25; first | ((with_reducible refine (H1.out _).mono ?_); rintro e w1 ⟨rfl, hb1⟩; have HX := Lib.hid (HX.out.below hb1); have HB := Lib.hid (below_call' hb1 HB.out HB.out.size); clear hb1 x; have x := blk7 HX.out) | ((with_reducible refine (H2.out _).mono ?_); rintro e w1 ⟨rfl, hb1⟩; have HX := Lib.hid (HX.out.below hb1); have HB := Lib.hid (below_call' hb1 HB.out HB.out.size); clear hb1 x; have x := blk7 HX.out) | ((with_reducible refine (H3.out _).mono ?_); rintro e w1 ⟨rfl, hb1⟩; have HX := Lib.hid (HX.out.below hb1); have HB := Lib.hid (below_call' hb1 HB.out HB.out.size); clear hb1 x; have x := blk7 HX.out) | ((with_reducible refine (H4.out _).mono ?_); rintro e w1 ⟨rfl, hb1⟩; have HX := Lib.hid (HX.out.below hb1); have HB := Lib.hid (below_call' hb1 HB.out HB.out.size); clear hb1 x; have x := blk7 HX.out) | ((with_reducible refine (H5.out _).mono ?_); rintro e w1 ⟨rfl, hb1⟩; have HX := Lib.hid (HX.out.below hb1); have HB := Lib.hid (below_call' hb1 HB.out HB.out.size); clear hb1 x; have x := blk7 HX.out))
    | (go_at_call 26; (with_reducible refine (HC.out _ HB.out).mono ?_); rintro e w1 ⟨rfl, hb1⟩; have HB1 := Lib.hid (below_call' hb1 HB.out HB.out.size); clear hb1))
   all_goals
    rw [← HP.out]
    first
     | exact ⟨by rw [HR.out]; rfl, HB.out⟩
     | exact ⟨by rw [HR.out, if_neg (by simp), if_pos (by omega)]; try rfl, HB.out⟩
     | exact ⟨by rw [HR.out, if_neg (by simp), if_neg (by omega)]; try rfl, HB1.out⟩
 all_goals
  go_enter Tryz.func13, Tryz.ntmps13
  go_wp2_with (first
   | (go_at_call 25; first | ((with_reducible refine (H1.out _).mono ?_); rintro e w1 ⟨rfl, hb1⟩; have HX := Lib.hid (HX.out.below hb1); have HB := Lib.hid (below_call' hb1 HB.out HB.out.size); clear hb1 x; have x := blk7 HX.out) | ((with_reducible refine (H2.out _).mono ?_); rintro e w1 ⟨rfl, hb1⟩; have HX := Lib.hid (HX.out.below hb1); have HB := Lib.hid (below_call' hb1 HB.out HB.out.size); clear hb1 x; have x := blk7 HX.out) | ((with_reducible refine (H3.out _).mono ?_); rintro e w1 ⟨rfl, hb1⟩; have HX := Lib.hid (HX.out.below hb1); have HB := Lib.hid (below_call' hb1 HB.out HB.out.size); clear hb1 x; have x := blk7 HX.out)))
  rw [← HP.out]
  exact ⟨by rw [HR.out]; rfl, HB.out⟩
end Go.Proofs.YtahcjgjigbedoaaGreatDoor
namespace Go.Proofs.YtahcjgjigbedoaaGreatDoor
open Go.RowKit
set_option maxRecDepth 100000
def cells36 (l : ValD) : Prop := l.length ≤ 250 ∧ ∀ c ∈ l, c.str.size ≤ 250
attribute [local go_sem] cell_alloc_is
set_option maxHeartbeats 2000000 in
theorem cells36_any (l : ValD) (v : Value) (w : World) (h : ValV w v l) (hs : ∀ c ∈ l, c.str.size ≤ 140737488351232) :
  Calls Tryz.prog 9 #[v] w fun e w' => (∃ b, e = .returned (.bool b) ∧ (b = true → cells36 l)) ∧ w' = w := by
 obtain ⟨P, hP⟩ : ∃ P : Ending → World → Prop, (fun e w' => (∃ b, e = .returned (.bool b) ∧ (b = true → cells36 l)) ∧ w' = w) = P := ⟨_, rfl⟩
 rw [hP]
 have HP := Lib.hid hP
 obtain ⟨A, cap, rfl, hc, hm, hsl⟩ := h.at
 have HS := Lib.hid hsl
 have HSZ := Lib.hid hs
 clear h hsl hs hc hP
 by_cases hl : (l.length : Int) ≤ 250
 ·go_enter Tryz.func9, Tryz.ntmps9
  go_wp2_with (fail)
  go_loop [3, 9] (fun _ i => ∃ k : Nat, k ≤ l.length ∧ i = .int .i64 k ∧ Hid (∀ c ∈ l.take k, c.str.size ≤ 250)) (fun _ i => l.length - (intOf i).toNat)
  case atStart => exact ⟨0, Nat.zero_le _, rfl, Lib.hid (by simp)⟩
  case round =>
   obtain ⟨k, hk, rfl, HA⟩ := hrel
   have hk0 : (0 : Int) ≤ (k : Int) := by omega
   by_cases hlt : k < l.length
   ·have hlt' : (k : Int) < (l.length : Int) := by omega
    obtain ⟨bA, off, rfl, _⟩ := HS.out.ptr hlt
    obtain ⟨s, hsk⟩ : ∃ s, l[k].str = s := ⟨_, rfl⟩
    have c2 := HS.out.cell hlt (j := 2) (v := .string s) (by rw [← hsk]; rfl)
    have hz : s.size ≤ 140737488351232 := by rw [← hsk]; exact HSZ.out _ (List.getElem_mem hlt)
    have HK := Lib.hid hsk
    clear hsk
    by_cases hb : (s.size : Int) ≤ 250
    ·have HB := Lib.hid hb
     go_wp2_with (fail)
     exact ⟨⟨k + 1, by omega, by simp, Lib.hid (by
      rw [List.take_succ_eq_append_getElem hlt]
      intro c hc
      rcases List.mem_append.1 hc with hc | hc
      ·exact HA.out c hc
      ·have : c = l[k] := by simpa using hc
       rw [this, HK.out]; have := HB.out; omega)⟩, by simp [intOf]; omega⟩
    ·have hb2 : (250 : Int) < (s.size : Int) := by omega
     clear hb
     go_wp2_with (fail)
     rw [← HP.out]
     exact ⟨⟨false, rfl, by simp⟩, rfl⟩
   ·have e : k = l.length := by omega
    have HE : Hid (cells36 l) := Lib.hid ⟨by omega, fun c hc => HA.out c (by rw [e, List.take_length]; exact hc)⟩
    subst e
    go_wp2_with (fail)
    rw [← HP.out]
    exact ⟨⟨true, rfl, fun _ => HE.out⟩, rfl⟩
 ·have h2 : (250 : Int) < (l.length : Int) := by omega
  clear hl
  go_enter Tryz.func9, Tryz.ntmps9
  go_wp2_with (fail)
  rw [← HP.out]
  exact ⟨⟨false, rfl, by simp⟩, rfl⟩
def light36 (e : EvD) : Prop := e.id.size ≤ 100 ∧ e.tenant.size ≤ 100 ∧ e.source.size ≤ 100 ∧ e.key.size ≤ 100 ∧ e.cause.size ≤ 100 ∧ cells36 e.body
set_option maxHeartbeats 4000000 in
theorem light_any (ev : EvD) (v : Value) (w : World) (h : EvV w v ev) (hs : ∀ c ∈ ev.body, c.str.size ≤ 140737488351232) :
  Calls Tryz.prog 4 #[v] w fun e w' => (∃ b, e = .returned (.bool b) ∧ (b = true → light36 ev)) ∧ Below w.heap.size w w' := by
 obtain ⟨P, hP⟩ : ∃ P : Ending → World → Prop, (fun e w' => (∃ b, e = .returned (.bool b) ∧ (b = true → light36 ev)) ∧ Below w.heap.size w w') = P := ⟨_, rfl⟩
 rw [hP]
 have HP := Lib.hid hP
 obtain ⟨id, tn, so, ky, tm, ca, bd⟩ := ev
 obtain ⟨u, rfl, hu⟩ := h
 dsimp only at hu hs
 obtain ⟨A, n, cap, rfl⟩ := hu.shape
 have HC : Hid (∀ wx, Below w.heap.size w wx → Calls Tryz.prog 9 #[.slice A n cap] wx fun e w' => (∃ b, e = .returned (.bool b) ∧ (b = true → cells36 bd)) ∧ w' = wx) := Lib.hid fun wx hb => cells36_any bd _ wx (hu.below hb) hs
 have HB := Lib.hid (below_new w (.cells #[.string id, .string tn, .string so, .string ky, .int .i64 tm, .string ca, .slice A n cap] 24))
 have hX := Blk.new w 24 #[.string id, .string tn, .string so, .string ky, .int .i64 tm, .string ca, .slice A n cap]
 have x0 := hX.cell 0 _ rfl
 have x1 := hX.cell 1 _ rfl
 have x2 := hX.cell 2 _ rfl
 have x3 := hX.cell 3 _ rfl
 have x5 := hX.cell 5 _ rfl
 have x6 := hX.cell 6 _ rfl
 have HL : Hid (((id.size : Int) ≤ 100 ∧ (tn.size : Int) ≤ 100 ∧ (so.size : Int) ≤ 100 ∧ (ky.size : Int) ≤ 100 ∧ (ca.size : Int) ≤ 100) → cells36 bd → light36 ⟨id, tn, so, ky, tm, ca, bd⟩) := Lib.hid fun h h2 => ⟨by show id.size ≤ 100; omega, by show tn.size ≤ 100; omega, by show so.size ≤ 100; omega, by show ky.size ≤ 100; omega, by show ca.size ≤ 100; omega, h2⟩
 clear hX hu hs hP
 go_enter Tryz.func4, Tryz.ntmps4
 go_wp2_with (first
  | (go_at_call 9; (with_reducible refine (HC.out _ HB.out).mono ?_); rintro e w1 ⟨⟨bb, rfl, hbb⟩, hw1⟩; rw [hw1]; clear hw1 w1; have HBB := Lib.hid hbb; clear hbb))
 all_goals
  rw [← HP.out]
  first
   | exact ⟨⟨_, rfl, fun e => HL.out (by omega) (HBB.out e)⟩, HB.out⟩
   | exact ⟨⟨_, rfl, by simp⟩, HB.out⟩
   | exact ⟨⟨_, rfl, by simp; omega⟩, HB.out⟩
end Go.Proofs.YtahcjgjigbedoaaGreatDoor
