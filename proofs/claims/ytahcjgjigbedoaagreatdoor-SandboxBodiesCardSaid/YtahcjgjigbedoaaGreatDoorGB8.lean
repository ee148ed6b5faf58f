/- The body of an event: the program's. The law wakes: the example's event, its code, the body of its event. The body of an event: the reference's. -/
import Derived.Test.YtahcjgjigbedoaaGreatDoorGB10
import Derived.Test.YtahcjgjigbedoaaGreatDoorB6
import Derived.Deep.RegionHeld3
import Derived.BigQuiet
import Derived.Deep.QuietTactic
import Derived.Test.YtahcjgjigbedoaaGreatDoorD5
set_option linter.unusedVariables false
set_option linter.unusedSimpArgs false
namespace Go.Proofs.YtahcjgjigbedoaaGreatDoor
open Go.RowKit
set_option maxRecDepth 100000
def kAt : ByteArray := ⟨#[97, 116]⟩
def kBody : ByteArray := ⟨#[98, 111, 100, 121]⟩
def kId : ByteArray := ⟨#[105, 100]⟩
def kKey : ByteArray := ⟨#[107, 101, 121]⟩
def bodyP (e : EvD) : List ValD := [[iCel e.at'], e.body, [sCel e.id], [sCel e.key]]
def bodyK : List ByteArray := [kAt, kBody, kId, kKey]
/-- The body of an event, or its error. -/
def bodyR (e : EvD) : ResD := if evR e ≠ 0 then ([], evR e) else mapR bodyK (bodyP e)
theorem blk_at {w : World} {g : Nat} {t : TypeId} {cs : Array Value} (hg : g = w.heap.size) : Blk (w.alloc (.cells cs t)) g t cs := by subst hg; exact Blk.new _ _ _
theorem Below.al {w w' : World} (h : Below w.heap.size w w') (o : Obj) : Below w.heap.size w (w'.alloc o) := h.alloc h.size o
theorem strs4 {w : World} {g : Nat} {t : TypeId} {a b c d : ByteArray} (h : Blk w g t #[.string a, .string b, .string c, .string d]) : StrsV w (.slice (some ⟨g, 0, none⟩) 4 4) [a, b, c, d] := by
 refine ⟨_, 4, rfl, by simp, fun i row hr => ⟨g, 0, rfl, lt_of_block h, fun j v hv => ?_⟩⟩
 match i, hr with
 | 0, hr | 1, hr | 2, hr | 3, hr =>
  simp at hr
  subst hr
  cases j with
  | zero => simp at hv; subst hv; simpa using h.cell _ _ rfl
  | succ j => simp at hv
 | i + 4, hr => simp at hr
theorem vals4 {w : World} {g : Nat} {t : TypeId} {a b c d : Value} {x y z u : ValD} (h : Blk w g t #[a, b, c, d]) (ha : ValV w a x) (hb : ValV w b y) (hc : ValV w c z) (hd : ValV w d u) : ValsV w (.slice (some ⟨g, 0, none⟩) 4 4) [x, y, z, u] := by
 refine ⟨_, 4, [[a], [b], [c], [d]], rfl, by simp, by simp, fun i row hr => ⟨g, 0, rfl, lt_of_block h, fun j v hv => ?_⟩, rfl, fun i hi hi' => ?_⟩
 ·match i, hr with
  | 0, hr | 1, hr | 2, hr | 3, hr =>
   simp at hr
   subst hr
   cases j with
   | zero => simp at hv; subst hv; simpa using h.cell _ _ rfl
   | succ j => simp at hv
  | i + 4, hr => simp at hr
 ·match i, hi with
  | 0, _ => exact ⟨a, rfl, ha⟩
  | 1, _ => exact ⟨b, rfl, hb⟩
  | 2, _ => exact ⟨c, rfl, hc⟩
  | 3, _ => exact ⟨d, rfl, hd⟩
  | i + 4, hi => (simp at hi; omega)
attribute [local go_sem] cell_alloc_is
theorem text1_any (s : ByteArray) (w : World) : Calls Tryz.prog 14 #[.string s] w fun e w' => e = .returned (.slice (some ⟨w.heap.size, 0, none⟩) 1 1) ∧ w' = w.alloc (.cells #[.int .i64 4, .int .i64 0, .string s, .int .i64 0] 47) := by
 go_enter Tryz.func14, Tryz.ntmps14
 go_wp2
 go_returns
 exact ⟨rfl, rfl⟩
theorem okV_body {e : EvD} (h : EvSmall e) (ht : evR e = 0) : ∀ x ∈ bodyP e, OkV x := by
 obtain ⟨s1, s2, s3, s4, s5, s6, s7⟩ := h
 have hr : 0 ≤ e.at' ∧ e.at' ≤ 1073741824 := by
  unfold evR at ht
  split at ht
  ·omega
  ·split at ht
   ·omega
   ·omega
 intro x hx
 simp only [bodyP, List.mem_cons, List.not_mem_nil, or_false] at hx
 rcases hx with rfl | rfl | rfl | rfl
 ·exact (okV_i (by omega) (by omega)).out
 ·exact ⟨s6, s7⟩
 ·exact (okV_s s1).out
 ·exact (okV_s s4).out
set_option maxHeartbeats 16000000 in
theorem cbody_any (ev : EvD) (v : Value) (w : World) (h : EvV w v ev) (hp : Pow w) (hs : EvSmall ev) :
  Calls Tryz.prog 6 #[v] w (RetR w [] (bodyR ev)) := by
 obtain ⟨P, hP⟩ : ∃ P : Ending → World → Prop, RetR w [] (bodyR ev) = P := ⟨_, rfl⟩
 rw [hP]
 have HP := Lib.hid hP
 have HEV : Hid (∀ wx, Below w.heap.size w wx → Calls Tryz.prog 13 #[v] wx fun e w' => e = .returned (.int .i64 (evR ev)) ∧ Below wx.heap.size wx w') := Lib.hid fun wx hb => cevent_any ev v wx (h.below hb) (hp.below hb) hs
 have HBR : Hid (bodyR ev = if evR ev ≠ 0 then ([], evR ev) else mapR bodyK (bodyP ev)) := Lib.hid rfl
 have HOK : Hid (evR ev = 0 → ∀ x ∈ bodyP ev, OkV x) := Lib.hid (okV_body hs)
 have HPW := Lib.hid hp
 obtain ⟨ck, hck⟩ : ∃ c, evR ev = c := ⟨_, rfl⟩
 rw [hck] at HEV HBR HOK
 obtain ⟨id, tn, so, ky, tm, ca, bd⟩ := ev
 obtain ⟨u, rfl, hu⟩ := h
 dsimp only at hu HEV HBR HOK
 have HU := Lib.hid hu
 obtain ⟨A, n, cap, rfl⟩ := hu.shape
 have HX := Lib.hid (Blk.new w 24 #[.string id, .string tn, .string so, .string ky, .int .i64 tm, .string ca, .slice A n cap])
 have HB := Lib.hid (below_new w (.cells #[.string id, .string tn, .string so, .string ky, .int .i64 tm, .string ca, .slice A n cap] 24))
 have x := blk7 HX.out
 clear hP hu hp hs hck
 by_cases h0 : ck = 0
 ·subst h0
  have HM : Hid (∀ wx g16 g28 ga gi gk, Below w.heap.size w wx → Blk wx g16 9 #[.string kAt, .string kBody, .string kId, .string kKey] → Blk wx g28 22 #[.slice (some ⟨ga, 0, none⟩) 1 1, .slice A n cap, .slice (some ⟨gi, 0, none⟩) 1 1, .slice (some ⟨gk, 0, none⟩) 1 1] → Blk wx ga 47 #[.int .i64 3, .int .i64 tm, .string ⟨#[]⟩, .int .i64 0] → Blk wx gi 47 #[.int .i64 4, .int .i64 0, .string id, .int .i64 0] → Blk wx gk 47 #[.int .i64 4, .int .i64 0, .string ky, .int .i64 0] →
   Calls Tryz.prog 15 #[.slice (some ⟨g16, 0, none⟩) 4 4, .slice (some ⟨g28, 0, none⟩) 4 4] wx (RetR wx [] (mapR bodyK (bodyP ⟨id, tn, so, ky, tm, ca, bd⟩)))) := Lib.hid fun wx g16 g28 ga gi gk hb h16 h28 ha hi hk =>
    vmap_any _ _ _ _ wx (strs4 h16) (vals4 h28 (val_blk1 (c := iCel tm) ha) (HU.out.below hb) (val_blk1 (c := sCel id) hi) (val_blk1 (c := sCel ky) hk)) (HPW.out.below hb) (HOK.out rfl) (by intro s hs; simp only [bodyK, List.mem_cons, List.not_mem_nil, or_false] at hs; rcases hs with rfl | rfl | rfl | rfl <;> decide) (by simp [bodyP])
  go_enter Tryz.func6, Tryz.ntmps6
  go_upto_region 6 with (first
   | (go_at_call 13; (with_reducible refine (HEV.out _ HB.out).mono ?_); rintro e w1 ⟨rfl, hb1⟩; have HX1 := Lib.hid (HX.out.below hb1); have HB1 := Lib.hid (below_call' hb1 HB.out HB.out.size); clear hb1 x; have x := blk7 HX1.out))
  obtain ⟨W0, hW0⟩ : ∃ W0, w1.alloc (.cells #[.int .i64 3, .int .i64 tm, .string ⟨#[]⟩, .int .i64 0] 47) = W0 := ⟨_, rfl⟩
  obtain ⟨ga, hga⟩ : ∃ g, w1.heap.size = g := ⟨_, rfl⟩
  have HA0 : Hid (Blk W0 ga 47 #[.int .i64 3, .int .i64 tm, .string ⟨#[]⟩, .int .i64 0]) := Lib.hid (by rw [← hW0, ← hga]; exact Blk.new _ _ _)
  have HX0 : Hid (Blk W0 w.heap.size 24 #[.string id, .string tn, .string so, .string ky, .int .i64 tm, .string ca, .slice A n cap]) := Lib.hid (by rw [← hW0]; exact HX1.out.alloc _)
  have HB0 : Hid (Below w.heap.size w W0) := Lib.hid (by rw [← hW0]; exact HB1.out.alloc HB1.out.size _)
  rw [hW0, hga]
  clear hW0 hga x HX1 HB1
  have x0 := (blk7 HX0.out).1
  have x3 := (blk7 HX0.out).2.2.2.1
  have x6 := (blk7 HX0.out).2.2.2.2.2.2
  have HT : Hid (∀ s wx, Calls Tryz.prog 14 #[.string s] wx fun e w' => e = .returned (.slice (some ⟨wx.heap.size, 0, none⟩) 1 1) ∧ w' = wx.alloc (.cells #[.int .i64 4, .int .i64 0, .string s, .int .i64 0] 47)) := Lib.hid text1_any
  have HK : Hid (∀ W, Below W0.heap.size W0 W → W.cell? ⟨w.heap.size, 0, none⟩ = some (.string id) ∧ W.cell? ⟨w.heap.size, 3, none⟩ = some (.string ky) ∧ W.cell? ⟨w.heap.size, 6, none⟩ = some (.slice A n cap)) := Lib.hid fun W hb => ⟨(blk7 (HX0.out.below hb)).1, (blk7 (HX0.out.below hb)).2.2.2.1, (blk7 (HX0.out.below hb)).2.2.2.2.2.2⟩
  go_region_held3 (fun w' => w'.cell? ⟨w.heap.size, 0, none⟩ = some (.string id) ∧ w'.cell? ⟨w.heap.size, 3, none⟩ = some (.string ky) ∧ w'.cell? ⟨w.heap.size, 6, none⟩ = some (.slice A n cap)) (first | exact HK.out _ HC3.out | (refine HK.out _ ?_; repeat (first | exact Below.refl _ _ | refine Below.al ?_ _ | refine Below.drew ?_ | refine below_drewN ?_ _))) (first
   | (go_at_call 14; (with_reducible refine (HT.out _ _).mono ?_); rintro e w2 ⟨rfl, hw2⟩; rw [hw2]; clear hw2 w2)
   | (go_at_call 15; (refine Calls.mono (HM.out _ _ _ ga _ _ (by refine below_call' (w0 := W0) ?_ HB0.out HB0.out.size; repeat (first | exact Below.refl _ _ | refine Below.al ?_ _ | refine Below.drew ?_ | refine below_drewN ?_ _)) (by repeat (first | exact blk_at (by simp) | exact HA0.out | refine Blk.alloc ?_ _ | refine Blk.drew ?_)) (by repeat (first | exact blk_at (by simp) | exact HA0.out | refine Blk.alloc ?_ _ | refine Blk.drew ?_)) (by repeat (first | exact blk_at (by simp) | exact HA0.out | refine Blk.alloc ?_ _ | refine Blk.drew ?_)) (by repeat (first | exact blk_at (by simp) | exact HA0.out | refine Blk.alloc ?_ _ | refine Blk.drew ?_)) (by repeat (first | exact blk_at (by simp) | exact HA0.out | refine Blk.alloc ?_ _ | refine Blk.drew ?_))) ?_); rintro e w3 ⟨u3, rfl, hu3⟩; have HU3 := Lib.hid hu3; clear hu3; have HC3 : Hid (Below W0.heap.size W0 w3) := Lib.hid (below_call' HU3.out.2.2 (by repeat (first | exact Below.refl _ _ | refine Below.al ?_ _ | refine Below.drew ?_ | refine below_drewN ?_ _)) (by simp; try omega)); have HB3 : Hid (Below w.heap.size w w3) := Lib.hid (below_call' HU3.out.2.2 (by refine below_call' (w0 := W0) ?_ HB0.out HB0.out.size; repeat (first | exact Below.refl _ _ | refine Below.al ?_ _ | refine Below.drew ?_ | refine below_drewN ?_ _)) (by simp; have := HB0.out.size; omega)); have HF3 : Hid (FromC w w3 [] u3) := Lib.hid (HU3.out.2.1.up (by simp; have := HB0.out.size; omega) (Below.refl _ _))))
  all_goals
   go_wp2_with (fail)
   rw [← HP.out, HBR.out, if_neg (by simp)]
   exact ⟨u3, rfl, HU3.out.1, HF3.out, HB3.out⟩
 ·have h1 : (ck != 0) = true := by simpa using h0
  go_enter Tryz.func6, Tryz.ntmps6
  go_wp2_with (first
   | (go_at_call 13; (with_reducible refine (HEV.out _ HB.out).mono ?_); rintro e w1 ⟨rfl, hb1⟩; have HB1 := Lib.hid (below_call' hb1 HB.out HB.out.size); clear hb1 x))
  rw [← HP.out, HBR.out, if_pos h0]
  exact ⟨.slice none 0 0, rfl, RowsV.nil none 0, FromC.none, HB1.out⟩
end Go.Proofs.YtahcjgjigbedoaaGreatDoor
namespace Go.Proofs.YtahcjgjigbedoaaGreatDoor
open Go.RowKit
set_option maxRecDepth 100000
def nCel : CellD := ⟨1, 0, ⟨#[]⟩, 0⟩
def evE : EvD := ⟨⟨#[101]⟩, ⟨#[116]⟩, ⟨#[115]⟩, ⟨#[107]⟩, 5, ⟨#[]⟩, [nCel]⟩
/-- The body of the example's event. -/
def vdE : ValD := mapV bodyK (bodyP evE)
theorem vdE_check : checkF vdE = 0 := by decide +kernel
theorem evE_ok : evR evE = 0 := by decide +kernel
theorem vdE_len : vdE.length = 9 := rfl
theorem body_evE : bodyR evE = (vdE, 0) := by
 have h1 : firstBad (bodyP evE) = 0 := by decide +kernel
 unfold bodyR mapR okR
 rw [evE_ok, h1, if_neg (by simp), if_neg (by decide), if_neg (by simp), show mapV bodyK (bodyP evE) = vdE from rfl, vdE_check, if_pos rfl]
theorem evE_small : EvSmall evE := by
 refine ⟨by decide, by decide, by decide, by decide, by decide, by decide, fun c hc => ?_⟩
 have : c = nCel := by simpa [evE] using hc
 subst this
 exact ⟨by decide, by decide, by decide⟩
theorem vdE_okV : OkV vdE := by
 have h := okV_body evE_small evE_ok
 have := mapM_ok (N := 4) (ps := bodyK.zip (bodyP evE)) (by omega) (fun p hp => by
  have h1 : firstBad (bodyP evE) = 0 := by decide +kernel
  have h2 := (List.of_mem_zip hp).2
  simp only [bodyP, List.mem_cons, List.not_mem_nil, or_false] at h2
  rcases h2 with h2 | h2 | h2 | h2
  all_goals rw [h2]; decide +kernel) (fun p hp => by
  have h2 := (List.of_mem_zip hp).1
  simp only [bodyK, List.mem_cons, List.not_mem_nil, or_false] at h2
  rcases h2 with h2 | h2 | h2 | h2
  all_goals rw [h2]; decide) (fun p hp => h _ (List.of_mem_zip hp).2) (by simp [bodyK, bodyP])
 exact this
attribute [local go_sem] cell_alloc_is
set_option maxHeartbeats 4000000 in
theorem event36_any (w : World) : Calls Tryz.prog 10 #[] w fun e w' => ∃ u, e = .returned u ∧ EvV w' u evE ∧ Below w.heap.size w w' := by
 obtain ⟨P, hP⟩ : ∃ P : Ending → World → Prop, (fun e w' => ∃ u, e = .returned u ∧ EvV w' u evE ∧ Below w.heap.size w w') = P := ⟨_, rfl⟩
 rw [hP]
 have HP := Lib.hid hP
 clear hP
 go_enter Tryz.func10, Tryz.ntmps10
 go_wp2_with (fail)
 have gz := blk7 ((Blk.new w 24 #[.string ⟨#[101]⟩, .string ⟨#[116]⟩, .string ⟨#[115]⟩, .string ⟨#[107]⟩, .int .i64 5, .string ⟨#[]⟩, .slice (some ⟨w.heap.size + 1, 0, none⟩) 1 1]).alloc (.cells #[.int .i64 1, .int .i64 0, .string ⟨#[]⟩, .int .i64 0] 47))
 refine bodyPost_ret (v := .agg #[.string ⟨#[101]⟩, .string ⟨#[116]⟩, .string ⟨#[115]⟩, .string ⟨#[107]⟩, .int .i64 5, .string ⟨#[]⟩, .slice (some ⟨w.heap.size + 1, 0, none⟩) 1 1]) (by simp [results, Tryz.results10, go_sem, gz]) rfl ?_
 rw [← HP.out]
 exact ⟨_, rfl, ⟨_, rfl, val_blk1 (c := nCel) (Blk.second _ _ _ _)⟩, below_2 _ _ _⟩
set_option maxHeartbeats 4000000 in
theorem code36_any (w : World) : Calls Tryz.prog 12 #[] w fun e w' => ∃ gF gI, e = .returned (.agg #[.slice (some ⟨gF, 0, none⟩) 1 1, .slice (some ⟨gI, 0, none⟩) 2 2]) ∧ CodeAt w' gF gI ∧ Below w.heap.size w w' := by
 obtain ⟨P, hP⟩ : ∃ P : Ending → World → Prop, (fun e w' => ∃ gF gI, e = .returned (.agg #[.slice (some ⟨gF, 0, none⟩) 1 1, .slice (some ⟨gI, 0, none⟩) 2 2]) ∧ CodeAt w' gF gI ∧ Below w.heap.size w w') = P := ⟨_, rfl⟩
 rw [hP]
 have HP := Lib.hid hP
 clear hP
 go_enter Tryz.func12, Tryz.ntmps12
 go_wp2_with (fail)
 have gz := blk2 (((Blk.new w 41 #[.slice (some ⟨w.heap.size + 1, 0, none⟩) 1 1, .slice (some ⟨w.heap.size + 1 + 1, 0, none⟩) 2 2]).alloc (.cells #[.string ⟨#[109, 97, 105, 110]⟩, .int .i64 1, .int .i64 1, .int .i64 0, .int .i64 2] 72)).alloc (.cells #[.int .i64 5, .int .i64 0, .string ⟨#[]⟩, .slice none 0 0, .int .i64 20, .int .i64 0, .string ⟨#[]⟩, .slice none 0 0] 75))
 refine bodyPost_ret (v := .agg #[.slice (some ⟨w.heap.size + 1, 0, none⟩) 1 1, .slice (some ⟨w.heap.size + 1 + 1, 0, none⟩) 2 2]) (by simp [results, Tryz.results12, go_sem, gz]) rfl ?_
 rw [← HP.out]
 exact ⟨_, _, rfl, ⟨(Blk.second _ _ _ _).alloc _, Blk.third _ _ _ _ _⟩, below_3 _ _ _ _⟩
end Go.Proofs.YtahcjgjigbedoaaGreatDoor
namespace Go.Proofs.YtahcjgjigbedoaaGreatDoor
open Go.RowKit
set_option maxRecDepth 100000
theorem id_txt {s : ByteArray} (h : idL s = true) : txtB s = true := by
 unfold idL at h
 unfold txtB
 rw [List.all_eq_true] at h ⊢
 intro b hb
 have := h b hb
 simp only [idN, decide_eq_true_eq] at this
 simp only [Bool.and_eq_true, decide_eq_true_eq]
 omega
theorem idB_str {s : ByteArray} (h : idB s = true) : okR [sCel s] = ([sCel s], 0) := by
 unfold idB at h
 simp only [Bool.and_eq_true, decide_eq_true_eq] at h
 unfold okR
 rw [if_pos (check_str (id_txt h.1) (by omega))]
theorem optB_str {s : ByteArray} (h : optB s = true) : okR [sCel s] = ([sCel s], 0) := by
 unfold optB at h
 rw [Bool.or_eq_true] at h
 rcases h with h | h
 ·have hz : s.toList = [] := by simpa using h
  have hd : s.data.toList = [] := by rw [← ByteArray.toList_eq]; exact hz
  unfold okR
  rw [if_pos (check_str (by unfold txtB; rw [hd]; rfl) (by
   have : s.size = s.data.toList.length := by simp
   rw [this, hd]; decide))]
 ·exact idB_str h
theorem evR_parts {e : EvD} (h : evR e = 0) : idB e.id = true ∧ optB e.key = true ∧ 0 ≤ e.at' ∧ e.at' ≤ 1073741824 := by
 unfold evR at h
 split at h
 ·omega
 ·rename_i h1
  split at h
  ·omega
  ·rename_i h2
   have h3 : evNames e = true := by simpa using h1
   simp only [evNames, Bool.and_eq_true] at h3
   exact ⟨h3.1, h3.2.2.2.1, by omega, by omega⟩
attribute [local go_sem] cell_alloc_is
set_option maxHeartbeats 16000000 in
theorem rbody_any (ev : EvD) (v : Value) (w : World) (h : EvV w v ev) (hp : Pow w) (hs : EvSmall ev) :
  Calls Tryz.prog 7 #[v] w (RetR w [] (bodyR ev)) := by
 obtain ⟨P, hP⟩ : ∃ P : Ending → World → Prop, RetR w [] (bodyR ev) = P := ⟨_, rfl⟩
 rw [hP]
 have HP := Lib.hid hP
 have HEV : Hid (∀ wx, Below w.heap.size w wx → Calls Tryz.prog 16 #[v] wx fun e w' => e = .returned (.int .i64 (evR ev)) ∧ Below wx.heap.size wx w') := Lib.hid fun wx hb => revent_any ev v wx (h.below hb) (hp.below hb) hs
 have HBR : Hid (bodyR ev = if evR ev ≠ 0 then ([], evR ev) else mapR bodyK (bodyP ev)) := Lib.hid rfl
 have HOK : Hid (evR ev = 0 → ∀ x ∈ bodyP ev, OkV x) := Lib.hid (okV_body hs)
 have HPT : Hid (evR ev = 0 → idB ev.id = true ∧ optB ev.key = true ∧ 0 ≤ ev.at' ∧ ev.at' ≤ 1073741824) := Lib.hid evR_parts
 have HPW := Lib.hid hp
 have HS : Hid (ev.id.size ≤ 4294967296 ∧ ev.key.size ≤ 4294967296) := Lib.hid ⟨hs.1, hs.2.2.2.1⟩
 obtain ⟨ck, hck⟩ : ∃ c, evR ev = c := ⟨_, rfl⟩
 rw [hck] at HEV HBR HOK HPT
 obtain ⟨id, tn, so, ky, tm, ca, bd⟩ := ev
 obtain ⟨u, rfl, hu⟩ := h
 dsimp only at hu HEV HBR HOK HPT HS
 have HU := Lib.hid hu
 obtain ⟨A, n, cap, rfl⟩ := hu.shape
 have HX := Lib.hid (Blk.new w 24 #[.string id, .string tn, .string so, .string ky, .int .i64 tm, .string ca, .slice A n cap])
 have HB := Lib.hid (below_new w (.cells #[.string id, .string tn, .string so, .string ky, .int .i64 tm, .string ca, .slice A n cap] 24))
 have x := blk7 HX.out
 clear hP hu hp hs hck
 by_cases h0 : ck = 0
 ·subst h0
  have hpt := HPT.out rfl
  have HI : Hid (∀ wx, Below w.heap.size w wx → Calls Tryz.prog 17 #[.int .i64 tm] wx (RetR wx [] ([iCel tm], 0))) := Lib.hid fun wx hb => by
   have := rint_any tm wx (HPW.out.below hb) (by omega) (by omega)
   rwa [okR_int (by simp [inRange]; omega)] at this
  have HS1 : Hid (∀ wx, Below w.heap.size w wx → Calls Tryz.prog 18 #[.string id] wx (RetR wx [] ([sCel id], 0))) := Lib.hid fun wx hb => by
   have := rstr_any id wx (HPW.out.below hb) HS.out.1
   rwa [idB_str hpt.1] at this
  have HS2 : Hid (∀ wx, Below w.heap.size w wx → Calls Tryz.prog 18 #[.string ky] wx (RetR wx [] ([sCel ky], 0))) := Lib.hid fun wx hb => by
   have := rstr_any ky wx (HPW.out.below hb) HS.out.2
   rwa [optB_str hpt.2.1] at this
  have HM : Hid (∀ wx g16 g28 va vi vk, Below w.heap.size w wx → Blk wx g16 9 #[.string kAt, .string kBody, .string kId, .string kKey] → Blk wx g28 22 #[va, .slice A n cap, vi, vk] → ValV wx va [iCel tm] → ValV wx vi [sCel id] → ValV wx vk [sCel ky] →
   Calls Tryz.prog 19 #[.slice (some ⟨g16, 0, none⟩) 4 4, .slice (some ⟨g28, 0, none⟩) 4 4] wx (RetR wx [] (mapR bodyK (bodyP ⟨id, tn, so, ky, tm, ca, bd⟩)))) := Lib.hid fun wx g16 g28 va vi vk hb h16 h28 ha hi hk =>
    rmap_any _ _ _ _ wx (strs4 h16) (vals4 h28 ha (HU.out.below hb) hi hk) (HPW.out.below hb) (HOK.out rfl) (by intro s hs; simp only [bodyK, List.mem_cons, List.not_mem_nil, or_false] at hs; rcases hs with rfl | rfl | rfl | rfl <;> decide) (by simp [bodyP])
  clear hpt
  go_enter Tryz.func7, Tryz.ntmps7
  go_wp2_with (first
   | (go_at_call 16; (with_reducible refine (HEV.out _ HB.out).mono ?_); rintro e w1 ⟨rfl, hb1⟩; have HX := Lib.hid (HX.out.below hb1); have HB := Lib.hid (below_call' hb1 HB.out HB.out.size); clear hb1 x; have x := blk7 HX.out)
   | (go_at_call 17; (with_reducible refine (HI.out _ HB.out).mono ?_); rintro e w1 ⟨ua, rfl, hua, _, hb1⟩; obtain ⟨A1, n1, k1, rfl⟩ := hua.shape; have HUA := Lib.hid hua; have HX := Lib.hid (HX.out.below hb1); have HB := Lib.hid (below_call' hb1 HB.out HB.out.size); clear hb1 x hua; have x := blk7 HX.out)
   | (go_at_call 18; (with_reducible refine (HS1.out _ HB.out).mono ?_); rintro e w1 ⟨ui, rfl, hui, _, hb1⟩; obtain ⟨A2, n2, k2, rfl⟩ := hui.shape; have HUA := Lib.hid (HUA.out.below hb1); have HUI := Lib.hid hui; have HX := Lib.hid (HX.out.below hb1); have HB := Lib.hid (below_call' hb1 HB.out HB.out.size); clear hb1 x hui; have x := blk7 HX.out)
   | (go_at_call 18; (with_reducible refine (HS2.out _ HB.out).mono ?_); rintro e w1 ⟨uk, rfl, huk, _, hb1⟩; obtain ⟨A3, n3, k3, rfl⟩ := huk.shape; have HUA := Lib.hid (HUA.out.below hb1); have HUI := Lib.hid (HUI.out.below hb1); have HUK := Lib.hid huk; have HX := Lib.hid (HX.out.below hb1); have HB := Lib.hid (below_call' hb1 HB.out HB.out.size); clear hb1 x huk; have x := blk7 HX.out)
   | (go_at_call 19; (refine Calls.mono (HM.out _ _ _ _ _ _ ((HB.out.alloc HB.out.size _).alloc (by simp; have := HB.out.size; omega) _) ((Blk.new _ _ _).alloc _) (blk_at (by simp)) (HUA.out.below (below_2 _ _ _)) (HUI.out.below (below_2 _ _ _)) (HUK.out.below (below_2 _ _ _))) ?_); rintro e w3 ⟨u3, rfl, hu3⟩; have HU3 := Lib.hid hu3; clear hu3; have HB3 : Hid (Below w.heap.size w w3) := Lib.hid (below_call' HU3.out.2.2 ((HB.out.alloc HB.out.size _).alloc (by simp; have := HB.out.size; omega) _) (by simp; have := HB.out.size; omega)); have HF3 : Hid (FromC w w3 [] u3) := Lib.hid (HU3.out.2.1.up (by simp; have := HB.out.size; omega) (Below.refl _ _))))
  rw [← HP.out, HBR.out, if_neg (by simp)]
  exact ⟨u3, rfl, HU3.out.1, HF3.out, HB3.out⟩
 ·have h1 : (ck != 0) = true := by simpa using h0
  go_enter Tryz.func7, Tryz.ntmps7
  go_wp2_with (first
   | (go_at_call 16; (with_reducible refine (HEV.out _ HB.out).mono ?_); rintro e w1 ⟨rfl, hb1⟩; have HB1 := Lib.hid (below_call' hb1 HB.out HB.out.size); clear hb1 x))
  rw [← HP.out, HBR.out, if_pos h0]
  exact ⟨.slice none 0 0, rfl, RowsV.nil none 0, FromC.none, HB1.out⟩
end Go.Proofs.YtahcjgjigbedoaaGreatDoor
