/- Values: value.Check, as a function of the cells. The program's small values: checked, Bool, Int, Str; check, truth. A machine at the law's code starts with any checked value. -/
import Derived.Test.YtahcjgjigbedoaaGreatDoorV5
import Derived.Test.YtahcjgjigbedoaaGreatDoorGE3
import Derived.Test.YtahcjgjigbedoaaGreatDoorC10
import Derived.Test.YtahcjgjigbedoaaGreatDoorGD9
set_option linter.unusedVariables false
set_option linter.unusedSimpArgs false
namespace Go.Proofs.YtahcjgjigbedoaaGreatDoor
open Go.RowKit
set_option maxRecDepth 100000

attribute [local go_sem] cell_alloc_is
set_option maxHeartbeats 4000000 in
theorem vcheck_any (l : List CellD) (A : Option Addr) (cap : Nat) (w : World) (h : SlAt w A 4 CellD.cells l) (hp : Pow w) (hlen : l.length ≤ 1000000) (hcap : l.length ≤ cap) (hok : ∀ c ∈ l, okC c) :
  Calls Tryz.prog 26 #[.slice A l.length cap] w fun e w' => e = .returned (.int .i64 (checkF l)) ∧ Below w.heap.size w w' := by
 obtain ⟨ck, hck⟩ : ∃ c, checkF l = c := ⟨_, rfl⟩
 rw [hck]
 have HCK := Lib.hid hck
 have HL := Lib.hid (look_any l A cap w h hp hlen hcap hok)
 obtain ⟨F, hF⟩ : ∃ F, px l 0 = F := ⟨_, rfl⟩
 rw [hF] at HL
 have HF := Lib.hid hF
 clear hck hF h hp hok
 cases F with
 | none =>
  have HL2 : Hid (Calls Tryz.prog 42 #[.slice A l.length cap] w fun e w' => (∃ a b o t, e = .returned (.tuple #[.int .i64 0, .agg #[.int .i64 a, .int .i64 b, .bool o, .bool t], .bool false])) ∧ Below w.heap.size w w') := Lib.hid (HL.out.mono fun e w' ⟨h1, h2⟩ => ⟨h2, h1⟩)
  have hc : ck = 1 := by rw [← HCK.out]; unfold checkF; rw [HF.out]; rfl
  subst hc
  clear HL
  go_enter Tryz.func26, Tryz.ntmps26
  go_wp2_with (first
   | (go_at_call 42; (with_reducible refine HL2.out.mono ?_); rintro e w1 ⟨⟨a, b, o, t, rfl⟩, hb1⟩; have HB1 := Lib.hid hb1; clear hb1))
  all_goals
   go_returns
   exact ⟨rfl, HB1.out.alloc HB1.out.size _⟩
 | some r =>
  have HL2 : Hid (Calls Tryz.prog 42 #[.slice A l.length cap] w fun e w' => e = .returned (.tuple #[.int .i64 r.j, .agg #[.int .i64 r.d, .int .i64 r.b, .bool (outs (l.take r.j)), .bool (longs (l.take r.j))], .bool true]) ∧ Below w.heap.size w w') := Lib.hid (HL.out.mono fun e w' ⟨h1, h2⟩ => ⟨h2, h1⟩)
  have had := px_adv HF.out
  by_cases hj : r.j = l.length
  ·have ho : outs (l.take r.j) = l.any outB := by rw [hj, List.take_length]; rfl
   have hl : longs (l.take r.j) = l.any longB := by rw [hj, List.take_length]; rfl
   have hck2 : ck = if l.any outB then eRange else if l.any longB || (decide (200 < l.length) || (decide (8 < r.d) || decide (4000 < r.b))) then eLimit else 0 := by
    rw [← HCK.out]; unfold checkF; rw [HF.out]; simp only [hj, ne_eq, not_true_eq_false, if_false]
   rw [ho, hl] at HL2
   obtain ⟨oo, hoo⟩ : ∃ t, l.any outB = t := ⟨_, rfl⟩
   obtain ⟨ll, hll⟩ : ∃ t, l.any longB = t := ⟨_, rfl⟩
   rw [hoo, hll] at HL2 hck2
   rw [hj] at HL2
   obtain ⟨j, d, b⟩ := r
   dsimp only at HL2 hck2
   clear HL had hj ho hl hoo hll HF HCK
   cases oo with
   | true =>
    have hc : ck = 2 := hck2
    subst hc
    clear hck2
    go_enter Tryz.func26, Tryz.ntmps26
    go_wp2_with (first
     | (go_at_call 42; (with_reducible refine HL2.out.mono ?_); rintro e w1 ⟨rfl, hb1⟩; have HB1 := Lib.hid hb1; clear hb1))
    all_goals
     go_returns
     exact ⟨rfl, HB1.out.alloc HB1.out.size _⟩
   | false =>
    by_cases h1 : ll = true
    ·subst h1
     have hc : ck = 3 := hck2
     subst hc
     clear hck2
     go_enter Tryz.func26, Tryz.ntmps26
     go_wp2_with (first
      | (go_at_call 42; (with_reducible refine HL2.out.mono ?_); rintro e w1 ⟨rfl, hb1⟩; have HB1 := Lib.hid hb1; clear hb1))
     all_goals
      go_returns
      exact ⟨rfl, HB1.out.alloc HB1.out.size _⟩
    ·obtain rfl : ll = false := by simpa using h1
     clear h1
     by_cases h2 : (200 : Int) < (l.length : Int)
     all_goals by_cases h3 : (8 : Int) < (d : Int)
     all_goals by_cases h4 : 4000 < b
     all_goals
      have h2' : decide (200 < l.length) = decide ((200 : Int) < (l.length : Int)) := decide_eq_decide.2 (by omega)
      have h3' : decide (8 < d) = decide ((8 : Int) < (d : Int)) := decide_eq_decide.2 (by omega)
      rw [h2', h3'] at hck2
      simp only [h2, h3, h4, decide_true, decide_false, Bool.or_true, Bool.true_or, Bool.or_false, Bool.false_or, if_true, if_false, Bool.false_eq_true] at hck2
      have HC2 := Lib.hid hck2
      clear h2' h3' hck2
      go_enter Tryz.func26, Tryz.ntmps26
      go_wp2_with (first
       | (go_at_call 42; (with_reducible refine HL2.out.mono ?_); rintro e w1 ⟨rfl, hb1⟩; have HB1 := Lib.hid hb1; clear hb1))
      all_goals
       go_returns
       exact ⟨by rw [HC2.out]; rfl, HB1.out.alloc HB1.out.size _⟩
  ·have hc : ck = 1 := by rw [← HCK.out]; unfold checkF; rw [HF.out]; simp only [ne_eq, hj, not_false_eq_true, if_true]; rfl
   have hji : ¬ ((r.j : Int) = (l.length : Int)) := by omega
   have hjb : ((r.j : Int) != (l.length : Int)) = true := by simpa using hji
   subst hc
   obtain ⟨j, d, b⟩ := r
   dsimp only at HL2 hji hjb
   clear HL had hj HF HCK
   go_enter Tryz.func26, Tryz.ntmps26
   go_wp2_with (first
    | (go_at_call 42; (with_reducible refine HL2.out.mono ?_); rintro e w1 ⟨rfl, hb1⟩; have HB1 := Lib.hid hb1; clear hb1))
   all_goals
    go_returns
    exact ⟨rfl, HB1.out.alloc HB1.out.size _⟩
end Go.Proofs.YtahcjgjigbedoaaGreatDoor
namespace Go.Proofs.YtahcjgjigbedoaaGreatDoor
open Go.RowKit
set_option maxRecDepth 100000
/-- The block of v is one of S's, or new and of cells. -/
def FromC (w w' : World) (S : List Value) (v : Value) : Prop := ∀ (b off n cap : Nat), v = .slice (some ⟨b, off, none⟩) n cap → (∃ u ∈ S, ∃ off' n' cap' : Nat, u = .slice (some ⟨b, off', none⟩) n' cap') ∨ (w.heap.size ≤ b ∧ ∃ cs fz, w'.heap[b]? = some (.cells cs 47 fz))
theorem FromC.self {w w' : World} {S : List Value} {v : Value} (h : v ∈ S) : FromC w w' S v := fun _ off n cap e => .inl ⟨v, h, off, n, cap, e⟩
theorem FromC.none {w w' : World} {S : List Value} {n cap : Nat} : FromC w w' S (.slice Option.none n cap) := fun _ _ _ _ e => by cases e
theorem FromC.up {w w1 w2 w3 : World} {S : List Value} {v : Value} (h : FromC w1 w2 S v) (h1 : w.heap.size ≤ w1.heap.size) (h2 : Below w2.heap.size w2 w3) : FromC w w3 S v := fun b off n cap e => (h b off n cap e).imp id fun ⟨h3, cs, fz, h4⟩ => ⟨Nat.le_trans h1 h3, cs, fz, (h2.block b (lt_of_block h4)).trans h4⟩
theorem FromC.sub {w w' : World} {S S' : List Value} {v : Value} (h : FromC w w' S v) (hs : ∀ u ∈ S, u ∈ S') : FromC w w' S' v := fun b off n cap e => (h b off n cap e).imp (fun ⟨u, hu, r⟩ => ⟨u, hs u hu, r⟩) id
theorem FromC.blk {w w' : World} {S : List Value} {g n cap : Nat} {cs : Array Value} (h : Blk w' g 47 cs) (hg : w.heap.size ≤ g) : FromC w w' S (.slice (some ⟨g, 0, Option.none⟩) n cap) := fun b off n' cap' e => by
 injection e with e _ _
 injection e with e
 injection e with e _
 subst e
 exact .inr ⟨hg, _, _, h⟩
/-- What a function that returns a value and an error returns. -/
def RetR (w : World) (S : List Value) (r : ResD) (e : Ending) (w' : World) : Prop := ∃ u, e = .returned (.tuple #[u, .int .i64 r.2]) ∧ ValV w' u r.1 ∧ FromC w w' S u ∧ Below w.heap.size w w'
def OkV (l : ValD) : Prop := l.length ≤ 1000000 ∧ ∀ c ∈ l, okC c
theorem oval_blkE {w : World} {g base : Nat} {l : ValD} {cs : Array Value} (h : Blk w g 47 cs) (hb : base ≤ g) (e : cs.toList = l.flatMap CellD.cells) (hm : l.length ≤ 3518437208780) : OVal w base (.slice (some ⟨g, 0, none⟩) l.length l.length) l := by
 have hlen : cs.size = l.length * 4 := by
  rw [← Array.length_toList, e, cells_len]
 exact ⟨by rw [cells_len], .inr ⟨g, l.length, cs, rfl, hb, h, Nat.le_refl _, by unfold maxLen; omega, hlen, by rw [e]; exact List.take_of_length_le (by rw [cells_len]; exact Nat.le_refl _)⟩⟩
theorem val_blk1 {w : World} {g : Nat} {c : CellD} (h : Blk w g 47 #[.int .i64 c.kind, .int .i64 c.int, .string c.str, .int .i64 c.n]) : ValV w (.slice (some ⟨g, 0, none⟩) 1 1) [c] :=
 (oval_blkE (base := 0) (l := [c]) h (Nat.zero_le _) rfl (by simp)).val (by simp)
attribute [local go_sem] cell_alloc_is
set_option maxHeartbeats 4000000 in
theorem vchecked_any (l : ValD) (v : Value) (w : World) (h : ValV w v l) (hp : Pow w) (ho : OkV l) :
  Calls Tryz.prog 27 #[v] w (RetR w [v] (okR l)) := by
 obtain ⟨A, cap, rfl, hc, hm, hs⟩ := h.at
 have HV := Lib.hid h
 have HC := Lib.hid (vcheck_any l A cap w hs hp ho.1 hc ho.2)
 obtain ⟨P, hP⟩ : ∃ P : Ending → World → Prop, RetR w [.slice A l.length cap] (okR l) = P := ⟨_, rfl⟩
 rw [hP]
 have HP := Lib.hid hP
 obtain ⟨n, hn⟩ : ∃ n, l.length = n := ⟨_, rfl⟩
 rw [hn] at HC HP HV ⊢
 obtain ⟨ck, hck⟩ : ∃ c, checkF l = c := ⟨_, rfl⟩
 rw [hck] at HC
 have HCK := Lib.hid hck
 clear h hP hn hck hs hc hm ho hp
 by_cases h0 : ck = 0
 ·have HO : Hid (okR l = (l, 0)) := Lib.hid (by unfold okR; rw [HCK.out, if_pos h0])
  subst h0
  go_enter Tryz.func27, Tryz.ntmps27
  go_wp2_with (first
   | (go_at_call 26; (with_reducible refine HC.out.mono ?_); rintro e w1 ⟨rfl, hb1⟩; have HB := Lib.hid hb1; clear hb1))
  rw [← HP.out]
  exact ⟨.slice A n cap, by rw [HO.out]; rfl, by rw [HO.out]; exact HV.out.below HB.out, FromC.self (by simp), HB.out⟩
 ·have HO : Hid (okR l = ([], ck)) := Lib.hid (by unfold okR; rw [HCK.out, if_neg h0])
  have h1 : (ck != 0) = true := by simpa using h0
  clear h0
  go_enter Tryz.func27, Tryz.ntmps27
  go_wp2_with (first
   | (go_at_call 26; (with_reducible refine HC.out.mono ?_); rintro e w1 ⟨rfl, hb1⟩; have HB := Lib.hid hb1; clear hb1))
  rw [← HP.out]
  exact ⟨.slice none 0 0, by rw [HO.out]; rfl, by rw [HO.out]; exact RowsV.nil none 0, FromC.none, HB.out⟩
set_option maxHeartbeats 4000000 in
theorem cbool_any (b : Bool) (w : World) : Calls Tryz.prog 106 #[.bool b] w fun e w' => ∃ u, e = .returned u ∧ ValV w' u [bCel b] ∧ FromC w w' [] u ∧ Below w.heap.size w w' := by
 obtain ⟨P, hP⟩ : ∃ P : Ending → World → Prop, (fun e w' => ∃ u, e = .returned u ∧ ValV w' u [bCel b] ∧ FromC w w' [] u ∧ Below w.heap.size w w') = P := ⟨_, rfl⟩
 rw [hP]
 have HP := Lib.hid hP
 clear hP
 cases b
 all_goals
  go_enter Tryz.func106, Tryz.ntmps106
  go_wp2_with (fail)
  rw [← HP.out]
  refine ⟨_, rfl, val_blk1 (Blk.second _ _ _ _), FromC.blk (Blk.second _ _ _ _) (by omega), below_2 _ _ _⟩
end Go.Proofs.YtahcjgjigbedoaaGreatDoor
namespace Go.Proofs.YtahcjgjigbedoaaGreatDoor
open Go.RowKit
set_option maxRecDepth 100000
variable {vd : ValD}

/-- The machine that has been started. -/
def m0 (vd : ValD) (lm : Int) : MachD := ⟨1, 0, [], [⟨0, 0, [vd], []⟩], [], 10, lm, 0, 0⟩
def m1 (vd : ValD) (lm : Int) : MachD := ⟨1, 0, [], [⟨0, 0, [vd], []⟩], [], 10, lm, 0, vd.length⟩

theorem OVal.shp {w : World} {base : Nat} {v : Value} {l : ValD} (h : OVal w base v l) : ∃ A k, v = .slice A l.length k := own_shape (show w.ownsRow base 47 4 v l.length _ from h)
/-- A list of one value in a block of one cell. -/
theorem valsOne {w : World} {g : Nat} {t : TypeId} {v : Value} {l : ValD} (h : Blk w g t #[v]) (hv : ValV w v l) : ValsV w (.slice (some ⟨g, 0, none⟩) 1 1) [l] := by
 refine ⟨_, 1, [[v]], rfl, by simp, by simp, ?_, rfl, fun i hi hi' => ?_⟩
 ·intro i row hr
  have hi : i = 0 := by
   by_cases h0 : i = 0
   ·exact h0
   ·rw [List.getElem?_eq_none (by simp; omega)] at hr; cases hr
  subst hi
  simp at hr
  subst hr
  refine ⟨g, 0, rfl, lt_of_block h, fun j u hv => ?_⟩
  have := h.cell j u (by rw [← hv, ← Array.getElem?_toList])
  simpa using this
 ·have : i = 0 := by simp at hi; omega
  subst this
  exact ⟨v, rfl, hv⟩
/-- One frame in an own row. -/
theorem framesOne {w : World} {base g k : Nat} {a b : Int} {lv sv : Value} {L S : List ValD} (h : w.ownsRow base 108 4 (.slice (some ⟨g, 0, none⟩) 1 k) 1 [.int .i64 a, .int .i64 b, lv, sv]) (hl : ValsV w lv L) (hs : ValsV w sv S) : FramesV w (.slice (some ⟨g, 0, none⟩) 1 k) [⟨a, b, L, S⟩] := by
 have hk : 1 ≤ k := by
  rcases h.2 with ⟨_, h1⟩ | ⟨g', c', cur, e, _, _, h3, _⟩
  ·cases h1
  ·injection e with _ _ e; omega
 have hsl : SlAt w (some ⟨g, 0, none⟩) 4 (fun _ : Unit => [.int .i64 a, .int .i64 b, lv, sv]) [()] := SlAt.of_own h rfl (fun _ => rfl) (by omega)
 refine ⟨_, k, [[.int .i64 a, .int .i64 b, lv, sv]], rfl, hk, by simp, hsl, rfl, fun i hi hi' => ?_⟩
 have : i = 0 := by simp at hi; omega
 subst this
 exact ⟨lv, sv, rfl, hl, hs⟩
attribute [local go_sem] cell_alloc_is
set_option maxHeartbeats 8000000 in
theorem start_ok (gF gI : Nat) (UA : Option Addr) (UC : Nat) (lm : Int) (w : World) (h : CodeAt w gF gI) (hs : Shaped w) (hV : ValV w (.slice UA vd.length UC) vd) (hck : checkF vd = 0) (hp : Pow w) (hok : OkV vd) (h1 : (vd.length : Int) ≤ lm) (h0 : 1 ≤ lm) (h2 : lm ≤ 4000) :
  Calls Tryz.prog 21 #[.agg #[.slice (some ⟨gF, 0, none⟩) 1 1, .slice (some ⟨gI, 0, none⟩) 2 2], .slice UA vd.length UC, .agg #[.int .i64 10, .int .i64 lm]] w
   fun e w' => ∃ x, e = .returned (.tuple #[x, .int .i64 0]) ∧ MachV w' x (m1 vd lm) ∧ Below w.heap.size w w' := by
 have hn1 : ¬ lm < 1 := by omega
 have hn2 : ¬ 4000 < lm := by omega
 have HB0 := Lib.hid (below_3 w (.cells #[.slice (some ⟨gF, 0, none⟩) 1 1, .slice (some ⟨gI, 0, none⟩) 2 2] 41) (.cells #[.int .i64 10, .int .i64 lm] 44) (.cells #[.int .i64 0, .int .i64 0, .slice none 0 0, .slice none 0 0, .slice none 0 0, .int .i64 0, .int .i64 0, .int .i64 0, .int .i64 0] 61))
 have HX0 := Lib.hid ((((Blk.new w 41 #[.slice (some ⟨gF, 0, none⟩) 1 1, .slice (some ⟨gI, 0, none⟩) 2 2]).alloc (.cells #[.int .i64 10, .int .i64 lm] 44)).alloc (.cells #[.int .i64 0, .int .i64 0, .slice none 0 0, .slice none 0 0, .slice none 0 0, .int .i64 0, .int .i64 0, .int .i64 0, .int .i64 0] 61)))
 have HY0 := Lib.hid ((Blk.second w (.cells #[.slice (some ⟨gF, 0, none⟩) 1 1, .slice (some ⟨gI, 0, none⟩) 2 2] 41) 44 #[.int .i64 10, .int .i64 lm]).alloc (.cells #[.int .i64 0, .int .i64 0, .slice none 0 0, .slice none 0 0, .slice none 0 0, .int .i64 0, .int .i64 0, .int .i64 0, .int .i64 0] 61))
 have HZ0 := Lib.hid (Blk.third w (.cells #[.slice (some ⟨gF, 0, none⟩) 1 1, .slice (some ⟨gI, 0, none⟩) 2 2] 41) (.cells #[.int .i64 10, .int .i64 lm] 44) 61 #[.int .i64 0, .int .i64 0, .slice none 0 0, .slice none 0 0, .slice none 0 0, .int .i64 0, .int .i64 0, .int .i64 0, .int .i64 0])
 have HC0 := Lib.hid (h.below HB0.out)
 have HS0 := Lib.hid (hs.below HB0.out)
 have HV0 := Lib.hid (hV.below HB0.out)
 have hl200 : vd.length ≤ 200 := by
  obtain ⟨_, _, _, _, _, h, _⟩ := checkF_zero.1 hck
  exact h
 have HL := Lib.hid hl200
 have HLM := Lib.hid h1
 have HVC : Hid (∀ wx, Below w.heap.size w wx → Calls Tryz.prog 26 #[.slice UA vd.length UC] wx fun e w' => e = .returned (.int .i64 0) ∧ Below wx.heap.size wx w') := Lib.hid fun wx hb => by
  obtain ⟨A, cap, e, hc, hm, hsl⟩ := (hV.below hb).at
  injection e with e1 _ e3
  subst e1 e3
  have := vcheck_any vd UA UC wx hsl (hp.below hb) hok.1 hc hok.2
  rwa [hck] at this
 have hmx : max (0 : Int) ((memN (m0 vd lm).frames : Nat) : Int) = (vd.length : Int) := by simp [m0, memN, cellsN]
 have HMX := Lib.hid hmx
 clear h hs hV h1 h0 h2 hl200 hmx hp hok hck
 go_enter Tryz.func21, Tryz.ntmps21
 go_upto_region 14 with (first
  | (go_at_call 20; with_reducible refine (check_ok gF gI _ HC0.out HS0.out).mono ?_; rintro e W1 ⟨rfl, hb1⟩; have HC1 := Lib.hid (HC0.out.below hb1); have HV1 := Lib.hid (HV0.out.below hb1); have HX1 := Lib.hid (HX0.out.below hb1); have HY1 := Lib.hid (HY0.out.below hb1); have HZ1 := Lib.hid (HZ0.out.below hb1); have HB1 := Lib.hid (below_call hb1 HB0.out); have x1 := blk2 HX1.out; clear hb1)
  | (go_at_call 33; with_reducible refine (find_main gF gI _ HC1.out).mono ?_; rintro e W2 ⟨rfl, hb2⟩; have HC2 := Lib.hid (HC1.out.below hb2); have HV2 := Lib.hid (HV1.out.below hb2); have HX2 := Lib.hid (HX1.out.below hb2); have HY2 := Lib.hid (HY1.out.below hb2); have HZ2 := Lib.hid (HZ1.out.below hb2); have HB2 := Lib.hid (below_call hb2 HB1.out); have x2 := blk2 HX2.out; have f2 := HC2.out.f; clear hb2 x1)
  | (go_at_call 26; with_reducible refine (HVC.out _ HB2.out).mono ?_; rintro e W3 ⟨rfl, hb3⟩; have HC3 := Lib.hid (HC2.out.below hb3); have HV3 := Lib.hid (HV2.out.below hb3); have HX3 := Lib.hid (HX2.out.below hb3); have HY3 := Lib.hid (HY2.out.below hb3); have HZ3 := Lib.hid (HZ2.out.below hb3); have HB3 := Lib.hid (below_call hb3 HB2.out); have x3 := blk2 HX3.out; have y3' := blk2 HY3.out; clear hb3 x2 f2))
 go_upto_region 15 with fail
 obtain ⟨gE, hgE⟩ : ∃ g, W3.heap.size = g := ⟨_, rfl⟩
 obtain ⟨W4, hW4⟩ : ∃ W4, W3.alloc (.cells #[.slice (some ⟨gF, 0, none⟩) 1 1, .slice (some ⟨gI, 0, none⟩) 2 2, .int .i64 1, .int .i64 0, .slice none 0 0, .slice none 0 0, .slice none 0 0, .int .i64 10, .int .i64 lm, .int .i64 0, .int .i64 0] 84) = W4 := ⟨_, rfl⟩
 have HE4 : Hid (Blk W4 gE 84 (exC gF gI 1 0 (.slice none 0 0) (.slice none 0 0) (.slice none 0 0) 10 lm 0 0)) := Lib.hid (by rw [← hW4, ← hgE]; exact Blk.new W3 _ _)
 have HC4 : Hid (CodeAt W4 gF gI) := Lib.hid (by rw [← hW4]; exact HC3.out.below (below_new _ _))
 have HV4 : Hid (ValV W4 (.slice UA vd.length UC) vd) := Lib.hid (by rw [← hW4]; exact HV3.out.below (below_new _ _))
 have HZ4 : Hid (Blk W4 (w.heap.size + 1 + 1) 61 _) := Lib.hid (by rw [← hW4]; exact HZ3.out.below (below_new _ _))
 have HB4 : Hid (Below w.heap.size w W4) := Lib.hid (by rw [← hW4]; exact HB3.out.alloc HB3.out.size _)
 have hle : w.heap.size ≤ gE := by rw [← hgE]; exact HB3.out.size
 have HLZ : Hid (w.heap.size + 1 + 1 < gE) := Lib.hid (by rw [← hgE]; exact lt_of_block HZ3.out)
 rw [hgE, hW4]
 clear hW4 hgE x3 y3'
 go_wp2_with (first
  | (go_at_call 35; with_reducible refine (clone_any vd _ _ HV4.out).mono ?_; rintro e W5 ⟨v5, rfl, ho5, hb5⟩; have HE5 := Lib.hid (HE4.out.below hb5); have HC5 := Lib.hid (HC4.out.below hb5); have HZ5 := Lib.hid (HZ4.out.below hb5); have HB5 := Lib.hid (below_call hb5 HB4.out); have HO5 := Lib.hid ho5; obtain ⟨A5, k5, rfl⟩ := OVal.shp ho5; have HE5' := Lib.hid (HE5.out.alloc (.cells #[.slice A5 vd.length k5] 22)); have HL5' := Lib.hid (Blk.new W5 22 #[.slice A5 vd.length k5]); have HC5' := Lib.hid (HC5.out.below (below_new W5 (.cells #[.slice A5 vd.length k5] 22))); clear ho5 hb5)
  | (go_at_call 34; with_reducible refine (enter_ok gF gI gE lm _ _ _ HC5'.out HE5'.out).mono ?_; rintro e W6 ⟨rfl, g6, k6, hE6, hO6, hg6, hk6⟩; have HE6 := Lib.hid hE6; have HO6 := Lib.hid hO6; have HG6 := Lib.hid hg6; have HK6 := Lib.hid hk6; clear hE6 hO6 hg6 hk6))
 have hf6 : FramesV W6 (.slice (some ⟨g6, 0, none⟩) 1 k6) [⟨0, 0, [vd], []⟩] :=
  framesOne HO6.out (valsOne (HK6.out.blk (by decide) HL5'.out) ((HK6.out.oval (by decide) (HO5.out.below (below_new W5 _))).val (by have := HL.out; omega))) (RowsV.nil none 0)
 have HF6 := Lib.hid hf6
 clear hf6
 refine (count_ok (m0 vd lm) gF gI gE _ _ _ W6 rfl HE6.out (RowsV.nil none 0) HF6.out (RowsV.nil none 0) ⟨by simp [m0], by simp [m0]⟩ (by have := HLM.out; simp [m0, memN, cellsN]; omega)).mono ?_
 rintro e W7 ⟨rfl, hE7, hg7, hk7⟩
 have HE7 : Hid (Blk W7 gE 84 (exC gF gI 1 0 (.slice none 0 0) (.slice (some ⟨g6, 0, none⟩) 1 k6) (.slice none 0 0) 10 lm 0 vd.length)) := Lib.hid (by rw [← HMX.out]; exact hE7)
 have HG7 := Lib.hid hg7
 have HK7 := Lib.hid hk7
 clear hE7 hg7 hk7
 have e7 := blkE HE7.out
 have HZ7 := Lib.hid (HK7.out.blk (by decide) (HK6.out.blk (by decide) (HZ5.out.alloc (.cells #[.slice A5 vd.length k5] 22))))
 have HB6 : Hid (Below w.heap.size w W6) := Lib.hid ((HB5.out.alloc HB5.out.size _).grown HG6.out (Nat.le_trans HB5.out.size (by simp)) (fun j hj => by injection hj with hj; omega))
 have HB7 : Hid (Below w.heap.size w W7) := Lib.hid (HB6.out.grown HG7.out HB6.out.size (fun j hj => by injection hj with hj; omega))
 have K8 := Lib.hid (KT.row HZ7.out #[.int .i64 1, .int .i64 0, .slice none 0 0, .slice (some ⟨g6, 0, none⟩) 1 k6, .slice none 0 0, .int .i64 10, .int .i64 lm, .int .i64 0, .int .i64 vd.length])
 have HZ8 := Lib.hid (HZ7.out.setRow (cs' := #[.int .i64 1, .int .i64 0, .slice none 0 0, .slice (some ⟨g6, 0, none⟩) 1 k6, .slice none 0 0, .int .i64 10, .int .i64 lm, .int .i64 0, .int .i64 vd.length]))
 have HB8 := Lib.hid (below_setRow HB7.out (show w.heap.size ≤ w.heap.size + 1 + 1 by omega) #[.int .i64 1, .int .i64 0, .slice none 0 0, .slice (some ⟨g6, 0, none⟩) 1 k6, .slice none 0 0, .int .i64 10, .int .i64 lm, .int .i64 0, .int .i64 vd.length])
 go_wp2_with (first
  | (refine wpList_store_row rfl 61 (.tmp 6) (.tmp 73) rfl (w.heap.size + 1 + 1) #[.int .i64 1, .int .i64 0, .slice none 0 0, .slice (some ⟨g6, 0, none⟩) 1 k6, .slice none 0 0, .int .i64 10, .int .i64 lm, .int .i64 0, .int .i64 vd.length] rfl rfl 61 _ HZ7.out (by kernel_rfl) rfl (by simp [Value.oneCell']) ?_))
 obtain ⟨WZ, hWZ⟩ : ∃ WZ, W7.setRow (w.heap.size + 1 + 1) #[.int .i64 1, .int .i64 0, .slice none 0 0, .slice (some ⟨g6, 0, none⟩) 1 k6, .slice none 0 0, .int .i64 10, .int .i64 lm, .int .i64 0, .int .i64 vd.length] = WZ := ⟨_, rfl⟩
 rw [hWZ] at K8 HZ8 HB8
 try rw [hWZ]
 clear hWZ e7
 have gz := blk9 HZ8.out
 refine bodyPost_ret (v := .tuple #[.agg #[.int .i64 1, .int .i64 0, .slice none 0 0, .slice (some ⟨g6, 0, none⟩) 1 k6, .slice none 0 0, .int .i64 10, .int .i64 lm, .int .i64 0, .int .i64 vd.length], .int .i64 0]) (by simp [results, Tryz.results21, go_sem, gz]) rfl ?_
 refine ⟨_, rfl, ⟨_, _, _, rfl, RowsV.nil none 0, ?_, RowsV.nil none 0⟩, HB8.out⟩
 have KK := (HK7.out.own (by decide) HO6.out)
 exact framesOne (K8.out.own (by decide) KK) (valsOne (K8.out.blk (by decide) (HK7.out.blk (by decide) (HK6.out.blk (by decide) HL5'.out))) ((K8.out.oval (by decide) (HK7.out.oval (by decide) (HK6.out.oval (by decide) (HO5.out.below (below_new W5 _))))).val (by have := HL.out; omega))) (RowsV.nil none 0)
end Go.Proofs.YtahcjgjigbedoaaGreatDoor
