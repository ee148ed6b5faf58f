/- The machines wake: the table of actions. The machines wake: pop. The machines wake: back. -/
import Derived.Test.YtahcjgjigbedoaaGreatDoorGD13
import Derived.Laws.EntriesVeiled
set_option linter.unusedVariables false
set_option linter.unusedSimpArgs false
namespace Go.Proofs.YtahcjgjigbedoaaGreatDoor
open Go.RowKit
set_option maxRecDepth 100000

def actFn (i : Nat) : Value := .func (.func i) #[] #[]
/-- Operation and function of each row of the table. -/
def actL : List (Nat × Nat) := [(1, 78), (2, 78), (3, 78), (4, 78), (5, 79), (6, 80), (7, 81), (16, 82), (8, 83), (9, 83), (10, 83), (18, 83), (11, 84), (12, 84), (13, 85), (14, 85), (15, 86), (17, 87), (19, 88), (20, 89)]
def actRow (p : Nat × Nat) : List Value := [.int .i64 p.1, .func (.func p.2) #[] #[]]
theorem act_lt : ∀ p ∈ actL, p.1 < 21 := by decide

theorem Tryz.infoAct : (Tryz.prog.info? 136).map (fun i => (i.zero, i.size, i.bytes)) = some (some .nilFunc, 1, 8) := by kernel_rfl
def noActs : Array Value := Array.replicate 21 .nilFunc
/-- The table after k rows. -/
def actsN : Nat → Array Value
 | 0 => noActs
 | k + 1 => (actsN k).setIfInBounds (actL.getD k (0, 0)).1 (actFn (actL.getD k (0, 0)).2)
theorem actsN_size (k : Nat) : (actsN k).size = 21 := by
 induction k with
 | zero => rfl
 | succ k ih => simp [actsN, ih]
theorem mc_a : madeCells (Value.nilFunc).cells (21 * 1) = noActs := by kernel_rfl
theorem mk_acts (w : World) : (Instr.makeSlice 111 (.int .i64 21) (.int .i64 21)).run Tryz.prog w = .ok (.slice (some ⟨w.heap.size, 0, none⟩) 21 21) (w.alloc (.cells noActs 136)) := by
 obtain ⟨i0, hi, hz0, hz1, hz2⟩ := info_parts Tryz.infoAct
 have h := run_makeSlice (P := Tryz.prog) w 111 136 i0 _ Tryz.underlying111 hi hz0 .i64 .i64 21 21 (by omega) (by omega) (by rw [hz1]; decide) (by rw [hz2]; decide) (by omega)
 rw [hz1] at h
 rw [h]
 congr 3
 exact mc_a
attribute [local go_sem] cell_alloc_is
set_option maxHeartbeats 4000000 in
theorem actions_ok (w : World) :
  Calls Tryz.prog 55 #[] w fun e w' => ∃ g, e = .returned (.slice (some ⟨g, 0, none⟩) 21 21) ∧ Blk w' g 136 (actsN 20) ∧ Below w.heap.size w w' := by
 have hmk := mk_acts
 go_enter Tryz.func55, Tryz.ntmps55
 go_upto_region 2 with fail
 clear hmk
 go_upto_region 3 with fail
 have HA0 := Lib.hid ((Blk.new w 136 noActs).alloc (.cells (actL.flatMap actRow).toArray 139))
 have HB0 := Lib.hid (rows_new (g := w.heap.size + 1) (w := w.alloc (.cells noActs 136)) (sz := 2) (c := actRow) (by simp) (actL.flatMap actRow).toArray 139 actL rfl (fun _ => rfl) (by omega) (by decide))
 have HC0 := Lib.hid (below_2 w (.cells noActs 136) (.cells (actL.flatMap actRow).toArray 139))
 go_loopw [27] (fun i wr => ∃ k : Nat, k ≤ 20 ∧ i = .int .i64 k ∧ Blk wr w.heap.size 136 (actsN k) ∧ SlAt wr (some ⟨w.heap.size + 1, 0, none⟩) 2 actRow actL ∧ Below w.heap.size w wr) (fun i _ => 20 - (intOf i).toNat)
 case atStart => exact ⟨0, by omega, rfl, HA0.out, HB0.out, HC0.out⟩
 case round =>
  obtain ⟨k, hk, rfl, hba, hsb, hbel⟩ := hrel
  have HA := Lib.hid hba
  have HS := Lib.hid hsb
  have HB := Lib.hid hbel
  clear hba hsb hbel HA0 HB0 HC0
  by_cases hlt : k < 20
  ·have hna : k < actL.length := hlt
   have hlt' : (k : Int) < 20 := by omega
   have hk0 : (0 : Int) ≤ (k : Int) := by omega
   obtain ⟨o, f, hof⟩ : ∃ o f, actL[k] = (o, f) := ⟨_, _, rfl⟩
   have ho : o < 21 := act_lt (o, f) (hof ▸ List.getElem_mem hna)
   have ho1 : (o : Int) < 21 := by omega
   have ho0 : (0 : Int) ≤ (o : Int) := by omega
   have c0 := HS.out.cell0 hna (v := .int .i64 o) (by rw [hof]; rfl)
   have c1 := HS.out.cell hna (j := 1) (v := .func (.func f) #[] #[]) (by rw [hof]; rfl)
   simp only [Nat.zero_add] at c0 c1
   have z0 := HA.out.frozen o
   have q0 := HA.out.cell o ((actsN k)[o]'(by rw [actsN_size]; exact ho)) (Array.getElem?_eq_getElem _)
   have HN : Hid (actsN (k + 1) = (actsN k).setIfInBounds o (actFn f)) := Lib.hid (by simp [actsN, List.getD_eq_getElem?_getD, List.getElem?_eq_getElem hna, hof])
   have hlt2 := HA.out.lt
   have HO := Lib.hid hof
   clear hof
   go_wp2_with (fail)
   refine ⟨⟨k + 1, by omega, by simp, ?_, ?_, ?_⟩, by simp [intOf]; omega⟩
   ·rw [HN.out]
    exact (HA.out.set_ o _).alloc _
   ·refine SlAt.alloc (fun i row hi => ?_) _
    obtain ⟨b, off, h1, h2, h3⟩ := HS.out i row hi
    injection h1 with h1
    injection h1 with h1 h4
    subst h1
    subst h4
    exact ⟨_, _, rfl, by simpa using h2, fun j v hv => by rw [World.cell?_setCell_far _ _ _ _ (by simp)]; exact h3 j v hv⟩
   ·exact (HB.out.setCell (p := ⟨w.heap.size, o, none⟩) (Nat.le_refl _) _).alloc (by simpa using HB.out.size) _
  ·have e : k = 20 := by omega
   subst e
   go_wp2
   go_ret
   exact ⟨w.heap.size, rfl, HA.out, HB.out⟩
end Go.Proofs.YtahcjgjigbedoaaGreatDoor
namespace Go.Proofs.YtahcjgjigbedoaaGreatDoor
open Go.RowKit
set_option maxRecDepth 100000

attribute [local go_sem] cell_alloc_is
set_option maxHeartbeats 2000000 in
theorem clone1_ok (gS kS : Nat) (x : Value) (cl : Array Value) (w : World) (hS : Blk w gS 22 cl) (hl0 : cl[0]? = some x) (h1 : x.oneCell' = true) :
  Calls Tryz.prog 125 #[.slice (some ⟨gS, 0, none⟩) 1 kS] w fun e w' => ∃ g k, e = .returned (.slice (some ⟨g, 0, none⟩) 1 k) ∧ w'.ownsRow w.heap.size 22 1 (.slice (some ⟨g, 0, none⟩) 1 k) 1 [x] ∧ Below w.heap.size w w' := by
 obtain ⟨i0, hi, hz0, hz1, hz2⟩ := info_parts Tryz.infoVal
 go_enter Tryz.func125, Tryz.ntmps125
 have hnil := fun w => nil_no Tryz.underlying52 ⟨gS, 0, none⟩ 1 kS w
 have HAT : Hid (∀ j u, [x][j]? = some u → (w.alloc (.cells #[] 22)).cell? ((⟨gS, 0, none⟩ : Addr).add j) = some u) := Lib.hid (fun j u hj => by
  have : j = 0 := by
   cases j with
   | zero => rfl
   | succ j => simp at hj
  subst this
  simp at hj
  subst hj
  exact (hS.alloc _).cell 0 _ hl0)
 go_wp2_with (first
  | (at_builtin; refine wpList_append_own _ rfl (.tmp 5) (.tmp 6) 52 rfl w.heap.size 22 i0 _ 1 24 Tryz.underlying52 hi hz0 hz1 hz2 rfl (by omega) _ 0 [] rfl (own_empty w _ 1) ⟨gS, 0, none⟩ 1 kS [x] rfl rfl HAT.out (by simpa using h1) (by unfold maxLen; omega) (by omega) (by simp) ?_; intro v' w1 hown hgrow _))
 go_ret
 have hown' : w1.ownsRow w.heap.size 22 1 v' 1 [x] := by simpa using hown
 obtain ⟨g, k, rfl⟩ := oneShape hown'
 exact ⟨g, k, rfl, hown', (below_new w _).grown hgrow (by simp) (fun k hk => by have h2 : some w.heap.size = some k := hk; injection h2 with h2; omega)⟩

set_option maxHeartbeats 4000000 in
theorem pop_ok (gF gI gE gR kR gS kS : Nat) (st er ls lm sp pk : Int) (vv qv x : Value) (cs cl : Array Value) (w : World) (hE : Blk w gE 84 (exC gF gI st er vv (.slice (some ⟨gR, 0, none⟩) 1 kR) qv ls lm sp pk))
  (hR : Blk w gR 108 cs) (h3 : cs[3]? = some (.slice (some ⟨gS, 0, none⟩) 1 kS)) (hk : 1 ≤ kS) (hS : Blk w gS 22 cl) (hl0 : cl[0]? = some x) (h1 : x.oneCell' = true) :
  Calls Tryz.prog 109 #[.pointer (some ⟨gE, 0, none⟩), .int .i64 1] w fun e w' => ∃ g k v, e = .returned (.tuple #[.slice (some ⟨g, 0, none⟩) 1 k, .int .i64 0]) ∧ Blk w' gR 108 (cs.setIfInBounds 3 v) ∧
   w'.cell? ⟨g, 0, none⟩ = some x ∧ w.heap.size ≤ g ∧ g < w'.heap.size ∧ w.grownBy w' (some gR) ∧ KT 108 w w' := by
 have HE := Lib.hid hE
 have HR := Lib.hid hR
 have HS := Lib.hid hS
 have c3 := hR.cell 3 _ h3
 have hlt : gR < w.heap.size := lt_of_block hR
 clear hE hR hS
 go_enter Tryz.func109, Tryz.ntmps109
 go_wp2_with (first
  | (go_at_call 90; with_reducible refine (frame_ok gF gI gE gR kR _ _ _ _ _ _ _ _ _ HE.out).mono ?_; rintro e W1 ⟨rfl, q, rfl⟩; have c3q := (HR.out.drewN q).cell 3 _ h3)
  | (go_at_call 125; with_reducible refine (clone1_ok gS kS x cl _ (HS.out.drewN q) hl0 h1).mono ?_; rintro e W2 ⟨g2, k2, rfl, ho2, hb2⟩; have HR2 := Lib.hid ((HR.out.drewN q).below hb2); have c32 := HR2.out.cell 3 _ h3; have z3 := HR2.out.frozen 3; have HO2 := Lib.hid ho2; have HB2 := Lib.hid hb2; clear ho2 hb2))
 go_returns
 have KE := KT.set HR2.out 3 (.slice (some ⟨gS, 0, none⟩) 0 kS)
 have hg := HO2.out.lt g2 rfl
 refine ⟨g2, k2, _, rfl, HR2.out.set_ 3 _, ?_, hg.1, by simpa using hg.2, ?_, (KT.of_below HB2.out).trans KE⟩
 ·have := (KE.own (by decide) HO2.out).cellAt 0 (by omega)
  simpa using this
 ·exact ⟨HB2.out.os, HB2.out.tape, HB2.out.output, by simpa using HB2.out.size, fun j hj hne' => (Below.heap_setCell _ _ _ _ (fun e => hne' (by rw [e]))).trans (HB2.out.block j hj)⟩
end Go.Proofs.YtahcjgjigbedoaaGreatDoor
namespace Go.Proofs.YtahcjgjigbedoaaGreatDoor
open Go.RowKit
set_option maxRecDepth 100000

theorem grown_set1 (w : World) (g i : Nat) (u : Value) : w.grownBy ((w.setCell ⟨g, i, none⟩ u).drew) (some g) :=
 ⟨rfl, rfl, rfl, by simp, fun k hk hne => Below.heap_setCell _ _ _ _ (fun e => hne (by rw [e]))⟩
attribute [local go_sem] cell_alloc_is
set_option maxHeartbeats 4000000 in
theorem back_ok (gF gI gE gR kR gS kS : Nat) (st er ls lm sp pk : Int) (vv qv : Value) (A : Option Addr) (n k : Nat) (cs cl : Array Value) (w : World) (hE : Blk w gE 84 (exC gF gI st er vv (.slice (some ⟨gR, 0, none⟩) 1 kR) qv ls lm sp pk)) (hkR : 1 ≤ kR)
  (hR : Blk w gR 108 cs) (h3 : cs[3]? = some (.slice (some ⟨gS, 0, none⟩) 1 kS)) (hk : 1 ≤ kS) (hS : Blk w gS 22 cl) (hl0 : cl[0]? = some (.slice A n k)) :
  Calls Tryz.prog 89 #[.pointer (some ⟨gE, 0, none⟩), .agg #[.int .i64 20, .int .i64 0, .string ⟨#[]⟩, .slice none 0 0]] w fun e w' => e = .returned (.int .i64 0) ∧ Blk w' gE 84 (exC gF gI 3 er (.slice A n k) (.slice none 0 0) qv ls lm sp pk) ∧
   ∃ w1, w.grownBy w1 (some gR) ∧ KT 108 w w1 ∧ w1.grownBy w' (some gE) ∧ KT 84 w1 w' := by
 have HE := Lib.hid (hE.alloc (.cells #[.int .i64 20, .int .i64 0, .string ⟨#[]⟩, .slice none 0 0] 75))
 have HR := Lib.hid (hR.alloc (.cells #[.int .i64 20, .int .i64 0, .string ⟨#[]⟩, .slice none 0 0] 75))
 have HS := Lib.hid (hS.alloc (.cells #[.int .i64 20, .int .i64 0, .string ⟨#[]⟩, .slice none 0 0] 75))
 have HI := Lib.hid (Blk.new w 75 #[.int .i64 20, .int .i64 0, .string ⟨#[]⟩, .slice none 0 0])
 have hlt : gE < w.heap.size := lt_of_block hE
 have hltR : gR < w.heap.size := lt_of_block hR
 clear hE hR hS
 go_enter Tryz.func89, Tryz.ntmps89
 go_upto_region 4 with (first
  | (go_at_call 109; with_reducible refine (pop_ok gF gI gE gR kR gS kS _ _ _ _ _ _ _ _ (.slice A n k) cs cl _ HE.out HR.out h3 hk HS.out hl0 rfl).mono ?_; rintro e W1 ⟨g1, k1, v1, rfl, hb1, hc1, hg1, hl1, hgr1, hk1⟩; have HE1 := Lib.hid (hk1.blk (by decide) HE.out); have HR1 := Lib.hid hb1; have HG1 := Lib.hid hgr1; have HK1 := Lib.hid hk1; have HL1 := Lib.hid hg1; have e1 := blkE HE1.out; have z1 := HE1.out.frozen 5; clear hb1 hgr1 hk1))
 have hw0 : IntKind.i64.wrap 0 = 0 := by decide
 have hk0 : (0 : Int) ≤ (kR : Int) := by omega
 go_region
 have hE5 := (HE1.out.set_ 5 (.slice (some ⟨gR, 0, none⟩) 0 kR)).drew
 have K5 := (KT.set HE1.out 5 (.slice (some ⟨gR, 0, none⟩) 0 kR)).trans (KT.of_below (below_drew _))
 have hne1 : gE ≠ g1 := by
  have := hg1
  simp at this
  omega
 have hc5 : ((W1.setCell ⟨gE, 5, none⟩ (.slice (some ⟨gR, 0, none⟩) 0 kR)).drew).cell? ⟨g1, 0, none⟩ = some (.slice A n k) := by
  have : (W1.setCell ⟨gE, 5, none⟩ (.slice (some ⟨gR, 0, none⟩) 0 kR)).cell? ⟨g1, 0, none⟩ = some (.slice A n k) := by
   rw [World.cell?_setCell_far _ _ _ _ (by simpa using fun e => hne1 e)]; exact hc1
  exact this
 have hg5 : W1.grownBy ((W1.setCell ⟨gE, 5, none⟩ (.slice (some ⟨gR, 0, none⟩) 0 kR)).drew) (some gE) := grown_set1 W1 gE 5 _
 obtain ⟨W5, hW5⟩ : ∃ W5, (W1.setCell ⟨gE, 5, none⟩ (.slice (some ⟨gR, 0, none⟩) 0 kR)).drew = W5 := ⟨_, rfl⟩
 rw [hW5] at hE5 K5 hc5 hg5 ⊢
 clear hW5 e1 z1 hw0 hk0 hc1
 have HE5 : Hid (Blk W5 gE 84 (exC gF gI st er vv (.slice (some ⟨gR, 0, none⟩) 0 kR) qv ls lm sp pk)) := Lib.hid hE5
 have HK5 := Lib.hid K5
 have HG5 := Lib.hid hg5
 clear hE5 K5 hg5
 have e5 := blkE HE5.out
 have z2 := HE5.out.frozen 0
 have z2' := HE5.out.frozen 2
 have z4 := HE5.out.frozen 4
 have z5 := HE5.out.frozen 5
 go_wp2_with (fail)
 go_returns
 have b2 := HE5.out.set_ 2 (.int .i64 3)
 have b4 := b2.set_ 4 (.slice A n k)
 have b5 := b4.set_ 5 (.slice none 0 0)
 refine ⟨rfl, b5, W1, ?_, (KT.of_below (below_new w _)).trans HK1.out, ?_, (HK5.out.trans (KT.set HE5.out 2 _)).trans ((KT.set b2 4 _).trans (KT.set b4 5 _))⟩
 ·exact ⟨HG1.out.os, HG1.out.tape, HG1.out.output, Nat.le_trans (by simp) HG1.out.size, fun j hj hne => (HG1.out.block j (Nat.lt_of_lt_of_le hj (by simp)) hne).trans (Below.heap_alloc w _ j hj)⟩
 ·exact Lib.Hx.grownBy_set (Lib.Hx.grownBy_set (Lib.Hx.grownBy_set HG5.out ⟨gE, 2, none⟩ rfl _) ⟨gE, 4, none⟩ rfl _) ⟨gE, 5, none⟩ rfl _
end Go.Proofs.YtahcjgjigbedoaaGreatDoor
