/- The machines wake: frame, fail. The machines wake: push. The machines wake: load. -/
import Derived.Test.YtahcjgjigbedoaaGreatDoorGD10
set_option linter.unusedVariables false
set_option linter.unusedSimpArgs false
namespace Go.Proofs.YtahcjgjigbedoaaGreatDoor
open Go.RowKit
set_option maxRecDepth 100000

attribute [local go_sem] cell_alloc_is
set_option maxHeartbeats 2000000 in
theorem frame_ok (gF gI gE gR kR : Nat) (st er ls lm sp pk : Int) (vv qv : Value) (w : World) (hE : Blk w gE 84 (exC gF gI st er vv (.slice (some ⟨gR, 0, none⟩) 1 kR) qv ls lm sp pk)) :
  Calls Tryz.prog 90 #[.pointer (some ⟨gE, 0, none⟩)] w fun e w' => e = .returned (.pointer (some ⟨gR, 0, none⟩)) ∧ ∃ q, w' = w.drewN q := by
 have e0 := blkE hE
 clear hE
 go_enter Tryz.func90, Tryz.ntmps90
 go_wp2_with (fail)
 go_quiet (fail)
 go_wp2_with (fail)
 go_returns
 exact ⟨rfl, _, rfl⟩

set_option maxHeartbeats 2000000 in
theorem fail_ok (gF gI gE : Nat) (c st er ls lm sp pk : Int) (vv fv qv : Value) (w : World) (hE : Blk w gE 84 (exC gF gI st er vv fv qv ls lm sp pk)) :
  Calls Tryz.prog 54 #[.pointer (some ⟨gE, 0, none⟩), .int .i64 c] w fun e w' => e = .returned (.tuple #[]) ∧ Blk w' gE 84 (exC gF gI 4 c (.slice none 0 0) (.slice none 0 0) qv ls lm sp pk) ∧ w.grownBy w' (some gE) ∧ KT 84 w w' := by
 have HE := Lib.hid hE
 have e0 := blkE hE
 have z2 := hE.frozen 2
 have z3 := hE.frozen 3
 have z4 := hE.frozen 4
 have z5 := hE.frozen 5
 clear hE
 go_enter Tryz.func54, Tryz.ntmps54
 go_wp2_with (fail)
 go_returns
 have b2 := HE.out.set_ 2 (.int .i64 4)
 have b3 := b2.set_ 3 (.int .i64 c)
 have b4 := b3.set_ 4 (.slice none 0 0)
 have b5 := b4.set_ 5 (.slice none 0 0)
 refine ⟨rfl, b5, ?_, ((KT.set HE.out 2 _).trans (KT.set b2 3 _)).trans ((KT.set b3 4 _).trans (KT.set b4 5 _))⟩
 exact Lib.Hx.grownBy_set (Lib.Hx.grownBy_set (Lib.Hx.grownBy_set (Lib.Hx.grownBy_set (Lib.Hx.grownBy_refl w _) ⟨gE, 2, none⟩ rfl _) ⟨gE, 3, none⟩ rfl _) ⟨gE, 4, none⟩ rfl _) ⟨gE, 5, none⟩ rfl _
end Go.Proofs.YtahcjgjigbedoaaGreatDoor
namespace Go.Proofs.YtahcjgjigbedoaaGreatDoor
open Go.RowKit
set_option maxRecDepth 100000

theorem oneShape {w : World} {base size : Nat} {t : TypeId} {v : Value} {xs : List Value} (h : w.ownsRow base t size v 1 xs) : ∃ g k, v = .slice (some ⟨g, 0, none⟩) 1 k := by
 rcases h.2 with ⟨_, h1⟩ | ⟨g, cap, cur, e, _⟩
 ·cases h1
 ·exact ⟨g, cap, e⟩
/-- Only the block r and the block b have turned. -/
structure G2 (w w' : World) (r : Nat) (b : Option Nat) : Prop where
 os : w'.os = w.os
 tape : w'.tape = w.tape
 output : w'.output = w.output
 size : w.heap.size ≤ w'.heap.size
 block : ∀ j, j < w.heap.size → j ≠ r → some j ≠ b → w'.heap[j]? = w.heap[j]?
theorem G2.blk {w w' : World} {r : Nat} {b : Option Nat} (h : G2 w w' r b) {g : Nat} {t : TypeId} {cs : Array Value} (hB : Blk w g t cs) (h1 : g ≠ r) (h2 : some g ≠ b) : Blk w' g t cs := (h.block g hB.lt h1 h2).trans hB
theorem G2.before {w w1 w' : World} {r : Nat} {b : Option Nat} (h : G2 w1 w' r b) (hb : Below w.heap.size w w1) : G2 w w' r b :=
 ⟨h.os.trans hb.os, h.tape.trans hb.tape, h.output.trans hb.output, Nat.le_trans hb.size h.size, fun j hj h1 h2 => (h.block j (Nat.lt_of_lt_of_le hj hb.size) h1 h2).trans (hb.block j hj)⟩
theorem G2.bel {w0 w w' : World} {base r : Nat} {b : Option Nat} (h : G2 w w' r b) (hb : Below base w0 w) (hs : base ≤ w.heap.size) (h1 : base ≤ r) (h2 : ∀ j, b = some j → base ≤ j) : Below base w0 w' :=
 hb.trans ⟨h.os, h.tape, h.output, h.size, fun j hj => h.block j (Nat.lt_of_lt_of_le hj hs) (by omega) (fun e => by have := h2 j e.symm; omega)⟩
theorem G2.own {w w' : World} {r : Nat} {b : Option Nat} (h : G2 w w' r b) {base : Nat} {e : TypeId} {size n : Nat} {v : Value} {xs : List Value} (ho : w.ownsRow base e size v n xs) (h1 : v.ownBlock ≠ some r) (h2 : ∀ g, v.ownBlock = some g → some g ≠ b) : w'.ownsRow base e size v n xs := by
 obtain ⟨e1, e2⟩ := ho
 refine ⟨e1, e2.imp id (fun ⟨g, cap, cur, ev, eg, eh, e4⟩ => ⟨g, cap, cur, ev, eg, ?_, e4⟩)⟩
 subst ev
 exact (h.block g (lt_of_block eh) (fun e => h1 (by simp [Value.ownBlock, e])) (h2 g rfl)).trans eh
theorem blk_ne {w : World} {g g' : Nat} {t t' : TypeId} {cs cs' : Array Value} (h : Blk w g t cs) (h' : Blk w g' t' cs') (hne : t ≠ t') : g ≠ g' := by
 rintro rfl
 unfold Blk at h h'
 rw [h] at h'
 injection h' with h'
 injection h' with _ e
 exact hne e
attribute [local go_sem] cell_alloc_is
set_option maxHeartbeats 4000000 in
theorem push_ok (base gF gI gE gR kR : Nat) (st er ls lm sp pk : Int) (vv qv : Value) (A A' : Option Addr) (n k k' : Nat) (cs : Array Value) (w : World) (hE : Blk w gE 84 (exC gF gI st er vv (.slice (some ⟨gR, 0, none⟩) 1 kR) qv ls lm sp pk))
  (hR : Blk w gR 108 cs) (h3 : cs[3]? = some (.slice A' 0 k')) (hsv : w.ownsRow base 22 1 (.slice A' 0 k') 0 []) (hbase : base ≤ w.heap.size) :
  Calls Tryz.prog 58 #[.pointer (some ⟨gE, 0, none⟩), .slice A n k] w fun e w' => e = .returned (.tuple #[]) ∧ ∃ g' k1, Blk w' gR 108 (cs.setIfInBounds 3 (.slice (some ⟨g', 0, none⟩) 1 k1)) ∧
   w'.ownsRow base 22 1 (.slice (some ⟨g', 0, none⟩) 1 k1) 1 [.slice A n k] ∧ G2 w w' gR (Value.slice A' 0 k').ownBlock := by
 obtain ⟨i0, hi, hz0, hz1, hz2⟩ := info_parts Tryz.infoVal
 have HE := Lib.hid hE
 have HR := Lib.hid hR
 have HS := Lib.hid hsv
 have c3 := hR.cell 3 _ h3
 have hlt : gR < w.heap.size := lt_of_block hR
 clear hE hR hsv
 go_enter Tryz.func58, Tryz.ntmps58
 go_wp2_with (first
  | (go_at_call 90; with_reducible refine (frame_ok gF gI gE gR kR _ _ _ _ _ _ _ _ _ HE.out).mono ?_; rintro e W1 ⟨rfl, q, rfl⟩; have c3q := (HR.out.drewN q).cell 3 _ h3)
  | (at_builtin; refine wpList_app1 rfl (.tmp 11) (.tmp 13) 52 rfl i0 _ 24 Tryz.underlying52 hi hz0 hz1 hz2 rfl (by omega) rfl (own_drewN HS.out q) [.slice A n k] (by simp [go_sem]) rfl (by simp [Value.oneCell']) (by omega) (by omega) hbase ?_; intro v' W3 hown3 hb3 hs3 hg3; have HR3 := Lib.hid ((HR.out.drewN q).grown hg3 (own_ne_blk HS.out HR.out (by decide))); obtain ⟨g5, k5, rfl⟩ := oneShape hown3; have d3 := HR3.out.cell 3 _ h3; have z3 := HR3.out.frozen 3; have HO3 := Lib.hid hown3; have HB3 := Lib.hid hg3; clear hown3 hb3 hs3 hg3))
 go_returns
 have KE := KT.set HR3.out 3 (.slice (some ⟨g5, 0, none⟩) 1 k5)
 refine ⟨rfl, g5, k5, HR3.out.set_ 3 _, KE.own (by decide) HO3.out, ?_⟩
 exact ⟨HB3.out.os, HB3.out.tape, HB3.out.output, by simpa using HB3.out.size, fun j hj h1 h2 => (Below.heap_setCell _ _ _ _ h1).trans (HB3.out.block j hj h2)⟩
end Go.Proofs.YtahcjgjigbedoaaGreatDoor
namespace Go.Proofs.YtahcjgjigbedoaaGreatDoor
open Go.RowKit
set_option maxRecDepth 100000

attribute [local go_sem] cell_alloc_is
set_option maxHeartbeats 4000000 in
theorem load_ok (base gF gI gE gR kR gL kL : Nat) (st er ls lm sp pk : Int) (vv qv : Value) (A A' : Option Addr) (n k k' : Nat) (cs cl : Array Value) (w : World) (hE : Blk w gE 84 (exC gF gI st er vv (.slice (some ⟨gR, 0, none⟩) 1 kR) qv ls lm sp pk))
  (hR : Blk w gR 108 cs) (h2 : cs[2]? = some (.slice (some ⟨gL, 0, none⟩) 1 kL)) (h3 : cs[3]? = some (.slice A' 0 k')) (hsv : w.ownsRow base 22 1 (.slice A' 0 k') 0 []) (hbase : base ≤ w.heap.size) (hne : some gL ≠ (Value.slice A' 0 k').ownBlock) (hL : Blk w gL 22 cl) (hl0 : cl[0]? = some (.slice A n k)) :
  Calls Tryz.prog 79 #[.pointer (some ⟨gE, 0, none⟩), .agg #[.int .i64 5, .int .i64 0, .string ⟨#[]⟩, .slice none 0 0]] w fun e w' => e = .returned (.int .i64 0) ∧ ∃ g' k1, Blk w' gR 108 (cs.setIfInBounds 3 (.slice (some ⟨g', 0, none⟩) 1 k1)) ∧
   w'.ownsRow base 22 1 (.slice (some ⟨g', 0, none⟩) 1 k1) 1 [.slice A n k] ∧ G2 w w' gR (Value.slice A' 0 k').ownBlock := by
 have HE := Lib.hid (hE.alloc (.cells #[.int .i64 5, .int .i64 0, .string ⟨#[]⟩, .slice none 0 0] 75))
 have HR := Lib.hid (hR.alloc (.cells #[.int .i64 5, .int .i64 0, .string ⟨#[]⟩, .slice none 0 0] 75))
 have HL := Lib.hid (hL.alloc (.cells #[.int .i64 5, .int .i64 0, .string ⟨#[]⟩, .slice none 0 0] 75))
 have HSV := Lib.hid (own_below hsv (below_new w (.cells #[.int .i64 5, .int .i64 0, .string ⟨#[]⟩, .slice none 0 0] 75)))
 have HNR : Hid (gL ≠ gR) := Lib.hid (blk_ne hL hR (by decide))
 have HNI : Hid (w.heap.size ≠ gR) := Lib.hid (Nat.ne_of_gt hR.lt)
 have HNB : Hid (some w.heap.size ≠ (Value.slice A' 0 k').ownBlock) := Lib.hid (fun e => Nat.lt_irrefl _ (hsv.lt w.heap.size e.symm).2)
 have hbase' : base ≤ (w.alloc (.cells #[.int .i64 5, .int .i64 0, .string ⟨#[]⟩, .slice none 0 0] 75)).heap.size := Nat.le_trans hbase (by simp)
 have HI := Lib.hid (Blk.new w 75 #[.int .i64 5, .int .i64 0, .string ⟨#[]⟩, .slice none 0 0])
 clear hE hR hL hsv
 go_enter Tryz.func79, Tryz.ntmps79
 go_upto_region 2 with (first
  | (go_at_call 90; with_reducible refine (frame_ok gF gI gE gR kR _ _ _ _ _ _ _ _ _ HE.out).mono ?_; rintro e W1 ⟨rfl, q, rfl⟩; have c2q := (HR.out.drewN q).cell 2 _ h2; have c3q := (HR.out.drewN q).cell 3 _ h3; have lq := (HL.out.drewN q).cell 0 _ hl0; have iq := blk4 (HI.out.drewN q)))
 go_region_held3 (fun w' => w'.cell? ⟨w.heap.size, 1, none⟩ = some (.int .i64 0) ∧ w'.cell? ⟨gR, 2, none⟩ = some (.slice (some ⟨gL, 0, none⟩) 1 kL)) (refine ⟨?_, ?_⟩ <;> first | exact iq.2.1 | exact c2q | assumption | go_keep) (fail)
 go_upto_region 4 with fail
 go_region_held3 (fun w' => w'.cell? ⟨w.heap.size, 1, none⟩ = some (.int .i64 0) ∧ w'.cell? ⟨gR, 2, none⟩ = some (.slice (some ⟨gL, 0, none⟩) 1 kL) ∧ w'.cell? ⟨gL, 0, none⟩ = some (.slice A n k)) (refine ⟨?_, ?_, ?_⟩ <;> first | exact iq.2.1 | exact c2q | exact lq | assumption | go_keep) (first
  | (go_at_call 58; refine Calls.mono (push_ok base gF gI gE gR kR st er ls lm sp pk vv qv A A' n k k' cs _ ?he ?hr h3 ?hs ?hb) ?_; (case he => exact HE.out); (case hr => exact HR.out); (case hs => exact HSV.out); (case hb => exact hbase'); rintro e W5 ⟨rfl, g5, k5, hb5, ho5, hg5⟩; have HB5 := Lib.hid hb5; have HO5 := Lib.hid ho5; have HG5 := Lib.hid hg5; have s1 := (hg5.blk (show Blk _ w.heap.size _ _ from HI.out) HNI.out HNB.out).cell 1 _ rfl; have s2 := hb5.cell 2 (.slice (some ⟨gL, 0, none⟩) 1 kL) (by simp [h2]); have s3 := (hg5.blk (show Blk _ gL _ _ from HL.out) HNR.out hne).cell 0 _ hl0; clear hb5 ho5 hg5))
 all_goals
  go_wp2_with (fail)
  go_returns
  exact ⟨rfl, g5, k5, HB5.out, HO5.out, HG5.out.before (below_drewN (below_new w (.cells #[.int .i64 5, .int .i64 0, .string ⟨#[]⟩, .slice none 0 0] 75)) _)⟩
end Go.Proofs.YtahcjgjigbedoaaGreatDoor
