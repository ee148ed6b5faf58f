/- The machines wake: load. -/
import Derived.Test.YtemakcaojdoakaaGreatDoorD12
namespace Go.Proofs.YtemakcaojdoakaaGreatDoor
open Go.RowKit
set_option maxRecDepth 100000

attribute [local go_sem] cell_alloc_is
set_option maxHeartbeats 4000000 in
theorem load_ok (base gF gI gE gR kR gL kL : Nat) (st er ls lm sp pk : Int) (vv qv : Value) (A A' : Option Addr) (n k k' : Nat) (cs cl : Array Value) (w : World) (hE : Blk w gE 76 (exC gF gI st er vv (.slice (some ⟨gR, 0, none⟩) 1 kR) qv ls lm sp pk))
    (hR : Blk w gR 37 cs) (h2 : cs[2]? = some (.slice (some ⟨gL, 0, none⟩) 1 kL)) (h3 : cs[3]? = some (.slice A' 0 k')) (hsv : w.ownsRow base 24 1 (.slice A' 0 k') 0 []) (hbase : base ≤ w.heap.size) (hne : some gL ≠ (Value.slice A' 0 k').ownBlock) (hL : Blk w gL 24 cl) (hl0 : cl[0]? = some (.slice A n k)) :
    Calls Tryz.prog 49 #[.pointer (some ⟨gE, 0, none⟩), .agg #[.int .i64 5, .int .i64 0, .string ⟨#[]⟩, .slice none 0 0]] w fun e w' => e = .returned (.int .i64 0) ∧ ∃ g' k1, Blk w' gR 37 (cs.setIfInBounds 3 (.slice (some ⟨g', 0, none⟩) 1 k1)) ∧
      w'.ownsRow base 24 1 (.slice (some ⟨g', 0, none⟩) 1 k1) 1 [.slice A n k] ∧ G2 w w' gR (Value.slice A' 0 k').ownBlock := by
  have HE := Lib.hid (hE.alloc (.cells #[.int .i64 5, .int .i64 0, .string ⟨#[]⟩, .slice none 0 0] 46))
  have HR := Lib.hid (hR.alloc (.cells #[.int .i64 5, .int .i64 0, .string ⟨#[]⟩, .slice none 0 0] 46))
  have HL := Lib.hid (hL.alloc (.cells #[.int .i64 5, .int .i64 0, .string ⟨#[]⟩, .slice none 0 0] 46))
  have HSV := Lib.hid (own_below hsv (below_new w (.cells #[.int .i64 5, .int .i64 0, .string ⟨#[]⟩, .slice none 0 0] 46)))
  have HNR : Hid (gL ≠ gR) := Lib.hid (blk_ne hL hR (by decide))
  have HNI : Hid (w.heap.size ≠ gR) := Lib.hid (Nat.ne_of_gt hR.lt)
  have HNB : Hid (some w.heap.size ≠ (Value.slice A' 0 k').ownBlock) := Lib.hid (fun e => Nat.lt_irrefl _ (hsv.lt w.heap.size e.symm).2)
  have hbase' : base ≤ (w.alloc (.cells #[.int .i64 5, .int .i64 0, .string ⟨#[]⟩, .slice none 0 0] 46)).heap.size := Nat.le_trans hbase (by simp)
  have HI := Lib.hid (Blk.new w 46 #[.int .i64 5, .int .i64 0, .string ⟨#[]⟩, .slice none 0 0])
  clear hE hR hL hsv
  go_enter Tryz.func49, Tryz.ntmps49
  go_upto_region 2 with (first
    | (go_at_call 60; with_reducible refine (frame_ok gF gI gE gR kR _ _ _ _ _ _ _ _ _ HE.out).mono ?_; rintro e W1 ⟨rfl, q, rfl⟩; have c2q := (HR.out.drewN q).cell 2 _ h2; have c3q := (HR.out.drewN q).cell 3 _ h3; have lq := (HL.out.drewN q).cell 0 _ hl0; have iq := blk4 (HI.out.drewN q)))
  go_region_held3 (fun w' => w'.cell? ⟨w.heap.size, 1, none⟩ = some (.int .i64 0) ∧ w'.cell? ⟨gR, 2, none⟩ = some (.slice (some ⟨gL, 0, none⟩) 1 kL)) (refine ⟨?_, ?_⟩ <;> first | exact iq.2.1 | exact c2q | assumption | go_keep) (fail)
  go_upto_region 4 with fail
  go_region_held3 (fun w' => w'.cell? ⟨w.heap.size, 1, none⟩ = some (.int .i64 0) ∧ w'.cell? ⟨gR, 2, none⟩ = some (.slice (some ⟨gL, 0, none⟩) 1 kL) ∧ w'.cell? ⟨gL, 0, none⟩ = some (.slice A n k)) (refine ⟨?_, ?_, ?_⟩ <;> first | exact iq.2.1 | exact c2q | exact lq | assumption | go_keep) (first
    | (go_at_call 73; refine Calls.mono (push_ok base gF gI gE gR kR st er ls lm sp pk vv qv A A' n k k' cs _ ?he ?hr h3 ?hs ?hb) ?_; (case he => exact HE.out); (case hr => exact HR.out); (case hs => exact HSV.out); (case hb => exact hbase'); rintro e W5 ⟨rfl, g5, k5, hb5, ho5, hg5⟩; have HB5 := Lib.hid hb5; have HO5 := Lib.hid ho5; have HG5 := Lib.hid hg5; have s1 := (hg5.blk (show Blk _ w.heap.size _ _ from HI.out) HNI.out HNB.out).cell 1 _ rfl; have s2 := hb5.cell 2 (.slice (some ⟨gL, 0, none⟩) 1 kL) (by simp [h2]); have s3 := (hg5.blk (show Blk _ gL _ _ from HL.out) HNR.out hne).cell 0 _ hl0; clear hb5 ho5 hg5))
  all_goals
    go_wp2_with (fail)
    go_returns
    exact ⟨rfl, g5, k5, HB5.out, HO5.out, HG5.out.before (below_drewN (below_new w (.cells #[.int .i64 5, .int .i64 0, .string ⟨#[]⟩, .slice none 0 0] 46)) _)⟩
end Go.Proofs.YtemakcaojdoakaaGreatDoor
