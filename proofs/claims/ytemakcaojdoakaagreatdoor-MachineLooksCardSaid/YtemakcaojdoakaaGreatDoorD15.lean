/- The machines wake: pop. -/
import Derived.Test.YtemakcaojdoakaaGreatDoorD14
namespace Go.Proofs.YtemakcaojdoakaaGreatDoor
open Go.RowKit
set_option maxRecDepth 100000

attribute [local go_sem] cell_alloc_is
set_option maxHeartbeats 2000000 in
theorem clone1_ok (gS kS : Nat) (x : Value) (cl : Array Value) (w : World) (hS : Blk w gS 24 cl) (hl0 : cl[0]? = some x) (h1 : x.oneCell' = true) :
    Calls Tryz.prog 92 #[.slice (some ⟨gS, 0, none⟩) 1 kS] w fun e w' => ∃ g k, e = .returned (.slice (some ⟨g, 0, none⟩) 1 k) ∧ w'.ownsRow w.heap.size 24 1 (.slice (some ⟨g, 0, none⟩) 1 k) 1 [x] ∧ Below w.heap.size w w' := by
  obtain ⟨i0, hi, hz0, hz1, hz2⟩ := info_parts Tryz.infoVal
  go_enter Tryz.func92, Tryz.ntmps92
  have hnil := fun w => nil_no Tryz.underlying35 ⟨gS, 0, none⟩ 1 kS w
  have HAT : Hid (∀ j u, [x][j]? = some u → (w.alloc (.cells #[] 24)).cell? ((⟨gS, 0, none⟩ : Addr).add j) = some u) := Lib.hid (fun j u hj => by
    have : j = 0 := by
      cases j with
      | zero => rfl
      | succ j => simp at hj
    subst this
    simp at hj
    subst hj
    exact (hS.alloc _).cell 0 _ hl0)
  go_wp2_with (first
    | (at_builtin; refine wpList_append_own _ rfl (.tmp 5) (.tmp 6) 35 rfl w.heap.size 24 i0 _ 1 24 Tryz.underlying35 hi hz0 hz1 hz2 rfl (by omega) _ 0 [] rfl (own_empty w _ 1) ⟨gS, 0, none⟩ 1 kS [x] rfl rfl HAT.out (by simpa using h1) (by unfold maxLen; omega) (by omega) (by simp) ?_; intro v' w1 hown hgrow _))
  go_ret
  have hown' : w1.ownsRow w.heap.size 24 1 v' 1 [x] := by simpa using hown
  obtain ⟨g, k, rfl⟩ := oneShape hown'
  exact ⟨g, k, rfl, hown', (below_new w _).grown hgrow (by simp) (fun k hk => by have h2 : some w.heap.size = some k := hk; injection h2 with h2; omega)⟩

set_option maxHeartbeats 4000000 in
theorem pop_ok (gF gI gE gR kR gS kS : Nat) (st er ls lm sp pk : Int) (vv qv x : Value) (cs cl : Array Value) (w : World) (hE : Blk w gE 76 (exC gF gI st er vv (.slice (some ⟨gR, 0, none⟩) 1 kR) qv ls lm sp pk))
    (hR : Blk w gR 37 cs) (h3 : cs[3]? = some (.slice (some ⟨gS, 0, none⟩) 1 kS)) (hk : 1 ≤ kS) (hS : Blk w gS 24 cl) (hl0 : cl[0]? = some x) (h1 : x.oneCell' = true) :
    Calls Tryz.prog 74 #[.pointer (some ⟨gE, 0, none⟩), .int .i64 1] w fun e w' => ∃ g k v, e = .returned (.tuple #[.slice (some ⟨g, 0, none⟩) 1 k, .int .i64 0]) ∧ Blk w' gR 37 (cs.setIfInBounds 3 v) ∧
      w'.cell? ⟨g, 0, none⟩ = some x ∧ w.heap.size ≤ g ∧ g < w'.heap.size ∧ w.grownBy w' (some gR) ∧ KT 37 w w' := by
  have HE := Lib.hid hE
  have HR := Lib.hid hR
  have HS := Lib.hid hS
  have c3 := hR.cell 3 _ h3
  have hlt : gR < w.heap.size := lt_of_block hR
  clear hE hR hS
  go_enter Tryz.func74, Tryz.ntmps74
  go_wp2_with (first
    | (go_at_call 60; with_reducible refine (frame_ok gF gI gE gR kR _ _ _ _ _ _ _ _ _ HE.out).mono ?_; rintro e W1 ⟨rfl, q, rfl⟩; have c3q := (HR.out.drewN q).cell 3 _ h3)
    | (go_at_call 92; with_reducible refine (clone1_ok gS kS x cl _ (HS.out.drewN q) hl0 h1).mono ?_; rintro e W2 ⟨g2, k2, rfl, ho2, hb2⟩; have HR2 := Lib.hid ((HR.out.drewN q).below hb2); have c32 := HR2.out.cell 3 _ h3; have z3 := HR2.out.frozen 3; have HO2 := Lib.hid ho2; have HB2 := Lib.hid hb2; clear ho2 hb2))
  go_returns
  have KE := KT.set HR2.out 3 (.slice (some ⟨gS, 0, none⟩) 0 kS)
  have hg := HO2.out.lt g2 rfl
  refine ⟨g2, k2, _, rfl, HR2.out.set_ 3 _, ?_, hg.1, by simpa using hg.2, ?_, (KT.of_below HB2.out).trans KE⟩
  · have := (KE.own (by decide) HO2.out).cellAt 0 (by omega)
    simpa using this
  · exact ⟨HB2.out.os, HB2.out.tape, HB2.out.output, by simpa using HB2.out.size, fun j hj hne' => (Below.heap_setCell _ _ _ _ (fun e => hne' (by rw [e]))).trans (HB2.out.block j hj)⟩
end Go.Proofs.YtemakcaojdoakaaGreatDoor
