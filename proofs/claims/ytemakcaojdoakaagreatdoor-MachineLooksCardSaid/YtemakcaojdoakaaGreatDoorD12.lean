/- The machines wake: push. -/
import Derived.Test.YtemakcaojdoakaaGreatDoorD11
namespace Go.Proofs.YtemakcaojdoakaaGreatDoor
open Go.RowKit
set_option maxRecDepth 100000

theorem oneShape {w : World} {base size : Nat} {t : TypeId} {v : Value} {xs : List Value} (h : w.ownsRow base t size v 1 xs) : ∃ g k, v = .slice (some ⟨g, 0, none⟩) 1 k := by
  rcases h.2 with ⟨_, h1⟩ | ⟨g, cap, cur, e, _⟩
  · cases h1
  · exact ⟨g, cap, e⟩
/-- Only the block r and the block b have turned. -/
structure G2 (w w' : World) (r : Nat) (b : Option Nat) : Prop where
  os : w'.os = w.os
  tape : w'.tape = w.tape
  output : w'.output = w.output
  size : w.heap.size ≤ w'.heap.size
  block : ∀ j, j < w.heap.size → j ≠ r → some j ≠ b → w'.heap[j]? = w.heap[j]?
theorem G2.blk {w w' : World} {r : Nat} {b : Option Nat} (h : G2 w w' r b) {g : Nat} {t : TypeId} {cs : Array Value} (hB : Blk w g t cs) (h1 : g ≠ r) (h2 : some g ≠ b) : Blk w' g t cs := (h.block g hB.lt h1 h2).trans hB
theorem G2.before {w w1 w' : World} {r : Nat} {b : Option Nat} (h : G2 w1 w' r b) (hb : Below w.heap.size w w1) : G2 w w' r b :=
  ⟨h.os.trans hb.os, h.tape.trans hb.tape, h.output.trans hb.output, Nat.le_trans hb.size h.size, fun j hj h1 h2 => (h.block j (Nat.lt_of_lt_of_le hj hb.size) h1 h2).trans (hb.block j hj)⟩
theorem G2.bel {w0 w w' : World} {base r : Nat} {b : Option Nat} (h : G2 w w' r b) (hb : Below base w0 w) (hs : base ≤ w.heap.size) (h1 : base ≤ r) (h2 : ∀ j, b = some j → base ≤ j) : Below base w0 w' :=
  hb.trans ⟨h.os, h.tape, h.output, h.size, fun j hj => h.block j (Nat.lt_of_lt_of_le hj hs) (by omega) (fun e => by have := h2 j e.symm; omega)⟩
theorem G2.own {w w' : World} {r : Nat} {b : Option Nat} (h : G2 w w' r b) {base : Nat} {e : TypeId} {size n : Nat} {v : Value} {xs : List Value} (ho : w.ownsRow base e size v n xs) (h1 : v.ownBlock ≠ some r) (h2 : ∀ g, v.ownBlock = some g → some g ≠ b) : w'.ownsRow base e size v n xs := by
  obtain ⟨e1, e2⟩ := ho
  refine ⟨e1, e2.imp id (fun ⟨g, cap, cur, ev, eg, eh, e4⟩ => ⟨g, cap, cur, ev, eg, ?_, e4⟩)⟩
  subst ev
  exact (h.block g (lt_of_block eh) (fun e => h1 (by simp [Value.ownBlock, e])) (h2 g rfl)).trans eh
theorem blk_ne {w : World} {g g' : Nat} {t t' : TypeId} {cs cs' : Array Value} (h : Blk w g t cs) (h' : Blk w g' t' cs') (hne : t ≠ t') : g ≠ g' := by
  rintro rfl
  unfold Blk at h h'
  rw [h] at h'
  injection h' with h'
  injection h' with _ e
  exact hne e
attribute [local go_sem] cell_alloc_is
set_option maxHeartbeats 4000000 in
theorem push_ok (base gF gI gE gR kR : Nat) (st er ls lm sp pk : Int) (vv qv : Value) (A A' : Option Addr) (n k k' : Nat) (cs : Array Value) (w : World) (hE : Blk w gE 76 (exC gF gI st er vv (.slice (some ⟨gR, 0, none⟩) 1 kR) qv ls lm sp pk))
    (hR : Blk w gR 37 cs) (h3 : cs[3]? = some (.slice A' 0 k')) (hsv : w.ownsRow base 24 1 (.slice A' 0 k') 0 []) (hbase : base ≤ w.heap.size) :
    Calls Tryz.prog 73 #[.pointer (some ⟨gE, 0, none⟩), .slice A n k] w fun e w' => e = .returned (.tuple #[]) ∧ ∃ g' k1, Blk w' gR 37 (cs.setIfInBounds 3 (.slice (some ⟨g', 0, none⟩) 1 k1)) ∧
      w'.ownsRow base 24 1 (.slice (some ⟨g', 0, none⟩) 1 k1) 1 [.slice A n k] ∧ G2 w w' gR (Value.slice A' 0 k').ownBlock := by
  obtain ⟨i0, hi, hz0, hz1, hz2⟩ := info_parts Tryz.infoVal
  have HE := Lib.hid hE
  have HR := Lib.hid hR
  have HS := Lib.hid hsv
  have c3 := hR.cell 3 _ h3
  have hlt : gR < w.heap.size := lt_of_block hR
  clear hE hR hsv
  go_enter Tryz.func73, Tryz.ntmps73
  go_wp2_with (first
    | (go_at_call 60; with_reducible refine (frame_ok gF gI gE gR kR _ _ _ _ _ _ _ _ _ HE.out).mono ?_; rintro e W1 ⟨rfl, q, rfl⟩; have c3q := (HR.out.drewN q).cell 3 _ h3)
    | (at_builtin; refine wpList_app1 rfl (.tmp 11) (.tmp 13) 35 rfl i0 _ 24 Tryz.underlying35 hi hz0 hz1 hz2 rfl (by omega) rfl (own_drewN HS.out q) [.slice A n k] (by simp [go_sem]) rfl (by simp [Value.oneCell']) (by omega) (by omega) hbase ?_; intro v' W3 hown3 hb3 hs3 hg3; have HR3 := Lib.hid ((HR.out.drewN q).grown hg3 (own_ne_blk HS.out HR.out (by decide))); obtain ⟨g5, k5, rfl⟩ := oneShape hown3; have d3 := HR3.out.cell 3 _ h3; have z3 := HR3.out.frozen 3; have HO3 := Lib.hid hown3; have HB3 := Lib.hid hg3; clear hown3 hb3 hs3 hg3))
  go_returns
  have KE := KT.set HR3.out 3 (.slice (some ⟨g5, 0, none⟩) 1 k5)
  refine ⟨rfl, g5, k5, HR3.out.set_ 3 _, KE.own (by decide) HO3.out, ?_⟩
  exact ⟨HB3.out.os, HB3.out.tape, HB3.out.output, by simpa using HB3.out.size, fun j hj h1 h2 => (Below.heap_setCell _ _ _ _ h1).trans (HB3.out.block j hj h2)⟩
end Go.Proofs.YtemakcaojdoakaaGreatDoor
