/- GC4, GC10 -/
import Derived.Test.YthiimbhjpdphpaaGreatDoorPGN0
import Derived.ArgAppend
import Derived.BigQuiet
import Derived.Deep.DeepCutAuto
import Derived.Deep.LoopGhost
import Derived.Deep.QuietTactic
import Derived.Deep.RegionHeld3
import Derived.Laws.CopyOwn
import Derived.Laws.Rows
import Derived.Test.YthiimbhjpdphpaaGreatDoorProg
import Derived.Lib.LazyBuf
set_option linter.unusedVariables false
set_option linter.unusedSimpArgs false
set_option linter.unusedVariables false
set_option linter.unusedSimpArgs false
namespace Go.Proofs.YthiimbhjpdphpaaGreatDoor
open Go.RowKit
theorem below_drewN {B : Nat} {a w : World} (h : Below B a w) (n : Nat) : Below B a (w.drewN n) := ⟨h.os, h.tape, h.output, h.size, h.block⟩
theorem below_drew (w : World) : Below w.heap.size w w.drew := ⟨rfl, rfl, rfl, Nat.le_refl _, fun _ _ => rfl⟩
theorem toList_beq (a b : ByteArray) : (a.toList == b.toList) = decide (a = b) := by
 rw [Bool.eq_iff_iff]
 simp only [beq_iff_eq, decide_eq_true_eq]
 constructor
 ·intro h
  have : a.data.toList = b.data.toList := by simpa [ByteArray.toList_eq] using h
  cases a; cases b; simp at this; simpa using this
 ·rintro rfl; rfl
theorem Blk.setRow {w : World} {g : Nat} {t : TypeId} {cs cs' : Array Value} (h : Blk w g t cs) : Blk (w.setRow g cs') g t cs' := setRow_heap w g cs cs' t (0, 0) h
theorem below_2 (w : World) (o1 o2 : Obj) : Below w.heap.size w ((w.alloc o1).alloc o2) := ((Below.refl _ _).alloc (Nat.le_refl _) o1).alloc (by simp) o2
theorem below_3 (w : World) (o1 o2 o3 : Obj) : Below w.heap.size w (((w.alloc o1).alloc o2).alloc o3) := (((Below.refl _ _).alloc (Nat.le_refl _) o1).alloc (by simp) o2).alloc (by simp; omega) o3
theorem Blk.second (w : World) (o : Obj) (t : TypeId) (cs : Array Value) : Blk ((w.alloc o).alloc (.cells cs t)) (w.heap.size + 1) t cs := by
 have := Blk.new (w.alloc o) t cs
 simpa using this
theorem blk2 {w : World} {g : Nat} {t : TypeId} {v0 v1 : Value} (h : Blk w g t #[v0, v1]) : w.cell? ⟨g, 0, none⟩ = some v0 ∧ w.cell? ⟨g, 1, none⟩ = some v1 := ⟨h.cell 0 _ rfl, h.cell 1 _ rfl⟩
theorem blk4 {w : World} {g : Nat} {t : TypeId} {v0 v1 v2 v3 : Value} (h : Blk w g t #[v0, v1, v2, v3]) : w.cell? ⟨g, 0, none⟩ = some v0 ∧ w.cell? ⟨g, 1, none⟩ = some v1 ∧ w.cell? ⟨g, 2, none⟩ = some v2 ∧ w.cell? ⟨g, 3, none⟩ = some v3 :=
 ⟨h.cell 0 _ rfl, h.cell 1 _ rfl, h.cell 2 _ rfl, h.cell 3 _ rfl⟩
end Go.Proofs.YthiimbhjpdphpaaGreatDoor
namespace Go.Proofs.YthiimbhjpdphpaaGreatDoor
open Go.RowKit
set_option maxRecDepth 100000
attribute [local go_sem] cell_alloc_is
end Go.Proofs.YthiimbhjpdphpaaGreatDoor
namespace Go.Proofs.YthiimbhjpdphpaaGreatDoor
open Go.RowKit
set_option maxRecDepth 100000
attribute [local go_sem] cell_alloc_is
end Go.Proofs.YthiimbhjpdphpaaGreatDoor
namespace Go.Proofs.YthiimbhjpdphpaaGreatDoor
open Go.RowKit
set_option maxRecDepth 100000
attribute [local go_sem] cell_alloc_is
end Go.Proofs.YthiimbhjpdphpaaGreatDoor
namespace Go.Proofs.YthiimbhjpdphpaaGreatDoor
open Go.RowKit
set_option maxRecDepth 100000
attribute [local go_sem] cell_alloc_is
end Go.Proofs.YthiimbhjpdphpaaGreatDoor
set_option linter.unusedVariables false
set_option linter.unusedSimpArgs false
namespace Go.Proofs.YthiimbhjpdphpaaGreatDoor
open Go.RowKit
set_option maxRecDepth 100000
theorem Tryz.infoVal : (Tryz.prog.info? 96).map (fun i => (i.zero, i.size, i.bytes)) = some (some (.slice none 0 0), 1, 24) := by kernel_rfl
attribute [local go_sem] cell_alloc_is
end Go.Proofs.YthiimbhjpdphpaaGreatDoor
namespace Go.Proofs.YthiimbhjpdphpaaGreatDoor
open Go.RowKit
set_option maxRecDepth 100000
/-- Only blocks of cells of element type t have turned, and blocks have been made. -/
def KT (t : TypeId) (w w' : World) : Prop := w.heap.size ≤ w'.heap.size ∧ ∀ (g : Nat) (o : Obj), w.heap[g]? = some o → (∀ cs fr, o ≠ Obj.cells cs t fr) → w'.heap[g]? = some o
theorem KT.set {t : TypeId} {w : World} {g : Nat} {cs : Array Value} (h : Blk w g t cs) (i : Nat) (u : Value) : KT t w (w.setCell ⟨g, i, none⟩ u) :=
 ⟨by simp, fun k o hk ho => by
  rw [Below.heap_setCell w ⟨g, i, none⟩ u k ?_]
  ·exact hk
  ·rintro rfl
   unfold Blk at h
   rw [h] at hk
   injection hk with hk
   exact ho _ _ hk.symm⟩
theorem KT.own {t e : TypeId} {w w' : World} (k : KT t w w') (hne : e ≠ t) {base size n : Nat} {v : Value} {xs : List Value} (h : w.ownsRow base e size v n xs) : w'.ownsRow base e size v n xs := by
 obtain ⟨h1, h2⟩ := h
 refine ⟨h1, h2.imp id (fun ⟨g, cap, cur, e1, e2, e3, e4⟩ => ⟨g, cap, cur, e1, e2, k.2 g _ e3 (fun cs fr hh => ?_), e4⟩)⟩
 injection hh with _ hh
 exact hne hh
theorem KT.blk {t e : TypeId} {w w' : World} (k : KT t w w') (hne : e ≠ t) {g : Nat} {cs : Array Value} (h : Blk w g e cs) : Blk w' g e cs := by
 unfold Blk at h ⊢
 exact k.2 g _ h (fun cs fr hh => by injection hh with _ hh; exact hne hh)
/-- The blocks of the values of frames. -/
def blocks (ps : List (Value × Value)) : List Nat := ps.flatMap fun p => p.1.ownBlock.toList ++ p.2.ownBlock.toList
end Go.Proofs.YthiimbhjpdphpaaGreatDoor
