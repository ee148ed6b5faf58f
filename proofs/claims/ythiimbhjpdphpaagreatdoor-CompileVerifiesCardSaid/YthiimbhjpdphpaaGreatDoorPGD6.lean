/- GD6 -/
import Derived.Test.YthiimbhjpdphpaaGreatDoorPGC10
import Derived.Handy
set_option linter.unusedVariables false
set_option linter.unusedSimpArgs false
set_option linter.unusedVariables false
set_option linter.unusedSimpArgs false
namespace Go.Proofs.YthiimbhjpdphpaaGreatDoor
open Go.RowKit
set_option maxRecDepth 100000
theorem mb (i : Nat) (h : i < (⟨#[109, 97, 105, 110]⟩ : ByteArray).size) : (wrap32 (((⟨#[109, 97, 105, 110]⟩ : ByteArray)[i]'h).toNat : Int)) = if i = 0 then 109 else if i = 1 then 97 else if i = 2 then 105 else 110 := by
 have h4 : i < 4 := h
 have : i = 0 ∨ i = 1 ∨ i = 2 ∨ i = 3 := by omega
 rcases this with rfl | rfl | rfl | rfl
 ·rw [show ((⟨#[109, 97, 105, 110]⟩ : ByteArray)[0]'h) = (109 : UInt8) from rfl]; decide +kernel
 ·rw [show ((⟨#[109, 97, 105, 110]⟩ : ByteArray)[1]'h) = (97 : UInt8) from rfl]; decide +kernel
 ·rw [show ((⟨#[109, 97, 105, 110]⟩ : ByteArray)[2]'h) = (105 : UInt8) from rfl]; decide +kernel
 ·rw [show ((⟨#[109, 97, 105, 110]⟩ : ByteArray)[3]'h) = (110 : UInt8) from rfl]; decide +kernel
attribute [local go_sem] mb
attribute [local go_sem] cell_alloc_is
theorem Tryz.infoTok : (Tryz.prog.info? 184).map (fun i => (i.zero, i.size, i.bytes)) = some (some (.agg #[.int .i64 0, .string ByteArray.empty, .int .i64 0, .int .i64 0]), 4, 40) := by kernel_rfl
theorem one_own {w : World} {base : Nat} {t : TypeId} {v a b c d : Value} (h : w.ownsRow base t 4 v 1 [a, b, c, d]) : ∃ g cap, v = .slice (some ⟨g, 0, none⟩) 1 cap ∧ 1 ≤ cap ∧ w.cell? ⟨g, 0, none⟩ = some a ∧ w.cell? ⟨g, 1, none⟩ = some b := by
 have h0 := h
 rcases h.2 with ⟨_, h1⟩ | ⟨g, cap, cur, rfl, _, _, h3, _⟩
 ·cases h1
 ·have hs : SlAt w (some ⟨g, 0, none⟩) 4 (fun _ : Unit => [a, b, c, d]) [()] := SlAt.of_own h0 rfl (fun _ => rfl) (by omega)
  refine ⟨g, cap, rfl, h3, ?_, ?_⟩
  ·have := hs.cell (n := 0) (by simp) (j := 0) (v := a) rfl; simpa using this
  ·have := hs.cell (n := 0) (by simp) (j := 1) (v := b) rfl; simpa using this
end Go.Proofs.YthiimbhjpdphpaaGreatDoor
namespace Go.Proofs.YthiimbhjpdphpaaGreatDoor
open Go.RowKit
set_option maxRecDepth 100000
theorem blk5 {w : World} {g : Nat} {t : TypeId} {v0 v1 v2 v3 v4 : Value} (h : Blk w g t #[v0, v1, v2, v3, v4]) : w.cell? ⟨g, 0, none⟩ = some v0 ∧ w.cell? ⟨g, 1, none⟩ = some v1 ∧ w.cell? ⟨g, 2, none⟩ = some v2 ∧ w.cell? ⟨g, 3, none⟩ = some v3 ∧ w.cell? ⟨g, 4, none⟩ = some v4 :=
 ⟨h.cell 0 _ rfl, h.cell 1 _ rfl, h.cell 2 _ rfl, h.cell 3 _ rfl, h.cell 4 _ rfl⟩
attribute [local go_sem] cell_alloc_is
end Go.Proofs.YthiimbhjpdphpaaGreatDoor
namespace Go.Proofs.YthiimbhjpdphpaaGreatDoor
open Go.RowKit
set_option maxRecDepth 100000
def shapeCells : List Value := [
 .string ⟨#[]⟩, .bool false, .bool false, .bool false, .int .i64 0, .int .i64 0,
 .string ⟨#[110, 117, 108, 108]⟩, .bool false, .bool false, .bool false, .int .i64 0, .int .i64 1,
 .string ⟨#[98, 111, 111, 108]⟩, .bool true, .bool false, .bool false, .int .i64 0, .int .i64 1,
 .string ⟨#[105, 110, 116]⟩, .bool true, .bool false, .bool false, .int .i64 0, .int .i64 1,
 .string ⟨#[115, 116, 114]⟩, .bool false, .bool true, .bool false, .int .i64 0, .int .i64 1,
 .string ⟨#[108, 111, 97, 100]⟩, .bool true, .bool false, .bool false, .int .i64 0, .int .i64 1,
 .string ⟨#[115, 116, 111, 114, 101]⟩, .bool true, .bool false, .bool false, .int .i64 1, .int .i64 0,
 .string ⟨#[112, 111, 112]⟩, .bool false, .bool false, .bool false, .int .i64 1, .int .i64 0,
 .string ⟨#[117, 110, 97, 114, 121]⟩, .bool false, .bool true, .bool false, .int .i64 1, .int .i64 1,
 .string ⟨#[98, 105, 110, 97, 114, 121]⟩, .bool false, .bool true, .bool false, .int .i64 2, .int .i64 1,
 .string ⟨#[105, 110, 100, 101, 120]⟩, .bool false, .bool false, .bool false, .int .i64 2, .int .i64 1,
 .string ⟨#[108, 105, 115, 116]⟩, .bool true, .bool false, .bool false, .int .i64 (-1), .int .i64 1,
 .string ⟨#[109, 97, 112]⟩, .bool true, .bool false, .bool true, .int .i64 (-1), .int .i64 1,
 .string ⟨#[106, 117, 109, 112]⟩, .bool true, .bool false, .bool false, .int .i64 0, .int .i64 0,
 .string ⟨#[102, 97, 108, 115, 101]⟩, .bool true, .bool false, .bool false, .int .i64 1, .int .i64 0,
 .string ⟨#[116, 101, 115, 116]⟩, .bool false, .bool false, .bool false, .int .i64 1, .int .i64 1,
 .string ⟨#[100, 117, 112]⟩, .bool false, .bool false, .bool false, .int .i64 1, .int .i64 2,
 .string ⟨#[99, 97, 108, 108]⟩, .bool true, .bool false, .bool false, .int .i64 (-1), .int .i64 1,
 .string ⟨#[98, 117, 105, 108, 116]⟩, .bool true, .bool true, .bool false, .int .i64 (-1), .int .i64 1,
 .string ⟨#[104, 111, 115, 116]⟩, .bool true, .bool true, .bool false, .int .i64 (-1), .int .i64 1,
 .string ⟨#[114, 101, 116, 117, 114, 110]⟩, .bool false, .bool false, .bool false, .int .i64 1, .int .i64 0]
/-- The table of the operations' shapes stands. -/
def Shaped (w : World) : Prop := ∀ (i : Nat) (v : Value), shapeCells[i]? = some v → w.cell? ⟨0, i, none⟩ = some v
theorem Shaped.below {w w' : World} (h : Shaped w) (hb : Below w.heap.size w w') : Shaped w' := fun i v hv => by
 have := h i v hv
 rw [hb.cell (p := ⟨_, i, none⟩) (World.block_lt_of_cell? w _ (by rw [this]))]
 exact this
attribute [local go_sem] cell_alloc_is
end Go.Proofs.YthiimbhjpdphpaaGreatDoor
namespace Go.Proofs.YthiimbhjpdphpaaGreatDoor
open Go.RowKit
set_option maxRecDepth 100000
attribute [local go_sem] cell_alloc_is
theorem Tryz.infoBool : (Tryz.prog.info? 4).map (fun i => (i.zero, i.size, i.bytes)) = some (some (.bool false), 1, 1) := by kernel_rfl
theorem Tryz.infoInt : (Tryz.prog.info? 3).map (fun i => (i.zero, i.size, i.bytes)) = some (some (.int .i64 0), 1, 8) := by kernel_rfl
theorem Blk.third (w : World) (o1 o2 : Obj) (t : TypeId) (cs : Array Value) : Blk (((w.alloc o1).alloc o2).alloc (.cells cs t)) (w.heap.size + 1 + 1) t cs := by
 have := Blk.new ((w.alloc o1).alloc o2) t cs
 simpa using this
end Go.Proofs.YthiimbhjpdphpaaGreatDoor
namespace Go.Proofs.YthiimbhjpdphpaaGreatDoor
open Go.RowKit
set_option maxRecDepth 100000
attribute [local go_sem] cell_alloc_is
end Go.Proofs.YthiimbhjpdphpaaGreatDoor
namespace Go.Proofs.YthiimbhjpdphpaaGreatDoor
open Go.RowKit
set_option maxRecDepth 100000
attribute [local go_sem] cell_alloc_is
end Go.Proofs.YthiimbhjpdphpaaGreatDoor
