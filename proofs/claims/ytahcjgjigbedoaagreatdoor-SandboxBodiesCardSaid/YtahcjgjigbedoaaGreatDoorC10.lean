/- What a write to blocks of one element type leaves alone; frames, requests and machines in memory of the call's own. -/
import Derived.Test.YtahcjgjigbedoaaGreatDoorC9
import Derived.Test.YtahcjgjigbedoaaGreatDoorGC7
set_option linter.unusedVariables false
set_option linter.unusedSimpArgs false
namespace Go.Proofs.YtahcjgjigbedoaaGreatDoor
open Go.RowKit
set_option maxRecDepth 100000

/-- Only blocks of cells of element type t have turned, and blocks have been made. -/
def KT (t : TypeId) (w w' : World) : Prop := w.heap.size ≤ w'.heap.size ∧ ∀ (g : Nat) (o : Obj), w.heap[g]? = some o → (∀ cs fr, o ≠ Obj.cells cs t fr) → w'.heap[g]? = some o
theorem KT.refl (t : TypeId) (w : World) : KT t w w := ⟨Nat.le_refl _, fun _ _ h _ => h⟩
theorem KT.trans {t : TypeId} {a b c : World} (h : KT t a b) (k : KT t b c) : KT t a c := ⟨Nat.le_trans h.1 k.1, fun g o hg ho => k.2 g o (h.2 g o hg ho) ho⟩
theorem KT.of_below {t : TypeId} {w w' : World} (h : Below w.heap.size w w') : KT t w w' := ⟨h.size, fun g o hg _ => (h.block g (lt_of_block hg)).trans hg⟩
theorem KT.set {t : TypeId} {w : World} {g : Nat} {cs : Array Value} (h : Blk w g t cs) (i : Nat) (u : Value) : KT t w (w.setCell ⟨g, i, none⟩ u) :=
 ⟨by simp, fun k o hk ho => by
  rw [Below.heap_setCell w ⟨g, i, none⟩ u k ?_]
  ·exact hk
  ·rintro rfl
   unfold Blk at h
   rw [h] at hk
   injection hk with hk
   exact ho _ _ hk.symm⟩
theorem KT.row {t : TypeId} {w : World} {g : Nat} {cs : Array Value} (h : Blk w g t cs) (cs' : Array Value) : KT t w (w.setRow g cs') :=
 ⟨by simp, fun k o hk ho => by
  rw [setRow_other w g k cs' ?_]
  ·exact hk
  ·rintro rfl
   unfold Blk at h
   rw [h] at hk
   injection hk with hk
   exact ho _ _ hk.symm⟩
theorem KT.grown {t : TypeId} {w w' : World} {base size n : Nat} {v : Value} {xs : List Value} (h : w.ownsRow base t size v n xs) (hg : w.grownBy w' v.ownBlock) : KT t w w' :=
 ⟨hg.size, fun k o hk ho => by
  rw [hg.block k (lt_of_block hk) ?_]
  ·exact hk
  ·intro he
   rcases h.2 with ⟨rfl, _⟩ | ⟨g, cap, cur, rfl, _, hh, _⟩
   ·cases he
   ·have : k = g := by simpa [Value.ownBlock] using he
    subst this
    rw [hh] at hk
    injection hk with hk
    exact ho _ _ hk.symm⟩
theorem KT.own {t e : TypeId} {w w' : World} (k : KT t w w') (hne : e ≠ t) {base size n : Nat} {v : Value} {xs : List Value} (h : w.ownsRow base e size v n xs) : w'.ownsRow base e size v n xs := by
 obtain ⟨h1, h2⟩ := h
 refine ⟨h1, h2.imp id (fun ⟨g, cap, cur, e1, e2, e3, e4⟩ => ⟨g, cap, cur, e1, e2, k.2 g _ e3 (fun cs fr hh => ?_), e4⟩)⟩
 injection hh with _ hh
 exact hne hh
theorem KT.blk {t e : TypeId} {w w' : World} (k : KT t w w') (hne : e ≠ t) {g : Nat} {cs : Array Value} (h : Blk w g e cs) : Blk w' g e cs := by
 unfold Blk at h ⊢
 exact k.2 g _ h (fun cs fr hh => by injection hh with _ hh; exact hne hh)
theorem KT.oval {t : TypeId} {w w' : World} (k : KT t w w') (hne : 47 ≠ t) {base : Nat} {v : Value} {l : ValD} (h : OVal w base v l) : OVal w' base v l := k.own hne h
theorem KT.ovals {t : TypeId} {w w' : World} (k : KT t w w') (hne : 47 ≠ t) (hne2 : 22 ≠ t) {base : Nat} {v : Value} {l : List ValD} (h : OVals w base v l) : OVals w' base v l := by
 obtain ⟨vs, h1, h2, h3⟩ := h
 exact ⟨vs, k.own hne2 h1, h2, fun i a b => k.oval hne (h3 i a b)⟩

/-- The blocks of the values of frames. -/
def blocks (ps : List (Value × Value)) : List Nat := ps.flatMap fun p => p.1.ownBlock.toList ++ p.2.ownBlock.toList
def frameRow (f : FrameD) (p : Value × Value) : List Value := [.int .i64 f.func, .int .i64 f.pc, p.1, p.2]
def OFrames (w : World) (base : Nat) (v : Value) (l : List FrameD) (ps : List (Value × Value)) : Prop :=
 ps.length = l.length ∧ w.ownsRow base 108 4 v l.length ((List.zipWith frameRow l ps).flatten) ∧ (blocks ps).Nodup ∧
 ∀ i (h : i < ps.length) (h' : i < l.length), OVals w base ps[i].1 l[i].locals ∧ OVals w base ps[i].2 l[i].stack
theorem KT.oframes {t : TypeId} {w w' : World} (k : KT t w w') (h1 : 47 ≠ t) (h2 : 22 ≠ t) (h3 : 108 ≠ t) {base : Nat} {v : Value} {l : List FrameD} {ps : List (Value × Value)} (h : OFrames w base v l ps) : OFrames w' base v l ps :=
 ⟨h.1, k.own h3 h.2.1, h.2.2.1, fun i a b => ⟨k.ovals h1 h2 (h.2.2.2 i a b).1, k.ovals h1 h2 (h.2.2.2 i a b).2⟩⟩
def reqRow (r : ReqD) (v : Value) : List Value := [.string r.op, v]
def OReqs (w : World) (base : Nat) (v : Value) (l : List ReqD) : Prop :=
 ∃ vs : List Value, vs.length = l.length ∧ w.ownsRow base 66 2 v l.length ((List.zipWith reqRow l vs).flatten) ∧
 ∀ i (h : i < vs.length) (h' : i < l.length), OVals w base vs[i] l[i].args
theorem KT.oreqs {t : TypeId} {w w' : World} (k : KT t w w') (h1 : 47 ≠ t) (h2 : 22 ≠ t) (h3 : 66 ≠ t) {base : Nat} {v : Value} {l : List ReqD} (h : OReqs w base v l) : OReqs w' base v l := by
 obtain ⟨vs, e1, e2, e3⟩ := h
 exact ⟨vs, e1, k.own h3 e2, fun i a b => k.ovals h1 h2 (e3 i a b)⟩

theorem OFrames.nil (w : World) (base : Nat) : OFrames w base (.slice none 0 0) [] [] := ⟨rfl, World.ownsRow_nil _ _ _ _, List.nodup_nil, fun i h => absurd h (by simp)⟩
theorem OReqs.nil (w : World) (base : Nat) : OReqs w base (.slice none 0 0) [] := ⟨[], rfl, World.ownsRow_nil _ _ _ _, fun i h => absurd h (by simp)⟩

theorem zip_snoc {α β γ : Type} (f : α → β → List γ) (l : List α) (ps : List β) (a : α) (b : β) (h : ps.length = l.length) :
  (List.zipWith f (l ++ [a]) (ps ++ [b])).flatten = (List.zipWith f l ps).flatten ++ f a b := by
 rw [List.zipWith_append h.symm]
 simp

/-- A machine in memory of the call's own. -/
def OMach (w : World) (base : Nat) (v : Value) (m : MachD) : Prop :=
 ∃ vv fv qv ps, v = .agg #[.int .i64 m.status, .int .i64 m.err, vv, fv, qv, .int .i64 m.lsteps, .int .i64 m.lmem, .int .i64 m.steps, .int .i64 m.peak] ∧ OVal w base vv m.value ∧ OFrames w base fv m.frames ps ∧ OReqs w base qv m.requests

theorem Tryz.infoFrame : (Tryz.prog.info? 108).map (fun i => (i.zero, i.size, i.bytes)) = some (some (.agg #[.int .i64 0, .int .i64 0, .slice none 0 0, .slice none 0 0]), 4, 64) := by kernel_rfl
theorem Tryz.infoReq : (Tryz.prog.info? 66).map (fun i => (i.zero, i.size, i.bytes)) = some (some (.agg #[.string ByteArray.empty, .slice none 0 0]), 2, 40) := by kernel_rfl

/-- Behind the statement that copies the values of a frame. -/
def FrameCut (w : World) (g : Nat) (f : FrameD) (wx : World) : Prop :=
 ∃ lv sv, Blk wx g 108 #[.int .i64 f.func, .int .i64 f.pc, lv, sv] ∧ OVals wx w.heap.size lv f.locals ∧ OVals wx w.heap.size sv f.stack ∧ (lv.ownBlock.toList ++ sv.ownBlock.toList).Nodup ∧ Below w.heap.size w wx
theorem nodup_two {a b : Option Nat} {B : Nat} (ha : ∀ g, a = some g → g < B) (hb : ∀ g, b = some g → B ≤ g) : (a.toList ++ b.toList).Nodup := by
 cases a with
 | none => cases b <;> simp
 | some x => cases b with
  | none => simp
  | some y =>
   have h1 := ha x rfl
   have h2 := hb y rfl
   simp; omega

theorem frameCut_mk {wr w3 w4 : World} {f : FrameD} {f1 c1 : Int} {x y v3 v4 : Value} {B : Nat} (hG : Blk w4 wr.heap.size 108 #[.int .i64 f1, .int .i64 c1, x, y]) (h1 : f.func = f1) (h2 : f.pc = c1)
  (h3 : OVals w3 B v3 f.locals) (hB : wr.heap.size ≤ B) (hq : Below w3.heap.size w3 w4) (h4 : OVals w4 w3.heap.size v4 f.stack) (hb : Below wr.heap.size wr w4) (hs : wr.heap.size ≤ w3.heap.size) :
  FrameCut wr wr.heap.size f ((w4.setCell ⟨wr.heap.size, 2, none⟩ v3).setCell ⟨wr.heap.size, 3, none⟩ v4) := by
 subst h1; subst h2
 have b1 := hG.set_ 2 v3
 have K := (KT.set hG 2 v3).trans (KT.set b1 3 v4)
 refine ⟨v3, v4, b1.set_ 3 v4, K.ovals (by decide) (by decide) ((h3.base hB).below hq), K.ovals (by decide) (by decide) (h4.base hs), nodup_two (fun g hg => (h3.lt hg).2) (fun g hg => (h4.lt hg).1), (hb.setCell (p := ⟨wr.heap.size, 2, none⟩) (Nat.le_refl _) _).setCell (p := ⟨wr.heap.size, 3, none⟩) (Nat.le_refl _) _⟩

theorem OFrames.snoc {wr w6 : World} {base : Nat} {v v' lv sv : Value} {L : List FrameD} {ps : List (Value × Value)} {f : FrameD} (h : OFrames wr base v L ps) (hkeep : ∀ {u l}, OVals wr base u l → OVals w6 base u l)
  (hown : w6.ownsRow base 108 4 v' (L.length + 1) ((List.zipWith frameRow L ps).flatten ++ frameRow f (lv, sv))) (h1 : OVals w6 base lv f.locals) (h2 : OVals w6 base sv f.stack)
  (hnd : (lv.ownBlock.toList ++ sv.ownBlock.toList).Nodup) (hlow : ∀ g, lv.ownBlock = some g ∨ sv.ownBlock = some g → wr.heap.size ≤ g) : OFrames w6 base v' (L ++ [f]) (ps ++ [(lv, sv)]) := by
 obtain ⟨e1, e2, e3, e4⟩ := h
 refine ⟨by simp [e1], ?_, ?_, fun i hi hi' => ?_⟩
 ·rw [zip_snoc frameRow L ps f (lv, sv) e1, List.length_append]
  exact hown
 ·have hb : blocks (ps ++ [(lv, sv)]) = blocks ps ++ (lv.ownBlock.toList ++ sv.ownBlock.toList) := by simp [blocks]
  rw [hb, List.nodup_append]
  refine ⟨e3, hnd, fun x hx y hy => ?_⟩
  have hy' : wr.heap.size ≤ y := hlow y (by simpa using hy)
  obtain ⟨p, hp, hx⟩ := List.mem_flatMap.1 hx
  obtain ⟨i, hi, rfl⟩ := List.getElem_of_mem hp
  have h5 := e4 i hi (by omega)
  have hx' : x < wr.heap.size := by
   rcases List.mem_append.1 hx with hx | hx
   ·exact (h5.1.lt (by simpa using hx)).2
   ·exact (h5.2.lt (by simpa using hx)).2
  omega
 ·by_cases hlt : i < L.length
  ·have hlp : i < ps.length := by omega
   rw [List.getElem_append_left hlp, List.getElem_append_left hlt]
   exact ⟨hkeep (e4 i hlp hlt).1, hkeep (e4 i hlp hlt).2⟩
  ·have : i = L.length := by simp at hi'; omega
   subst this
   simp only [List.getElem_append_right (Nat.le_refl _)]
   rw [List.getElem_append_right (by omega)]
   simpa using ⟨h1, h2⟩
theorem OReqs.snoc {w6 : World} {base : Nat} {v' lv : Value} {vs : List Value} {R : List ReqD} {r : ReqD} (hvl : vs.length = R.length) (hold : ∀ i (h : i < vs.length) (h' : i < R.length), OVals w6 base vs[i] R[i].args)
  (hown : w6.ownsRow base 66 2 v' (R.length + 1) ((List.zipWith reqRow R vs).flatten ++ reqRow r lv)) (h1 : OVals w6 base lv r.args) : OReqs w6 base v' (R ++ [r]) := by
 refine ⟨vs ++ [lv], by simp [hvl], ?_, fun i hi hi' => ?_⟩
 ·rw [zip_snoc reqRow R vs r lv hvl, List.length_append]
  exact hown
 ·by_cases hlt : i < R.length
  ·have hlp : i < vs.length := by omega
   rw [List.getElem_append_left hlp, List.getElem_append_left hlt]
   exact hold i hlp hlt
  ·have : i = R.length := by simp at hi'; omega
   subst this
   simp only [List.getElem_append_right (Nat.le_refl _)]
   rw [List.getElem_append_right (by omega)]
   simpa using h1
theorem ValsV.bounds {w : World} {v : Value} {l : List ValD} (h : ValsV w v l) : l.length ≤ 5864062014634 ∧ ∀ x ∈ l, x.length ≤ 3518437208780 := by
 obtain ⟨A, cap, vs, _, _, hm, _, hl, hv⟩ := h.at
 refine ⟨hm, fun x hx => ?_⟩
 obtain ⟨i, hi, rfl⟩ := List.getElem_of_mem hx
 obtain ⟨_, _, _, _, h3, _⟩ := (hv i (by omega) hi).at
 exact h3
end Go.Proofs.YtahcjgjigbedoaaGreatDoor
