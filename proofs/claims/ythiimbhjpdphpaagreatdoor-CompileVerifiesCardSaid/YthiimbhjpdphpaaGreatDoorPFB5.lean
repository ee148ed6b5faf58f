/- FB5 -/
import Derived.Test.YthiimbhjpdphpaaGreatDoorPFB4
import Derived.Test.YthiimbhjpdphpaaGreatDoorPW0
set_option linter.unusedVariables false
set_option linter.unusedSimpArgs false
set_option linter.unusedVariables false
set_option linter.unusedSimpArgs false
namespace Go.Proofs.YthiimbhjpdphpaaGreatDoor
open Go.RowKit
set_option maxRecDepth 100000
theorem Tryz.infoFunc : (Tryz.prog.info? 42).map (fun i => (i.zero, i.size, i.bytes)) = some (some (.agg #[.string ByteArray.empty, .slice none 0 0, .int .i64 0]), 3, 48) := by kernel_rfl
structure FoldS (w0 wr : World) (S : ProgS) (gF gU : Nat) (nv : Value) (L : List NodeX) (fA : Option Addr) (fc : Nat) (M : List FuncX) : Prop where
 st : FoSt w0 wr S gF nv L
 bu : Blk wr gU 25 #[.slice none 0 0, .slice fA M.length fc]
 row : wr.ownsRow w0.heap.size 42 3 (.slice fA M.length fc) M.length (M.flatMap funcRow)
 keys : ∀ p ∈ M, wr.ownsRow w0.heap.size 9 1 p.2 p.1.params.length (p.1.params.map Value.string)
 geU : w0.heap.size ≤ gU
section
variable {w0 w wr wx : World} {S : ProgS} {gF gU : Nat} {nv nv2 : Value} {L L2 : List NodeX} {fA : Option Addr} {fc : Nat} {M : List FuncX}
theorem FoldS.below (h : FoldS w0 wr S gF gU nv L fA fc M) (hb : Below wr.heap.size wr wx) : FoldS w0 wx S gF gU nv L fA fc M :=
 ⟨h.st.below hb, h.bu.below hb, own_below h.row hb, fun p hp => own_below (h.keys p hp) hb, h.geU⟩
theorem FoldS.neU (h : FoldS w0 wr S gF gU nv L fA fc M) : gU ≠ gF := fun e => by
 have a := h.bu
 have b := h.st.fo
 subst e
 unfold Blk at a b
 rw [a] at b
 injection b with b
 injection b with _ b _
 exact absurd b (by decide)
theorem FoldS.rec_ (h : FoldS w0 wr S gF gU nv L fA fc M) (hst : FoSt w0 wx S gF nv2 L2) (hk : KF gF nv.ownBlock nv2.ownBlock wr wx) : FoldS w0 wx S gF gU nv2 L2 fA fc M := by
 have aS : ∀ {base m s : Nat} {v : Value} {xs : List Value} {e : TypeId}, e ≠ 73 → e ≠ 58 → wr.ownsRow base e s v m xs → wx.ownsRow base e s v m xs := fun h1 h2 ho => hk.row ho (fun g hg => ⟨own_blk_ne ho h.st.fo h1 g hg, own_apartT ho h.st.row h2 g hg⟩)
 exact ⟨hst, hk.blk h.bu h.neU (own_ne_blk h.st.row h.bu (by decide)), aS (by decide) (by decide) h.row, fun p hp => aS (by decide) (by decide) (h.keys p hp), h.geU⟩
theorem FoldS.func {x : FuncX} {f2 : Option Addr} {c2 : Nat} (h : FoldS w0 wr S gF gU nv L fA fc M) (hk : wr.ownsRow w0.heap.size 9 1 x.2 x.1.params.length (x.1.params.map Value.string)) (hown : wx.ownsRow w0.heap.size 42 3 (.slice f2 (M.length + 1) c2) (M.length + 1) (M.flatMap funcRow ++ funcRow x)) (hg : wr.grownBy wx (Value.slice fA M.length fc).ownBlock) :
  FoldS w0 (wx.setCell ⟨gU, 1, none⟩ (.slice f2 (M.length + 1) c2)) S gF gU nv L f2 c2 (M ++ [x]) := by
 have bu1 : Blk wx gU 25 _ := h.bu.grown hg (own_ne_blk h.row h.bu (by decide))
 have hg2 := grown_setc wx gU 1 (.slice f2 (M.length + 1) c2)
 have r1 : ∀ {base m s : Nat} {v : Value} {xs : List Value} {e : TypeId}, e ≠ 42 → e ≠ 25 → wr.ownsRow base e s v m xs → (wx.setCell ⟨gU, 1, none⟩ (.slice f2 (M.length + 1) c2)).ownsRow base e s v m xs := fun h1 h2 ho => own_far (own_grownR ho hg (own_apartT ho h.row h1)) bu1 h2 1 _
 refine ⟨⟨(h.st.fo.grown hg (own_ne_blk h.row h.st.fo (by decide))).far (p := ⟨gU, 1, none⟩) (Ne.symm h.neU) _, r1 (by decide) (by decide) h.st.row, fun p hp => r1 (by decide) (by decide) (h.st.keys p hp), fun p hp => r1 (by decide) (by decide) (h.st.kids p hp), ?_, h.st.bF⟩, ?_, ?_, fun p hp => ?_, h.geU⟩
 ·exact below_grown (below_grown h.st.bl hg h.st.bl.size (fun g e => (h.row.lt g e).1)) hg2 (Nat.le_trans h.st.bl.size hg.size) (fun g e => by injection e with e; have := h.geU; omega)
 ·have := bu1.set_ 1 (.slice f2 (M.length + 1) c2)
  simpa using this
 ·have := own_far hown bu1 (by decide) 1 (.slice f2 (M.length + 1) c2)
  rw [List.length_append, List.length_singleton, List.flatMap_append, List.flatMap_cons, List.flatMap_nil, List.append_nil]
  exact this
 ·rcases List.mem_append.1 hp with hp | hp
  ·exact r1 (by decide) (by decide) (h.keys p hp)
  ·simp only [List.mem_singleton] at hp
   subst hp
   exact r1 (by decide) (by decide) hk
end
/-- The rows of a program that is the code's own. -/
structure RowsAll (B : Nat) (w : World) (A : Option Addr) (c : Nat) (L : List NodeX) (fA : Option Addr) (fc : Nat) (M : List FuncX) : Prop where
 nrow : w.ownsRow B 58 5 (.slice A L.length c) L.length (L.flatMap nodeRow)
 keys : ∀ p ∈ L, w.ownsRow B 9 1 p.2.1 p.1.keys.length (p.1.keys.map Value.string)
 kids : ∀ p ∈ L, w.ownsRow B 3 1 p.2.2 p.1.kids.length (p.1.kids.map (Value.int .i64))
 frow : w.ownsRow B 42 3 (.slice fA M.length fc) M.length (M.flatMap funcRow)
 pars : ∀ p ∈ M, w.ownsRow B 9 1 p.2 p.1.params.length (p.1.params.map Value.string)
theorem RowsAll.far {B g c fc : Nat} {w : World} {A fA : Option Addr} {L : List NodeX} {M : List FuncX} {cs : Array Value} (h : RowsAll B w A c L fA fc M) (hb : Blk w g 25 cs) (j : Nat) (u : Value) : RowsAll B (w.setCell ⟨g, j, none⟩ u) A c L fA fc M :=
 ⟨own_far h.nrow hb (by decide) j u, fun p hp => own_far (h.keys p hp) hb (by decide) j u, fun p hp => own_far (h.kids p hp) hb (by decide) j u, own_far h.frow hb (by decide) j u, fun p hp => own_far (h.pars p hp) hb (by decide) j u⟩
theorem RowsAll.prog {B c fc : Nat} {w : World} {A fA : Option Addr} {L : List NodeX} {M : List FuncX} (h : RowsAll B w A c L fA fc M) (hl : L.length ≤ 1000000) (hk : ∀ p ∈ L, p.1.kids.length ≤ 1000000) (hm : M.length ≤ 1000000) : ProgV w ⟨A, fA, c, fc, ⟨L.map Prod.fst, M.map Prod.fst⟩⟩ := by
 refine ⟨?_, ?_⟩
 ·show NodesV w (.slice A (L.map Prod.fst).length c) (L.map Prod.fst)
  rw [List.length_map]
  exact nodes_sl (SlAt.of_own h.nrow rfl (fun _ => rfl) (by decide)) (fun p hp => ⟨keys_ownV (h.keys p hp), ints_own (h.kids p hp) (by have := hk p hp; omega)⟩) (own_cap h.nrow) hl
 ·show FuncsV w (.slice fA (M.map Prod.fst).length fc) (M.map Prod.fst)
  rw [List.length_map]
  exact funcs_sl (SlAt.of_own h.frow rfl (fun _ => rfl) (by decide)) (fun p hp => keys_ownV (h.pars p hp)) (own_cap h.frow) hm
theorem FoldS.rows {w0 wr : World} {S : ProgS} {gF gU : Nat} {A : Option Addr} {c : Nat} {L : List NodeX} {fA : Option Addr} {fc : Nat} {M : List FuncX} (h : FoldS w0 wr S gF gU (.slice A L.length c) L fA fc M) : RowsAll w0.heap.size wr A c L fA fc M := ⟨h.st.row, h.st.keys, h.st.kids, h.row, h.keys⟩
/-- The folded nodes have no more kids than those of the program. -/
theorem foldK_kids {rec : Nat → List NodeD → List NodeD} {B : Nat} (hr : ∀ i out, (∀ x ∈ out, x.kids.length ≤ B) → ∀ x ∈ rec i out, x.kids.length ≤ B) : ∀ (r : List Int) (out : List NodeD) (ks : List Int) (vs : List CellD), (∀ x ∈ out, x.kids.length ≤ B) → (∀ x ∈ (foldK rec r out ks vs).1, x.kids.length ≤ B) ∧ (foldK rec r out ks vs).2.1.length = ks.length + r.length := by
 intro r
 induction r with
 | nil => intro out ks vs h; exact ⟨h, rfl⟩
 | cons k r ih =>
  intro out ks vs h
  obtain ⟨a, b⟩ := ih (rec k.toNat out) (ks ++ [((rec k.toNat out).length : Int) - 1]) (vs ++ (constF (rec k.toNat out) ((rec k.toNat out).getD ((rec k.toNat out).length - 1) noNode)).toList) (hr _ _ h)
  refine ⟨a, ?_⟩
  show (foldK rec r _ _ _).2.1.length = _
  rw [b, List.length_append, List.length_cons, List.length_nil, List.length_cons]
  omega
theorem foldF_kids {p : ProgD} {B : Nat} (hB : 1 ≤ B) (hp : ∀ i, (p.at_ i).kids.length ≤ B) : ∀ f i out, (∀ x ∈ out, x.kids.length ≤ B) → ∀ x ∈ foldF p f i out, x.kids.length ≤ B := by
 intro f
 induction f with
 | zero => intro i out h; exact h
 | succ f ih =>
  intro i out h x hx
  simp only [foldF] at hx
  obtain ⟨a, b⟩ := foldK_kids (rec := foldF p f) ih (p.at_ i).kids out [] [] h
  cases hv : opVal (p.at_ i) (foldK (foldF p f) (p.at_ i).kids out [] []).2.2 with
  | some c =>
   rw [hv] at hx
   rcases List.mem_append.1 hx with hx | hx
   ·exact h x hx
   ·unfold constantsF at hx
    split at hx
    ·simp at hx; subst hx; exact Nat.zero_le _
    split at hx
    ·simp at hx; subst hx; exact Nat.zero_le _
    split at hx
    ·simp at hx; subst hx; exact Nat.zero_le _
    split at hx
    ·simp at hx
     rcases hx with rfl | rfl
     ·exact Nat.zero_le _
     ·exact hB
    ·simp at hx; subst hx; exact Nat.zero_le _
  | none =>
   rw [hv] at hx
   rcases List.mem_append.1 hx with hx | hx
   ·exact a x hx
   ·simp only [List.mem_singleton] at hx
    subst hx
    have : (foldK (foldF p f) (p.at_ i).kids out [] []).2.1.length = (p.at_ i).kids.length := by rw [b]; simp
    show (foldK (foldF p f) (p.at_ i).kids out [] []).2.1.length ≤ B
    rw [this]
    exact hp i
theorem foldN_kids {p : ProgD} {B : Nat} (hB : 1 ≤ B) (hp : ∀ i, (p.at_ i).kids.length ≤ B) : ∀ k, ∀ x ∈ foldN p k, x.kids.length ≤ B := by
 intro k
 induction k with
 | zero => intro x hx; cases hx
 | succ k ih => exact foldF_kids hB hp _ _ _ ih
theorem ProgOk.kids {p : ProgD} (h : ProgOk p) : ∀ i, (p.at_ i).kids.length ≤ 1000 := by
 intro i
 by_cases hi : i < p.nodes.length
 ·have e : p.at_ i = p.nodes[i] := getD_at hi _
  rw [e]
  exact (h.nodes.kids _ (List.getElem_mem hi)).1
 ·have e : p.at_ i = noNode := by
   show p.nodes.getD i noNode = noNode
   rw [List.getD_eq_getElem?_getD, List.getElem?_eq_none (by omega)]
   rfl
  rw [e]
  show (0 : Nat) ≤ 1000
  omega
end Go.Proofs.YthiimbhjpdphpaaGreatDoor
