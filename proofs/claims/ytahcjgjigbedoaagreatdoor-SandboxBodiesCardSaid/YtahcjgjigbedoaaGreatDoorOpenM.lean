/- Machines opened: what reads as a machine's datum is a machine in memory. -/
import Derived.Test.YtahcjgjigbedoaaGreatDoorOpenW
import Derived.Test.YtahcjgjigbedoaaGreatDoorGN0
import Derived.Test.YtahcjgjigbedoaaGreatDoorGC7
set_option linter.unusedVariables false
set_option linter.unusedSimpArgs false
namespace Go.Proofs.YtahcjgjigbedoaaGreatDoor
open Go.RowKit Go.ChangeShapes Go.WideShapes Go.Deep
set_option maxRecDepth 100000

section
variable {H : Type} {enc : TypeId × Value → H} {P : Program} {w : World} {base : Nat} {spare : Nat → Bool} {held : Bool} {α : Type}
theorem open_rowsV (lim Rb bytes sz : Nat) (R : World → List Value → α → Prop) (Q : α → Prop) {t e : TypeId} {fuel : Nat} {cs : List Value} {x : DataW H × List MemPlace} (ht : P.underlying t = some (.slice e)) (hC : P.cellsOf e = sz) (hB : P.bytesOf e = bytes) (hsz : 0 < sz) (hlim : ∀ n, n * bytes ≤ Rb → n ≤ lim)
  (helem : ∀ (n : Nat) (cs : List Value) (y : DataW H × List MemPlace), cs.length = sz → DataW.trod enc P w base spare held n e cs = some y → (∀ m ∈ y.1.weights P e, m ≤ Rb) → ∃ a : α, R w cs a ∧ Q a)
  (hR : ∀ m ∈ x.1.weights P t, m ≤ Rb) (h : DataW.trod enc P w base spare held fuel t cs = some x) : ∃ (v : Value) (l : List α), cs = [v] ∧ RowsV lim sz R w v l ∧ ∀ a ∈ l, Q a := by
 rcases open_slice ht h with ⟨h0, _⟩ | ⟨a, len, cap, m, n, D, Pl, hcs, hb, hl, hm, hmm, hx, hi⟩
 ·exact ⟨_, [], h0, RowsV.nil _ _, by simp⟩
 ·subst hcs
  obtain ⟨rows, h1, h2, h3, h4, h5⟩ := open_slW Rb (fun r : List Value => r) (fun r => ∃ a : α, R w r a ∧ Q a) sz ht hC hsz (fun n cs y hl hy hw => ⟨cs, rfl, helem n cs y hl hy hw⟩) hR h
  have hlen : len ≤ lim := hlim len (by
   have := hR (((List.range len).map D).length * bytes + _) (by
    rw [hx]
    simp only [DataW.weights, ht, List.mem_cons, hB, Nat.add_mul]
    exact .inl rfl)
   simp at this
   omega)
  obtain ⟨l, hll, hp⟩ := exists_list (fun i (a : α) => ∃ hi : i < rows.length, R w rows[i] a ∧ Q a) len (fun i hi => by
   have hi' : i < rows.length := by omega
   obtain ⟨a, ha⟩ := h5 rows[i] (List.getElem_mem hi')
   exact ⟨a, hi', ha⟩)
  refine ⟨_, l, rfl, ⟨some a, cap, rows, by rw [hll], by omega, by omega, h4, by omega, fun i hi hi' => (hp i hi').2.1⟩, fun x hx => ?_⟩
  obtain ⟨i, hi', rfl⟩ := List.getElem_of_mem hx
  exact (hp i hi').2.2
end
def Rb : Nat := 140737488351232
theorem Tryz.cells47 : Tryz.prog.cellsOf 47 = 4 := by kernel_rfl
theorem Tryz.cells22 : Tryz.prog.cellsOf 22 = 1 := by kernel_rfl
theorem Tryz.cells108 : Tryz.prog.cellsOf 108 = 4 := by kernel_rfl
theorem Tryz.cells66 : Tryz.prog.cellsOf 66 = 2 := by kernel_rfl
theorem Tryz.cells61 : Tryz.prog.cellsOf 61 = 9 := by kernel_rfl
theorem Tryz.bytes47 : Tryz.prog.bytesOf 47 = 40 := by kernel_rfl
theorem Tryz.bytes22 : Tryz.prog.bytesOf 22 = 24 := by kernel_rfl
theorem Tryz.bytes108 : Tryz.prog.bytesOf 108 = 64 := by kernel_rfl
theorem Tryz.bytes66 : Tryz.prog.bytesOf 66 = 40 := by kernel_rfl
section
variable {H : Type} {enc : TypeId × Value → H} {w : World} {base : Nat} {spare : Nat → Bool} {held : Bool}
def cellTypes : List TypeId := [45, 3, 9, 3]
theorem cell_elem (n : Nat) (cs : List Value) (y : DataW H × List MemPlace) (hl : cs.length = 4) (h : DataW.trod enc Tryz.prog w base spare held n 47 cs = some y) (hw : ∀ m ∈ y.1.weights Tryz.prog 47, m ≤ Rb) : ∃ c : CellD, cellR w cs c ∧ c.str.size ≤ Rb := by
 obtain ⟨xs, m, _, rfl, _, hxl, hg⟩ := DataW.trod_struct Tryz.underlying47 h
 match cs, hl with
 | [c0, c1, c2, c3], _ =>
  match xs, hxl with
  | [x0, x1, x2, x3], _ =>
   obtain ⟨k, e0, _, _⟩ := DataW.trod_int Tryz.underlying45 (hg 0 _ rfl)
   obtain ⟨a, e1, _, _⟩ := DataW.trod_int Tryz.underlying3 (hg 1 _ rfl)
   obtain ⟨s, e2, d2, _⟩ := DataW.trod_string Tryz.underlying9 (hg 2 _ rfl)
   obtain ⟨b, e3, _, _⟩ := DataW.trod_int Tryz.underlying3 (hg 3 _ rfl)
   have n3 : Tryz.prog.cellsOf 3 = 1 := by kernel_rfl
   have n9 : Tryz.prog.cellsOf 9 = 1 := by kernel_rfl
   have n50 : Tryz.prog.cellsOf 45 = 1 := by kernel_rfl
   simp [n3, n9, n50] at e0 e1 e2 e3
   subst e0 e1 e2 e3
   refine ⟨⟨k, a, s, b⟩, rfl, hw _ ?_⟩
   have hww : DataW.weights Tryz.prog 47 (DataW.agg ([x0, x1, x2, x3].map (·.1))) = DataW.weightsEach Tryz.prog cellTypes ([x0, x1, x2, x3].map (·.1)) := by
    simp only [DataW.weights, Tryz.underlying47]
    rfl
   show _ ∈ DataW.weights Tryz.prog 47 (DataW.agg ([x0, x1, x2, x3].map (·.1)))
   rw [hww]
   refine DataW.weights_mem_each (j := 2) (t := 9) (d := x2.1) rfl rfl _ ?_
   rw [d2]
   simp only [DataW.weights, List.mem_singleton]
   simp
theorem val_open {fuel : Nat} {cs : List Value} {x : DataW H × List MemPlace} (hR : ∀ m ∈ x.1.weights Tryz.prog 22, m ≤ Rb) (h : DataW.trod enc Tryz.prog w base spare held fuel 22 cs = some x) : ∃ (v : Value) (l : ValD), cs = [v] ∧ ValV w v l ∧ ∀ c ∈ l, c.str.size ≤ Rb :=
 open_rowsV 3518437208780 Rb 40 4 cellR (fun c : CellD => c.str.size ≤ Rb) Tryz.underlying22 Tryz.cells47 Tryz.bytes47 (by omega) (fun n hn => by unfold Rb at hn; omega) cell_elem hR h
theorem vals_open {fuel : Nat} {cs : List Value} {x : DataW H × List MemPlace} (hR : ∀ m ∈ x.1.weights Tryz.prog 52, m ≤ Rb) (h : DataW.trod enc Tryz.prog w base spare held fuel 52 cs = some x) : ∃ (v : Value) (l : List ValD), cs = [v] ∧ ValsV w v l := by
 obtain ⟨v, l, h1, h2, _⟩ := open_rowsV 5864062014634 Rb 24 1 valR (fun _ : ValD => True) Tryz.underlying52 Tryz.cells22 Tryz.bytes22 (by omega) (fun n hn => by unfold Rb at hn; omega)
  (fun n cs y _ hy hw => by
   obtain ⟨v, l, e, hv, _⟩ := val_open hw hy
   exact ⟨l, ⟨v, e, hv⟩, trivial⟩) hR h
 exact ⟨v, l, h1, h2⟩
theorem frame_elem (n : Nat) (cs : List Value) (y : DataW H × List MemPlace) (hl : cs.length = 4) (h : DataW.trod enc Tryz.prog w base spare held n 108 cs = some y) (hw : ∀ m ∈ y.1.weights Tryz.prog 108, m ≤ Rb) : ∃ f : FrameD, frameR w cs f ∧ True := by
 obtain ⟨xs, m, _, rfl, _, hxl, hg⟩ := DataW.trod_struct Tryz.underlying108 h
 match cs, hl with
 | [c0, c1, c2, c3], _ =>
  match xs, hxl with
  | [x0, x1, x2, x3], _ =>
   have hww : DataW.weights Tryz.prog 108 (DataW.agg ([x0, x1, x2, x3].map (·.1))) = DataW.weightsEach Tryz.prog [3, 3, 52, 52] ([x0, x1, x2, x3].map (·.1)) := by
    simp only [DataW.weights, Tryz.underlying108]
    rfl
   have hw' : ∀ m ∈ DataW.weights Tryz.prog 108 (DataW.agg ([x0, x1, x2, x3].map (·.1))), m ≤ Rb := hw
   rw [hww] at hw'
   obtain ⟨k, e0, _, _⟩ := DataW.trod_int Tryz.underlying3 (hg 0 _ rfl)
   obtain ⟨a, e1, _, _⟩ := DataW.trod_int Tryz.underlying3 (hg 1 _ rfl)
   obtain ⟨lv, L, e2, h2⟩ := vals_open (fun m hm => hw' m (DataW.weights_mem_each (j := 2) (t := 52) (d := x2.1) rfl rfl _ hm)) (hg 2 _ rfl)
   obtain ⟨sv, S, e3, h3⟩ := vals_open (fun m hm => hw' m (DataW.weights_mem_each (j := 3) (t := 52) (d := x3.1) rfl rfl _ hm)) (hg 3 _ rfl)
   have n3 : Tryz.prog.cellsOf 3 = 1 := by kernel_rfl
   have n35 : Tryz.prog.cellsOf 52 = 1 := by kernel_rfl
   simp [n3, n35] at e0 e1 e2 e3
   subst e0 e1 e2 e3
   exact ⟨⟨k, a, L, S⟩, ⟨_, _, rfl, h2, h3⟩, trivial⟩
theorem frames_open {fuel : Nat} {cs : List Value} {x : DataW H × List MemPlace} (hR : ∀ m ∈ x.1.weights Tryz.prog 59, m ≤ Rb) (h : DataW.trod enc Tryz.prog w base spare held fuel 59 cs = some x) : ∃ (v : Value) (l : List FrameD), cs = [v] ∧ FramesV w v l := by
 obtain ⟨v, l, h1, h2, _⟩ := open_rowsV 2199023255488 Rb 64 4 frameR (fun _ : FrameD => True) Tryz.underlying59 Tryz.cells108 Tryz.bytes108 (by omega) (fun n hn => by unfold Rb at hn; omega) frame_elem hR h
 exact ⟨v, l, h1, h2⟩
theorem req_elem (n : Nat) (cs : List Value) (y : DataW H × List MemPlace) (hl : cs.length = 2) (h : DataW.trod enc Tryz.prog w base spare held n 66 cs = some y) (hw : ∀ m ∈ y.1.weights Tryz.prog 66, m ≤ Rb) : ∃ f : ReqD, reqR w cs f ∧ True := by
 obtain ⟨xs, m, _, rfl, _, hxl, hg⟩ := DataW.trod_struct Tryz.underlying66 h
 match cs, hl with
 | [c0, c1], _ =>
  match xs, hxl with
  | [x0, x1], _ =>
   have hww : DataW.weights Tryz.prog 66 (DataW.agg ([x0, x1].map (·.1))) = DataW.weightsEach Tryz.prog [9, 52] ([x0, x1].map (·.1)) := by
    simp only [DataW.weights, Tryz.underlying66]
    rfl
   have hw' : ∀ m ∈ DataW.weights Tryz.prog 66 (DataW.agg ([x0, x1].map (·.1))), m ≤ Rb := hw
   rw [hww] at hw'
   obtain ⟨s, e0, _, _⟩ := DataW.trod_string Tryz.underlying9 (hg 0 _ rfl)
   obtain ⟨lv, L, e1, h1⟩ := vals_open (fun m hm => hw' m (DataW.weights_mem_each (j := 1) (t := 52) (d := x1.1) rfl rfl _ hm)) (hg 1 _ rfl)
   have n9 : Tryz.prog.cellsOf 9 = 1 := by kernel_rfl
   have n35 : Tryz.prog.cellsOf 52 = 1 := by kernel_rfl
   simp [n9, n35] at e0 e1
   subst e0 e1
   exact ⟨⟨s, L⟩, ⟨_, rfl, h1⟩, trivial⟩
theorem reqs_open {fuel : Nat} {cs : List Value} {x : DataW H × List MemPlace} (hR : ∀ m ∈ x.1.weights Tryz.prog 33, m ≤ Rb) (h : DataW.trod enc Tryz.prog w base spare held fuel 33 cs = some x) : ∃ (v : Value) (l : List ReqD), cs = [v] ∧ ReqsV w v l := by
 obtain ⟨v, l, h1, h2, _⟩ := open_rowsV 3518437208780 Rb 40 2 reqR (fun _ : ReqD => True) Tryz.underlying33 Tryz.cells66 Tryz.bytes66 (by omega) (fun n hn => by unfold Rb at hn; omega) req_elem hR h
 exact ⟨v, l, h1, h2⟩
theorem mach_open {fuel : Nat} {cs : Array Value} {x : DataW H × List MemPlace} (hl : cs.toList.length = 9) (hw : ∀ m ∈ x.1.weights Tryz.prog 61, m ≤ Rb) (h : DataW.trod enc Tryz.prog w base spare held fuel 61 cs.toList = some x) : ∃ m : MachD, MachV w (.agg cs) m ∧ ∀ c ∈ m.value, c.str.size ≤ Rb := by
 obtain ⟨xs, m, _, rfl, _, hxl, hg⟩ := DataW.trod_struct Tryz.underlying61 h
 obtain ⟨l, hcs⟩ : ∃ l, cs.toList = l := ⟨_, rfl⟩
 rw [hcs] at hl hg
 match l, hl, hcs, hg with
 | [c0, c1, c2, c3, c4, c5, c6, c7, c8], _, hcs, hg =>
  match xs, hxl with
  | [x0, x1, x2, x3, x4, x5, x6, x7], _ =>
   have hww : DataW.weights Tryz.prog 61 (DataW.agg ([x0, x1, x2, x3, x4, x5, x6, x7].map (·.1))) = DataW.weightsEach Tryz.prog [58, 27, 22, 59, 33, 44, 3, 3] ([x0, x1, x2, x3, x4, x5, x6, x7].map (·.1)) := by
    simp only [DataW.weights, Tryz.underlying61]
    rfl
   have hw' : ∀ m ∈ DataW.weights Tryz.prog 61 (DataW.agg ([x0, x1, x2, x3, x4, x5, x6, x7].map (·.1))), m ≤ Rb := hw
   rw [hww] at hw'
   obtain ⟨a0, e0, _, _⟩ := DataW.trod_int Tryz.underlying58 (hg 0 _ rfl)
   obtain ⟨a1, e1, _, _⟩ := DataW.trod_int Tryz.underlying27 (hg 1 _ rfl)
   obtain ⟨vv, V, e2, h2, q2⟩ := val_open (fun m hm => hw' m (DataW.weights_mem_each (j := 2) (t := 22) (d := x2.1) rfl rfl _ hm)) (hg 2 _ rfl)
   obtain ⟨fv, F, e3, h3⟩ := frames_open (fun m hm => hw' m (DataW.weights_mem_each (j := 3) (t := 59) (d := x3.1) rfl rfl _ hm)) (hg 3 _ rfl)
   obtain ⟨qv, Q, e4, h4⟩ := reqs_open (fun m hm => hw' m (DataW.weights_mem_each (j := 4) (t := 33) (d := x4.1) rfl rfl _ hm)) (hg 4 _ rfl)
   obtain ⟨ys, m2, _, _, _, hyl, hh⟩ := DataW.trod_struct Tryz.underlying44 (hg 5 _ rfl)
   obtain ⟨a7, e7, _, _⟩ := DataW.trod_int Tryz.underlying3 (hg 6 _ rfl)
   obtain ⟨a8, e8, _, _⟩ := DataW.trod_int Tryz.underlying3 (hg 7 _ rfl)
   match ys, hyl with
   | [y0, y1], _ =>
    obtain ⟨a5, e5, _, _⟩ := DataW.trod_int Tryz.underlying3 (hh 0 _ rfl)
    obtain ⟨a6, e6, _, _⟩ := DataW.trod_int Tryz.underlying3 (hh 1 _ rfl)
    have n3 : Tryz.prog.cellsOf 3 = 1 := by kernel_rfl
    have n22 : Tryz.prog.cellsOf 58 = 1 := by kernel_rfl
    have n23 : Tryz.prog.cellsOf 27 = 1 := by kernel_rfl
    have n24 : Tryz.prog.cellsOf 22 = 1 := by kernel_rfl
    have n25 : Tryz.prog.cellsOf 59 = 1 := by kernel_rfl
    have n26 : Tryz.prog.cellsOf 33 = 1 := by kernel_rfl
    have n28 : Tryz.prog.cellsOf 44 = 2 := by kernel_rfl
    simp [n3, n22, n23, n24, n25, n26, n28] at e0 e1 e2 e3 e4 e5 e6 e7 e8
    subst e0 e1 e2 e3 e4 e5 e6 e7 e8
    have hce : cs = #[.int .i64 a0, .int .i64 a1, c2, c3, c4, .int .i64 a5, .int .i64 a6, .int .i64 a7, .int .i64 a8] := by
     apply Array.toList_inj.1
     rw [hcs]
    rw [hce]
    exact ⟨⟨a0, a1, V, F, Q, a5, a6, a7, a8⟩, ⟨c2, c3, c4, rfl, h2, h3, h4⟩, q2⟩
end
end Go.Proofs.YtahcjgjigbedoaaGreatDoor
