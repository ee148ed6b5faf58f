/- Y20, Y21, AW, Y22 -/
import Derived.Test.YtmljohbialacfaaGreatDoorPY19
import Derived.Test.YtmljohbialacfaaGreatDoorPC7
import Derived.Test.YtmljohbialacfaaGreatDoorPGD16
import Derived.Test.YtmljohbialacfaaGreatDoorPX5
import Derived.Deep.RegionHeld3
set_option linter.unusedVariables false
set_option linter.unusedSimpArgs false
set_option linter.unusedVariables false
set_option linter.unusedSimpArgs false
namespace Go.Proofs.YtmljohbialacfaaGreatDoor
open Go.RowKit
set_option maxRecDepth 100000
theorem fns_tile {c : CodeD} : ∀ (n k : Nat) (e : Int), k + n = c.fns.length → (fnsF c (c.fns.drop k) k e).2 = 0 → ∀ j : Nat, e ≤ j → j < c.ins.length → ∃ f ∈ c.fns, f.entry ≤ j ∧ (j : Int) < f.fin
 | 0, k, e, hn, hf, j, h1, h2 => by
  have hd : c.fns.drop k = [] := List.drop_eq_nil_of_le (by omega)
  rw [hd] at hf
  have := fns_end hf
  omega
 | n + 1, k, e, hn, hf, j, h1, h2 => by
  obtain ⟨g1, g2, g3, _, _, g6⟩ := fns_step (by omega) hf
  by_cases hj : (j : Int) < c.fns[k].fin
  ·exact ⟨_, List.getElem_mem _, by omega, hj⟩
  ·exact fns_tile n (k + 1) _ (by omega) g6 j (by omega) h2
theorem good_code {c : CodeD} {R : Int × Int} (h : CodeR c R) (h0 : R.2 = 0) (hi : ∀ i ∈ c.ins, InsOk i) : GoodC c := by
 obtain ⟨hb, h1, h2, _⟩ := h.okk h0
 unfold Big at hb
 have hL : c.ins.length ≤ 4000 := by omega
 have hg := good_all hL h1 h2
 refine ⟨by omega, hL, fun f hf => (hg f hf).1, fun i him => ⟨?_, hi i him⟩⟩
 obtain ⟨j, hj, rfl⟩ := List.getElem_of_mem him
 obtain ⟨f, hf, h3, h4⟩ := fns_tile c.fns.length 0 0 (by omega) (by simpa using h1) j (by omega) hj
 obtain ⟨hs, _, hk⟩ := hg f hf
 have he := hs.2.2
 obtain ⟨i, hi2, hfm, _⟩ := hk j (by omega) (by omega)
 rw [List.getElem?_eq_getElem hj] at hi2
 injection hi2 with hi2
 rw [hi2]
 exact ⟨f, hs, hfm⟩
/-- What holds of a machine that was started. -/
theorem start_good {c : CodeD} {l : ValD} {ls lm : Int} {R : Int × Int} {r : Int} (hR : CodeR c R) (hi : ∀ i ∈ c.ins, InsOk i) (h : (startO c l ls lm R r).2 = 0) :
  GoodC c ∧ GoodM 0 (startO c l ls lm R r).1 ∧ (∃ f : FnD, (startO c l ls lm R r).1 = startM f r l ls lm) ∧ LimOk ls lm := by
 unfold startO at h ⊢
 by_cases h1 : R.2 ≠ 0
 ·rw [if_pos h1] at h; exact absurd h h1
 rw [if_neg h1] at h ⊢
 have hgc := good_code hR (by simpa using h1) hi
 by_cases h2 : r < 0
 ·rw [if_pos h2] at h; simp at h
 rw [if_neg h2] at h ⊢
 cases hf : c.fns[r.toNat]? with
 | none => rw [hf] at h; simp at h
 | some f =>
  rw [hf] at h
  simp only at h ⊢
  by_cases h3 : f.params ≠ 1
  ·rw [if_pos h3] at h; simp at h
  rw [if_neg h3] at h ⊢
  by_cases h4 : checkF l ≠ 0
  ·rw [if_pos h4] at h; exact absurd h h4
  rw [if_neg h4] at h ⊢
  by_cases h5 : ¬ LimOk ls lm
  ·rw [if_pos h5] at h; simp at h
  rw [if_neg h5] at h ⊢
  have hs := hgc.fn f (List.mem_of_getElem? hf)
  refine ⟨hgc, ?_, ⟨f, rfl⟩, Classical.not_not.1 h5⟩
  show GoodM 0 (startM f r l ls lm)
  unfold startM
  refine GoodM.count ?_
  have hs2 := hs.2.1
  unfold enterF
  refine ⟨by simp, fun x hx => ?_, by simp, by simp, .inl rfl⟩
  have e : x = ⟨r, f.entry, [l] ++ List.replicate (f.locals.toNat - [l].length) [nulC], []⟩ := by simpa using hx
  subst e
  refine ⟨?_, by simp, fun v hv => ?_, by simp⟩
  ·simp only [List.length_append, List.length_replicate, List.length_singleton]
   omega
  ·rcases List.mem_append.1 hv with hv | hv
   ·have : v = l := by simpa using hv
    rw [this]; exact Classical.not_not.1 h4
   ·rw [List.eq_of_mem_replicate hv]; exact check_nul
theorem startM_steps (f : FnD) (r : Int) (l : ValD) (ls lm : Int) : (startM f r l ls lm).steps = 0 := by
 unfold startM
 rw [count_steps]
 rfl
attribute [local go_sem] cell_alloc_is
set_option maxHeartbeats 4000000 in
/-- Step. -/
theorem mstep_any (C : CodeS) (hT : C.T = none) (m : MachD) (v : Value) (w : World) (K : Nat) (hC : CodeV w C) (hgc : GoodC C.c) (hm : MachV w v m) (hg : GoodM K m) (hK : K + 2 ≤ 8800) (hp : Pow w) (hse : Sent w) (hml : MaxL w) (hst : 0 ≤ m.steps ∧ m.steps ≤ 100000) :
  Calls Tryz.prog 14 #[.agg #[.slice C.A C.c.fns.length C.ncap, .slice C.B C.c.ins.length C.icap], v] w fun e w' => ∃ x, e = .returned x ∧ OMach w' w.heap.size x (runF C.c 1 m) ∧ Below w.heap.size w w' := by
 obtain ⟨P, hP⟩ : ∃ P : Ending → World → Prop, (fun e w' => ∃ x, e = .returned x ∧ OMach w' w.heap.size x (runF C.c 1 m) ∧ Below w.heap.size w w') = P := ⟨_, rfl⟩
 rw [hP]
 have HP := Lib.hid hP
 have HR : Hid (∀ W, Below w.heap.size w W → Calls Tryz.prog 13 #[.agg #[.slice C.A C.c.fns.length C.ncap, .slice C.B C.c.ins.length C.icap], v, .int .i64 1] W fun e w' => ∃ x, e = .returned x ∧ OMach w' W.heap.size x (runF C.c 1 m) ∧ Below W.heap.size W w') := Lib.hid fun W hb =>
  mrun_any C hT m v 1 W K (hC.below hb) hgc (hm.below hb) hg (by omega) (hp.below hb) (hse.below hb) (hml.below hb) hst (by omega)
 obtain ⟨vv, fv, qv, rfl, hv, hf, hq⟩ := hm
 obtain ⟨A1, n1, k1, rfl⟩ := hv.shape
 obtain ⟨A2, n2, k2, rfl⟩ := hf.shape
 obtain ⟨A3, n3, k3, rfl⟩ := hq.shape
 obtain ⟨nF, hnF⟩ : ∃ x, C.c.fns.length = x := ⟨_, rfl⟩
 obtain ⟨nI, hnI⟩ : ∃ x, C.c.ins.length = x := ⟨_, rfl⟩
 rw [hnF, hnI] at HR ⊢
 have HB0 := Lib.hid (below_3 w (.cells #[.slice C.A nF C.ncap, .slice C.B nI C.icap] 25) (.cells #[.int .i64 m.status, .int .i64 m.err, .slice A1 n1 k1, .slice A2 n2 k2, .slice A3 n3 k3, .int .i64 m.lsteps, .int .i64 m.lmem, .int .i64 m.steps, .int .i64 m.peak] 37) (.cells #[.int .i64 0, .int .i64 0, .slice none 0 0, .slice none 0 0, .slice none 0 0, .int .i64 0, .int .i64 0, .int .i64 0, .int .i64 0] 37))
 have HZ0 := Lib.hid (Blk.third w (.cells #[.slice C.A nF C.ncap, .slice C.B nI C.icap] 25) (.cells #[.int .i64 m.status, .int .i64 m.err, .slice A1 n1 k1, .slice A2 n2 k2, .slice A3 n3 k3, .int .i64 m.lsteps, .int .i64 m.lmem, .int .i64 m.steps, .int .i64 m.peak] 37) 37 #[.int .i64 0, .int .i64 0, .slice none 0 0, .slice none 0 0, .slice none 0 0, .int .i64 0, .int .i64 0, .int .i64 0, .int .i64 0])
 obtain ⟨M, hM⟩ : ∃ M, runF C.c 1 m = M := ⟨_, rfl⟩
 rw [hM] at HR HP
 obtain ⟨st, hst0⟩ : ∃ x, m.status = x := ⟨_, rfl⟩
 obtain ⟨er, her0⟩ : ∃ x, m.err = x := ⟨_, rfl⟩
 obtain ⟨ls, hls0⟩ : ∃ x, m.lsteps = x := ⟨_, rfl⟩
 obtain ⟨lm, hlm0⟩ : ∃ x, m.lmem = x := ⟨_, rfl⟩
 obtain ⟨sp, hsp0⟩ : ∃ x, m.steps = x := ⟨_, rfl⟩
 obtain ⟨pk, hpk0⟩ : ∃ x, m.peak = x := ⟨_, rfl⟩
 rw [hst0, her0, hls0, hlm0, hsp0, hpk0] at HB0 HZ0 HR ⊢
 clear hC hgc hg hp hse hml hst hv hf hq hP hnF hnI hM hst0 her0 hls0 hlm0 hsp0 hpk0
 go_enter Tryz.func14, Tryz.ntmps14
 go_wp2_with (first
  | (go_at_call 13; ((refine (HR.out _ HB0.out).mono ?_); rintro e w4 ⟨v4, rfl, ho4, hb4⟩; obtain ⟨E1, i1, z1, E2, i2, z2, E3, i3, z3, hv4⟩ := ho4.shape; subst hv4; have HO4 := Lib.hid ho4; have HZ4 := Lib.hid (HZ0.out.below hb4); have HW4 := Lib.hid (below_call hb4 HB0.out); clear ho4 hb4))
  | (refine wpList_store_row rfl 37 (.tmp 4) (.tmp 7) rfl (w.heap.size + 1 + 1) #[.int .i64 M.status, .int .i64 M.err, .slice E1 i1 z1, .slice E2 i2 z2, .slice E3 i3 z3, .int .i64 M.lsteps, .int .i64 M.lmem, .int .i64 M.steps, .int .i64 M.peak] rfl rfl 37 _ HZ4.out (by kernel_rfl) rfl (by simp [Value.oneCell']) ?_))
 have HZ5 := Lib.hid (HZ4.out.setRow (cs' := #[.int .i64 M.status, .int .i64 M.err, .slice E1 i1 z1, .slice E2 i2 z2, .slice E3 i3 z3, .int .i64 M.lsteps, .int .i64 M.lmem, .int .i64 M.steps, .int .i64 M.peak]))
 have HO5 := Lib.hid (HO4.out.kt (KT.row HZ4.out #[.int .i64 M.status, .int .i64 M.err, .slice E1 i1 z1, .slice E2 i2 z2, .slice E3 i3 z3, .int .i64 M.lsteps, .int .i64 M.lmem, .int .i64 M.steps, .int .i64 M.peak]))
 have HW5 := Lib.hid (below_setRow HW4.out (show w.heap.size ≤ w.heap.size + 1 + 1 by omega) #[.int .i64 M.status, .int .i64 M.err, .slice E1 i1 z1, .slice E2 i2 z2, .slice E3 i3 z3, .int .i64 M.lsteps, .int .i64 M.lmem, .int .i64 M.steps, .int .i64 M.peak])
 obtain ⟨w5, hw5⟩ : ∃ w5, w4.setRow (w.heap.size + 1 + 1) #[.int .i64 M.status, .int .i64 M.err, .slice E1 i1 z1, .slice E2 i2 z2, .slice E3 i3 z3, .int .i64 M.lsteps, .int .i64 M.lmem, .int .i64 M.steps, .int .i64 M.peak] = w5 := ⟨_, rfl⟩
 rw [hw5] at HZ5 HO5 HW5
 try rw [hw5]
 clear hw5
 have gz := blk9 HZ5.out
 refine bodyPost_ret (v := .agg #[.int .i64 M.status, .int .i64 M.err, .slice E1 i1 z1, .slice E2 i2 z2, .slice E3 i3 z3, .int .i64 M.lsteps, .int .i64 M.lmem, .int .i64 M.steps, .int .i64 M.peak]) (by simp [results, Tryz.results14, go_sem, gz]) rfl ?_
 rw [← HP.out]
 exact ⟨_, rfl, HO5.out.base HB0.out.size, HW5.out⟩
end Go.Proofs.YtmljohbialacfaaGreatDoor
set_option linter.unusedVariables false
set_option linter.unusedSimpArgs false
namespace Go.Proofs.YtmljohbialacfaaGreatDoor
open Go.RowKit
set_option maxRecDepth 100000
theorem OFrames.frames {w : World} {base : Nat} {v : Value} {l : List FrameD} {ps : List (Value × Value)} (h : OFrames w base v l ps) (hm : l.length ≤ 2199023255488)
  (hs : ∀ f ∈ l, (f.locals.length ≤ 5864062014634 ∧ ∀ x ∈ f.locals, x.length ≤ 3518437208780) ∧ (f.stack.length ≤ 5864062014634 ∧ ∀ x ∈ f.stack, x.length ≤ 3518437208780)) : FramesV w v l := by
 obtain ⟨h1, h2, _, h3⟩ := h
 obtain ⟨A, cap, rfl⟩ := own_shape h2
 have hc : l.length ≤ cap := by
  rcases h2.2 with ⟨e, hn⟩ | ⟨g, cap', cur, e, _, _, h3, _⟩
  ·omega
  ·injection e with _ _ e; omega
 have hsl : SlAt w A 4 (fun x : FrameD × (Value × Value) => frameRow x.1 x.2) (l.zip ps) := SlAt.of_own h2 (zip_flat frameRow l ps) (fun _ => rfl) (by omega)
 refine ⟨A, cap, List.zipWith frameRow l ps, rfl, hc, hm, ?_, by simp [h1], fun i hi hi' => ?_⟩
 ·rw [← zip_rows frameRow l ps]
  unfold SlAt at hsl ⊢
  rwa [List.map_map]
 ·have hv : i < ps.length := by omega
  obtain ⟨g1, g2⟩ := hs _ (List.getElem_mem hi')
  exact ⟨ps[i].1, ps[i].2, by simp [frameRow], (h3 i hv hi').1.vals g1.1 g1.2, (h3 i hv hi').2.vals g2.1 g2.2⟩
theorem OMach.machV {w : World} {base K : Nat} {v : Value} {m : MachD} (h : OMach w base v m) (hg : GoodM K m) (hK : K ≤ 9000) : MachV w v m := by
 obtain ⟨vv, fv, qv, ps, rfl, h1, h2, h3⟩ := h
 refine ⟨vv, fv, qv, rfl, h1.val ?_, h2.frames (by have := hg.nf; omega) (fun f hf => ?_), h3.reqs (by have := hg.nr; omega) (fun r hr => ?_)⟩
 ·rcases hg.va with e | e
  ·rw [e]; simp
  ·exact check_len e
 ·have hf' := hg.fr f hf
  exact ⟨⟨by have := hf'.nl; omega, fun x hx => check_len (hf'.cl x hx)⟩, ⟨by have := hf'.ns; omega, fun x hx => check_len (hf'.cs x hx)⟩⟩
 ·obtain ⟨a, b⟩ := hg.rq r hr
  exact ⟨by omega, fun x hx => check_len (b x hx)⟩
/-- What a run hands on. -/
def RunPost (M : MachD) (w : World) (e : Ending) (w' : World) : Prop := ∃ x, e = .returned x ∧ MachV w' x M ∧ Below w.heap.size w w'
theorem run_post (C : CodeS) (hT : C.T = none) (m : MachD) (v : Value) (n : Int) (w : World) (K : Nat) (hC : CodeV w C) (hgc : GoodC C.c) (hm : MachV w v m) (hg : GoodM K m) (hK : K + 2 * n.toNat ≤ 8800) (hp : Pow w) (hse : Sent w) (hml : MaxL w) (hst : 0 ≤ m.steps ∧ m.steps ≤ 100000) (hn : -9223372036854775808 ≤ n ∧ n ≤ 9000) :
  Calls Tryz.prog 13 #[.agg #[.slice C.A C.c.fns.length C.ncap, .slice C.B C.c.ins.length C.icap], v, .int .i64 n] w (RunPost (runF C.c n.toNat m) w) :=
 (mrun_any C hT m v n w K hC hgc hm hg hK hp hse hml hst hn).mono fun e w' ⟨x, he, ho, hb⟩ => ⟨x, he, ho.machV (GoodM.run hgc n.toNat K m hg) (by omega), hb⟩
theorem step_post (C : CodeS) (hT : C.T = none) (m : MachD) (v : Value) (w : World) (K : Nat) (hC : CodeV w C) (hgc : GoodC C.c) (hm : MachV w v m) (hg : GoodM K m) (hK : K + 2 ≤ 8800) (hp : Pow w) (hse : Sent w) (hml : MaxL w) (hst : 0 ≤ m.steps ∧ m.steps ≤ 100000) :
  Calls Tryz.prog 14 #[.agg #[.slice C.A C.c.fns.length C.ncap, .slice C.B C.c.ins.length C.icap], v] w (RunPost (runF C.c 1 m) w) :=
 (mstep_any C hT m v w K hC hgc hm hg hK hp hse hml hst).mono fun e w' ⟨x, he, ho, hb⟩ => ⟨x, he, ho.machV (GoodM.run hgc 1 K m hg) (by omega), hb⟩
theorem MachV.lit {w : World} {v : Value} {m : MachD} (h : MachV w v m) : ∃ A1 n1 k1 A2 n2 k2 A3 n3 k3, v = .agg #[.int .i64 m.status, .int .i64 m.err, .slice A1 n1 k1, .slice A2 n2 k2, .slice A3 n3 k3, .int .i64 m.lsteps, .int .i64 m.lmem, .int .i64 m.steps, .int .i64 m.peak] := by
 obtain ⟨va, fa, qa, rfl, h31, h32, h33⟩ := h
 obtain ⟨A1, n1, k1, rfl⟩ := h31.shape
 obtain ⟨A2, n2, k2, rfl⟩ := h32.shape
 obtain ⟨A3, n3, k3, rfl⟩ := h33.shape
 exact ⟨_, _, _, _, _, _, _, _, _, rfl⟩
/-- Same, asked of one machine twice. -/
theorem same_self {w : World} {m : MachD} {va vb : Value} (ha : MachV w va m) (hb : MachV w vb m) : Calls Tryz.prog 12 #[va, vb] w fun e w' => e = .returned (.bool true) ∧ Below w.heap.size w w' := by
 have := rsame_any m m va vb w ha hb
 rw [eqM_self] at this
 exact this
theorem smalls_ok {l : ValD} (h : smallB l = true) : l.length ≤ 300 ∧ ∀ c ∈ l, c.str.size ≤ 5000 := by
 unfold smallB at h
 rw [Bool.and_eq_true] at h
 refine ⟨of_decide_eq_true h.1, fun c hc => ?_⟩
 have := List.all_eq_true.1 h.2 c hc
 simpa using this
/-- The laws of parts, in plain Lean. -/
theorem parts_law (c : CodeD) (m : MachD) (p q : Int) (hp : 0 ≤ p) (hq : 0 ≤ q) :
  runF c q.toNat (runF c p.toNat m) = runF c (p + q).toNat m ∧ runF c (-1 : Int).toNat (runF c p.toNat m) = runF c p.toNat m ∧
   ((runF c p.toNat m).status ≠ 1 → runF c q.toNat (runF c p.toNat m) = runF c p.toNat m ∧ runF c 1 (runF c p.toNat m) = runF c p.toNat m) := by
 refine ⟨?_, rfl, fun h => ⟨runF_stop c _ h, runF_stop c _ h⟩⟩
 rw [runF_add]
 congr 1
 omega
end Go.Proofs.YtmljohbialacfaaGreatDoor
set_option linter.unusedVariables false
set_option linter.unusedSimpArgs false
namespace Go.Proofs.YtmljohbialacfaaGreatDoor
open Go.RowKit
set_option maxRecDepth 100000
/-- The code that awake runs. -/
def awF : FnD := ⟨⟨#[109, 97, 105, 110]⟩, 1, 1, 0, 2⟩
def awC : CodeD := ⟨[awF], [⟨5, 0, ⟨#[]⟩, []⟩, ⟨20, 0, ⟨#[]⟩, []⟩]⟩
theorem aw_ins (op : Int) (h : op = 5 ∨ op = 20) : (∃ f : FnD, FnSmall f ∧ FormedP ((1 : Nat) : Int) f ⟨op, 0, ⟨#[]⟩, []⟩) ∧ InsOk ⟨op, 0, ⟨#[]⟩, []⟩ := by
 refine ⟨⟨awF, by unfold FnSmall awF; simp, ?_⟩, ?_⟩
 · rcases h with rfl | rfl <;> (unfold FormedP OperandP StrP KeysP awF; simp [bareB]; try rfl)
 · exact ⟨Nat.zero_le _, Nat.zero_le _, by simp⟩
theorem aw_good : GoodC awC := by
 refine ⟨by simp [awC], by simp [awC], fun f hf => ?_, fun i hi => ?_⟩
 · have : f = awF := by simpa [awC] using hf
   subst this
   unfold FnSmall awF
   simp
 · have : i = ⟨5, 0, ⟨#[]⟩, []⟩ ∨ i = ⟨20, 0, ⟨#[]⟩, []⟩ := by simpa [awC] using hi
   rcases this with rfl | rfl
   · exact aw_ins 5 (.inl rfl)
   · exact aw_ins 20 (.inr rfl)
theorem keys_nil (w : World) : KeysV w (.slice none 0 0) [] := ⟨none, 0, rfl, Nat.le_refl _, SlAt.nil⟩
theorem aw_code {w : World} {gF gI : Nat} (h : CodeAt w gF gI) : CodeV w ⟨some ⟨gF, 0, none⟩, some ⟨gI, 0, none⟩, 1, 2, awC, none⟩ := by
 refine ⟨?_, ?_⟩
 · intro i row hr
   have hi : i = 0 := by
    by_cases h0 : i = 0
    · exact h0
    · rw [List.getElem?_eq_none (by simp [awC]; omega)] at hr; cases hr
   subst hi
   simp [awC] at hr
   subst hr
   refine ⟨gF, 0, rfl, lt_of_block h.1, fun j v hv => ?_⟩
   have := h.1.cell j v (by rw [← hv, ← Array.getElem?_toList]; rfl)
   simpa using this
 · refine ⟨[[.int .i64 5, .int .i64 0, .string ⟨#[]⟩, .slice none 0 0], [.int .i64 20, .int .i64 0, .string ⟨#[]⟩, .slice none 0 0]], ?_, rfl, fun k hk hk' => ?_⟩
   · intro i row hr
     have hi : i = 0 ∨ i = 1 := by
      by_cases h0 : i < 2
      · omega
      · rw [List.getElem?_eq_none (by simp; omega)] at hr; cases hr
     refine ⟨gI, 0, rfl, lt_of_block h.2, fun j v hv => ?_⟩
     rcases hi with rfl | rfl
     · simp at hr
       subst hr
       have hj : j < 4 := (List.getElem?_eq_some_iff.1 hv).1
       have := h.2.cell j v (by
        rw [← hv]
        match j, hj with
        | 0, _ => rfl
        | 1, _ => rfl
        | 2, _ => rfl
        | 3, _ => rfl)
       simpa using this
     · simp at hr
       subst hr
       have hj : j < 4 := (List.getElem?_eq_some_iff.1 hv).1
       have := h.2.cell (4 + j) v (by
        rw [← hv]
        match j, hj with
        | 0, _ => rfl
        | 1, _ => rfl
        | 2, _ => rfl
        | 3, _ => rfl)
       simpa using this
   · have hk2 : k = 0 ∨ k = 1 := by simp at hk; omega
     rcases hk2 with rfl | rfl
     · exact ⟨_, rfl, keys_nil w⟩
     · exact ⟨_, rfl, keys_nil w⟩
theorem m1_good (lm : Int) : GoodM 0 (m1 lm) := by
 unfold m1
 refine ⟨by simp, fun f hf => ?_, by simp, by simp, .inl rfl⟩
 have e : f = ⟨0, 0, [[c7]], []⟩ := by simpa using hf
 subst e
 exact ⟨by simp, by simp, fun v hv => by have : v = [c7] := by simpa using hv
                                         subst this
                                         decide +kernel, by simp⟩
theorem aw_run (gF gI : Nat) (m M : MachD) (v : Value) (n : Int) (w : World) (h : CodeAt w gF gI) (hp : Pow w) (hse : Sent w) (hml : MaxL w) (hm : MachV w v m) (hg : GoodM 0 m) (hst : 0 ≤ m.steps ∧ m.steps ≤ 100000) (hn : 0 ≤ n ∧ n ≤ 100) (he : runF awC n.toNat m = M) :
  Calls Tryz.prog 13 #[.agg #[.slice (some ⟨gF, 0, none⟩) 1 1, .slice (some ⟨gI, 0, none⟩) 2 2], v, .int .i64 n] w fun e w' => ∃ x, e = .returned x ∧ MachV w' x M ∧ Below w.heap.size w w' := by
 have := run_post ⟨some ⟨gF, 0, none⟩, some ⟨gI, 0, none⟩, 1, 2, awC, none⟩ rfl m v n w 0 (aw_code h) aw_good hm hg (by omega) hp hse hml hst (by omega)
 rw [← he]
 exact this
theorem aw_step (gF gI : Nat) (m M : MachD) (v : Value) (w : World) (h : CodeAt w gF gI) (hp : Pow w) (hse : Sent w) (hml : MaxL w) (hm : MachV w v m) (hg : GoodM 0 m) (hst : 0 ≤ m.steps ∧ m.steps ≤ 100000) (he : runF awC 1 m = M) :
  Calls Tryz.prog 14 #[.agg #[.slice (some ⟨gF, 0, none⟩) 1 1, .slice (some ⟨gI, 0, none⟩) 2 2], v] w fun e w' => ∃ x, e = .returned x ∧ MachV w' x M ∧ Below w.heap.size w w' := by
 have := step_post ⟨some ⟨gF, 0, none⟩, some ⟨gI, 0, none⟩, 1, 2, awC, none⟩ rfl m v w 0 (aw_code h) aw_good hm hg (by omega) hp hse hml hst
 rw [← he]
 exact this
/-- What awake holds in memory. -/
structure AwSt2 (w W : World) (gF gI gC gV : Nat) : Prop where
 hC : CodeAt W gF gI
 hB : Blk W gC 25 #[.slice (some ⟨gF, 0, none⟩) 1 1, .slice (some ⟨gI, 0, none⟩) 2 2]
 hV : Blk W gV 62 #[.int .i64 3, .int .i64 7, .string ⟨#[]⟩, .int .i64 0]
 hS : Shaped W
 hp : Pow W
 hse : Sent W
 hml : MaxL W
 hW : Below w.heap.size w W
theorem AwSt2.below {w W W' : World} {gF gI gC gV : Nat} (h : AwSt2 w W gF gI gC gV) (hb : Below W.heap.size W W') : AwSt2 w W' gF gI gC gV :=
 ⟨h.hC.below hb, h.hB.below hb, h.hV.below hb, h.hS.below hb, h.hp.below hb, h.hse.below hb, h.hml.below hb, below_call hb h.hW⟩
theorem Blk.nth2 (w : World) (o1 o2 o3 : Obj) (t : TypeId) (cs : Array Value) : Blk ((((w.alloc o1).alloc o2).alloc o3).alloc (.cells cs t)) (w.heap.size + 1 + 1 + 1) t cs := by
 have := Blk.new (((w.alloc o1).alloc o2).alloc o3) t cs
 simpa using this
theorem MachV.val2 {w : World} {a b A B C c d e f : Value} {m : MachD} (h : MachV w (.agg #[a, b, A, B, C, c, d, e, f]) m) : ValV w A m.value := by
 obtain ⟨vv, fv, qv, e, h1, _⟩ := h
 injection e with e
 simp at e
 rw [e.2.2.1]
 exact h1
attribute [local go_sem] cell_alloc_is
set_option maxHeartbeats 8000000 in
theorem awake_ok2 (w : World) (hs : Shaped w) (hpw : Pow w) (hse : Sent w) (hml : MaxL w) : Calls Tryz.prog 9 #[] w fun e w' => e = .returned (.bool true) ∧ Below w.heap.size w w' := by
 have HS := Lib.hid hs
 have HPW := Lib.hid hpw
 have HSE := Lib.hid hse
 have HML := Lib.hid hml
 clear hs hpw hse hml
 go_enter Tryz.func9, Tryz.ntmps9
 go_upto_region 3 with fail
 obtain ⟨W, hW⟩ : ∃ W, (((w.alloc (.cells #[.string ⟨#[109, 97, 105, 110]⟩, .int .i64 1, .int .i64 1, .int .i64 0, .int .i64 2] 55)).alloc (.cells #[.int .i64 5, .int .i64 0, .string ⟨#[]⟩, .slice none 0 0, .int .i64 20, .int .i64 0, .string ⟨#[]⟩, .slice none 0 0] 59)).alloc (.cells #[.slice (some ⟨w.heap.size, 0, none⟩) 1 1, .slice (some ⟨w.heap.size + 1, 0, none⟩) 2 2] 25)).alloc (.cells #[.int .i64 3, .int .i64 7, .string ⟨#[]⟩, .int .i64 0] 62) = W := ⟨_, rfl⟩
 have hbw : Below w.heap.size w W := by rw [← hW]; exact (below_3 w _ _ _).alloc (by simp; omega) _
 have HC0 : Hid (CodeAt W w.heap.size (w.heap.size + 1)) := Lib.hid (by rw [← hW]; exact ⟨(((Blk.new w _ _).alloc _).alloc _).alloc _, ((Blk.second w _ _ _).alloc _).alloc _⟩)
 have HB0 : Hid (Blk W (w.heap.size + 1 + 1) 25 #[.slice (some ⟨w.heap.size, 0, none⟩) 1 1, .slice (some ⟨w.heap.size + 1, 0, none⟩) 2 2]) := Lib.hid (by rw [← hW]; exact (Blk.third w _ _ _ _).alloc _)
 have HV0 : Hid (Blk W (w.heap.size + 1 + 1 + 1) 62 #[.int .i64 3, .int .i64 7, .string ⟨#[]⟩, .int .i64 0]) := Lib.hid (by rw [← hW]; exact Blk.nth2 w _ _ _ _ _)
 obtain ⟨gV, hgV⟩ : ∃ g, w.heap.size + 1 + 1 + 1 = g := ⟨_, rfl⟩
 obtain ⟨gC, hgC⟩ : ∃ g, w.heap.size + 1 + 1 = g := ⟨_, rfl⟩
 obtain ⟨gI, hgI⟩ : ∃ g, w.heap.size + 1 = g := ⟨_, rfl⟩
 obtain ⟨gF, hgF⟩ : ∃ g, w.heap.size = g := ⟨_, rfl⟩
 have HA : Hid (AwSt2 w W gF gI gC gV) := Lib.hid ⟨by rw [← hgF, ← hgI]; exact HC0.out, by rw [← hgF, ← hgI, ← hgC]; exact HB0.out, by rw [← hgV]; exact HV0.out, HS.out.below hbw, HPW.out.below hbw, HSE.out.below hbw, HML.out.below hbw, hbw⟩
 rw [hW, hgV, hgC, hgI, hgF]
 have HGF := Lib.hid hgF
 clear hW hgV hgC hgI hgF hbw HC0 HB0 HV0 HS HPW HSE HML
 have HT3 := Lib.hid (start_ok gF gI gV 10 W HA.out.hC HA.out.hS HA.out.hV (by omega) (by omega))
 have b0 := blk2 HA.out.hB
 go_upto_region 4 with (first
  | (go_at_call 10; (with_reducible refine HT3.out.mono ?_); rintro e w3 ⟨x3, rfl, hm3, hb3⟩; obtain ⟨aa1, aan1, aak1, aa2, aan2, aak2, aa3, aan3, aak3, rfl⟩ := hm3.lit; have HM3 : Hid (MachV w3 (.agg #[.int .i64 1, .int .i64 0, .slice aa1 aan1 aak1, .slice aa2 aan2 aak2, .slice aa3 aan3 aak3, .int .i64 10, .int .i64 10, .int .i64 0, .int .i64 1]) (m1 10)) := Lib.hid hm3; have HA3 := Lib.hid (HA.out.below hb3); clear hm3 hb3 b0))
 dsimp only [m1]
 obtain ⟨X3, hX3⟩ : ∃ X, w3.alloc (.cells #[.int .i64 1, .int .i64 0, .slice aa1 aan1 aak1, .slice aa2 aan2 aak2, .slice aa3 aan3 aak3, .int .i64 10, .int .i64 10, .int .i64 0, .int .i64 1] 37) = X := ⟨_, rfl⟩
 obtain ⟨g3, hg3⟩ : ∃ g, w3.heap.size = g := ⟨_, rfl⟩
 rw [hX3, hg3]
 have hbx3 : Below w3.heap.size w3 X3 := by rw [← hX3]; exact below_new _ _
 have HN3 : Hid (Blk X3 g3 37 #[.int .i64 1, .int .i64 0, .slice aa1 aan1 aak1, .slice aa2 aan2 aak2, .slice aa3 aan3 aak3, .int .i64 10, .int .i64 10, .int .i64 0, .int .i64 1]) := Lib.hid (by rw [← hX3, ← hg3]; exact Blk.new _ _ _)
 have HL3 : Hid (MachV X3 (.agg #[.int .i64 1, .int .i64 0, .slice aa1 aan1 aak1, .slice aa2 aan2 aak2, .slice aa3 aan3 aak3, .int .i64 10, .int .i64 10, .int .i64 0, .int .i64 1]) (m1 10)) := Lib.hid (HM3.out.below hbx3)
 have HQ3 := Lib.hid (HA3.out.below hbx3)
 clear hX3 hg3 hbx3
 have b3 := blk2 HQ3.out.hB
 have n3 := blk9 HN3.out
 have HT4 := Lib.hid (aw_run gF gI (m1 10) ⟨1, 0, [], [⟨0, 1, [[c7]], [[c7]]⟩], [], 10, 10, 1, 2⟩ _ 1 X3 HQ3.out.hC HQ3.out.hp HQ3.out.hse HQ3.out.hml HL3.out (m1_good 10) ⟨by decide, by decide⟩ ⟨by decide, by decide⟩ rfl)
 go_upto_region 5 with (first
  | (go_at_call 13; (with_reducible refine HT4.out.mono ?_); rintro e w4 ⟨x4, rfl, hm4, hb4⟩; obtain ⟨bb1, bbn1, bbk1, bb2, bbn2, bbk2, bb3, bbn3, bbk3, rfl⟩ := hm4.lit; have HM4 : Hid (MachV w4 (.agg #[.int .i64 1, .int .i64 0, .slice bb1 bbn1 bbk1, .slice bb2 bbn2 bbk2, .slice bb3 bbn3 bbk3, .int .i64 10, .int .i64 10, .int .i64 1, .int .i64 2]) ⟨1, 0, [], [⟨0, 1, [[c7]], [[c7]]⟩], [], 10, 10, 1, 2⟩) := Lib.hid hm4; have HY4 := Lib.hid hb4; have HA4 := Lib.hid (HQ3.out.below hb4); clear hm4 hb4 b3))
 obtain ⟨X4, hX4⟩ : ∃ X, w4.alloc (.cells #[.int .i64 1, .int .i64 0, .slice bb1 bbn1 bbk1, .slice bb2 bbn2 bbk2, .slice bb3 bbn3 bbk3, .int .i64 10, .int .i64 10, .int .i64 1, .int .i64 2] 37) = X := ⟨_, rfl⟩
 obtain ⟨g4, hg4⟩ : ∃ g, w4.heap.size = g := ⟨_, rfl⟩
 rw [hX4, hg4]
 have hbx4 : Below w4.heap.size w4 X4 := by rw [← hX4]; exact below_new _ _
 have HN4 : Hid (Blk X4 g4 37 #[.int .i64 1, .int .i64 0, .slice bb1 bbn1 bbk1, .slice bb2 bbn2 bbk2, .slice bb3 bbn3 bbk3, .int .i64 10, .int .i64 10, .int .i64 1, .int .i64 2]) := Lib.hid (by rw [← hX4, ← hg4]; exact Blk.new _ _ _)
 have HL4 : Hid (MachV X4 (.agg #[.int .i64 1, .int .i64 0, .slice bb1 bbn1 bbk1, .slice bb2 bbn2 bbk2, .slice bb3 bbn3 bbk3, .int .i64 10, .int .i64 10, .int .i64 1, .int .i64 2]) ⟨1, 0, [], [⟨0, 1, [[c7]], [[c7]]⟩], [], 10, 10, 1, 2⟩) := Lib.hid (HM4.out.below hbx4)
 have HQ4 := Lib.hid (HA4.out.below hbx4)
 have HN34 := Lib.hid (HN3.out.below (below_call hbx4 HY4.out))
 have HL34 := Lib.hid (HL3.out.below (below_call hbx4 HY4.out))
 clear hX4 hg4 hbx4
 have b4 := blk2 HQ4.out.hB
 have n34 := blk9 HN34.out
 have n4 := blk9 HN4.out
 have HT5 := Lib.hid (aw_run gF gI (m1 10) ⟨3, 0, [c7], [], [], 10, 10, 2, 2⟩ _ 5 X4 HQ4.out.hC HQ4.out.hp HQ4.out.hse HQ4.out.hml HL34.out (m1_good 10) ⟨by decide, by decide⟩ ⟨by decide, by decide⟩ rfl)
 go_upto_region 6 with (first
  | (go_at_call 13; (with_reducible refine HT5.out.mono ?_); rintro e w5 ⟨x5, rfl, hm5, hb5⟩; obtain ⟨cc1, ccn1, cck1, cc2, ccn2, cck2, cc3, ccn3, cck3, rfl⟩ := hm5.lit; have HM5 : Hid (MachV w5 (.agg #[.int .i64 3, .int .i64 0, .slice cc1 ccn1 cck1, .slice cc2 ccn2 cck2, .slice cc3 ccn3 cck3, .int .i64 10, .int .i64 10, .int .i64 2, .int .i64 2]) ⟨3, 0, [c7], [], [], 10, 10, 2, 2⟩) := Lib.hid hm5; have HY5 := Lib.hid hb5; have HA5 := Lib.hid (HQ4.out.below hb5); clear hm5 hb5 b4))
 obtain ⟨X5, hX5⟩ : ∃ X, w5.alloc (.cells #[.int .i64 3, .int .i64 0, .slice cc1 ccn1 cck1, .slice cc2 ccn2 cck2, .slice cc3 ccn3 cck3, .int .i64 10, .int .i64 10, .int .i64 2, .int .i64 2] 37) = X := ⟨_, rfl⟩
 obtain ⟨g5, hg5⟩ : ∃ g, w5.heap.size = g := ⟨_, rfl⟩
 rw [hX5, hg5]
 have hbx5 : Below w5.heap.size w5 X5 := by rw [← hX5]; exact below_new _ _
 have HN5 : Hid (Blk X5 g5 37 #[.int .i64 3, .int .i64 0, .slice cc1 ccn1 cck1, .slice cc2 ccn2 cck2, .slice cc3 ccn3 cck3, .int .i64 10, .int .i64 10, .int .i64 2, .int .i64 2]) := Lib.hid (by rw [← hX5, ← hg5]; exact Blk.new _ _ _)
 have HL5 : Hid (MachV X5 (.agg #[.int .i64 3, .int .i64 0, .slice cc1 ccn1 cck1, .slice cc2 ccn2 cck2, .slice cc3 ccn3 cck3, .int .i64 10, .int .i64 10, .int .i64 2, .int .i64 2]) ⟨3, 0, [c7], [], [], 10, 10, 2, 2⟩) := Lib.hid (HM5.out.below hbx5)
 have HQ5 := Lib.hid (HA5.out.below hbx5)
 have HN35 := Lib.hid (HN34.out.below (below_call hbx5 HY5.out))
 have HL35 := Lib.hid (HL34.out.below (below_call hbx5 HY5.out))
 have HN45 := Lib.hid (HN4.out.below (below_call hbx5 HY5.out))
 have HL45 := Lib.hid (HL4.out.below (below_call hbx5 HY5.out))
 clear hX5 hg5 hbx5
 have b5 := blk2 HQ5.out.hB
 have n35 := blk9 HN35.out
 have n45 := blk9 HN45.out
 have n5 := blk9 HN5.out
 have HT6 := Lib.hid (start_ok gF gI gV 1 X5 HQ5.out.hC HQ5.out.hS HQ5.out.hV (by omega) (by omega))
 go_upto_region 7 with (first
  | (go_at_call 10; (with_reducible refine HT6.out.mono ?_); rintro e w6 ⟨x6, rfl, hm6, hb6⟩; obtain ⟨dd1, ddn1, ddk1, dd2, ddn2, ddk2, dd3, ddn3, ddk3, rfl⟩ := hm6.lit; have HM6 : Hid (MachV w6 (.agg #[.int .i64 1, .int .i64 0, .slice dd1 ddn1 ddk1, .slice dd2 ddn2 ddk2, .slice dd3 ddn3 ddk3, .int .i64 10, .int .i64 1, .int .i64 0, .int .i64 1]) (m1 1)) := Lib.hid hm6; have HY6 := Lib.hid hb6; have HA6 := Lib.hid (HQ5.out.below hb6); clear hm6 hb6 b5))
 dsimp only [m1]
 obtain ⟨X6, hX6⟩ : ∃ X, w6.alloc (.cells #[.int .i64 1, .int .i64 0, .slice dd1 ddn1 ddk1, .slice dd2 ddn2 ddk2, .slice dd3 ddn3 ddk3, .int .i64 10, .int .i64 1, .int .i64 0, .int .i64 1] 37) = X := ⟨_, rfl⟩
 obtain ⟨g6, hg6⟩ : ∃ g, w6.heap.size = g := ⟨_, rfl⟩
 rw [hX6, hg6]
 have hbx6 : Below w6.heap.size w6 X6 := by rw [← hX6]; exact below_new _ _
 have HN6 : Hid (Blk X6 g6 37 #[.int .i64 1, .int .i64 0, .slice dd1 ddn1 ddk1, .slice dd2 ddn2 ddk2, .slice dd3 ddn3 ddk3, .int .i64 10, .int .i64 1, .int .i64 0, .int .i64 1]) := Lib.hid (by rw [← hX6, ← hg6]; exact Blk.new _ _ _)
 have HL6 : Hid (MachV X6 (.agg #[.int .i64 1, .int .i64 0, .slice dd1 ddn1 ddk1, .slice dd2 ddn2 ddk2, .slice dd3 ddn3 ddk3, .int .i64 10, .int .i64 1, .int .i64 0, .int .i64 1]) (m1 1)) := Lib.hid (HM6.out.below hbx6)
 have HQ6 := Lib.hid (HA6.out.below hbx6)
 have HN36 := Lib.hid (HN35.out.below (below_call hbx6 HY6.out))
 have HL36 := Lib.hid (HL35.out.below (below_call hbx6 HY6.out))
 have HN46 := Lib.hid (HN45.out.below (below_call hbx6 HY6.out))
 have HL46 := Lib.hid (HL45.out.below (below_call hbx6 HY6.out))
 have HN56 := Lib.hid (HN5.out.below (below_call hbx6 HY6.out))
 have HL56 := Lib.hid (HL5.out.below (below_call hbx6 HY6.out))
 clear hX6 hg6 hbx6
 have b6 := blk2 HQ6.out.hB
 have n36 := blk9 HN36.out
 have n46 := blk9 HN46.out
 have n56 := blk9 HN56.out
 have n6 := blk9 HN6.out
 have HT7 := Lib.hid (aw_step gF gI (m1 1) ⟨4, 16, [], [], [], 10, 1, 1, 2⟩ _ X6 HQ6.out.hC HQ6.out.hp HQ6.out.hse HQ6.out.hml HL6.out (m1_good 1) ⟨by decide, by decide⟩ rfl)
 go_upto_region 8 with (first
  | (go_at_call 14; (with_reducible refine HT7.out.mono ?_); rintro e w7 ⟨x7, rfl, hm7, hb7⟩; obtain ⟨ee1, een1, eek1, ee2, een2, eek2, ee3, een3, eek3, rfl⟩ := hm7.lit; have HM7 : Hid (MachV w7 (.agg #[.int .i64 4, .int .i64 16, .slice ee1 een1 eek1, .slice ee2 een2 eek2, .slice ee3 een3 eek3, .int .i64 10, .int .i64 1, .int .i64 1, .int .i64 2]) ⟨4, 16, [], [], [], 10, 1, 1, 2⟩) := Lib.hid hm7; have HY7 := Lib.hid hb7; have HA7 := Lib.hid (HQ6.out.below hb7); clear hm7 hb7 b6))
 obtain ⟨X7, hX7⟩ : ∃ X, w7.alloc (.cells #[.int .i64 4, .int .i64 16, .slice ee1 een1 eek1, .slice ee2 een2 eek2, .slice ee3 een3 eek3, .int .i64 10, .int .i64 1, .int .i64 1, .int .i64 2] 37) = X := ⟨_, rfl⟩
 obtain ⟨g7, hg7⟩ : ∃ g, w7.heap.size = g := ⟨_, rfl⟩
 rw [hX7, hg7]
 have hbx7 : Below w7.heap.size w7 X7 := by rw [← hX7]; exact below_new _ _
 have HN7 : Hid (Blk X7 g7 37 #[.int .i64 4, .int .i64 16, .slice ee1 een1 eek1, .slice ee2 een2 eek2, .slice ee3 een3 eek3, .int .i64 10, .int .i64 1, .int .i64 1, .int .i64 2]) := Lib.hid (by rw [← hX7, ← hg7]; exact Blk.new _ _ _)
 have HL7 : Hid (MachV X7 (.agg #[.int .i64 4, .int .i64 16, .slice ee1 een1 eek1, .slice ee2 een2 eek2, .slice ee3 een3 eek3, .int .i64 10, .int .i64 1, .int .i64 1, .int .i64 2]) ⟨4, 16, [], [], [], 10, 1, 1, 2⟩) := Lib.hid (HM7.out.below hbx7)
 have HQ7 := Lib.hid (HA7.out.below hbx7)
 have HN37 := Lib.hid (HN36.out.below (below_call hbx7 HY7.out))
 have HL37 := Lib.hid (HL36.out.below (below_call hbx7 HY7.out))
 have HN47 := Lib.hid (HN46.out.below (below_call hbx7 HY7.out))
 have HL47 := Lib.hid (HL46.out.below (below_call hbx7 HY7.out))
 have HN57 := Lib.hid (HN56.out.below (below_call hbx7 HY7.out))
 have HL57 := Lib.hid (HL56.out.below (below_call hbx7 HY7.out))
 have HN67 := Lib.hid (HN6.out.below (below_call hbx7 HY7.out))
 have HL67 := Lib.hid (HL6.out.below (below_call hbx7 HY7.out))
 clear hX7 hg7 hbx7
 have b7 := blk2 HQ7.out.hB
 have n37 := blk9 HN37.out
 have n47 := blk9 HN47.out
 have n57 := blk9 HN57.out
 have n67 := blk9 HN67.out
 have n7 := blk9 HN7.out
 have HT8 : Hid (Calls Tryz.prog 16 #[.agg #[.int .i64 1, .int .i64 0, .slice aa1 aan1 aak1, .slice aa2 aan2 aak2, .slice aa3 aan3 aak3, .int .i64 10, .int .i64 10, .int .i64 0, .int .i64 1]] X7 fun e w' => e = .returned (.int .i64 1) ∧ Below X7.heap.size X7 w') := Lib.hid (memory_any (m1 10) _ X7 HL37.out ⟨by simp [m1], by simp [m1]⟩)
 have HT9 : Hid (∀ wx, Below X7.heap.size X7 wx → Calls Tryz.prog 16 #[.agg #[.int .i64 1, .int .i64 0, .slice bb1 bbn1 bbk1, .slice bb2 bbn2 bbk2, .slice bb3 bbn3 bbk3, .int .i64 10, .int .i64 10, .int .i64 1, .int .i64 2]] wx fun e w' => e = .returned (.int .i64 2) ∧ Below wx.heap.size wx w') := Lib.hid (fun wx hx => memory_any ⟨1, 0, [], [⟨0, 1, [[c7]], [[c7]]⟩], [], 10, 10, 1, 2⟩ _ wx (HL47.out.below hx) ⟨by simp, by simp⟩)
 have HTC : Hid (∀ wx, Below X7.heap.size X7 wx → Calls Tryz.prog 21 #[.slice cc1 ccn1 cck1, .slice (some ⟨gV, 0, none⟩) 1 1] wx fun e w' => e = .returned (.bool true) ∧ ∃ q, w' = wx.drewN q) := Lib.hid (fun wx hx => cells_any [c7] [c7] _ _ wx (HL57.out.val2.below hx) ((valOne HQ7.out.hV).below hx))
 go_wp2_with (first
  | (go_at_call 16; (with_reducible refine HT8.out.mono ?_); rintro e w8 ⟨rfl, hb8⟩; have HY8 := Lib.hid hb8; have n8 := blk9 (HN47.out.below hb8); clear hb8)
  | (go_at_call 16; (with_reducible refine (HT9.out _ HY8.out).mono ?_); rintro e w9 ⟨rfl, hb9⟩; have hy9 := below_call hb9 HY8.out; have HY9 := Lib.hid hy9; have n9 := blk9 (HN57.out.below hy9); have m9 := blk9 (HN7.out.below hy9); clear hb9 hy9)
  | (go_at_call 21; (with_reducible refine (HTC.out _ HY9.out).mono ?_); rintro e w10 ⟨rfl, q, rfl⟩))
 go_returns
 exact ⟨rfl, below_drewN (below_call HY9.out HQ7.out.hW) q⟩
end Go.Proofs.YtmljohbialacfaaGreatDoor
set_option linter.unusedVariables false
set_option linter.unusedSimpArgs false
namespace Go.Proofs.YtmljohbialacfaaGreatDoor
open Go.RowKit
set_option maxRecDepth 100000
theorem cells5 {w : World} {gx g1 g2 g3 g4 : Nat} {tx t : TypeId} {u0 u1 a0 a1 a2 a3 a4 a5 a6 a7 a8 b0 b1 b2 b3 b4 b5 b6 b7 b8 c0 c1 c2 c3 c4 c5 c6 c7 c8 d0 d1 d2 d3 d4 d5 d6 d7 d8 : Value}
    (h : Blk w gx tx #[u0, u1] ∧ Blk w g1 t #[a0, a1, a2, a3, a4, a5, a6, a7, a8] ∧ Blk w g2 t #[b0, b1, b2, b3, b4, b5, b6, b7, b8] ∧ Blk w g3 t #[c0, c1, c2, c3, c4, c5, c6, c7, c8] ∧ Blk w g4 t #[d0, d1, d2, d3, d4, d5, d6, d7, d8]) :
    (w.cell? ⟨gx, 0, none⟩ = some u0 ∧ w.cell? ⟨gx, 1, none⟩ = some u1) ∧ (w.cell? ⟨g1, 0, none⟩ = some a0 ∧ w.cell? ⟨g1, 1, none⟩ = some a1 ∧ w.cell? ⟨g1, 2, none⟩ = some a2 ∧ w.cell? ⟨g1, 3, none⟩ = some a3 ∧ w.cell? ⟨g1, 4, none⟩ = some a4 ∧ w.cell? ⟨g1, 5, none⟩ = some a5 ∧ w.cell? ⟨g1, 6, none⟩ = some a6 ∧ w.cell? ⟨g1, 7, none⟩ = some a7 ∧ w.cell? ⟨g1, 8, none⟩ = some a8) ∧ (w.cell? ⟨g2, 0, none⟩ = some b0 ∧ w.cell? ⟨g2, 1, none⟩ = some b1 ∧ w.cell? ⟨g2, 2, none⟩ = some b2 ∧ w.cell? ⟨g2, 3, none⟩ = some b3 ∧ w.cell? ⟨g2, 4, none⟩ = some b4 ∧ w.cell? ⟨g2, 5, none⟩ = some b5 ∧ w.cell? ⟨g2, 6, none⟩ = some b6 ∧ w.cell? ⟨g2, 7, none⟩ = some b7 ∧ w.cell? ⟨g2, 8, none⟩ = some b8) ∧ (w.cell? ⟨g3, 0, none⟩ = some c0 ∧ w.cell? ⟨g3, 1, none⟩ = some c1 ∧ w.cell? ⟨g3, 2, none⟩ = some c2 ∧ w.cell? ⟨g3, 3, none⟩ = some c3 ∧ w.cell? ⟨g3, 4, none⟩ = some c4 ∧ w.cell? ⟨g3, 5, none⟩ = some c5 ∧ w.cell? ⟨g3, 6, none⟩ = some c6 ∧ w.cell? ⟨g3, 7, none⟩ = some c7 ∧ w.cell? ⟨g3, 8, none⟩ = some c8) ∧ (w.cell? ⟨g4, 0, none⟩ = some d0 ∧ w.cell? ⟨g4, 1, none⟩ = some d1 ∧ w.cell? ⟨g4, 2, none⟩ = some d2 ∧ w.cell? ⟨g4, 3, none⟩ = some d3 ∧ w.cell? ⟨g4, 4, none⟩ = some d4 ∧ w.cell? ⟨g4, 5, none⟩ = some d5 ∧ w.cell? ⟨g4, 6, none⟩ = some d6 ∧ w.cell? ⟨g4, 7, none⟩ = some d7 ∧ w.cell? ⟨g4, 8, none⟩ = some d8) := ⟨blk2 h.1, blk9 h.2.1, blk9 h.2.2.1, blk9 h.2.2.2.1, blk9 h.2.2.2.2⟩
theorem below5 {w w' : World} {gx g1 g2 g3 g4 : Nat} {tx t : TypeId} {ax a1 a2 a3 a4 : Array Value} (h : Blk w gx tx ax ∧ Blk w g1 t a1 ∧ Blk w g2 t a2 ∧ Blk w g3 t a3 ∧ Blk w g4 t a4) (hb : Below w.heap.size w w') :
    Blk w' gx tx ax ∧ Blk w' g1 t a1 ∧ Blk w' g2 t a2 ∧ Blk w' g3 t a3 ∧ Blk w' g4 t a4 := ⟨h.1.below hb, h.2.1.below hb, h.2.2.1.below hb, h.2.2.2.1.below hb, h.2.2.2.2.below hb⟩
attribute [local go_sem] cell_alloc_is
set_option maxHeartbeats 16000000 in
theorem mparts_any (C : CodeS) (hT : C.T = none) (v : Value) (l : ValD) (ls lm p q : Int) (w : World) (hC : CodeV w C) (hv : Sent w) (hp : Pow w) (hS : Shaped w) (hml : MaxL w) (hV : ValV w v l) (hvs : ∀ c ∈ l, c.str.size ≤ 140737488351232) (hvi : ∀ c ∈ l, (-9223372036854775808 ≤ c.int ∧ c.int ≤ 9223372036854775807) ∧ c.n ≤ 9223372036854775807) :
  Calls Tryz.prog 4 #[.agg #[.slice C.A C.c.fns.length C.ncap, .slice C.B C.c.ins.length C.icap], v, .agg #[.int .i64 ls, .int .i64 lm], .int .i64 p, .int .i64 q] w fun e w' => e = .returned (.bool true) ∧ Below w.heap.size w w' := by
 obtain ⟨P, hP⟩ : ∃ P : Ending → World → Prop, (fun e w' => e = .returned (.bool true) ∧ Below w.heap.size w w') = P := ⟨_, rfl⟩
 rw [hP]
 have HP := Lib.hid hP
 obtain ⟨vA, vn, vc, hve⟩ := hV.shape
 subst hve
 have HCO := Lib.hid hC
 have HPW := Lib.hid hp
 have HSE := Lib.hid hv
 have HML := Lib.hid hml
 have HTN := Lib.hid hT
 obtain ⟨sb, hsb⟩ : ∃ b, smallB l = b := ⟨_, rfl⟩
 have HSV : Hid (∀ wx, Below w.heap.size w wx → Calls Tryz.prog 8 #[.slice vA vn vc] wx fun e w' => e = .returned (.bool sb) ∧ w' = wx) := Lib.hid (fun wx hb => by rw [← hsb]; exact small_any l _ wx (hV.below hb) hvs)
 have HAW : Hid (∀ wx, Below w.heap.size w wx → Calls Tryz.prog 9 #[] wx fun e w' => e = .returned (.bool true) ∧ Below wx.heap.size wx w') := Lib.hid (fun wx hb => awake_ok2 wx (hS.below hb) (hp.below hb) (hv.below hb) (hml.below hb))
 have HCS : Hid (sb = true → SmallCd C.c → ∀ wx, Below w.heap.size w wx → Calls Tryz.prog 10 #[.agg #[.slice C.A C.c.fns.length C.ncap, .slice C.B C.c.ins.length C.icap], .slice vA vn vc, .agg #[.int .i64 ls, .int .i64 lm]] wx fun e w' => ∃ x R r, e = .returned (.tuple #[x, .int .i64 (startO C.c l ls lm R r).2]) ∧ CodeR C.c R ∧ FindP C.c.fns sMain r ∧ MachV w' x (startO C.c l ls lm R r).1 ∧ Below wx.heap.size wx w') := Lib.hid (fun hb hc wx hbl => by
  obtain ⟨h1, h2⟩ := smalls_ok (hsb.trans hb)
  exact cstart_any C _ l ls lm wx (hC.below hbl) hc.1 hc.2.1 hc.2.2.1 hc.2.2.2 (hv.below hbl) (hp.below hbl) (hS.below hbl) (hV.below hbl) (by omega) (fun c hcl => ⟨by have := h2 c hcl; omega, (hvi c hcl).1, (hvi c hcl).2⟩))
 have HRUN : Hid (∀ (m : MachD) (u : Value) (n : Int) (K : Nat) (wx : World), GoodC C.c → Below w.heap.size w wx → MachV wx u m → GoodM K m → K + 2 * n.toNat ≤ 8800 → 0 ≤ m.steps ∧ m.steps ≤ 100000 → -9223372036854775808 ≤ n ∧ n ≤ 9000 → Calls Tryz.prog 13 #[.agg #[.slice C.A C.c.fns.length C.ncap, .slice C.B C.c.ins.length C.icap], u, .int .i64 n] wx (RunPost (runF C.c n.toNat m) wx)) :=
  Lib.hid (fun m u n K wx hgc hb hm hg hK hs hn => run_post C hT m u n wx K (hC.below hb) hgc hm hg hK (hp.below hb) (hv.below hb) (hml.below hb) hs hn)
 have HSTP : Hid (∀ (m : MachD) (u : Value) (K : Nat) (wx : World), GoodC C.c → Below w.heap.size w wx → MachV wx u m → GoodM K m → K + 2 ≤ 8800 → 0 ≤ m.steps ∧ m.steps ≤ 100000 → Calls Tryz.prog 14 #[.agg #[.slice C.A C.c.fns.length C.ncap, .slice C.B C.c.ins.length C.icap], u] wx (RunPost (runF C.c 1 m) wx)) :=
  Lib.hid (fun m u K wx hgc hb hm hg hK hs => step_post C hT m u wx K (hC.below hb) hgc hm hg hK (hp.below hb) (hv.below hb) (hml.below hb) hs)
 have HSC : Hid (∀ wx, Below w.heap.size w wx → Calls Tryz.prog 7 #[.agg #[.slice C.A C.c.fns.length C.ncap, .slice C.B C.c.ins.length C.icap]] wx fun e w' => (∃ b, e = .returned (.bool b) ∧ (b = true → SmallCd C.c)) ∧ Below wx.heap.size wx w') := Lib.hid (fun wx hb => scode_any C wx (hC.below hb))
 obtain ⟨nF, hnF⟩ : ∃ n, C.c.fns.length = n := ⟨_, rfl⟩
 obtain ⟨nI, hnI⟩ : ∃ n, C.c.ins.length = n := ⟨_, rfl⟩
 rw [hnF, hnI] at HCS HRUN HSTP HSC ⊢
 have HB0 := Lib.hid (below_2 w (.cells #[.slice C.A nF C.ncap, .slice C.B nI C.icap] 25) (.cells #[.int .i64 ls, .int .i64 lm] 28))
 have HX0 := Lib.hid ((Blk.new w 25 #[.slice C.A nF C.ncap, .slice C.B nI C.icap]).alloc (.cells #[.int .i64 ls, .int .i64 lm] 28))
 have HY0 := Lib.hid (Blk.second w (.cells #[.slice C.A nF C.ncap, .slice C.B nI C.icap] 25) 28 #[.int .i64 ls, .int .i64 lm])
 clear hP hT hC hv hp hS hml hV hvs hvi hsb hnF hnI
 go_enter Tryz.func4, Tryz.ntmps4
 go_wp2_with (fail)
 refine (HSC.out _ HB0.out).mono ?_
 rintro e1 W1 ⟨⟨b1, rfl, hb1⟩, hw1⟩
 have HSM := Lib.hid hb1
 have HB1 := Lib.hid (below_call' hw1 HB0.out HB0.out.size)
 have HX1 := Lib.hid (HX0.out.below hw1)
 have HY1 := Lib.hid (HY0.out.below hw1)
 clear hb1 hw1
 have x1 := blk2 HX1.out
 have y1 := blk2 HY1.out
 cases b1 with
 | false =>
  go_wp2_with (first
   | (go_at_call 9; (with_reducible refine (HAW.out _ HB1.out).mono ?_); rintro e9 W9 ⟨rfl, hw9⟩; have HB9 := Lib.hid (below_call' hw9 HB1.out HB1.out.size); clear hw9))
  rw [← HP.out]
  exact ⟨rfl, HB9.out⟩
 | true =>
  have HSD := Lib.hid (HSM.out (by trivial))
  cases sb with
  | false =>
   go_wp2_with (first
    | (go_at_call 8; (with_reducible refine (HSV.out _ HB1.out).mono ?_); rintro e2 W2 ⟨rfl, hw2⟩; rw [hw2]; clear hw2 W2)
    | (go_at_call 9; (with_reducible refine (HAW.out _ HB1.out).mono ?_); rintro e9 W9 ⟨rfl, hw9⟩; have HB9 := Lib.hid (below_call' hw9 HB1.out HB1.out.size); clear hw9))
   rw [← HP.out]
   exact ⟨rfl, HB9.out⟩
  | true =>
   by_cases hp0 : p < 0
   · have hp0' : decide (p < 0) = true := decide_eq_true hp0
     go_wp2_with (first
      | (go_at_call 8; (with_reducible refine (HSV.out _ HB1.out).mono ?_); rintro e2 W2 ⟨rfl, hw2⟩; rw [hw2]; clear hw2 W2)
      | (go_at_call 9; (with_reducible refine (HAW.out _ HB1.out).mono ?_); rintro e9 W9 ⟨rfl, hw9⟩; have HB9 := Lib.hid (below_call' hw9 HB1.out HB1.out.size); clear hw9))
     rw [← HP.out]
     exact ⟨rfl, HB9.out⟩
   have hp0' : (p < 0) = False := eq_false hp0
   by_cases hq0 : q < 0
   · have hq0' : decide (q < 0) = true := decide_eq_true hq0
     go_wp2_with (first
      | (go_at_call 8; (with_reducible refine (HSV.out _ HB1.out).mono ?_); rintro e2 W2 ⟨rfl, hw2⟩; rw [hw2]; clear hw2 W2)
      | (go_at_call 9; (with_reducible refine (HAW.out _ HB1.out).mono ?_); rintro e9 W9 ⟨rfl, hw9⟩; have HB9 := Lib.hid (below_call' hw9 HB1.out HB1.out.size); clear hw9))
     rw [← HP.out]
     exact ⟨rfl, HB9.out⟩
   have hq0' : (q < 0) = False := eq_false hq0
   by_cases hp1 : 2000 < p
   · have hp1' : decide (2000 < p) = true := decide_eq_true hp1
     go_wp2_with (first
      | (go_at_call 8; (with_reducible refine (HSV.out _ HB1.out).mono ?_); rintro e2 W2 ⟨rfl, hw2⟩; rw [hw2]; clear hw2 W2)
      | (go_at_call 9; (with_reducible refine (HAW.out _ HB1.out).mono ?_); rintro e9 W9 ⟨rfl, hw9⟩; have HB9 := Lib.hid (below_call' hw9 HB1.out HB1.out.size); clear hw9))
     rw [← HP.out]
     exact ⟨rfl, HB9.out⟩
   have hp1' : (2000 < p) = False := eq_false hp1
   by_cases hq1 : 1000 < q
   · have hq1' : decide (1000 < q) = true := decide_eq_true hq1
     go_wp2_with (first
      | (go_at_call 8; (with_reducible refine (HSV.out _ HB1.out).mono ?_); rintro e2 W2 ⟨rfl, hw2⟩; rw [hw2]; clear hw2 W2)
      | (go_at_call 9; (with_reducible refine (HAW.out _ HB1.out).mono ?_); rintro e9 W9 ⟨rfl, hw9⟩; have HB9 := Lib.hid (below_call' hw9 HB1.out HB1.out.size); clear hw9))
     rw [← HP.out]
     exact ⟨rfl, HB9.out⟩
   have hq1' : (1000 < q) = False := eq_false hq1
   have HPQ : Hid (0 ≤ p ∧ p ≤ 2000 ∧ 0 ≤ q ∧ q ≤ 1000) := Lib.hid (by omega)
   clear hp0 hq0 hp1 hq1
   go_upto_region 3 with (first
    | (go_at_call 8; (with_reducible refine (HSV.out _ HB1.out).mono ?_); rintro e2 W2 ⟨rfl, hw2⟩; rw [hw2]; clear hw2 W2))
   clear hp0' hq0' hp1' hq1'
   go_wp2_with (fail)
   refine (HCS.out (by trivial) HSD.out _ HB1.out).mono ?_
   rintro e3 W3 ⟨x0, R, r, rfl, hR, hr, hm0, hw3⟩
   obtain ⟨er, her⟩ : ∃ e, (startO C.c l ls lm R r).2 = e := ⟨_, rfl⟩
   obtain ⟨M0, hM0⟩ : ∃ e, (startO C.c l ls lm R r).1 = e := ⟨_, rfl⟩
   have HGD : Hid (er = 0 → GoodC C.c ∧ GoodM 0 M0 ∧ M0.steps = 0) := Lib.hid (fun h0 => by
    obtain ⟨g1, g2, ⟨f, g3⟩, _⟩ := start_good hR HSD.out.2.2.2 (her.trans h0)
    rw [← hM0]
    exact ⟨g1, g2, by rw [g3]; exact startM_steps _ _ _ _ _⟩)
   rw [her]
   rw [hM0] at hm0
   have HM0 := Lib.hid hm0
   obtain ⟨z1, zn1, zk1, z2, zn2, zk2, z3, zn3, zk3, rfl⟩ := hm0.lit
   have HB3 := Lib.hid (below_call' hw3 HB1.out HB1.out.size)
   have HX3 := Lib.hid (HX1.out.below hw3)
   clear hw3 hR hr hm0 her hM0 x1 y1
   go_upto_region 4 with fail
   obtain ⟨g0, hg0⟩ : ∃ g, W3.heap.size = g := ⟨_, rfl⟩
   obtain ⟨W4, hW4⟩ : ∃ W, W3.alloc (.cells #[.int .i64 M0.status, .int .i64 M0.err, .slice z1 zn1 zk1, .slice z2 zn2 zk2, .slice z3 zn3 zk3, .int .i64 M0.lsteps, .int .i64 M0.lmem, .int .i64 M0.steps, .int .i64 M0.peak] 37) = W := ⟨_, rfl⟩
   have HA4 : Hid (Blk W4 g0 37 #[.int .i64 M0.status, .int .i64 M0.err, .slice z1 zn1 zk1, .slice z2 zn2 zk2, .slice z3 zn3 zk3, .int .i64 M0.lsteps, .int .i64 M0.lmem, .int .i64 M0.steps, .int .i64 M0.peak]) := Lib.hid (by rw [← hW4, ← hg0]; exact Blk.new W3 _ _)
   have HB4 : Hid (Below w.heap.size w W4) := Lib.hid (by rw [← hW4]; exact HB3.out.alloc HB3.out.size _)
   have HM4 : Hid (MachV W4 (.agg #[.int .i64 M0.status, .int .i64 M0.err, .slice z1 zn1 zk1, .slice z2 zn2 zk2, .slice z3 zn3 zk3, .int .i64 M0.lsteps, .int .i64 M0.lmem, .int .i64 M0.steps, .int .i64 M0.peak]) M0) := Lib.hid (by rw [← hW4]; exact HM0.out.below (below_new _ _))
   have HX4 : Hid (Blk W4 w.heap.size 25 _) := Lib.hid (by rw [← hW4]; exact HX3.out.alloc _)
   rw [hW4, hg0]
   clear hW4 hg0 HM0 HB3 HX3
   by_cases her : er = 0
   rotate_left
   · have her' : decide (er = 0) = false := decide_eq_false her
     go_wp2_with (first
      | (go_at_call 9; (with_reducible refine (HAW.out _ HB4.out).mono ?_); rintro e9 W9 ⟨rfl, hw9⟩; have HB9 := Lib.hid (below_call' hw9 HB4.out HB4.out.size); clear hw9))
     rw [← HP.out]
     exact ⟨rfl, HB9.out⟩
   subst her
   obtain ⟨hgc, hg0, hst0⟩ := HGD.out rfl
   have HGC := Lib.hid hgc
   have HG0 := Lib.hid hg0
   have HS0 := Lib.hid hst0
   clear hgc hg0 hst0 HGD
   have x4 := blk2 HX4.out
   have a4 := blk9 HA4.out
   go_wp2_with (fail)
   refine (HRUN.out M0 _ p 0 _ HGC.out HB4.out HM4.out HG0.out (by have := HPQ.out; omega) (by have := HS0.out; omega) (by have := HPQ.out; omega)).mono ?_
   rintro e6 W6a ⟨x6, rfl, hm6, hw6⟩
   obtain ⟨Ma, hMa⟩ : ∃ M, runF C.c (p).toNat M0 = M := ⟨_, rfl⟩
   rw [hMa] at hm6
   have HEMa := Lib.hid hMa
   have HMa6 := Lib.hid hm6
   obtain ⟨a1, an1, ak1, a2, an2, ak2, a3, an3, ak3, rfl⟩ := hm6.lit
   have HBa6 := Lib.hid (below_call' hw6 HB4.out HB4.out.size)
   have HBkX6a := Lib.hid (HX4.out.below hw6)
   have HBkz6a := Lib.hid (HA4.out.below hw6)
   have HMkz6a := Lib.hid (HM4.out.below hw6)
   clear hw6 hm6 hMa x4 a4
   go_upto_region 7 with fail
   obtain ⟨gA, hgA⟩ : ∃ g, W6a.heap.size = g := ⟨_, rfl⟩
   obtain ⟨W6, hW6⟩ : ∃ W, W6a.alloc (.cells #[.int .i64 Ma.status, .int .i64 Ma.err, .slice a1 an1 ak1, .slice a2 an2 ak2, .slice a3 an3 ak3, .int .i64 Ma.lsteps, .int .i64 Ma.lmem, .int .i64 Ma.steps, .int .i64 Ma.peak] 37) = W := ⟨_, rfl⟩
   have HB6 : Hid (Below w.heap.size w W6) := Lib.hid (by rw [← hW6]; exact HBa6.out.alloc HBa6.out.size _)
   have HBka6 : Hid (Blk W6 gA 37 #[.int .i64 Ma.status, .int .i64 Ma.err, .slice a1 an1 ak1, .slice a2 an2 ak2, .slice a3 an3 ak3, .int .i64 Ma.lsteps, .int .i64 Ma.lmem, .int .i64 Ma.steps, .int .i64 Ma.peak]) := Lib.hid (by rw [← hW6, ← hgA]; exact Blk.new W6a _ _)
   have HMka6 : Hid (MachV W6 (.agg #[.int .i64 Ma.status, .int .i64 Ma.err, .slice a1 an1 ak1, .slice a2 an2 ak2, .slice a3 an3 ak3, .int .i64 Ma.lsteps, .int .i64 Ma.lmem, .int .i64 Ma.steps, .int .i64 Ma.peak]) Ma) := Lib.hid (by rw [← hW6]; exact HMa6.out.below (below_new _ _))
   have HBkX6 : Hid (Blk W6 _ 25 _) := Lib.hid (by rw [← hW6]; exact HBkX6a.out.alloc _)
   have HBkz6 : Hid (Blk W6 _ 37 _) := Lib.hid (by rw [← hW6]; exact HBkz6a.out.alloc _)
   have HMkz6 : Hid (MachV W6 _ _) := Lib.hid (by rw [← hW6]; exact HMkz6a.out.below (below_new _ _))
   rw [hW6, hgA]
   clear hW6 hgA HMa6 HBa6 HX4 HA4 HM4 HBkX6a HBkz6a HMkz6a
   have HGa : Hid (GoodM (2 * p.toNat) Ma ∧ 0 ≤ Ma.steps ∧ Ma.steps ≤ 2000) := Lib.hid (by
    have h1 := GoodM.run HGC.out p.toNat 0 M0 HG0.out
    have h2 := run_steps C.c p.toNat M0
    rw [HEMa.out] at h1 h2
    have h3 := HS0.out
    have h4 := HPQ.out
    exact ⟨h1.mono (by omega), by omega, by omega⟩)
   have x4 := blk2 HBkX6.out
   have a4 := blk9 HBka6.out
   go_wp2_with (fail)
   refine (HRUN.out Ma _ q (2 * p.toNat) _ HGC.out HB6.out HMka6.out HGa.out.1 (by have := HPQ.out; omega) (by have := HGa.out.2; omega) (by have := HPQ.out; omega)).mono ?_
   rintro e7 W7a ⟨x7, rfl, hm7, hw7⟩
   obtain ⟨Mb, hMb⟩ : ∃ M, runF C.c (q).toNat Ma = M := ⟨_, rfl⟩
   rw [hMb] at hm7
   have HEMb := Lib.hid hMb
   have HMa7 := Lib.hid hm7
   obtain ⟨b1, bn1, bk1, b2, bn2, bk2, b3, bn3, bk3, rfl⟩ := hm7.lit
   have HBa7 := Lib.hid (below_call' hw7 HB6.out HB6.out.size)
   have HBkX7a := Lib.hid (HBkX6.out.below hw7)
   have HBkz7a := Lib.hid (HBkz6.out.below hw7)
   have HBka7a := Lib.hid (HBka6.out.below hw7)
   have HMkz7a := Lib.hid (HMkz6.out.below hw7)
   have HMka7a := Lib.hid (HMka6.out.below hw7)
   clear hw7 hm7 hMb x4 a4
   go_upto_region 8 with fail
   obtain ⟨gB, hgB⟩ : ∃ g, W7a.heap.size = g := ⟨_, rfl⟩
   obtain ⟨W7, hW7⟩ : ∃ W, W7a.alloc (.cells #[.int .i64 Mb.status, .int .i64 Mb.err, .slice b1 bn1 bk1, .slice b2 bn2 bk2, .slice b3 bn3 bk3, .int .i64 Mb.lsteps, .int .i64 Mb.lmem, .int .i64 Mb.steps, .int .i64 Mb.peak] 37) = W := ⟨_, rfl⟩
   have HB7 : Hid (Below w.heap.size w W7) := Lib.hid (by rw [← hW7]; exact HBa7.out.alloc HBa7.out.size _)
   have HBkb7 : Hid (Blk W7 gB 37 #[.int .i64 Mb.status, .int .i64 Mb.err, .slice b1 bn1 bk1, .slice b2 bn2 bk2, .slice b3 bn3 bk3, .int .i64 Mb.lsteps, .int .i64 Mb.lmem, .int .i64 Mb.steps, .int .i64 Mb.peak]) := Lib.hid (by rw [← hW7, ← hgB]; exact Blk.new W7a _ _)
   have HMkb7 : Hid (MachV W7 (.agg #[.int .i64 Mb.status, .int .i64 Mb.err, .slice b1 bn1 bk1, .slice b2 bn2 bk2, .slice b3 bn3 bk3, .int .i64 Mb.lsteps, .int .i64 Mb.lmem, .int .i64 Mb.steps, .int .i64 Mb.peak]) Mb) := Lib.hid (by rw [← hW7]; exact HMa7.out.below (below_new _ _))
   have HBkX7 : Hid (Blk W7 _ 25 _) := Lib.hid (by rw [← hW7]; exact HBkX7a.out.alloc _)
   have HBkz7 : Hid (Blk W7 _ 37 _) := Lib.hid (by rw [← hW7]; exact HBkz7a.out.alloc _)
   have HBka7 : Hid (Blk W7 _ 37 _) := Lib.hid (by rw [← hW7]; exact HBka7a.out.alloc _)
   have HMkz7 : Hid (MachV W7 _ _) := Lib.hid (by rw [← hW7]; exact HMkz7a.out.below (below_new _ _))
   have HMka7 : Hid (MachV W7 _ _) := Lib.hid (by rw [← hW7]; exact HMka7a.out.below (below_new _ _))
   rw [hW7, hgB]
   clear hW7 hgB HMa7 HBa7 HBkX6 HBkz6 HBka6 HMkz6 HMka6 HBkX7a HBkz7a HBka7a HMkz7a HMka7a
   have hpq : IntKind.i64.wrap (p + q) = p + q := IntWalk.i64_in _ (by have := HPQ.out; omega)
   have HWR := Lib.hid hpq
   have x4 := blk2 HBkX7.out
   have a4 := blk9 HBkz7.out
   go_wp2_with (fail)
   refine (HRUN.out M0 _ (p + q) 0 _ HGC.out HB7.out HMkz7.out HG0.out (by have := HPQ.out; omega) (by have := HS0.out; omega) (by have := HPQ.out; omega)).mono ?_
   rintro e8 W8a ⟨x8, rfl, hm8, hw8⟩
   obtain ⟨Mc, hMc⟩ : ∃ M, runF C.c ((p + q)).toNat M0 = M := ⟨_, rfl⟩
   rw [hMc] at hm8
   have HEMc := Lib.hid hMc
   have HMa8 := Lib.hid hm8
   obtain ⟨c1, cn1, ck1, c2, cn2, ck2, c3, cn3, ck3, rfl⟩ := hm8.lit
   have HBa8 := Lib.hid (below_call' hw8 HB7.out HB7.out.size)
   have HBkX8a := Lib.hid (HBkX7.out.below hw8)
   have HBkz8a := Lib.hid (HBkz7.out.below hw8)
   have HBka8a := Lib.hid (HBka7.out.below hw8)
   have HBkb8a := Lib.hid (HBkb7.out.below hw8)
   have HMkz8a := Lib.hid (HMkz7.out.below hw8)
   have HMka8a := Lib.hid (HMka7.out.below hw8)
   have HMkb8a := Lib.hid (HMkb7.out.below hw8)
   clear hw8 hm8 hMc x4 a4
   go_upto_region 9 with fail
   obtain ⟨gC, hgC⟩ : ∃ g, W8a.heap.size = g := ⟨_, rfl⟩
   obtain ⟨W8, hW8⟩ : ∃ W, W8a.alloc (.cells #[.int .i64 Mc.status, .int .i64 Mc.err, .slice c1 cn1 ck1, .slice c2 cn2 ck2, .slice c3 cn3 ck3, .int .i64 Mc.lsteps, .int .i64 Mc.lmem, .int .i64 Mc.steps, .int .i64 Mc.peak] 37) = W := ⟨_, rfl⟩
   have HB8 : Hid (Below w.heap.size w W8) := Lib.hid (by rw [← hW8]; exact HBa8.out.alloc HBa8.out.size _)
   have HBkc8 : Hid (Blk W8 gC 37 #[.int .i64 Mc.status, .int .i64 Mc.err, .slice c1 cn1 ck1, .slice c2 cn2 ck2, .slice c3 cn3 ck3, .int .i64 Mc.lsteps, .int .i64 Mc.lmem, .int .i64 Mc.steps, .int .i64 Mc.peak]) := Lib.hid (by rw [← hW8, ← hgC]; exact Blk.new W8a _ _)
   have HMkc8 : Hid (MachV W8 (.agg #[.int .i64 Mc.status, .int .i64 Mc.err, .slice c1 cn1 ck1, .slice c2 cn2 ck2, .slice c3 cn3 ck3, .int .i64 Mc.lsteps, .int .i64 Mc.lmem, .int .i64 Mc.steps, .int .i64 Mc.peak]) Mc) := Lib.hid (by rw [← hW8]; exact HMa8.out.below (below_new _ _))
   have HBkX8 : Hid (Blk W8 _ 25 _) := Lib.hid (by rw [← hW8]; exact HBkX8a.out.alloc _)
   have HBkz8 : Hid (Blk W8 _ 37 _) := Lib.hid (by rw [← hW8]; exact HBkz8a.out.alloc _)
   have HBka8 : Hid (Blk W8 _ 37 _) := Lib.hid (by rw [← hW8]; exact HBka8a.out.alloc _)
   have HBkb8 : Hid (Blk W8 _ 37 _) := Lib.hid (by rw [← hW8]; exact HBkb8a.out.alloc _)
   have HMkz8 : Hid (MachV W8 _ _) := Lib.hid (by rw [← hW8]; exact HMkz8a.out.below (below_new _ _))
   have HMka8 : Hid (MachV W8 _ _) := Lib.hid (by rw [← hW8]; exact HMka8a.out.below (below_new _ _))
   have HMkb8 : Hid (MachV W8 _ _) := Lib.hid (by rw [← hW8]; exact HMkb8a.out.below (below_new _ _))
   rw [hW8, hgC]
   clear hW8 hgC HMa8 HBa8 HBkX7 HBkz7 HBka7 HBkb7 HMkz7 HMka7 HMkb7 HBkX8a HBkz8a HBka8a HBkb8a HMkz8a HMka8a HMkb8a
   clear hpq
   have x4 := blk2 HBkX8.out
   have a4 := blk9 HBka8.out
   go_wp2_with (fail)
   refine (HSTP.out Ma _ (2 * p.toNat) _ HGC.out HB8.out HMka8.out HGa.out.1 (by have := HPQ.out; omega) (by have := HGa.out.2; omega)).mono ?_
   rintro e9 W9a ⟨x9, rfl, hm9, hw9⟩
   obtain ⟨Md, hMd⟩ : ∃ M, runF C.c 1 Ma = M := ⟨_, rfl⟩
   rw [hMd] at hm9
   have HEMd := Lib.hid hMd
   have HMa9 := Lib.hid hm9
   obtain ⟨d1, dn1, dk1, d2, dn2, dk2, d3, dn3, dk3, rfl⟩ := hm9.lit
   have HBa9 := Lib.hid (below_call' hw9 HB8.out HB8.out.size)
   have HBkX9a := Lib.hid (HBkX8.out.below hw9)
   have HBkz9a := Lib.hid (HBkz8.out.below hw9)
   have HBka9a := Lib.hid (HBka8.out.below hw9)
   have HBkb9a := Lib.hid (HBkb8.out.below hw9)
   have HBkc9a := Lib.hid (HBkc8.out.below hw9)
   have HMkz9a := Lib.hid (HMkz8.out.below hw9)
   have HMka9a := Lib.hid (HMka8.out.below hw9)
   have HMkb9a := Lib.hid (HMkb8.out.below hw9)
   have HMkc9a := Lib.hid (HMkc8.out.below hw9)
   clear hw9 hm9 hMd x4 a4
   go_upto_region 10 with fail
   obtain ⟨gD, hgD⟩ : ∃ g, W9a.heap.size = g := ⟨_, rfl⟩
   obtain ⟨W9, hW9⟩ : ∃ W, W9a.alloc (.cells #[.int .i64 Md.status, .int .i64 Md.err, .slice d1 dn1 dk1, .slice d2 dn2 dk2, .slice d3 dn3 dk3, .int .i64 Md.lsteps, .int .i64 Md.lmem, .int .i64 Md.steps, .int .i64 Md.peak] 37) = W := ⟨_, rfl⟩
   have HB9 : Hid (Below w.heap.size w W9) := Lib.hid (by rw [← hW9]; exact HBa9.out.alloc HBa9.out.size _)
   have HBkd9 : Hid (Blk W9 gD 37 #[.int .i64 Md.status, .int .i64 Md.err, .slice d1 dn1 dk1, .slice d2 dn2 dk2, .slice d3 dn3 dk3, .int .i64 Md.lsteps, .int .i64 Md.lmem, .int .i64 Md.steps, .int .i64 Md.peak]) := Lib.hid (by rw [← hW9, ← hgD]; exact Blk.new W9a _ _)
   have HMkd9 : Hid (MachV W9 (.agg #[.int .i64 Md.status, .int .i64 Md.err, .slice d1 dn1 dk1, .slice d2 dn2 dk2, .slice d3 dn3 dk3, .int .i64 Md.lsteps, .int .i64 Md.lmem, .int .i64 Md.steps, .int .i64 Md.peak]) Md) := Lib.hid (by rw [← hW9]; exact HMa9.out.below (below_new _ _))
   have HBkX9 : Hid (Blk W9 _ 25 _) := Lib.hid (by rw [← hW9]; exact HBkX9a.out.alloc _)
   have HBkz9 : Hid (Blk W9 _ 37 _) := Lib.hid (by rw [← hW9]; exact HBkz9a.out.alloc _)
   have HBka9 : Hid (Blk W9 _ 37 _) := Lib.hid (by rw [← hW9]; exact HBka9a.out.alloc _)
   have HBkb9 : Hid (Blk W9 _ 37 _) := Lib.hid (by rw [← hW9]; exact HBkb9a.out.alloc _)
   have HBkc9 : Hid (Blk W9 _ 37 _) := Lib.hid (by rw [← hW9]; exact HBkc9a.out.alloc _)
   have HMkz9 : Hid (MachV W9 _ _) := Lib.hid (by rw [← hW9]; exact HMkz9a.out.below (below_new _ _))
   have HMka9 : Hid (MachV W9 _ _) := Lib.hid (by rw [← hW9]; exact HMka9a.out.below (below_new _ _))
   have HMkb9 : Hid (MachV W9 _ _) := Lib.hid (by rw [← hW9]; exact HMkb9a.out.below (below_new _ _))
   have HMkc9 : Hid (MachV W9 _ _) := Lib.hid (by rw [← hW9]; exact HMkc9a.out.below (below_new _ _))
   rw [hW9, hgD]
   clear hW9 hgD HMa9 HBa9 HBkX8 HBkz8 HBka8 HBkb8 HBkc8 HMkz8 HMka8 HMkb8 HMkc8 HBkX9a HBkz9a HBka9a HBkb9a HBkc9a HMkz9a HMka9a HMkb9a HMkc9a
   have hMc : Mb = Mc := by
    rw [← HEMc.out, ← HEMb.out, ← HEMa.out]
    exact (parts_law C.c M0 p q HPQ.out.1 HPQ.out.2.2.1).1
   subst hMc
   have F9 := Lib.hid (show _ ∧ _ ∧ _ ∧ _ ∧ _ from ⟨HBkX9.out, HBka9.out, HBkb9.out, HBkc9.out, HBkd9.out⟩)
   have F9d := Lib.hid (below5 F9.out (below_drew W9))
   have M9da := Lib.hid (HMka9.out.below (below_drew W9))
   have M9db := Lib.hid (HMkb9.out.below (below_drew W9))
   have M9dc := Lib.hid (HMkc9.out.below (below_drew W9))
   have M9dd := Lib.hid (HMkd9.out.below (below_drew W9))
   have B9d := Lib.hid (below_call (below_drew W9) HB9.out)
   go_region_held3 (fun w' => (w'.cell? ⟨w.heap.size, 0, none⟩ = some (.slice C.A nF C.ncap) ∧ w'.cell? ⟨w.heap.size, 1, none⟩ = some (.slice C.B nI C.icap)) ∧ (w'.cell? ⟨gA, 0, none⟩ = some (.int .i64 Ma.status) ∧ w'.cell? ⟨gA, 1, none⟩ = some (.int .i64 Ma.err) ∧ w'.cell? ⟨gA, 2, none⟩ = some (.slice a1 an1 ak1) ∧ w'.cell? ⟨gA, 3, none⟩ = some (.slice a2 an2 ak2) ∧ w'.cell? ⟨gA, 4, none⟩ = some (.slice a3 an3 ak3) ∧ w'.cell? ⟨gA, 5, none⟩ = some (.int .i64 Ma.lsteps) ∧ w'.cell? ⟨gA, 6, none⟩ = some (.int .i64 Ma.lmem) ∧ w'.cell? ⟨gA, 7, none⟩ = some (.int .i64 Ma.steps) ∧ w'.cell? ⟨gA, 8, none⟩ = some (.int .i64 Ma.peak)) ∧ (w'.cell? ⟨gB, 0, none⟩ = some (.int .i64 Mb.status) ∧ w'.cell? ⟨gB, 1, none⟩ = some (.int .i64 Mb.err) ∧ w'.cell? ⟨gB, 2, none⟩ = some (.slice b1 bn1 bk1) ∧ w'.cell? ⟨gB, 3, none⟩ = some (.slice b2 bn2 bk2) ∧ w'.cell? ⟨gB, 4, none⟩ = some (.slice b3 bn3 bk3) ∧ w'.cell? ⟨gB, 5, none⟩ = some (.int .i64 Mb.lsteps) ∧ w'.cell? ⟨gB, 6, none⟩ = some (.int .i64 Mb.lmem) ∧ w'.cell? ⟨gB, 7, none⟩ = some (.int .i64 Mb.steps) ∧ w'.cell? ⟨gB, 8, none⟩ = some (.int .i64 Mb.peak)) ∧ (w'.cell? ⟨gC, 0, none⟩ = some (.int .i64 Mb.status) ∧ w'.cell? ⟨gC, 1, none⟩ = some (.int .i64 Mb.err) ∧ w'.cell? ⟨gC, 2, none⟩ = some (.slice c1 cn1 ck1) ∧ w'.cell? ⟨gC, 3, none⟩ = some (.slice c2 cn2 ck2) ∧ w'.cell? ⟨gC, 4, none⟩ = some (.slice c3 cn3 ck3) ∧ w'.cell? ⟨gC, 5, none⟩ = some (.int .i64 Mb.lsteps) ∧ w'.cell? ⟨gC, 6, none⟩ = some (.int .i64 Mb.lmem) ∧ w'.cell? ⟨gC, 7, none⟩ = some (.int .i64 Mb.steps) ∧ w'.cell? ⟨gC, 8, none⟩ = some (.int .i64 Mb.peak)) ∧ (w'.cell? ⟨gD, 0, none⟩ = some (.int .i64 Md.status) ∧ w'.cell? ⟨gD, 1, none⟩ = some (.int .i64 Md.err) ∧ w'.cell? ⟨gD, 2, none⟩ = some (.slice d1 dn1 dk1) ∧ w'.cell? ⟨gD, 3, none⟩ = some (.slice d2 dn2 dk2) ∧ w'.cell? ⟨gD, 4, none⟩ = some (.slice d3 dn3 dk3) ∧ w'.cell? ⟨gD, 5, none⟩ = some (.int .i64 Md.lsteps) ∧ w'.cell? ⟨gD, 6, none⟩ = some (.int .i64 Md.lmem) ∧ w'.cell? ⟨gD, 7, none⟩ = some (.int .i64 Md.steps) ∧ w'.cell? ⟨gD, 8, none⟩ = some (.int .i64 Md.peak))) (first | with_reducible exact cells5 F9.out | with_reducible exact cells5 F9d.out | with_reducible exact cells5 F10.out | with_reducible exact cells5 F11.out | with_reducible exact cells5 F12.out | with_reducible exact cells5 F13.out | with_reducible exact cells5 F14.out) (first
    | (go_at_call 12; (with_reducible refine (same_self M9db.out M9dc.out).mono ?_); rintro e10 W10 ⟨rfl, hw10⟩; have F10 := Lib.hid (below5 F9d.out hw10); have M10a := Lib.hid (M9da.out.below hw10); have M10b := Lib.hid (M9db.out.below hw10); have M10d := Lib.hid (M9dd.out.below hw10); have B10 := Lib.hid (below_call' hw10 B9d.out B9d.out.size); clear hw10)
    | (go_at_call 13; (with_reducible refine (HRUN.out Ma _ (1) (2 * p.toNat) _ HGC.out B10.out M10a.out HGa.out.1 (by have := HPQ.out; simp; omega) (by have := HGa.out.2; omega) (by omega)).mono ?_); rintro e11 W11 ⟨x11, rfl, hm11, hw11⟩; have M11x := Lib.hid (show MachV W11 x11 Md from (HEMd.out ▸ (show MachV W11 x11 (runF C.c 1 Ma) from hm11))); obtain ⟨x1, xn1, xk1, x2, xn2, xk2, x3, xn3, xk3, rfl⟩ := M11x.out.lit; have F11 := Lib.hid (below5 F10.out hw11); have M11a := Lib.hid (M10a.out.below hw11); have M11b := Lib.hid (M10b.out.below hw11); have M11d := Lib.hid (M10d.out.below hw11); have B11 := Lib.hid (below_call' hw11 B10.out B10.out.size); clear hm11 hw11)
    | (go_at_call 12; (with_reducible refine (same_self M11d.out M11x.out).mono ?_); rintro e12 W12 ⟨rfl, hw12⟩; have F12 := Lib.hid (below5 F11.out hw12); have M12a := Lib.hid (M11a.out.below hw12); have M12b := Lib.hid (M11b.out.below hw12); have M12d := Lib.hid (M11d.out.below hw12); have B12 := Lib.hid (below_call' hw12 B11.out B11.out.size); clear hw12)
    | (go_at_call 13; (with_reducible refine (HRUN.out Ma _ (-1) (2 * p.toNat) _ HGC.out B12.out M12a.out HGa.out.1 (by have := HPQ.out; simp; omega) (by have := HGa.out.2; omega) (by omega)).mono ?_); rintro e13 W13 ⟨x13, rfl, hm13, hw13⟩; have M13y := Lib.hid (show MachV W13 x13 Ma from hm13); obtain ⟨y1, yn1, yk1, y2, yn2, yk2, y3, yn3, yk3, rfl⟩ := M13y.out.lit; have F13 := Lib.hid (below5 F12.out hw13); have M13a := Lib.hid (M12a.out.below hw13); have M13b := Lib.hid (M12b.out.below hw13); have M13d := Lib.hid (M12d.out.below hw13); have B13 := Lib.hid (below_call' hw13 B12.out B12.out.size); clear hm13 hw13)
    | (go_at_call 12; (with_reducible refine (same_self M13a.out M13y.out).mono ?_); rintro e14 W14 ⟨rfl, hw14⟩; have F14 := Lib.hid (below5 F13.out hw14); have M14a := Lib.hid (M13a.out.below hw14); have M14b := Lib.hid (M13b.out.below hw14); have M14d := Lib.hid (M13d.out.below hw14); have B14 := Lib.hid (below_call' hw14 B13.out B13.out.size); clear hw14))
   have p0 := blk9 F14.out.2.1
   by_cases hs : Ma.status = 1
   · have hs1 : decide (Ma.status = 1) = true := decide_eq_true hs
     have hs2 : (Ma.status == 1) = true := by rw [hs]; rfl
     go_wp2_with (first
      | (go_at_call 9; (with_reducible refine (HAW.out _ B14.out).mono ?_); rintro e9 W9 ⟨rfl, hw9⟩; have HB9 := Lib.hid (below_call' hw9 B14.out B14.out.size); clear hw9))
     rw [← HP.out]
     exact ⟨rfl, HB9.out⟩
   have hs1 : decide (Ma.status = 1) = false := decide_eq_false hs
   have hs2 : (Ma.status == 1) = false := beq_eq_false_iff_ne.mpr hs
   have hstop : Ma = Md ∧ Ma = Mb := by
    have h := (parts_law C.c M0 p q HPQ.out.1 HPQ.out.2.2.1).2.2
    rw [HEMa.out] at h
    obtain ⟨h1, h2⟩ := h hs
    exact ⟨h2.symm.trans HEMd.out, h1.symm.trans HEMb.out⟩
   have M14b' : Hid (MachV W14 _ Ma) := Lib.hid (by rw [hstop.2]; exact M14b.out)
   have M14d' : Hid (MachV W14 _ Ma) := Lib.hid (by rw [hstop.1]; exact M14d.out)
   clear hstop
   have q0 := blk9 F14.out.2.2.1
   have r0 := blk9 F14.out.2.2.2.2
   go_wp2_with (first
    | (go_at_call 12; (with_reducible refine (same_self M14a.out M14d'.out).mono ?_); rintro e15 W15 ⟨rfl, hw15⟩; have F15 := Lib.hid (below5 F14.out hw15); have M15a := Lib.hid (M14a.out.below hw15); have M15b := Lib.hid (M14b'.out.below hw15); have B15 := Lib.hid (below_call' hw15 B14.out B14.out.size); have p1 := blk9 F15.out.2.1; have q1 := blk9 F15.out.2.2.1; have r1 := blk9 F15.out.2.2.2.2; clear hw15 p0 q0 r0)
    | (go_at_call 12; (with_reducible refine (same_self M15a.out M15b.out).mono ?_); rintro e16 W16 ⟨rfl, hw16⟩; have B16 := Lib.hid (below_call' hw16 B15.out B15.out.size); clear hw16 p1 q1 r1)
    | (go_at_call 9; (with_reducible refine (HAW.out _ B16.out).mono ?_); rintro e9 W9 ⟨rfl, hw9⟩; have HB9 := Lib.hid (below_call' hw9 B16.out B16.out.size); clear hw9))
   rw [← HP.out]
   exact ⟨rfl, HB9.out⟩
end Go.Proofs.YtmljohbialacfaaGreatDoor
