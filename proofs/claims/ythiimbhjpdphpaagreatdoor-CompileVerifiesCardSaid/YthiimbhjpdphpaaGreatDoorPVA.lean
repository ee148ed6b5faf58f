/- W14, JB, JD, W15, W17, VA -/
import Derived.Test.YthiimbhjpdphpaaGreatDoorPW13
import Derived.Test.YthiimbhjpdphpaaGreatDoorPJA
import Derived.Test.YthiimbhjpdphpaaGreatDoorPJC
import Derived.Test.YthiimbhjpdphpaaGreatDoorPGK8
import Derived.StillTailTactics
set_option linter.unusedVariables false
set_option linter.unusedSimpArgs false
set_option linter.unusedVariables false
set_option linter.unusedSimpArgs false
namespace Go.Proofs.YthiimbhjpdphpaaGreatDoor
open Go.RowKit
set_option maxRecDepth 100000
attribute [local go_sem] cell_alloc_is
set_option maxHeartbeats 8000000 in
theorem clength_s (S : ProgS) (w : World) (hS : ProgV w S) (hp : Pow w) (hok : ProgOk S.p) : Calls Tryz.prog 21 #[S.val] w fun r w' => r = .returned (.tuple #[.int .i64 (lengthF S.p).1, .int .i64 (lengthF S.p).2]) ∧ Below w.heap.size w w' := by
 obtain ⟨R, hR⟩ : ∃ R, lengthF S.p = R := ⟨_, rfl⟩
 rw [hR]
 obtain ⟨P, hP⟩ : ∃ P : Ending → World → Prop, (fun r w' => r = .returned (.tuple #[.int .i64 R.1, .int .i64 R.2]) ∧ Below w.heap.size w w') = P := ⟨_, rfl⟩
 rw [hP]
 have HP : Hid (∀ w' a b, R = (a, b) → Below w.heap.size w w' → P (.returned (.tuple #[.int .i64 a, .int .i64 b])) w') := Lib.hid (fun w' a b h h2 => by rw [← hP]; exact ⟨by rw [h], h2⟩)
 have HR : Hid (R = if (studyF S.p).err ≠ 0 then (0, (studyF S.p).err) else (((allSeg S.p (studyF S.p).slots S.p.funcs.length).length : Int), 0)) := Lib.hid hR.symm
 obtain ⟨W1, hW1⟩ : ∃ W, w.alloc (.cells #[.slice S.A S.p.nodes.length S.ncap, .slice S.B S.p.funcs.length S.fcap] 25) = W := ⟨_, rfl⟩
 obtain ⟨g, hg⟩ : ∃ g, w.heap.size = g := ⟨_, rfl⟩
 have hb1 : Below w.heap.size w W1 := by rw [← hW1]; exact below_new _ _
 have HB1 := Lib.hid hb1
 have HX1 : Hid (Blk W1 g 25 #[.slice S.A S.p.nodes.length S.ncap, .slice S.B S.p.funcs.length S.fcap]) := Lib.hid (by rw [← hW1, ← hg]; exact Blk.new _ _ _)
 have HC : Hid (Calls Tryz.prog 26 #[S.val, .int .i64 0] W1 (StartP S W1 0)) := Lib.hid (start_s S 0 W1 (hS.below hb1) (hp.below hb1) hok)
 unfold ProgS.val at HC ⊢
 have HG := Lib.hid hg
 have HW1 := Lib.hid hW1
 clear hP hR hS hp hok hg hW1 hb1
 go_enter Tryz.func21, Tryz.ntmps21
 go_upto_region 1 with fail
 rw [HG.out, HW1.out]
 clear HG HW1
 have x1 := blk2 HX1.out
 go_upto_region 2 with (first
  | (go_at_call 26; (with_reducible refine HC.out.mono ?_); rintro r w2 hq; rcases hq with ⟨h0, rfl, hb2⟩ | ⟨h0, w0, sA, sc, gW, hb0, hcx, hst, rfl⟩))
 ·have HB2 := Lib.hid (below_call' hb2 HB1.out HB1.out.size)
  obtain ⟨er, her⟩ : ∃ x, (studyF S.p).err = x := ⟨_, rfl⟩
  rw [her] at h0 HR ⊢
  have e0 : (er != 0) = true := by simp [h0]
  have H0 := Lib.hid h0
  clear h0 her hb2
  go_wp2_with (fail)
  exact HP.out _ _ _ (by rw [HR.out, if_pos H0.out]) HB2.out
 ·have HCX := Lib.hid hcx
  have HST := Lib.hid hst
  have HB0 := Lib.hid (below_call' hb0 HB1.out HB1.out.size)
  have HB2 : Hid (Below W1.heap.size W1 w2) := Lib.hid (below_call' hst.bl hb0 hb0.size)
  have HR2 : Hid (R = (((allSeg S.p (studyF S.p).slots S.p.funcs.length).length : Int), 0)) := Lib.hid (by rw [HR.out, if_neg (by rw [h0]; simp)])
  have HX2 := Lib.hid (HX1.out.below HB2.out)
  have hN := hcx.syn.funcs
  generalize (studyF S.p).slots = sl at HCX HST HR2
  clear h0 hb0 hcx hst x1 HR HC
  have x2 := blk2 HX2.out
  obtain ⟨nf, hnf⟩ : ∃ n, S.p.funcs.length = n := ⟨_, rfl⟩
  have HNF := Lib.hid hnf
  rw [hnf] at x2 HR2 hN
  clear hnf
  go_upto_region 4 with (fail)
  go_wp2_with (fail)
  go_loopw [6, 18, 19, 20, 21, 22, 23, 24] (fun _ kv _ _ _ _ _ _ wr => ∃ (k : Nat) (L : List (InsD × Value)), k ≤ nf ∧ kv = .int .i64 k ∧ Hid (L.map Prod.fst = allSeg S.p sl k) ∧ Hid (WrSt w0 wr S sA sl.length sc gW 0 L)) (fun _ kv _ _ _ _ _ _ _ => nf - (intOf kv).toNat)
  case atStart => exact ⟨0, [], Nat.zero_le _, rfl, Lib.hid rfl, HST⟩
  case round =>
   obtain ⟨k, L, hk, rfl, HL, HS⟩ := hrel
   have hk0 : (0 : Int) ≤ (k : Int) := by omega
   have hlen : L.length ≤ 3632 := by
    have := congrArg List.length HL.out
    rw [List.length_map] at this
    rw [this]
    exact HCX.out.syn.all_le sl (by rw [HNF.out]; exact hk)
   have hlL : (allSeg S.p sl k).length = L.length := by rw [← HL.out, List.length_map]
   have HLL := Lib.hid hlL
   have HLE := Lib.hid hlen
   clear hlL hlen
   by_cases hlt : k < nf
   ·have hlt' : (k : Int) < (nf : Int) := by omega
    have HC2 := Lib.hid (wfunc_s w0 S sA sc gW 0 sl HCX.out (by omega) k (by rw [HNF.out]; exact hlt) L wr HS.out (by have := HLE.out; omega))
    go_wp2_with (first
     | (go_at_call 28; (with_reducible refine HC2.out.mono ?_); rintro r w3 ⟨rfl, hw3⟩; have HW3 := Lib.hid hw3; clear hw3))
    obtain ⟨N0, n0, _, s3, k3⟩ := HW3.out.st
    refine ⟨⟨k + 1, L ++ N0, by omega, by simp, Lib.hid ?_, Lib.hid s3⟩, by simp [intOf]; omega⟩
    rw [List.map_append, HL.out, n0]
    simp only [allSeg]
    rw [HLL.out]
    congr 2
    omega
   ·have e9 : nf = k := by omega
    subst e9
    obtain ⟨iA, ic, hbk, hio⟩ := HS.out.insO (a := w.heap.size) HB0.out.size
    have HB3 := Lib.hid (below_call' HS.out.bl HB0.out HB0.out.size)
    have y := blkW hbk
    have HR3 : Hid (R = ((L.length : Int), 0)) := Lib.hid (by rw [HR2.out, HLL.out])
    clear hbk hio x2
    generalize L.length = ln at y HR3
    go_wp2_with (fail)
    exact HP.out _ _ _ HR3.out HB3.out
end Go.Proofs.YthiimbhjpdphpaaGreatDoor
set_option linter.unusedVariables false
set_option linter.unusedSimpArgs false
namespace Go.Proofs.YthiimbhjpdphpaaGreatDoor
open Go.RowKit
set_option maxRecDepth 100000
def insV (x : InsD) (A : Option Addr) (c : Nat) : Value := .agg #[.int .i64 x.op, .int .i64 x.a, .string x.s, .slice A x.keys.length c]
attribute [local go_sem] cell_alloc_is
set_option maxHeartbeats 8000000 in
theorem same_s (x y : InsD) (A B : Option Addr) (c d : Nat) (w : World) (hx : SlAt w A 1 strCs x.keys) (hy : SlAt w B 1 strCs y.keys) (hxy : x = y) (hl : x.keys.length ≤ 100000) : Calls Tryz.prog 24 #[insV x A c, insV y B d] w fun e w' => e = .returned (.bool true) ∧ Below w.heap.size w w' := by
 subst hxy
 obtain ⟨P, hP⟩ : ∃ P : Ending → World → Prop, (fun e w' => e = .returned (.bool true) ∧ Below w.heap.size w w') = P := ⟨_, rfl⟩
 rw [hP]
 have HP : Hid (∀ w', Below w.heap.size w w' → P (.returned (.bool true)) w') := Lib.hid (fun w' h2 => by rw [← hP]; exact ⟨rfl, h2⟩)
 have HX := Lib.hid hx
 have HY := Lib.hid hy
 unfold insV
 generalize x.op = op
 generalize x.a = xa
 generalize x.s = xs
 generalize x.keys = ks at HX HY hl ⊢
 obtain ⟨n, hn⟩ : ∃ n, ks.length = n := ⟨_, rfl⟩
 have HN := Lib.hid hn
 rw [hn] at hl ⊢
 obtain ⟨g, hg⟩ : ∃ g, w.heap.size = g := ⟨_, rfl⟩
 obtain ⟨W1, hW1⟩ : ∃ W, w.alloc (.cells #[.int .i64 op, .int .i64 xa, .string xs, .slice A n c] 53) = W := ⟨_, rfl⟩
 obtain ⟨g2, hg2⟩ : ∃ g, W1.heap.size = g := ⟨_, rfl⟩
 obtain ⟨W2, hW2⟩ : ∃ W, W1.alloc (.cells #[.int .i64 op, .int .i64 xa, .string xs, .slice B n d] 53) = W := ⟨_, rfl⟩
 have hx1 : Blk W1 g 53 #[.int .i64 op, .int .i64 xa, .string xs, .slice A n c] := by rw [← hW1, ← hg]; exact Blk.new _ _ _
 have HX1 : Hid (Blk W2 g 53 #[.int .i64 op, .int .i64 xa, .string xs, .slice A n c]) := Lib.hid (by rw [← hW2]; exact hx1.alloc _)
 have HY1 : Hid (Blk W2 g2 53 #[.int .i64 op, .int .i64 xa, .string xs, .slice B n d]) := Lib.hid (by rw [← hW2, ← hg2]; exact Blk.new _ _ _)
 have HB1 : Hid (Below w.heap.size w W2) := Lib.hid (by rw [← hW2, ← hW1]; exact below_2 _ _ _)
 have HG2 : Hid (g + 1 = g2) := Lib.hid (by rw [← hg2, ← hW1, ← hg]; simp)
 have HW1 := Lib.hid hW1
 have HW2 := Lib.hid hW2
 have HG := Lib.hid hg
 clear hP hx hy hn hg hW1 hg2 hW2 hx1
 go_enter Tryz.func24, Tryz.ntmps24
 go_upto_region 1 with fail
 rw [HG.out, HW1.out]
 try rw [HG2.out]
 rw [HW2.out]
 clear HG HW1 HG2 HW2
 have x1 := blk4n HX1.out
 have y1 := blk4n HY1.out
 go_upto_region 4 with (fail)
 go_loopw [5, 37] (fun _ kv wr => ∃ k : Nat, k ≤ n ∧ kv = .int .i64 k ∧ Hid (Below W2.heap.size W2 wr)) (fun _ kv _ => n - (intOf kv).toNat)
 case atStart => exact ⟨0, Nat.zero_le _, rfl, Lib.hid (Below.refl _ _)⟩
 case round =>
  obtain ⟨k, hk, rfl, HB⟩ := hrel
  have hk0 : (0 : Int) ≤ (k : Int) := by omega
  clear x1 y1
  have x1 := blk4n (HX1.out.below HB.out)
  have y1 := blk4n (HY1.out.below HB.out)
  have HBw := Lib.hid (below_call' HB.out HB1.out HB1.out.size)
  by_cases hlt : k < n
  ·have hlt' : (k : Int) < (n : Int) := by omega
   have hkl : k < ks.length := by rw [HN.out]; exact hlt
   have hsx := HX.out.below HBw.out
   have hsy := HY.out.below HBw.out
   obtain ⟨s, hs⟩ : ∃ s, ks[k] = s := ⟨_, rfl⟩
   obtain ⟨b1, o1, rfl, _⟩ := hsx.ptr hkl
   obtain ⟨b2, o2, rfl, _⟩ := hsy.ptr hkl
   have c1 := hsx.cell0 hkl (v := .string s) (by rw [hs]; rfl)
   have c2 := hsy.cell0 hkl (v := .string s) (by rw [hs]; rfl)
   simp only [Nat.mul_one] at c1 c2
   clear hsx hsy hs hkl
   go_upto_region 6 with (fail)
   go_quiet (fail)
   go_wp2_with (fail)
   exact ⟨⟨k + 1, by omega, by simp, Lib.hid (below_drewN HB.out _)⟩, by simp [intOf]; omega⟩
  ·have e9 : n = k := by omega
   subst e9
   go_wp2_with (fail)
   exact HP.out _ HBw.out
end Go.Proofs.YthiimbhjpdphpaaGreatDoor
set_option linter.unusedVariables false
set_option linter.unusedSimpArgs false
namespace Go.Proofs.YthiimbhjpdphpaaGreatDoor
open Go.RowKit
set_option maxRecDepth 100000
structure TextsOk (p : ProgD) : Prop where
 node : ∀ n ∈ p.nodes, n.text.size ≤ 140737488351232 ∧ ∀ k ∈ n.keys, k.size ≤ 140737488351232
 fn : ∀ f ∈ p.funcs, f.name.size ≤ 140737488351232 ∧ ∀ s ∈ f.params, s.size ≤ 140737488351232
theorem SmallPr.ok {p : ProgD} (h : SmallPr p) (ht : TextsOk p) : ProgOk p := by
 refine ⟨⟨by have := h.nodes; omega, fun n hn => ?_, ht.node⟩, by have := h.funcs; omega, fun f hf => ?_⟩
 ·obtain ⟨i, hi, rfl⟩ := List.getElem_of_mem hn
  have := h.node i hi
  omega
 ·obtain ⟨i, hi, rfl⟩ := List.getElem_of_mem hf
  have := h.fn i hi
  exact ⟨(ht.fn _ hf).1, by omega, (ht.fn _ hf).2⟩
theorem SmallPr.keys {p : ProgD} (h : SmallPr p) : ∀ i, (p.at_ i).keys.length ≤ 1000 := by
 intro i
 by_cases hi : i < p.nodes.length
 ·have e : p.at_ i = p.nodes[i] := getD_at hi _
  rw [e]
  have := h.node i hi
  omega
 ·have e : p.at_ i = noNode := by
   show p.nodes.getD i noNode = noNode
   rw [List.getD_eq_getElem?_getD, List.getElem?_eq_none (by omega)]
   rfl
  rw [e]
  show (0 : Nat) ≤ 1000
  omega
theorem InsO.shape {n0 : Nat} {w : World} {v : Value} {is : List InsD} (h : InsO n0 w v is) : ∃ A c, v = .slice A is.length c := by
 obtain ⟨N, rfl, h2, _⟩ := h
 obtain ⟨A, c, rfl⟩ := own_shape h2
 exact ⟨A, c, by rw [List.length_map]⟩
theorem keys_sl {w : World} {n0 : Nat} {x : InsD} {kv : Value} (h : OKeys n0 w (x, kv)) : ∃ A cap, kv = .slice A x.keys.length cap ∧ SlAt w A 1 strCs x.keys := by
 obtain ⟨A, cap, rfl⟩ : ∃ A cap, kv = .slice A x.keys.length cap := own_shape h
 exact ⟨A, cap, rfl, SlAt.of_own h (map_strCs x.keys) (fun _ => rfl) (by decide)⟩
theorem InsO.at {n0 : Nat} {w : World} {A : Option Addr} {m c : Nat} {is : List InsD} (h : InsO n0 w (.slice A m c) is) {k : Nat} (hk : k < is.length) : ∃ b off kA kc, A = some ⟨b, off, none⟩ ∧ b < w.heap.size ∧
  w.cell? ⟨b, off + k * 4, none⟩ = some (.int .i64 (is[k]).op) ∧ w.cell? ⟨b, off + k * 4 + 1, none⟩ = some (.int .i64 (is[k]).a) ∧ w.cell? ⟨b, off + k * 4 + 2, none⟩ = some (.string (is[k]).s) ∧ w.cell? ⟨b, off + k * 4 + 3, none⟩ = some (.slice kA (is[k]).keys.length kc) ∧ SlAt w kA 1 strCs (is[k]).keys := by
 obtain ⟨N, rfl, h2, h3⟩ := h
 obtain ⟨A', c', e⟩ := own_shape h2
 injection e with e1 e2 e3
 subst e1 e2 e3
 have hkN : k < N.length := by simpa using hk
 have hs := SlAt.of_own (c := insRow) (l := N) h2 rfl (fun _ => rfl) (by decide)
 obtain ⟨kA, kc, hkv, hks⟩ := keys_sl (h3 (N[k]) (List.getElem_mem hkN))
 have hkv : (N[k]).2 = .slice kA (N[k]).1.keys.length kc := hkv
 obtain ⟨b, off, rfl, hb⟩ := hs.ptr hkN
 have c0 := hs.cell0 hkN (v := .int .i64 (N[k]).1.op) rfl
 have c1 := hs.cell hkN (j := 1) (v := .int .i64 (N[k]).1.a) rfl
 have c2 := hs.cell hkN (j := 2) (v := .string (N[k]).1.s) rfl
 have c3 := hs.cell hkN (j := 3) (v := (N[k]).2) rfl
 rw [hkv] at c3
 refine ⟨b, off, kA, kc, rfl, hb, ?_⟩
 simp only [List.getElem_map]
 exact ⟨c0, c1, c2, c3, hks⟩
attribute [local go_sem] cell_alloc_is
set_option maxHeartbeats 16000000 in
theorem shifts_s (S : ProgS) (f e : Int) (w : World) (hS : ProgV w S) (hp : Pow w) (ht : TextsOk S.p) (hA : ∀ wx, Below w.heap.size w wx → Calls Tryz.prog 10 #[] wx fun r w' => r = .returned (.bool true) ∧ Below wx.heap.size wx w') :
  Calls Tryz.prog 8 #[S.val, .int .i64 f, .int .i64 e] w fun r w' => r = .returned (.bool true) ∧ Below w.heap.size w w' := by
 obtain ⟨P, hP⟩ : ∃ P : Ending → World → Prop, (fun r w' => r = .returned (.bool true) ∧ Below w.heap.size w w') = P := ⟨_, rfl⟩
 rw [hP]
 have HP : Hid (∀ w', Below w.heap.size w w' → P (.returned (.bool true)) w') := Lib.hid (fun w' h2 => by rw [← hP]; exact ⟨rfl, h2⟩)
 obtain ⟨W1, hW1⟩ : ∃ W, w.alloc (.cells #[.slice S.A S.p.nodes.length S.ncap, .slice S.B S.p.funcs.length S.fcap] 25) = W := ⟨_, rfl⟩
 obtain ⟨g, hg⟩ : ∃ g, w.heap.size = g := ⟨_, rfl⟩
 have hb1 : Below w.heap.size w W1 := by rw [← hW1]; exact below_new _ _
 have HB1 := Lib.hid hb1
 have HX1 : Hid (Blk W1 g 25 #[.slice S.A S.p.nodes.length S.ncap, .slice S.B S.p.funcs.length S.fcap]) := Lib.hid (by rw [← hW1, ← hg]; exact Blk.new _ _ _)
 have HCS : Hid (Calls Tryz.prog 9 #[S.val] W1 fun e w' => (∃ b, e = .returned (.bool b) ∧ (b = true → SmallPr S.p)) ∧ Below W1.heap.size W1 w') := Lib.hid (small_s S W1 (hS.below hb1))
 have HCF : Hid (SmallPr S.p → ∀ e wx, Below w.heap.size w wx → Calls Tryz.prog 19 #[S.val, .int .i64 f, .int .i64 e] wx (FunctionP S f e wx)) := Lib.hid (fun hs e wx hb => cfunction_s S f e wx (hS.below hb) (hp.below hb) (hs.ok ht))
 have HA := Lib.hid hA
 unfold ProgS.val at HCS HCF ⊢
 have HG := Lib.hid hg
 have HW1 := Lib.hid hW1
 clear hP hS hp ht hA hg hW1 hb1
 go_enter Tryz.func8, Tryz.ntmps8
 go_upto_region 1 with fail
 rw [HG.out, HW1.out]
 clear HG HW1
 have x1 := blk2 HX1.out
 by_cases e1 : e < 0
 ·go_wp2_with (first
   | (go_at_call 9; (with_reducible refine HCS.out.mono ?_); rintro r w2 ⟨⟨b, rfl, hb⟩, hb2⟩; have HB2 := Lib.hid (below_call' hb2 HB1.out HB1.out.size); clear hb2 hb)
   | (go_at_call 10; (with_reducible refine (HA.out _ HB2.out).mono ?_); rintro r w3 ⟨rfl, hb3⟩; have HB3 := Lib.hid (below_call' hb3 HB2.out HB2.out.size); clear hb3))
  all_goals exact HP.out _ HB3.out
 by_cases e2 : 4000 < e
 ·go_wp2_with (first
   | (go_at_call 9; (with_reducible refine HCS.out.mono ?_); rintro r w2 ⟨⟨b, rfl, hb⟩, hb2⟩; have HB2 := Lib.hid (below_call' hb2 HB1.out HB1.out.size); clear hb2 hb)
   | (go_at_call 10; (with_reducible refine (HA.out _ HB2.out).mono ?_); rintro r w3 ⟨rfl, hb3⟩; have HB3 := Lib.hid (below_call' hb3 HB2.out HB2.out.size); clear hb3))
  all_goals exact HP.out _ HB3.out
 go_upto_region 3 with (first
  | (go_at_call 9; (with_reducible refine HCS.out.mono ?_); rintro r w2 ⟨⟨b, rfl, hb⟩, hb2⟩; have HB12 := Lib.hid hb2; have HB2 := Lib.hid (below_call' hb2 HB1.out HB1.out.size); have HSM := Lib.hid hb; clear hb2 hb; cases b)
  | (go_at_call 10; (with_reducible refine (HA.out _ HB2.out).mono ?_); rintro r w3 ⟨rfl, hb3⟩; have HB3 := Lib.hid (below_call' hb3 HB2.out HB2.out.size); clear hb3))
 ·try go_wp2_with (fail)
  exact HP.out _ HB3.out
 have HSP := Lib.hid (HSM.out (by simp))
 have HX2 := Lib.hid (HX1.out.below HB12.out)
 clear x1
 have x2 := blk2 HX2.out
 have HC3 := Lib.hid (HCF.out HSP.out 0 w2 HB2.out)
 go_upto_region 4 with (first
  | (go_at_call 19; (with_reducible refine HC3.out.mono ?_); rintro r w3 ⟨v1, rfl, hi3, hb3⟩; obtain ⟨A1, c1, rfl⟩ := hi3.shape; have HI3 := Lib.hid hi3; have HB23 := Lib.hid hb3; have HB3 := Lib.hid (below_call' hb3 HB2.out HB2.out.size); clear hb3 hi3))
 have HX3 := Lib.hid (HX2.out.below HB23.out)
 clear x2
 have x3 := blk2 HX3.out
 have HC4 := Lib.hid (HCF.out HSP.out e w3 HB3.out)
 go_upto_region 5 with (first
  | (go_at_call 19; (with_reducible refine HC4.out.mono ?_); rintro r w4 ⟨v2, rfl, hi4, hb4⟩; obtain ⟨A2, c2, rfl⟩ := hi4.shape; have HI4 := Lib.hid hi4; have HB34 := Lib.hid hb4; have HB4 := Lib.hid (below_call' hb4 HB3.out HB3.out.size); clear hb4 hi4))
 have hsh := fn_shift S.p f e (by omega)
 have HJ := Lib.hid (fn_jmp (p := S.p) f)
 have HLN := Lib.hid (fn_len (p := S.p) f)
 have HIK := Lib.hid (fn_ok (p := S.p) HSP.out.keys f)
 rw [hsh] at HI4 ⊢
 generalize functionF S.p f 0 = R at HI3 HI4 HJ HLN HIK ⊢
 clear hsh x3 HCF HCS HC3 HC4
 obtain ⟨is, er⟩ := R
 obtain ⟨n, hn⟩ : ∃ n, is.length = n := ⟨_, rfl⟩
 have hn2 : (is.map (shiftI e)).length = n := by rw [List.length_map, hn]
 have HN := Lib.hid hn
 have HN2 := Lib.hid hn2
 have hnb : n ≤ 3602 := by rw [← hn]; exact HLN.out
 simp only [] at HI3 HI4 ⊢
 rw [hn] at HI3 ⊢
 rw [hn2] at HI4 ⊢
 clear hn hn2
 have hee : (er != er) = false := by simp
 have hnn : ((n : Int) != (n : Int)) = false := by simp
 go_upto_region 8 with (fail)
 clear hee hnn
 go_loopw [11, 12, 50] (fun _ _ kv wr => ∃ k : Nat, k ≤ n ∧ kv = .int .i64 k ∧ Hid (Below w4.heap.size w4 wr)) (fun _ _ kv _ => n - (intOf kv).toNat)
 case atStart => exact ⟨0, Nat.zero_le _, rfl, Lib.hid (Below.refl _ _)⟩
 case round =>
  obtain ⟨k, hk, rfl, HB⟩ := hrel
  have hk0 : (0 : Int) ≤ (k : Int) := by omega
  have HBw := Lib.hid (below_call' HB.out HB4.out HB4.out.size)
  by_cases hlt : k < n
  ·have hlt' : (k : Int) < (n : Int) := by omega
   have hkl : k < is.length := by rw [HN.out]; exact hlt
   have hkl2 : k < (is.map (shiftI e)).length := by rw [HN2.out]; exact hlt
   obtain ⟨b1, o1, kA, kc, hA1, _, c0, c1, c2, c3, hks⟩ := ((HI3.out.below HB34.out).below HB.out).at hkl
   obtain ⟨b2, o2, kB, kd, hA2, _, d0, d1, d2, d3, hkt⟩ := (HI4.out.below HB.out).at hkl2
   have hjx := HJ.out (is[k]) (List.getElem_mem hkl)
   have hik := (HIK.out (is[k]) (List.getElem_mem hkl)).2.1
   rw [List.getElem_map] at d0 d1 d2 d3 hkt
   subst hA1 hA2
   obtain ⟨⟨op, xa, xs, ks⟩, hx⟩ : ∃ x, is[k] = x := ⟨_, rfl⟩
   rw [hx] at c0 c1 c2 c3 hks d0 d1 d2 d3 hkt hjx hik
   clear hx hkl hkl2
   simp only [] at c0 c1 c2 c3 hks hjx
   obtain ⟨gx, hgx⟩ : ∃ g, wr.heap.size = g := ⟨_, rfl⟩
   obtain ⟨W5, hW5⟩ : ∃ W, wr.alloc (.cells #[.int .i64 op, .int .i64 xa, .string xs, .slice kA ks.length kc] 53) = W := ⟨_, rfl⟩
   have hb5 : Below wr.heap.size wr W5 := by rw [← hW5]; exact below_new _ _
   have hx5 : Blk W5 gx 53 #[.int .i64 op, .int .i64 xa, .string xs, .slice kA ks.length kc] := by rw [← hW5, ← hgx]; exact Blk.new _ _ _
   have HB5 := Lib.hid hb5
   have HX5 := Lib.hid hx5
   have HD : Hid (wr.cell? ⟨b2, o2 + k * 4, none⟩ = some (.int .i64 (shiftI e ⟨op, xa, xs, ks⟩).op) ∧ wr.cell? ⟨b2, o2 + k * 4 + 1, none⟩ = some (.int .i64 (shiftI e ⟨op, xa, xs, ks⟩).a) ∧ wr.cell? ⟨b2, o2 + k * 4 + 2, none⟩ = some (.string (shiftI e ⟨op, xa, xs, ks⟩).s) ∧ wr.cell? ⟨b2, o2 + k * 4 + 3, none⟩ = some (.slice kB (shiftI e ⟨op, xa, xs, ks⟩).keys.length kd)) := Lib.hid ⟨d0, d1, d2, d3⟩
   clear d0 d1 d2 d3
   have HG5 := Lib.hid hgx
   have HW5 := Lib.hid hW5
   clear hb5 hx5 hgx hW5
   go_upto_region 11 with (fail)
   try rw [HG5.out]
   rw [HW5.out]
   have HKS := Lib.hid hks
   have HKT : Hid (SlAt wr kB 1 strCs ks) := Lib.hid (by
    have : (shiftI e ⟨op, xa, xs, ks⟩).keys = ks := by unfold shiftI; split <;> rfl
    rw [this] at hkt
    exact hkt)
   have HKL : Hid (ks.length ≤ 100000) := Lib.hid (by have : ks.length ≤ 1000 := hik; omega)
   clear hik
   have x5 := blk4n HX5.out
   have z5 := (fun i => HX5.out.frozen i : ∀ i, W5.frozen? ⟨gx, i, none⟩ = false)
   clear hks hkt
   have hop : op = 13 ∨ op = 14 ∨ (op ≠ 13 ∧ op ≠ 14) := by omega
   rcases hop with rfl | rfl | ⟨n1, n2⟩
   ·have hw : IntKind.i64.wrap (xa + e) = xa + e := IntWalk.i64_in _ (by have := hjx (by simp); omega)
    obtain ⟨a2, ha2⟩ : ∃ a, xa + e = a := ⟨_, rfl⟩
    obtain ⟨W6, hW6⟩ : ∃ W, W5.setCell ⟨gx, 1, none⟩ (.int .i64 a2) = W := ⟨_, rfl⟩
    have HX6 : Hid (Blk W6 gx 53 #[.int .i64 13, .int .i64 a2, .string xs, .slice kA ks.length kc]) := Lib.hid (by rw [← hW6]; exact HX5.out.set_ 1 _)
    have HB6 : Hid (Below wr.heap.size wr W6) := Lib.hid (by rw [← hW6]; exact HB5.out.setCell (p := ⟨gx, 1, none⟩) (Nat.le_of_eq HG5.out) _)
    have HD6 : Hid (wr.cell? ⟨b2, o2 + k * 4, none⟩ = some (.int .i64 13) ∧ wr.cell? ⟨b2, o2 + k * 4 + 1, none⟩ = some (.int .i64 a2) ∧ wr.cell? ⟨b2, o2 + k * 4 + 2, none⟩ = some (.string xs) ∧ wr.cell? ⟨b2, o2 + k * 4 + 3, none⟩ = some (.slice kB ks.length kd)) := Lib.hid (by
     have := HD.out
     have e : shiftI e ⟨13, xa, xs, ks⟩ = ⟨13, a2, xs, ks⟩ := by rw [← ha2]; simp [shiftI]
     rw [e] at this
     exact this)
    have HW64 : Hid (wrap64 a2 = a2) := Lib.hid (by rw [← ha2]; have := hjx (by simp); exact IntWalk.wrap64_in _ (by omega))
    rw [ha2] at hw
    have HW6 := Lib.hid hW6
    have HA2 := Lib.hid ha2
    clear hW6 ha2 hjx
    go_upto_region 13 with (fail)
    try rw [HA2.out]
    try rw [HW64.out]
    rw [HW6.out]
    have HSA : Hid (∀ wx, Below wr.heap.size wr wx → Calls Tryz.prog 24 #[.agg #[.int .i64 13, .int .i64 a2, .string xs, .slice kA ks.length kc], .agg #[.int .i64 13, .int .i64 a2, .string xs, .slice kB ks.length kd]] wx fun r w' => r = .returned (.bool true) ∧ Below wx.heap.size wx w') := Lib.hid (fun wx hb => same_s ⟨13, a2, xs, ks⟩ ⟨13, a2, xs, ks⟩ kA kB kc kd wx (HKS.out.below hb) (HKT.out.below hb) rfl HKL.out)
    have FACT : Hid (∀ wx, Below W6.heap.size W6 wx → (wx.cell? ⟨gx, 0, none⟩ = some (.int .i64 13) ∧ wx.cell? ⟨gx, 1, none⟩ = some (.int .i64 a2) ∧ wx.cell? ⟨gx, 2, none⟩ = some (.string xs) ∧ wx.cell? ⟨gx, 3, none⟩ = some (.slice kA ks.length kc)) ∧ (wx.cell? ⟨b2, o2 + k * 4, none⟩ = some (.int .i64 13) ∧ wx.cell? ⟨b2, o2 + k * 4 + 1, none⟩ = some (.int .i64 a2) ∧ wx.cell? ⟨b2, o2 + k * 4 + 2, none⟩ = some (.string xs) ∧ wx.cell? ⟨b2, o2 + k * 4 + 3, none⟩ = some (.slice kB ks.length kd))) := Lib.hid (fun wx hb => by
     have hc := fun (p : Addr) (v : Value) (h : wr.cell? p = some v) => ((below_call' hb HB6.out HB6.out.size).cell (p := p) (World.block_lt_of_cell? wr _ (by rw [h]))).trans h
     exact ⟨blk4n (HX6.out.below hb), hc _ _ HD6.out.1, hc _ _ HD6.out.2.1, hc _ _ HD6.out.2.2.1, hc _ _ HD6.out.2.2.2⟩)
    clear c0 c1 c2 c3
    have f0 := FACT.out _ (Below.refl _ _)
    have fd := FACT.out _ (below_drew W6)
    go_region_held3 (fun w' => (w'.cell? ⟨gx, 0, none⟩ = some (.int .i64 13) ∧ w'.cell? ⟨gx, 1, none⟩ = some (.int .i64 a2) ∧ w'.cell? ⟨gx, 2, none⟩ = some (.string xs) ∧ w'.cell? ⟨gx, 3, none⟩ = some (.slice kA ks.length kc)) ∧ (w'.cell? ⟨b2, o2 + k * 4, none⟩ = some (.int .i64 13) ∧ w'.cell? ⟨b2, o2 + k * 4 + 1, none⟩ = some (.int .i64 a2) ∧ w'.cell? ⟨b2, o2 + k * 4 + 2, none⟩ = some (.string xs) ∧ w'.cell? ⟨b2, o2 + k * 4 + 3, none⟩ = some (.slice kB ks.length kd))) (first | with_reducible exact f0 | with_reducible exact fd | with_reducible exact f3) (first
     | (go_at_call 24; (with_reducible refine (HSA.out _ (below_call' (below_drew W6) HB6.out HB6.out.size)).mono ?_); rintro r w7 ⟨rfl, hb7⟩; have HB7 := Lib.hid (below_call hb7 (below_drew W6)); have f3 := FACT.out _ HB7.out; clear hb7))
    all_goals
     clear f0 fd f3
     go_wp2_with (fail)
     exact ⟨⟨k + 1, by omega, by simp, Lib.hid (below_call' (below_call' HB7.out HB6.out HB6.out.size) HB.out HB.out.size)⟩, by simp [intOf]; omega⟩
   ·have hw : IntKind.i64.wrap (xa + e) = xa + e := IntWalk.i64_in _ (by have := hjx (by simp); omega)
    obtain ⟨a2, ha2⟩ : ∃ a, xa + e = a := ⟨_, rfl⟩
    obtain ⟨W6, hW6⟩ : ∃ W, W5.setCell ⟨gx, 1, none⟩ (.int .i64 a2) = W := ⟨_, rfl⟩
    have HX6 : Hid (Blk W6 gx 53 #[.int .i64 14, .int .i64 a2, .string xs, .slice kA ks.length kc]) := Lib.hid (by rw [← hW6]; exact HX5.out.set_ 1 _)
    have HB6 : Hid (Below wr.heap.size wr W6) := Lib.hid (by rw [← hW6]; exact HB5.out.setCell (p := ⟨gx, 1, none⟩) (Nat.le_of_eq HG5.out) _)
    have HD6 : Hid (wr.cell? ⟨b2, o2 + k * 4, none⟩ = some (.int .i64 14) ∧ wr.cell? ⟨b2, o2 + k * 4 + 1, none⟩ = some (.int .i64 a2) ∧ wr.cell? ⟨b2, o2 + k * 4 + 2, none⟩ = some (.string xs) ∧ wr.cell? ⟨b2, o2 + k * 4 + 3, none⟩ = some (.slice kB ks.length kd)) := Lib.hid (by
     have := HD.out
     have e : shiftI e ⟨14, xa, xs, ks⟩ = ⟨14, a2, xs, ks⟩ := by rw [← ha2]; simp [shiftI]
     rw [e] at this
     exact this)
    have HW64 : Hid (wrap64 a2 = a2) := Lib.hid (by rw [← ha2]; have := hjx (by simp); exact IntWalk.wrap64_in _ (by omega))
    rw [ha2] at hw
    have HW6 := Lib.hid hW6
    have HA2 := Lib.hid ha2
    clear hW6 ha2 hjx
    go_upto_region 13 with (fail)
    try rw [HA2.out]
    try rw [HW64.out]
    rw [HW6.out]
    have HSA : Hid (∀ wx, Below wr.heap.size wr wx → Calls Tryz.prog 24 #[.agg #[.int .i64 14, .int .i64 a2, .string xs, .slice kA ks.length kc], .agg #[.int .i64 14, .int .i64 a2, .string xs, .slice kB ks.length kd]] wx fun r w' => r = .returned (.bool true) ∧ Below wx.heap.size wx w') := Lib.hid (fun wx hb => same_s ⟨14, a2, xs, ks⟩ ⟨14, a2, xs, ks⟩ kA kB kc kd wx (HKS.out.below hb) (HKT.out.below hb) rfl HKL.out)
    have FACT : Hid (∀ wx, Below W6.heap.size W6 wx → (wx.cell? ⟨gx, 0, none⟩ = some (.int .i64 14) ∧ wx.cell? ⟨gx, 1, none⟩ = some (.int .i64 a2) ∧ wx.cell? ⟨gx, 2, none⟩ = some (.string xs) ∧ wx.cell? ⟨gx, 3, none⟩ = some (.slice kA ks.length kc)) ∧ (wx.cell? ⟨b2, o2 + k * 4, none⟩ = some (.int .i64 14) ∧ wx.cell? ⟨b2, o2 + k * 4 + 1, none⟩ = some (.int .i64 a2) ∧ wx.cell? ⟨b2, o2 + k * 4 + 2, none⟩ = some (.string xs) ∧ wx.cell? ⟨b2, o2 + k * 4 + 3, none⟩ = some (.slice kB ks.length kd))) := Lib.hid (fun wx hb => by
     have hc := fun (p : Addr) (v : Value) (h : wr.cell? p = some v) => ((below_call' hb HB6.out HB6.out.size).cell (p := p) (World.block_lt_of_cell? wr _ (by rw [h]))).trans h
     exact ⟨blk4n (HX6.out.below hb), hc _ _ HD6.out.1, hc _ _ HD6.out.2.1, hc _ _ HD6.out.2.2.1, hc _ _ HD6.out.2.2.2⟩)
    clear c0 c1 c2 c3
    have f0 := FACT.out _ (Below.refl _ _)
    have fd := FACT.out _ (below_drew W6)
    go_region_held3 (fun w' => (w'.cell? ⟨gx, 0, none⟩ = some (.int .i64 14) ∧ w'.cell? ⟨gx, 1, none⟩ = some (.int .i64 a2) ∧ w'.cell? ⟨gx, 2, none⟩ = some (.string xs) ∧ w'.cell? ⟨gx, 3, none⟩ = some (.slice kA ks.length kc)) ∧ (w'.cell? ⟨b2, o2 + k * 4, none⟩ = some (.int .i64 14) ∧ w'.cell? ⟨b2, o2 + k * 4 + 1, none⟩ = some (.int .i64 a2) ∧ w'.cell? ⟨b2, o2 + k * 4 + 2, none⟩ = some (.string xs) ∧ w'.cell? ⟨b2, o2 + k * 4 + 3, none⟩ = some (.slice kB ks.length kd))) (first | with_reducible exact f0 | with_reducible exact fd | with_reducible exact f3) (first
     | (go_at_call 24; (with_reducible refine (HSA.out _ (below_call' (below_drew W6) HB6.out HB6.out.size)).mono ?_); rintro r w7 ⟨rfl, hb7⟩; have HB7 := Lib.hid (below_call hb7 (below_drew W6)); have f3 := FACT.out _ HB7.out; clear hb7))
    all_goals
     clear f0 fd f3
     go_wp2_with (fail)
     exact ⟨⟨k + 1, by omega, by simp, Lib.hid (below_call' (below_call' HB7.out HB6.out HB6.out.size) HB.out HB.out.size)⟩, by simp [intOf]; omega⟩
   ·obtain ⟨W6, hW6⟩ : ∃ W, W5 = W := ⟨_, rfl⟩
    have HX6 := HX5
    have HB6 := HB5
    rw [hW6] at HX6 HB6
    have HD6 : Hid (wr.cell? ⟨b2, o2 + k * 4, none⟩ = some (.int .i64 op) ∧ wr.cell? ⟨b2, o2 + k * 4 + 1, none⟩ = some (.int .i64 xa) ∧ wr.cell? ⟨b2, o2 + k * 4 + 2, none⟩ = some (.string xs) ∧ wr.cell? ⟨b2, o2 + k * 4 + 3, none⟩ = some (.slice kB ks.length kd)) := Lib.hid (by
     have := HD.out
     have e : shiftI e ⟨op, xa, xs, ks⟩ = ⟨op, xa, xs, ks⟩ := by simp [shiftI, n1, n2]
     rw [e] at this
     exact this)
    have d13 : (op == 13) = false := by simp [n1]
    have d14 : (op == 14) = false := by simp [n2]
    have HW6 := Lib.hid hW6
    clear hW6 hjx n1 n2
    go_upto_region 13 with (fail)
    rw [HW6.out]
    clear d13 d14
    have HSA : Hid (∀ wx, Below wr.heap.size wr wx → Calls Tryz.prog 24 #[.agg #[.int .i64 op, .int .i64 xa, .string xs, .slice kA ks.length kc], .agg #[.int .i64 op, .int .i64 xa, .string xs, .slice kB ks.length kd]] wx fun r w' => r = .returned (.bool true) ∧ Below wx.heap.size wx w') := Lib.hid (fun wx hb => same_s ⟨op, xa, xs, ks⟩ ⟨op, xa, xs, ks⟩ kA kB kc kd wx (HKS.out.below hb) (HKT.out.below hb) rfl HKL.out)
    have FACT : Hid (∀ wx, Below W6.heap.size W6 wx → (wx.cell? ⟨gx, 0, none⟩ = some (.int .i64 op) ∧ wx.cell? ⟨gx, 1, none⟩ = some (.int .i64 xa) ∧ wx.cell? ⟨gx, 2, none⟩ = some (.string xs) ∧ wx.cell? ⟨gx, 3, none⟩ = some (.slice kA ks.length kc)) ∧ (wx.cell? ⟨b2, o2 + k * 4, none⟩ = some (.int .i64 op) ∧ wx.cell? ⟨b2, o2 + k * 4 + 1, none⟩ = some (.int .i64 xa) ∧ wx.cell? ⟨b2, o2 + k * 4 + 2, none⟩ = some (.string xs) ∧ wx.cell? ⟨b2, o2 + k * 4 + 3, none⟩ = some (.slice kB ks.length kd))) := Lib.hid (fun wx hb => by
     have hc := fun (p : Addr) (v : Value) (h : wr.cell? p = some v) => ((below_call' hb HB6.out HB6.out.size).cell (p := p) (World.block_lt_of_cell? wr _ (by rw [h]))).trans h
     exact ⟨blk4n (HX6.out.below hb), hc _ _ HD6.out.1, hc _ _ HD6.out.2.1, hc _ _ HD6.out.2.2.1, hc _ _ HD6.out.2.2.2⟩)
    clear c0 c1 c2 c3
    have f0 := FACT.out _ (Below.refl _ _)
    have fd := FACT.out _ (below_drew W6)
    go_region_held3 (fun w' => (w'.cell? ⟨gx, 0, none⟩ = some (.int .i64 op) ∧ w'.cell? ⟨gx, 1, none⟩ = some (.int .i64 xa) ∧ w'.cell? ⟨gx, 2, none⟩ = some (.string xs) ∧ w'.cell? ⟨gx, 3, none⟩ = some (.slice kA ks.length kc)) ∧ (w'.cell? ⟨b2, o2 + k * 4, none⟩ = some (.int .i64 op) ∧ w'.cell? ⟨b2, o2 + k * 4 + 1, none⟩ = some (.int .i64 xa) ∧ w'.cell? ⟨b2, o2 + k * 4 + 2, none⟩ = some (.string xs) ∧ w'.cell? ⟨b2, o2 + k * 4 + 3, none⟩ = some (.slice kB ks.length kd))) (first | with_reducible exact f0 | with_reducible exact fd | with_reducible exact f3) (first
     | (go_at_call 24; (with_reducible refine (HSA.out _ (below_call' (below_drew W6) HB6.out HB6.out.size)).mono ?_); rintro r w7 ⟨rfl, hb7⟩; have HB7 := Lib.hid (below_call hb7 (below_drew W6)); have f3 := FACT.out _ HB7.out; clear hb7))
    all_goals
     clear f0 fd f3
     go_wp2_with (fail)
     exact ⟨⟨k + 1, by omega, by simp, Lib.hid (below_call' (below_call' HB7.out HB6.out HB6.out.size) HB.out HB.out.size)⟩, by simp [intOf]; omega⟩
  ·have e9 : n = k := by omega
   subst e9
   go_wp2_with (first
    | (go_at_call 10; (with_reducible refine (HA.out _ HBw.out).mono ?_); rintro r w5 ⟨rfl, hb5⟩; have HB5 := Lib.hid (below_call' hb5 HBw.out HBw.out.size); clear hb5))
   exact HP.out _ HB5.out
end Go.Proofs.YthiimbhjpdphpaaGreatDoor
set_option linter.unusedVariables false
set_option linter.unusedSimpArgs false
namespace Go.Proofs.YthiimbhjpdphpaaGreatDoor
open Go.RowKit
set_option maxRecDepth 100000
theorem keys_own {w : World} {n0 : Nat} {x : InsD} {kv : Value} (h : OKeys n0 w (x, kv)) : KeysV w kv x.keys := by
 obtain ⟨A, cap, rfl⟩ : ∃ A cap, kv = .slice A x.keys.length cap := own_shape h
 refine ⟨A, cap, rfl, ?_, SlAt.of_own h (map_strCs x.keys) (fun _ => rfl) (by decide)⟩
 rcases h.2 with ⟨e, e2⟩ | ⟨g, c, cur, e, _, _, hc, _⟩
 ·injection e with _ e3 e4
  have : x.keys.length = 0 := e2
  omega
 ·injection e with _ _ e4
  have : x.keys.length ≤ c := hc
  omega
theorem InsO.insV {n0 : Nat} {w : World} {B : Option Addr} {n cap : Nat} {is : List InsD} (h : InsO n0 w (.slice B n cap) is) : n = is.length ∧ InsV w B is := by
 obtain ⟨N, rfl, h2, h3⟩ := h
 obtain ⟨A, c, e⟩ := own_shape h2
 injection e with e1 e2 e3
 subst e1 e2 e3
 refine ⟨by rw [List.length_map], N.map insRow, ?_, by simp, ?_⟩
 ·have hs := SlAt.of_own (c := insRow) (l := N) h2 rfl (fun _ => rfl) (by decide)
  unfold SlAt at hs ⊢
  rw [List.map_id']
  exact hs
 ·intro k hk hk'
  have hkN : k < N.length := by simpa using hk
  refine ⟨(N[k]).2, by simp [insRow], ?_⟩
  have := keys_own (h3 (N[k]) (List.getElem_mem hkN))
  simpa using this
end Go.Proofs.YthiimbhjpdphpaaGreatDoor
set_option linter.unusedVariables false
set_option linter.unusedSimpArgs false
namespace Go.Proofs.YthiimbhjpdphpaaGreatDoor
open Go.RowKit
set_option maxRecDepth 100000
/-- Only blocks of the code's functions and the code's block may be turned, and nothing that lay before. -/
structure KC (n0 gC : Nat) (w w' : World) : Prop where
 os : w'.os = w.os
 tape : w'.tape = w.tape
 output : w'.output = w.output
 size : w.heap.size ≤ w'.heap.size
 low : ∀ j, j < n0 → w'.heap[j]? = w.heap[j]?
 typ : ∀ (g : Nat) (o : Obj), w.heap[g]? = some o → g ≠ gC → (∀ cs fr, o ≠ Obj.cells cs 50 fr) → w'.heap[g]? = some o
theorem KC.blk {n0 gC g : Nat} {t : TypeId} {cs : Array Value} {w w' : World} (h : KC n0 gC w w') (hB : Blk w g t cs) (hg : g ≠ gC) (ht : t ≠ 50) : Blk w' g t cs :=
 h.typ g _ hB hg (fun cs' fr e => by injection e with _ e _; exact ht e)
theorem KC.own {n0 gC base n size : Nat} {v : Value} {xs : List Value} {e t : TypeId} {cs : Array Value} {w w' : World} (h : KC n0 gC w w') (hC : Blk w gC t cs) (het : t ≠ e) (he : e ≠ 50) (ho : w.ownsRow base e size v n xs) : w'.ownsRow base e size v n xs := by
 obtain ⟨e1, e2⟩ := ho
 refine ⟨e1, e2.imp id (fun ⟨g, cap, cur, ev, eg, eh, e4⟩ => ⟨g, cap, cur, ev, eg, ?_, e4⟩)⟩
 refine h.typ g _ eh (fun e9 => ?_) (fun cs' fr e9 => by injection e9 with _ e9 _; exact he e9)
 subst e9
 unfold Blk at hC
 rw [hC] at eh
 injection eh with eh
 injection eh with _ e9 _
 exact het e9
/-- The writer stays when the code's functions grow. -/
theorem WrSt.kc {w0 w w' : World} {S : ProgS} {sA : Option Addr} {sn sc gW gC : Nat} {e0 : Int} {L : List (InsD × Value)} {cs : Array Value} (h : WrSt w0 w S sA sn sc gW e0 L) (hk : KC w0.heap.size gC w w') (hC : Blk w gC 31 cs) (hne : gW ≠ gC) : WrSt w0 w' S sA sn sc gW e0 L := by
 obtain ⟨⟨iv, h1, h2⟩, h3, h4, h5⟩ := h
 refine ⟨⟨iv, hk.blk h1 hne (by decide), hk.own hC (by decide) (by decide) h2⟩, fun p hp => hk.own hC (by decide) (by decide) (h3 p hp), ?_, h5⟩
 exact ⟨hk.os.trans h4.os, hk.tape.trans h4.tape, hk.output.trans h4.output, Nat.le_trans h4.size hk.size, fun j hj => (hk.low j hj).trans (h4.block j hj)⟩
theorem KC.refl (n0 gC : Nat) (w : World) : KC n0 gC w w := ⟨rfl, rfl, rfl, Nat.le_refl _, fun _ _ => rfl, fun _ _ h _ _ => h⟩
theorem KC.trans {n0 gC : Nat} {a b c : World} (h : KC n0 gC a b) (k : KC n0 gC b c) : KC n0 gC a c :=
 ⟨k.os.trans h.os, k.tape.trans h.tape, k.output.trans h.output, Nat.le_trans h.size k.size, fun j hj => (k.low j hj).trans (h.low j hj), fun g o h1 h2 h3 => k.typ g o (h.typ g o h1 h2 h3) h2 h3⟩
theorem KC.setC {n0 gC : Nat} {a b : World} (h : KC n0 gC a b) (hn : n0 ≤ gC) (i : Nat) (u : Value) : KC n0 gC a (b.setCell ⟨gC, i, none⟩ u) :=
 h.trans ⟨rfl, rfl, rfl, by simp, fun j hj => Below.heap_setCell b _ u j (by show j ≠ gC; omega), fun g o h1 h2 _ => (Below.heap_setCell b _ u g h2).trans h1⟩
theorem KC.grown {n0 gC base n : Nat} {v : Value} {xs : List Value} {a b c : World} (h : KC n0 gC a b) (ho : b.ownsRow base 50 5 v n xs) (hn : n0 ≤ base) (hs : n0 ≤ b.heap.size) (hg : b.grownBy c v.ownBlock) : KC n0 gC a c := by
 refine h.trans ⟨hg.os, hg.tape, hg.output, hg.size, fun j hj => ?_, fun q o h1 h2 h3 => ?_⟩
 ·exact hg.block j (by omega) (fun e => by have := (ho.lt j e.symm).1; omega)
 ·refine (hg.block q (lt_of_block h1) (fun e => ?_)).trans h1
  obtain ⟨_, h4⟩ := ho
  rcases h4 with ⟨rfl, _⟩ | ⟨g', cap', cur, rfl, eb, eh, _⟩
  ·cases e
  ·injection e with e
   subst e
   rw [eh] at h1
   injection h1 with h1
   exact h3 _ _ h1.symm
/-- Another owned row stays while the writer writes. -/
theorem KW.ownR {n0 gW base n size : Nat} {v : Value} {xs : List Value} {e t : TypeId} {cs : Array Value} {w w' : World} (h : KW n0 gW w w') (hW : Blk w gW t cs) (ht : t ≠ e) (he : e ≠ 53) (ho : w.ownsRow base e size v n xs) : w'.ownsRow base e size v n xs := by
 obtain ⟨e1, e2⟩ := ho
 refine ⟨e1, e2.imp id (fun ⟨g, cap, cur, ev, eg, eh, e4⟩ => ⟨g, cap, cur, ev, eg, ?_, e4⟩)⟩
 refine h.typ g _ eh (fun e9 => ?_) (fun cs' fr e9 => by injection e9 with _ e9 _; exact he e9)
 subst e9
 unfold Blk at hW
 rw [hW] at eh
 injection eh with eh
 injection eh with _ e9 _
 exact ht e9
end Go.Proofs.YthiimbhjpdphpaaGreatDoor
set_option linter.unusedVariables false
set_option linter.unusedSimpArgs false
namespace Go.Proofs.YthiimbhjpdphpaaGreatDoor
open Go.RowKit
set_option maxRecDepth 100000
theorem InsV.atK {w : World} {B : Option Addr} {l : List InsD} (h : InsV w B l) {k : Nat} (hk : k < l.length) : ∃ b off kA kc, B = some ⟨b, off, none⟩ ∧ w.cell? ⟨b, off + k * 4, none⟩ = some (.int .i64 l[k].op) ∧ w.cell? ⟨b, off + k * 4 + 1, none⟩ = some (.int .i64 l[k].a) ∧ w.cell? ⟨b, off + k * 4 + 2, none⟩ = some (.string l[k].s) ∧ w.cell? ⟨b, off + k * 4 + 3, none⟩ = some (.slice kA l[k].keys.length kc) ∧ SlAt w kA 1 strCs l[k].keys := by
 obtain ⟨b, off, kv, e, _, c0, c1, c2, c3, hk⟩ := h.at hk
 obtain ⟨A, cap, rfl, _, hs⟩ := hk
 exact ⟨b, off, A, cap, e, c0, c1, c2, c3, hs⟩
/-- A part of a list of instructions. -/
theorem InsV.part {w : World} {b off : Nat} {l : List InsD} (h : InsV w (some ⟨b, off, none⟩) l) (a n : Nat) : InsV w (some ⟨b, off + a * 4, none⟩) ((l.drop a).take n) := by
 obtain ⟨rows, h1, h2, h3⟩ := h
 refine ⟨(rows.drop a).take n, ?_, by simp [h2], fun k hk hk' => ?_⟩
 ·intro i row hi
  rw [List.map_take, List.map_drop, List.getElem?_take] at hi
  split at hi
  ·rw [List.getElem?_drop] at hi
   obtain ⟨b', off', e1, e2, e3⟩ := h1 (a + i) row hi
   injection e1 with e1
   injection e1 with e1 e4
   subst e1 e4
   refine ⟨b, off + a * 4, rfl, e2, fun j v hv => ?_⟩
   have := e3 j v hv
   rw [show off + a * 4 + i * 4 + j = off + (a + i) * 4 + j by omega]
   exact this
  ·cases hi
 ·have ha : a + k < rows.length := by simp at hk; omega
  have ha' : a + k < l.length := by omega
  have := h3 (a + k) ha ha'
  simpa using this
attribute [local go_sem] cell_alloc_is
set_option maxHeartbeats 8000000 in
theorem list_s (l : List InsD) (A B : Option Addr) (c d : Nat) (w : World) (hA : InsV w A l) (hB : InsV w B l) (hl : l.length ≤ 100000) (hk : ∀ i ∈ l, i.keys.length ≤ 100000) : Calls Tryz.prog 13 #[.slice A l.length c, .slice B l.length d] w fun e w' => e = .returned (.bool true) ∧ Below w.heap.size w w' := by
 obtain ⟨P, hP⟩ : ∃ P : Ending → World → Prop, (fun e w' => e = .returned (.bool true) ∧ Below w.heap.size w w') = P := ⟨_, rfl⟩
 rw [hP]
 have HP : Hid (∀ w', Below w.heap.size w w' → P (.returned (.bool true)) w') := Lib.hid (fun w' h2 => by rw [← hP]; exact ⟨rfl, h2⟩)
 have HA := Lib.hid hA
 have HB := Lib.hid hB
 have HK := Lib.hid hk
 obtain ⟨n, hn⟩ : ∃ n, l.length = n := ⟨_, rfl⟩
 have HN := Lib.hid hn
 rw [hn] at hl ⊢
 have hnn : ((n : Int) != (n : Int)) = false := by simp
 clear hP hA hB hk hn
 go_enter Tryz.func13, Tryz.ntmps13
 go_upto_region 4 with (fail)
 try go_wp2_with (fail)
 clear hnn
 go_loopw [5, 13] (fun _ kv wr => ∃ k : Nat, k ≤ n ∧ kv = .int .i64 k ∧ Hid (Below w.heap.size w wr)) (fun _ kv _ => n - (intOf kv).toNat)
 case atStart => exact ⟨0, Nat.zero_le _, rfl, Lib.hid (Below.refl _ _)⟩
 case round =>
  obtain ⟨k, hk, rfl, HBw⟩ := hrel
  have hk0 : (0 : Int) ≤ (k : Int) := by omega
  by_cases hlt : k < n
  ·have hlt' : (k : Int) < (n : Int) := by omega
   have hkl : k < l.length := by rw [HN.out]; exact hlt
   obtain ⟨b1, o1, k1, q1, hA1, c0, c1, c2, c3, hs1⟩ := (HA.out.below HBw.out).atK hkl
   obtain ⟨b2, o2, k2, q2, hA2, d0, d1, d2, d3, hs2⟩ := (HB.out.below HBw.out).atK hkl
   subst hA1 hA2
   have hkk := HK.out _ (List.getElem_mem hkl)
   have HCS := Lib.hid (same_s l[k] l[k] k1 k2 q1 q2 wr.drew hs1 hs2 rfl hkk)
   unfold insV at HCS
   obtain ⟨xo, hxo⟩ : ∃ x, l[k].op = x := ⟨_, rfl⟩
   obtain ⟨xa, hxa⟩ : ∃ x, l[k].a = x := ⟨_, rfl⟩
   obtain ⟨xs, hxs⟩ : ∃ x, l[k].s = x := ⟨_, rfl⟩
   obtain ⟨xk, hxk⟩ : ∃ x, l[k].keys.length = x := ⟨_, rfl⟩
   rw [hxo] at c0 d0 HCS
   rw [hxa] at c1 d1 HCS
   rw [hxs] at c2 d2 HCS
   rw [hxk] at c3 d3 HCS
   clear hs1 hs2 hkk hxo hxa hxs hxk hkl
   go_upto_region 6 with (fail)
   go_still_tail 8, (by kernel_rfl)
   change wpList _ _ _ _ _ wr.drew
   clear c0 c1 c2 c3 d0 d1 d2 d3
   go_wp2_with (first
    | (go_at_call 24; ((refine HCS.out.mono ?_); rintro e w3 ⟨rfl, hb3⟩; have HB3 := Lib.hid (below_call' hb3 HBw.out.drew HBw.out.size); clear hb3))
    )
   exact ⟨⟨k + 1, by omega, by simp, HB3⟩, by simp [intOf]; omega⟩
  ·have e9 : k = n := by omega
   subst e9
   go_wp2_with (fail)
   exact HP.out _ HBw.out
end Go.Proofs.YthiimbhjpdphpaaGreatDoor
