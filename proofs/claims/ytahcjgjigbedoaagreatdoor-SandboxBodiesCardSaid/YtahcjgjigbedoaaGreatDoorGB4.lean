/- The program's small values: Int, Str; eval.check, eval.truth, Unary. The reference's small values: checked, Int, Str. -/
import Derived.Test.YtahcjgjigbedoaaGreatDoorGD10
import Derived.Test.YtahcjgjigbedoaaGreatDoorR10
set_option linter.unusedVariables false
set_option linter.unusedSimpArgs false
namespace Go.Proofs.YtahcjgjigbedoaaGreatDoor
open Go.RowKit
set_option maxRecDepth 100000
theorem FromC.new {w w1 w2 : World} {S : List Value} {g n cap : Nat} {v : Value} {cs : Array Value} (h : FromC w1 w2 (.slice (some ⟨g, 0, Option.none⟩) n cap :: S) v) (hg : w.heap.size ≤ g) (hB : Blk w2 g 47 cs) (h1 : w.heap.size ≤ w1.heap.size) : FromC w w2 S v := fun b off n' cap' e => by
 rcases h b off n' cap' e with ⟨u, hu, off', n2, cap2, rfl⟩ | ⟨h3, cs', fz, h4⟩
 ·rcases List.mem_cons.1 hu with hu | hu
  ·injection hu with hu _ _
   injection hu with hu
   injection hu with hu _
   subst hu
   exact .inr ⟨hg, _, _, hB⟩
  ·exact .inl ⟨_, hu, _, _, _, rfl⟩
 ·exact .inr ⟨by omega, _, _, h4⟩
/-- One cell of the call's own, checked. -/
theorem RetR.one {w w2 : World} {r : ResD} {e : Ending} {cs : Array Value} {n cap : Nat} (h : RetR (w.alloc (.cells cs 47)) [.slice (some ⟨w.heap.size, 0, none⟩) n cap] r e w2) : RetR w [] r e w2 := by
 obtain ⟨u, he, hu, hf, hb⟩ := h
 have hB : Blk w2 w.heap.size 47 cs := (hb.block _ (by simp)).trans (Blk.new w _ _)
 exact ⟨u, he, hu, hf.new (Nat.le_refl _) hB (by simp), below_call hb (below_new w _)⟩
theorem okV_i {n : Int} (h0 : -9223372036854775808 ≤ n) (h1 : n ≤ 9223372036854775807) : Hid (OkV [iCel n]) := Lib.hid ⟨by simp, fun c hc => by
 have : c = iCel n := by simpa using hc
 subst this
 exact ⟨by show (0 : Nat) ≤ _; omega, ⟨h0, h1⟩, by show (0 : Int) ≤ _; omega⟩⟩
theorem okV_s {s : ByteArray} (h : s.size ≤ 4294967296) : Hid (OkV [sCel s]) := Lib.hid ⟨by simp, fun c hc => by
 have : c = sCel s := by simpa using hc
 subst this
 exact ⟨h, by show (_ : Int) ≤ 0 ∧ (0 : Int) ≤ _; omega, by show (0 : Int) ≤ _; omega⟩⟩
theorem one_any (c : CellD) (w : World) (hp : Pow w) (ho : OkV [c]) :
  Calls Tryz.prog 27 #[.slice (some ⟨w.heap.size, 0, none⟩) 1 1] (w.alloc (.cells #[.int .i64 c.kind, .int .i64 c.int, .string c.str, .int .i64 c.n] 47)) (RetR w [] (okR [c])) :=
 (vchecked_any [c] _ _ (val_blk1 (c := c) (Blk.new _ _ _)) (hp.below (below_new _ _)) ho).mono fun _ _ h => h.one
attribute [local go_sem] cell_alloc_is
set_option maxHeartbeats 4000000 in
theorem cint_any (n : Int) (w : World) (hp : Pow w) (h0 : -9223372036854775808 ≤ n) (h1 : n ≤ 9223372036854775807) :
  Calls Tryz.prog 107 #[.int .i64 n] w (RetR w [] (okR [iCel n])) := by
 have HC : Hid (Calls Tryz.prog 27 #[.slice (some ⟨w.heap.size, 0, none⟩) 1 1] (w.alloc (.cells #[.int .i64 3, .int .i64 n, .string ⟨#[]⟩, .int .i64 0] 47)) (RetR w [] (okR [iCel n]))) := Lib.hid (one_any (iCel n) w hp (okV_i h0 h1).out)
 obtain ⟨P, hP⟩ : ∃ P : Ending → World → Prop, RetR w [] (okR [iCel n]) = P := ⟨_, rfl⟩
 rw [hP]
 have HP := Lib.hid hP
 clear hP hp h0 h1
 go_enter Tryz.func107, Tryz.ntmps107
 go_wp2_with (first
  | (go_at_call 27; (with_reducible refine HC.out.mono ?_); rintro e w1 ⟨u, rfl, hu⟩; have HU := Lib.hid hu; clear hu))
 rw [← HP.out]
 exact ⟨u, rfl, HU.out⟩
set_option maxHeartbeats 4000000 in
theorem cstr_any (s : ByteArray) (w : World) (hp : Pow w) (h0 : s.size ≤ 4294967296) :
  Calls Tryz.prog 108 #[.string s] w (RetR w [] (okR [sCel s])) := by
 have HC : Hid (Calls Tryz.prog 27 #[.slice (some ⟨w.heap.size, 0, none⟩) 1 1] (w.alloc (.cells #[.int .i64 4, .int .i64 0, .string s, .int .i64 0] 47)) (RetR w [] (okR [sCel s]))) := Lib.hid (one_any (sCel s) w hp (okV_s h0).out)
 obtain ⟨P, hP⟩ : ∃ P : Ending → World → Prop, RetR w [] (okR [sCel s]) = P := ⟨_, rfl⟩
 rw [hP]
 have HP := Lib.hid hP
 clear hP hp h0
 go_enter Tryz.func108, Tryz.ntmps108
 go_wp2_with (first
  | (go_at_call 27; (with_reducible refine HC.out.mono ?_); rintro e w1 ⟨u, rfl, hu⟩; have HU := Lib.hid hu; clear hu))
 rw [← HP.out]
 exact ⟨u, rfl, HU.out⟩
set_option maxHeartbeats 4000000 in
theorem truth_any (c : CellD) (r : ValD) (v : Value) (w : World) (h : ValV w v (c :: r)) :
  Calls Tryz.prog 127 #[v] w fun e w' => e = .returned (.tuple #[.bool (c.int != 0), .bool (c.kind == 2)]) ∧ ∃ q, w' = w.drewN q := by
 obtain ⟨A, cap, rfl, hc, hm, hs⟩ := h.at
 obtain ⟨k, i, s, n⟩ := c
 have hlt : 0 < (⟨k, i, s, n⟩ :: r : ValD).length := by simp
 obtain ⟨bA, off, rfl, _⟩ := hs.ptr hlt
 have c0 := hs.cell0 hlt (v := .int .i64 k) rfl
 have c1 := hs.cell hlt (j := 1) (v := .int .i64 i) rfl
 have hn : (0 : Int) < ((⟨k, i, s, n⟩ :: r : ValD).length : Int) := by omega
 obtain ⟨N, hN⟩ : ∃ N, (⟨k, i, s, n⟩ :: r : ValD).length = N := ⟨_, rfl⟩
 rw [hN] at hn ⊢
 simp only [Nat.zero_mul, Nat.add_zero] at c0 c1
 clear h hs hlt hm hc hN
 go_enter Tryz.func127, Tryz.ntmps127
 go_wp2
 go_quiet (fail)
 go_wp2
 go_returns
 exact ⟨rfl, _, rfl⟩
theorem firstBad_bad : ∀ (l : List ValD) (n : Nat) (h : n < l.length), (∀ x ∈ l.take n, checkF x = 0) → checkF l[n] ≠ 0 → firstBad l = checkF l[n]
 | [], n, h, _, _ => by simp at h
 | x :: r, 0, h, _, hb => by simp only [firstBad, List.getElem_cons_zero] at hb ⊢; rw [if_pos hb]
 | x :: r, n + 1, h, hg, hb => by
  have h0 : checkF x = 0 := hg x (by simp)
  simp only [firstBad, List.getElem_cons_succ] at hb ⊢
  rw [if_neg (by simpa using h0)]
  exact firstBad_bad r n (by simpa using h) (fun y hy => hg y (by simp [hy])) hb
theorem firstBad_none : ∀ (l : List ValD), (∀ x ∈ l, checkF x = 0) → firstBad l = 0
 | [], _ => rfl
 | x :: r, h => by
  unfold firstBad
  rw [if_neg (by simpa using h x (by simp)), firstBad_none r fun y hy => h y (by simp [hy])]
set_option maxHeartbeats 4000000 in
theorem echeck_any (l : List ValD) (v : Value) (w : World) (h : ValsV w v l) (hp : Pow w) (ho : ∀ x ∈ l, OkV x) :
  Calls Tryz.prog 126 #[v] w fun e w' => e = .returned (.int .i64 (firstBad l)) ∧ Below w.heap.size w w' := by
 obtain ⟨P, hP⟩ : ∃ P : Ending → World → Prop, (fun e w' => e = .returned (.int .i64 (firstBad l)) ∧ Below w.heap.size w w') = P := ⟨_, rfl⟩
 rw [hP]
 have HP := Lib.hid hP
 obtain ⟨A, cap, vs, rfl, hc, hm, hs, hla, hva⟩ := h.at
 have HS := Lib.hid hs
 have HV := Lib.hid hva
 have HLA := Lib.hid hla
 have HW := Lib.hid hp
 have HO := Lib.hid ho
 clear h hP hs hva hla hp ho
 go_enter Tryz.func126, Tryz.ntmps126
 go_wp2_with (fail)
 go_loopw [4, 5, 8] (fun _ _ i wr => ∃ k : Nat, k ≤ l.length ∧ i = .int .i64 k ∧ Hid (∀ x ∈ l.take k, checkF x = 0) ∧ Below w.heap.size w wr) (fun _ _ i _ => l.length - (intOf i).toNat)
 case atStart => exact ⟨0, Nat.zero_le _, rfl, Lib.hid (by simp), Below.refl _ _⟩
 case round =>
  obtain ⟨k, hk, rfl, HR, hbel⟩ := hrel
  have HB := Lib.hid hbel
  clear hbel
  have hk0 : (0 : Int) ≤ (k : Int) := by omega
  by_cases hlt : k < l.length
  ·have hlt' : (k : Int) < (l.length : Int) := by omega
   have hna : k < vs.length := by rw [HLA.out]; exact hlt
   have hsa := HS.out.below HB.out
   obtain ⟨x, hx⟩ : ∃ x, vs[k] = x := ⟨_, rfl⟩
   have hvx : ValV wr x l[k] := (hx ▸ HV.out k hna hlt : ValV w x l[k]).below HB.out
   obtain ⟨A1, k1, rfl, hc1, hm1, hs1⟩ := hvx.at
   obtain ⟨bA, off, rfl, _⟩ := hsa.ptr hna
   have c0 := hsa.cell0 hna (v := .slice A1 l[k].length k1) (by rw [hx]; rfl)
   simp only [Nat.mul_one] at c0
   have hok : OkV l[k] := HO.out _ (List.getElem_mem hlt)
   have HC := Lib.hid (vcheck_any l[k] A1 k1 wr hs1 (HW.out.below HB.out) hok.1 hc1 hok.2)
   obtain ⟨ck, hck⟩ : ∃ c, checkF l[k] = c := ⟨_, rfl⟩
   rw [hck] at HC
   have HCK := Lib.hid hck
   clear hsa hx hvx hs1 hc1 hm1 hok hck
   by_cases h0 : ck = 0
   ·subst h0
    go_wp2_with (first
     | (go_at_call 26; (with_reducible refine HC.out.mono ?_); rintro e w1 ⟨rfl, hb1⟩; have HB1 := Lib.hid (below_call' hb1 HB.out HB.out.size); clear hb1))
    exact ⟨⟨k + 1, by omega, by simp, Lib.hid (by
     rw [List.take_succ_eq_append_getElem hlt]
     intro x hx
     rcases List.mem_append.1 hx with hx | hx
     ·exact HR.out x hx
     ·have : x = l[k] := by simpa using hx
      rw [this]; exact HCK.out), HB1.out⟩, by simp [intOf]; omega⟩
   ·have h1 : (ck != 0) = true := by simpa using h0
    clear h0
    go_wp2_with (first
     | (go_at_call 26; (with_reducible refine HC.out.mono ?_); rintro e w1 ⟨rfl, hb1⟩; have HB1 := Lib.hid (below_call' hb1 HB.out HB.out.size); clear hb1))
    rw [← HP.out]
    exact ⟨by rw [firstBad_bad l k hlt HR.out (by rw [HCK.out]; simpa using h1), HCK.out]; rfl, HB1.out⟩
  ·have e : k = l.length := by omega
   subst e
   go_wp2_with (fail)
   rw [← HP.out]
   exact ⟨by rw [firstBad_none l (by have := HR.out; rwa [List.take_length] at this)]; rfl, HB.out⟩
end Go.Proofs.YtahcjgjigbedoaaGreatDoor
namespace Go.Proofs.YtahcjgjigbedoaaGreatDoor
open Go.RowKit
set_option maxRecDepth 100000
attribute [local go_sem] cell_alloc_is
set_option maxHeartbeats 4000000 in
theorem rchecked_any (l : ValD) (v : Value) (w : World) (h : ValV w v l) (hp : Pow w) (ho : OkV l) :
  Calls Tryz.prog 31 #[v] w (RetR w [v] (okR l)) := by
 obtain ⟨A, cap, rfl, hc, hm, hs⟩ := h.at
 have HV := Lib.hid h
 have HC := Lib.hid (rcheck_any l A cap w hs hp ho.1 ho.2)
 obtain ⟨P, hP⟩ : ∃ P : Ending → World → Prop, RetR w [.slice A l.length cap] (okR l) = P := ⟨_, rfl⟩
 rw [hP]
 have HP := Lib.hid hP
 obtain ⟨n, hn⟩ : ∃ n, l.length = n := ⟨_, rfl⟩
 rw [hn] at HC HP HV ⊢
 obtain ⟨ck, hck⟩ : ∃ c, checkF l = c := ⟨_, rfl⟩
 rw [hck] at HC
 have HCK := Lib.hid hck
 clear h hP hn hck hs hc hm ho hp
 by_cases h0 : ck = 0
 ·have HO : Hid (okR l = (l, 0)) := Lib.hid (by unfold okR; rw [HCK.out, if_pos h0])
  subst h0
  go_enter Tryz.func31, Tryz.ntmps31
  go_wp2_with (first
   | (go_at_call 30; (with_reducible refine HC.out.mono ?_); rintro e w1 ⟨rfl, hb1⟩; have HB := Lib.hid hb1; clear hb1))
  rw [← HP.out]
  exact ⟨.slice A n cap, by rw [HO.out]; rfl, by rw [HO.out]; exact HV.out.below HB.out, FromC.self (by simp), HB.out⟩
 ·have HO : Hid (okR l = ([], ck)) := Lib.hid (by unfold okR; rw [HCK.out, if_neg h0])
  have h1 : (ck != 0) = true := by simpa using h0
  clear h0
  go_enter Tryz.func31, Tryz.ntmps31
  go_wp2_with (first
   | (go_at_call 30; (with_reducible refine HC.out.mono ?_); rintro e w1 ⟨rfl, hb1⟩; have HB := Lib.hid hb1; clear hb1))
  rw [← HP.out]
  exact ⟨.slice none 0 0, by rw [HO.out]; rfl, by rw [HO.out]; exact RowsV.nil none 0, FromC.none, HB.out⟩
theorem rone_any (c : CellD) (w : World) (hp : Pow w) (ho : OkV [c]) :
  Calls Tryz.prog 31 #[.slice (some ⟨w.heap.size, 0, none⟩) 1 1] (w.alloc (.cells #[.int .i64 c.kind, .int .i64 c.int, .string c.str, .int .i64 c.n] 47)) (RetR w [] (okR [c])) :=
 (rchecked_any [c] _ _ (val_blk1 (c := c) (Blk.new _ _ _)) (hp.below (below_new _ _)) ho).mono fun _ _ h => h.one
set_option maxHeartbeats 4000000 in
theorem rint_any (n : Int) (w : World) (hp : Pow w) (h0 : -9223372036854775808 ≤ n) (h1 : n ≤ 9223372036854775807) :
  Calls Tryz.prog 17 #[.int .i64 n] w (RetR w [] (okR [iCel n])) := by
 have HC : Hid (Calls Tryz.prog 31 #[.slice (some ⟨w.heap.size, 0, none⟩) 1 1] (w.alloc (.cells #[.int .i64 3, .int .i64 n, .string ⟨#[]⟩, .int .i64 0] 47)) (RetR w [] (okR [iCel n]))) := Lib.hid (rone_any (iCel n) w hp (okV_i h0 h1).out)
 obtain ⟨P, hP⟩ : ∃ P : Ending → World → Prop, RetR w [] (okR [iCel n]) = P := ⟨_, rfl⟩
 rw [hP]
 have HP := Lib.hid hP
 clear hP hp h0 h1
 go_enter Tryz.func17, Tryz.ntmps17
 go_wp2_with (first
  | (go_at_call 31; (with_reducible refine HC.out.mono ?_); rintro e w1 ⟨u, rfl, hu⟩; have HU := Lib.hid hu; clear hu))
 rw [← HP.out]
 exact ⟨u, rfl, HU.out⟩
set_option maxHeartbeats 4000000 in
theorem rstr_any (s : ByteArray) (w : World) (hp : Pow w) (h0 : s.size ≤ 4294967296) :
  Calls Tryz.prog 18 #[.string s] w (RetR w [] (okR [sCel s])) := by
 have HC : Hid (Calls Tryz.prog 31 #[.slice (some ⟨w.heap.size, 0, none⟩) 1 1] (w.alloc (.cells #[.int .i64 4, .int .i64 0, .string s, .int .i64 0] 47)) (RetR w [] (okR [sCel s]))) := Lib.hid (rone_any (sCel s) w hp (okV_s h0).out)
 obtain ⟨P, hP⟩ : ∃ P : Ending → World → Prop, RetR w [] (okR [sCel s]) = P := ⟨_, rfl⟩
 rw [hP]
 have HP := Lib.hid hP
 clear hP hp h0
 go_enter Tryz.func18, Tryz.ntmps18
 go_wp2_with (first
  | (go_at_call 31; (with_reducible refine HC.out.mono ?_); rintro e w1 ⟨u, rfl, hu⟩; have HU := Lib.hid hu; clear hu))
 rw [← HP.out]
 exact ⟨u, rfl, HU.out⟩
end Go.Proofs.YtahcjgjigbedoaaGreatDoor
