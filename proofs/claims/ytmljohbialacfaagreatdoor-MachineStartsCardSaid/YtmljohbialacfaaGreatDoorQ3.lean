/- Code: the operands of an instruction, the reference's. -/
import Derived.Test.YtmljohbialacfaaGreatDoorK3
set_option linter.unusedVariables false
set_option linter.unusedSimpArgs false
namespace Go.Proofs.YtmljohbialacfaaGreatDoor
open Go.RowKit
set_option maxRecDepth 100000
attribute [local go_sem] cell_alloc_is
theorem rvalid_any (n : Int) (w : World) : Calls Tryz.prog 180 #[.int .i64 n] w fun e w' => (∃ b, e = .returned (.bool b) ∧ (b = true ↔ -1000000000000 ≤ n ∧ n ≤ 1000000000000)) ∧ w' = w := by
 obtain ⟨P, hP⟩ : ∃ P : Ending → World → Prop, (fun e w' => (∃ b, e = .returned (.bool b) ∧ (b = true ↔ -1000000000000 ≤ n ∧ n ≤ 1000000000000)) ∧ w' = w) = P := ⟨_, rfl⟩
 rw [hP]
 have HP := Lib.hid hP
 clear hP
 go_enter Tryz.func180, Tryz.ntmps180
 go_wp2
 all_goals
  rw [← HP.out]
  refine ⟨⟨_, rfl, ?_⟩, rfl⟩
  first
   | (simp; done)
   | (simp; omega)
set_option maxHeartbeats 4000000 in
theorem roperand_1 (nf ncap : Nat) (A B : Option Addr) (f : FnD) (a : Int) (s : ByteArray) (keys : List ByteArray) (kv : Value) (w : World) (hnf : nf ≤ 40) (hf : FnSmall f) (hi : InsOk ⟨1, a, s, keys⟩) (hk : KeysV w kv keys) (ni : Nat) (icap : Nat) :
  Calls Tryz.prog 124 #[.agg #[.slice A nf ncap, .slice B ni icap], f.val, .agg #[.int .i64 1, .int .i64 a, .string s, kv]] w fun e w' => (∃ b, e = .returned (.bool b) ∧ (b = true ↔ OperandP nf f ⟨1, a, s, keys⟩)) ∧ Below w.heap.size w w' := by
 obtain ⟨name, params, locals, entry, fin⟩ := f
 obtain ⟨⟨_, _⟩, ⟨hl0, hl1⟩, ⟨he0, he1, he2⟩⟩ := hf
 obtain ⟨hs1, hk1, hks⟩ := hi
 dsimp only at hl0 hl1 he0 he1 he2 hs1 hk1 hks
 have hb3 := below_3 w (.cells #[.slice A nf ncap, .slice B ni icap] 25) (.cells #[.string name, .int .i64 params, .int .i64 locals, .int .i64 entry, .int .i64 fin] 55) (.cells #[.int .i64 1, .int .i64 a, .string s, kv] 59)
 have HB3 := Lib.hid hb3
 have HKV := Lib.hid (hk.below hb3)
 have HKS := Lib.hid hks
 have HS1 := Lib.hid hs1
 have hnf0 : (0 : Int) ≤ (nf : Int) := by omega
 have hnf9 : (nf : Int) ≤ 40 := by omega
 have HX := Lib.hid (Blk.new ((w.alloc (.cells #[.slice A nf ncap, .slice B ni icap] 25)).alloc (.cells #[.string name, .int .i64 params, .int .i64 locals, .int .i64 entry, .int .i64 fin] 55)) 59 #[.int .i64 1, .int .i64 a, .string s, kv])
 obtain ⟨kA, kcap, rfl, _, _⟩ := hk
 obtain ⟨P, hP⟩ : ∃ P : Ending → World → Prop, (fun e w' => (∃ b, e = .returned (.bool b) ∧ (b = true ↔ OperandP nf ⟨name, params, locals, entry, fin⟩ ⟨1, a, s, keys⟩)) ∧ Below w.heap.size w w') = P := ⟨_, rfl⟩
 rw [hP]
 have HP := Lib.hid hP
 unfold FnD.val
 clear hP hb3 hks
 go_enter Tryz.func124, Tryz.ntmps124
 go_wp2_with (first
  | (go_at_call 179; go_enter Tryz.func179, Tryz.ntmps179))
 all_goals rw [← HP.out]
 all_goals exact ⟨⟨_, rfl, by first | (simp_all [OperandP, bareB]; done) | (simp_all [OperandP, bareB]; omega)⟩, HB3.out⟩
set_option maxHeartbeats 4000000 in
theorem roperand_2 (nf ncap : Nat) (A B : Option Addr) (f : FnD) (a : Int) (s : ByteArray) (keys : List ByteArray) (kv : Value) (w : World) (hnf : nf ≤ 40) (hf : FnSmall f) (hi : InsOk ⟨2, a, s, keys⟩) (hk : KeysV w kv keys) (ni : Nat) (icap : Nat) :
  Calls Tryz.prog 124 #[.agg #[.slice A nf ncap, .slice B ni icap], f.val, .agg #[.int .i64 2, .int .i64 a, .string s, kv]] w fun e w' => (∃ b, e = .returned (.bool b) ∧ (b = true ↔ OperandP nf f ⟨2, a, s, keys⟩)) ∧ Below w.heap.size w w' := by
 obtain ⟨name, params, locals, entry, fin⟩ := f
 obtain ⟨⟨_, _⟩, ⟨hl0, hl1⟩, ⟨he0, he1, he2⟩⟩ := hf
 obtain ⟨hs1, hk1, hks⟩ := hi
 dsimp only at hl0 hl1 he0 he1 he2 hs1 hk1 hks
 have hb3 := below_3 w (.cells #[.slice A nf ncap, .slice B ni icap] 25) (.cells #[.string name, .int .i64 params, .int .i64 locals, .int .i64 entry, .int .i64 fin] 55) (.cells #[.int .i64 2, .int .i64 a, .string s, kv] 59)
 have HB3 := Lib.hid hb3
 have HKV := Lib.hid (hk.below hb3)
 have HKS := Lib.hid hks
 have HS1 := Lib.hid hs1
 have hnf0 : (0 : Int) ≤ (nf : Int) := by omega
 have hnf9 : (nf : Int) ≤ 40 := by omega
 have HX := Lib.hid (Blk.new ((w.alloc (.cells #[.slice A nf ncap, .slice B ni icap] 25)).alloc (.cells #[.string name, .int .i64 params, .int .i64 locals, .int .i64 entry, .int .i64 fin] 55)) 59 #[.int .i64 2, .int .i64 a, .string s, kv])
 obtain ⟨kA, kcap, rfl, _, _⟩ := hk
 obtain ⟨P, hP⟩ : ∃ P : Ending → World → Prop, (fun e w' => (∃ b, e = .returned (.bool b) ∧ (b = true ↔ OperandP nf ⟨name, params, locals, entry, fin⟩ ⟨2, a, s, keys⟩)) ∧ Below w.heap.size w w') = P := ⟨_, rfl⟩
 rw [hP]
 have HP := Lib.hid hP
 unfold FnD.val
 clear hP hb3 hks
 by_cases h0 : a = 0
 ·subst h0
  go_enter Tryz.func124, Tryz.ntmps124
  go_wp2_with (first
   | (go_at_call 179; go_enter Tryz.func179, Tryz.ntmps179))
  rw [← HP.out]
  exact ⟨⟨true, rfl, by simp [OperandP, bareB]⟩, HB3.out⟩
 ·have h0' : (a == 0) = false := by simpa using h0
  by_cases h1 : a = 1
  ·subst h1
   go_enter Tryz.func124, Tryz.ntmps124
   go_wp2_with (first
    | (go_at_call 179; go_enter Tryz.func179, Tryz.ntmps179))
   rw [← HP.out]
   exact ⟨⟨true, rfl, by simp [OperandP, bareB]⟩, HB3.out⟩
  ·have h1' : (a == 1) = false := by simpa using h1
   have HN : Hid (¬ (a = 0 ∨ a = 1)) := Lib.hid (by omega)
   clear h0 h1
   go_enter Tryz.func124, Tryz.ntmps124
   go_wp2_with (first
    | (go_at_call 179; go_enter Tryz.func179, Tryz.ntmps179))
   rw [← HP.out]
   exact ⟨⟨false, rfl, by simp [OperandP, bareB]; have := HN.out; omega⟩, HB3.out⟩
set_option maxHeartbeats 4000000 in
theorem roperand_3 (nf ncap : Nat) (A B : Option Addr) (f : FnD) (a : Int) (s : ByteArray) (keys : List ByteArray) (kv : Value) (w : World) (hnf : nf ≤ 40) (hf : FnSmall f) (hi : InsOk ⟨3, a, s, keys⟩) (hk : KeysV w kv keys) (ni : Nat) (icap : Nat) :
  Calls Tryz.prog 124 #[.agg #[.slice A nf ncap, .slice B ni icap], f.val, .agg #[.int .i64 3, .int .i64 a, .string s, kv]] w fun e w' => (∃ b, e = .returned (.bool b) ∧ (b = true ↔ OperandP nf f ⟨3, a, s, keys⟩)) ∧ Below w.heap.size w w' := by
 obtain ⟨name, params, locals, entry, fin⟩ := f
 obtain ⟨⟨_, _⟩, ⟨hl0, hl1⟩, ⟨he0, he1, he2⟩⟩ := hf
 obtain ⟨hs1, hk1, hks⟩ := hi
 dsimp only at hl0 hl1 he0 he1 he2 hs1 hk1 hks
 have hb3 := below_3 w (.cells #[.slice A nf ncap, .slice B ni icap] 25) (.cells #[.string name, .int .i64 params, .int .i64 locals, .int .i64 entry, .int .i64 fin] 55) (.cells #[.int .i64 3, .int .i64 a, .string s, kv] 59)
 have HB3 := Lib.hid hb3
 have HKV := Lib.hid (hk.below hb3)
 have HKS := Lib.hid hks
 have HS1 := Lib.hid hs1
 have hnf0 : (0 : Int) ≤ (nf : Int) := by omega
 have hnf9 : (nf : Int) ≤ 40 := by omega
 have HX := Lib.hid (Blk.new ((w.alloc (.cells #[.slice A nf ncap, .slice B ni icap] 25)).alloc (.cells #[.string name, .int .i64 params, .int .i64 locals, .int .i64 entry, .int .i64 fin] 55)) 59 #[.int .i64 3, .int .i64 a, .string s, kv])
 obtain ⟨kA, kcap, rfl, _, _⟩ := hk
 obtain ⟨P, hP⟩ : ∃ P : Ending → World → Prop, (fun e w' => (∃ b, e = .returned (.bool b) ∧ (b = true ↔ OperandP nf ⟨name, params, locals, entry, fin⟩ ⟨3, a, s, keys⟩)) ∧ Below w.heap.size w w') = P := ⟨_, rfl⟩
 rw [hP]
 have HP := Lib.hid hP
 unfold FnD.val
 clear hP hb3 hks
 go_enter Tryz.func124, Tryz.ntmps124
 go_wp2_with (first
  | (go_at_call 179; go_enter Tryz.func179, Tryz.ntmps179)
  | (go_at_call 180; (with_reducible refine (rvalid_any _ _).mono ?_); rintro e w1 ⟨⟨b, rfl, hb⟩, hw1⟩; rw [hw1]; clear hw1 w1; have HBQ := Lib.hid hb; clear hb))
 rw [← HP.out]
 exact ⟨⟨b, rfl, by rw [HBQ.out]; simp [OperandP, bareB]⟩, HB3.out⟩
set_option maxHeartbeats 4000000 in
theorem roperand_4 (nf ncap : Nat) (A B : Option Addr) (f : FnD) (a : Int) (s : ByteArray) (keys : List ByteArray) (kv : Value) (w : World) (hnf : nf ≤ 40) (hf : FnSmall f) (hi : InsOk ⟨4, a, s, keys⟩) (hk : KeysV w kv keys) (ni : Nat) (icap : Nat) :
  Calls Tryz.prog 124 #[.agg #[.slice A nf ncap, .slice B ni icap], f.val, .agg #[.int .i64 4, .int .i64 a, .string s, kv]] w fun e w' => (∃ b, e = .returned (.bool b) ∧ (b = true ↔ OperandP nf f ⟨4, a, s, keys⟩)) ∧ Below w.heap.size w w' := by
 obtain ⟨name, params, locals, entry, fin⟩ := f
 obtain ⟨⟨_, _⟩, ⟨hl0, hl1⟩, ⟨he0, he1, he2⟩⟩ := hf
 obtain ⟨hs1, hk1, hks⟩ := hi
 dsimp only at hl0 hl1 he0 he1 he2 hs1 hk1 hks
 have hb3 := below_3 w (.cells #[.slice A nf ncap, .slice B ni icap] 25) (.cells #[.string name, .int .i64 params, .int .i64 locals, .int .i64 entry, .int .i64 fin] 55) (.cells #[.int .i64 4, .int .i64 a, .string s, kv] 59)
 have HB3 := Lib.hid hb3
 have HKV := Lib.hid (hk.below hb3)
 have HKS := Lib.hid hks
 have HS1 := Lib.hid hs1
 have hnf0 : (0 : Int) ≤ (nf : Int) := by omega
 have hnf9 : (nf : Int) ≤ 40 := by omega
 have HX := Lib.hid (Blk.new ((w.alloc (.cells #[.slice A nf ncap, .slice B ni icap] 25)).alloc (.cells #[.string name, .int .i64 params, .int .i64 locals, .int .i64 entry, .int .i64 fin] 55)) 59 #[.int .i64 4, .int .i64 a, .string s, kv])
 obtain ⟨kA, kcap, rfl, _, _⟩ := hk
 obtain ⟨P, hP⟩ : ∃ P : Ending → World → Prop, (fun e w' => (∃ b, e = .returned (.bool b) ∧ (b = true ↔ OperandP nf ⟨name, params, locals, entry, fin⟩ ⟨4, a, s, keys⟩)) ∧ Below w.heap.size w w') = P := ⟨_, rfl⟩
 rw [hP]
 have HP := Lib.hid hP
 unfold FnD.val
 clear hP hb3 hks
 go_enter Tryz.func124, Tryz.ntmps124
 go_wp2_with (first
  | (go_at_call 179; go_enter Tryz.func179, Tryz.ntmps179))
 all_goals rw [← HP.out]
 all_goals exact ⟨⟨_, rfl, by first | (simp_all [OperandP, bareB]; done) | (simp_all [OperandP, bareB]; omega)⟩, HB3.out⟩
set_option maxHeartbeats 4000000 in
theorem roperand_5 (nf ncap : Nat) (A B : Option Addr) (f : FnD) (a : Int) (s : ByteArray) (keys : List ByteArray) (kv : Value) (w : World) (hnf : nf ≤ 40) (hf : FnSmall f) (hi : InsOk ⟨5, a, s, keys⟩) (hk : KeysV w kv keys) (ni : Nat) (icap : Nat) :
  Calls Tryz.prog 124 #[.agg #[.slice A nf ncap, .slice B ni icap], f.val, .agg #[.int .i64 5, .int .i64 a, .string s, kv]] w fun e w' => (∃ b, e = .returned (.bool b) ∧ (b = true ↔ OperandP nf f ⟨5, a, s, keys⟩)) ∧ Below w.heap.size w w' := by
 obtain ⟨name, params, locals, entry, fin⟩ := f
 obtain ⟨⟨_, _⟩, ⟨hl0, hl1⟩, ⟨he0, he1, he2⟩⟩ := hf
 obtain ⟨hs1, hk1, hks⟩ := hi
 dsimp only at hl0 hl1 he0 he1 he2 hs1 hk1 hks
 have hb3 := below_3 w (.cells #[.slice A nf ncap, .slice B ni icap] 25) (.cells #[.string name, .int .i64 params, .int .i64 locals, .int .i64 entry, .int .i64 fin] 55) (.cells #[.int .i64 5, .int .i64 a, .string s, kv] 59)
 have HB3 := Lib.hid hb3
 have HKV := Lib.hid (hk.below hb3)
 have HKS := Lib.hid hks
 have HS1 := Lib.hid hs1
 have hnf0 : (0 : Int) ≤ (nf : Int) := by omega
 have hnf9 : (nf : Int) ≤ 40 := by omega
 have HX := Lib.hid (Blk.new ((w.alloc (.cells #[.slice A nf ncap, .slice B ni icap] 25)).alloc (.cells #[.string name, .int .i64 params, .int .i64 locals, .int .i64 entry, .int .i64 fin] 55)) 59 #[.int .i64 5, .int .i64 a, .string s, kv])
 obtain ⟨kA, kcap, rfl, _, _⟩ := hk
 obtain ⟨P, hP⟩ : ∃ P : Ending → World → Prop, (fun e w' => (∃ b, e = .returned (.bool b) ∧ (b = true ↔ OperandP nf ⟨name, params, locals, entry, fin⟩ ⟨5, a, s, keys⟩)) ∧ Below w.heap.size w w') = P := ⟨_, rfl⟩
 rw [hP]
 have HP := Lib.hid hP
 unfold FnD.val
 clear hP hb3 hks
 go_enter Tryz.func124, Tryz.ntmps124
 go_wp2_with (first
  | (go_at_call 179; go_enter Tryz.func179, Tryz.ntmps179))
 all_goals rw [← HP.out]
 all_goals exact ⟨⟨_, rfl, by first | (simp_all [OperandP, bareB]; done) | (simp_all [OperandP, bareB]; omega)⟩, HB3.out⟩
set_option maxHeartbeats 4000000 in
theorem roperand_6 (nf ncap : Nat) (A B : Option Addr) (f : FnD) (a : Int) (s : ByteArray) (keys : List ByteArray) (kv : Value) (w : World) (hnf : nf ≤ 40) (hf : FnSmall f) (hi : InsOk ⟨6, a, s, keys⟩) (hk : KeysV w kv keys) (ni : Nat) (icap : Nat) :
  Calls Tryz.prog 124 #[.agg #[.slice A nf ncap, .slice B ni icap], f.val, .agg #[.int .i64 6, .int .i64 a, .string s, kv]] w fun e w' => (∃ b, e = .returned (.bool b) ∧ (b = true ↔ OperandP nf f ⟨6, a, s, keys⟩)) ∧ Below w.heap.size w w' := by
 obtain ⟨name, params, locals, entry, fin⟩ := f
 obtain ⟨⟨_, _⟩, ⟨hl0, hl1⟩, ⟨he0, he1, he2⟩⟩ := hf
 obtain ⟨hs1, hk1, hks⟩ := hi
 dsimp only at hl0 hl1 he0 he1 he2 hs1 hk1 hks
 have hb3 := below_3 w (.cells #[.slice A nf ncap, .slice B ni icap] 25) (.cells #[.string name, .int .i64 params, .int .i64 locals, .int .i64 entry, .int .i64 fin] 55) (.cells #[.int .i64 6, .int .i64 a, .string s, kv] 59)
 have HB3 := Lib.hid hb3
 have HKV := Lib.hid (hk.below hb3)
 have HKS := Lib.hid hks
 have HS1 := Lib.hid hs1
 have hnf0 : (0 : Int) ≤ (nf : Int) := by omega
 have hnf9 : (nf : Int) ≤ 40 := by omega
 have HX := Lib.hid (Blk.new ((w.alloc (.cells #[.slice A nf ncap, .slice B ni icap] 25)).alloc (.cells #[.string name, .int .i64 params, .int .i64 locals, .int .i64 entry, .int .i64 fin] 55)) 59 #[.int .i64 6, .int .i64 a, .string s, kv])
 obtain ⟨kA, kcap, rfl, _, _⟩ := hk
 obtain ⟨P, hP⟩ : ∃ P : Ending → World → Prop, (fun e w' => (∃ b, e = .returned (.bool b) ∧ (b = true ↔ OperandP nf ⟨name, params, locals, entry, fin⟩ ⟨6, a, s, keys⟩)) ∧ Below w.heap.size w w') = P := ⟨_, rfl⟩
 rw [hP]
 have HP := Lib.hid hP
 unfold FnD.val
 clear hP hb3 hks
 go_enter Tryz.func124, Tryz.ntmps124
 go_wp2_with (first
  | (go_at_call 179; go_enter Tryz.func179, Tryz.ntmps179))
 all_goals rw [← HP.out]
 all_goals exact ⟨⟨_, rfl, by first | (simp_all [OperandP, bareB]; done) | (simp_all [OperandP, bareB]; omega)⟩, HB3.out⟩
set_option maxHeartbeats 4000000 in
theorem roperand_7 (nf ncap : Nat) (A B : Option Addr) (f : FnD) (a : Int) (s : ByteArray) (keys : List ByteArray) (kv : Value) (w : World) (hnf : nf ≤ 40) (hf : FnSmall f) (hi : InsOk ⟨7, a, s, keys⟩) (hk : KeysV w kv keys) (ni : Nat) (icap : Nat) :
  Calls Tryz.prog 124 #[.agg #[.slice A nf ncap, .slice B ni icap], f.val, .agg #[.int .i64 7, .int .i64 a, .string s, kv]] w fun e w' => (∃ b, e = .returned (.bool b) ∧ (b = true ↔ OperandP nf f ⟨7, a, s, keys⟩)) ∧ Below w.heap.size w w' := by
 obtain ⟨name, params, locals, entry, fin⟩ := f
 obtain ⟨⟨_, _⟩, ⟨hl0, hl1⟩, ⟨he0, he1, he2⟩⟩ := hf
 obtain ⟨hs1, hk1, hks⟩ := hi
 dsimp only at hl0 hl1 he0 he1 he2 hs1 hk1 hks
 have hb3 := below_3 w (.cells #[.slice A nf ncap, .slice B ni icap] 25) (.cells #[.string name, .int .i64 params, .int .i64 locals, .int .i64 entry, .int .i64 fin] 55) (.cells #[.int .i64 7, .int .i64 a, .string s, kv] 59)
 have HB3 := Lib.hid hb3
 have HKV := Lib.hid (hk.below hb3)
 have HKS := Lib.hid hks
 have HS1 := Lib.hid hs1
 have hnf0 : (0 : Int) ≤ (nf : Int) := by omega
 have hnf9 : (nf : Int) ≤ 40 := by omega
 have HX := Lib.hid (Blk.new ((w.alloc (.cells #[.slice A nf ncap, .slice B ni icap] 25)).alloc (.cells #[.string name, .int .i64 params, .int .i64 locals, .int .i64 entry, .int .i64 fin] 55)) 59 #[.int .i64 7, .int .i64 a, .string s, kv])
 obtain ⟨kA, kcap, rfl, _, _⟩ := hk
 obtain ⟨P, hP⟩ : ∃ P : Ending → World → Prop, (fun e w' => (∃ b, e = .returned (.bool b) ∧ (b = true ↔ OperandP nf ⟨name, params, locals, entry, fin⟩ ⟨7, a, s, keys⟩)) ∧ Below w.heap.size w w') = P := ⟨_, rfl⟩
 rw [hP]
 have HP := Lib.hid hP
 unfold FnD.val
 clear hP hb3 hks
 go_enter Tryz.func124, Tryz.ntmps124
 go_wp2_with (first
  | (go_at_call 179; go_enter Tryz.func179, Tryz.ntmps179))
 all_goals rw [← HP.out]
 all_goals exact ⟨⟨_, rfl, by first | (simp_all [OperandP, bareB]; done) | (simp_all [OperandP, bareB]; omega)⟩, HB3.out⟩
set_option maxHeartbeats 4000000 in
theorem roperand_8 (nf ncap : Nat) (A B : Option Addr) (f : FnD) (a : Int) (s : ByteArray) (keys : List ByteArray) (kv : Value) (w : World) (hnf : nf ≤ 40) (hf : FnSmall f) (hi : InsOk ⟨8, a, s, keys⟩) (hk : KeysV w kv keys) (ni : Nat) (icap : Nat) :
  Calls Tryz.prog 124 #[.agg #[.slice A nf ncap, .slice B ni icap], f.val, .agg #[.int .i64 8, .int .i64 a, .string s, kv]] w fun e w' => (∃ b, e = .returned (.bool b) ∧ (b = true ↔ OperandP nf f ⟨8, a, s, keys⟩)) ∧ Below w.heap.size w w' := by
 obtain ⟨name, params, locals, entry, fin⟩ := f
 obtain ⟨⟨_, _⟩, ⟨hl0, hl1⟩, ⟨he0, he1, he2⟩⟩ := hf
 obtain ⟨hs1, hk1, hks⟩ := hi
 dsimp only at hl0 hl1 he0 he1 he2 hs1 hk1 hks
 have hb3 := below_3 w (.cells #[.slice A nf ncap, .slice B ni icap] 25) (.cells #[.string name, .int .i64 params, .int .i64 locals, .int .i64 entry, .int .i64 fin] 55) (.cells #[.int .i64 8, .int .i64 a, .string s, kv] 59)
 have HB3 := Lib.hid hb3
 have HKV := Lib.hid (hk.below hb3)
 have HKS := Lib.hid hks
 have HS1 := Lib.hid hs1
 have hnf0 : (0 : Int) ≤ (nf : Int) := by omega
 have hnf9 : (nf : Int) ≤ 40 := by omega
 have HX := Lib.hid (Blk.new ((w.alloc (.cells #[.slice A nf ncap, .slice B ni icap] 25)).alloc (.cells #[.string name, .int .i64 params, .int .i64 locals, .int .i64 entry, .int .i64 fin] 55)) 59 #[.int .i64 8, .int .i64 a, .string s, kv])
 obtain ⟨kA, kcap, rfl, _, _⟩ := hk
 obtain ⟨P, hP⟩ : ∃ P : Ending → World → Prop, (fun e w' => (∃ b, e = .returned (.bool b) ∧ (b = true ↔ OperandP nf ⟨name, params, locals, entry, fin⟩ ⟨8, a, s, keys⟩)) ∧ Below w.heap.size w w') = P := ⟨_, rfl⟩
 rw [hP]
 have HP := Lib.hid hP
 unfold FnD.val
 clear hP hb3 hks
 go_enter Tryz.func124, Tryz.ntmps124
 go_wp2_with (first
  | (go_at_call 179; go_enter Tryz.func179, Tryz.ntmps179))
 all_goals rw [← HP.out]
 all_goals exact ⟨⟨_, rfl, by first | (simp_all [OperandP, bareB]; done) | (simp_all [OperandP, bareB]; omega)⟩, HB3.out⟩
set_option maxHeartbeats 4000000 in
theorem roperand_9 (nf ncap : Nat) (A B : Option Addr) (f : FnD) (a : Int) (s : ByteArray) (keys : List ByteArray) (kv : Value) (w : World) (hnf : nf ≤ 40) (hf : FnSmall f) (hi : InsOk ⟨9, a, s, keys⟩) (hk : KeysV w kv keys) (ni : Nat) (icap : Nat) :
  Calls Tryz.prog 124 #[.agg #[.slice A nf ncap, .slice B ni icap], f.val, .agg #[.int .i64 9, .int .i64 a, .string s, kv]] w fun e w' => (∃ b, e = .returned (.bool b) ∧ (b = true ↔ OperandP nf f ⟨9, a, s, keys⟩)) ∧ Below w.heap.size w w' := by
 obtain ⟨name, params, locals, entry, fin⟩ := f
 obtain ⟨⟨_, _⟩, ⟨hl0, hl1⟩, ⟨he0, he1, he2⟩⟩ := hf
 obtain ⟨hs1, hk1, hks⟩ := hi
 dsimp only at hl0 hl1 he0 he1 he2 hs1 hk1 hks
 have hb3 := below_3 w (.cells #[.slice A nf ncap, .slice B ni icap] 25) (.cells #[.string name, .int .i64 params, .int .i64 locals, .int .i64 entry, .int .i64 fin] 55) (.cells #[.int .i64 9, .int .i64 a, .string s, kv] 59)
 have HB3 := Lib.hid hb3
 have HKV := Lib.hid (hk.below hb3)
 have HKS := Lib.hid hks
 have HS1 := Lib.hid hs1
 have hnf0 : (0 : Int) ≤ (nf : Int) := by omega
 have hnf9 : (nf : Int) ≤ 40 := by omega
 have HX := Lib.hid (Blk.new ((w.alloc (.cells #[.slice A nf ncap, .slice B ni icap] 25)).alloc (.cells #[.string name, .int .i64 params, .int .i64 locals, .int .i64 entry, .int .i64 fin] 55)) 59 #[.int .i64 9, .int .i64 a, .string s, kv])
 obtain ⟨kA, kcap, rfl, _, _⟩ := hk
 obtain ⟨P, hP⟩ : ∃ P : Ending → World → Prop, (fun e w' => (∃ b, e = .returned (.bool b) ∧ (b = true ↔ OperandP nf ⟨name, params, locals, entry, fin⟩ ⟨9, a, s, keys⟩)) ∧ Below w.heap.size w w') = P := ⟨_, rfl⟩
 rw [hP]
 have HP := Lib.hid hP
 unfold FnD.val
 clear hP hb3 hks
 go_enter Tryz.func124, Tryz.ntmps124
 go_wp2_with (first
  | (go_at_call 179; go_enter Tryz.func179, Tryz.ntmps179))
 all_goals rw [← HP.out]
 all_goals exact ⟨⟨_, rfl, by first | (simp_all [OperandP, bareB]; done) | (simp_all [OperandP, bareB]; omega)⟩, HB3.out⟩
set_option maxHeartbeats 4000000 in
theorem roperand_10 (nf ncap : Nat) (A B : Option Addr) (f : FnD) (a : Int) (s : ByteArray) (keys : List ByteArray) (kv : Value) (w : World) (hnf : nf ≤ 40) (hf : FnSmall f) (hi : InsOk ⟨10, a, s, keys⟩) (hk : KeysV w kv keys) (ni : Nat) (icap : Nat) :
  Calls Tryz.prog 124 #[.agg #[.slice A nf ncap, .slice B ni icap], f.val, .agg #[.int .i64 10, .int .i64 a, .string s, kv]] w fun e w' => (∃ b, e = .returned (.bool b) ∧ (b = true ↔ OperandP nf f ⟨10, a, s, keys⟩)) ∧ Below w.heap.size w w' := by
 obtain ⟨name, params, locals, entry, fin⟩ := f
 obtain ⟨⟨_, _⟩, ⟨hl0, hl1⟩, ⟨he0, he1, he2⟩⟩ := hf
 obtain ⟨hs1, hk1, hks⟩ := hi
 dsimp only at hl0 hl1 he0 he1 he2 hs1 hk1 hks
 have hb3 := below_3 w (.cells #[.slice A nf ncap, .slice B ni icap] 25) (.cells #[.string name, .int .i64 params, .int .i64 locals, .int .i64 entry, .int .i64 fin] 55) (.cells #[.int .i64 10, .int .i64 a, .string s, kv] 59)
 have HB3 := Lib.hid hb3
 have HKV := Lib.hid (hk.below hb3)
 have HKS := Lib.hid hks
 have HS1 := Lib.hid hs1
 have hnf0 : (0 : Int) ≤ (nf : Int) := by omega
 have hnf9 : (nf : Int) ≤ 40 := by omega
 have HX := Lib.hid (Blk.new ((w.alloc (.cells #[.slice A nf ncap, .slice B ni icap] 25)).alloc (.cells #[.string name, .int .i64 params, .int .i64 locals, .int .i64 entry, .int .i64 fin] 55)) 59 #[.int .i64 10, .int .i64 a, .string s, kv])
 obtain ⟨kA, kcap, rfl, _, _⟩ := hk
 obtain ⟨P, hP⟩ : ∃ P : Ending → World → Prop, (fun e w' => (∃ b, e = .returned (.bool b) ∧ (b = true ↔ OperandP nf ⟨name, params, locals, entry, fin⟩ ⟨10, a, s, keys⟩)) ∧ Below w.heap.size w w') = P := ⟨_, rfl⟩
 rw [hP]
 have HP := Lib.hid hP
 unfold FnD.val
 clear hP hb3 hks
 go_enter Tryz.func124, Tryz.ntmps124
 go_wp2_with (first
  | (go_at_call 179; go_enter Tryz.func179, Tryz.ntmps179))
 all_goals rw [← HP.out]
 all_goals exact ⟨⟨_, rfl, by first | (simp_all [OperandP, bareB]; done) | (simp_all [OperandP, bareB]; omega)⟩, HB3.out⟩
set_option maxHeartbeats 4000000 in
theorem roperand_11 (nf ncap : Nat) (A B : Option Addr) (f : FnD) (a : Int) (s : ByteArray) (keys : List ByteArray) (kv : Value) (w : World) (hnf : nf ≤ 40) (hf : FnSmall f) (hi : InsOk ⟨11, a, s, keys⟩) (hk : KeysV w kv keys) (ni : Nat) (icap : Nat) :
  Calls Tryz.prog 124 #[.agg #[.slice A nf ncap, .slice B ni icap], f.val, .agg #[.int .i64 11, .int .i64 a, .string s, kv]] w fun e w' => (∃ b, e = .returned (.bool b) ∧ (b = true ↔ OperandP nf f ⟨11, a, s, keys⟩)) ∧ Below w.heap.size w w' := by
 obtain ⟨name, params, locals, entry, fin⟩ := f
 obtain ⟨⟨_, _⟩, ⟨hl0, hl1⟩, ⟨he0, he1, he2⟩⟩ := hf
 obtain ⟨hs1, hk1, hks⟩ := hi
 dsimp only at hl0 hl1 he0 he1 he2 hs1 hk1 hks
 have hb3 := below_3 w (.cells #[.slice A nf ncap, .slice B ni icap] 25) (.cells #[.string name, .int .i64 params, .int .i64 locals, .int .i64 entry, .int .i64 fin] 55) (.cells #[.int .i64 11, .int .i64 a, .string s, kv] 59)
 have HB3 := Lib.hid hb3
 have HKV := Lib.hid (hk.below hb3)
 have HKS := Lib.hid hks
 have HS1 := Lib.hid hs1
 have hnf0 : (0 : Int) ≤ (nf : Int) := by omega
 have hnf9 : (nf : Int) ≤ 40 := by omega
 have HX := Lib.hid (Blk.new ((w.alloc (.cells #[.slice A nf ncap, .slice B ni icap] 25)).alloc (.cells #[.string name, .int .i64 params, .int .i64 locals, .int .i64 entry, .int .i64 fin] 55)) 59 #[.int .i64 11, .int .i64 a, .string s, kv])
 obtain ⟨kA, kcap, rfl, _, _⟩ := hk
 obtain ⟨P, hP⟩ : ∃ P : Ending → World → Prop, (fun e w' => (∃ b, e = .returned (.bool b) ∧ (b = true ↔ OperandP nf ⟨name, params, locals, entry, fin⟩ ⟨11, a, s, keys⟩)) ∧ Below w.heap.size w w') = P := ⟨_, rfl⟩
 rw [hP]
 have HP := Lib.hid hP
 unfold FnD.val
 clear hP hb3 hks
 go_enter Tryz.func124, Tryz.ntmps124
 go_wp2_with (first
  | (go_at_call 179; go_enter Tryz.func179, Tryz.ntmps179))
 all_goals rw [← HP.out]
 all_goals exact ⟨⟨_, rfl, by first | (simp_all [OperandP, bareB]; done) | (simp_all [OperandP, bareB]; omega)⟩, HB3.out⟩
set_option maxHeartbeats 4000000 in
theorem roperand_12 (nf ncap : Nat) (A B : Option Addr) (f : FnD) (a : Int) (s : ByteArray) (keys : List ByteArray) (kv : Value) (w : World) (hnf : nf ≤ 40) (hf : FnSmall f) (hi : InsOk ⟨12, a, s, keys⟩) (hk : KeysV w kv keys) (ni : Nat) (icap : Nat) :
  Calls Tryz.prog 124 #[.agg #[.slice A nf ncap, .slice B ni icap], f.val, .agg #[.int .i64 12, .int .i64 a, .string s, kv]] w fun e w' => (∃ b, e = .returned (.bool b) ∧ (b = true ↔ OperandP nf f ⟨12, a, s, keys⟩)) ∧ Below w.heap.size w w' := by
 obtain ⟨name, params, locals, entry, fin⟩ := f
 obtain ⟨⟨_, _⟩, ⟨hl0, hl1⟩, ⟨he0, he1, he2⟩⟩ := hf
 obtain ⟨hs1, hk1, hks⟩ := hi
 dsimp only at hl0 hl1 he0 he1 he2 hs1 hk1 hks
 have hb3 := below_3 w (.cells #[.slice A nf ncap, .slice B ni icap] 25) (.cells #[.string name, .int .i64 params, .int .i64 locals, .int .i64 entry, .int .i64 fin] 55) (.cells #[.int .i64 12, .int .i64 a, .string s, kv] 59)
 have HB3 := Lib.hid hb3
 have HKV := Lib.hid (hk.below hb3)
 have HKS := Lib.hid hks
 have HS1 := Lib.hid hs1
 have hnf0 : (0 : Int) ≤ (nf : Int) := by omega
 have hnf9 : (nf : Int) ≤ 40 := by omega
 have HX := Lib.hid (Blk.new ((w.alloc (.cells #[.slice A nf ncap, .slice B ni icap] 25)).alloc (.cells #[.string name, .int .i64 params, .int .i64 locals, .int .i64 entry, .int .i64 fin] 55)) 59 #[.int .i64 12, .int .i64 a, .string s, kv])
 obtain ⟨kA, kcap, rfl, _, _⟩ := hk
 obtain ⟨P, hP⟩ : ∃ P : Ending → World → Prop, (fun e w' => (∃ b, e = .returned (.bool b) ∧ (b = true ↔ OperandP nf ⟨name, params, locals, entry, fin⟩ ⟨12, a, s, keys⟩)) ∧ Below w.heap.size w w') = P := ⟨_, rfl⟩
 rw [hP]
 have HP := Lib.hid hP
 unfold FnD.val
 clear hP hb3 hks
 by_cases ha : a = keys.length
 ·subst ha
  have hkk : ((keys.length : Int) == (keys.length : Int)) = true := by simp
  go_enter Tryz.func124, Tryz.ntmps124
  go_wp2_with (first
   | (go_at_call 179; go_enter Tryz.func179, Tryz.ntmps179))
  all_goals rw [← HP.out]
  all_goals exact ⟨⟨_, rfl, by first | (simp_all [OperandP, bareB]; done) | (simp_all [OperandP, bareB]; omega)⟩, HB3.out⟩
 ·have ha' : (a == (keys.length : Int)) = false := by simpa using ha
  go_enter Tryz.func124, Tryz.ntmps124
  go_wp2_with (first
   | (go_at_call 179; go_enter Tryz.func179, Tryz.ntmps179))
  all_goals rw [← HP.out]
  all_goals exact ⟨⟨false, rfl, by simp [OperandP, bareB]; intro h; exact absurd h ha⟩, HB3.out⟩
set_option maxHeartbeats 4000000 in
theorem roperand_13 (nf ncap : Nat) (A B : Option Addr) (f : FnD) (a : Int) (s : ByteArray) (keys : List ByteArray) (kv : Value) (w : World) (hnf : nf ≤ 40) (hf : FnSmall f) (hi : InsOk ⟨13, a, s, keys⟩) (hk : KeysV w kv keys) (ni : Nat) (icap : Nat) :
  Calls Tryz.prog 124 #[.agg #[.slice A nf ncap, .slice B ni icap], f.val, .agg #[.int .i64 13, .int .i64 a, .string s, kv]] w fun e w' => (∃ b, e = .returned (.bool b) ∧ (b = true ↔ OperandP nf f ⟨13, a, s, keys⟩)) ∧ Below w.heap.size w w' := by
 obtain ⟨name, params, locals, entry, fin⟩ := f
 obtain ⟨⟨_, _⟩, ⟨hl0, hl1⟩, ⟨he0, he1, he2⟩⟩ := hf
 obtain ⟨hs1, hk1, hks⟩ := hi
 dsimp only at hl0 hl1 he0 he1 he2 hs1 hk1 hks
 have hb3 := below_3 w (.cells #[.slice A nf ncap, .slice B ni icap] 25) (.cells #[.string name, .int .i64 params, .int .i64 locals, .int .i64 entry, .int .i64 fin] 55) (.cells #[.int .i64 13, .int .i64 a, .string s, kv] 59)
 have HB3 := Lib.hid hb3
 have HKV := Lib.hid (hk.below hb3)
 have HKS := Lib.hid hks
 have HS1 := Lib.hid hs1
 have hnf0 : (0 : Int) ≤ (nf : Int) := by omega
 have hnf9 : (nf : Int) ≤ 40 := by omega
 have HX := Lib.hid (Blk.new ((w.alloc (.cells #[.slice A nf ncap, .slice B ni icap] 25)).alloc (.cells #[.string name, .int .i64 params, .int .i64 locals, .int .i64 entry, .int .i64 fin] 55)) 59 #[.int .i64 13, .int .i64 a, .string s, kv])
 obtain ⟨kA, kcap, rfl, _, _⟩ := hk
 obtain ⟨P, hP⟩ : ∃ P : Ending → World → Prop, (fun e w' => (∃ b, e = .returned (.bool b) ∧ (b = true ↔ OperandP nf ⟨name, params, locals, entry, fin⟩ ⟨13, a, s, keys⟩)) ∧ Below w.heap.size w w') = P := ⟨_, rfl⟩
 rw [hP]
 have HP := Lib.hid hP
 unfold FnD.val
 clear hP hb3 hks
 go_enter Tryz.func124, Tryz.ntmps124
 go_wp2_with (first
  | (go_at_call 179; go_enter Tryz.func179, Tryz.ntmps179))
 all_goals rw [← HP.out]
 all_goals exact ⟨⟨_, rfl, by first | (simp_all [OperandP, bareB]; done) | (simp_all [OperandP, bareB]; omega)⟩, HB3.out⟩
set_option maxHeartbeats 4000000 in
theorem roperand_14 (nf ncap : Nat) (A B : Option Addr) (f : FnD) (a : Int) (s : ByteArray) (keys : List ByteArray) (kv : Value) (w : World) (hnf : nf ≤ 40) (hf : FnSmall f) (hi : InsOk ⟨14, a, s, keys⟩) (hk : KeysV w kv keys) (ni : Nat) (icap : Nat) :
  Calls Tryz.prog 124 #[.agg #[.slice A nf ncap, .slice B ni icap], f.val, .agg #[.int .i64 14, .int .i64 a, .string s, kv]] w fun e w' => (∃ b, e = .returned (.bool b) ∧ (b = true ↔ OperandP nf f ⟨14, a, s, keys⟩)) ∧ Below w.heap.size w w' := by
 obtain ⟨name, params, locals, entry, fin⟩ := f
 obtain ⟨⟨_, _⟩, ⟨hl0, hl1⟩, ⟨he0, he1, he2⟩⟩ := hf
 obtain ⟨hs1, hk1, hks⟩ := hi
 dsimp only at hl0 hl1 he0 he1 he2 hs1 hk1 hks
 have hb3 := below_3 w (.cells #[.slice A nf ncap, .slice B ni icap] 25) (.cells #[.string name, .int .i64 params, .int .i64 locals, .int .i64 entry, .int .i64 fin] 55) (.cells #[.int .i64 14, .int .i64 a, .string s, kv] 59)
 have HB3 := Lib.hid hb3
 have HKV := Lib.hid (hk.below hb3)
 have HKS := Lib.hid hks
 have HS1 := Lib.hid hs1
 have hnf0 : (0 : Int) ≤ (nf : Int) := by omega
 have hnf9 : (nf : Int) ≤ 40 := by omega
 have HX := Lib.hid (Blk.new ((w.alloc (.cells #[.slice A nf ncap, .slice B ni icap] 25)).alloc (.cells #[.string name, .int .i64 params, .int .i64 locals, .int .i64 entry, .int .i64 fin] 55)) 59 #[.int .i64 14, .int .i64 a, .string s, kv])
 obtain ⟨kA, kcap, rfl, _, _⟩ := hk
 obtain ⟨P, hP⟩ : ∃ P : Ending → World → Prop, (fun e w' => (∃ b, e = .returned (.bool b) ∧ (b = true ↔ OperandP nf ⟨name, params, locals, entry, fin⟩ ⟨14, a, s, keys⟩)) ∧ Below w.heap.size w w') = P := ⟨_, rfl⟩
 rw [hP]
 have HP := Lib.hid hP
 unfold FnD.val
 clear hP hb3 hks
 go_enter Tryz.func124, Tryz.ntmps124
 go_wp2_with (first
  | (go_at_call 179; go_enter Tryz.func179, Tryz.ntmps179))
 all_goals rw [← HP.out]
 all_goals exact ⟨⟨_, rfl, by first | (simp_all [OperandP, bareB]; done) | (simp_all [OperandP, bareB]; omega)⟩, HB3.out⟩
set_option maxHeartbeats 4000000 in
theorem roperand_15 (nf ncap : Nat) (A B : Option Addr) (f : FnD) (a : Int) (s : ByteArray) (keys : List ByteArray) (kv : Value) (w : World) (hnf : nf ≤ 40) (hf : FnSmall f) (hi : InsOk ⟨15, a, s, keys⟩) (hk : KeysV w kv keys) (ni : Nat) (icap : Nat) :
  Calls Tryz.prog 124 #[.agg #[.slice A nf ncap, .slice B ni icap], f.val, .agg #[.int .i64 15, .int .i64 a, .string s, kv]] w fun e w' => (∃ b, e = .returned (.bool b) ∧ (b = true ↔ OperandP nf f ⟨15, a, s, keys⟩)) ∧ Below w.heap.size w w' := by
 obtain ⟨name, params, locals, entry, fin⟩ := f
 obtain ⟨⟨_, _⟩, ⟨hl0, hl1⟩, ⟨he0, he1, he2⟩⟩ := hf
 obtain ⟨hs1, hk1, hks⟩ := hi
 dsimp only at hl0 hl1 he0 he1 he2 hs1 hk1 hks
 have hb3 := below_3 w (.cells #[.slice A nf ncap, .slice B ni icap] 25) (.cells #[.string name, .int .i64 params, .int .i64 locals, .int .i64 entry, .int .i64 fin] 55) (.cells #[.int .i64 15, .int .i64 a, .string s, kv] 59)
 have HB3 := Lib.hid hb3
 have HKV := Lib.hid (hk.below hb3)
 have HKS := Lib.hid hks
 have HS1 := Lib.hid hs1
 have hnf0 : (0 : Int) ≤ (nf : Int) := by omega
 have hnf9 : (nf : Int) ≤ 40 := by omega
 have HX := Lib.hid (Blk.new ((w.alloc (.cells #[.slice A nf ncap, .slice B ni icap] 25)).alloc (.cells #[.string name, .int .i64 params, .int .i64 locals, .int .i64 entry, .int .i64 fin] 55)) 59 #[.int .i64 15, .int .i64 a, .string s, kv])
 obtain ⟨kA, kcap, rfl, _, _⟩ := hk
 obtain ⟨P, hP⟩ : ∃ P : Ending → World → Prop, (fun e w' => (∃ b, e = .returned (.bool b) ∧ (b = true ↔ OperandP nf ⟨name, params, locals, entry, fin⟩ ⟨15, a, s, keys⟩)) ∧ Below w.heap.size w w') = P := ⟨_, rfl⟩
 rw [hP]
 have HP := Lib.hid hP
 unfold FnD.val
 clear hP hb3 hks
 go_enter Tryz.func124, Tryz.ntmps124
 go_wp2_with (first
  | (go_at_call 179; go_enter Tryz.func179, Tryz.ntmps179))
 all_goals rw [← HP.out]
 all_goals exact ⟨⟨_, rfl, by first | (simp_all [OperandP, bareB]; done) | (simp_all [OperandP, bareB]; omega)⟩, HB3.out⟩
set_option maxHeartbeats 4000000 in
theorem roperand_16 (nf ncap : Nat) (A B : Option Addr) (f : FnD) (a : Int) (s : ByteArray) (keys : List ByteArray) (kv : Value) (w : World) (hnf : nf ≤ 40) (hf : FnSmall f) (hi : InsOk ⟨16, a, s, keys⟩) (hk : KeysV w kv keys) (ni : Nat) (icap : Nat) :
  Calls Tryz.prog 124 #[.agg #[.slice A nf ncap, .slice B ni icap], f.val, .agg #[.int .i64 16, .int .i64 a, .string s, kv]] w fun e w' => (∃ b, e = .returned (.bool b) ∧ (b = true ↔ OperandP nf f ⟨16, a, s, keys⟩)) ∧ Below w.heap.size w w' := by
 obtain ⟨name, params, locals, entry, fin⟩ := f
 obtain ⟨⟨_, _⟩, ⟨hl0, hl1⟩, ⟨he0, he1, he2⟩⟩ := hf
 obtain ⟨hs1, hk1, hks⟩ := hi
 dsimp only at hl0 hl1 he0 he1 he2 hs1 hk1 hks
 have hb3 := below_3 w (.cells #[.slice A nf ncap, .slice B ni icap] 25) (.cells #[.string name, .int .i64 params, .int .i64 locals, .int .i64 entry, .int .i64 fin] 55) (.cells #[.int .i64 16, .int .i64 a, .string s, kv] 59)
 have HB3 := Lib.hid hb3
 have HKV := Lib.hid (hk.below hb3)
 have HKS := Lib.hid hks
 have HS1 := Lib.hid hs1
 have hnf0 : (0 : Int) ≤ (nf : Int) := by omega
 have hnf9 : (nf : Int) ≤ 40 := by omega
 have HX := Lib.hid (Blk.new ((w.alloc (.cells #[.slice A nf ncap, .slice B ni icap] 25)).alloc (.cells #[.string name, .int .i64 params, .int .i64 locals, .int .i64 entry, .int .i64 fin] 55)) 59 #[.int .i64 16, .int .i64 a, .string s, kv])
 obtain ⟨kA, kcap, rfl, _, _⟩ := hk
 obtain ⟨P, hP⟩ : ∃ P : Ending → World → Prop, (fun e w' => (∃ b, e = .returned (.bool b) ∧ (b = true ↔ OperandP nf ⟨name, params, locals, entry, fin⟩ ⟨16, a, s, keys⟩)) ∧ Below w.heap.size w w') = P := ⟨_, rfl⟩
 rw [hP]
 have HP := Lib.hid hP
 unfold FnD.val
 clear hP hb3 hks
 go_enter Tryz.func124, Tryz.ntmps124
 go_wp2_with (first
  | (go_at_call 179; go_enter Tryz.func179, Tryz.ntmps179))
 all_goals rw [← HP.out]
 all_goals exact ⟨⟨_, rfl, by first | (simp_all [OperandP, bareB]; done) | (simp_all [OperandP, bareB]; omega)⟩, HB3.out⟩
set_option maxHeartbeats 4000000 in
theorem roperand_17 (nf ncap : Nat) (A B : Option Addr) (f : FnD) (a : Int) (s : ByteArray) (keys : List ByteArray) (kv : Value) (w : World) (hnf : nf ≤ 40) (hf : FnSmall f) (hi : InsOk ⟨17, a, s, keys⟩) (hk : KeysV w kv keys) (ni : Nat) (icap : Nat) :
  Calls Tryz.prog 124 #[.agg #[.slice A nf ncap, .slice B ni icap], f.val, .agg #[.int .i64 17, .int .i64 a, .string s, kv]] w fun e w' => (∃ b, e = .returned (.bool b) ∧ (b = true ↔ OperandP nf f ⟨17, a, s, keys⟩)) ∧ Below w.heap.size w w' := by
 obtain ⟨name, params, locals, entry, fin⟩ := f
 obtain ⟨⟨_, _⟩, ⟨hl0, hl1⟩, ⟨he0, he1, he2⟩⟩ := hf
 obtain ⟨hs1, hk1, hks⟩ := hi
 dsimp only at hl0 hl1 he0 he1 he2 hs1 hk1 hks
 have hb3 := below_3 w (.cells #[.slice A nf ncap, .slice B ni icap] 25) (.cells #[.string name, .int .i64 params, .int .i64 locals, .int .i64 entry, .int .i64 fin] 55) (.cells #[.int .i64 17, .int .i64 a, .string s, kv] 59)
 have HB3 := Lib.hid hb3
 have HKV := Lib.hid (hk.below hb3)
 have HKS := Lib.hid hks
 have HS1 := Lib.hid hs1
 have hnf0 : (0 : Int) ≤ (nf : Int) := by omega
 have hnf9 : (nf : Int) ≤ 40 := by omega
 have HX := Lib.hid (Blk.new ((w.alloc (.cells #[.slice A nf ncap, .slice B ni icap] 25)).alloc (.cells #[.string name, .int .i64 params, .int .i64 locals, .int .i64 entry, .int .i64 fin] 55)) 59 #[.int .i64 17, .int .i64 a, .string s, kv])
 obtain ⟨kA, kcap, rfl, _, _⟩ := hk
 obtain ⟨P, hP⟩ : ∃ P : Ending → World → Prop, (fun e w' => (∃ b, e = .returned (.bool b) ∧ (b = true ↔ OperandP nf ⟨name, params, locals, entry, fin⟩ ⟨17, a, s, keys⟩)) ∧ Below w.heap.size w w') = P := ⟨_, rfl⟩
 rw [hP]
 have HP := Lib.hid hP
 unfold FnD.val
 clear hP hb3 hks
 go_enter Tryz.func124, Tryz.ntmps124
 go_wp2_with (first
  | (go_at_call 179; go_enter Tryz.func179, Tryz.ntmps179))
 all_goals rw [← HP.out]
 all_goals exact ⟨⟨_, rfl, by first | (simp_all [OperandP, bareB]; done) | (simp_all [OperandP, bareB]; omega)⟩, HB3.out⟩
set_option maxHeartbeats 4000000 in
theorem roperand_18 (nf ncap : Nat) (A B : Option Addr) (f : FnD) (a : Int) (s : ByteArray) (keys : List ByteArray) (kv : Value) (w : World) (hnf : nf ≤ 40) (hf : FnSmall f) (hi : InsOk ⟨18, a, s, keys⟩) (hk : KeysV w kv keys) (ni : Nat) (icap : Nat) :
  Calls Tryz.prog 124 #[.agg #[.slice A nf ncap, .slice B ni icap], f.val, .agg #[.int .i64 18, .int .i64 a, .string s, kv]] w fun e w' => (∃ b, e = .returned (.bool b) ∧ (b = true ↔ OperandP nf f ⟨18, a, s, keys⟩)) ∧ Below w.heap.size w w' := by
 obtain ⟨name, params, locals, entry, fin⟩ := f
 obtain ⟨⟨_, _⟩, ⟨hl0, hl1⟩, ⟨he0, he1, he2⟩⟩ := hf
 obtain ⟨hs1, hk1, hks⟩ := hi
 dsimp only at hl0 hl1 he0 he1 he2 hs1 hk1 hks
 have hb3 := below_3 w (.cells #[.slice A nf ncap, .slice B ni icap] 25) (.cells #[.string name, .int .i64 params, .int .i64 locals, .int .i64 entry, .int .i64 fin] 55) (.cells #[.int .i64 18, .int .i64 a, .string s, kv] 59)
 have HB3 := Lib.hid hb3
 have HKV := Lib.hid (hk.below hb3)
 have HKS := Lib.hid hks
 have HS1 := Lib.hid hs1
 have hnf0 : (0 : Int) ≤ (nf : Int) := by omega
 have hnf9 : (nf : Int) ≤ 40 := by omega
 have HX := Lib.hid (Blk.new ((w.alloc (.cells #[.slice A nf ncap, .slice B ni icap] 25)).alloc (.cells #[.string name, .int .i64 params, .int .i64 locals, .int .i64 entry, .int .i64 fin] 55)) 59 #[.int .i64 18, .int .i64 a, .string s, kv])
 obtain ⟨kA, kcap, rfl, _, _⟩ := hk
 obtain ⟨P, hP⟩ : ∃ P : Ending → World → Prop, (fun e w' => (∃ b, e = .returned (.bool b) ∧ (b = true ↔ OperandP nf ⟨name, params, locals, entry, fin⟩ ⟨18, a, s, keys⟩)) ∧ Below w.heap.size w w') = P := ⟨_, rfl⟩
 rw [hP]
 have HP := Lib.hid hP
 unfold FnD.val
 clear hP hb3 hks
 obtain ⟨r, hr⟩ : ∃ r, lookL builtL s = r := ⟨_, rfl⟩
 obtain ⟨r0, hr0⟩ : ∃ r, lookL builtL s = r := ⟨_, rfl⟩
 have HR := Lib.hid hr
 have HC0 : Hid (∀ wx, Calls Tryz.prog 181 #[.string s] wx fun e w' => e = .returned (.tuple #[.int .i64 (r0.getD 0), .bool r0.isSome]) ∧ w' = wx) := Lib.hid (fun wx => by rw [← hr0]; exact rbuilt_any s wx)
 have HC1 : Hid (∀ wx, Calls Tryz.prog 182 #[.string s] wx fun e w' => e = .returned (.tuple #[.int .i64 ((lookL hostL s).getD 0), .bool (lookL hostL s).isSome]) ∧ w' = wx) := Lib.hid (fun wx => rhost_any s wx)
 have hrr : r = r0 := by rw [← hr, ← hr0]
 subst hrr
 clear hr hr0
 cases r with
 | none =>
  go_enter Tryz.func124, Tryz.ntmps124
  go_wp2_with (first
   | (go_at_call 179; go_enter Tryz.func179, Tryz.ntmps179)
   | (go_at_call 181; (with_reducible refine (HC0.out _).mono ?_); rintro e w1 ⟨rfl, hw1⟩; rw [hw1]; clear hw1 w1)
   | (go_at_call 182; (with_reducible refine (HC1.out _).mono ?_); rintro e w1 ⟨rfl, hw1⟩; rw [hw1]; clear hw1 w1))
  rw [← HP.out]
  exact ⟨⟨_, rfl, by simp [OperandP, bareB, HR.out]⟩, HB3.out⟩
 | some n =>
  by_cases han : a = n
  ·subst han
   have han' : (a == a) = true := by simp
   go_enter Tryz.func124, Tryz.ntmps124
   go_wp2_with (first
    | (go_at_call 179; go_enter Tryz.func179, Tryz.ntmps179)
    | (go_at_call 181; (with_reducible refine (HC0.out _).mono ?_); rintro e w1 ⟨rfl, hw1⟩; rw [hw1]; clear hw1 w1)
    | (go_at_call 182; (with_reducible refine (HC1.out _).mono ?_); rintro e w1 ⟨rfl, hw1⟩; rw [hw1]; clear hw1 w1))
   rw [← HP.out]
   exact ⟨⟨true, rfl, by simp [OperandP, bareB, HR.out]⟩, HB3.out⟩
  ·have han' : (a == n) = false := by simpa using han
   go_enter Tryz.func124, Tryz.ntmps124
   go_wp2_with (first
    | (go_at_call 179; go_enter Tryz.func179, Tryz.ntmps179)
    | (go_at_call 181; (with_reducible refine (HC0.out _).mono ?_); rintro e w1 ⟨rfl, hw1⟩; rw [hw1]; clear hw1 w1)
    | (go_at_call 182; (with_reducible refine (HC1.out _).mono ?_); rintro e w1 ⟨rfl, hw1⟩; rw [hw1]; clear hw1 w1))
   rw [← HP.out]
   exact ⟨⟨false, rfl, by simp [OperandP, bareB, HR.out]; exact fun h => han h.symm⟩, HB3.out⟩
set_option maxHeartbeats 4000000 in
theorem roperand_19 (nf ncap : Nat) (A B : Option Addr) (f : FnD) (a : Int) (s : ByteArray) (keys : List ByteArray) (kv : Value) (w : World) (hnf : nf ≤ 40) (hf : FnSmall f) (hi : InsOk ⟨19, a, s, keys⟩) (hk : KeysV w kv keys) (ni : Nat) (icap : Nat) :
  Calls Tryz.prog 124 #[.agg #[.slice A nf ncap, .slice B ni icap], f.val, .agg #[.int .i64 19, .int .i64 a, .string s, kv]] w fun e w' => (∃ b, e = .returned (.bool b) ∧ (b = true ↔ OperandP nf f ⟨19, a, s, keys⟩)) ∧ Below w.heap.size w w' := by
 obtain ⟨name, params, locals, entry, fin⟩ := f
 obtain ⟨⟨_, _⟩, ⟨hl0, hl1⟩, ⟨he0, he1, he2⟩⟩ := hf
 obtain ⟨hs1, hk1, hks⟩ := hi
 dsimp only at hl0 hl1 he0 he1 he2 hs1 hk1 hks
 have hb3 := below_3 w (.cells #[.slice A nf ncap, .slice B ni icap] 25) (.cells #[.string name, .int .i64 params, .int .i64 locals, .int .i64 entry, .int .i64 fin] 55) (.cells #[.int .i64 19, .int .i64 a, .string s, kv] 59)
 have HB3 := Lib.hid hb3
 have HKV := Lib.hid (hk.below hb3)
 have HKS := Lib.hid hks
 have HS1 := Lib.hid hs1
 have hnf0 : (0 : Int) ≤ (nf : Int) := by omega
 have hnf9 : (nf : Int) ≤ 40 := by omega
 have HX := Lib.hid (Blk.new ((w.alloc (.cells #[.slice A nf ncap, .slice B ni icap] 25)).alloc (.cells #[.string name, .int .i64 params, .int .i64 locals, .int .i64 entry, .int .i64 fin] 55)) 59 #[.int .i64 19, .int .i64 a, .string s, kv])
 obtain ⟨kA, kcap, rfl, _, _⟩ := hk
 obtain ⟨P, hP⟩ : ∃ P : Ending → World → Prop, (fun e w' => (∃ b, e = .returned (.bool b) ∧ (b = true ↔ OperandP nf ⟨name, params, locals, entry, fin⟩ ⟨19, a, s, keys⟩)) ∧ Below w.heap.size w w') = P := ⟨_, rfl⟩
 rw [hP]
 have HP := Lib.hid hP
 unfold FnD.val
 clear hP hb3 hks
 obtain ⟨r, hr⟩ : ∃ r, lookL hostL s = r := ⟨_, rfl⟩
 obtain ⟨r0, hr0⟩ : ∃ r, lookL builtL s = r := ⟨_, rfl⟩
 have HR := Lib.hid hr
 have HC0 : Hid (∀ wx, Calls Tryz.prog 181 #[.string s] wx fun e w' => e = .returned (.tuple #[.int .i64 (r0.getD 0), .bool r0.isSome]) ∧ w' = wx) := Lib.hid (fun wx => by rw [← hr0]; exact rbuilt_any s wx)
 have HC1 : Hid (∀ wx, Calls Tryz.prog 182 #[.string s] wx fun e w' => e = .returned (.tuple #[.int .i64 ((lookL hostL s).getD 0), .bool (lookL hostL s).isSome]) ∧ w' = wx) := Lib.hid (fun wx => rhost_any s wx)
 rw [hr] at HC1
 clear hr hr0
 cases r with
 | none =>
  go_enter Tryz.func124, Tryz.ntmps124
  go_wp2_with (first
   | (go_at_call 179; go_enter Tryz.func179, Tryz.ntmps179)
   | (go_at_call 181; (with_reducible refine (HC0.out _).mono ?_); rintro e w1 ⟨rfl, hw1⟩; rw [hw1]; clear hw1 w1)
   | (go_at_call 182; (with_reducible refine (HC1.out _).mono ?_); rintro e w1 ⟨rfl, hw1⟩; rw [hw1]; clear hw1 w1))
  rw [← HP.out]
  exact ⟨⟨_, rfl, by simp [OperandP, bareB, HR.out]⟩, HB3.out⟩
 | some n =>
  by_cases han : a = n
  ·subst han
   have han' : (a == a) = true := by simp
   go_enter Tryz.func124, Tryz.ntmps124
   go_wp2_with (first
    | (go_at_call 179; go_enter Tryz.func179, Tryz.ntmps179)
    | (go_at_call 181; (with_reducible refine (HC0.out _).mono ?_); rintro e w1 ⟨rfl, hw1⟩; rw [hw1]; clear hw1 w1)
    | (go_at_call 182; (with_reducible refine (HC1.out _).mono ?_); rintro e w1 ⟨rfl, hw1⟩; rw [hw1]; clear hw1 w1))
   rw [← HP.out]
   exact ⟨⟨true, rfl, by simp [OperandP, bareB, HR.out]⟩, HB3.out⟩
  ·have han' : (a == n) = false := by simpa using han
   go_enter Tryz.func124, Tryz.ntmps124
   go_wp2_with (first
    | (go_at_call 179; go_enter Tryz.func179, Tryz.ntmps179)
    | (go_at_call 181; (with_reducible refine (HC0.out _).mono ?_); rintro e w1 ⟨rfl, hw1⟩; rw [hw1]; clear hw1 w1)
    | (go_at_call 182; (with_reducible refine (HC1.out _).mono ?_); rintro e w1 ⟨rfl, hw1⟩; rw [hw1]; clear hw1 w1))
   rw [← HP.out]
   exact ⟨⟨false, rfl, by simp [OperandP, bareB, HR.out]; exact fun h => han h.symm⟩, HB3.out⟩
set_option maxHeartbeats 4000000 in
theorem roperand_20 (nf ncap : Nat) (A B : Option Addr) (f : FnD) (a : Int) (s : ByteArray) (keys : List ByteArray) (kv : Value) (w : World) (hnf : nf ≤ 40) (hf : FnSmall f) (hi : InsOk ⟨20, a, s, keys⟩) (hk : KeysV w kv keys) (ni : Nat) (icap : Nat) :
  Calls Tryz.prog 124 #[.agg #[.slice A nf ncap, .slice B ni icap], f.val, .agg #[.int .i64 20, .int .i64 a, .string s, kv]] w fun e w' => (∃ b, e = .returned (.bool b) ∧ (b = true ↔ OperandP nf f ⟨20, a, s, keys⟩)) ∧ Below w.heap.size w w' := by
 obtain ⟨name, params, locals, entry, fin⟩ := f
 obtain ⟨⟨_, _⟩, ⟨hl0, hl1⟩, ⟨he0, he1, he2⟩⟩ := hf
 obtain ⟨hs1, hk1, hks⟩ := hi
 dsimp only at hl0 hl1 he0 he1 he2 hs1 hk1 hks
 have hb3 := below_3 w (.cells #[.slice A nf ncap, .slice B ni icap] 25) (.cells #[.string name, .int .i64 params, .int .i64 locals, .int .i64 entry, .int .i64 fin] 55) (.cells #[.int .i64 20, .int .i64 a, .string s, kv] 59)
 have HB3 := Lib.hid hb3
 have HKV := Lib.hid (hk.below hb3)
 have HKS := Lib.hid hks
 have HS1 := Lib.hid hs1
 have hnf0 : (0 : Int) ≤ (nf : Int) := by omega
 have hnf9 : (nf : Int) ≤ 40 := by omega
 have HX := Lib.hid (Blk.new ((w.alloc (.cells #[.slice A nf ncap, .slice B ni icap] 25)).alloc (.cells #[.string name, .int .i64 params, .int .i64 locals, .int .i64 entry, .int .i64 fin] 55)) 59 #[.int .i64 20, .int .i64 a, .string s, kv])
 obtain ⟨kA, kcap, rfl, _, _⟩ := hk
 obtain ⟨P, hP⟩ : ∃ P : Ending → World → Prop, (fun e w' => (∃ b, e = .returned (.bool b) ∧ (b = true ↔ OperandP nf ⟨name, params, locals, entry, fin⟩ ⟨20, a, s, keys⟩)) ∧ Below w.heap.size w w') = P := ⟨_, rfl⟩
 rw [hP]
 have HP := Lib.hid hP
 unfold FnD.val
 clear hP hb3 hks
 go_enter Tryz.func124, Tryz.ntmps124
 go_wp2_with (first
  | (go_at_call 179; go_enter Tryz.func179, Tryz.ntmps179))
 all_goals rw [← HP.out]
 all_goals exact ⟨⟨_, rfl, by first | (simp_all [OperandP, bareB]; done) | (simp_all [OperandP, bareB]; omega)⟩, HB3.out⟩
end Go.Proofs.YtmljohbialacfaaGreatDoor
