/- GK1 -/
import Derived.Test.YthiimbhjpdphpaaGreatDoorPV5
import Derived.Test.YthiimbhjpdphpaaGreatDoorPE3
set_option linter.unusedVariables false
set_option linter.unusedSimpArgs false
set_option linter.unusedVariables false
set_option linter.unusedSimpArgs false
namespace Go.Proofs.YthiimbhjpdphpaaGreatDoor
open Go.RowKit
set_option maxRecDepth 100000
attribute [local go_sem] cell_alloc_is
set_option maxHeartbeats 4000000 in
theorem vcheck_any (l : List CellD) (A : Option Addr) (cap : Nat) (w : World) (h : SlAt w A 4 CellD.cells l) (hp : Pow w) (hlen : l.length ≤ 10000) (hcap : l.length ≤ cap) (hok : ∀ c ∈ l, okC c) :
  Calls Tryz.prog 152 #[.slice A l.length cap] w fun e w' => e = .returned (.int .i64 (checkF l)) ∧ Below w.heap.size w w' := by
 obtain ⟨ck, hck⟩ : ∃ c, checkF l = c := ⟨_, rfl⟩
 rw [hck]
 have HCK := Lib.hid hck
 have HL := Lib.hid (look_any l A cap w h hp hlen hcap hok)
 obtain ⟨F, hF⟩ : ∃ F, px l 0 = F := ⟨_, rfl⟩
 rw [hF] at HL
 have HF := Lib.hid hF
 clear hck hF h hp hok
 cases F with
 | none =>
  have HL2 : Hid (Calls Tryz.prog 186 #[.slice A l.length cap] w fun e w' => (∃ a b o t, e = .returned (.tuple #[.int .i64 0, .agg #[.int .i64 a, .int .i64 b, .bool o, .bool t], .bool false])) ∧ Below w.heap.size w w') := Lib.hid (HL.out.mono fun e w' ⟨h1, h2⟩ => ⟨h2, h1⟩)
  have hc : ck = 1 := by rw [← HCK.out]; unfold checkF; rw [HF.out]; rfl
  subst hc
  clear HL
  go_enter Tryz.func152, Tryz.ntmps152
  go_wp2_with (first
   | (go_at_call 186; (with_reducible refine HL2.out.mono ?_); rintro e w1 ⟨⟨a, b, o, t, rfl⟩, hb1⟩; have HB1 := Lib.hid hb1; clear hb1))
  all_goals
   go_returns
   exact ⟨rfl, HB1.out.alloc HB1.out.size _⟩
 | some r =>
  have HL2 : Hid (Calls Tryz.prog 186 #[.slice A l.length cap] w fun e w' => e = .returned (.tuple #[.int .i64 r.j, .agg #[.int .i64 r.d, .int .i64 r.b, .bool (outs (l.take r.j)), .bool (longs (l.take r.j))], .bool true]) ∧ Below w.heap.size w w') := Lib.hid (HL.out.mono fun e w' ⟨h1, h2⟩ => ⟨h2, h1⟩)
  have had := px_adv HF.out
  by_cases hj : r.j = l.length
  ·have ho : outs (l.take r.j) = l.any outB := by rw [hj, List.take_length]; rfl
   have hl : longs (l.take r.j) = l.any longB := by rw [hj, List.take_length]; rfl
   have hck2 : ck = if l.any outB then eRange else if l.any longB || (decide (200 < l.length) || (decide (8 < r.d) || decide (4000 < r.b))) then eLimit else 0 := by
    rw [← HCK.out]; unfold checkF; rw [HF.out]; simp only [hj, ne_eq, not_true_eq_false, if_false]
   rw [ho, hl] at HL2
   obtain ⟨oo, hoo⟩ : ∃ t, l.any outB = t := ⟨_, rfl⟩
   obtain ⟨ll, hll⟩ : ∃ t, l.any longB = t := ⟨_, rfl⟩
   rw [hoo, hll] at HL2 hck2
   rw [hj] at HL2
   obtain ⟨j, d, b⟩ := r
   dsimp only at HL2 hck2
   clear HL had hj ho hl hoo hll HF HCK
   cases oo with
   | true =>
    have hc : ck = 2 := hck2
    subst hc
    clear hck2
    go_enter Tryz.func152, Tryz.ntmps152
    go_wp2_with (first
     | (go_at_call 186; (with_reducible refine HL2.out.mono ?_); rintro e w1 ⟨rfl, hb1⟩; have HB1 := Lib.hid hb1; clear hb1))
    all_goals
     go_returns
     exact ⟨rfl, HB1.out.alloc HB1.out.size _⟩
   | false =>
    by_cases h1 : ll = true
    ·subst h1
     have hc : ck = 3 := hck2
     subst hc
     clear hck2
     go_enter Tryz.func152, Tryz.ntmps152
     go_wp2_with (first
      | (go_at_call 186; (with_reducible refine HL2.out.mono ?_); rintro e w1 ⟨rfl, hb1⟩; have HB1 := Lib.hid hb1; clear hb1))
     all_goals
      go_returns
      exact ⟨rfl, HB1.out.alloc HB1.out.size _⟩
    ·obtain rfl : ll = false := by simpa using h1
     clear h1
     by_cases h2 : (200 : Int) < (l.length : Int)
     all_goals by_cases h3 : (8 : Int) < (d : Int)
     all_goals by_cases h4 : 4000 < b
     all_goals
      have h2' : decide (200 < l.length) = decide ((200 : Int) < (l.length : Int)) := decide_eq_decide.2 (by omega)
      have h3' : decide (8 < d) = decide ((8 : Int) < (d : Int)) := decide_eq_decide.2 (by omega)
      rw [h2', h3'] at hck2
      simp only [h2, h3, h4, decide_true, decide_false, Bool.or_true, Bool.true_or, Bool.or_false, Bool.false_or, if_true, if_false, Bool.false_eq_true] at hck2
      have HC2 := Lib.hid hck2
      clear h2' h3' hck2
      go_enter Tryz.func152, Tryz.ntmps152
      go_wp2_with (first
       | (go_at_call 186; (with_reducible refine HL2.out.mono ?_); rintro e w1 ⟨rfl, hb1⟩; have HB1 := Lib.hid hb1; clear hb1))
      all_goals
       go_returns
       exact ⟨by rw [HC2.out]; rfl, HB1.out.alloc HB1.out.size _⟩
  ·have hc : ck = 1 := by rw [← HCK.out]; unfold checkF; rw [HF.out]; simp only [ne_eq, hj, not_false_eq_true, if_true]; rfl
   have hji : ¬ ((r.j : Int) = (l.length : Int)) := by omega
   have hjb : ((r.j : Int) != (l.length : Int)) = true := by simpa using hji
   subst hc
   obtain ⟨j, d, b⟩ := r
   dsimp only at HL2 hji hjb
   clear HL had hj HF HCK
   go_enter Tryz.func152, Tryz.ntmps152
   go_wp2_with (first
    | (go_at_call 186; (with_reducible refine HL2.out.mono ?_); rintro e w1 ⟨rfl, hb1⟩; have HB1 := Lib.hid hb1; clear hb1))
   all_goals
    go_returns
    exact ⟨rfl, HB1.out.alloc HB1.out.size _⟩
end Go.Proofs.YthiimbhjpdphpaaGreatDoor
namespace Go.Proofs.YthiimbhjpdphpaaGreatDoor
open Go.RowKit
set_option maxRecDepth 100000
attribute [local go_sem] cell_alloc_is
theorem okC_str (s : ByteArray) (h : s.size ≤ 140737488351232) : okC (strC s) := ⟨h, ⟨by show -9223372036854775808 ≤ 0; omega, by show 0 ≤ 9223372036854775807; omega⟩, by show 0 ≤ 9223372036854775807; omega⟩
set_option maxHeartbeats 2000000 in
theorem ctext_any (s : ByteArray) (w : World) (hs : s.size ≤ 140737488351232) (hp : Pow w) : Calls Tryz.prog 145 #[.string s] w fun e w' => (∃ b, e = .returned (.bool b) ∧ (b = true ↔ StrOk s)) ∧ Below w.heap.size w w' := by
 have hsl : SlAt (w.alloc (.cells #[.int .i64 4, .int .i64 0, .string s, .int .i64 0] 103)) (some ⟨w.heap.size, 0, none⟩) 4 CellD.cells [strC s] := rows_new rfl _ _ [strC s] rfl (fun _ => rfl) (by omega) (by show 1 ≤ maxLen; unfold maxLen; omega)
 have hb0 := below_new w (.cells #[.int .i64 4, .int .i64 0, .string s, .int .i64 0] 103)
 obtain ⟨k, hk⟩ : ∃ k, checkF [strC s] = k := ⟨_, rfl⟩
 have hC0 := (vcheck_any [strC s] (some ⟨w.heap.size, 0, none⟩) 1 _ hsl (hp.below hb0) (by show 1 ≤ 10000; omega) (Nat.le_refl _) (by intro c hc; simp at hc; subst hc; exact okC_str s hs))
 rw [hk] at hC0
 have HC : Hid (Calls Tryz.prog 152 #[.slice (some ⟨w.heap.size, 0, none⟩) 1 1] (w.alloc (.cells #[.int .i64 4, .int .i64 0, .string s, .int .i64 0] 103)) fun e w' => e = .returned (.int .i64 k) ∧ Below (w.alloc (.cells #[.int .i64 4, .int .i64 0, .string s, .int .i64 0] 103)).heap.size (w.alloc (.cells #[.int .i64 4, .int .i64 0, .string s, .int .i64 0] 103)) w') := Lib.hid hC0
 clear hC0
 have HK : Hid (k = 0 ↔ StrOk s) := Lib.hid (by rw [← hk]; exact checkF_str s)
 have HB0 := Lib.hid hb0
 obtain ⟨P, hP⟩ : ∃ P : Ending → World → Prop, (fun e w' => (∃ b, e = .returned (.bool b) ∧ (b = true ↔ StrOk s)) ∧ Below w.heap.size w w') = P := ⟨_, rfl⟩
 rw [hP]
 have HP := Lib.hid hP
 have hC2 : Calls Tryz.prog 153 #[.slice (some ⟨w.heap.size, 0, none⟩) 1 1] (w.alloc (.cells #[.int .i64 4, .int .i64 0, .string s, .int .i64 0] 103)) fun e w' => (∃ v, e = .returned (.tuple #[v, .int .i64 k])) ∧ Below w.heap.size w w' := by
  clear hP HP HK hk hsl hb0 hp hs
  go_enter Tryz.func153, Tryz.ntmps153
  go_wp2_with (first
   | (go_at_call 152; (with_reducible refine HC.out.mono ?_); rintro e w1 ⟨rfl, hb1⟩; have HB1 := Lib.hid (below_call hb1 HB0.out); clear hb1))
  ·go_returns
   exact ⟨⟨_, rfl⟩, HB1.out⟩
  ·go_returns
   have hk0 : k = 0 := by simp_all
   exact ⟨⟨_, by rw [hk0]; rfl⟩, HB1.out⟩
 have HC2 := Lib.hid hC2
 clear hP hk hsl hb0 hp hs hC2 HC
 have hstr : Calls Tryz.prog 161 #[.string s] w fun e w' => (∃ v, e = .returned (.tuple #[v, .int .i64 k])) ∧ Below w.heap.size w w' := by
  clear HP HK
  go_enter Tryz.func161, Tryz.ntmps161
  go_wp2_with (first
   | (go_at_call 153; (with_reducible refine HC2.out.mono ?_); rintro e w1 ⟨⟨v, rfl⟩, hb1⟩; have HB1 := Lib.hid hb1; clear hb1))
  go_returns
  exact ⟨⟨_, rfl⟩, HB1.out⟩
 have HS := Lib.hid hstr
 clear hstr HC2
 go_enter Tryz.func145, Tryz.ntmps145
 go_wp2_with (first
  | (go_at_call 161; (with_reducible refine HS.out.mono ?_); rintro e w1 ⟨⟨v, rfl⟩, hb1⟩; have HB1 := Lib.hid hb1; clear hb1))
 rw [← HP.out]
 exact ⟨⟨k == 0, rfl, by simp; exact HK.out⟩, HB1.out⟩
theorem Tryz.kStr : KeyOk Tryz.prog 9 Value.string := keyOk_string Tryz.underlying9
theorem Tryz.zeroInt (w : World) : (zeroValue 3).run Tryz.prog w = .ok (.int .i64 0) w := by simp [go_sem]
theorem wpList_insert {α β : Type} [DecidableEq α] {P : Program} {K T E : TypeId} {kc : α → Value} {vc : β → Value} {w : World} {b : Nat} {m : List (α × β)} {ops : Array Oper} {rest : List Oper} {o : Oper} {ac : Act} {Q : Exit → Act → World → Prop}
  (hg : Region.wanted o (yielded ops ac.tmps) = true) (mo xo vo : Operand) (hop : o.op = Op.insert T mo xo vo) (hK : KeyOk P K kc) (hT : P.underlying T = some (.map K E))
  (hm : ac.eval mo = .map (some b)) (a : α) (hx : ac.eval xo = kc a) (x : β) (hv : ac.eval vo = vc x) (h : MapAt w b kc vc m)
  (hk : ∀ w', MapAt w' b kc vc (alSet m a x) → w.grownBy w' (some b) → w'.heap.size = w.heap.size → wpList P ops Q rest (ac.put o.dst undef) w') : wpList P ops Q (o :: rest) ac w := by
 refine wpList_step fun K' hK' => ?_
 rw [if_pos hg]
 obtain ⟨w', hrun, h1, h2, h3, _⟩ := h.store (x := x) hK hT a
 unfold Oper.wp
 simp [execOp, hop, hm, hx, hv, hrun, Result.andThen]
 exact hK' _ _ (hk w' h1 h2 h3)
theorem bytes_lit (s : ByteArray) (a : Array UInt8) : (s = ⟨a⟩) = (s.toList = a.toList) := by
 rw [Lib.toList_data]
 apply propext
 constructor
 ·rintro rfl; rfl
 ·intro h; exact ByteArray.ext (Array.ext' h)
set_option maxHeartbeats 2000000 in
theorem arity_any (b : Nat) (m : List (ByteArray × Int)) (s : ByteArray) (r : Option Int) (w : World) (h : MapAt w b Value.string (Value.int .i64) m) (hr : alGet m s = r) :
  Calls Tryz.prog 138 #[.map (some b), .string s] w fun e w' => e = .returned (.tuple #[.int .i64 (r.getD 0), .bool r.isSome]) ∧ w' = w := by
 have HM := Lib.hid h
 have HR := Lib.hid hr
 clear h hr
 go_enter Tryz.func138, Tryz.ntmps138
 go_wp2_with (first
  | (at_lookup; refine wpList_look_ok' rfl (.tmp 9) (.tmp 10) rfl Tryz.kStr Tryz.underlying114 0 (Tryz.zeroInt _) rfl s rfl HM.out r HR.out (.int .i64 (r.getD 0)) rfl r.isSome rfl ?_))
 go_returns
 exact ⟨rfl, rfl⟩
theorem built_get (s : ByteArray) : alGet ((alSet (alSet (alSet (alSet (alSet (alSet (alSet (alSet [] (⟨#[108, 101, 110]⟩ : ByteArray) (1 : Int)) (⟨#[115, 116, 114]⟩ : ByteArray) (1 : Int)) (⟨#[105, 110, 116]⟩ : ByteArray) (1 : Int)) (⟨#[112, 117, 115, 104]⟩ : ByteArray) (2 : Int)) (⟨#[112, 117, 116]⟩ : ByteArray) (3 : Int)) (⟨#[107, 101, 121, 115]⟩ : ByteArray) (1 : Int)) (⟨#[104, 97, 115]⟩ : ByteArray) (2 : Int)) (⟨#[102, 97, 105, 108]⟩ : ByteArray) (1 : Int)) : List (ByteArray × Int)) s = lookL builtL s := by
 simp only [alGet_set, alGet, lookL, builtL, List.lookup]
 simp only [eq_comm (b := s), bytes_lit]
 repeat' (first | rfl | split | simp_all)
set_option maxHeartbeats 4000000 in
theorem built_any (s : ByteArray) (w : World) : Calls Tryz.prog 86 #[.string s] w fun e w' => e = .returned (.tuple #[.int .i64 ((lookL builtL s).getD 0), .bool (lookL builtL s).isSome]) ∧ Below w.heap.size w w' := by
 have hmm := @run_makeMap Tryz.prog
 have HM0 := Lib.hid (MapAt.new w Value.string (Value.int .i64))
 have HB0 := Lib.hid (below_new w (.map #[] 0))
 obtain ⟨r, hr⟩ : ∃ r, lookL builtL s = r := ⟨_, rfl⟩
 rw [hr]
 have HR := Lib.hid hr
 clear hr
 go_enter Tryz.func86, Tryz.ntmps86
 go_wp2_with (first
   | (refine wpList_insert rfl (.tmp 4) (.const (.string ⟨#[108, 101, 110]⟩)) (.const (.int .i64 1)) rfl Tryz.kStr Tryz.underlying114 rfl (⟨#[108, 101, 110]⟩ : ByteArray) rfl (1 : Int) rfl HM0.out ?_; intro w1 hm1 hg1 hs1; have HM1 := Lib.hid hm1; have HB1 : Hid (Below w.heap.size w w1) := Lib.hid (HB0.out.grown hg1 HB0.out.size (fun k hk => by injection hk with hk; omega)); clear hm1 hg1 hs1)
   | (refine wpList_insert rfl (.tmp 4) (.const (.string ⟨#[115, 116, 114]⟩)) (.const (.int .i64 1)) rfl Tryz.kStr Tryz.underlying114 rfl (⟨#[115, 116, 114]⟩ : ByteArray) rfl (1 : Int) rfl HM1.out ?_; intro w2 hm2 hg2 hs2; have HM2 := Lib.hid hm2; have HB2 : Hid (Below w.heap.size w w2) := Lib.hid (HB1.out.grown hg2 HB1.out.size (fun k hk => by injection hk with hk; omega)); clear hm2 hg2 hs2)
   | (refine wpList_insert rfl (.tmp 4) (.const (.string ⟨#[105, 110, 116]⟩)) (.const (.int .i64 1)) rfl Tryz.kStr Tryz.underlying114 rfl (⟨#[105, 110, 116]⟩ : ByteArray) rfl (1 : Int) rfl HM2.out ?_; intro w3 hm3 hg3 hs3; have HM3 := Lib.hid hm3; have HB3 : Hid (Below w.heap.size w w3) := Lib.hid (HB2.out.grown hg3 HB2.out.size (fun k hk => by injection hk with hk; omega)); clear hm3 hg3 hs3)
   | (refine wpList_insert rfl (.tmp 4) (.const (.string ⟨#[112, 117, 115, 104]⟩)) (.const (.int .i64 2)) rfl Tryz.kStr Tryz.underlying114 rfl (⟨#[112, 117, 115, 104]⟩ : ByteArray) rfl (2 : Int) rfl HM3.out ?_; intro w4 hm4 hg4 hs4; have HM4 := Lib.hid hm4; have HB4 : Hid (Below w.heap.size w w4) := Lib.hid (HB3.out.grown hg4 HB3.out.size (fun k hk => by injection hk with hk; omega)); clear hm4 hg4 hs4)
   | (refine wpList_insert rfl (.tmp 4) (.const (.string ⟨#[112, 117, 116]⟩)) (.const (.int .i64 3)) rfl Tryz.kStr Tryz.underlying114 rfl (⟨#[112, 117, 116]⟩ : ByteArray) rfl (3 : Int) rfl HM4.out ?_; intro w5 hm5 hg5 hs5; have HM5 := Lib.hid hm5; have HB5 : Hid (Below w.heap.size w w5) := Lib.hid (HB4.out.grown hg5 HB4.out.size (fun k hk => by injection hk with hk; omega)); clear hm5 hg5 hs5)
   | (refine wpList_insert rfl (.tmp 4) (.const (.string ⟨#[107, 101, 121, 115]⟩)) (.const (.int .i64 1)) rfl Tryz.kStr Tryz.underlying114 rfl (⟨#[107, 101, 121, 115]⟩ : ByteArray) rfl (1 : Int) rfl HM5.out ?_; intro w6 hm6 hg6 hs6; have HM6 := Lib.hid hm6; have HB6 : Hid (Below w.heap.size w w6) := Lib.hid (HB5.out.grown hg6 HB5.out.size (fun k hk => by injection hk with hk; omega)); clear hm6 hg6 hs6)
   | (refine wpList_insert rfl (.tmp 4) (.const (.string ⟨#[104, 97, 115]⟩)) (.const (.int .i64 2)) rfl Tryz.kStr Tryz.underlying114 rfl (⟨#[104, 97, 115]⟩ : ByteArray) rfl (2 : Int) rfl HM6.out ?_; intro w7 hm7 hg7 hs7; have HM7 := Lib.hid hm7; have HB7 : Hid (Below w.heap.size w w7) := Lib.hid (HB6.out.grown hg7 HB6.out.size (fun k hk => by injection hk with hk; omega)); clear hm7 hg7 hs7)
   | (refine wpList_insert rfl (.tmp 4) (.const (.string ⟨#[102, 97, 105, 108]⟩)) (.const (.int .i64 1)) rfl Tryz.kStr Tryz.underlying114 rfl (⟨#[102, 97, 105, 108]⟩ : ByteArray) rfl (1 : Int) rfl HM7.out ?_; intro w8 hm8 hg8 hs8; have HM8 := Lib.hid hm8; have HB8 : Hid (Below w.heap.size w w8) := Lib.hid (HB7.out.grown hg8 HB7.out.size (fun k hk => by injection hk with hk; omega)); clear hm8 hg8 hs8)
   | (go_at_call 138; (with_reducible refine (arity_any _ _ s r w8 HM8.out (by rw [built_get]; exact HR.out)).mono ?_); rintro e w99 ⟨rfl, hw99⟩; rw [hw99]; clear hw99 w99))
 go_returns
 exact ⟨rfl, HB8.out⟩
theorem host_get (s : ByteArray) : alGet ((alSet (alSet (alSet (alSet (alSet (alSet (alSet (alSet (alSet (alSet [] (⟨#[103, 101, 116]⟩ : ByteArray) (1 : Int)) (⟨#[112, 117, 116]⟩ : ByteArray) (2 : Int)) (⟨#[100, 101, 108, 101, 116, 101]⟩ : ByteArray) (1 : Int)) (⟨#[115, 101, 110, 100]⟩ : ByteArray) (2 : Int)) (⟨#[116, 105, 109, 101, 114]⟩ : ByteArray) (3 : Int)) (⟨#[115, 105, 103, 110, 97, 108]⟩ : ByteArray) (2 : Int)) (⟨#[115, 101, 99, 114, 101, 116]⟩ : ByteArray) (1 : Int)) (⟨#[102, 101, 116, 99, 104]⟩ : ByteArray) (2 : Int)) (⟨#[110, 111, 119]⟩ : ByteArray) (0 : Int)) (⟨#[108, 111, 103]⟩ : ByteArray) (1 : Int)) : List (ByteArray × Int)) s = lookL hostL s := by
 simp only [alGet_set, alGet, lookL, hostL, List.lookup]
 simp only [eq_comm (b := s), bytes_lit]
 repeat' (first | rfl | split | simp_all)
set_option maxHeartbeats 4000000 in
theorem host_any (s : ByteArray) (w : World) : Calls Tryz.prog 92 #[.string s] w fun e w' => e = .returned (.tuple #[.int .i64 ((lookL hostL s).getD 0), .bool (lookL hostL s).isSome]) ∧ Below w.heap.size w w' := by
 have hmm := @run_makeMap Tryz.prog
 have HM0 := Lib.hid (MapAt.new w Value.string (Value.int .i64))
 have HB0 := Lib.hid (below_new w (.map #[] 0))
 obtain ⟨r, hr⟩ : ∃ r, lookL hostL s = r := ⟨_, rfl⟩
 rw [hr]
 have HR := Lib.hid hr
 clear hr
 go_enter Tryz.func92, Tryz.ntmps92
 go_wp2_with (first
   | (refine wpList_insert rfl (.tmp 4) (.const (.string ⟨#[103, 101, 116]⟩)) (.const (.int .i64 1)) rfl Tryz.kStr Tryz.underlying114 rfl (⟨#[103, 101, 116]⟩ : ByteArray) rfl (1 : Int) rfl HM0.out ?_; intro w1 hm1 hg1 hs1; have HM1 := Lib.hid hm1; have HB1 : Hid (Below w.heap.size w w1) := Lib.hid (HB0.out.grown hg1 HB0.out.size (fun k hk => by injection hk with hk; omega)); clear hm1 hg1 hs1)
   | (refine wpList_insert rfl (.tmp 4) (.const (.string ⟨#[112, 117, 116]⟩)) (.const (.int .i64 2)) rfl Tryz.kStr Tryz.underlying114 rfl (⟨#[112, 117, 116]⟩ : ByteArray) rfl (2 : Int) rfl HM1.out ?_; intro w2 hm2 hg2 hs2; have HM2 := Lib.hid hm2; have HB2 : Hid (Below w.heap.size w w2) := Lib.hid (HB1.out.grown hg2 HB1.out.size (fun k hk => by injection hk with hk; omega)); clear hm2 hg2 hs2)
   | (refine wpList_insert rfl (.tmp 4) (.const (.string ⟨#[100, 101, 108, 101, 116, 101]⟩)) (.const (.int .i64 1)) rfl Tryz.kStr Tryz.underlying114 rfl (⟨#[100, 101, 108, 101, 116, 101]⟩ : ByteArray) rfl (1 : Int) rfl HM2.out ?_; intro w3 hm3 hg3 hs3; have HM3 := Lib.hid hm3; have HB3 : Hid (Below w.heap.size w w3) := Lib.hid (HB2.out.grown hg3 HB2.out.size (fun k hk => by injection hk with hk; omega)); clear hm3 hg3 hs3)
   | (refine wpList_insert rfl (.tmp 4) (.const (.string ⟨#[115, 101, 110, 100]⟩)) (.const (.int .i64 2)) rfl Tryz.kStr Tryz.underlying114 rfl (⟨#[115, 101, 110, 100]⟩ : ByteArray) rfl (2 : Int) rfl HM3.out ?_; intro w4 hm4 hg4 hs4; have HM4 := Lib.hid hm4; have HB4 : Hid (Below w.heap.size w w4) := Lib.hid (HB3.out.grown hg4 HB3.out.size (fun k hk => by injection hk with hk; omega)); clear hm4 hg4 hs4)
   | (refine wpList_insert rfl (.tmp 4) (.const (.string ⟨#[116, 105, 109, 101, 114]⟩)) (.const (.int .i64 3)) rfl Tryz.kStr Tryz.underlying114 rfl (⟨#[116, 105, 109, 101, 114]⟩ : ByteArray) rfl (3 : Int) rfl HM4.out ?_; intro w5 hm5 hg5 hs5; have HM5 := Lib.hid hm5; have HB5 : Hid (Below w.heap.size w w5) := Lib.hid (HB4.out.grown hg5 HB4.out.size (fun k hk => by injection hk with hk; omega)); clear hm5 hg5 hs5)
   | (refine wpList_insert rfl (.tmp 4) (.const (.string ⟨#[115, 105, 103, 110, 97, 108]⟩)) (.const (.int .i64 2)) rfl Tryz.kStr Tryz.underlying114 rfl (⟨#[115, 105, 103, 110, 97, 108]⟩ : ByteArray) rfl (2 : Int) rfl HM5.out ?_; intro w6 hm6 hg6 hs6; have HM6 := Lib.hid hm6; have HB6 : Hid (Below w.heap.size w w6) := Lib.hid (HB5.out.grown hg6 HB5.out.size (fun k hk => by injection hk with hk; omega)); clear hm6 hg6 hs6)
   | (refine wpList_insert rfl (.tmp 4) (.const (.string ⟨#[115, 101, 99, 114, 101, 116]⟩)) (.const (.int .i64 1)) rfl Tryz.kStr Tryz.underlying114 rfl (⟨#[115, 101, 99, 114, 101, 116]⟩ : ByteArray) rfl (1 : Int) rfl HM6.out ?_; intro w7 hm7 hg7 hs7; have HM7 := Lib.hid hm7; have HB7 : Hid (Below w.heap.size w w7) := Lib.hid (HB6.out.grown hg7 HB6.out.size (fun k hk => by injection hk with hk; omega)); clear hm7 hg7 hs7)
   | (refine wpList_insert rfl (.tmp 4) (.const (.string ⟨#[102, 101, 116, 99, 104]⟩)) (.const (.int .i64 2)) rfl Tryz.kStr Tryz.underlying114 rfl (⟨#[102, 101, 116, 99, 104]⟩ : ByteArray) rfl (2 : Int) rfl HM7.out ?_; intro w8 hm8 hg8 hs8; have HM8 := Lib.hid hm8; have HB8 : Hid (Below w.heap.size w w8) := Lib.hid (HB7.out.grown hg8 HB7.out.size (fun k hk => by injection hk with hk; omega)); clear hm8 hg8 hs8)
   | (refine wpList_insert rfl (.tmp 4) (.const (.string ⟨#[110, 111, 119]⟩)) (.const (.int .i64 0)) rfl Tryz.kStr Tryz.underlying114 rfl (⟨#[110, 111, 119]⟩ : ByteArray) rfl (0 : Int) rfl HM8.out ?_; intro w9 hm9 hg9 hs9; have HM9 := Lib.hid hm9; have HB9 : Hid (Below w.heap.size w w9) := Lib.hid (HB8.out.grown hg9 HB8.out.size (fun k hk => by injection hk with hk; omega)); clear hm9 hg9 hs9)
   | (refine wpList_insert rfl (.tmp 4) (.const (.string ⟨#[108, 111, 103]⟩)) (.const (.int .i64 1)) rfl Tryz.kStr Tryz.underlying114 rfl (⟨#[108, 111, 103]⟩ : ByteArray) rfl (1 : Int) rfl HM9.out ?_; intro w10 hm10 hg10 hs10; have HM10 := Lib.hid hm10; have HB10 : Hid (Below w.heap.size w w10) := Lib.hid (HB9.out.grown hg10 HB9.out.size (fun k hk => by injection hk with hk; omega)); clear hm10 hg10 hs10)
   | (go_at_call 138; (with_reducible refine (arity_any _ _ s r w10 HM10.out (by rw [host_get]; exact HR.out)).mono ?_); rintro e w99 ⟨rfl, hw99⟩; rw [hw99]; clear hw99 w99))
 go_returns
 exact ⟨rfl, HB10.out⟩
end Go.Proofs.YthiimbhjpdphpaaGreatDoor
