/- The walks of num.Valid, Parse, Format and of the reference's Parse and Format. -/
import Derived.Test.YtcnmdhdoiekfoaaDoorI2
import Derived.Test.YtcnmdhdoiekfoaaDoorShelf
import Derived.WalkSmall
import Derived.Sort.Grow
namespace Go.Proofs.YtcnmdhdoiekfoaaDoor
open Go.RowKit Go.Sort
set_option maxRecDepth 100000

/-- What the package variables that the numbers' library reads hold. -/
structure Laid (w : World) : Prop where
  hs : ∃ tp p, w.var? Tryd.prog "strconv.ErrSyntax" = some #[.iface tp p]
  hr : ∃ tp p, w.var? Tryd.prog "strconv.ErrRange" = some #[.iface tp p]
  ht : Lib.TabIs Tryd.prog w "internal/strconv.uint64pow10" .u64 Lib.pow10Tab

theorem var_below {w w' : World} {n : String} {cs : Array Value} (h : Below w.heap.size w w') (hv : w.var? Tryd.prog n = some cs) : w'.var? Tryd.prog n = some cs := by
  have h0 := hv
  unfold World.var? at h0
  cases hg : Tryd.prog.globalNamed n with
  | none => simp [hg] at h0
  | some g =>
    refine var?_below h hg ?_ hv
    simp only [hg, Option.bind_some] at h0
    by_cases hlt : g < w.heap.size
    · exact hlt
    · rw [Array.getElem?_eq_none (by omega)] at h0; simp at h0

theorem Laid.below {w w' : World} (hL : Laid w) (h : Below w.heap.size w w') : Laid w' := by
  obtain ⟨⟨t1, p1, h1⟩, ⟨t2, p2, h2⟩, h3⟩ := hL
  exact ⟨⟨t1, p1, var_below h h1⟩, ⟨t2, p2, var_below h h2⟩, var_below h h3⟩
theorem Laid.alloc {w : World} (hL : Laid w) (o : Obj) : Laid (w.alloc o) := hL.below (below_new w o)
theorem Laid.drewN {w : World} (hL : Laid w) (n : Nat) : Laid (w.drewN n) := hL.below ((Below.refl _ _).trans ⟨rfl, rfl, rfl, Nat.le_refl _, fun _ _ => rfl⟩)

theorem below_grow (w : World) (q : Nat) (os : Array Obj) : Below w.heap.size w (grow (w.drewN q) os) :=
  ⟨rfl, rfl, rfl, by simp [grow], fun i hi => by
    show ((w.drewN q).heap ++ os)[i]? = _
    rw [Array.getElem?_append_left (by show i < w.heap.size; omega)]
    rfl⟩
theorem below_bytes (w : World) (e : TypeId) (s : ByteArray) : Below w.heap.size w (Lib.bytesWorld w e s) :=
  ⟨rfl, rfl, rfl, by rw [Lib.bytesWorld_size]; omega, fun k hk => Lib.bytesWorld_at_old w e s k (by omega)⟩

def validB (n : Int) : Bool := decide (-1000000000000 ≤ n) && decide (n ≤ 1000000000000)

theorem valid_any (n : Int) (w : World) :
    Calls Tryd.prog 38 #[.int .i64 n] w fun e w' => e = .returned (.bool (validB n)) ∧ w' = w := by
  go_enter Tryd.func38, Tryd.ntmps38
  by_cases h1 : -1000000000000 ≤ n
  · go_wp2
    all_goals (go_ret; refine ⟨congrArg Ending.returned (congrArg Value.bool (Bool.eq_iff_iff.2 ?_)), rfl⟩; simp only [validB, Bool.and_eq_true, decide_eq_true_eq, Bool.false_eq_true, true_iff, false_iff]; try omega)
  · go_wp2
    all_goals (go_ret; refine ⟨congrArg Ending.returned (congrArg Value.bool (Bool.eq_iff_iff.2 ?_)), rfl⟩; simp only [validB, Bool.and_eq_true, decide_eq_true_eq, Bool.false_eq_true, true_iff, false_iff]; try omega)

/-- What Parse answers. -/
def parseR (s : ByteArray) : Int × Int :=
  if decB s = false then (0, 1) else match Lib.atoiAll s.data.toList with
    | .ok v => if validB v = true then (v, 0) else (0, 2)
    | _ => (0, 2)

theorem ret_p {a b : Int × Int} (h : a = b) : Ending.returned (.tuple #[.int .i64 a.1, .int .i64 a.2]) = .returned (.tuple #[.int .i64 b.1, .int .i64 b.2]) := by rw [h]

theorem atoi_ok_any (s : ByteArray) (w : World) (hs : s.size ≤ 140737488351232) {v : Int} (h : Lib.atoiAll s.data.toList = .ok v) :
    Calls Tryd.prog 37 #[.string s] w fun e w' => e = .returned (.tuple #[.int .i64 v, .nilIface]) ∧ Below w.heap.size w w' := by
  refine (Tryd.strconv_Atoi_ok s (by omega) v h w).mono ?_
  rintro e w1 ⟨rfl, hw⟩
  refine ⟨rfl, ?_⟩
  rcases hw with rfl | ⟨t, rfl⟩
  · exact Below.refl _ _
  · exact below_bytes _ _ _

theorem atoi_no_any (s : ByteArray) (w : World) (hs : s.size ≤ 140737488351232) (hL : Laid w) (h : ∀ v, Lib.atoiAll s.data.toList ≠ .ok v) :
    Calls Tryd.prog 37 #[.string s] w fun e w' => (∃ v t p, e = .returned (.tuple #[.int .i64 v, .iface t p])) ∧ Below w.heap.size w w' := by
  cases ha : Lib.atoiAll s.data.toList with
  | ok v => exact absurd ha (h v)
  | range =>
    obtain ⟨tp, p, hv⟩ := hL.hr
    refine (Tryd.strconv_Atoi_range_var s (by omega) ha tp p w hv).mono ?_
    rintro e w1 ⟨N, rfl, _, _, hb⟩
    exact ⟨⟨_, _, _, rfl⟩, hb⟩
  | _ =>
    obtain ⟨tp, p, hv⟩ := hL.hs
    refine (Any.strconv_Atoi_syntax_var Tryd.laysC172 s (by omega) ha tp p w hv).mono ?_
    rintro e w1 ⟨N, rfl, _, _, hb⟩
    exact ⟨⟨_, _, _, rfl⟩, hb⟩

theorem parse_any (s : ByteArray) (w : World) (hs : s.size ≤ 140737488351232) (hL : Laid w) :
    Calls Tryd.prog 29 #[.string s] w fun e w' => e = .returned (.tuple #[.int .i64 (parseR s).1, .int .i64 (parseR s).2]) ∧ Below w.heap.size w w' := by
  go_enter Tryd.func29, Tryd.ntmps29
  by_cases hd : decB s = true
  · have HD := Lib.hid hd
    by_cases ha : ∃ v, Lib.atoiAll s.data.toList = .ok v
    · obtain ⟨v, ha⟩ := ha
      have HA := Lib.hid ha
      by_cases hv : validB v = true
      · have HR := Lib.hid (show parseR s = (v, 0) by rw [parseR, hd, ha]; simp [hv])
        have HV := Lib.hid hv
        clear hd ha hv
        go_wp2_with (first
          | (go_at_call 36; refine (decimal_any _ _ hs).mono ?_; rintro e w' ⟨rfl, rfl⟩; rw [HD.out])
          | (go_at_call 37; refine (atoi_ok_any s _ hs HA.out).mono ?_; rintro e w1 ⟨rfl, HB⟩)
          | (go_at_call 38; refine (valid_any _ _).mono ?_; rintro e w2 ⟨rfl, rfl⟩; rw [HV.out]))
        go_ret2
        exact ⟨ret_p HR.out.symm, HB⟩
      · have HR := Lib.hid (show parseR s = (0, 2) by rw [parseR, hd, ha]; simp [hv])
        have HV := Lib.hid (show validB v = false by simpa using hv)
        clear hd ha hv
        go_wp2_with (first
          | (go_at_call 36; refine (decimal_any _ _ hs).mono ?_; rintro e w' ⟨rfl, rfl⟩; rw [HD.out])
          | (go_at_call 37; refine (atoi_ok_any s _ hs HA.out).mono ?_; rintro e w1 ⟨rfl, HB⟩)
          | (go_at_call 38; refine (valid_any _ _).mono ?_; rintro e w2 ⟨rfl, rfl⟩; rw [HV.out]))
        go_ret2
        exact ⟨ret_p HR.out.symm, HB⟩
    · have HA := Lib.hid (show ∀ v, Lib.atoiAll s.data.toList ≠ .ok v from fun v e => ha ⟨v, e⟩)
      have HR := Lib.hid (show parseR s = (0, 2) by
        rw [parseR, hd]
        cases hx : Lib.atoiAll s.data.toList with
        | ok v => exact absurd hx (HA.out v)
        | range => rfl
        | _ => rfl)
      have HL := Lib.hid hL
      clear hd ha
      go_wp2_with (first
        | (go_at_call 36; refine (decimal_any _ _ hs).mono ?_; rintro e w' ⟨rfl, rfl⟩; rw [HD.out])
        | (go_at_call 37; refine (atoi_no_any s _ hs HL.out HA.out).mono ?_; rintro e w1 ⟨⟨v, t, p, rfl⟩, HB⟩))
      go_ret2
      exact ⟨ret_p HR.out.symm, HB⟩
  · have hd' : decB s = false := by simpa using hd
    have HD := Lib.hid hd'
    have HR := Lib.hid (show parseR s = (0, 1) by rw [parseR, hd']; simp)
    clear hd hd'
    go_wp2_with (first | (go_at_call 36; refine (decimal_any _ _ hs).mono ?_; rintro e w' ⟨rfl, rfl⟩; rw [HD.out]))
    go_ret2
    exact ⟨ret_p HR.out.symm, Below.refl _ _⟩
end Go.Proofs.YtcnmdhdoiekfoaaDoor
