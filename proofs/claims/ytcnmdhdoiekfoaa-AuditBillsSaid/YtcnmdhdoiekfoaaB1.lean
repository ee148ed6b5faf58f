/- The law AuditBills: plain part, keys of attempts, units, repeated. -/
import Derived.Test.YtcnmdhdoiekfoaaW6
import Derived.Test.YtcnmdhdoiekfoaaW12
namespace Go.Proofs.Ytcnmdhdoiekfoaa
open Go.RowKit

/-- An attempt as a key. -/
def atK (p : ByteArray × Int) : Value := .agg #[.string p.1, .int .i64 p.2]

theorem Try.stood65 : Try.prog.stoodInHeld 65 = false := by kernel_rfl
theorem Try.fields65 : Try.prog.underlying 65 = some (.struct (Try.prog.fieldsOf 65)) := by kernel_rfl

theorem run_part_s (w : World) (cs : Array Value) (i : Nat) (v : Value) (h : cs[i]? = some v) : (part 9 cs i).run Try.prog w = .ok v w := by
  simp [part, isAgg, run_underlying Try.underlying9, h]
theorem run_part_i (w : World) (cs : Array Value) (i : Nat) (v : Value) (h : cs[i]? = some v) : (part 3 cs i).run Try.prog w = .ok v w := by
  simp [part, isAgg, run_underlying Try.underlying3, h]

theorem at_equal (w : World) (a b : ByteArray × Int) : (Op.equal 65 (atK a) (atK b)).run Try.prog w = .ok (decide (a = b)) w := by
  obtain ⟨s, i⟩ := a
  obtain ⟨t, j⟩ := b
  have h := run_equalIn_struct w 9999 65 #[.string s, .int .i64 i] #[.string t, .int .i64 j] Try.fields65 Try.stood65
  have e1 := run_equalIn_string (P := Try.prog) w 9998 9 s t Try.underlying9
  have e2 := run_equalIn_int (P := Try.prog) w 9998 3 .i64 .i64 i j Try.underlying3
  have p1 := run_part_s w #[.string s, .int .i64 i] 0 _ rfl
  have p2 := run_part_s w #[.string t, .int .i64 j] 0 _ rfl
  have p3 := run_part_i w #[.string s, .int .i64 i] 1 _ rfl
  have p4 := run_part_i w #[.string t, .int .i64 j] 1 _ rfl
  unfold Op.equal Op.maxDepth atK
  rw [h]
  simp only [Program.fieldsOf, Try.underlying65, Op.eqFields, ne_eq]
  simp [p1, p2, p3, p4, e1, e2, toList_beq]
  by_cases hs : s = t <;> by_cases hi : i = j <;> simp [hs, hi]

theorem at_find (w : World) (a : ByteArray × Int) : ∀ (l : List MapEntry) (es : List ((ByteArray × Int) × Value)) (i : Nat), l.map (fun e => (e.key, e.val)) = es.map (fun p => (atK p.1, p.2)) →
    (Instr.findAsking 65 (atK a) l i).run Try.prog w = .ok (alFind es a i) w
  | [], es, i, h => by
    have : es = [] := by simpa using h.symm
    subst this
    simp [Instr.findAsking, alFind]
  | e :: l, [], i, h => by simp at h
  | e :: l, (k, v) :: es, i, h => by
    simp only [List.map_cons, List.cons.injEq, Prod.mk.injEq] at h
    obtain ⟨⟨h1, h2⟩, h3⟩ := h
    have ih := at_find w a l es (i + 1) h3
    unfold Instr.findAsking alFind
    rw [h1, Sem.run_bind, at_equal, Result.andThen_ok]
    by_cases hk : k = a
    · subst hk
      simp [h2]
    · have hk' : ¬ a = k := fun e => hk e.symm
      rw [if_neg hk]
      simp [hk', ih]

theorem at_now (a : ByteArray × Int) (l : List MapEntry) (fs : Array Field) : Instr.findNow (.struct fs) (atK a) l 0 = if l = [] then some none else none := by
  cases l with
  | nil => simp [Instr.findNow]
  | cons e r => simp [Instr.findNow, Instr.sameNow]

theorem Try.kA : KeyOk Try.prog 65 atK where
  check w e a n := by
    have p1 := run_part_s w #[.string a.1, .int .i64 a.2] 0 _ rfl
    have p3 := run_part_i w #[.string a.1, .int .i64 a.2] 1 _ rfl
    have c1 : ∀ m, (Instr.checkKey e (m + 1) 9 (.string a.1)).run Try.prog w = .ok () w := fun m => MapKept.run_checkKey (d := .string) Try.underlying9 (by simp [MapKept.IsKey]) e m
    have c2 : ∀ m, (Instr.checkKey e (m + 1) 3 (.int .i64 a.2)).run Try.prog w = .ok () w := fun m => MapKept.run_checkKey (d := .int .i64) Try.underlying3 (by simp [MapKept.IsKey]) e m
    show (Instr.checkKey e ((n + 7) + 1) 65 (atK a)).run Try.prog w = _
    unfold Instr.checkKey atK
    simp only [Sem.run_bind, run_underlying Try.underlying65, Result.andThen_ok]
    rw [← Array.forIn_toList]
    simp [p1, p3, c1, c2]
  find w a l es hl := by
    unfold Instr.findKey
    simp only [Sem.run_bind, run_underlying Try.underlying65, Result.andThen_ok, at_now]
    by_cases hn : l = []
    · subst hn
      have : es = [] := by simpa using hl.symm
      subst this
      simp [alFind]
    · simp only [if_neg hn]
      exact at_find w a l es 0 hl
  stays w a := by
    have : Instr.sameBits 10000 (atK a) (atK a) = true := by
      show Instr.sameBits (9998 + 2) _ _ = true
      simp [atK, Instr.sameBits, MapKept.bytes_beq]
    simp [Instr.keyThatStays, this]

def unitsZ (n : Int) : Int := if n < 0 ∨ 1000000000000 < n then 0 else n
theorem unitsZ_bd (n : Int) : 0 ≤ unitsZ n ∧ unitsZ n ≤ 1000000000000 := by unfold unitsZ; split <;> omega

set_option maxHeartbeats 400000 in
theorem units_any (n : Int) (w : World) : Calls Try.prog 35 #[.int .i64 n] w fun e w' => e = .returned (.int .i64 (unitsZ n)) ∧ w = w' := by
  by_cases h0 : n < 0
  · have H := Lib.hid (show unitsZ n = 0 by unfold unitsZ; rw [if_pos (.inl h0)])
    go_enter Try.func35, Try.ntmps35
    go_wp2
    go_ret
    exact ⟨ret_int H.out.symm, rfl⟩
  by_cases h1 : 1000000000000 < n
  · have H := Lib.hid (show unitsZ n = 0 by unfold unitsZ; rw [if_pos (.inr h1)])
    go_enter Try.func35, Try.ntmps35
    go_wp2
    go_ret
    exact ⟨ret_int H.out.symm, rfl⟩
  · have H := Lib.hid (show unitsZ n = n by unfold unitsZ; rw [if_neg (by omega)])
    go_enter Try.func35, Try.ntmps35
    go_wp2
    go_ret
    exact ⟨ret_int H.out.symm, rfl⟩

set_option maxHeartbeats 400000 in
theorem runits_any (n : Int) (w : World) : Calls Try.prog 37 #[.int .i64 n] w fun e w' => e = .returned (.int .i64 (unitsZ n)) ∧ w = w' := by
  by_cases h0 : n < 0
  · have H := Lib.hid (show unitsZ n = 0 by unfold unitsZ; rw [if_pos (.inl h0)])
    go_enter Try.func37, Try.ntmps37
    go_wp2
    go_ret
    exact ⟨ret_int H.out.symm, rfl⟩
  by_cases h1 : 1000000000000 < n
  · have H := Lib.hid (show unitsZ n = 0 by unfold unitsZ; rw [if_pos (.inr h1)])
    go_enter Try.func37, Try.ntmps37
    go_wp2
    go_ret
    exact ⟨ret_int H.out.symm, rfl⟩
  · have H := Lib.hid (show unitsZ n = n by unfold unitsZ; rw [if_neg (by omega)])
    go_enter Try.func37, Try.ntmps37
    go_wp2
    go_ret
    exact ⟨ret_int H.out.symm, rfl⟩

/-- Is this the fact that an attempt was a repetition? -/
def repF (e : ByteArray) (a : Int) (f : FactD) : Bool := decide (f.kind = 6) && decide (f.event = e) && decide (f.attempt = a)
def repB (l : List FactD) (e : ByteArray) (a : Int) : Bool := l.any (repF e a)

theorem repB_snoc (l : List FactD) (n : Nat) (hn : n < l.length) (e : ByteArray) (a : Int) : repB (l.take (n + 1)) e a = (repB (l.take n) e a || repF e a l[n]) := by
  unfold repB; rw [List.take_succ_eq_append_getElem hn, List.any_append]; simp

/-- The units of a tenant's finished attempts among the first n facts. -/
def metN (l : List FactD) (t : ByteArray) : Nat → Int
  | 0 => 0
  | n + 1 => metN l t n + (match l[n]? with | some f => if f.kind = 4 ∧ f.tenant = t ∧ repB l f.event f.attempt = false then unitsZ f.units else 0 | none => 0)
theorem metN_succ {l : List FactD} {n : Nat} (h : n < l.length) (t : ByteArray) : metN l t (n + 1) = metN l t n + if l[n].kind = 4 ∧ l[n].tenant = t ∧ repB l l[n].event l[n].attempt = false then unitsZ l[n].units else 0 := by simp [metN, h]
theorem metN_bd (l : List FactD) (t : ByteArray) : ∀ n, 0 ≤ metN l t n ∧ metN l t n ≤ n * 1000000000000
  | 0 => by simp [metN]
  | n + 1 => by
    have := metN_bd l t n
    unfold metN
    split
    · split
      · rename_i f _ _
        have := unitsZ_bd f.units
        omega
      · omega
    · omega

structure LineD where
  function : ByteArray
  invocations : Int
  steps : Int
  ticks : Int
  units : Int
  micros : Int
def LineD.cells (x : LineD) : List Value := [.string x.function, .int .i64 x.invocations, .int .i64 x.steps, .int .i64 x.ticks, .int .i64 x.units, .int .i64 x.micros]
structure InvD where
  tenant : ByteArray
  period : Int
  la : Option Addr
  lcap : Nat
  lines : List LineD
  gross : Int
  refund : Int
  net : Int
def InvD.cells (x : InvD) : List Value := [.string x.tenant, .int .i64 x.period, .slice x.la x.lines.length x.lcap, .int .i64 x.gross, .int .i64 x.refund, .int .i64 x.net]

/-- The invoices at A read as l, their lines with them. -/
def InvsAt (w : World) (A : Option Addr) (l : List InvD) : Prop := SlAt w A 6 InvD.cells l ∧ ∀ x ∈ l, SlAt w x.la 6 LineD.cells x.lines
theorem InvsAt.below {w w' : World} {A : Option Addr} {l : List InvD} (h : InvsAt w A l) (hb : Below w.heap.size w w') : InvsAt w' A l := ⟨h.1.below hb, fun x hx => (h.2 x hx).below hb⟩
theorem InvsAt.drewN {w : World} {A : Option Addr} {l : List InvD} (h : InvsAt w A l) (n : Nat) : InvsAt (w.drewN n) A l := h

/-- The units of the first k lines. -/
def lineN (x : List LineD) : Nat → Int
  | 0 => 0
  | k + 1 => lineN x k + (match x[k]? with | some y => unitsZ y.units | none => 0)
theorem lineN_succ {x : List LineD} {k : Nat} (h : k < x.length) : lineN x (k + 1) = lineN x k + unitsZ x[k].units := by simp [lineN, h]
theorem lineN_bd (x : List LineD) : ∀ k, 0 ≤ lineN x k ∧ lineN x k ≤ k * 1000000000000
  | 0 => by simp [lineN]
  | k + 1 => by
    have := lineN_bd x k
    unfold lineN
    split
    · rename_i y _
      have := unitsZ_bd y.units
      omega
    · omega

/-- The units of a tenant's lines on the first n invoices; how many lines there are. -/
def bilN (l : List InvD) (t : ByteArray) : Nat → Int
  | 0 => 0
  | n + 1 => bilN l t n + (match l[n]? with | some x => if x.tenant = t then lineN x.lines x.lines.length else 0 | none => 0)
def numN (l : List InvD) : Nat → Nat
  | 0 => 0
  | n + 1 => numN l n + (match l[n]? with | some x => x.lines.length | none => 0)
theorem bilN_succ {l : List InvD} {n : Nat} (h : n < l.length) (t : ByteArray) : bilN l t (n + 1) = bilN l t n + if l[n].tenant = t then lineN l[n].lines l[n].lines.length else 0 := by simp [bilN, h]
theorem numN_succ {l : List InvD} {n : Nat} (h : n < l.length) : numN l (n + 1) = numN l n + l[n].lines.length := by simp [numN, h]
theorem numN_bd (l : List InvD) (hl : ∀ x ∈ l, x.lines.length ≤ 100) : ∀ n, numN l n ≤ n * 100
  | 0 => by simp [numN]
  | n + 1 => by
    have := numN_bd l hl n
    unfold numN
    split
    · rename_i x hx
      have := hl x (List.mem_of_getElem? hx)
      omega
    · omega
theorem bilN_bd (l : List InvD) (hl : ∀ x ∈ l, x.lines.length ≤ 100) (t : ByteArray) : ∀ n, 0 ≤ bilN l t n ∧ bilN l t n ≤ n * 100000000000000
  | 0 => by simp [bilN]
  | n + 1 => by
    have := bilN_bd l hl t n
    unfold bilN
    split
    · rename_i x hx
      have := hl x (List.mem_of_getElem? hx)
      have := lineN_bd x.lines x.lines.length
      split <;> omega
    · omega

def sBilled : ByteArray := ⟨#[98, 105, 108, 108, 101, 100]⟩
/-- What Billed finds. -/
def billedN (l : List FactD) (t : ByteArray) (b : List InvD) : List ByteArray := if metN l t l.length = bilN b t b.length then [] else [t]
end Go.Proofs.Ytcnmdhdoiekfoaa
