/- The walks of the reference's Once, Ordered, Settled. -/
import Derived.Test.YtcnmdhdoiekfoaaW1
namespace Go.Proofs.Ytcnmdhdoiekfoaa
open Go.RowKit

def probRow (rule : ByteArray) (s : ByteArray) : List Value := [.string rule, .string s]
def sOnce : ByteArray := ⟨#[111, 110, 99, 101]⟩
def sOrder : ByteArray := ⟨#[111, 114, 100, 101, 114]⟩
def sSettled : ByteArray := ⟨#[115, 101, 116, 116, 108, 101, 100]⟩

/-- The events of the first n facts, each at its first occurrence, for which p holds. -/
def selN (l : List FactD) (p : ByteArray → Bool) : Nat → List ByteArray
  | 0 => []
  | n + 1 => selN l p n ++ (match l[n]? with | some f => if freshB l n && p f.event then [f.event] else [] | none => [])

theorem selN_yes {l : List FactD} {p : ByteArray → Bool} {n : Nat} (h : n < l.length) (h1 : freshB l n = true) (h2 : p l[n].event = true) : selN l p (n + 1) = selN l p n ++ [l[n].event] := by simp [selN, h, h1, h2]
theorem selN_no {l : List FactD} {p : ByteArray → Bool} {n : Nat} (h : n < l.length) (h1 : (freshB l n && p l[n].event) = false) : selN l p (n + 1) = selN l p n := by
  have : l[n]? = some l[n] := by simp [h]
  simp only [selN, this]
  rw [h1]; simp
theorem selN_len (l : List FactD) (p : ByteArray → Bool) : ∀ n, (selN l p n).length ≤ n
  | 0 => by simp [selN]
  | n + 1 => by
    have := selN_len l p n
    unfold selN
    rw [List.length_append]
    split
    · split <;> simp <;> omega
    · simp; omega

theorem flat_snoc (rule : ByteArray) (l : List ByteArray) (s : ByteArray) : (l ++ [s]).flatMap (probRow rule) = l.flatMap (probRow rule) ++ [.string rule, .string s] := by simp [probRow]
theorem flat_len (rule : ByteArray) (l : List ByteArray) : (l.flatMap (probRow rule)).length = l.length * 2 := by
  induction l with
  | nil => rfl
  | cons a r ih => simp [probRow, ih]; omega

theorem one2 (a b : ByteArray) : ∀ u ∈ [Value.string a, Value.string b], u.oneCell' = true := by simp [Value.oneCell']

def onceB (l : List FactD) (e : ByteArray) : Bool := decide (1 < countN l 5 e) || (decide (countN l 5 e = 1) && decide (0 ≤ firstN l 8 e 0))

theorem Try.infoProb : (Try.prog.info? 44).map (fun i => (i.zero, i.size, i.bytes)) = some (some (.agg #[.string ByteArray.empty, .string ByteArray.empty]), 2, 32) := by kernel_rfl

/-- What the audits hand back: a slice of problems with one rule. -/
def ProbsAt (w : World) (base : Nat) (v : Value) (rule : ByteArray) (l : List ByteArray) : Prop := w.ownsRow base 44 2 v l.length (l.flatMap (probRow rule))

set_option maxHeartbeats 1000000 in
theorem ronce_any (A : Option Addr) (cap : Nat) (l : List FactD) (w : World) (hl : l.length ≤ 4000) (hf : FactsAt w A l) :
    Calls Try.prog 10 #[.slice A l.length cap] w fun e w' => ∃ v, e = .returned v ∧ ProbsAt w' w.heap.size v sOnce (selN l (onceB l) l.length) ∧ Below w.heap.size w w' := by
  obtain ⟨i0, hi, hz0, hz1, hz2⟩ := info_parts Try.infoProb
  go_enter Try.func10, Try.ntmps10
  go_wp2_with (first | (go_at_call 25; refine (counted_any _ _ _ _ hl).mono ?_; rintro e w' ⟨rfl, rfl⟩))
  go_loopw [3, 4] (fun out i wr => ∃ n : Nat, n ≤ l.length ∧ i = .int .i64 n ∧ ProbsAt wr w.heap.size out sOnce (selN l (onceB l) n) ∧ Below w.heap.size w wr) (fun _ i _ => l.length - (intOf i).toNat)
  case atStart => exact ⟨0, Nat.zero_le _, rfl, World.ownsRow_nil _ _ _ _, Below.refl _ _⟩
  case round =>
    obtain ⟨n, hn, rfl, hown, hbel⟩ := hrel
    have hsl := selN_len l (onceB l) n
    have hsz := hbel.size
    by_cases hlt : n < l.length
    · have hfr := hf.below hbel
      obtain ⟨b, off, rfl, hbb⟩ := hf.ptr hlt
      have h5 := hfr.cell hlt (j := 5) (v := _) rfl
      have HF := Lib.hid hfr
      have HB := Lib.hid hbel
      have HO := Lib.hid hown
      clear hfr hbel hown
      cases hfresh : freshB l n
      · have HN := Lib.hid (selN_no (p := onceB l) hlt (by rw [hfresh]; rfl))
        go_wp2_with (first | (go_at_call 26; refine (fresh_any _ _ _ _ _ hl hlt HF.out).mono ?_; rintro e w' ⟨rfl, q, rfl⟩; rw [hfresh]))
        go_roundw
        case rel => exact ⟨n + 1, by omega, by go_num, by rw [HN.out]; exact own_drewN HO.out _, below_drewN HB.out _⟩
        case measure => simp [intOf]; omega
      · have hcle := countN_le l 5 l[n].event
        by_cases hon : onceB l l[n].event = true
        · have HN := Lib.hid (selN_yes hlt hfresh hon)
          have hc : 1 < countN l 5 l[n].event ∨ (countN l 5 l[n].event = 1 ∧ 0 ≤ firstN l 8 l[n].event 0) := by simpa [onceB] using hon
          clear hon
          rcases hc with hc | ⟨hc1, hc2⟩
          · have hc' : (1 : Int) < (countN l 5 l[n].event : Int) := by omega
            clear hc
            go_wp2_with (first
            | (go_at_call 26; refine (fresh_any _ _ _ _ _ hl hlt HF.out).mono ?_; rintro e w' ⟨rfl, q, rfl⟩; rw [hfresh])
            | (go_at_call 27; refine (count_any _ _ _ _ _ _ hl (HF.out.drewN _)).mono ?_; rintro e w' ⟨rfl, rfl⟩)
            | (go_at_call 28; refine (first_any _ _ _ _ _ _ hl (HF.out.drewN _)).mono ?_; rintro e w' ⟨rfl, rfl⟩)
            | (at_builtin
               refine wpList_app1 rfl (.tmp 41) (.tmp 48) 25 rfl i0 _ 32 Try.underlying25 hi hz0 hz1 hz2 rfl (by omega) rfl (own_drewN HO.out _) [.string sOnce, .string l[n].event] rfl rfl (one2 _ _) (by omega) (by omega) (by simp; omega) ?_
               intro v' w1 hown1 hb1 _ _))
            go_roundw
            case rel => exact ⟨n + 1, by omega, by go_num, by rw [HN.out]; unfold ProbsAt; rw [flat_snoc, List.length_append]; exact hown1, (below_drewN HB.out _).trans hb1⟩
            case measure => simp [intOf]; omega
          · have hc1' : (countN l 5 l[n].event : Int) ≤ 1 := by omega
            have hc3 : (1 : Int) ≤ (countN l 5 l[n].event : Int) := by omega
            clear hc1
            go_wp2_with (first
            | (go_at_call 26; refine (fresh_any _ _ _ _ _ hl hlt HF.out).mono ?_; rintro e w' ⟨rfl, q, rfl⟩; rw [hfresh])
            | (go_at_call 27; refine (count_any _ _ _ _ _ _ hl (HF.out.drewN _)).mono ?_; rintro e w' ⟨rfl, rfl⟩)
            | (go_at_call 28; refine (first_any _ _ _ _ _ _ hl (HF.out.drewN _)).mono ?_; rintro e w' ⟨rfl, rfl⟩)
            | (at_builtin
               refine wpList_app1 rfl (.tmp 41) (.tmp 48) 25 rfl i0 _ 32 Try.underlying25 hi hz0 hz1 hz2 rfl (by omega) rfl (own_drewN HO.out _) [.string sOnce, .string l[n].event] rfl rfl (one2 _ _) (by omega) (by omega) (by simp; omega) ?_
               intro v' w1 hown1 hb1 _ _))
            go_roundw
            case rel => exact ⟨n + 1, by omega, by go_num, by rw [HN.out]; unfold ProbsAt; rw [flat_snoc, List.length_append]; exact hown1, (below_drewN HB.out _).trans hb1⟩
            case measure => simp [intOf]; omega
        · have HN := Lib.hid (selN_no (p := onceB l) hlt (by rw [hfresh]; simpa using hon))
          have hc : ¬ 1 < countN l 5 l[n].event ∧ (countN l 5 l[n].event = 1 → ¬ 0 ≤ firstN l 8 l[n].event 0) := by simpa [onceB] using hon
          obtain ⟨hc0, hc⟩ := hc
          have hc0' : (countN l 5 l[n].event : Int) ≤ 1 := by omega
          clear hon
          by_cases hc1 : countN l 5 l[n].event = 1
          · have hc2 := hc hc1
            have hc3 : (1 : Int) ≤ (countN l 5 l[n].event : Int) := by omega
            clear hc hc1 hc0
            go_wp2_with (first
            | (go_at_call 26; refine (fresh_any _ _ _ _ _ hl hlt HF.out).mono ?_; rintro e w' ⟨rfl, q, rfl⟩; rw [hfresh])
            | (go_at_call 27; refine (count_any _ _ _ _ _ _ hl (HF.out.drewN _)).mono ?_; rintro e w' ⟨rfl, rfl⟩)
            | (go_at_call 28; refine (first_any _ _ _ _ _ _ hl (HF.out.drewN _)).mono ?_; rintro e w' ⟨rfl, rfl⟩))
            go_roundw
            case rel => exact ⟨n + 1, by omega, by go_num, by rw [HN.out]; exact own_drewN HO.out _, below_drewN HB.out _⟩
            case measure => simp [intOf]; omega
          · have hc3 : (countN l 5 l[n].event : Int) < 1 := by omega
            clear hc hc1 hc0
            go_wp2_with (first
            | (go_at_call 26; refine (fresh_any _ _ _ _ _ hl hlt HF.out).mono ?_; rintro e w' ⟨rfl, q, rfl⟩; rw [hfresh])
            | (go_at_call 27; refine (count_any _ _ _ _ _ _ hl (HF.out.drewN _)).mono ?_; rintro e w' ⟨rfl, rfl⟩)
            | (go_at_call 28; refine (first_any _ _ _ _ _ _ hl (HF.out.drewN _)).mono ?_; rintro e w' ⟨rfl, rfl⟩))
            go_roundw
            case rel => exact ⟨n + 1, by omega, by go_num, by rw [HN.out]; exact own_drewN HO.out _, below_drewN HB.out _⟩
            case measure => simp [intOf]; omega
    · go_wp2
      go_ret
      have hnl : n = l.length := by omega
      subst hnl
      exact ⟨_, rfl, hown, hbel⟩
end Go.Proofs.Ytcnmdhdoiekfoaa
