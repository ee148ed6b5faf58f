/- The law's bounds: SmallValue, looked. -/
import Derived.Test.YtemakcaojdoakaaGreatDoorC5
namespace Go.Proofs.YtemakcaojdoakaaGreatDoor
open Go.RowKit
set_option maxRecDepth 100000

attribute [local go_sem] cell_alloc_is
def smallB (l : ValD) : Bool := decide (l.length ≤ 300) && l.all (fun c => decide (c.str.size ≤ 5000))
set_option maxHeartbeats 1000000 in
theorem small_any (l : ValD) (v : Value) (w : World) (h : ValV w v l) (hs : ∀ c ∈ l, c.str.size ≤ 140737488351232) :
    Calls Tryz.prog 9 #[v] w fun e w' => e = .returned (.bool (smallB l)) ∧ w' = w := by
  obtain ⟨A, cap, rfl, hca, hma, hsa⟩ := h.at
  have HSA := Lib.hid hsa
  have HSS := Lib.hid hs
  clear h hsa hs
  by_cases hl : l.length ≤ 300
  · have hl' : ((l.length : Int) > 300) = False := by simp; omega
    go_enter Tryz.func9, Tryz.ntmps9
    go_wp2
    go_loop [9] (fun i => ∃ n : Nat, n ≤ l.length ∧ i = .int .i64 n ∧ Hid (∀ c ∈ l.take n, c.str.size ≤ 5000)) (fun i => l.length - (intOf i).toNat)
    case atStart => exact ⟨0, Nat.zero_le _, rfl, Lib.hid (by simp)⟩
    case round =>
      obtain ⟨n, hn, rfl, HT⟩ := hrel
      by_cases hlt : n < l.length
      · have hlt' : (n : Int) < (l.length : Int) := by omega
        have hn0 : (0 : Int) ≤ (n : Int) := by omega
        have hsa := HSA.out
        obtain ⟨b, off, rfl, _⟩ := hsa.ptr hlt
        obtain ⟨s, hs⟩ : ∃ s, l[n].str = s := ⟨_, rfl⟩
        have c2 := hsa.cell hlt (j := 2) (v := .string s) (by rw [← hs]; rfl)
        have hsz := HSS.out _ (List.getElem_mem hlt)
        rw [hs] at hsz
        have HS := Lib.hid hs
        clear hsa hs
        by_cases h5 : s.size ≤ 5000
        · have HT2 : Hid (∀ c ∈ l.take (n + 1), c.str.size ≤ 5000) := Lib.hid (by
            rw [List.take_succ_eq_append_getElem hlt]
            intro c hc
            rcases List.mem_append.1 hc with hc | hc
            · exact HT.out c hc
            · simp at hc; subst hc; rw [HS.out]; exact h5)
          go_wp2
          refine ⟨⟨n + 1, by omega, by simp, HT2⟩, by simp [intOf]; omega⟩
        · have e : smallB l = false := by
            unfold smallB
            rw [Bool.and_eq_false_iff]
            right
            rw [List.all_eq_false]
            exact ⟨l[n], List.getElem_mem hlt, by rw [HS.out]; simpa using h5⟩
          have HE := Lib.hid e
          have h5' : (5000 : Int) < (s.size : Int) := by omega
          clear h5 e
          go_wp2
          go_ret
          exact ⟨by rw [HE.out]; rfl, rfl⟩
      · have e : n = l.length := by omega
        subst e
        have HE : Hid (smallB l = true) := Lib.hid (by
          have := HT.out
          rw [List.take_length] at this
          simp only [smallB, Bool.and_eq_true, decide_eq_true_eq, List.all_eq_true]
          exact ⟨hl, this⟩)
        go_wp2
        go_ret
        exact ⟨by rw [HE.out]; rfl, rfl⟩
  · have e : smallB l = false := by unfold smallB; simp; intro h; omega
    have HE := Lib.hid e
    have hl' : (300 : Int) < (l.length : Int) := by omega
    clear hl e
    go_enter Tryz.func9, Tryz.ntmps9
    go_wp2
    go_ret
    exact ⟨by rw [HE.out]; rfl, rfl⟩
end Go.Proofs.YtemakcaojdoakaaGreatDoor
