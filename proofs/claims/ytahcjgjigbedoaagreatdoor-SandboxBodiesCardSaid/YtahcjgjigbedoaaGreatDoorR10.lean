/- The reference's values: Text has the bytes that px counts. -/
import Derived.Test.YtahcjgjigbedoaaGreatDoorR9
import Derived.Test.YtahcjgjigbedoaaGreatDoorGVB
set_option linter.unusedVariables false
set_option linter.unusedSimpArgs false
namespace Go.Proofs.YtahcjgjigbedoaaGreatDoor
open Go.RowKit
set_option maxRecDepth 100000
theorem text_at (l : List CellD) (A : Option Addr) (cap : Nat) (hl : l.length ≤ 1000000) (hok : ∀ c ∈ l, okC6 c) (hi : ∀ c ∈ l, okI c) (hv : ∀ c ∈ l, SmallC c) (j : Nat) (r : Sh) (hr : px l j = some r) (hN : TextFrom l A cap (j + 1)) (w : World) (hp : Pow w) (h : SlAt w A 4 CellD.cells l) :
  Calls Tryz.prog 46 #[.slice A l.length cap, .int .i64 j] w (TextPost w r.b) := by
 have had := px_adv hr
 have hjl : j < l.length := by omega
 obtain ⟨c, hc⟩ : ∃ c, l[j] = c := ⟨_, rfl⟩
 have hcl : l[j]? = some c := by rw [List.getElem?_eq_getElem hjl, hc]
 obtain ⟨hpb, hcase⟩ := px_cases hr hcl
 rcases hcase with ⟨hk, t, ht, rfl⟩ | ⟨hk, t, ht, rfl⟩ | ⟨h5, h6, rfl⟩
 ·obtain ⟨k, i, s, n⟩ := c
  dsimp only at hk ht
  subst hk
  have hn0 : 0 ≤ n := plain_n hpb (.inl rfl)
  obtain ⟨N, rfl⟩ : ∃ N : Nat, n = (N : Int) := ⟨n.toNat, by omega⟩
  rw [Int.toNat_natCast] at ht
  exact text_list l A cap hl hok hv j i s N t hcl ht hN w hp h
 ·obtain ⟨k, i, s, n⟩ := c
  dsimp only at hk ht
  subst hk
  have hn0 : 0 ≤ n := plain_n hpb (.inr rfl)
  obtain ⟨N, rfl⟩ : ∃ N : Nat, n = (N : Int) := ⟨n.toNat, by omega⟩
  rw [Int.toNat_natCast] at ht
  exact text_map l A cap hl hok hv j i s N t hcl ht hN w hp h
 ·exact text_leaf l A cap hl hok hi j c hcl hpb h5 h6 w hp h
theorem text_from (l : List CellD) (A : Option Addr) (cap : Nat) (hl : l.length ≤ 1000000) (hok : ∀ c ∈ l, okC6 c) (hi : ∀ c ∈ l, okI c) (hv : ∀ c ∈ l, SmallC c) : ∀ n a, l.length - a < n → TextFrom l A cap a
 | 0, a, h => fun j r h1 hr => by omega
 | n + 1, a, h => fun j r h1 hr wx hp hx => text_at l A cap hl hok hi hv j r hr (fun j' r' hj' hr' => by
   have := px_adv hr'
   exact text_from l A cap hl hok hi hv n (j + 1) (by omega) j' r' hj' hr') wx hp hx
theorem okC.c6 {c : CellD} (h : okC c) : okC6 c := ⟨h.1, h.2.2⟩
theorem okC.i {c : CellD} (h : okC c) : okI c := h.2.1
attribute [local go_sem] cell_alloc_is
set_option maxHeartbeats 4000000 in
theorem rcheck_any (l : List CellD) (A : Option Addr) (cap : Nat) (w : World) (h : SlAt w A 4 CellD.cells l) (hp : Pow w) (hl : l.length ≤ 1000000) (hok : ∀ c ∈ l, okC c) :
  Calls Tryz.prog 30 #[.slice A l.length cap] w fun e w' => e = .returned (.int .i64 (checkF l)) ∧ Below w.heap.size w w' := by
 have hok6 : ∀ c ∈ l, okC6 c := fun c hc => (hok c hc).c6
 have hoki : ∀ c ∈ l, okI c := fun c hc => (hok c hc).i
 have hv : ∀ c ∈ l, SmallC c := fun c hc => smallC_of (hok c hc)
 obtain ⟨E, hE⟩ : ∃ E, checkF l = E := ⟨_, rfl⟩
 rw [hE]
 have HE := Lib.hid hE
 obtain ⟨F, hF⟩ : ∃ F, formedF l = F := ⟨_, rfl⟩
 have HFD := Lib.hid (formed_any l A cap hl hok6 w h)
 rw [hF] at HFD
 have HF := Lib.hid hF
 have HA := Lib.hid h
 have HP := Lib.hid hp
 have HOK := Lib.hid hok
 cases F with
 | false =>
  have hc : E = 1 := by
   rw [← HE.out]
   have := HF.out
   unfold formedF at this
   unfold checkF
   cases hp : px l 0 with
   | none => rfl
   | some r => rw [hp] at this; simp at this; simp [this, eSyntax]
  subst hc
  clear hE hF h hp hok hok6 hoki hv
  go_enter Tryz.func30, Tryz.ntmps30
  go_wp2_with (first
   | (go_at_call 44; (with_reducible refine HFD.out.mono ?_); rintro e w1 ⟨rfl, hb1⟩; have HB1 := Lib.hid hb1; clear hb1))
  go_returns
  exact ⟨rfl, HB1.out⟩
 | true =>
  obtain ⟨r, hr, hj⟩ : ∃ r, px l 0 = some r ∧ r.j = l.length := by
   unfold formedF at hF
   cases hp : px l 0 with
   | none => rw [hp] at hF; cases hF
   | some r => rw [hp] at hF; exact ⟨r, rfl, of_decide_eq_true hF⟩
  have hck : (if l.any outB then eRange else if l.any longB || (decide (200 < l.length) || (decide (8 < r.d) || decide (4000 < r.b))) then eLimit else 0) = E := by
   rw [← hE]; unfold checkF; rw [hr]; simp only [hj, ne_eq, not_true_eq_false, if_false]
  have HCK := Lib.hid hck
  have HLV : Hid (∀ wx, SlAt wx A 4 CellD.cells l → Calls Tryz.prog 45 #[.slice A l.length cap, .int .i64 0] wx fun e w' => e = .returned (.int .i64 (r.d : Nat)) ∧ Below wx.heap.size wx w') := Lib.hid (fun wx hx => levels_from l A cap hl hok6 (l.length + 1) 0 (by omega) 0 r (Nat.le_refl _) hr wx hx)
  have HTX : Hid (∀ wx, Pow wx → SlAt wx A 4 CellD.cells l → Calls Tryz.prog 46 #[.slice A l.length cap, .int .i64 0] wx (TextPost wx r.b)) := Lib.hid (fun wx hpx hx => text_from l A cap hl hok6 hoki hv (l.length + 1) 0 (by omega) 0 r (Nat.le_refl _) hr wx hpx hx)
  have hdd := px_d hr
  have hd9 : (r.d : Int) ≤ 1000000 := by have := px_adv hr; omega
  have hl9 : (l.length : Int) ≤ 1000000 := by omega
  obtain ⟨rj, rd, rb⟩ := r
  dsimp only at HCK HLV HTX hd9
  clear hE hF h hp hok hok6 hoki hv hck hr hj hdd HF HE
  go_enter Tryz.func30, Tryz.ntmps30
  go_wp2_with (first
   | (go_at_call 44; (with_reducible refine HFD.out.mono ?_); rintro e w1 ⟨rfl, hb1⟩; have HB1 := Lib.hid hb1; clear hb1))
  go_loop [3] (fun kv => ∃ k : Nat, k ≤ l.length ∧ kv = .int .i64 k ∧ Hid ((l.take k).any outB = false)) (fun kv => l.length - (intOf kv).toNat)
  case atStart => exact ⟨0, Nat.zero_le _, rfl, Lib.hid (by simp)⟩
  case round =>
   obtain ⟨k, hk, rfl, HO⟩ := hrel
   have hk0 : (0 : Int) ≤ (k : Int) := by omega
   by_cases hlt : k < l.length
   ·have hlt' : (k : Int) < (l.length : Int) := by omega
    obtain ⟨c, hc⟩ : ∃ c, l[k] = c := ⟨_, rfl⟩
    have hsa := HA.out.below HB1.out
    obtain ⟨bA, off, rfl, _⟩ := hsa.ptr hlt
    have c0 := hsa.cell0 hlt (v := .int .i64 c.kind) (by rw [hc]; rfl)
    have c1 := hsa.cell hlt (j := 1) (v := .int .i64 c.int) (by rw [hc]; rfl)
    have HTK : Hid ((l.take (k + 1)).any outB = ((l.take k).any outB || outB c)) := Lib.hid (by rw [← hc]; rw [List.take_succ_eq_append_getElem hlt, List.any_append]; simp)
    have HAN : Hid (outB c = true → l.any outB = true) := Lib.hid (fun h => List.any_eq_true.2 ⟨c, hc ▸ List.getElem_mem hlt, h⟩)
    have hk9 : (k : Int) + 1 ≤ 9223372036854775807 := by omega
    clear hsa hc
    by_cases h3 : c.kind = 3
    ·by_cases hlo : c.int < -1000000000000
     ·have hE : E = 2 := by rw [← HCK.out, HAN.out (by simp [outB, h3]; omega)]; rfl
      subst hE
      go_wp2_with (fail)
      go_returns
      exact ⟨rfl, HB1.out⟩
     ·by_cases hhi : 1000000000000 < c.int
      ·have hE : E = 2 := by rw [← HCK.out, HAN.out (by simp [outB, h3]; omega)]; rfl
       subst hE
       go_wp2_with (fail)
       go_returns
       exact ⟨rfl, HB1.out⟩
      ·have HN : Hid (outB c = false) := Lib.hid (by simp [outB, h3]; omega)
       go_wp2_with (fail)
       exact ⟨⟨k + 1, by omega, by simp, Lib.hid (by rw [HTK.out, HO.out, HN.out]; rfl)⟩, by simp [intOf]; omega⟩
    ·have HN : Hid (outB c = false) := Lib.hid (by simp [outB, h3])
     have h3' : (c.kind == 3) = false := by simpa using h3
     go_wp2_with (fail)
     exact ⟨⟨k + 1, by omega, by simp, Lib.hid (by rw [HTK.out, HO.out, HN.out]; rfl)⟩, by simp [intOf]; omega⟩
   ·have e : k = l.length := by omega
    subst e
    have HNO : Hid (l.any outB = false) := Lib.hid (by have := HO.out; rwa [List.take_length] at this)
    have HCK2 : Hid ((if l.any longB || (decide (200 < l.length) || (decide (8 < rd) || decide (4000 < rb))) then eLimit else 0) = E) := Lib.hid (by have := HCK.out; rw [HNO.out] at this; simpa using this)
    clear HCK HO
    by_cases h200 : (200 : Int) < (l.length : Int)
    ·have hE : E = 3 := by rw [← HCK2.out, if_pos (by simp; omega)]; rfl
     subst hE
     go_wp2_with (fail)
     go_returns
     exact ⟨rfl, HB1.out⟩
    ·by_cases h8 : (8 : Int) < (rd : Int)
     ·have hE : E = 3 := by rw [← HCK2.out, if_pos (by simp; omega)]; rfl
      subst hE
      go_wp2_with (first
       | (go_at_call 45; (with_reducible refine (HLV.out _ (HA.out.below HB1.out)).mono ?_); rintro e w2 ⟨rfl, hb2⟩; have HB2 := Lib.hid (below_call' hb2 HB1.out HB1.out.size); clear hb2))
      go_returns
      exact ⟨rfl, HB2.out⟩
     ·go_wp2_with (first
       | (go_at_call 45; (with_reducible refine (HLV.out _ (HA.out.below HB1.out)).mono ?_); rintro e w2 ⟨rfl, hb2⟩; have HB2 := Lib.hid (below_call' hb2 HB1.out HB1.out.size); clear hb2))
      go_loop [4] (fun kv => ∃ k : Nat, k ≤ l.length ∧ kv = .int .i64 k ∧ Hid ((l.take k).any longB = false)) (fun kv => l.length - (intOf kv).toNat)
      case atStart => exact ⟨0, Nat.zero_le _, rfl, Lib.hid (by simp)⟩
      case round =>
       obtain ⟨k, hk, rfl, HO⟩ := hrel
       have hk0 : (0 : Int) ≤ (k : Int) := by omega
       by_cases hlt : k < l.length
       ·have hlt' : (k : Int) < (l.length : Int) := by omega
        obtain ⟨c, hc⟩ : ∃ c, l[k] = c := ⟨_, rfl⟩
        have hsa := HA.out.below HB2.out
        obtain ⟨bA, off, rfl, _⟩ := hsa.ptr hlt
        have c2 := hsa.cell hlt (j := 2) (v := .string c.str) (by rw [hc]; rfl)
        have HTK : Hid ((l.take (k + 1)).any longB = ((l.take k).any longB || longB c)) := Lib.hid (by rw [← hc]; rw [List.take_succ_eq_append_getElem hlt, List.any_append]; simp)
        have HAN : Hid (longB c = true → l.any longB = true) := Lib.hid (fun h => List.any_eq_true.2 ⟨c, hc ▸ List.getElem_mem hlt, h⟩)
        have hs9 := (HOK.out c (hc ▸ List.getElem_mem hlt)).1
        have hs9' : (c.str.size : Int) ≤ 4294967296 := by omega
        have hk9 : (k : Int) + 1 ≤ 9223372036854775807 := by omega
        clear hsa hc
        by_cases hs : (200 : Int) < (c.str.size : Int)
        ·have hE : E = 3 := by rw [← HCK2.out, HAN.out (by simp [longB]; omega)]; rfl
         subst hE
         go_wp2_with (fail)
         go_returns
         exact ⟨rfl, HB2.out⟩
        ·have HN : Hid (longB c = false) := Lib.hid (by simp [longB]; omega)
         go_wp2_with (fail)
         exact ⟨⟨k + 1, by omega, by simp, Lib.hid (by rw [HTK.out, HO.out, HN.out]; rfl)⟩, by simp [intOf]; omega⟩
       ·have e : k = l.length := by omega
        subst e
        have HNL : Hid (l.any longB = false) := Lib.hid (by have := HO.out; rwa [List.take_length] at this)
        by_cases h4 : 4000 < rb
        ·have hE : E = 3 := by rw [← HCK2.out, if_pos (by simp; omega)]; rfl
         subst hE
         go_wp2_with (first
          | (go_at_call 46; (with_reducible refine (HTX.out _ (HP.out.below HB2.out) (HA.out.below HB2.out)).mono ?_); rintro e w3 ⟨t2, rfl, ht2, hb3⟩; have HB3 := Lib.hid (below_call' hb3 HB2.out HB2.out.size); have h4' : (4000 : Int) < (t2.size : Int) := (by omega); clear hb3 ht2))
         go_returns
         exact ⟨rfl, HB3.out⟩
        ·have hE : E = 0 := by rw [← HCK2.out, HNL.out, if_neg (by simp; omega)]
         subst hE
         go_wp2_with (first
          | (go_at_call 46; (with_reducible refine (HTX.out _ (HP.out.below HB2.out) (HA.out.below HB2.out)).mono ?_); rintro e w3 ⟨t2, rfl, ht2, hb3⟩; have HB3 := Lib.hid (below_call' hb3 HB2.out HB2.out.size); have h4' : ¬ (4000 : Int) < (t2.size : Int) := (by omega); clear hb3 ht2))
         go_returns
         exact ⟨rfl, HB3.out⟩
end Go.Proofs.YtahcjgjigbedoaaGreatDoor
