/- The program's Ordered, and that it is the reference's. -/
import Derived.Test.YtcnmdhdoiekfoaaDoorW10
namespace Go.Proofs.YtcnmdhdoiekfoaaDoor
open Go.RowKit
set_option maxRecDepth 100000

theorem anyUpto_iff (p : Nat → Bool) (n : Nat) : anyUpto p n = true ↔ ∃ i, i < n ∧ p i = true := by
  induction n with
  | zero => simp [anyUpto]
  | succ n ih =>
    unfold anyUpto
    rw [Bool.or_eq_true, ih]
    constructor
    · rintro (⟨i, h1, h2⟩ | h)
      · exact ⟨i, by omega, h2⟩
      · exact ⟨n, by omega, h⟩
    · rintro ⟨i, h1, h2⟩
      by_cases hi : i = n
      · subst hi; exact .inr h2
      · exact .inl ⟨i, by omega, h2⟩

theorem firstN_at (l : List FactD) (k : Int) (e : ByteArray) : ∀ (n m : Nat), firstN l k e n = (m : Int) → ∃ f, l[m - n]? = some f ∧ f.kind = k ∧ f.event = e ∧ n ≤ m := by
  induction l with
  | nil => intro n m h; simp [firstN] at h
  | cons f r ih =>
    intro n m h
    unfold firstN at h
    split at h
    · rename_i hh
      have : n = m := by omega
      subst this
      exact ⟨f, by simp, hh.1, hh.2, Nat.le_refl _⟩
    · obtain ⟨g, h1, h2, h3, h4⟩ := ih (n + 1) m h
      refine ⟨g, ?_, h2, h3, by omega⟩
      rw [show m - n = (m - (n + 1)) + 1 by omega]
      simpa using h1

theorem mem_keys (l : List FactD) (e : ByteArray) : e ∈ (hist l l.length).map (·.1) ↔ ∃ f ∈ l, f.event = e := by
  rw [← alGet_isSome, hist_mem l e l.length (Nat.le_refl _), List.take_length]

theorem ord_agree (l : List FactD) (s : ByteArray) : ordB l ((hist l l.length).map (·.1)) s = overB l s := by
  by_cases h1 : countN l 1 s = 0
  · have h1' := (countN_pos l 1 s 0).1 h1
    unfold ordB overB
    rw [if_pos (.inl h1')]; simp [h1]
  by_cases h5 : countN l 5 s = 0
  · have h5' := (countN_pos l 5 s 0).1 h5
    unfold ordB overB
    rw [if_pos (.inr h5')]; simp [h5]
  obtain ⟨m, hm, hml⟩ := first_nat h1
  obtain ⟨d, hd, _⟩ := first_nat h5
  have e1 : ordB l ((hist l l.length).map (·.1)) s = ((hist l l.length).map (·.1)).any (ordAt l s) := by unfold ordB; simp [h1, h5]
  have e2 : overB l s = anyUpto (overAt l d l[m]) m := by
    unfold overB; rw [if_neg (by omega), hm, hd]; simp [hml]
  rw [e1, e2, Bool.eq_iff_iff, anyUpto_iff, List.any_eq_true]
  constructor
  · rintro ⟨t, _, ht⟩
    unfold ordAt at ht
    simp only [Bool.and_eq_true, decide_eq_true_eq] at ht
    obtain ⟨⟨⟨ht1, ht2⟩, ht3⟩, ht4⟩ := ht
    obtain ⟨m2, hm2, hml2⟩ := first_nat ht2
    rw [hm, hd, hm2] at ht4
    simp only [Int.toNat_natCast, List.getElem?_eq_getElem hml, List.getElem?_eq_getElem hml2, Bool.and_eq_true, decide_eq_true_eq] at ht4
    obtain ⟨⟨⟨⟨a1, a2⟩, a3⟩, a4⟩, a5⟩ := ht4
    obtain ⟨f, g1, g2, g3, _⟩ := firstN_at l 1 t 0 m2 hm2
    rw [Nat.sub_zero, List.getElem?_eq_getElem hml2] at g1
    cases g1
    refine ⟨m2, by omega, ?_⟩
    unfold overAt
    simp only [List.getElem?_eq_getElem hml2, Bool.and_eq_true, decide_eq_true_eq]
    exact ⟨⟨⟨⟨⟨g2, a1.symm⟩, a2.symm⟩, a3.symm⟩, by rw [g3]; exact hm2⟩, by rw [g3]; exact a5⟩
  · rintro ⟨i, hi, hp⟩
    have hil : i < l.length := by omega
    unfold overAt at hp
    simp only [List.getElem?_eq_getElem hil, Bool.and_eq_true, decide_eq_true_eq] at hp
    obtain ⟨⟨⟨⟨⟨a0, a1⟩, a2⟩, a3⟩, a4⟩, a5⟩ := hp
    refine ⟨l[i].event, (mem_keys l _).2 ⟨l[i], List.getElem_mem _, rfl⟩, ?_⟩
    unfold ordAt
    rw [a4, hm, hd]
    simp only [Int.toNat_natCast, List.getElem?_eq_getElem hml, List.getElem?_eq_getElem hil, Bool.and_eq_true, decide_eq_true_eq]
    have n1 := firstN_ge l 1 l[i].event
    have n5 := firstN_ge l 5 l[i].event
    refine ⟨⟨⟨?_, n1.1 (by omega)⟩, n5.1 (by omega)⟩, ⟨⟨⟨a1.symm, a2.symm⟩, a3.symm⟩, by omega⟩, a5⟩
    intro he
    rw [he, hm] at a4
    omega

attribute [local go_sem] cell_alloc_is
set_option maxHeartbeats 1000000 in
theorem pordered_any (A : Option Addr) (cap : Nat) (l : List FactD) (w : World) (hl : l.length ≤ 4000) (hc : l.length ≤ cap) (hf : FactsAt w A l) :
    Calls Tryd.prog 9 #[.slice A l.length cap] w fun e w' => ∃ v, e = .returned v ∧ ProbsAt w' w.heap.size v sOrder (selN l (overB l) l.length) ∧ Below w.heap.size w w' := by
  have HF := Lib.hid (hf.alloc (.cells #[.slice A l.length cap] 22))
  have HX := Lib.hid (Blk.new w 22 #[.slice A l.length cap])
  have HP := Lib.hid (pickN_all l (fun s _ _ => ordB l ((hist l l.length).map (·.1)) s) (overB l) fun q _ => ord_agree l q.1)
  clear hf
  go_enter Tryd.func9, Tryd.ntmps9
  go_wp2_with (fail)
  refine (pfirst_any _ _ _ _ hl hc).mono ?_
  rintro e w' ⟨rfl, rfl⟩
  go_wp2_with (fail)
  refine (histories_any _ _ _ _ hl HF.out).mono ?_
  rintro e w1 ⟨vo, o, hs, rfl, hown, hh, habs, hb1⟩
  obtain ⟨Ao, co, rfl⟩ := own_shape hown
  have hsl : SlAt w1 Ao 1 strCells (hs.map (·.1)) := SlAt.of_own (by rw [← List.length_map (f := fun p : ByteArray × HR => p.1)] at hown; exact hown) (map_flat hs) (fun _ => rfl) (by omega)
  have l1 := (HX.out.below hb1).cell 0 (.slice A l.length cap) rfl
  have HX1 := Lib.hid (HX.out.below hb1)
  have HH := Lib.hid hh
  have HA := Lib.hid habs
  have HB1 := Lib.hid hb1
  have HSL := Lib.hid hsl
  clear hh habs hb1 hown hsl
  go_wp2_with (fail)
  have HB2 := Lib.hid (below_call (below_new (w1.alloc (.cells #[.slice Ao hs.length co] 38)) (.cells #[.map (some o)] 39)) (below_new w1 (.cells #[.slice Ao hs.length co] 38)))
  have HO2 := Lib.hid ((Blk.new w1 38 #[.slice Ao hs.length co]).alloc (.cells #[.map (some o)] 39))
  have HM2 := Lib.hid (Blk.new' (g := w1.heap.size + 1) (w := w1.alloc (.cells #[.slice Ao hs.length co] 38)) (t := 39) (cs := #[.map (some o)]) (by simp))
  have hkeys : hs.map (·.1) = (hist l l.length).map (·.1) := by rw [← HA.out, absH, List.map_map]; rfl
  refine (problems_any A cap l sOrder 21 #[.pointer (some ⟨w.heap.size, 0, none⟩), .pointer (some ⟨w1.heap.size, 0, none⟩), .pointer (some ⟨w1.heap.size + 1, 0, none⟩)] (fun s _ _ => ordB l ((hist l l.length).map (·.1)) s) _ hl ((HF.out.below HB1.out).below HB2.out) Tryd.call21 (fun wx hbx p hp a c hma hmc => ?_)).mono ?_
  · have := pord1_any A Ao cap co _ o l hs p.1 p.2.1 p.2.2 a c w.heap.size w1.heap.size (w1.heap.size + 1) wx hl (((HF.out.below HB1.out).below HB2.out).below hbx) ((HX1.out.below HB2.out).below hbx) (HO2.out.below hbx) (HM2.out.below hbx)
      ((HSL.out.below HB2.out).below hbx) ((HH.out.below HB2.out).below hbx) HA.out hp hma hmc
    rw [hkeys] at this
    exact this
  · rintro e w2 ⟨v, rfl, hp, hb⟩
    rw [HP.out] at hp
    have HB := Lib.hid (below_call hb (below_call HB2.out (below_call HB1.out (below_new w (.cells #[.slice A l.length cap] 22)))))
    have hle : w.heap.size ≤ ((w1.alloc (.cells #[.slice Ao hs.length co] 38)).alloc (.cells #[.map (some o)] 39)).heap.size := (below_call HB2.out (below_call HB1.out (below_new w (.cells #[.slice A l.length cap] 22)))).size
    have HPR : Hid (ProbsAt w2 w.heap.size v sOrder (selN l (overB l) l.length)) := by
      obtain ⟨h1, h2⟩ := hp
      exact ⟨h1, h2.imp id (fun ⟨g, cap, cur, e1, e2, e3⟩ => ⟨g, cap, cur, e1, Nat.le_trans hle e2, e3⟩)⟩
    clear hp hb hle
    go_wp2_with (fail)
    go_ret
    exact ⟨v, rfl, HPR.out, HB.out⟩
end Go.Proofs.YtcnmdhdoiekfoaaDoor
