/- The reference's values: Text of a list and of a map has the bytes that px counts. -/
import Derived.Test.YtahcjgjigbedoaaGreatDoorGR8
set_option linter.unusedVariables false
set_option linter.unusedSimpArgs false
namespace Go.Proofs.YtahcjgjigbedoaaGreatDoor
open Go.RowKit
set_option maxRecDepth 100000
theorem elems_end (l : List CellD) : ∀ k s t, s.j ≤ l.length → elems (px l) 0 k s = some t → t.j ≤ l.length
 | 0, s, t, h, e => by simp [elems] at e; subst e; exact h
 | k + 1, s, t, h, e => by
  obtain ⟨r, hr, e'⟩ := elems_cons e
  exact elems_end l k ⟨r.j, max s.d (0 + r.d), s.b + r.b⟩ t (px_adv hr).2 e'
theorem pairs_end (l : List CellD) : ∀ k last s t, s.j ≤ l.length → pairs l (px l) 0 k last s = some t → t.j ≤ l.length
 | 0, last, s, t, h, e => by simp [pairs] at e; subst e; exact h
 | k + 1, last, s, t, h, e => by
  obtain ⟨c, r, _, _, hr, e'⟩ := pairs_cons e
  exact pairs_end l k (some c.str) ⟨r.j, max s.d (0 + r.d), s.b + (quotedN c.str + 1) + r.b⟩ t (px_adv hr).2 e'
attribute [local go_sem] cell_alloc_is
set_option maxHeartbeats 8000000 in
theorem text_list (l : List CellD) (A : Option Addr) (cap : Nat) (hl : l.length ≤ 1000000) (hok : ∀ c ∈ l, okC6 c) (hv : ∀ c ∈ l, SmallC c) (j : Nat) (i : Int) (s : ByteArray) (N : Nat) (t : Sh) (hcl : l[j]? = some ⟨5, i, s, N⟩) (ht : elems (px l) 0 N ⟨j + 1, 0, 0⟩ = some t) (hN : TextFrom l A cap (j + 1)) (w : World) (hp : Pow w) (h : SlAt w A 4 CellD.cells l) :
  Calls Tryz.prog 46 #[.slice A l.length cap, .int .i64 j] w (TextPost w (sizeN ⟨5, i, s, N⟩ + t.b)) := by
 have hjl : j < l.length := (List.getElem?_eq_some_iff.mp hcl).1
 have hc : l[j] = ⟨5, i, s, N⟩ := (List.getElem?_eq_some_iff.mp hcl).2
 have hck := hok _ (hc ▸ List.getElem_mem hjl)
 have hbb := elems_b (fun j s hs => px_b hl hv hs) (fun j s hs => (px_adv hs).1) _ _ _ ht
 have hte := elems_end l _ _ _ (show (⟨j + 1, 0, 0⟩ : Sh).j ≤ l.length from hjl) ht
 dsimp only at hbb
 have hN6 : N ≤ 1000000 := by omega
 have htb : t.b ≤ 17179869184000000 := by omega
 have hNz : sizeN ⟨5, i, s, N⟩ = 2 + max 0 ((N : Int) - 1) := by simp [sizeN]
 obtain ⟨P, hP⟩ : ∃ P, TextPost w (sizeN ⟨5, i, s, N⟩ + t.b) = P := ⟨_, rfl⟩
 rw [hP]
 rw [hNz] at hP
 have HP := Lib.hid hP
 have HTB := Lib.hid htb
 have HT := Lib.hid ht
 have hji : (j : Int) < (l.length : Int) := by omega
 have hj0 : (0 : Int) ≤ (j : Int) := by omega
 have hj1 : (j : Int) ≤ 1000000 := by omega
 have HN := Lib.hid hN
 have HA := Lib.hid h
 have HV := Lib.hid hv
 have HPW := Lib.hid hp
 have HOK := Lib.hid hok
 have HX := Lib.hid (next_any l A cap hl hok)
 obtain ⟨bA, off, rfl, _⟩ := h.ptr hjl
 have c0 := h.cell0 hjl (v := .int .i64 5) (by rw [hc]; rfl)
 have c1 := h.cell hjl (j := 1) (v := .int .i64 i) (by rw [hc]; rfl)
 have c2 := h.cell hjl (j := 2) (v := .string s) (by rw [hc]; rfl)
 have c3 := h.cell hjl (j := 3) (v := .int .i64 N) (by rw [hc]; rfl)
 have HBX := Lib.hid (Blk.new w 47 #[.int .i64 5, .int .i64 i, .string s, .int .i64 N])
 have HB0 := Lib.hid (below_new w (.cells #[.int .i64 5, .int .i64 i, .string s, .int .i64 N] 47))
 have HBN : Hid (0 ≤ t.b) := Lib.hid hbb.2.1
 clear hN h hok hc hcl hck hp hv ht hP hbb hte htb hNz
 go_enter Tryz.func46, Tryz.ntmps46
 go_wp2_with (fail)
 go_loopw [6, 7, 8] (fun ov av kv wr => ∃ (k : Nat) (q : Sh) (tx : ByteArray), k ≤ N ∧ kv = .int .i64 k ∧ ov = .string tx ∧ av = .int .i64 q.j ∧ j + 1 ≤ q.j ∧ q.j ≤ l.length ∧ Hid ((tx.size : Int) = q.b + max 0 ((k : Int) - 1)) ∧ Hid (0 ≤ q.b ∧ q.b ≤ t.b) ∧ Hid (elems (px l) 0 (N - k) q = some t) ∧ Blk wr w.heap.size 47 #[.int .i64 5, .int .i64 i, .string s, .int .i64 N] ∧ Below w.heap.size w wr) (fun _ _ kv _ => N - (intOf kv).toNat)
 case atStart => exact ⟨0, ⟨j + 1, 0, 0⟩, _, Nat.zero_le _, rfl, rfl, by simp, Nat.le_refl _, hjl, Lib.hid (show ((0 : Nat) : Int) = 0 + max 0 (((0 : Nat) : Int) - 1) by omega), Lib.hid ⟨Int.le_refl _, HBN.out⟩, Lib.hid HT.out, HBX.out, HB0.out⟩
 case round =>
  obtain ⟨k, q, tx, hk, rfl, rfl, rfl, hjq, hql, HTX, HQB, HS, hbx, hbel⟩ := hrel
  have HBXk := Lib.hid hbx
  have HB := Lib.hid hbel
  have b4 := blk4 hbx
  clear hbx hbel
  have hk0 : (0 : Int) ≤ (k : Int) := by omega
  have hk6 : (k : Int) ≤ 1000000 := by omega
  by_cases hlt : k < N
  ·have hlt' : (k : Int) < (N : Int) := by omega
   obtain ⟨m, hm⟩ : ∃ m, N - k = m + 1 := ⟨N - k - 1, by omega⟩
   have HM : Hid (N - (k + 1) = m) := Lib.hid (by omega)
   obtain ⟨r', hr', he⟩ := elems_cons (show elems (px l) 0 (m + 1) q = some t by rw [← hm]; exact HS.out)
   have had := px_adv hr'
   have hrb := px_b hl HV.out hr'
   have hnb := elems_b (fun j s hs => px_b hl HV.out hs) (fun j s hs => (px_adv hs).1) _ _ _ he
   dsimp only at hnb
   have HE := Lib.hid he
   have HTXT : Hid (∀ wx, Pow wx → SlAt wx (some ⟨bA, off, none⟩) 4 CellD.cells l → Calls Tryz.prog 46 #[.slice (some ⟨bA, off, none⟩) l.length cap, .int .i64 q.j] wx (TextPost wx r'.b)) := Lib.hid (fun wx hpx hx => by have := HN.out q.j r' (by omega) hr' wx hpx hx; exact this)
   have HNX : Hid (∀ wx, SlAt wx (some ⟨bA, off, none⟩) 4 CellD.cells l → Calls Tryz.prog 68 #[.slice (some ⟨bA, off, none⟩) l.length cap, .int .i64 q.j] wx fun e w' => e = .returned (.int .i64 (r'.j : Nat)) ∧ Below wx.heap.size wx w') := Lib.hid (fun wx hx => by
    have := HX.out q.j (Nat.zero_le _) (by omega) wx hx
    rw [hr'] at this
    exact this)
   have h1 := had.1
   have h2 := had.2
   have hqi0 : (0 : Int) ≤ (q.j : Int) := by omega
   have hqi1 : (q.j : Int) ≤ 1000000 := by omega
   have HR9 : Hid (0 ≤ r'.b ∧ (tx.size : Int)  + r'.b + 5 ≤ 9000000000000000000) := Lib.hid (by have := HTX.out; have := HTB.out; have := hnb.2.1; exact ⟨hrb.1, by omega⟩)
   have htx9 : ¬ 9223372036854775807 < tx.size + 1 := by have := HTX.out; have := HTB.out; have := hnb.2.1; omega
   have HNB : Hid (0 ≤ q.b  + r'.b ∧ q.b  + r'.b ≤ t.b) := Lib.hid (by have := HQB.out; exact ⟨by omega, by have := hnb.2.1; omega⟩)
   clear had hr' he hm hrb hnb 
   have hk9 : (k : Int) + 1 ≤ 9223372036854775807 := by omega
   by_cases hkp : 0 < k
   ·have hkp' : (0 : Int) < (k : Int) := by omega
    go_wp2_with (first
     | (go_at_call 46; (with_reducible refine (HTXT.out _ (HPW.out.below HB.out) (HA.out.below HB.out)).mono ?_); rintro e w1 ⟨t2, rfl, ht2, hb1⟩; have hy1 := below_call' hb1 HB.out HB.out.size; have HB1 := Lib.hid hy1; have HBX1 := Lib.hid (HBXk.out.below hb1); have HT2 := Lib.hid ht2; have g5 : ¬ 9223372036854775807 < tx.size + 1 + t2.size := (by have := HR9.out; omega); clear hb1 hy1 ht2)
     | (go_at_call 68; (with_reducible refine (HNX.out _ (HA.out.below HB1.out)).mono ?_); rintro e w2 ⟨rfl, hb2⟩; have HB2 := Lib.hid (below_call' hb2 HB1.out HB1.out.size); have HBX2 := Lib.hid (HBX1.out.below hb2); clear hb2))
    refine ⟨⟨k + 1, ⟨r'.j, max q.d (0 + r'.d), q.b + r'.b⟩, _, by omega, by simp, rfl, rfl, by show j + 1 ≤ r'.j; omega, h2, Lib.hid ?_, Lib.hid ?_, Lib.hid (by rw [HM.out]; exact HE.out), HBX2.out, HB2.out⟩, by simp [intOf]; omega⟩
    ·have := HTX.out
     have := HT2.out
     have e1 : (⟨#[44]⟩ : ByteArray).size = 1 := rfl
     simp only [ByteArray.size_append, e1]
     push_cast
     omega
    ·exact HNB.out
   ·have hkn : ¬ (0 : Int) < (k : Int) := by omega
    go_wp2_with (first
     | (go_at_call 46; (with_reducible refine (HTXT.out _ (HPW.out.below HB.out) (HA.out.below HB.out)).mono ?_); rintro e w1 ⟨t2, rfl, ht2, hb1⟩; have hy1 := below_call' hb1 HB.out HB.out.size; have HB1 := Lib.hid hy1; have HBX1 := Lib.hid (HBXk.out.below hb1); have HT2 := Lib.hid ht2; have g5 : ¬ 9223372036854775807 < tx.size + t2.size := (by have := HR9.out; omega); clear hb1 hy1 ht2)
     | (go_at_call 68; (with_reducible refine (HNX.out _ (HA.out.below HB1.out)).mono ?_); rintro e w2 ⟨rfl, hb2⟩; have HB2 := Lib.hid (below_call' hb2 HB1.out HB1.out.size); have HBX2 := Lib.hid (HBX1.out.below hb2); clear hb2))
    refine ⟨⟨k + 1, ⟨r'.j, max q.d (0 + r'.d), q.b + r'.b⟩, _, by omega, by simp, rfl, rfl, by show j + 1 ≤ r'.j; omega, h2, Lib.hid ?_, Lib.hid ?_, Lib.hid (by rw [HM.out]; exact HE.out), HBX2.out, HB2.out⟩, by simp [intOf]; omega⟩
    ·have := HTX.out
     have := HT2.out
     simp only [ByteArray.size_append]
     push_cast
     omega
    ·exact HNB.out
  ·have e : k = N := by omega
   subst e
   have he : q = t := by
    have := HS.out
    rw [Nat.sub_self] at this
    exact Option.some.inj this
   subst he
   have HF : Hid ((tx.size : Int) = q.b + max 0 ((k : Int) - 1)) := HTX
   have hz1 : ¬ 9223372036854775807 < 1 + tx.size := by have := HTX.out; have := HTB.out; omega
   have hz2 : ¬ 9223372036854775807 < 1 + tx.size + 1 := by have := HTX.out; have := HTB.out; omega
   go_wp2_with (fail)
   rw [← HP.out]
   refine ⟨_, rfl, ?_, HB.out⟩
   have := HF.out
   have e1 : (⟨#[91]⟩ : ByteArray).size = 1 := rfl
   have e2 : (⟨#[93]⟩ : ByteArray).size = 1 := rfl
   simp only [ByteArray.size_append, e1, e2]
   push_cast
   omega
set_option maxHeartbeats 8000000 in
theorem text_map (l : List CellD) (A : Option Addr) (cap : Nat) (hl : l.length ≤ 1000000) (hok : ∀ c ∈ l, okC6 c) (hv : ∀ c ∈ l, SmallC c) (j : Nat) (i : Int) (s : ByteArray) (N : Nat) (t : Sh) (hcl : l[j]? = some ⟨6, i, s, N⟩) (ht : pairs l (px l) 0 N none ⟨j + 1, 0, 0⟩ = some t) (hN : TextFrom l A cap (j + 1)) (w : World) (hp : Pow w) (h : SlAt w A 4 CellD.cells l) :
  Calls Tryz.prog 46 #[.slice A l.length cap, .int .i64 j] w (TextPost w (sizeN ⟨6, i, s, N⟩ + t.b)) := by
 have hjl : j < l.length := (List.getElem?_eq_some_iff.mp hcl).1
 have hc : l[j] = ⟨6, i, s, N⟩ := (List.getElem?_eq_some_iff.mp hcl).2
 have hck := hok _ (hc ▸ List.getElem_mem hjl)
 have hbb := pairs_b hv (fun j s hs => px_b hl hv hs) (fun j s hs => (px_adv hs).1) _ _ _ _ ht
 have hte := pairs_end l _ _ _ _ (show (⟨j + 1, 0, 0⟩ : Sh).j ≤ l.length from hjl) ht
 dsimp only at hbb
 have hN6 : N ≤ 1000000 := by omega
 have htb : t.b ≤ 17179869184000000 := by omega
 have hNz : sizeN ⟨6, i, s, N⟩ = 2 + max 0 ((N : Int) - 1) := by simp [sizeN]
 obtain ⟨P, hP⟩ : ∃ P, TextPost w (sizeN ⟨6, i, s, N⟩ + t.b) = P := ⟨_, rfl⟩
 rw [hP]
 rw [hNz] at hP
 have HP := Lib.hid hP
 have HTB := Lib.hid htb
 have HT := Lib.hid ht
 have hji : (j : Int) < (l.length : Int) := by omega
 have hj0 : (0 : Int) ≤ (j : Int) := by omega
 have hj1 : (j : Int) ≤ 1000000 := by omega
 have HN := Lib.hid hN
 have HA := Lib.hid h
 have HV := Lib.hid hv
 have HPW := Lib.hid hp
 have HOK := Lib.hid hok
 have HX := Lib.hid (next_any l A cap hl hok)
 obtain ⟨bA, off, rfl, _⟩ := h.ptr hjl
 have c0 := h.cell0 hjl (v := .int .i64 6) (by rw [hc]; rfl)
 have c1 := h.cell hjl (j := 1) (v := .int .i64 i) (by rw [hc]; rfl)
 have c2 := h.cell hjl (j := 2) (v := .string s) (by rw [hc]; rfl)
 have c3 := h.cell hjl (j := 3) (v := .int .i64 N) (by rw [hc]; rfl)
 have HBX := Lib.hid (Blk.new w 47 #[.int .i64 6, .int .i64 i, .string s, .int .i64 N])
 have HB0 := Lib.hid (below_new w (.cells #[.int .i64 6, .int .i64 i, .string s, .int .i64 N] 47))
 have HBN : Hid (0 ≤ t.b) := Lib.hid hbb.2.1
 clear hN h hok hc hcl hck hp hv ht hP hbb hte htb hNz
 go_enter Tryz.func46, Tryz.ntmps46
 go_wp2_with (fail)
 go_loopw [6, 7, 8] (fun ov av kv wr => ∃ (k : Nat) (q : Sh) (la : Option ByteArray) (tx : ByteArray), k ≤ N ∧ kv = .int .i64 k ∧ ov = .string tx ∧ av = .int .i64 q.j ∧ j + 1 ≤ q.j ∧ q.j ≤ l.length ∧ Hid ((tx.size : Int) = q.b + max 0 ((k : Int) - 1)) ∧ Hid (0 ≤ q.b ∧ q.b ≤ t.b) ∧ Hid (pairs l (px l) 0 (N - k) la q = some t) ∧ Blk wr w.heap.size 47 #[.int .i64 6, .int .i64 i, .string s, .int .i64 N] ∧ Below w.heap.size w wr) (fun _ _ kv _ => N - (intOf kv).toNat)
 case atStart => exact ⟨0, ⟨j + 1, 0, 0⟩, none, _, Nat.zero_le _, rfl, rfl, by simp, Nat.le_refl _, hjl, Lib.hid (show ((0 : Nat) : Int) = 0 + max 0 (((0 : Nat) : Int) - 1) by omega), Lib.hid ⟨Int.le_refl _, HBN.out⟩, Lib.hid HT.out, HBX.out, HB0.out⟩
 case round =>
  obtain ⟨k, q, la, tx, hk, rfl, rfl, rfl, hjq, hql, HTX, HQB, HS, hbx, hbel⟩ := hrel
  have HBXk := Lib.hid hbx
  have HB := Lib.hid hbel
  have b4 := blk4 hbx
  clear hbx hbel
  have hk0 : (0 : Int) ≤ (k : Int) := by omega
  have hk6 : (k : Int) ≤ 1000000 := by omega
  by_cases hlt : k < N
  ·have hlt' : (k : Int) < (N : Int) := by omega
   obtain ⟨m, hm⟩ : ∃ m, N - k = m + 1 := ⟨N - k - 1, by omega⟩
   have HM : Hid (N - (k + 1) = m) := Lib.hid (by omega)
   obtain ⟨c', r', hc', hko, hr', he⟩ := pairs_cons (show pairs l (px l) 0 (m + 1) la q = some t by rw [← hm]; exact HS.out)
   have had := px_adv hr'
   have hrb := px_b hl HV.out hr'
   have hnb := pairs_b HV.out (fun j s hs => px_b hl HV.out hs) (fun j s hs => (px_adv hs).1) _ _ _ _ he
   dsimp only at hnb
   have HE := Lib.hid he
   have hq0 := (HV.out c' (List.mem_of_getElem? hc')).2
   have hcj : q.j < l.length := (List.getElem?_eq_some_iff.mp hc').1
   have hcji : (q.j : Int) < (l.length : Int) := by omega
   have d2 := (HA.out.below HB.out).cell hcj (j := 2) (v := .string c'.str) (by rw [(List.getElem?_eq_some_iff.mp hc').2]; rfl)
   have HQ : Hid (∀ wx, Calls Tryz.prog 70 #[.string c'.str] wx fun e w' => ∃ t : ByteArray, e = .returned (.string t) ∧ (t.size : Int) = quotedN c'.str ∧ w' = wx) := Lib.hid (fun wx => quoted6_any c'.str wx (HOK.out c' (List.mem_of_getElem? hc')).1)
   have HTXT : Hid (∀ wx, Pow wx → SlAt wx (some ⟨bA, off, none⟩) 4 CellD.cells l → Calls Tryz.prog 46 #[.slice (some ⟨bA, off, none⟩) l.length cap, .int .i64 ((q.j : Int) + 1)] wx (TextPost wx r'.b)) := Lib.hid (fun wx hpx hx => by have := HN.out (q.j + 1) r' (by omega) hr' wx hpx hx; push_cast at this; exact this)
   have HNX : Hid (∀ wx, SlAt wx (some ⟨bA, off, none⟩) 4 CellD.cells l → Calls Tryz.prog 68 #[.slice (some ⟨bA, off, none⟩) l.length cap, .int .i64 ((q.j : Int) + 1)] wx fun e w' => e = .returned (.int .i64 (r'.j : Nat)) ∧ Below wx.heap.size wx w') := Lib.hid (fun wx hx => by
    have := HX.out (q.j + 1) (Nat.zero_le _) (by omega) wx hx
    rw [hr'] at this
    push_cast at this
    exact this)
   have h1 := had.1
   have h2 := had.2
   have hqi0 : (0 : Int) ≤ (q.j : Int) := by omega
   have hqi1 : (q.j : Int) ≤ 1000000 := by omega
   have HR9 : Hid (0 ≤ r'.b ∧ (tx.size : Int) + quotedN c'.str + r'.b + 5 ≤ 9000000000000000000) := Lib.hid (by have := HTX.out; have := HTB.out; have := hnb.2.1; exact ⟨hrb.1, by omega⟩)
   have htx9 : ¬ 9223372036854775807 < tx.size + 1 := by have := HTX.out; have := HTB.out; have := hnb.2.1; omega
   have HNB : Hid (0 ≤ q.b + (quotedN c'.str + 1) + r'.b ∧ q.b + (quotedN c'.str + 1) + r'.b ≤ t.b) := Lib.hid (by have := HQB.out; exact ⟨by omega, by have := hnb.2.1; omega⟩)
   clear had hr' he hm hrb hnb hc' hko hq0
   have hk9 : (k : Int) + 1 ≤ 9223372036854775807 := by omega
   by_cases hkp : 0 < k
   ·have hkp' : (0 : Int) < (k : Int) := by omega
    go_wp2_with (first
     | (go_at_call 70; (with_reducible refine (HQ.out _).mono ?_); rintro e w9 ⟨tq, rfl, htq, hw9⟩; rw [hw9]; clear hw9 w9; have HTQ := Lib.hid htq; have g1 : ¬ 9223372036854775807 < tx.size + 1 + tq.size := (by have := HR9.out; omega); have g2 : ¬ 9223372036854775807 < tq.size + 1 := (by have := HR9.out; omega); have g3 : ¬ 9223372036854775807 < tx.size + 1 + (tq.size + 1) := (by have := HR9.out; omega); have g4 : ¬ 9223372036854775807 < tx.size + 1 + tq.size + 1 := (by have := HR9.out; omega); clear htq)
     | (go_at_call 46; (with_reducible refine (HTXT.out _ (HPW.out.below HB.out) (HA.out.below HB.out)).mono ?_); rintro e w1 ⟨t2, rfl, ht2, hb1⟩; have hy1 := below_call' hb1 HB.out HB.out.size; have HB1 := Lib.hid hy1; have HBX1 := Lib.hid (HBXk.out.below hb1); have HT2 := Lib.hid ht2; have g5 : ¬ 9223372036854775807 < tx.size + 1 + tq.size + 1 + t2.size := (by have := HR9.out; have := HTQ.out; omega); have g6 : ¬ 9223372036854775807 < tx.size + 1 + (tq.size + 1) + t2.size := (by have := HR9.out; have := HTQ.out; omega); clear hb1 hy1 ht2)
     | (go_at_call 68; (with_reducible refine (HNX.out _ (HA.out.below HB1.out)).mono ?_); rintro e w2 ⟨rfl, hb2⟩; have HB2 := Lib.hid (below_call' hb2 HB1.out HB1.out.size); have HBX2 := Lib.hid (HBX1.out.below hb2); clear hb2))
    refine ⟨⟨k + 1, ⟨r'.j, max q.d (0 + r'.d), q.b + (quotedN c'.str + 1) + r'.b⟩, some c'.str, _, by omega, by simp, rfl, rfl, by show j + 1 ≤ r'.j; omega, h2, Lib.hid ?_, Lib.hid ?_, Lib.hid (by rw [HM.out]; exact HE.out), HBX2.out, HB2.out⟩, by simp [intOf]; omega⟩
    ·have := HTX.out
     have := HT2.out
     have := HTQ.out
     have e1 : (⟨#[44]⟩ : ByteArray).size = 1 := rfl
     have e2 : (⟨#[58]⟩ : ByteArray).size = 1 := rfl
     simp only [ByteArray.size_append, e1, e2]
     push_cast
     omega
    ·exact HNB.out
   ·have hkn : ¬ (0 : Int) < (k : Int) := by omega
    go_wp2_with (first
     | (go_at_call 70; (with_reducible refine (HQ.out _).mono ?_); rintro e w9 ⟨tq, rfl, htq, hw9⟩; rw [hw9]; clear hw9 w9; have HTQ := Lib.hid htq; have g1 : ¬ 9223372036854775807 < tx.size + tq.size := (by have := HR9.out; omega); have g2 : ¬ 9223372036854775807 < tq.size + 1 := (by have := HR9.out; omega); have g3 : ¬ 9223372036854775807 < tx.size + (tq.size + 1) := (by have := HR9.out; omega); have g4 : ¬ 9223372036854775807 < tx.size + tq.size + 1 := (by have := HR9.out; omega); clear htq)
     | (go_at_call 46; (with_reducible refine (HTXT.out _ (HPW.out.below HB.out) (HA.out.below HB.out)).mono ?_); rintro e w1 ⟨t2, rfl, ht2, hb1⟩; have hy1 := below_call' hb1 HB.out HB.out.size; have HB1 := Lib.hid hy1; have HBX1 := Lib.hid (HBXk.out.below hb1); have HT2 := Lib.hid ht2; have g5 : ¬ 9223372036854775807 < tx.size + tq.size + 1 + t2.size := (by have := HR9.out; have := HTQ.out; omega); have g6 : ¬ 9223372036854775807 < tx.size + (tq.size + 1) + t2.size := (by have := HR9.out; have := HTQ.out; omega); clear hb1 hy1 ht2)
     | (go_at_call 68; (with_reducible refine (HNX.out _ (HA.out.below HB1.out)).mono ?_); rintro e w2 ⟨rfl, hb2⟩; have HB2 := Lib.hid (below_call' hb2 HB1.out HB1.out.size); have HBX2 := Lib.hid (HBX1.out.below hb2); clear hb2))
    refine ⟨⟨k + 1, ⟨r'.j, max q.d (0 + r'.d), q.b + (quotedN c'.str + 1) + r'.b⟩, some c'.str, _, by omega, by simp, rfl, rfl, by show j + 1 ≤ r'.j; omega, h2, Lib.hid ?_, Lib.hid ?_, Lib.hid (by rw [HM.out]; exact HE.out), HBX2.out, HB2.out⟩, by simp [intOf]; omega⟩
    ·have := HTX.out
     have := HT2.out
     have := HTQ.out
     have e2 : (⟨#[58]⟩ : ByteArray).size = 1 := rfl
     simp only [ByteArray.size_append, e2]
     push_cast
     omega
    ·exact HNB.out
  ·have e : k = N := by omega
   subst e
   have he : q = t := by
    have := HS.out
    rw [Nat.sub_self] at this
    exact Option.some.inj this
   subst he
   have HF : Hid ((tx.size : Int) = q.b + max 0 ((k : Int) - 1)) := HTX
   have hz1 : ¬ 9223372036854775807 < 1 + tx.size := by have := HTX.out; have := HTB.out; omega
   have hz2 : ¬ 9223372036854775807 < 1 + tx.size + 1 := by have := HTX.out; have := HTB.out; omega
   go_wp2_with (fail)
   rw [← HP.out]
   refine ⟨_, rfl, ?_, HB.out⟩
   have := HF.out
   have e1 : (⟨#[123]⟩ : ByteArray).size = 1 := rfl
   have e2 : (⟨#[125]⟩ : ByteArray).size = 1 := rfl
   simp only [ByteArray.size_append, e1, e2]
   push_cast
   omega
end Go.Proofs.YtahcjgjigbedoaaGreatDoor
