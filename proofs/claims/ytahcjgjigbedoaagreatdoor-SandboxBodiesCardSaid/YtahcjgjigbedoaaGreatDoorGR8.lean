/- The reference's values: levels. The reference's values: quoted, and the length of Text. The reference's values: the length of Text. -/
import Derived.Test.YtahcjgjigbedoaaGreatDoorGR5
import Derived.Test.YtahcjgjigbedoaaGreatDoorGVB
set_option linter.unusedVariables false
set_option linter.unusedSimpArgs false
namespace Go.Proofs.YtahcjgjigbedoaaGreatDoor
open Go.RowKit
set_option maxRecDepth 100000

/-- levels at the values from a on. -/
def LevelsFrom (l : List CellD) (A : Option Addr) (cap a : Nat) : Prop := ∀ j r, a ≤ j → px l j = some r → ∀ wx, SlAt wx A 4 CellD.cells l → Calls Tryz.prog 45 #[.slice A l.length cap, .int .i64 j] wx fun e w' => e = .returned (.int .i64 (r.d : Nat)) ∧ Below wx.heap.size wx w'
attribute [local go_sem] cell_alloc_is
set_option maxHeartbeats 4000000 in
theorem levels_at (l : List CellD) (A : Option Addr) (cap : Nat) (hl : l.length ≤ 1000000) (hok : ∀ c ∈ l, okC6 c) (j : Nat) (r : Sh) (hr : px l j = some r) (hN : LevelsFrom l A cap (j + 1)) (w : World) (h : SlAt w A 4 CellD.cells l) :
  Calls Tryz.prog 45 #[.slice A l.length cap, .int .i64 j] w fun e w' => e = .returned (.int .i64 (r.d : Nat)) ∧ Below w.heap.size w w' := by
 have had := px_adv hr
 have hjl : j < l.length := by omega
 have hji : (j : Int) < (l.length : Int) := by omega
 have hj0 : (0 : Int) ≤ (j : Int) := by omega
 have hj1 : (j : Int) ≤ 1000000 := by omega
 have HN := Lib.hid hN
 have HA := Lib.hid h
 have HX := Lib.hid (next_any l A cap hl hok)
 obtain ⟨c, hc⟩ : ∃ c, l[j] = c := ⟨_, rfl⟩
 have hcl : l[j]? = some c := by rw [List.getElem?_eq_getElem hjl, hc]
 have hck := hok c (hc ▸ List.getElem_mem hjl)
 obtain ⟨bA, off, rfl, _⟩ := h.ptr hjl
 have c0 := h.cell0 hjl (v := .int .i64 c.kind) (by rw [hc]; rfl)
 have c1 := h.cell hjl (j := 1) (v := .int .i64 c.int) (by rw [hc]; rfl)
 have c2 := h.cell hjl (j := 2) (v := .string c.str) (by rw [hc]; rfl)
 have c3 := h.cell hjl (j := 3) (v := .int .i64 c.n) (by rw [hc]; rfl)
 obtain ⟨hpb, hcase⟩ := px_cases hr hcl
 have HCS := Lib.hid hcase
 have HPB := Lib.hid hpb
 obtain ⟨k, i, s, n⟩ := c
 dsimp only at c0 c1 c2 c3
 have hn9 := hck.2
 dsimp only at hn9
 clear hN h hok hc hcl hpb hcase had hr hck
 by_cases hk : k = 5 ∨ k = 6
 ·have hn0 : 0 ≤ n := plain_n HPB.out hk
  obtain ⟨N, hNn⟩ : ∃ N : Nat, n = (N : Int) := ⟨n.toNat, by omega⟩
  subst hNn
  have hNt : ((N : Int)).toNat = N := by omega
  by_cases h5 : k = 5
  ·subst h5
   obtain ⟨t, ht, hrd⟩ : ∃ t, elems (px l) 0 N ⟨j + 1, 0, 0⟩ = some t ∧ r.d = t.d + 1 := by
    rcases HCS.out with ⟨_, t, e1, e2⟩ | ⟨e, _⟩ | ⟨e, _⟩
    ·rw [hNt] at e1; exact ⟨t, e1, by rw [e2]⟩
    ·cases e
    ·exact absurd rfl e
   have HT := Lib.hid ht
   have HR := Lib.hid hrd
   have HBX := Lib.hid (Blk.new w 47 #[.int .i64 5, .int .i64 i, .string s, .int .i64 N])
   have HB0 := Lib.hid (below_new w (.cells #[.int .i64 5, .int .i64 i, .string s, .int .i64 N] 47))
   rw [hrd]
   clear ht hrd hNt HCS HPB hk hn0
   go_enter Tryz.func45, Tryz.ntmps45
   go_wp2_with (fail)
   go_loopw [6, 7, 8] (fun mv av kv wr => ∃ (k : Nat) (q : Sh), k ≤ N ∧ kv = .int .i64 k ∧ mv = .int .i64 q.d ∧ av = .int .i64 q.j ∧ j + 1 ≤ q.j ∧ q.j ≤ l.length ∧ q.d ≤ q.j ∧ Hid (elems (px l) 0 (N - k) q = some t) ∧ Blk wr w.heap.size 47 #[.int .i64 5, .int .i64 i, .string s, .int .i64 N] ∧ Below w.heap.size w wr) (fun _ _ kv _ => N - (intOf kv).toNat)
   case atStart => exact ⟨0, ⟨j + 1, 0, 0⟩, Nat.zero_le _, rfl, rfl, by simp, Nat.le_refl _, hjl, Nat.zero_le _, Lib.hid HT.out, HBX.out, HB0.out⟩
   case round =>
    obtain ⟨k, q, hk, rfl, rfl, rfl, hjq, hql, hqd, HS, hbx, hbel⟩ := hrel
    have HBXk := Lib.hid hbx
    have HB := Lib.hid hbel
    have b4 := blk4 hbx
    clear hbx hbel
    have hk0 : (0 : Int) ≤ (k : Int) := by omega
    by_cases hlt : k < N
    ·have hlt' : (k : Int) < (N : Int) := by omega
     obtain ⟨m, hm⟩ : ∃ m, N - k = m + 1 := ⟨N - k - 1, by omega⟩
     have HM : Hid (N - (k + 1) = m) := Lib.hid (by omega)
     obtain ⟨r', hr', he⟩ := elems_cons (show elems (px l) 0 (m + 1) q = some t by rw [← hm]; exact HS.out)
     have had := px_adv hr'
     have hdd := px_d hr'
     have HE := Lib.hid he
     have HLV : Hid (∀ wx, SlAt wx (some ⟨bA, off, none⟩) 4 CellD.cells l → Calls Tryz.prog 45 #[.slice (some ⟨bA, off, none⟩) l.length cap, .int .i64 q.j] wx fun e w' => e = .returned (.int .i64 (r'.d : Nat)) ∧ Below wx.heap.size wx w') := Lib.hid (fun wx hx => HN.out q.j r' hjq hr' wx hx)
     have HNX : Hid (∀ wx, SlAt wx (some ⟨bA, off, none⟩) 4 CellD.cells l → Calls Tryz.prog 68 #[.slice (some ⟨bA, off, none⟩) l.length cap, .int .i64 q.j] wx fun e w' => e = .returned (.int .i64 (r'.j : Nat)) ∧ Below wx.heap.size wx w') := Lib.hid (fun wx hx => by
      have := HX.out q.j (Nat.zero_le _) hql wx hx
      rw [hr'] at this
      exact this)
     have h1 := had.1
     have h2 := had.2
     clear had hr' he hm
     by_cases hgt : q.d < r'.d
     all_goals
      have hk9 : (k : Int) + 1 ≤ 9223372036854775807 := by omega
      go_wp2_with (first
       | (go_at_call 45; (with_reducible refine (HLV.out _ (HA.out.below HB.out)).mono ?_); rintro e w1 ⟨rfl, hb1⟩; have hy1 := below_call' hb1 HB.out HB.out.size; have HB1 := Lib.hid hy1; have HBX1 := Lib.hid (HBXk.out.below hb1); clear hb1 hy1)
       | (go_at_call 68; (with_reducible refine (HNX.out _ (HA.out.below HB1.out)).mono ?_); rintro e w2 ⟨rfl, hb2⟩; have HB2 := Lib.hid (below_call' hb2 HB1.out HB1.out.size); have HBX2 := Lib.hid (HBX1.out.below hb2); clear hb2))
      refine ⟨⟨k + 1, ⟨r'.j, max q.d (0 + r'.d), q.b + r'.b⟩, by omega, by simp, ?_, rfl, by show j + 1 ≤ r'.j; omega, h2, by show max q.d (0 + r'.d) ≤ r'.j; omega, Lib.hid (by rw [HM.out]; exact HE.out), HBX2.out, HB2.out⟩, by simp [intOf]; omega⟩
      show Value.int .i64 _ = Value.int .i64 ((max q.d (0 + r'.d) : Nat) : Int)
      congr 1
      omega
    ·have e : k = N := by omega
     subst e
     have he : q = t := by
      have := HS.out
      rw [Nat.sub_self] at this
      exact Option.some.inj this
     subst he
     have hq1 : (q.d : Int) ≤ 1000000 := by omega
     have hq0 : (0 : Int) ≤ (q.d : Int) := by omega
     go_wp2_with (fail)
     go_returns
     exact ⟨by push_cast; rfl, HB.out⟩
  ·have h6 : k = 6 := by omega
   obtain ⟨t, ht, hrd⟩ : ∃ t, pairs l (px l) 0 N none ⟨j + 1, 0, 0⟩ = some t ∧ r.d = t.d + 1 := by
    rcases HCS.out with ⟨e, _⟩ | ⟨_, t, e1, e2⟩ | ⟨_, e, _⟩
    ·exact absurd e h5
    ·rw [hNt] at e1; exact ⟨t, e1, by rw [e2]⟩
    ·exact absurd h6 e
   subst h6
   have HT := Lib.hid ht
   have HR := Lib.hid hrd
   have HBX := Lib.hid (Blk.new w 47 #[.int .i64 6, .int .i64 i, .string s, .int .i64 N])
   have HB0 := Lib.hid (below_new w (.cells #[.int .i64 6, .int .i64 i, .string s, .int .i64 N] 47))
   rw [hrd]
   clear ht hrd hNt HCS HPB hk hn0 h5
   go_enter Tryz.func45, Tryz.ntmps45
   go_wp2_with (fail)
   go_loopw [6, 7, 8] (fun mv av kv wr => ∃ (k : Nat) (q : Sh) (la : Option ByteArray), k ≤ N ∧ kv = .int .i64 k ∧ mv = .int .i64 q.d ∧ av = .int .i64 q.j ∧ j + 1 ≤ q.j ∧ q.j ≤ l.length ∧ q.d ≤ q.j ∧ Hid (pairs l (px l) 0 (N - k) la q = some t) ∧ Blk wr w.heap.size 47 #[.int .i64 6, .int .i64 i, .string s, .int .i64 N] ∧ Below w.heap.size w wr) (fun _ _ kv _ => N - (intOf kv).toNat)
   case atStart => exact ⟨0, ⟨j + 1, 0, 0⟩, none, Nat.zero_le _, rfl, rfl, by simp, Nat.le_refl _, hjl, Nat.zero_le _, Lib.hid HT.out, HBX.out, HB0.out⟩
   case round =>
    obtain ⟨k, q, la, hk, rfl, rfl, rfl, hjq, hql, hqd, HS, hbx, hbel⟩ := hrel
    have HBXk := Lib.hid hbx
    have HB := Lib.hid hbel
    have b4 := blk4 hbx
    clear hbx hbel
    have hk0 : (0 : Int) ≤ (k : Int) := by omega
    by_cases hlt : k < N
    ·have hlt' : (k : Int) < (N : Int) := by omega
     obtain ⟨m, hm⟩ : ∃ m, N - k = m + 1 := ⟨N - k - 1, by omega⟩
     have HM : Hid (N - (k + 1) = m) := Lib.hid (by omega)
     obtain ⟨c', r', hc', hko, hr', he⟩ := pairs_cons (show pairs l (px l) 0 (m + 1) la q = some t by rw [← hm]; exact HS.out)
     have had := px_adv hr'
     have hdd := px_d hr'
     have HE := Lib.hid he
     have HLV : Hid (∀ wx, SlAt wx (some ⟨bA, off, none⟩) 4 CellD.cells l → Calls Tryz.prog 45 #[.slice (some ⟨bA, off, none⟩) l.length cap, .int .i64 ((q.j : Int) + 1)] wx fun e w' => e = .returned (.int .i64 (r'.d : Nat)) ∧ Below wx.heap.size wx w') := Lib.hid (fun wx hx => by have := HN.out (q.j + 1) r' (by omega) hr' wx hx; push_cast at this; exact this)
     have HNX : Hid (∀ wx, SlAt wx (some ⟨bA, off, none⟩) 4 CellD.cells l → Calls Tryz.prog 68 #[.slice (some ⟨bA, off, none⟩) l.length cap, .int .i64 ((q.j : Int) + 1)] wx fun e w' => e = .returned (.int .i64 (r'.j : Nat)) ∧ Below wx.heap.size wx w') := Lib.hid (fun wx hx => by
      have := HX.out (q.j + 1) (Nat.zero_le _) (by omega) wx hx
      rw [hr'] at this
      push_cast at this
      exact this)
     have h1 := had.1
     have h2 := had.2
     have hqi0 : (0 : Int) ≤ (q.j : Int) := by omega
     have hqi1 : (q.j : Int) ≤ 1000000 := by omega
     clear had hr' he hm hc' hko
     by_cases hgt : q.d < r'.d
     all_goals
      have hk9 : (k : Int) + 1 ≤ 9223372036854775807 := by omega
      go_wp2_with (first
       | (go_at_call 45; (with_reducible refine (HLV.out _ (HA.out.below HB.out)).mono ?_); rintro e w1 ⟨rfl, hb1⟩; have hy1 := below_call' hb1 HB.out HB.out.size; have HB1 := Lib.hid hy1; have HBX1 := Lib.hid (HBXk.out.below hb1); clear hb1 hy1)
       | (go_at_call 68; (with_reducible refine (HNX.out _ (HA.out.below HB1.out)).mono ?_); rintro e w2 ⟨rfl, hb2⟩; have HB2 := Lib.hid (below_call' hb2 HB1.out HB1.out.size); have HBX2 := Lib.hid (HBX1.out.below hb2); clear hb2))
      refine ⟨⟨k + 1, ⟨r'.j, max q.d (0 + r'.d), q.b + (quotedN c'.str + 1) + r'.b⟩, some c'.str, by omega, by simp, ?_, rfl, by show j + 1 ≤ r'.j; omega, h2, by show max q.d (0 + r'.d) ≤ r'.j; omega, Lib.hid (by rw [HM.out]; exact HE.out), HBX2.out, HB2.out⟩, by simp [intOf]; omega⟩
      show Value.int .i64 _ = Value.int .i64 ((max q.d (0 + r'.d) : Nat) : Int)
      congr 1
      omega
    ·have e : k = N := by omega
     subst e
     have he : q = t := by
      have := HS.out
      rw [Nat.sub_self] at this
      exact Option.some.inj this
     subst he
     have hq1 : (q.d : Int) ≤ 1000000 := by omega
     have hq0 : (0 : Int) ≤ (q.d : Int) := by omega
     go_wp2_with (fail)
     go_returns
     exact ⟨by push_cast; rfl, HB.out⟩
 ·have h5 : ¬ k = 5 := fun e => hk (.inl e)
  have h6 : ¬ k = 6 := fun e => hk (.inr e)
  have hd : r = ⟨j + 1, 1, sizeN ⟨k, i, s, n⟩⟩ := by
   rcases HCS.out with ⟨e, _⟩ | ⟨e, _⟩ | ⟨_, _, e⟩
   ·exact absurd e h5
   ·exact absurd e h6
   ·exact e
  subst hd
  have h5' : (k != 5) = true := by simpa using h5
  have h6' : (k != 6) = true := by simpa using h6
  clear hk HCS
  go_enter Tryz.func45, Tryz.ntmps45
  go_wp2_with (fail)
  go_returns
  exact ⟨rfl, below_new w _⟩
theorem levels_from (l : List CellD) (A : Option Addr) (cap : Nat) (hl : l.length ≤ 1000000) (hok : ∀ c ∈ l, okC6 c) : ∀ n a, l.length - a < n → LevelsFrom l A cap a
 | 0, a, h => fun j r h1 hr => by omega
 | n + 1, a, h => fun j r h1 hr wx hx => levels_at l A cap hl hok j r hr (fun j' r' hj' hr' => by
   have := px_adv hr'
   exact levels_from l A cap hl hok n (j + 1) (by omega) j' r' hj' hr') wx hx
end Go.Proofs.YtahcjgjigbedoaaGreatDoor
namespace Go.Proofs.YtahcjgjigbedoaaGreatDoor
open Go.RowKit
set_option maxRecDepth 100000

/-- Bytes that take a backslash. -/
def escB (b : UInt8) : Bool := decide (b = 34) || decide (b = 92)
/-- The bytes written for the first k bytes of s. -/
def escN (s : ByteArray) (k : Nat) : Nat := k + (s.data.toList.take k).countP escB
theorem count_esc (l : List UInt8) : l.countP escB = l.count 34 + l.count 92 := by
 induction l with
 | nil => rfl
 | cons a l ih =>
  rw [List.countP_cons, List.count_cons, List.count_cons, ih]
  by_cases h1 : a = 34
  ·subst h1; simp [escB]; omega
  ·by_cases h2 : a = 92
   ·subst h2; simp [escB]; omega
   ·simp [escB, h1, h2]
theorem escN_all (s : ByteArray) : (escN s s.size : Int) + 2 = quotedN s := by
 unfold escN quotedN
 rw [List.take_of_length_le (by simp), count_esc]
 omega
theorem escN_succ (s : ByteArray) (k : Nat) (h : k < s.size) : escN s (k + 1) = escN s k + 1 + (if escB s[k] then 1 else 0) := by
 unfold escN
 rw [List.take_add_one, List.countP_append]
 have : s.data.toList[k]? = some s[k] := by
  rw [List.getElem?_eq_getElem (by simpa using h)]; rfl
 rw [this]
 simp [List.countP_cons]
 omega
theorem escN_le (s : ByteArray) (k : Nat) : escN s k ≤ 2 * k := by
 unfold escN
 have h1 := List.countP_le_length (p := escB) (l := s.data.toList.take k)
 simp at h1
 omega
theorem ne_byte {a b : UInt8} (h : ¬ a = b) : ¬ ((a.toNat : Int) = (b.toNat : Int)) := fun e => h (UInt8.toNat_inj.mp (by omega))
set_option maxHeartbeats 2000000 in
theorem quoted6_any (s : ByteArray) (w : World) (hs : s.size ≤ 4294967296) :
  Calls Tryz.prog 70 #[.string s] w fun e w' => ∃ t : ByteArray, e = .returned (.string t) ∧ (t.size : Int) = quotedN s ∧ w' = w := by
 have HQ := Lib.hid (escN_all s)
 go_enter Tryz.func70, Tryz.ntmps70
 go_wp2
 go_loop [3, 4] (fun o i => ∃ (k : Nat) (t : ByteArray), k ≤ s.size ∧ o = .string t ∧ i = .int .i64 k ∧ Hid (t.size = 1 + escN s k)) (fun o i => s.size - (intOf i).toNat)
 case atStart => exact ⟨0, _, Nat.zero_le _, rfl, rfl, Lib.hid rfl⟩
 case round =>
  obtain ⟨k, t, hk, rfl, rfl, HT⟩ := hrel
  have hk0 : (0 : Int) ≤ (k : Int) := by omega
  by_cases hlt : k < s.size
  ·have hlt' : (k : Int) < (s.size : Int) := by omega
   have HS := Lib.hid (escN_succ s k hlt)
   have HL := Lib.hid (escN_le s k)
   have ht : t.size ≤ 1 + 2 * k := by have := HT.out; have := HL.out; omega
   have hb1 : ¬ 9223372036854775807 < t.size + 1 := by omega
   have hb2 : ¬ 9223372036854775807 < t.size + 1 + (min (k + 1) s.size - k) := by omega
   have hb3 : ¬ 9223372036854775807 < t.size + (min (k + 1) s.size - k) := by omega
   clear ht
   by_cases h34 : s[k] = 34
   ·go_wp2_with (fail)
    refine ⟨⟨k + 1, _, by omega, rfl, by simp, Lib.hid ?_⟩, by simp [intOf]; omega⟩
    have := HT.out
    rw [HS.out, h34]
    have e1 : (⟨#[92]⟩ : ByteArray).size = 1 := rfl
    simp [escB, e1]
    omega
   ·by_cases h92 : s[k] = 92
    ·go_wp2_with (fail)
     refine ⟨⟨k + 1, _, by omega, rfl, by simp, Lib.hid ?_⟩, by simp [intOf]; omega⟩
     have := HT.out
     rw [HS.out, h92]
     have e1 : (⟨#[92]⟩ : ByteArray).size = 1 := rfl
     simp [escB, e1]
     omega
    ·have g34 : ((s[k].toNat : Int) == 34) = false := beq_eq_false_iff_ne.mpr (ne_byte h34)
     have g92 : ((s[k].toNat : Int) == 92) = false := beq_eq_false_iff_ne.mpr (ne_byte h92)
     go_wp2_with (fail)
     refine ⟨⟨k + 1, _, by omega, rfl, by simp, Lib.hid ?_⟩, by simp [intOf]; omega⟩
     have := HT.out
     rw [HS.out]
     simp [escB, h34, h92]
     omega
  ·have e : k = s.size := by omega
   subst e
   have ht : t.size ≤ 1 + 2 * s.size := by have := HT.out; have := escN_le s s.size; omega
   have hb1 : ¬ 9223372036854775807 < t.size + 1 := by omega
   clear ht
   go_wp2
   go_ret
   exact ⟨_, rfl, by rw [← HQ.out]; have := HT.out; have e1 : (⟨#[34]⟩ : ByteArray).size = 1 := rfl; simp [e1]; omega, rfl⟩
end Go.Proofs.YtahcjgjigbedoaaGreatDoor
namespace Go.Proofs.YtahcjgjigbedoaaGreatDoor
open Go.RowKit
set_option maxRecDepth 100000

/-- What Text hands back: a string of n bytes. -/
def TextPost (w : World) (n : Int) (e : Ending) (w' : World) : Prop := ∃ t : ByteArray, e = .returned (.string t) ∧ (t.size : Int) = n ∧ Below w.heap.size w w'
/-- Text at the values from a on. -/
def TextFrom (l : List CellD) (A : Option Addr) (cap a : Nat) : Prop := ∀ j r, a ≤ j → px l j = some r → ∀ wx, Pow wx → SlAt wx A 4 CellD.cells l → Calls Tryz.prog 46 #[.slice A l.length cap, .int .i64 j] wx (TextPost wx r.b)
def okI (c : CellD) : Prop := -9223372036854775808 ≤ c.int ∧ c.int ≤ 9223372036854775807
attribute [local go_sem] cell_alloc_is
set_option maxHeartbeats 4000000 in
theorem text_leaf (l : List CellD) (A : Option Addr) (cap : Nat) (hl : l.length ≤ 1000000) (hok : ∀ c ∈ l, okC6 c) (hi : ∀ c ∈ l, okI c) (j : Nat) (c : CellD) (hcl : l[j]? = some c) (hpb : plainB c = true) (hk5 : c.kind ≠ 5) (hk6 : c.kind ≠ 6) (w : World) (hp : Pow w) (h : SlAt w A 4 CellD.cells l) :
  Calls Tryz.prog 46 #[.slice A l.length cap, .int .i64 j] w (TextPost w (sizeN c)) := by
 obtain ⟨P, hP⟩ : ∃ P, TextPost w (sizeN c) = P := ⟨_, rfl⟩
 rw [hP]
 have HP := Lib.hid hP
 have hjl : j < l.length := (List.getElem?_eq_some_iff.mp hcl).1
 have hc : l[j] = c := (List.getElem?_eq_some_iff.mp hcl).2
 have hji : (j : Int) < (l.length : Int) := by omega
 have hj0 : (0 : Int) ≤ (j : Int) := by omega
 have hck := hok c (hc ▸ List.getElem_mem hjl)
 have hci := hi c (hc ▸ List.getElem_mem hjl)
 obtain ⟨bA, off, rfl, _⟩ := h.ptr hjl
 have c0 := h.cell0 hjl (v := .int .i64 c.kind) (by rw [hc]; rfl)
 have c1 := h.cell hjl (j := 1) (v := .int .i64 c.int) (by rw [hc]; rfl)
 have c2 := h.cell hjl (j := 2) (v := .string c.str) (by rw [hc]; rfl)
 have c3 := h.cell hjl (j := 3) (v := .int .i64 c.n) (by rw [hc]; rfl)
 have hk := plain_kind hpb
 have HB := Lib.hid hpb
 have hb0 := below_new w (.cells #[.int .i64 c.kind, .int .i64 c.int, .string c.str, .int .i64 c.n] 47)
 have HB0 := Lib.hid hb0
 have HF := Lib.hid (Tryz.strconv_Itoa c.int hci.1 hci.2 _ (hp.below hb0))
 have HQ := Lib.hid (quoted6_any c.str (w.alloc (.cells #[.int .i64 c.kind, .int .i64 c.int, .string c.str, .int .i64 c.n] 47)) hck.1)
 clear hP hp hb0 hok hi h hck hci hcl hpb hc
 obtain ⟨k, i, s, n⟩ := c
 dsimp only at c0 c1 c2 c3 hk HF HQ HB0 hk5 hk6
 rcases hk with rfl | rfl | rfl | rfl | rfl | rfl
 ·go_enter Tryz.func46, Tryz.ntmps46
  go_wp2_with (fail)
  rw [← HP.out]
  exact ⟨_, rfl, rfl, HB0.out⟩
 ·have hi2 : i = 0 ∨ i = 1 := by
   have := HB.out
   simp [plainB] at this
   exact this.1
  rcases hi2 with rfl | rfl
  ·go_enter Tryz.func46, Tryz.ntmps46
   go_wp2_with (fail)
   rw [← HP.out]
   exact ⟨_, rfl, rfl, HB0.out⟩
  ·go_enter Tryz.func46, Tryz.ntmps46
   go_wp2_with (fail)
   rw [← HP.out]
   exact ⟨_, rfl, rfl, HB0.out⟩
 ·go_enter Tryz.func46, Tryz.ntmps46
  go_wp2_with (first
   | (go_at_call 69; (with_reducible refine HF.out.mono ?_); rintro e w1 ⟨rfl, kk, os, hw1⟩; have HW := Lib.hid hw1; clear hw1))
  rw [← HP.out]
  exact ⟨_, rfl, by simp [sizeN, itoaLen, ByteArray.size], below_call (by rw [HW.out]; exact below_grow _ kk os) HB0.out⟩
 ·go_enter Tryz.func46, Tryz.ntmps46
  go_wp2_with (first
   | (go_at_call 70; (with_reducible refine HQ.out.mono ?_); rintro e w1 ⟨tx, rfl, htx, hw1⟩; rw [hw1]; clear hw1 w1; have HTX := Lib.hid htx; clear htx))
  rw [← HP.out]
  exact ⟨_, rfl, HTX.out, HB0.out⟩
 ·exact absurd rfl hk5
 ·exact absurd rfl hk6
end Go.Proofs.YtahcjgjigbedoaaGreatDoor
