/- The walk of problems. -/
import Derived.Test.YtcnmdhdoiekfoaaDoorW7
namespace Go.Proofs.YtcnmdhdoiekfoaaDoor
open Go.RowKit
set_option maxRecDepth 100000

theorem alSet_nodup {α β : Type} [DecidableEq α] (l : List (α × β)) (a : α) (x : β) (h : (l.map (·.1)).Nodup) : ((alSet l a x).map (·.1)).Nodup := by
  rw [alSet_keys]
  split
  · exact h
  · rename_i hs
    rw [List.nodup_append]
    refine ⟨h, by simp, fun y hy z hz => ?_⟩
    simp only [List.mem_singleton] at hz
    subst hz
    rintro rfl
    exact hs ((alGet_isSome l y).2 hy)

theorem hist_nodup (l : List FactD) : ∀ n, ((hist l n).map (·.1)).Nodup
  | 0 => by simp [hist]
  | n + 1 => by
    unfold hist
    split
    · exact alSet_nodup _ _ _ (hist_nodup l n)
    · exact hist_nodup l n

theorem alGet_at {α β : Type} [DecidableEq α] : ∀ (l : List (α × β)), (l.map (·.1)).Nodup → ∀ (n : Nat) (hn : n < l.length), alGet l l[n].1 = some l[n].2
  | [], _, n, hn => by simp at hn
  | (k, v) :: r, h, 0, hn => by simp [alGet]
  | (k, v) :: r, h, n + 1, hn => by
    simp only [List.map_cons, List.nodup_cons] at h
    simp only [List.getElem_cons_succ, alGet]
    have hn' : n < r.length := by simpa using hn
    rw [if_neg, alGet_at r h.2 n hn']
    intro he
    exact h.1 (List.mem_map.2 ⟨r[n], List.getElem_mem _, he.symm⟩)

theorem absH_at (xs : List (ByteArray × HR)) (n : Nat) (hn : n < xs.length) (h2 : n < (absH xs).length) : (absH xs)[n] = (xs[n].1, (xs[n].2.am, xs[n].2.cm)) := by simp [absH]

/-- The names of the events, in their order, for whose history P holds. -/
def pickN (S : HS) (P : ByteArray → IM → IM → Bool) (n : Nat) : List ByteArray := ((S.take n).filter fun p => P p.1 p.2.1 p.2.2).map (·.1)

theorem pickN_snoc (S : HS) (P : ByteArray → IM → IM → Bool) (n : Nat) (hn : n < S.length) : pickN S P (n + 1) = pickN S P n ++ (if P S[n].1 S[n].2.1 S[n].2.2 then [S[n].1] else []) := by
  unfold pickN
  rw [List.take_succ_eq_append_getElem hn, List.filter_append, List.map_append]
  congr 1
  by_cases h : P S[n].1 S[n].2.1 S[n].2.2 = true <;> simp [h]
theorem pickN_len (S : HS) (P : ByteArray → IM → IM → Bool) (n : Nat) : (pickN S P n).length ≤ n := by
  unfold pickN
  rw [List.length_map]
  exact Nat.le_trans (List.length_filter_le _ _) (List.length_take_le _ _)

def strCells (s : ByteArray) : List Value := [.string s]
theorem map_flat (hs : List (ByteArray × HR)) : (hs.map fun p => Value.string p.1) = (hs.map (·.1)).flatMap strCells := by
  induction hs with
  | nil => rfl
  | cons p r ih => simp only [List.map_cons, List.flatMap_cons, ih]; rfl

set_option maxHeartbeats 1000000 in
theorem problems_any (A : Option Addr) (cap : Nat) (l : List FactD) (rule : ByteArray) (fid : FuncId) (caps : Array Value) (P : ByteArray → IM → IM → Bool) (w : World) (hl : l.length ≤ 4000) (hf : FactsAt w A l)
    (hcall : ∀ args wx, (callFunc fid args).run Tryd.prog wx = .ok (.enter fid args) wx)
    (hbad : ∀ wx, Below w.heap.size w wx → ∀ p ∈ hist l l.length, ∀ a c, MapAt wx a (Value.int .i64) (Value.int .i64) p.2.1 → MapAt wx c (Value.int .i64) (Value.int .i64) p.2.2 →
      Calls Tryd.prog fid (#[.string p.1, .agg #[.map (some a), .map (some c)]] ++ caps) wx fun e w' => e = .returned (.bool (P p.1 p.2.1 p.2.2)) ∧ Below wx.heap.size wx w') :
    Calls Tryd.prog 18 #[.slice A l.length cap, .string rule, .func (.func fid) #[] caps] w fun e w' => ∃ v, e = .returned v ∧ ProbsAt w' w.heap.size v rule (pickN (hist l l.length) P (hist l l.length).length) ∧ Below w.heap.size w w' := by
  obtain ⟨i0, hi, hz0, hz1, hz2⟩ := info_parts Tryd.infoProb
  have HBAD := Lib.hid hbad
  clear hbad
  go_enter Tryd.func18, Tryd.ntmps18
  go_wp2_with (fail)
  refine (histories_any _ _ _ _ hl hf).mono ?_
  rintro e w1 ⟨vo, o, hs, rfl, hown, hh, habs, hb1⟩
  obtain ⟨Ao, co, rfl⟩ := own_shape hown
  have hlen : hs.length = (hist l l.length).length := by rw [← habs]; simp [absH]
  have hhl := hist_len l l.length
  have hsl : SlAt w1 Ao 1 strCells (hs.map (·.1)) := SlAt.of_own (by rw [← List.length_map (f := fun p : ByteArray × HR => p.1)] at hown; exact hown) (map_flat hs) (fun _ => rfl) (by omega)
  have hnd : (hs.map (·.1)).Nodup := by
    have := hist_nodup l l.length
    rw [← habs] at this
    rw [absH, List.map_map] at this
    exact this
  have HH := Lib.hid hh
  have HA := Lib.hid habs
  have HLEN := Lib.hid hlen
  have HND := Lib.hid hnd
  have HB1 := Lib.hid hb1
  have HSL := Lib.hid hsl
  have hhl2 : hs.length ≤ 4000 := by omega
  clear hh habs hlen hnd hb1 hown hf hhl
  go_wp2_with (fail)
  go_loopw [7, 19] (fun out i wr => ∃ n : Nat, n ≤ hs.length ∧ i = .int .i64 n ∧ ProbsAt wr w1.heap.size out rule (pickN (hist l l.length) P n) ∧ Below w1.heap.size w1 wr) (fun _ i _ => hs.length - (intOf i).toNat)
  case atStart => exact ⟨0, Nat.zero_le _, rfl, World.ownsRow_nil _ _ _ _, Below.refl _ _⟩
  case round =>
    obtain ⟨n, hn, rfl, hown, hbel⟩ := hrel
    have hpl := pickN_len (hist l l.length) P n
    have hsz := hbel.size
    by_cases hlt : n < hs.length
    · have hln : n < (hs.map (·.1)).length := by simpa using hlt
      have hfr := HSL.out.below hbel
      obtain ⟨b, off, rfl, hbb⟩ := hsl.ptr hln
      have h0 := hfr.cell0 hln (v := .string hs[n].1) (by simp [strCells])
      rw [Nat.mul_one] at h0
      have HB := Lib.hid hbel
      have HO := Lib.hid hown
      have hg0 := alGet_at hs HND.out n hlt
      have HR' := Lib.hid hg0
      have HG := Lib.hid (show alGet (hs.map fun p => (p.1, (some p.2.ab, some p.2.cb))) hs[n].1 = some (some hs[n].2.ab, some hs[n].2.cb) by rw [alGet_map hs (fun r : HR => (some r.ab, some r.cb)), hg0]; rfl)
      have HHr := Lib.hid (HH.out.below hbel)
      have hnS : n < (hist l l.length).length := by rw [← HLEN.out]; exact hlt
      have HS := Lib.hid (pickN_snoc (hist l l.length) P n hnS)
      have hSn : (hist l l.length)[n] = (hs[n].1, (hs[n].2.am, hs[n].2.cm)) := by
        have := absH_at hs n hlt (by rw [HA.out]; exact hnS)
        simp only [HA.out] at this
        exact this
      have hmem : (hs[n].1, (hs[n].2.am, hs[n].2.cm)) ∈ hist l l.length := by rw [← hSn]; exact List.getElem_mem _
      have HBD := Lib.hid (HBAD.out wr (HB1.out.trans (hbel.mono HB1.out.size)) _ hmem _ _ (HHr.out.get hg0).1 (HHr.out.get hg0).2.1)
      have HSn := Lib.hid hSn
      clear hg0 hown hbel hfr hsl hSn hmem
      go_wp2_with (first
        | (at_lookup; refine wpList_look' rfl (.tmp 25) (.tmp 26) rfl Tryd.kS Tryd.underlying39 (none, none) (Tryd.zero44 _) rfl hs[n].1 rfl HHr.out.1 (some (some hs[n].2.ab, some hs[n].2.cb)) HG.out (.agg #[.map (some hs[n].2.ab), .map (some hs[n].2.cb)]) rfl ?_))
      refine HBD.out.mono ?_
      rintro e w2 ⟨rfl, hb2⟩
      have HB2 := Lib.hid hb2
      have hsz2 := hb2.size
      have HO2 := Lib.hid (own_below HO.out hb2)
      clear hb2
      cases hp : P hs[n].1 hs[n].2.am hs[n].2.cm
      · have HN : Hid (pickN (hist l l.length) P (n + 1) = pickN (hist l l.length) P n) := by
          show _ = _
          rw [HS.out, HSn.out, hp]; simp
        go_wp2
        go_roundw
        case rel => exact ⟨n + 1, by omega, by go_num, by rw [HN.out]; exact HO2.out, below_call' HB2.out HB.out hsz⟩
        case measure => simp [intOf]; omega
      · have HN : Hid (pickN (hist l l.length) P (n + 1) = pickN (hist l l.length) P n ++ [hs[n].1]) := by
          show _ = _
          rw [HS.out, HSn.out, hp]; rfl
        go_wp2_with (first
          | (at_builtin; refine wpList_app1 rfl (.tmp 29) (.tmp 33) 29 rfl i0 _ 32 Tryd.underlying29 hi hz0 hz1 hz2 rfl (by omega) rfl HO2.out [.string rule, .string hs[n].1] rfl rfl (one2 _ _) (by omega) (by omega) (by omega) ?_; intro v' w3 hown1 hb3 _ _))
        go_roundw
        case rel => exact ⟨n + 1, by omega, by go_num, by rw [HN.out]; unfold ProbsAt; rw [flat_snoc, List.length_append]; exact hown1, (below_call' HB2.out HB.out hsz).trans hb3⟩
        case measure => simp [intOf]; omega
    · go_wp2
      go_ret
      have hnl : n = hs.length := by omega
      subst hnl
      refine ⟨_, rfl, ?_, below_call hbel HB1.out⟩
      rw [← HLEN.out]
      obtain ⟨h1, h2⟩ := hown
      exact ⟨h1, h2.imp id (fun ⟨g, cap, cur, e1, e2, e3⟩ => ⟨g, cap, cur, e1, Nat.le_trans HB1.out.size e2, e3⟩)⟩
end Go.Proofs.YtcnmdhdoiekfoaaDoor
