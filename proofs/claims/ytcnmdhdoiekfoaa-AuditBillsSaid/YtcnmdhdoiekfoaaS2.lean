/- The walk of the reference's Fair. -/
import Derived.Test.YtcnmdhdoiekfoaaS1
namespace Go.Proofs.Ytcnmdhdoiekfoaa
open Go.RowKit

def sFair : ByteArray := ⟨#[102, 97, 105, 114]⟩

theorem quiet_l {P : Program} {f : FuncId} {args : Array Value} {w : World} {n : Nat} {v : Value}
    (h : Calls P f args (w.drewN n) fun e w' => e = .returned v ∧ w.drewN n = w') : Calls P f args (w.drewN n) fun e w'' => e = .returned v ∧ ∃ m, w'' = w.drewN m :=
  h.mono fun _ _ ⟨he, hm⟩ => ⟨he, n, hm.symm⟩
theorem quiet_la {P : Program} {f : FuncId} {args : Array Value} {w : World} {a n : Nat} {v : Value}
    (h : Calls P f args (w.drewN (a + n)) fun e w' => e = .returned v ∧ w.drewN (a + n) = w') : Calls P f args (w.drewN (a + n)) fun e w'' => e = .returned v ∧ ∃ m, w'' = w.drewN (a + m) :=
  h.mono fun _ _ ⟨he, hm⟩ => ⟨he, n, hm.symm⟩

/-- Block g is a row of n counts. -/
def CntAt (w : World) (g n : Nat) (N : Nat → Int) : Prop := ∃ cs : Array Value, Blk w g 3 cs ∧ cs.size = n ∧ ∀ j, j < n → cs[j]? = some (.int .i64 (N j))

theorem CntAt.keep {w w' : World} {g n : Nat} {N : Nat → Int} (h : CntAt w g n N) (hk : w'.heap[g]? = w.heap[g]?) : CntAt w' g n N := by
  obtain ⟨cs, h1, h2, h3⟩ := h
  exact ⟨cs, hk.trans h1, h2, h3⟩
theorem CntAt.lt {w : World} {g n : Nat} {N : Nat → Int} (h : CntAt w g n N) : g < w.heap.size := by
  obtain ⟨cs, h1, _⟩ := h; exact h1.lt
theorem CntAt.cell {w : World} {g n : Nat} {N : Nat → Int} (h : CntAt w g n N) {j : Nat} (hj : j < n) : w.cell? ⟨g, j, none⟩ = some (.int .i64 (N j)) := by
  obtain ⟨cs, h1, _, h3⟩ := h; exact h1.cell j _ (h3 j hj)
theorem CntAt.frozen {w : World} {g n : Nat} {N : Nat → Int} (h : CntAt w g n N) (j : Nat) : w.frozen? ⟨g, j, none⟩ = false := by
  obtain ⟨cs, h1, _⟩ := h; exact h1.frozen j
theorem CntAt.set_ {w : World} {g n : Nat} {N : Nat → Int} (h : CntAt w g n N) (k : Nat) (x : Int) : CntAt (w.setCell ⟨g, k, none⟩ (.int .i64 x)) g n (fun j => if j = k then x else N j) := by
  obtain ⟨cs, h1, h2, h3⟩ := h
  refine ⟨_, h1.set_ k _, by simp [h2], fun j hj => ?_⟩
  by_cases hk : j = k
  · subst hk; simp [h2, hj]
  · have hk' : k ≠ j := fun e => hk e.symm
    simp [Array.getElem?_setIfInBounds_ne hk', h3 j hj, hk]
theorem CntAt.new (w : World) (n : Nat) : CntAt (w.alloc (.cells (madeCells #[.int .i64 0] n) 3)) w.heap.size n (fun _ => 0) := by
  refine ⟨_, Blk.new w 3 _, size_madeCells _ _, fun j hj => ?_⟩
  simp [madeCells, hj, Nat.mod_one]

/-- What the row of counts holds behind i facts. -/
def CntOk (l : List FactD) (ts : List ByteArray) (i : Nat) (N : Nat → Int) : Prop :=
  (∀ j : Nat, 0 ≤ N j ∧ N j ≤ i) ∧ ∀ (j : Nat) (t : ByteArray), ts[j]? = some t → inN ts t 0 = (j : Int) → N j = stC l i t

theorem CntOk.skip {l : List FactD} {ts : List ByteArray} {i : Nat} {N : Nat → Int} (h : CntOk l ts i N) (hi : i < l.length) (hk : ¬ (l[i].kind = 3 ∧ l[i].tenant ∈ ts)) : CntOk l ts (i + 1) N := by
  refine ⟨fun j => by have := h.1 j; omega, fun j t ht hj => ?_⟩
  rw [h.2 j t ht hj, stC_succ hi, if_neg]
  · omega
  · rintro ⟨a, rfl⟩
    exact hk ⟨a, List.mem_of_getElem? ht⟩

theorem CntOk.step {l : List FactD} {ts : List ByteArray} {i : Nat} {N : Nat → Int} (h : CntOk l ts i N) (hi : i < l.length) (hk : l[i].kind = 3) {m : Nat} (hm : inN ts l[i].tenant 0 = (m : Int)) (hmt : ts[m]? = some l[i].tenant) :
    CntOk l ts (i + 1) (fun j => if j = m then N m + 1 else N j) := by
  refine ⟨fun j => ?_, fun j t ht hj => ?_⟩
  · have := h.1 j
    have := h.1 m
    show 0 ≤ (if j = m then N m + 1 else N j) ∧ (if j = m then N m + 1 else N j) ≤ ((i + 1 : Nat) : Int)
    split <;> omega
  · show (if j = m then N m + 1 else N j) = _
    rw [stC_succ hi]
    by_cases hjm : j = m
    · subst hjm
      rw [hmt] at ht
      cases ht
      rw [if_pos rfl, if_pos ⟨hk, rfl⟩, h.2 j _ hmt hm]
    · rw [if_neg hjm, h.2 j t ht hj, if_neg]
      · omega
      · rintro ⟨_, rfl⟩
        rw [hm] at hj
        exact hjm (by omega)

/-- Where a tenant's name stands a second time, nothing new is told. -/
theorem inner_again {l : List FactD} {ts : List ByteArray} {B : Int} {i : Nat} {s : ByteArray} {out : List ByteArray} {k : Nat} (hk : k < ts.length) (h : inN ts ts[k] 0 ≠ (k : Int)) :
    inner out s (ahead l ts B i s) (k + 1) = inner out s (ahead l ts B i s) k := by
  refine inner_same ?_
  by_cases hp : ahead l ts B i s k = true
  · right
    obtain ⟨m, hm, hmt, hj⟩ := inN_some (List.getElem_mem hk)
    have hmk : m < k := by
      rcases Nat.lt_trichotomy m k with h1 | h1 | h1
      · exact h1
      · subst h1; exact absurd hm h
      · exact absurd (List.getElem?_eq_getElem hk) (hj k h1)
    have hpm : ahead l ts B i s m = true := by
      unfold ahead at hp ⊢
      rw [hmt]
      rw [List.getElem?_eq_getElem hk] at hp
      exact hp
    unfold inner
    split
    · assumption
    · rw [if_pos ((anyUpto_iff _ _).2 ⟨m, hmk, hpm⟩), memB_iff]; simp
  · left; simpa using hp

theorem Try.infoInt : (Try.prog.info? 3).map (fun i => (i.zero, i.size, i.bytes)) = some (some (.int .i64 0), 1, 8) := by kernel_rfl

attribute [local go_sem] cell_alloc_is
set_option maxHeartbeats 4000000 in
set_option maxRecDepth 100000 in
theorem rfair_any (A A2 : Option Addr) (cap cap2 : Nat) (l : List FactD) (ts : List ByteArray) (bound : Int) (w : World) (hl : l.length ≤ 200) (ht : ts.length ≤ 20) (hbd1 : -9223372036854775808 ≤ bound) (hbd2 : bound ≤ 9223372036854775807) (hf : FactsAt w A l) (hs : SlAt w A2 1 strCells ts) :
    Calls Try.prog 17 #[.slice A l.length cap, .slice A2 ts.length cap2, .int .i64 bound] w fun e w' => ∃ v, e = .returned v ∧ ProbsAt w' w.heap.size v sFair (fairN l ts (max 0 bound) l.length) ∧ Below w.heap.size w w' := by
  obtain ⟨i0, hi, hz0, hz1, hz2⟩ := info_parts Try.infoProb
  obtain ⟨j0, hj, hy0, hy1, hy2⟩ := info_parts Try.infoInt
  have hmk : ∀ W : World, (Instr.makeSlice 61 (.int .i64 (ts.length : Int)) (.int .i64 (ts.length : Int))).run Try.prog W = .ok (.slice (some ⟨W.heap.size, 0, none⟩) ts.length ts.length) (W.alloc (.cells (madeCells #[.int .i64 0] ts.length) 3)) := fun W => by
    have := run_make (P := Try.prog) W 61 3 j0 _ Try.underlying61 hj hy0 .i64 .i64 ts.length ts.length (by omega) (Int.le_refl _) (by rw [hy2]; omega) (by omega)
    simpa [hy1, Value.cells] using this
  obtain ⟨B, hB⟩ : ∃ B, B = max 0 bound := ⟨_, rfl⟩
  have hB0 : 0 ≤ B := by omega
  have hB1 : B ≤ 9223372036854775807 := by omega
  rw [← hB]
  have HB := Lib.hid hB
  have HF := Lib.hid hf
  have HS := Lib.hid hs
  clear hB
  by_cases hb : bound < 0
  all_goals
    go_enter Try.func17, Try.ntmps17
    go_wp2_with (first | (go_at_call 25; refine (counted_any _ _ _ _ (by omega)).mono ?_; rintro e w' ⟨rfl, rfl⟩))
    clear hmk
    go_loopw [7, 9] (fun out i wr => ∃ (n : Nat) (N : Nat → Int), n ≤ l.length ∧ i = .int .i64 n ∧ ProbsAt wr (w.heap.size + 1) out sFair (fairN l ts B n) ∧ CntAt wr w.heap.size ts.length N ∧ CntOk l ts n N ∧ Below w.heap.size w wr) (fun _ i _ => l.length - (intOf i).toNat)
    case atStart => exact ⟨0, fun _ => 0, Nat.zero_le _, rfl, World.ownsRow_nil _ _ _ _, CntAt.new _ _, ⟨fun _ => by simp, fun _ _ _ _ => rfl⟩, below_new _ _⟩
    case round =>
      obtain ⟨n, N, hn, rfl, hown, hcnt, hok, hbel⟩ := hrel
      obtain ⟨wo, rfl⟩ : ∃ wo : World, wo = wr := ⟨_, rfl⟩
      have HO := Lib.hid hown
      have HC := Lib.hid hcnt
      have HK := Lib.hid hok
      have HBE := Lib.hid hbel
      have hfl := fairN_len l ts B n
      have hsz := hcnt.lt
      clear hown hcnt hok hbel
      by_cases hlt : n < l.length
      · have HFr := Lib.hid (HF.out.below HBE.out)
        have HSr := Lib.hid (HS.out.below HBE.out)
        obtain ⟨b, off, rfl, _⟩ := hf.ptr hlt
        have h0 := HFr.out.cell0 hlt (v := .int .i64 l[n].kind) rfl
        have h2 := HFr.out.cell hlt (j := 2) (v := .string l[n].tenant) rfl
        by_cases hk : l[n].kind = 3
        · have hk' : (l[n].kind != 3) = false := by simp [hk]
          by_cases hm : l[n].tenant ∈ ts
          · obtain ⟨m, hm1, hmt, _⟩ := inN_some hm
            have hml : m < ts.length := (List.getElem?_eq_some_iff.1 hmt).1
            have HFN := Lib.hid (fairN_yes (B := B) hlt hk ((memB_iff _ _).2 hm))
            have HK2 := Lib.hid (HK.out.step hlt hk hm1 hmt)
            have HM := Lib.hid hm1
            have hms : ts[m] = l[n].tenant := (List.getElem?_eq_some_iff.1 hmt).2
            have HMS := Lib.hid hms
            obtain ⟨p, hp⟩ : ∃ p, p = ahead l ts B n l[n].tenant := ⟨_, rfl⟩
            have HP := Lib.hid hp
            have hN := HK.out.1 m
            obtain ⟨Nm, hNm⟩ : ∃ x, x = N m := ⟨_, rfl⟩
            have n0 : wo.cell? ⟨w.heap.size, m, none⟩ = some (.int .i64 Nm) := by rw [hNm]; exact HC.out.cell hml
            have fz := HC.out.frozen m
            rw [← hNm] at hN
            obtain ⟨N2, HK2, HC2⟩ : ∃ N2, Hid (CntOk l ts (n + 1) N2) ∧ Hid (CntAt (wo.setCell ⟨w.heap.size, m, none⟩ (.int .i64 (Nm + 1))) w.heap.size ts.length N2) :=
              ⟨_, HK2, by have := HC.out.set_ m (N m + 1); rw [hNm]; exact this⟩
            have HO2 := Lib.hid (ownsRow_setCell_below (show wo.ownsRow (w.heap.size + 1) 44 2 _ _ _ from HO.out) (a := ⟨w.heap.size, m, none⟩) (by simp) (.int .i64 (Nm + 1)))
            have HBE2 := Lib.hid (HBE.out.setCell (p := ⟨w.heap.size, m, none⟩) (Nat.le_refl _) (.int .i64 (Nm + 1)))
            clear hk hm hm1 hmt hms hp hNm
            go_wp2_with (first
              | (go_at_call 33; refine (in_any _ _ _ _ _ (by omega) HSr.out).mono ?_; rintro e w' ⟨rfl, rfl⟩; rw [HM.out]))
            clear h0 h2 hk' n0 fz
            go_loopw [7, 11] (fun out i wr => ∃ k : Nat, k ≤ ts.length ∧ i = .int .i64 k ∧ ProbsAt wr (w.heap.size + 1) out sFair (inner (fairN l ts B n) l[n].tenant p k) ∧ Below (w.heap.size + 1) (wo.setCell ⟨w.heap.size, m, none⟩ (.int .i64 (Nm + 1))) wr) (fun _ i _ => ts.length - (intOf i).toNat)
            case atStart => exact ⟨0, Nat.zero_le _, rfl, by rw [inner_zero]; exact HO2.out, Below.refl _ _⟩
            case round =>
              obtain ⟨k, hk, rfl, hownx, hbx⟩ := hrel
              have hil := inner_len (fairN l ts B n) l[n].tenant p k
              obtain ⟨Ao, co, rfl, hpx⟩ := probs_slice hownx
              have HOx := Lib.hid (show wr.ownsRow (w.heap.size + 1) 44 2 _ _ _ from hownx)
              have HBx := Lib.hid hbx
              have hszx := hbx.size
              simp only [World.size_setCell] at hszx
              have HBwx := Lib.hid (show Below w.heap.size w wr from HBE2.out.trans (hbx.mono (Nat.le_succ _)))
              have HCx := Lib.hid (HC2.out.keep (hbx.block w.heap.size (by omega)))
              have HSx := Lib.hid (HS.out.below HBwx.out)
              have HPx := Lib.hid hpx
              clear hownx hpx hbx
              by_cases hltk : k < ts.length
              · obtain ⟨b2, off2, rfl, _⟩ := hs.ptr hltk
                have tk := HSx.out.cell0 hltk (v := .string ts[k]) rfl
                have tm := HSx.out.cell0 hml (v := .string l[n].tenant) (by simp [strCells, HMS.out])
                rw [Nat.mul_one] at tk tm
                by_cases hq : inN ts ts[k] 0 = (k : Int)
                · have hq' : (inN ts ts[k] 0 == (k : Int)) = true := by simp [hq]
                  obtain ⟨Na, hNa⟩ : ∃ x, x = N2 m := ⟨_, rfl⟩
                  obtain ⟨Nk, hNk⟩ : ∃ x, x = N2 k := ⟨_, rfl⟩
                  have na : wr.cell? ⟨w.heap.size, m, none⟩ = some (.int .i64 Na) := by rw [hNa]; exact HCx.out.cell hml
                  have nk : wr.cell? ⟨w.heap.size, k, none⟩ = some (.int .i64 Nk) := by rw [hNk]; exact HCx.out.cell hltk
                  have bd1 := HK2.out.1 m
                  have bd2 := HK2.out.1 k
                  have v1 := HK2.out.2 m l[n].tenant (by rw [List.getElem?_eq_getElem hml, HMS.out]) HM.out
                  have v2 := HK2.out.2 k ts[k] (List.getElem?_eq_getElem hltk) hq
                  rw [← hNa] at bd1 v1
                  rw [← hNk] at bd2 v2
                  have hpk : p k = decide (B < Na - Nk) := (by
                    rw [HP.out]; unfold ahead; rw [List.getElem?_eq_getElem hltk]; simp only []; rw [v1, v2])
                  obtain ⟨d, hd0⟩ : ∃ d, d = Na - Nk := ⟨_, rfl⟩
                  have hw : IntKind.i64.wrap (Na - Nk) = d := by rw [hd0]; exact IntWalk.i64_in _ (by omega)
                  rw [← hd0] at hpk
                  have HPK := Lib.hid hpk
                  clear hNa hNk v1 v2 hq hpk hd0
                  by_cases hd : B < d
                  · have hd1 : (0 : Int) < d := by omega
                    have hd2 : bound < d := by have := HB.out; omega
                    cases hmem : memB l[n].tenant (inner (fairN l ts B n) l[n].tenant p k)
                    · have HN := Lib.hid (inner_more (out := fairN l ts B n) (show p k = true by rw [HPK.out]; simpa using hd) hmem)
                      clear hd
                      go_wp2
                      go_quiet ((first
                      | (go_at_call 33; first | exact quiet_l (in_any _ _ _ _ _ (by omega) (HSx.out.drewN _)) | exact quiet_la (in_any _ _ _ _ _ (by omega) (HSx.out.drewN _)))
                      | (go_at_call 34; first | exact quiet_l (rtold_any _ _ _ _ _ _ (by omega) (HPx.out.drewN _)) | exact quiet_la (rtold_any _ _ _ _ _ _ (by omega) (HPx.out.drewN _)))))
                      go_wp2_with (first
                        | (at_builtin; refine wpList_app1 rfl (.tmp 82) (.tmp 88) 25 rfl i0 _ 32 Try.underlying25 hi hz0 hz1 hz2 rfl (by omega) rfl (own_drewN HOx.out _) [.string sFair, .string l[n].tenant] rfl rfl (one2 _ _) (by omega) (by omega) (by simp; omega) ?_; intro v' w1 hown1 hb1 _ _))
                      go_roundw
                      case rel => exact ⟨k + 1, by omega, by go_num, by rw [HN.out]; unfold ProbsAt; rw [flat_snoc, List.length_append]; exact hown1, (below_drewN HBx.out _).trans hb1⟩
                      case measure => simp [intOf]; omega
                    · have HN := Lib.hid (inner_same (out := fairN l ts B n) (p := p) (j := k) (.inr hmem))
                      clear hd
                      go_wp2
                      go_quiet ((first
                          | (go_at_call 33; first | exact quiet_l (in_any _ _ _ _ _ (by omega) (HSx.out.drewN _)) | exact quiet_la (in_any _ _ _ _ _ (by omega) (HSx.out.drewN _)))
                          | (go_at_call 34; first | exact quiet_l (rtold_any _ _ _ _ _ _ (by omega) (HPx.out.drewN _)) | exact quiet_la (rtold_any _ _ _ _ _ _ (by omega) (HPx.out.drewN _)))))
                      go_wp2
                      go_roundw
                      case rel => exact ⟨k + 1, by omega, by go_num, by rw [HN.out]; exact own_drewN HOx.out _, below_drewN HBx.out _⟩
                      case measure => simp [intOf]; omega
                  · have HN := Lib.hid (inner_same (out := fairN l ts B n) (s := l[n].tenant) (j := k) (.inl (show p k = false by rw [HPK.out]; simpa using hd)))
                    have hB' := HB.out
                    first
                      | (have hd1 : decide ((0 : Int) < d) = false := by (rw [decide_eq_false_iff_not]; omega))
                      | (have hd1 : decide (bound < d) = false := by (rw [decide_eq_false_iff_not]; omega))
                    clear hd hB'
                    go_wp2
                    go_quiet ((first
                        | (go_at_call 33; first | exact quiet_l (in_any _ _ _ _ _ (by omega) (HSx.out.drewN _)) | exact quiet_la (in_any _ _ _ _ _ (by omega) (HSx.out.drewN _)))
                        | (go_at_call 34; first | exact quiet_l (rtold_any _ _ _ _ _ _ (by omega) (HPx.out.drewN _)) | exact quiet_la (rtold_any _ _ _ _ _ _ (by omega) (HPx.out.drewN _)))))
                    go_wp2
                    go_roundw
                    case rel => exact ⟨k + 1, by omega, by go_num, by rw [HN.out]; exact own_drewN HOx.out _, below_drewN HBx.out _⟩
                    case measure => simp [intOf]; omega
                · have hq' : (inN ts ts[k] 0 == (k : Int)) = false := by simpa using hq
                  have HN := Lib.hid (show inner (fairN l ts B n) l[n].tenant p (k + 1) = inner (fairN l ts B n) l[n].tenant p k by rw [HP.out]; exact inner_again hltk hq)
                  clear hq
                  go_wp2
                  go_quiet ((first
                      | (go_at_call 33; first | exact quiet_l (in_any _ _ _ _ _ (by omega) (HSx.out.drewN _)) | exact quiet_la (in_any _ _ _ _ _ (by omega) (HSx.out.drewN _)))
                      | (go_at_call 34; first | exact quiet_l (rtold_any _ _ _ _ _ _ (by omega) (HPx.out.drewN _)) | exact quiet_la (rtold_any _ _ _ _ _ _ (by omega) (HPx.out.drewN _)))))
                  go_wp2
                  go_roundw
                  case rel => exact ⟨k + 1, by omega, by go_num, by rw [HN.out]; exact own_drewN HOx.out _, below_drewN HBx.out _⟩
                  case measure => simp [intOf]; omega
              · go_wp2
                have hkl : k = ts.length := by omega
                go_roundw
                case rel => exact ⟨n + 1, _, by omega, by go_num, by rw [HFN.out, ← HP.out, ← hkl]; exact HOx.out, HCx.out, HK2.out, HBwx.out⟩
                case measure => simp [intOf]; omega
          · have HN := Lib.hid (fairN_no (ts := ts) (B := B) hlt (fun h => hm ((memB_iff _ _).1 h.2)))
            have HI := Lib.hid (inN_none hm)
            have HK2 := Lib.hid (HK.out.skip hlt (fun h => hm h.2))
            clear hk hm
            go_wp2_with (first
              | (go_at_call 33; refine (in_any _ _ _ _ _ (by omega) HSr.out).mono ?_; rintro e w' ⟨rfl, rfl⟩; rw [HI.out]))
            go_roundw
            case rel => exact ⟨n + 1, N, by omega, by go_num, by rw [HN.out]; exact HO.out, HC.out, HK2.out, HBE.out⟩
            case measure => simp [intOf]; omega
        · have hk' : (l[n].kind != 3) = true := by simp [hk]
          have HN := Lib.hid (fairN_no (ts := ts) (B := B) hlt (fun h => hk h.1))
          have HK2 := Lib.hid (HK.out.skip hlt (fun h => hk h.1))
          clear hk
          go_wp2
          go_roundw
          case rel => exact ⟨n + 1, N, by omega, by go_num, by rw [HN.out]; exact HO.out, HC.out, HK2.out, HBE.out⟩
          case measure => simp [intOf]; omega
      · go_wp2
        go_ret
        have hnl : n = l.length := by omega
        subst hnl
        obtain ⟨h1, h2⟩ := HO.out
        exact ⟨_, rfl, ⟨h1, h2.imp id (fun ⟨g, cap, cur, e1, e2, e3⟩ => ⟨g, cap, cur, e1, Nat.le_trans (Nat.le_succ _) e2, e3⟩)⟩, HBE.out⟩
end Go.Proofs.Ytcnmdhdoiekfoaa
