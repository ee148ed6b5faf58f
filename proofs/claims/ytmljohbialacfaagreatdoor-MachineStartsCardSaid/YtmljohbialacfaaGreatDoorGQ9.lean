/- The machine: what Start answers, in plain Lean; words for the walks over Start. The law MachineStarts: its bounds (SmallCode). The machine, the reference's: frame. -/
import Derived.Test.YtmljohbialacfaaGreatDoorGQ8
import Derived.Test.YtmljohbialacfaaGreatDoorGK11
import Derived.Test.YtmljohbialacfaaGreatDoorGK1
set_option linter.unusedVariables false
set_option linter.unusedSimpArgs false
namespace Go.Proofs.YtmljohbialacfaaGreatDoor
open Go.RowKit
set_option maxRecDepth 100000
def sMain : ByteArray := ⟨#[109, 97, 105, 110]⟩
def zeroM : MachD := ⟨0, 0, [], [], [], 0, 0, 0, 0⟩
/-- The machine that is started at the function f, of index r. -/
def startM (f : FnD) (r : Int) (ev : ValD) (ls lm : Int) : MachD := countF (enterF ⟨1, 0, [], [], [], ls, lm, 0, 0⟩ r f [ev])
def LimOk (ls lm : Int) : Prop := (1 ≤ ls ∧ ls ≤ 20000) ∧ (1 ≤ lm ∧ lm ≤ 4000)
instance (ls lm : Int) : Decidable (LimOk ls lm) := by unfold LimOk; infer_instance
/-- What Start answers: R is what the check of the code found, r where main is. -/
def startO (c : CodeD) (ev : ValD) (ls lm : Int) (R : Int × Int) (r : Int) : MachD × Int :=
 if R.2 ≠ 0 then (zeroM, R.2) else
 if r < 0 then (zeroM, 5) else
 match c.fns[r.toNat]? with
 | none => (zeroM, 5)
 | some f =>
  if f.params ≠ 1 then (zeroM, 7) else
  if checkF ev ≠ 0 then (zeroM, checkF ev) else
  if ¬ LimOk ls lm then (zeroM, 2) else (startM f r ev ls lm, 0)
theorem FindP.ex (l : List FnD) (s : ByteArray) : ∃ r, FindP l s r := by
 induction l with
 | nil => exact ⟨-1, .inl ⟨rfl, fun j h => absurd h (by simp)⟩⟩
 | cons f t ih =>
  by_cases h : f.name = s
  ·exact ⟨0, .inr ⟨0, by simp, rfl, by simpa using h, fun j hj => absurd hj (by omega)⟩⟩
  ·obtain ⟨r, hr⟩ := ih
   rcases hr with ⟨rfl, h1⟩ | ⟨k, hk, rfl, h1, h2⟩
   ·refine ⟨-1, .inl ⟨rfl, fun j hj => ?_⟩⟩
    cases j with
    | zero => simpa using h
    | succ j => simpa using h1 j (by simpa using hj)
   ·refine ⟨((k + 1 : Nat) : Int), .inr ⟨k + 1, by simpa using hk, rfl, by simpa using h1, fun j hj => ?_⟩⟩
    cases j with
    | zero => simpa using h
    | succ j => simpa using h2 j (by omega)
section
variable {w0 u w w' : World} {C : CodeS} {gE : Nat} {m : MachD} {vv fv qv : Value} {LS : List (Value × Value)} {fs : List FrameD} {avs : List Value}
theorem ParkedO.rebase {base base' : Nat} (hb : base' ≤ base) : ∀ {LS : List (Value × Value)} {fs : List FrameD}, ParkedO w base LS fs → ParkedO w base' LS fs
 | [], [], _ => trivial
 | _ :: _, _ :: _, h => ⟨⟨h.1.1.rebase hb, h.1.2.rebase hb⟩, h.2.rebase hb⟩
 | [], _ :: _, h => h.elim
 | _ :: _, [], h => h.elim
theorem ReqsO.rebase {base base' : Nat} (hb : base' ≤ base) : ∀ {LS : List Value} {fs : List ReqD}, ReqsO w base LS fs → ReqsO w base' LS fs
 | [], [], _ => trivial
 | _ :: _, _ :: _, h => ⟨h.1.rebase hb, h.2.rebase hb⟩
 | [], _ :: _, h => h.elim
 | _ :: _, [], h => h.elim
theorem XM.rebase (h : XM w0 C gE w m vv fv qv LS avs) (hb : Below u.heap.size u w0) : XM u C gE w m vv fv qv LS avs :=
 ⟨⟨below_call' h.p.bel hb hb.size, Nat.le_trans hb.size h.p.hE, h.p.ex, h.p.val, h.p.fr.rebase hb.size, h.p.rq.rebase hb.size, own_base h.p.qrow hb.size, h.p.nd⟩, own_base h.frow hb.size⟩
/-- A block of some other type has turned. -/
theorem XM.turnT (h : XM w0 C gE w m vv fv qv LS avs) {g : Nat} {t : TypeId} {cs : Array Value} (hb : Blk w g t cs) (hg : w.grownBy w' (some g)) (hbase : w0.heap.size ≤ g) (h1 : t ≠ 62) (h2 : t ≠ 69) (h3 : t ≠ 86) (h4 : t ≠ 74) (h5 : t ≠ 26) : XM w0 C gE w' m vv fv qv LS avs := by
 refine ⟨h.p.turn hg (fun g' e => ?_), h.frow.kept hg ?_⟩
 ·injection e with e
  subst e
  exact ⟨hbase, t, cs, hb, h1, h2, h3, fun e => absurd e h5⟩
 ·exact .inr (fun e => own_ne_blk h.frow hb (fun e => h4 e.symm) e.symm)
/-- An executor that has been made. -/
theorem XM.new_ {W : World} {ls lm : Int} (hb : Below w0.heap.size w0 W) (C : CodeS) : XM w0 C W.heap.size (W.alloc (.cells (exA C ⟨1, 0, [], [], [], ls, lm, 0, 0⟩ (.slice none 0 0) (.slice none 0 0) (.slice none 0 0)) 69)) ⟨1, 0, [], [], [], ls, lm, 0, 0⟩ (.slice none 0 0) (.slice none 0 0) (.slice none 0 0) [] [] :=
 ⟨⟨hb.alloc hb.size _, hb.size, Blk.new W _ _, ValT.none _, trivial, trivial, World.ownsRow_nil _ _ _ _, by simp [blocksF, blocksQ]⟩, World.ownsRow_nil _ _ _ _⟩
end
theorem grown_setRow (w : World) (g : Nat) (cs : Array Value) : w.grownBy (w.setRow g cs) (some g) :=
 ⟨rfl, rfl, rfl, by simp, fun k _ hk => setRow_other w g k _ (fun e => hk (by simp [e]))⟩
/-- One value in a row of values that has just been laid. -/
theorem valsO_one {W : World} {v : Value} {l : ValD} (h : ValT W v l) (base : Nat) (hb : base ≤ W.heap.size) : ValsO (W.alloc (.cells #[v] 26)) base (.slice (some ⟨W.heap.size, 0, none⟩) 1 1) [l] := by
 refine ⟨[v], own_base (World.ownsRow_lit (base := W.heap.size) W #[v] 1 (Nat.le_refl _) (by unfold maxLen; omega) rfl) hb, rfl, fun i h1 h2 => ?_⟩
 have : i = 0 := by simp at h1; omega
 subst this
 exact h.below (below_new _ _)
end Go.Proofs.YtmljohbialacfaaGreatDoor
namespace Go.Proofs.YtmljohbialacfaaGreatDoor
open Go.RowKit
set_option maxRecDepth 100000
def SmallCd (c : CodeD) : Prop := c.fns.length ≤ 40 ∧ c.ins.length ≤ 4100 ∧ (∀ f ∈ c.fns, f.name.size ≤ 1000) ∧ (∀ i ∈ c.ins, InsOk i)
attribute [local go_sem] cell_alloc_is
set_option maxHeartbeats 16000000 in
theorem scode_any (C : CodeS) (w : World) (hC : CodeV w C) :
  Calls Tryz.prog 7 #[.agg #[.slice C.A C.c.fns.length C.ncap, .slice C.B C.c.ins.length C.icap]] w fun e w' => (∃ b, e = .returned (.bool b) ∧ (b = true → SmallCd C.c)) ∧ Below w.heap.size w w' := by
 obtain ⟨P, hP⟩ : ∃ P : Ending → World → Prop, (fun e w' => (∃ b, e = .returned (.bool b) ∧ (b = true → SmallCd C.c)) ∧ Below w.heap.size w w') = P := ⟨_, rfl⟩
 rw [hP]
 have HP := Lib.hid hP
 obtain ⟨A, B, ncap, icap, c⟩ := C
 dsimp only at HP ⊢
 have hF := hC.fns
 have hI := hC.ins
 dsimp only at hF hI
 obtain ⟨nF, hnF⟩ : ∃ n, c.fns.length = n := ⟨_, rfl⟩
 obtain ⟨nI, hnI⟩ : ∃ n, c.ins.length = n := ⟨_, rfl⟩
 rw [hnF, hnI]
 have HNF := Lib.hid hnF
 have HNI := Lib.hid hnI
 have HB := Lib.hid (below_new w (.cells #[.slice A nF ncap, .slice B nI icap] 25))
 have HX := Lib.hid (Blk.new w 25 #[.slice A nF ncap, .slice B nI icap])
 obtain ⟨W1, hW1⟩ : ∃ W1, w.alloc (.cells #[.slice A nF ncap, .slice B nI icap] 25) = W1 := ⟨_, rfl⟩
 rw [hW1] at HB HX
 have HF := Lib.hid (hF.below HB.out)
 have HI := Lib.hid (hI.below HB.out)
 have HW1 := Lib.hid hW1
 clear hP hC hF hI hnF hnI hW1
 have x0 := blk2 HX.out
 by_cases h40 : 40 < nF
 ·have h40' : (40 : Int) < (nF : Int) := by omega
  go_enter Tryz.func7, Tryz.ntmps7
  go_wp2_with (fail)
  rw [← HP.out]
  exact ⟨⟨false, rfl, fun h => by cases h⟩, by rw [HW1.out]; exact HB.out⟩
 by_cases h41 : 4100 < nI
 ·have h40' : ¬ (40 : Int) < (nF : Int) := by omega
  have h41' : (4100 : Int) < (nI : Int) := by omega
  go_enter Tryz.func7, Tryz.ntmps7
  go_wp2_with (fail)
  rw [← HP.out]
  exact ⟨⟨false, rfl, fun h => by cases h⟩, by rw [HW1.out]; exact HB.out⟩
 have h40' : ¬ (40 : Int) < (nF : Int) := by omega
 have h41' : ¬ (4100 : Int) < (nI : Int) := by omega
 go_enter Tryz.func7, Tryz.ntmps7
 go_upto_region 3 with fail
 rw [HW1.out]
 go_wp2_with (fail)
 go_loop [19] (fun iv => ∃ k : Nat, k ≤ nF ∧ iv = .int .i64 k ∧ Hid (∀ j (h : j < c.fns.length), j < k → c.fns[j].name.size ≤ 1000)) (fun iv => nF - (intOf iv).toNat)
 case atStart => exact ⟨0, Nat.zero_le _, rfl, Lib.hid (fun j _ h => absurd h (by omega))⟩
 case round =>
  obtain ⟨k, hk, rfl, HK⟩ := hrel
  have hk0 : (0 : Int) ≤ (k : Int) := by omega
  by_cases hlt : k < nF
  ·have hlt' : (k : Int) < (nF : Int) := by omega
   have hk9 : (k : Int) ≤ 40 := by omega
   have hkl : k < c.fns.length := by rw [HNF.out]; exact hlt
   have hsa := HF.out
   obtain ⟨b, off, hAe, _⟩ := hsa.ptr hkl
   subst hAe
   obtain ⟨s, hs⟩ : ∃ s, c.fns[k].name = s := ⟨_, rfl⟩
   have c0 := hsa.cell0 hkl (v := .string s) (by rw [← hs]; rfl)
   have HSN := Lib.hid hs
   clear hsa hs
   by_cases h5 : s.size ≤ 1000
   ·have HK2 : Hid (∀ j (h : j < c.fns.length), j < k + 1 → c.fns[j].name.size ≤ 1000) := Lib.hid (fun j h hj => by
     by_cases e : j = k
     ·subst e; rw [HSN.out]; exact h5
     ·exact HK.out j h (by omega))
    have h5' : ¬ (1000 : Int) < (s.size : Int) := by omega
    clear HSN hkl
    go_wp2_with (fail)
    exact ⟨⟨k + 1, by omega, by simp, HK2⟩, by simp [intOf]; omega⟩
   ·have h5' : (1000 : Int) < (s.size : Int) := by omega
    clear HSN hkl
    go_wp2_with (fail)
    rw [← HP.out]
    exact ⟨⟨false, rfl, fun h => by cases h⟩, HB.out⟩
  ·have HN : Hid (∀ f ∈ c.fns, f.name.size ≤ 1000) := Lib.hid (fun f hf => by
    obtain ⟨j, hj, rfl⟩ := List.getElem_of_mem hf
    exact HK.out j hj (by have := HNF.out; omega))
   have hnl : ¬ (k : Int) < (nF : Int) := by omega
   go_wp2_with (fail)
   go_loop [34] (fun iv => ∃ k : Nat, k ≤ nI ∧ iv = .int .i64 k ∧ Hid (∀ j (h : j < c.ins.length), j < k → InsOk c.ins[j])) (fun iv => nI - (intOf iv).toNat)
   case atStart => exact ⟨0, Nat.zero_le _, rfl, Lib.hid (fun j _ h => absurd h (by omega))⟩
   case round =>
    obtain ⟨i, hi, rfl, HKI⟩ := hrel
    have hi0 : (0 : Int) ≤ (i : Int) := by omega
    by_cases hlti : i < nI
    ·have hlti' : (i : Int) < (nI : Int) := by omega
     have hi9 : (i : Int) ≤ 4100 := by omega
     have hil : i < c.ins.length := by rw [HNI.out]; exact hlti
     obtain ⟨bI, offI, kv, hBe, _, q0, q1, q2, q3, kA, kc, hkve, hkc, hks⟩ := HI.out.at hil
     subst hBe hkve
     obtain ⟨x, hx⟩ : ∃ x, c.ins[i]'hil = x := ⟨_, rfl⟩
     rw [hx] at q2 q3 hks
     have HXE := Lib.hid hx
     have HKS := Lib.hid hks
     clear hx hks q0 q1 hkc
     obtain ⟨op, a, s, keys⟩ := x
     dsimp only at q2
     have q3' : W1.cell? ⟨bI, offI + i * 4 + 3, none⟩ = some (.slice kA keys.length kc) := q3
     have HKS2 : Hid (SlAt W1 kA 1 strCs keys) := HKS
     clear q3 HKS
     obtain ⟨kn, hkn⟩ : ∃ n, keys.length = n := ⟨_, rfl⟩
     rw [hkn] at q3'
     have HKN := Lib.hid hkn
     clear hkn
     by_cases h5 : s.size ≤ 1000
     ·have h5' : ¬ (1000 : Int) < (s.size : Int) := by omega
      by_cases h3 : kn ≤ 300
      ·have h3' : ¬ (300 : Int) < (kn : Int) := by omega
       go_wp2_with (fail)
       go_loop [62] (fun iv => ∃ t : Nat, t ≤ kn ∧ iv = .int .i64 t ∧ Hid (∀ j (h : j < keys.length), j < t → keys[j].size ≤ 1000)) (fun iv => kn - (intOf iv).toNat)
       case atStart => exact ⟨0, Nat.zero_le _, rfl, Lib.hid (fun j _ h => absurd h (by omega))⟩
       case round =>
        obtain ⟨t, ht, rfl, HKT⟩ := hrel
        have ht0 : (0 : Int) ≤ (t : Int) := by omega
        by_cases hltt : t < kn
        ·have hltt' : (t : Int) < (kn : Int) := by omega
         have ht9 : (t : Int) ≤ 300 := by omega
         have htl : t < keys.length := by rw [HKN.out]; exact hltt
         have hsk := HKS2.out
         obtain ⟨bK, oK, hKe, _⟩ := hsk.ptr htl
         subst hKe
         obtain ⟨u, hu⟩ : ∃ u, keys[t] = u := ⟨_, rfl⟩
         have ck := hsk.cell0 htl (v := .string u) (by rw [← hu]; rfl)
         have ck' : W1.cell? ⟨bK, oK + t, none⟩ = some (.string u) := by simpa using ck
         have HU := Lib.hid hu
         clear hsk hu ck
         by_cases h6 : u.size ≤ 1000
         ·have HK2 : Hid (∀ j (h : j < keys.length), j < t + 1 → keys[j].size ≤ 1000) := Lib.hid (fun j h hj => by
           by_cases e : j = t
           ·subst e; rw [HU.out]; exact h6
           ·exact HKT.out j h (by omega))
          have h6' : ¬ (1000 : Int) < (u.size : Int) := by omega
          clear HU htl
          go_wp2_with (fail)
          exact ⟨⟨t + 1, by omega, by simp, HK2⟩, by simp [intOf]; omega⟩
         ·have h6' : (1000 : Int) < (u.size : Int) := by omega
          clear HU htl
          go_wp2_with (fail)
          rw [← HP.out]
          exact ⟨⟨false, rfl, fun h => by cases h⟩, HB.out⟩
        ·have HIO : Hid (InsOk ⟨op, a, s, keys⟩) := Lib.hid ⟨h5, by dsimp only; rw [HKN.out]; exact h3, fun y hy => by
          obtain ⟨j, hj, rfl⟩ := List.getElem_of_mem hy
          exact HKT.out j hj (by have := HKN.out; dsimp only at hj; omega)⟩
         have HK2 : Hid (∀ j (h : j < c.ins.length), j < i + 1 → InsOk c.ins[j]) := Lib.hid (fun j h hj => by
          by_cases e : j = i
          ·subst e; rw [HXE.out]; exact HIO.out
          ·exact HKI.out j h (by omega))
         have hnt : ¬ (t : Int) < (kn : Int) := by omega
         clear HXE hil
         go_wp2_with (fail)
         exact ⟨⟨i + 1, by omega, by simp, HK2⟩, by simp [intOf]; omega⟩
      ·have h3' : (300 : Int) < (kn : Int) := by omega
       clear HXE hil
       go_wp2_with (fail)
       rw [← HP.out]
       exact ⟨⟨false, rfl, fun h => by cases h⟩, HB.out⟩
     ·have h5' : (1000 : Int) < (s.size : Int) := by omega
      clear HXE hil
      go_wp2_with (fail)
      rw [← HP.out]
      exact ⟨⟨false, rfl, fun h => by cases h⟩, HB.out⟩
    ·have HII : Hid (∀ x ∈ c.ins, InsOk x) := Lib.hid (fun x hx => by
      obtain ⟨j, hj, rfl⟩ := List.getElem_of_mem hx
      exact HKI.out j hj (by have := HNI.out; omega))
     have hni : ¬ (i : Int) < (nI : Int) := by omega
     go_wp2_with (fail)
     rw [← HP.out]
     exact ⟨⟨true, rfl, fun _ => ⟨by rw [HNF.out]; omega, by rw [HNI.out]; omega, HN.out, HII.out⟩⟩, HB.out⟩
end Go.Proofs.YtmljohbialacfaaGreatDoor
namespace Go.Proofs.YtmljohbialacfaaGreatDoor
open Go.RowKit
set_option maxRecDepth 100000
/-- A value that was there at the start, or lies in blocks of cells. -/
def ValE (w0 w : World) (v : Value) (l : ValD) : Prop := ValV w0 v l ∨ ValT w v l
theorem ValE.keep {w0 w w' : World} {v : Value} {l : ValD} (h : ValE w0 w v l) (hk : CK w w') : ValE w0 w' v l := h.imp id (fun h => h.keep hk)
theorem ValE.val {w0 w : World} {v : Value} {l : ValD} (h : ValE w0 w v l) (hb : Below w0.heap.size w0 w) : ValV w v l := by
 rcases h with h | h
 ·exact h.below hb
 ·exact h.1
/-- A row of such values, of the call's own. -/
def RowE (w0 : World) (base : Nat) (w : World) (v : Value) (l : List ValD) (n : Nat) : Prop :=
 ∃ vs : List Value, w.ownsRow base 26 1 v n vs ∧ vs.length = n ∧ l.length = n ∧ ∀ i (h : i < vs.length) (h' : i < l.length), ValE w0 w vs[i] l[i]
theorem RowE.below {w0 w w' : World} {base : Nat} {v : Value} {l : List ValD} {n : Nat} (h : RowE w0 base w v l n) (hb : Below w.heap.size w w') : RowE w0 base w' v l n := by
 obtain ⟨vs, h1, h2, h3, h4⟩ := h
 exact ⟨vs, own_below h1 hb, h2, h3, fun i a b => (h4 i a b).keep (CK.of_below hb)⟩
theorem RowE.vals {w0 w : World} {base : Nat} {v : Value} {l : List ValD} {n : Nat} (h : RowE w0 base w v l n) (hb : Below w0.heap.size w0 w) (hm : n ≤ 100000) : ValsV w v l := by
 obtain ⟨vs, h1, h2, h3, h4⟩ := h
 subst h3
 obtain ⟨A, cap, rfl⟩ := own_shape h1
 have hsl : SlAt w A 1 (fun x => [x]) vs := SlAt.of_own h1 (by clear h4 h2 h1; induction vs with
  | nil => rfl
  | cons x r ih => simp) (fun _ => rfl) (by omega)
 refine ⟨A, cap, vs.map (fun x => [x]), rfl, own_le h1, by omega, ?_, by simpa using h2, fun i h h' => ?_⟩
 ·unfold SlAt at hsl ⊢
  rw [List.map_map]
  exact hsl
 ·rw [List.getElem_map]
  exact ⟨_, rfl, (h4 i (by simpa using h) h').val hb⟩
theorem RowE.snoc {w0 w : World} {base : Nat} {v' : Value} {l : List ValD} {vs : List Value} {x : Value} {lx : ValD} {n : Nat} (h : w.ownsRow base 26 1 v' (n + 1) (vs ++ [x])) (hvl : vs.length = n) (hl : l.length = n) (hv : ∀ i (h : i < vs.length) (h' : i < l.length), ValE w0 w vs[i] l[i]) (hx : ValE w0 w x lx) : RowE w0 base w v' (l ++ [lx]) (n + 1) := by
 refine ⟨vs ++ [x], h, by simp [hvl], by simp [hl], fun i h1 h2 => ?_⟩
 by_cases hi : i < n
 ·rw [List.getElem_append_left (by omega), List.getElem_append_left (by omega)]
  exact hv i (by omega) (by omega)
 ·have e : i = n := by simp at h1; omega
  subst e
  rw [List.getElem_append_right (by omega), List.getElem_append_right (by omega)]
  simpa [hvl, hl] using hx
theorem RowE.turn {w0 w w' : World} {base : Nat} {v : Value} {l : List ValD} {n g : Nat} {t : TypeId} {cs : Array Value} (h : RowE w0 base w v l n) (hb : Blk w g t cs) (h1 : t ≠ 62) (h2 : t ≠ 26) (hg : w.grownBy w' (some g)) : RowE w0 base w' v l n := by
 obtain ⟨vs, a, b, c, d⟩ := h
 exact ⟨vs, a.kept hg (.inr (fun e => own_ne_blk a hb (fun e => h2 e.symm) e.symm)), b, c, fun i x y => (d i x y).keep (CK.blk hb h1 hg)⟩
/-- The variables of a new frame. -/
def locsF (args : List ValD) (L : Nat) : List ValD := args ++ List.replicate (L - args.length) [nulC]
theorem locsF_len (args : List ValD) (L : Nat) (h : args.length ≤ L) : (locsF args L).length = L := by unfold locsF; simp; omega
theorem locsF_lo (args : List ValD) (L j : Nat) (h : j < args.length) (h2 : j < (locsF args L).length) : (locsF args L)[j] = args[j] := by unfold locsF; exact List.getElem_append_left h
theorem locsF_hi (args : List ValD) (L j : Nat) (h : args.length ≤ j) (h2 : j < (locsF args L).length) : (locsF args L)[j] = [nulC] := by
 have e : (locsF args L)[j]? = some [nulC] := by
  have hl : j - args.length < L - args.length := by unfold locsF at h2; simp at h2; omega
  unfold locsF
  rw [List.getElem?_append_right h, List.getElem?_replicate, if_pos hl]
 rw [List.getElem?_eq_getElem h2] at e
 injection e
attribute [local go_sem] cell_alloc_is
set_option maxHeartbeats 16000000 in
theorem rframe_any (C : CodeS) (k : Nat) (f : FnD) (av : Value) (args : List ValD) (aA : Option Addr) (acap : Nat) (vs0 : List Value) (w00 w : World) (hC : CodeV w C) (hk : C.c.fns[k]? = some f) (hlo : 0 ≤ f.locals ∧ f.locals ≤ 32) (hfn : C.c.fns.length ≤ 40) (hav : av = .slice aA args.length acap) (hsv : SlAt w aA 1 (fun x => [x]) vs0) (hvl0 : vs0.length = args.length) (hvv0 : ∀ i (h : i < vs0.length) (h' : i < args.length), ValV w00 vs0[i] args[i]) (hal : args.length ≤ f.locals.toNat) :
  Calls Tryz.prog 31 #[.agg #[.slice C.A C.c.fns.length C.ncap, .slice C.B C.c.ins.length C.icap], .int .i64 k, av] w fun e w' => ∃ lv, e = .returned (.agg #[.int .i64 k, .int .i64 f.entry, lv, .slice none 0 0]) ∧ RowE w00 w.heap.size w' lv (locsF args f.locals.toNat) f.locals.toNat ∧ Below w.heap.size w w' := by
 obtain ⟨P, hP⟩ : ∃ P : Ending → World → Prop, (fun e w' => ∃ lv, e = .returned (.agg #[.int .i64 k, .int .i64 f.entry, lv, .slice none 0 0]) ∧ RowE w00 w.heap.size w' lv (locsF args f.locals.toNat) f.locals.toNat ∧ Below w.heap.size w w') = P := ⟨_, rfl⟩
 rw [hP]
 have HP := Lib.hid hP
 obtain ⟨i1, hj, hy0, hy1, hy2⟩ := info_parts Tryz.infoVal
 have hkl : k < C.c.fns.length := (List.getElem?_eq_some_iff.1 hk).1
 have hke : C.c.fns[k] = f := (List.getElem?_eq_some_iff.1 hk).2
 have hsa := hC.fns
 obtain ⟨bF, oF, hAe, _⟩ := hsa.ptr hkl
 have hkl' : (k : Int) < (C.c.fns.length : Int) := by omega
 have hk0 : (0 : Int) ≤ (k : Int) := by omega
 have hk9 : (k : Int) ≤ 40 := by omega
 rw [hAe] at hsa ⊢
 have c2 := hsa.cell hkl (j := 2) (v := .int .i64 f.locals) (by rw [hke]; rfl)
 have c3 := hsa.cell hkl (j := 3) (v := .int .i64 f.entry) (by rw [hke]; rfl)
 obtain ⟨nF, hnF⟩ : ∃ n, C.c.fns.length = n := ⟨_, rfl⟩
 obtain ⟨nI, hnI⟩ : ∃ n, C.c.ins.length = n := ⟨_, rfl⟩
 rw [hnF] at hkl'
 rw [hnF, hnI]
 obtain ⟨name, params, locals, entry, fin⟩ := f
 dsimp only at c2 c3 hlo hal HP
 obtain ⟨L, hL⟩ : ∃ L : Nat, locals = L := ⟨locals.toNat, by omega⟩
 subst hL
 have hal' : args.length ≤ L := by simpa using hal
 obtain ⟨n0, hn0⟩ : ∃ n, args.length = n := ⟨_, rfl⟩
 rw [hn0] at hav hal'
 subst hav
 have HN0 := Lib.hid hn0
 have HSV := Lib.hid hsv
 have HVL := Lib.hid hvl0
 have HVV := Lib.hid hvv0
 have HLF := Lib.hid (locsF_len args L (by rw [hn0]; exact hal'))
 have hL0 : (0 : Int) ≤ (L : Int) := by omega
 have hL9 : (L : Int) ≤ 32 := by omega
 have hn9 : (n0 : Int) ≤ 32 := by omega
 have hn00 : (0 : Int) ≤ (n0 : Int) := by omega
 clear hP hC hk hal hsa hke hkl hAe hnF hnI hn0 hsv hvl0 hvv0 hfn
 go_enter Tryz.func31, Tryz.ntmps31
 go_upto_region 2 with fail
 have HB1 := Lib.hid (below_3 w (.cells #[.slice (some ⟨bF, oF, none⟩) nF C.ncap, .slice C.B nI C.icap] 25) (.cells #[.int .i64 0, .int .i64 0, .slice none 0 0, .slice none 0 0] 74) (.cells #[.int .i64 k, .int .i64 entry, .slice none 0 0, .slice none 0 0] 74))
 have HX1 := Lib.hid (((Blk.new w 25 #[.slice (some ⟨bF, oF, none⟩) nF C.ncap, .slice C.B nI C.icap]).alloc (.cells #[.int .i64 0, .int .i64 0, .slice none 0 0, .slice none 0 0] 74)).alloc (.cells #[.int .i64 k, .int .i64 entry, .slice none 0 0, .slice none 0 0] 74))
 have HR1 := Lib.hid ((Blk.second w (.cells #[.slice (some ⟨bF, oF, none⟩) nF C.ncap, .slice C.B nI C.icap] 25) 74 #[.int .i64 0, .int .i64 0, .slice none 0 0, .slice none 0 0]).alloc (.cells #[.int .i64 k, .int .i64 entry, .slice none 0 0, .slice none 0 0] 74))
 have HO1 := Lib.hid (Blk.third w (.cells #[.slice (some ⟨bF, oF, none⟩) nF C.ncap, .slice C.B nI C.icap] 25) (.cells #[.int .i64 0, .int .i64 0, .slice none 0 0, .slice none 0 0] 74) 74 #[.int .i64 k, .int .i64 entry, .slice none 0 0, .slice none 0 0])
 obtain ⟨W1, hW1⟩ : ∃ W1, ((w.alloc (.cells #[.slice (some ⟨bF, oF, none⟩) nF C.ncap, .slice C.B nI C.icap] 25)).alloc (.cells #[.int .i64 0, .int .i64 0, .slice none 0 0, .slice none 0 0] 74)).alloc (.cells #[.int .i64 k, .int .i64 entry, .slice none 0 0, .slice none 0 0] 74) = W1 := ⟨_, rfl⟩
 have c2' : W1.cell? ⟨bF, oF + k * 5 + 2, none⟩ = some (.int .i64 L) := by
  rw [← hW1, ← c2]
  exact HB1.out.cell (p := ⟨bF, oF + k * 5 + 2, none⟩) (World.block_lt_of_cell? w _ c2)
 rw [hW1] at HB1 HX1 HR1 HO1 ⊢
 clear hW1 c2 c3
 have x1 := blk2 HX1.out
 go_wp2_with (fail)
 clear x1 c2'
 go_loopw [23] (fun iv wr => ∃ (j : Nat) (A : Option Addr) (cap : Nat), j ≤ L ∧ iv = .int .i64 j ∧ Hid (Blk wr (w.heap.size + 1 + 1) 74 #[.int .i64 k, .int .i64 entry, .slice A j cap, .slice none 0 0]) ∧ Hid (RowE w00 w.heap.size wr (.slice A j cap) ((locsF args L).take j) j) ∧ Hid (Below w.heap.size w wr) ∧ Hid (Blk wr (w.heap.size + 1) 74 #[.int .i64 0, .int .i64 0, .slice none 0 0, .slice none 0 0])) (fun iv _ => L - (intOf iv).toNat)
 case atStart => exact ⟨0, none, 0, Nat.zero_le _, rfl, HO1, Lib.hid ⟨[], World.ownsRow_nil _ _ _ _, rfl, by simp, fun i h => absurd h (by simp)⟩, HB1, HR1⟩
 case round =>
  obtain ⟨j, A, cap, hjL, rfl, HO, HRE, HB, HR⟩ := hrel
  have hj0 : (0 : Int) ≤ (j : Int) := by omega
  by_cases hlt : j < L
  ·have hlt' : (j : Int) < (L : Int) := by omega
   have hj9 : (j : Int) ≤ 32 := by omega
   have hjl : j < (locsF args L).length := by rw [HLF.out]; exact hlt
   have HTK := Lib.hid (List.take_succ_eq_append_getElem hjl)
   obtain ⟨vs, ho, hvl, hll, hvt⟩ := HRE.out
   have HVS := Lib.hid hvt
   have HVSL := Lib.hid hvl
   have HLL := Lib.hid hll
   have o1 := blk4 HO.out
   by_cases hjn : j < n0
   ·have hjn' : (j : Int) < (n0 : Int) := by omega
    have hjv : j < vs0.length := by rw [HVL.out, HN0.out]; exact hjn
    have hx0 := HVV.out j hjv (by rw [HN0.out]; exact hjn)
    have hsa := HSV.out.below HB.out
    obtain ⟨bA, oA, hAe, _⟩ := hsa.ptr hjv
    subst hAe
    obtain ⟨x, hx⟩ : ∃ x, vs0[j] = x := ⟨_, rfl⟩
    have ca := hsa.cell0 hjv (v := x) (by rw [← hx]; rfl)
    rw [hx] at hx0
    have HLJ : Hid ((locsF args L)[j] = args[j]'(by rw [HN0.out]; exact hjn)) := Lib.hid (locsF_lo args L j _ hjl)
    obtain ⟨xa, xn, xc, hxe⟩ := hx0.shape
    subst hxe
    have HX0 := Lib.hid hx0
    obtain ⟨WA, hWA⟩ : ∃ WA, wr.drew.alloc (.cells #[.slice xa xn xc] 26) = WA := ⟨_, rfl⟩
    have hbA : Below wr.heap.size wr WA := by rw [← hWA]; exact (Below.refl _ _).drew.alloc (Nat.le_refl _) _
    have HBA := Lib.hid (below_call' hbA HB.out HB.out.size)
    have HOA := Lib.hid (own_below ho hbA)
    have HOB := Lib.hid (HO.out.below hbA)
    have HRB := Lib.hid (HR.out.below hbA)
    have HSZ := Lib.hid HBA.out.size
    have HVA : Hid (∀ i (h : i < vs.length) (h' : i < ((locsF args L).take j).length), ValE w00 WA vs[i] ((locsF args L).take j)[i]) := Lib.hid (fun i a b => (HVS.out i a b).keep (CK.of_below hbA))
    have HNW : Hid (∀ q u, [Value.slice xa xn xc][q]? = some u → WA.cell? ((⟨wr.heap.size, 0, none⟩ : Addr).add q) = some u) := Lib.hid (by rw [← hWA]; exact cells_new wr.drew _ 26)
    have ca' : wr.cell? ⟨bA, oA + j, none⟩ = some (.slice xa xn xc) := by simpa using ca
    have caA : WA.cell? ⟨bA, oA + j, none⟩ = some (.slice xa xn xc) := by
     rw [← ca']
     exact hbA.cell (p := ⟨bA, oA + j, none⟩) (World.block_lt_of_cell? wr _ ca')
    clear ca
    have oA' := blk4 HOB.out
    clear ho hvl hll hvt hbA hsa hx0 hx
    go_upto_region 6 with fail
    go_region_law (first
     | (rw [if_pos (by rfl)]; refine wp_append_lies _ (.tmp 31) (.tmp 36) 72 rfl w.heap.size 26 i1 _ 1 24 Tryz.underlying72 hj hy0 hy1 hy2 rfl ?k1 _ j _ rfl HOA.out ⟨wr.heap.size, 0, none⟩ 1 1 [.slice xa xn xc] rfl rfl HNW.out ?k2 ?k3 ?k4 ?k5 ?k6 _ rfl ?_; (case k1 => decide); (case k2 => simp [Value.oneCell']); (case k3 => decide); (case k4 => (unfold maxLen; omega)); (case k5 => omega); (case k6 => exact HSZ.out); intro g6 cap6 w6 hown6 hgr6 hat6 hlt6; have HE6 := Lib.hid (HOB.out.grown hgr6 (own_ne_blk HOA.out HOB.out (by decide))); have o6 := blk4 HE6.out; have z6 := HE6.out.frozen 2; have HO6 := Lib.hid hown6; have HG6 := Lib.hid hgr6; clear hown6 hgr6 hat6))
    all_goals
     go_wp2_with (fail)
     have hgS := grown_setc w6 (w.heap.size + 1 + 1) 2 (.slice (some ⟨g6, 0, none⟩) (j + 1) cap6)
     have hck : CK WA w6 := CK.own HOA.out (by decide) HG6.out
     have hre : RowE w00 w.heap.size w6 (.slice (some ⟨g6, 0, none⟩) (j + 1) cap6) ((locsF args L).take (j + 1)) (j + 1) := by
      rw [HTK.out, HLJ.out]
      exact RowE.snoc HO6.out HVSL.out HLL.out (fun i a b => (HVA.out i a b).keep hck) (.inl HX0.out)
     refine ⟨⟨j + 1, some ⟨g6, 0, none⟩, cap6, by omega, by simp, Lib.hid (HE6.out.set_ 2 _), Lib.hid (hre.turn HE6.out (by decide) (by decide) hgS), Lib.hid ?_, Lib.hid ?_⟩, by simp [intOf]; omega⟩
     ·exact (HBA.out.grown HG6.out HBA.out.size (fun kk hkk => (HOA.out.lt kk hkk).1)).grown hgS (Nat.le_trans HBA.out.size HG6.out.size) (fun kk hkk => by injection hkk with hkk; omega)
     ·exact (HRB.out.grown HG6.out (own_ne_blk HOA.out HRB.out (by decide))).grown hgS (by simp)
   ·have hjn' : ¬ (j : Int) < (n0 : Int) := by omega
    have HLJ : Hid ((locsF args L)[j] = [nulC]) := Lib.hid (locsF_hi args L j (by rw [HN0.out]; omega) hjl)
    obtain ⟨WN, hWN⟩ : ∃ WN, wr.drew.alloc (.cells #[.int .i64 1, .int .i64 0, .string ⟨#[]⟩, .int .i64 0] 62) = WN := ⟨_, rfl⟩
    have hbN : Below wr.heap.size wr WN := by rw [← hWN]; exact (Below.refl _ _).drew.alloc (Nat.le_refl _) _
    have hVN : ValT WN (.slice (some ⟨wr.heap.size, 0, none⟩) 1 1) [nulC] := by rw [← hWN]; exact valT_null wr.drew
    obtain ⟨gW, hgW⟩ : ∃ g, WN.heap.size = g := ⟨_, rfl⟩
    have HGW := Lib.hid hgW
    clear hgW
    obtain ⟨WA, hWA⟩ : ∃ WA, WN.alloc (.cells #[.slice (some ⟨wr.heap.size, 0, none⟩) 1 1] 26) = WA := ⟨_, rfl⟩
    have hbA1 : Below WN.heap.size WN WA := by rw [← hWA]; exact below_new _ _
    have hbA : Below wr.heap.size wr WA := below_call' hbA1 hbN hbN.size
    have HBA := Lib.hid (below_call' hbA HB.out HB.out.size)
    have HOA := Lib.hid (own_below ho hbA)
    have HOB := Lib.hid (HO.out.below hbA)
    have HRB := Lib.hid (HR.out.below hbA)
    have HSZ := Lib.hid HBA.out.size
    have HVA : Hid (∀ i (h : i < vs.length) (h' : i < ((locsF args L).take j).length), ValE w00 WA vs[i] ((locsF args L).take j)[i]) := Lib.hid (fun i a b => (HVS.out i a b).keep (CK.of_below hbA))
    have HVN := Lib.hid (hVN.below hbA1)
    have HNW : Hid (∀ q u, [Value.slice (some ⟨wr.heap.size, 0, none⟩) 1 1][q]? = some u → WA.cell? ((⟨WN.heap.size, 0, none⟩ : Addr).add q) = some u) := Lib.hid (by rw [← hWA]; exact cells_new WN _ 26)
    have oA' := blk4 HOB.out
    have oN := blk4 (HO.out.below hbN)
    clear ho hvl hll hvt hbA hbA1 hbN hVN
    go_upto_region 7 with fail
    go_region_law (first
     | (go_simp; go_at_call 60; (refine (rnull_any _).mono ?_); rintro e1 w1 ⟨rfl, hw1⟩; subst hw1)
     | (rw [if_pos (by rfl)]; refine wp_append_lies _ (.tmp 40) (.tmp 42) 72 rfl w.heap.size 26 i1 _ 1 24 Tryz.underlying72 hj hy0 hy1 hy2 rfl ?k1 _ j _ rfl HOA.out ⟨WN.heap.size, 0, none⟩ 1 1 [.slice (some ⟨wr.heap.size, 0, none⟩) 1 1] ?k7 rfl HNW.out ?k2 ?k3 ?k4 ?k5 ?k6 _ rfl ?_; (case k7 => first | rfl | simp); (case k1 => decide); (case k2 => simp [Value.oneCell']); (case k3 => decide); (case k4 => (unfold maxLen; omega)); (case k5 => omega); (case k6 => exact HSZ.out); intro g6 cap6 w6 hown6 hgr6 hat6 hlt6; have HE6 := Lib.hid (HOB.out.grown hgr6 (own_ne_blk HOA.out HOB.out (by decide))); have o6 := blk4 HE6.out; have z6 := HE6.out.frozen 2; have HO6 := Lib.hid hown6; have HG6 := Lib.hid hgr6; clear hown6 hgr6 hat6))
    all_goals
     go_wp2_with (fail)
     have hgS := grown_setc w6 (w.heap.size + 1 + 1) 2 (.slice (some ⟨g6, 0, none⟩) (j + 1) cap6)
     have hck : CK WA w6 := CK.own HOA.out (by decide) HG6.out
     have hre : RowE w00 w.heap.size w6 (.slice (some ⟨g6, 0, none⟩) (j + 1) cap6) ((locsF args L).take (j + 1)) (j + 1) := by
      rw [HTK.out, HLJ.out]
      exact RowE.snoc HO6.out HVSL.out HLL.out (fun i a b => (HVA.out i a b).keep hck) (.inr (HVN.out.keep hck))
     refine ⟨⟨j + 1, some ⟨g6, 0, none⟩, cap6, by omega, by simp, Lib.hid (HE6.out.set_ 2 _), Lib.hid (hre.turn HE6.out (by decide) (by decide) hgS), Lib.hid ?_, Lib.hid ?_⟩, by simp [intOf]; omega⟩
     ·exact (HBA.out.grown HG6.out HBA.out.size (fun kk hkk => (HOA.out.lt kk hkk).1)).grown hgS (Nat.le_trans HBA.out.size HG6.out.size) (fun kk hkk => by injection hkk with hkk; omega)
     ·exact (HRB.out.grown HG6.out (own_ne_blk HOA.out HRB.out (by decide))).grown hgS (by simp)
  ·have hnl : ¬ (j : Int) < (L : Int) := by omega
   have ej : j = L := by omega
   have HRE2 : Hid (RowE w00 w.heap.size wr (.slice A L cap) (locsF args L) L) := Lib.hid (by have := HRE.out; rw [ej, List.take_of_length_le (by rw [HLF.out]; exact Nat.le_refl _)] at this; exact this)
   subst ej
   have o1 := blk4 HO.out
   have HZ8 := Lib.hid (HR.out.setRow (cs' := #[.int .i64 k, .int .i64 entry, .slice A j cap, .slice none 0 0]))
   go_wp2_with (first
    | (refine wpList_store_row rfl 74 (.tmp 6) (.tmp 46) rfl (w.heap.size + 1) #[.int .i64 k, .int .i64 entry, .slice A j cap, .slice none 0 0] rfl rfl 74 _ HR.out (by kernel_rfl) rfl (by simp [Value.oneCell']) ?_))
   have gz := blk4 HZ8.out
   refine bodyPost_ret (v := .agg #[.int .i64 k, .int .i64 entry, .slice A j cap, .slice none 0 0]) (by simp [results, Tryz.results31, go_sem, gz]) rfl ?_
   rw [← HP.out]
   have hb8 := below_setRow HB.out (show w.heap.size ≤ w.heap.size + 1 by omega) #[.int .i64 k, .int .i64 entry, .slice A j cap, .slice none 0 0]
   exact ⟨_, rfl, by simpa using HRE2.out.turn HR.out (by decide) (by decide) (grown_setRow _ _ _), hb8⟩
end Go.Proofs.YtmljohbialacfaaGreatDoor
