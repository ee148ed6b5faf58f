/- The program's Once and Settled. -/
import Derived.Test.YtcnmdhdoiekfoaaDoorW8
import Derived.Test.YtcnmdhdoiekfoaaDoorW4
namespace Go.Proofs.YtcnmdhdoiekfoaaDoor
open Go.RowKit
set_option maxRecDepth 100000

theorem pickN_all (l : List FactD) (P : ByteArray → IM → IM → Bool) (p : ByteArray → Bool) (h : ∀ q ∈ hist l l.length, P q.1 q.2.1 q.2.2 = p q.1) :
    pickN (hist l l.length) P (hist l l.length).length = selN l p l.length := by
  unfold pickN
  rw [List.take_length, ← selN_filter l p, ← hist_keys l l.length (Nat.le_refl _), List.filter_map]
  congr 1
  exact List.filter_congr fun q hq => h q hq

theorem alGet_mem {α β : Type} [DecidableEq α] (l : List (α × β)) (h : (l.map (·.1)).Nodup) (q : α × β) (hq : q ∈ l) : alGet l q.1 = some q.2 := by
  obtain ⟨n, hn, rfl⟩ := List.getElem_of_mem hq
  exact alGet_at l h n hn

theorem hist_count {l : List FactD} {q : ByteArray × (IM × IM)} (hq : q ∈ hist l l.length) (k : Int) : (alGet q.2.2 k).getD 0 = countN l k q.1 := by
  have h1 := cntOf_hist l q.1 k l.length (Nat.le_refl _)
  unfold cntOf at h1
  rw [alGet_mem _ (hist_nodup l l.length) q hq, List.take_length] at h1
  exact h1

theorem hist_at {l : List FactD} {q : ByteArray × (IM × IM)} (hq : q ∈ hist l l.length) (k : Int) : (alGet q.2.1 k).getD 0 = if firstN l k q.1 0 < 0 then 0 else firstN l k q.1 0 := by
  have h1 := atOf_hist l q.1 k l.length (Nat.le_refl _)
  unfold atOf at h1
  rw [alGet_mem _ (hist_nodup l l.length) q hq, List.take_length] at h1
  exact h1

theorem firstN_ge (l : List FactD) (k : Int) (e : ByteArray) : 0 ≤ firstN l k e 0 ↔ countN l k e ≠ 0 := by
  have := countN_pos l k e 0
  omega

theorem once_agree {l : List FactD} {q : ByteArray × (IM × IM)} (hq : q ∈ hist l l.length) : pOnceB q.2.2 = onceB l q.1 := by
  unfold pOnceB onceB hasB
  simp only [List.all_cons, List.all_nil, Bool.and_true, hist_count hq]
  rw [Bool.eq_iff_iff]
  have h8 := firstN_ge l 8 q.1
  simp only [Bool.or_eq_true, Bool.and_eq_true, decide_eq_true_eq, h8]
  omega

theorem settled_agree {l : List FactD} {q : ByteArray × (IM × IM)} (hq : q ∈ hist l l.length) : pSettledB q.2.2 = settledB l q.1 := by
  unfold pSettledB settledB hasB
  simp only [List.all_cons, List.all_nil, Bool.and_true, hist_count hq]
  rw [Bool.eq_iff_iff]
  have h1 := firstN_ge l 1 q.1
  have h5 := countN_pos l 5 q.1 0
  have h8 := countN_pos l 8 q.1 0
  simp only [Bool.and_eq_true, decide_eq_true_eq, h1, ← h5, ← h8, Bool.not_eq_true', decide_eq_false_iff_not]
  omega

theorem Tryd.call19 : ∀ args wx, (callFunc 19 args).run Tryd.prog wx = .ok (.enter 19 args) wx := fun args wx => by kernel_rfl
theorem Tryd.call21 : ∀ args wx, (callFunc 21 args).run Tryd.prog wx = .ok (.enter 21 args) wx := fun args wx => by kernel_rfl

set_option maxHeartbeats 1000000 in
theorem ponce_any (A : Option Addr) (cap : Nat) (l : List FactD) (w : World) (hl : l.length ≤ 4000) (hc : l.length ≤ cap) (hf : FactsAt w A l) :
    Calls Tryd.prog 7 #[.slice A l.length cap] w fun e w' => ∃ v, e = .returned v ∧ ProbsAt w' w.heap.size v sOnce (selN l (onceB l) l.length) ∧ Below w.heap.size w w' := by
  have HP := Lib.hid (pickN_all l (fun _ _ cm => pOnceB cm) (onceB l) fun q hq => once_agree hq)
  have HC := Lib.hid (problems_any A cap l sOnce 19 #[] (fun _ _ cm => pOnceB cm) w hl hf Tryd.call19 (fun wx _ p _ a c _ hmc => ponce1_any p.1 a c p.2.2 wx hmc))
  clear hf
  go_enter Tryd.func7, Tryd.ntmps7
  go_wp2_with (fail)
  refine (pfirst_any _ _ _ _ hl hc).mono ?_
  rintro e w' ⟨rfl, rfl⟩
  go_wp2_with (fail)
  refine HC.out.mono ?_
  rintro e w1 ⟨v, rfl, hp, hb⟩
  rw [HP.out] at hp
  have HPR := Lib.hid hp
  have HB := Lib.hid hb
  clear hp hb
  go_wp2_with (fail)
  go_ret
  exact ⟨v, rfl, HPR.out, HB.out⟩

end Go.Proofs.YtcnmdhdoiekfoaaDoor
