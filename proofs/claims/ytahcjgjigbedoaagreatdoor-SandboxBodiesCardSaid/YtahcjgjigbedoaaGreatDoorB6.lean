/- Maps made of keys and values: the reference's Map. -/
import Derived.Test.YtahcjgjigbedoaaGreatDoorB5
import Derived.Test.YtahcjgjigbedoaaGreatDoorGB4
set_option linter.unusedVariables false
set_option linter.unusedSimpArgs false
namespace Go.Proofs.YtahcjgjigbedoaaGreatDoor
open Go.RowKit
set_option maxRecDepth 100000
attribute [local go_sem] cell_alloc_is
set_option maxHeartbeats 8000000 in
theorem rmap_any (ks : List ByteArray) (l : List ValD) (kv lv : Value) (w : World) (hk : StrsV w kv ks) (hl : ValsV w lv l) (hp : Pow w) (ho : ∀ x ∈ l, OkV x) (hks : ∀ s ∈ ks, s.size ≤ 4294967296) (hn : l.length ≤ 4000) :
  Calls Tryz.prog 19 #[kv, lv] w (RetR w [] (mapR ks l)) := by
 obtain ⟨P, hP⟩ : ∃ P : Ending → World → Prop, RetR w [] (mapR ks l) = P := ⟨_, rfl⟩
 rw [hP]
 have HP := Lib.hid hP
 obtain ⟨i0, hi, hz0, hz1, hz2⟩ := info_parts Tryz.infoCell
 obtain ⟨A, cap, vs, rfl, hc, hm, hs, hla, hva⟩ := hl.at
 obtain ⟨B, kcap, rfl, hkc, hks2⟩ := hk
 have HS := Lib.hid hs
 have HV := Lib.hid hva
 have HLA := Lib.hid hla
 have HW := Lib.hid hp
 have HO := Lib.hid ho
 have HK := Lib.hid hks2
 have HKS := Lib.hid hks
 have HL : Hid (l.length ≤ 4000) := Lib.hid hn
 clear hP hs hva hla hp ho hks2 hks hl hc hm hkc
 by_cases heq : ks.length = l.length
 case neg =>
  have HR : Hid (mapR ks l = ([], 1)) := Lib.hid (by unfold mapR; rw [if_pos heq])
  have h1 : ((ks.length : Int) != (l.length : Int)) = true := by simp; omega
  clear heq
  go_enter Tryz.func19, Tryz.ntmps19
  go_wp2_with (fail)
  rw [← HP.out]
  exact ⟨.slice none 0 0, by rw [HR.out]; rfl, by rw [HR.out]; exact RowsV.nil none 0, FromC.none, Below.refl _ _⟩
 have HE := Lib.hid heq
 rw [heq]
 have hB0 : Below w.heap.size w (w.alloc (.cells #[.int .i64 6, .int .i64 0, .string ⟨#[]⟩, .int .i64 l.length] 47)) := below_new _ _
 have HB0 := Lib.hid hB0
 have HO0 : Hid (OVal (w.alloc (.cells #[.int .i64 6, .int .i64 0, .string ⟨#[]⟩, .int .i64 l.length] 47)) w.heap.size (.slice (some ⟨w.heap.size, 0, none⟩) 1 1) (mapM (l.length : Nat) ((ks.zip l).take 0))) := Lib.hid (oval_blkE (l := mapM (l.length : Nat) ((ks.zip l).take 0)) (Blk.new w _ _) (Nat.le_refl _) rfl (by simp [mapM]))
 have hnn : (l.length : Int) ≤ 4000 := by omega
 have hz : (ks.zip l).length = l.length := by rw [List.length_zip, heq]; exact Nat.min_self _
 have HZ := Lib.hid hz
 obtain ⟨N, hN⟩ : ∃ N, l.length = N := ⟨_, rfl⟩
 rw [hN] at hnn HO0 HB0 ⊢
 have HN := Lib.hid hN
 clear heq hB0 hz hN hn
 go_enter Tryz.func19, Tryz.ntmps19
 go_wp2_with (fail)
 go_loopw [6, 7, 8] (fun o i _ wr => ∃ k : Nat, k ≤ N ∧ i = .int .i64 k ∧ Hid (∀ x ∈ l.take k, checkF x = 0) ∧ OVal wr w.heap.size o (mapM (N : Nat) ((ks.zip l).take k)) ∧ Below w.heap.size w wr) (fun _ i _ _ => N - (intOf i).toNat)
 case atStart => exact ⟨0, Nat.zero_le _, rfl, Lib.hid (by simp), HO0.out, HB0.out⟩
 case round =>
  obtain ⟨k, hk, rfl, HR, hown, hbel⟩ := hrel
  have HB := Lib.hid hbel
  have HOW := Lib.hid hown
  obtain ⟨oA, oc, hov⟩ := own_shape hown
  subst hov
  clear hbel hown
  have hk0 : (0 : Int) ≤ (k : Int) := by omega
  by_cases hlt : k < N
  ·have hlt' : (k : Int) < (N : Int) := by omega
   have hlk : k < l.length := by rw [HN.out]; exact hlt
   have hna : k < vs.length := by rw [HLA.out]; exact hlk
   have hkk : k < ks.length := by rw [HE.out]; exact hlk
   have hsa := HS.out.below HB.out
   obtain ⟨x, hx⟩ : ∃ x, vs[k] = x := ⟨_, rfl⟩
   have hvx : ValV w x l[k] := (hx ▸ HV.out k hna hlk : ValV w x l[k])
   obtain ⟨A1, k1, rfl, hc1, hm1, hs1⟩ := hvx.at
   obtain ⟨bA, off, rfl, hbA⟩ := HS.out.ptr hna
   have c0 := hsa.cell0 hna (v := .slice A1 l[k].length k1) (by rw [hx]; rfl)
   simp only [Nat.mul_one] at c0
   have c00 := HS.out.cell0 hna (v := .slice A1 l[k].length k1) (by rw [hx]; rfl)
   simp only [Nat.mul_one] at c00
   obtain ⟨bB, offB, rfl, d0⟩ := StrsV.cell (HK.out.below HB.out) hkk
   have hok : OkV l[k] := HO.out _ (List.getElem_mem hlk)
   have HC := Lib.hid (rcheck_any l[k] A1 k1 wr (hs1.below HB.out) (HW.out.below HB.out) hok.1 hok.2)
   have HX := Lib.hid hs1
   obtain ⟨ck, hck⟩ : ∃ c, checkF l[k] = c := ⟨_, rfl⟩
   rw [hck] at HC
   have HCK := Lib.hid hck
   have HKN : Hid (Value.string ks[k] = .string ks[k]) := Lib.hid rfl
   obtain ⟨s, hsk⟩ : ∃ s, ks[k] = s := ⟨_, rfl⟩
   rw [hsk] at d0
   have HSK := Lib.hid hsk
   obtain ⟨q, hq⟩ : ∃ q, l[k].length = q := ⟨_, rfl⟩
   rw [hq] at HC c0 c00
   have HC0 := Lib.hid c00
   clear c00
   have HQ := Lib.hid hq
   clear hsa hx hvx hs1 hc1 hm1 hok hck hsk hq HKN
   by_cases h0 : ck = 0
   ·subst h0
    obtain ⟨bX, offX, rfl, hat⟩ := at_cells HX.out (check_ne HCK.out)
    have HAT := Lib.hid hat
    have hq200 : q ≤ 200 := by rw [← HQ.out]; exact len200 HCK.out
    have hqn : l[k].length = q := HQ.out
    have hkz : k < (ks.zip l).length := by rw [HZ.out]; exact hlk
    have hps : ∀ p ∈ (ks.zip l).take k, checkF p.2 = 0 := fun p hp => HR.out _ (zip_mem hp).2
    have hml : (mapM (N : Nat) ((ks.zip l).take k)).length ≤ 804001 := by
     have := mapM_len (N := (N : Nat)) hps
     rw [List.length_take] at this
     omega
    have hsn : mapM (N : Nat) ((ks.zip l).take (k + 1)) = (mapM (N : Nat) ((ks.zip l).take k) ++ [sCel s]) ++ l[k] := by
     rw [mapM_snoc hkz, List.getElem_zip, HSK.out]
    have HSN := Lib.hid hsn
    have HML := Lib.hid hml
    obtain ⟨M, hM⟩ : ∃ M, mapM (N : Nat) ((ks.zip l).take k) = M := ⟨_, rfl⟩
    rw [hM] at HOW HSN HML ⊢
    have hbq : (M.length + 1 + q) * 40 ≤ 140737488355328 := by
     have := HML.out
     omega
    have hbm : M.length + 1 + q ≤ maxLen := by
     have := HML.out
     unfold maxLen; omega
    have hn6 : M.length ≤ 1000000 := by
     have := HML.out
     omega
    clear hat hM hps hsn hml
    go_wp2_with (first
     | (go_at_call 30; (with_reducible refine HC.out.mono ?_); rintro e w1 ⟨rfl, hb1⟩; have HB1 := Lib.hid hb1; have d1 := (HB1.out.cell (p := ⟨bB, offB + k, none⟩) (World.block_lt_of_cell? _ _ d0)).trans d0; have HO1 : Hid (w1.ownsRow w.heap.size 47 4 (.slice oA M.length oc) M.length (M.flatMap CellD.cells)) := Lib.hid (HOW.out.below hb1); have hsz1 : w.heap.size ≤ w1.heap.size := Nat.le_trans HB.out.size hb1.size; clear hb1)
     | (at_builtin; refine wpList_app1 rfl (.tmp 32) (.tmp 38) 22 rfl i0 _ 40 Tryz.underlying22 hi hz0 hz1 hz2 rfl (by omega) rfl HO1.out [.int .i64 4, .int .i64 0, .string s, .int .i64 0] rfl rfl (cells4 _ _ _ _) hn6 (by omega) hsz1 ?_; intro v2 w2 hown2 hb2 hs2 _; have HO2 : Hid (w2.ownsRow w.heap.size 47 4 v2 (M.length + 1) ((M ++ [sCel s]).flatMap CellD.cells)) := Lib.hid (by rw [List.flatMap_append]; exact hown2); have HB2 := Lib.hid hb2; have HS2 := Lib.hid hs2; have c2 := (((below_call' HB1.out HB.out HB.out.size).trans hb2).cell (p := ⟨bA, off + k, none⟩) (World.block_lt_of_cell? _ _ HC0.out)).trans HC0.out; clear hown2 hb2 hs2)
     | (at_builtin; refine wpList_append_own _ rfl (.tmp 40) (.tmp 44) 22 rfl w.heap.size 47 i0 _ 4 40 Tryz.underlying22 hi hz0 hz1 hz2 rfl (by omega) _ (M.length + 1) ((M ++ [sCel s]).flatMap CellD.cells) rfl HO2.out ⟨bX, offX, none⟩ q k1 (l[k].flatMap CellD.cells) rfl ?k2 ?k3 (cells_one _) hbm hbq ?k4 ?_; (case k2 => rw [cells_len, hqn]); (case k3 => exact HAT.out w2 ((below_call' HB1.out HB.out HB.out.size).trans HB2.out)); (case k4 => exact Nat.le_trans hsz1 HB2.out.size); intro v3 w3 hown3 hg3 _; have HO3 := Lib.hid (OVal.more (a := M ++ [sCel s]) (b := l[k]) hown3 (by simp [hqn]) rfl); have HB3 := Lib.hid (((below_call' HB1.out HB.out HB.out.size).trans HB2.out).grown hg3 (Nat.le_trans hsz1 HB2.out.size) (fun g hg => (HO2.out.lt g hg).1)); clear hown3 hg3))
    exact ⟨⟨k + 1, by omega, by simp, Lib.hid (by
     rw [List.take_succ_eq_append_getElem hlk]
     intro x hx
     rcases List.mem_append.1 hx with hx | hx
     ·exact HR.out x hx
     ·have : x = l[k] := by simpa using hx
      rw [this]; exact HCK.out), by rw [HSN.out]; exact HO3.out, HB3.out⟩, by simp [intOf]; omega⟩
   ·have h1 : (ck != 0) = true := by simpa using h0
    clear h0
    go_wp2_with (first
     | (go_at_call 30; (with_reducible refine HC.out.mono ?_); rintro e w1 ⟨rfl, hb1⟩; have HB1 := Lib.hid (below_call' hb1 HB.out HB.out.size); clear hb1))
    rw [← HP.out]
    have hfb : mapR ks l = ([], ck) := by
     have e1 := firstBad_bad l k hlk HR.out (by rw [HCK.out]; simpa using h1)
     unfold mapR
     rw [if_neg (by rw [HE.out]; simp), e1, HCK.out, if_pos (by simpa using h1)]
    exact ⟨.slice none 0 0, by rw [hfb]; rfl, by rw [hfb]; exact RowsV.nil none 0, FromC.none, HB1.out⟩
  ·have e : k = N := by omega
   have HKN := Lib.hid e
   subst e
   have hz : ks.zip l = (ks.zip l).take k := by rw [List.take_of_length_le (by rw [HZ.out, HN.out]; exact Nat.le_refl _)]
   have hps : ∀ p ∈ ks.zip l, checkF p.2 = 0 := by
    rw [hz]
    exact fun p hp => HR.out _ (zip_mem hp).2
   have hfb : mapR ks l = okR (mapM (k : Nat) ((ks.zip l).take k)) := by
    have e1 := firstBad_none l (fun x hx => HR.out x (by rw [← HN.out, List.take_length]; exact hx))
    unfold mapR
    rw [if_neg (by rw [HE.out]; simp), if_neg (by rw [e1]; simp), ← mapM_all, HN.out, ← hz]
   have hok : OkV (mapM (k : Nat) ((ks.zip l).take k)) := by
    rw [← hz]
    exact mapM_ok (by omega) hps (fun p hp => HKS.out _ (List.of_mem_zip hp).1) (fun p hp => HO.out _ (List.of_mem_zip hp).2) (by rw [HZ.out, HN.out]; omega)
   have hval := HOW.out.val (by have := hok.1; omega)
   have HC := Lib.hid (rchecked_any _ _ wr hval (HW.out.below HB.out) hok)
   have HFB := Lib.hid hfb
   clear hz hps hfb hok hval
   obtain ⟨M, hM⟩ : ∃ M, mapM (k : Nat) ((ks.zip l).take k) = M := ⟨_, rfl⟩
   rw [hM] at HOW HFB HC ⊢
   clear hM
   go_wp2_with (first
    | (go_at_call 31; (with_reducible refine HC.out.mono ?_); rintro e w1 ⟨u, rfl, hu⟩; have HU := Lib.hid hu; clear hu))
   rw [← HP.out, HFB.out]
   exact RetR.own ⟨u, rfl, HU.out⟩ HOW.out HB.out
end Go.Proofs.YtahcjgjigbedoaaGreatDoor
