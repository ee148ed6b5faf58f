/- U4, U7, U8 -/
import Derived.Test.YthiimbhjpdphpaaGreatDoorPU3
set_option linter.unusedVariables false
set_option linter.unusedSimpArgs false
namespace Go.Proofs.YthiimbhjpdphpaaGreatDoor
open Go.RowKit
set_option maxRecDepth 100000
open Go.Proofs.Tryz
section
attribute [local go_sem] zabZ
theorem cnt_false {k:Int} {m:Nat} (h:cntK k m=false):k<1∨19<k∨(k≤5∧1≤k∧m≠0)∨((k=8∨k=13∨k=14∨k=17∨k=18)∧m≠1)∨((k=9∨k=10∨k=16)∧m≠2)∨(k=15∧m≠2∧m≠3):=by
 unfold cntK at h;split at h
 ·have:=of_decide_eq_false h;omega
 split at h
 ·have:=of_decide_eq_false h;omega
 split at h
 ·have:=of_decide_eq_false h;omega
 split at h
 ·simp only [Bool.or_eq_false_iff,decide_eq_false_iff_not] at h;omega
 ·have:=of_decide_eq_false h;omega
theorem cnt_true {k:Int} {m:Nat} (h:cntK k m=true):((k=1∨k=2∨k=3∨k=4∨k=5)∧m=0)∨((k=8∨k=13∨k=14∨k=17∨k=18)∧m=1)∨((k=9∨k=10)∧m=2)∨((k=15∨k=16)∧m=2)∨(k=15∧m=3)∨(k=6∨k=7∨k=11∨k=12)∨k=19:=by
 unfold cntK at h;split at h
 ·have:=of_decide_eq_true h;omega
 split at h
 ·have:=of_decide_eq_true h;omega
 split at h
 ·have:=of_decide_eq_true h;omega
 split at h
 ·simp only [Bool.or_eq_true,decide_eq_true_eq] at h;omega
 ·have:=of_decide_eq_true h;omega
set_option maxHeartbeats 16000000 in
theorem parts8N_s (A:Option Addr) (nl cap:Nat) (k:Int) (t:ByteArray) (j0:Int) (q m:Nat) (kA iA:Option Addr) (kc ic:Nat) (w:World) (hc:cntK k m=false):Calls prog 127 #[.slice A nl cap,.agg #[.int .i64 k,.string t,.int .i64 j0,.slice kA q kc,.slice iA m ic]] w fun e w'=>e=.returned (.bool false)∧Below w.heap.size w w':=by
 obtain ⟨P,hP⟩:∃ P:Ending→World→Prop,(fun e w'=>e=.returned (.bool false)∧Below w.heap.size w w')=P:=⟨_,rfl⟩
 rw [hP];have HP:Hid (∀ w',Below w.heap.size w w'→P (.returned (.bool false)) w'):=hZz (fun w' h2=>by rw [← hP];exact ⟨rfl,h2⟩);have HB:=hZz (zacZ w (.cells #[.int .i64 k,.string t,.int .i64 j0,.slice kA q kc,.slice iA m ic] 58));have hd:=cnt_false hc;clear hP hc;rcases hd with h | h | ⟨h1,h2,h3⟩ | ⟨rfl | rfl | rfl | rfl | rfl,h3⟩ | ⟨rfl | rfl | rfl,h3⟩ | ⟨rfl,h3,h4⟩
 ·go_enter func127,ntmps127
  go_wp2_with (fail)
  exact HP.out _ HB.out
 ·have h':¬ k<1:=by omega
  go_enter func127,ntmps127
  go_wp2_with (fail)
  exact HP.out _ HB.out
 ·have h':¬ k<1:=by omega
  have h'':¬ 19<k:=by omega
  have e1:((m:Int) != 0)=true:=by simp;omega
  clear h2 h3;go_enter func127,ntmps127
  go_wp2_with (fail)
  exact HP.out _ HB.out
 iterate 5
  ·have e1:((m:Int) != 1)=true:=by simp;omega
   clear h3;go_enter func127,ntmps127
   go_wp2_with (fail)
   exact HP.out _ HB.out
 iterate 3
  ·have e1:((m:Int) != 2)=true:=by simp;omega
   clear h3;go_enter func127,ntmps127
   go_wp2_with (fail)
   exact HP.out _ HB.out
 ·have e1:((m:Int) != 2)=true:=by simp;omega
  have e2:((m:Int) != 3)=true:=by simp;omega
  clear h3 h4;go_enter func127,ntmps127
  go_wp2_with (fail)
  exact HP.out _ HB.out
theorem parts8_s (l:List NodeD) (A:Option Addr) (cap:Nat) (n:NodeD) (kA iA:Option Addr) (kc ic:Nat) (w:World) (hN:NodesV w (.slice A l.length cap) l) (hi:SlAt w iA 1 (fun x=>[Value.int .i64 x]) n.kids) (hkid:∀ x∈n.kids,0≤x∧x<l.length) (hm:n.kids.length≤1000) (hl:l.length≤1000):Calls prog 127 #[.slice A l.length cap,.agg (nodeC n kA kc iA ic)] w fun e w'=>e=.returned (.bool (partsB l n))∧Below w.heap.size w w':=by
 obtain ⟨k,t,j0,ks,is⟩:=n;cases hc:cntK k is.length with
 | false =>
  have e:partsB l ⟨k,t,j0,ks,is⟩=false:=by
   unfold partsB;rw [zbnY];show (cntK k is.length && _)=false;rw [hc];rfl
  rw [e];exact parts8N_s A l.length cap k t j0 ks.length is.length kA iA kc ic w hc
 | true =>
  rcases cnt_true hc with ⟨h,hz⟩ | ⟨h,hz⟩ | ⟨h,hz⟩ | ⟨h,hz⟩ | ⟨h,hz⟩ | h | h
  ·exact parts8E0_s l A cap k t j0 ks is kA iA kc ic w hN hi hkid hm hl h hz
  ·exact parts8E1_s l A cap k t j0 ks is kA iA kc ic w hN hi hkid hm hl h hz
  ·exact parts8E2_s l A cap k t j0 ks is kA iA kc ic w hN hi hkid hm hl h hz
  ·exact parts8X2_s l A cap k t j0 ks is kA iA kc ic w hN hi hkid hm hl h hz
  ·exact parts8X3_s l A cap k t j0 ks is kA iA kc ic w hN hi hkid hm hl h hz
  ·exact parts8E_s l A cap k t j0 ks is kA iA kc ic w hN hi hkid hm hl h
  ·exact parts8S_s l A cap k t j0 ks is kA iA kc ic w hN hi hkid hm hl h
end
theorem kidsF_upto {l:List NodeD} {r1 r2:Nat→Option Nat} {n:NodeD} {i:Nat} (h:∀ q s,q<i→r1 q=some s→r2 q=some s) (hle:∀ q s,r1 q=some s→s≤q):∀ k a s,a≤i→kidsF l r1 n k a=some s→kidsF l r2 n k a=some s:=by
 intro k;induction k with
 | zero=>intro a s _ hk;exact hk
 | succ k ih =>
  intro a s ha hk;simp only [kidsF] at hk ⊢;split at hk
  ·cases hk
  ·rename_i hc
   rw [if_neg hc];cases h1:r1 (a - 1) with
   | none=>rw [h1] at hk;cases hk
   | some b =>
    rw [h1] at hk;have hb:=hle _ _ h1;rw [h _ _ (by omega) h1];exact ih _ _ (by omega) hk
theorem firstF_fuel {l:List NodeD}:∀ g i f s,i<g→firstF l f i=some s→firstF l g i=some s:=by
 intro g;induction g with
 | zero=>intro i f s h;omega
 | succ g ih =>
  intro i f s hi h;cases f with
  | zero=>cases h
  | succ f =>
   rw [firstF] at h ⊢;split at h
   ·rename_i hc
    rw [if_pos hc];exact kidsF_upto (fun q s hq hs=>ih q f s (by omega) hs) (fun q s hs=>zaaY hs) _ _ _ (Nat.le_refl _) h
   ·cases h
def nodeM (l:List NodeD) (low:Nat) (sz:Nat→Nat) (i:Nat):Option Nat :=
 if fieldsB (l.getD i noNode)=true∧partsB l (l.getD i noNode)=true then kidsM (l.getD i noNode) low sz (l.getD i noNode).kids.length i else none
theorem nodeM_iff {l:List NodeD} {low i:Nat} {sz:Nat→Nat} (hi:i<600) (hlow:low≤i) (hsz:∀ q,low≤q→q<i→firstF l 600 q=some (q+1 - sz q)∧low+sz q≤q+1∧1≤sz q) (s:Nat):nodeM l low sz i=some s↔(firstF l 600 i=some s∧low≤s):=by
 have h1:firstF l 600 i=some s↔firstF l 601 i=some s:=⟨fun h=>firstF_succ _ _ _ h,fun h=>firstF_fuel _ _ _ _ hi h⟩
 rw [h1,firstF];have h2:=kidsM_iff (n:=l.getD i noNode) hsz (l.getD i noNode).kids.length i hlow (Nat.le_refl _) s
 have h3:partsB l (l.getD i noNode)=true↔countB (l.getD i noNode)=true∧∀ j,j<(l.getD i noNode).kids.length→fitsB (l.getD i noNode).kind j (l.getD ((l.getD i noNode).kids.getD j (-1)).toNat noNode).kind=true:=by
  unfold partsB;rw [Bool.and_eq_true,List.all_eq_true];refine and_congr Iff.rfl ⟨fun h j hj=>h j (by simpa using hj),fun h j hj=>h j (by simpa using hj)⟩
 unfold nodeM;by_cases hf:fieldsB (l.getD i noNode)=true
 ·by_cases hc:countB (l.getD i noNode)=true
  ·have e:(fieldsB (l.getD i noNode) && countB (l.getD i noNode))=true:=by rw [hf,hc];rfl
   rw [if_pos e,← h2];constructor
   ·intro h
    split at h
    ·rename_i hp
     exact ⟨h,(h3.1 hp.2).2⟩
    ·cases h
   ·rintro ⟨a,b⟩
    rw [if_pos ⟨hf,h3.2 ⟨hc,b⟩⟩];exact a
  ·have e:¬ (fieldsB (l.getD i noNode) && countB (l.getD i noNode))=true:=by rw [Bool.and_eq_true];exact fun h=>hc h.2
   rw [if_neg e,if_neg (fun h=>hc (h3.1 h.2).1)];constructor
   ·intro h;cases h
   ·rintro ⟨h,_⟩;cases h
 ·have e:¬ (fieldsB (l.getD i noNode) && countB (l.getD i noNode))=true:=by rw [Bool.and_eq_true];exact fun h=>hf h.1
  rw [if_neg e,if_neg (fun h=>hf h.1)];constructor
  ·intro h;cases h
  ·rintro ⟨h,_⟩;cases h
def sz0 (l:List NodeD) (q:Nat):Nat:=q+1 - (firstF l 600 q).getD 0
def okM (l:List NodeD) (low q:Nat):Prop:=∃ s,firstF l 600 q=some s∧low≤s
theorem okM.sz {l:List NodeD} {low q:Nat} (h:okM l low q):firstF l 600 q=some (q+1 - sz0 l q)∧low+sz0 l q≤q+1∧1≤sz0 l q:=by
 obtain ⟨s,h1,h2⟩:=h;have h3:=zaaY h1;unfold sz0;rw [h1];simp only [Option.getD_some];refine ⟨?_,by omega,by omega⟩
 congr 1
 omega
theorem okM_iff {l:List NodeD} {low i:Nat} (hi:i<600) (hlow:low≤i) (h:∀ q,low≤q→q<i→okM l low q):okM l low i↔∃ s,nodeM l low (sz0 l) i=some s:=by
 unfold okM;exact ⟨fun ⟨s,h1,h2⟩=>⟨s,(nodeM_iff hi hlow (fun q a b=>(h q a b).sz) s).2 ⟨h1,h2⟩⟩,fun ⟨s,h1⟩=>⟨s,(nodeM_iff hi hlow (fun q a b=>(h q a b).sz) s).1 h1⟩⟩
theorem nodeM_sz {l:List NodeD} {low i s:Nat} (hi:i<600) (hlow:low≤i) (h:∀ q,low≤q→q<i→okM l low q) (hs:nodeM l low (sz0 l) i=some s):sz0 l i=i+1 - s∧low≤s∧s≤i:=by
 obtain ⟨h1,h2⟩:=(nodeM_iff hi hlow (fun q a b=>(h q a b).sz) s).1 hs;have h3:=zaaY h1;unfold sz0;rw [h1];exact ⟨rfl,h2,h3⟩
theorem range_iff {l:List NodeD} {low body:Nat} (hlow:low≤body):firstF l 600 body=some low↔((∀ q,low≤q→q≤body→okM l low q)∧sz0 l body=body - low+1):=by
 constructor
 ·intro h
  refine ⟨fun q h1 h2=>firstF_all _ _ _ h q h1 h2,?_⟩
  unfold sz0;rw [h];simp only [Option.getD_some];omega
 ·rintro ⟨h1,h2⟩
  have h3:=(h1 body hlow (Nat.le_refl _)).sz.1;rw [h3,h2];congr 1
  omega
theorem foldl_max_congr {g1 g2:Int→Nat}:∀ (r:List Int) (a:Nat),(∀ k∈r,g1 k=g2 k)→r.foldl (fun m k=>max m (g1 k)) a=r.foldl (fun m k=>max m (g2 k)) a:=by
 intro r;induction r with
 | nil=>intro a _;rfl
 | cons k r ih =>
  intro a h;simp only [List.foldl_cons];rw [h k (List.mem_cons_self ..)];exact ih _ (fun k hk=>h k (List.mem_cons_of_mem _ hk))
theorem nest_eq {l:List NodeD}:∀ f g i s d,i<f→i<g→firstF l d i=some s→nestF l f i=nestF l g i:=by
 intro f;induction f with
 | zero=>intro g i s d h;omega
 | succ f ih =>
  intro g i s d hi hg h;cases g with
  | zero=>omega
  | succ g =>
   cases d with
   | zero=>cases h
   | succ d =>
    simp only [nestF];congr 1
    refine foldl_max_congr _ _ (fun k hk=>?_)
    obtain ⟨m,s',rfl,h1,h2,h3⟩:=(zadY h).cover.mem k hk;rw [Int.toNat_natCast];exact ih g m s' d (by omega) (by omega) h3
end Go.Proofs.YthiimbhjpdphpaaGreatDoor
