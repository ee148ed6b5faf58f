/- S0, S2 -/
import Derived.Test.YthiimbhjpdphpaaGreatDoorPGL2
import Derived.Test.YthiimbhjpdphpaaGreatDoorPPA
set_option linter.unusedVariables false
set_option linter.unusedSimpArgs false
namespace Go.Proofs.YthiimbhjpdphpaaGreatDoor
open Go.RowKit
set_option maxRecDepth 100000
set_option maxHeartbeats 8000000
open Go.Proofs.Tryz
section
theorem ib (a b:Int):(a == b)=decide (a=b):=by rw [Bool.eq_iff_iff];simp
theorem nb0 (m:Nat):((m:Int) == 0)=decide (m=0):=by rw [Bool.eq_iff_iff];simp
theorem nb1 (m:Nat):((m:Int) == 1)=decide (m=1):=by rw [Bool.eq_iff_iff];simp;omega
theorem nb2 (m:Nat):((m:Int) == 2)=decide (m=2):=by rw [Bool.eq_iff_iff];simp;omega
theorem nb3 (m:Nat):((m:Int) == 3)=decide (m=3):=by rw [Bool.eq_iff_iff];simp;omega
def cntK (k:Int) (m:Nat):Bool :=
 if 1≤k∧k≤5 then decide (m=0)
 else if k=8∨k=13∨k=14∨k=17∨k=18 then decide (m=1)
 else if k=9∨k=10∨k=16 then decide (m=2)
 else if k=15 then decide (m=2) || decide (m=3)
 else decide (k=6∨k=7∨k=11∨k=12∨k=19)
theorem zbnY (n:NodeD):countB n=cntK n.kind n.kids.length:=rfl
def nodeC (n:NodeD) (kA:Option Addr) (kc:Nat) (iA:Option Addr) (ic:Nat):Array Value:=#[.int .i64 n.kind,.string n.text,.int .i64 n.int,.slice kA n.keys.length kc,.slice iA n.kids.length ic]
attribute [local go_sem] zabZ
set_option maxHeartbeats 4000000 in
theorem binary_s (s:ByteArray) (w:World):Calls prog 227 #[.string s] w fun e w'=>e=.returned (.int .i64 (lvlF s))∧w'=w:=by
 go_enter func227,ntmps227
 go_wp2
 all_goals (go_ret;exact ⟨by simp_all [lvlF],rfl⟩)
theorem operator_s (s:ByteArray) (w:World):Calls prog 205 #[.string s] w fun e w'=>e=.returned (.bool (decide (0<lvlF s)))∧w'=w:=by
 have HB:=hZz (binary_s s);generalize lvlF s=l at HB ⊢;go_enter func205,ntmps205
 go_wp2_with (first
  | (go_at_call 227;(with_reducible refine (HB.out _).mono ?_);rintro e w1 ⟨rfl,hw1⟩;rw [hw1];clear hw1 w1))
 go_returns;exact ⟨rfl,rfl⟩
theorem statement_s (k:Int) (w:World):Calls prog 206 #[.int .i64 k] w fun e w'=>e=.returned (.bool (decide (13≤k) && decide (k≤18)))∧w'=w:=by
 go_enter func206,ntmps206
 go_wp2
 all_goals (go_ret;exact ⟨by first | (simp_all;done) | (simp_all;omega),rfl⟩)
theorem expression_s (k:Int) (w:World):Calls prog 207 #[.int .i64 k] w fun e w'=>e=.returned (.bool (decide (1≤k) && decide (k≤12)))∧w'=w:=by
 go_enter func207,ntmps207
 go_wp2
 all_goals (go_ret;exact ⟨by first | (simp_all;done) | (simp_all;omega),rfl⟩)
theorem count_s (n:NodeD) (kA iA:Option Addr) (kc ic:Nat) (w:World):Calls prog 177 #[.agg (nodeC n kA kc iA ic)] w fun e w'=>e=.returned (.bool (countB n))∧Below w.heap.size w w':=by
 rw [zbnY];unfold nodeC;generalize n.kind=k;generalize n.kids.length=m;generalize n.keys.length=q;generalize n.text=t;generalize n.int=j;have HB:=hZz (zacZ w (.cells #[.int .i64 k,.string t,.int .i64 j,.slice kA q kc,.slice iA m ic] 58));go_enter func177,ntmps177
 go_wp2
 all_goals (go_returns;exact ⟨by first | (simp_all [cntK,nb0,nb1,nb2,nb3];done) | (simp_all [cntK,nb0,nb1,nb2,nb3];omega),HB.out⟩)
theorem fits_s (n:NodeD) (kA iA:Option Addr) (kc ic i:Nat) (part:Int) (w:World):Calls prog 178 #[.agg (nodeC n kA kc iA ic),.int .i64 i,.int .i64 part] w fun e w'=>e=.returned (.bool (fitsB n.kind i part))∧Below w.heap.size w w':=by
 unfold nodeC;generalize n.kind=k;generalize n.kids.length=m;generalize n.keys.length=q;generalize n.text=t;generalize n.int=j;have HB:Hid (∀ o,Below w.heap.size w (w.alloc o)):=hZz (fun o=>zacZ w o);obtain ⟨b1,hb1⟩:∃ b,(decide (13≤part) && decide (part≤18))=b:=⟨_,rfl⟩
 obtain ⟨b2,hb2⟩:∃ b,(decide (1≤part) && decide (part≤12))=b:=⟨_,rfl⟩
 have H1:Hid (∀ wx,Calls prog 206 #[.int .i64 part] wx fun e w'=>e=.returned (.bool b1)∧w'=wx):=hZz (fun wx=>by rw [← hb1];exact statement_s part wx);have H2:Hid (∀ wx,Calls prog 207 #[.int .i64 part] wx fun e w'=>e=.returned (.bool b2)∧w'=wx):=hZz (fun wx=>by rw [← hb2];exact expression_s part wx);have HF:Hid (fitsB k i part=if k=19 then b1 else if (k=15∨k=16)∧0<i then decide (part=19) else b2):=hZz (by unfold fitsB;rw [hb1,hb2]);rw [HF.out];clear hb1 hb2 HF;go_enter func178,ntmps178
 go_wp2_with (first
  | (go_at_call 206;(with_reducible refine (H1.out _).mono ?_);rintro e w1 ⟨rfl,hw1⟩;rw [hw1];clear hw1 w1)
  | (go_at_call 207;(with_reducible refine (H2.out _).mono ?_);rintro e w1 ⟨rfl,hw1⟩;rw [hw1];clear hw1 w1))
 all_goals (go_returns;exact ⟨by first | (simp_all [ib];done) | (simp_all [ib];omega),HB.out _⟩)
end
section
theorem zb0Y (s:ByteArray):wholeB s=true↔0<s.size∧∀ i (h:i<s.size),(if i=0 then letB s[i] else wrdB s[i])=true:=by
 have hz:s.size=s.data.toList.length:=rfl;have hg:∀ i (h:i<s.size),s[i]=s.data.toList[i]'(by omega):=fun i h=>rfl
 unfold wholeB;cases hl:s.data.toList with
 | nil=>rw [hl] at hz;exact ⟨fun h=>(by cases h),fun h=>absurd h.1 (by rw [hz];simp)⟩
 | cons c r =>
  rw [hl] at hz;simp only [List.length_cons] at hz;have h0:∀ h:0<s.size,s[0]=c:=fun h=>by rw [hg 0 h];simp [hl]
  have hs:∀ i (h:i+1<s.size),s[i+1]=r[i]'(by omega):=fun i h=>by rw [hg (i+1) h];simp [hl]
  rw [Bool.and_eq_true,List.all_eq_true];constructor
  ·rintro ⟨h1,h2⟩
   refine ⟨by omega,fun i h=>?_⟩
   cases i with
   | zero=>rw [if_pos rfl,h0 h];exact h1
   | succ i =>
    rw [if_neg (by omega),hs i h];exact h2 _ (List.getElem_mem (by omega))
  ·rintro ⟨_,h⟩
   have h3:=h 0 (by omega);rw [if_pos rfl,h0] at h3;refine ⟨h3,fun x hx=>?_⟩
   obtain ⟨i,hi,rfl⟩:=List.getElem_of_mem hx;have h3:=h (i+1) (by omega)
   rwa [if_neg (by omega),hs i (by omega)] at h3
theorem byte_class (b:UInt8):(letB b=true↔(97≤(b.toNat:Int)∧(b.toNat:Int)≤122)∨(b.toNat:Int)=95)∧(wrdB b=true↔((97≤(b.toNat:Int)∧(b.toNat:Int)≤122)∨(b.toNat:Int)=95)∨(48≤(b.toNat:Int)∧(b.toNat:Int)≤57)):=by
 unfold wrdB letB digB;simp only [Bool.or_eq_true,Bool.and_eq_true,decide_eq_true_eq];omega
attribute [local go_sem] zabZ
theorem run_s (s:ByteArray) (w:World) (hs:s.size≤140737488351232):Calls prog 173 #[.string s] w fun e w'=>e=.returned (.bool (runB s))∧w'=w:=by
 obtain ⟨P,hP⟩:∃ P:Ending→World→Prop,(fun e w'=>e=.returned (.bool (runB s))∧w'=w)=P:=⟨_,rfl⟩
 rw [hP];have HP:=hZz hP;have HR:Hid (runB s=true↔s.size≤24∧wholeB s=true):=hZz (by unfold runB;simp);clear hP;go_enter func173,ntmps173
 by_cases h1:(s.size:Int)<1
 ·go_wp2_with (fail)
  have hf:runB s=false:=by
   rw [Bool.eq_false_iff];intro h
   have:=((zb0Y s).1 (HR.out.1 h).2).1
   omega
  rw [← HP.out];exact ⟨congrArg (fun b=>Ending.returned (Value.bool b)) hf.symm,rfl⟩
 by_cases h2:24<(s.size:Int)
 ·go_wp2_with (fail)
  have hf:runB s=false:=by
   rw [Bool.eq_false_iff];intro h
   have:=(HR.out.1 h).1
   omega
  rw [← HP.out];exact ⟨congrArg (fun b=>Ending.returned (Value.bool b)) hf.symm,rfl⟩
 go_wp2_with (fail)
 go_loopw [3,4,15] (fun _ _ iv wr=>∃ k:Nat,k≤s.size∧iv=.int .i64 k∧wr=w∧Hid (∀ i (h:i<s.size),i<k→(if i=0 then letB s[i] else wrdB s[i])=true)) (fun _ _ iv _=>s.size - (intOf iv).toNat)
 case atStart=>exact ⟨0,Nat.zero_le _,rfl,rfl,hZz (fun i h h2=>by omega)⟩
 case round =>
  obtain ⟨k,hk,rfl,hwr,HN⟩:=hrel;subst hwr;have hk0:(0:Int)≤(k:Int):=by omega
  by_cases hlt:k<s.size
  ·have hlt':(k:Int)<(s.size:Int):=by omega
   have hk9:(k:Int)≤24:=by omega
   have HC:=hZz (byte_class s[k]);have HX:Hid ((if k=0 then letB s[k] else wrdB s[k])=true↔(if k=0 then (97≤((s[k]).toNat:Int)∧((s[k]).toNat:Int)≤122)∨((s[k]).toNat:Int)=95 else ((97≤((s[k]).toNat:Int)∧((s[k]).toNat:Int)≤122)∨((s[k]).toNat:Int)=95)∨(48≤((s[k]).toNat:Int)∧((s[k]).toNat:Int)≤57))):=hZz (by split;exact HC.out.1;exact HC.out.2);clear HC
   have HF:Hid (¬ (if k=0 then (97≤((s[k]).toNat:Int)∧((s[k]).toNat:Int)≤122)∨((s[k]).toNat:Int)=95 else ((97≤((s[k]).toNat:Int)∧((s[k]).toNat:Int)≤122)∨((s[k]).toNat:Int)=95)∨(48≤((s[k]).toNat:Int)∧((s[k]).toNat:Int)≤57))→P (.returned (.bool false)) wr):=hZz (fun h=>by
    have hf:runB s=false:=by
     rw [Bool.eq_false_iff];intro h2;exact h (HX.out.1 (((zb0Y s).1 (HR.out.1 h2).2).2 k hlt))
    rw [← HP.out];exact ⟨congrArg (fun b=>Ending.returned (Value.bool b)) hf.symm,rfl⟩)
   have HT:Hid ((if k=0 then (97≤((s[k]).toNat:Int)∧((s[k]).toNat:Int)≤122)∨((s[k]).toNat:Int)=95 else ((97≤((s[k]).toNat:Int)∧((s[k]).toNat:Int)≤122)∨((s[k]).toNat:Int)=95)∨(48≤((s[k]).toNat:Int)∧((s[k]).toNat:Int)≤57))→∀ i (h:i<s.size),i<k+1→(if i=0 then letB s[i] else wrdB s[i])=true):=hZz (fun h0 i h h2=>by
    by_cases e:i=k
    ·subst e;exact HX.out.2 h0
    ·exact HN.out i h (by omega))
   clear HX;by_cases hz:k=0
   ·subst hz
    rw [if_pos rfl] at HF HT;by_cases h95:((s[0]).toNat:Int)=95
    ·have d1:(((s[0]).toNat:Int) != 95)=false:=by simp [h95]
     go_wp2_with (fail)
     all_goals first
      | exact HF.out (by omega)
      | exact ⟨⟨1,by omega,by simp,by trivial,hZz (HT.out (by omega))⟩,by simp [intOf];omega⟩
    ·have d1:(((s[0]).toNat:Int) != 95)=true:=by simp [h95]
     go_wp2_with (fail)
     all_goals first
      | exact HF.out (by omega)
      | exact ⟨⟨1,by omega,by simp,by trivial,hZz (HT.out (by omega))⟩,by simp [intOf];omega⟩
   ·rw [if_neg hz] at HF HT
    have d0:((k:Int) == 0)=false:=by simp;omega
    by_cases h95:((s[k]).toNat:Int)=95
    ·have d1:(((s[k]).toNat:Int) != 95)=false:=by simp [h95]
     go_wp2_with (fail)
     all_goals first
      | exact HF.out (by omega)
      | exact ⟨⟨k+1,by omega,by simp,by trivial,hZz (HT.out (by omega))⟩,by simp [intOf];omega⟩
    ·have d1:(((s[k]).toNat:Int) != 95)=true:=by simp [h95]
     go_wp2_with (fail)
     all_goals first
      | exact HF.out (by omega)
      | exact ⟨⟨k+1,by omega,by simp,by trivial,hZz (HT.out (by omega))⟩,by simp [intOf];omega⟩
  ·have e:k=s.size:=by omega
   subst e;go_wp2_with (fail)
   have hf:runB s=true:=HR.out.2 ⟨by omega,(zb0Y s).2 ⟨by omega,fun i h=>HN.out i h h⟩⟩;rw [← HP.out];exact ⟨congrArg (fun b=>Ending.returned (Value.bool b)) hf.symm,rfl⟩
theorem name_s (s:ByteArray) (w:World) (hs:s.size≤140737488351232):Calls prog 132 #[.string s] w fun e w'=>e=.returned (.bool (nameB s))∧w'=w:=by
 have HR:=hZz (run_s s w hs);have HK:=hZz (keyword_any s w);have HN:Hid (nameB s=(runB s && !kwB s)):=hZz rfl;generalize nameB s=n at HN ⊢;generalize runB s=r at HR HN;generalize kwB s=k at HK HN;go_enter func132,ntmps132
 cases r with
 | true =>
  go_wp2_with (first
   | (go_at_call 173;(with_reducible refine HR.out.mono ?_);rintro e w1 ⟨rfl,hw1⟩;rw [hw1];clear hw1 w1)
   | (go_at_call 174;(with_reducible refine HK.out.mono ?_);rintro e w1 ⟨rfl,hw1⟩;rw [hw1];clear hw1 w1))
  go_returns;exact ⟨by rw [HN.out];rfl,rfl⟩
 | false =>
  go_wp2_with (first
   | (go_at_call 173;(with_reducible refine HR.out.mono ?_);rintro e w1 ⟨rfl,hw1⟩;rw [hw1];clear hw1 w1))
  go_returns;exact ⟨by rw [HN.out];rfl,rfl⟩
end
end Go.Proofs.YthiimbhjpdphpaaGreatDoor
