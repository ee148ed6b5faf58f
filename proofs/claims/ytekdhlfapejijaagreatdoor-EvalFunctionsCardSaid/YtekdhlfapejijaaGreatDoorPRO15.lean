/- RO13, RO14, RO15 -/
import Derived.Test.YtekdhlfapejijaaGreatDoorPRO12
import Derived.Lib.AtoiAllCases
set_option linter.unusedVariables false
set_option linter.unusedSimpArgs false
namespace Go.Proofs.YtekdhlfapejijaaGreatDoor
open Go.RowKit
set_option maxRecDepth 100000
set_option maxHeartbeats 8000000
open Go.Proofs.Tryz
def refP:List UInt8→Nat→Option Nat
 | [],n=>some n
 | c :: r,n=>if c=45 then refP r n else if 1000000000000<10 * n+(c.toNat - 48) then none else refP r (10 * n+(c.toNat - 48))
def fparseR (s:ByteArray):Int × Int:=if decB s=false then (0,1) else match refP s.data.toList 0 with
 | none=>(0,2)
 | some u=>(if negB s then -(u:Int) else u,0)
theorem uint_ge:∀ (l:List UInt8) (a u:Nat),Lib.parseUint10 a l=.ok u→a≤u
 | [],a,u,h=>by
  simp only [Lib.parseUint10] at h;injection h with h
  omega
 | c :: r,a,u,h=>by
  simp only [Lib.parseUint10] at h;split at h
  ·split at h
   ·cases h
   ·split at h
    ·cases h
    ·have:=uint_ge r _ u h
     omega
  ·cases h
theorem dg_ne {c:UInt8} (h:dgB c=true):c≠45:=fun e=>by subst e;exact absurd h (by decide)
theorem dg_bd {c:UInt8} (h:dgB c=true):48≤c.toNat∧c.toNat≤57:=by
 unfold dgB at h;simpa using h
theorem refP_law:∀ (l:List UInt8) (a:Nat),(∀ c∈l,dgB c=true)→a≤1000000000000 →
  (∀ u,refP l a=some u→Lib.parseUint10 a l=.ok u∧u≤1000000000000)∧(refP l a=none→∀ u,Lib.parseUint10 a l=.ok u→1000000000000<u)
 | [],a,_,ha=>⟨fun u h=>by
   injection h with h
   subst h;exact ⟨rfl,ha⟩,fun h=>by cases h⟩
 | c :: r,a,hd,ha=>by
  have hc:=hd c (by simp);have h45:=dg_ne hc;have h4:=dg_bd hc;unfold refP Lib.parseUint10;rw [if_neg h45,if_pos h4,if_neg (show ¬ 1844674407370955162≤a by omega)];by_cases hb:1000000000000<10 * a+(c.toNat - 48)
  ·rw [if_pos hb]
   refine ⟨fun u h=>by (cases h),fun _ u h=>?_⟩
   split at h
   ·cases h
   ·have:=uint_ge r _ u h
    omega
  ·rw [if_neg hb,if_neg (show ¬ 18446744073709551616≤a * 10+(c.toNat - 48) by omega),show a * 10+(c.toNat - 48)=10 * a+(c.toNat - 48) by omega]
   exact refP_law r _ (fun x hx=>hd x (by simp [hx])) (by omega)
theorem in_not {v:Int} (h:v < -1000000000000∨1000000000000<v):inRange v=false:=by
 unfold inRange;rcases h with h | h
 ·simp;omega
 ·simp;omega
theorem in_yes {v:Int} (h : -1000000000000≤v) (h2:v≤1000000000000):inRange v=true:=by
 unfold inRange;simp [h,h2]
theorem mag_ne {l:List UInt8} (h:l≠[]):Lib.parseMag l=Lib.parseUint10 0 l:=by
 unfold Lib.parseMag;rw [if_neg h]
theorem fparseR_eq (s:ByteArray):fparseR s=parseR s:=by
 unfold fparseR parseR;cases hd:decB s with
 | false=>rfl
 | true =>
  simp only [Bool.true_eq_false,if_false];unfold decB decX at hd;cases hs:s.data.toList with
  | nil =>
   exfalso
   have e:negB s=false:=by simp [negB,hs]
   rw [e] at hd
   have h0:s.size=0:=by
    have:=congrArg List.length hs
    simpa using this
   simp [h0] at hd
  | cons c r =>
   have hn:negB s=decide (c=45):=by simp [negB,hs]
   by_cases hc:c=45
   ·subst hc
    rw [hn] at hd ⊢;simp only [decide_true,if_true] at hd ⊢
    have hx:(s.extract 1 s.size).data.toList=r:=by
     rw [ByteArray.data_extract,Array.toList_extract,hs];simp [List.extract]
     have:=congrArg List.length hs
     simp at this
     rw [List.take_of_length_le (by show r.length≤s.size - 1;have:s.size=r.length+1:=(by simpa using this);omega)]
    rw [hx] at hd;simp only [Bool.and_eq_true,decide_eq_true_eq] at hd;obtain ⟨h1,_,h3⟩:=hd
    have hr:r≠[]:=fun e=>by
     apply h1
     rw [e] at hx
     have:=congrArg List.length hx
     simpa using this
    rw [Lib.atoiAll_minus,mag_ne hr];have hl:=refP_law r 0 (List.all_eq_true.1 h3) (by decide);have e0:refP (45 :: r) 0=refP r 0:=by rw [refP,if_pos rfl]
    rw [e0];cases hp:refP r 0 with
    | some u =>
     obtain ⟨g1,g2⟩:=hl.1 u hp;rw [g1];simp only [Lib.signed];rw [if_neg (by omega)];simp only
     rw [if_pos (in_yes (by omega) (by omega))]
    | none =>
     have g:=hl.2 hp;cases hu:Lib.parseUint10 0 r with
     | ok u =>
      have:=g u hu
      simp only [Lib.signed];by_cases hb:9223372036854775808<u
      ·rw [if_pos hb]
      ·rw [if_neg hb]
       simp only
       rw [in_not (by omega)];rfl
     | _=>rfl
   ·have hn':negB s=false:=by rw [hn];simpa using hc
    rw [hn'] at hd ⊢;simp only [Bool.false_eq_true,if_false] at hd ⊢;rw [hs] at hd;simp only [Bool.and_eq_true,decide_eq_true_eq] at hd;obtain ⟨_,_,h3⟩:=hd;have hall:=List.all_eq_true.1 h3;have hb4:=dg_bd (hall c (by simp));rw [Lib.atoiAll_plain c r (by omega) (by omega),mag_ne (by simp)];have hl:=refP_law (c :: r) 0 hall (by decide);cases hp:refP (c :: r) 0 with
    | some u =>
     obtain ⟨g1,g2⟩:=hl.1 u hp;rw [g1];simp only [Lib.signless];rw [if_neg (by omega)];simp only
     rw [if_pos (in_yes (by omega) (by omega))]
    | none =>
     have g:=hl.2 hp;cases hu:Lib.parseUint10 0 (c :: r) with
     | ok u =>
      have:=g u hu
      simp only [Lib.signless];by_cases hb:9223372036854775808≤u
      ·rw [if_pos hb]
      ·rw [if_neg hb]
       simp only
       rw [in_not (by omega)];rfl
     | _=>rfl
theorem dec_all {s:ByteArray} (h:decB s=true):0<s.size∧∀ k (hk:k<s.size),s[k]=45∨dgB s[k]=true:=by
 have hp:0<s.size:=by
  rcases Nat.eq_zero_or_pos s.size with h0 | h0
  ·exfalso
   have:s.data.toList=[]:=by rw [← Lib.toList_data];exact (zadY s).2 h0
   have e:negB s=false:=by simp [negB,this]
   have:decB s=false:=by
    unfold decB;rw [e];exact (decF s s).none h0
   rw [this] at h;cases h
  ·exact h0
 refine ⟨hp,fun k hk=>?_⟩
 have hneg:=neg_at s hp;unfold decB at h;by_cases hm:s[0]=45
 ·rw [hneg,decide_eq_true hm,if_pos rfl] at h
  rcases Nat.eq_zero_or_pos k with e | e
  ·subst e;exact .inl hm
  ·right
   cases hb:dgB s[k] with
   | true=>rfl
   | false =>
    have hx:(s.extract 1 s.size).size=s.size - 1:=by simp
    have:=(decF s (s.extract 1 s.size)).bad (k - 1) (by omega) (by
     have e2:(s.extract 1 s.size)[k - 1]'(by omega)=s[k]:=by
      rw [ByteArray.getElem_extract];congr 1
      omega
     rw [e2];exact hb)
    rw [this] at h;cases h
 ·rw [hneg,decide_eq_false hm] at h
  right
  cases hb:dgB s[k] with
  | true=>rfl
  | false =>
   have:=(decF s s).bad k hk hb
   rw [if_neg (by decide),this] at h;cases h
theorem drop_at (s:ByteArray) (k:Nat) (hk:k<s.size):s.data.toList.drop k=s[k] :: s.data.toList.drop (k+1):=by
 have hl:k<s.data.toList.length:=by simpa using hk
 rw [List.drop_eq_getElem_cons hl];rfl
theorem fparse_any (s:ByteArray) (w:World) (hs:s.size≤4294967296):Calls prog 110 #[.string s] w fun e w'=>e=.returned (.tuple #[.int .i64 (parseR s).1,.int .i64 (parseR s).2])∧w'=w:=by
 rw [← fparseR_eq];have HFO:=hZz (fform_any s w hs);cases hd:decB s with
 | false =>
  have HR:Hid (fparseR s=(0,1)):=hZz (by unfold fparseR;rw [if_pos hd]);rw [hd] at HFO;obtain ⟨FR,hFR⟩:∃ x,fparseR s=x:=⟨_,rfl⟩
  rw [hFR] at HR ⊢;clear hd hFR;have HC:Hid (∀ b:Bool,True):=hZz (fun _=>trivial);by_cases h0:(0:Int)<(s.size:Int)
  all_goals
   go_enter func110,ntmps110
   go_wp2_with (first
    | (go_at_call 156;(with_reducible refine HFO.out.mono ?_);rintro e w1 ⟨rfl,hw⟩;rw [hw];clear hw w1))
   go_returns;exact ⟨by rw [HR.out];rfl,rfl⟩
 | true =>
  rw [hd] at HFO;have HR:Hid (fparseR s=(match refP s.data.toList 0 with | none=>((0,2):Int × Int) | some u=>(if negB s then -(u:Int) else u,0))):=hZz (by unfold fparseR;rw [if_neg (by rw [hd];decide)];all_goals (cases refP s.data.toList 0 <;> rfl));obtain ⟨hp,hall⟩:=dec_all hd;have HN:=hZz (neg_at s hp);have HA:=hZz hall;have h0:(0:Int)<(s.size:Int):=by omega
  obtain ⟨FR,hFR⟩:∃ x,fparseR s=x:=⟨_,rfl⟩
  obtain ⟨RP,hRP⟩:∃ x,refP s.data.toList 0=x:=⟨_,rfl⟩
  rw [hRP] at HR;rw [hFR] at HR ⊢;have HRP:=hZz hRP;clear hd hFR hall hRP;have HDR:Hid (s.data.toList.drop s.size=[]):=hZz (List.drop_eq_nil_of_le (by simp));by_cases hm:s[0]=45
  ·have hm':((s[0].toNat:Int) == 45)=true:=by rw [hm];rfl
   have HNG:Hid (negB s=true):=hZz (by rw [HN.out];simpa using hm);clear hm;go_enter func110,ntmps110
   go_wp2_with (first
    | (go_at_call 156;(with_reducible refine HFO.out.mono ?_);rintro e w1 ⟨rfl,hw⟩;rw [hw];clear hw w1))
   clear hm';go_loop [5,6,20] (fun nv u c=>∃ k acc:Nat,k≤s.size∧c=.int .i64 k∧nv=.int .i64 acc∧acc≤1000000000000∧Hid (refP (s.data.toList.drop k) acc=RP)) (fun nv u c=>s.size - (intOf c).toNat)
   case atStart=>exact ⟨0,0,Nat.zero_le _,rfl,rfl,Nat.zero_le _,hZz (by rw [List.drop_zero];exact HRP.out)⟩
   case round =>
    obtain ⟨k,acc,hk,rfl,rfl,hacc,HI⟩:=hrel;have hk0:(0:Int)≤(k:Int):=by omega
    by_cases hlt:k<s.size
    ·have hlt':(k:Int)<(s.size:Int):=by omega
     have HD:=hZz (drop_at s k hlt);have hw1:IntKind.i64.wrap ((k:Int)+1)=(k:Int)+1:=IntWalk.i64_in _ (by omega);by_cases h45:s[k]=45
     ·have t45:((s[k].toNat:Int) == 45)=true:=by rw [h45];rfl
      have HI2:Hid (refP (s.data.toList.drop (k+1)) acc=RP):=hZz (by
       have:=HI.out
       rw [HD.out,refP,if_pos h45] at this;exact this)
      clear h45;go_wp2_with (fail)
      exact ⟨⟨k+1,acc,hlt,by simp,rfl,hacc,HI2⟩,by simp [intOf];omega⟩
     ·have t45:((s[k].toNat:Int) == 45)=false:=beq_eq_false_iff_ne.mpr (za4Y h45)
      have hdg:=dg_bd ((HA.out k hlt).resolve_left h45);obtain ⟨d,hd⟩:∃ d:Nat,s[k].toNat=48+d:=⟨s[k].toNat - 48,by omega⟩
      have hd9:d≤9:=by omega
      have HI1:Hid (refP (s.data.toList.drop k) acc=if 1000000000000<10 * acc+d then none else refP (s.data.toList.drop (k+1)) (10 * acc+d)):=hZz (by
       rw [HD.out,refP,if_neg h45,hd,show 48+d - 48=d by omega])
      have hw8:IntKind.u8.wrap ((s[k].toNat:Int) - 48)=(d:Int):=by
       rw [hd,show ((48+d:Nat):Int) - 48=(d:Int) by omega];exact IntWalk.u8_in _ (by omega)
      have hwd:IntKind.i64.wrap (d:Int)=(d:Int):=IntWalk.i64_in _ (by omega);have hwa:IntKind.i64.wrap (10 * (acc:Int))=10 * (acc:Int):=IntWalk.i64_in _ (by omega);have hws:IntKind.i64.wrap (10 * (acc:Int)+(d:Int))=10 * (acc:Int)+(d:Int):=IntWalk.i64_in _ (by omega);clear h45 hdg hd;by_cases hb:(1000000000000:Int)<10 * (acc:Int)+(d:Int)
      ·have HRN:Hid (FR=(0,2)):=hZz (by
        have e:=HI1.out;rw [if_pos (by omega),HI.out] at e;rw [HR.out,e])
       go_wp2_with (fail)
       go_returns;exact ⟨by rw [HRN.out];rfl,rfl⟩
      ·have HI2:Hid (refP (s.data.toList.drop (k+1)) (10 * acc+d)=RP):=hZz (by
        have e:=HI1.out;rw [if_neg (by omega),HI.out] at e;exact e.symm)
       go_wp2_with (fail)
       exact ⟨⟨k+1,10 * acc+d,hlt,by simp,by simp,by omega,HI2⟩,by simp [intOf];omega⟩
    ·have e:k=s.size:=by omega
     subst e;have hwn:IntKind.i64.wrap (-(acc:Int))=-(acc:Int):=IntWalk.i64_in _ (by omega)
     have HRN:Hid (FR=(-(acc:Int),0)):=hZz (by
      have e:=HI.out;rw [HDR.out,refP] at e;rw [HR.out,← e,HNG.out];rfl)
     go_wp2_with (fail)
     go_returns;exact ⟨by rw [HRN.out];rfl,rfl⟩
  ·have hm':((s[0].toNat:Int) == 45)=false:=beq_eq_false_iff_ne.mpr (za4Y hm)
   have HNG:Hid (negB s=false):=hZz (by rw [HN.out];simpa using hm);clear hm;go_enter func110,ntmps110
   go_wp2_with (first
    | (go_at_call 156;(with_reducible refine HFO.out.mono ?_);rintro e w1 ⟨rfl,hw⟩;rw [hw];clear hw w1))
   clear hm';go_loop [5,6,20] (fun nv u c=>∃ k acc:Nat,k≤s.size∧c=.int .i64 k∧nv=.int .i64 acc∧acc≤1000000000000∧Hid (refP (s.data.toList.drop k) acc=RP)) (fun nv u c=>s.size - (intOf c).toNat)
   case atStart=>exact ⟨0,0,Nat.zero_le _,rfl,rfl,Nat.zero_le _,hZz (by rw [List.drop_zero];exact HRP.out)⟩
   case round =>
    obtain ⟨k,acc,hk,rfl,rfl,hacc,HI⟩:=hrel;have hk0:(0:Int)≤(k:Int):=by omega
    by_cases hlt:k<s.size
    ·have hlt':(k:Int)<(s.size:Int):=by omega
     have HD:=hZz (drop_at s k hlt);have hw1:IntKind.i64.wrap ((k:Int)+1)=(k:Int)+1:=IntWalk.i64_in _ (by omega);by_cases h45:s[k]=45
     ·have t45:((s[k].toNat:Int) == 45)=true:=by rw [h45];rfl
      have HI2:Hid (refP (s.data.toList.drop (k+1)) acc=RP):=hZz (by
       have:=HI.out
       rw [HD.out,refP,if_pos h45] at this;exact this)
      clear h45;go_wp2_with (fail)
      exact ⟨⟨k+1,acc,hlt,by simp,rfl,hacc,HI2⟩,by simp [intOf];omega⟩
     ·have t45:((s[k].toNat:Int) == 45)=false:=beq_eq_false_iff_ne.mpr (za4Y h45)
      have hdg:=dg_bd ((HA.out k hlt).resolve_left h45);obtain ⟨d,hd⟩:∃ d:Nat,s[k].toNat=48+d:=⟨s[k].toNat - 48,by omega⟩
      have hd9:d≤9:=by omega
      have HI1:Hid (refP (s.data.toList.drop k) acc=if 1000000000000<10 * acc+d then none else refP (s.data.toList.drop (k+1)) (10 * acc+d)):=hZz (by
       rw [HD.out,refP,if_neg h45,hd,show 48+d - 48=d by omega])
      have hw8:IntKind.u8.wrap ((s[k].toNat:Int) - 48)=(d:Int):=by
       rw [hd,show ((48+d:Nat):Int) - 48=(d:Int) by omega];exact IntWalk.u8_in _ (by omega)
      have hwd:IntKind.i64.wrap (d:Int)=(d:Int):=IntWalk.i64_in _ (by omega);have hwa:IntKind.i64.wrap (10 * (acc:Int))=10 * (acc:Int):=IntWalk.i64_in _ (by omega);have hws:IntKind.i64.wrap (10 * (acc:Int)+(d:Int))=10 * (acc:Int)+(d:Int):=IntWalk.i64_in _ (by omega);clear h45 hdg hd;by_cases hb:(1000000000000:Int)<10 * (acc:Int)+(d:Int)
      ·have HRN:Hid (FR=(0,2)):=hZz (by
        have e:=HI1.out;rw [if_pos (by omega),HI.out] at e;rw [HR.out,e])
       go_wp2_with (fail)
       go_returns;exact ⟨by rw [HRN.out];rfl,rfl⟩
      ·have HI2:Hid (refP (s.data.toList.drop (k+1)) (10 * acc+d)=RP):=hZz (by
        have e:=HI1.out;rw [if_neg (by omega),HI.out] at e;exact e.symm)
       go_wp2_with (fail)
       exact ⟨⟨k+1,10 * acc+d,hlt,by simp,by simp,by omega,HI2⟩,by simp [intOf];omega⟩
    ·have e:k=s.size:=by omega
     subst e;have hwn:IntKind.i64.wrap (-(acc:Int))=-(acc:Int):=IntWalk.i64_in _ (by omega)
     have HRN:Hid (FR=((acc:Int),0)):=hZz (by
      have e:=HI.out;rw [HDR.out,refP] at e;rw [HR.out,← e,HNG.out];rfl)
     go_wp2_with (fail)
     go_returns;exact ⟨by rw [HRN.out];rfl,rfl⟩
section
attribute [local go_sem] zacZ
theorem fturnint_any (name:ByteArray) (hn:name.toList=[105,110,116]) (a:ValD) (v:Value) (w:World) (h:ValV w v a) (ck:checkF a=0) :
  Calls prog 59 #[.string name,v] w (RetV w (integerR a)):=by
 obtain ⟨P,hP⟩:∃ P:Ending→World→Prop,RetV w (integerR a)=P:=⟨_,rfl⟩
 rw [hP];have HP:=hZz hP;have t0:(name.toList == [115,116,114])=false:=zalZ (by rw [hn];decide)
 obtain ⟨x,r,rfl⟩:∃ c r,a=c :: r:=by
  cases a with
  | nil=>exact absurd rfl (zaoZ ck)
  | cons c r=>exact ⟨c,r,rfl⟩
 obtain ⟨bA,oA,n1,k1,rfl,hn1,p0,p1,p2,p3⟩:=zanZ h;have hposA:(0:Int)<(n1:Int):=by omega
 have hsz:=za8Y ck x (by simp);have HPA:=hZz (fparse_any x.str w (by omega));obtain ⟨BR,hBR⟩:∃ t,integerR (x :: r)=t:=⟨_,rfl⟩
 have hU:BR=if x.kind=3 then (x :: r,0) else if x.kind=4 then (if (parseR x.str).2=0 then ([iCel (parseR x.str).1],0) else ([⟨1,0,⟨#[]⟩,0⟩],0)) else ([],7):=by rw [← hBR];rfl
 rw [hBR] at HP;have HU:=hZz hU;have HV:=hZz h;clear hn h ck hP hn1 hBR hU;obtain ⟨k,i,st,nn⟩:=x;dsimp only at HU p0 p1 p2 p3 hsz HPA;obtain ⟨⟨pn,pe⟩,hpr⟩:∃ t,parseR st=t:=⟨_,rfl⟩
 rw [hpr] at HU HPA;dsimp only at HU HPA;clear hpr;by_cases h3:k=3
 ·subst h3
  have HR:Hid (BR=(⟨3,i,st,nn⟩ :: r,0)):=hZz (by rw [HU.out,if_pos rfl]);clear HU;go_enter func59,ntmps59
  go_wp2_with (fail)
  rw [← HP.out,HR.out];exact ⟨_,rfl,HV.out,Below.refl _ _⟩
 have t3:(k == 3)=false:=by simpa using h3
 by_cases h4:k=4
 ·subst h4
  by_cases h0:pe=0
  ·subst h0
   have HR:Hid (BR=([iCel pn],0)):=hZz (by rw [HU.out,if_neg (by decide),if_pos rfl,if_pos rfl]);clear HU;go_enter func59,ntmps59
   go_wp2_with (first
    | (go_at_call 110;(with_reducible refine HPA.out.mono ?_);rintro e w1 ⟨rfl,hw⟩;rw [hw];clear hw w1))
   rw [← HP.out,HR.out];exact ⟨_,rfl,zaiY (c:=iCel pn) (Blk.new w _ _),zabZ _ _⟩
  ·have HR:Hid (BR=([⟨1,0,⟨#[]⟩,0⟩],0)):=hZz (by rw [HU.out,if_neg (by decide),if_pos rfl,if_neg h0])
   have h0':(pe != 0)=true:=by simpa using h0
   clear HU h0;go_enter func59,ntmps59
   go_wp2_with (first
    | (go_at_call 110;(with_reducible refine HPA.out.mono ?_);rintro e w1 ⟨rfl,hw⟩;rw [hw];clear hw w1)
    | (go_at_call 65;((refine (fnull_any _).mono ?_);rintro e w5 ⟨rfl,hw5⟩;have HN5:=hZz hw5;clear hw5)))
   rw [← HP.out,HR.out,HN5.out];exact ⟨_,rfl,zaiY (c:=⟨1,0,⟨#[]⟩,0⟩) (Blk.new w _ _),zabZ _ _⟩
 have t4:(k == 4)=false:=by simpa using h4
 have t4':(k != 4)=true:=by simpa using h4
 have HR:Hid (BR=([],7)):=hZz (by rw [HU.out,if_neg h3,if_neg h4]);clear HU h3 h4;go_enter func59,ntmps59
 go_wp2_with (fail)
 rw [← HP.out];exact RetV.err HR.out (Below.refl _ _)
end
end Go.Proofs.YtekdhlfapejijaaGreatDoor
