/- E7, E9, E10, E11, E12, E13, E14, E15, E16 -/
import Derived.Test.YthiimbhjpdphpaaGreatDoorPE5
import Derived.Test.YthiimbhjpdphpaaGreatDoorPPH
import Derived.Test.YthiimbhjpdphpaaGreatDoorPV1
import Derived.Test.YthiimbhjpdphpaaGreatDoorPShelf
import Derived.BigQuiet
import Derived.Deep.QuietTactic
set_option linter.unusedVariables false
set_option linter.unusedSimpArgs false
namespace Go.Proofs.YthiimbhjpdphpaaGreatDoor
section
open Go.RowKit
set_option maxRecDepth 100000
def numI (n:Int):Int × Int:=if inRange n=true then (n,0) else (0,8)
attribute [local go_sem] cell_alloc_is
theorem nresult_any (n:Int) (w:World):Calls Tryz.prog 194 #[.int .i64 n] w fun e w'=>e=.returned (.tuple #[.int .i64 (numI n).1,.int .i64 (numI n).2])∧w'=w:=by
 have HV:=Lib.hid (valid_any n w)
 have HI:Hid (inRange n=(decide (-1000000000000≤n) && decide (n≤1000000000000))):=Lib.hid rfl
 obtain ⟨b,hb⟩:∃ b,(decide (-1000000000000≤n) && decide (n≤1000000000000))=b:=⟨_,rfl⟩
 rw [hb] at HV HI
 clear hb
 cases b
 ·have HN:Hid (numI n=(0,8)):=Lib.hid (by unfold numI;rw [HI.out];rfl)
  go_enter Tryz.func194,Tryz.ntmps194
  go_wp2_with (first | (go_at_call 144;(with_reducible refine HV.out.mono ?_);rintro e w1 ⟨rfl,rfl⟩))
  go_returns
  exact ⟨by rw [HN.out];rfl,rfl⟩
 ·have HN:Hid (numI n=(n,0)):=Lib.hid (by unfold numI;rw [HI.out];rfl)
  go_enter Tryz.func194,Tryz.ntmps194
  go_wp2_with (first | (go_at_call 144;(with_reducible refine HV.out.mono ?_);rintro e w1 ⟨rfl,rfl⟩))
  go_returns
  exact ⟨by rw [HN.out];rfl,rfl⟩
set_option maxHeartbeats 4000000 in
/-- Two numbers in their range, in a block of the call's own. -/
theorem nvalid_any (a b:Int) (g:Nat) (w:World) (ha:inRange a=true) (hb:inRange b=true) (h0:w.cell? ⟨g,0,none⟩=some (.int .i64 a)) (h1:w.cell? ⟨g,1,none⟩=some (.int .i64 b)) :
  Calls Tryz.prog 193 #[.slice (some ⟨g,0,none⟩) 2 2] w fun e w'=>e=.returned (.bool true)∧w'=w:=by
 have HA:Hid (Calls Tryz.prog 144 #[.int .i64 a] w fun e w'=>e=.returned (.bool true)∧w'=w):=Lib.hid (by have:=valid_any a w;unfold inRange at ha;rwa [ha] at this)
 have HB:Hid (Calls Tryz.prog 144 #[.int .i64 b] w fun e w'=>e=.returned (.bool true)∧w'=w):=Lib.hid (by have:=valid_any b w;unfold inRange at hb;rwa [hb] at this)
 clear ha hb
 go_enter Tryz.func193,Tryz.ntmps193
 go_wp2_with (fail)
 go_loop [4,7] (fun _ i=>∃ k:Nat,k≤2∧i=.int .i64 k) (fun _ i=>2 - (intOf i).toNat)
 case atStart=>exact ⟨0,by omega,rfl⟩
 case round =>
  obtain ⟨k,hk,rfl⟩:=hrel
  obtain rfl | rfl | rfl:k=0∨k=1∨k=2:=by omega
  ·go_wp2_with (first | (go_at_call 144;(with_reducible refine HA.out.mono ?_);rintro e w1 ⟨rfl,rfl⟩))
   exact ⟨⟨1,by omega,rfl⟩,by simp [intOf]⟩
  ·go_wp2_with (first | (go_at_call 144;(with_reducible refine HB.out.mono ?_);rintro e w1 ⟨rfl,rfl⟩))
   exact ⟨⟨2,by omega,rfl⟩,by simp [intOf]⟩
  ·go_wp2_with (fail)
   go_ret
   exact ⟨rfl,rfl⟩
theorem nvalid_new (a b:Int) (w:World) (ha:inRange a=true) (hb:inRange b=true):Hid (∀ t,Calls Tryz.prog 193 #[.slice (some ⟨w.heap.size,0,none⟩) 2 2] (w.alloc (.cells #[.int .i64 a,.int .i64 b] t)) fun e w'=>e=.returned (.bool true)∧w'=w.alloc (.cells #[.int .i64 a,.int .i64 b] t)) :=
 Lib.hid fun t=>nvalid_any a b w.heap.size _ ha hb ((Blk.new w t _).cell 0 _ rfl) ((Blk.new w t _).cell 1 _ rfl)
set_option maxHeartbeats 4000000 in
theorem nadd_any (a b:Int) (w:World) (ha:inRange a=true) (hb:inRange b=true) :
  Calls Tryz.prog 157 #[.int .i64 a,.int .i64 b] w fun e w'=>e=.returned (.tuple #[.int .i64 (numI (a+b)).1,.int .i64 (numI (a+b)).2])∧Below w.heap.size w w':=by
 have HV:=nvalid_new a b w ha hb
 have HC:Hid (∀ wx,Calls Tryz.prog 194 #[.int .i64 (a+b)] wx fun e w'=>e=.returned (.tuple #[.int .i64 (numI (a+b)).1,.int .i64 (numI (a+b)).2])∧w'=wx):=Lib.hid fun wx=>nresult_any _ wx
 obtain ⟨N,hN⟩:∃ N,numI (a+b)=N:=⟨_,rfl⟩
 rw [hN] at HC ⊢
 obtain ⟨n1,n2⟩:=N
 simp only [inRange,Bool.and_eq_true,decide_eq_true_eq] at ha hb
 have hlo : -9223372036854775808≤a+b:=by omega
 have hhi:a+b≤9223372036854775807:=by omega
 clear hN ha hb
 go_enter Tryz.func157,Tryz.ntmps157
 go_wp2_with (first
  | (go_at_call 193;(with_reducible refine (HV.out _).mono ?_);rintro e w1 ⟨rfl,rfl⟩)
  | (go_at_call 194;(with_reducible refine (HC.out _).mono ?_);rintro e w1 ⟨rfl,rfl⟩))
 go_returns
 exact ⟨rfl,below_new _ _⟩
set_option maxHeartbeats 4000000 in
theorem nsub_any (a b:Int) (w:World) (ha:inRange a=true) (hb:inRange b=true) :
  Calls Tryz.prog 158 #[.int .i64 a,.int .i64 b] w fun e w'=>e=.returned (.tuple #[.int .i64 (numI (a - b)).1,.int .i64 (numI (a - b)).2])∧Below w.heap.size w w':=by
 have HV:=nvalid_new a b w ha hb
 have HC:Hid (∀ wx,Calls Tryz.prog 194 #[.int .i64 (a - b)] wx fun e w'=>e=.returned (.tuple #[.int .i64 (numI (a - b)).1,.int .i64 (numI (a - b)).2])∧w'=wx):=Lib.hid fun wx=>nresult_any _ wx
 obtain ⟨N,hN⟩:∃ N,numI (a - b)=N:=⟨_,rfl⟩
 rw [hN] at HC ⊢
 obtain ⟨n1,n2⟩:=N
 simp only [inRange,Bool.and_eq_true,decide_eq_true_eq] at ha hb
 have hlo : -9223372036854775808≤a - b:=by omega
 have hhi:a - b≤9223372036854775807:=by omega
 clear hN ha hb
 go_enter Tryz.func158,Tryz.ntmps158
 go_wp2_with (first
  | (go_at_call 193;(with_reducible refine (HV.out _).mono ?_);rintro e w1 ⟨rfl,rfl⟩)
  | (go_at_call 194;(with_reducible refine (HC.out _).mono ?_);rintro e w1 ⟨rfl,rfl⟩))
 go_returns
 exact ⟨rfl,below_new _ _⟩
end
section
open Go.RowKit
set_option maxRecDepth 100000
attribute [local go_sem] cell_alloc_is
set_option maxHeartbeats 4000000 in
theorem ndiv_any (a b:Int) (w:World) (ha:inRange a=true) (hb:inRange b=true) :
  Calls Tryz.prog 160 #[.int .i64 a,.int .i64 b] w fun e w'=>e=.returned (.tuple #[.int .i64 (dmI a b).1,.int .i64 (dmI a b).2.1,.int .i64 (dmI a b).2.2])∧Below w.heap.size w w':=by
 have HV:=nvalid_new a b w ha hb
 by_cases h0:b=0
 ·subst h0
  have HD:Hid (dmI a 0=(0,0,9)):=Lib.hid (by simp [dmI])
  clear ha hb
  go_enter Tryz.func160,Tryz.ntmps160
  go_wp2_with (first
   | (go_at_call 193;(with_reducible refine (HV.out _).mono ?_);rintro e w1 ⟨rfl,rfl⟩))
  go_returns
  exact ⟨by rw [HD.out];rfl,below_new _ _⟩
 ·obtain ⟨q,r,hq,hr,hc⟩:=dm_cases (a:=a) h0
  have hra:=ha
  have hrb:=hb
  simp only [inRange,Bool.and_eq_true,decide_eq_true_eq] at hra hrb
  obtain ⟨t1,t2⟩:=tdm_bd hra hrb h0
  have HD:Hid (dmI a b=(q,r,0)):=Lib.hid (by simp [dmI,h0,hq,hr])
  obtain ⟨tq,htq⟩:∃ t,a.tdiv b=t:=⟨_,rfl⟩
  obtain ⟨tr,htr⟩:∃ t,a.tmod b=t:=⟨_,rfl⟩
  have hb0:(b == 0)=false:=by simpa using h0
  rw [htq] at t1 hc
  rw [htr] at t2 hc
  have HQ:=Lib.hid htq
  have HR:=Lib.hid htr
  go_enter Tryz.func160,Tryz.ntmps160
  go_upto_region 5 with (first
   | (go_at_call 193;(with_reducible refine (HV.out _).mono ?_);rintro e w1 ⟨rfl,rfl⟩))
  go_quiet (fail)
  obtain ⟨W,hW⟩:∃ W,(w.alloc (.cells #[.int .i64 a,.int .i64 b] 3)).drewN nq=W:=⟨_,rfl⟩
  have HB:Hid (Below w.heap.size w W):=Lib.hid (by rw [← hW];exact below_drewN (below_new _ _) _)
  rw [hW]
  clear hW HV ha hb hq hr htq htr h0 hb0
  rcases hc with ⟨c1,rfl,rfl⟩ | ⟨c1,c2,rfl,rfl⟩ | ⟨c1,c2,rfl,rfl⟩ | ⟨c1,c2,rfl,rfl⟩ | ⟨c1,c2,rfl,rfl⟩
  ·subst c1
   go_wp2_with (fail)
   go_returns
   exact ⟨by rw [HD.out];rfl,HB.out⟩
  ·have n1:¬ tr=0:=by omega
   have n2:¬ b<0:=by omega
   have n3:(tr != 0)=true:=by simpa using n1
   clear n1
   go_wp2_with (fail)
   go_returns
   exact ⟨by rw [HD.out];rfl,HB.out⟩
  ·have n1:¬ r=0:=by omega
   have n3:(r != 0)=true:=by simpa using n1
   clear n1
   go_wp2_with (fail)
   go_returns
   exact ⟨by rw [HD.out];rfl,HB.out⟩
  ·have n1:¬ tr=0:=by omega
   have n2:¬ tr<0:=by omega
   have n3:(tr != 0)=true:=by simpa using n1
   clear n1
   go_wp2_with (fail)
   go_returns
   exact ⟨by rw [HD.out];rfl,HB.out⟩
  ·have n1:¬ r=0:=by omega
   have n2:¬ r<0:=by omega
   have n4:¬ b<0:=by omega
   have n3:(r != 0)=true:=by simpa using n1
   clear n1
   go_wp2_with (fail)
   go_returns
   exact ⟨by rw [HD.out];rfl,HB.out⟩
end
section
open Go.RowKit
set_option maxRecDepth 100000
theorem namount_any (n:Int) (w:World) (h:inRange n=true):Calls Tryz.prog 196 #[.int .i64 n] w fun e w'=>e=.returned (.int .u64 (n.natAbs:Nat))∧w'=w:=by
 simp only [inRange,Bool.and_eq_true,decide_eq_true_eq] at h
 have h1:n≤1000000000000:=h.2
 have h2 : -1000000000000≤n:=h.1
 obtain ⟨m,hm⟩:∃ m:Nat,n.natAbs=m:=⟨_,rfl⟩
 rw [hm]
 rcases Int.lt_or_le n 0 with h3 | h3
 ·have e:n=-(m:Int):=by omega
  subst e
  have h4:(0:Int)≤(m:Int):=by omega
  have h5:(m:Int)≤1000000000000:=by omega
  clear h hm
  go_enter Tryz.func196,Tryz.ntmps196
  go_wp2
  go_returns
  refine ⟨?_,rfl⟩
  show Ending.returned (Value.int .u64 (max (-(m:Int)) (m:Int)))=_
  rw [show max (-(m:Int)) (m:Int)=(m:Int) by omega]
 ·have e:n=(m:Int):=by omega
  subst e
  have h4:(0:Int)≤(m:Int):=by omega
  have h5:(m:Int)≤1000000000000:=by omega
  clear h hm
  go_enter Tryz.func196,Tryz.ntmps196
  go_wp2
  go_returns
  refine ⟨?_,rfl⟩
  show Ending.returned (Value.int .u64 (max (m:Int) (-(m:Int))))=_
  rw [show max (m:Int) (-(m:Int))=(m:Int) by omega]
attribute [local go_sem] cell_alloc_is
set_option maxHeartbeats 4000000 in
theorem nmul_any (a b:Int) (w:World) (ha:inRange a=true) (hb:inRange b=true) :
  Calls Tryz.prog 159 #[.int .i64 a,.int .i64 b] w fun e w'=>e=.returned (.tuple #[.int .i64 (numI (a * b)).1,.int .i64 (numI (a * b)).2])∧Below w.heap.size w w':=by
 have HV:=nvalid_new a b w ha hb
 have HA:Hid (∀ wx,Calls Tryz.prog 196 #[.int .i64 a] wx fun e w'=>e=.returned (.int .u64 (a.natAbs:Nat))∧w'=wx):=Lib.hid fun wx=>namount_any a wx ha
 have HB:Hid (∀ wx,Calls Tryz.prog 196 #[.int .i64 b] wx fun e w'=>e=.returned (.int .u64 (b.natAbs:Nat))∧w'=wx):=Lib.hid fun wx=>namount_any b wx hb
 have hra:=ha
 have hrb:=hb
 simp only [inRange,Bool.and_eq_true,decide_eq_true_eq] at hra hrb
 have hna:a.natAbs<18446744073709551616:=by omega
 have hnb:b.natAbs<18446744073709551616:=by omega
 have HM:Hid (∀ wx,Calls Tryz.prog 195 #[.int .u64 (a.natAbs:Nat),.int .u64 (b.natAbs:Nat)] wx fun e w'=>e=.returned (.tuple #[.int .u64 ((a.natAbs * b.natAbs / 18446744073709551616:Nat):Int),.int .u64 ((a.natAbs * b.natAbs % 18446744073709551616:Nat):Int)])∧w'=wx):=Lib.hid fun wx=>Tryz.bits_Mul64 _ _ hna hnb wx
 have hab:(a * b).natAbs=a.natAbs * b.natAbs:=Int.natAbs_mul a b
 obtain ⟨x,hx⟩:∃ x,a.natAbs=x:=⟨_,rfl⟩
 obtain ⟨y,hy⟩:∃ y,b.natAbs=y:=⟨_,rfl⟩
 obtain ⟨z,hz⟩:∃ z,x * y=z:=⟨_,rfl⟩
 rw [hx,hy] at HM hab
 rw [hx] at HA
 rw [hy] at HB
 rw [hz] at HM hab
 obtain ⟨hi,hhi⟩:∃ h,z / 18446744073709551616=h:=⟨_,rfl⟩
 obtain ⟨lo,hlo⟩:∃ h,z % 18446744073709551616=h:=⟨_,rfl⟩
 rw [hhi,hlo] at HM
 obtain ⟨p,hp⟩:∃ p,a * b=p:=⟨_,rfl⟩
 rw [hp] at hab
 have HP:Hid (IntKind.i64.wrap (a * b)=IntKind.i64.wrap p):=Lib.hid (by rw [hp])
 rw [hp]
 have h64:inRange p=true→-9223372036854775808≤p∧p≤9223372036854775807:=by
  intro h
  simp only [inRange,Bool.and_eq_true,decide_eq_true_eq] at h
  omega
 cases hin:inRange p
 ·have HN:Hid (numI p=(0,8)):=Lib.hid (by unfold numI;rw [hin];rfl)
  have hbig:1000000000000<z:=by
   have:¬ (-1000000000000≤p∧p≤1000000000000):=by
    rw [← Bool.not_eq_true] at hin
    simpa [inRange] using hin
   omega
  by_cases h1:(0:Int)<(hi:Int)
  ·clear ha hb hra hrb hna hnb hab hx hy hz hhi hlo hp h64 hin hbig HP
   go_enter Tryz.func159,Tryz.ntmps159
   go_wp2_with (first
    | (go_at_call 193;(with_reducible refine (HV.out _).mono ?_);rintro e w1 ⟨rfl,rfl⟩)
    | (go_at_call 196;first | ((with_reducible refine (HA.out _).mono ?_);rintro e w1 ⟨rfl,rfl⟩) | ((with_reducible refine (HB.out _).mono ?_);rintro e w1 ⟨rfl,rfl⟩))
    | (go_at_call 195;(with_reducible refine (HM.out _).mono ?_);rintro e w1 ⟨rfl,rfl⟩))
   go_returns
   exact ⟨by rw [HN.out];rfl,below_new _ _⟩
  ·have h2:(1000000000000:Int)<(lo:Int):=by omega
   clear ha hb hra hrb hna hnb hab hx hy hz hhi hlo hp h64 hin hbig HP
   go_enter Tryz.func159,Tryz.ntmps159
   go_wp2_with (first
    | (go_at_call 193;(with_reducible refine (HV.out _).mono ?_);rintro e w1 ⟨rfl,rfl⟩)
    | (go_at_call 196;first | ((with_reducible refine (HA.out _).mono ?_);rintro e w1 ⟨rfl,rfl⟩) | ((with_reducible refine (HB.out _).mono ?_);rintro e w1 ⟨rfl,rfl⟩))
    | (go_at_call 195;(with_reducible refine (HM.out _).mono ?_);rintro e w1 ⟨rfl,rfl⟩))
   go_returns
   exact ⟨by rw [HN.out];rfl,below_new _ _⟩
 ·have HN:Hid (numI p=(p,0)):=Lib.hid (by unfold numI;rw [hin];rfl)
  have hp64:=h64 hin
  have hsm:z≤1000000000000:=by
   simp only [inRange,Bool.and_eq_true,decide_eq_true_eq] at hin
   omega
  have h1:¬ (0:Int)<(hi:Int):=by omega
  have h2:¬ (1000000000000:Int)<(lo:Int):=by omega
  have hlo2 : -9223372036854775808≤a * b:=by rw [hp];exact hp64.1
  have hhi2:a * b≤9223372036854775807:=by rw [hp];exact hp64.2
  have HPE:=Lib.hid hp
  clear ha hb hra hrb hna hnb hab hx hy hz hhi hlo hp h64 hin hsm HP hp64
  go_enter Tryz.func159,Tryz.ntmps159
  go_wp2_with (first
   | (go_at_call 193;(with_reducible refine (HV.out _).mono ?_);rintro e w1 ⟨rfl,rfl⟩)
   | (go_at_call 196;first | ((with_reducible refine (HA.out _).mono ?_);rintro e w1 ⟨rfl,rfl⟩) | ((with_reducible refine (HB.out _).mono ?_);rintro e w1 ⟨rfl,rfl⟩))
   | (go_at_call 195;(with_reducible refine (HM.out _).mono ?_);rintro e w1 ⟨rfl,rfl⟩))
  go_returns
  exact ⟨by rw [HN.out,← HPE.out];rfl,below_new _ _⟩
end
section
open Go.RowKit
set_option maxRecDepth 100000
theorem ne_str {s:ByteArray} {l:List UInt8} (h:¬ s.toList=l):(s.toList == l)=false:=by simpa using h
theorem eq_str {s:ByteArray} {l:List UInt8} (h:s.toList=l):(s.toList == l)=true:=by simpa using h
theorem RetR.err {w w':World} {S:List Value} {r:ResD} {x:Int} (hr:r=([],x)) (hb:Below w.heap.size w w'):RetR w S r (.returned (.tuple #[.slice none 0 0,.int .i64 x])) w':=by
 subst hr;exact ⟨.slice none 0 0,rfl,RowsV.nil none 0,FromC.none,hb⟩
theorem vals1 {w:World} {g:Nat} {t:TypeId} {a:Value} {x:ValD} (h:Blk w g t #[a]) (ha:ValV w a x):ValsV w (.slice (some ⟨g,0,none⟩) 1 1) [x]:=by
 refine ⟨_,1,[[a]],rfl,by simp,by simp,fun i row hr=>⟨g,0,rfl,lt_of_block h,fun j v hv=>?_⟩,rfl,fun i hi hi'=>?_⟩
 ·match i,hr with
  | 0,hr =>
   simp at hr
   subst hr
   cases j with
   | zero=>simp at hv;subst hv;simpa using h.cell _ _ rfl
   | succ j=>simp at hv
  | i+1,hr=>simp at hr
 ·match i,hi with
  | 0,_=>exact ⟨a,rfl,ha⟩
  | i+1,hi=>(simp at hi;try omega)
theorem vals2 {w:World} {g:Nat} {t:TypeId} {a b:Value} {x y:ValD} (h:Blk w g t #[a,b]) (ha:ValV w a x) (hb:ValV w b y):ValsV w (.slice (some ⟨g,0,none⟩) 2 2) [x,y]:=by
 refine ⟨_,2,[[a],[b]],rfl,by simp,by simp,fun i row hr=>⟨g,0,rfl,lt_of_block h,fun j v hv=>?_⟩,rfl,fun i hi hi'=>?_⟩
 ·match i,hr with
  | 0,hr | 1,hr =>
   simp at hr
   subst hr
   cases j with
   | zero=>simp at hv;subst hv;simpa using h.cell _ _ rfl
   | succ j=>simp at hv
  | i+2,hr=>simp at hr
 ·match i,hi with
  | 0,_=>exact ⟨a,rfl,ha⟩
  | 1,_=>exact ⟨b,rfl,hb⟩
  | i+2,hi=>(simp at hi;try omega)
theorem firstBad_one (x:ValD):firstBad [x]=checkF x:=by
 unfold firstBad
 split
 ·rfl
 ·rename_i h
  have:checkF x=0:=Decidable.not_not.1 h
  rw [this]
  rfl
/-- The first cell of a value that is not empty. -/
theorem head_cell {w:World} {v:Value} {c:CellD} {r:ValD} (h:ValV w v (c :: r)):∃ b off n cap,v=.slice (some ⟨b,off,none⟩) n cap∧n=r.length+1∧w.cell? ⟨b,off,none⟩=some (.int .i64 c.kind)∧w.cell? ⟨b,off+1,none⟩=some (.int .i64 c.int)∧w.cell? ⟨b,off+2,none⟩=some (.string c.str)∧w.cell? ⟨b,off+3,none⟩=some (.int .i64 c.n):=by
 obtain ⟨A,cap,rfl,hc,hm,hs⟩:=h.at
 have hlt:0<(c :: r).length:=by simp
 obtain ⟨b,off,rfl,_⟩:=hs.ptr hlt
 have c0:=hs.cell0 hlt (v:=.int .i64 c.kind) rfl
 have c1:=hs.cell hlt (j:=1) (v:=.int .i64 c.int) rfl
 have c2:=hs.cell hlt (j:=2) (v:=.string c.str) rfl
 have c3:=hs.cell hlt (j:=3) (v:=.int .i64 c.n) rfl
 simp only [Nat.zero_mul,Nat.add_zero] at c0 c1 c2 c3
 exact ⟨b,off,_,cap,rfl,by simp,c0,c1,c2,c3⟩
attribute [local go_sem] cell_alloc_is
set_option maxHeartbeats 8000000 in
theorem unary_any (op:ByteArray) (l:ValD) (v:Value) (w:World) (h:ValV w v l) (hp:Pow w) (ho:OkV l) :
  Calls Tryz.prog 76 #[.string op,v] w (RetR w [] (unaryR op l)):=by
 obtain ⟨P,hP⟩:∃ P:Ending→World→Prop,RetR w [] (unaryR op l)=P:=⟨_,rfl⟩
 rw [hP]
 have HP:=Lib.hid hP
 have HV:=Lib.hid h
 have HPW:=Lib.hid hp
 obtain ⟨A,n,cap,rfl⟩:=h.shape
 have HCK:Hid (Calls Tryz.prog 115 #[.slice (some ⟨w.heap.size,0,none⟩) 1 1] (w.alloc (.cells #[.slice A n cap] 96)) fun e w'=>e=.returned (.int .i64 (checkF l))∧Below w.heap.size w w'):=Lib.hid (by
  have:=echeck_any [l] _ (w.alloc (.cells #[.slice A n cap] 96)) (vals1 (Blk.new _ _ _) (h.below (below_new _ _))) (hp.below (below_new _ _)) (by simpa using ho)
  rw [firstBad_one] at this
  exact this.mono fun e w' ⟨he,hb⟩=>⟨he,below_call hb (below_new _ _)⟩)
 by_cases hop:op.toList=[45]∨op.toList=[110,111,116]
 case neg =>
  have h1:¬ op.toList=[45]:=fun e=>hop (.inl e)
  have h2:¬ op.toList=[110,111,116]:=fun e=>hop (.inr e)
  have h1':=ne_str h1
  have h2':=ne_str h2
  have HR:Hid (unaryR op l=([],4)):=Lib.hid (by unfold unaryR;rw [if_pos hop])
  clear hop h hp ho hP
  go_enter Tryz.func76,Tryz.ntmps76
  go_wp2_with (fail)
  rw [← HP.out]
  exact RetR.err HR.out (Below.refl _ _)
 by_cases hck:checkF l=0
 case neg =>
  have HR:Hid (unaryR op l=([],checkF l)):=Lib.hid (by unfold unaryR;rw [if_neg (not_not_intro hop),if_pos hck])
  obtain ⟨ck,hc⟩:∃ c,checkF l=c:=⟨_,rfl⟩
  rw [hc] at HCK HR hck
  have hck':(ck != 0)=true:=by simpa using hck
  clear hck h hp ho hP hc
  rcases hop with h1 | h1
  all_goals
   have h1':=eq_str h1
   go_enter Tryz.func76,Tryz.ntmps76
   go_wp2_with (first
    | (go_at_call 115;((with_reducible refine HCK.out.mono ?_);rintro e w1 ⟨rfl,hb1⟩;have HB1:=Lib.hid hb1;clear hb1)))
   rw [← HP.out]
   exact RetR.err HR.out HB1.out
 obtain ⟨c,r,rfl⟩:∃ c r,l=c :: r:=by
  cases l with
  | nil=>exact absurd rfl (check_ne hck)
  | cons c r=>exact ⟨c,r,rfl⟩
 have HK:=Lib.hid hck
 rw [hck] at HCK
 obtain ⟨b,off,n',cap',e,rfl,c0,c1,c2,c3⟩:=head_cell h
 injection e with e1 e2 e3
 subst e1 e2 e3
 have HC0:=Lib.hid c0
 have HC1:=Lib.hid c1
 have HIR:Hid (c.kind=3→inRange c.int=true):=Lib.hid fun hk=>int_range hck (by simp) hk
 have hpos:(0:Int)<((r.length+1:Nat):Int):=by omega
 obtain ⟨N,hN⟩:∃ N,r.length+1=N:=⟨_,rfl⟩
 rw [hN] at HCK HV hpos ⊢
 have HU:Hid (unaryR op (c :: r)=if op.toList=[110,111,116]∧c.kind=2 then ([bCel (decide (c.int=0))],0) else if op.toList=[45]∧c.kind=3 then ([iCel (-c.int)],0) else ([],7)):=Lib.hid (by
  unfold unaryR;rw [if_neg (not_not_intro hop),if_neg (by simpa using hck)])
 have HT:Hid (∀ wx,Below w.heap.size w wx→Calls Tryz.prog 116 #[.slice (some ⟨b,off,none⟩) N cap] wx fun e w'=>e=.returned (.tuple #[.bool (c.int != 0),.bool (c.kind == 2)])∧∃ q,w'=wx.drewN q):=Lib.hid fun wx hb=>truth_any c r _ wx (HV.out.below hb)
 obtain ⟨k,i,s,nn⟩:=c
 dsimp only at HT HU HIR HC0 HC1
 clear hck h hp ho hP hN c0 c1 c2 c3
 have HBT:Hid (∀ bb wx,Calls Tryz.prog 117 #[.bool bb] wx fun e w'=>∃ u,e=.returned u∧ValV w' u [bCel bb]∧FromC wx w' [] u∧Below wx.heap.size wx w'):=Lib.hid cbool_any
 rcases hop with h1 | h1
 ·have h1':=eq_str h1
  have h2':(op.toList == [110,111,116])=false:=by rw [h1];rfl
  have hne:¬ op.toList=[110,111,116]:=by rw [h1];decide
  have HU2:Hid (unaryR op (⟨k,i,s,nn⟩ :: r)=if k=3 then ([iCel (-i)],0) else ([],7)):=Lib.hid (by rw [HU.out,if_neg (fun e=>hne e.1)];by_cases hk:k=3 <;> simp [h1,hk])
  clear h1 hne HU
  by_cases hk:k=3
  ·subst hk
   have hir:=HIR.out rfl
   have hir2:=hir
   simp only [inRange,Bool.and_eq_true,decide_eq_true_eq] at hir2
   have HI:Hid (∀ wx,Below w.heap.size w wx→Calls Tryz.prog 118 #[.int .i64 (-i)] wx (RetR wx [] ([iCel (-i)],0))):=Lib.hid fun wx hb=>by
    have:=cint_any (-i) wx (HPW.out.below hb) (by omega) (by omega)
    rwa [okR_int (inRange_neg hir)] at this
   have hw1 : -9223372036854775808≤-i:=by omega
   have hw2 : -i≤9223372036854775807:=by omega
   have HR:Hid (unaryR op (⟨3,i,s,nn⟩ :: r)=([iCel (-i)],0)):=Lib.hid (by rw [HU2.out,if_pos rfl])
   clear hir hir2 HIR HU2
   go_enter Tryz.func76,Tryz.ntmps76
   go_wp2_with (first
    | (go_at_call 115;((with_reducible refine HCK.out.mono ?_);rintro e w1 ⟨rfl,hb1⟩;have HB1:=Lib.hid hb1;have c0:=(hb1.cell (p:=⟨b,off,none⟩) (World.block_lt_of_cell? _ _ HC0.out)).trans HC0.out;have c1:=(hb1.cell (p:=⟨b,off+1,none⟩) (World.block_lt_of_cell? _ _ HC1.out)).trans HC1.out;clear hb1))
    | (go_at_call 116;((with_reducible refine (HT.out _ HB1.out).mono ?_);rintro e w2 ⟨rfl,q,rfl⟩;have HB2:=Lib.hid (below_drewN HB1.out q)))
    | (go_at_call 118;((with_reducible refine (HI.out _ HB2.out).mono ?_);rintro e w3 ⟨u,rfl,hu,hf,hb3⟩;have HU3:=Lib.hid hu;have HF3:=Lib.hid hf;have HB3:=Lib.hid (below_call hb3 HB2.out);clear hu hf hb3)))
   rw [← HP.out,HR.out]
   exact ⟨u,rfl,HU3.out,HF3.out.up HB2.out.size (Below.refl _ _),HB3.out⟩
  ·have hk':(k == 3)=false:=by simpa using hk
   have HR:Hid (unaryR op (⟨k,i,s,nn⟩ :: r)=([],7)):=Lib.hid (by rw [HU2.out,if_neg hk])
   clear HU2
   go_enter Tryz.func76,Tryz.ntmps76
   go_wp2_with (first
    | (go_at_call 115;((with_reducible refine HCK.out.mono ?_);rintro e w1 ⟨rfl,hb1⟩;have HB1:=Lib.hid hb1;have c0:=(hb1.cell (p:=⟨b,off,none⟩) (World.block_lt_of_cell? _ _ HC0.out)).trans HC0.out;clear hb1))
    | (go_at_call 116;((with_reducible refine (HT.out _ HB1.out).mono ?_);rintro e w2 ⟨rfl,q,rfl⟩;have HB2:=Lib.hid (below_drewN HB1.out q))))
   rw [← HP.out]
   exact RetR.err HR.out HB2.out
 ·have h1':(op.toList == [45])=false:=by rw [h1];rfl
  have h2':=eq_str h1
  have hne:¬ op.toList=[45]:=by rw [h1];decide
  have HU2:Hid (unaryR op (⟨k,i,s,nn⟩ :: r)=if k=2 then ([bCel (decide (i=0))],0) else ([],7)):=Lib.hid (by
   rw [HU.out]
   by_cases hk:k=2
   ·rw [if_pos ⟨h1,hk⟩,if_pos hk]
   ·rw [if_neg (fun e=>hk e.2),if_neg (fun e=>hne e.1),if_neg hk])
  clear h1 hne HU
  by_cases hk:k=2
  ·subst hk
   have HR:Hid (unaryR op (⟨2,i,s,nn⟩ :: r)=([bCel (decide (i=0))],0)):=Lib.hid (by rw [HU2.out,if_pos rfl])
   clear HU2
   obtain ⟨tb,htb⟩:∃ t,(i != 0)=t:=⟨_,rfl⟩
   rw [htb] at HT
   have HTB:Hid (decide (i=0)=!tb):=Lib.hid (by rw [← htb];by_cases hz:i=0 <;> simp [hz])
   clear htb
   cases tb
   all_goals
    go_enter Tryz.func76,Tryz.ntmps76
    go_wp2_with (first
     | (go_at_call 115;((with_reducible refine HCK.out.mono ?_);rintro e w1 ⟨rfl,hb1⟩;have HB1:=Lib.hid hb1;clear hb1))
     | (go_at_call 116;((with_reducible refine (HT.out _ HB1.out).mono ?_);rintro e w2 ⟨rfl,q,rfl⟩;have HB2:=Lib.hid (below_drewN HB1.out q)))
     | (go_at_call 117;((with_reducible refine (HBT.out _ _).mono ?_);rintro e w3 ⟨u,rfl,hu,hf,hb3⟩;have HU3:=Lib.hid hu;have HF3:=Lib.hid hf;have HB3:=Lib.hid (below_call hb3 HB2.out);clear hu hf hb3)))
    rw [← HP.out,HR.out,HTB.out]
    exact ⟨u,rfl,HU3.out,HF3.out.up HB2.out.size (Below.refl _ _),HB3.out⟩
  ·have hk':(k == 2)=false:=by simpa using hk
   have HR:Hid (unaryR op (⟨k,i,s,nn⟩ :: r)=([],7)):=Lib.hid (by rw [HU2.out,if_neg hk])
   clear HU2
   go_enter Tryz.func76,Tryz.ntmps76
   go_wp2_with (first
    | (go_at_call 115;((with_reducible refine HCK.out.mono ?_);rintro e w1 ⟨rfl,hb1⟩;have HB1:=Lib.hid hb1;clear hb1))
    | (go_at_call 116;((with_reducible refine (HT.out _ HB1.out).mono ?_);rintro e w2 ⟨rfl,q,rfl⟩;have HB2:=Lib.hid (below_drewN HB1.out q))))
   rw [← HP.out]
   exact RetR.err HR.out HB2.out
end
section
open Go.RowKit
set_option maxRecDepth 100000
/-- What each operator's function answers: a number and an error. -/
def arithN (op:List UInt8) (a b:Int):Int × Int :=
 if op=[43] then numI (a+b) else if op=[45] then numI (a - b) else if op=[42] then numI (a * b)
 else if op=[47] then ((dmI a b).1,(dmI a b).2.2) else ((dmI a b).2.1,(dmI a b).2.2)
theorem numI_ok {n:Int} (h:(numI n).2=0):inRange (numI n).1=true:=by
 unfold numI at h ⊢
 split
 ·rename_i h1;exact h1
 ·rename_i h1;rw [if_neg h1] at h;simp at h
theorem dmI_ok {a b:Int} (ha:inRange a=true) (hb:inRange b=true) (h:(dmI a b).2.2=0):inRange (dmI a b).1=true∧inRange (dmI a b).2.1=true:=by
 unfold dmI at h ⊢
 by_cases h0:b=0
 ·rw [if_pos h0] at h;simp at h
 ·rw [if_neg h0]
  simp only [inRange,Bool.and_eq_true,decide_eq_true_eq] at ha hb
  exact fdiv_bd ha hb h0
theorem arithN_ok {op:List UInt8} {a b:Int} (ha:inRange a=true) (hb:inRange b=true) (h:(arithN op a b).2=0):inRange (arithN op a b).1=true:=by
 unfold arithN at h ⊢
 repeat' split at h
 ·rename_i h1;rw [if_pos h1];exact numI_ok h
 ·rename_i h1 h2;rw [if_neg h1,if_pos h2];exact numI_ok h
 ·rename_i h1 h2 h3;rw [if_neg h1,if_neg h2,if_pos h3];exact numI_ok h
 ·rename_i h1 h2 h3 h4;rw [if_neg h1,if_neg h2,if_neg h3,if_pos h4];exact (dmI_ok ha hb h).1
 ·rename_i h1 h2 h3 h4;rw [if_neg h1,if_neg h2,if_neg h3,if_neg h4];exact (dmI_ok ha hb h).2
theorem numR_eq (n:Int):numR n=if (numI n).2=0 then ([iCel (numI n).1],0) else ([],(numI n).2):=by
 unfold numR numI
 split <;> simp
theorem arithR_eq (op:List UInt8) (a b:Int):arithR op a b=if (arithN op a b).2=0 then ([iCel (arithN op a b).1],0) else ([],(arithN op a b).2):=by
 unfold arithR arithN
 by_cases h1:op=[43]
 ·rw [if_pos h1,if_pos h1];exact numR_eq _
 by_cases h2:op=[45]
 ·rw [if_neg h1,if_pos h2,if_neg h1,if_pos h2];exact numR_eq _
 by_cases h3:op=[42]
 ·rw [if_neg h1,if_neg h2,if_pos h3,if_neg h1,if_neg h2,if_pos h3];exact numR_eq _
 rw [if_neg h1,if_neg h2,if_neg h3,if_neg h1,if_neg h2,if_neg h3]
 by_cases h0:b=0
 ·rw [if_pos h0];unfold dmI;rw [if_pos h0];split <;> rfl
 ·rw [if_neg h0];unfold dmI;rw [if_neg h0]
  by_cases h4:op=[47]
  ·rw [if_pos h4,if_pos h4];rfl
  ·rw [if_neg h4,if_neg h4];rfl
attribute [local go_sem] cell_alloc_is
set_option maxHeartbeats 8000000 in
theorem arith_any (op:ByteArray) (a b:Int) (w:World) (hp:Pow w) (ha:inRange a=true) (hb:inRange b=true) :
  Calls Tryz.prog 123 #[.string op,.int .i64 a,.int .i64 b] w (RetR w [] (arithR op.toList a b)):=by
 obtain ⟨P,hP⟩:∃ P:Ending→World→Prop,RetR w [] (arithR op.toList a b)=P:=⟨_,rfl⟩
 rw [hP]
 have HP:=Lib.hid hP
 obtain ⟨x,e,hxe,HR,HI⟩:∃ x e,arithN op.toList a b=(x,e)∧Hid (arithR op.toList a b=if e=0 then ([iCel x],0) else ([],e))∧Hid (e=0→∀ wx,Below w.heap.size w wx→Calls Tryz.prog 118 #[.int .i64 x] wx (RetR wx [] ([iCel x],0))):=by
  refine ⟨_,_,rfl,Lib.hid (arithR_eq _ _ _),Lib.hid fun h wx hbl=>?_⟩
  have hr:=arithN_ok ha hb h
  have hr2:=hr
  simp only [inRange,Bool.and_eq_true,decide_eq_true_eq] at hr2
  have:=cint_any (arithN op.toList a b).1 wx (hp.below hbl) (by omega) (by omega)
  rwa [okR_int hr] at this
 have H1:Hid (op.toList=[43]→Calls Tryz.prog 157 #[.int .i64 a,.int .i64 b] w fun en w'=>en=.returned (.tuple #[.int .i64 x,.int .i64 e])∧Below w.heap.size w w'):=Lib.hid fun h=>by
  have:=nadd_any a b w ha hb
  rw [show numI (a+b)=(x,e) by rw [← hxe];unfold arithN;rw [if_pos h]] at this
  exact this
 have H2:Hid (op.toList=[45]→Calls Tryz.prog 158 #[.int .i64 a,.int .i64 b] w fun en w'=>en=.returned (.tuple #[.int .i64 x,.int .i64 e])∧Below w.heap.size w w'):=Lib.hid fun h=>by
  have:=nsub_any a b w ha hb
  rw [show numI (a - b)=(x,e) by rw [← hxe];unfold arithN;rw [h];rfl] at this
  exact this
 have H3:Hid (op.toList=[42]→Calls Tryz.prog 159 #[.int .i64 a,.int .i64 b] w fun en w'=>en=.returned (.tuple #[.int .i64 x,.int .i64 e])∧Below w.heap.size w w'):=Lib.hid fun h=>by
  have:=nmul_any a b w ha hb
  rw [show numI (a * b)=(x,e) by rw [← hxe];unfold arithN;rw [h];rfl] at this
  exact this
 have H4:Hid (op.toList=[47]→Calls Tryz.prog 160 #[.int .i64 a,.int .i64 b] w fun en w'=>∃ y,en=.returned (.tuple #[.int .i64 x,.int .i64 y,.int .i64 e])∧Below w.heap.size w w'):=Lib.hid fun h=>by
  have h2:((dmI a b).1,(dmI a b).2.2)=(x,e):=by rw [← hxe];unfold arithN;rw [h];rfl
  injection h2 with h2 h3
  exact (ndiv_any a b w ha hb).mono fun en w' ⟨he,hbl⟩=>⟨(dmI a b).2.1,by rw [he,h2,h3],hbl⟩
 have H5:Hid (op.toList≠[43]→op.toList≠[45]→op.toList≠[42]→op.toList≠[47]→Calls Tryz.prog 160 #[.int .i64 a,.int .i64 b] w fun en w'=>∃ y,en=.returned (.tuple #[.int .i64 y,.int .i64 x,.int .i64 e])∧Below w.heap.size w w'):=Lib.hid fun n1 n2 n3 n4=>by
  have h2:((dmI a b).2.1,(dmI a b).2.2)=(x,e):=by rw [← hxe];unfold arithN;rw [if_neg n1,if_neg n2,if_neg n3,if_neg n4]
  injection h2 with h2 h3
  exact (ndiv_any a b w ha hb).mono fun en w' ⟨he,hbl⟩=>⟨(dmI a b).1,by rw [he,h2,h3],hbl⟩
 clear hP hp ha hb hxe
 by_cases he:e=0
 ·subst he
  have HR2:Hid (arithR op.toList a b=([iCel x],0)):=Lib.hid (by rw [HR.out,if_pos rfl])
  have HI2:=Lib.hid (HI.out rfl)
  clear HR HI
  by_cases h1:op.toList=[43]
  ·have HC:=Lib.hid (H1.out h1)
   clear H1 H2 H3 H4 H5
   have h1':=eq_str h1
   go_enter Tryz.func123,Tryz.ntmps123
   go_wp2_with (first
    | (go_at_call 157;((with_reducible refine HC.out.mono ?_);rintro e w1 ⟨rfl,hb1⟩;have HB1:=Lib.hid hb1;clear hb1))
    | (go_at_call 118;((with_reducible refine (HI2.out _ HB1.out).mono ?_);rintro e w2 ⟨u,rfl,hu,hf,hb2⟩;have HU:=Lib.hid hu;have HF:=Lib.hid hf;have HB2:=Lib.hid (below_call hb2 HB1.out);clear hu hf hb2)))
   rw [← HP.out,HR2.out]
   exact ⟨u,rfl,HU.out,HF.out.up HB1.out.size (Below.refl _ _),HB2.out⟩
  have h1':=ne_str h1
  by_cases h2:op.toList=[45]
  ·have HC:=Lib.hid (H2.out h2)
   clear H1 H2 H3 H4 H5
   have h2':=eq_str h2
   go_enter Tryz.func123,Tryz.ntmps123
   go_wp2_with (first
    | (go_at_call 158;((with_reducible refine HC.out.mono ?_);rintro e w1 ⟨rfl,hb1⟩;have HB1:=Lib.hid hb1;clear hb1))
    | (go_at_call 118;((with_reducible refine (HI2.out _ HB1.out).mono ?_);rintro e w2 ⟨u,rfl,hu,hf,hb2⟩;have HU:=Lib.hid hu;have HF:=Lib.hid hf;have HB2:=Lib.hid (below_call hb2 HB1.out);clear hu hf hb2)))
   rw [← HP.out,HR2.out]
   exact ⟨u,rfl,HU.out,HF.out.up HB1.out.size (Below.refl _ _),HB2.out⟩
  have h2':=ne_str h2
  by_cases h3:op.toList=[42]
  ·have HC:=Lib.hid (H3.out h3)
   clear H1 H2 H3 H4 H5
   have h3':=eq_str h3
   go_enter Tryz.func123,Tryz.ntmps123
   go_wp2_with (first
    | (go_at_call 159;((with_reducible refine HC.out.mono ?_);rintro e w1 ⟨rfl,hb1⟩;have HB1:=Lib.hid hb1;clear hb1))
    | (go_at_call 118;((with_reducible refine (HI2.out _ HB1.out).mono ?_);rintro e w2 ⟨u,rfl,hu,hf,hb2⟩;have HU:=Lib.hid hu;have HF:=Lib.hid hf;have HB2:=Lib.hid (below_call hb2 HB1.out);clear hu hf hb2)))
   rw [← HP.out,HR2.out]
   exact ⟨u,rfl,HU.out,HF.out.up HB1.out.size (Below.refl _ _),HB2.out⟩
  have h3':=ne_str h3
  by_cases h4:op.toList=[47]
  ·have HC:=Lib.hid (H4.out h4)
   clear H1 H2 H3 H4 H5
   have h4':=eq_str h4
   go_enter Tryz.func123,Tryz.ntmps123
   go_wp2_with (first
    | (go_at_call 160;((with_reducible refine HC.out.mono ?_);rintro e w1 ⟨y,rfl,hb1⟩;have HB1:=Lib.hid hb1;clear hb1))
    | (go_at_call 118;((with_reducible refine (HI2.out _ HB1.out).mono ?_);rintro e w2 ⟨u,rfl,hu,hf,hb2⟩;have HU:=Lib.hid hu;have HF:=Lib.hid hf;have HB2:=Lib.hid (below_call hb2 HB1.out);clear hu hf hb2)))
   rw [← HP.out,HR2.out]
   exact ⟨u,rfl,HU.out,HF.out.up HB1.out.size (Below.refl _ _),HB2.out⟩
  ·have HC:=Lib.hid (H5.out h1 h2 h3 h4)
   clear H1 H2 H3 H4 H5
   have h4':=ne_str h4
   go_enter Tryz.func123,Tryz.ntmps123
   go_wp2_with (first
    | (go_at_call 160;((with_reducible refine HC.out.mono ?_);rintro e w1 ⟨y,rfl,hb1⟩;have HB1:=Lib.hid hb1;clear hb1))
    | (go_at_call 118;((with_reducible refine (HI2.out _ HB1.out).mono ?_);rintro e w2 ⟨u,rfl,hu,hf,hb2⟩;have HU:=Lib.hid hu;have HF:=Lib.hid hf;have HB2:=Lib.hid (below_call hb2 HB1.out);clear hu hf hb2)))
   rw [← HP.out,HR2.out]
   exact ⟨u,rfl,HU.out,HF.out.up HB1.out.size (Below.refl _ _),HB2.out⟩
 ·have HR2:Hid (arithR op.toList a b=([],e)):=Lib.hid (by rw [HR.out,if_neg he])
  have he':(e != 0)=true:=by simpa using he
  clear HR HI he
  by_cases h1:op.toList=[43]
  ·have HC:=Lib.hid (H1.out h1)
   clear H1 H2 H3 H4 H5
   have h1':=eq_str h1
   go_enter Tryz.func123,Tryz.ntmps123
   go_wp2_with (first
    | (go_at_call 157;((with_reducible refine HC.out.mono ?_);rintro e w1 ⟨rfl,hb1⟩;have HB1:=Lib.hid hb1;clear hb1)))
   rw [← HP.out]
   exact RetR.err HR2.out HB1.out
  have h1':=ne_str h1
  by_cases h2:op.toList=[45]
  ·have HC:=Lib.hid (H2.out h2)
   clear H1 H2 H3 H4 H5
   have h2':=eq_str h2
   go_enter Tryz.func123,Tryz.ntmps123
   go_wp2_with (first
    | (go_at_call 158;((with_reducible refine HC.out.mono ?_);rintro e w1 ⟨rfl,hb1⟩;have HB1:=Lib.hid hb1;clear hb1)))
   rw [← HP.out]
   exact RetR.err HR2.out HB1.out
  have h2':=ne_str h2
  by_cases h3:op.toList=[42]
  ·have HC:=Lib.hid (H3.out h3)
   clear H1 H2 H3 H4 H5
   have h3':=eq_str h3
   go_enter Tryz.func123,Tryz.ntmps123
   go_wp2_with (first
    | (go_at_call 159;((with_reducible refine HC.out.mono ?_);rintro e w1 ⟨rfl,hb1⟩;have HB1:=Lib.hid hb1;clear hb1)))
   rw [← HP.out]
   exact RetR.err HR2.out HB1.out
  have h3':=ne_str h3
  by_cases h4:op.toList=[47]
  ·have HC:=Lib.hid (H4.out h4)
   clear H1 H2 H3 H4 H5
   have h4':=eq_str h4
   go_enter Tryz.func123,Tryz.ntmps123
   go_wp2_with (first
    | (go_at_call 160;((with_reducible refine HC.out.mono ?_);rintro e w1 ⟨y,rfl,hb1⟩;have HB1:=Lib.hid hb1;clear hb1)))
   rw [← HP.out]
   exact RetR.err HR2.out HB1.out
  ·have HC:=Lib.hid (H5.out h1 h2 h3 h4)
   clear H1 H2 H3 H4 H5
   have h4':=ne_str h4
   go_enter Tryz.func123,Tryz.ntmps123
   go_wp2_with (first
    | (go_at_call 160;((with_reducible refine HC.out.mono ?_);rintro e w1 ⟨y,rfl,hb1⟩;have HB1:=Lib.hid hb1;clear hb1)))
   rw [← HP.out]
   exact RetR.err HR2.out HB1.out
end
section
open Go.RowKit
set_option maxRecDepth 100000
theorem FromC.own {w w1 w2:World} {S:List Value} {v u:Value} {l:ValD} (h:FromC w1 w2 (v :: S) u) (ho:OVal w1 w.heap.size v l) (hb:Below w1.heap.size w1 w2) (h1:w.heap.size≤w1.heap.size):FromC w w2 S u:=fun b off n cap e=>by
 rcases h b off n cap e with ⟨x,hx,off',n',cap',rfl⟩ | ⟨h3,r⟩
 ·rcases List.mem_cons.1 hx with hx | hx
  ·rcases ho.2 with ⟨ev,_⟩ | ⟨g,c,cur,ev,hbg,hblk,_⟩
   ·rw [ev] at hx;cases hx
   ·rw [ev] at hx
    injection hx with hx _ _
    injection hx with hx
    injection hx with hx
    subst hx
    exact .inr ⟨hbg,_,_,(hb.block _ (lt_of_block hblk)).trans hblk⟩
  ·exact .inl ⟨_,hx,off',n',cap',rfl⟩
 ·exact .inr ⟨by omega,r⟩
theorem RetR.own {w w1 w2:World} {v:Value} {l:ValD} {r:ResD} {e:Ending} (h:RetR w1 [v] r e w2) (ho:OVal w1 w.heap.size v l) (hb:Below w.heap.size w w1):RetR w [] r e w2:=by
 obtain ⟨u,he,hu,hf,hb2⟩:=h
 exact ⟨u,he,hu,hf.own ho hb2 hb.size,below_call hb2 hb⟩
theorem len200 {x:ValD} (h:checkF x=0):x.length≤200:=by
 obtain ⟨_,_,_,_,_,h,_⟩:=checkF_zero.1 h
 exact h
attribute [local go_sem] cell_alloc_is
theorem OVal.more {w:World} {base:Nat} {v:Value} {a b:ValD} {n:Nat} {xs:List Value} (h:w.ownsRow base 103 4 v n xs) (hn:n=a.length+b.length) (hx:xs=a.flatMap CellD.cells ++ b.flatMap CellD.cells):OVal w base v (a ++ b):=by
 unfold OVal
 rw [List.length_append,List.flatMap_append,← hn,← hx]
 exact h
/-- The cells of a value that is not empty, at an address. -/
theorem at_cells {w:World} {A:Option Addr} {x:ValD} (h:SlAt w A 4 CellD.cells x) (hne:x≠[]):∃ b off,A=some ⟨b,off,none⟩∧∀ w',Below w.heap.size w w'→∀ j u,(x.flatMap CellD.cells)[j]? = some u→w'.cell? ((⟨b,off,none⟩:Addr).add j)=some u:=by
 have hlt:0<x.length:=List.length_pos_iff.2 hne
 obtain ⟨b,off,rfl,_⟩:=h.ptr hlt
 refine ⟨b,off,rfl,fun w' hb j u hj=>?_⟩
 obtain ⟨n,k,hn,rfl,hk⟩:=cells_at x j u hj
 rw [addr_add,← Nat.add_assoc]
 exact (h.below hb).cell hn hk
end
section
open Go.RowKit
set_option maxRecDepth 100000
def listM (N:Int) (l:List ValD):ValD:=⟨5,0,⟨#[]⟩,N⟩ :: l.flatten
theorem listM_all (l:List ValD):listM (l.length:Nat) l=listV l:=rfl
theorem listM_snoc {N:Int} {l:List ValD} {k:Nat} (h:k<l.length):listM N (l.take (k+1))=listM N (l.take k) ++ l[k]:=by
 unfold listM
 rw [List.take_succ_eq_append_getElem h,List.flatten_append]
 simp
theorem take_flat (l:List ValD) (k:Nat):(l.take k).flatten.length≤l.flatten.length:=by
 have h:=congrArg List.flatten (List.take_append_drop k l)
 rw [List.flatten_append] at h
 have:=congrArg List.length h
 rw [List.length_append] at this
 omega
theorem listM_ok {N:Int} {l:List ValD} (hN:0≤N∧N≤10000) (h:∀ p∈l,checkF p=0) (h2:∀ p∈l,OkV p) (hl:l.flatten.length≤9000):OkV (listM N l):=by
 refine ⟨by unfold listM;rw [List.length_cons];omega,fun c hc=>?_⟩
 unfold listM at hc
 rcases List.mem_cons.1 hc with rfl | hc
 ·exact ⟨by show (0:Nat)≤_;omega,by show (_:Int)≤0∧(0:Int)≤_;omega,by show N≤_;omega⟩
 ·obtain ⟨p,hp,hc⟩:=List.mem_flatten.1 hc
  exact (h2 p hp).2 c hc
attribute [local go_sem] cell_alloc_is
set_option maxHeartbeats 8000000 in
theorem vlist_any (l:List ValD) (lv:Value) (w:World) (hl:ValsV w lv l) (hp:Pow w) (ho:∀ x∈l,OkV x) (hn:l.length≤4000) (hfl:l.flatten.length≤9000) :
  Calls Tryz.prog 163 #[lv] w (RetR w [] (listR l)):=by
 obtain ⟨P,hP⟩:∃ P:Ending→World→Prop,RetR w [] (listR l)=P:=⟨_,rfl⟩
 rw [hP]
 have HP:=Lib.hid hP
 obtain ⟨i0,hi,hz0,hz1,hz2⟩:=info_parts Tryz.infoCell
 obtain ⟨A,cap,vs,rfl,hc,hm,hs,hla,hva⟩:=hl.at
 have HS:=Lib.hid hs
 have HV:=Lib.hid hva
 have HLA:=Lib.hid hla
 have HW:=Lib.hid hp
 have HO:=Lib.hid ho
 have HL:Hid (l.length≤4000):=Lib.hid hn
 have HFLT:=Lib.hid hfl
 clear hfl
 clear hP hs hva hla hp ho hl hc hm
 have hB0:Below w.heap.size w (w.alloc (.cells #[.int .i64 5,.int .i64 0,.string ⟨#[]⟩,.int .i64 l.length] 103)):=below_new _ _
 have HB0:=Lib.hid hB0
 have HO0:Hid (OVal (w.alloc (.cells #[.int .i64 5,.int .i64 0,.string ⟨#[]⟩,.int .i64 l.length] 103)) w.heap.size (.slice (some ⟨w.heap.size,0,none⟩) 1 1) (listM (l.length:Nat) (l.take 0))):=Lib.hid (oval_blkE (l:=listM (l.length:Nat) (l.take 0)) (Blk.new w _ _) (Nat.le_refl _) rfl (by simp [listM]))
 have hnn:(l.length:Int)≤4000:=by omega
 obtain ⟨N,hN⟩:∃ N,l.length=N:=⟨_,rfl⟩
 rw [hN] at hnn HO0 HB0 ⊢
 have HN:=Lib.hid hN
 clear hB0 hN hn
 go_enter Tryz.func163,Tryz.ntmps163
 go_wp2_with (fail)
 go_loopw [4,6,7,14] (fun o _ _ i wr=>∃ k:Nat,k≤N∧i=.int .i64 k∧Hid (∀ x∈l.take k,checkF x=0)∧OVal wr w.heap.size o (listM (N:Nat) (l.take k))∧Below w.heap.size w wr) (fun _ _ _ i _=>N - (intOf i).toNat)
 case atStart=>exact ⟨0,Nat.zero_le _,rfl,Lib.hid (by simp),HO0.out,HB0.out⟩
 case round =>
  obtain ⟨k,hk,rfl,HR,hown,hbel⟩:=hrel
  have HB:=Lib.hid hbel
  have HOW:=Lib.hid hown
  obtain ⟨oA,oc,hov⟩:=own_shape hown
  subst hov
  clear hbel hown
  have hk0:(0:Int)≤(k:Int):=by omega
  by_cases hlt:k<N
  ·have hlt':(k:Int)<(N:Int):=by omega
   have hlk:k<l.length:=by rw [HN.out];exact hlt
   have hna:k<vs.length:=by rw [HLA.out];exact hlk
   have hsa:=HS.out.below HB.out
   obtain ⟨x,hx⟩:∃ x,vs[k]=x:=⟨_,rfl⟩
   have hvx:ValV w x l[k]:=(hx ▸ HV.out k hna hlk:ValV w x l[k])
   obtain ⟨A1,k1,rfl,hc1,hm1,hs1⟩:=hvx.at
   obtain ⟨bA,off,rfl,_⟩:=hsa.ptr hna
   have c0:=hsa.cell0 hna (v:=.slice A1 l[k].length k1) (by rw [hx];rfl)
   simp only [Nat.mul_one] at c0
   have hok:OkV l[k]:=HO.out _ (List.getElem_mem hlk)
   have HC:=Lib.hid (vcheck_any l[k] A1 k1 wr (hs1.below HB.out) (HW.out.below HB.out) hok.1 hc1 hok.2)
   have HX:=Lib.hid hs1
   obtain ⟨ck,hck⟩:∃ c,checkF l[k]=c:=⟨_,rfl⟩
   rw [hck] at HC
   have HCK:=Lib.hid hck
   obtain ⟨q,hq⟩:∃ q,l[k].length=q:=⟨_,rfl⟩
   rw [hq] at HC c0
   have HQ:=Lib.hid hq
   clear hsa hx hvx hs1 hc1 hm1 hok hck hq
   by_cases h0:ck=0
   ·subst h0
    obtain ⟨bX,offX,rfl,hat⟩:=at_cells HX.out (check_ne HCK.out)
    have HAT:=Lib.hid hat
    have hq200:q≤200:=by rw [← HQ.out];exact len200 HCK.out
    have hqn:l[k].length=q:=HQ.out
    have hml:(listM (N:Nat) (l.take k)).length≤9001:=by
     have:=take_flat l k
     have:=HFLT.out
     unfold listM
     rw [List.length_cons]
     omega
    have hsn:listM (N:Nat) (l.take (k+1))=listM (N:Nat) (l.take k) ++ l[k]:=listM_snoc hlk
    have HSN:=Lib.hid hsn
    have HML:=Lib.hid hml
    obtain ⟨M,hM⟩:∃ M,listM (N:Nat) (l.take k)=M:=⟨_,rfl⟩
    rw [hM] at HOW HSN HML ⊢
    have hbq:(M.length+q) * 40≤140737488355328:=by
     have:=HML.out
     omega
    have hbm:M.length+q≤maxLen:=by
     have:=HML.out
     unfold maxLen;omega
    have hn6:M.length≤10000:=by
     have:=HML.out
     omega
    clear hat hM hsn hml
    go_wp2_with (first
     | (go_at_call 152;(with_reducible refine HC.out.mono ?_);rintro e w1 ⟨rfl,hb1⟩;have HB1:=Lib.hid hb1;have HO1:Hid (w1.ownsRow w.heap.size 103 4 (.slice oA M.length oc) M.length (M.flatMap CellD.cells)):=Lib.hid (HOW.out.below hb1);have hsz1:w.heap.size≤w1.heap.size:=Nat.le_trans HB.out.size hb1.size;clear hb1)
     | (at_builtin;refine wpList_append_own _ rfl (.tmp 23) (.tmp 24) 96 rfl w.heap.size 103 i0 _ 4 40 Tryz.underlying96 hi hz0 hz1 hz2 rfl (by omega) _ M.length (M.flatMap CellD.cells) rfl HO1.out ⟨bX,offX,none⟩ q k1 (l[k].flatMap CellD.cells) rfl ?k2 ?k3 (cells_one _) hbm hbq ?k4 ?_;(case k2=>rw [cells_len,hqn]);(case k3=>exact HAT.out w1 (below_call' HB1.out HB.out HB.out.size));(case k4=>exact hsz1);intro v3 w3 hown3 hg3 _;have HO3:=Lib.hid (OVal.more (a:=M) (b:=l[k]) hown3 (by simp [hqn]) rfl);have HB3:=Lib.hid ((below_call' HB1.out HB.out HB.out.size).grown hg3 hsz1 (fun g hg=>(HO1.out.lt g hg).1));clear hown3 hg3))
    exact ⟨⟨k+1,by omega,by simp,Lib.hid (by
     rw [List.take_succ_eq_append_getElem hlk]
     intro x hx
     rcases List.mem_append.1 hx with hx | hx
     ·exact HR.out x hx
     ·have:x=l[k]:=by simpa using hx
      rw [this];exact HCK.out),by rw [HSN.out];exact HO3.out,HB3.out⟩,by simp [intOf];omega⟩
   ·have h1:(ck != 0)=true:=by simpa using h0
    clear h0
    go_wp2_with (first
     | (go_at_call 152;(with_reducible refine HC.out.mono ?_);rintro e w1 ⟨rfl,hb1⟩;have HB1:=Lib.hid (below_call' hb1 HB.out HB.out.size);clear hb1))
    rw [← HP.out]
    have hfb:listR l=([],ck):=by
     have e1:=firstBad_bad l k hlk HR.out (by rw [HCK.out];simpa using h1)
     unfold listR
     rw [e1,HCK.out,if_pos (by simpa using h1)]
    exact ⟨.slice none 0 0,by rw [hfb];rfl,by rw [hfb];exact RowsV.nil none 0,FromC.none,HB1.out⟩
  ·have e:k=N:=by omega
   have HKN:=Lib.hid e
   subst e
   have hz:l.take k=l:=by rw [← HN.out,List.take_length]
   have hps:∀ p∈l,checkF p=0:=by
    have:=HR.out
    rwa [hz] at this
   have hfb:listR l=okR (listM (k:Nat) (l.take k)):=by
    have e1:=firstBad_none l hps
    unfold listR
    rw [if_neg (by rw [e1];simp),← listM_all,HN.out,hz]
   have hok:OkV (listM (k:Nat) (l.take k)):=by
    rw [hz]
    exact listM_ok (by omega) hps HO.out HFLT.out
   have hval:=HOW.out.val (by have:=hok.1;omega)
   have HC:=Lib.hid (vchecked_any _ _ wr hval (HW.out.below HB.out) hok)
   have HFB:=Lib.hid hfb
   clear hz hps hfb hok hval
   obtain ⟨M,hM⟩:∃ M,listM (k:Nat) (l.take k)=M:=⟨_,rfl⟩
   rw [hM] at HOW HFB HC ⊢
   clear hM
   go_wp2_with (first
    | (go_at_call 153;(with_reducible refine HC.out.mono ?_);rintro e w1 ⟨u,rfl,hu⟩;have HU:=Lib.hid hu;clear hu))
   rw [← HP.out,HFB.out]
   exact RetR.own ⟨u,rfl,HU.out⟩ HOW.out HB.out
end
section
open Go.RowKit
set_option maxRecDepth 100000
theorem ChainV.head {v:ValD} {m:Bool} {D:Nat} {B:Int} {a b:Nat} {l:List (ByteArray × ValD)} {p:ByteArray × ValD} (h:ChainV v m D B a (p :: l) b):∃ r,(if m=true then ∃ c,v[a]? = some c∧c.kind=4∧plainB c=true∧p.1=c.str else p.1=⟨#[]⟩)∧px v (a+m.toNat)=some r∧p.2=sec v (a+m.toNat) r.j∧ChainV v m D B r.j l b:=by
 cases h with
 | cons hp hc =>
  obtain ⟨r,h1,h2,h3,h4,_,_⟩:=hp
  subst h4
  exact ⟨r,h1,h2,h3,hc⟩
theorem ChainV.len {v:ValD} {m:Bool} {D:Nat} {B:Int} {a b:Nat} {l:List (ByteArray × ValD)} (h:ChainV v m D B a l b):a+l.length≤b:=by
 induction h with
 | nil a=>simp
 | cons hp _ ih =>
  obtain ⟨r,_,hr,_,ha,_,_⟩:=hp
  have:=(px_adv hr).1
  simp only [List.length_cons]
  omega
theorem drop_sec (v:ValD) (a:Nat):sec v a v.length=v.drop a:=by
 unfold sec
 rw [List.take_of_length_le (by simp)]
/-- The value that begins at a, in the cells from a on. -/
theorem px_drop {v:ValD} {a:Nat} {r:Sh} (h:px v a=some r):px (v.drop a) 0=some ⟨r.j - a,r.d,r.b⟩:=by
 rw [← drop_sec]
 exact px_sec h (px_adv h).2 (Nat.le_refl _)
theorem SlAt.sub {w:World} {b off:Nat} {v:ValD} (h:SlAt w (some ⟨b,off,none⟩) 4 CellD.cells v) (a m:Nat):SlAt w (some ⟨b,off+a * 4,none⟩) 4 CellD.cells ((v.drop a).take m):=by
 intro i row hi
 rw [List.getElem?_map,List.getElem?_take] at hi
 split at hi
 ·rw [List.getElem?_drop] at hi
  obtain ⟨b',off',e,hlt,hc⟩:=h (a+i) row (by rw [List.getElem?_map];exact hi)
  simp only [Option.some.injEq,Addr.mk.injEq,and_true] at e
  obtain ⟨rfl,rfl⟩:=e
  refine ⟨b,off+a * 4,rfl,hlt,fun j u hu=>?_⟩
  have:=hc j u hu
  rw [show off+a * 4+i * 4+j=off+(a+i) * 4+j by omega]
  exact this
 ·cases hi
theorem valV_slAt {w:World} {A:Option Addr} {cap:Nat} {l:ValD} (h:SlAt w A 4 CellD.cells l) (hc:l.length≤cap) (hm:l.length≤3518437208780):ValV w (.slice A l.length cap) l :=
 ⟨A,cap,l.map CellD.cells,rfl,hc,hm,by unfold SlAt at h ⊢;rw [List.map_map];exact h,by simp,fun i hi hi'=>by simp [cellR]⟩
attribute [local go_sem] cell_alloc_is
set_option maxHeartbeats 8000000 in
/-- The elements of a list. -/
theorem parts5_any (c:CellD) (r:ValD) (v:Value) (fid:FuncId) (caps:Array Value) (w0 w:World) (h:ValV w0 v (c :: r)) (hw:Below w0.heap.size w0 w) (hp:Pow w0) (ho:OkV (c :: r)) (hck:checkF (c :: r)=0) (hk:c.kind=5) (I:Nat→World→Prop) (J:World→Prop)
  (hent:∀ args w,(callFunc fid args).run Tryz.prog w=.ok (.enter fid args) w) (h0:I 0 w) (hIB:∀ k wx,I k wx→Below w0.heap.size w0 wx) (hst:∀ k wx wy,I k wx→Below wx.heap.size wx wy→I k wy)
  (hy:∀ k wx x (hk:k<(partsOf (c :: r)).length),I k wx→ValV w0 x (partsOf (c :: r))[k].2→Calls Tryz.prog fid (#[.string (partsOf (c :: r))[k].1,x] ++ caps) wx fun e w'=>∃ b,e=.returned (.bool b)∧(b=true→I (k+1) w')∧(b=false→J w'))
  (hJ:∀ wx,I (partsOf (c :: r)).length wx→J wx) :
  Calls Tryz.prog 190 #[v,.func (.func fid) #[] caps] w fun e w'=>e=.returned (.tuple #[])∧J w':=by
 obtain ⟨b,off,n,cap,rfl,hn,c0,c1,c2,c3⟩:=head_cell h
 have hs:=fun x hx=>smallC_of (ho.2 x hx)
 obtain ⟨hpl,hnn,hch,_⟩:=parts_chain hck hs (c:=c) rfl (.inl hk)
 rw [show decide (c.kind=6)=false by simp [hk]] at hch
 have hpos:(0:Int)<(n:Int):=by omega
 have HV:=Lib.hid h
 have HCH:=Lib.hid hch
 obtain ⟨A,cap',e,hc',hm',hsl⟩:=h.at
 injection e with e1 e2 e3
 subst e1 e2 e3
 have HSL:=Lib.hid hsl
 have HOK:=Lib.hid ho
 have HP:=Lib.hid hp
 have HL:Hid ((c :: r).length≤200):=Lib.hid (len200 hck)
 have HY:=Lib.hid hy
 have HST:=Lib.hid hst
 have HIB:=Lib.hid hIB
 have HJ:=Lib.hid hJ
 have HI0:=Lib.hid h0
 obtain ⟨ps,hps⟩:∃ ps,partsOf (c :: r)=ps:=⟨_,rfl⟩
 rw [hps] at HY HJ HCH hpl
 obtain ⟨l,hl⟩:∃ l,c :: r=l:=⟨_,rfl⟩
 rw [hl] at HV HCH HSL HOK HL hc' hm' hpos ⊢
 obtain ⟨N,hN⟩:∃ N,l.length=N:=⟨_,rfl⟩
 have HN:=Lib.hid hN
 rw [hN] at hc' hm' hpos ⊢
 obtain ⟨k,i,s,nn⟩:=c
 dsimp only at c0 c3 hk hpl hnn
 have HC0:Hid (w0.cell? ⟨b,off,none⟩=some (.int .i64 5)):=Lib.hid (by rw [c0,hk])
 have HC3:Hid (w0.cell? ⟨b,off+3,none⟩=some (.int .i64 (ps.length:Nat))):=Lib.hid (by rw [c3,hpl];congr 2;omega)
 have HPS:Hid (ps.length≤200):=Lib.hid (by
  have h1:=HL.out
  have h2:=HCH.out.len
  omega)
 clear h hp ho hck c0 c1 c2 c3 hsl hst hIB hJ h0 hy hps hl hN hn hs hch hk hpl hnn
 go_enter Tryz.func190,Tryz.ntmps190
 have w1:=(hw.cell (p:=⟨b,off+3,none⟩) (World.block_lt_of_cell? _ _ HC3.out)).trans HC3.out
 go_wp2_with (fail)
 go_loopw [4,5,6,7,8,13] (fun at' _ _ _ _ j wr=>∃ k a:Nat,k≤ps.length∧j=.int .i64 k∧at'=.int .i64 a∧ChainV l false 7 4000 a (ps.drop k) N∧I k wr) (fun _ _ _ _ _ j _=>ps.length - (intOf j).toNat)
 case atStart=>exact ⟨0,1,Nat.zero_le _,rfl,rfl,by rw [← HN.out];exact HCH.out,HI0.out⟩
 case round =>
  obtain ⟨k,a,hk,rfl,rfl,hch,hi⟩:=hrel
  have HCK:=Lib.hid hch
  have HI:=Lib.hid hi
  have HB:=Lib.hid (HIB.out _ _ hi)
  have g0:=(HB.out.cell (p:=⟨b,off,none⟩) (World.block_lt_of_cell? _ _ HC0.out)).trans HC0.out
  clear hch hi
  have hk0:(0:Int)≤(k:Int):=by omega
  have hk1:(k:Int)≤200:=by have:=HPS.out;omega
  by_cases hlt:k<ps.length
  ·have hlt':(k:Int)<(ps.length:Int):=by omega
   have hch:=HCK.out
   rw [List.drop_eq_getElem_cons hlt] at hch
   obtain ⟨rr,hkey,hpx,hsec,hrest⟩:=hch.head
   have hadv:=px_adv hpx
   have hrest2:=hrest.le
   simp only [Bool.toNat_false,Nat.add_zero] at hpx hadv hsec
   obtain ⟨q,hq⟩:∃ q,rr.j=a+q:=⟨rr.j - a,by omega⟩
   have haN:a+q≤N:=by rw [← hq];exact hrest2
   have hq1:0<q:=by omega
   have ha0:(0:Int)≤(a:Int):=by omega
   have ha1:(a:Int)≤(N:Int):=by omega
   have ha2:¬ cap=a:=by omega
   have ha3:(a:Int)+(q:Int)≤(cap:Int):=by omega
   have ha4:(a:Int)≤(a:Int)+(q:Int):=by omega
   have hda:(l.drop a).length=N - a:=by rw [List.length_drop,HN.out]
   have HLK:Hid (Calls Tryz.prog 186 #[.slice (some ⟨b,off+a * 4,none⟩) (N - a) (cap - a)] wr fun e w'=>∃ x1 x2 x3 x4,e=.returned (.tuple #[.int .i64 q,.agg #[.int .i64 x1,.int .i64 x2,.bool x3,.bool x4],.bool true])∧Below wr.heap.size wr w'):=Lib.hid (by
    have hsl:SlAt wr (some ⟨b,off+a * 4,none⟩) 4 CellD.cells (l.drop a):=by
     have:=(HSL.out.below HB.out).sub a (N - a)
     rwa [List.take_of_length_le (by rw [hda];exact Nat.le_refl _)] at this
    have hlk:=look_any (l.drop a) (some ⟨b,off+a * 4,none⟩) (cap - a) wr hsl (HP.out.below HB.out) (by rw [hda];have:=HL.out;rw [HN.out] at this;omega) (by rw [hda];omega) (fun x hx=>HOK.out.2 x (List.mem_of_mem_drop hx))
    rw [hda,px_drop hpx] at hlk
    refine hlk.mono fun e w' hpost=>?_
    obtain ⟨hb,he⟩:=hpost
    dsimp only at he
    rw [show rr.j - a=q by omega] at he
    exact ⟨_,_,_,_,he,hb⟩)
   have HYK:Hid (∀ wx,I k wx→Calls Tryz.prog fid (#[.string ⟨#[]⟩,.slice (some ⟨b,off+a * 4,none⟩) q q] ++ caps) wx fun e w'=>∃ b,e=.returned (.bool b)∧(b=true→I (k+1) w')∧(b=false→J w')):=Lib.hid (fun wx hix=>by
    have hkey':ps[k].1=⟨#[]⟩:=by simpa using hkey
    have hsl:SlAt w0 (some ⟨b,off+a * 4,none⟩) 4 CellD.cells ((l.drop a).take q):=HSL.out.sub a q
    have hx2:ps[k].2=(l.drop a).take q:=by rw [hsec];unfold sec;rw [hq];congr 1;omega
    have hln:((l.drop a).take q).length=q:=by rw [List.length_take,hda];omega
    have hv:=valV_slAt hsl (cap:=q) (by rw [hln];exact Nat.le_refl _) (by rw [hln];omega)
    rw [hln,← hx2] at hv
    have:=HY.out k wx _ hlt hix hv
    rwa [hkey'] at this)
   have HNX:Hid (ChainV l false 7 4000 (a+q) (ps.drop (k+1)) N):=Lib.hid (by rw [← hq];exact hrest)
   clear hadv hrest2 hda hpx hch hkey hsec hrest hq
   have haq:(a:Int)+(q:Int)≤1000000000000000:=by omega
   go_wp2_with (first
    | (go_at_call 186;((with_reducible refine HLK.out.mono ?_);rintro e w2 ⟨x1,x2,x3,x4,rfl,hb2⟩;have HI2:=Lib.hid (HST.out _ _ _ HI.out hb2);clear hb2))
    | (go_at_fn fid;((refine Calls.mono (HYK.out _ (HST.out _ _ _ HI2.out (below_new _ _))) ?_);rintro e w4 ⟨bb,rfl,hbt,hbf⟩;have HT:=Lib.hid hbt;have HF:=Lib.hid hbf;clear hbt hbf;cases bb)))
   ·go_returns
    exact ⟨rfl,HF.out (by trivial)⟩
   ·exact ⟨⟨k+1,a+q,by omega,by simp,by simp,HNX.out,HT.out (by trivial)⟩,by simp [intOf];omega⟩
  ·have e:k=ps.length:=by omega
   subst e
   go_wp2_with (fail)
   go_returns
   exact ⟨rfl,HJ.out _ HI.out⟩
end
section
open Go.RowKit
set_option maxRecDepth 100000
attribute [local go_sem] cell_alloc_is
set_option maxHeartbeats 8000000 in
/-- The keys and values of a map. -/
theorem parts6_any (c:CellD) (r:ValD) (v:Value) (fid:FuncId) (caps:Array Value) (w0 w:World) (h:ValV w0 v (c :: r)) (hw:Below w0.heap.size w0 w) (hp:Pow w0) (ho:OkV (c :: r)) (hck:checkF (c :: r)=0) (hk:c.kind=6) (I:Nat→World→Prop) (J:World→Prop)
  (hent:∀ args w,(callFunc fid args).run Tryz.prog w=.ok (.enter fid args) w) (h0:I 0 w) (hIB:∀ k wx,I k wx→Below w0.heap.size w0 wx) (hst:∀ k wx wy,I k wx→Below wx.heap.size wx wy→I k wy)
  (hy:∀ k wx x (hk:k<(partsOf (c :: r)).length),I k wx→ValV w0 x (partsOf (c :: r))[k].2→Calls Tryz.prog fid (#[.string (partsOf (c :: r))[k].1,x] ++ caps) wx fun e w'=>∃ b,e=.returned (.bool b)∧(b=true→I (k+1) w')∧(b=false→J w'))
  (hJ:∀ wx,I (partsOf (c :: r)).length wx→J wx) :
  Calls Tryz.prog 190 #[v,.func (.func fid) #[] caps] w fun e w'=>e=.returned (.tuple #[])∧J w':=by
 obtain ⟨b,off,n,cap,rfl,hn,c0,c1,c2,c3⟩:=head_cell h
 have hs:=fun x hx=>smallC_of (ho.2 x hx)
 obtain ⟨hpl,hnn,hch,_⟩:=parts_chain hck hs (c:=c) rfl (.inr hk)
 rw [show decide (c.kind=6)=true by simp [hk]] at hch
 have hpos:(0:Int)<(n:Int):=by omega
 have HV:=Lib.hid h
 have HCH:=Lib.hid hch
 obtain ⟨A,cap',e,hc',hm',hsl⟩:=h.at
 injection e with e1 e2 e3
 subst e1 e2 e3
 have HSL:=Lib.hid hsl
 have HOK:=Lib.hid ho
 have HP:=Lib.hid hp
 have HL:Hid ((c :: r).length≤200):=Lib.hid (len200 hck)
 have HY:=Lib.hid hy
 have HST:=Lib.hid hst
 have HIB:=Lib.hid hIB
 have HJ:=Lib.hid hJ
 have HI0:=Lib.hid h0
 obtain ⟨ps,hps⟩:∃ ps,partsOf (c :: r)=ps:=⟨_,rfl⟩
 rw [hps] at HY HJ HCH hpl
 obtain ⟨l,hl⟩:∃ l,c :: r=l:=⟨_,rfl⟩
 rw [hl] at HV HCH HSL HOK HL hc' hm' hpos ⊢
 obtain ⟨N,hN⟩:∃ N,l.length=N:=⟨_,rfl⟩
 have HN:=Lib.hid hN
 rw [hN] at hc' hm' hpos ⊢
 obtain ⟨k,i,s,nn⟩:=c
 dsimp only at c0 c3 hk hpl hnn
 have HC0:Hid (w0.cell? ⟨b,off,none⟩=some (.int .i64 6)):=Lib.hid (by rw [c0,hk])
 have HC3:Hid (w0.cell? ⟨b,off+3,none⟩=some (.int .i64 (ps.length:Nat))):=Lib.hid (by rw [c3,hpl];congr 2;omega)
 have HPS:Hid (ps.length≤200):=Lib.hid (by
  have h1:=HL.out
  have h2:=HCH.out.len
  omega)
 clear h hp ho hck c0 c1 c2 c3 hsl hst hIB hJ h0 hy hps hl hN hn hs hch hk hpl hnn
 go_enter Tryz.func190,Tryz.ntmps190
 have w1:=(hw.cell (p:=⟨b,off+3,none⟩) (World.block_lt_of_cell? _ _ HC3.out)).trans HC3.out
 go_wp2_with (fail)
 go_loopw [4,5,6,7,8,13] (fun at' _ _ _ _ j wr=>∃ k a:Nat,k≤ps.length∧j=.int .i64 k∧at'=.int .i64 a∧ChainV l true 7 4000 a (ps.drop k) N∧I k wr) (fun _ _ _ _ _ j _=>ps.length - (intOf j).toNat)
 case atStart=>exact ⟨0,1,Nat.zero_le _,rfl,rfl,by rw [← HN.out];exact HCH.out,HI0.out⟩
 case round =>
  obtain ⟨k,a,hk,rfl,rfl,hch,hi⟩:=hrel
  have HCK:=Lib.hid hch
  have HI:=Lib.hid hi
  have HB:=Lib.hid (HIB.out _ _ hi)
  have g0:=(HB.out.cell (p:=⟨b,off,none⟩) (World.block_lt_of_cell? _ _ HC0.out)).trans HC0.out
  clear hch hi
  have hk0:(0:Int)≤(k:Int):=by omega
  have hk1:(k:Int)≤200:=by have:=HPS.out;omega
  by_cases hlt:k<ps.length
  ·have hlt':(k:Int)<(ps.length:Int):=by omega
   have hch:=HCK.out
   rw [List.drop_eq_getElem_cons hlt] at hch
   obtain ⟨rr,hkey,hpx,hsec,hrest⟩:=hch.head
   have hadv:=px_adv hpx
   have hrest2:=hrest.le
   simp only [Bool.toNat_true] at hpx hadv hsec
   rw [if_pos rfl] at hkey
   obtain ⟨kc,hkc,_,_,hks⟩:=hkey
   obtain ⟨ks,hks2⟩:∃ s,kc.str=s:=⟨_,rfl⟩
   rw [hks2] at hks
   obtain ⟨a1,ha1e⟩:∃ x,a+1=x:=⟨_,rfl⟩
   rw [ha1e] at hpx hadv hsec
   obtain ⟨q,hq⟩:∃ q,rr.j=a1+q:=⟨rr.j - a1,by omega⟩
   have haN:a1+q≤N:=by rw [← hq];exact hrest2
   have hq1:0<q:=by omega
   have ha0:(0:Int)≤(a:Int):=by omega
   have hai:(a:Int)<(N:Int):=by omega
   have hae:(a:Int)+1=(a1:Int):=by omega
   have hb0:(0:Int)≤(a1:Int):=by omega
   have d2:wr.cell? ⟨b,off+a * 4+2,none⟩=some (.string ks):=by
    have hal:a<l.length:=(List.getElem?_eq_some_iff.1 hkc).1
    have e0:l[a]=kc:=by have:=hkc;rw [List.getElem?_eq_getElem hal] at this;exact Option.some.inj this
    have:=(HSL.out.below HB.out).cell hal (j:=2) (v:=.string ks) (by rw [e0,← hks2];rfl)
    exact this
   have hb1:(a1:Int)≤(N:Int):=by omega
   have hb2':¬ cap=a1:=by omega
   have hb3:(a1:Int)+(q:Int)≤(cap:Int):=by omega
   have hb4:(a1:Int)≤(a1:Int)+(q:Int):=by omega
   have hda:(l.drop a1).length=N - a1:=by rw [List.length_drop,HN.out]
   have HLK:Hid (Calls Tryz.prog 186 #[.slice (some ⟨b,off+a1 * 4,none⟩) (N - a1) (cap - a1)] wr fun e w'=>∃ x1 x2 x3 x4,e=.returned (.tuple #[.int .i64 q,.agg #[.int .i64 x1,.int .i64 x2,.bool x3,.bool x4],.bool true])∧Below wr.heap.size wr w'):=Lib.hid (by
    have hsl:SlAt wr (some ⟨b,off+a1 * 4,none⟩) 4 CellD.cells (l.drop a1):=by
     have:=(HSL.out.below HB.out).sub a1 (N - a1)
     rwa [List.take_of_length_le (by rw [hda];exact Nat.le_refl _)] at this
    have hlk:=look_any (l.drop a1) (some ⟨b,off+a1 * 4,none⟩) (cap - a1) wr hsl (HP.out.below HB.out) (by rw [hda];have:=HL.out;rw [HN.out] at this;omega) (by rw [hda];omega) (fun x hx=>HOK.out.2 x (List.mem_of_mem_drop hx))
    rw [hda,px_drop hpx] at hlk
    refine hlk.mono fun e w' hpost=>?_
    obtain ⟨hb,he⟩:=hpost
    dsimp only at he
    rw [show rr.j - a1=q by omega] at he
    exact ⟨_,_,_,_,he,hb⟩)
   have HYK:Hid (∀ wx,I k wx→Calls Tryz.prog fid (#[.string ks,.slice (some ⟨b,off+a1 * 4,none⟩) q q] ++ caps) wx fun e w'=>∃ b,e=.returned (.bool b)∧(b=true→I (k+1) w')∧(b=false→J w')):=Lib.hid (fun wx hix=>by
    have hsl:SlAt w0 (some ⟨b,off+a1 * 4,none⟩) 4 CellD.cells ((l.drop a1).take q):=HSL.out.sub a1 q
    have hx2:ps[k].2=(l.drop a1).take q:=by rw [hsec];unfold sec;rw [hq];congr 1;omega
    have hln:((l.drop a1).take q).length=q:=by rw [List.length_take,hda];omega
    have hv:=valV_slAt hsl (cap:=q) (by rw [hln];exact Nat.le_refl _) (by rw [hln];omega)
    rw [hln,← hx2] at hv
    have:=HY.out k wx _ hlt hix hv
    rwa [hks] at this)
   have HNX:Hid (ChainV l true 7 4000 (a1+q) (ps.drop (k+1)) N):=Lib.hid (by rw [← hq];exact hrest)
   clear hadv hrest2 hda hpx hch hsec hrest hq hkc hks hks2 ha1e
   have haq:(a1:Int)+(q:Int)≤1000000000000000:=by omega
   go_wp2_with (first
    | (go_at_call 186;((with_reducible refine HLK.out.mono ?_);rintro e w2 ⟨x1,x2,x3,x4,rfl,hb2⟩;have HI2:=Lib.hid (HST.out _ _ _ HI.out hb2);clear hb2))
    | (go_at_fn fid;((refine Calls.mono (HYK.out _ (HST.out _ _ _ HI2.out (below_new _ _))) ?_);rintro e w4 ⟨bb,rfl,hbt,hbf⟩;have HT:=Lib.hid hbt;have HF:=Lib.hid hbf;clear hbt hbf;cases bb)))
   ·go_returns
    exact ⟨rfl,HF.out (by trivial)⟩
   ·exact ⟨⟨k+1,a1+q,by omega,by simp,by simp,HNX.out,HT.out (by trivial)⟩,by simp [intOf];omega⟩
  ·have e:k=ps.length:=by omega
   subst e
   go_wp2_with (fail)
   go_returns
   exact ⟨rfl,HJ.out _ HI.out⟩
end
end Go.Proofs.YthiimbhjpdphpaaGreatDoor
