/- E7, E9, E10, RO1, E11 -/
import Derived.Test.YthiimbhjpdphpaaGreatDoorPE5
import Derived.Test.YthiimbhjpdphpaaGreatDoorPPH
set_option linter.unusedVariables false
set_option linter.unusedSimpArgs false
namespace Go.Proofs.YthiimbhjpdphpaaGreatDoor
open Go.RowKit
set_option maxRecDepth 100000
set_option maxHeartbeats 8000000
attribute [local go_sem] zacZ
open Go.Proofs.Tryz
def numI (n:Int):Int × Int:=if inRange n=true then (n,0) else (0,8)
theorem nresult_any (n:Int) (w:World):Calls prog 194 #[.int .i64 n] w fun e w'=>e=.returned (.tuple #[.int .i64 (numI n).1,.int .i64 (numI n).2])∧w'=w:=by
 have HV:=hZz (zctY n w);have HI:Hid (inRange n=(decide (-1000000000000≤n) && decide (n≤1000000000000))):=hZz rfl;obtain ⟨b,hb⟩:∃ b,(decide (-1000000000000≤n) && decide (n≤1000000000000))=b:=⟨_,rfl⟩
 rw [hb] at HV HI;clear hb;cases b
 ·have HN:Hid (numI n=(0,8)):=hZz (by unfold numI;rw [HI.out];rfl)
  go_enter func194,ntmps194
  go_wp2_with (first | (go_at_call 144;(with_reducible refine HV.out.mono ?_);rintro e w1 ⟨rfl,rfl⟩))
  go_returns;exact ⟨by rw [HN.out];rfl,rfl⟩
 ·have HN:Hid (numI n=(n,0)):=hZz (by unfold numI;rw [HI.out];rfl)
  go_enter func194,ntmps194
  go_wp2_with (first | (go_at_call 144;(with_reducible refine HV.out.mono ?_);rintro e w1 ⟨rfl,rfl⟩))
  go_returns;exact ⟨by rw [HN.out];rfl,rfl⟩
set_option maxHeartbeats 4000000 in
theorem nvalid_any (a b:Int) (g:Nat) (w:World) (ha:inRange a=true) (hb:inRange b=true) (h0:w.cell? ⟨g,0,none⟩=some (.int .i64 a)) (h1:w.cell? ⟨g,1,none⟩=some (.int .i64 b)) :
  Calls prog 193 #[.slice (some ⟨g,0,none⟩) 2 2] w fun e w'=>e=.returned (.bool true)∧w'=w:=by
 have HA:Hid (Calls prog 144 #[.int .i64 a] w fun e w'=>e=.returned (.bool true)∧w'=w):=hZz (by have:=zctY a w;unfold inRange at ha;rwa [ha] at this);have HB:Hid (Calls prog 144 #[.int .i64 b] w fun e w'=>e=.returned (.bool true)∧w'=w):=hZz (by have:=zctY b w;unfold inRange at hb;rwa [hb] at this);clear ha hb;go_enter func193,ntmps193
 go_wp2_with (fail)
 go_loop [4,7] (fun _ i=>∃ k:Nat,k≤2∧i=.int .i64 k) (fun _ i=>2 - (intOf i).toNat)
 case atStart=>exact ⟨0,by omega,rfl⟩
 case round =>
  obtain ⟨k,hk,rfl⟩:=hrel;obtain rfl | rfl | rfl:k=0∨k=1∨k=2:=by omega
  ·go_wp2_with (first | (go_at_call 144;(with_reducible refine HA.out.mono ?_);rintro e w1 ⟨rfl,rfl⟩))
   exact ⟨⟨1,by omega,rfl⟩,by simp [intOf]⟩
  ·go_wp2_with (first | (go_at_call 144;(with_reducible refine HB.out.mono ?_);rintro e w1 ⟨rfl,rfl⟩))
   exact ⟨⟨2,by omega,rfl⟩,by simp [intOf]⟩
  ·go_wp2_with (fail)
   go_ret;exact ⟨rfl,rfl⟩
theorem zb8Y (a b:Int) (w:World) (ha:inRange a=true) (hb:inRange b=true):Hid (∀ t,Calls prog 193 #[.slice (some ⟨w.heap.size,0,none⟩) 2 2] (w.alloc (.cells #[.int .i64 a,.int .i64 b] t)) fun e w'=>e=.returned (.bool true)∧w'=w.alloc (.cells #[.int .i64 a,.int .i64 b] t)) :=
 hZz fun t=>nvalid_any a b w.heap.size _ ha hb ((Blk.new w t _).cell 0 _ rfl) ((Blk.new w t _).cell 1 _ rfl)
set_option maxHeartbeats 4000000 in
theorem nadd_any (a b:Int) (w:World) (ha:inRange a=true) (hb:inRange b=true) :
  Calls prog 157 #[.int .i64 a,.int .i64 b] w fun e w'=>e=.returned (.tuple #[.int .i64 (numI (a+b)).1,.int .i64 (numI (a+b)).2])∧Below w.heap.size w w':=by
 have HV:=zb8Y a b w ha hb;have HC:Hid (∀ wx,Calls prog 194 #[.int .i64 (a+b)] wx fun e w'=>e=.returned (.tuple #[.int .i64 (numI (a+b)).1,.int .i64 (numI (a+b)).2])∧w'=wx):=hZz fun wx=>nresult_any _ wx
 obtain ⟨N,hN⟩:∃ N,numI (a+b)=N:=⟨_,rfl⟩
 rw [hN] at HC ⊢;obtain ⟨n1,n2⟩:=N;simp only [inRange,Bool.and_eq_true,decide_eq_true_eq] at ha hb;have hlo : -9223372036854775808≤a+b:=by omega
 have hhi:a+b≤9223372036854775807:=by omega
 clear hN ha hb;go_enter func157,ntmps157
 go_wp2_with (first
  | (go_at_call 193;(with_reducible refine (HV.out _).mono ?_);rintro e w1 ⟨rfl,rfl⟩)
  | (go_at_call 194;(with_reducible refine (HC.out _).mono ?_);rintro e w1 ⟨rfl,rfl⟩))
 go_returns;exact ⟨rfl,zabZ _ _⟩
set_option maxHeartbeats 4000000 in
theorem nsub_any (a b:Int) (w:World) (ha:inRange a=true) (hb:inRange b=true) :
  Calls prog 158 #[.int .i64 a,.int .i64 b] w fun e w'=>e=.returned (.tuple #[.int .i64 (numI (a - b)).1,.int .i64 (numI (a - b)).2])∧Below w.heap.size w w':=by
 have HV:=zb8Y a b w ha hb;have HC:Hid (∀ wx,Calls prog 194 #[.int .i64 (a - b)] wx fun e w'=>e=.returned (.tuple #[.int .i64 (numI (a - b)).1,.int .i64 (numI (a - b)).2])∧w'=wx):=hZz fun wx=>nresult_any _ wx
 obtain ⟨N,hN⟩:∃ N,numI (a - b)=N:=⟨_,rfl⟩
 rw [hN] at HC ⊢;obtain ⟨n1,n2⟩:=N;simp only [inRange,Bool.and_eq_true,decide_eq_true_eq] at ha hb;have hlo : -9223372036854775808≤a - b:=by omega
 have hhi:a - b≤9223372036854775807:=by omega
 clear hN ha hb;go_enter func158,ntmps158
 go_wp2_with (first
  | (go_at_call 193;(with_reducible refine (HV.out _).mono ?_);rintro e w1 ⟨rfl,rfl⟩)
  | (go_at_call 194;(with_reducible refine (HC.out _).mono ?_);rintro e w1 ⟨rfl,rfl⟩))
 go_returns;exact ⟨rfl,zabZ _ _⟩
set_option maxHeartbeats 4000000 in
theorem ndiv_any (a b:Int) (w:World) (ha:inRange a=true) (hb:inRange b=true) :
  Calls prog 160 #[.int .i64 a,.int .i64 b] w fun e w'=>e=.returned (.tuple #[.int .i64 (dmI a b).1,.int .i64 (dmI a b).2.1,.int .i64 (dmI a b).2.2])∧Below w.heap.size w w':=by
 have HV:=zb8Y a b w ha hb;by_cases h0:b=0
 ·subst h0
  have HD:Hid (dmI a 0=(0,0,9)):=hZz (by simp [dmI]);clear ha hb;go_enter func160,ntmps160
  go_wp2_with (first
   | (go_at_call 193;(with_reducible refine (HV.out _).mono ?_);rintro e w1 ⟨rfl,rfl⟩))
  go_returns;exact ⟨by rw [HD.out];rfl,zabZ _ _⟩
 ·obtain ⟨q,r,hq,hr,hc⟩:=dm_cases (a:=a) h0
  have hra:=ha;have hrb:=hb;simp only [inRange,Bool.and_eq_true,decide_eq_true_eq] at hra hrb;obtain ⟨t1,t2⟩:=tdm_bd hra hrb h0;have HD:Hid (dmI a b=(q,r,0)):=hZz (by simp [dmI,h0,hq,hr]);obtain ⟨tq,htq⟩:∃ t,a.tdiv b=t:=⟨_,rfl⟩
  obtain ⟨tr,htr⟩:∃ t,a.tmod b=t:=⟨_,rfl⟩
  have hb0:(b == 0)=false:=by simpa using h0
  rw [htq] at t1 hc;rw [htr] at t2 hc;have HQ:=hZz htq;have HR:=hZz htr;go_enter func160,ntmps160
  go_upto_region 5 with (first
   | (go_at_call 193;(with_reducible refine (HV.out _).mono ?_);rintro e w1 ⟨rfl,rfl⟩))
  go_quiet (fail);obtain ⟨W,hW⟩:∃ W,(w.alloc (.cells #[.int .i64 a,.int .i64 b] 3)).drewN nq=W:=⟨_,rfl⟩
  have HB:Hid (Below w.heap.size w W):=hZz (by rw [← hW];exact zaiZ (zabZ _ _) _);rw [hW];clear hW HV ha hb hq hr htq htr h0 hb0;rcases hc with ⟨c1,rfl,rfl⟩ | ⟨c1,c2,rfl,rfl⟩ | ⟨c1,c2,rfl,rfl⟩ | ⟨c1,c2,rfl,rfl⟩ | ⟨c1,c2,rfl,rfl⟩
  ·subst c1
   go_wp2_with (fail)
   go_returns;exact ⟨by rw [HD.out];rfl,HB.out⟩
  ·have n1:¬ tr=0:=by omega
   have n2:¬ b<0:=by omega
   have n3:(tr != 0)=true:=by simpa using n1
   clear n1;go_wp2_with (fail)
   go_returns;exact ⟨by rw [HD.out];rfl,HB.out⟩
  ·have n1:¬ r=0:=by omega
   have n3:(r != 0)=true:=by simpa using n1
   clear n1;go_wp2_with (fail)
   go_returns;exact ⟨by rw [HD.out];rfl,HB.out⟩
  ·have n1:¬ tr=0:=by omega
   have n2:¬ tr<0:=by omega
   have n3:(tr != 0)=true:=by simpa using n1
   clear n1;go_wp2_with (fail)
   go_returns;exact ⟨by rw [HD.out];rfl,HB.out⟩
  ·have n1:¬ r=0:=by omega
   have n2:¬ r<0:=by omega
   have n4:¬ b<0:=by omega
   have n3:(r != 0)=true:=by simpa using n1
   clear n1;go_wp2_with (fail)
   go_returns;exact ⟨by rw [HD.out];rfl,HB.out⟩
theorem namount_any (n:Int) (w:World) (h:inRange n=true):Calls prog 196 #[.int .i64 n] w fun e w'=>e=.returned (.int .u64 (n.natAbs:Nat))∧w'=w:=by
 simp only [inRange,Bool.and_eq_true,decide_eq_true_eq] at h;have h1:n≤1000000000000:=h.2;have h2 : -1000000000000≤n:=h.1;obtain ⟨m,hm⟩:∃ m:Nat,n.natAbs=m:=⟨_,rfl⟩
 rw [hm];rcases Int.lt_or_le n 0 with h3 | h3
 ·have e:n=-(m:Int):=by omega
  subst e;have h4:(0:Int)≤(m:Int):=by omega
  have h5:(m:Int)≤1000000000000:=by omega
  clear h hm;go_enter func196,ntmps196
  go_wp2
  go_returns;refine ⟨?_,rfl⟩
  show Ending.returned (Value.int .u64 (max (-(m:Int)) (m:Int)))=_;rw [show max (-(m:Int)) (m:Int)=(m:Int) by omega]
 ·have e:n=(m:Int):=by omega
  subst e;have h4:(0:Int)≤(m:Int):=by omega
  have h5:(m:Int)≤1000000000000:=by omega
  clear h hm;go_enter func196,ntmps196
  go_wp2
  go_returns;refine ⟨?_,rfl⟩
  show Ending.returned (Value.int .u64 (max (m:Int) (-(m:Int))))=_;rw [show max (m:Int) (-(m:Int))=(m:Int) by omega]
set_option maxHeartbeats 4000000 in
theorem nmul_any (a b:Int) (w:World) (ha:inRange a=true) (hb:inRange b=true) :
  Calls prog 159 #[.int .i64 a,.int .i64 b] w fun e w'=>e=.returned (.tuple #[.int .i64 (numI (a * b)).1,.int .i64 (numI (a * b)).2])∧Below w.heap.size w w':=by
 have HV:=zb8Y a b w ha hb;have HA:Hid (∀ wx,Calls prog 196 #[.int .i64 a] wx fun e w'=>e=.returned (.int .u64 (a.natAbs:Nat))∧w'=wx):=hZz fun wx=>namount_any a wx ha
 have HB:Hid (∀ wx,Calls prog 196 #[.int .i64 b] wx fun e w'=>e=.returned (.int .u64 (b.natAbs:Nat))∧w'=wx):=hZz fun wx=>namount_any b wx hb
 have hra:=ha;have hrb:=hb;simp only [inRange,Bool.and_eq_true,decide_eq_true_eq] at hra hrb;have hna:a.natAbs<18446744073709551616:=by omega
 have hnb:b.natAbs<18446744073709551616:=by omega
 have HM:Hid (∀ wx,Calls prog 195 #[.int .u64 (a.natAbs:Nat),.int .u64 (b.natAbs:Nat)] wx fun e w'=>e=.returned (.tuple #[.int .u64 ((a.natAbs * b.natAbs / 18446744073709551616:Nat):Int),.int .u64 ((a.natAbs * b.natAbs % 18446744073709551616:Nat):Int)])∧w'=wx):=hZz fun wx=>Tryz.bits_Mul64 _ _ hna hnb wx
 have hab:(a * b).natAbs=a.natAbs * b.natAbs:=Int.natAbs_mul a b;obtain ⟨x,hx⟩:∃ x,a.natAbs=x:=⟨_,rfl⟩
 obtain ⟨y,hy⟩:∃ y,b.natAbs=y:=⟨_,rfl⟩
 obtain ⟨z,hz⟩:∃ z,x * y=z:=⟨_,rfl⟩
 rw [hx,hy] at HM hab;rw [hx] at HA;rw [hy] at HB;rw [hz] at HM hab;obtain ⟨hi,hhi⟩:∃ h,z / 18446744073709551616=h:=⟨_,rfl⟩
 obtain ⟨lo,hlo⟩:∃ h,z % 18446744073709551616=h:=⟨_,rfl⟩
 rw [hhi,hlo] at HM;obtain ⟨p,hp⟩:∃ p,a * b=p:=⟨_,rfl⟩
 rw [hp] at hab;have HP:Hid (IntKind.i64.wrap (a * b)=IntKind.i64.wrap p):=hZz (by rw [hp]);rw [hp]
 have h64:inRange p=true→-9223372036854775808≤p∧p≤9223372036854775807:=by
  intro h;simp only [inRange,Bool.and_eq_true,decide_eq_true_eq] at h;omega
 cases hin:inRange p
 ·have HN:Hid (numI p=(0,8)):=hZz (by unfold numI;rw [hin];rfl)
  have hbig:1000000000000<z:=by
   have:¬ (-1000000000000≤p∧p≤1000000000000):=by
    rw [← Bool.not_eq_true] at hin;simpa [inRange] using hin
   omega
  by_cases h1:(0:Int)<(hi:Int)
  ·clear ha hb hra hrb hna hnb hab hx hy hz hhi hlo hp h64 hin hbig HP
   go_enter func159,ntmps159
   go_wp2_with (first
    | (go_at_call 193;(with_reducible refine (HV.out _).mono ?_);rintro e w1 ⟨rfl,rfl⟩)
    | (go_at_call 196;first | ((with_reducible refine (HA.out _).mono ?_);rintro e w1 ⟨rfl,rfl⟩) | ((with_reducible refine (HB.out _).mono ?_);rintro e w1 ⟨rfl,rfl⟩))
    | (go_at_call 195;(with_reducible refine (HM.out _).mono ?_);rintro e w1 ⟨rfl,rfl⟩))
   go_returns;exact ⟨by rw [HN.out];rfl,zabZ _ _⟩
  ·have h2:(1000000000000:Int)<(lo:Int):=by omega
   clear ha hb hra hrb hna hnb hab hx hy hz hhi hlo hp h64 hin hbig HP;go_enter func159,ntmps159
   go_wp2_with (first
    | (go_at_call 193;(with_reducible refine (HV.out _).mono ?_);rintro e w1 ⟨rfl,rfl⟩)
    | (go_at_call 196;first | ((with_reducible refine (HA.out _).mono ?_);rintro e w1 ⟨rfl,rfl⟩) | ((with_reducible refine (HB.out _).mono ?_);rintro e w1 ⟨rfl,rfl⟩))
    | (go_at_call 195;(with_reducible refine (HM.out _).mono ?_);rintro e w1 ⟨rfl,rfl⟩))
   go_returns;exact ⟨by rw [HN.out];rfl,zabZ _ _⟩
 ·have HN:Hid (numI p=(p,0)):=hZz (by unfold numI;rw [hin];rfl)
  have hp64:=h64 hin
  have hsm:z≤1000000000000:=by
   simp only [inRange,Bool.and_eq_true,decide_eq_true_eq] at hin;omega
  have h1:¬ (0:Int)<(hi:Int):=by omega
  have h2:¬ (1000000000000:Int)<(lo:Int):=by omega
  have hlo2 : -9223372036854775808≤a * b:=by rw [hp];exact hp64.1
  have hhi2:a * b≤9223372036854775807:=by rw [hp];exact hp64.2
  have HPE:=hZz hp;clear ha hb hra hrb hna hnb hab hx hy hz hhi hlo hp h64 hin hsm HP hp64;go_enter func159,ntmps159
  go_wp2_with (first
   | (go_at_call 193;(with_reducible refine (HV.out _).mono ?_);rintro e w1 ⟨rfl,rfl⟩)
   | (go_at_call 196;first | ((with_reducible refine (HA.out _).mono ?_);rintro e w1 ⟨rfl,rfl⟩) | ((with_reducible refine (HB.out _).mono ?_);rintro e w1 ⟨rfl,rfl⟩))
   | (go_at_call 195;(with_reducible refine (HM.out _).mono ?_);rintro e w1 ⟨rfl,rfl⟩))
  go_returns;exact ⟨by rw [HN.out,← HPE.out];rfl,zabZ _ _⟩
theorem zasY (n:Int) (w:World):Calls prog 151 #[.int .i64 n] w fun e w'=>e=.returned (.bool (inRange n))∧w'=w:=by
 by_cases h1 : -1000000000000≤n
 ·by_cases h2:n≤1000000000000
  ·go_enter func151,ntmps151
   go_wp2
   go_ret;exact ⟨by simp [inRange,h1,h2],rfl⟩
  ·go_enter func151,ntmps151
   go_wp2
   go_ret;exact ⟨by simp [inRange,h2],rfl⟩
 ·go_enter func151,ntmps151
  go_wp2
  go_ret;exact ⟨by simp [inRange];intro h;omega,rfl⟩
theorem zbqY (n:Int) (w:World):Calls prog 201 #[.int .i64 n] w fun e w'=>e=.returned (.tuple #[.int .i64 (numI n).1,.int .i64 (numI n).2])∧w'=w:=by
 have HV:=hZz (zasY n w);obtain ⟨b,hb⟩:∃ b,inRange n=b:=⟨_,rfl⟩
 have HI:=hZz hb;rw [hb] at HV;clear hb;cases b
 ·have HN:Hid (numI n=(0,8)):=hZz (by unfold numI;rw [HI.out];rfl)
  go_enter func201,ntmps201
  go_wp2_with (first | (go_at_call 151;(with_reducible refine HV.out.mono ?_);rintro e w1 ⟨rfl,rfl⟩))
  go_returns;exact ⟨by rw [HN.out];rfl,rfl⟩
 ·have HN:Hid (numI n=(n,0)):=hZz (by unfold numI;rw [HI.out];rfl)
  go_enter func201,ntmps201
  go_wp2_with (first | (go_at_call 151;(with_reducible refine HV.out.mono ?_);rintro e w1 ⟨rfl,rfl⟩))
  go_returns;exact ⟨by rw [HN.out];rfl,rfl⟩
theorem famount_any (n:Int) (w:World) (h:inRange n=true):Calls prog 202 #[.int .i64 n] w fun e w'=>e=.returned (.int .i64 (n.natAbs:Nat))∧w'=w:=by
 simp only [inRange,Bool.and_eq_true,decide_eq_true_eq] at h;by_cases hn:n<0
 ·have h1 : -9223372036854775808≤-n:=by omega
  have h2 : -n≤9223372036854775807:=by omega
  have HE:Hid (((n.natAbs:Nat):Int)=-n):=hZz (by omega);clear h;go_enter func202,ntmps202
  go_wp2
  go_returns;exact ⟨by rw [HE.out];rfl,rfl⟩
 ·have HE:Hid (((n.natAbs:Nat):Int)=n):=hZz (by omega)
  clear h;go_enter func202,ntmps202
  go_wp2
  go_returns;exact ⟨by rw [HE.out];rfl,rfl⟩
set_option maxHeartbeats 4000000 in
theorem fadd_any (a b:Int) (w:World) (ha:inRange a=true) (hb:inRange b=true) :
  Calls prog 169 #[.int .i64 a,.int .i64 b] w fun e w'=>e=.returned (.tuple #[.int .i64 (numI (a+b)).1,.int .i64 (numI (a+b)).2])∧w'=w:=by
 have HA:Hid (Calls prog 151 #[.int .i64 a] w fun e w'=>e=.returned (.bool true)∧w'=w):=hZz (by have:=zasY a w;rwa [ha] at this);have HB:Hid (Calls prog 151 #[.int .i64 b] w fun e w'=>e=.returned (.bool true)∧w'=w):=hZz (by have:=zasY b w;rwa [hb] at this);have HC:=hZz (zbqY (a+b) w);obtain ⟨⟨n1,n2⟩,hN⟩:∃ N,numI (a+b)=N:=⟨_,rfl⟩
 rw [hN] at HC ⊢;simp only [inRange,Bool.and_eq_true,decide_eq_true_eq] at ha hb;have hlo : -9223372036854775808≤a+b:=by omega
 have hhi:a+b≤9223372036854775807:=by omega
 clear ha hb hN;go_enter func169,ntmps169
 go_wp2_with (first
  | (go_at_call 151;(with_reducible refine HA.out.mono ?_);rintro e w1 ⟨rfl,hw⟩;rw [hw];clear hw w1)
  | (go_at_call 151;(with_reducible refine HB.out.mono ?_);rintro e w1 ⟨rfl,hw⟩;rw [hw];clear hw w1)
  | (go_at_call 201;(with_reducible refine HC.out.mono ?_);rintro e w1 ⟨rfl,hw⟩;rw [hw];clear hw w1))
 go_returns;exact ⟨rfl,rfl⟩
set_option maxHeartbeats 4000000 in
theorem fsub_any (a b:Int) (w:World) (ha:inRange a=true) (hb:inRange b=true) :
  Calls prog 170 #[.int .i64 a,.int .i64 b] w fun e w'=>e=.returned (.tuple #[.int .i64 (numI (a - b)).1,.int .i64 (numI (a - b)).2])∧w'=w:=by
 have HA:Hid (Calls prog 151 #[.int .i64 a] w fun e w'=>e=.returned (.bool true)∧w'=w):=hZz (by have:=zasY a w;rwa [ha] at this);have HB:Hid (Calls prog 151 #[.int .i64 b] w fun e w'=>e=.returned (.bool true)∧w'=w):=hZz (by have:=zasY b w;rwa [hb] at this);have HC:=hZz (zbqY (a - b) w);obtain ⟨⟨n1,n2⟩,hN⟩:∃ N,numI (a - b)=N:=⟨_,rfl⟩
 rw [hN] at HC ⊢;simp only [inRange,Bool.and_eq_true,decide_eq_true_eq] at ha hb;have hlo : -9223372036854775808≤a - b:=by omega
 have hhi:a - b≤9223372036854775807:=by omega
 clear ha hb hN;go_enter func170,ntmps170
 go_wp2_with (first
  | (go_at_call 151;(with_reducible refine HA.out.mono ?_);rintro e w1 ⟨rfl,hw⟩;rw [hw];clear hw w1)
  | (go_at_call 151;(with_reducible refine HB.out.mono ?_);rintro e w1 ⟨rfl,hw⟩;rw [hw];clear hw w1)
  | (go_at_call 201;(with_reducible refine HC.out.mono ?_);rintro e w1 ⟨rfl,hw⟩;rw [hw];clear hw w1))
 go_returns;exact ⟨rfl,rfl⟩
theorem mul_case {a b:Int} (ha:a≠0):((10 ^ 12:Nat) / a.natAbs<b.natAbs)↔10 ^ 12<a.natAbs * b.natAbs:=by
 have h:0<a.natAbs:=by omega
 rw [Nat.div_lt_iff_lt_mul h,Nat.mul_comm]
set_option maxHeartbeats 4000000 in
theorem fmul_any (a b:Int) (w:World) (ha:inRange a=true) (hb:inRange b=true) :
  Calls prog 171 #[.int .i64 a,.int .i64 b] w fun e w'=>e=.returned (.tuple #[.int .i64 (numI (a * b)).1,.int .i64 (numI (a * b)).2])∧w'=w:=by
 have HA:Hid (Calls prog 151 #[.int .i64 a] w fun e w'=>e=.returned (.bool true)∧w'=w):=hZz (by have:=zasY a w;rwa [ha] at this);have HB:Hid (Calls prog 151 #[.int .i64 b] w fun e w'=>e=.returned (.bool true)∧w'=w):=hZz (by have:=zasY b w;rwa [hb] at this);have HMA:=hZz (famount_any a w ha);have HMB:=hZz (famount_any b w hb);have hab:(a * b).natAbs=a.natAbs * b.natAbs:=Int.natAbs_mul a b;simp only [inRange,Bool.and_eq_true,decide_eq_true_eq] at ha hb;obtain ⟨x,hx⟩:∃ x,a.natAbs=x:=⟨_,rfl⟩
 obtain ⟨y,hy⟩:∃ y,b.natAbs=y:=⟨_,rfl⟩
 have hmc:=fun h=>mul_case (a:=a) (b:=b) h
 rw [hx,hy] at hmc hab;rw [hx] at HMA;rw [hy] at HMB;have hx2:x≤1000000000000:=by omega
 have hy2:y≤1000000000000:=by omega
 by_cases h0:a=0
 ·subst h0
  have HN:Hid (numI (0 * b)=(0,0)):=hZz (by rw [Int.zero_mul];rfl);have HC:Hid (Calls prog 201 #[.int .i64 0] w fun e w'=>e=.returned (.tuple #[.int .i64 0,.int .i64 0])∧w'=w):=hZz (zbqY 0 w);have hz:(0:Int) * b=0:=Int.zero_mul b;clear ha hb hmc hab hx hy hx2 hy2;go_enter func171,ntmps171
  go_wp2_with (first
   | (go_at_call 151;(with_reducible refine HA.out.mono ?_);rintro e w1 ⟨rfl,hw⟩;rw [hw];clear hw w1)
   | (go_at_call 151;(with_reducible refine HB.out.mono ?_);rintro e w1 ⟨rfl,hw⟩;rw [hw];clear hw w1)
   | (go_at_call 201;(with_reducible refine HC.out.mono ?_);rintro e w1 ⟨rfl,hw⟩;rw [hw];clear hw w1))
  go_returns;exact ⟨by rw [HN.out];rfl,rfl⟩
 ·have hx0:0<x:=by omega
  have hxi:((x:Int) == 0)=false:=by simp;omega
  have hxn:¬ ((x:Int)=0):=by omega
  have hai:(a != 0)=true:=by simpa using h0
  have hquo:(1000000000000:Int).tdiv (x:Int)=((1000000000000 / x:Nat):Int):=(Int.ofNat_tdiv 1000000000000 x).symm;obtain ⟨q,hq⟩:∃ q,1000000000000 / x=q:=⟨_,rfl⟩
  have hqb:q≤1000000000000:=by rw [← hq];exact Nat.div_le_self _ _
  have hw1:IntKind.i64.wrap (q:Int)=(q:Int):=IntWalk.i64_in _ (by omega);have hmc2:q<y↔1000000000000<x * y:=by have:=hmc h0;rw [← hq];simpa using this
  rw [hq] at hquo;by_cases hbig:q<y
  ·have hlt:1000000000000<x * y:=hmc2.1 hbig
   have HN:Hid (numI (a * b)=(0,8)):=hZz (by
    unfold numI;rw [if_neg];simp only [inRange,Bool.and_eq_true,decide_eq_true_eq];omega)
   have hbig':(q:Int)<(y:Int):=by omega
   clear ha hb hmc hab hx hy hx2 hy2 hmc2 hlt hq hx0 hbig;go_enter func171,ntmps171
   go_wp2_with (first
    | (go_at_call 151;(with_reducible refine HA.out.mono ?_);rintro e w1 ⟨rfl,hw⟩;rw [hw];clear hw w1)
    | (go_at_call 151;(with_reducible refine HB.out.mono ?_);rintro e w1 ⟨rfl,hw⟩;rw [hw];clear hw w1)
    | (go_at_call 202;first | ((with_reducible refine HMA.out.mono ?_);rintro e w1 ⟨rfl,hw⟩;rw [hw];clear hw w1) | ((with_reducible refine HMB.out.mono ?_);rintro e w1 ⟨rfl,hw⟩;rw [hw];clear hw w1)))
   go_returns;exact ⟨by rw [HN.out];rfl,rfl⟩
  ·have hle:x * y≤1000000000000:=by have:=fun h=>hbig (hmc2.2 h);omega
   have HN:Hid (numI (a * b)=(a * b,0)):=hZz (by
    unfold numI;rw [if_pos];simp only [inRange,Bool.and_eq_true,decide_eq_true_eq];omega)
   have hlo : -9223372036854775808≤a * b:=by omega
   have hhi:a * b≤9223372036854775807:=by omega
   have hbig':¬ (q:Int)<(y:Int):=by omega
   have HC:=hZz (zbqY (a * b) w);rw [HN.out] at HC;clear ha hb hmc hab hx hy hx2 hy2 hmc2 hle hq hx0 hbig;go_enter func171,ntmps171
   go_wp2_with (first
    | (go_at_call 151;(with_reducible refine HA.out.mono ?_);rintro e w1 ⟨rfl,hw⟩;rw [hw];clear hw w1)
    | (go_at_call 151;(with_reducible refine HB.out.mono ?_);rintro e w1 ⟨rfl,hw⟩;rw [hw];clear hw w1)
    | (go_at_call 202;first | ((with_reducible refine HMA.out.mono ?_);rintro e w1 ⟨rfl,hw⟩;rw [hw];clear hw w1) | ((with_reducible refine HMB.out.mono ?_);rintro e w1 ⟨rfl,hw⟩;rw [hw];clear hw w1))
    | (go_at_call 201;(with_reducible refine HC.out.mono ?_);rintro e w1 ⟨rfl,hw⟩;rw [hw];clear hw w1))
   go_returns;exact ⟨by rw [HN.out];rfl,rfl⟩
set_option maxHeartbeats 4000000 in
theorem fdiv_any (a b:Int) (w:World) (ha:inRange a=true) (hb:inRange b=true) :
  Calls prog 172 #[.int .i64 a,.int .i64 b] w fun e w'=>e=.returned (.tuple #[.int .i64 (dmI a b).1,.int .i64 (dmI a b).2.1,.int .i64 (dmI a b).2.2])∧Below w.heap.size w w':=by
 have HA:Hid (Calls prog 151 #[.int .i64 a] w fun e w'=>e=.returned (.bool true)∧w'=w):=hZz (by have:=zasY a w;rwa [ha] at this);have HBV:Hid (Calls prog 151 #[.int .i64 b] w fun e w'=>e=.returned (.bool true)∧w'=w):=hZz (by have:=zasY b w;rwa [hb] at this);by_cases h0:b=0
 ·subst h0
  have HD:Hid (dmI a 0=(0,0,9)):=hZz (by simp [dmI]);clear ha hb;go_enter func172,ntmps172
  go_wp2_with (first
   | (go_at_call 151;first | ((with_reducible refine HA.out.mono ?_);rintro e w1 ⟨rfl,hw⟩;rw [hw];clear hw w1) | ((with_reducible refine HBV.out.mono ?_);rintro e w1 ⟨rfl,hw⟩;rw [hw];clear hw w1)))
  go_returns;exact ⟨by rw [HD.out];rfl,Below.refl _ _⟩
 ·obtain ⟨q,r,hq,hr,hc⟩:=dm_cases (a:=a) h0
  have hra:=ha;have hrb:=hb;simp only [inRange,Bool.and_eq_true,decide_eq_true_eq] at hra hrb;obtain ⟨t1,t2⟩:=tdm_bd hra hrb h0;have HD:Hid (dmI a b=(q,r,0)):=hZz (by simp [dmI,h0,hq,hr]);obtain ⟨tq,htq⟩:∃ t,a.tdiv b=t:=⟨_,rfl⟩
  obtain ⟨tr,htr⟩:∃ t,a.tmod b=t:=⟨_,rfl⟩
  have hb0:(b == 0)=false:=by simpa using h0
  rw [htq] at t1 hc;rw [htr] at t2 hc;have HQ:=hZz htq;have HR:=hZz htr;go_enter func172,ntmps172
  go_upto_region 5 with (first
   | (go_at_call 151;first | ((with_reducible refine HA.out.mono ?_);rintro e w1 ⟨rfl,hw⟩;rw [hw];clear hw w1) | ((with_reducible refine HBV.out.mono ?_);rintro e w1 ⟨rfl,hw⟩;rw [hw];clear hw w1)))
  go_quiet (fail);obtain ⟨W,hW⟩:∃ W,w.drewN nq=W:=⟨_,rfl⟩
  have HB:Hid (Below w.heap.size w W):=hZz (by rw [← hW];exact zaiZ (Below.refl _ _) _);rw [hW];clear hW HA HBV ha hb hq hr htq htr h0 hb0;rcases hc with ⟨c1,rfl,rfl⟩ | ⟨c1,c2,rfl,rfl⟩ | ⟨c1,c2,rfl,rfl⟩ | ⟨c1,c2,rfl,rfl⟩ | ⟨c1,c2,rfl,rfl⟩
  ·subst c1
   go_wp2_with (fail)
   go_returns;exact ⟨by rw [HD.out];rfl,HB.out⟩
  ·have n1:¬ tr=0:=by omega
   have n2:¬ b<0:=by omega
   have n3:(tr != 0)=true:=by simpa using n1
   clear n1;go_wp2_with (fail)
   go_returns;exact ⟨by rw [HD.out];rfl,HB.out⟩
  ·have n1:¬ r=0:=by omega
   have n3:(r != 0)=true:=by simpa using n1
   clear n1;go_wp2_with (fail)
   go_returns;exact ⟨by rw [HD.out];rfl,HB.out⟩
  ·have n1:¬ tr=0:=by omega
   have n2:¬ tr<0:=by omega
   have n3:(tr != 0)=true:=by simpa using n1
   clear n1;go_wp2_with (fail)
   go_returns;exact ⟨by rw [HD.out];rfl,HB.out⟩
  ·have n1:¬ r=0:=by omega
   have n2:¬ r<0:=by omega
   have n4:¬ b<0:=by omega
   have n3:(r != 0)=true:=by simpa using n1
   clear n1;go_wp2_with (fail)
   go_returns;exact ⟨by rw [HD.out];rfl,HB.out⟩
theorem za3Y {s:ByteArray} {l:List UInt8} (h:¬ s.toList=l):(s.toList == l)=false:=by simpa using h
theorem zbdY {s:ByteArray} {l:List UInt8} (h:s.toList=l):(s.toList == l)=true:=by simpa using h
theorem RetR.err {w w':World} {S:List Value} {r:ResD} {x:Int} (hr:r=([],x)) (hb:Below w.heap.size w w'):RetR w S r (.returned (.tuple #[.slice none 0 0,.int .i64 x])) w':=by
 subst hr;exact ⟨.slice none 0 0,rfl,RowsV.nil none 0,FromC.none,hb⟩
theorem vals1 {w:World} {g:Nat} {t:TypeId} {a:Value} {x:ValD} (h:Blk w g t #[a]) (ha:ValV w a x):ValsV w (.slice (some ⟨g,0,none⟩) 1 1) [x]:=by
 refine ⟨_,1,[[a]],rfl,by simp,by simp,fun i row hr=>⟨g,0,rfl,lt_of_block h,fun j v hv=>?_⟩,rfl,fun i hi hi'=>?_⟩
 ·match i,hr with
  | 0,hr =>
   simp at hr
   subst hr;cases j with
   | zero=>simp at hv;subst hv;simpa using h.cell _ _ rfl
   | succ j=>simp at hv
  | i+1,hr=>simp at hr
 ·match i,hi with
  | 0,_=>exact ⟨a,rfl,ha⟩
  | i+1,hi=>(simp at hi;try omega)
theorem vals2 {w:World} {g:Nat} {t:TypeId} {a b:Value} {x y:ValD} (h:Blk w g t #[a,b]) (ha:ValV w a x) (hb:ValV w b y):ValsV w (.slice (some ⟨g,0,none⟩) 2 2) [x,y]:=by
 refine ⟨_,2,[[a],[b]],rfl,by simp,by simp,fun i row hr=>⟨g,0,rfl,lt_of_block h,fun j v hv=>?_⟩,rfl,fun i hi hi'=>?_⟩
 ·match i,hr with
  | 0,hr | 1,hr =>
   simp at hr
   subst hr;cases j with
   | zero=>simp at hv;subst hv;simpa using h.cell _ _ rfl
   | succ j=>simp at hv
  | i+2,hr=>simp at hr
 ·match i,hi with
  | 0,_=>exact ⟨a,rfl,ha⟩
  | 1,_=>exact ⟨b,rfl,hb⟩
  | i+2,hi=>(simp at hi;try omega)
theorem zc9Y (x:ValD):firstBad [x]=checkF x:=by
 unfold firstBad;split
 ·rfl
 ·rename_i h
  have:checkF x=0:=Decidable.not_not.1 h
  rw [this];rfl
theorem zapY {w:World} {v:Value} {c:CellD} {r:ValD} (h:ValV w v (c :: r)):∃ b off n cap,v=.slice (some ⟨b,off,none⟩) n cap∧n=r.length+1∧w.cell? ⟨b,off,none⟩=some (.int .i64 c.kind)∧w.cell? ⟨b,off+1,none⟩=some (.int .i64 c.int)∧w.cell? ⟨b,off+2,none⟩=some (.string c.str)∧w.cell? ⟨b,off+3,none⟩=some (.int .i64 c.n):=by
 obtain ⟨A,cap,rfl,hc,hm,hs⟩:=h.at;have hlt:0<(c :: r).length:=by simp
 obtain ⟨b,off,rfl,_⟩:=hs.ptr hlt;have c0:=hs.cell0 hlt (v:=.int .i64 c.kind) rfl;have c1:=hs.cell hlt (j:=1) (v:=.int .i64 c.int) rfl;have c2:=hs.cell hlt (j:=2) (v:=.string c.str) rfl;have c3:=hs.cell hlt (j:=3) (v:=.int .i64 c.n) rfl;simp only [Nat.zero_mul,Nat.add_zero] at c0 c1 c2 c3;exact ⟨b,off,_,cap,rfl,by simp,c0,c1,c2,c3⟩
theorem unary_any (op:ByteArray) (l:ValD) (v:Value) (w:World) (h:ValV w v l) (hp:Pow w) (ho:OkV l) :
  Calls prog 76 #[.string op,v] w (RetR w [] (unaryR op l)):=by
 obtain ⟨P,hP⟩:∃ P:Ending→World→Prop,RetR w [] (unaryR op l)=P:=⟨_,rfl⟩
 rw [hP];have HP:=hZz hP;have HV:=hZz h;have HPW:=hZz hp;obtain ⟨A,n,cap,rfl⟩:=h.shape
 have HCK:Hid (Calls prog 115 #[.slice (some ⟨w.heap.size,0,none⟩) 1 1] (w.alloc (.cells #[.slice A n cap] 96)) fun e w'=>e=.returned (.int .i64 (checkF l))∧Below w.heap.size w w'):=hZz (by
  have:=echeck_any [l] _ (w.alloc (.cells #[.slice A n cap] 96)) (vals1 (Blk.new _ _ _) (h.below (zabZ _ _))) (hp.below (zabZ _ _)) (by simpa using ho)
  rw [zc9Y] at this;exact this.mono fun e w' ⟨he,hb⟩=>⟨he,zafZ hb (zabZ _ _)⟩)
 by_cases hop:op.toList=[45]∨op.toList=[110,111,116]
 case neg =>
  have h1:¬ op.toList=[45]:=fun e=>hop (.inl e)
  have h2:¬ op.toList=[110,111,116]:=fun e=>hop (.inr e)
  have h1':=za3Y h1;have h2':=za3Y h2;have HR:Hid (unaryR op l=([],4)):=hZz (by unfold unaryR;rw [if_pos hop]);clear hop h hp ho hP;go_enter func76,ntmps76
  go_wp2_with (fail)
  rw [← HP.out];exact RetR.err HR.out (Below.refl _ _)
 by_cases hck:checkF l=0
 case neg =>
  have HR:Hid (unaryR op l=([],checkF l)):=hZz (by unfold unaryR;rw [if_neg (not_not_intro hop),if_pos hck]);obtain ⟨ck,hc⟩:∃ c,checkF l=c:=⟨_,rfl⟩
  rw [hc] at HCK HR hck;have hck':(ck != 0)=true:=by simpa using hck
  clear hck h hp ho hP hc;rcases hop with h1 | h1
  all_goals
   have h1':=zbdY h1;go_enter func76,ntmps76
   go_wp2_with (first
    | (go_at_call 115;((with_reducible refine HCK.out.mono ?_);rintro e w1 ⟨rfl,hb1⟩;have HB1:=hZz hb1;clear hb1)))
   rw [← HP.out];exact RetR.err HR.out HB1.out
 obtain ⟨c,r,rfl⟩:∃ c r,l=c :: r:=by
  cases l with
  | nil=>exact absurd rfl (zdgY hck)
  | cons c r=>exact ⟨c,r,rfl⟩
 have HK:=hZz hck;rw [hck] at HCK;obtain ⟨b,off,n',cap',e,rfl,c0,c1,c2,c3⟩:=zapY h;injection e with e1 e2 e3
 subst e1 e2 e3;have HC0:=hZz c0;have HC1:=hZz c1;have HIR:Hid (c.kind=3→inRange c.int=true):=hZz fun hk=>zbpY hck (by simp) hk
 have hpos:(0:Int)<((r.length+1:Nat):Int):=by omega
 obtain ⟨N,hN⟩:∃ N,r.length+1=N:=⟨_,rfl⟩
 rw [hN] at HCK HV hpos ⊢
 have HU:Hid (unaryR op (c :: r)=if op.toList=[110,111,116]∧c.kind=2 then ([bCel (decide (c.int=0))],0) else if op.toList=[45]∧c.kind=3 then ([iCel (-c.int)],0) else ([],7)):=hZz (by
  unfold unaryR;rw [if_neg (not_not_intro hop),if_neg (by simpa using hck)])
 have HT:Hid (∀ wx,Below w.heap.size w wx→Calls prog 116 #[.slice (some ⟨b,off,none⟩) N cap] wx fun e w'=>e=.returned (.tuple #[.bool (c.int != 0),.bool (c.kind == 2)])∧∃ q,w'=wx.drewN q):=hZz fun wx hb=>truth_any c r _ wx (HV.out.below hb)
 obtain ⟨k,i,s,nn⟩:=c;dsimp only at HT HU HIR HC0 HC1;clear hck h hp ho hP hN c0 c1 c2 c3;have HBT:Hid (∀ bb wx,Calls prog 117 #[.bool bb] wx fun e w'=>∃ u,e=.returned u∧ValV w' u [bCel bb]∧FromC wx w' [] u∧Below wx.heap.size wx w'):=hZz cbool_any;rcases hop with h1 | h1
 ·have h1':=zbdY h1
  have h2':(op.toList == [110,111,116])=false:=by rw [h1];rfl
  have hne:¬ op.toList=[110,111,116]:=by rw [h1];decide
  have HU2:Hid (unaryR op (⟨k,i,s,nn⟩ :: r)=if k=3 then ([iCel (-i)],0) else ([],7)):=hZz (by rw [HU.out,if_neg (fun e=>hne e.1)];by_cases hk:k=3 <;> simp [h1,hk]);clear h1 hne HU;by_cases hk:k=3
  ·subst hk
   have hir:=HIR.out rfl;have hir2:=hir;simp only [inRange,Bool.and_eq_true,decide_eq_true_eq] at hir2
   have HI:Hid (∀ wx,Below w.heap.size w wx→Calls prog 118 #[.int .i64 (-i)] wx (RetR wx [] ([iCel (-i)],0))):=hZz fun wx hb=>by
    have:=cint_any (-i) wx (HPW.out.below hb) (by omega) (by omega)
    rwa [okR_int (inRange_neg hir)] at this
   have hw1 : -9223372036854775808≤-i:=by omega
   have hw2 : -i≤9223372036854775807:=by omega
   have HR:Hid (unaryR op (⟨3,i,s,nn⟩ :: r)=([iCel (-i)],0)):=hZz (by rw [HU2.out,if_pos rfl]);clear hir hir2 HIR HU2;go_enter func76,ntmps76
   go_wp2_with (first
    | (go_at_call 115;((with_reducible refine HCK.out.mono ?_);rintro e w1 ⟨rfl,hb1⟩;have HB1:=hZz hb1;have c0:=(hb1.cell (p:=⟨b,off,none⟩) (bLZ HC0.out)).trans HC0.out;have c1:=(hb1.cell (p:=⟨b,off+1,none⟩) (bLZ HC1.out)).trans HC1.out;clear hb1))
    | (go_at_call 116;((with_reducible refine (HT.out _ HB1.out).mono ?_);rintro e w2 ⟨rfl,q,rfl⟩;have HB2:=hZz (zaiZ HB1.out q)))
    | (go_at_call 118;((with_reducible refine (HI.out _ HB2.out).mono ?_);rintro e w3 ⟨u,rfl,hu,hf,hb3⟩;have HU3:=hZz hu;have HF3:=hZz hf;have HB3:=hZz (zafZ hb3 HB2.out);clear hu hf hb3)))
   rw [← HP.out,HR.out];exact ⟨u,rfl,HU3.out,HF3.out.up HB2.out.size (Below.refl _ _),HB3.out⟩
  ·have hk':(k == 3)=false:=by simpa using hk
   have HR:Hid (unaryR op (⟨k,i,s,nn⟩ :: r)=([],7)):=hZz (by rw [HU2.out,if_neg hk]);clear HU2;go_enter func76,ntmps76
   go_wp2_with (first
    | (go_at_call 115;((with_reducible refine HCK.out.mono ?_);rintro e w1 ⟨rfl,hb1⟩;have HB1:=hZz hb1;have c0:=(hb1.cell (p:=⟨b,off,none⟩) (bLZ HC0.out)).trans HC0.out;clear hb1))
    | (go_at_call 116;((with_reducible refine (HT.out _ HB1.out).mono ?_);rintro e w2 ⟨rfl,q,rfl⟩;have HB2:=hZz (zaiZ HB1.out q))))
   rw [← HP.out];exact RetR.err HR.out HB2.out
 ·have h1':(op.toList == [45])=false:=by rw [h1];rfl
  have h2':=zbdY h1;have hne:¬ op.toList=[45]:=by rw [h1];decide
  have HU2:Hid (unaryR op (⟨k,i,s,nn⟩ :: r)=if k=2 then ([bCel (decide (i=0))],0) else ([],7)):=hZz (by
   rw [HU.out];by_cases hk:k=2
   ·rw [if_pos ⟨h1,hk⟩,if_pos hk]
   ·rw [if_neg (fun e=>hk e.2),if_neg (fun e=>hne e.1),if_neg hk])
  clear h1 hne HU;by_cases hk:k=2
  ·subst hk
   have HR:Hid (unaryR op (⟨2,i,s,nn⟩ :: r)=([bCel (decide (i=0))],0)):=hZz (by rw [HU2.out,if_pos rfl]);clear HU2;obtain ⟨tb,htb⟩:∃ t,(i != 0)=t:=⟨_,rfl⟩
   rw [htb] at HT;have HTB:Hid (decide (i=0)=!tb):=hZz (by rw [← htb];by_cases hz:i=0 <;> simp [hz]);clear htb;cases tb
   all_goals
    go_enter func76,ntmps76
    go_wp2_with (first
     | (go_at_call 115;((with_reducible refine HCK.out.mono ?_);rintro e w1 ⟨rfl,hb1⟩;have HB1:=hZz hb1;clear hb1))
     | (go_at_call 116;((with_reducible refine (HT.out _ HB1.out).mono ?_);rintro e w2 ⟨rfl,q,rfl⟩;have HB2:=hZz (zaiZ HB1.out q)))
     | (go_at_call 117;((with_reducible refine (HBT.out _ _).mono ?_);rintro e w3 ⟨u,rfl,hu,hf,hb3⟩;have HU3:=hZz hu;have HF3:=hZz hf;have HB3:=hZz (zafZ hb3 HB2.out);clear hu hf hb3)))
    rw [← HP.out,HR.out,HTB.out];exact ⟨u,rfl,HU3.out,HF3.out.up HB2.out.size (Below.refl _ _),HB3.out⟩
  ·have hk':(k == 2)=false:=by simpa using hk
   have HR:Hid (unaryR op (⟨k,i,s,nn⟩ :: r)=([],7)):=hZz (by rw [HU2.out,if_neg hk]);clear HU2;go_enter func76,ntmps76
   go_wp2_with (first
    | (go_at_call 115;((with_reducible refine HCK.out.mono ?_);rintro e w1 ⟨rfl,hb1⟩;have HB1:=hZz hb1;clear hb1))
    | (go_at_call 116;((with_reducible refine (HT.out _ HB1.out).mono ?_);rintro e w2 ⟨rfl,q,rfl⟩;have HB2:=hZz (zaiZ HB1.out q))))
   rw [← HP.out];exact RetR.err HR.out HB2.out
end Go.Proofs.YthiimbhjpdphpaaGreatDoor
