/- E7, E8, E9, E10, E11, E12, EL, RO1 -/
import Derived.Test.YtekdhlfapejijaaGreatDoorQE5
import Derived.Test.YtekdhlfapejijaaGreatDoorQE6
set_option linter.unusedVariables false
set_option linter.unusedSimpArgs false
namespace Go.Proofs.YtekdhlfapejijaaGreatDoor
open Go.RowKit
set_option maxRecDepth 100000
set_option maxHeartbeats 8000000
open Go.Proofs.Tryz
section
def numI (n:Int):Int × Int:=if inRange n=true then (n,0) else (0,8)
attribute [local go_sem] zacZ
theorem nresult_any (n:Int) (w:World):Calls prog 143 #[.int .i64 n] w fun e w'=>e=.returned (.tuple #[.int .i64 (numI n).1,.int .i64 (numI n).2])∧w'=w:=by
 have HV:=hZz (zcfY n w);have HI:Hid (inRange n=(decide (-1000000000000≤n) && decide (n≤1000000000000))):=hZz rfl;obtain ⟨b,hb⟩:∃ b,(decide (-1000000000000≤n) && decide (n≤1000000000000))=b:=⟨_,rfl⟩
 rw [hb] at HV HI;clear hb;cases b
 ·have HN:Hid (numI n=(0,8)):=hZz (by unfold numI;rw [HI.out];rfl)
  go_enter func143,ntmps143
  go_wp2_with (first | (go_at_call 154;(with_reducible refine HV.out.mono ?_);rintro e w1 ⟨rfl,rfl⟩))
  go_returns;exact ⟨by rw [HN.out];rfl,rfl⟩
 ·have HN:Hid (numI n=(n,0)):=hZz (by unfold numI;rw [HI.out];rfl)
  go_enter func143,ntmps143
  go_wp2_with (first | (go_at_call 154;(with_reducible refine HV.out.mono ?_);rintro e w1 ⟨rfl,rfl⟩))
  go_returns;exact ⟨by rw [HN.out];rfl,rfl⟩
set_option maxHeartbeats 4000000 in
theorem nvalid_any (a b:Int) (g:Nat) (w:World) (ha:inRange a=true) (hb:inRange b=true) (h0:w.cell? ⟨g,0,none⟩=some (.int .i64 a)) (h1:w.cell? ⟨g,1,none⟩=some (.int .i64 b)) :
  Calls prog 142 #[.slice (some ⟨g,0,none⟩) 2 2] w fun e w'=>e=.returned (.bool true)∧w'=w:=by
 have HA:Hid (Calls prog 154 #[.int .i64 a] w fun e w'=>e=.returned (.bool true)∧w'=w):=hZz (by have:=zcfY a w;unfold inRange at ha;rwa [ha] at this);have HB:Hid (Calls prog 154 #[.int .i64 b] w fun e w'=>e=.returned (.bool true)∧w'=w):=hZz (by have:=zcfY b w;unfold inRange at hb;rwa [hb] at this);clear ha hb;go_enter func142,ntmps142
 go_wp2_with (fail)
 go_loop [4,7] (fun _ i=>∃ k:Nat,k≤2∧i=.int .i64 k) (fun _ i=>2 - (intOf i).toNat)
 case atStart=>exact ⟨0,by omega,rfl⟩
 case round =>
  obtain ⟨k,hk,rfl⟩:=hrel;obtain rfl | rfl | rfl:k=0∨k=1∨k=2:=by omega
  ·go_wp2_with (first | (go_at_call 154;(with_reducible refine HA.out.mono ?_);rintro e w1 ⟨rfl,rfl⟩))
   exact ⟨⟨1,by omega,rfl⟩,by simp [intOf]⟩
  ·go_wp2_with (first | (go_at_call 154;(with_reducible refine HB.out.mono ?_);rintro e w1 ⟨rfl,rfl⟩))
   exact ⟨⟨2,by omega,rfl⟩,by simp [intOf]⟩
  ·go_wp2_with (fail)
   go_ret;exact ⟨rfl,rfl⟩
theorem zcoY (a b:Int) (w:World) (ha:inRange a=true) (hb:inRange b=true):Hid (∀ t,Calls prog 142 #[.slice (some ⟨w.heap.size,0,none⟩) 2 2] (w.alloc (.cells #[.int .i64 a,.int .i64 b] t)) fun e w'=>e=.returned (.bool true)∧w'=w.alloc (.cells #[.int .i64 a,.int .i64 b] t)) :=
 hZz fun t=>nvalid_any a b w.heap.size _ ha hb ((Blk.new w t _).cell 0 _ rfl) ((Blk.new w t _).cell 1 _ rfl)
set_option maxHeartbeats 4000000 in
theorem nadd_any (a b:Int) (w:World) (ha:inRange a=true) (hb:inRange b=true) :
  Calls prog 88 #[.int .i64 a,.int .i64 b] w fun e w'=>e=.returned (.tuple #[.int .i64 (numI (a+b)).1,.int .i64 (numI (a+b)).2])∧Below w.heap.size w w':=by
 have HV:=zcoY a b w ha hb;have HC:Hid (∀ wx,Calls prog 143 #[.int .i64 (a+b)] wx fun e w'=>e=.returned (.tuple #[.int .i64 (numI (a+b)).1,.int .i64 (numI (a+b)).2])∧w'=wx):=hZz fun wx=>nresult_any _ wx
 obtain ⟨N,hN⟩:∃ N,numI (a+b)=N:=⟨_,rfl⟩
 rw [hN] at HC ⊢;obtain ⟨n1,n2⟩:=N;simp only [inRange,Bool.and_eq_true,decide_eq_true_eq] at ha hb;have hlo : -9223372036854775808≤a+b:=by omega
 have hhi:a+b≤9223372036854775807:=by omega
 clear hN ha hb;go_enter func88,ntmps88
 go_wp2_with (first
  | (go_at_call 142;(with_reducible refine (HV.out _).mono ?_);rintro e w1 ⟨rfl,rfl⟩)
  | (go_at_call 143;(with_reducible refine (HC.out _).mono ?_);rintro e w1 ⟨rfl,rfl⟩))
 go_returns;exact ⟨rfl,zaaZ _ _⟩
set_option maxHeartbeats 4000000 in
theorem nsub_any (a b:Int) (w:World) (ha:inRange a=true) (hb:inRange b=true) :
  Calls prog 89 #[.int .i64 a,.int .i64 b] w fun e w'=>e=.returned (.tuple #[.int .i64 (numI (a - b)).1,.int .i64 (numI (a - b)).2])∧Below w.heap.size w w':=by
 have HV:=zcoY a b w ha hb;have HC:Hid (∀ wx,Calls prog 143 #[.int .i64 (a - b)] wx fun e w'=>e=.returned (.tuple #[.int .i64 (numI (a - b)).1,.int .i64 (numI (a - b)).2])∧w'=wx):=hZz fun wx=>nresult_any _ wx
 obtain ⟨N,hN⟩:∃ N,numI (a - b)=N:=⟨_,rfl⟩
 rw [hN] at HC ⊢;obtain ⟨n1,n2⟩:=N;simp only [inRange,Bool.and_eq_true,decide_eq_true_eq] at ha hb;have hlo : -9223372036854775808≤a - b:=by omega
 have hhi:a - b≤9223372036854775807:=by omega
 clear hN ha hb;go_enter func89,ntmps89
 go_wp2_with (first
  | (go_at_call 142;(with_reducible refine (HV.out _).mono ?_);rintro e w1 ⟨rfl,rfl⟩)
  | (go_at_call 143;(with_reducible refine (HC.out _).mono ?_);rintro e w1 ⟨rfl,rfl⟩))
 go_returns;exact ⟨rfl,zaaZ _ _⟩
end
theorem fdm_pos {a b:Int} (hb:0<b) (h:a.tmod b<0):a.fdiv b=a.tdiv b - 1∧a.fmod b=a.tmod b+b:=by
 have e:=Int.mul_tdiv_add_tmod a b;have l:=Int.lt_tmod_of_pos a hb;refine (Int.fdiv_fmod_unique hb).2 ⟨?_,by omega,by omega⟩
 rw [Int.mul_sub];omega
theorem fdm_pos' {a b:Int} (hb:0<b) (h:0≤a.tmod b):a.fdiv b=a.tdiv b∧a.fmod b=a.tmod b:=by
 have e:=Int.mul_tdiv_add_tmod a b;have l:=Int.tmod_lt_of_pos a hb;exact (Int.fdiv_fmod_unique hb).2 ⟨by omega,h,l⟩
theorem fdm_neg {a b:Int} (hb:b<0) (h:0<a.tmod b):a.fdiv b=a.tdiv b - 1∧a.fmod b=a.tmod b+b:=by
 have e:=Int.mul_tdiv_add_tmod a b;have l:=Int.tmod_lt_of_pos a (b:=-b) (by omega);rw [Int.tmod_neg] at l;refine (Int.fdiv_fmod_unique' hb).2 ⟨?_,by omega,by omega⟩
 rw [Int.mul_sub];omega
theorem fdm_neg' {a b:Int} (hb:b<0) (h:a.tmod b≤0):a.fdiv b=a.tdiv b∧a.fmod b=a.tmod b:=by
 have e:=Int.mul_tdiv_add_tmod a b;have l:=Int.lt_tmod_of_pos a (b:=-b) (by omega);rw [Int.tmod_neg] at l;exact (Int.fdiv_fmod_unique' hb).2 ⟨by omega,by omega,h⟩
theorem tdm_bd {a b:Int} (ha : -1000000000000≤a∧a≤1000000000000) (hb : -1000000000000≤b∧b≤1000000000000) (h0:b≠0):(-1000000000000≤a.tdiv b∧a.tdiv b≤1000000000000)∧(-1000000000000≤a.tmod b∧a.tmod b≤1000000000000):=by
 have h1:(a.tdiv b).natAbs≤a.natAbs:=by rw [Int.natAbs_tdiv];exact Nat.div_le_self _ _
 have h2:(a.tmod b).natAbs≤a.natAbs:=by rw [Int.natAbs_tmod];exact Nat.mod_le _ _
 omega
theorem fdiv_bd {a b:Int} (ha : -1000000000000≤a∧a≤1000000000000) (hb : -1000000000000≤b∧b≤1000000000000) (h0:b≠0):inRange (a.fdiv b)=true∧inRange (a.fmod b)=true:=by
 obtain ⟨h1,h2⟩:=tdm_bd ha hb h0;have e:=Int.mul_tdiv_add_tmod a b;simp only [inRange,Bool.and_eq_true,decide_eq_true_eq];rcases Int.lt_or_gt_of_ne h0 with hn | hn
 ·by_cases h:0<a.tmod b
  ·obtain ⟨e1,e2⟩:=fdm_neg hn h
   rw [e1,e2];have l:=Int.tmod_lt_of_pos a (b:=-b) (by omega);rw [Int.tmod_neg] at l;refine ⟨⟨?_,by omega⟩,by omega,by omega⟩
   by_cases hq:a.tdiv b≤-1000000000000
   ·have:=Int.mul_le_mul_of_nonpos_right (a:=-1) (b:=b) (c:=a.tdiv b) (by omega) (by omega)
    omega
   ·omega
  ·obtain ⟨e1,e2⟩:=fdm_neg' (a:=a) hn (by omega)
   rw [e1,e2];exact ⟨h1,h2⟩
 ·by_cases h:a.tmod b<0
  ·obtain ⟨e1,e2⟩:=fdm_pos hn h
   rw [e1,e2];have l:=Int.lt_tmod_of_pos a hn;refine ⟨⟨?_,by omega⟩,by omega,by omega⟩
   by_cases hq:a.tdiv b≤-1000000000000
   ·have:=Int.mul_le_mul_of_nonpos_right (a:=b) (b:=1) (c:=a.tdiv b) (by omega) (by omega)
    omega
   ·omega
  ·obtain ⟨e1,e2⟩:=fdm_pos' (a:=a) hn (by omega)
   rw [e1,e2];exact ⟨h1,h2⟩
def dmI (a b:Int):Int × Int × Int:=if b=0 then (0,0,9) else (a.fdiv b,a.fmod b,0)
theorem dm_cases {a b:Int} (h0:b≠0):∃ q r,a.fdiv b=q∧a.fmod b=r∧((a.tmod b=0∧q=a.tdiv b∧r=a.tmod b)∨(a.tmod b<0∧0<b∧q=a.tdiv b - 1∧r=a.tmod b+b)∨(a.tmod b<0∧b<0∧q=a.tdiv b∧r=a.tmod b)∨(0<a.tmod b∧b<0∧q=a.tdiv b - 1∧r=a.tmod b+b)∨(0<a.tmod b∧0<b∧q=a.tdiv b∧r=a.tmod b)):=by
 refine ⟨_,_,rfl,rfl,?_⟩
 rcases Int.lt_or_gt_of_ne h0 with hn | hn
 ·rcases Int.lt_trichotomy (a.tmod b) 0 with h | h | h
  ·obtain ⟨e1,e2⟩:=fdm_neg' (a:=a) hn (by omega)
   exact .inr (.inr (.inl ⟨h,hn,e1,e2⟩))
  ·obtain ⟨e1,e2⟩:=fdm_neg' (a:=a) hn (by omega)
   exact .inl ⟨h,e1,e2⟩
  ·obtain ⟨e1,e2⟩:=fdm_neg (a:=a) hn (by omega)
   exact .inr (.inr (.inr (.inl ⟨h,hn,e1,e2⟩)))
 ·rcases Int.lt_trichotomy (a.tmod b) 0 with h | h | h
  ·obtain ⟨e1,e2⟩:=fdm_pos (a:=a) hn (by omega)
   exact .inr (.inl ⟨h,hn,e1,e2⟩)
  ·obtain ⟨e1,e2⟩:=fdm_pos' (a:=a) hn (by omega)
   exact .inl ⟨h,e1,e2⟩
  ·obtain ⟨e1,e2⟩:=fdm_pos' (a:=a) hn (by omega)
   exact .inr (.inr (.inr (.inr ⟨h,hn,e1,e2⟩)))
section
attribute [local go_sem] zacZ
set_option maxHeartbeats 4000000 in
theorem ndiv_any (a b:Int) (w:World) (ha:inRange a=true) (hb:inRange b=true) :
  Calls prog 91 #[.int .i64 a,.int .i64 b] w fun e w'=>e=.returned (.tuple #[.int .i64 (dmI a b).1,.int .i64 (dmI a b).2.1,.int .i64 (dmI a b).2.2])∧Below w.heap.size w w':=by
 have HV:=zcoY a b w ha hb;by_cases h0:b=0
 ·subst h0
  have HD:Hid (dmI a 0=(0,0,9)):=hZz (by simp [dmI]);clear ha hb;go_enter func91,ntmps91
  go_wp2_with (first
   | (go_at_call 142;(with_reducible refine (HV.out _).mono ?_);rintro e w1 ⟨rfl,rfl⟩))
  go_returns;exact ⟨by rw [HD.out];rfl,zaaZ _ _⟩
 ·obtain ⟨q,r,hq,hr,hc⟩:=dm_cases (a:=a) h0
  have hra:=ha;have hrb:=hb;simp only [inRange,Bool.and_eq_true,decide_eq_true_eq] at hra hrb;obtain ⟨t1,t2⟩:=tdm_bd hra hrb h0;have HD:Hid (dmI a b=(q,r,0)):=hZz (by simp [dmI,h0,hq,hr]);obtain ⟨tq,htq⟩:∃ t,a.tdiv b=t:=⟨_,rfl⟩
  obtain ⟨tr,htr⟩:∃ t,a.tmod b=t:=⟨_,rfl⟩
  have hb0:(b == 0)=false:=by simpa using h0
  rw [htq] at t1 hc;rw [htr] at t2 hc;have HQ:=hZz htq;have HR:=hZz htr;go_enter func91,ntmps91
  go_upto_region 5 with (first
   | (go_at_call 142;(with_reducible refine (HV.out _).mono ?_);rintro e w1 ⟨rfl,rfl⟩))
  go_quiet (fail);obtain ⟨W,hW⟩:∃ W,(w.alloc (.cells #[.int .i64 a,.int .i64 b] 3)).drewN nq=W:=⟨_,rfl⟩
  have HB:Hid (Below w.heap.size w W):=hZz (by rw [← hW];exact zagZ (zaaZ _ _) _);rw [hW];clear hW HV ha hb hq hr htq htr h0 hb0;rcases hc with ⟨c1,rfl,rfl⟩ | ⟨c1,c2,rfl,rfl⟩ | ⟨c1,c2,rfl,rfl⟩ | ⟨c1,c2,rfl,rfl⟩ | ⟨c1,c2,rfl,rfl⟩
  ·subst c1
   go_wp2_with (fail)
   go_returns;exact ⟨by rw [HD.out];rfl,HB.out⟩
  ·have n1:¬ tr=0:=by omega
   have n2:¬ b<0:=by omega
   have n3:(tr != 0)=true:=by simpa using n1
   clear n1;go_wp2_with (fail)
   go_returns;exact ⟨by rw [HD.out];rfl,HB.out⟩
  ·have n1:¬ r=0:=by omega
   have n3:(r != 0)=true:=by simpa using n1
   clear n1;go_wp2_with (fail)
   go_returns;exact ⟨by rw [HD.out];rfl,HB.out⟩
  ·have n1:¬ tr=0:=by omega
   have n2:¬ tr<0:=by omega
   have n3:(tr != 0)=true:=by simpa using n1
   clear n1;go_wp2_with (fail)
   go_returns;exact ⟨by rw [HD.out];rfl,HB.out⟩
  ·have n1:¬ r=0:=by omega
   have n2:¬ r<0:=by omega
   have n4:¬ b<0:=by omega
   have n3:(r != 0)=true:=by simpa using n1
   clear n1;go_wp2_with (fail)
   go_returns;exact ⟨by rw [HD.out];rfl,HB.out⟩
end
section
theorem namount_any (n:Int) (w:World) (h:inRange n=true):Calls prog 145 #[.int .i64 n] w fun e w'=>e=.returned (.int .u64 (n.natAbs:Nat))∧w'=w:=by
 simp only [inRange,Bool.and_eq_true,decide_eq_true_eq] at h;have h1:n≤1000000000000:=h.2;have h2 : -1000000000000≤n:=h.1;obtain ⟨m,hm⟩:∃ m:Nat,n.natAbs=m:=⟨_,rfl⟩
 rw [hm];rcases Int.lt_or_le n 0 with h3 | h3
 ·have e:n=-(m:Int):=by omega
  subst e;have h4:(0:Int)≤(m:Int):=by omega
  have h5:(m:Int)≤1000000000000:=by omega
  clear h hm;go_enter func145,ntmps145
  go_wp2
  go_returns;refine ⟨?_,rfl⟩
  show Ending.returned (Value.int .u64 (max (-(m:Int)) (m:Int)))=_;rw [show max (-(m:Int)) (m:Int)=(m:Int) by omega]
 ·have e:n=(m:Int):=by omega
  subst e;have h4:(0:Int)≤(m:Int):=by omega
  have h5:(m:Int)≤1000000000000:=by omega
  clear h hm;go_enter func145,ntmps145
  go_wp2
  go_returns;refine ⟨?_,rfl⟩
  show Ending.returned (Value.int .u64 (max (m:Int) (-(m:Int))))=_;rw [show max (m:Int) (-(m:Int))=(m:Int) by omega]
attribute [local go_sem] zacZ
set_option maxHeartbeats 4000000 in
theorem nmul_any (a b:Int) (w:World) (ha:inRange a=true) (hb:inRange b=true) :
  Calls prog 90 #[.int .i64 a,.int .i64 b] w fun e w'=>e=.returned (.tuple #[.int .i64 (numI (a * b)).1,.int .i64 (numI (a * b)).2])∧Below w.heap.size w w':=by
 have HV:=zcoY a b w ha hb;have HA:Hid (∀ wx,Calls prog 145 #[.int .i64 a] wx fun e w'=>e=.returned (.int .u64 (a.natAbs:Nat))∧w'=wx):=hZz fun wx=>namount_any a wx ha
 have HB:Hid (∀ wx,Calls prog 145 #[.int .i64 b] wx fun e w'=>e=.returned (.int .u64 (b.natAbs:Nat))∧w'=wx):=hZz fun wx=>namount_any b wx hb
 have hra:=ha;have hrb:=hb;simp only [inRange,Bool.and_eq_true,decide_eq_true_eq] at hra hrb;have hna:a.natAbs<18446744073709551616:=by omega
 have hnb:b.natAbs<18446744073709551616:=by omega
 have HM:Hid (∀ wx,Calls prog 144 #[.int .u64 (a.natAbs:Nat),.int .u64 (b.natAbs:Nat)] wx fun e w'=>e=.returned (.tuple #[.int .u64 ((a.natAbs * b.natAbs / 18446744073709551616:Nat):Int),.int .u64 ((a.natAbs * b.natAbs % 18446744073709551616:Nat):Int)])∧w'=wx):=hZz fun wx=>Tryz.bits_Mul64 _ _ hna hnb wx
 have hab:(a * b).natAbs=a.natAbs * b.natAbs:=Int.natAbs_mul a b;obtain ⟨x,hx⟩:∃ x,a.natAbs=x:=⟨_,rfl⟩
 obtain ⟨y,hy⟩:∃ y,b.natAbs=y:=⟨_,rfl⟩
 obtain ⟨z,hz⟩:∃ z,x * y=z:=⟨_,rfl⟩
 rw [hx,hy] at HM hab;rw [hx] at HA;rw [hy] at HB;rw [hz] at HM hab;obtain ⟨hi,hhi⟩:∃ h,z / 18446744073709551616=h:=⟨_,rfl⟩
 obtain ⟨lo,hlo⟩:∃ h,z % 18446744073709551616=h:=⟨_,rfl⟩
 rw [hhi,hlo] at HM;obtain ⟨p,hp⟩:∃ p,a * b=p:=⟨_,rfl⟩
 rw [hp] at hab;have HP:Hid (IntKind.i64.wrap (a * b)=IntKind.i64.wrap p):=hZz (by rw [hp]);rw [hp]
 have h64:inRange p=true→-9223372036854775808≤p∧p≤9223372036854775807:=by
  intro h;simp only [inRange,Bool.and_eq_true,decide_eq_true_eq] at h;omega
 cases hin:inRange p
 ·have HN:Hid (numI p=(0,8)):=hZz (by unfold numI;rw [hin];rfl)
  have hbig:1000000000000<z:=by
   have:¬ (-1000000000000≤p∧p≤1000000000000):=by
    rw [← Bool.not_eq_true] at hin;simpa [inRange] using hin
   omega
  by_cases h1:(0:Int)<(hi:Int)
  ·clear ha hb hra hrb hna hnb hab hx hy hz hhi hlo hp h64 hin hbig HP
   go_enter func90,ntmps90
   go_wp2_with (first
    | (go_at_call 142;(with_reducible refine (HV.out _).mono ?_);rintro e w1 ⟨rfl,rfl⟩)
    | (go_at_call 145;first | ((with_reducible refine (HA.out _).mono ?_);rintro e w1 ⟨rfl,rfl⟩) | ((with_reducible refine (HB.out _).mono ?_);rintro e w1 ⟨rfl,rfl⟩))
    | (go_at_call 144;(with_reducible refine (HM.out _).mono ?_);rintro e w1 ⟨rfl,rfl⟩))
   go_returns;exact ⟨by rw [HN.out];rfl,zaaZ _ _⟩
  ·have h2:(1000000000000:Int)<(lo:Int):=by omega
   clear ha hb hra hrb hna hnb hab hx hy hz hhi hlo hp h64 hin hbig HP;go_enter func90,ntmps90
   go_wp2_with (first
    | (go_at_call 142;(with_reducible refine (HV.out _).mono ?_);rintro e w1 ⟨rfl,rfl⟩)
    | (go_at_call 145;first | ((with_reducible refine (HA.out _).mono ?_);rintro e w1 ⟨rfl,rfl⟩) | ((with_reducible refine (HB.out _).mono ?_);rintro e w1 ⟨rfl,rfl⟩))
    | (go_at_call 144;(with_reducible refine (HM.out _).mono ?_);rintro e w1 ⟨rfl,rfl⟩))
   go_returns;exact ⟨by rw [HN.out];rfl,zaaZ _ _⟩
 ·have HN:Hid (numI p=(p,0)):=hZz (by unfold numI;rw [hin];rfl)
  have hp64:=h64 hin
  have hsm:z≤1000000000000:=by
   simp only [inRange,Bool.and_eq_true,decide_eq_true_eq] at hin;omega
  have h1:¬ (0:Int)<(hi:Int):=by omega
  have h2:¬ (1000000000000:Int)<(lo:Int):=by omega
  have hlo2 : -9223372036854775808≤a * b:=by rw [hp];exact hp64.1
  have hhi2:a * b≤9223372036854775807:=by rw [hp];exact hp64.2
  have HPE:=hZz hp;clear ha hb hra hrb hna hnb hab hx hy hz hhi hlo hp h64 hin hsm HP hp64;go_enter func90,ntmps90
  go_wp2_with (first
   | (go_at_call 142;(with_reducible refine (HV.out _).mono ?_);rintro e w1 ⟨rfl,rfl⟩)
   | (go_at_call 145;first | ((with_reducible refine (HA.out _).mono ?_);rintro e w1 ⟨rfl,rfl⟩) | ((with_reducible refine (HB.out _).mono ?_);rintro e w1 ⟨rfl,rfl⟩))
   | (go_at_call 144;(with_reducible refine (HM.out _).mono ?_);rintro e w1 ⟨rfl,rfl⟩))
  go_returns;exact ⟨by rw [HN.out,← HPE.out];rfl,zaaZ _ _⟩
end
section
theorem zaiZ {s:ByteArray} {l:List UInt8} (h:¬ s.toList=l):(s.toList == l)=false:=by simpa using h
theorem zagY {s:ByteArray} {l:List UInt8} (h:s.toList=l):(s.toList == l)=true:=by simpa using h
theorem RetR.err {w w':World} {S:List Value} {r:ResD} {x:Int} (hr:r=([],x)) (hb:Below w.heap.size w w'):RetR w S r (.returned (.tuple #[.slice none 0 0,.int .i64 x])) w':=by
 subst hr;exact ⟨.slice none 0 0,rfl,RowsV.nil none 0,FromC.none,hb⟩
theorem vals1 {w:World} {g:Nat} {t:TypeId} {a:Value} {x:ValD} (h:Blk w g t #[a]) (ha:ValV w a x):ValsV w (.slice (some ⟨g,0,none⟩) 1 1) [x]:=by
 refine ⟨_,1,[[a]],rfl,by simp,by simp,fun i row hr=>⟨g,0,rfl,lt_of_block h,fun j v hv=>?_⟩,rfl,fun i hi hi'=>?_⟩
 ·match i,hr with
  | 0,hr =>
   simp at hr
   subst hr;cases j with
   | zero=>simp at hv;subst hv;simpa using h.cell _ _ rfl
   | succ j=>simp at hv
  | i+1,hr=>simp at hr
 ·match i,hi with
  | 0,_=>exact ⟨a,rfl,ha⟩
  | i+1,hi=>(simp at hi;try omega)
theorem vals2 {w:World} {g:Nat} {t:TypeId} {a b:Value} {x y:ValD} (h:Blk w g t #[a,b]) (ha:ValV w a x) (hb:ValV w b y):ValsV w (.slice (some ⟨g,0,none⟩) 2 2) [x,y]:=by
 refine ⟨_,2,[[a],[b]],rfl,by simp,by simp,fun i row hr=>⟨g,0,rfl,lt_of_block h,fun j v hv=>?_⟩,rfl,fun i hi hi'=>?_⟩
 ·match i,hr with
  | 0,hr | 1,hr =>
   simp at hr
   subst hr;cases j with
   | zero=>simp at hv;subst hv;simpa using h.cell _ _ rfl
   | succ j=>simp at hv
  | i+2,hr=>simp at hr
 ·match i,hi with
  | 0,_=>exact ⟨a,rfl,ha⟩
  | 1,_=>exact ⟨b,rfl,hb⟩
  | i+2,hi=>(simp at hi;try omega)
theorem za5Y (x:ValD):firstBad [x]=checkF x:=by
 unfold firstBad;split
 ·rfl
 ·rename_i h
  have:checkF x=0:=Decidable.not_not.1 h
  rw [this];rfl
theorem zaaY {w:World} {v:Value} {c:CellD} {r:ValD} (h:ValV w v (c :: r)):∃ b off n cap,v=.slice (some ⟨b,off,none⟩) n cap∧n=r.length+1∧w.cell? ⟨b,off,none⟩=some (.int .i64 c.kind)∧w.cell? ⟨b,off+1,none⟩=some (.int .i64 c.int)∧w.cell? ⟨b,off+2,none⟩=some (.string c.str)∧w.cell? ⟨b,off+3,none⟩=some (.int .i64 c.n):=by
 obtain ⟨A,cap,rfl,hc,hm,hs⟩:=h.at;have hlt:0<(c :: r).length:=by simp
 obtain ⟨b,off,rfl,_⟩:=hs.ptr hlt;have c0:=hs.cell0 hlt (v:=.int .i64 c.kind) rfl;have c1:=hs.cell hlt (j:=1) (v:=.int .i64 c.int) rfl;have c2:=hs.cell hlt (j:=2) (v:=.string c.str) rfl;have c3:=hs.cell hlt (j:=3) (v:=.int .i64 c.n) rfl;simp only [Nat.zero_mul,Nat.add_zero] at c0 c1 c2 c3;exact ⟨b,off,_,cap,rfl,by simp,c0,c1,c2,c3⟩
attribute [local go_sem] zacZ
theorem unary_any (op:ByteArray) (l:ValD) (v:Value) (w:World) (h:ValV w v l) (hp:Pow w) (ho:OkV l) :
  Calls prog 11 #[.string op,v] w (RetR w [] (unaryR op l)):=by
 obtain ⟨P,hP⟩:∃ P:Ending→World→Prop,RetR w [] (unaryR op l)=P:=⟨_,rfl⟩
 rw [hP];have HP:=hZz hP;have HV:=hZz h;have HPW:=hZz hp;obtain ⟨A,n,cap,rfl⟩:=h.shape
 have HCK:Hid (Calls prog 30 #[.slice (some ⟨w.heap.size,0,none⟩) 1 1] (w.alloc (.cells #[.slice A n cap] 22)) fun e w'=>e=.returned (.int .i64 (checkF l))∧Below w.heap.size w w'):=hZz (by
  have:=zaeY [l] _ (w.alloc (.cells #[.slice A n cap] 22)) (vals1 (Blk.new _ _ _) (h.below (zaaZ _ _))) (hp.below (zaaZ _ _)) (by simpa using ho)
  rw [za5Y] at this;exact this.mono fun e w' ⟨he,hb⟩=>⟨he,zadZ hb (zaaZ _ _)⟩)
 by_cases hop:op.toList=[45]∨op.toList=[110,111,116]
 case neg =>
  have h1:¬ op.toList=[45]:=fun e=>hop (.inl e)
  have h2:¬ op.toList=[110,111,116]:=fun e=>hop (.inr e)
  have h1':=zaiZ h1;have h2':=zaiZ h2;have HR:Hid (unaryR op l=([],4)):=hZz (by unfold unaryR;rw [if_pos hop]);clear hop h hp ho hP;go_enter func11,ntmps11
  go_wp2_with (fail)
  rw [← HP.out];exact RetR.err HR.out (Below.refl _ _)
 by_cases hck:checkF l=0
 case neg =>
  have HR:Hid (unaryR op l=([],checkF l)):=hZz (by unfold unaryR;rw [if_neg (not_not_intro hop),if_pos hck]);obtain ⟨ck,hc⟩:∃ c,checkF l=c:=⟨_,rfl⟩
  rw [hc] at HCK HR hck;have hck':(ck != 0)=true:=by simpa using hck
  clear hck h hp ho hP hc;rcases hop with h1 | h1
  all_goals
   have h1':=zagY h1;go_enter func11,ntmps11
   go_wp2_with (first
    | (go_at_call 30;((with_reducible refine HCK.out.mono ?_);rintro e w1 ⟨rfl,hb1⟩;have HB1:=hZz hb1;clear hb1)))
   rw [← HP.out];exact RetR.err HR.out HB1.out
 obtain ⟨c,r,rfl⟩:∃ c r,l=c :: r:=by
  cases l with
  | nil=>exact absurd rfl (zadY hck)
  | cons c r=>exact ⟨c,r,rfl⟩
 have HK:=hZz hck;rw [hck] at HCK;obtain ⟨b,off,n',cap',e,rfl,c0,c1,c2,c3⟩:=zaaY h;injection e with e1 e2 e3
 subst e1 e2 e3;have HC0:=hZz c0;have HC1:=hZz c1;have HIR:Hid (c.kind=3→inRange c.int=true):=hZz fun hk=>zbzY hck (by simp) hk
 have hpos:(0:Int)<((r.length+1:Nat):Int):=by omega
 obtain ⟨N,hN⟩:∃ N,r.length+1=N:=⟨_,rfl⟩
 rw [hN] at HCK HV hpos ⊢
 have HU:Hid (unaryR op (c :: r)=if op.toList=[110,111,116]∧c.kind=2 then ([bCel (decide (c.int=0))],0) else if op.toList=[45]∧c.kind=3 then ([iCel (-c.int)],0) else ([],7)):=hZz (by
  unfold unaryR;rw [if_neg (not_not_intro hop),if_neg (by simpa using hck)])
 have HT:Hid (∀ wx,Below w.heap.size w wx→Calls prog 31 #[.slice (some ⟨b,off,none⟩) N cap] wx fun e w'=>e=.returned (.tuple #[.bool (c.int != 0),.bool (c.kind == 2)])∧∃ q,w'=wx.drewN q):=hZz fun wx hb=>truth_any c r _ wx (HV.out.below hb)
 obtain ⟨k,i,s,nn⟩:=c;dsimp only at HT HU HIR HC0 HC1;clear hck h hp ho hP hN c0 c1 c2 c3;have HBT:Hid (∀ bb wx,Calls prog 32 #[.bool bb] wx fun e w'=>∃ u,e=.returned u∧ValV w' u [bCel bb]∧FromC wx w' [] u∧Below wx.heap.size wx w'):=hZz zdhY;rcases hop with h1 | h1
 ·have h1':=zagY h1
  have h2':(op.toList == [110,111,116])=false:=by rw [h1];rfl
  have hne:¬ op.toList=[110,111,116]:=by rw [h1];decide
  have HU2:Hid (unaryR op (⟨k,i,s,nn⟩ :: r)=if k=3 then ([iCel (-i)],0) else ([],7)):=hZz (by rw [HU.out,if_neg (fun e=>hne e.1)];by_cases hk:k=3 <;> simp [h1,hk]);clear h1 hne HU;by_cases hk:k=3
  ·subst hk
   have hir:=HIR.out rfl;have hir2:=hir;simp only [inRange,Bool.and_eq_true,decide_eq_true_eq] at hir2
   have HI:Hid (∀ wx,Below w.heap.size w wx→Calls prog 33 #[.int .i64 (-i)] wx (RetR wx [] ([iCel (-i)],0))):=hZz fun wx hb=>by
    have:=zd1Y (-i) wx (HPW.out.below hb) (by omega) (by omega)
    rwa [okR_int (inRange_neg hir)] at this
   have hw1 : -9223372036854775808≤-i:=by omega
   have hw2 : -i≤9223372036854775807:=by omega
   have HR:Hid (unaryR op (⟨3,i,s,nn⟩ :: r)=([iCel (-i)],0)):=hZz (by rw [HU2.out,if_pos rfl]);clear hir hir2 HIR HU2;go_enter func11,ntmps11
   go_wp2_with (first
    | (go_at_call 30;((with_reducible refine HCK.out.mono ?_);rintro e w1 ⟨rfl,hb1⟩;have HB1:=hZz hb1;have c0:=(hb1.cell (p:=⟨b,off,none⟩) (bLZ HC0.out)).trans HC0.out;have c1:=(hb1.cell (p:=⟨b,off+1,none⟩) (bLZ HC1.out)).trans HC1.out;clear hb1))
    | (go_at_call 31;((with_reducible refine (HT.out _ HB1.out).mono ?_);rintro e w2 ⟨rfl,q,rfl⟩;have HB2:=hZz (zagZ HB1.out q)))
    | (go_at_call 33;((with_reducible refine (HI.out _ HB2.out).mono ?_);rintro e w3 ⟨u,rfl,hu,hf,hb3⟩;have HU3:=hZz hu;have HF3:=hZz hf;have HB3:=hZz (zadZ hb3 HB2.out);clear hu hf hb3)))
   rw [← HP.out,HR.out];exact ⟨u,rfl,HU3.out,HF3.out.up HB2.out.size (Below.refl _ _),HB3.out⟩
  ·have hk':(k == 3)=false:=by simpa using hk
   have HR:Hid (unaryR op (⟨k,i,s,nn⟩ :: r)=([],7)):=hZz (by rw [HU2.out,if_neg hk]);clear HU2;go_enter func11,ntmps11
   go_wp2_with (first
    | (go_at_call 30;((with_reducible refine HCK.out.mono ?_);rintro e w1 ⟨rfl,hb1⟩;have HB1:=hZz hb1;have c0:=(hb1.cell (p:=⟨b,off,none⟩) (bLZ HC0.out)).trans HC0.out;clear hb1))
    | (go_at_call 31;((with_reducible refine (HT.out _ HB1.out).mono ?_);rintro e w2 ⟨rfl,q,rfl⟩;have HB2:=hZz (zagZ HB1.out q))))
   rw [← HP.out];exact RetR.err HR.out HB2.out
 ·have h1':(op.toList == [45])=false:=by rw [h1];rfl
  have h2':=zagY h1;have hne:¬ op.toList=[45]:=by rw [h1];decide
  have HU2:Hid (unaryR op (⟨k,i,s,nn⟩ :: r)=if k=2 then ([bCel (decide (i=0))],0) else ([],7)):=hZz (by
   rw [HU.out];by_cases hk:k=2
   ·rw [if_pos ⟨h1,hk⟩,if_pos hk]
   ·rw [if_neg (fun e=>hk e.2),if_neg (fun e=>hne e.1),if_neg hk])
  clear h1 hne HU;by_cases hk:k=2
  ·subst hk
   have HR:Hid (unaryR op (⟨2,i,s,nn⟩ :: r)=([bCel (decide (i=0))],0)):=hZz (by rw [HU2.out,if_pos rfl]);clear HU2;obtain ⟨tb,htb⟩:∃ t,(i != 0)=t:=⟨_,rfl⟩
   rw [htb] at HT;have HTB:Hid (decide (i=0)=!tb):=hZz (by rw [← htb];by_cases hz:i=0 <;> simp [hz]);clear htb;cases tb
   all_goals
    go_enter func11,ntmps11
    go_wp2_with (first
     | (go_at_call 30;((with_reducible refine HCK.out.mono ?_);rintro e w1 ⟨rfl,hb1⟩;have HB1:=hZz hb1;clear hb1))
     | (go_at_call 31;((with_reducible refine (HT.out _ HB1.out).mono ?_);rintro e w2 ⟨rfl,q,rfl⟩;have HB2:=hZz (zagZ HB1.out q)))
     | (go_at_call 32;((with_reducible refine (HBT.out _ _).mono ?_);rintro e w3 ⟨u,rfl,hu,hf,hb3⟩;have HU3:=hZz hu;have HF3:=hZz hf;have HB3:=hZz (zadZ hb3 HB2.out);clear hu hf hb3)))
    rw [← HP.out,HR.out,HTB.out];exact ⟨u,rfl,HU3.out,HF3.out.up HB2.out.size (Below.refl _ _),HB3.out⟩
  ·have hk':(k == 2)=false:=by simpa using hk
   have HR:Hid (unaryR op (⟨k,i,s,nn⟩ :: r)=([],7)):=hZz (by rw [HU2.out,if_neg hk]);clear HU2;go_enter func11,ntmps11
   go_wp2_with (first
    | (go_at_call 30;((with_reducible refine HCK.out.mono ?_);rintro e w1 ⟨rfl,hb1⟩;have HB1:=hZz hb1;clear hb1))
    | (go_at_call 31;((with_reducible refine (HT.out _ HB1.out).mono ?_);rintro e w2 ⟨rfl,q,rfl⟩;have HB2:=hZz (zagZ HB1.out q))))
   rw [← HP.out];exact RetR.err HR.out HB2.out
end
section
def arithN (op:List UInt8) (a b:Int):Int × Int :=
 if op=[43] then numI (a+b) else if op=[45] then numI (a - b) else if op=[42] then numI (a * b)
 else if op=[47] then ((dmI a b).1,(dmI a b).2.2) else ((dmI a b).2.1,(dmI a b).2.2)
theorem numI_ok {n:Int} (h:(numI n).2=0):inRange (numI n).1=true:=by
 unfold numI at h ⊢;split
 ·rename_i h1;exact h1
 ·rename_i h1;rw [if_neg h1] at h;simp at h
theorem dmI_ok {a b:Int} (ha:inRange a=true) (hb:inRange b=true) (h:(dmI a b).2.2=0):inRange (dmI a b).1=true∧inRange (dmI a b).2.1=true:=by
 unfold dmI at h ⊢;by_cases h0:b=0
 ·rw [if_pos h0] at h;simp at h
 ·rw [if_neg h0]
  simp only [inRange,Bool.and_eq_true,decide_eq_true_eq] at ha hb;exact fdiv_bd ha hb h0
theorem arithN_ok {op:List UInt8} {a b:Int} (ha:inRange a=true) (hb:inRange b=true) (h:(arithN op a b).2=0):inRange (arithN op a b).1=true:=by
 unfold arithN at h ⊢
 repeat' split at h
 ·rename_i h1;rw [if_pos h1];exact numI_ok h
 ·rename_i h1 h2;rw [if_neg h1,if_pos h2];exact numI_ok h
 ·rename_i h1 h2 h3;rw [if_neg h1,if_neg h2,if_pos h3];exact numI_ok h
 ·rename_i h1 h2 h3 h4;rw [if_neg h1,if_neg h2,if_neg h3,if_pos h4];exact (dmI_ok ha hb h).1
 ·rename_i h1 h2 h3 h4;rw [if_neg h1,if_neg h2,if_neg h3,if_neg h4];exact (dmI_ok ha hb h).2
theorem numR_eq (n:Int):numR n=if (numI n).2=0 then ([iCel (numI n).1],0) else ([],(numI n).2):=by
 unfold numR numI;split <;> simp
theorem arithR_eq (op:List UInt8) (a b:Int):arithR op a b=if (arithN op a b).2=0 then ([iCel (arithN op a b).1],0) else ([],(arithN op a b).2):=by
 unfold arithR arithN;by_cases h1:op=[43]
 ·rw [if_pos h1,if_pos h1];exact numR_eq _
 by_cases h2:op=[45]
 ·rw [if_neg h1,if_pos h2,if_neg h1,if_pos h2];exact numR_eq _
 by_cases h3:op=[42]
 ·rw [if_neg h1,if_neg h2,if_pos h3,if_neg h1,if_neg h2,if_pos h3];exact numR_eq _
 rw [if_neg h1,if_neg h2,if_neg h3,if_neg h1,if_neg h2,if_neg h3];by_cases h0:b=0
 ·rw [if_pos h0];unfold dmI;rw [if_pos h0];split <;> rfl
 ·rw [if_neg h0];unfold dmI;rw [if_neg h0]
  by_cases h4:op=[47]
  ·rw [if_pos h4,if_pos h4];rfl
  ·rw [if_neg h4,if_neg h4];rfl
attribute [local go_sem] zacZ
theorem arith_any (op:ByteArray) (a b:Int) (w:World) (hp:Pow w) (ha:inRange a=true) (hb:inRange b=true) :
  Calls prog 40 #[.string op,.int .i64 a,.int .i64 b] w (RetR w [] (arithR op.toList a b)):=by
 obtain ⟨P,hP⟩:∃ P:Ending→World→Prop,RetR w [] (arithR op.toList a b)=P:=⟨_,rfl⟩
 rw [hP];have HP:=hZz hP
 obtain ⟨x,e,hxe,HR,HI⟩:∃ x e,arithN op.toList a b=(x,e)∧Hid (arithR op.toList a b=if e=0 then ([iCel x],0) else ([],e))∧Hid (e=0→∀ wx,Below w.heap.size w wx→Calls prog 33 #[.int .i64 x] wx (RetR wx [] ([iCel x],0))):=by
  refine ⟨_,_,rfl,hZz (arithR_eq _ _ _),hZz fun h wx hbl=>?_⟩
  have hr:=arithN_ok ha hb h;have hr2:=hr;simp only [inRange,Bool.and_eq_true,decide_eq_true_eq] at hr2
  have:=zd1Y (arithN op.toList a b).1 wx (hp.below hbl) (by omega) (by omega)
  rwa [okR_int hr] at this
 have H1:Hid (op.toList=[43]→Calls prog 88 #[.int .i64 a,.int .i64 b] w fun en w'=>en=.returned (.tuple #[.int .i64 x,.int .i64 e])∧Below w.heap.size w w'):=hZz fun h=>by
  have:=nadd_any a b w ha hb
  rw [show numI (a+b)=(x,e) by rw [← hxe];unfold arithN;rw [if_pos h]] at this;exact this
 have H2:Hid (op.toList=[45]→Calls prog 89 #[.int .i64 a,.int .i64 b] w fun en w'=>en=.returned (.tuple #[.int .i64 x,.int .i64 e])∧Below w.heap.size w w'):=hZz fun h=>by
  have:=nsub_any a b w ha hb
  rw [show numI (a - b)=(x,e) by rw [← hxe];unfold arithN;rw [h];rfl] at this;exact this
 have H3:Hid (op.toList=[42]→Calls prog 90 #[.int .i64 a,.int .i64 b] w fun en w'=>en=.returned (.tuple #[.int .i64 x,.int .i64 e])∧Below w.heap.size w w'):=hZz fun h=>by
  have:=nmul_any a b w ha hb
  rw [show numI (a * b)=(x,e) by rw [← hxe];unfold arithN;rw [h];rfl] at this;exact this
 have H4:Hid (op.toList=[47]→Calls prog 91 #[.int .i64 a,.int .i64 b] w fun en w'=>∃ y,en=.returned (.tuple #[.int .i64 x,.int .i64 y,.int .i64 e])∧Below w.heap.size w w'):=hZz fun h=>by
  have h2:((dmI a b).1,(dmI a b).2.2)=(x,e):=by rw [← hxe];unfold arithN;rw [h];rfl
  injection h2 with h2 h3
  exact (ndiv_any a b w ha hb).mono fun en w' ⟨he,hbl⟩=>⟨(dmI a b).2.1,by rw [he,h2,h3],hbl⟩
 have H5:Hid (op.toList≠[43]→op.toList≠[45]→op.toList≠[42]→op.toList≠[47]→Calls prog 91 #[.int .i64 a,.int .i64 b] w fun en w'=>∃ y,en=.returned (.tuple #[.int .i64 y,.int .i64 x,.int .i64 e])∧Below w.heap.size w w'):=hZz fun n1 n2 n3 n4=>by
  have h2:((dmI a b).2.1,(dmI a b).2.2)=(x,e):=by rw [← hxe];unfold arithN;rw [if_neg n1,if_neg n2,if_neg n3,if_neg n4]
  injection h2 with h2 h3
  exact (ndiv_any a b w ha hb).mono fun en w' ⟨he,hbl⟩=>⟨(dmI a b).1,by rw [he,h2,h3],hbl⟩
 clear hP hp ha hb hxe;by_cases he:e=0
 ·subst he
  have HR2:Hid (arithR op.toList a b=([iCel x],0)):=hZz (by rw [HR.out,if_pos rfl]);have HI2:=hZz (HI.out rfl);clear HR HI;by_cases h1:op.toList=[43]
  ·have HC:=hZz (H1.out h1)
   clear H1 H2 H3 H4 H5;have h1':=zagY h1;go_enter func40,ntmps40
   go_wp2_with (first
    | (go_at_call 88;((with_reducible refine HC.out.mono ?_);rintro e w1 ⟨rfl,hb1⟩;have HB1:=hZz hb1;clear hb1))
    | (go_at_call 33;((with_reducible refine (HI2.out _ HB1.out).mono ?_);rintro e w2 ⟨u,rfl,hu,hf,hb2⟩;have HU:=hZz hu;have HF:=hZz hf;have HB2:=hZz (zadZ hb2 HB1.out);clear hu hf hb2)))
   rw [← HP.out,HR2.out];exact ⟨u,rfl,HU.out,HF.out.up HB1.out.size (Below.refl _ _),HB2.out⟩
  have h1':=zaiZ h1;by_cases h2:op.toList=[45]
  ·have HC:=hZz (H2.out h2)
   clear H1 H2 H3 H4 H5;have h2':=zagY h2;go_enter func40,ntmps40
   go_wp2_with (first
    | (go_at_call 89;((with_reducible refine HC.out.mono ?_);rintro e w1 ⟨rfl,hb1⟩;have HB1:=hZz hb1;clear hb1))
    | (go_at_call 33;((with_reducible refine (HI2.out _ HB1.out).mono ?_);rintro e w2 ⟨u,rfl,hu,hf,hb2⟩;have HU:=hZz hu;have HF:=hZz hf;have HB2:=hZz (zadZ hb2 HB1.out);clear hu hf hb2)))
   rw [← HP.out,HR2.out];exact ⟨u,rfl,HU.out,HF.out.up HB1.out.size (Below.refl _ _),HB2.out⟩
  have h2':=zaiZ h2;by_cases h3:op.toList=[42]
  ·have HC:=hZz (H3.out h3)
   clear H1 H2 H3 H4 H5;have h3':=zagY h3;go_enter func40,ntmps40
   go_wp2_with (first
    | (go_at_call 90;((with_reducible refine HC.out.mono ?_);rintro e w1 ⟨rfl,hb1⟩;have HB1:=hZz hb1;clear hb1))
    | (go_at_call 33;((with_reducible refine (HI2.out _ HB1.out).mono ?_);rintro e w2 ⟨u,rfl,hu,hf,hb2⟩;have HU:=hZz hu;have HF:=hZz hf;have HB2:=hZz (zadZ hb2 HB1.out);clear hu hf hb2)))
   rw [← HP.out,HR2.out];exact ⟨u,rfl,HU.out,HF.out.up HB1.out.size (Below.refl _ _),HB2.out⟩
  have h3':=zaiZ h3;by_cases h4:op.toList=[47]
  ·have HC:=hZz (H4.out h4)
   clear H1 H2 H3 H4 H5;have h4':=zagY h4;go_enter func40,ntmps40
   go_wp2_with (first
    | (go_at_call 91;((with_reducible refine HC.out.mono ?_);rintro e w1 ⟨y,rfl,hb1⟩;have HB1:=hZz hb1;clear hb1))
    | (go_at_call 33;((with_reducible refine (HI2.out _ HB1.out).mono ?_);rintro e w2 ⟨u,rfl,hu,hf,hb2⟩;have HU:=hZz hu;have HF:=hZz hf;have HB2:=hZz (zadZ hb2 HB1.out);clear hu hf hb2)))
   rw [← HP.out,HR2.out];exact ⟨u,rfl,HU.out,HF.out.up HB1.out.size (Below.refl _ _),HB2.out⟩
  ·have HC:=hZz (H5.out h1 h2 h3 h4)
   clear H1 H2 H3 H4 H5;have h4':=zaiZ h4;go_enter func40,ntmps40
   go_wp2_with (first
    | (go_at_call 91;((with_reducible refine HC.out.mono ?_);rintro e w1 ⟨y,rfl,hb1⟩;have HB1:=hZz hb1;clear hb1))
    | (go_at_call 33;((with_reducible refine (HI2.out _ HB1.out).mono ?_);rintro e w2 ⟨u,rfl,hu,hf,hb2⟩;have HU:=hZz hu;have HF:=hZz hf;have HB2:=hZz (zadZ hb2 HB1.out);clear hu hf hb2)))
   rw [← HP.out,HR2.out];exact ⟨u,rfl,HU.out,HF.out.up HB1.out.size (Below.refl _ _),HB2.out⟩
 ·have HR2:Hid (arithR op.toList a b=([],e)):=hZz (by rw [HR.out,if_neg he])
  have he':(e != 0)=true:=by simpa using he
  clear HR HI he;by_cases h1:op.toList=[43]
  ·have HC:=hZz (H1.out h1)
   clear H1 H2 H3 H4 H5;have h1':=zagY h1;go_enter func40,ntmps40
   go_wp2_with (first
    | (go_at_call 88;((with_reducible refine HC.out.mono ?_);rintro e w1 ⟨rfl,hb1⟩;have HB1:=hZz hb1;clear hb1)))
   rw [← HP.out];exact RetR.err HR2.out HB1.out
  have h1':=zaiZ h1;by_cases h2:op.toList=[45]
  ·have HC:=hZz (H2.out h2)
   clear H1 H2 H3 H4 H5;have h2':=zagY h2;go_enter func40,ntmps40
   go_wp2_with (first
    | (go_at_call 89;((with_reducible refine HC.out.mono ?_);rintro e w1 ⟨rfl,hb1⟩;have HB1:=hZz hb1;clear hb1)))
   rw [← HP.out];exact RetR.err HR2.out HB1.out
  have h2':=zaiZ h2;by_cases h3:op.toList=[42]
  ·have HC:=hZz (H3.out h3)
   clear H1 H2 H3 H4 H5;have h3':=zagY h3;go_enter func40,ntmps40
   go_wp2_with (first
    | (go_at_call 90;((with_reducible refine HC.out.mono ?_);rintro e w1 ⟨rfl,hb1⟩;have HB1:=hZz hb1;clear hb1)))
   rw [← HP.out];exact RetR.err HR2.out HB1.out
  have h3':=zaiZ h3;by_cases h4:op.toList=[47]
  ·have HC:=hZz (H4.out h4)
   clear H1 H2 H3 H4 H5;have h4':=zagY h4;go_enter func40,ntmps40
   go_wp2_with (first
    | (go_at_call 91;((with_reducible refine HC.out.mono ?_);rintro e w1 ⟨y,rfl,hb1⟩;have HB1:=hZz hb1;clear hb1)))
   rw [← HP.out];exact RetR.err HR2.out HB1.out
  ·have HC:=hZz (H5.out h1 h2 h3 h4)
   clear H1 H2 H3 H4 H5;have h4':=zaiZ h4;go_enter func40,ntmps40
   go_wp2_with (first
    | (go_at_call 91;((with_reducible refine HC.out.mono ?_);rintro e w1 ⟨y,rfl,hb1⟩;have HB1:=hZz hb1;clear hb1)))
   rw [← HP.out];exact RetR.err HR2.out HB1.out
end
theorem blt_tri:∀ a b:List UInt8,(if Op.bytesLess a b then 1 else 0)+(if Op.bytesLess b a then 1 else 0)+(if a=b then 1 else 0)=(1:Nat)
 | [],[]=>rfl
 | [],_ :: _=>rfl
 | _ :: _,[]=>rfl
 | x :: a,y :: b=>by
  have ih:=blt_tri a b;unfold Op.bytesLess;rcases Nat.lt_trichotomy x.toNat y.toNat with h | h | h
  ·have h1:x<y:=h
   have h2:¬ y<x:=fun e=>by have:y.toNat<x.toNat:=e;omega
   have h3:¬ x=y:=fun e=>by subst e;omega
   have h4:¬ y=x:=fun e=>h3 e.symm
   simp [h1,h2,h3,h4]
  ·have h3:x=y:=UInt8.toNat_inj.1 h
   subst h3;have h1:¬ x<x:=fun e=>by have:x.toNat<x.toNat:=e;omega
   simpa [h1] using ih
  ·have h1:y<x:=h
   have h2:¬ x<y:=fun e=>by have:x.toNat<y.toNat:=e;omega
   have h3:¬ x=y:=fun e=>by subst e;omega
   have h4:¬ y=x:=fun e=>h3 e.symm
   simp [h1,h2,h3,h4]
def one (b:Bool):Int:=if b then 1 else 0
section
attribute [local go_sem] zacZ
theorem za2Y (n:Int) (w:World):Calls prog 147 #[.int .i64 n] w fun e w'=>e=.returned (.bool (inRange n))∧w'=w:=by
 by_cases h1 : -1000000000000≤n
 ·by_cases h2:n≤1000000000000
  ·go_enter func147,ntmps147
   go_wp2
   go_ret;exact ⟨by simp [inRange,h1,h2],rfl⟩
  ·go_enter func147,ntmps147
   go_wp2
   go_ret;exact ⟨by simp [inRange,h2],rfl⟩
 ·go_enter func147,ntmps147
  go_wp2
  go_ret;exact ⟨by simp [inRange];intro h;omega,rfl⟩
theorem zb0Y (n:Int) (w:World):Calls prog 148 #[.int .i64 n] w fun e w'=>e=.returned (.tuple #[.int .i64 (numI n).1,.int .i64 (numI n).2])∧w'=w:=by
 have HV:=hZz (za2Y n w);obtain ⟨b,hb⟩:∃ b,inRange n=b:=⟨_,rfl⟩
 have HI:=hZz hb;rw [hb] at HV;clear hb;cases b
 ·have HN:Hid (numI n=(0,8)):=hZz (by unfold numI;rw [HI.out];rfl)
  go_enter func148,ntmps148
  go_wp2_with (first | (go_at_call 147;(with_reducible refine HV.out.mono ?_);rintro e w1 ⟨rfl,rfl⟩))
  go_returns;exact ⟨by rw [HN.out];rfl,rfl⟩
 ·have HN:Hid (numI n=(n,0)):=hZz (by unfold numI;rw [HI.out];rfl)
  go_enter func148,ntmps148
  go_wp2_with (first | (go_at_call 147;(with_reducible refine HV.out.mono ?_);rintro e w1 ⟨rfl,rfl⟩))
  go_returns;exact ⟨by rw [HN.out];rfl,rfl⟩
theorem famount_any (n:Int) (w:World) (h:inRange n=true):Calls prog 149 #[.int .i64 n] w fun e w'=>e=.returned (.int .i64 (n.natAbs:Nat))∧w'=w:=by
 simp only [inRange,Bool.and_eq_true,decide_eq_true_eq] at h;by_cases hn:n<0
 ·have h1 : -9223372036854775808≤-n:=by omega
  have h2 : -n≤9223372036854775807:=by omega
  have HE:Hid (((n.natAbs:Nat):Int)=-n):=hZz (by omega);clear h;go_enter func149,ntmps149
  go_wp2
  go_returns;exact ⟨by rw [HE.out];rfl,rfl⟩
 ·have HE:Hid (((n.natAbs:Nat):Int)=n):=hZz (by omega)
  clear h;go_enter func149,ntmps149
  go_wp2
  go_returns;exact ⟨by rw [HE.out];rfl,rfl⟩
set_option maxHeartbeats 4000000 in
theorem fadd_any (a b:Int) (w:World) (ha:inRange a=true) (hb:inRange b=true) :
  Calls prog 95 #[.int .i64 a,.int .i64 b] w fun e w'=>e=.returned (.tuple #[.int .i64 (numI (a+b)).1,.int .i64 (numI (a+b)).2])∧w'=w:=by
 have HA:Hid (Calls prog 147 #[.int .i64 a] w fun e w'=>e=.returned (.bool true)∧w'=w):=hZz (by have:=za2Y a w;rwa [ha] at this);have HB:Hid (Calls prog 147 #[.int .i64 b] w fun e w'=>e=.returned (.bool true)∧w'=w):=hZz (by have:=za2Y b w;rwa [hb] at this);have HC:=hZz (zb0Y (a+b) w);obtain ⟨⟨n1,n2⟩,hN⟩:∃ N,numI (a+b)=N:=⟨_,rfl⟩
 rw [hN] at HC ⊢;simp only [inRange,Bool.and_eq_true,decide_eq_true_eq] at ha hb;have hlo : -9223372036854775808≤a+b:=by omega
 have hhi:a+b≤9223372036854775807:=by omega
 clear ha hb hN;go_enter func95,ntmps95
 go_wp2_with (first
  | (go_at_call 147;(with_reducible refine HA.out.mono ?_);rintro e w1 ⟨rfl,hw⟩;rw [hw];clear hw w1)
  | (go_at_call 147;(with_reducible refine HB.out.mono ?_);rintro e w1 ⟨rfl,hw⟩;rw [hw];clear hw w1)
  | (go_at_call 148;(with_reducible refine HC.out.mono ?_);rintro e w1 ⟨rfl,hw⟩;rw [hw];clear hw w1))
 go_returns;exact ⟨rfl,rfl⟩
set_option maxHeartbeats 4000000 in
theorem fsub_any (a b:Int) (w:World) (ha:inRange a=true) (hb:inRange b=true) :
  Calls prog 96 #[.int .i64 a,.int .i64 b] w fun e w'=>e=.returned (.tuple #[.int .i64 (numI (a - b)).1,.int .i64 (numI (a - b)).2])∧w'=w:=by
 have HA:Hid (Calls prog 147 #[.int .i64 a] w fun e w'=>e=.returned (.bool true)∧w'=w):=hZz (by have:=za2Y a w;rwa [ha] at this);have HB:Hid (Calls prog 147 #[.int .i64 b] w fun e w'=>e=.returned (.bool true)∧w'=w):=hZz (by have:=za2Y b w;rwa [hb] at this);have HC:=hZz (zb0Y (a - b) w);obtain ⟨⟨n1,n2⟩,hN⟩:∃ N,numI (a - b)=N:=⟨_,rfl⟩
 rw [hN] at HC ⊢;simp only [inRange,Bool.and_eq_true,decide_eq_true_eq] at ha hb;have hlo : -9223372036854775808≤a - b:=by omega
 have hhi:a - b≤9223372036854775807:=by omega
 clear ha hb hN;go_enter func96,ntmps96
 go_wp2_with (first
  | (go_at_call 147;(with_reducible refine HA.out.mono ?_);rintro e w1 ⟨rfl,hw⟩;rw [hw];clear hw w1)
  | (go_at_call 147;(with_reducible refine HB.out.mono ?_);rintro e w1 ⟨rfl,hw⟩;rw [hw];clear hw w1)
  | (go_at_call 148;(with_reducible refine HC.out.mono ?_);rintro e w1 ⟨rfl,hw⟩;rw [hw];clear hw w1))
 go_returns;exact ⟨rfl,rfl⟩
theorem mul_case {a b:Int} (ha:a≠0):((10 ^ 12:Nat) / a.natAbs<b.natAbs)↔10 ^ 12<a.natAbs * b.natAbs:=by
 have h:0<a.natAbs:=by omega
 rw [Nat.div_lt_iff_lt_mul h,Nat.mul_comm]
set_option maxHeartbeats 4000000 in
theorem fmul_any (a b:Int) (w:World) (ha:inRange a=true) (hb:inRange b=true) :
  Calls prog 97 #[.int .i64 a,.int .i64 b] w fun e w'=>e=.returned (.tuple #[.int .i64 (numI (a * b)).1,.int .i64 (numI (a * b)).2])∧w'=w:=by
 have HA:Hid (Calls prog 147 #[.int .i64 a] w fun e w'=>e=.returned (.bool true)∧w'=w):=hZz (by have:=za2Y a w;rwa [ha] at this);have HB:Hid (Calls prog 147 #[.int .i64 b] w fun e w'=>e=.returned (.bool true)∧w'=w):=hZz (by have:=za2Y b w;rwa [hb] at this);have HMA:=hZz (famount_any a w ha);have HMB:=hZz (famount_any b w hb);have hab:(a * b).natAbs=a.natAbs * b.natAbs:=Int.natAbs_mul a b;simp only [inRange,Bool.and_eq_true,decide_eq_true_eq] at ha hb;obtain ⟨x,hx⟩:∃ x,a.natAbs=x:=⟨_,rfl⟩
 obtain ⟨y,hy⟩:∃ y,b.natAbs=y:=⟨_,rfl⟩
 have hmc:=fun h=>mul_case (a:=a) (b:=b) h
 rw [hx,hy] at hmc hab;rw [hx] at HMA;rw [hy] at HMB;have hx2:x≤1000000000000:=by omega
 have hy2:y≤1000000000000:=by omega
 by_cases h0:a=0
 ·subst h0
  have HN:Hid (numI (0 * b)=(0,0)):=hZz (by rw [Int.zero_mul];rfl);have HC:Hid (Calls prog 148 #[.int .i64 0] w fun e w'=>e=.returned (.tuple #[.int .i64 0,.int .i64 0])∧w'=w):=hZz (zb0Y 0 w);have hz:(0:Int) * b=0:=Int.zero_mul b;clear ha hb hmc hab hx hy hx2 hy2;go_enter func97,ntmps97
  go_wp2_with (first
   | (go_at_call 147;(with_reducible refine HA.out.mono ?_);rintro e w1 ⟨rfl,hw⟩;rw [hw];clear hw w1)
   | (go_at_call 147;(with_reducible refine HB.out.mono ?_);rintro e w1 ⟨rfl,hw⟩;rw [hw];clear hw w1)
   | (go_at_call 148;(with_reducible refine HC.out.mono ?_);rintro e w1 ⟨rfl,hw⟩;rw [hw];clear hw w1))
  go_returns;exact ⟨by rw [HN.out];rfl,rfl⟩
 ·have hx0:0<x:=by omega
  have hxi:((x:Int) == 0)=false:=by simp;omega
  have hxn:¬ ((x:Int)=0):=by omega
  have hai:(a != 0)=true:=by simpa using h0
  have hquo:(1000000000000:Int).tdiv (x:Int)=((1000000000000 / x:Nat):Int):=(Int.ofNat_tdiv 1000000000000 x).symm;obtain ⟨q,hq⟩:∃ q,1000000000000 / x=q:=⟨_,rfl⟩
  have hqb:q≤1000000000000:=by rw [← hq];exact Nat.div_le_self _ _
  have hw1:IntKind.i64.wrap (q:Int)=(q:Int):=IntWalk.i64_in _ (by omega);have hmc2:q<y↔1000000000000<x * y:=by have:=hmc h0;rw [← hq];simpa using this
  rw [hq] at hquo;by_cases hbig:q<y
  ·have hlt:1000000000000<x * y:=hmc2.1 hbig
   have HN:Hid (numI (a * b)=(0,8)):=hZz (by
    unfold numI;rw [if_neg];simp only [inRange,Bool.and_eq_true,decide_eq_true_eq];omega)
   have hbig':(q:Int)<(y:Int):=by omega
   clear ha hb hmc hab hx hy hx2 hy2 hmc2 hlt hq hx0 hbig;go_enter func97,ntmps97
   go_wp2_with (first
    | (go_at_call 147;(with_reducible refine HA.out.mono ?_);rintro e w1 ⟨rfl,hw⟩;rw [hw];clear hw w1)
    | (go_at_call 147;(with_reducible refine HB.out.mono ?_);rintro e w1 ⟨rfl,hw⟩;rw [hw];clear hw w1)
    | (go_at_call 149;first | ((with_reducible refine HMA.out.mono ?_);rintro e w1 ⟨rfl,hw⟩;rw [hw];clear hw w1) | ((with_reducible refine HMB.out.mono ?_);rintro e w1 ⟨rfl,hw⟩;rw [hw];clear hw w1)))
   go_returns;exact ⟨by rw [HN.out];rfl,rfl⟩
  ·have hle:x * y≤1000000000000:=by have:=fun h=>hbig (hmc2.2 h);omega
   have HN:Hid (numI (a * b)=(a * b,0)):=hZz (by
    unfold numI;rw [if_pos];simp only [inRange,Bool.and_eq_true,decide_eq_true_eq];omega)
   have hlo : -9223372036854775808≤a * b:=by omega
   have hhi:a * b≤9223372036854775807:=by omega
   have hbig':¬ (q:Int)<(y:Int):=by omega
   have HC:=hZz (zb0Y (a * b) w);rw [HN.out] at HC;clear ha hb hmc hab hx hy hx2 hy2 hmc2 hle hq hx0 hbig;go_enter func97,ntmps97
   go_wp2_with (first
    | (go_at_call 147;(with_reducible refine HA.out.mono ?_);rintro e w1 ⟨rfl,hw⟩;rw [hw];clear hw w1)
    | (go_at_call 147;(with_reducible refine HB.out.mono ?_);rintro e w1 ⟨rfl,hw⟩;rw [hw];clear hw w1)
    | (go_at_call 149;first | ((with_reducible refine HMA.out.mono ?_);rintro e w1 ⟨rfl,hw⟩;rw [hw];clear hw w1) | ((with_reducible refine HMB.out.mono ?_);rintro e w1 ⟨rfl,hw⟩;rw [hw];clear hw w1))
    | (go_at_call 148;(with_reducible refine HC.out.mono ?_);rintro e w1 ⟨rfl,hw⟩;rw [hw];clear hw w1))
   go_returns;exact ⟨by rw [HN.out];rfl,rfl⟩
set_option maxHeartbeats 4000000 in
theorem fdiv_any (a b:Int) (w:World) (ha:inRange a=true) (hb:inRange b=true) :
  Calls prog 98 #[.int .i64 a,.int .i64 b] w fun e w'=>e=.returned (.tuple #[.int .i64 (dmI a b).1,.int .i64 (dmI a b).2.1,.int .i64 (dmI a b).2.2])∧Below w.heap.size w w':=by
 have HA:Hid (Calls prog 147 #[.int .i64 a] w fun e w'=>e=.returned (.bool true)∧w'=w):=hZz (by have:=za2Y a w;rwa [ha] at this);have HBV:Hid (Calls prog 147 #[.int .i64 b] w fun e w'=>e=.returned (.bool true)∧w'=w):=hZz (by have:=za2Y b w;rwa [hb] at this);by_cases h0:b=0
 ·subst h0
  have HD:Hid (dmI a 0=(0,0,9)):=hZz (by simp [dmI]);clear ha hb;go_enter func98,ntmps98
  go_wp2_with (first
   | (go_at_call 147;first | ((with_reducible refine HA.out.mono ?_);rintro e w1 ⟨rfl,hw⟩;rw [hw];clear hw w1) | ((with_reducible refine HBV.out.mono ?_);rintro e w1 ⟨rfl,hw⟩;rw [hw];clear hw w1)))
  go_returns;exact ⟨by rw [HD.out];rfl,Below.refl _ _⟩
 ·obtain ⟨q,r,hq,hr,hc⟩:=dm_cases (a:=a) h0
  have hra:=ha;have hrb:=hb;simp only [inRange,Bool.and_eq_true,decide_eq_true_eq] at hra hrb;obtain ⟨t1,t2⟩:=tdm_bd hra hrb h0;have HD:Hid (dmI a b=(q,r,0)):=hZz (by simp [dmI,h0,hq,hr]);obtain ⟨tq,htq⟩:∃ t,a.tdiv b=t:=⟨_,rfl⟩
  obtain ⟨tr,htr⟩:∃ t,a.tmod b=t:=⟨_,rfl⟩
  have hb0:(b == 0)=false:=by simpa using h0
  rw [htq] at t1 hc;rw [htr] at t2 hc;have HQ:=hZz htq;have HR:=hZz htr;go_enter func98,ntmps98
  go_upto_region 5 with (first
   | (go_at_call 147;first | ((with_reducible refine HA.out.mono ?_);rintro e w1 ⟨rfl,hw⟩;rw [hw];clear hw w1) | ((with_reducible refine HBV.out.mono ?_);rintro e w1 ⟨rfl,hw⟩;rw [hw];clear hw w1)))
  go_quiet (fail);obtain ⟨W,hW⟩:∃ W,w.drewN nq=W:=⟨_,rfl⟩
  have HB:Hid (Below w.heap.size w W):=hZz (by rw [← hW];exact zagZ (Below.refl _ _) _);rw [hW];clear hW HA HBV ha hb hq hr htq htr h0 hb0;rcases hc with ⟨c1,rfl,rfl⟩ | ⟨c1,c2,rfl,rfl⟩ | ⟨c1,c2,rfl,rfl⟩ | ⟨c1,c2,rfl,rfl⟩ | ⟨c1,c2,rfl,rfl⟩
  ·subst c1
   go_wp2_with (fail)
   go_returns;exact ⟨by rw [HD.out];rfl,HB.out⟩
  ·have n1:¬ tr=0:=by omega
   have n2:¬ b<0:=by omega
   have n3:(tr != 0)=true:=by simpa using n1
   clear n1;go_wp2_with (fail)
   go_returns;exact ⟨by rw [HD.out];rfl,HB.out⟩
  ·have n1:¬ r=0:=by omega
   have n3:(r != 0)=true:=by simpa using n1
   clear n1;go_wp2_with (fail)
   go_returns;exact ⟨by rw [HD.out];rfl,HB.out⟩
  ·have n1:¬ tr=0:=by omega
   have n2:¬ tr<0:=by omega
   have n3:(tr != 0)=true:=by simpa using n1
   clear n1;go_wp2_with (fail)
   go_returns;exact ⟨by rw [HD.out];rfl,HB.out⟩
  ·have n1:¬ r=0:=by omega
   have n2:¬ r<0:=by omega
   have n4:¬ b<0:=by omega
   have n3:(r != 0)=true:=by simpa using n1
   clear n1;go_wp2_with (fail)
   go_returns;exact ⟨by rw [HD.out];rfl,HB.out⟩
end
end Go.Proofs.YtekdhlfapejijaaGreatDoor
