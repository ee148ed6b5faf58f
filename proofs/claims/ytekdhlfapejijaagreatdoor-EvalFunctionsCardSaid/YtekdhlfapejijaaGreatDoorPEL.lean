/- E7, E8, E9, E10, E11, E12, E13, E14, E15, E16, EL -/
import Derived.Test.YtekdhlfapejijaaGreatDoorPE5
import Derived.Test.YtekdhlfapejijaaGreatDoorPU5
set_option linter.unusedVariables false
set_option linter.unusedSimpArgs false
namespace Go.Proofs.YtekdhlfapejijaaGreatDoor
open Go.RowKit
set_option maxRecDepth 100000
set_option maxHeartbeats 8000000
open Go.Proofs.Tryz
section
def numI (n:Int):Int × Int:=if inRange n=true then (n,0) else (0,8)
attribute [local go_sem] zacZ
theorem nresult_any (n:Int) (w:World):Calls prog 143 #[.int .i64 n] w fun e w'=>e=.returned (.tuple #[.int .i64 (numI n).1,.int .i64 (numI n).2])∧w'=w:=by
 have HV:=hZz (zb3Y n w);have HI:Hid (inRange n=(decide (-1000000000000≤n) && decide (n≤1000000000000))):=hZz rfl;obtain ⟨b,hb⟩:∃ b,(decide (-1000000000000≤n) && decide (n≤1000000000000))=b:=⟨_,rfl⟩
 rw [hb] at HV HI;clear hb;cases b
 ·have HN:Hid (numI n=(0,8)):=hZz (by unfold numI;rw [HI.out];rfl)
  go_enter func143,ntmps143
  go_wp2_with (first | (go_at_call 154;(with_reducible refine HV.out.mono ?_);rintro e w1 ⟨rfl,rfl⟩))
  go_returns;exact ⟨by rw [HN.out];rfl,rfl⟩
 ·have HN:Hid (numI n=(n,0)):=hZz (by unfold numI;rw [HI.out];rfl)
  go_enter func143,ntmps143
  go_wp2_with (first | (go_at_call 154;(with_reducible refine HV.out.mono ?_);rintro e w1 ⟨rfl,rfl⟩))
  go_returns;exact ⟨by rw [HN.out];rfl,rfl⟩
set_option maxHeartbeats 4000000 in
theorem nvalid_any (a b:Int) (g:Nat) (w:World) (ha:inRange a=true) (hb:inRange b=true) (h0:w.cell? ⟨g,0,none⟩=some (.int .i64 a)) (h1:w.cell? ⟨g,1,none⟩=some (.int .i64 b)) :
  Calls prog 142 #[.slice (some ⟨g,0,none⟩) 2 2] w fun e w'=>e=.returned (.bool true)∧w'=w:=by
 have HA:Hid (Calls prog 154 #[.int .i64 a] w fun e w'=>e=.returned (.bool true)∧w'=w):=hZz (by have:=zb3Y a w;unfold inRange at ha;rwa [ha] at this);have HB:Hid (Calls prog 154 #[.int .i64 b] w fun e w'=>e=.returned (.bool true)∧w'=w):=hZz (by have:=zb3Y b w;unfold inRange at hb;rwa [hb] at this);clear ha hb;go_enter func142,ntmps142
 go_wp2_with (fail)
 go_loop [4,7] (fun _ i=>∃ k:Nat,k≤2∧i=.int .i64 k) (fun _ i=>2 - (intOf i).toNat)
 case atStart=>exact ⟨0,by omega,rfl⟩
 case round =>
  obtain ⟨k,hk,rfl⟩:=hrel;obtain rfl | rfl | rfl:k=0∨k=1∨k=2:=by omega
  ·go_wp2_with (first | (go_at_call 154;(with_reducible refine HA.out.mono ?_);rintro e w1 ⟨rfl,rfl⟩))
   exact ⟨⟨1,by omega,rfl⟩,by simp [intOf]⟩
  ·go_wp2_with (first | (go_at_call 154;(with_reducible refine HB.out.mono ?_);rintro e w1 ⟨rfl,rfl⟩))
   exact ⟨⟨2,by omega,rfl⟩,by simp [intOf]⟩
  ·go_wp2_with (fail)
   go_ret;exact ⟨rfl,rfl⟩
theorem zb9Y (a b:Int) (w:World) (ha:inRange a=true) (hb:inRange b=true):Hid (∀ t,Calls prog 142 #[.slice (some ⟨w.heap.size,0,none⟩) 2 2] (w.alloc (.cells #[.int .i64 a,.int .i64 b] t)) fun e w'=>e=.returned (.bool true)∧w'=w.alloc (.cells #[.int .i64 a,.int .i64 b] t)) :=
 hZz fun t=>nvalid_any a b w.heap.size _ ha hb ((Blk.new w t _).cell 0 _ rfl) ((Blk.new w t _).cell 1 _ rfl)
set_option maxHeartbeats 4000000 in
theorem nadd_any (a b:Int) (w:World) (ha:inRange a=true) (hb:inRange b=true) :
  Calls prog 88 #[.int .i64 a,.int .i64 b] w fun e w'=>e=.returned (.tuple #[.int .i64 (numI (a+b)).1,.int .i64 (numI (a+b)).2])∧Below w.heap.size w w':=by
 have HV:=zb9Y a b w ha hb;have HC:Hid (∀ wx,Calls prog 143 #[.int .i64 (a+b)] wx fun e w'=>e=.returned (.tuple #[.int .i64 (numI (a+b)).1,.int .i64 (numI (a+b)).2])∧w'=wx):=hZz fun wx=>nresult_any _ wx
 obtain ⟨N,hN⟩:∃ N,numI (a+b)=N:=⟨_,rfl⟩
 rw [hN] at HC ⊢;obtain ⟨n1,n2⟩:=N;simp only [inRange,Bool.and_eq_true,decide_eq_true_eq] at ha hb;have hlo : -9223372036854775808≤a+b:=by omega
 have hhi:a+b≤9223372036854775807:=by omega
 clear hN ha hb;go_enter func88,ntmps88
 go_wp2_with (first
  | (go_at_call 142;(with_reducible refine (HV.out _).mono ?_);rintro e w1 ⟨rfl,rfl⟩)
  | (go_at_call 143;(with_reducible refine (HC.out _).mono ?_);rintro e w1 ⟨rfl,rfl⟩))
 go_returns;exact ⟨rfl,zabZ _ _⟩
set_option maxHeartbeats 4000000 in
theorem nsub_any (a b:Int) (w:World) (ha:inRange a=true) (hb:inRange b=true) :
  Calls prog 89 #[.int .i64 a,.int .i64 b] w fun e w'=>e=.returned (.tuple #[.int .i64 (numI (a - b)).1,.int .i64 (numI (a - b)).2])∧Below w.heap.size w w':=by
 have HV:=zb9Y a b w ha hb;have HC:Hid (∀ wx,Calls prog 143 #[.int .i64 (a - b)] wx fun e w'=>e=.returned (.tuple #[.int .i64 (numI (a - b)).1,.int .i64 (numI (a - b)).2])∧w'=wx):=hZz fun wx=>nresult_any _ wx
 obtain ⟨N,hN⟩:∃ N,numI (a - b)=N:=⟨_,rfl⟩
 rw [hN] at HC ⊢;obtain ⟨n1,n2⟩:=N;simp only [inRange,Bool.and_eq_true,decide_eq_true_eq] at ha hb;have hlo : -9223372036854775808≤a - b:=by omega
 have hhi:a - b≤9223372036854775807:=by omega
 clear hN ha hb;go_enter func89,ntmps89
 go_wp2_with (first
  | (go_at_call 142;(with_reducible refine (HV.out _).mono ?_);rintro e w1 ⟨rfl,rfl⟩)
  | (go_at_call 143;(with_reducible refine (HC.out _).mono ?_);rintro e w1 ⟨rfl,rfl⟩))
 go_returns;exact ⟨rfl,zabZ _ _⟩
end
theorem fdm_pos {a b:Int} (hb:0<b) (h:a.tmod b<0):a.fdiv b=a.tdiv b - 1∧a.fmod b=a.tmod b+b:=by
 have e:=Int.mul_tdiv_add_tmod a b;have l:=Int.lt_tmod_of_pos a hb;refine (Int.fdiv_fmod_unique hb).2 ⟨?_,by omega,by omega⟩
 rw [Int.mul_sub];omega
theorem fdm_pos' {a b:Int} (hb:0<b) (h:0≤a.tmod b):a.fdiv b=a.tdiv b∧a.fmod b=a.tmod b:=by
 have e:=Int.mul_tdiv_add_tmod a b;have l:=Int.tmod_lt_of_pos a hb;exact (Int.fdiv_fmod_unique hb).2 ⟨by omega,h,l⟩
theorem fdm_neg {a b:Int} (hb:b<0) (h:0<a.tmod b):a.fdiv b=a.tdiv b - 1∧a.fmod b=a.tmod b+b:=by
 have e:=Int.mul_tdiv_add_tmod a b;have l:=Int.tmod_lt_of_pos a (b:=-b) (by omega);rw [Int.tmod_neg] at l;refine (Int.fdiv_fmod_unique' hb).2 ⟨?_,by omega,by omega⟩
 rw [Int.mul_sub];omega
theorem fdm_neg' {a b:Int} (hb:b<0) (h:a.tmod b≤0):a.fdiv b=a.tdiv b∧a.fmod b=a.tmod b:=by
 have e:=Int.mul_tdiv_add_tmod a b;have l:=Int.lt_tmod_of_pos a (b:=-b) (by omega);rw [Int.tmod_neg] at l;exact (Int.fdiv_fmod_unique' hb).2 ⟨by omega,by omega,h⟩
theorem tdm_bd {a b:Int} (ha : -1000000000000≤a∧a≤1000000000000) (hb : -1000000000000≤b∧b≤1000000000000) (h0:b≠0):(-1000000000000≤a.tdiv b∧a.tdiv b≤1000000000000)∧(-1000000000000≤a.tmod b∧a.tmod b≤1000000000000):=by
 have h1:(a.tdiv b).natAbs≤a.natAbs:=by rw [Int.natAbs_tdiv];exact Nat.div_le_self _ _
 have h2:(a.tmod b).natAbs≤a.natAbs:=by rw [Int.natAbs_tmod];exact Nat.mod_le _ _
 omega
theorem fdiv_bd {a b:Int} (ha : -1000000000000≤a∧a≤1000000000000) (hb : -1000000000000≤b∧b≤1000000000000) (h0:b≠0):inRange (a.fdiv b)=true∧inRange (a.fmod b)=true:=by
 obtain ⟨h1,h2⟩:=tdm_bd ha hb h0;have e:=Int.mul_tdiv_add_tmod a b;simp only [inRange,Bool.and_eq_true,decide_eq_true_eq];rcases Int.lt_or_gt_of_ne h0 with hn | hn
 ·by_cases h:0<a.tmod b
  ·obtain ⟨e1,e2⟩:=fdm_neg hn h
   rw [e1,e2];have l:=Int.tmod_lt_of_pos a (b:=-b) (by omega);rw [Int.tmod_neg] at l;refine ⟨⟨?_,by omega⟩,by omega,by omega⟩
   by_cases hq:a.tdiv b≤-1000000000000
   ·have:=Int.mul_le_mul_of_nonpos_right (a:=-1) (b:=b) (c:=a.tdiv b) (by omega) (by omega)
    omega
   ·omega
  ·obtain ⟨e1,e2⟩:=fdm_neg' (a:=a) hn (by omega)
   rw [e1,e2];exact ⟨h1,h2⟩
 ·by_cases h:a.tmod b<0
  ·obtain ⟨e1,e2⟩:=fdm_pos hn h
   rw [e1,e2];have l:=Int.lt_tmod_of_pos a hn;refine ⟨⟨?_,by omega⟩,by omega,by omega⟩
   by_cases hq:a.tdiv b≤-1000000000000
   ·have:=Int.mul_le_mul_of_nonpos_right (a:=b) (b:=1) (c:=a.tdiv b) (by omega) (by omega)
    omega
   ·omega
  ·obtain ⟨e1,e2⟩:=fdm_pos' (a:=a) hn (by omega)
   rw [e1,e2];exact ⟨h1,h2⟩
def dmI (a b:Int):Int × Int × Int:=if b=0 then (0,0,9) else (a.fdiv b,a.fmod b,0)
theorem dm_cases {a b:Int} (h0:b≠0):∃ q r,a.fdiv b=q∧a.fmod b=r∧((a.tmod b=0∧q=a.tdiv b∧r=a.tmod b)∨(a.tmod b<0∧0<b∧q=a.tdiv b - 1∧r=a.tmod b+b)∨(a.tmod b<0∧b<0∧q=a.tdiv b∧r=a.tmod b)∨(0<a.tmod b∧b<0∧q=a.tdiv b - 1∧r=a.tmod b+b)∨(0<a.tmod b∧0<b∧q=a.tdiv b∧r=a.tmod b)):=by
 refine ⟨_,_,rfl,rfl,?_⟩
 rcases Int.lt_or_gt_of_ne h0 with hn | hn
 ·rcases Int.lt_trichotomy (a.tmod b) 0 with h | h | h
  ·obtain ⟨e1,e2⟩:=fdm_neg' (a:=a) hn (by omega)
   exact .inr (.inr (.inl ⟨h,hn,e1,e2⟩))
  ·obtain ⟨e1,e2⟩:=fdm_neg' (a:=a) hn (by omega)
   exact .inl ⟨h,e1,e2⟩
  ·obtain ⟨e1,e2⟩:=fdm_neg (a:=a) hn (by omega)
   exact .inr (.inr (.inr (.inl ⟨h,hn,e1,e2⟩)))
 ·rcases Int.lt_trichotomy (a.tmod b) 0 with h | h | h
  ·obtain ⟨e1,e2⟩:=fdm_pos (a:=a) hn (by omega)
   exact .inr (.inl ⟨h,hn,e1,e2⟩)
  ·obtain ⟨e1,e2⟩:=fdm_pos' (a:=a) hn (by omega)
   exact .inl ⟨h,e1,e2⟩
  ·obtain ⟨e1,e2⟩:=fdm_pos' (a:=a) hn (by omega)
   exact .inr (.inr (.inr (.inr ⟨h,hn,e1,e2⟩)))
section
attribute [local go_sem] zacZ
set_option maxHeartbeats 4000000 in
theorem ndiv_any (a b:Int) (w:World) (ha:inRange a=true) (hb:inRange b=true) :
  Calls prog 91 #[.int .i64 a,.int .i64 b] w fun e w'=>e=.returned (.tuple #[.int .i64 (dmI a b).1,.int .i64 (dmI a b).2.1,.int .i64 (dmI a b).2.2])∧Below w.heap.size w w':=by
 have HV:=zb9Y a b w ha hb;by_cases h0:b=0
 ·subst h0
  have HD:Hid (dmI a 0=(0,0,9)):=hZz (by simp [dmI]);clear ha hb;go_enter func91,ntmps91
  go_wp2_with (first
   | (go_at_call 142;(with_reducible refine (HV.out _).mono ?_);rintro e w1 ⟨rfl,rfl⟩))
  go_returns;exact ⟨by rw [HD.out];rfl,zabZ _ _⟩
 ·obtain ⟨q,r,hq,hr,hc⟩:=dm_cases (a:=a) h0
  have hra:=ha;have hrb:=hb;simp only [inRange,Bool.and_eq_true,decide_eq_true_eq] at hra hrb;obtain ⟨t1,t2⟩:=tdm_bd hra hrb h0;have HD:Hid (dmI a b=(q,r,0)):=hZz (by simp [dmI,h0,hq,hr]);obtain ⟨tq,htq⟩:∃ t,a.tdiv b=t:=⟨_,rfl⟩
  obtain ⟨tr,htr⟩:∃ t,a.tmod b=t:=⟨_,rfl⟩
  have hb0:(b == 0)=false:=by simpa using h0
  rw [htq] at t1 hc;rw [htr] at t2 hc;have HQ:=hZz htq;have HR:=hZz htr;go_enter func91,ntmps91
  go_upto_region 5 with (first
   | (go_at_call 142;(with_reducible refine (HV.out _).mono ?_);rintro e w1 ⟨rfl,rfl⟩))
  go_quiet (fail);obtain ⟨W,hW⟩:∃ W,(w.alloc (.cells #[.int .i64 a,.int .i64 b] 3)).drewN nq=W:=⟨_,rfl⟩
  have HB:Hid (Below w.heap.size w W):=hZz (by rw [← hW];exact zaqZ (zabZ _ _) _);rw [hW];clear hW HV ha hb hq hr htq htr h0 hb0;rcases hc with ⟨c1,rfl,rfl⟩ | ⟨c1,c2,rfl,rfl⟩ | ⟨c1,c2,rfl,rfl⟩ | ⟨c1,c2,rfl,rfl⟩ | ⟨c1,c2,rfl,rfl⟩
  ·subst c1
   go_wp2_with (fail)
   go_returns;exact ⟨by rw [HD.out];rfl,HB.out⟩
  ·have n1:¬ tr=0:=by omega
   have n2:¬ b<0:=by omega
   have n3:(tr != 0)=true:=by simpa using n1
   clear n1;go_wp2_with (fail)
   go_returns;exact ⟨by rw [HD.out];rfl,HB.out⟩
  ·have n1:¬ r=0:=by omega
   have n3:(r != 0)=true:=by simpa using n1
   clear n1;go_wp2_with (fail)
   go_returns;exact ⟨by rw [HD.out];rfl,HB.out⟩
  ·have n1:¬ tr=0:=by omega
   have n2:¬ tr<0:=by omega
   have n3:(tr != 0)=true:=by simpa using n1
   clear n1;go_wp2_with (fail)
   go_returns;exact ⟨by rw [HD.out];rfl,HB.out⟩
  ·have n1:¬ r=0:=by omega
   have n2:¬ r<0:=by omega
   have n4:¬ b<0:=by omega
   have n3:(r != 0)=true:=by simpa using n1
   clear n1;go_wp2_with (fail)
   go_returns;exact ⟨by rw [HD.out];rfl,HB.out⟩
end
section
theorem namount_any (n:Int) (w:World) (h:inRange n=true):Calls prog 145 #[.int .i64 n] w fun e w'=>e=.returned (.int .u64 (n.natAbs:Nat))∧w'=w:=by
 simp only [inRange,Bool.and_eq_true,decide_eq_true_eq] at h;have h1:n≤1000000000000:=h.2;have h2 : -1000000000000≤n:=h.1;obtain ⟨m,hm⟩:∃ m:Nat,n.natAbs=m:=⟨_,rfl⟩
 rw [hm];rcases Int.lt_or_le n 0 with h3 | h3
 ·have e:n=-(m:Int):=by omega
  subst e;have h4:(0:Int)≤(m:Int):=by omega
  have h5:(m:Int)≤1000000000000:=by omega
  clear h hm;go_enter func145,ntmps145
  go_wp2
  go_returns;refine ⟨?_,rfl⟩
  show Ending.returned (Value.int .u64 (max (-(m:Int)) (m:Int)))=_;rw [show max (-(m:Int)) (m:Int)=(m:Int) by omega]
 ·have e:n=(m:Int):=by omega
  subst e;have h4:(0:Int)≤(m:Int):=by omega
  have h5:(m:Int)≤1000000000000:=by omega
  clear h hm;go_enter func145,ntmps145
  go_wp2
  go_returns;refine ⟨?_,rfl⟩
  show Ending.returned (Value.int .u64 (max (m:Int) (-(m:Int))))=_;rw [show max (m:Int) (-(m:Int))=(m:Int) by omega]
attribute [local go_sem] zacZ
set_option maxHeartbeats 4000000 in
theorem nmul_any (a b:Int) (w:World) (ha:inRange a=true) (hb:inRange b=true) :
  Calls prog 90 #[.int .i64 a,.int .i64 b] w fun e w'=>e=.returned (.tuple #[.int .i64 (numI (a * b)).1,.int .i64 (numI (a * b)).2])∧Below w.heap.size w w':=by
 have HV:=zb9Y a b w ha hb;have HA:Hid (∀ wx,Calls prog 145 #[.int .i64 a] wx fun e w'=>e=.returned (.int .u64 (a.natAbs:Nat))∧w'=wx):=hZz fun wx=>namount_any a wx ha
 have HB:Hid (∀ wx,Calls prog 145 #[.int .i64 b] wx fun e w'=>e=.returned (.int .u64 (b.natAbs:Nat))∧w'=wx):=hZz fun wx=>namount_any b wx hb
 have hra:=ha;have hrb:=hb;simp only [inRange,Bool.and_eq_true,decide_eq_true_eq] at hra hrb;have hna:a.natAbs<18446744073709551616:=by omega
 have hnb:b.natAbs<18446744073709551616:=by omega
 have HM:Hid (∀ wx,Calls prog 144 #[.int .u64 (a.natAbs:Nat),.int .u64 (b.natAbs:Nat)] wx fun e w'=>e=.returned (.tuple #[.int .u64 ((a.natAbs * b.natAbs / 18446744073709551616:Nat):Int),.int .u64 ((a.natAbs * b.natAbs % 18446744073709551616:Nat):Int)])∧w'=wx):=hZz fun wx=>Tryz.bits_Mul64 _ _ hna hnb wx
 have hab:(a * b).natAbs=a.natAbs * b.natAbs:=Int.natAbs_mul a b;obtain ⟨x,hx⟩:∃ x,a.natAbs=x:=⟨_,rfl⟩
 obtain ⟨y,hy⟩:∃ y,b.natAbs=y:=⟨_,rfl⟩
 obtain ⟨z,hz⟩:∃ z,x * y=z:=⟨_,rfl⟩
 rw [hx,hy] at HM hab;rw [hx] at HA;rw [hy] at HB;rw [hz] at HM hab;obtain ⟨hi,hhi⟩:∃ h,z / 18446744073709551616=h:=⟨_,rfl⟩
 obtain ⟨lo,hlo⟩:∃ h,z % 18446744073709551616=h:=⟨_,rfl⟩
 rw [hhi,hlo] at HM;obtain ⟨p,hp⟩:∃ p,a * b=p:=⟨_,rfl⟩
 rw [hp] at hab;have HP:Hid (IntKind.i64.wrap (a * b)=IntKind.i64.wrap p):=hZz (by rw [hp]);rw [hp]
 have h64:inRange p=true→-9223372036854775808≤p∧p≤9223372036854775807:=by
  intro h;simp only [inRange,Bool.and_eq_true,decide_eq_true_eq] at h;omega
 cases hin:inRange p
 ·have HN:Hid (numI p=(0,8)):=hZz (by unfold numI;rw [hin];rfl)
  have hbig:1000000000000<z:=by
   have:¬ (-1000000000000≤p∧p≤1000000000000):=by
    rw [← Bool.not_eq_true] at hin;simpa [inRange] using hin
   omega
  by_cases h1:(0:Int)<(hi:Int)
  ·clear ha hb hra hrb hna hnb hab hx hy hz hhi hlo hp h64 hin hbig HP
   go_enter func90,ntmps90
   go_wp2_with (first
    | (go_at_call 142;(with_reducible refine (HV.out _).mono ?_);rintro e w1 ⟨rfl,rfl⟩)
    | (go_at_call 145;first | ((with_reducible refine (HA.out _).mono ?_);rintro e w1 ⟨rfl,rfl⟩) | ((with_reducible refine (HB.out _).mono ?_);rintro e w1 ⟨rfl,rfl⟩))
    | (go_at_call 144;(with_reducible refine (HM.out _).mono ?_);rintro e w1 ⟨rfl,rfl⟩))
   go_returns;exact ⟨by rw [HN.out];rfl,zabZ _ _⟩
  ·have h2:(1000000000000:Int)<(lo:Int):=by omega
   clear ha hb hra hrb hna hnb hab hx hy hz hhi hlo hp h64 hin hbig HP;go_enter func90,ntmps90
   go_wp2_with (first
    | (go_at_call 142;(with_reducible refine (HV.out _).mono ?_);rintro e w1 ⟨rfl,rfl⟩)
    | (go_at_call 145;first | ((with_reducible refine (HA.out _).mono ?_);rintro e w1 ⟨rfl,rfl⟩) | ((with_reducible refine (HB.out _).mono ?_);rintro e w1 ⟨rfl,rfl⟩))
    | (go_at_call 144;(with_reducible refine (HM.out _).mono ?_);rintro e w1 ⟨rfl,rfl⟩))
   go_returns;exact ⟨by rw [HN.out];rfl,zabZ _ _⟩
 ·have HN:Hid (numI p=(p,0)):=hZz (by unfold numI;rw [hin];rfl)
  have hp64:=h64 hin
  have hsm:z≤1000000000000:=by
   simp only [inRange,Bool.and_eq_true,decide_eq_true_eq] at hin;omega
  have h1:¬ (0:Int)<(hi:Int):=by omega
  have h2:¬ (1000000000000:Int)<(lo:Int):=by omega
  have hlo2 : -9223372036854775808≤a * b:=by rw [hp];exact hp64.1
  have hhi2:a * b≤9223372036854775807:=by rw [hp];exact hp64.2
  have HPE:=hZz hp;clear ha hb hra hrb hna hnb hab hx hy hz hhi hlo hp h64 hin hsm HP hp64;go_enter func90,ntmps90
  go_wp2_with (first
   | (go_at_call 142;(with_reducible refine (HV.out _).mono ?_);rintro e w1 ⟨rfl,rfl⟩)
   | (go_at_call 145;first | ((with_reducible refine (HA.out _).mono ?_);rintro e w1 ⟨rfl,rfl⟩) | ((with_reducible refine (HB.out _).mono ?_);rintro e w1 ⟨rfl,rfl⟩))
   | (go_at_call 144;(with_reducible refine (HM.out _).mono ?_);rintro e w1 ⟨rfl,rfl⟩))
  go_returns;exact ⟨by rw [HN.out,← HPE.out];rfl,zabZ _ _⟩
end
section
theorem zalZ {s:ByteArray} {l:List UInt8} (h:¬ s.toList=l):(s.toList == l)=false:=by simpa using h
theorem zatY {s:ByteArray} {l:List UInt8} (h:s.toList=l):(s.toList == l)=true:=by simpa using h
theorem RetR.err {w w':World} {S:List Value} {r:ResD} {x:Int} (hr:r=([],x)) (hb:Below w.heap.size w w'):RetR w S r (.returned (.tuple #[.slice none 0 0,.int .i64 x])) w':=by
 subst hr;exact ⟨.slice none 0 0,rfl,RowsV.nil none 0,FromC.none,hb⟩
theorem vals1 {w:World} {g:Nat} {t:TypeId} {a:Value} {x:ValD} (h:Blk w g t #[a]) (ha:ValV w a x):ValsV w (.slice (some ⟨g,0,none⟩) 1 1) [x]:=by
 refine ⟨_,1,[[a]],rfl,by simp,by simp,fun i row hr=>⟨g,0,rfl,lt_of_block h,fun j v hv=>?_⟩,rfl,fun i hi hi'=>?_⟩
 ·match i,hr with
  | 0,hr =>
   simp at hr
   subst hr;cases j with
   | zero=>simp at hv;subst hv;simpa using h.cell _ _ rfl
   | succ j=>simp at hv
  | i+1,hr=>simp at hr
 ·match i,hi with
  | 0,_=>exact ⟨a,rfl,ha⟩
  | i+1,hi=>(simp at hi;try omega)
theorem vals2 {w:World} {g:Nat} {t:TypeId} {a b:Value} {x y:ValD} (h:Blk w g t #[a,b]) (ha:ValV w a x) (hb:ValV w b y):ValsV w (.slice (some ⟨g,0,none⟩) 2 2) [x,y]:=by
 refine ⟨_,2,[[a],[b]],rfl,by simp,by simp,fun i row hr=>⟨g,0,rfl,lt_of_block h,fun j v hv=>?_⟩,rfl,fun i hi hi'=>?_⟩
 ·match i,hr with
  | 0,hr | 1,hr =>
   simp at hr
   subst hr;cases j with
   | zero=>simp at hv;subst hv;simpa using h.cell _ _ rfl
   | succ j=>simp at hv
  | i+2,hr=>simp at hr
 ·match i,hi with
  | 0,_=>exact ⟨a,rfl,ha⟩
  | 1,_=>exact ⟨b,rfl,hb⟩
  | i+2,hi=>(simp at hi;try omega)
theorem zbwY (x:ValD):firstBad [x]=checkF x:=by
 unfold firstBad;split
 ·rfl
 ·rename_i h
  have:checkF x=0:=Decidable.not_not.1 h
  rw [this];rfl
theorem zanZ {w:World} {v:Value} {c:CellD} {r:ValD} (h:ValV w v (c :: r)):∃ b off n cap,v=.slice (some ⟨b,off,none⟩) n cap∧n=r.length+1∧w.cell? ⟨b,off,none⟩=some (.int .i64 c.kind)∧w.cell? ⟨b,off+1,none⟩=some (.int .i64 c.int)∧w.cell? ⟨b,off+2,none⟩=some (.string c.str)∧w.cell? ⟨b,off+3,none⟩=some (.int .i64 c.n):=by
 obtain ⟨A,cap,rfl,hc,hm,hs⟩:=h.at;have hlt:0<(c :: r).length:=by simp
 obtain ⟨b,off,rfl,_⟩:=hs.ptr hlt;have c0:=hs.cell0 hlt (v:=.int .i64 c.kind) rfl;have c1:=hs.cell hlt (j:=1) (v:=.int .i64 c.int) rfl;have c2:=hs.cell hlt (j:=2) (v:=.string c.str) rfl;have c3:=hs.cell hlt (j:=3) (v:=.int .i64 c.n) rfl;simp only [Nat.zero_mul,Nat.add_zero] at c0 c1 c2 c3;exact ⟨b,off,_,cap,rfl,by simp,c0,c1,c2,c3⟩
attribute [local go_sem] zacZ
end
section
def arithN (op:List UInt8) (a b:Int):Int × Int :=
 if op=[43] then numI (a+b) else if op=[45] then numI (a - b) else if op=[42] then numI (a * b)
 else if op=[47] then ((dmI a b).1,(dmI a b).2.2) else ((dmI a b).2.1,(dmI a b).2.2)
theorem numI_ok {n:Int} (h:(numI n).2=0):inRange (numI n).1=true:=by
 unfold numI at h ⊢;split
 ·rename_i h1;exact h1
 ·rename_i h1;rw [if_neg h1] at h;simp at h
theorem dmI_ok {a b:Int} (ha:inRange a=true) (hb:inRange b=true) (h:(dmI a b).2.2=0):inRange (dmI a b).1=true∧inRange (dmI a b).2.1=true:=by
 unfold dmI at h ⊢;by_cases h0:b=0
 ·rw [if_pos h0] at h;simp at h
 ·rw [if_neg h0]
  simp only [inRange,Bool.and_eq_true,decide_eq_true_eq] at ha hb;exact fdiv_bd ha hb h0
theorem arithN_ok {op:List UInt8} {a b:Int} (ha:inRange a=true) (hb:inRange b=true) (h:(arithN op a b).2=0):inRange (arithN op a b).1=true:=by
 unfold arithN at h ⊢
 repeat' split at h
 ·rename_i h1;rw [if_pos h1];exact numI_ok h
 ·rename_i h1 h2;rw [if_neg h1,if_pos h2];exact numI_ok h
 ·rename_i h1 h2 h3;rw [if_neg h1,if_neg h2,if_pos h3];exact numI_ok h
 ·rename_i h1 h2 h3 h4;rw [if_neg h1,if_neg h2,if_neg h3,if_pos h4];exact (dmI_ok ha hb h).1
 ·rename_i h1 h2 h3 h4;rw [if_neg h1,if_neg h2,if_neg h3,if_neg h4];exact (dmI_ok ha hb h).2
theorem numR_eq (n:Int):numR n=if (numI n).2=0 then ([iCel (numI n).1],0) else ([],(numI n).2):=by
 unfold numR numI;split <;> simp
theorem arithR_eq (op:List UInt8) (a b:Int):arithR op a b=if (arithN op a b).2=0 then ([iCel (arithN op a b).1],0) else ([],(arithN op a b).2):=by
 unfold arithR arithN;by_cases h1:op=[43]
 ·rw [if_pos h1,if_pos h1];exact numR_eq _
 by_cases h2:op=[45]
 ·rw [if_neg h1,if_pos h2,if_neg h1,if_pos h2];exact numR_eq _
 by_cases h3:op=[42]
 ·rw [if_neg h1,if_neg h2,if_pos h3,if_neg h1,if_neg h2,if_pos h3];exact numR_eq _
 rw [if_neg h1,if_neg h2,if_neg h3,if_neg h1,if_neg h2,if_neg h3];by_cases h0:b=0
 ·rw [if_pos h0];unfold dmI;rw [if_pos h0];split <;> rfl
 ·rw [if_neg h0];unfold dmI;rw [if_neg h0]
  by_cases h4:op=[47]
  ·rw [if_pos h4,if_pos h4];rfl
  ·rw [if_neg h4,if_neg h4];rfl
attribute [local go_sem] zacZ
theorem arith_any (op:ByteArray) (a b:Int) (w:World) (hp:Pow w) (ha:inRange a=true) (hb:inRange b=true) :
  Calls prog 40 #[.string op,.int .i64 a,.int .i64 b] w (RetR w [] (arithR op.toList a b)):=by
 obtain ⟨P,hP⟩:∃ P:Ending→World→Prop,RetR w [] (arithR op.toList a b)=P:=⟨_,rfl⟩
 rw [hP];have HP:=hZz hP
 obtain ⟨x,e,hxe,HR,HI⟩:∃ x e,arithN op.toList a b=(x,e)∧Hid (arithR op.toList a b=if e=0 then ([iCel x],0) else ([],e))∧Hid (e=0→∀ wx,Below w.heap.size w wx→Calls prog 33 #[.int .i64 x] wx (RetR wx [] ([iCel x],0))):=by
  refine ⟨_,_,rfl,hZz (arithR_eq _ _ _),hZz fun h wx hbl=>?_⟩
  have hr:=arithN_ok ha hb h;have hr2:=hr;simp only [inRange,Bool.and_eq_true,decide_eq_true_eq] at hr2
  have:=cint_any (arithN op.toList a b).1 wx (hp.below hbl) (by omega) (by omega)
  rwa [okR_int hr] at this
 have H1:Hid (op.toList=[43]→Calls prog 88 #[.int .i64 a,.int .i64 b] w fun en w'=>en=.returned (.tuple #[.int .i64 x,.int .i64 e])∧Below w.heap.size w w'):=hZz fun h=>by
  have:=nadd_any a b w ha hb
  rw [show numI (a+b)=(x,e) by rw [← hxe];unfold arithN;rw [if_pos h]] at this;exact this
 have H2:Hid (op.toList=[45]→Calls prog 89 #[.int .i64 a,.int .i64 b] w fun en w'=>en=.returned (.tuple #[.int .i64 x,.int .i64 e])∧Below w.heap.size w w'):=hZz fun h=>by
  have:=nsub_any a b w ha hb
  rw [show numI (a - b)=(x,e) by rw [← hxe];unfold arithN;rw [h];rfl] at this;exact this
 have H3:Hid (op.toList=[42]→Calls prog 90 #[.int .i64 a,.int .i64 b] w fun en w'=>en=.returned (.tuple #[.int .i64 x,.int .i64 e])∧Below w.heap.size w w'):=hZz fun h=>by
  have:=nmul_any a b w ha hb
  rw [show numI (a * b)=(x,e) by rw [← hxe];unfold arithN;rw [h];rfl] at this;exact this
 have H4:Hid (op.toList=[47]→Calls prog 91 #[.int .i64 a,.int .i64 b] w fun en w'=>∃ y,en=.returned (.tuple #[.int .i64 x,.int .i64 y,.int .i64 e])∧Below w.heap.size w w'):=hZz fun h=>by
  have h2:((dmI a b).1,(dmI a b).2.2)=(x,e):=by rw [← hxe];unfold arithN;rw [h];rfl
  injection h2 with h2 h3
  exact (ndiv_any a b w ha hb).mono fun en w' ⟨he,hbl⟩=>⟨(dmI a b).2.1,by rw [he,h2,h3],hbl⟩
 have H5:Hid (op.toList≠[43]→op.toList≠[45]→op.toList≠[42]→op.toList≠[47]→Calls prog 91 #[.int .i64 a,.int .i64 b] w fun en w'=>∃ y,en=.returned (.tuple #[.int .i64 y,.int .i64 x,.int .i64 e])∧Below w.heap.size w w'):=hZz fun n1 n2 n3 n4=>by
  have h2:((dmI a b).2.1,(dmI a b).2.2)=(x,e):=by rw [← hxe];unfold arithN;rw [if_neg n1,if_neg n2,if_neg n3,if_neg n4]
  injection h2 with h2 h3
  exact (ndiv_any a b w ha hb).mono fun en w' ⟨he,hbl⟩=>⟨(dmI a b).1,by rw [he,h2,h3],hbl⟩
 clear hP hp ha hb hxe;by_cases he:e=0
 ·subst he
  have HR2:Hid (arithR op.toList a b=([iCel x],0)):=hZz (by rw [HR.out,if_pos rfl]);have HI2:=hZz (HI.out rfl);clear HR HI;by_cases h1:op.toList=[43]
  ·have HC:=hZz (H1.out h1)
   clear H1 H2 H3 H4 H5;have h1':=zatY h1;go_enter func40,ntmps40
   go_wp2_with (first
    | (go_at_call 88;((with_reducible refine HC.out.mono ?_);rintro e w1 ⟨rfl,hb1⟩;have HB1:=hZz hb1;clear hb1))
    | (go_at_call 33;((with_reducible refine (HI2.out _ HB1.out).mono ?_);rintro e w2 ⟨u,rfl,hu,hf,hb2⟩;have HU:=hZz hu;have HF:=hZz hf;have HB2:=hZz (zadZ hb2 HB1.out);clear hu hf hb2)))
   rw [← HP.out,HR2.out];exact ⟨u,rfl,HU.out,HF.out.up HB1.out.size (Below.refl _ _),HB2.out⟩
  have h1':=zalZ h1;by_cases h2:op.toList=[45]
  ·have HC:=hZz (H2.out h2)
   clear H1 H2 H3 H4 H5;have h2':=zatY h2;go_enter func40,ntmps40
   go_wp2_with (first
    | (go_at_call 89;((with_reducible refine HC.out.mono ?_);rintro e w1 ⟨rfl,hb1⟩;have HB1:=hZz hb1;clear hb1))
    | (go_at_call 33;((with_reducible refine (HI2.out _ HB1.out).mono ?_);rintro e w2 ⟨u,rfl,hu,hf,hb2⟩;have HU:=hZz hu;have HF:=hZz hf;have HB2:=hZz (zadZ hb2 HB1.out);clear hu hf hb2)))
   rw [← HP.out,HR2.out];exact ⟨u,rfl,HU.out,HF.out.up HB1.out.size (Below.refl _ _),HB2.out⟩
  have h2':=zalZ h2;by_cases h3:op.toList=[42]
  ·have HC:=hZz (H3.out h3)
   clear H1 H2 H3 H4 H5;have h3':=zatY h3;go_enter func40,ntmps40
   go_wp2_with (first
    | (go_at_call 90;((with_reducible refine HC.out.mono ?_);rintro e w1 ⟨rfl,hb1⟩;have HB1:=hZz hb1;clear hb1))
    | (go_at_call 33;((with_reducible refine (HI2.out _ HB1.out).mono ?_);rintro e w2 ⟨u,rfl,hu,hf,hb2⟩;have HU:=hZz hu;have HF:=hZz hf;have HB2:=hZz (zadZ hb2 HB1.out);clear hu hf hb2)))
   rw [← HP.out,HR2.out];exact ⟨u,rfl,HU.out,HF.out.up HB1.out.size (Below.refl _ _),HB2.out⟩
  have h3':=zalZ h3;by_cases h4:op.toList=[47]
  ·have HC:=hZz (H4.out h4)
   clear H1 H2 H3 H4 H5;have h4':=zatY h4;go_enter func40,ntmps40
   go_wp2_with (first
    | (go_at_call 91;((with_reducible refine HC.out.mono ?_);rintro e w1 ⟨y,rfl,hb1⟩;have HB1:=hZz hb1;clear hb1))
    | (go_at_call 33;((with_reducible refine (HI2.out _ HB1.out).mono ?_);rintro e w2 ⟨u,rfl,hu,hf,hb2⟩;have HU:=hZz hu;have HF:=hZz hf;have HB2:=hZz (zadZ hb2 HB1.out);clear hu hf hb2)))
   rw [← HP.out,HR2.out];exact ⟨u,rfl,HU.out,HF.out.up HB1.out.size (Below.refl _ _),HB2.out⟩
  ·have HC:=hZz (H5.out h1 h2 h3 h4)
   clear H1 H2 H3 H4 H5;have h4':=zalZ h4;go_enter func40,ntmps40
   go_wp2_with (first
    | (go_at_call 91;((with_reducible refine HC.out.mono ?_);rintro e w1 ⟨y,rfl,hb1⟩;have HB1:=hZz hb1;clear hb1))
    | (go_at_call 33;((with_reducible refine (HI2.out _ HB1.out).mono ?_);rintro e w2 ⟨u,rfl,hu,hf,hb2⟩;have HU:=hZz hu;have HF:=hZz hf;have HB2:=hZz (zadZ hb2 HB1.out);clear hu hf hb2)))
   rw [← HP.out,HR2.out];exact ⟨u,rfl,HU.out,HF.out.up HB1.out.size (Below.refl _ _),HB2.out⟩
 ·have HR2:Hid (arithR op.toList a b=([],e)):=hZz (by rw [HR.out,if_neg he])
  have he':(e != 0)=true:=by simpa using he
  clear HR HI he;by_cases h1:op.toList=[43]
  ·have HC:=hZz (H1.out h1)
   clear H1 H2 H3 H4 H5;have h1':=zatY h1;go_enter func40,ntmps40
   go_wp2_with (first
    | (go_at_call 88;((with_reducible refine HC.out.mono ?_);rintro e w1 ⟨rfl,hb1⟩;have HB1:=hZz hb1;clear hb1)))
   rw [← HP.out];exact RetR.err HR2.out HB1.out
  have h1':=zalZ h1;by_cases h2:op.toList=[45]
  ·have HC:=hZz (H2.out h2)
   clear H1 H2 H3 H4 H5;have h2':=zatY h2;go_enter func40,ntmps40
   go_wp2_with (first
    | (go_at_call 89;((with_reducible refine HC.out.mono ?_);rintro e w1 ⟨rfl,hb1⟩;have HB1:=hZz hb1;clear hb1)))
   rw [← HP.out];exact RetR.err HR2.out HB1.out
  have h2':=zalZ h2;by_cases h3:op.toList=[42]
  ·have HC:=hZz (H3.out h3)
   clear H1 H2 H3 H4 H5;have h3':=zatY h3;go_enter func40,ntmps40
   go_wp2_with (first
    | (go_at_call 90;((with_reducible refine HC.out.mono ?_);rintro e w1 ⟨rfl,hb1⟩;have HB1:=hZz hb1;clear hb1)))
   rw [← HP.out];exact RetR.err HR2.out HB1.out
  have h3':=zalZ h3;by_cases h4:op.toList=[47]
  ·have HC:=hZz (H4.out h4)
   clear H1 H2 H3 H4 H5;have h4':=zatY h4;go_enter func40,ntmps40
   go_wp2_with (first
    | (go_at_call 91;((with_reducible refine HC.out.mono ?_);rintro e w1 ⟨y,rfl,hb1⟩;have HB1:=hZz hb1;clear hb1)))
   rw [← HP.out];exact RetR.err HR2.out HB1.out
  ·have HC:=hZz (H5.out h1 h2 h3 h4)
   clear H1 H2 H3 H4 H5;have h4':=zalZ h4;go_enter func40,ntmps40
   go_wp2_with (first
    | (go_at_call 91;((with_reducible refine HC.out.mono ?_);rintro e w1 ⟨y,rfl,hb1⟩;have HB1:=hZz hb1;clear hb1)))
   rw [← HP.out];exact RetR.err HR2.out HB1.out
end
section
theorem FromC.own {w w1 w2:World} {S:List Value} {v u:Value} {l:ValD} (h:FromC w1 w2 (v :: S) u) (ho:OVal w1 w.heap.size v l) (hb:Below w1.heap.size w1 w2) (h1:w.heap.size≤w1.heap.size):FromC w w2 S u:=fun b off n cap e=>by
 rcases h b off n cap e with ⟨x,hx,off',n',cap',rfl⟩ | ⟨h3,r⟩
 ·rcases List.mem_cons.1 hx with hx | hx
  ·rcases ho.2 with ⟨ev,_⟩ | ⟨g,c,cur,ev,hbg,hblk,_⟩
   ·rw [ev] at hx;cases hx
   ·rw [ev] at hx
    injection hx with hx _ _
    injection hx with hx
    injection hx with hx
    subst hx;exact .inr ⟨hbg,_,_,(hb.block _ (lt_of_block hblk)).trans hblk⟩
  ·exact .inl ⟨_,hx,off',n',cap',rfl⟩
 ·exact .inr ⟨by omega,r⟩
theorem RetR.own {w w1 w2:World} {v:Value} {l:ValD} {r:ResD} {e:Ending} (h:RetR w1 [v] r e w2) (ho:OVal w1 w.heap.size v l) (hb:Below w.heap.size w w1):RetR w [] r e w2:=by
 obtain ⟨u,he,hu,hf,hb2⟩:=h;exact ⟨u,he,hu,hf.own ho hb2 hb.size,zadZ hb2 hb⟩
def mapM (N:Int) (ps:List (ByteArray × ValD)):ValD:=⟨6,0,⟨#[]⟩,N⟩ :: ps.flatMap fun p=>sCel p.1 :: p.2
theorem mapM_snoc {N:Int} {ps:List (ByteArray × ValD)} {k:Nat} (h:k<ps.length):mapM N (ps.take (k+1))=(mapM N (ps.take k) ++ [sCel ps[k].1]) ++ ps[k].2:=by
 unfold mapM;rw [List.take_succ_eq_append_getElem h,List.flatMap_append];simp
theorem len200 {x:ValD} (h:checkF x=0):x.length≤200:=by
 obtain ⟨_,_,_,_,_,h,_⟩:=checkF_zero.1 h;exact h
theorem zc5Y {N:Int}:∀ {ps:List (ByteArray × ValD)},(∀ p∈ps,checkF p.2=0)→(mapM N ps).length≤1+ps.length * 201
 | [],_=>by simp [mapM]
 | p :: r,h=>by
  have h1:=len200 (h p (by simp));have h2:=zc5Y (N:=N) (ps:=r) (fun q hq=>h q (by simp [hq]));simp only [mapM,List.flatMap_cons,List.length_cons,List.length_append] at h2 ⊢;omega
theorem mapM_ok {N:Int} {ps:List (ByteArray × ValD)} (hN:0≤N∧N≤1000000) (h:∀ p∈ps,checkF p.2=0) (h1:∀ p∈ps,p.1.size≤4294967296) (h2:∀ p∈ps,OkV p.2) (hl:ps.length≤4000):OkV (mapM N ps):=by
 have hle:=zc5Y (N:=N) h;refine ⟨by omega,fun c hc=>?_⟩
 unfold mapM at hc;rcases List.mem_cons.1 hc with rfl | hc
 ·exact ⟨by show (0:Nat)≤_;omega,by show (_:Int)≤0∧(0:Int)≤_;omega,by show N≤_;omega⟩
 ·obtain ⟨p,hp,hc⟩:=List.mem_flatMap.1 hc
  rcases List.mem_cons.1 hc with rfl | hc
  ·exact (okV_s (h1 p hp)).out.2 _ (by simp)
  ·exact (h2 p hp).2 c hc
attribute [local go_sem] zacZ
theorem OVal.more {w:World} {base:Nat} {v:Value} {a b:ValD} {n:Nat} {xs:List Value} (h:w.ownsRow base 53 4 v n xs) (hn:n=a.length+b.length) (hx:xs=a.flatMap CellD.cells ++ b.flatMap CellD.cells):OVal w base v (a ++ b):=by
 unfold OVal;rw [List.length_append,List.flatMap_append,← hn,← hx];exact h
theorem zdbY {w:World} {A:Option Addr} {x:ValD} (h:SlAt w A 4 CellD.cells x) (hne:x≠[]):∃ b off,A=some ⟨b,off,none⟩∧∀ w',Below w.heap.size w w'→∀ j u,(x.flatMap CellD.cells)[j]? = some u→w'.cell? ((⟨b,off,none⟩:Addr).add j)=some u:=by
 have hlt:0<x.length:=List.length_pos_iff.2 hne;obtain ⟨b,off,rfl,_⟩:=h.ptr hlt;refine ⟨b,off,rfl,fun w' hb j u hj=>?_⟩
 obtain ⟨n,k,hn,rfl,hk⟩:=cells_at x j u hj;rw [zanY,← Nat.add_assoc];exact (h.below hb).cell hn hk
theorem cells4 (a b d:Int) (s:ByteArray):∀ u∈([.int .i64 a,.int .i64 b,.string s,.int .i64 d]:List Value),u.oneCell'=true:=by
 intro u hu;simp only [List.mem_cons,List.not_mem_nil,or_false] at hu;rcases hu with rfl | rfl | rfl | rfl <;> rfl
end
section
def listM (N:Int) (l:List ValD):ValD:=⟨5,0,⟨#[]⟩,N⟩ :: l.flatten
theorem listM_all (l:List ValD):listM (l.length:Nat) l=listV l:=rfl
theorem listM_snoc {N:Int} {l:List ValD} {k:Nat} (h:k<l.length):listM N (l.take (k+1))=listM N (l.take k) ++ l[k]:=by
 unfold listM;rw [List.take_succ_eq_append_getElem h,List.flatten_append];simp
theorem listM_len {N:Int}:∀ {l:List ValD},(∀ p∈l,checkF p=0)→(listM N l).length≤1+l.length * 200
 | [],_=>by simp [listM]
 | p :: r,h=>by
  have h1:=len200 (h p (by simp));have h2:=listM_len (N:=N) (l:=r) (fun q hq=>h q (by simp [hq]));simp only [listM,List.flatten_cons,List.length_cons,List.length_append] at h2 ⊢;omega
theorem listM_ok {N:Int} {l:List ValD} (hN:0≤N∧N≤1000000) (h:∀ p∈l,checkF p=0) (h2:∀ p∈l,OkV p) (hl:l.length≤4000):OkV (listM N l):=by
 have hle:=listM_len (N:=N) h;refine ⟨by omega,fun c hc=>?_⟩
 unfold listM at hc;rcases List.mem_cons.1 hc with rfl | hc
 ·exact ⟨by show (0:Nat)≤_;omega,by show (_:Int)≤0∧(0:Int)≤_;omega,by show N≤_;omega⟩
 ·obtain ⟨p,hp,hc⟩:=List.mem_flatten.1 hc
  exact (h2 p hp).2 c hc
attribute [local go_sem] zacZ
theorem vlist_any (l:List ValD) (lv:Value) (w:World) (hl:ValsV w lv l) (hp:Pow w) (ho:∀ x∈l,OkV x) (hn:l.length≤4000) :
  Calls prog 93 #[lv] w (RetR w [] (listR l)):=by
 obtain ⟨P,hP⟩:∃ P:Ending→World→Prop,RetR w [] (listR l)=P:=⟨_,rfl⟩
 rw [hP];have HP:=hZz hP;obtain ⟨i0,hi,hz0,hz1,hz2⟩:=info_parts Tryz.infoCell;obtain ⟨A,cap,vs,rfl,hc,hm,hs,hla,hva⟩:=hl.at;have HS:=hZz hs;have HV:=hZz hva;have HLA:=hZz hla;have HW:=hZz hp;have HO:=hZz ho;have HL:Hid (l.length≤4000):=hZz hn;clear hP hs hva hla hp ho hl hc hm;have hB0:Below w.heap.size w (w.alloc (.cells #[.int .i64 5,.int .i64 0,.string ⟨#[]⟩,.int .i64 l.length] 53)):=zabZ _ _;have HB0:=hZz hB0;have HO0:Hid (OVal (w.alloc (.cells #[.int .i64 5,.int .i64 0,.string ⟨#[]⟩,.int .i64 l.length] 53)) w.heap.size (.slice (some ⟨w.heap.size,0,none⟩) 1 1) (listM (l.length:Nat) (l.take 0))):=hZz (zbqY (l:=listM (l.length:Nat) (l.take 0)) (Blk.new w _ _) (Nat.le_refl _) rfl (by simp [listM]));have hnn:(l.length:Int)≤4000:=by omega
 obtain ⟨N,hN⟩:∃ N,l.length=N:=⟨_,rfl⟩
 rw [hN] at hnn HO0 HB0 ⊢;have HN:=hZz hN;clear hB0 hN hn;go_enter func93,ntmps93
 go_wp2_with (fail)
 go_loopw [4,6,7,14] (fun o _ _ i wr=>∃ k:Nat,k≤N∧i=.int .i64 k∧Hid (∀ x∈l.take k,checkF x=0)∧OVal wr w.heap.size o (listM (N:Nat) (l.take k))∧Below w.heap.size w wr) (fun _ _ _ i _=>N - (intOf i).toNat)
 case atStart=>exact ⟨0,Nat.zero_le _,rfl,hZz (by simp),HO0.out,HB0.out⟩
 case round =>
  obtain ⟨k,hk,rfl,HR,hown,hbel⟩:=hrel;have HB:=hZz hbel;have HOW:=hZz hown;obtain ⟨oA,oc,hov⟩:=zaeZ hown;subst hov;clear hbel hown;have hk0:(0:Int)≤(k:Int):=by omega
  by_cases hlt:k<N
  ·have hlt':(k:Int)<(N:Int):=by omega
   have hlk:k<l.length:=by rw [HN.out];exact hlt
   have hna:k<vs.length:=by rw [HLA.out];exact hlk
   have hsa:=HS.out.below HB.out;obtain ⟨x,hx⟩:∃ x,vs[k]=x:=⟨_,rfl⟩
   have hvx:ValV w x l[k]:=(hx ▸ HV.out k hna hlk:ValV w x l[k])
   obtain ⟨A1,k1,rfl,hc1,hm1,hs1⟩:=hvx.at;obtain ⟨bA,off,rfl,_⟩:=hsa.ptr hna;have c0:=hsa.cell0 hna (v:=.slice A1 l[k].length k1) (by rw [hx];rfl);simp only [Nat.mul_one] at c0;have hok:OkV l[k]:=HO.out _ (List.getElem_mem hlk);have HC:=hZz (zbeY l[k] A1 k1 wr (hs1.below HB.out) (HW.out.below HB.out) hok.1 hc1 hok.2);have HX:=hZz hs1;obtain ⟨ck,hck⟩:∃ c,checkF l[k]=c:=⟨_,rfl⟩
   rw [hck] at HC;have HCK:=hZz hck;obtain ⟨q,hq⟩:∃ q,l[k].length=q:=⟨_,rfl⟩
   rw [hq] at HC c0;have HQ:=hZz hq;clear hsa hx hvx hs1 hc1 hm1 hok hck hq;by_cases h0:ck=0
   ·subst h0
    obtain ⟨bX,offX,rfl,hat⟩:=zdbY HX.out (zaoZ HCK.out);have HAT:=hZz hat;have hq200:q≤200:=by rw [← HQ.out];exact len200 HCK.out
    have hqn:l[k].length=q:=HQ.out
    have hml:(listM (N:Nat) (l.take k)).length≤804001:=by
     have:=listM_len (N:=(N:Nat)) HR.out
     rw [List.length_take] at this;omega
    have hsn:listM (N:Nat) (l.take (k+1))=listM (N:Nat) (l.take k) ++ l[k]:=listM_snoc hlk;have HSN:=hZz hsn;have HML:=hZz hml;obtain ⟨M,hM⟩:∃ M,listM (N:Nat) (l.take k)=M:=⟨_,rfl⟩
    rw [hM] at HOW HSN HML ⊢
    have hbq:(M.length+q) * 40≤140737488355328:=by
     have:=HML.out
     omega
    have hbm:M.length+q≤maxLen:=by
     have:=HML.out
     unfold maxLen;omega
    have hn6:M.length≤1000000:=by
     have:=HML.out
     omega
    clear hat hM hsn hml
    go_wp2_with (first
     | (go_at_call 79;(with_reducible refine HC.out.mono ?_);rintro e w1 ⟨rfl,hb1⟩;have HB1:=hZz hb1;have HO1:Hid (w1.ownsRow w.heap.size 53 4 (.slice oA M.length oc) M.length (M.flatMap CellD.cells)):=hZz (HOW.out.below hb1);have hsz1:w.heap.size≤w1.heap.size:=Nat.le_trans HB.out.size hb1.size;clear hb1)
     | (at_builtin;refine wpList_append_own _ rfl (.tmp 23) (.tmp 24) 22 rfl w.heap.size 53 i0 _ 4 40 underlying22 hi hz0 hz1 hz2 rfl (by omega) _ M.length (M.flatMap CellD.cells) rfl HO1.out ⟨bX,offX,none⟩ q k1 (l[k].flatMap CellD.cells) rfl ?k2 ?k3 (zbcY _) hbm hbq ?k4 ?_;(case k2=>rw [zawY,hqn]);(case k3=>exact HAT.out w1 (zaaZ HB1.out HB.out HB.out.size));(case k4=>exact hsz1);intro v3 w3 hown3 hg3 _;have HO3:=hZz (OVal.more (a:=M) (b:=l[k]) hown3 (by simp [hqn]) rfl);have HB3:=hZz ((zaaZ HB1.out HB.out HB.out.size).grown hg3 hsz1 (fun g hg=>(HO1.out.lt g hg).1));clear hown3 hg3))
    exact ⟨⟨k+1,by omega,by simp,hZz (by
     rw [List.take_succ_eq_append_getElem hlk];intro x hx;rcases List.mem_append.1 hx with hx | hx
     ·exact HR.out x hx
     ·have:x=l[k]:=by simpa using hx
      rw [this];exact HCK.out),by rw [HSN.out];exact HO3.out,HB3.out⟩,by simp [intOf];omega⟩
   ·have h1:(ck != 0)=true:=by simpa using h0
    clear h0
    go_wp2_with (first
     | (go_at_call 79;(with_reducible refine HC.out.mono ?_);rintro e w1 ⟨rfl,hb1⟩;have HB1:=hZz (zaaZ hb1 HB.out HB.out.size);clear hb1))
    rw [← HP.out]
    have hfb:listR l=([],ck):=by
     have e1:=za5Y l k hlk HR.out (by rw [HCK.out];simpa using h1);unfold listR;rw [e1,HCK.out,if_pos (by simpa using h1)]
    exact ⟨.slice none 0 0,by rw [hfb];rfl,by rw [hfb];exact RowsV.nil none 0,FromC.none,HB1.out⟩
  ·have e:k=N:=by omega
   have HKN:=hZz e;subst e;have hz:l.take k=l:=by rw [← HN.out,List.take_length]
   have hps:∀ p∈l,checkF p=0:=by
    have:=HR.out
    rwa [hz] at this
   have hfb:listR l=okR (listM (k:Nat) (l.take k)):=by
    have e1:=zbaY l hps;unfold listR;rw [if_neg (by rw [e1];simp),← listM_all,HN.out,hz]
   have hok:OkV (listM (k:Nat) (l.take k)):=by
    rw [hz];exact listM_ok (by omega) hps HO.out (by rw [HN.out];omega)
   have hval:=HOW.out.val (by have:=hok.1;omega);have HC:=hZz (zbuY _ _ wr hval (HW.out.below HB.out) hok);have HFB:=hZz hfb;clear hz hps hfb hok hval;obtain ⟨M,hM⟩:∃ M,listM (k:Nat) (l.take k)=M:=⟨_,rfl⟩
   rw [hM] at HOW HFB HC ⊢;clear hM
   go_wp2_with (first
    | (go_at_call 80;(with_reducible refine HC.out.mono ?_);rintro e w1 ⟨u,rfl,hu⟩;have HU:=hZz hu;clear hu))
   rw [← HP.out,HFB.out];exact RetR.own ⟨u,rfl,HU.out⟩ HOW.out HB.out
end
section
theorem ChainV.head {v:ValD} {m:Bool} {D:Nat} {B:Int} {a b:Nat} {l:List (ByteArray × ValD)} {p:ByteArray × ValD} (h:ChainV v m D B a (p :: l) b):∃ r,(if m=true then ∃ c,v[a]? = some c∧c.kind=4∧plainB c=true∧p.1=c.str else p.1=⟨#[]⟩)∧px v (a+m.toNat)=some r∧p.2=sec v (a+m.toNat) r.j∧ChainV v m D B r.j l b:=by
 cases h with
 | cons hp hc =>
  obtain ⟨r,h1,h2,h3,h4,_,_⟩:=hp;subst h4;exact ⟨r,h1,h2,h3,hc⟩
theorem ChainV.len {v:ValD} {m:Bool} {D:Nat} {B:Int} {a b:Nat} {l:List (ByteArray × ValD)} (h:ChainV v m D B a l b):a+l.length≤b:=by
 induction h with
 | nil a=>simp
 | cons hp _ ih =>
  obtain ⟨r,_,hr,_,ha,_,_⟩:=hp
  have:=(zapY hr).1
  simp only [List.length_cons];omega
theorem drop_sec (v:ValD) (a:Nat):sec v a v.length=v.drop a:=by
 unfold sec;rw [List.take_of_length_le (by simp)]
theorem px_drop {v:ValD} {a:Nat} {r:Sh} (h:px v a=some r):px (v.drop a) 0=some ⟨r.j - a,r.d,r.b⟩:=by
 rw [← drop_sec];exact px_sec h (zapY h).2 (Nat.le_refl _)
theorem SlAt.sub {w:World} {b off:Nat} {v:ValD} (h:SlAt w (some ⟨b,off,none⟩) 4 CellD.cells v) (a m:Nat):SlAt w (some ⟨b,off+a * 4,none⟩) 4 CellD.cells ((v.drop a).take m):=by
 intro i row hi;rw [List.getElem?_map,List.getElem?_take] at hi;split at hi
 ·rw [List.getElem?_drop] at hi
  obtain ⟨b',off',e,hlt,hc⟩:=h (a+i) row (by rw [List.getElem?_map];exact hi);simp only [Option.some.injEq,Addr.mk.injEq,and_true] at e;obtain ⟨rfl,rfl⟩:=e;refine ⟨b,off+a * 4,rfl,hlt,fun j u hu=>?_⟩
  have:=hc j u hu
  rw [show off+a * 4+i * 4+j=off+(a+i) * 4+j by omega];exact this
 ·cases hi
theorem valV_slAt {w:World} {A:Option Addr} {cap:Nat} {l:ValD} (h:SlAt w A 4 CellD.cells l) (hc:l.length≤cap) (hm:l.length≤3518437208780):ValV w (.slice A l.length cap) l :=
 ⟨A,cap,l.map CellD.cells,rfl,hc,hm,by unfold SlAt at h ⊢;rw [List.map_map];exact h,by simp,fun i hi hi'=>by simp [cellR]⟩
attribute [local go_sem] zacZ
theorem parts5_any (c:CellD) (r:ValD) (v:Value) (fid:FuncId) (caps:Array Value) (w0 w:World) (h:ValV w0 v (c :: r)) (hw:Below w0.heap.size w0 w) (hp:Pow w0) (ho:OkV (c :: r)) (hck:checkF (c :: r)=0) (hk:c.kind=5) (I:Nat→World→Prop) (J:World→Prop)
  (hent:∀ args w,(callFunc fid args).run prog w=.ok (.enter fid args) w) (h0:I 0 w) (hIB:∀ k wx,I k wx→Below w0.heap.size w0 wx) (hst:∀ k wx wy,I k wx→Below wx.heap.size wx wy→I k wy)
  (hy:∀ k wx x (hk:k<(partsOf (c :: r)).length),I k wx→ValV w0 x (partsOf (c :: r))[k].2→Calls prog fid (#[.string (partsOf (c :: r))[k].1,x] ++ caps) wx fun e w'=>∃ b,e=.returned (.bool b)∧(b=true→I (k+1) w')∧(b=false→J w'))
  (hJ:∀ wx,I (partsOf (c :: r)).length wx→J wx) :
  Calls prog 105 #[v,.func (.func fid) #[] caps] w fun e w'=>e=.returned (.tuple #[])∧J w':=by
 obtain ⟨b,off,n,cap,rfl,hn,c0,c1,c2,c3⟩:=zanZ h;have hs:=fun x hx=>zabY (ho.2 x hx)
 obtain ⟨hpl,hnn,hch,_⟩:=zacY hck hs (c:=c) rfl (.inl hk);rw [show decide (c.kind=6)=false by simp [hk]] at hch;have hpos:(0:Int)<(n:Int):=by omega
 have HV:=hZz h;have HCH:=hZz hch;obtain ⟨A,cap',e,hc',hm',hsl⟩:=h.at;injection e with e1 e2 e3
 subst e1 e2 e3;have HSL:=hZz hsl;have HOK:=hZz ho;have HP:=hZz hp;have HL:Hid ((c :: r).length≤200):=hZz (len200 hck);have HY:=hZz hy;have HST:=hZz hst;have HIB:=hZz hIB;have HJ:=hZz hJ;have HI0:=hZz h0;obtain ⟨ps,hps⟩:∃ ps,partsOf (c :: r)=ps:=⟨_,rfl⟩
 rw [hps] at HY HJ HCH hpl;obtain ⟨l,hl⟩:∃ l,c :: r=l:=⟨_,rfl⟩
 rw [hl] at HV HCH HSL HOK HL hc' hm' hpos ⊢;obtain ⟨N,hN⟩:∃ N,l.length=N:=⟨_,rfl⟩
 have HN:=hZz hN;rw [hN] at hc' hm' hpos ⊢;obtain ⟨k,i,s,nn⟩:=c;dsimp only at c0 c3 hk hpl hnn;have HC0:Hid (w0.cell? ⟨b,off,none⟩=some (.int .i64 5)):=hZz (by rw [c0,hk]);have HC3:Hid (w0.cell? ⟨b,off+3,none⟩=some (.int .i64 (ps.length:Nat))):=hZz (by rw [c3,hpl];congr 2;omega)
 have HPS:Hid (ps.length≤200):=hZz (by
  have h1:=HL.out;have h2:=HCH.out.len;omega)
 clear h hp ho hck c0 c1 c2 c3 hsl hst hIB hJ h0 hy hps hl hN hn hs hch hk hpl hnn;go_enter func105,ntmps105
 have w1:=(hw.cell (p:=⟨b,off+3,none⟩) (bLZ HC3.out)).trans HC3.out;go_wp2_with (fail)
 go_loopw [4,5,6,7,8,13] (fun at' _ _ _ _ j wr=>∃ k a:Nat,k≤ps.length∧j=.int .i64 k∧at'=.int .i64 a∧ChainV l false 7 4000 a (ps.drop k) N∧I k wr) (fun _ _ _ _ _ j _=>ps.length - (intOf j).toNat)
 case atStart=>exact ⟨0,1,Nat.zero_le _,rfl,rfl,by rw [← HN.out];exact HCH.out,HI0.out⟩
 case round =>
  obtain ⟨k,a,hk,rfl,rfl,hch,hi⟩:=hrel;have HCK:=hZz hch;have HI:=hZz hi;have HB:=hZz (HIB.out _ _ hi);have g0:=(HB.out.cell (p:=⟨b,off,none⟩) (bLZ HC0.out)).trans HC0.out;clear hch hi;have hk0:(0:Int)≤(k:Int):=by omega
  have hk1:(k:Int)≤200:=by have:=HPS.out;omega
  by_cases hlt:k<ps.length
  ·have hlt':(k:Int)<(ps.length:Int):=by omega
   have hch:=HCK.out;rw [List.drop_eq_getElem_cons hlt] at hch;obtain ⟨rr,hkey,hpx,hsec,hrest⟩:=hch.head;have hadv:=zapY hpx;have hrest2:=hrest.le;simp only [Bool.toNat_false,Nat.add_zero] at hpx hadv hsec;obtain ⟨q,hq⟩:∃ q,rr.j=a+q:=⟨rr.j - a,by omega⟩
   have haN:a+q≤N:=by rw [← hq];exact hrest2
   have hq1:0<q:=by omega
   have ha0:(0:Int)≤(a:Int):=by omega
   have ha1:(a:Int)≤(N:Int):=by omega
   have ha2:¬ cap=a:=by omega
   have ha3:(a:Int)+(q:Int)≤(cap:Int):=by omega
   have ha4:(a:Int)≤(a:Int)+(q:Int):=by omega
   have hda:(l.drop a).length=N - a:=by rw [List.length_drop,HN.out]
   have HLK:Hid (Calls prog 134 #[.slice (some ⟨b,off+a * 4,none⟩) (N - a) (cap - a)] wr fun e w'=>∃ x1 x2 x3 x4,e=.returned (.tuple #[.int .i64 q,.agg #[.int .i64 x1,.int .i64 x2,.bool x3,.bool x4],.bool true])∧Below wr.heap.size wr w'):=hZz (by
    have hsl:SlAt wr (some ⟨b,off+a * 4,none⟩) 4 CellD.cells (l.drop a):=by
     have:=(HSL.out.below HB.out).sub a (N - a)
     rwa [List.take_of_length_le (by rw [hda];exact Nat.le_refl _)] at this
    have hlk:=look_any (l.drop a) (some ⟨b,off+a * 4,none⟩) (cap - a) wr hsl (HP.out.below HB.out) (by rw [hda];have:=HL.out;rw [HN.out] at this;omega) (by rw [hda];omega) (fun x hx=>HOK.out.2 x (List.mem_of_mem_drop hx));rw [hda,px_drop hpx] at hlk;refine hlk.mono fun e w' hpost=>?_
    obtain ⟨hb,he⟩:=hpost;dsimp only at he;rw [show rr.j - a=q by omega] at he;exact ⟨_,_,_,_,he,hb⟩)
   have HYK:Hid (∀ wx,I k wx→Calls prog fid (#[.string ⟨#[]⟩,.slice (some ⟨b,off+a * 4,none⟩) q q] ++ caps) wx fun e w'=>∃ b,e=.returned (.bool b)∧(b=true→I (k+1) w')∧(b=false→J w')):=hZz (fun wx hix=>by
    have hkey':ps[k].1=⟨#[]⟩:=by simpa using hkey
    have hsl:SlAt w0 (some ⟨b,off+a * 4,none⟩) 4 CellD.cells ((l.drop a).take q):=HSL.out.sub a q;have hx2:ps[k].2=(l.drop a).take q:=by rw [hsec];unfold sec;rw [hq];congr 1;omega
    have hln:((l.drop a).take q).length=q:=by rw [List.length_take,hda];omega
    have hv:=valV_slAt hsl (cap:=q) (by rw [hln];exact Nat.le_refl _) (by rw [hln];omega);rw [hln,← hx2] at hv
    have:=HY.out k wx _ hlt hix hv
    rwa [hkey'] at this)
   have HNX:Hid (ChainV l false 7 4000 (a+q) (ps.drop (k+1)) N):=hZz (by rw [← hq];exact hrest);clear hadv hrest2 hda hpx hch hkey hsec hrest hq;have haq:(a:Int)+(q:Int)≤1000000000000000:=by omega
   go_wp2_with (first
    | (go_at_call 134;((with_reducible refine HLK.out.mono ?_);rintro e w2 ⟨x1,x2,x3,x4,rfl,hb2⟩;have HI2:=hZz (HST.out _ _ _ HI.out hb2);clear hb2))
    | (go_at_fn fid;((refine Calls.mono (HYK.out _ (HST.out _ _ _ HI2.out (zabZ _ _))) ?_);rintro e w4 ⟨bb,rfl,hbt,hbf⟩;have HT:=hZz hbt;have HF:=hZz hbf;clear hbt hbf;cases bb)))
   ·go_returns
    exact ⟨rfl,HF.out (by trivial)⟩
   ·exact ⟨⟨k+1,a+q,by omega,by simp,by simp,HNX.out,HT.out (by trivial)⟩,by simp [intOf];omega⟩
  ·have e:k=ps.length:=by omega
   subst e;go_wp2_with (fail)
   go_returns;exact ⟨rfl,HJ.out _ HI.out⟩
end
section
attribute [local go_sem] zacZ
theorem parts6_any (c:CellD) (r:ValD) (v:Value) (fid:FuncId) (caps:Array Value) (w0 w:World) (h:ValV w0 v (c :: r)) (hw:Below w0.heap.size w0 w) (hp:Pow w0) (ho:OkV (c :: r)) (hck:checkF (c :: r)=0) (hk:c.kind=6) (I:Nat→World→Prop) (J:World→Prop)
  (hent:∀ args w,(callFunc fid args).run prog w=.ok (.enter fid args) w) (h0:I 0 w) (hIB:∀ k wx,I k wx→Below w0.heap.size w0 wx) (hst:∀ k wx wy,I k wx→Below wx.heap.size wx wy→I k wy)
  (hy:∀ k wx x (hk:k<(partsOf (c :: r)).length),I k wx→ValV w0 x (partsOf (c :: r))[k].2→Calls prog fid (#[.string (partsOf (c :: r))[k].1,x] ++ caps) wx fun e w'=>∃ b,e=.returned (.bool b)∧(b=true→I (k+1) w')∧(b=false→J w'))
  (hJ:∀ wx,I (partsOf (c :: r)).length wx→J wx) :
  Calls prog 105 #[v,.func (.func fid) #[] caps] w fun e w'=>e=.returned (.tuple #[])∧J w':=by
 obtain ⟨b,off,n,cap,rfl,hn,c0,c1,c2,c3⟩:=zanZ h;have hs:=fun x hx=>zabY (ho.2 x hx)
 obtain ⟨hpl,hnn,hch,_⟩:=zacY hck hs (c:=c) rfl (.inr hk);rw [show decide (c.kind=6)=true by simp [hk]] at hch;have hpos:(0:Int)<(n:Int):=by omega
 have HV:=hZz h;have HCH:=hZz hch;obtain ⟨A,cap',e,hc',hm',hsl⟩:=h.at;injection e with e1 e2 e3
 subst e1 e2 e3;have HSL:=hZz hsl;have HOK:=hZz ho;have HP:=hZz hp;have HL:Hid ((c :: r).length≤200):=hZz (len200 hck);have HY:=hZz hy;have HST:=hZz hst;have HIB:=hZz hIB;have HJ:=hZz hJ;have HI0:=hZz h0;obtain ⟨ps,hps⟩:∃ ps,partsOf (c :: r)=ps:=⟨_,rfl⟩
 rw [hps] at HY HJ HCH hpl;obtain ⟨l,hl⟩:∃ l,c :: r=l:=⟨_,rfl⟩
 rw [hl] at HV HCH HSL HOK HL hc' hm' hpos ⊢;obtain ⟨N,hN⟩:∃ N,l.length=N:=⟨_,rfl⟩
 have HN:=hZz hN;rw [hN] at hc' hm' hpos ⊢;obtain ⟨k,i,s,nn⟩:=c;dsimp only at c0 c3 hk hpl hnn;have HC0:Hid (w0.cell? ⟨b,off,none⟩=some (.int .i64 6)):=hZz (by rw [c0,hk]);have HC3:Hid (w0.cell? ⟨b,off+3,none⟩=some (.int .i64 (ps.length:Nat))):=hZz (by rw [c3,hpl];congr 2;omega)
 have HPS:Hid (ps.length≤200):=hZz (by
  have h1:=HL.out;have h2:=HCH.out.len;omega)
 clear h hp ho hck c0 c1 c2 c3 hsl hst hIB hJ h0 hy hps hl hN hn hs hch hk hpl hnn;go_enter func105,ntmps105
 have w1:=(hw.cell (p:=⟨b,off+3,none⟩) (bLZ HC3.out)).trans HC3.out;go_wp2_with (fail)
 go_loopw [4,5,6,7,8,13] (fun at' _ _ _ _ j wr=>∃ k a:Nat,k≤ps.length∧j=.int .i64 k∧at'=.int .i64 a∧ChainV l true 7 4000 a (ps.drop k) N∧I k wr) (fun _ _ _ _ _ j _=>ps.length - (intOf j).toNat)
 case atStart=>exact ⟨0,1,Nat.zero_le _,rfl,rfl,by rw [← HN.out];exact HCH.out,HI0.out⟩
 case round =>
  obtain ⟨k,a,hk,rfl,rfl,hch,hi⟩:=hrel;have HCK:=hZz hch;have HI:=hZz hi;have HB:=hZz (HIB.out _ _ hi);have g0:=(HB.out.cell (p:=⟨b,off,none⟩) (bLZ HC0.out)).trans HC0.out;clear hch hi;have hk0:(0:Int)≤(k:Int):=by omega
  have hk1:(k:Int)≤200:=by have:=HPS.out;omega
  by_cases hlt:k<ps.length
  ·have hlt':(k:Int)<(ps.length:Int):=by omega
   have hch:=HCK.out;rw [List.drop_eq_getElem_cons hlt] at hch;obtain ⟨rr,hkey,hpx,hsec,hrest⟩:=hch.head;have hadv:=zapY hpx;have hrest2:=hrest.le;simp only [Bool.toNat_true] at hpx hadv hsec;rw [if_pos rfl] at hkey;obtain ⟨kc,hkc,_,_,hks⟩:=hkey;obtain ⟨ks,hks2⟩:∃ s,kc.str=s:=⟨_,rfl⟩
   rw [hks2] at hks;obtain ⟨a1,ha1e⟩:∃ x,a+1=x:=⟨_,rfl⟩
   rw [ha1e] at hpx hadv hsec;obtain ⟨q,hq⟩:∃ q,rr.j=a1+q:=⟨rr.j - a1,by omega⟩
   have haN:a1+q≤N:=by rw [← hq];exact hrest2
   have hq1:0<q:=by omega
   have ha0:(0:Int)≤(a:Int):=by omega
   have hai:(a:Int)<(N:Int):=by omega
   have hae:(a:Int)+1=(a1:Int):=by omega
   have hb0:(0:Int)≤(a1:Int):=by omega
   have d2:wr.cell? ⟨b,off+a * 4+2,none⟩=some (.string ks):=by
    have hal:a<l.length:=(List.getElem?_eq_some_iff.1 hkc).1;have e0:l[a]=kc:=by have:=hkc;rw [List.getElem?_eq_getElem hal] at this;exact Option.some.inj this
    have:=(HSL.out.below HB.out).cell hal (j:=2) (v:=.string ks) (by rw [e0,← hks2];rfl)
    exact this
   have hb1:(a1:Int)≤(N:Int):=by omega
   have hb2':¬ cap=a1:=by omega
   have hb3:(a1:Int)+(q:Int)≤(cap:Int):=by omega
   have hb4:(a1:Int)≤(a1:Int)+(q:Int):=by omega
   have hda:(l.drop a1).length=N - a1:=by rw [List.length_drop,HN.out]
   have HLK:Hid (Calls prog 134 #[.slice (some ⟨b,off+a1 * 4,none⟩) (N - a1) (cap - a1)] wr fun e w'=>∃ x1 x2 x3 x4,e=.returned (.tuple #[.int .i64 q,.agg #[.int .i64 x1,.int .i64 x2,.bool x3,.bool x4],.bool true])∧Below wr.heap.size wr w'):=hZz (by
    have hsl:SlAt wr (some ⟨b,off+a1 * 4,none⟩) 4 CellD.cells (l.drop a1):=by
     have:=(HSL.out.below HB.out).sub a1 (N - a1)
     rwa [List.take_of_length_le (by rw [hda];exact Nat.le_refl _)] at this
    have hlk:=look_any (l.drop a1) (some ⟨b,off+a1 * 4,none⟩) (cap - a1) wr hsl (HP.out.below HB.out) (by rw [hda];have:=HL.out;rw [HN.out] at this;omega) (by rw [hda];omega) (fun x hx=>HOK.out.2 x (List.mem_of_mem_drop hx));rw [hda,px_drop hpx] at hlk;refine hlk.mono fun e w' hpost=>?_
    obtain ⟨hb,he⟩:=hpost;dsimp only at he;rw [show rr.j - a1=q by omega] at he;exact ⟨_,_,_,_,he,hb⟩)
   have HYK:Hid (∀ wx,I k wx→Calls prog fid (#[.string ks,.slice (some ⟨b,off+a1 * 4,none⟩) q q] ++ caps) wx fun e w'=>∃ b,e=.returned (.bool b)∧(b=true→I (k+1) w')∧(b=false→J w')):=hZz (fun wx hix=>by
    have hsl:SlAt w0 (some ⟨b,off+a1 * 4,none⟩) 4 CellD.cells ((l.drop a1).take q):=HSL.out.sub a1 q;have hx2:ps[k].2=(l.drop a1).take q:=by rw [hsec];unfold sec;rw [hq];congr 1;omega
    have hln:((l.drop a1).take q).length=q:=by rw [List.length_take,hda];omega
    have hv:=valV_slAt hsl (cap:=q) (by rw [hln];exact Nat.le_refl _) (by rw [hln];omega);rw [hln,← hx2] at hv
    have:=HY.out k wx _ hlt hix hv
    rwa [hks] at this)
   have HNX:Hid (ChainV l true 7 4000 (a1+q) (ps.drop (k+1)) N):=hZz (by rw [← hq];exact hrest);clear hadv hrest2 hda hpx hch hsec hrest hq hkc hks hks2 ha1e;have haq:(a1:Int)+(q:Int)≤1000000000000000:=by omega
   go_wp2_with (first
    | (go_at_call 134;((with_reducible refine HLK.out.mono ?_);rintro e w2 ⟨x1,x2,x3,x4,rfl,hb2⟩;have HI2:=hZz (HST.out _ _ _ HI.out hb2);clear hb2))
    | (go_at_fn fid;((refine Calls.mono (HYK.out _ (HST.out _ _ _ HI2.out (zabZ _ _))) ?_);rintro e w4 ⟨bb,rfl,hbt,hbf⟩;have HT:=hZz hbt;have HF:=hZz hbf;clear hbt hbf;cases bb)))
   ·go_returns
    exact ⟨rfl,HF.out (by trivial)⟩
   ·exact ⟨⟨k+1,a1+q,by omega,by simp,by simp,HNX.out,HT.out (by trivial)⟩,by simp [intOf];omega⟩
  ·have e:k=ps.length:=by omega
   subst e;go_wp2_with (fail)
   go_returns;exact ⟨rfl,HJ.out _ HI.out⟩
end
def one (b:Bool):Int:=if b then 1 else 0
end Go.Proofs.YtekdhlfapejijaaGreatDoor
