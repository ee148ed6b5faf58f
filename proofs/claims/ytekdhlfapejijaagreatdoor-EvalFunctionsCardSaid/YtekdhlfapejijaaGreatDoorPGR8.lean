/- GR8 -/
import Derived.Test.YtekdhlfapejijaaGreatDoorPGR2
set_option linter.unusedVariables false
set_option linter.unusedSimpArgs false
namespace Go.Proofs.YtekdhlfapejijaaGreatDoor
open Go.RowKit
set_option maxRecDepth 100000
set_option maxHeartbeats 8000000
open Go.Proofs.Tryz
section
def lastS (last:Option ByteArray):ByteArray:=last.getD ByteArray.empty
attribute [local go_sem] zacZ
set_option maxHeartbeats 4000000 in
theorem pairs_of (l:List CellD) (A:Option Addr) (cap a i N:Nat) (w:World) (hN:NextFrom l A cap a) (h:SlAt w A 4 CellD.cells l) (ha:a≤i) (hi:i≤l.length) (hl:l.length≤1000000) (hb:N≤9223372036854775807) (hok:∀ c∈l,c.str.size≤4294967296) :
  Calls prog 161 #[.slice A l.length cap,.int .i64 i,.int .i64 N] w fun e w'=>e=.returned (.int .i64 (shR (pairs l (px l) 0 N none ⟨i,0,0⟩)))∧Below w.heap.size w w':=by
 obtain ⟨E,hE⟩:∃ E,pairs l (px l) 0 N none ⟨i,0,0⟩=E:=⟨_,rfl⟩
 rw [hE];have HE:=hZz hE;have HN:=hZz hN;have HA:=hZz h;have HK:=hZz hok;have hb':(N:Int)≤9223372036854775807:=by omega
 clear hE hN h hok;go_enter func161,ntmps161
 go_wp2
 go_loopw [1,7,8] (fun iv lv kv wr=>∃ (k:Nat) (s:Sh) (last:Option ByteArray),k≤N∧iv=.int .i64 s.j∧lv=.string (lastS last)∧kv=.int .i64 k∧a≤s.j∧s.j≤l.length∧(last.isSome=true↔0<k)∧Hid (pairs l (px l) 0 (N - k) last s=E)∧Below w.heap.size w wr) (fun _ _ kv _=>N - (intOf kv).toNat)
 case atStart=>exact ⟨0,⟨i,0,0⟩,none,Nat.zero_le _,rfl,rfl,rfl,ha,hi,by simp,hZz HE.out,Below.refl _ _⟩
 case round =>
  obtain ⟨k,s,last,hk,rfl,rfl,rfl,has,hsl,hlast,HS,hbel⟩:=hrel;have HB:=hZz hbel;clear hbel;have hk0:(0:Int)≤(k:Int):=by omega
  by_cases hlt:k<N
  ·have hlt':(k:Int)<(N:Int):=by omega
   obtain ⟨m,hm⟩:∃ m,N - k=m+1:=⟨N - k - 1,by omega⟩
   have hm2:N - (k+1)=m:=by omega
   have HM:=hZz hm2;have HM1:=hZz hm;clear hm hm2;by_cases hend:s.j=l.length
   ·have hE:E=none:=by
     rw [← HS.out,HM1.out];refine zc1Y (fun c hc=>?_)
     rw [hend] at hc;simp at hc
    subst hE;have hge:(l.length:Int)≤(s.j:Int):=by omega
    have hge':¬ (s.j:Int)<(l.length:Int):=by omega
    clear hlast;go_wp2_with (fail)
    go_returns;exact ⟨rfl,HB.out⟩
   ·have hjl:s.j<l.length:=by omega
    have hji:(s.j:Int)<(l.length:Int):=by omega
    have hj0:(0:Int)≤(s.j:Int):=by omega
    obtain ⟨c,hc⟩:∃ c,l[s.j]=c:=⟨_,rfl⟩
    have hcl:l[s.j]? = some c:=by rw [List.getElem?_eq_getElem hjl,hc]
    have HCL:=hZz hcl;have hck:=HK.out c (hc ▸ List.getElem_mem hjl);have hsa:=HA.out.below HB.out;obtain ⟨bA,off,rfl,_⟩:=hsa.ptr hjl;have c0:=hsa.cell0 hjl (v:=.int .i64 c.kind) (by rw [hc];rfl);have c1:=hsa.cell hjl (j:=1) (v:=.int .i64 c.int) (by rw [hc];rfl);have c2:=hsa.cell hjl (j:=2) (v:=.string c.str) (by rw [hc];rfl);have c3:=hsa.cell hjl (j:=3) (v:=.int .i64 c.n) (by rw [hc];rfl);obtain ⟨kb,hkb⟩:∃ b,keyB c=b:=⟨_,rfl⟩
    have HKB:=hZz hkb;have HKY:Hid (∀ wx,Calls prog 159 #[.agg #[.int .i64 c.kind,.int .i64 c.int,.string c.str,.int .i64 c.n]] wx fun e w'=>e=.returned (.bool kb)∧Below wx.heap.size wx w'):=hZz (fun wx=>by rw [← hkb];exact key6_any c wx hck);have HCC:=hZz hc;clear hc hcl hkb hsa;cases kb with
    | false =>
     have hE:E=none:=by
      rw [← HS.out,HM1.out];refine zc1Y (fun c' hc'=>?_)
      rw [HCL.out] at hc';injection hc' with hc'
      subst hc';rw [keyOk_eq,HKB.out];rfl
     subst hE;clear hlast
     go_wp2_with (first
      | (go_at_call 159;(with_reducible refine (HKY.out _).mono ?_);rintro e w1 ⟨rfl,hb1⟩;have HB1:=hZz (zaaZ hb1 HB.out HB.out.size);clear hb1))
     go_returns;exact ⟨rfl,HB1.out⟩
    | true =>
     cases last with
     | none =>
      have hk00:k=0:=by
       by_cases h:0<k
       ·exact absurd (hlast.2 h) (by simp)
       ·omega
      have hkn:¬ ((0:Int)<(k:Int)):=by omega
      clear hk00;have HKO:Hid (keyOk none c=true):=hZz (by rw [keyOk_eq,HKB.out];rfl);cases hr:px l (s.j+1) with
      | none =>
       have hE:E=none:=by rw [← HS.out,HM1.out];exact pairs_none2 hr
       subst hE
       have HNX:Hid (∀ wx,SlAt wx (some ⟨bA,off,none⟩) 4 CellD.cells l→Calls prog 113 #[.slice (some ⟨bA,off,none⟩) l.length cap,.int .i64 ((s.j:Int)+1)] wx fun e w'=>e=.returned (.int .i64 (-1))∧Below wx.heap.size wx w'):=hZz (fun wx hx=>by
        have:=HN.out (s.j+1) (by omega) (by omega) wx hx
        rw [hr] at this;simpa [shR] using this)
       clear hr hlast
       go_wp2_with (first
        | (go_at_call 159;(with_reducible refine (HKY.out _).mono ?_);rintro e w1 ⟨rfl,hb1⟩;have hy1:=zaaZ hb1 HB.out HB.out.size;have HB1:=hZz hy1;have d2:=(HA.out.below hy1).cell hjl (j:=2) (v:=.string c.str) (by rw [HCC.out];rfl);clear hb1 hy1)
        | (go_at_call 113;(with_reducible refine (HNX.out _ (HA.out.below HB1.out)).mono ?_);rintro e w2 ⟨rfl,hb2⟩;have HB2:=hZz (zaaZ hb2 HB1.out HB1.out.size);clear hb2))
       go_returns;exact ⟨rfl,HB2.out⟩
      | some r =>
       have had:=zapY hr;have h1:=had.1;have h2:=had.2;have hr0:¬ ((r.j:Int)<0):=by omega
       have hE:pairs l (px l) 0 (N - (k+1)) (some c.str) ⟨r.j,max s.d (0+r.d),s.b+(quotedN c.str+1)+r.b⟩=E:=by rw [← HS.out,HM1.out,HM.out];exact (zb7Y HCL.out HKO.out hr).symm
       have HEE:=hZz hE
       have HNX:Hid (∀ wx,SlAt wx (some ⟨bA,off,none⟩) 4 CellD.cells l→Calls prog 113 #[.slice (some ⟨bA,off,none⟩) l.length cap,.int .i64 ((s.j:Int)+1)] wx fun e w'=>e=.returned (.int .i64 (r.j:Nat))∧Below wx.heap.size wx w'):=hZz (fun wx hx=>by
        have:=HN.out (s.j+1) (by omega) (by omega) wx hx
        rw [hr] at this;simpa [shR] using this)
       clear hr hlast hE had
       go_wp2_with (first
        | (go_at_call 159;(with_reducible refine (HKY.out _).mono ?_);rintro e w1 ⟨rfl,hb1⟩;have hy1:=zaaZ hb1 HB.out HB.out.size;have HB1:=hZz hy1;have d2:=(HA.out.below hy1).cell hjl (j:=2) (v:=.string c.str) (by rw [HCC.out];rfl);clear hb1 hy1)
        | (go_at_call 113;(with_reducible refine (HNX.out _ (HA.out.below HB1.out)).mono ?_);rintro e w2 ⟨rfl,hb2⟩;have HB2:=hZz (zaaZ hb2 HB1.out HB1.out.size);clear hb2))
       refine ⟨⟨k+1,⟨r.j,max s.d (0+r.d),s.b+(quotedN c.str+1)+r.b⟩,some c.str,by omega,rfl,rfl,by simp,by simp;omega,h2,by simp,HEE,HB2.out⟩,by simp [intOf];omega⟩
     | some la =>
      have hkp:0<k:=hlast.1 rfl;have hkp':(0:Int)<(k:Int):=by omega
      have hls:lastS (some la)=la:=rfl;rw [hls];cases hs:sleB c.str la with
      | true =>
       have h5:(Op.bytesLess c.str.toList la.toList || c.str.toList == la.toList)=true:=hs
       have hE:E=none:=by
        rw [← HS.out,HM1.out];refine zc1Y (fun c' hc'=>?_)
        rw [HCL.out] at hc';injection hc' with hc'
        subst hc';rw [keyOk_eq,HKB.out];simp [hs]
       subst hE;clear hlast hs hls
       go_wp2_with (first
        | (go_at_call 159;(with_reducible refine (HKY.out _).mono ?_);rintro e w1 ⟨rfl,hb1⟩;have hy1:=zaaZ hb1 HB.out HB.out.size;have HB1:=hZz hy1;have d2:=(HA.out.below hy1).cell hjl (j:=2) (v:=.string c.str) (by rw [HCC.out];rfl);clear hb1 hy1))
       go_returns;exact ⟨rfl,HB1.out⟩
      | false =>
       have h5:(Op.bytesLess c.str.toList la.toList || c.str.toList == la.toList)=false:=hs;have HKO:Hid (keyOk (some la) c=true):=hZz (by rw [keyOk_eq,HKB.out];simp [hs]);cases hr:px l (s.j+1) with
       | none =>
        have hE:E=none:=by rw [← HS.out,HM1.out];exact pairs_none2 hr
        subst hE
        have HNX:Hid (∀ wx,SlAt wx (some ⟨bA,off,none⟩) 4 CellD.cells l→Calls prog 113 #[.slice (some ⟨bA,off,none⟩) l.length cap,.int .i64 ((s.j:Int)+1)] wx fun e w'=>e=.returned (.int .i64 (-1))∧Below wx.heap.size wx w'):=hZz (fun wx hx=>by
         have:=HN.out (s.j+1) (by omega) (by omega) wx hx
         rw [hr] at this;simpa [shR] using this)
        clear hr hlast hs hls
        go_wp2_with (first
         | (go_at_call 159;(with_reducible refine (HKY.out _).mono ?_);rintro e w1 ⟨rfl,hb1⟩;have hy1:=zaaZ hb1 HB.out HB.out.size;have HB1:=hZz hy1;have d2:=(HA.out.below hy1).cell hjl (j:=2) (v:=.string c.str) (by rw [HCC.out];rfl);clear hb1 hy1)
         | (go_at_call 113;(with_reducible refine (HNX.out _ (HA.out.below HB1.out)).mono ?_);rintro e w2 ⟨rfl,hb2⟩;have HB2:=hZz (zaaZ hb2 HB1.out HB1.out.size);clear hb2))
        go_returns;exact ⟨rfl,HB2.out⟩
       | some r =>
        have had:=zapY hr;have h1:=had.1;have h2:=had.2;have hr0:¬ ((r.j:Int)<0):=by omega
        have hE:pairs l (px l) 0 (N - (k+1)) (some c.str) ⟨r.j,max s.d (0+r.d),s.b+(quotedN c.str+1)+r.b⟩=E:=by rw [← HS.out,HM1.out,HM.out];exact (zb7Y HCL.out HKO.out hr).symm
        have HEE:=hZz hE
        have HNX:Hid (∀ wx,SlAt wx (some ⟨bA,off,none⟩) 4 CellD.cells l→Calls prog 113 #[.slice (some ⟨bA,off,none⟩) l.length cap,.int .i64 ((s.j:Int)+1)] wx fun e w'=>e=.returned (.int .i64 (r.j:Nat))∧Below wx.heap.size wx w'):=hZz (fun wx hx=>by
         have:=HN.out (s.j+1) (by omega) (by omega) wx hx
         rw [hr] at this;simpa [shR] using this)
        clear hr hlast hE had hs hls
        go_wp2_with (first
         | (go_at_call 159;(with_reducible refine (HKY.out _).mono ?_);rintro e w1 ⟨rfl,hb1⟩;have hy1:=zaaZ hb1 HB.out HB.out.size;have HB1:=hZz hy1;have d2:=(HA.out.below hy1).cell hjl (j:=2) (v:=.string c.str) (by rw [HCC.out];rfl);clear hb1 hy1)
         | (go_at_call 113;(with_reducible refine (HNX.out _ (HA.out.below HB1.out)).mono ?_);rintro e w2 ⟨rfl,hb2⟩;have HB2:=hZz (zaaZ hb2 HB1.out HB1.out.size);clear hb2))
        refine ⟨⟨k+1,⟨r.j,max s.d (0+r.d),s.b+(quotedN c.str+1)+r.b⟩,some c.str,by omega,rfl,rfl,by simp,by simp;omega,h2,by simp,HEE,HB2.out⟩,by simp [intOf];omega⟩
  ·have e:k=N:=by omega
   subst e;have hE:E=some s:=by rw [← HS.out,Nat.sub_self];rfl
   subst hE;clear hlast;go_wp2_with (fail)
   go_returns;exact ⟨rfl,HB.out⟩
end
section
def okC6 (c:CellD):Prop:=c.str.size≤4294967296∧c.n≤9223372036854775807
theorem px_end {l:List CellD} {j:Nat} (h:l[j]? = none):px l j=none:=by rw [px_eq,pstep,h]
theorem px_sc {l:List CellD} {j:Nat} {c:CellD} (h:l[j]? = some c) (h5:¬ c.kind=5) (h6:¬ c.kind=6):shR (px l j)=if plainB c then ((j+1:Nat):Int) else -1:=by
 rw [px_eq,pstep,h];simp only
 cases hp:plainB c with
 | false=>rfl
 | true=>simp only [Bool.true_eq_false,if_false,if_neg h5,if_neg h6,if_true];rfl
theorem px_bad {l:List CellD} {j:Nat} {c:CellD} (h:l[j]? = some c) (hp:plainB c=false):shR (px l j)=-1:=by
 rw [px_eq,pstep,h];simp only
 rw [if_pos hp];rfl
theorem px_list {l:List CellD} {j:Nat} {c:CellD} (h:l[j]? = some c) (hp:plainB c=true) (h5:c.kind=5):shR (px l j)=shR (elems (px l) 0 c.n.toNat ⟨j+1,0,0⟩):=by
 rw [px_eq,pstep,h];simp only
 rw [if_neg (by rw [hp];simp),if_pos h5];cases elems (px l) 0 c.n.toNat ⟨j+1,0,0⟩ <;> rfl
theorem px_map {l:List CellD} {j:Nat} {c:CellD} (h:l[j]? = some c) (hp:plainB c=true) (h6:c.kind=6):shR (px l j)=shR (pairs l (px l) 0 c.n.toNat none ⟨j+1,0,0⟩):=by
 rw [px_eq,pstep,h];simp only
 rw [if_neg (by rw [hp];simp),if_neg (by omega),if_pos h6];cases pairs l (px l) 0 c.n.toNat none ⟨j+1,0,0⟩ <;> rfl
theorem zcxY {a b:Int} (h:a=b):Ending.returned (.int .i64 a)=.returned (.int .i64 b):=by rw [h]
attribute [local go_sem] zacZ
theorem next_at (l:List CellD) (A:Option Addr) (cap:Nat) (hl:l.length≤1000000) (hok:∀ c∈l,okC6 c) (j:Nat) (hj:j≤l.length) (hN:NextFrom l A cap (j+1)) (w:World) (h:SlAt w A 4 CellD.cells l) :
  Calls prog 113 #[.slice A l.length cap,.int .i64 j] w fun e w'=>e=.returned (.int .i64 (shR (px l j)))∧Below w.heap.size w w':=by
 have hj0:(0:Int)≤(j:Int):=by omega
 have hj1:(j:Int)≤1000000:=by omega
 have HN:=hZz hN;have HA:=hZz h;have HK:=hZz hok;obtain ⟨X,hX⟩:∃ x,shR (px l j)=x:=⟨_,rfl⟩
 have HX:=hZz hX;rw [hX];by_cases hend:j=l.length
 ·have hx:X=-1:=by rw [← HX.out,px_end (by rw [hend];simp)];rfl
  subst hx;have hge:(l.length:Int)≤(j:Int):=by omega
  clear hN h hok hX hend;go_enter func113,ntmps113
  go_wp2_with (fail)
  go_ret;exact ⟨rfl,Below.refl _ _⟩
 ·have hjl:j<l.length:=by omega
  have hji:(j:Int)<(l.length:Int):=by omega
  obtain ⟨c,hc⟩:∃ c,l[j]=c:=⟨_,rfl⟩
  have hcl:l[j]? = some c:=by rw [List.getElem?_eq_getElem hjl,hc]
  have hck:=hok c (hc ▸ List.getElem_mem hjl);obtain ⟨bA,off,rfl,_⟩:=h.ptr hjl;have c0:=h.cell0 hjl (v:=.int .i64 c.kind) (by rw [hc];rfl);have c1:=h.cell hjl (j:=1) (v:=.int .i64 c.int) (by rw [hc];rfl);have c2:=h.cell hjl (j:=2) (v:=.string c.str) (by rw [hc];rfl);have c3:=h.cell hjl (j:=3) (v:=.int .i64 c.n) (by rw [hc];rfl);have HCL:=hZz hcl;have HB0:=hZz (zabZ w (.cells #[.int .i64 c.kind,.int .i64 c.int,.string c.str,.int .i64 c.n] 53));have HKY:Hid (∀ wx,Calls prog 159 #[.agg #[.int .i64 c.kind,.int .i64 c.int,.string c.str,.int .i64 c.n]] wx fun e w'=>e=.returned (.bool (keyB c))∧Below wx.heap.size wx w'):=hZz (fun wx=>key6_any c wx hck.1);clear hN h hok hX hc hcl hend;have hjm:j≤1000000:=by omega
  obtain ⟨k,i,s,n⟩:=c;dsimp only at c0 c1 c2 c3 HKY;have hn9:=hck.2;dsimp only at hn9;clear hck;by_cases h1:k=1
  ·subst h1
   have HPX:Hid (X=if plainB ⟨1,i,s,n⟩ then ((j+1:Nat):Int) else -1):=hZz (by rw [← HX.out];exact px_sc HCL.out (by simp) (by simp));by_cases hi0:i=0
   all_goals by_cases hs0:s.size=0
   all_goals by_cases hn0:n=0
   all_goals first | (exfalso;omega) | skip
   all_goals
    have hs1:=hs0;rw [← zadY] at hs1;have HS0:=hZz hs0;clear hs0;go_enter func113,ntmps113
    go_wp2_with (first
     | (go_at_call 158;(with_reducible refine (zceY _ j _ hjm).mono ?_);rintro e w1 ⟨rfl,hw1⟩;rw [hw1];clear hw1 w1))
    all_goals
     go_returns;exact ⟨zcxY (by rw [HPX.out];simp [plainB,hi0,hn0,HS0.out]),zabZ w _⟩
  by_cases h2:k=2
  ·subst h2
   have HPX:Hid (X=if plainB ⟨2,i,s,n⟩ then ((j+1:Nat):Int) else -1):=hZz (by rw [← HX.out];exact px_sc HCL.out (by simp) (by simp));by_cases hi0:i=0
   all_goals by_cases hi1:i=1
   all_goals by_cases hs0:s.size=0
   all_goals by_cases hn0:n=0
   all_goals first | (exfalso;omega) | skip
   all_goals
    have hs1:=hs0;rw [← zadY] at hs1;have HS0:=hZz hs0;clear hs0 h1;go_enter func113,ntmps113
    go_wp2_with (first
     | (go_at_call 158;(with_reducible refine (zceY _ j _ hjm).mono ?_);rintro e w1 ⟨rfl,hw1⟩;rw [hw1];clear hw1 w1))
    all_goals
     go_returns;exact ⟨zcxY (by rw [HPX.out];simp [plainB,hi0,hi1,hn0,HS0.out]),zabZ w _⟩
  by_cases h3:k=3
  ·subst h3
   have HPX:Hid (X=if plainB ⟨3,i,s,n⟩ then ((j+1:Nat):Int) else -1):=hZz (by rw [← HX.out];exact px_sc HCL.out (by simp) (by simp));by_cases hs0:s.size=0
   all_goals by_cases hn0:n=0
   all_goals first | (exfalso;omega) | skip
   all_goals
    have hs1:=hs0;rw [← zadY] at hs1;have HS0:=hZz hs0;clear hs0 h1 h2;go_enter func113,ntmps113
    go_wp2_with (first
     | (go_at_call 158;(with_reducible refine (zceY _ j _ hjm).mono ?_);rintro e w1 ⟨rfl,hw1⟩;rw [hw1];clear hw1 w1))
    all_goals
     go_returns;exact ⟨zcxY (by rw [HPX.out];simp [plainB,hn0,HS0.out]),zabZ w _⟩
  by_cases h4:k=4
  ·subst h4
   have HPX:Hid (X=if keyB ⟨4,i,s,n⟩ then ((j+1:Nat):Int) else -1):=hZz (by rw [← HX.out,px_sc HCL.out (by simp) (by simp),keyB_eq];simp);obtain ⟨kb,hkb⟩:∃ b,keyB ⟨4,i,s,n⟩=b:=⟨_,rfl⟩
   rw [hkb] at HKY HPX;clear h1 h2 h3 hkb;cases kb
   all_goals
    go_enter func113,ntmps113
    go_wp2_with (first
     | (go_at_call 159;(with_reducible refine (HKY.out _).mono ?_);rintro e w1 ⟨rfl,hb1⟩;have HB1:=hZz (zadZ hb1 (zabZ w _));clear hb1)
     | (go_at_call 158;(with_reducible refine (zceY _ j _ hjm).mono ?_);rintro e w1 ⟨rfl,hw1⟩;rw [hw1];clear hw1 w1))
    all_goals
     go_returns;exact ⟨zcxY (by rw [HPX.out];simp),HB1.out⟩
  by_cases h5:k=5
  ·subst h5
   by_cases hi0:i=0
   all_goals by_cases hs0:s.size=0
   all_goals by_cases hn0:0≤n
   all_goals
    have hs1:=hs0;rw [← zadY] at hs1
   ·have HPX:Hid (X=shR (elems (px l) 0 n.toNat ⟨j+1,0,0⟩)):=hZz (by rw [← HX.out];exact px_list HCL.out (by simp [plainB,hi0,hs0,hn0]) rfl)
    have HEL:Hid (∀ wx,SlAt wx (some ⟨bA,off,none⟩) 4 CellD.cells l→Calls prog 160 #[.slice (some ⟨bA,off,none⟩) l.length cap,.int .i64 ((j:Int)+1),.int .i64 n] wx fun e w'=>e=.returned (.int .i64 X)∧Below wx.heap.size wx w'):=hZz (fun wx hx=>by
     have:=elements_of l (some ⟨bA,off,none⟩) cap (j+1) (j+1) n.toNat wx HN.out hx (Nat.le_refl _) (by omega) hl (by omega)
     rw [show ((n.toNat:Nat):Int)=n by omega,← HPX.out] at this
     push_cast at this
     exact this)
    clear hs0;go_enter func113,ntmps113
    go_wp2_with (first
     | (go_at_call 160;(with_reducible refine (HEL.out _ (HA.out.alloc _)).mono ?_);rintro e w1 ⟨rfl,hb1⟩;have HB1:=hZz (zadZ hb1 (zabZ w _));clear hb1))
    go_returns;exact ⟨rfl,HB1.out⟩
   all_goals
    have HPX:Hid (X=-1):=hZz (by rw [← HX.out];exact px_bad HCL.out (by simp [plainB,hi0,hs0,hn0]));clear hs0;go_enter func113,ntmps113
    go_wp2_with (fail)
    all_goals
     go_returns;exact ⟨zcxY HPX.out.symm,zabZ w _⟩
  by_cases h6:k=6
  ·subst h6
   by_cases hi0:i=0
   all_goals by_cases hs0:s.size=0
   all_goals by_cases hn0:0≤n
   all_goals
    have hs1:=hs0;rw [← zadY] at hs1
   ·have HPX:Hid (X=shR (pairs l (px l) 0 n.toNat none ⟨j+1,0,0⟩)):=hZz (by rw [← HX.out];exact px_map HCL.out (by simp [plainB,hi0,hs0,hn0]) rfl)
    have HEL:Hid (∀ wx,SlAt wx (some ⟨bA,off,none⟩) 4 CellD.cells l→Calls prog 161 #[.slice (some ⟨bA,off,none⟩) l.length cap,.int .i64 ((j:Int)+1),.int .i64 n] wx fun e w'=>e=.returned (.int .i64 X)∧Below wx.heap.size wx w'):=hZz (fun wx hx=>by
     have:=pairs_of l (some ⟨bA,off,none⟩) cap (j+1) (j+1) n.toNat wx HN.out hx (Nat.le_refl _) (by omega) hl (by omega) (fun c hc=>(HK.out c hc).1)
     rw [show ((n.toNat:Nat):Int)=n by omega,← HPX.out] at this
     push_cast at this
     exact this)
    clear hs0;go_enter func113,ntmps113
    go_wp2_with (first
     | (go_at_call 161;(with_reducible refine (HEL.out _ (HA.out.alloc _)).mono ?_);rintro e w1 ⟨rfl,hb1⟩;have HB1:=hZz (zadZ hb1 (zabZ w _));clear hb1))
    go_returns;exact ⟨rfl,HB1.out⟩
   all_goals
    have HPX:Hid (X=-1):=hZz (by rw [← HX.out];exact px_bad HCL.out (by simp [plainB,hi0,hs0,hn0]));clear hs0;go_enter func113,ntmps113
    go_wp2_with (fail)
    all_goals
     go_returns;exact ⟨zcxY HPX.out.symm,zabZ w _⟩
  have HPX:Hid (X=-1):=hZz (by rw [← HX.out];exact px_bad HCL.out (by simp [plainB,h1,h2,h3,h4,h5,h6]));go_enter func113,ntmps113
  go_wp2_with (fail)
  all_goals
   go_returns;exact ⟨zcxY HPX.out.symm,zabZ w _⟩
theorem next_from (l:List CellD) (A:Option Addr) (cap:Nat) (hl:l.length≤1000000) (hok:∀ c∈l,okC6 c):∀ n a,l.length+1 - a≤n→NextFrom l A cap a
 | 0,a,h=>fun j h1 h2=>by omega
 | n+1,a,h=>fun j h1 h2 wx hx=>next_at l A cap hl hok j h2 (next_from l A cap hl hok n (j+1) (by omega)) wx hx
theorem zbnY (l:List CellD) (A:Option Addr) (cap:Nat) (hl:l.length≤1000000) (hok:∀ c∈l,okC6 c):NextFrom l A cap 0:=next_from l A cap hl hok (l.length+1) 0 (by omega)
end
section
def formedF (l:List CellD):Bool:=match px l 0 with
 | none=>false
 | some r=>decide (r.j=l.length)
attribute [local go_sem] zacZ
set_option maxHeartbeats 2000000 in
theorem formed_any (l:List CellD) (A:Option Addr) (cap:Nat) (hl:l.length≤1000000) (hok:∀ c∈l,okC6 c) (w:World) (h:SlAt w A 4 CellD.cells l) :
  Calls prog 81 #[.slice A l.length cap] w fun e w'=>e=.returned (.bool (formedF l))∧Below w.heap.size w w':=by
 obtain ⟨X,hX⟩:∃ x,formedF l=x:=⟨_,rfl⟩
 rw [hX];have HX:=hZz hX;clear hX;have HC:=hZz (zbnY l A cap hl hok 0 (Nat.le_refl _) (Nat.zero_le _) w h);cases hr:px l 0 with
 | none =>
  have hx:X=false:=by rw [← HX.out];unfold formedF;rw [hr]
  subst hx;have HC2:Hid (Calls prog 113 #[.slice A l.length cap,.int .i64 0] w fun e w'=>e=.returned (.int .i64 (-1))∧Below w.heap.size w w'):=hZz (by have:=HC.out;rw [hr] at this;exact this);clear hr HC h hok;by_cases h0:(0:Int)<(l.length:Int)
  ·have hne:((-1:Int) == (l.length:Int))=false:=by simp
   go_enter func81,ntmps81
   go_wp2_with (first
    | (go_at_call 113;(with_reducible refine HC2.out.mono ?_);rintro e w1 ⟨rfl,hb1⟩;have HB1:=hZz hb1;clear hb1))
   go_returns;exact ⟨rfl,HB1.out⟩
  ·go_enter func81,ntmps81
   go_wp2_with (fail)
   go_returns;exact ⟨rfl,Below.refl _ _⟩
 | some r =>
  have had:=zapY hr;have h0:(0:Int)<(l.length:Int):=by omega
  have HC2:Hid (Calls prog 113 #[.slice A l.length cap,.int .i64 0] w fun e w'=>e=.returned (.int .i64 (r.j:Nat))∧Below w.heap.size w w'):=hZz (by have:=HC.out;rw [hr] at this;exact this);have hx:X=decide (r.j=l.length):=by rw [← HX.out];unfold formedF;rw [hr]
  have HXX:=hZz hx;clear hr HC h hok had hx HX;by_cases hj:r.j=l.length
  ·have hje:((r.j:Int) == (l.length:Int))=true:=by simp;omega
   obtain rfl:X=true:=by rw [HXX.out];simpa using hj
   clear hj HXX;go_enter func81,ntmps81
   go_wp2_with (first
    | (go_at_call 113;(with_reducible refine HC2.out.mono ?_);rintro e w1 ⟨rfl,hb1⟩;have HB1:=hZz hb1;clear hb1))
   go_returns;exact ⟨rfl,HB1.out⟩
  ·have hje:((r.j:Int) == (l.length:Int))=false:=by simp;omega
   obtain rfl:X=false:=by rw [HXX.out];simpa using hj
   clear hj HXX;go_enter func81,ntmps81
   go_wp2_with (first
    | (go_at_call 113;(with_reducible refine HC2.out.mono ?_);rintro e w1 ⟨rfl,hb1⟩;have HB1:=hZz hb1;clear hb1))
   go_returns;exact ⟨rfl,HB1.out⟩
end
section
def LevelsFrom (l:List CellD) (A:Option Addr) (cap a:Nat):Prop:=∀ j r,a≤j→px l j=some r→∀ wx,SlAt wx A 4 CellD.cells l→Calls prog 82 #[.slice A l.length cap,.int .i64 j] wx fun e w'=>e=.returned (.int .i64 (r.d:Nat))∧Below wx.heap.size wx w'
attribute [local go_sem] zacZ
set_option maxHeartbeats 4000000 in
theorem levels_at (l:List CellD) (A:Option Addr) (cap:Nat) (hl:l.length≤1000000) (hok:∀ c∈l,okC6 c) (j:Nat) (r:Sh) (hr:px l j=some r) (hN:LevelsFrom l A cap (j+1)) (w:World) (h:SlAt w A 4 CellD.cells l) :
  Calls prog 82 #[.slice A l.length cap,.int .i64 j] w fun e w'=>e=.returned (.int .i64 (r.d:Nat))∧Below w.heap.size w w':=by
 have had:=zapY hr;have hjl:j<l.length:=by omega
 have hji:(j:Int)<(l.length:Int):=by omega
 have hj0:(0:Int)≤(j:Int):=by omega
 have hj1:(j:Int)≤1000000:=by omega
 have HN:=hZz hN;have HA:=hZz h;have HX:=hZz (zbnY l A cap hl hok);obtain ⟨c,hc⟩:∃ c,l[j]=c:=⟨_,rfl⟩
 have hcl:l[j]? = some c:=by rw [List.getElem?_eq_getElem hjl,hc]
 have hck:=hok c (hc ▸ List.getElem_mem hjl);obtain ⟨bA,off,rfl,_⟩:=h.ptr hjl;have c0:=h.cell0 hjl (v:=.int .i64 c.kind) (by rw [hc];rfl);have c1:=h.cell hjl (j:=1) (v:=.int .i64 c.int) (by rw [hc];rfl);have c2:=h.cell hjl (j:=2) (v:=.string c.str) (by rw [hc];rfl);have c3:=h.cell hjl (j:=3) (v:=.int .i64 c.n) (by rw [hc];rfl);obtain ⟨hpb,hcase⟩:=zcyY hr hcl;have HCS:=hZz hcase;have HPB:=hZz hpb;obtain ⟨k,i,s,n⟩:=c;dsimp only at c0 c1 c2 c3;have hn9:=hck.2;dsimp only at hn9;clear hN h hok hc hcl hpb hcase had hr hck;by_cases hk:k=5∨k=6
 ·have hn0:0≤n:=plain_n HPB.out hk
  obtain ⟨N,hNn⟩:∃ N:Nat,n=(N:Int):=⟨n.toNat,by omega⟩
  subst hNn;have hNt:((N:Int)).toNat=N:=by omega
  by_cases h5:k=5
  ·subst h5
   obtain ⟨t,ht,hrd⟩:∃ t,elems (px l) 0 N ⟨j+1,0,0⟩=some t∧r.d=t.d+1:=by
    rcases HCS.out with ⟨_,t,e1,e2⟩ | ⟨e,_⟩ | ⟨e,_⟩
    ·rw [hNt] at e1;exact ⟨t,e1,by rw [e2]⟩
    ·cases e
    ·exact absurd rfl e
   have HT:=hZz ht;have HR:=hZz hrd;have HBX:=hZz (Blk.new w 53 #[.int .i64 5,.int .i64 i,.string s,.int .i64 N]);have HB0:=hZz (zabZ w (.cells #[.int .i64 5,.int .i64 i,.string s,.int .i64 N] 53));rw [hrd];clear ht hrd hNt HCS HPB hk hn0;go_enter func82,ntmps82
   go_wp2_with (fail)
   go_loopw [6,7,8] (fun mv av kv wr=>∃ (k:Nat) (q:Sh),k≤N∧kv=.int .i64 k∧mv=.int .i64 q.d∧av=.int .i64 q.j∧j+1≤q.j∧q.j≤l.length∧q.d≤q.j∧Hid (elems (px l) 0 (N - k) q=some t)∧Blk wr w.heap.size 53 #[.int .i64 5,.int .i64 i,.string s,.int .i64 N]∧Below w.heap.size w wr) (fun _ _ kv _=>N - (intOf kv).toNat)
   case atStart=>exact ⟨0,⟨j+1,0,0⟩,Nat.zero_le _,rfl,rfl,by simp,Nat.le_refl _,hjl,Nat.zero_le _,hZz HT.out,HBX.out,HB0.out⟩
   case round =>
    obtain ⟨k,q,hk,rfl,rfl,rfl,hjq,hql,hqd,HS,hbx,hbel⟩:=hrel;have HBXk:=hZz hbx;have HB:=hZz hbel;have b4:=blk4 hbx;clear hbx hbel;have hk0:(0:Int)≤(k:Int):=by omega
    by_cases hlt:k<N
    ·have hlt':(k:Int)<(N:Int):=by omega
     obtain ⟨m,hm⟩:∃ m,N - k=m+1:=⟨N - k - 1,by omega⟩
     have HM:Hid (N - (k+1)=m):=hZz (by omega);obtain ⟨r',hr',he⟩:=zamY (show elems (px l) 0 (m+1) q=some t by rw [← hm];exact HS.out);have had:=zapY hr';have hdd:=px_d hr';have HE:=hZz he;have HLV:Hid (∀ wx,SlAt wx (some ⟨bA,off,none⟩) 4 CellD.cells l→Calls prog 82 #[.slice (some ⟨bA,off,none⟩) l.length cap,.int .i64 q.j] wx fun e w'=>e=.returned (.int .i64 (r'.d:Nat))∧Below wx.heap.size wx w'):=hZz (fun wx hx=>HN.out q.j r' hjq hr' wx hx)
     have HNX:Hid (∀ wx,SlAt wx (some ⟨bA,off,none⟩) 4 CellD.cells l→Calls prog 113 #[.slice (some ⟨bA,off,none⟩) l.length cap,.int .i64 q.j] wx fun e w'=>e=.returned (.int .i64 (r'.j:Nat))∧Below wx.heap.size wx w'):=hZz (fun wx hx=>by
      have:=HX.out q.j (Nat.zero_le _) hql wx hx
      rw [hr'] at this;exact this)
     have h1:=had.1;have h2:=had.2;clear had hr' he hm;by_cases hgt:q.d<r'.d
     all_goals
      have hk9:(k:Int)+1≤9223372036854775807:=by omega
      go_wp2_with (first
       | (go_at_call 82;(with_reducible refine (HLV.out _ (HA.out.below HB.out)).mono ?_);rintro e w1 ⟨rfl,hb1⟩;have hy1:=zaaZ hb1 HB.out HB.out.size;have HB1:=hZz hy1;have HBX1:=hZz (HBXk.out.below hb1);clear hb1 hy1)
       | (go_at_call 113;(with_reducible refine (HNX.out _ (HA.out.below HB1.out)).mono ?_);rintro e w2 ⟨rfl,hb2⟩;have HB2:=hZz (zaaZ hb2 HB1.out HB1.out.size);have HBX2:=hZz (HBX1.out.below hb2);clear hb2))
      refine ⟨⟨k+1,⟨r'.j,max q.d (0+r'.d),q.b+r'.b⟩,by omega,by simp,?_,rfl,by show j+1≤r'.j;omega,h2,by show max q.d (0+r'.d)≤r'.j;omega,hZz (by rw [HM.out];exact HE.out),HBX2.out,HB2.out⟩,by simp [intOf];omega⟩
      show Value.int .i64 _=Value.int .i64 ((max q.d (0+r'.d):Nat):Int);congr 1
      omega
    ·have e:k=N:=by omega
     subst e
     have he:q=t:=by
      have:=HS.out
      rw [Nat.sub_self] at this;exact Option.some.inj this
     subst he;have hq1:(q.d:Int)≤1000000:=by omega
     have hq0:(0:Int)≤(q.d:Int):=by omega
     go_wp2_with (fail)
     go_returns;exact ⟨by push_cast;rfl,HB.out⟩
  ·have h6:k=6:=by omega
   obtain ⟨t,ht,hrd⟩:∃ t,pairs l (px l) 0 N none ⟨j+1,0,0⟩=some t∧r.d=t.d+1:=by
    rcases HCS.out with ⟨e,_⟩ | ⟨_,t,e1,e2⟩ | ⟨_,e,_⟩
    ·exact absurd e h5
    ·rw [hNt] at e1;exact ⟨t,e1,by rw [e2]⟩
    ·exact absurd h6 e
   subst h6;have HT:=hZz ht;have HR:=hZz hrd;have HBX:=hZz (Blk.new w 53 #[.int .i64 6,.int .i64 i,.string s,.int .i64 N]);have HB0:=hZz (zabZ w (.cells #[.int .i64 6,.int .i64 i,.string s,.int .i64 N] 53));rw [hrd];clear ht hrd hNt HCS HPB hk hn0 h5;go_enter func82,ntmps82
   go_wp2_with (fail)
   go_loopw [6,7,8] (fun mv av kv wr=>∃ (k:Nat) (q:Sh) (la:Option ByteArray),k≤N∧kv=.int .i64 k∧mv=.int .i64 q.d∧av=.int .i64 q.j∧j+1≤q.j∧q.j≤l.length∧q.d≤q.j∧Hid (pairs l (px l) 0 (N - k) la q=some t)∧Blk wr w.heap.size 53 #[.int .i64 6,.int .i64 i,.string s,.int .i64 N]∧Below w.heap.size w wr) (fun _ _ kv _=>N - (intOf kv).toNat)
   case atStart=>exact ⟨0,⟨j+1,0,0⟩,none,Nat.zero_le _,rfl,rfl,by simp,Nat.le_refl _,hjl,Nat.zero_le _,hZz HT.out,HBX.out,HB0.out⟩
   case round =>
    obtain ⟨k,q,la,hk,rfl,rfl,rfl,hjq,hql,hqd,HS,hbx,hbel⟩:=hrel;have HBXk:=hZz hbx;have HB:=hZz hbel;have b4:=blk4 hbx;clear hbx hbel;have hk0:(0:Int)≤(k:Int):=by omega
    by_cases hlt:k<N
    ·have hlt':(k:Int)<(N:Int):=by omega
     obtain ⟨m,hm⟩:∃ m,N - k=m+1:=⟨N - k - 1,by omega⟩
     have HM:Hid (N - (k+1)=m):=hZz (by omega);obtain ⟨c',r',hc',hko,hr',he⟩:=zajY (show pairs l (px l) 0 (m+1) la q=some t by rw [← hm];exact HS.out);have had:=zapY hr';have hdd:=px_d hr';have HE:=hZz he;have HLV:Hid (∀ wx,SlAt wx (some ⟨bA,off,none⟩) 4 CellD.cells l→Calls prog 82 #[.slice (some ⟨bA,off,none⟩) l.length cap,.int .i64 ((q.j:Int)+1)] wx fun e w'=>e=.returned (.int .i64 (r'.d:Nat))∧Below wx.heap.size wx w'):=hZz (fun wx hx=>by have:=HN.out (q.j+1) r' (by omega) hr' wx hx;push_cast at this;exact this)
     have HNX:Hid (∀ wx,SlAt wx (some ⟨bA,off,none⟩) 4 CellD.cells l→Calls prog 113 #[.slice (some ⟨bA,off,none⟩) l.length cap,.int .i64 ((q.j:Int)+1)] wx fun e w'=>e=.returned (.int .i64 (r'.j:Nat))∧Below wx.heap.size wx w'):=hZz (fun wx hx=>by
      have:=HX.out (q.j+1) (Nat.zero_le _) (by omega) wx hx
      rw [hr'] at this
      push_cast at this
      exact this)
     have h1:=had.1;have h2:=had.2;have hqi0:(0:Int)≤(q.j:Int):=by omega
     have hqi1:(q.j:Int)≤1000000:=by omega
     clear had hr' he hm hc' hko;by_cases hgt:q.d<r'.d
     all_goals
      have hk9:(k:Int)+1≤9223372036854775807:=by omega
      go_wp2_with (first
       | (go_at_call 82;(with_reducible refine (HLV.out _ (HA.out.below HB.out)).mono ?_);rintro e w1 ⟨rfl,hb1⟩;have hy1:=zaaZ hb1 HB.out HB.out.size;have HB1:=hZz hy1;have HBX1:=hZz (HBXk.out.below hb1);clear hb1 hy1)
       | (go_at_call 113;(with_reducible refine (HNX.out _ (HA.out.below HB1.out)).mono ?_);rintro e w2 ⟨rfl,hb2⟩;have HB2:=hZz (zaaZ hb2 HB1.out HB1.out.size);have HBX2:=hZz (HBX1.out.below hb2);clear hb2))
      refine ⟨⟨k+1,⟨r'.j,max q.d (0+r'.d),q.b+(quotedN c'.str+1)+r'.b⟩,some c'.str,by omega,by simp,?_,rfl,by show j+1≤r'.j;omega,h2,by show max q.d (0+r'.d)≤r'.j;omega,hZz (by rw [HM.out];exact HE.out),HBX2.out,HB2.out⟩,by simp [intOf];omega⟩
      show Value.int .i64 _=Value.int .i64 ((max q.d (0+r'.d):Nat):Int);congr 1
      omega
    ·have e:k=N:=by omega
     subst e
     have he:q=t:=by
      have:=HS.out
      rw [Nat.sub_self] at this;exact Option.some.inj this
     subst he;have hq1:(q.d:Int)≤1000000:=by omega
     have hq0:(0:Int)≤(q.d:Int):=by omega
     go_wp2_with (fail)
     go_returns;exact ⟨by push_cast;rfl,HB.out⟩
 ·have h5:¬ k=5:=fun e=>hk (.inl e)
  have h6:¬ k=6:=fun e=>hk (.inr e)
  have hd:r=⟨j+1,1,sizeN ⟨k,i,s,n⟩⟩:=by
   rcases HCS.out with ⟨e,_⟩ | ⟨e,_⟩ | ⟨_,_,e⟩
   ·exact absurd e h5
   ·exact absurd e h6
   ·exact e
  subst hd;have h5':(k != 5)=true:=by simpa using h5
  have h6':(k != 6)=true:=by simpa using h6
  clear hk HCS;go_enter func82,ntmps82
  go_wp2_with (fail)
  go_returns;exact ⟨rfl,zabZ w _⟩
theorem levels_from (l:List CellD) (A:Option Addr) (cap:Nat) (hl:l.length≤1000000) (hok:∀ c∈l,okC6 c):∀ n a,l.length - a<n→LevelsFrom l A cap a
 | 0,a,h=>fun j r h1 hr=>by omega
 | n+1,a,h=>fun j r h1 hr wx hx=>levels_at l A cap hl hok j r hr (fun j' r' hj' hr'=>by
   have:=zapY hr'
   exact levels_from l A cap hl hok n (j+1) (by omega) j' r' hj' hr') wx hx
end
def escB (b:UInt8):Bool:=decide (b=34) || decide (b=92)
def escN (s:ByteArray) (k:Nat):Nat:=k+(s.data.toList.take k).countP escB
theorem count_esc (l:List UInt8):l.countP escB=l.count 34+l.count 92:=by
 induction l with
 | nil=>rfl
 | cons a l ih =>
  rw [List.countP_cons,List.count_cons,List.count_cons,ih];by_cases h1:a=34
  ·subst h1;simp [escB];omega
  ·by_cases h2:a=92
   ·subst h2;simp [escB];omega
   ·simp [escB,h1,h2]
theorem escN_all (s:ByteArray):(escN s s.size:Int)+2=quotedN s:=by
 unfold escN quotedN;rw [List.take_of_length_le (by simp),count_esc];omega
theorem escN_succ (s:ByteArray) (k:Nat) (h:k<s.size):escN s (k+1)=escN s k+1+(if escB s[k] then 1 else 0):=by
 unfold escN;rw [List.take_add_one,List.countP_append]
 have:s.data.toList[k]? = some s[k]:=by
  rw [List.getElem?_eq_getElem (by simpa using h)];rfl
 rw [this];simp [List.countP_cons]
 omega
theorem escN_le (s:ByteArray) (k:Nat):escN s k≤2 * k:=by
 unfold escN;have h1:=List.countP_le_length (p:=escB) (l:=s.data.toList.take k);simp at h1
 omega
theorem ne_byte {a b:UInt8} (h:¬ a=b):¬ ((a.toNat:Int)=(b.toNat:Int)):=fun e=>h (UInt8.toNat_inj.mp (by omega))
set_option maxHeartbeats 2000000 in
theorem quoted6_any (s:ByteArray) (w:World) (hs:s.size≤4294967296) :
  Calls prog 136 #[.string s] w fun e w'=>∃ t:ByteArray,e=.returned (.string t)∧(t.size:Int)=quotedN s∧w'=w:=by
 have HQ:=hZz (escN_all s);go_enter func136,ntmps136
 go_wp2
 go_loop [3,4] (fun o i=>∃ (k:Nat) (t:ByteArray),k≤s.size∧o=.string t∧i=.int .i64 k∧Hid (t.size=1+escN s k)) (fun o i=>s.size - (intOf i).toNat)
 case atStart=>exact ⟨0,_,Nat.zero_le _,rfl,rfl,hZz rfl⟩
 case round =>
  obtain ⟨k,t,hk,rfl,rfl,HT⟩:=hrel;have hk0:(0:Int)≤(k:Int):=by omega
  by_cases hlt:k<s.size
  ·have hlt':(k:Int)<(s.size:Int):=by omega
   have HS:=hZz (escN_succ s k hlt);have HL:=hZz (escN_le s k);have ht:t.size≤1+2 * k:=by have:=HT.out;have:=HL.out;omega
   have hb1:¬ 9223372036854775807<t.size+1:=by omega
   have hb2:¬ 9223372036854775807<t.size+1+(min (k+1) s.size - k):=by omega
   have hb3:¬ 9223372036854775807<t.size+(min (k+1) s.size - k):=by omega
   clear ht;by_cases h34:s[k]=34
   ·go_wp2_with (fail)
    refine ⟨⟨k+1,_,by omega,rfl,by simp,hZz ?_⟩,by simp [intOf];omega⟩
    have:=HT.out
    rw [HS.out,h34];have e1:(⟨#[92]⟩:ByteArray).size=1:=rfl;simp [escB,e1]
    omega
   ·by_cases h92:s[k]=92
    ·go_wp2_with (fail)
     refine ⟨⟨k+1,_,by omega,rfl,by simp,hZz ?_⟩,by simp [intOf];omega⟩
     have:=HT.out
     rw [HS.out,h92];have e1:(⟨#[92]⟩:ByteArray).size=1:=rfl;simp [escB,e1]
     omega
    ·have g34:((s[k].toNat:Int) == 34)=false:=beq_eq_false_iff_ne.mpr (ne_byte h34)
     have g92:((s[k].toNat:Int) == 92)=false:=beq_eq_false_iff_ne.mpr (ne_byte h92);go_wp2_with (fail)
     refine ⟨⟨k+1,_,by omega,rfl,by simp,hZz ?_⟩,by simp [intOf];omega⟩
     have:=HT.out
     rw [HS.out];simp [escB,h34,h92]
     omega
  ·have e:k=s.size:=by omega
   subst e;have ht:t.size≤1+2 * s.size:=by have:=HT.out;have:=escN_le s s.size;omega
   have hb1:¬ 9223372036854775807<t.size+1:=by omega
   clear ht;go_wp2
   go_ret;exact ⟨_,rfl,by rw [← HQ.out];have:=HT.out;have e1:(⟨#[34]⟩:ByteArray).size=1:=rfl;simp [e1];omega,rfl⟩
section
def TextPost (w:World) (n:Int) (e:Ending) (w':World):Prop:=∃ t:ByteArray,e=.returned (.string t)∧(t.size:Int)=n∧Below w.heap.size w w'
def TextFrom (l:List CellD) (A:Option Addr) (cap a:Nat):Prop:=∀ j r,a≤j→px l j=some r→∀ wx,Pow wx→SlAt wx A 4 CellD.cells l→Calls prog 83 #[.slice A l.length cap,.int .i64 j] wx (TextPost wx r.b)
def okI (c:CellD):Prop:=-9223372036854775808≤c.int∧c.int≤9223372036854775807
attribute [local go_sem] zacZ
set_option maxHeartbeats 4000000 in
theorem text_leaf (l:List CellD) (A:Option Addr) (cap:Nat) (hl:l.length≤1000000) (hok:∀ c∈l,okC6 c) (hi:∀ c∈l,okI c) (j:Nat) (c:CellD) (hcl:l[j]? = some c) (hpb:plainB c=true) (hk5:c.kind≠5) (hk6:c.kind≠6) (w:World) (hp:Pow w) (h:SlAt w A 4 CellD.cells l) :
  Calls prog 83 #[.slice A l.length cap,.int .i64 j] w (TextPost w (sizeN c)):=by
 obtain ⟨P,hP⟩:∃ P,TextPost w (sizeN c)=P:=⟨_,rfl⟩
 rw [hP];have HP:=hZz hP;have hjl:j<l.length:=(List.getElem?_eq_some_iff.mp hcl).1;have hc:l[j]=c:=(List.getElem?_eq_some_iff.mp hcl).2;have hji:(j:Int)<(l.length:Int):=by omega
 have hj0:(0:Int)≤(j:Int):=by omega
 have hck:=hok c (hc ▸ List.getElem_mem hjl);have hci:=hi c (hc ▸ List.getElem_mem hjl);obtain ⟨bA,off,rfl,_⟩:=h.ptr hjl;have c0:=h.cell0 hjl (v:=.int .i64 c.kind) (by rw [hc];rfl);have c1:=h.cell hjl (j:=1) (v:=.int .i64 c.int) (by rw [hc];rfl);have c2:=h.cell hjl (j:=2) (v:=.string c.str) (by rw [hc];rfl);have c3:=h.cell hjl (j:=3) (v:=.int .i64 c.n) (by rw [hc];rfl);have hk:=zb4Y hpb;have HB:=hZz hpb;have hb0:=zabZ w (.cells #[.int .i64 c.kind,.int .i64 c.int,.string c.str,.int .i64 c.n] 53);have HB0:=hZz hb0;have HF:=hZz (Tryz.strconv_Itoa c.int hci.1 hci.2 _ (hp.below hb0));have HQ:=hZz (quoted6_any c.str (w.alloc (.cells #[.int .i64 c.kind,.int .i64 c.int,.string c.str,.int .i64 c.n] 53)) hck.1);clear hP hp hb0 hok hi h hck hci hcl hpb hc;obtain ⟨k,i,s,n⟩:=c;dsimp only at c0 c1 c2 c3 hk HF HQ HB0 hk5 hk6;rcases hk with rfl | rfl | rfl | rfl | rfl | rfl
 ·go_enter func83,ntmps83
  go_wp2_with (fail)
  rw [← HP.out];exact ⟨_,rfl,rfl,HB0.out⟩
 ·have hi2:i=0∨i=1:=by
   have:=HB.out
   simp [plainB] at this
   exact this.1
  rcases hi2 with rfl | rfl
  ·go_enter func83,ntmps83
   go_wp2_with (fail)
   rw [← HP.out];exact ⟨_,rfl,rfl,HB0.out⟩
  ·go_enter func83,ntmps83
   go_wp2_with (fail)
   rw [← HP.out];exact ⟨_,rfl,rfl,HB0.out⟩
 ·go_enter func83,ntmps83
  go_wp2_with (first
   | (go_at_call 135;(with_reducible refine HF.out.mono ?_);rintro e w1 ⟨rfl,kk,os,hw1⟩;have HW:=hZz hw1;clear hw1))
  rw [← HP.out];exact ⟨_,rfl,by simp [sizeN,itoaLen,ByteArray.size],zadZ (by rw [HW.out];exact zdaY _ kk os) HB0.out⟩
 ·go_enter func83,ntmps83
  go_wp2_with (first
   | (go_at_call 136;(with_reducible refine HQ.out.mono ?_);rintro e w1 ⟨tx,rfl,htx,hw1⟩;rw [hw1];clear hw1 w1;have HTX:=hZz htx;clear htx))
  rw [← HP.out];exact ⟨_,rfl,HTX.out,HB0.out⟩
 ·exact absurd rfl hk5
 ·exact absurd rfl hk6
end
end Go.Proofs.YtekdhlfapejijaaGreatDoor
