/- AK8 -/
import Derived.Test.YtekdhlfapejijaaGreatDoorPJK
import Derived.Test.YtekdhlfapejijaaGreatDoorPRO24
set_option linter.unusedVariables false
set_option linter.unusedSimpArgs false
namespace Go.Proofs.YtekdhlfapejijaaGreatDoor
open Go.RowKit
set_option maxRecDepth 100000
open Go.Proofs.Tryz
theorem retS3 {w w':World} {r:ResD} {e:Ending} (h:RetR w [] r e w'):∃ A n c,e=.returned (.tuple #[.slice A n c,.int .i64 r.2])∧ValV w' (.slice A n c) r.1∧Below w.heap.size w w':=by
 obtain ⟨u,rfl,hv,_,hb⟩:=h;obtain ⟨A,n,c,rfl⟩:=hv.shape;exact ⟨A,n,c,rfl,hv,hb⟩
abbrev CelI:Prop:=∀ (l:ValD) (va vb:Value) (wx:World),ValV wx va l→ValV wx vb l→Calls prog 15 #[va,vb] wx fun e w'=>e=.returned (.bool true)∧Below wx.heap.size wx w'
theorem celI:CelI:=fun l va vb wx h1 h2=>(cells_any l l va vb wx h1 h2).mono fun e w' ⟨h,q,hq⟩=>⟨by rw [h];simp [eqV],by rw [hq];exact zaqZ (Below.refl _ _) _⟩
theorem retV3 {w w':World} {r:ResD} {e:Ending} (h:RetV w r e w'):∃ A n c,e=.returned (.tuple #[.slice A n c,.int .i64 r.2])∧ValV w' (.slice A n c) r.1∧Below w.heap.size w w':=by
 obtain ⟨u,rfl,hv,hb⟩:=h;obtain ⟨A,n,c,rfl⟩:=hv.shape;exact ⟨A,n,c,rfl,hv,hb⟩
attribute [local go_sem] zacZ
set_option maxHeartbeats 16000000 in
theorem functions_h (name:ByteArray) (args:List ValD) (a b:ValD) (vs va vb:Value) (w:World) (hp:Pow w) (hse:Sent w) (hg:ValsV w vs args) (ha:ValV w va a) (hb:ValV w vb b) (hsg:∀ x∈args,∀ c∈x,c.str.size≤140737488351232∧IntOk c) (hsa:∀ c∈a,c.str.size≤140737488351232∧IntOk c) (hsb:∀ c∈b,c.str.size≤140737488351232∧IntOk c)
  (hA:∀ wx,Below w.heap.size w wx→Calls prog 10 #[] wx fun r w'=>r=.returned (.bool true)∧Below wx.heap.size wx w') :
  Calls prog 4 #[.string name,vs,va,vb] w fun r w'=>r=.returned (.bool true)∧Below w.heap.size w w':=by
 obtain ⟨P,hP⟩:∃ P:Ending→World→Prop,(fun e w'=>e=.returned (.bool true)∧Below w.heap.size w w')=P:=⟨_,rfl⟩
 rw [hP];have HP:Hid (∀ w',Below w.heap.size w w'→P (.returned (.bool true)) w'):=hZz (fun w' h2=>by rw [← hP];exact ⟨rfl,h2⟩);obtain ⟨A,n,c,rfl⟩:=ha.shape;obtain ⟨B,m,d,rfl⟩:=hb.shape;have hg0:=hg;obtain ⟨G,cap,us,rfl,hc,hm,hs,hla,hva⟩:=hg.at;have HA:=hZz (hA w (Below.refl _ _));have HAX:=hZz hA;have HB0:=hZz (Below.refl w.heap.size w);obtain ⟨ta,hta⟩:∃ t,smallB a=t:=⟨_,rfl⟩
 obtain ⟨tb,htb⟩:∃ t,smallB b=t:=⟨_,rfl⟩
 have HSA:Hid (Calls prog 9 #[.slice A n c] w fun e w'=>e=.returned (.bool ta)∧w'=w):=hZz (by rw [← hta];exact small_any a _ w ha (fun c hc=>(hsa c hc).1));have HSB:Hid (Calls prog 9 #[.slice B m d] w fun e w'=>e=.returned (.bool tb)∧w'=w):=hZz (by rw [← htb];exact small_any b _ w hb (fun c hc=>(hsb c hc).1))
 have HSK:Hid (∀ (j:Nat) (u:Value) (h1:j<us.length) (h2:j<args.length),us[j]=u→Calls prog 9 #[u] w fun e w'=>e=.returned (.bool (smallB args[j]))∧w'=w):=hZz (fun j u h1 h2 e=>by
  subst e;exact small_any args[j] _ w (hva j h1 h2) (fun c hc=>(hsg _ (List.getElem_mem h2) c hc).1))
 obtain ⟨⟨u1,u2⟩,hu⟩:∃ r,builtinR name args=r:=⟨_,rfl⟩
 obtain ⟨⟨x1,x2⟩,hx⟩:∃ r,indexR a b=r:=⟨_,rfl⟩
 have HU:Hid ((∀ x∈args,smallB x=true)→Calls prog 16 #[.string name,.slice G args.length cap] w fun e w'=>∃ A n c,e=.returned (.tuple #[.slice A n c,.int .i64 u2])∧ValV w' (.slice A n c) u1∧Below w.heap.size w w'):=hZz (fun h=>(builtin_any name args _ w hg0 hp hse (fun x hx=>zbrY (h x hx) (fun c hc=>(hsg x hx c hc).2))).mono fun e w' h=>by rw [hu] at h;exact retS3 h);have HV:Hid ((∀ x∈args,smallB x=true)→∀ wx,Below w.heap.size w wx→Calls prog 17 #[.string name,.slice G args.length cap] wx fun e w'=>∃ A n c,e=.returned (.tuple #[.slice A n c,.int .i64 u2])∧ValV w' (.slice A n c) u1∧Below wx.heap.size wx w'):=hZz (fun h wx hbx=>(fbuiltin_any name args _ wx (hg0.below hbx) (hp.below hbx) (fun x hx=>zbrY (h x hx) (fun c hc=>(hsg x hx c hc).2))).mono fun e w' h=>by rw [hu] at h;exact retV3 h)
 have HX:Hid (ta=true→tb=true→∀ wx,Below w.heap.size w wx→Calls prog 18 #[.slice A n c,.slice B m d] wx fun e w'=>∃ A n c,e=.returned (.tuple #[.slice A n c,.int .i64 x2])∧ValV w' (.slice A n c) x1∧Below wx.heap.size wx w'):=hZz (fun h h' wx hbx=>(index_any a b _ _ wx (ha.below hbx) (hb.below hbx) (hp.below hbx) (zbrY (hta.trans h) (fun c hc=>(hsa c hc).2)) (zbrY (htb.trans h') (fun c hc=>(hsb c hc).2))).mono fun e w' h=>by
  rw [hx] at h;obtain ⟨u,rfl,hv,hb⟩:=h;obtain ⟨A,n,c,rfl⟩:=hv.1.shape;exact ⟨A,n,c,rfl,hv.1,hb⟩)
 have HY:Hid (ta=true→tb=true→∀ wx,Below w.heap.size w wx→Calls prog 19 #[.slice A n c,.slice B m d] wx fun e w'=>∃ A n c,e=.returned (.tuple #[.slice A n c,.int .i64 x2])∧ValV w' (.slice A n c) x1∧Below wx.heap.size wx w'):=hZz (fun h h' wx hbx=>(findex_any a b _ _ wx (ha.below hbx) (hb.below hbx) (hp.below hbx) (zbrY (hta.trans h) (fun c hc=>(hsa c hc).2)) (zbrY (htb.trans h') (fun c hc=>(hsb c hc).2))).mono fun e w' h=>by rw [hx] at h;exact retV3 h);have HC:=hZz celI;have HS:=hZz hs;have HLA:=hZz hla;obtain ⟨N,hN⟩:∃ t,args.length=t:=⟨_,rfl⟩
 have HN:=hZz hN;rw [hN] at HU HV hm ⊢;clear hP hp hse hg hg0 ha hb hsg hsa hsb hA hta htb hu hx hc hs hla hva hN;go_enter func4,ntmps4
 by_cases h5:(5:Int)<(N:Int)
 ·go_wp2_with (first
   | (go_at_call 10;(with_reducible refine HA.out.mono ?_);rintro r w1 ⟨rfl,hb1⟩;have HB1:=hZz hb1;clear hb1))
  exact HP.out _ HB1.out
 cases ta with
 | false =>
  go_wp2_with (first
   | (go_at_call 9;(with_reducible refine HSA.out.mono ?_);rintro e2 W2 ⟨rfl,hw2⟩;rw [hw2];clear hw2 W2)
   | (go_at_call 10;(with_reducible refine HA.out.mono ?_);rintro r w1 ⟨rfl,hb1⟩;have HB1:=hZz hb1;clear hb1))
  exact HP.out _ HB1.out
 | true =>
  cases tb with
  | false =>
   go_wp2_with (first
    | (go_at_call 9;(with_reducible refine HSA.out.mono ?_);rintro e2 W2 ⟨rfl,hw2⟩;rw [hw2];clear hw2 W2)
    | (go_at_call 9;(with_reducible refine HSB.out.mono ?_);rintro e2 W2 ⟨rfl,hw2⟩;rw [hw2];clear hw2 W2)
    | (go_at_call 10;(with_reducible refine HA.out.mono ?_);rintro r w1 ⟨rfl,hb1⟩;have HB1:=hZz hb1;clear hb1))
   exact HP.out _ HB1.out
  | true =>
   have HX9:=hZz (HX.out rfl rfl);have HY9:=hZz (HY.out rfl rfl);clear HX HY
   go_wp2_with (first
    | (go_at_call 9;(with_reducible refine HSA.out.mono ?_);rintro e2 W2 ⟨rfl,hw2⟩;rw [hw2];clear hw2 W2)
    | (go_at_call 9;(with_reducible refine HSB.out.mono ?_);rintro e2 W2 ⟨rfl,hw2⟩;rw [hw2];clear hw2 W2))
   clear HSA HSB;go_loopw [9,34] (fun _ i wr=>∃ K:Nat,K≤N∧i=.int .i64 (K:Nat)∧Hid (∀ x∈args.take K,smallB x=true)∧wr=w) (fun _ i _=>N - (intOf i).toNat)
   case atStart=>exact ⟨0,Nat.zero_le _,rfl,hZz (by simp),rfl⟩
   case round =>
    obtain ⟨K,hKN,rfl,HSM,rfl⟩:=hrel;have hK0:(0:Int)≤(K:Int):=by omega
    by_cases hlt:K<N
    ·have hlt':(K:Int)<(N:Int):=by omega
     have hka:K<args.length:=by rw [HN.out];exact hlt
     have hkv:K<us.length:=by rw [HLA.out];exact hka
     obtain ⟨bA,off,rfl,hbA⟩:=HS.out.ptr hkv;have c0:=HS.out.cell0 hkv (v:=us[K]) rfl;simp only [Nat.mul_one] at c0;have HS1:=hZz (HSK.out K us[K] hkv hka rfl);obtain ⟨uu,huu⟩:∃ t,us[K]=t:=⟨_,rfl⟩
     obtain ⟨ts,hts⟩:∃ t,smallB args[K]=t:=⟨_,rfl⟩
     rw [huu] at c0 HS1;rw [hts] at HS1;cases ts with
     | false =>
      clear huu hts hkv
      go_wp2_with (first
       | (go_at_call 9;(with_reducible refine HS1.out.mono ?_);rintro e2 W2 ⟨rfl,hw2⟩;rw [hw2];clear hw2 W2)
       | (go_at_call 10;(with_reducible refine HA.out.mono ?_);rintro r w1 ⟨rfl,hb1⟩;have HB1:=hZz hb1;clear hb1))
      exact HP.out _ HB1.out
     | true =>
      have HS2:Hid (∀ x∈args.take (K+1),smallB x=true):=hZz (by
       rw [List.take_succ_eq_append_getElem hka];intro x hx;rcases List.mem_append.1 hx with hx | hx
       ·exact HSM.out x hx
       ·have:x=args[K]:=by simpa using hx
        rw [this,hts])
      clear huu hts hkv
      go_wp2_with (first
       | (go_at_call 9;(with_reducible refine HS1.out.mono ?_);rintro e2 W2 ⟨rfl,hw2⟩;rw [hw2];clear hw2 W2))
      exact ⟨⟨K+1,hlt,by simp,HS2,by trivial⟩,by simp [intOf];omega⟩
    ·have ek:K=N:=by omega
     subst ek;have hall:∀ x∈args,smallB x=true:=by have:=HSM.out;rwa [List.take_of_length_le (by rw [HN.out];exact Nat.le_refl _)] at this
     have HU9:=hZz (HU.out hall);have HV9:=hZz (HV.out hall);clear HU HV hlt hall HSM HSK
     go_wp2_with (first
      | (go_at_call 16;(with_reducible refine HU9.out.mono ?_);rintro r w1 ⟨A1,z1,c1,rfl,hv,hb⟩;have HV1:=hZz hv;have HB1:=hZz hb;clear hv hb)
      | (go_at_call 17;(with_reducible refine (HV9.out _ HB1.out).mono ?_);rintro r w2 ⟨A2,z2,c2,rfl,hv,hb⟩;have HV2:=hZz hv;have HS2:=hZz hb;have HB2:=hZz (zaaZ hb HB1.out HB1.out.size);clear hv hb)
      | (go_at_call 18;(with_reducible refine (HX9.out _ HB2.out).mono ?_);rintro r w3 ⟨A3,z3,c3,rfl,hv,hb⟩;have HV3:=hZz hv;have HS3:=hZz hb;have HB3:=hZz (zaaZ hb HB2.out HB2.out.size);clear hv hb)
      | (go_at_call 19;(with_reducible refine (HY9.out _ HB3.out).mono ?_);rintro r w4 ⟨A4,z4,c4,rfl,hv,hb⟩;have HV4:=hZz hv;have HS4:=hZz hb;have HB4:=hZz (zaaZ hb HB3.out HB3.out.size);clear hv hb)
      | (go_at_call 15;(with_reducible refine (HC.out u1 _ _ _ (HV1.out.below (zaaZ HS4.out (zaaZ HS3.out HS2.out HS2.out.size) (Nat.le_trans HS2.out.size HS3.out.size))) (HV2.out.below (zaaZ HS4.out HS3.out HS3.out.size))).mono ?_);rintro r w5 ⟨rfl,hb⟩;have HS5:=hZz hb;have HB5:=hZz (zaaZ hb HB4.out HB4.out.size);clear hb)
      | (go_at_call 15;(with_reducible refine (HC.out x1 _ _ _ (HV3.out.below (zaaZ HS5.out HS4.out HS4.out.size)) (HV4.out.below HS5.out)).mono ?_);rintro r w6 ⟨rfl,hb⟩;have HB6:=hZz (zaaZ hb HB5.out HB5.out.size);clear hb)
      | (go_at_call 10;(with_reducible refine (HAX.out _ HB6.out).mono ?_);rintro r w7 ⟨rfl,hb⟩;have HB7:=hZz (zaaZ hb HB6.out HB6.out.size);clear hb))
     exact HP.out _ HB7.out
end Go.Proofs.YtekdhlfapejijaaGreatDoor
