/- L7 -/
import Derived.Test.YthiimbhjpdphpaaGreatDoorPGL6
set_option linter.unusedVariables false
set_option linter.unusedSimpArgs false
namespace Go.Proofs.YthiimbhjpdphpaaGreatDoor
open Go.RowKit
set_option maxRecDepth 100000
set_option maxHeartbeats 8000000
open Go.Proofs.Tryz
attribute [local go_sem] zabZ zavY
def TokOk (s:ByteArray) (cs:List Value):Prop:=∃ (k:Int) (t:ByteArray) (i a:Int),cs=[.int .i64 k,.string t,.int .i64 i,.int .i64 a]∧(k=1→t=s→NameOk s)∧(NameOk s→k=1∧t=s)
def TokensP (s:ByteArray) (w':World) (e:Ending):Prop:=∃ (v:Value) (A:Option Addr) (n cap:Nat) (a k:Int),e=.returned (.tuple #[v,.int .i64 a,.int .i64 k])∧v=.slice A n cap∧(k=0→n=1→∃ g c0 c1 c2 c3,A=some ⟨g,0,none⟩∧w'.cell? ⟨g,0,none⟩=some c0∧w'.cell? ⟨g,1,none⟩=some c1∧TokOk s [c0,c1,c2,c3])∧(NameOk s→k=0∧n=1)
theorem tok_ok {s t:ByteArray} {at_ n:Nat} (h0:0<s.size) (ha:at_<s.size) (hn:n≤s.size - at_) (ht:t=(s.extract at_ s.size).extract 0 n) (hr:RunAt (s.extract at_ s.size) n) (h24:n≤24) (hk:kwB t=false) (e:t=s):NameOk s:=by
 have hs:t.size=n:=by rw [ht];simp;omega
 rw [e] at hs;have ha0:at_=0:=by omega
 subst ha0;rw [zawY] at hr;exact ⟨(hr.whole h0).1 hs.symm,by omega,by rw [← e];exact hk⟩
theorem own_tok {w:World} {base n cap:Nat} {s:ByteArray} {A:Option Addr} {cs:List Value} (h:w.ownsRow base 184 4 (.slice A n cap) n cs) (hn:n=1) (hc:TokOk s cs):∃ g c0 c1 c2 c3,A=some ⟨g,0,none⟩∧w.cell? ⟨g,0,none⟩=some c0∧w.cell? ⟨g,1,none⟩=some c1∧TokOk s [c0,c1,c2,c3]:=by
 subst hn;obtain ⟨k,t,i,a,rfl,h1,h2⟩:=hc;obtain ⟨g,cap',e,_,q0,q1⟩:=one_own h;injection e with e1 _ _
 exact ⟨g,_,_,.int .i64 i,.int .i64 a,e1,q0,q1,⟨k,t,i,a,rfl,h1,h2⟩⟩
theorem tokens_any (s:ByteArray) (w:World) (hs:s.size≤4000) (hv:Sent w):Calls prog 141 #[.string s] w fun e w'=>TokensP s w' e∧Below w.heap.size w w':=by
 obtain ⟨i0,hi,hz0,hz1,hz2⟩:=info_parts Tryz.infoTok;have hs9:(s.size:Int)≤4000:=by omega
 obtain ⟨P,hP⟩:∃ P:Ending→World→Prop,(fun e w'=>TokensP s w' e∧Below w.heap.size w w')=P:=⟨_,rfl⟩
 rw [hP];have HP:=hZz hP;have HV:=hZz hv;clear hP hv;go_enter func141,ntmps141
 go_wp2_with (first
  | (go_at_call 179;(with_reducible refine (skip_any _ _ (by omega)).mono ?_);rintro e w1 ⟨⟨n1,rfl,hn1,hn2⟩,hb1⟩;have HB1:=hZz hb1;have HN2:Hid (NameOk s→n1=0):=hZz (fun h=>hn2 ⟨h.1.1,h.1.2.1 h.1.1⟩);clear hb1 hn2))
 go_loopw [5,6] (fun ov av wr=>∃ (n at_:Nat) (cs:List Value),n≤1000∧at_≤s.size∧av=.int .i64 at_∧Hid (wr.ownsRow w.heap.size 184 4 ov n cs)∧Hid (n=1→TokOk s cs)∧Hid (NameOk s→(n=0∧at_=0)∨(n=1∧at_=s.size))∧Below w.heap.size w wr) (fun _ av _=>s.size - (intOf av).toNat)
 case atStart=>exact ⟨0,n1,[],Nat.zero_le _,hn1,rfl,hZz (World.ownsRow_nil _ _ _ _),hZz (fun h=>by omega),hZz (fun h=>.inl ⟨rfl,HN2.out h⟩),HB1.out⟩
 case round =>
  obtain ⟨n,at_,cs,hn,hat,rfl,HO,HTK,HNM,hbel⟩:=hrel;have HB:=hZz hbel;clear hbel HB1 HN2 hn1;obtain ⟨oA,ocap,hov⟩:=zajZ HO.out;subst hov;have hk0:(0:Int)≤(at_:Int):=by omega
  have hn0:(0:Int)≤(n:Int):=by omega
  have hat':(at_:Int)≤(s.size:Int):=by omega
  by_cases hlt:at_<s.size
  ·have hlt':(at_:Int)<(s.size:Int):=by omega
   have HNM':Hid (NameOk s→n=0∧at_=0):=hZz (fun h=>by rcases HNM.out h with h | h <;> omega);by_cases hf:n=1000
   ·subst hf
    go_wp2_with (fail)
    rw [← HP.out];exact ⟨⟨_,none,0,0,at_,3,rfl,rfl,fun h=>by omega,fun h=>by have:=HNM'.out h;omega⟩,HB.out⟩
   ·have hf':((n:Int) == 1000)=false:=by simp;omega
    have hn3:n+1≤1000:=by omega
    clear hf;obtain ⟨X,hX⟩:∃ X,s.extract at_ s.size=X:=⟨_,rfl⟩
    have hXs:X.size=s.size - at_:=by rw [← hX];simp
    have HX:=hZz hX;have HXS:=hZz hXs;have HVR:=hZz (HV.out.below HB.out);clear hX hXs
    go_wp2_with (first
     | (go_at_call 180;rw [HX.out];(with_reducible refine (token_any X _ (by have:=HXS.out;omega) (by have:=HXS.out;omega) HVR.out).mono ?_);rintro e w2 ⟨⟨kind,t,i,m,k,rfl,hm,hk1,hk2⟩,hb2⟩;have HB2:=hZz (zaaZ hb2 HB.out HB.out.size);have HO2:=hZz (zagZ HO.out hb2);have HK1:=hZz hk1;have HK2:=hZz hk2;have hm3:(m:Int)≤(s.size:Int) - at_:=(by have:=HXS.out;omega);have hm0:(0:Int)≤(m:Int):=(by omega);have hsz2:w.heap.size≤(w2.alloc (.cells #[.int .i64 kind,.string t,.int .i64 i,.int .i64 at_] 184)).heap.size:=Nat.le_trans HB2.out.size (by simp);clear hb2 hk1 hk2)
     | (at_builtin;refine zafY rfl (.tmp 45) (.tmp 47) 179 rfl i0 _ 40 underlying179 hi hz0 hz1 hz2 rfl (by omega) rfl (zagZ HO2.out (zacZ w2 (.cells #[.int .i64 kind,.string t,.int .i64 i,.int .i64 at_] 184))) [.int .i64 kind,.string t,.int .i64 i,.int .i64 at_] (by simp [go_sem]) rfl (by simp [Value.oneCell']) (by omega) (by omega) hsz2 ?_;intro v' w3 hown3 hb3 hs3 hg3;have HO3:=hZz hown3;have HB3:=hZz ((HB2.out.alloc HB2.out.size _).trans hb3);have ham0:(0:Int)≤(at_:Int)+m:=(by omega);have ham1:(at_:Int)+m≤(s.size:Int):=(by omega);clear hown3 hb3 hs3 hg3)
     | (go_at_call 179;(with_reducible refine (skip_any _ _ (by simp;omega)).mono ?_);rintro e w4 ⟨⟨n4,rfl,hn4,hn5⟩,hb4⟩;have HB4:=hZz (zaaZ hb4 HB3.out HB3.out.size);have HO4:=hZz (zagZ HO3.out hb4);have HN4:=hZz hn4;have hn6:(n4:Int)≤(s.size:Int) - (at_+m):=(by simp at hn4;omega);have hn7:(0:Int)≤(n4:Int):=(by omega);clear hb4 hn5 hn4))
    ·rw [← HP.out]
     have hk:¬ k=0:=by simp_all
     refine ⟨⟨_,none,0,0,at_+m,k,rfl,rfl,fun h=>absurd h hk,fun h=>?_⟩,HB2.out.alloc HB2.out.size _⟩
     obtain ⟨_,ha⟩:=HNM'.out h;subst ha;have e:=HX.out;rw [zawY] at e;rw [← e] at HK2;exact absurd (HK2.out h).1 hk
    ·have hk:k=0:=by simp_all
     obtain ⟨hp,hkk⟩:=HK1.out hk;refine ⟨⟨n+1,at_+m+n4,cs ++ [.int .i64 kind,.string t,.int .i64 i,.int .i64 at_],hn3,by omega,by push_cast;rfl,HO4,hZz (fun h1=>?_),hZz (fun h=>?_),HB4.out⟩,by simp [intOf];omega⟩
     ·have hn0:n=0:=by omega
      have hcs:cs=[]:=by
       have:=HO.out.1
       rw [hn0] at this;exact List.eq_nil_of_length_eq_zero (by simpa using this)
      rw [hcs];refine ⟨kind,t,i,at_,rfl,fun h1 h2=>?_,fun h=>?_⟩
      ·obtain ⟨a1,a2,a3,a4⟩:=hkk h1
       rw [← HX.out] at a1 a2;exact tok_ok (by omega) hlt (by have:=HXS.out;omega) a1 a2 a3 a4 h2
      ·obtain ⟨_,ha⟩:=HNM'.out h
       subst ha;have e:=HX.out;rw [zawY] at e;rw [← e] at HK2;exact ⟨(HK2.out h).2.1,(HK2.out h).2.2.1⟩
     ·obtain ⟨h1,ha⟩:=HNM'.out h
      subst ha;have e:=HX.out;rw [zawY] at e;rw [← e] at HK2
      have:=(HK2.out h).2.2.2
      exact .inr ⟨by omega,by omega⟩
  ·have e:at_=s.size:=by omega
   subst e;go_wp2_with (fail)
   rw [← HP.out];exact ⟨⟨_,oA,n,ocap,0,0,rfl,rfl,fun _ h1=>own_tok HO.out h1 (HTK.out h1),fun h=>⟨rfl,by rcases HNM.out h with h1 | h1;(have:=h.1.1;omega);exact h1.1⟩⟩,HB.out⟩
set_option maxHeartbeats 2000000 in
theorem name_any (s:ByteArray) (w:World) (hs:s.size≤4000) (hv:Sent w):Calls prog 93 #[.string s] w fun e w'=>(∃ b,e=.returned (.bool b)∧(b=true↔NameOk s))∧Below w.heap.size w w':=by
 have HC:=hZz (tokens_any s w hs hv);clear hv;obtain ⟨P,hP⟩:∃ P:Ending→World→Prop,(fun e w'=>(∃ b,e=.returned (.bool b)∧(b=true↔NameOk s))∧Below w.heap.size w w')=P:=⟨_,rfl⟩
 rw [hP];have HP:=hZz hP;clear hP;go_enter func93,ntmps93
 go_upto_region 2 with (first
  | (go_at_call 141;(with_reducible refine HC.out.mono ?_);rintro e w1 ⟨⟨v,A,n,cap,a,k,rfl,rfl,h1,h2⟩,hb1⟩;have HB1:=hZz hb1;have H1:=hZz h1;have H2:=hZz h2;clear hb1 h1 h2))
 by_cases hk:k=0
 ·subst hk
  by_cases hn:n=1
  ·subst hn
   obtain ⟨g,c0,c1,c2,c3,rfl,q0,q1,kind,t,i,aa,hc,h3,h4⟩:=H1.out rfl rfl;injection hc with e0 hc
   injection hc with e1 hc
   subst e0 e1;have H3:=hZz h3;have H4:=hZz h4;clear h3 h4 hc H1;by_cases hkd:kind=1
   ·subst hkd
    cases ht:(t.toList == s.toList) with
    | true =>
     go_wp2_with (fail)
     rw [← HP.out]
     have e:t=s:=by
      have:=eq_of_beq ht
      rw [Lib.toList_data,Lib.toList_data] at this;exact ByteArray.ext (Array.ext' this)
     exact ⟨⟨true,rfl,by simp;exact H3.out (by trivial) e⟩,HB1.out⟩
    | false =>
     go_wp2_with (fail)
     rw [← HP.out];refine ⟨⟨false,rfl,by simp;intro h;have:=(H4.out h).2;rw [this] at ht;simp at ht⟩,HB1.out⟩
   ·have hkd':(kind == 1)=false:=by simpa using hkd
    go_wp2_with (fail)
    rw [← HP.out];exact ⟨⟨false,rfl,by simp;intro h;exact hkd (H4.out h).1⟩,HB1.out⟩
  ·have hn':((n:Int) == 1)=false:=by simp;omega
   go_wp2_with (fail)
   rw [← HP.out];exact ⟨⟨false,rfl,by simp;intro h;exact hn (H2.out h).2⟩,HB1.out⟩
 ·have hk':(k == 0)=false:=by simpa using hk
  go_wp2_with (fail)
  rw [← HP.out];exact ⟨⟨false,rfl,by simp;intro h;exact hk (H2.out h).1⟩,HB1.out⟩
end Go.Proofs.YthiimbhjpdphpaaGreatDoor
