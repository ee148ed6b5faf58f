/- GQ2, GL4 -/
import Derived.Test.YthiimbhjpdphpaaGreatDoorPGL2
import Derived.Test.YthiimbhjpdphpaaGreatDoorPGR2
set_option linter.unusedVariables false
set_option linter.unusedSimpArgs false
namespace Go.Proofs.YthiimbhjpdphpaaGreatDoor
open Go.RowKit
set_option maxRecDepth 100000
set_option maxHeartbeats 8000000
open Go.Proofs.Tryz
theorem runAt_ex (s:ByteArray):∃ n,RunAt s n:=by
 have key:∀ m,m≤s.size→(∃ n,RunAt s n)∨((∀ i (h:i<s.size),i<m→wrdB s[i]=true)∧(0<m→∀ h:0<s.size,letB s[0]=true)):=by
  intro m;induction m with
  | zero=>intro _;exact .inr ⟨fun i h h2=>by omega,fun h=>by omega⟩
  | succ m ih =>
   intro hm;rcases ih (by omega) with h | ⟨h1,h2⟩
   ·exact .inl h
   ·by_cases h0:m=0
    ·subst h0
     cases hl:letB (s[0]'(by omega)) with
     | true=>exact .inr ⟨fun i h h3=>by have e:i=0:=(by omega);subst e;exact let_wrd hl,fun _ _=>hl⟩
     | false=>exact .inl ⟨0,Nat.zero_le _,fun i h h3=>by omega,fun h=>by omega,fun h=>⟨fun _=>hl,fun h=>by omega⟩⟩
    ·cases hw:wrdB (s[m]'(by omega)) with
     | true=>exact .inr ⟨fun i h h3=>by by_cases e:i=m;(subst e;exact hw);exact h1 i h (by omega),fun _ h=>h2 (by omega) h⟩
     | false=>exact .inl ⟨m,by omega,h1,h2,fun h=>⟨fun e=>absurd e h0,fun _=>hw⟩⟩
 rcases key s.size (Nat.le_refl _) with h | ⟨h1,h2⟩
 ·exact h
 ·exact ⟨s.size,Nat.le_refl _,h1,h2,fun h=>by omega⟩
set_option maxHeartbeats 1000000 in
theorem head_any (b:UInt8) (w:World):Calls prog 216 #[.int .u8 b.toNat] w fun e w'=>e=.returned (.bool (letB b))∧w'=w:=by
 obtain ⟨x,hx⟩:∃ x,letB b=x:=⟨_,rfl⟩
 have HX:=hZz hx;rw [hx];clear hx;go_enter func216,ntmps216
 go_wp2
 all_goals
  go_ret;refine ⟨?_,rfl⟩
  rw [← HX.out];unfold letB;refine congrArg (fun b=>Ending.returned (Value.bool b)) (?_:_=_)
  rw [Bool.eq_iff_iff];simp
  omega
set_option maxHeartbeats 1000000 in
theorem digit_any (b:UInt8) (w:World):Calls prog 217 #[.int .u8 b.toNat] w fun e w'=>e=.returned (.bool (digB b))∧w'=w:=by
 obtain ⟨x,hx⟩:∃ x,digB b=x:=⟨_,rfl⟩
 have HX:=hZz hx;rw [hx];clear hx;go_enter func217,ntmps217
 go_wp2
 all_goals
  go_ret;refine ⟨?_,rfl⟩
  rw [← HX.out];unfold digB;refine congrArg (fun b=>Ending.returned (Value.bool b)) (?_:_=_)
  rw [Bool.eq_iff_iff];simp
  omega
set_option maxHeartbeats 2000000 in
theorem rrun_any (s:ByteArray) (n:Nat) (w:World) (hs:s.size≤140737488351232) (hn:RunAt s n):Calls prog 181 #[.string s,.int .i64 0] w fun e w'=>e=.returned (.int .i64 n)∧w'=w:=by
 have HN:=hZz hn;clear hn;by_cases h0:s.size=0
 ·have hz:(s.size:Int)≤0:=by omega
  go_enter func181,ntmps181
  go_wp2_with (fail)
  go_returns;exact ⟨by have:=HN.out.1;have e:n=0:=(by omega);rw [e];rfl,rfl⟩
 have hp:(0:Int)<(s.size:Int):=by omega
 have hp':0<s.size:=by omega
 have hs9:(s.size:Int)≤140737488351232:=by omega
 have hpn:¬ (s.size:Int)≤0:=by omega
 have hne:¬ s=ByteArray.empty:=fun e=>h0 (by rw [e];rfl)
 clear h0;obtain ⟨lb,hlb⟩:∃ lb,letB s[0]=lb:=⟨_,rfl⟩
 have HL:=hZz hlb;have HH:Hid (∀ wx,Calls prog 216 #[.int .u8 s[0].toNat] wx fun e w'=>e=.returned (.bool lb)∧w'=wx):=hZz (fun wx=>by rw [← hlb];exact head_any _ wx);clear hlb;cases lb with
 | false =>
  go_enter func181,ntmps181
  go_wp2_with (first
   | (go_at_call 216;(with_reducible refine (HH.out _).mono ?_);rintro e w1 ⟨rfl,hw1⟩;rw [hw1];clear hw1 w1))
  go_returns;refine ⟨?_,rfl⟩
  have e:n=0:=by
   by_cases e:n=0
   ·exact e
   ·have:=HN.out.2.2.1 (by omega) hp'
    rw [HL.out] at this;cases this
  rw [e];rfl
 | true =>
  go_enter func181,ntmps181
  go_wp2_with (first
   | (go_at_call 216;(with_reducible refine (HH.out _).mono ?_);rintro e w1 ⟨rfl,hw1⟩;rw [hw1];clear hw1 w1))
  go_loop [1] (fun nv=>∃ k:Nat,k≤s.size∧nv=.int .i64 k∧Hid (∀ i (h:i<s.size),i<k→wrdB s[i]=true)) (fun nv=>s.size - (intOf nv).toNat)
  case atStart=>exact ⟨0,Nat.zero_le _,rfl,hZz (fun i h h2=>by omega)⟩
  case round =>
   obtain ⟨k,hk,rfl,HR⟩:=hrel;have hk0:(0:Int)≤(k:Int):=by omega
   by_cases hlt:k<s.size
   ·have hlt':(k:Int)<(s.size:Int):=by omega
    have hk9:(k:Int)+1≤9223372036854775807:=by omega
    obtain ⟨l2,hl2⟩:∃ lb,letB s[k]=lb:=⟨_,rfl⟩
    obtain ⟨d2,hd2⟩:∃ lb,digB s[k]=lb:=⟨_,rfl⟩
    have HL2:=hZz hl2;have HD2:=hZz hd2;have HH2:Hid (∀ wx,Calls prog 216 #[.int .u8 s[k].toNat] wx fun e w'=>e=.returned (.bool l2)∧w'=wx):=hZz (fun wx=>by rw [← hl2];exact head_any _ wx);have HG2:Hid (∀ wx,Calls prog 217 #[.int .u8 s[k].toNat] wx fun e w'=>e=.returned (.bool d2)∧w'=wx):=hZz (fun wx=>by rw [← hd2];exact digit_any _ wx);clear hl2 hd2;cases l2
    all_goals cases d2
    all_goals
     go_wp2_with (first
      | (go_at_call 216;(with_reducible refine (HH2.out _).mono ?_);rintro e w1 ⟨rfl,hw1⟩;rw [hw1];clear hw1 w1)
      | (go_at_call 217;(with_reducible refine (HG2.out _).mono ?_);rintro e w1 ⟨rfl,hw1⟩;rw [hw1];clear hw1 w1))
    ·go_returns
     refine ⟨?_,rfl⟩
     have hw:wrdB s[k]=false:=by unfold wrdB;rw [HL2.out,HD2.out];rfl
     have hk1:0<k:=by
      by_cases e:k=0
      ·subst e;have:=HL.out;rw [HL2.out] at this;cases this
      ·omega
     have:RunAt s k:=⟨hk,HR.out,fun _ _=>HL.out,fun h=>⟨fun e=>by omega,fun _=>hw⟩⟩
     rw [HN.out.unique this];rfl
    all_goals
     exact ⟨⟨k+1,by omega,by simp,hZz (fun i h h2=>by
      by_cases e:i=k
      ·subst e;unfold wrdB;rw [HL2.out,HD2.out];rfl
      ·exact HR.out i h (by omega))⟩,by simp [intOf];omega⟩
   ·have e:k=s.size:=by omega
    subst e
    have:RunAt s s.size:=⟨Nat.le_refl _,HR.out,fun _ _=>HL.out,fun h=>by omega⟩
    have HE:Hid (n=s.size):=hZz (HN.out.unique this);clear this;go_wp2_with (fail)
    go_returns;exact ⟨by rw [HE.out];rfl,rfl⟩
theorem txtB_upto (s:ByteArray) (k:Nat) (h:k<s.size):txtB s=true→32≤s[k].toNat∧s[k].toNat≤126:=by
 intro ht;unfold txtB at ht;rw [List.all_eq_true] at ht
 have:=ht s[k] (by
  have:s[k]=s.data.toList[k]'(by simpa using h):=rfl
  rw [this];exact List.getElem_mem _)
 simpa using this
set_option maxHeartbeats 4000000 in
theorem rquoted_any (s:ByteArray) (w:World) (hs:s.size≤140737488351232):Calls prog 185 #[.string s] w fun e w'=>(∃ t b,e=.returned (.tuple #[.string t,.bool b])∧(b=true↔StrOk s))∧w'=w:=by
 obtain ⟨P,hP⟩:∃ P:Ending→World→Prop,(fun e w'=>(∃ t b,e=.returned (.tuple #[.string t,.bool b])∧(b=true↔StrOk s))∧w'=w)=P:=⟨_,rfl⟩
 rw [hP];have HP:=hZz hP;have hs9:(s.size:Int)≤140737488351232:=by omega
 clear hP;go_enter func185,ntmps185
 go_wp2
 go_loop [4,5,8] (fun ov _ iv=>∃ (k:Nat) (t:ByteArray),k≤s.size∧ov=.string t∧iv=.int .i64 k∧Hid (t.size≤1+2 * k)∧Hid (((s.data.toList.take k).all fun b=>decide (32≤b.toNat) && decide (b.toNat≤126))=true)) (fun _ _ i=>s.size - (intOf i).toNat)
 case atStart=>exact ⟨0,_,Nat.zero_le _,rfl,rfl,hZz (show 1≤1+2 * 0 by omega),hZz rfl⟩
 case round =>
  obtain ⟨k,t,hk,rfl,rfl,HT,HA⟩:=hrel;have hk0:(0:Int)≤(k:Int):=by omega
  by_cases hlt:k<s.size
  ·have hlt':(k:Int)<(s.size:Int):=by omega
   have ht:t.size≤1+2 * k:=HT.out;have hb1:¬ 9223372036854775807<t.size+1:=by omega
   have hb2:¬ 9223372036854775807<t.size+1+(min (k+1) s.size - k):=by omega
   have hb3:¬ 9223372036854775807<t.size+(min (k+1) s.size - k):=by omega
   clear ht;by_cases hb:32≤s[k].toNat∧s[k].toNat≤126
   ·have h1:¬ ((s[k].toNat:Int)<32):=by omega
    have h2:¬ ((126:Int)<(s[k].toNat:Int)):=by omega
    have HNX:Hid (((s.data.toList.take (k+1)).all fun b=>decide (32≤b.toNat) && decide (b.toNat≤126))=true):=hZz (by rw [txtB_take s k hlt,HA.out,Bool.true_and];simp;exact hb);clear hb;by_cases h34:(s[k].toNat:Int)=34
    ·have h34':((s[k].toNat:Int) == 34)=true:=by simpa using h34
     clear h34;go_wp2_with (fail)
     exact ⟨⟨k+1,_,by omega,rfl,by simp,hZz (by have:=HT.out;have e1:(⟨#[92]⟩:ByteArray).size=1:=rfl;simp [e1];omega),HNX⟩,by simp [intOf];omega⟩
    ·have h34':((s[k].toNat:Int) == 34)=false:=by simpa using h34
     clear h34;by_cases h92:(s[k].toNat:Int)=92
     ·have h92':((s[k].toNat:Int) == 92)=true:=by simpa using h92
      clear h92;go_wp2_with (fail)
      exact ⟨⟨k+1,_,by omega,rfl,by simp,hZz (by have:=HT.out;have e1:(⟨#[92]⟩:ByteArray).size=1:=rfl;simp [e1];omega),HNX⟩,by simp [intOf];omega⟩
     ·have h92':((s[k].toNat:Int) == 92)=false:=by simpa using h92
      clear h92;go_wp2_with (fail)
      exact ⟨⟨k+1,_,by omega,rfl,by simp,hZz (by have:=HT.out;simp;omega),HNX⟩,by simp [intOf];omega⟩
   ·have HNO:Hid (¬ StrOk s):=hZz (fun h=>hb (txtB_upto s k hlt h.1))
    by_cases h32:(s[k].toNat:Int)<32
    ·clear hb
     go_wp2_with (fail)
     rw [← HP.out];exact ⟨⟨_,false,rfl,by simp;exact HNO.out⟩,rfl⟩
    ·have h2:(126:Int)<(s[k].toNat:Int):=by omega
     clear hb;go_wp2_with (fail)
     rw [← HP.out];exact ⟨⟨_,false,rfl,by simp;exact HNO.out⟩,rfl⟩
  ·have e:k=s.size:=by omega
   subst e;have ht:t.size≤1+2 * s.size:=HT.out;have hb1:¬ 9223372036854775807<t.size+1:=by omega
   have HE:Hid (txtB s=true):=hZz (by have:=HA.out;rw [List.take_of_length_le (by simp)] at this;exact this);clear ht;go_wp2_with (fail)
   rw [← HP.out];refine ⟨⟨_,decide ((s.size:Int)≤200),rfl,?_⟩,rfl⟩
   unfold StrOk;rw [HE.out];simp
   omega
section
attribute [local go_sem] zabZ
theorem rtext_name (s:ByteArray) (w:World) (hs:s.size≤140737488351232):Calls prog 149 #[.agg #[.int .i64 1,.string s,.int .i64 0,.int .i64 0]] w fun e w'=>(∃ t k,e=.returned (.tuple #[.string t,.int .i64 k])∧(k=0↔NameOk s))∧Below w.heap.size w w':=by
 obtain ⟨n,hn⟩:=runAt_ex s;have HR:=hZz hn;have HC:Hid (∀ wx,Calls prog 181 #[.string s,.int .i64 0] wx fun e w'=>e=.returned (.int .i64 n)∧w'=wx):=hZz (fun wx=>rrun_any s n wx hs hn);have HK:Hid (∀ wx,Calls prog 182 #[.string s] wx fun e w'=>e=.returned (.bool (kwB s))∧w'=wx):=hZz (fun wx=>zcbY s wx);have HQ:Hid (∀ wx,Calls prog 185 #[.string s] wx fun e w'=>(∃ t b,e=.returned (.tuple #[.string t,.bool b])∧(b=true↔StrOk s))∧w'=wx):=hZz (fun wx=>rquoted_any s wx hs);have HB0:=hZz (zacZ w (.cells #[.int .i64 1,.string s,.int .i64 0,.int .i64 0] 184));obtain ⟨P,hP⟩:∃ P:Ending→World→Prop,(fun e w'=>(∃ t k,e=.returned (.tuple #[.string t,.int .i64 k])∧(k=0↔NameOk s))∧Below w.heap.size w w')=P:=⟨_,rfl⟩
 rw [hP];have HP:=hZz hP;have hs9:(s.size:Int)≤140737488351232:=by omega
 clear hP hn;by_cases h0:(0:Int)<(s.size:Int)
 ·have h0':0<s.size:=by omega
  by_cases h24:(s.size:Int)≤24
  ·by_cases hnn:n=s.size
   ·have hnn':((n:Int) == (s.size:Int))=true:=by simp;omega
    have HN:=hZz hnn;clear hnn;go_enter func149,ntmps149
    go_upto_region 3 with fail
    go_quiet (first
     | ((with_reducible refine (HC.out _).mono ?_);rintro e w2 ⟨h1,h2⟩;exact ⟨h1,_,h2⟩))
    cases hkw:kwB s with
    | true =>
     have HKW:=hZz hkw
     go_wp2_with (first
      | (go_at_call 182;(with_reducible refine (HK.out _).mono ?_);rintro e w1 ⟨rfl,hw1⟩;rw [hw1];clear hw1 w1)
      | (go_at_call 185;(with_reducible refine (HQ.out _).mono ?_);rintro e w1 ⟨⟨t,b,rfl,hb⟩,hw1⟩;rw [hw1];clear hw1 w1;have HBQ:=hZz hb;clear hb;cases b))
     rw [← HP.out];exact ⟨⟨_,1,rfl,⟨fun h=>by omega,fun h=>by have:=h.2.2;rw [HKW.out] at this;cases this⟩⟩,zaeZ HB0.out _⟩
    | false =>
     have HKW:=hZz hkw
     go_wp2_with (first
      | (go_at_call 182;(with_reducible refine (HK.out _).mono ?_);rintro e w1 ⟨rfl,hw1⟩;rw [hw1];clear hw1 w1)
      | (go_at_call 185;(with_reducible refine (HQ.out _).mono ?_);rintro e w1 ⟨⟨t,b,rfl,hb⟩,hw1⟩;rw [hw1];clear hw1 w1;have HBQ:=hZz hb;clear hb;cases b))
     rw [← HP.out];exact ⟨⟨_,0,rfl,⟨fun _=>⟨(HR.out.whole h0').1 HN.out,by omega,HKW.out⟩,fun _=>rfl⟩⟩,zaeZ HB0.out _⟩
   ·have hnn':((n:Int) == (s.size:Int))=false:=by simp;omega
    have HNO:Hid (¬ NameOk s):=hZz (fun h=>hnn ((HR.out.whole h0').2 h.1));clear hnn;go_enter func149,ntmps149
    go_upto_region 3 with fail
    go_quiet (first
     | ((with_reducible refine (HC.out _).mono ?_);rintro e w2 ⟨h1,h2⟩;exact ⟨h1,_,h2⟩))
    go_wp2_with (first
     | (go_at_call 182;(with_reducible refine (HK.out _).mono ?_);rintro e w1 ⟨rfl,hw1⟩;rw [hw1];clear hw1 w1)
     | (go_at_call 185;(with_reducible refine (HQ.out _).mono ?_);rintro e w1 ⟨⟨t,b,rfl,hb⟩,hw1⟩;rw [hw1];clear hw1 w1;have HBQ:=hZz hb;clear hb;cases b))
    rw [← HP.out];exact ⟨⟨_,1,rfl,⟨fun h=>by omega,fun h=>absurd h HNO.out⟩⟩,zaeZ HB0.out _⟩
  ·have HNO:Hid (¬ NameOk s):=hZz (fun h=>h24 (by have:=h.2.1;omega))
   go_enter func149,ntmps149
   go_upto_region 3 with fail
   go_quiet (fail)
   go_wp2_with (first
    | (go_at_call 182;(with_reducible refine (HK.out _).mono ?_);rintro e w1 ⟨rfl,hw1⟩;rw [hw1];clear hw1 w1)
    | (go_at_call 185;(with_reducible refine (HQ.out _).mono ?_);rintro e w1 ⟨⟨t,b,rfl,hb⟩,hw1⟩;rw [hw1];clear hw1 w1;have HBQ:=hZz hb;clear hb;cases b))
   rw [← HP.out];exact ⟨⟨_,1,rfl,⟨fun h=>by omega,fun h=>absurd h HNO.out⟩⟩,zaeZ HB0.out _⟩
 ·have HNO:Hid (¬ NameOk s):=hZz (fun h=>h0 (by have:=h.1.1;omega))
  have he:s=ByteArray.empty:=by
   have hz:s.size=0:=by omega
   simpa using hz
  subst he;clear h0;go_enter func149,ntmps149
  go_upto_region 3 with fail
  go_quiet (fail)
  go_wp2_with (first
   | (go_at_call 182;(with_reducible refine (HK.out _).mono ?_);rintro e w1 ⟨rfl,hw1⟩;rw [hw1];clear hw1 w1)
   | (go_at_call 185;(with_reducible refine (HQ.out _).mono ?_);rintro e w1 ⟨⟨t,b,rfl,hb⟩,hw1⟩;rw [hw1];clear hw1 w1;have HBQ:=hZz hb;clear hb;cases b))
  rw [← HP.out];exact ⟨⟨_,1,rfl,⟨fun h=>by omega,fun h=>absurd h HNO.out⟩⟩,zaeZ HB0.out _⟩
theorem rtext_str (s:ByteArray) (w:World) (hs:s.size≤140737488351232):Calls prog 149 #[.agg #[.int .i64 4,.string s,.int .i64 0,.int .i64 0]] w fun e w'=>(∃ t k,e=.returned (.tuple #[.string t,.int .i64 k])∧(k=0↔StrOk s))∧Below w.heap.size w w':=by
 obtain ⟨n,hn⟩:=runAt_ex s;have HR:=hZz hn;have HC:Hid (∀ wx,Calls prog 181 #[.string s,.int .i64 0] wx fun e w'=>e=.returned (.int .i64 n)∧w'=wx):=hZz (fun wx=>rrun_any s n wx hs hn);have HK:Hid (∀ wx,Calls prog 182 #[.string s] wx fun e w'=>e=.returned (.bool (kwB s))∧w'=wx):=hZz (fun wx=>zcbY s wx);have HQ:Hid (∀ wx,Calls prog 185 #[.string s] wx fun e w'=>(∃ t b,e=.returned (.tuple #[.string t,.bool b])∧(b=true↔StrOk s))∧w'=wx):=hZz (fun wx=>rquoted_any s wx hs);have HB0:=hZz (zacZ w (.cells #[.int .i64 4,.string s,.int .i64 0,.int .i64 0] 184));obtain ⟨P,hP⟩:∃ P:Ending→World→Prop,(fun e w'=>(∃ t k,e=.returned (.tuple #[.string t,.int .i64 k])∧(k=0↔StrOk s))∧Below w.heap.size w w')=P:=⟨_,rfl⟩
 rw [hP];have HP:=hZz hP;have hs9:(s.size:Int)≤140737488351232:=by omega
 clear hP hn;by_cases h0:(0:Int)<(s.size:Int)
 ·have h0':0<s.size:=by omega
  by_cases h24:(s.size:Int)≤24
  ·by_cases hnn:n=s.size
   ·have hnn':((n:Int) == (s.size:Int))=true:=by simp;omega
    have HN:=hZz hnn;clear hnn;go_enter func149,ntmps149
    go_upto_region 3 with fail
    go_quiet (first
     | ((with_reducible refine (HC.out _).mono ?_);rintro e w2 ⟨h1,h2⟩;exact ⟨h1,_,h2⟩))
    go_wp2_with (first
     | (go_at_call 182;(with_reducible refine (HK.out _).mono ?_);rintro e w1 ⟨rfl,hw1⟩;rw [hw1];clear hw1 w1)
     | (go_at_call 185;(with_reducible refine (HQ.out _).mono ?_);rintro e w1 ⟨⟨t,b,rfl,hb⟩,hw1⟩;rw [hw1];clear hw1 w1;have HBQ:=hZz hb;clear hb;cases b))
    ·rw [← HP.out]
     exact ⟨⟨_,1,rfl,⟨fun h=>by omega,fun h=>by have:=HBQ.out.2 h;cases this⟩⟩,zaeZ HB0.out _⟩
    ·rw [← HP.out]
     exact ⟨⟨_,0,rfl,⟨fun _=>HBQ.out.1 (by trivial),fun _=>rfl⟩⟩,zaeZ HB0.out _⟩
   ·have hnn':((n:Int) == (s.size:Int))=false:=by simp;omega
    have HNO:Hid (¬ NameOk s):=hZz (fun h=>hnn ((HR.out.whole h0').2 h.1));clear hnn;go_enter func149,ntmps149
    go_upto_region 3 with fail
    go_quiet (first
     | ((with_reducible refine (HC.out _).mono ?_);rintro e w2 ⟨h1,h2⟩;exact ⟨h1,_,h2⟩))
    go_wp2_with (first
     | (go_at_call 182;(with_reducible refine (HK.out _).mono ?_);rintro e w1 ⟨rfl,hw1⟩;rw [hw1];clear hw1 w1)
     | (go_at_call 185;(with_reducible refine (HQ.out _).mono ?_);rintro e w1 ⟨⟨t,b,rfl,hb⟩,hw1⟩;rw [hw1];clear hw1 w1;have HBQ:=hZz hb;clear hb;cases b))
    ·rw [← HP.out]
     exact ⟨⟨_,1,rfl,⟨fun h=>by omega,fun h=>by have:=HBQ.out.2 h;cases this⟩⟩,zaeZ HB0.out _⟩
    ·rw [← HP.out]
     exact ⟨⟨_,0,rfl,⟨fun _=>HBQ.out.1 (by trivial),fun _=>rfl⟩⟩,zaeZ HB0.out _⟩
  ·have HNO:Hid (¬ NameOk s):=hZz (fun h=>h24 (by have:=h.2.1;omega))
   go_enter func149,ntmps149
   go_upto_region 3 with fail
   go_quiet (fail)
   go_wp2_with (first
    | (go_at_call 182;(with_reducible refine (HK.out _).mono ?_);rintro e w1 ⟨rfl,hw1⟩;rw [hw1];clear hw1 w1)
    | (go_at_call 185;(with_reducible refine (HQ.out _).mono ?_);rintro e w1 ⟨⟨t,b,rfl,hb⟩,hw1⟩;rw [hw1];clear hw1 w1;have HBQ:=hZz hb;clear hb;cases b))
   ·rw [← HP.out]
    exact ⟨⟨_,1,rfl,⟨fun h=>by omega,fun h=>by have:=HBQ.out.2 h;cases this⟩⟩,zaeZ HB0.out _⟩
   ·rw [← HP.out]
    exact ⟨⟨_,0,rfl,⟨fun _=>HBQ.out.1 (by trivial),fun _=>rfl⟩⟩,zaeZ HB0.out _⟩
 ·have HNO:Hid (¬ NameOk s):=hZz (fun h=>h0 (by have:=h.1.1;omega))
  have he:s=ByteArray.empty:=by
   have hz:s.size=0:=by omega
   simpa using hz
  subst he;clear h0;go_enter func149,ntmps149
  go_upto_region 3 with fail
  go_quiet (fail)
  go_wp2_with (first
   | (go_at_call 182;(with_reducible refine (HK.out _).mono ?_);rintro e w1 ⟨rfl,hw1⟩;rw [hw1];clear hw1 w1)
   | (go_at_call 185;(with_reducible refine (HQ.out _).mono ?_);rintro e w1 ⟨⟨t,b,rfl,hb⟩,hw1⟩;rw [hw1];clear hw1 w1;have HBQ:=hZz hb;clear hb;cases b))
  ·rw [← HP.out]
   exact ⟨⟨_,1,rfl,⟨fun h=>by omega,fun h=>by have:=HBQ.out.2 h;cases this⟩⟩,zaeZ HB0.out _⟩
  ·rw [← HP.out]
   exact ⟨⟨_,0,rfl,⟨fun _=>HBQ.out.1 (by trivial),fun _=>rfl⟩⟩,zaeZ HB0.out _⟩
set_option maxHeartbeats 2000000 in
theorem rname_any (s:ByteArray) (w:World) (hs:s.size≤140737488351232):Calls prog 106 #[.string s] w fun e w'=>(∃ b,e=.returned (.bool b)∧(b=true↔NameOk s))∧Below w.heap.size w w':=by
 have HC:=hZz (rtext_name s w hs);obtain ⟨P,hP⟩:∃ P:Ending→World→Prop,(fun e w'=>(∃ b,e=.returned (.bool b)∧(b=true↔NameOk s))∧Below w.heap.size w w')=P:=⟨_,rfl⟩
 rw [hP];have HP:=hZz hP;clear hP;go_enter func106,ntmps106
 go_upto_region 2 with (first
  | (go_at_call 149;(with_reducible refine HC.out.mono ?_);rintro e w1 ⟨⟨t,k,rfl,hk⟩,hb1⟩;have HB1:=hZz hb1;have HKK:=hZz hk;clear hb1 hk))
 by_cases hk:k=0
 ·subst hk
  go_wp2_with (fail)
  rw [← HP.out];exact ⟨⟨true,rfl,by simp;exact HKK.out.1 (by trivial)⟩,HB1.out⟩
 ·have hk':(k == 0)=false:=by simpa using hk
  go_wp2_with (fail)
  rw [← HP.out];exact ⟨⟨false,by rw [← hk'];rfl,by simp;intro h;exact hk (HKK.out.2 h)⟩,HB1.out⟩
set_option maxHeartbeats 2000000 in
theorem rtoken_any (s:ByteArray) (w:World) (hs:s.size≤140737488351232):Calls prog 110 #[.string s] w fun e w'=>(∃ t b,e=.returned (.tuple #[.string t,.bool b])∧(b=true↔StrOk s))∧Below w.heap.size w w':=by
 have HC:=hZz (rtext_str s w hs);obtain ⟨P,hP⟩:∃ P:Ending→World→Prop,(fun e w'=>(∃ t b,e=.returned (.tuple #[.string t,.bool b])∧(b=true↔StrOk s))∧Below w.heap.size w w')=P:=⟨_,rfl⟩
 rw [hP];have HP:=hZz hP;clear hP;go_enter func110,ntmps110
 go_upto_region 2 with (first
  | (go_at_call 149;(with_reducible refine HC.out.mono ?_);rintro e w1 ⟨⟨t,k,rfl,hk⟩,hb1⟩;have HB1:=hZz hb1;have HKK:=hZz hk;clear hb1 hk))
 by_cases hk:k=0
 ·subst hk
  go_wp2_with (fail)
  rw [← HP.out];exact ⟨⟨t,true,rfl,by simp;exact HKK.out.1 (by trivial)⟩,HB1.out⟩
 ·have hk':(k == 0)=false:=by simpa using hk
  go_wp2_with (fail)
  rw [← HP.out];exact ⟨⟨t,false,by rw [← hk'];rfl,by simp;intro h;exact hk (HKK.out.2 h)⟩,HB1.out⟩
end
def Sent (w:World):Prop:=(∃ tp p,w.var? prog "strconv.ErrSyntax"=some #[.iface tp p])∧(∃ tp p,w.var? prog "strconv.ErrRange"=some #[.iface tp p])
theorem Sent.below {w w':World} (h:Sent w) (hb:Below w.heap.size w w'):Sent w':=by
 obtain ⟨⟨a,b,h1⟩,c,d,h2⟩:=h;exact ⟨⟨a,b,var_below hb h1⟩,c,d,var_below hb h2⟩
theorem atoi_any (s:ByteArray) (w:World) (hs:s.size≤140737488351232) (hv:Sent w) :
  Calls prog 233 #[.string s] w fun e w'=>(∃ v,(e=.returned (.tuple #[.int .i64 v,.nilIface])∨∃ t p,e=.returned (.tuple #[.int .i64 v,.iface t p])))∧Below w.heap.size w w':=by
 obtain ⟨⟨tp,p,h1⟩,tp',p',h2⟩:=hv;cases ha:Lib.atoiAll s.data.toList with
 | ok v =>
  refine (Tryz.strconv_Atoi_ok s (by omega) v ha w).mono ?_
  rintro e w' ⟨rfl,hw⟩;refine ⟨⟨v,.inl rfl⟩,?_⟩
  rcases hw with rfl | ⟨t,rfl⟩
  ·exact Below.refl _ _
  ·exact Lib.bytesWorld_below _ _ _
 | range =>
  refine (Tryz.strconv_Atoi_range_var s (by omega) ha tp' p' w h2).mono ?_
  rintro e w' ⟨N,rfl,_,_,hb⟩;exact ⟨⟨_,.inr ⟨_,_,rfl⟩⟩,hb⟩
 | _ =>
  refine (Any.strconv_Atoi_syntax_var Tryz.laysC172 s (by omega) ha tp p w h1).mono ?_
  rintro e w' ⟨N,rfl,_,_,hb⟩;exact ⟨⟨_,.inr ⟨_,_,rfl⟩⟩,hb⟩
theorem ne_byte6 {a b:UInt8} (h:¬ a=b):¬ ((a.toNat:Int)=(b.toNat:Int)):=fun e=>h (UInt8.toNat_inj.mp (by omega))
def BoolP (e:Ending):Prop:=∃ v,e=.returned (.bool v)
set_option maxHeartbeats 4000000 in
theorem decimal_any (s:ByteArray) (w:World) (hs:s.size≤140737488351232):Calls prog 232 #[.string s] w fun e w'=>BoolP e∧w'=w:=by
 by_cases h0:s.size=0
 ·have h1:(s.toList == [])=true:=by rw [(zagY s).2 h0];rfl
  have hn:¬ (0:Int)<(s.size:Int):=by omega
  go_enter func232,ntmps232
  go_wp2
  go_returns;exact ⟨⟨_,rfl⟩,rfl⟩
 ·have hp:(0:Int)<(s.size:Int):=by omega
  have hp':0<s.size:=by omega
  have hns:(s.toList == [])=false:=by
   rw [← zagY] at h0;simpa using h0
  clear h0;by_cases hm:s[0]=45
  ·obtain ⟨X,hX⟩:∃ X,s.extract 1 s.size=X:=⟨_,rfl⟩
   have hXs:X.size=s.size - 1:=by rw [← hX];simp
   by_cases h1:s.size=1
   ·have hXn:(X.toList == [])=true:=by rw [(zagY X).2 (by omega)];rfl
    rw [h1] at hX;have HXE:=hZz hX;clear hX;go_enter func232,ntmps232
    go_upto_region 4 with fail
    first | rw [HXE.out] | skip
    go_wp2_with (fail)
    go_returns;exact ⟨⟨_,rfl⟩,rfl⟩
   ·have hXp:0<X.size:=by omega
    have hXp':(0:Int)<(X.size:Int):=by omega
    have hXn:(X.toList == [])=false:=by
     have:¬ X.size=0:=by omega
     rw [← zagY] at this;simpa using this
    have hXb:X.size≤140737488351232:=by omega
    have HXE:=hZz hX;clear hX hXs;go_enter func232,ntmps232
    go_upto_region 4 with fail
    rw [HXE.out];by_cases hd:X[0]=48
    ·by_cases hz:s.toList=[48]
     ·have hz':(s.toList == [48])=true:=by simpa using hz
      go_wp2_with (fail)
      go_loop [4,29] (fun u c=>∃ k:Nat,k≤X.size∧c=.int .i64 k) (fun u c=>X.size - (intOf c).toNat)
      case atStart=>exact ⟨0,Nat.zero_le _,rfl⟩
      case round =>
       obtain ⟨k,hk,rfl⟩:=hrel;have hk0:(0:Int)≤(k:Int):=by omega
       by_cases hlt:k<X.size
       ·have hlt':(k:Int)<(X.size:Int):=by omega
        have hk9:(k:Int)+1≤9223372036854775807:=by omega
        by_cases h1:(X[k].toNat:Int)<48
        ·go_wp2_with (fail)
         go_returns;exact ⟨⟨_,rfl⟩,rfl⟩
        ·by_cases h2:(57:Int)<(X[k].toNat:Int)
         ·go_wp2_with (fail)
          go_returns;exact ⟨⟨_,rfl⟩,rfl⟩
         ·go_wp2_with (fail)
          exact ⟨⟨k+1,by omega,by simp⟩,by simp [intOf];omega⟩
       ·have e:k=X.size:=by omega
        subst e;go_wp2_with (fail)
        go_returns;exact ⟨⟨_,rfl⟩,rfl⟩
     ·have hz':(s.toList == [48])=false:=by simpa using hz
      have hz2:(s.toList != [48])=true:=by simpa using hz
      go_wp2_with (fail)
      go_returns;exact ⟨⟨_,rfl⟩,rfl⟩
    ·have hd':((X[0].toNat:Int) == 48)=false:=beq_eq_false_iff_ne.mpr (ne_byte6 hd)
     go_wp2_with (fail)
     go_loop [4,29] (fun u c=>∃ k:Nat,k≤X.size∧c=.int .i64 k) (fun u c=>X.size - (intOf c).toNat)
     case atStart=>exact ⟨0,Nat.zero_le _,rfl⟩
     case round =>
      obtain ⟨k,hk,rfl⟩:=hrel;have hk0:(0:Int)≤(k:Int):=by omega
      by_cases hlt:k<X.size
      ·have hlt':(k:Int)<(X.size:Int):=by omega
       have hk9:(k:Int)+1≤9223372036854775807:=by omega
       by_cases h1:(X[k].toNat:Int)<48
       ·go_wp2_with (fail)
        go_returns;exact ⟨⟨_,rfl⟩,rfl⟩
       ·by_cases h2:(57:Int)<(X[k].toNat:Int)
        ·go_wp2_with (fail)
         go_returns;exact ⟨⟨_,rfl⟩,rfl⟩
        ·go_wp2_with (fail)
         exact ⟨⟨k+1,by omega,by simp⟩,by simp [intOf];omega⟩
      ·have e:k=X.size:=by omega
       subst e;go_wp2_with (fail)
       go_returns;exact ⟨⟨_,rfl⟩,rfl⟩
  ·have hm':((s[0].toNat:Int) == 45)=false:=beq_eq_false_iff_ne.mpr (ne_byte6 hm)
   go_enter func232,ntmps232
   go_upto_region 4 with fail
   by_cases hd:s[0]=48
   ·by_cases hz:s.toList=[48]
    ·have hz':(s.toList == [48])=true:=by simpa using hz
     go_wp2_with (fail)
     go_loop [4,29] (fun u c=>∃ k:Nat,k≤s.size∧c=.int .i64 k) (fun u c=>s.size - (intOf c).toNat)
     case atStart=>exact ⟨0,Nat.zero_le _,rfl⟩
     case round =>
      obtain ⟨k,hk,rfl⟩:=hrel;have hk0:(0:Int)≤(k:Int):=by omega
      by_cases hlt:k<s.size
      ·have hlt':(k:Int)<(s.size:Int):=by omega
       have hk9:(k:Int)+1≤9223372036854775807:=by omega
       by_cases h1:(s[k].toNat:Int)<48
       ·go_wp2_with (fail)
        go_returns;exact ⟨⟨_,rfl⟩,rfl⟩
       ·by_cases h2:(57:Int)<(s[k].toNat:Int)
        ·go_wp2_with (fail)
         go_returns;exact ⟨⟨_,rfl⟩,rfl⟩
        ·go_wp2_with (fail)
         exact ⟨⟨k+1,by omega,by simp⟩,by simp [intOf];omega⟩
      ·have e:k=s.size:=by omega
       subst e;go_wp2_with (fail)
       go_returns;exact ⟨⟨_,rfl⟩,rfl⟩
    ·have hz':(s.toList == [48])=false:=by simpa using hz
     have hz2:(s.toList != [48])=true:=by simpa using hz
     go_wp2_with (fail)
     go_returns;exact ⟨⟨_,rfl⟩,rfl⟩
   ·have hd':((s[0].toNat:Int) == 48)=false:=beq_eq_false_iff_ne.mpr (ne_byte6 hd)
    go_wp2_with (fail)
    go_loop [4,29] (fun u c=>∃ k:Nat,k≤s.size∧c=.int .i64 k) (fun u c=>s.size - (intOf c).toNat)
    case atStart=>exact ⟨0,Nat.zero_le _,rfl⟩
    case round =>
     obtain ⟨k,hk,rfl⟩:=hrel;have hk0:(0:Int)≤(k:Int):=by omega
     by_cases hlt:k<s.size
     ·have hlt':(k:Int)<(s.size:Int):=by omega
      have hk9:(k:Int)+1≤9223372036854775807:=by omega
      by_cases h1:(s[k].toNat:Int)<48
      ·go_wp2_with (fail)
       go_returns;exact ⟨⟨_,rfl⟩,rfl⟩
      ·by_cases h2:(57:Int)<(s[k].toNat:Int)
       ·go_wp2_with (fail)
        go_returns;exact ⟨⟨_,rfl⟩,rfl⟩
       ·go_wp2_with (fail)
        exact ⟨⟨k+1,by omega,by simp⟩,by simp [intOf];omega⟩
     ·have e:k=s.size:=by omega
      subst e;go_wp2_with (fail)
      go_returns;exact ⟨⟨_,rfl⟩,rfl⟩
set_option maxHeartbeats 2000000 in
theorem parse_any (s:ByteArray) (w:World) (hs:s.size≤140737488351232) (hv:Sent w):Calls prog 213 #[.string s] w fun e w'=>(∃ n k:Int,e=.returned (.tuple #[.int .i64 n,.int .i64 k]))∧Below w.heap.size w w':=by
 have HV:=hZz hv;clear hv;go_enter func213,ntmps213
 go_wp2_with (first
  | (go_at_call 232;(with_reducible refine (decimal_any _ _ hs).mono ?_);rintro e w1 ⟨⟨v,rfl⟩,hw1⟩;rw [hw1];clear hw1 w1;cases v)
  | (go_at_call 233;(with_reducible refine (atoi_any _ _ hs HV.out).mono ?_);rintro e w2 ⟨⟨n,hn⟩,hb2⟩;have HB2:=hZz hb2;clear hb2;rcases hn with rfl | ⟨t,p,rfl⟩)
  | (go_at_call 144;(with_reducible refine (valid_any _ _).mono ?_);rintro e w3 ⟨rfl,hw3⟩;rw [hw3];clear hw3 w3))
 all_goals
  go_returns
  first
   | exact ⟨⟨_,_,rfl⟩,HB2.out⟩
   | exact ⟨⟨_,_,rfl⟩,Below.refl _ _⟩
section
theorem zciY (l:List UInt8) (c:UInt8) : -1≤Lib.indexByte l c∧Lib.indexByte l c<l.length:=by
 induction l with
 | nil=>simp [Lib.indexByte]
 | cons a l ih =>
  unfold Lib.indexByte;split
  ·simp
  ·split
   ·simp
    omega
   ·simp at ih ⊢
    omega
theorem indexByte_pos {l:List UInt8} {c:UInt8} (h:l.head?≠some c):Lib.indexByte l c≠0:=by
 cases l with
 | nil=>simp [Lib.indexByte]
 | cons a l =>
  have hb:=zciY l c;unfold Lib.indexByte;rw [if_neg (by simpa using h)];split
  ·omega
  ·rename_i h2
   simp at h2
   omega
attribute [local go_sem] zavY
theorem ext_head (s:ByteArray) (k:Nat) (h:k<s.size):(s.extract k s.size).data.toList.head? = some s[k]:=by
 rw [List.head?_eq_getElem?]
 have h1:(s.extract k s.size).data.toList=(s.data.toList.drop k):=by
  simp
  rw [List.take_of_length_le (by simp)]
 rw [h1,List.getElem?_drop,Nat.add_zero,List.getElem?_eq_getElem (by simpa using h)];rfl
theorem pre_head {l:List UInt8} (h:Lib.hasPrefix l [47,47]=true):l.head? = some 47:=by
 unfold Lib.hasPrefix at h;cases l with
 | nil=>cases h
 | cons a l =>
  simp at h
  simp [h.1]
set_option maxHeartbeats 4000000 in
theorem skip_any (s:ByteArray) (w:World) (hs:s.size≤140737488351232):Calls prog 179 #[.string s] w fun e w'=>(∃ n:Nat,e=.returned (.int .i64 n)∧n≤s.size∧((∃ h:0<s.size,letB s[0]=true)→n=0))∧Below w.heap.size w w':=by
 go_enter func179,ntmps179
 go_wp2_with (fail)
 go_loopw [3] (fun nv wr=>∃ k:Nat,k≤s.size∧nv=.int .i64 k∧Hid ((∃ h:0<s.size,letB s[0]=true)→k=0)∧Below w.heap.size w wr) (fun nv _=>s.size - (intOf nv).toNat)
 case atStart=>exact ⟨0,Nat.zero_le _,rfl,hZz (fun _=>rfl),Below.refl _ _⟩
 case round =>
  obtain ⟨k,hk,rfl,HR,hbel⟩:=hrel;have HB:=hZz hbel;clear hbel;have hk0:(0:Int)≤(k:Int):=by omega
  by_cases hlt:k<s.size
  ·have hlt':(k:Int)<(s.size:Int):=by omega
   have hk9:(k:Int)+1≤9223372036854775807:=by omega
   have hs9:(s.size:Int)≤140737488351232:=by omega
   obtain ⟨bb,hbb⟩:∃ bb,blaB s[k]=bb:=⟨_,rfl⟩
   have HBB:=hZz hbb;clear hbb;cases bb with
   | true =>
    go_wp2_with (first
     | (go_at_call 208;(with_reducible refine (of_not _ _).mono ?_);rintro e w1 ⟨⟨c,rfl,_,_,hc1,_⟩,hb1⟩;have HB1:=hZz (zaaZ hb1 HB.out HB.out.size);have hc:c=1:=hc1.2 HBB.out;subst hc;clear hb1 hc1))
    refine ⟨⟨k+1,by omega,by simp,hZz ?_,HB1.out⟩,by simp [intOf];omega⟩
    rintro ⟨h,hl⟩;have e:=HR.out ⟨h,hl⟩;subst e
    have:=HBB.out
    unfold letB at hl;unfold blaB at this;simp at hl this
    omega
   | false =>
    obtain ⟨pp,hpp⟩:∃ pp,Lib.hasPrefix (s.extract k s.size).data.toList [47,47]=pp:=⟨_,rfl⟩
    have HPP:=hZz hpp;have HPX:Hid (∀ wx,Calls prog 209 #[.string (s.extract k s.size),.string ⟨#[47,47]⟩] wx fun e w'=>e=.returned (.bool pp)∧w'=wx):=hZz (fun wx=>by rw [← hpp];exact Tryz.strings_HasPrefix _ _ wx);clear hpp;cases pp with
    | false =>
     go_wp2_with (first
      | (go_at_call 208;(with_reducible refine (of_not _ _).mono ?_);rintro e w1 ⟨⟨c,rfl,_,_,hc1,_⟩,hb1⟩;have HB1:=hZz (zaaZ hb1 HB.out HB.out.size);have hc:(c == 1)=false:=(by simp only [beq_eq_false_iff_ne,ne_eq];intro e;have:=hc1.1 e;rw [HBB.out] at this;cases this);clear hb1 hc1)
      | (go_at_call 209;(with_reducible refine (HPX.out _).mono ?_);rintro e w2 ⟨rfl,hw2⟩;rw [hw2];clear hw2 w2))
     go_returns;exact ⟨⟨k,rfl,hk,HR.out⟩,HB1.out⟩
    | true =>
     obtain ⟨x,hx⟩:∃ x,Lib.indexByte (s.extract k s.size).data.toList 10=x:=⟨_,rfl⟩
     have HIX:Hid (∀ wx,Calls prog 210 #[.string (s.extract k s.size),.int .i32 10] wx fun e w'=>e=.returned (.int .i64 x)∧w'=wx):=hZz (fun wx=>by rw [← hx];exact Tryz.strings_IndexRune_ascii _ 10 wx (by omega) (by omega));have hx1:=zciY (s.extract k s.size).data.toList 10;have hx2:Lib.indexByte (s.extract k s.size).data.toList 10≠0:=indexByte_pos (by rw [pre_head HPP.out];decide)
     have h47:s[k]=47:=by
      have h1:=ext_head s k hlt;rw [pre_head HPP.out] at h1;injection h1 with h1
      exact h1.symm
     have HNL:Hid (k=0→letB s[k]=true→False):=hZz (fun _ h=>by rw [h47] at h;cases h);rw [hx] at hx1 hx2
     have hxl:x<(s.size:Int) - k:=by
      have:=hx1.2
      simp at this
      omega
     have hx0:=hx1.1;clear hx hx1 h47
     have HNO:Hid ((∃ h:0<s.size,letB s[0]=true)→False):=hZz (fun h=>by
      have e:=HR.out h;obtain ⟨h,hl⟩:=h;subst e;exact HNL.out rfl hl)
     by_cases hneg:x<0
     ·go_wp2_with (first
       | (go_at_call 208;(with_reducible refine (of_not _ _).mono ?_);rintro e w1 ⟨⟨c,rfl,_,_,hc1,_⟩,hb1⟩;have HB1:=hZz (zaaZ hb1 HB.out HB.out.size);have hc:(c == 1)=false:=(by simp only [beq_eq_false_iff_ne,ne_eq];intro e;have:=hc1.1 e;rw [HBB.out] at this;cases this);clear hb1 hc1)
       | (go_at_call 209;(with_reducible refine (HPX.out _).mono ?_);rintro e w2 ⟨rfl,hw2⟩;rw [hw2];clear hw2 w2)
       | (go_at_call 210;(with_reducible refine (HIX.out _).mono ?_);rintro e w2 ⟨rfl,hw2⟩;rw [hw2];clear hw2 w2))
      go_returns;exact ⟨⟨s.size,rfl,Nat.le_refl _,fun h=>absurd (HNO.out h) id⟩,HB1.out⟩
     ·have HKM:Hid (0<x.toNat∧k+x.toNat≤s.size∧((k+x.toNat:Nat):Int)=k+x):=hZz ⟨by omega,by omega,by omega⟩
      have hkm9:(k:Int)+x≤9223372036854775807:=by omega
      have hxx:0≤x:=by omega
      clear hx2 hx0 hxl hs9 hk hk9
      go_wp2_with (first
       | (go_at_call 208;(with_reducible refine (of_not _ _).mono ?_);rintro e w1 ⟨⟨c,rfl,_,_,hc1,_⟩,hb1⟩;have HB1:=hZz (zaaZ hb1 HB.out HB.out.size);have hc:(c == 1)=false:=(by simp only [beq_eq_false_iff_ne,ne_eq];intro e;have:=hc1.1 e;rw [HBB.out] at this;cases this);clear hb1 hc1)
       | (go_at_call 209;(with_reducible refine (HPX.out _).mono ?_);rintro e w2 ⟨rfl,hw2⟩;rw [hw2];clear hw2 w2)
       | (go_at_call 210;(with_reducible refine (HIX.out _).mono ?_);rintro e w2 ⟨rfl,hw2⟩;rw [hw2];clear hw2 w2))
      exact ⟨⟨k+x.toNat,HKM.out.2.1,by rw [HKM.out.2.2],hZz (fun h=>absurd (HNO.out h) id),HB1.out⟩,by have:=HKM.out;simp [intOf];omega⟩
  ·have e:k=s.size:=by omega
   subst e;go_wp2_with (fail)
   go_returns;exact ⟨⟨s.size,rfl,Nat.le_refl _,HR.out⟩,HB.out⟩
set_option maxHeartbeats 2000000 in
theorem symbol_any (s:ByteArray) (w:World) (hs:s.size≤140737488351232):Calls prog 215 #[.string s] w fun e w'=>BoolP e∧Below w.heap.size w w':=by
 have HB:=hZz (Below.refl w.heap.size w);by_cases h1:s.size=1
 ·have h0:0<s.size:=by omega
  have h0':(0:Int)<(s.size:Int):=by omega
  have h1':((s.size:Int) == 1)=true:=by simp;omega
  go_enter func215,ntmps215
  go_wp2_with (first
   | (go_at_call 208;(with_reducible refine (of_not _ _).mono ?_);rintro e w1 ⟨⟨c,rfl,_⟩,hb1⟩;have HB1:=hZz hb1;clear hb1))
  all_goals
   go_returns
   first
    | exact ⟨⟨_,rfl⟩,HB1.out⟩
    | exact ⟨⟨_,rfl⟩,HB.out⟩
 ·have h1':((s.size:Int) == 1)=false:=by simp;omega
  go_enter func215,ntmps215
  go_wp2_with (fail)
  all_goals
   go_returns;exact ⟨⟨_,rfl⟩,HB.out⟩
end
end Go.Proofs.YthiimbhjpdphpaaGreatDoor
