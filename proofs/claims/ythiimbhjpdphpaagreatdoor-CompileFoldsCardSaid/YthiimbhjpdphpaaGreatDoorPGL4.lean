/- GQ2, GL4 -/
import Derived.Test.YthiimbhjpdphpaaGreatDoorPGL2
import Derived.Test.YthiimbhjpdphpaaGreatDoorPGR2
set_option linter.unusedVariables false
set_option linter.unusedSimpArgs false
namespace Go.Proofs.YthiimbhjpdphpaaGreatDoor
open Go.RowKit
set_option maxRecDepth 100000
set_option maxHeartbeats 8000000
open Go.Proofs.Tryz
theorem runAt_ex (s:ByteArray):∃ n,RunAt s n:=by
 have key:∀ m,m≤s.size→(∃ n,RunAt s n)∨((∀ i (h:i<s.size),i<m→wrdB s[i]=true)∧(0<m→∀ h:0<s.size,letB s[0]=true)):=by
  intro m;induction m with
  | zero=>intro _;exact .inr ⟨fun i h h2=>by omega,fun h=>by omega⟩
  | succ m ih =>
   intro hm;rcases ih (by omega) with h | ⟨h1,h2⟩
   ·exact .inl h
   ·by_cases h0:m=0
    ·subst h0
     cases hl:letB (s[0]'(by omega)) with
     | true=>exact .inr ⟨fun i h h3=>by have e:i=0:=(by omega);subst e;exact let_wrd hl,fun _ _=>hl⟩
     | false=>exact .inl ⟨0,Nat.zero_le _,fun i h h3=>by omega,fun h=>by omega,fun h=>⟨fun _=>hl,fun h=>by omega⟩⟩
    ·cases hw:wrdB (s[m]'(by omega)) with
     | true=>exact .inr ⟨fun i h h3=>by by_cases e:i=m;(subst e;exact hw);exact h1 i h (by omega),fun _ h=>h2 (by omega) h⟩
     | false=>exact .inl ⟨m,by omega,h1,h2,fun h=>⟨fun e=>absurd e h0,fun _=>hw⟩⟩
 rcases key s.size (Nat.le_refl _) with h | ⟨h1,h2⟩
 ·exact h
 ·exact ⟨s.size,Nat.le_refl _,h1,h2,fun h=>by omega⟩
set_option maxHeartbeats 1000000 in
theorem head_any (b:UInt8) (w:World):Calls prog 216 #[.int .u8 b.toNat] w fun e w'=>e=.returned (.bool (letB b))∧w'=w:=by
 obtain ⟨x,hx⟩:∃ x,letB b=x:=⟨_,rfl⟩
 have HX:=hZz hx;rw [hx];clear hx;go_enter func216,ntmps216
 go_wp2
 all_goals
  go_ret;refine ⟨?_,rfl⟩
  rw [← HX.out];unfold letB;refine congrArg (fun b=>Ending.returned (Value.bool b)) (?_:_=_)
  rw [Bool.eq_iff_iff];simp
  omega
set_option maxHeartbeats 1000000 in
theorem digit_any (b:UInt8) (w:World):Calls prog 217 #[.int .u8 b.toNat] w fun e w'=>e=.returned (.bool (digB b))∧w'=w:=by
 obtain ⟨x,hx⟩:∃ x,digB b=x:=⟨_,rfl⟩
 have HX:=hZz hx;rw [hx];clear hx;go_enter func217,ntmps217
 go_wp2
 all_goals
  go_ret;refine ⟨?_,rfl⟩
  rw [← HX.out];unfold digB;refine congrArg (fun b=>Ending.returned (Value.bool b)) (?_:_=_)
  rw [Bool.eq_iff_iff];simp
  omega
set_option maxHeartbeats 2000000 in
theorem rrun_any (s:ByteArray) (n:Nat) (w:World) (hs:s.size≤140737488351232) (hn:RunAt s n):Calls prog 181 #[.string s,.int .i64 0] w fun e w'=>e=.returned (.int .i64 n)∧w'=w:=by
 have HN:=hZz hn;clear hn;by_cases h0:s.size=0
 ·have hz:(s.size:Int)≤0:=by omega
  go_enter func181,ntmps181
  go_wp2_with (fail)
  go_returns;exact ⟨by have:=HN.out.1;have e:n=0:=(by omega);rw [e];rfl,rfl⟩
 have hp:(0:Int)<(s.size:Int):=by omega
 have hp':0<s.size:=by omega
 have hs9:(s.size:Int)≤140737488351232:=by omega
 have hpn:¬ (s.size:Int)≤0:=by omega
 have hne:¬ s=ByteArray.empty:=fun e=>h0 (by rw [e];rfl)
 clear h0;obtain ⟨lb,hlb⟩:∃ lb,letB s[0]=lb:=⟨_,rfl⟩
 have HL:=hZz hlb;have HH:Hid (∀ wx,Calls prog 216 #[.int .u8 s[0].toNat] wx fun e w'=>e=.returned (.bool lb)∧w'=wx):=hZz (fun wx=>by rw [← hlb];exact head_any _ wx);clear hlb;cases lb with
 | false =>
  go_enter func181,ntmps181
  go_wp2_with (first
   | (go_at_call 216;(with_reducible refine (HH.out _).mono ?_);rintro e w1 ⟨rfl,hw1⟩;rw [hw1];clear hw1 w1))
  go_returns;refine ⟨?_,rfl⟩
  have e:n=0:=by
   by_cases e:n=0
   ·exact e
   ·have:=HN.out.2.2.1 (by omega) hp'
    rw [HL.out] at this;cases this
  rw [e];rfl
 | true =>
  go_enter func181,ntmps181
  go_wp2_with (first
   | (go_at_call 216;(with_reducible refine (HH.out _).mono ?_);rintro e w1 ⟨rfl,hw1⟩;rw [hw1];clear hw1 w1))
  go_loop [1] (fun nv=>∃ k:Nat,k≤s.size∧nv=.int .i64 k∧Hid (∀ i (h:i<s.size),i<k→wrdB s[i]=true)) (fun nv=>s.size - (intOf nv).toNat)
  case atStart=>exact ⟨0,Nat.zero_le _,rfl,hZz (fun i h h2=>by omega)⟩
  case round =>
   obtain ⟨k,hk,rfl,HR⟩:=hrel;have hk0:(0:Int)≤(k:Int):=by omega
   by_cases hlt:k<s.size
   ·have hlt':(k:Int)<(s.size:Int):=by omega
    have hk9:(k:Int)+1≤9223372036854775807:=by omega
    obtain ⟨l2,hl2⟩:∃ lb,letB s[k]=lb:=⟨_,rfl⟩
    obtain ⟨d2,hd2⟩:∃ lb,digB s[k]=lb:=⟨_,rfl⟩
    have HL2:=hZz hl2;have HD2:=hZz hd2;have HH2:Hid (∀ wx,Calls prog 216 #[.int .u8 s[k].toNat] wx fun e w'=>e=.returned (.bool l2)∧w'=wx):=hZz (fun wx=>by rw [← hl2];exact head_any _ wx);have HG2:Hid (∀ wx,Calls prog 217 #[.int .u8 s[k].toNat] wx fun e w'=>e=.returned (.bool d2)∧w'=wx):=hZz (fun wx=>by rw [← hd2];exact digit_any _ wx);clear hl2 hd2;cases l2
    all_goals cases d2
    all_goals
     go_wp2_with (first
      | (go_at_call 216;(with_reducible refine (HH2.out _).mono ?_);rintro e w1 ⟨rfl,hw1⟩;rw [hw1];clear hw1 w1)
      | (go_at_call 217;(with_reducible refine (HG2.out _).mono ?_);rintro e w1 ⟨rfl,hw1⟩;rw [hw1];clear hw1 w1))
    ·go_returns
     refine ⟨?_,rfl⟩
     have hw:wrdB s[k]=false:=by unfold wrdB;rw [HL2.out,HD2.out];rfl
     have hk1:0<k:=by
      by_cases e:k=0
      ·subst e;have:=HL.out;rw [HL2.out] at this;cases this
      ·omega
     have:RunAt s k:=⟨hk,HR.out,fun _ _=>HL.out,fun h=>⟨fun e=>by omega,fun _=>hw⟩⟩
     rw [HN.out.unique this];rfl
    all_goals
     exact ⟨⟨k+1,by omega,by simp,hZz (fun i h h2=>by
      by_cases e:i=k
      ·subst e;unfold wrdB;rw [HL2.out,HD2.out];rfl
      ·exact HR.out i h (by omega))⟩,by simp [intOf];omega⟩
   ·have e:k=s.size:=by omega
    subst e
    have:RunAt s s.size:=⟨Nat.le_refl _,HR.out,fun _ _=>HL.out,fun h=>by omega⟩
    have HE:Hid (n=s.size):=hZz (HN.out.unique this);clear this;go_wp2_with (fail)
    go_returns;exact ⟨by rw [HE.out];rfl,rfl⟩
theorem txtB_upto (s:ByteArray) (k:Nat) (h:k<s.size):txtB s=true→32≤s[k].toNat∧s[k].toNat≤126:=by
 intro ht;unfold txtB at ht;rw [List.all_eq_true] at ht
 have:=ht s[k] (by
  have:s[k]=s.data.toList[k]'(by simpa using h):=rfl
  rw [this];exact List.getElem_mem _)
 simpa using this
set_option maxHeartbeats 4000000 in
theorem rquoted_any (s:ByteArray) (w:World) (hs:s.size≤140737488351232):Calls prog 185 #[.string s] w fun e w'=>(∃ t b,e=.returned (.tuple #[.string t,.bool b])∧(b=true↔StrOk s))∧w'=w:=by
 obtain ⟨P,hP⟩:∃ P:Ending→World→Prop,(fun e w'=>(∃ t b,e=.returned (.tuple #[.string t,.bool b])∧(b=true↔StrOk s))∧w'=w)=P:=⟨_,rfl⟩
 rw [hP];have HP:=hZz hP;have hs9:(s.size:Int)≤140737488351232:=by omega
 clear hP;go_enter func185,ntmps185
 go_wp2
 go_loop [4,5,8] (fun ov _ iv=>∃ (k:Nat) (t:ByteArray),k≤s.size∧ov=.string t∧iv=.int .i64 k∧Hid (t.size≤1+2 * k)∧Hid (((s.data.toList.take k).all fun b=>decide (32≤b.toNat) && decide (b.toNat≤126))=true)) (fun _ _ i=>s.size - (intOf i).toNat)
 case atStart=>exact ⟨0,_,Nat.zero_le _,rfl,rfl,hZz (show 1≤1+2 * 0 by omega),hZz rfl⟩
 case round =>
  obtain ⟨k,t,hk,rfl,rfl,HT,HA⟩:=hrel;have hk0:(0:Int)≤(k:Int):=by omega
  by_cases hlt:k<s.size
  ·have hlt':(k:Int)<(s.size:Int):=by omega
   have ht:t.size≤1+2 * k:=HT.out;have hb1:¬ 9223372036854775807<t.size+1:=by omega
   have hb2:¬ 9223372036854775807<t.size+1+(min (k+1) s.size - k):=by omega
   have hb3:¬ 9223372036854775807<t.size+(min (k+1) s.size - k):=by omega
   clear ht;by_cases hb:32≤s[k].toNat∧s[k].toNat≤126
   ·have h1:¬ ((s[k].toNat:Int)<32):=by omega
    have h2:¬ ((126:Int)<(s[k].toNat:Int)):=by omega
    have HNX:Hid (((s.data.toList.take (k+1)).all fun b=>decide (32≤b.toNat) && decide (b.toNat≤126))=true):=hZz (by rw [txtB_take s k hlt,HA.out,Bool.true_and];simp;exact hb);clear hb;by_cases h34:(s[k].toNat:Int)=34
    ·have h34':((s[k].toNat:Int) == 34)=true:=by simpa using h34
     clear h34;go_wp2_with (fail)
     exact ⟨⟨k+1,_,by omega,rfl,by simp,hZz (by have:=HT.out;have e1:(⟨#[92]⟩:ByteArray).size=1:=rfl;simp [e1];omega),HNX⟩,by simp [intOf];omega⟩
    ·have h34':((s[k].toNat:Int) == 34)=false:=by simpa using h34
     clear h34;by_cases h92:(s[k].toNat:Int)=92
     ·have h92':((s[k].toNat:Int) == 92)=true:=by simpa using h92
      clear h92;go_wp2_with (fail)
      exact ⟨⟨k+1,_,by omega,rfl,by simp,hZz (by have:=HT.out;have e1:(⟨#[92]⟩:ByteArray).size=1:=rfl;simp [e1];omega),HNX⟩,by simp [intOf];omega⟩
     ·have h92':((s[k].toNat:Int) == 92)=false:=by simpa using h92
      clear h92;go_wp2_with (fail)
      exact ⟨⟨k+1,_,by omega,rfl,by simp,hZz (by have:=HT.out;simp;omega),HNX⟩,by simp [intOf];omega⟩
   ·have HNO:Hid (¬ StrOk s):=hZz (fun h=>hb (txtB_upto s k hlt h.1))
    by_cases h32:(s[k].toNat:Int)<32
    ·clear hb
     go_wp2_with (fail)
     rw [← HP.out];exact ⟨⟨_,false,rfl,by simp;exact HNO.out⟩,rfl⟩
    ·have h2:(126:Int)<(s[k].toNat:Int):=by omega
     clear hb;go_wp2_with (fail)
     rw [← HP.out];exact ⟨⟨_,false,rfl,by simp;exact HNO.out⟩,rfl⟩
  ·have e:k=s.size:=by omega
   subst e;have ht:t.size≤1+2 * s.size:=HT.out;have hb1:¬ 9223372036854775807<t.size+1:=by omega
   have HE:Hid (txtB s=true):=hZz (by have:=HA.out;rw [List.take_of_length_le (by simp)] at this;exact this);clear ht;go_wp2_with (fail)
   rw [← HP.out];refine ⟨⟨_,decide ((s.size:Int)≤200),rfl,?_⟩,rfl⟩
   unfold StrOk;rw [HE.out];simp
   omega
section
attribute [local go_sem] zacZ
theorem rtext_name (s:ByteArray) (w:World) (hs:s.size≤140737488351232):Calls prog 149 #[.agg #[.int .i64 1,.string s,.int .i64 0,.int .i64 0]] w fun e w'=>(∃ t k,e=.returned (.tuple #[.string t,.int .i64 k])∧(k=0↔NameOk s))∧Below w.heap.size w w':=by
 obtain ⟨n,hn⟩:=runAt_ex s;have HR:=hZz hn;have HC:Hid (∀ wx,Calls prog 181 #[.string s,.int .i64 0] wx fun e w'=>e=.returned (.int .i64 n)∧w'=wx):=hZz (fun wx=>rrun_any s n wx hs hn);have HK:Hid (∀ wx,Calls prog 182 #[.string s] wx fun e w'=>e=.returned (.bool (kwB s))∧w'=wx):=hZz (fun wx=>zc2Y s wx);have HQ:Hid (∀ wx,Calls prog 185 #[.string s] wx fun e w'=>(∃ t b,e=.returned (.tuple #[.string t,.bool b])∧(b=true↔StrOk s))∧w'=wx):=hZz (fun wx=>rquoted_any s wx hs);have HB0:=hZz (zabZ w (.cells #[.int .i64 1,.string s,.int .i64 0,.int .i64 0] 184));obtain ⟨P,hP⟩:∃ P:Ending→World→Prop,(fun e w'=>(∃ t k,e=.returned (.tuple #[.string t,.int .i64 k])∧(k=0↔NameOk s))∧Below w.heap.size w w')=P:=⟨_,rfl⟩
 rw [hP];have HP:=hZz hP;have hs9:(s.size:Int)≤140737488351232:=by omega
 clear hP hn;by_cases h0:(0:Int)<(s.size:Int)
 ·have h0':0<s.size:=by omega
  by_cases h24:(s.size:Int)≤24
  ·by_cases hnn:n=s.size
   ·have hnn':((n:Int) == (s.size:Int))=true:=by simp;omega
    have HN:=hZz hnn;clear hnn;go_enter func149,ntmps149
    go_upto_region 3 with fail
    go_quiet (first
     | ((with_reducible refine (HC.out _).mono ?_);rintro e w2 ⟨h1,h2⟩;exact ⟨h1,_,h2⟩))
    cases hkw:kwB s with
    | true =>
     have HKW:=hZz hkw
     go_wp2_with (first
      | (go_at_call 182;(with_reducible refine (HK.out _).mono ?_);rintro e w1 ⟨rfl,hw1⟩;rw [hw1];clear hw1 w1)
      | (go_at_call 185;(with_reducible refine (HQ.out _).mono ?_);rintro e w1 ⟨⟨t,b,rfl,hb⟩,hw1⟩;rw [hw1];clear hw1 w1;have HBQ:=hZz hb;clear hb;cases b))
     rw [← HP.out];exact ⟨⟨_,1,rfl,⟨fun h=>by omega,fun h=>by have:=h.2.2;rw [HKW.out] at this;cases this⟩⟩,zaiZ HB0.out _⟩
    | false =>
     have HKW:=hZz hkw
     go_wp2_with (first
      | (go_at_call 182;(with_reducible refine (HK.out _).mono ?_);rintro e w1 ⟨rfl,hw1⟩;rw [hw1];clear hw1 w1)
      | (go_at_call 185;(with_reducible refine (HQ.out _).mono ?_);rintro e w1 ⟨⟨t,b,rfl,hb⟩,hw1⟩;rw [hw1];clear hw1 w1;have HBQ:=hZz hb;clear hb;cases b))
     rw [← HP.out];exact ⟨⟨_,0,rfl,⟨fun _=>⟨(HR.out.whole h0').1 HN.out,by omega,HKW.out⟩,fun _=>rfl⟩⟩,zaiZ HB0.out _⟩
   ·have hnn':((n:Int) == (s.size:Int))=false:=by simp;omega
    have HNO:Hid (¬ NameOk s):=hZz (fun h=>hnn ((HR.out.whole h0').2 h.1));clear hnn;go_enter func149,ntmps149
    go_upto_region 3 with fail
    go_quiet (first
     | ((with_reducible refine (HC.out _).mono ?_);rintro e w2 ⟨h1,h2⟩;exact ⟨h1,_,h2⟩))
    go_wp2_with (first
     | (go_at_call 182;(with_reducible refine (HK.out _).mono ?_);rintro e w1 ⟨rfl,hw1⟩;rw [hw1];clear hw1 w1)
     | (go_at_call 185;(with_reducible refine (HQ.out _).mono ?_);rintro e w1 ⟨⟨t,b,rfl,hb⟩,hw1⟩;rw [hw1];clear hw1 w1;have HBQ:=hZz hb;clear hb;cases b))
    rw [← HP.out];exact ⟨⟨_,1,rfl,⟨fun h=>by omega,fun h=>absurd h HNO.out⟩⟩,zaiZ HB0.out _⟩
  ·have HNO:Hid (¬ NameOk s):=hZz (fun h=>h24 (by have:=h.2.1;omega))
   go_enter func149,ntmps149
   go_upto_region 3 with fail
   go_quiet (fail)
   go_wp2_with (first
    | (go_at_call 182;(with_reducible refine (HK.out _).mono ?_);rintro e w1 ⟨rfl,hw1⟩;rw [hw1];clear hw1 w1)
    | (go_at_call 185;(with_reducible refine (HQ.out _).mono ?_);rintro e w1 ⟨⟨t,b,rfl,hb⟩,hw1⟩;rw [hw1];clear hw1 w1;have HBQ:=hZz hb;clear hb;cases b))
   rw [← HP.out];exact ⟨⟨_,1,rfl,⟨fun h=>by omega,fun h=>absurd h HNO.out⟩⟩,zaiZ HB0.out _⟩
 ·have HNO:Hid (¬ NameOk s):=hZz (fun h=>h0 (by have:=h.1.1;omega))
  have he:s=ByteArray.empty:=by
   have hz:s.size=0:=by omega
   simpa using hz
  subst he;clear h0;go_enter func149,ntmps149
  go_upto_region 3 with fail
  go_quiet (fail)
  go_wp2_with (first
   | (go_at_call 182;(with_reducible refine (HK.out _).mono ?_);rintro e w1 ⟨rfl,hw1⟩;rw [hw1];clear hw1 w1)
   | (go_at_call 185;(with_reducible refine (HQ.out _).mono ?_);rintro e w1 ⟨⟨t,b,rfl,hb⟩,hw1⟩;rw [hw1];clear hw1 w1;have HBQ:=hZz hb;clear hb;cases b))
  rw [← HP.out];exact ⟨⟨_,1,rfl,⟨fun h=>by omega,fun h=>absurd h HNO.out⟩⟩,zaiZ HB0.out _⟩
theorem rtext_str (s:ByteArray) (w:World) (hs:s.size≤140737488351232):Calls prog 149 #[.agg #[.int .i64 4,.string s,.int .i64 0,.int .i64 0]] w fun e w'=>(∃ t k,e=.returned (.tuple #[.string t,.int .i64 k])∧(k=0↔StrOk s))∧Below w.heap.size w w':=by
 obtain ⟨n,hn⟩:=runAt_ex s;have HR:=hZz hn;have HC:Hid (∀ wx,Calls prog 181 #[.string s,.int .i64 0] wx fun e w'=>e=.returned (.int .i64 n)∧w'=wx):=hZz (fun wx=>rrun_any s n wx hs hn);have HK:Hid (∀ wx,Calls prog 182 #[.string s] wx fun e w'=>e=.returned (.bool (kwB s))∧w'=wx):=hZz (fun wx=>zc2Y s wx);have HQ:Hid (∀ wx,Calls prog 185 #[.string s] wx fun e w'=>(∃ t b,e=.returned (.tuple #[.string t,.bool b])∧(b=true↔StrOk s))∧w'=wx):=hZz (fun wx=>rquoted_any s wx hs);have HB0:=hZz (zabZ w (.cells #[.int .i64 4,.string s,.int .i64 0,.int .i64 0] 184));obtain ⟨P,hP⟩:∃ P:Ending→World→Prop,(fun e w'=>(∃ t k,e=.returned (.tuple #[.string t,.int .i64 k])∧(k=0↔StrOk s))∧Below w.heap.size w w')=P:=⟨_,rfl⟩
 rw [hP];have HP:=hZz hP;have hs9:(s.size:Int)≤140737488351232:=by omega
 clear hP hn;by_cases h0:(0:Int)<(s.size:Int)
 ·have h0':0<s.size:=by omega
  by_cases h24:(s.size:Int)≤24
  ·by_cases hnn:n=s.size
   ·have hnn':((n:Int) == (s.size:Int))=true:=by simp;omega
    have HN:=hZz hnn;clear hnn;go_enter func149,ntmps149
    go_upto_region 3 with fail
    go_quiet (first
     | ((with_reducible refine (HC.out _).mono ?_);rintro e w2 ⟨h1,h2⟩;exact ⟨h1,_,h2⟩))
    go_wp2_with (first
     | (go_at_call 182;(with_reducible refine (HK.out _).mono ?_);rintro e w1 ⟨rfl,hw1⟩;rw [hw1];clear hw1 w1)
     | (go_at_call 185;(with_reducible refine (HQ.out _).mono ?_);rintro e w1 ⟨⟨t,b,rfl,hb⟩,hw1⟩;rw [hw1];clear hw1 w1;have HBQ:=hZz hb;clear hb;cases b))
    ·rw [← HP.out]
     exact ⟨⟨_,1,rfl,⟨fun h=>by omega,fun h=>by have:=HBQ.out.2 h;cases this⟩⟩,zaiZ HB0.out _⟩
    ·rw [← HP.out]
     exact ⟨⟨_,0,rfl,⟨fun _=>HBQ.out.1 (by trivial),fun _=>rfl⟩⟩,zaiZ HB0.out _⟩
   ·have hnn':((n:Int) == (s.size:Int))=false:=by simp;omega
    have HNO:Hid (¬ NameOk s):=hZz (fun h=>hnn ((HR.out.whole h0').2 h.1));clear hnn;go_enter func149,ntmps149
    go_upto_region 3 with fail
    go_quiet (first
     | ((with_reducible refine (HC.out _).mono ?_);rintro e w2 ⟨h1,h2⟩;exact ⟨h1,_,h2⟩))
    go_wp2_with (first
     | (go_at_call 182;(with_reducible refine (HK.out _).mono ?_);rintro e w1 ⟨rfl,hw1⟩;rw [hw1];clear hw1 w1)
     | (go_at_call 185;(with_reducible refine (HQ.out _).mono ?_);rintro e w1 ⟨⟨t,b,rfl,hb⟩,hw1⟩;rw [hw1];clear hw1 w1;have HBQ:=hZz hb;clear hb;cases b))
    ·rw [← HP.out]
     exact ⟨⟨_,1,rfl,⟨fun h=>by omega,fun h=>by have:=HBQ.out.2 h;cases this⟩⟩,zaiZ HB0.out _⟩
    ·rw [← HP.out]
     exact ⟨⟨_,0,rfl,⟨fun _=>HBQ.out.1 (by trivial),fun _=>rfl⟩⟩,zaiZ HB0.out _⟩
  ·have HNO:Hid (¬ NameOk s):=hZz (fun h=>h24 (by have:=h.2.1;omega))
   go_enter func149,ntmps149
   go_upto_region 3 with fail
   go_quiet (fail)
   go_wp2_with (first
    | (go_at_call 182;(with_reducible refine (HK.out _).mono ?_);rintro e w1 ⟨rfl,hw1⟩;rw [hw1];clear hw1 w1)
    | (go_at_call 185;(with_reducible refine (HQ.out _).mono ?_);rintro e w1 ⟨⟨t,b,rfl,hb⟩,hw1⟩;rw [hw1];clear hw1 w1;have HBQ:=hZz hb;clear hb;cases b))
   ·rw [← HP.out]
    exact ⟨⟨_,1,rfl,⟨fun h=>by omega,fun h=>by have:=HBQ.out.2 h;cases this⟩⟩,zaiZ HB0.out _⟩
   ·rw [← HP.out]
    exact ⟨⟨_,0,rfl,⟨fun _=>HBQ.out.1 (by trivial),fun _=>rfl⟩⟩,zaiZ HB0.out _⟩
 ·have HNO:Hid (¬ NameOk s):=hZz (fun h=>h0 (by have:=h.1.1;omega))
  have he:s=ByteArray.empty:=by
   have hz:s.size=0:=by omega
   simpa using hz
  subst he;clear h0;go_enter func149,ntmps149
  go_upto_region 3 with fail
  go_quiet (fail)
  go_wp2_with (first
   | (go_at_call 182;(with_reducible refine (HK.out _).mono ?_);rintro e w1 ⟨rfl,hw1⟩;rw [hw1];clear hw1 w1)
   | (go_at_call 185;(with_reducible refine (HQ.out _).mono ?_);rintro e w1 ⟨⟨t,b,rfl,hb⟩,hw1⟩;rw [hw1];clear hw1 w1;have HBQ:=hZz hb;clear hb;cases b))
  ·rw [← HP.out]
   exact ⟨⟨_,1,rfl,⟨fun h=>by omega,fun h=>by have:=HBQ.out.2 h;cases this⟩⟩,zaiZ HB0.out _⟩
  ·rw [← HP.out]
   exact ⟨⟨_,0,rfl,⟨fun _=>HBQ.out.1 (by trivial),fun _=>rfl⟩⟩,zaiZ HB0.out _⟩
end
def Sent (w:World):Prop:=(∃ tp p,w.var? prog "strconv.ErrSyntax"=some #[.iface tp p])∧(∃ tp p,w.var? prog "strconv.ErrRange"=some #[.iface tp p])
theorem Sent.below {w w':World} (h:Sent w) (hb:Below w.heap.size w w'):Sent w':=by
 obtain ⟨⟨a,b,h1⟩,c,d,h2⟩:=h;exact ⟨⟨a,b,var_below hb h1⟩,c,d,var_below hb h2⟩
end Go.Proofs.YthiimbhjpdphpaaGreatDoor
