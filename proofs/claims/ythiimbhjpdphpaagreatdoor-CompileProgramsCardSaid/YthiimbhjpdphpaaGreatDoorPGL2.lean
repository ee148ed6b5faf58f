/- GL2 -/
import Derived.Test.YthiimbhjpdphpaaGreatDoorPGD6
import Derived.Test.YthiimbhjpdphpaaGreatDoorPShelf
import Derived.Laws.Runes
import Derived.WalkMore
set_option linter.unusedVariables false
set_option linter.unusedSimpArgs false
namespace Go.Proofs.YthiimbhjpdphpaaGreatDoor
open Go.RowKit
set_option maxRecDepth 100000
open Go.Proofs.Tryz
set_option maxHeartbeats 1000000 in
theorem valid_rune (c:Int) (w:World) (h:128≤c) (h2:c<256) :
  Calls prog 231 #[.int .i32 c] w fun e w'=>e=.returned (.bool true)∧w'=w:=by
 go_enter func231,ntmps231
 go_wp2
 go_ret;exact ⟨rfl,rfl⟩
theorem enc_two (c:Int) (h:128≤c) (h2:c<256):∃ b0 b1:UInt8,Utf8.encode c=⟨#[b0,b1]⟩∧128≤b1.toNat:=by
 have hv:Utf8.valid c=true:=by unfold Utf8.valid;simp;omega
 obtain ⟨_,_,h3⟩:=encode_facts c hv h
 have:∃ b0 b1:UInt8,Utf8.encode c=⟨#[b0,b1]⟩:=by
  unfold Utf8.encode;rw [hv];simp only [if_true];rw [if_neg (by omega),if_pos (by omega)];exact ⟨_,_,rfl⟩
 obtain ⟨b0,b1,e⟩:=this;refine ⟨b0,b1,e,?_⟩
 rw [e] at h3;exact h3 (show 1<2 by omega)
theorem sym_small:∀ b∈(⟨#[40,41,123,125,91,93,44,59,58,61,33,60,62,43,45,42,47,37]⟩:ByteArray).data.toList,b.toNat<128:=by decide
theorem sym_none (b1:UInt8) (hb:128≤b1.toNat):Lib.indexByte ((⟨#[40,41,123,125,91,93,44,59,58,61,33,60,62,43,45,42,47,37]⟩:ByteArray).extract 2 18).data.toList b1=-1:=by
 have h:∀ l:List UInt8,(∀ b∈l,b.toNat<128)→Lib.indexByte l b1=-1:=by
  intro l;induction l with
  | nil=>intro _;rfl
  | cons a l ih =>
   intro hl;have h1:=hl a (by simp);have h2:=ih (fun b hb=>hl b (by simp [hb]));unfold Lib.indexByte
   have h3:(a == b1)=false:=by
    simp
    intro e;subst e;omega
   rw [h3,h2];rfl
 exact h _ (fun b hb=>sym_small b (mem_extract hb))
set_option maxHeartbeats 2000000 in
theorem index_big (c:Int) (w:World) (h:128≤c) (h2:c<256) :
  Calls prog 210 #[.string ⟨#[40,41,123,125,91,93,44,59,58,61,33,60,62,43,45,42,47,37]⟩,.int .i32 c] w fun e w'=>e=.returned (.int .i64 (-1))∧Below w.heap.size w w':=by
 obtain ⟨b0,b1,he,hb⟩:=enc_two c h h2
 have h41:(((((⟨#[40,41,123,125,91,93,44,59,58,61,33,60,62,43,45,42,47,37]⟩:ByteArray)[1]'(show 1<18 by omega)).toNat:Int)) != (((⟨#[b0,b1]⟩:ByteArray)[1]'(show 1<2 by omega)).toNat:Int))=true:=by
  show (((41:UInt8).toNat:Int) != (b1.toNat:Int))=true
  have:¬ (((41:UInt8).toNat:Int)=(b1.toNat:Int)):=by
   have:((41:UInt8).toNat:Int)=41:=rfl
   omega
  simpa using this
 have hix:Lib.indexByte ((⟨#[40,41,123,125,91,93,44,59,58,61,33,60,62,43,45,42,47,37]⟩:ByteArray).extract 2 18).data.toList (((⟨#[b0,b1]⟩:ByteArray)[1]'(show 1<2 by omega)).toNat:Int).toNat.toUInt8=-1:=by
  have:(((⟨#[b0,b1]⟩:ByteArray)[1]'(show 1<2 by omega)).toNat:Int).toNat.toUInt8=b1:=by
   show ((b1.toNat:Int)).toNat.toUInt8=b1;rw [Int.toNat_natCast];simp
  rw [this];exact sym_none b1 hb
 have hw2:IntKind.i64.wrap 2=2:=by decide
 have HB:=hZz hb;have hconv:(convert 21 9 (.int .i32 c)).run prog w=.ok (.string ⟨#[b0,b1]⟩) w:=by rw [← he];exact run_convert_int_string w _ _ _ _ (by kernel_rfl) (by kernel_rfl)
 go_enter func210,ntmps210
 go_wp2_with (first
  | (go_at_call 231;(with_reducible refine (valid_rune _ _ h h2).mono ?_);rintro e w1 ⟨rfl,rfl⟩))
 go_wp2
 go_step3
 go_wp2_with (fail)
 refine wp_loop_rounds 1 ?_
 rw [rounds_succ];go_wp2_with (fail)
 go_step3
 go_wp2_with (fail)
 go_quiet (fail);go_wp2_with (fail)
 go_quiet (first
  | ((with_reducible refine (Tryz.strings_IndexByte _ _ _).mono ?_);rintro e w2 ⟨h1,h2⟩;exact ⟨h1,_,h2⟩))
 rw [hix];go_wp2_with (fail)
 rw [Exit.noGoto_ret]
 try go_wp2_with (fail)
 try rw [Exit.noGoto_ret]
 go_returns;exact ⟨rfl,⟨rfl,rfl,rfl,Nat.le_refl _,fun _ _=>rfl⟩⟩
section
def blaB (b:UInt8):Bool:=decide (b.toNat=32) || (decide (b.toNat=9) || decide (b.toNat=10))
def clsN (b:UInt8):Int:=if blaB b then 1 else if letB b then 2 else if digB b then 3 else if b.toNat=34 then 4 else if b.toNat=64 then 5 else 0
def ClsP (b:UInt8) (k:Int):Prop:=k=clsN b∨(k=6∧clsN b=0)
theorem contains_any (b:UInt8) (w:World) :
  Calls prog 228 #[.string ⟨#[40,41,123,125,91,93,44,59,58,61,33,60,62,43,45,42,47,37]⟩,.int .i32 b.toNat] w fun e w'=>(∃ v,e=.returned (.bool v))∧Below w.heap.size w w':=by
 have hb:=UInt8.toNat_lt b;by_cases h:b.toNat<128
 ·refine (Tryz.strings_ContainsRune_ascii _ _ w (by omega) (by omega)).mono ?_
  rintro e w' ⟨rfl,rfl⟩;exact ⟨⟨_,rfl⟩,Below.refl _ _⟩
 ·go_enter func228,ntmps228
  go_wp2_with (first
   | (go_at_call 210;(with_reducible refine (index_big _ _ (by omega) (by omega)).mono ?_);rintro e w1 ⟨rfl,hb1⟩;have HB1:=hZz hb1;clear hb1))
  go_returns;exact ⟨⟨_,rfl⟩,HB1.out⟩
attribute [local go_sem] zavY
set_option maxHeartbeats 2000000 in
theorem of_any (b:UInt8) (w:World) :
  Calls prog 208 #[.int .i32 b.toNat] w fun e w'=>(∃ k,e=.returned (.int .i64 k)∧ClsP b k)∧Below w.heap.size w w':=by
 obtain ⟨n,hn⟩:∃ n:Int,(b.toNat:Int)=n:=⟨_,rfl⟩
 have hlt:=UInt8.toNat_lt b;have HC:=hZz (contains_any b w)
 have hP:∀ k:Int,ClsP b k↔(k=(if n=32∨n=9∨n=10 then 1 else if (97≤n∧n≤122)∨n=95 then 2 else if 48≤n∧n≤57 then 3 else if n=34 then 4 else if n=64 then 5 else 0)∨(k=6∧¬ ((n=32∨n=9∨n=10)∨((97≤n∧n≤122)∨n=95)∨(48≤n∧n≤57)∨n=34∨n=64))):=by
  intro k;have e1:blaB b=decide (n=32∨n=9∨n=10):=by unfold blaB;rw [Bool.eq_iff_iff];simp;omega
  have e2:letB b=decide ((97≤n∧n≤122)∨n=95):=by unfold letB;rw [Bool.eq_iff_iff];simp;omega
  have e3:digB b=decide (48≤n∧n≤57):=by unfold digB;rw [Bool.eq_iff_iff];simp;omega
  have e4:(b.toNat=34)↔n=34:=by omega
  have e5:(b.toNat=64)↔n=64:=by omega
  unfold ClsP clsN;rw [e1,e2,e3];simp only [decide_eq_true_eq,e4,e5];split
  ·omega
  split
  ·omega
  split
  ·omega
  split
  ·omega
  split <;> omega
 have HP:=hZz hP;rw [hn] at HC ⊢;have hn0:0≤n:=by omega
 have hn1:n<256:=by omega
 clear hP hn hlt;by_cases h1:n=32
 ·subst h1
  go_enter func208,ntmps208
  go_wp2
  go_ret;exact ⟨⟨1,rfl,(HP.out 1).2 (by first | omega | simp)⟩,Below.refl _ _⟩
 by_cases h2:n=9
 ·subst h2
  go_enter func208,ntmps208
  go_wp2
  go_ret;exact ⟨⟨1,rfl,(HP.out 1).2 (by first | omega | simp)⟩,Below.refl _ _⟩
 by_cases h3:n=10
 ·subst h3
  go_enter func208,ntmps208
  go_wp2
  go_ret;exact ⟨⟨1,rfl,(HP.out 1).2 (by first | omega | simp)⟩,Below.refl _ _⟩
 have g1:(n == 32)=false:=by simpa using h1
 have g2:(n == 9)=false:=by simpa using h2
 have g3:(n == 10)=false:=by simpa using h3
 by_cases h4:n=95
 ·subst h4
  go_enter func208,ntmps208
  go_wp2
  go_ret;exact ⟨⟨2,rfl,(HP.out 2).2 (by first | omega | simp)⟩,Below.refl _ _⟩
 have g4:(n == 95)=false:=by simpa using h4
 by_cases h5:97≤n
 ·by_cases h6:n≤122
  ·go_enter func208,ntmps208
   go_wp2
   go_ret;exact ⟨⟨2,rfl,(HP.out 2).2 (by first | omega | simp)⟩,Below.refl _ _⟩
  ·have g7:¬ n≤57:=by omega
   have g8:48≤n:=by omega
   have g9:(n == 34)=false:=by simp;omega
   have g10:(n == 64)=false:=by simp;omega
   go_enter func208,ntmps208
   go_wp2_with (first
    | (go_at_call 228;(with_reducible refine HC.out.mono ?_);rintro e w1 ⟨⟨v,rfl⟩,hb1⟩;have HB1:=hZz hb1;clear hb1))
   all_goals
    go_returns
    first
     | exact ⟨⟨6,rfl,(HP.out 6).2 (by first | omega | simp)⟩,HB1.out⟩
     | exact ⟨⟨0,rfl,(HP.out 0).2 (by first | omega | simp)⟩,HB1.out⟩
 ·by_cases h8:48≤n
  ·by_cases h9:n≤57
   ·go_enter func208,ntmps208
    go_wp2
    go_ret;exact ⟨⟨3,rfl,(HP.out 3).2 (by first | omega | simp)⟩,Below.refl _ _⟩
   ·by_cases h10:n=64
    ·subst h10
     go_enter func208,ntmps208
     go_wp2
     go_ret;exact ⟨⟨5,rfl,(HP.out 5).2 (by first | omega | simp)⟩,Below.refl _ _⟩
    ·have g9:(n == 34)=false:=by simp;omega
     have g10:(n == 64)=false:=by simp;omega
     go_enter func208,ntmps208
     go_wp2_with (first
      | (go_at_call 228;(with_reducible refine HC.out.mono ?_);rintro e w1 ⟨⟨v,rfl⟩,hb1⟩;have HB1:=hZz hb1;clear hb1))
     all_goals
      go_returns
      first
       | exact ⟨⟨6,rfl,(HP.out 6).2 (by first | omega | simp)⟩,HB1.out⟩
       | exact ⟨⟨0,rfl,(HP.out 0).2 (by first | omega | simp)⟩,HB1.out⟩
  ·by_cases h10:n=34
   ·subst h10
    go_enter func208,ntmps208
    go_wp2
    go_ret;exact ⟨⟨4,rfl,(HP.out 4).2 (by first | omega | simp)⟩,Below.refl _ _⟩
   ·have g9:(n == 34)=false:=by simp;omega
    have g10:(n == 64)=false:=by simp;omega
    go_enter func208,ntmps208
    go_wp2_with (first
     | (go_at_call 228;(with_reducible refine HC.out.mono ?_);rintro e w1 ⟨⟨v,rfl⟩,hb1⟩;have HB1:=hZz hb1;clear hb1))
    all_goals
     go_returns
     first
      | exact ⟨⟨6,rfl,(HP.out 6).2 (by first | omega | simp)⟩,HB1.out⟩
      | exact ⟨⟨0,rfl,(HP.out 0).2 (by first | omega | simp)⟩,HB1.out⟩
theorem of_let (b:UInt8) (w:World) (h:letB b=true) :
  Calls prog 208 #[.int .i32 b.toNat] w fun e w'=>e=.returned (.int .i64 2)∧Below w.heap.size w w':=by
 refine (of_any b w).mono ?_
 rintro e w' ⟨⟨k,rfl,hk⟩,hb⟩
 have:clsN b=2:=by
  unfold clsN;rw [if_neg (by unfold letB at h;unfold blaB;simp at h ⊢;omega),if_pos h]
 rcases hk with hk | ⟨_,h0⟩
 ·exact ⟨by rw [hk,this],hb⟩
 ·omega
theorem of_dig (b:UInt8) (w:World) (h:digB b=true) :
  Calls prog 208 #[.int .i32 b.toNat] w fun e w'=>e=.returned (.int .i64 3)∧Below w.heap.size w w':=by
 refine (of_any b w).mono ?_
 rintro e w' ⟨⟨k,rfl,hk⟩,hb⟩
 have:clsN b=3:=by
  unfold clsN;rw [if_neg (by unfold digB at h;unfold blaB;simp at h ⊢;omega),if_neg (by unfold digB at h;unfold letB;simp at h ⊢;omega),if_pos h]
 rcases hk with hk | ⟨_,h0⟩
 ·exact ⟨by rw [hk,this],hb⟩
 ·omega
theorem of_not (b:UInt8) (w:World) :
  Calls prog 208 #[.int .i32 b.toNat] w fun e w'=>(∃ k,e=.returned (.int .i64 k)∧(letB b=false→(k == 2)=false)∧(digB b=false→(k == 3)=false)∧(k=1↔blaB b=true)∧0≤k∧k≤6)∧Below w.heap.size w w':=by
 refine (of_any b w).mono ?_
 rintro e w' ⟨⟨k,rfl,hk⟩,hb⟩;refine ⟨⟨k,rfl,?_⟩,hb⟩
 have key:(clsN b=1↔blaB b=true)∧(clsN b=2→letB b=true)∧(clsN b=3→digB b=true)∧0≤clsN b∧clsN b≤5:=by
  unfold clsN;split
  ·simp_all
  split
  ·simp_all
  split
  ·simp_all
  split
  ·simp_all
  split <;> simp_all
 obtain ⟨k1,k2,k3,k4,k5⟩:=key;rcases hk with rfl | ⟨rfl,h0⟩
 ·refine ⟨fun h=>?_,fun h=>?_,k1,k4,by omega⟩
  ·simp only [beq_eq_false_iff_ne,ne_eq]
   intro e;rw [k2 e] at h;cases h
  ·simp only [beq_eq_false_iff_ne,ne_eq]
   intro e;rw [k3 e] at h;cases h
 ·refine ⟨fun _=>rfl,fun _=>rfl,⟨fun h=>by omega,fun h=>?_⟩,by omega,by omega⟩
  have:=k1.2 h
  omega
end
section
theorem keyword_any (s:ByteArray) (w:World):Calls prog 174 #[.string s] w fun e w'=>e=.returned (.bool (kwB s))∧w'=w:=by
 go_enter func174,ntmps174
 go_wp2
 all_goals (go_ret;exact ⟨by simp_all [kwB,kwL],rfl⟩)
theorem zcbY (s:ByteArray) (w:World):Calls prog 182 #[.string s] w fun e w'=>e=.returned (.bool (kwB s))∧w'=w:=by
 go_enter func182,ntmps182
 go_wp2
 all_goals (go_ret;refine ⟨congrArg (fun b=>Ending.returned (Value.bool b)) (?_:_=kwB s),rfl⟩;rw [Bool.eq_iff_iff];simp_all [kwB,kwL,or_assoc])
attribute [local go_sem] zavY
set_option maxHeartbeats 2000000 in
theorem run_any (s:ByteArray) (w:World) (hs:s.size≤140737488351232):Calls prog 211 #[.string s] w fun e w'=>(∃ n:Nat,e=.returned (.int .i64 n)∧RunAt s n)∧Below w.heap.size w w':=by
 go_enter func211,ntmps211
 go_wp2_with (fail)
 go_loopw [3] (fun nv wr=>∃ k:Nat,k≤s.size∧nv=.int .i64 k∧Hid ((∀ i (h:i<s.size),i<k→wrdB s[i]=true)∧(0<k→∀ h:0<s.size,letB s[0]=true))∧Below w.heap.size w wr) (fun nv _=>s.size - (intOf nv).toNat)
 case atStart=>exact ⟨0,Nat.zero_le _,rfl,hZz ⟨fun i h h2=>by omega,fun h=>by omega⟩,Below.refl _ _⟩
 case round =>
  obtain ⟨k,hk,rfl,HR,hbel⟩:=hrel;have HB:=hZz hbel;clear hbel;have hk0:(0:Int)≤(k:Int):=by omega
  by_cases hlt:k<s.size
  ·have hlt':(k:Int)<(s.size:Int):=by omega
   have hk9:(k:Int)+1≤9223372036854775807:=by omega
   obtain ⟨lb,hlb⟩:∃ lb,letB s[k]=lb:=⟨_,rfl⟩
   obtain ⟨db,hdb⟩:∃ db,digB s[k]=db:=⟨_,rfl⟩
   have HL:=hZz hlb;have HD:=hZz hdb;clear hlb hdb;cases lb with
   | true =>
    go_wp2_with (first
     | (go_at_call 208;(with_reducible refine (of_let _ _ HL.out).mono ?_);rintro e w1 ⟨rfl,hb1⟩;have HB1:=hZz (zaaZ hb1 HB.out HB.out.size);clear hb1))
    refine ⟨⟨k+1,by omega,by simp,hZz ⟨fun i h h2=>?_,fun _ h=>?_⟩,HB1.out⟩,by simp [intOf];omega⟩
    ·by_cases e:i=k
     ·subst e;exact let_wrd HL.out
     ·exact HR.out.1 i h (by omega)
    ·by_cases e:k=0
     ·subst e;exact HL.out
     ·exact HR.out.2 (by omega) h
   | false =>
    by_cases hp:0<k
    ·have hp':(0:Int)<(k:Int):=by omega
     cases db with
     | true =>
      go_wp2_with (first
       | (go_at_call 208;(with_reducible refine (of_dig _ _ HD.out).mono ?_);rintro e w1 ⟨rfl,hb1⟩;have HB1:=hZz (zaaZ hb1 HB.out HB.out.size);clear hb1)
       | (go_at_call 208;(with_reducible refine (of_dig _ _ HD.out).mono ?_);rintro e w2 ⟨rfl,hb2⟩;have HB2:=hZz (zaaZ hb2 HB1.out HB1.out.size);clear hb2))
      refine ⟨⟨k+1,by omega,by simp,hZz ⟨fun i h h2=>?_,fun _ h=>?_⟩,HB2.out⟩,by simp [intOf];omega⟩
      ·by_cases e:i=k
       ·subst e;unfold wrdB;rw [HD.out];simp
       ·exact HR.out.1 i h (by omega)
      ·exact HR.out.2 hp h
     | false =>
      go_wp2_with (first
       | (go_at_call 208;(with_reducible refine (of_not _ _).mono ?_);rintro e w1 ⟨⟨c,rfl,hc2,hc3,_⟩,hb1⟩;have HB1:=hZz (zaaZ hb1 HB.out HB.out.size);have hc2':=hc2 HL.out;clear hb1 hc2 hc3)
       | (go_at_call 208;(with_reducible refine (of_not _ _).mono ?_);rintro e w2 ⟨⟨c2,rfl,hc2,hc3,_⟩,hb2⟩;have HB2:=hZz (zaaZ hb2 HB1.out HB1.out.size);have hc3':=hc3 HD.out;clear hb2 hc2 hc3))
      go_returns;exact ⟨⟨k,rfl,hk,HR.out.1,HR.out.2,fun h=>⟨fun e=>by omega,fun _=>by unfold wrdB;rw [HL.out,HD.out];rfl⟩⟩,HB2.out⟩
    ·have hp':¬ (0:Int)<(k:Int):=by omega
     go_wp2_with (first
      | (go_at_call 208;(with_reducible refine (of_not _ _).mono ?_);rintro e w1 ⟨⟨c,rfl,hc2,hc3,_⟩,hb1⟩;have HB1:=hZz (zaaZ hb1 HB.out HB.out.size);have hc2':=hc2 HL.out;clear hb1 hc2 hc3))
     go_returns;exact ⟨⟨k,rfl,hk,HR.out.1,HR.out.2,fun h=>⟨fun _=>HL.out,fun h0=>by omega⟩⟩,HB1.out⟩
  ·have e:k=s.size:=by omega
   subst e;go_wp2_with (fail)
   go_returns;exact ⟨⟨s.size,rfl,Nat.le_refl _,HR.out.1,HR.out.2,fun h=>absurd h (by omega)⟩,HB.out⟩
set_option maxHeartbeats 2000000 in
theorem digits_any (s:ByteArray) (w:World) (hs:s.size≤140737488351232):Calls prog 212 #[.string s] w fun e w'=>(∃ n:Nat,e=.returned (.int .i64 n)∧n≤s.size∧(∀ h:0<s.size,digB s[0]=true→0<n))∧Below w.heap.size w w':=by
 go_enter func212,ntmps212
 go_wp2_with (fail)
 go_loopw [3] (fun nv wr=>∃ k:Nat,k≤s.size∧nv=.int .i64 k∧Below w.heap.size w wr) (fun nv _=>s.size - (intOf nv).toNat)
 case atStart=>exact ⟨0,Nat.zero_le _,rfl,Below.refl _ _⟩
 case round =>
  obtain ⟨k,hk,rfl,hbel⟩:=hrel;have HB:=hZz hbel;clear hbel;have hk0:(0:Int)≤(k:Int):=by omega
  by_cases hlt:k<s.size
  ·have hlt':(k:Int)<(s.size:Int):=by omega
   have hk9:(k:Int)+1≤9223372036854775807:=by omega
   obtain ⟨db,hdb⟩:∃ db,digB s[k]=db:=⟨_,rfl⟩
   have HD:=hZz hdb;clear hdb;cases db with
   | true =>
    go_wp2_with (first
     | (go_at_call 208;(with_reducible refine (of_dig _ _ HD.out).mono ?_);rintro e w1 ⟨rfl,hb1⟩;have HB1:=hZz (zaaZ hb1 HB.out HB.out.size);clear hb1))
    exact ⟨⟨k+1,by omega,by simp,HB1.out⟩,by simp [intOf];omega⟩
   | false =>
    go_wp2_with (first
     | (go_at_call 208;(with_reducible refine (of_not _ _).mono ?_);rintro e w1 ⟨⟨c,rfl,hc2,hc3,_⟩,hb1⟩;have HB1:=hZz (zaaZ hb1 HB.out HB.out.size);have hc3':=hc3 HD.out;clear hb1 hc2 hc3))
    go_returns
    exact ⟨⟨k,rfl,hk,fun h h2=>by
     by_cases e:k=0
     ·subst e;rw [HD.out] at h2;cases h2
     ·omega⟩,HB1.out⟩
  ·have e:k=s.size:=by omega
   subst e;go_wp2_with (fail)
   go_returns;exact ⟨⟨s.size,rfl,Nat.le_refl _,fun h _=>h⟩,HB.out⟩
end
end Go.Proofs.YthiimbhjpdphpaaGreatDoor
