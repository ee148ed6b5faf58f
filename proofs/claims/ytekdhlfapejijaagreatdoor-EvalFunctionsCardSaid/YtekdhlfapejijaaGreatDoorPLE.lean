/- LA, LB, LC, LD, LE -/
import Derived.Test.YtekdhlfapejijaaGreatDoorPE30
set_option linter.unusedVariables false
set_option linter.unusedSimpArgs false
namespace Go.Proofs.YtekdhlfapejijaaGreatDoor
open Go.RowKit
set_option maxRecDepth 100000
set_option maxHeartbeats 8000000
open Go.Proofs.Tryz
section
def cntW (p:UInt8→Bool):List UInt8→Nat
 | []=>0
 | a :: l=>if p a then cntW p l+1 else 0
theorem cntW_spec (p:UInt8→Bool) (l:List UInt8):cntW p l≤l.length∧(∀ i (h:i<l.length),i<cntW p l→p l[i]=true)∧(∀ h:cntW p l<l.length,p (l[cntW p l])=false):=by
 induction l with
 | nil=>exact ⟨Nat.le_refl _,fun i h=>absurd h (by simp),fun h=>absurd h (by simp [cntW])⟩
 | cons a l ih =>
  obtain ⟨h1,h2,h3⟩:=ih;by_cases hp:p a=true
  ·have e:cntW p (a :: l)=cntW p l+1:=by show (if p a=true then cntW p l+1 else 0)=_;rw [if_pos hp]
   refine ⟨by rw [e];simp;omega,fun i h hi=>?_,fun h=>?_⟩
   ·cases i with
    | zero=>exact hp
    | succ i =>
     rw [e] at hi;simp only [List.getElem_cons_succ];exact h2 i (by simpa using h) (by omega)
   ·simp only [e] at h ⊢
    simp only [List.getElem_cons_succ];exact h3 (by simpa using h)
  ·have e:cntW p (a :: l)=0:=by show (if p a=true then cntW p l+1 else 0)=_;rw [if_neg hp]
   refine ⟨by rw [e];simp,fun i h hi=>by omega,fun h=>?_⟩
   simp only [e];simpa using hp
def cntB (p:UInt8→Bool) (s:ByteArray):Nat:=cntW p s.data.toList
theorem zbbY (p:UInt8→Bool) (s:ByteArray):cntB p s≤s.size∧(∀ i (h:i<s.size),i<cntB p s→p s[i]=true)∧(∀ h:cntB p s<s.size,p s[cntB p s]=false):=by
 obtain ⟨h1,h2,h3⟩:=cntW_spec p s.data.toList;have hz:s.data.toList.length=s.size:=by simp
 refine ⟨by rw [← hz];exact h1,fun i h hi=>?_,fun h=>?_⟩
 ·have:=h2 i (by rw [hz];exact h) hi
  exact this
 ·have:=h3 (by rw [hz];exact h)
  exact this
def runN (s:ByteArray):Nat:=match s.data.toList with
 | []=>0
 | a :: _=>if letB a then cntB wrdB s else 0
theorem runN_at {s:ByteArray} {n:Nat} (h:RunAt s n):n=runN s:=by
 obtain ⟨r1,r2,r3,r4⟩:=h;obtain ⟨h1,h2,h3⟩:=zbbY wrdB s;by_cases h0:0<s.size
 ·have hh:=zbtY s h0
  unfold runN;cases hl:s.data.toList with
  | nil=>rw [hl] at hh;cases hh
  | cons a l =>
   rw [hl] at hh;injection hh with hh
   simp only
   by_cases hL:letB a=true
   ·rw [if_pos hL]
    have hn:n≠0:=by
     intro e
     have:=(r4 (by omega)).1 e
     subst e;rw [← hh,hL] at this;cases this
    rcases Nat.lt_trichotomy n (cntB wrdB s) with hlt | he | hgt
    ·have a1:=(r4 (by omega)).2 (by omega)
     have a2:=h2 n (by omega) hlt;rw [a1] at a2;cases a2
    ·exact he
    ·have a1:=r2 (cntB wrdB s) (by omega) hgt
     rw [h3 (by omega)] at a1;cases a1
   ·rw [if_neg hL]
    by_cases hn:n=0
    ·exact hn
    ·have:=r3 (by omega) h0
     rw [← hh] at this;exact absurd this hL
 ·have hz:s.data.toList.length=s.size:=by simp
  have:s.data.toList=[]:=List.eq_nil_of_length_eq_zero (by rw [hz];omega)
  unfold runN;rw [this];simp only
  omega
def symB (b:UInt8):Bool:=decide (0≤Lib.indexByte bSym.data.toList b)
attribute [local go_sem] zaoY
set_option maxHeartbeats 2000000 in
theorem of_sym (b:UInt8) (w:World) (h:symB b=true) (hc:clsN b=0) (hlt:b.toNat<128) :
  Calls prog 177 #[.int .i32 b.toNat] w fun e w'=>e=.returned (.int .i64 6)∧w'=w:=by
 obtain ⟨n,hn⟩:∃ n:Int,(b.toNat:Int)=n:=⟨_,rfl⟩
 have hc1:Calls prog 233 #[.string ⟨#[40,41,123,125,91,93,44,59,58,61,33,60,62,43,45,42,47,37]⟩,.int .i32 b.toNat] w fun e w'=>e=.returned (.bool true)∧w'=w:=by
  refine (Tryz.strings_ContainsRune_ascii _ (b.toNat:Int) w (by omega) (by omega)).mono ?_
  rintro e w' ⟨rfl,rfl⟩;refine ⟨?_,rfl⟩
  have e2:(b.toNat:Int).toNat.toUInt8=b:=by rw [Int.toNat_natCast];simp
  rw [e2];unfold symB at h;exact congrArg (fun x=>Ending.returned (Value.bool x)) h
 have HC:=hZz hc1;clear hc1;have e1:blaB b=decide (n=32∨n=9∨n=10):=by unfold blaB;rw [Bool.eq_iff_iff];simp;omega
 have e2:letB b=decide ((97≤n∧n≤122)∨n=95):=by unfold letB;rw [Bool.eq_iff_iff];simp;omega
 have e3:digB b=decide (48≤n∧n≤57):=by unfold digB;rw [Bool.eq_iff_iff];simp;omega
 have e4:(b.toNat=34)↔n=34:=by omega
 have e5:(b.toNat=64)↔n=64:=by omega
 unfold clsN at hc;rw [e1,e2,e3] at hc;simp only [decide_eq_true_eq,e4,e5] at hc
 have hd:¬ (n=32∨n=9∨n=10)∧¬ ((97≤n∧n≤122)∨n=95)∧¬ (48≤n∧n≤57)∧¬ n=34∧¬ n=64:=by
  split at hc
  ·omega
  split at hc
  ·omega
  split at hc
  ·omega
  split at hc
  ·omega
  split at hc
  ·omega
  refine ⟨?_,?_,?_,?_,?_⟩ <;> assumption
 have hn0:0≤n:=by omega
 have hn1:n<128:=by omega
 rw [hn] at HC ⊢;clear hn hlt e1 e2 e3 e4 e5 hc h;have g1:(n == 32)=false:=by simp;omega
 have g2:(n == 9)=false:=by simp;omega
 have g3:(n == 10)=false:=by simp;omega
 have g4:(n == 95)=false:=by simp;omega
 have g9:(n == 34)=false:=by simp;omega
 have g10:(n == 64)=false:=by simp;omega
 by_cases h5:97≤n
 ·have h6:¬ n≤122:=by omega
  have g7:¬ n≤57:=by omega
  have g8:48≤n:=by omega
  clear hd;go_enter func177,ntmps177
  go_wp2_with (first
   | (go_at_call 233;(with_reducible refine HC.out.mono ?_);rintro e w1 ⟨rfl,hw1⟩;rw [hw1];clear hw1 w1))
  go_returns;exact ⟨rfl,rfl⟩
 ·by_cases h8:48≤n
  ·have h9:¬ n≤57:=by omega
   clear hd;go_enter func177,ntmps177
   go_wp2_with (first
    | (go_at_call 233;(with_reducible refine HC.out.mono ?_);rintro e w1 ⟨rfl,hw1⟩;rw [hw1];clear hw1 w1))
   go_returns;exact ⟨rfl,rfl⟩
  ·clear hd
   go_enter func177,ntmps177
   go_wp2_with (first
    | (go_at_call 233;(with_reducible refine HC.out.mono ?_);rintro e w1 ⟨rfl,hw1⟩;rw [hw1];clear hw1 w1))
   go_returns;exact ⟨rfl,rfl⟩
set_option maxHeartbeats 2000000 in
theorem digits_x (s:ByteArray) (w:World) (hs:s.size≤4294967296):Calls prog 182 #[.string s] w fun e w'=>e=.returned (.int .i64 (cntB digB s:Nat))∧Below w.heap.size w w':=by
 obtain ⟨N,hN⟩:∃ N,cntB digB s=N:=⟨_,rfl⟩
 obtain ⟨c1,c2,c3⟩:=zbbY digB s;rw [hN] at c1 ⊢;have HC2:Hid (∀ i (h:i<s.size),i<N→digB s[i]=true):=hZz (by rw [← hN];exact c2);have HC3:Hid (∀ h:N<s.size,digB s[N]=false):=hZz (by subst hN;exact c3);clear hN c2 c3;go_enter func182,ntmps182
 go_wp2_with (fail)
 go_loopw [3] (fun nv wr=>∃ k:Nat,k≤N∧nv=.int .i64 k∧Below w.heap.size w wr) (fun nv _=>N - (intOf nv).toNat)
 case atStart=>exact ⟨0,Nat.zero_le _,rfl,Below.refl _ _⟩
 case round =>
  obtain ⟨k,hk,rfl,hbel⟩:=hrel;have HB:=hZz hbel;clear hbel;have hk0:(0:Int)≤(k:Int):=by omega
  by_cases hkN:k=N
  ·subst hkN
   by_cases hlt:k<s.size
   ·have hlt':(k:Int)<(s.size:Int):=by omega
    have HD:=hZz (HC3.out hlt)
    go_wp2_with (first
     | (go_at_call 177;(with_reducible refine (of_not _ _).mono ?_);rintro e w1 ⟨⟨c,rfl,hc2,hc3,_⟩,hb1⟩;have HB1:=hZz (zaaZ hb1 HB.out HB.out.size);have hc3':=hc3 HD.out;clear hb1 hc2 hc3))
    go_returns;exact ⟨rfl,HB1.out⟩
   ·have e:k=s.size:=by omega
    subst e;go_wp2_with (fail)
    go_returns;exact ⟨rfl,HB.out⟩
  ·have hlt:k<s.size:=by omega
   have hlt':(k:Int)<(s.size:Int):=by omega
   have hk9:(k:Int)+1≤9223372036854775807:=by omega
   have HD:=hZz (HC2.out k hlt (by omega))
   go_wp2_with (first
    | (go_at_call 177;(with_reducible refine (of_dig _ _ HD.out).mono ?_);rintro e w1 ⟨rfl,hb1⟩;have HB1:=hZz (zaaZ hb1 HB.out HB.out.size);clear hb1))
   exact ⟨⟨k+1,by omega,by simp,HB1.out⟩,by simp [intOf];omega⟩
def noCom (s:ByteArray):Bool:=decide (s.data.toList[cntB blaB s]?≠some 47)
theorem noCom_at {s:ByteArray} (h:noCom s=true) (hl:cntB blaB s<s.size):s[cntB blaB s]≠47:=by
 unfold noCom at h;intro e;apply of_decide_eq_true h
 rw [List.getElem?_eq_getElem (by simpa using hl)];exact congrArg some e
set_option maxHeartbeats 4000000 in
theorem skip_x (s:ByteArray) (w:World) (hs:s.size≤4294967296) (hnc:noCom s=true):Calls prog 124 #[.string s] w fun e w'=>e=.returned (.int .i64 (cntB blaB s:Nat))∧Below w.heap.size w w':=by
 obtain ⟨N,hN⟩:∃ N,cntB blaB s=N:=⟨_,rfl⟩
 obtain ⟨c1,c2,c3⟩:=zbbY blaB s;have c4:=noCom_at hnc;rw [hN] at c1 ⊢;have HC2:Hid (∀ i (h:i<s.size),i<N→blaB s[i]=true):=hZz (by rw [← hN];exact c2);have HC3:Hid (∀ h:N<s.size,blaB s[N]=false∧s[N]≠47):=hZz (by subst hN;exact fun h=>⟨c3 h,c4 h⟩);clear hN c2 c3 c4 hnc;go_enter func124,ntmps124
 go_wp2_with (fail)
 go_loopw [3] (fun nv wr=>∃ k:Nat,k≤N∧nv=.int .i64 k∧Below w.heap.size w wr) (fun nv _=>N - (intOf nv).toNat)
 case atStart=>exact ⟨0,Nat.zero_le _,rfl,Below.refl _ _⟩
 case round =>
  obtain ⟨k,hk,rfl,hbel⟩:=hrel;have HB:=hZz hbel;clear hbel;have hk0:(0:Int)≤(k:Int):=by omega
  by_cases hkN:k=N
  ·subst hkN
   by_cases hlt:k<s.size
   ·have hlt':(k:Int)<(s.size:Int):=by omega
    have hs9:(s.size:Int)≤4294967296:=by omega
    have HBB:=hZz (HC3.out hlt).1
    have hpp:Lib.hasPrefix (s.extract k s.size).data.toList [47,47]=false:=by
     cases hp:Lib.hasPrefix (s.extract k s.size).data.toList [47,47] with
     | false=>rfl
     | true =>
      have h1:=ext_head s k hlt;rw [pre_head hp] at h1;injection h1 with h1
      exact absurd h1.symm (HC3.out hlt).2
    have HPX:Hid (∀ wx,Calls prog 178 #[.string (s.extract k s.size),.string ⟨#[47,47]⟩] wx fun e w'=>e=.returned (.bool false)∧w'=wx):=hZz (fun wx=>by rw [← hpp];exact Tryz.strings_HasPrefix _ _ wx);clear hpp
    go_wp2_with (first
     | (go_at_call 177;(with_reducible refine (of_not _ _).mono ?_);rintro e w1 ⟨⟨c,rfl,_,_,hc1,_⟩,hb1⟩;have HB1:=hZz (zaaZ hb1 HB.out HB.out.size);have hc:(c == 1)=false:=(by simp only [beq_eq_false_iff_ne,ne_eq];intro e;have:=hc1.1 e;rw [HBB.out] at this;cases this);clear hb1 hc1)
     | (go_at_call 178;(with_reducible refine (HPX.out _).mono ?_);rintro e w2 ⟨rfl,hw2⟩;rw [hw2];clear hw2 w2))
    go_returns;exact ⟨rfl,HB1.out⟩
   ·have e:k=s.size:=by omega
    subst e;go_wp2_with (fail)
    go_returns;exact ⟨rfl,HB.out⟩
  ·have hlt:k<s.size:=by omega
   have hlt':(k:Int)<(s.size:Int):=by omega
   have hk9:(k:Int)+1≤9223372036854775807:=by omega
   have HBB:=hZz (HC2.out k hlt (by omega))
   go_wp2_with (first
    | (go_at_call 177;(with_reducible refine (of_not _ _).mono ?_);rintro e w1 ⟨⟨c,rfl,_,_,hc1,_⟩,hb1⟩;have HB1:=hZz (zaaZ hb1 HB.out HB.out.size);have hc:c=1:=hc1.2 HBB.out;subst hc;clear hb1 hc1))
   exact ⟨⟨k+1,by omega,by simp,HB1.out⟩,by simp [intOf];omega⟩
def sym2 (s:ByteArray):Bool:=(s.toList == [61,61]) || (s.toList == [33,61]) || (s.toList == [60,61]) || (s.toList == [62,61])
theorem symbol2_x (s:ByteArray) (w:World) (h1:s.size≠1):Calls prog 184 #[.string s] w fun e w'=>e=.returned (.bool (sym2 s))∧w'=w:=by
 have h1':((s.size:Int) == 1)=false:=by simp;omega
 go_enter func184,ntmps184
 go_wp2_with (fail)
 all_goals (go_returns;exact ⟨by simp_all [sym2],rfl⟩)
theorem ne_size {s:ByteArray} {l:List UInt8} (h:s.size≠l.length):(s.toList == l)=false:=by
 simp only [beq_eq_false_iff_ne,ne_eq];intro e;apply h
 have:=congrArg List.length e
 rw [Lib.toList_data] at this;simpa using this
theorem symbol1_x (s:ByteArray) (w:World) (h1:s.size=1) (h:∀ h:0<s.size,symB s[0]=true∧clsN s[0]=0∧s[0].toNat<128) (hx:(s.toList == [33])=false):Calls prog 184 #[.string s] w fun e w'=>e=.returned (.bool true)∧w'=w:=by
 have h0:0<s.size:=by omega
 have h0':(0:Int)<(s.size:Int):=by omega
 have h1':((s.size:Int) == 1)=true:=by simp;omega
 have n1:(s.toList == [61,61])=false:=ne_size (by rw [h1];decide);have n2:(s.toList == [33,61])=false:=ne_size (by rw [h1];decide);have n3:(s.toList == [60,61])=false:=ne_size (by rw [h1];decide);have n4:(s.toList == [62,61])=false:=ne_size (by rw [h1];decide);have hx':(s.toList != [33])=true:=by simpa using hx
 have HH:=hZz (h h0);clear h;go_enter func184,ntmps184
 go_wp2_with (first
  | (go_at_call 177;(with_reducible refine (of_sym _ _ HH.out.1 HH.out.2.1 HH.out.2.2).mono ?_);rintro e w1 ⟨rfl,hw1⟩;rw [hw1];clear hw1 w1))
 go_returns;exact ⟨rfl,rfl⟩
end
section
theorem own_strX {w:World} {base n:Nat} {v:Value} {ys:List Int} (h:w.ownsRow base 5 1 v n (ys.map (Value.int .u8))):(convert 187 9 v).run prog w=.ok (.string (strOfNums ys)) w:=by
 have h0:=h;rcases h.2 with ⟨rfl,h9⟩ | ⟨g,cap,cur,rfl,_,_,h3,_⟩
 ·have:ys=[]:=List.eq_nil_of_length_eq_zero (by have:=h.1;rw [h9] at this;simpa using this)
  subst this;exact run_convert_bytes_nil _ _ _ underlying187 underlying5 0 0 _ underlying9
 ·have hs:SlAt w (some ⟨g,0,none⟩) 1 (fun y:Int=>[Value.int .u8 y]) ys:=SlAt.of_own h0 (by rw [List.map_eq_flatMap]) (fun _=>rfl) (by omega)
  have hn:ys.length=n:=by have:=h0.1;simpa using this
  refine run_convert_bytes_arg _ _ _ underlying187 underlying5 g 0 n cap ys hn (fun i hi=>?_) _ underlying9
  have hi':i<ys.length:=by omega
  have:=hs.cell (n:=i) hi' (j:=0) (v:=.int .u8 ys[i]) rfl
  simpa [List.getD_eq_getElem?_getD,hi'] using this
def plB (b:UInt8):Bool:=decide (32≤b.toNat) && (decide (b.toNat≤126) && (decide (b.toNat≠34) && decide (b.toNat≠92)))
theorem plB_iff {b:UInt8} (h:plB b=true):32≤b.toNat∧b.toNat≤126∧b.toNat≠34∧b.toNat≠92:=by
 unfold plB at h;simp only [Bool.and_eq_true,decide_eq_true_eq] at h;exact ⟨h.1,h.2.1,h.2.2.1,h.2.2.2⟩
def ysOf (s:ByteArray) (n:Nat):List Int:=((s.data.toList.drop 1).take n).map fun b=>(b.toNat:Int)
theorem ysOf_succ {s:ByteArray} {n:Nat} (h:n+1<s.size):ysOf s (n+1)=ysOf s n ++ [(s[n+1].toNat:Int)]:=by
 unfold ysOf
 have e:(s.data.toList.drop 1)[n]? = some s[n+1]:=by
  rw [List.getElem?_drop,Nat.add_comm 1 n,List.getElem?_eq_getElem (by simpa using h)];rfl
 rw [List.take_add_one,e];simp
attribute [local go_sem] zacZ zaoY
theorem text_x (s:ByteArray) (w:World) (N:Nat) (hs:s.size≤4294967296) (hN:N≤200) (hp:∀ i (h:i<s.size),1≤i→i<N+1→plB s[i]=true) (hl:N+1<s.size) (hq:s[N+1]=34):Calls prog 183 #[.string s] w fun e w'=>e=.returned (.tuple #[.string (strOfNums (ysOf s N)),.int .i64 ((N+2:Nat):Int),.int .i64 0])∧Below w.heap.size w w':=by
 obtain ⟨i0,hi,hz0,hz1,hz2⟩:=info_parts Tryz.infoU8;obtain ⟨P,hP⟩:∃ P:Ending→World→Prop,(fun e w'=>e=.returned (.tuple #[.string (strOfNums (ysOf s N)),.int .i64 ((N+2:Nat):Int),.int .i64 0])∧Below w.heap.size w w')=P:=⟨_,rfl⟩
 rw [hP];have HP:=hZz hP;have HPL:=hZz hp;have hq3:(s[N+1].toNat:Int)=34:=by rw [hq];rfl
 have HQ:=hZz hq3;clear hP hp hq hq3;go_enter func183,ntmps183
 go_wp2_with (fail)
 go_loopw [5,6] (fun ov iv wr=>∃ (n:Nat),n≤N∧iv=.int .i64 ((n+1:Nat):Int)∧Hid (wr.ownsRow w.heap.size 5 1 ov n ((ysOf s n).map (Value.int .u8)))∧Below w.heap.size w wr) (fun _ iv _=>N+1 - (intOf iv).toNat)
 case atStart=>exact ⟨0,Nat.zero_le _,rfl,hZz (World.ownsRow_nil _ _ _ _),Below.refl _ _⟩
 case round =>
  obtain ⟨n,hn,rfl,HO,hbel⟩:=hrel;have HB:=hZz hbel;clear hbel;obtain ⟨k,hk⟩:∃ k,n+1=k:=⟨_,rfl⟩
  have hconv:=own_strX HO.out;obtain ⟨oA,ocap,hov⟩:=zaeZ HO.out;subst hov;have hk0:(0:Int)≤(k:Int):=by omega
  have hn0:(0:Int)≤(n:Int):=by omega
  have hs9:(s.size:Int)≤4294967296:=by omega
  have hlt:k<s.size:=by omega
  have hlt':(k:Int)<(s.size:Int):=by omega
  have hk9:(k:Int)+1≤4294967296:=by omega
  by_cases hnN:n=N
  ·subst hnN
   have hq3:(s[k].toNat:Int)=34:=by subst hk;exact HQ.out
   have hlo:¬ (s[k].toNat:Int)<32:=by omega
   have hhi:¬ (126:Int)<(s[k].toNat:Int):=by omega
   have hq':((s[k].toNat:Int) == 34)=true:=by simpa using hq3
   clear hq3;rw [hk];go_wp2_with (fail)
   rw [← HP.out];exact ⟨by rw [← hk];push_cast;rfl,HB.out⟩
  ·obtain ⟨p1,p2,p3,p4⟩:=plB_iff (HPL.out k hlt (by omega) (by omega))
   have hlo:¬ (s[k].toNat:Int)<32:=by omega
   have hhi:¬ (126:Int)<(s[k].toNat:Int):=by omega
   have hq':((s[k].toNat:Int) == 34)=false:=by simp;omega
   have hb':((s[k].toNat:Int) == 92)=false:=by simp;omega
   have hf':((n:Int) == 200)=false:=by simp;omega
   clear p1 p2 p3 p4;have HYS:=hZz (ysOf_succ (s:=s) (n:=n) (by omega));have HK:=hZz hk;rw [hk]
   go_wp2_with (first
    | (at_builtin;refine zakZ rfl (.tmp 62) (.tmp 66) 187 rfl i0 _ 1 underlying187 hi hz0 hz1 hz2 rfl (by omega) rfl HO.out [.int .u8 ((s[k]).toNat)] (by simp [go_sem]) rfl (by simp [Value.oneCell']) (by omega) (by omega) HB.out.size ?_;intro v' w3 hown3 hb3 hs3 hg3;have HO3:=hZz hown3;have HB3:=hZz hb3;clear hown3 hb3 hs3 hg3))
   refine ⟨⟨n+1,by omega,by rw [← HK.out];push_cast;rfl,hZz ?_,HB.out.trans HB3.out⟩,by rw [← HK.out];simp [intOf];omega⟩
   rw [HYS.out]
   have:=HO3.out
   simp only [List.map_append,List.map_cons,List.map_nil];have e:=HK.out;subst e;exact this
theorem run_x {s:ByteArray} {w:World} {N:Nat} (hs:s.size≤4294967296) (hN:runN s=N):Calls prog 180 #[.string s] w fun e w'=>e=.returned (.int .i64 (N:Int))∧Below w.heap.size w w':=by
 refine (run_any s w hs).mono ?_
 rintro e w' ⟨⟨n,rfl,hr⟩,hb⟩;exact ⟨by rw [runN_at hr,hN],hb⟩
theorem runN_le (s:ByteArray):runN s≤s.size:=by
 unfold runN;split
 ·exact Nat.zero_le _
 ·split
  ·exact (zbbY wrdB s).1
  ·exact Nat.zero_le _
def TokR (w:World) (kind:Int) (t:ByteArray) (i:Int) (n:Nat) (e:Ending) (w':World):Prop:=e=.returned (.tuple #[.agg #[.int .i64 kind,.string t,.int .i64 i,.int .i64 0],.int .i64 (n:Int),.int .i64 0])∧Below w.heap.size w w'
set_option maxHeartbeats 16000000 in
theorem token_word (s:ByteArray) (w:World) (hs:s.size≤4294967296) (h0:0<s.size) (N:Nat) (hN:runN s=N) (hl:letB s[0]=true) (h24:N≤24) (hk:kwB (s.extract 0 N)=false):Calls prog 125 #[.string s] w fun e w'=>TokR w 1 (s.extract 0 N) 0 N e w':=by
 have h0':(0:Int)<(s.size:Int):=by omega
 have hs9:(s.size:Int)≤4294967296:=by omega
 obtain ⟨P,hP⟩:∃ P:Ending→World→Prop,(fun e w'=>TokR w 1 (s.extract 0 N) 0 N e w')=P:=⟨_,rfl⟩
 rw [hP];have HP:=hZz hP;clear hP;have HL:=hZz hl;have hn2:N≤s.size:=by rw [← hN];exact runN_le s
 have hn3:(N:Int)≤(s.size:Int):=by omega
 have hn0:(0:Int)≤(N:Int):=by omega
 have h24':¬ (24:Int)<(N:Int):=by omega
 have HK:=hZz hk;have HN:=hZz hN;clear hl hk hN;go_enter func125,ntmps125
 go_upto_region 2 with fail
 obtain ⟨g2,hg2⟩:∃ g,w.heap.size=g:=⟨_,rfl⟩
 obtain ⟨g5,hg5⟩:∃ g,g2+1=g:=⟨_,rfl⟩
 obtain ⟨W,hW⟩:∃ W,(w.alloc (.cells #[.int .i64 0,.string ⟨#[]⟩,.int .i64 0,.int .i64 0] 161)).alloc (.cells #[.int .i64 0,.string ⟨#[]⟩,.int .i64 0,.int .i64 0] 161)=W:=⟨_,rfl⟩
 have HT:Hid (TkSt w W g2 g5):=hZz (by
  rw [← hW,← hg5,← hg2];exact ⟨(Blk.new w _ _).alloc _,Blk.second _ _ _ _,zasY _ _ _⟩)
 rw [hW,hg2,hg5];have HG:Hid (w.heap.size≤g2):=hZz (by omega);clear hW;have HG5:Hid (g2≠g5):=hZz (by omega);have hne:g2≠g5:=HG5.out;clear hg2 hg5
 go_wp2_with (first
  | (go_at_call 177;(with_reducible refine (of_let _ _ HL.out).mono ?_);rintro e w1 ⟨rfl,hb1⟩;have HT1:=hZz (HT.out.below hb1);clear hb1)
  | (go_at_call 180;(with_reducible refine (run_x hs HN.out).mono ?_);rintro e w2 ⟨rfl,hb2⟩;have HT2:=hZz (HT1.out.below hb2);have p2:=blk4 HT2.out.b2;have p5:=blk4 HT2.out.b5;have z0:=HT2.out.b2.frozen 0;have z1:=HT2.out.b2.frozen 1;have z2:=HT2.out.b2.frozen 2;have z3:=HT2.out.b2.frozen 3;clear hb2)
  | (go_at_call 181;(with_reducible refine (zciY _ _).mono ?_);rintro e w3 ⟨rfl,hw3⟩;rw [hw3];clear hw3 w3;rw [HK.out]))
 (refine bodyPost_ret (by simp [results,Tryz.results125,go_sem,p2];try rfl) rfl ?_)
 rw [← HP.out];exact ⟨rfl,st4 HT2.out.hB HG.out _ _ _ _⟩
set_option maxHeartbeats 16000000 in
theorem token_key (s:ByteArray) (w:World) (hs:s.size≤4294967296) (h0:0<s.size) (N:Nat) (hN:runN s=N) (hl:letB s[0]=true) (h24:N≤24) (hk:kwB (s.extract 0 N)=true):Calls prog 125 #[.string s] w fun e w'=>TokR w 2 (s.extract 0 N) 0 N e w':=by
 have h0':(0:Int)<(s.size:Int):=by omega
 have hs9:(s.size:Int)≤4294967296:=by omega
 obtain ⟨P,hP⟩:∃ P:Ending→World→Prop,(fun e w'=>TokR w 2 (s.extract 0 N) 0 N e w')=P:=⟨_,rfl⟩
 rw [hP];have HP:=hZz hP;clear hP;have HL:=hZz hl;have hn2:N≤s.size:=by rw [← hN];exact runN_le s
 have hn3:(N:Int)≤(s.size:Int):=by omega
 have hn0:(0:Int)≤(N:Int):=by omega
 have h24':¬ (24:Int)<(N:Int):=by omega
 have HK:=hZz hk;have HN:=hZz hN;clear hl hk hN;go_enter func125,ntmps125
 go_upto_region 2 with fail
 obtain ⟨g2,hg2⟩:∃ g,w.heap.size=g:=⟨_,rfl⟩
 obtain ⟨g5,hg5⟩:∃ g,g2+1=g:=⟨_,rfl⟩
 obtain ⟨W,hW⟩:∃ W,(w.alloc (.cells #[.int .i64 0,.string ⟨#[]⟩,.int .i64 0,.int .i64 0] 161)).alloc (.cells #[.int .i64 0,.string ⟨#[]⟩,.int .i64 0,.int .i64 0] 161)=W:=⟨_,rfl⟩
 have HT:Hid (TkSt w W g2 g5):=hZz (by
  rw [← hW,← hg5,← hg2];exact ⟨(Blk.new w _ _).alloc _,Blk.second _ _ _ _,zasY _ _ _⟩)
 rw [hW,hg2,hg5];have HG:Hid (w.heap.size≤g2):=hZz (by omega);clear hW;have HG5:Hid (g2≠g5):=hZz (by omega);have hne:g2≠g5:=HG5.out;clear hg2 hg5
 go_wp2_with (first
  | (go_at_call 177;(with_reducible refine (of_let _ _ HL.out).mono ?_);rintro e w1 ⟨rfl,hb1⟩;have HT1:=hZz (HT.out.below hb1);clear hb1)
  | (go_at_call 180;(with_reducible refine (run_x hs HN.out).mono ?_);rintro e w2 ⟨rfl,hb2⟩;have HT2:=hZz (HT1.out.below hb2);have p2:=blk4 HT2.out.b2;have p5:=blk4 HT2.out.b5;have z0:=HT2.out.b2.frozen 0;have z1:=HT2.out.b2.frozen 1;have z2:=HT2.out.b2.frozen 2;have z3:=HT2.out.b2.frozen 3;clear hb2)
  | (go_at_call 181;(with_reducible refine (zciY _ _).mono ?_);rintro e w3 ⟨rfl,hw3⟩;rw [hw3];clear hw3 w3;rw [HK.out]))
 (refine bodyPost_ret (by simp [results,Tryz.results125,go_sem,p2];try rfl) rfl ?_)
 rw [← HP.out];exact ⟨rfl,st4 HT2.out.hB HG.out _ _ _ _⟩
set_option maxHeartbeats 16000000 in
theorem token_int (s:ByteArray) (w:World) (hs:s.size≤4294967296) (h0:0<s.size) (N:Nat) (v:Int) (hN:cntB digB s=N) (hd:digB s[0]=true) (hv:parseR (s.extract 0 N)=(v,0)) (hw:Sent w):Calls prog 125 #[.string s] w fun e w'=>TokR w 3 ⟨#[]⟩ v N e w':=by
 have h0':(0:Int)<(s.size:Int):=by omega
 have hs9:(s.size:Int)≤4294967296:=by omega
 obtain ⟨P,hP⟩:∃ P:Ending→World→Prop,(fun e w'=>TokR w 3 ⟨#[]⟩ v N e w')=P:=⟨_,rfl⟩
 rw [hP];have HP:=hZz hP;clear hP;have HD:=hZz hd
 have hl:letB s[0]=false:=by
  unfold digB at hd;unfold letB;simp at hd ⊢
  omega
 have HL:=hZz hl;have hn2:N≤s.size:=by rw [← hN];exact (zbbY digB s).1
 have hn3:(N:Int)≤(s.size:Int):=by omega
 have hn0:(0:Int)≤(N:Int):=by omega
 have HVV:=hZz hv;have HN:=hZz hN;have HV:=hZz hw;clear hl hd hN hv hw;go_enter func125,ntmps125
 go_upto_region 2 with fail
 obtain ⟨g2,hg2⟩:∃ g,w.heap.size=g:=⟨_,rfl⟩
 obtain ⟨g5,hg5⟩:∃ g,g2+1=g:=⟨_,rfl⟩
 obtain ⟨W,hW⟩:∃ W,(w.alloc (.cells #[.int .i64 0,.string ⟨#[]⟩,.int .i64 0,.int .i64 0] 161)).alloc (.cells #[.int .i64 0,.string ⟨#[]⟩,.int .i64 0,.int .i64 0] 161)=W:=⟨_,rfl⟩
 have HT:Hid (TkSt w W g2 g5):=hZz (by
  rw [← hW,← hg5,← hg2];exact ⟨(Blk.new w _ _).alloc _,Blk.second _ _ _ _,zasY _ _ _⟩)
 rw [hW,hg2,hg5];have HG:Hid (w.heap.size≤g2):=hZz (by omega);have HVW:Hid (Sent W):=hZz (HV.out.below HT.out.hB);clear hW;have HG5:Hid (g2≠g5):=hZz (by omega);have hne:g2≠g5:=HG5.out;clear hg2 hg5
 go_wp2_with (first
  | (go_at_call 177;(with_reducible refine (of_dig _ _ HD.out).mono ?_);rintro e w1 ⟨rfl,hb1⟩;have HT1:=hZz (HT.out.below hb1);have HV1:=hZz (HVW.out.below hb1);clear hb1)
  | (go_at_call 182;(with_reducible refine (digits_x _ _ hs).mono ?_);rintro e w2 ⟨rfl,hb2⟩;have HT2:=hZz (HT1.out.below hb2);have HV2:=hZz (HV1.out.below hb2);rw [HN.out];clear hb2)
  | (go_at_call 101;(with_reducible refine (parseE_any _ _ (by simp;omega) HV2.out).mono ?_);rintro e w3 ⟨rfl,hb3⟩;rw [HVV.out];have HT3:=hZz (HT2.out.below hb3);have p2:=blk4 HT3.out.b2;have p5:=blk4 HT3.out.b5;have z0:=HT3.out.b2.frozen 0;have z1:=HT3.out.b2.frozen 1;have z2:=HT3.out.b2.frozen 2;have z3:=HT3.out.b2.frozen 3;clear hb3))
 (refine bodyPost_ret (by simp [results,Tryz.results125,go_sem,p2];try rfl) rfl ?_)
 rw [← HP.out];exact ⟨rfl,st4 HT3.out.hB HG.out _ _ _ _⟩
theorem of_34 (b:UInt8) (w:World) (h:b=34):Calls prog 177 #[.int .i32 b.toNat] w fun e w'=>e=.returned (.int .i64 4)∧Below w.heap.size w w':=by
 refine (of_any b w).mono ?_
 rintro e w' ⟨⟨k,rfl,hk⟩,hb⟩
 have:clsN b=4:=by subst h;decide
 rcases hk with hk | ⟨_,h0⟩
 ·exact ⟨by rw [hk,this],hb⟩
 ·omega
theorem of_64 (b:UInt8) (w:World) (h:b=64):Calls prog 177 #[.int .i32 b.toNat] w fun e w'=>e=.returned (.int .i64 5)∧Below w.heap.size w w':=by
 refine (of_any b w).mono ?_
 rintro e w' ⟨⟨k,rfl,hk⟩,hb⟩
 have:clsN b=5:=by subst h;decide
 rcases hk with hk | ⟨_,h0⟩
 ·exact ⟨by rw [hk,this],hb⟩
 ·omega
set_option maxHeartbeats 16000000 in
theorem token_str (s:ByteArray) (w:World) (hs:s.size≤4294967296) (h0:0<s.size) (N:Nat) (hN:N≤200) (hb:s[0]=34) (hp:∀ i (h:i<s.size),1≤i→i<N+1→plB s[i]=true) (hl:N+1<s.size) (hq:s[N+1]=34):Calls prog 125 #[.string s] w fun e w'=>TokR w 4 (strOfNums (ysOf s N)) 0 (N+2) e w':=by
 have h0':(0:Int)<(s.size:Int):=by omega
 have hs9:(s.size:Int)≤4294967296:=by omega
 obtain ⟨P,hP⟩:∃ P:Ending→World→Prop,(fun e w'=>TokR w 4 (strOfNums (ysOf s N)) 0 (N+2) e w')=P:=⟨_,rfl⟩
 rw [hP];have HP:=hZz hP;clear hP;have HL:=hZz hb;have HP1:=hZz hp;have HQ:=hZz hq;clear hb hp hq;go_enter func125,ntmps125
 go_upto_region 2 with fail
 obtain ⟨g2,hg2⟩:∃ g,w.heap.size=g:=⟨_,rfl⟩
 obtain ⟨g5,hg5⟩:∃ g,g2+1=g:=⟨_,rfl⟩
 obtain ⟨W,hW⟩:∃ W,(w.alloc (.cells #[.int .i64 0,.string ⟨#[]⟩,.int .i64 0,.int .i64 0] 161)).alloc (.cells #[.int .i64 0,.string ⟨#[]⟩,.int .i64 0,.int .i64 0] 161)=W:=⟨_,rfl⟩
 have HT:Hid (TkSt w W g2 g5):=hZz (by
  rw [← hW,← hg5,← hg2];exact ⟨(Blk.new w _ _).alloc _,Blk.second _ _ _ _,zasY _ _ _⟩)
 rw [hW,hg2,hg5];have HG:Hid (w.heap.size≤g2):=hZz (by omega);clear hW;have HG5:Hid (g2≠g5):=hZz (by omega);have hne:g2≠g5:=HG5.out;clear hg2 hg5
 go_wp2_with (first
  | (go_at_call 177;(with_reducible refine (of_34 _ _ HL.out).mono ?_);rintro e w1 ⟨rfl,hb1⟩;have HT1:=hZz (HT.out.below hb1);clear hb1)
  | (go_at_call 183;(with_reducible refine (text_x _ _ N hs hN HP1.out hl HQ.out).mono ?_);rintro e w2 ⟨rfl,hb2⟩;have HT2:=hZz (HT1.out.below hb2);have p2:=blk4 HT2.out.b2;have p5:=blk4 HT2.out.b5;have z0:=HT2.out.b2.frozen 0;have z1:=HT2.out.b2.frozen 1;have z2:=HT2.out.b2.frozen 2;have z3:=HT2.out.b2.frozen 3;clear hb2))
 (refine bodyPost_ret (by simp [results,Tryz.results125,go_sem,p2];try rfl) rfl ?_)
 rw [← HP.out];exact ⟨rfl,st4 HT2.out.hB HG.out _ _ _ _⟩
set_option maxHeartbeats 16000000 in
theorem token_host (s:ByteArray) (w:World) (hs:s.size≤4294967296) (h0:0<s.size) (N:Nat) (hb:s[0]=64) (hN:runN (s.extract 1 s.size)=N) (hN0:0<N) (h24:N≤24):Calls prog 125 #[.string s] w fun e w'=>TokR w 6 (s.extract 1 (N+1)) 0 (N+1) e w':=by
 have h0':(0:Int)<(s.size:Int):=by omega
 have hs9:(s.size:Int)≤4294967296:=by omega
 obtain ⟨P,hP⟩:∃ P:Ending→World→Prop,(fun e w'=>TokR w 6 (s.extract 1 (N+1)) 0 (N+1) e w')=P:=⟨_,rfl⟩
 rw [hP];have HP:=hZz hP;clear hP;have HL:=hZz hb;have HN:=hZz hN;have hn2:N+1≤s.size:=by have:=runN_le (s.extract 1 s.size);rw [hN] at this;simp at this;omega
 have hn3:(N:Int)+1≤(s.size:Int):=by omega
 have hn0:(0:Int)≤(N:Int):=by omega
 have hn4:(1:Int)≤(N:Int)+1:=by omega
 have h1s:(1:Int)≤(s.size:Int):=by omega
 have h24':¬ (24:Int)<(N:Int):=by omega
 have hz':((N:Int) == 0)=false:=by simp;omega
 clear hb hN;go_enter func125,ntmps125
 go_upto_region 2 with fail
 obtain ⟨g2,hg2⟩:∃ g,w.heap.size=g:=⟨_,rfl⟩
 obtain ⟨g5,hg5⟩:∃ g,g2+1=g:=⟨_,rfl⟩
 obtain ⟨W,hW⟩:∃ W,(w.alloc (.cells #[.int .i64 0,.string ⟨#[]⟩,.int .i64 0,.int .i64 0] 161)).alloc (.cells #[.int .i64 0,.string ⟨#[]⟩,.int .i64 0,.int .i64 0] 161)=W:=⟨_,rfl⟩
 have HT:Hid (TkSt w W g2 g5):=hZz (by
  rw [← hW,← hg5,← hg2];exact ⟨(Blk.new w _ _).alloc _,Blk.second _ _ _ _,zasY _ _ _⟩)
 rw [hW,hg2,hg5];have HG:Hid (w.heap.size≤g2):=hZz (by omega);clear hW;have HG5:Hid (g2≠g5):=hZz (by omega);have hne:g2≠g5:=HG5.out;clear hg2 hg5
 go_wp2_with (first
  | (go_at_call 177;(with_reducible refine (of_64 _ _ HL.out).mono ?_);rintro e w1 ⟨rfl,hb1⟩;have HT1:=hZz (HT.out.below hb1);clear hb1)
  | (go_at_call 180;(with_reducible refine (run_x (by simp;omega) HN.out).mono ?_);rintro e w2 ⟨rfl,hb2⟩;have HT2:=hZz (HT1.out.below hb2);have p2:=blk4 HT2.out.b2;have p5:=blk4 HT2.out.b5;have z0:=HT2.out.b2.frozen 0;have z1:=HT2.out.b2.frozen 1;have z2:=HT2.out.b2.frozen 2;have z3:=HT2.out.b2.frozen 3;clear hb2))
 (refine bodyPost_ret (by simp [results,Tryz.results125,go_sem,p2];try rfl) rfl ?_)
 rw [← HP.out];exact ⟨rfl,st4 HT2.out.hB HG.out _ _ _ _⟩
set_option maxHeartbeats 16000000 in
theorem token_sym2 (s:ByteArray) (w:World) (hs:s.size≤4294967296) (h0:0<s.size) (h2:2≤s.size) (hsy:symB s[0]=true∧clsN s[0]=0∧s[0].toNat<128) (hx:sym2 (s.extract 0 2)=true):Calls prog 125 #[.string s] w fun e w'=>TokR w 5 (s.extract 0 2) 0 2 e w':=by
 have h0':(0:Int)<(s.size:Int):=by omega
 have hs9:(s.size:Int)≤4294967296:=by omega
 obtain ⟨P,hP⟩:∃ P:Ending→World→Prop,(fun e w'=>TokR w 5 (s.extract 0 2) 0 2 e w')=P:=⟨_,rfl⟩
 rw [hP];have HP:=hZz hP;clear hP;have HL:=hZz hsy;have HX:=hZz hx;have hm:min (2:Int) (s.size:Int)=2:=by omega
 have h2':(2:Int)≤(s.size:Int):=by omega
 clear hsy hx;go_enter func125,ntmps125
 go_upto_region 2 with fail
 obtain ⟨g2,hg2⟩:∃ g,w.heap.size=g:=⟨_,rfl⟩
 obtain ⟨g5,hg5⟩:∃ g,g2+1=g:=⟨_,rfl⟩
 obtain ⟨W,hW⟩:∃ W,(w.alloc (.cells #[.int .i64 0,.string ⟨#[]⟩,.int .i64 0,.int .i64 0] 161)).alloc (.cells #[.int .i64 0,.string ⟨#[]⟩,.int .i64 0,.int .i64 0] 161)=W:=⟨_,rfl⟩
 have HT:Hid (TkSt w W g2 g5):=hZz (by
  rw [← hW,← hg5,← hg2];exact ⟨(Blk.new w _ _).alloc _,Blk.second _ _ _ _,zasY _ _ _⟩)
 rw [hW,hg2,hg5];have HG:Hid (w.heap.size≤g2):=hZz (by omega);clear hW;have HG5:Hid (g2≠g5):=hZz (by omega);have hne:g2≠g5:=HG5.out;clear hg2 hg5
 go_wp2_with (first
  | (go_at_call 177;(with_reducible refine (of_sym _ _ HL.out.1 HL.out.2.1 HL.out.2.2).mono ?_);rintro e w1 ⟨rfl,hw1⟩;rw [hw1];clear hw1 w1))
 refine wp_loop_rounds 1 ?_
 rw [rounds_succ]
 go_wp2_with (first
  | (go_at_call 184;(with_reducible refine (symbol2_x _ _ (by simp;omega)).mono ?_);rintro e w2 ⟨rfl,hw2⟩;rw [hw2];clear hw2 w2;rw [HX.out];have p2:=blk4 HT.out.b2;have p5:=blk4 HT.out.b5;have z0:=HT.out.b2.frozen 0;have z1:=HT.out.b2.frozen 1;have z2:=HT.out.b2.frozen 2;have z3:=HT.out.b2.frozen 3))
 (refine bodyPost_ret (by simp [results,Tryz.results125,go_sem,p2];try rfl) rfl ?_)
 rw [← HP.out];exact ⟨rfl,st4 HT.out.hB HG.out _ _ _ _⟩
end
section
attribute [local go_sem] zacZ zaoY
theorem ext1 (s:ByteArray) (h0:0<s.size):(s.extract 0 1).size=1∧∀ h:0<(s.extract 0 1).size,(s.extract 0 1)[0]=s[0]:=by
 have e:(s.extract 0 1).size=1:=by simp;omega
 refine ⟨e,fun h=>?_⟩
 have h1:=zbtY (s.extract 0 1) h;have h2:=zbtY s h0;have h3:(s.extract 0 1).data.toList=s.data.toList.take 1:=by simp
 rw [h3] at h1;cases hl:s.data.toList with
 | nil=>rw [hl] at h2;cases h2
 | cons a l =>
  rw [hl] at h1 h2;simp only [List.take_succ_cons,List.head?_cons] at h1 h2;injection h1 with h1
  injection h2 with h2
  rw [← h1,← h2]
theorem symbol1_y {s:ByteArray} {w:World} (h0:0<s.size) (hsy:symB s[0]=true∧clsN s[0]=0∧s[0].toNat<128∧s[0]≠33):Calls prog 184 #[.string (s.extract 0 1)] w fun e w'=>e=.returned (.bool true)∧w'=w:=by
 obtain ⟨e1,e2⟩:=ext1 s h0;refine symbol1_x _ w e1 (fun h=>by rw [e2 h];exact ⟨hsy.1,hsy.2.1,hsy.2.2.1⟩) ?_
 simp only [beq_eq_false_iff_ne,ne_eq];intro e;have h1:=zbtY (s.extract 0 1) (by omega);rw [e2 (by omega)] at h1;rw [Lib.toList_data] at e;rw [e] at h1;injection h1 with h1
 exact hsy.2.2.2 h1.symm
set_option maxHeartbeats 16000000 in
theorem token_sym1 (s:ByteArray) (w:World) (hs:s.size≤4294967296) (h0:0<s.size) (h2:2≤s.size) (hsy:symB s[0]=true∧clsN s[0]=0∧s[0].toNat<128∧s[0]≠33) (hx:sym2 (s.extract 0 2)=false):Calls prog 125 #[.string s] w fun e w'=>TokR w 5 (s.extract 0 1) 0 1 e w':=by
 have h0':(0:Int)<(s.size:Int):=by omega
 have hs9:(s.size:Int)≤4294967296:=by omega
 obtain ⟨P,hP⟩:∃ P:Ending→World→Prop,(fun e w'=>TokR w 5 (s.extract 0 1) 0 1 e w')=P:=⟨_,rfl⟩
 rw [hP];have HP:=hZz hP;clear hP;have HL:=hZz hsy;have HX:=hZz hx;clear hx;have hm:min (2:Int) (s.size:Int)=2:=by omega
 have h2':(2:Int)≤(s.size:Int):=by omega
 have h1':(1:Int)≤(s.size:Int):=by omega
 clear hsy;go_enter func125,ntmps125
 go_upto_region 2 with fail
 obtain ⟨g2,hg2⟩:∃ g,w.heap.size=g:=⟨_,rfl⟩
 obtain ⟨g5,hg5⟩:∃ g,g2+1=g:=⟨_,rfl⟩
 obtain ⟨W,hW⟩:∃ W,(w.alloc (.cells #[.int .i64 0,.string ⟨#[]⟩,.int .i64 0,.int .i64 0] 161)).alloc (.cells #[.int .i64 0,.string ⟨#[]⟩,.int .i64 0,.int .i64 0] 161)=W:=⟨_,rfl⟩
 have HT:Hid (TkSt w W g2 g5):=hZz (by
  rw [← hW,← hg5,← hg2];exact ⟨(Blk.new w _ _).alloc _,Blk.second _ _ _ _,zasY _ _ _⟩)
 rw [hW,hg2,hg5];have HG:Hid (w.heap.size≤g2):=hZz (by omega);clear hW;have HG5:Hid (g2≠g5):=hZz (by omega);have hne:g2≠g5:=HG5.out;clear hg2 hg5
 go_wp2_with (first
  | (go_at_call 177;(with_reducible refine (of_sym _ _ HL.out.1 HL.out.2.1 HL.out.2.2.1).mono ?_);rintro e w1 ⟨rfl,hw1⟩;rw [hw1];clear hw1 w1))
 refine wp_loop_rounds 2 ?_
 rw [rounds_succ]
 go_wp2_with (first
  | (go_at_call 184;(with_reducible refine (symbol2_x _ _ (by simp;omega)).mono ?_);rintro e w2 ⟨rfl,hw2⟩;rw [hw2];clear hw2 w2;rw [HX.out]))
 rw [rounds_succ]
 go_wp2_with (first
  | (go_at_call 184;(with_reducible refine (symbol1_y h0 HL.out).mono ?_);rintro e w2 ⟨rfl,hw2⟩;rw [hw2];clear hw2 w2;have p2:=blk4 HT.out.b2;have p5:=blk4 HT.out.b5;have z0:=HT.out.b2.frozen 0;have z1:=HT.out.b2.frozen 1;have z2:=HT.out.b2.frozen 2;have z3:=HT.out.b2.frozen 3))
 (refine bodyPost_ret (by simp [results,Tryz.results125,go_sem,p2];try rfl) rfl ?_)
 rw [← HP.out];exact ⟨rfl,st4 HT.out.hB HG.out _ _ _ _⟩
set_option maxHeartbeats 16000000 in
theorem token_syme (s:ByteArray) (w:World) (hs:s.size≤4294967296) (h0:0<s.size) (h2:s.size=1) (hsy:symB s[0]=true∧clsN s[0]=0∧s[0].toNat<128∧s[0]≠33):Calls prog 125 #[.string s] w fun e w'=>TokR w 5 (s.extract 0 1) 0 1 e w':=by
 have h0':(0:Int)<(s.size:Int):=by omega
 have hs9:(s.size:Int)≤4294967296:=by omega
 obtain ⟨P,hP⟩:∃ P:Ending→World→Prop,(fun e w'=>TokR w 5 (s.extract 0 1) 0 1 e w')=P:=⟨_,rfl⟩
 rw [hP];have HP:=hZz hP;clear hP;have HL:=hZz hsy;have hm:min (2:Int) (s.size:Int)=1:=by omega
 have h1':(1:Int)≤(s.size:Int):=by omega
 clear hsy;clear h2;go_enter func125,ntmps125
 go_upto_region 2 with fail
 obtain ⟨g2,hg2⟩:∃ g,w.heap.size=g:=⟨_,rfl⟩
 obtain ⟨g5,hg5⟩:∃ g,g2+1=g:=⟨_,rfl⟩
 obtain ⟨W,hW⟩:∃ W,(w.alloc (.cells #[.int .i64 0,.string ⟨#[]⟩,.int .i64 0,.int .i64 0] 161)).alloc (.cells #[.int .i64 0,.string ⟨#[]⟩,.int .i64 0,.int .i64 0] 161)=W:=⟨_,rfl⟩
 have HT:Hid (TkSt w W g2 g5):=hZz (by
  rw [← hW,← hg5,← hg2];exact ⟨(Blk.new w _ _).alloc _,Blk.second _ _ _ _,zasY _ _ _⟩)
 rw [hW,hg2,hg5];have HG:Hid (w.heap.size≤g2):=hZz (by omega);clear hW;have HG5:Hid (g2≠g5):=hZz (by omega);have hne:g2≠g5:=HG5.out;clear hg2 hg5
 go_wp2_with (first
  | (go_at_call 177;(with_reducible refine (of_sym _ _ HL.out.1 HL.out.2.1 HL.out.2.2.1).mono ?_);rintro e w1 ⟨rfl,hw1⟩;rw [hw1];clear hw1 w1))
 refine wp_loop_rounds 1 ?_
 rw [rounds_succ]
 go_wp2_with (first
  | (go_at_call 184;(with_reducible refine (symbol1_y h0 HL.out).mono ?_);rintro e w2 ⟨rfl,hw2⟩;rw [hw2];clear hw2 w2;have p2:=blk4 HT.out.b2;have p5:=blk4 HT.out.b5;have z0:=HT.out.b2.frozen 0;have z1:=HT.out.b2.frozen 1;have z2:=HT.out.b2.frozen 2;have z3:=HT.out.b2.frozen 3))
 (refine bodyPost_ret (by simp [results,Tryz.results125,go_sem,p2];try rfl) rfl ?_)
 rw [← HP.out];exact ⟨rfl,st4 HT.out.hB HG.out _ _ _ _⟩
def tokX (s:ByteArray):Option (Int × ByteArray × Int × Nat):=match s.data.toList with
 | []=>none
 | b :: _ =>
  if letB b then (if runN s≤24 then some (if kwB (s.extract 0 (runN s)) then 2 else 1,s.extract 0 (runN s),0,runN s) else none)
  else if digB b then (if (parseR (s.extract 0 (cntB digB s))).2=0 then some (3,⟨#[]⟩,(parseR (s.extract 0 (cntB digB s))).1,cntB digB s) else none)
  else if b=34 then (let N:=cntW plB (s.data.toList.drop 1);if N≤200∧s.data.toList[N+1]? = some 34 then some (4,strOfNums (ysOf s N),0,N+2) else none)
  else if b=64 then (let N:=runN (s.extract 1 s.size);if 0<N∧N≤24 then some (6,s.extract 1 (N+1),0,N+1) else none)
  else if symB b=true∧clsN b=0∧b.toNat<128 then (if 2≤s.size∧sym2 (s.extract 0 2)=true then some (5,s.extract 0 2,0,2) else if b≠33 then some (5,s.extract 0 1,0,1) else none)
  else none
theorem token_x (s:ByteArray) (w:World) (hs:s.size≤4294967296) (hv:Sent w) {kind:Int} {t:ByteArray} {i:Int} {n:Nat} (h:tokX s=some (kind,t,i,n)):0<n∧n≤s.size∧Calls prog 125 #[.string s] w fun e w'=>TokR w kind t i n e w':=by
 have hz:s.data.toList.length=s.size:=by simp
 unfold tokX at h;cases hl:s.data.toList with
 | nil=>rw [hl] at h;cases h
 | cons b l =>
  have h0:0<s.size:=by rw [← hz,hl];simp
  have hb:=zbtY s h0;rw [hl] at hb;injection hb with hb
  rw [hl] at h;simp only at h;by_cases c1:letB b=true
  ·rw [if_pos c1] at h
   split at h
   ·rename_i h24
    injection h with h
    injection h with e1 h
    injection h with e2 h
    injection h with e3 e4
    subst e1 e2 e3
    have hp:0<runN s:=by
     unfold runN;rw [hl];simp only
     rw [if_pos c1];unfold cntB cntW;rw [hl];simp only
     rw [if_pos (let_wrd c1)];omega
    rw [e4] at hp h24 ⊢;refine ⟨hp,by rw [← e4];exact runN_le s,?_⟩
    cases hk:kwB (s.extract 0 n) with
    | false=>exact token_word s w hs h0 n e4 (by rw [← hb];exact c1) h24 hk
    | true=>exact token_key s w hs h0 n e4 (by rw [← hb];exact c1) h24 hk
   ·cases h
  rw [if_neg c1] at h;by_cases c2:digB b=true
  ·rw [if_pos c2] at h
   split at h
   ·rename_i hp0
    injection h with h
    injection h with e1 h
    injection h with e2 h
    injection h with e3 e4
    subst e1 e2 e3
    have hp:0<cntB digB s:=by
     unfold cntB cntW;rw [hl];simp only
     rw [if_pos c2];omega
    rw [e4] at hp hp0 ⊢;exact ⟨hp,by rw [← e4];exact (zbbY digB s).1,token_int s w hs h0 n _ e4 (by rw [← hb];exact c2) (Prod.ext rfl hp0) hv⟩
   ·cases h
  rw [if_neg c2] at h;by_cases c3:b=34
  ·rw [if_pos c3] at h
   try simp only at h
   obtain ⟨N,hN⟩:∃ N,cntW plB ((b :: l).drop 1)=N:=⟨_,rfl⟩
   rw [hN] at h;split at h
   ·rename_i hp0
    injection h with h
    injection h with e1 h
    injection h with e2 h
    injection h with e3 e4
    subst e1 e2 e3 e4;obtain ⟨p1,p2⟩:=hp0;rw [← hl] at p2 hN;obtain ⟨q1,q2⟩:=List.getElem?_eq_some_iff.1 p2;have hlt:N+1<s.size:=by rw [← hz];exact q1
    obtain ⟨u1,u2,u3⟩:=cntW_spec plB (s.data.toList.drop 1);refine ⟨by omega,by omega,token_str s w hs h0 N p1 (by rw [← hb];exact c3) (fun i h hi1 hi2=>?_) hlt q2⟩
    have:=u2 (i - 1) (by simp;omega) (by rw [hN];omega)
    rw [List.getElem_drop] at this;have e:1+(i - 1)=i:=by omega
    simp only [e] at this;exact this
   ·cases h
  rw [if_neg c3] at h;by_cases c4:b=64
  ·rw [if_pos c4] at h
   try simp only at h
   split at h
   ·rename_i hp0
    injection h with h
    injection h with e1 h
    injection h with e2 h
    injection h with e3 e4
    subst e1 e2 e3 e4
    have:=runN_le (s.extract 1 s.size)
    simp at this
    exact ⟨by omega,by omega,token_host s w hs h0 _ (by rw [← hb];exact c4) rfl hp0.1 hp0.2⟩
   ·cases h
  rw [if_neg c4] at h;split at h
  ·rename_i c5
   split at h
   ·rename_i c6
    injection h with h
    injection h with e1 h
    injection h with e2 h
    injection h with e3 e4
    subst e1 e2 e3 e4;exact ⟨by omega,c6.1,token_sym2 s w hs h0 c6.1 (by rw [← hb];exact c5) c6.2⟩
   ·rename_i c6
    split at h
    ·rename_i c7
     injection h with h
     injection h with e1 h
     injection h with e2 h
     injection h with e3 e4
     subst e1 e2 e3 e4;refine ⟨by omega,by omega,?_⟩
     have h5:symB s[0]=true∧clsN s[0]=0∧s[0].toNat<128∧s[0]≠33:=by rw [← hb];exact ⟨c5.1,c5.2.1,c5.2.2,c7⟩
     by_cases h2:2≤s.size
     ·exact token_sym1 s w hs h0 h2 h5 (by cases hx:sym2 (s.extract 0 2) with | false=>rfl | true=>exact absurd ⟨h2,hx⟩ c6)
     ·exact token_syme s w hs h0 (by omega) h5
    ·cases h
  ·cases h
end
section
attribute [local go_sem] zacZ zaoY
structure Tok where
 kind:Int
 text:ByteArray
 int:Int
 at_:Nat
 deriving DecidableEq
def Tok.cells (t:Tok):List Value:=[.int .i64 t.kind,.string t.text,.int .i64 t.int,.int .i64 (t.at_:Int)]
def lexX:Nat→ByteArray→Nat→Option (List Tok)
 | 0,_,_=>none
 | f+1,s,a=>if a=s.size then some [] else match tokX (s.extract a s.size) with
  | none=>none
  | some (k,t,i,n)=>if noCom (s.extract (a+n) s.size) then (lexX f s (a+n+cntB blaB (s.extract (a+n) s.size))).map ((⟨k,t,i,a⟩:Tok) :: ·) else none
theorem lexX_step {f:Nat} {s:ByteArray} {a:Nat} {ts:List Tok} (h:lexX f s a=some ts):(a=s.size∧ts=[])∨∃ f' k t i n ts',f=f' + 1∧a≠s.size∧tokX (s.extract a s.size)=some (k,t,i,n)∧noCom (s.extract (a+n) s.size)=true∧lexX f' s (a+n+cntB blaB (s.extract (a+n) s.size))=some ts'∧ts=⟨k,t,i,a⟩ :: ts':=by
 cases f with
 | zero=>cases h
 | succ f =>
  unfold lexX at h;by_cases ha:a=s.size
  ·rw [if_pos ha] at h
   injection h with h
   exact .inl ⟨ha,h.symm⟩
  ·rw [if_neg ha] at h
   cases ht:tokX (s.extract a s.size) with
   | none=>rw [ht] at h;cases h
   | some r =>
    obtain ⟨k,t,i,n⟩:=r;rw [ht] at h;simp only at h;split at h
    ·rename_i hc
     cases hr:lexX f s (a+n+cntB blaB (s.extract (a+n) s.size)) with
     | none=>rw [hr] at h;cases h
     | some ts' =>
      rw [hr] at h;injection h with h
      exact .inr ⟨f,k,t,i,n,ts',rfl,ha,rfl,hc,hr,h.symm⟩
    ·cases h
theorem tokens_x (s:ByteArray) (w:World) (hs:s.size≤4000) (hv:Sent w) {f:Nat} {ts:List Tok} (hc0:noCom s=true) (hx:lexX f s (cntB blaB s)=some ts) (hl:ts.length≤1000):Calls prog 75 #[.string s] w fun e w'=>(∃ v,e=.returned (.tuple #[v,.int .i64 0,.int .i64 0])∧w'.ownsRow w.heap.size 161 4 v ts.length (ts.flatMap Tok.cells))∧Below w.heap.size w w':=by
 obtain ⟨i0,hi,hz0,hz1,hz2⟩:=info_parts Tryz.infoTok;have hs9:(s.size:Int)≤4000:=by omega
 obtain ⟨P,hP⟩:∃ P:Ending→World→Prop,(fun e w'=>(∃ v,e=.returned (.tuple #[v,.int .i64 0,.int .i64 0])∧w'.ownsRow w.heap.size 161 4 v ts.length (ts.flatMap Tok.cells))∧Below w.heap.size w w')=P:=⟨_,rfl⟩
 rw [hP];have HP:=hZz hP;have HV:=hZz hv;have HC0:=hZz hc0;have HX0:=hZz hx;have HL:=hZz hl;clear hP hv hc0 hx hl;go_enter func75,ntmps75
 go_wp2_with (first
  | (go_at_call 124;(with_reducible refine (skip_x _ _ (by omega) HC0.out).mono ?_);rintro e w1 ⟨rfl,hb1⟩;have HB1:=hZz hb1;clear hb1))
 go_loopw [5,6] (fun ov av wr=>∃ (f' at_:Nat) (dn td:List Tok),dn ++ td=ts∧at_≤s.size∧av=.int .i64 at_∧Hid (wr.ownsRow w.heap.size 161 4 ov dn.length (dn.flatMap Tok.cells))∧Hid (lexX f' s at_=some td)∧Below w.heap.size w wr) (fun _ av _=>s.size - (intOf av).toNat)
 case atStart=>exact ⟨f,cntB blaB s,[],ts,rfl,(zbbY blaB s).1,rfl,hZz (World.ownsRow_nil _ _ _ _),HX0,HB1.out⟩
 case round =>
  obtain ⟨f',at_,dn,td,hts,hat,rfl,HO,HX,hbel⟩:=hrel;have HB:=hZz hbel;clear hbel HB1 HX0;obtain ⟨oA,ocap,hov⟩:=zaeZ HO.out;subst hov;obtain ⟨n,hn⟩:∃ n,dn.length=n:=⟨_,rfl⟩
  have hk0:(0:Int)≤(at_:Int):=by omega
  have hn0:(0:Int)≤(n:Int):=by omega
  have hat':(at_:Int)≤(s.size:Int):=by omega
  rcases lexX_step HX.out with ⟨ha,htd⟩ | ⟨f2,kind,t,i,m,td',hf,hne,htok,hnc,hrest,htd⟩
  ·subst ha htd
   rw [hn] at HO ⊢;have e:dn=ts:=by simpa using hts
   subst e;have HN:=hZz hn;clear hn hts;go_wp2_with (fail)
   rw [← HP.out];exact ⟨⟨_,rfl,by rw [HN.out];exact HO.out⟩,HB.out⟩
  ·have hlt:at_<s.size:=by omega
   have hlt':(at_:Int)<(s.size:Int):=by omega
   have hlen:n+1≤1000:=by
    have:=HL.out
    rw [← hts,htd] at this;simp at this
    omega
   have hf':((n:Int) == 1000)=false:=by simp;omega
   obtain ⟨X,hX⟩:∃ X,s.extract at_ s.size=X:=⟨_,rfl⟩
   have hXs:X.size=s.size - at_:=by rw [← hX];simp
   rw [hX] at htok;have HVR:=hZz (HV.out.below HB.out);obtain ⟨tk1,tk2,tk3⟩:=token_x X wr (by omega) HVR.out htok;have hm3:(m:Int)≤(s.size:Int) - at_:=by omega
   have hm0:(0:Int)≤(m:Int):=by omega
   have ham0:(0:Int)≤(at_:Int)+m:=by omega
   have ham1:(at_:Int)+m≤(s.size:Int):=by omega
   obtain ⟨Y,hY⟩:∃ Y,s.extract (at_+m) s.size=Y:=⟨_,rfl⟩
   have hYs:Y.size=s.size - (at_+m):=by rw [← hY];simp
   obtain ⟨M,hM⟩:∃ M,cntB blaB Y=M:=⟨_,rfl⟩
   have hMs:=(zbbY blaB Y).1;rw [hY,hM] at hrest;rw [hY] at hnc;rw [hM] at hMs;have hn6:(M:Int)≤(s.size:Int) - (at_+m):=by omega
   have hn7:(0:Int)≤(M:Int):=by omega
   have HX':=hZz hX;have HY':=hZz hY;have HT3:=hZz tk3;have HF:=hZz (show 0<m∧at_+m+M≤s.size from ⟨tk1,by omega⟩);have HR:=hZz hrest
   have HSK:Hid (∀ wx,Calls prog 124 #[.string Y] wx fun e w'=>e=.returned (.int .i64 (M:Int))∧Below wx.heap.size wx w'):=hZz (fun wx=>by
    have:=skip_x Y wx (by omega) hnc
    rw [hM] at this;exact this)
   have HTS:=hZz (show (dn ++ [⟨kind,t,i,at_⟩]) ++ td'=ts by rw [← hts,htd];simp);have HN:=hZz hn;have HYZ:Hid (Y.size≤4294967296):=hZz (by omega);rw [hn] at HO;rw [hn];clear hX hXs hY hYs hM hMs hrest hnc htok tk1 tk2 tk3 hts htd hne hf hn HX
   go_wp2_with (first
    | (go_at_call 125;rw [HX'.out];(with_reducible refine HT3.out.mono ?_);rintro e w2 ⟨rfl,hb2⟩;have HB2:=hZz (zaaZ hb2 HB.out HB.out.size);have HO2:=hZz (zajZ HO.out hb2);have hsz2:w.heap.size≤(w2.alloc (.cells #[.int .i64 kind,.string t,.int .i64 i,.int .i64 at_] 161)).heap.size:=Nat.le_trans HB2.out.size (by simp);clear hb2)
    | (at_builtin;refine zakZ rfl (.tmp 45) (.tmp 47) 114 rfl i0 _ 40 underlying114 hi hz0 hz1 hz2 rfl (by omega) rfl (zajZ HO2.out (zabZ w2 (.cells #[.int .i64 kind,.string t,.int .i64 i,.int .i64 at_] 161))) [.int .i64 kind,.string t,.int .i64 i,.int .i64 at_] (by simp [go_sem]) rfl (by simp [Value.oneCell']) (by omega) (by omega) hsz2 ?_;intro v' w3 hown3 hb3 hs3 hg3;have HO3:=hZz hown3;have HB3:=hZz ((HB2.out.alloc HB2.out.size _).trans hb3);clear hown3 hb3 hs3 hg3)
    | (go_at_call 124;(with_reducible refine (Calls.mono (by first | (rw [HY'.out];exact HSK.out _) | (simp only [show ((at_:Int)+(m:Int)).toNat=at_+m by omega];rw [HY'.out];exact HSK.out _)) ?_));rintro e w4 ⟨rfl,hb4⟩;have HB4:=hZz (zaaZ hb4 HB3.out HB3.out.size);have HO4:=hZz (zajZ HO3.out hb4);clear hb4))
   refine ⟨⟨f2,at_+m+M,dn ++ [⟨kind,t,i,at_⟩],td',HTS.out,HF.out.2,by push_cast;rfl,hZz ?_,HR,HB4.out⟩,by have:=HF.out;simp [intOf];omega⟩
   have:=HO4.out
   rw [List.length_append,HN.out,List.flatMap_append];exact this
end
def srcE:ByteArray:= "func main(e) { let x = @get(\"k\"); return x + 1; }".toUTF8
def toksE:List Tok:=[⟨2,"func".toUTF8,0,0⟩,⟨1,"main".toUTF8,0,5⟩,⟨5,"(".toUTF8,0,9⟩,⟨1,"e".toUTF8,0,10⟩,⟨5,")".toUTF8,0,11⟩,⟨5,"{".toUTF8,0,13⟩,
 ⟨2,"let".toUTF8,0,15⟩,⟨1,"x".toUTF8,0,19⟩,⟨5,"=".toUTF8,0,21⟩,⟨6,"get".toUTF8,0,23⟩,⟨5,"(".toUTF8,0,27⟩,⟨4,"k".toUTF8,0,28⟩,⟨5,")".toUTF8,0,31⟩,⟨5,";".toUTF8,0,32⟩,
 ⟨2,"return".toUTF8,0,34⟩,⟨1,"x".toUTF8,0,41⟩,⟨5,"+".toUTF8,0,43⟩,⟨3,⟨#[]⟩,1,45⟩,⟨5,";".toUTF8,0,46⟩,⟨5,"}".toUTF8,0,48⟩]
theorem lexE:noCom srcE=true∧lexX 30 srcE (cntB blaB srcE)=some toksE:=by
 constructor <;> decide +kernel
end Go.Proofs.YtekdhlfapejijaaGreatDoor
