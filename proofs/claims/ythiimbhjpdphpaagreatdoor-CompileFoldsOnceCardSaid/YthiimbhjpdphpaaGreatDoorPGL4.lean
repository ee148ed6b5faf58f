/- GL4 -/
import Derived.Test.YthiimbhjpdphpaaGreatDoorPGL2
import Derived.Test.YthiimbhjpdphpaaGreatDoorPGR2
set_option linter.unusedVariables false
set_option linter.unusedSimpArgs false
namespace Go.Proofs.YthiimbhjpdphpaaGreatDoor
section
open Go.RowKit
set_option maxRecDepth 100000
/-- The variables of the errors of numbers stand. -/
def Sent (w:World):Prop:=(∃ tp p,w.var? Tryz.prog "strconv.ErrSyntax"=some #[.iface tp p])∧(∃ tp p,w.var? Tryz.prog "strconv.ErrRange"=some #[.iface tp p])
theorem Sent.below {w w':World} (h:Sent w) (hb:Below w.heap.size w w'):Sent w':=by
 obtain ⟨⟨a,b,h1⟩,c,d,h2⟩:=h
 exact ⟨⟨a,b,var_below hb h1⟩,c,d,var_below hb h2⟩
theorem atoi_any (s:ByteArray) (w:World) (hs:s.size≤140737488351232) (hv:Sent w) :
  Calls Tryz.prog 233 #[.string s] w fun e w'=>(∃ v,(e=.returned (.tuple #[.int .i64 v,.nilIface])∨∃ t p,e=.returned (.tuple #[.int .i64 v,.iface t p])))∧Below w.heap.size w w':=by
 obtain ⟨⟨tp,p,h1⟩,tp',p',h2⟩:=hv
 cases ha:Lib.atoiAll s.data.toList with
 | ok v =>
  refine (Tryz.strconv_Atoi_ok s (by omega) v ha w).mono ?_
  rintro e w' ⟨rfl,hw⟩
  refine ⟨⟨v,.inl rfl⟩,?_⟩
  rcases hw with rfl | ⟨t,rfl⟩
  ·exact Below.refl _ _
  ·exact Lib.bytesWorld_below _ _ _
 | range =>
  refine (Tryz.strconv_Atoi_range_var s (by omega) ha tp' p' w h2).mono ?_
  rintro e w' ⟨N,rfl,_,_,hb⟩
  exact ⟨⟨_,.inr ⟨_,_,rfl⟩⟩,hb⟩
 | _ =>
  refine (Any.strconv_Atoi_syntax_var Tryz.laysC172 s (by omega) ha tp p w h1).mono ?_
  rintro e w' ⟨N,rfl,_,_,hb⟩
  exact ⟨⟨_,.inr ⟨_,_,rfl⟩⟩,hb⟩
theorem ne_byte6 {a b:UInt8} (h:¬ a=b):¬ ((a.toNat:Int)=(b.toNat:Int)):=fun e=>h (UInt8.toNat_inj.mp (by omega))
def BoolP (e:Ending):Prop:=∃ v,e=.returned (.bool v)
set_option maxHeartbeats 4000000 in
theorem decimal_any (s:ByteArray) (w:World) (hs:s.size≤140737488351232):Calls Tryz.prog 232 #[.string s] w fun e w'=>BoolP e∧w'=w:=by
 by_cases h0:s.size=0
 ·have h1:(s.toList == [])=true:=by rw [(toList_nil s).2 h0];rfl
  have hn:¬ (0:Int)<(s.size:Int):=by omega
  go_enter Tryz.func232,Tryz.ntmps232
  go_wp2
  go_returns
  exact ⟨⟨_,rfl⟩,rfl⟩
 ·have hp:(0:Int)<(s.size:Int):=by omega
  have hp':0<s.size:=by omega
  have hns:(s.toList == [])=false:=by
   rw [← toList_nil] at h0
   simpa using h0
  clear h0
  by_cases hm:s[0]=45
  ·obtain ⟨X,hX⟩:∃ X,s.extract 1 s.size=X:=⟨_,rfl⟩
   have hXs:X.size=s.size - 1:=by rw [← hX];simp
   by_cases h1:s.size=1
   ·have hXn:(X.toList == [])=true:=by rw [(toList_nil X).2 (by omega)];rfl
    rw [h1] at hX
    have HXE:=Lib.hid hX
    clear hX
    go_enter Tryz.func232,Tryz.ntmps232
    go_upto_region 4 with fail
    first | rw [HXE.out] | skip
    go_wp2_with (fail)
    go_returns
    exact ⟨⟨_,rfl⟩,rfl⟩
   ·have hXp:0<X.size:=by omega
    have hXp':(0:Int)<(X.size:Int):=by omega
    have hXn:(X.toList == [])=false:=by
     have:¬ X.size=0:=by omega
     rw [← toList_nil] at this
     simpa using this
    have hXb:X.size≤140737488351232:=by omega
    have HXE:=Lib.hid hX
    clear hX hXs
    go_enter Tryz.func232,Tryz.ntmps232
    go_upto_region 4 with fail
    rw [HXE.out]
    by_cases hd:X[0]=48
    ·by_cases hz:s.toList=[48]
     ·have hz':(s.toList == [48])=true:=by simpa using hz
      go_wp2_with (fail)
      go_loop [4,29] (fun u c=>∃ k:Nat,k≤X.size∧c=.int .i64 k) (fun u c=>X.size - (intOf c).toNat)
      case atStart=>exact ⟨0,Nat.zero_le _,rfl⟩
      case round =>
       obtain ⟨k,hk,rfl⟩:=hrel
       have hk0:(0:Int)≤(k:Int):=by omega
       by_cases hlt:k<X.size
       ·have hlt':(k:Int)<(X.size:Int):=by omega
        have hk9:(k:Int)+1≤9223372036854775807:=by omega
        by_cases h1:(X[k].toNat:Int)<48
        ·go_wp2_with (fail)
         go_returns
         exact ⟨⟨_,rfl⟩,rfl⟩
        ·by_cases h2:(57:Int)<(X[k].toNat:Int)
         ·go_wp2_with (fail)
          go_returns
          exact ⟨⟨_,rfl⟩,rfl⟩
         ·go_wp2_with (fail)
          exact ⟨⟨k+1,by omega,by simp⟩,by simp [intOf];omega⟩
       ·have e:k=X.size:=by omega
        subst e
        go_wp2_with (fail)
        go_returns
        exact ⟨⟨_,rfl⟩,rfl⟩
     ·have hz':(s.toList == [48])=false:=by simpa using hz
      have hz2:(s.toList != [48])=true:=by simpa using hz
      go_wp2_with (fail)
      go_returns
      exact ⟨⟨_,rfl⟩,rfl⟩
    ·have hd':((X[0].toNat:Int) == 48)=false:=beq_eq_false_iff_ne.mpr (ne_byte6 hd)
     go_wp2_with (fail)
     go_loop [4,29] (fun u c=>∃ k:Nat,k≤X.size∧c=.int .i64 k) (fun u c=>X.size - (intOf c).toNat)
     case atStart=>exact ⟨0,Nat.zero_le _,rfl⟩
     case round =>
      obtain ⟨k,hk,rfl⟩:=hrel
      have hk0:(0:Int)≤(k:Int):=by omega
      by_cases hlt:k<X.size
      ·have hlt':(k:Int)<(X.size:Int):=by omega
       have hk9:(k:Int)+1≤9223372036854775807:=by omega
       by_cases h1:(X[k].toNat:Int)<48
       ·go_wp2_with (fail)
        go_returns
        exact ⟨⟨_,rfl⟩,rfl⟩
       ·by_cases h2:(57:Int)<(X[k].toNat:Int)
        ·go_wp2_with (fail)
         go_returns
         exact ⟨⟨_,rfl⟩,rfl⟩
        ·go_wp2_with (fail)
         exact ⟨⟨k+1,by omega,by simp⟩,by simp [intOf];omega⟩
      ·have e:k=X.size:=by omega
       subst e
       go_wp2_with (fail)
       go_returns
       exact ⟨⟨_,rfl⟩,rfl⟩
  ·have hm':((s[0].toNat:Int) == 45)=false:=beq_eq_false_iff_ne.mpr (ne_byte6 hm)
   go_enter Tryz.func232,Tryz.ntmps232
   go_upto_region 4 with fail
   by_cases hd:s[0]=48
   ·by_cases hz:s.toList=[48]
    ·have hz':(s.toList == [48])=true:=by simpa using hz
     go_wp2_with (fail)
     go_loop [4,29] (fun u c=>∃ k:Nat,k≤s.size∧c=.int .i64 k) (fun u c=>s.size - (intOf c).toNat)
     case atStart=>exact ⟨0,Nat.zero_le _,rfl⟩
     case round =>
      obtain ⟨k,hk,rfl⟩:=hrel
      have hk0:(0:Int)≤(k:Int):=by omega
      by_cases hlt:k<s.size
      ·have hlt':(k:Int)<(s.size:Int):=by omega
       have hk9:(k:Int)+1≤9223372036854775807:=by omega
       by_cases h1:(s[k].toNat:Int)<48
       ·go_wp2_with (fail)
        go_returns
        exact ⟨⟨_,rfl⟩,rfl⟩
       ·by_cases h2:(57:Int)<(s[k].toNat:Int)
        ·go_wp2_with (fail)
         go_returns
         exact ⟨⟨_,rfl⟩,rfl⟩
        ·go_wp2_with (fail)
         exact ⟨⟨k+1,by omega,by simp⟩,by simp [intOf];omega⟩
      ·have e:k=s.size:=by omega
       subst e
       go_wp2_with (fail)
       go_returns
       exact ⟨⟨_,rfl⟩,rfl⟩
    ·have hz':(s.toList == [48])=false:=by simpa using hz
     have hz2:(s.toList != [48])=true:=by simpa using hz
     go_wp2_with (fail)
     go_returns
     exact ⟨⟨_,rfl⟩,rfl⟩
   ·have hd':((s[0].toNat:Int) == 48)=false:=beq_eq_false_iff_ne.mpr (ne_byte6 hd)
    go_wp2_with (fail)
    go_loop [4,29] (fun u c=>∃ k:Nat,k≤s.size∧c=.int .i64 k) (fun u c=>s.size - (intOf c).toNat)
    case atStart=>exact ⟨0,Nat.zero_le _,rfl⟩
    case round =>
     obtain ⟨k,hk,rfl⟩:=hrel
     have hk0:(0:Int)≤(k:Int):=by omega
     by_cases hlt:k<s.size
     ·have hlt':(k:Int)<(s.size:Int):=by omega
      have hk9:(k:Int)+1≤9223372036854775807:=by omega
      by_cases h1:(s[k].toNat:Int)<48
      ·go_wp2_with (fail)
       go_returns
       exact ⟨⟨_,rfl⟩,rfl⟩
      ·by_cases h2:(57:Int)<(s[k].toNat:Int)
       ·go_wp2_with (fail)
        go_returns
        exact ⟨⟨_,rfl⟩,rfl⟩
       ·go_wp2_with (fail)
        exact ⟨⟨k+1,by omega,by simp⟩,by simp [intOf];omega⟩
     ·have e:k=s.size:=by omega
      subst e
      go_wp2_with (fail)
      go_returns
      exact ⟨⟨_,rfl⟩,rfl⟩
set_option maxHeartbeats 2000000 in
theorem parse_any (s:ByteArray) (w:World) (hs:s.size≤140737488351232) (hv:Sent w):Calls Tryz.prog 213 #[.string s] w fun e w'=>(∃ n k:Int,e=.returned (.tuple #[.int .i64 n,.int .i64 k]))∧Below w.heap.size w w':=by
 have HV:=Lib.hid hv
 clear hv
 go_enter Tryz.func213,Tryz.ntmps213
 go_wp2_with (first
  | (go_at_call 232;(with_reducible refine (decimal_any _ _ hs).mono ?_);rintro e w1 ⟨⟨v,rfl⟩,hw1⟩;rw [hw1];clear hw1 w1;cases v)
  | (go_at_call 233;(with_reducible refine (atoi_any _ _ hs HV.out).mono ?_);rintro e w2 ⟨⟨n,hn⟩,hb2⟩;have HB2:=Lib.hid hb2;clear hb2;rcases hn with rfl | ⟨t,p,rfl⟩)
  | (go_at_call 144;(with_reducible refine (valid_any _ _).mono ?_);rintro e w3 ⟨rfl,hw3⟩;rw [hw3];clear hw3 w3))
 all_goals
  go_returns
  first
   | exact ⟨⟨_,_,rfl⟩,HB2.out⟩
   | exact ⟨⟨_,_,rfl⟩,Below.refl _ _⟩
end
section
open Go.RowKit
set_option maxRecDepth 100000
theorem indexByte_bd (l:List UInt8) (c:UInt8) : -1≤Lib.indexByte l c∧Lib.indexByte l c<l.length:=by
 induction l with
 | nil=>simp [Lib.indexByte]
 | cons a l ih =>
  unfold Lib.indexByte
  split
  ·simp
  ·split
   ·simp
    omega
   ·simp at ih ⊢
    omega
theorem indexByte_pos {l:List UInt8} {c:UInt8} (h:l.head?≠some c):Lib.indexByte l c≠0:=by
 cases l with
 | nil=>simp [Lib.indexByte]
 | cons a l =>
  have hb:=indexByte_bd l c
  unfold Lib.indexByte
  rw [if_neg (by simpa using h)]
  split
  ·omega
  ·rename_i h2
   simp at h2
   omega
attribute [local go_sem] wrap32_byte
theorem ext_head (s:ByteArray) (k:Nat) (h:k<s.size):(s.extract k s.size).data.toList.head? = some s[k]:=by
 rw [List.head?_eq_getElem?]
 have h1:(s.extract k s.size).data.toList=(s.data.toList.drop k):=by
  simp
  rw [List.take_of_length_le (by simp)]
 rw [h1,List.getElem?_drop,Nat.add_zero,List.getElem?_eq_getElem (by simpa using h)]
 rfl
theorem pre_head {l:List UInt8} (h:Lib.hasPrefix l [47,47]=true):l.head? = some 47:=by
 unfold Lib.hasPrefix at h
 cases l with
 | nil=>cases h
 | cons a l =>
  simp at h
  simp [h.1]
set_option maxHeartbeats 4000000 in
theorem skip_any (s:ByteArray) (w:World) (hs:s.size≤140737488351232):Calls Tryz.prog 179 #[.string s] w fun e w'=>(∃ n:Nat,e=.returned (.int .i64 n)∧n≤s.size∧((∃ h:0<s.size,letB s[0]=true)→n=0))∧Below w.heap.size w w':=by
 go_enter Tryz.func179,Tryz.ntmps179
 go_wp2_with (fail)
 go_loopw [3] (fun nv wr=>∃ k:Nat,k≤s.size∧nv=.int .i64 k∧Hid ((∃ h:0<s.size,letB s[0]=true)→k=0)∧Below w.heap.size w wr) (fun nv _=>s.size - (intOf nv).toNat)
 case atStart=>exact ⟨0,Nat.zero_le _,rfl,Lib.hid (fun _=>rfl),Below.refl _ _⟩
 case round =>
  obtain ⟨k,hk,rfl,HR,hbel⟩:=hrel
  have HB:=Lib.hid hbel
  clear hbel
  have hk0:(0:Int)≤(k:Int):=by omega
  by_cases hlt:k<s.size
  ·have hlt':(k:Int)<(s.size:Int):=by omega
   have hk9:(k:Int)+1≤9223372036854775807:=by omega
   have hs9:(s.size:Int)≤140737488351232:=by omega
   obtain ⟨bb,hbb⟩:∃ bb,blaB s[k]=bb:=⟨_,rfl⟩
   have HBB:=Lib.hid hbb
   clear hbb
   cases bb with
   | true =>
    go_wp2_with (first
     | (go_at_call 208;(with_reducible refine (of_not _ _).mono ?_);rintro e w1 ⟨⟨c,rfl,_,_,hc1,_⟩,hb1⟩;have HB1:=Lib.hid (below_call' hb1 HB.out HB.out.size);have hc:c=1:=hc1.2 HBB.out;subst hc;clear hb1 hc1))
    refine ⟨⟨k+1,by omega,by simp,Lib.hid ?_,HB1.out⟩,by simp [intOf];omega⟩
    rintro ⟨h,hl⟩
    have e:=HR.out ⟨h,hl⟩
    subst e
    have:=HBB.out
    unfold letB at hl
    unfold blaB at this
    simp at hl this
    omega
   | false =>
    obtain ⟨pp,hpp⟩:∃ pp,Lib.hasPrefix (s.extract k s.size).data.toList [47,47]=pp:=⟨_,rfl⟩
    have HPP:=Lib.hid hpp
    have HPX:Hid (∀ wx,Calls Tryz.prog 209 #[.string (s.extract k s.size),.string ⟨#[47,47]⟩] wx fun e w'=>e=.returned (.bool pp)∧w'=wx):=Lib.hid (fun wx=>by rw [← hpp];exact Tryz.strings_HasPrefix _ _ wx)
    clear hpp
    cases pp with
    | false =>
     go_wp2_with (first
      | (go_at_call 208;(with_reducible refine (of_not _ _).mono ?_);rintro e w1 ⟨⟨c,rfl,_,_,hc1,_⟩,hb1⟩;have HB1:=Lib.hid (below_call' hb1 HB.out HB.out.size);have hc:(c == 1)=false:=(by simp only [beq_eq_false_iff_ne,ne_eq];intro e;have:=hc1.1 e;rw [HBB.out] at this;cases this);clear hb1 hc1)
      | (go_at_call 209;(with_reducible refine (HPX.out _).mono ?_);rintro e w2 ⟨rfl,hw2⟩;rw [hw2];clear hw2 w2))
     go_returns
     exact ⟨⟨k,rfl,hk,HR.out⟩,HB1.out⟩
    | true =>
     obtain ⟨x,hx⟩:∃ x,Lib.indexByte (s.extract k s.size).data.toList 10=x:=⟨_,rfl⟩
     have HIX:Hid (∀ wx,Calls Tryz.prog 210 #[.string (s.extract k s.size),.int .i32 10] wx fun e w'=>e=.returned (.int .i64 x)∧w'=wx):=Lib.hid (fun wx=>by rw [← hx];exact Tryz.strings_IndexRune_ascii _ 10 wx (by omega) (by omega))
     have hx1:=indexByte_bd (s.extract k s.size).data.toList 10
     have hx2:Lib.indexByte (s.extract k s.size).data.toList 10≠0:=indexByte_pos (by rw [pre_head HPP.out];decide)
     have h47:s[k]=47:=by
      have h1:=ext_head s k hlt
      rw [pre_head HPP.out] at h1
      injection h1 with h1
      exact h1.symm
     have HNL:Hid (k=0→letB s[k]=true→False):=Lib.hid (fun _ h=>by rw [h47] at h;cases h)
     rw [hx] at hx1 hx2
     have hxl:x<(s.size:Int) - k:=by
      have:=hx1.2
      simp at this
      omega
     have hx0:=hx1.1
     clear hx hx1 h47
     have HNO:Hid ((∃ h:0<s.size,letB s[0]=true)→False):=Lib.hid (fun h=>by
      have e:=HR.out h
      obtain ⟨h,hl⟩:=h
      subst e
      exact HNL.out rfl hl)
     by_cases hneg:x<0
     ·go_wp2_with (first
       | (go_at_call 208;(with_reducible refine (of_not _ _).mono ?_);rintro e w1 ⟨⟨c,rfl,_,_,hc1,_⟩,hb1⟩;have HB1:=Lib.hid (below_call' hb1 HB.out HB.out.size);have hc:(c == 1)=false:=(by simp only [beq_eq_false_iff_ne,ne_eq];intro e;have:=hc1.1 e;rw [HBB.out] at this;cases this);clear hb1 hc1)
       | (go_at_call 209;(with_reducible refine (HPX.out _).mono ?_);rintro e w2 ⟨rfl,hw2⟩;rw [hw2];clear hw2 w2)
       | (go_at_call 210;(with_reducible refine (HIX.out _).mono ?_);rintro e w2 ⟨rfl,hw2⟩;rw [hw2];clear hw2 w2))
      go_returns
      exact ⟨⟨s.size,rfl,Nat.le_refl _,fun h=>absurd (HNO.out h) id⟩,HB1.out⟩
     ·have HKM:Hid (0<x.toNat∧k+x.toNat≤s.size∧((k+x.toNat:Nat):Int)=k+x):=Lib.hid ⟨by omega,by omega,by omega⟩
      have hkm9:(k:Int)+x≤9223372036854775807:=by omega
      have hxx:0≤x:=by omega
      clear hx2 hx0 hxl hs9 hk hk9
      go_wp2_with (first
       | (go_at_call 208;(with_reducible refine (of_not _ _).mono ?_);rintro e w1 ⟨⟨c,rfl,_,_,hc1,_⟩,hb1⟩;have HB1:=Lib.hid (below_call' hb1 HB.out HB.out.size);have hc:(c == 1)=false:=(by simp only [beq_eq_false_iff_ne,ne_eq];intro e;have:=hc1.1 e;rw [HBB.out] at this;cases this);clear hb1 hc1)
       | (go_at_call 209;(with_reducible refine (HPX.out _).mono ?_);rintro e w2 ⟨rfl,hw2⟩;rw [hw2];clear hw2 w2)
       | (go_at_call 210;(with_reducible refine (HIX.out _).mono ?_);rintro e w2 ⟨rfl,hw2⟩;rw [hw2];clear hw2 w2))
      exact ⟨⟨k+x.toNat,HKM.out.2.1,by rw [HKM.out.2.2],Lib.hid (fun h=>absurd (HNO.out h) id),HB1.out⟩,by have:=HKM.out;simp [intOf];omega⟩
  ·have e:k=s.size:=by omega
   subst e
   go_wp2_with (fail)
   go_returns
   exact ⟨⟨s.size,rfl,Nat.le_refl _,HR.out⟩,HB.out⟩
set_option maxHeartbeats 2000000 in
theorem symbol_any (s:ByteArray) (w:World) (hs:s.size≤140737488351232):Calls Tryz.prog 215 #[.string s] w fun e w'=>BoolP e∧Below w.heap.size w w':=by
 have HB:=Lib.hid (Below.refl w.heap.size w)
 by_cases h1:s.size=1
 ·have h0:0<s.size:=by omega
  have h0':(0:Int)<(s.size:Int):=by omega
  have h1':((s.size:Int) == 1)=true:=by simp;omega
  go_enter Tryz.func215,Tryz.ntmps215
  go_wp2_with (first
   | (go_at_call 208;(with_reducible refine (of_not _ _).mono ?_);rintro e w1 ⟨⟨c,rfl,_⟩,hb1⟩;have HB1:=Lib.hid hb1;clear hb1))
  all_goals
   go_returns
   first
    | exact ⟨⟨_,rfl⟩,HB1.out⟩
    | exact ⟨⟨_,rfl⟩,HB.out⟩
 ·have h1':((s.size:Int) == 1)=false:=by simp;omega
  go_enter Tryz.func215,Tryz.ntmps215
  go_wp2_with (fail)
  all_goals
   go_returns
   exact ⟨⟨_,rfl⟩,HB.out⟩
end
end Go.Proofs.YthiimbhjpdphpaaGreatDoor
