/- GR2 -/
import Derived.Test.YthiimbhjpdphpaaGreatDoorPV1
import Derived.Test.YthiimbhjpdphpaaGreatDoorPShelf
set_option linter.unusedVariables false
set_option linter.unusedSimpArgs false
namespace Go.Proofs.YthiimbhjpdphpaaGreatDoor
open Go.RowKit
set_option maxRecDepth 100000
open Go.Proofs.Tryz
section
open Go.RowKit Go.Lib
def Pow (w:World):Prop:=Lib.TabIs prog w "internal/strconv.uint64pow10" .u64 Lib.pow10Tab
theorem var_below {w w':World} {n:String} {cs:Array Value} (h:Below w.heap.size w w') (hv:w.var? prog n=some cs):w'.var? prog n=some cs:=by
 have h0:=hv;unfold World.var? at h0;cases hg:prog.globalNamed n with
 | none=>rw [hg] at h0;cases h0
 | some g =>
  rw [hg] at h0;simp only [Option.bind_some] at h0;unfold World.var?;rw [hg];simp only [Option.bind_some];split at h0
  ·rename_i cs' t f hh
   rw [(h.block g (lt_of_block hh)).trans hh];exact h0
  ·cases h0
theorem Pow.below {w w':World} (h:Pow w) (hb:Below w.heap.size w w'):Pow w':=var_below hb h
theorem below_grow (w:World) (q:Nat) (os:Array Obj):Below w.heap.size w (Go.Sort.grow (w.drewN q) os) :=
 ⟨rfl,rfl,rfl,by simp [Go.Sort.grow],fun i hi=>by
  show ((w.drewN q).heap ++ os)[i]? = _;rw [Array.getElem?_append_left (by simpa using hi)];rfl⟩
theorem quoted_any (s:ByteArray) (w:World) (hs:s.size≤140737488351232) :
  Calls prog 219 #[.string s] w fun e w'=>e=.returned (.int .i64 (quotedN s))∧w'=w:=by
 have h1:s.data.toList.count 34≤s.size:=by have:=List.count_le_length (a:=(34:UInt8)) (l:=s.data.toList);simpa using this
 have h2:s.data.toList.count 92≤s.size:=by have:=List.count_le_length (a:=(92:UInt8)) (l:=s.data.toList);simpa using this
 obtain ⟨a,ha⟩:∃ a,s.data.toList.count 34=a:=⟨_,rfl⟩
 obtain ⟨b,hb⟩:∃ a,s.data.toList.count 92=a:=⟨_,rfl⟩
 have HC1:Hid (Calls prog 235 #[.string s,.string ⟨#[34]⟩] w fun e w'=>e=.returned (.int .i64 a)∧w'=w):=hZz (by rw [← ha];exact Tryz.strings_Count_one s 34 w);have HC2:Hid (Calls prog 235 #[.string s,.string ⟨#[92]⟩] w fun e w'=>e=.returned (.int .i64 b)∧w'=w):=hZz (by rw [← hb];exact Tryz.strings_Count_one s 92 w);have HQ:Hid (quotedN s=(s.size:Int)+2+a+b):=hZz (by unfold quotedN;rw [ha,hb]);rw [ha] at h1;rw [hb] at h2;clear ha hb;have q0:(0:Int)≤(s.size:Int):=by omega
 have q1:(s.size:Int)≤140737488351232:=by omega
 have q2:(0:Int)≤(a:Int):=by omega
 have q3:(a:Int)≤140737488351232:=by omega
 have q4:(0:Int)≤(b:Int):=by omega
 have q5:(b:Int)≤140737488351232:=by omega
 go_enter func219,ntmps219
 go_wp2_with (first
  | (go_at_call 235;(with_reducible refine HC1.out.mono ?_);rintro e w1 ⟨rfl,hw1⟩;rw [hw1];clear hw1 w1)
  | (go_at_call 235;(with_reducible refine HC2.out.mono ?_);rintro e w1 ⟨rfl,hw1⟩;rw [hw1];clear hw1 w1))
 go_ret;exact ⟨by rw [HQ.out];rfl,rfl⟩
theorem format_any (n:Int) (w:World) (h0 : -9223372036854775808≤n) (h1:n≤9223372036854775807) (hp:Pow w) :
  Calls prog 236 #[.int .i64 n] w fun e w'=>∃ s:ByteArray,s.size=itoaLen n∧s=⟨(Lib.itoa n).toArray⟩∧e=.returned (.string s)∧Below w.heap.size w w':=by
 have HI:=hZz (Tryz.strconv_Itoa n h0 h1 w hp);clear hp;go_enter func236,ntmps236
 go_wp2_with (first
  | (go_at_call 244;(with_reducible refine HI.out.mono ?_);rintro e w1 ⟨rfl,k,os,hw1⟩;have HW:=hZz hw1;clear hw1))
 go_returns;exact ⟨_,by simp [itoaLen,ByteArray.size],rfl,rfl,by rw [HW.out];exact below_grow w k os⟩
attribute [local go_sem] zabZ
def SizePost (w:World) (n:Int) (e:Ending) (w':World):Prop:=e=.returned (.int .i64 n)∧Below w.heap.size w w'
set_option maxHeartbeats 2000000 in
theorem size_any (c:CellD) (w:World) (hp:Pow w) (hb:plainB c=true) (hs:c.str.size≤140737488351232) (hi : -9223372036854775808≤c.int∧c.int≤9223372036854775807) (hn:c.n≤9000000000000000000) :
  Calls prog 220 #[.agg #[.int .i64 c.kind,.int .i64 c.int,.string c.str,.int .i64 c.n]] w (SizePost w (sizeN c)):=by
 obtain ⟨P,hP⟩:∃ P,SizePost w (sizeN c)=P:=⟨_,rfl⟩
 rw [hP];have HP:=hZz hP;have hk:=plain_kind hb;have HB:=hZz hb;have hb0:=zacZ w (.cells #[.int .i64 c.kind,.int .i64 c.int,.string c.str,.int .i64 c.n] 103);have HB0:=hZz hb0;have HF:=hZz (format_any c.int _ hi.1 hi.2 (hp.below hb0));have HQ:=hZz (quoted_any c.str (w.alloc (.cells #[.int .i64 c.kind,.int .i64 c.int,.string c.str,.int .i64 c.n] 103)) hs);clear hP hp hb hb0;obtain ⟨k,i,s,n⟩:=c;dsimp only at hs hi hn hk HF HQ HB0 ⊢;rcases hk with rfl | rfl | rfl | rfl | rfl | rfl
 ·go_enter func220,ntmps220
  go_wp2_with (fail)
  rw [← HP.out];exact ⟨rfl,HB0.out⟩
 ·have hi2:i=0∨i=1:=by
   have:=HB.out
   simp [plainB] at this
   exact this.1
  rcases hi2 with rfl | rfl
  ·go_enter func220,ntmps220
   go_wp2_with (fail)
   rw [← HP.out];exact ⟨rfl,HB0.out⟩
  ·go_enter func220,ntmps220
   go_wp2_with (fail)
   rw [← HP.out];exact ⟨rfl,HB0.out⟩
 ·clear hi
  go_enter func220,ntmps220
  go_wp2_with (first
   | (go_at_call 236;(with_reducible refine HF.out.mono ?_);rintro e w1 ⟨t,ht,ht2,rfl,hb1⟩;have HT:=hZz ht;have HB1:=hZz hb1;clear ht ht2 hb1))
  rw [← HP.out];exact ⟨by show Ending.returned (.int .i64 (t.size:Nat))=_;rw [HT.out];rfl,zahZ HB1.out HB0.out⟩
 ·go_enter func220,ntmps220
  go_wp2_with (first
   | (go_at_call 219;(with_reducible refine HQ.out.mono ?_);rintro e w1 ⟨rfl,hw1⟩;rw [hw1];clear hw1 w1))
  rw [← HP.out];exact ⟨rfl,HB0.out⟩
 all_goals
  have hn0:0≤n:=plain_n HB.out (by simp);by_cases h1:n≤0
  ·obtain rfl:n=0:=by omega
   go_enter func220,ntmps220
   go_wp2_with (fail)
   rw [← HP.out];exact ⟨rfl,HB0.out⟩
  ·have h2:0≤n - 1:=by omega
   have h3:¬ n - 1<0:=by omega
   go_enter func220,ntmps220
   go_wp2_with (fail)
   rw [← HP.out];exact ⟨rfl,HB0.out⟩
def SizeSome (w:World) (e:Ending) (w':World):Prop:=∃ n,e=.returned (.int .i64 n)∧Below w.heap.size w w'
set_option maxHeartbeats 2000000 in
theorem size_some (c:CellD) (w:World) (hb:plainB c=true) (hn:1<c.n) :
  Calls prog 220 #[.agg #[.int .i64 c.kind,.int .i64 c.int,.string c.str,.int .i64 c.n]] w (SizeSome w):=by
 obtain ⟨P,hP⟩:∃ P,SizeSome w=P:=⟨_,rfl⟩
 rw [hP];have HP:=hZz hP
 have hk:c.kind=5∨c.kind=6:=by
  by_cases h:c.kind=5∨c.kind=6
  ·exact h
  ·have:=plain_n0 hb h;omega
 have HB0:=hZz (zacZ w (.cells #[.int .i64 c.kind,.int .i64 c.int,.string c.str,.int .i64 c.n] 103));clear hP hb;obtain ⟨k,i,s,n⟩:=c;dsimp only at hn hk HB0 ⊢;rcases hk with rfl | rfl
 all_goals
  go_enter func220,ntmps220
  go_wp2_with (fail)
  all_goals
   rw [← HP.out];exact ⟨_,rfl,HB0.out⟩
theorem zagY (s:ByteArray):(s.toList=[])↔s.size=0:=by
 rw [ByteArray.toList_eq];constructor
 ·intro h
  have:s.data.toList.length=0:=by rw [h];rfl
  simpa using this
 ·intro h
  apply List.eq_nil_of_length_eq_zero
  simpa using h
theorem zbqY {a b:Bool} (h:a=b):Ending.returned (.bool a)=.returned (.bool b):=by rw [h]
def BoolPost (w:World) (b:Bool) (e:Ending) (w':World):Prop:=e=.returned (.bool b)∧Below w.heap.size w w'
set_option maxHeartbeats 4000000 in
theorem plain_any (c:CellD) (w:World) (hs:c.str.size≤140737488351232) :
  Calls prog 218 #[.agg #[.int .i64 c.kind,.int .i64 c.int,.string c.str,.int .i64 c.n]] w (BoolPost w (plainB c)):=by
 obtain ⟨P,hP⟩:∃ P,BoolPost w (plainB c)=P:=⟨_,rfl⟩
 rw [hP];have HP:=hZz hP;obtain ⟨tt,htt⟩:∃ t,txtB c.str=t:=⟨_,rfl⟩
 have HT:Hid (∀ wx,Calls prog 234 #[.string c.str] wx fun e w'=>e=.returned (.bool tt)∧w'=wx):=hZz (fun wx=>by rw [← htt];exact text_any c.str wx (by omega));have HTT:=hZz htt;clear hP htt hs;obtain ⟨k,i,s,n⟩:=c;dsimp only at HT HTT ⊢;by_cases h1:k=1
 ·subst h1
  by_cases hi0:i=0
  all_goals by_cases hs0:s.size=0
  all_goals by_cases hn0:n=0
  all_goals
   have hs1:=hs0;rw [← zagY] at hs1;have HS0:=hZz hs0;clear hs0;go_enter func218,ntmps218
   go_wp2_with (fail)
   all_goals (rw [← HP.out];refine ⟨zbqY ?_,zacZ w _⟩;simp [plainB,hi0,hn0,HS0.out])
 by_cases h2:k=2
 ·subst h2
  by_cases hi0:i=0
  all_goals by_cases hi1:i=1
  all_goals by_cases hs0:s.size=0
  all_goals by_cases hn0:n=0
  all_goals first | (exfalso;omega) | skip
  all_goals
   have hs1:=hs0;rw [← zagY] at hs1;have HS0:=hZz hs0;clear hs0 h1;go_enter func218,ntmps218
   go_wp2_with (fail)
   all_goals (rw [← HP.out];refine ⟨zbqY ?_,zacZ w _⟩;simp [plainB,hi0,hi1,hn0,HS0.out])
 by_cases h3:k=3
 ·subst h3
  by_cases hs0:s.size=0
  all_goals by_cases hn0:n=0
  all_goals
   have hs1:=hs0;rw [← zagY] at hs1;have HS0:=hZz hs0;clear hs0 h1 h2;go_enter func218,ntmps218
   go_wp2_with (fail)
   all_goals (rw [← HP.out];refine ⟨zbqY ?_,zacZ w _⟩;simp [plainB,hn0,HS0.out])
 by_cases h4:k=4
 ·subst h4
  clear h1 h2 h3;by_cases hi0:i=0
  all_goals by_cases hn0:n=0
  all_goals cases tt
  all_goals
   go_enter func218,ntmps218
   go_wp2_with (first
    | (go_at_call 234;(with_reducible refine (HT.out _).mono ?_);rintro e w1 ⟨rfl,hw1⟩;rw [hw1];clear hw1 w1))
   all_goals (rw [← HP.out];refine ⟨zbqY ?_,zacZ w _⟩;simp [plainB,hi0,hn0,HTT.out])
 by_cases h5:k=5∨k=6
 ·clear h1 h2 h3 h4
  by_cases hi0:i=0
  all_goals by_cases hs0:s.size=0
  all_goals by_cases hn0:0≤n
  all_goals
   have hs1:=hs0;rw [← zagY] at hs1;have HS0:=hZz hs0;clear hs0;rcases h5 with rfl | rfl
   all_goals
    go_enter func218,ntmps218
    go_wp2_with (fail)
    all_goals (rw [← HP.out];refine ⟨zbqY ?_,zacZ w _⟩;simp [plainB,hi0,hn0,HS0.out])
 ·have h6:¬ k=5:=fun h=>h5 (.inl h)
  have h7:¬ k=6:=fun h=>h5 (.inr h)
  clear h5;go_enter func218,ntmps218
  go_wp2_with (fail)
  all_goals (rw [← HP.out];refine ⟨zbqY ?_,zacZ w _⟩;simp [plainB,h1,h2,h3,h4,h6,h7])
end
section
attribute [local go_sem] zabZ
end
section
attribute [local go_sem] zabZ
end
end Go.Proofs.YthiimbhjpdphpaaGreatDoor
