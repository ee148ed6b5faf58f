/- GK1, E4, E5 -/
import Derived.Test.YthiimbhjpdphpaaGreatDoorPV5
set_option linter.unusedVariables false
set_option linter.unusedSimpArgs false
namespace Go.Proofs.YthiimbhjpdphpaaGreatDoor
open Go.RowKit
set_option maxRecDepth 100000
attribute [local go_sem] zacZ
open Go.Proofs.Tryz
set_option maxHeartbeats 4000000 in
theorem za7Y (l:List CellD) (A:Option Addr) (cap:Nat) (w:World) (h:SlAt w A 4 CellD.cells l) (hp:Pow w) (hlen:l.length≤10000) (hcap:l.length≤cap) (hok:∀ c∈l,okC c) :
  Calls prog 152 #[.slice A l.length cap] w fun e w'=>e=.returned (.int .i64 (checkF l))∧Below w.heap.size w w':=by
 obtain ⟨ck,hck⟩:∃ c,checkF l=c:=⟨_,rfl⟩
 rw [hck];have HCK:=hZz hck;have HL:=hZz (look_any l A cap w h hp hlen hcap hok);obtain ⟨F,hF⟩:∃ F,px l 0=F:=⟨_,rfl⟩
 rw [hF] at HL;have HF:=hZz hF;clear hck hF h hp hok;cases F with
 | none =>
  have HL2:Hid (Calls prog 186 #[.slice A l.length cap] w fun e w'=>(∃ a b o t,e=.returned (.tuple #[.int .i64 0,.agg #[.int .i64 a,.int .i64 b,.bool o,.bool t],.bool false]))∧Below w.heap.size w w'):=hZz (HL.out.mono fun e w' ⟨h1,h2⟩=>⟨h2,h1⟩);have hc:ck=1:=by rw [← HCK.out];unfold checkF;rw [HF.out];rfl
  subst hc;clear HL;go_enter func152,ntmps152
  go_wp2_with (first
   | (go_at_call 186;(with_reducible refine HL2.out.mono ?_);rintro e w1 ⟨⟨a,b,o,t,rfl⟩,hb1⟩;have HB1:=hZz hb1;clear hb1))
  all_goals
   go_returns;exact ⟨rfl,HB1.out.alloc HB1.out.size _⟩
 | some r =>
  have HL2:Hid (Calls prog 186 #[.slice A l.length cap] w fun e w'=>e=.returned (.tuple #[.int .i64 r.j,.agg #[.int .i64 r.d,.int .i64 r.b,.bool (outs (l.take r.j)),.bool (longs (l.take r.j))],.bool true])∧Below w.heap.size w w'):=hZz (HL.out.mono fun e w' ⟨h1,h2⟩=>⟨h2,h1⟩);have had:=px_adv HF.out;by_cases hj:r.j=l.length
  ·have ho:outs (l.take r.j)=l.any outB:=by rw [hj,List.take_length];rfl
   have hl:longs (l.take r.j)=l.any longB:=by rw [hj,List.take_length];rfl
   have hck2:ck=if l.any outB then eRange else if l.any longB || (decide (200<l.length) || (decide (8<r.d) || decide (4000<r.b))) then eLimit else 0:=by
    rw [← HCK.out];unfold checkF;rw [HF.out];simp only [hj,ne_eq,not_true_eq_false,if_false]
   rw [ho,hl] at HL2;obtain ⟨oo,hoo⟩:∃ t,l.any outB=t:=⟨_,rfl⟩
   obtain ⟨ll,hll⟩:∃ t,l.any longB=t:=⟨_,rfl⟩
   rw [hoo,hll] at HL2 hck2;rw [hj] at HL2;obtain ⟨j,d,b⟩:=r;dsimp only at HL2 hck2;clear HL had hj ho hl hoo hll HF HCK;cases oo with
   | true =>
    have hc:ck=2:=hck2;subst hc;clear hck2;go_enter func152,ntmps152
    go_wp2_with (first
     | (go_at_call 186;(with_reducible refine HL2.out.mono ?_);rintro e w1 ⟨rfl,hb1⟩;have HB1:=hZz hb1;clear hb1))
    all_goals
     go_returns;exact ⟨rfl,HB1.out.alloc HB1.out.size _⟩
   | false =>
    by_cases h1:ll=true
    ·subst h1
     have hc:ck=3:=hck2;subst hc;clear hck2;go_enter func152,ntmps152
     go_wp2_with (first
      | (go_at_call 186;(with_reducible refine HL2.out.mono ?_);rintro e w1 ⟨rfl,hb1⟩;have HB1:=hZz hb1;clear hb1))
     all_goals
      go_returns;exact ⟨rfl,HB1.out.alloc HB1.out.size _⟩
    ·obtain rfl:ll=false:=by simpa using h1
     clear h1;by_cases h2:(200:Int)<(l.length:Int)
     all_goals by_cases h3:(8:Int)<(d:Int)
     all_goals by_cases h4:4000<b
     all_goals
      have h2':decide (200<l.length)=decide ((200:Int)<(l.length:Int)):=decide_eq_decide.2 (by omega);have h3':decide (8<d)=decide ((8:Int)<(d:Int)):=decide_eq_decide.2 (by omega);rw [h2',h3'] at hck2;simp only [h2,h3,h4,decide_true,decide_false,Bool.or_true,Bool.true_or,Bool.or_false,Bool.false_or,if_true,if_false,Bool.false_eq_true] at hck2;have HC2:=hZz hck2;clear h2' h3' hck2;go_enter func152,ntmps152
      go_wp2_with (first
       | (go_at_call 186;(with_reducible refine HL2.out.mono ?_);rintro e w1 ⟨rfl,hb1⟩;have HB1:=hZz hb1;clear hb1))
      all_goals
       go_returns;exact ⟨by rw [HC2.out];rfl,HB1.out.alloc HB1.out.size _⟩
  ·have hc:ck=1:=by rw [← HCK.out];unfold checkF;rw [HF.out];simp only [ne_eq,hj,not_false_eq_true,if_true];rfl
   have hji:¬ ((r.j:Int)=(l.length:Int)):=by omega
   have hjb:((r.j:Int) != (l.length:Int))=true:=by simpa using hji
   subst hc;obtain ⟨j,d,b⟩:=r;dsimp only at HL2 hji hjb;clear HL had hj HF HCK;go_enter func152,ntmps152
   go_wp2_with (first
    | (go_at_call 186;(with_reducible refine HL2.out.mono ?_);rintro e w1 ⟨rfl,hb1⟩;have HB1:=hZz hb1;clear hb1))
   all_goals
    go_returns;exact ⟨rfl,HB1.out.alloc HB1.out.size _⟩
theorem okC_str (s:ByteArray) (h:s.size≤140737488351232):okC (strC s):=⟨h,⟨by show -9223372036854775808≤0;omega,by show 0≤9223372036854775807;omega⟩,by show 0≤9223372036854775807;omega⟩
theorem Tryz.kStr:KeyOk prog 9 Value.string:=keyOk_string underlying9
theorem Tryz.zeroInt (w:World):(zeroValue 3).run prog w=.ok (.int .i64 0) w:=by simp [go_sem]
theorem zamZ {α β:Type} [DecidableEq α] {P:Program} {K T E:TypeId} {kc:α→Value} {vc:β→Value} {w:World} {b:Nat} {m:List (α × β)} {ops:Array Oper} {rest:List Oper} {o:Oper} {ac:Act} {Q:Exit→Act→World→Prop}
  (hg:Region.wanted o (yielded ops ac.tmps)=true) (mo xo vo:Operand) (hop:o.op=Op.insert T mo xo vo) (hK:KeyOk P K kc) (hT:P.underlying T=some (.map K E))
  (hm:ac.eval mo=.map (some b)) (a:α) (hx:ac.eval xo=kc a) (x:β) (hv:ac.eval vo=vc x) (h:MapAt w b kc vc m)
  (hk:∀ w',MapAt w' b kc vc (alSet m a x)→w.grownBy w' (some b)→w'.heap.size=w.heap.size→wpList P ops Q rest (ac.put o.dst undef) w'):wpList P ops Q (o :: rest) ac w:=by
 refine wpList_step fun K' hK'=>?_
 rw [if_pos hg];obtain ⟨w',hrun,h1,h2,h3,_⟩:=h.store (x:=x) hK hT a;unfold Oper.wp;simp [execOp,hop,hm,hx,hv,hrun,Result.andThen]
 exact hK' _ _ (hk w' h1 h2 h3)
theorem bytes_lit (s:ByteArray) (a:Array UInt8):(s=⟨a⟩)=(s.toList=a.toList):=by
 rw [Lib.toList_data];apply propext
 constructor
 ·rintro rfl;rfl
 ·intro h;exact ByteArray.ext (Array.ext' h)
set_option maxHeartbeats 2000000 in
theorem arity_any (b:Nat) (m:List (ByteArray × Int)) (s:ByteArray) (r:Option Int) (w:World) (h:MapAt w b Value.string (Value.int .i64) m) (hr:alGet m s=r) :
  Calls prog 138 #[.map (some b),.string s] w fun e w'=>e=.returned (.tuple #[.int .i64 (r.getD 0),.bool r.isSome])∧w'=w:=by
 have HM:=hZz h;have HR:=hZz hr;clear h hr;go_enter func138,ntmps138
 go_wp2_with (first
  | (at_lookup;refine zatY rfl (.tmp 9) (.tmp 10) rfl Tryz.kStr underlying114 0 (Tryz.zeroInt _) rfl s rfl HM.out r HR.out (.int .i64 (r.getD 0)) rfl r.isSome rfl ?_))
 go_returns;exact ⟨rfl,rfl⟩
theorem built_get (s:ByteArray):alGet ((alSet (alSet (alSet (alSet (alSet (alSet (alSet (alSet [] (⟨#[108,101,110]⟩:ByteArray) (1:Int)) (⟨#[115,116,114]⟩:ByteArray) (1:Int)) (⟨#[105,110,116]⟩:ByteArray) (1:Int)) (⟨#[112,117,115,104]⟩:ByteArray) (2:Int)) (⟨#[112,117,116]⟩:ByteArray) (3:Int)) (⟨#[107,101,121,115]⟩:ByteArray) (1:Int)) (⟨#[104,97,115]⟩:ByteArray) (2:Int)) (⟨#[102,97,105,108]⟩:ByteArray) (1:Int)):List (ByteArray × Int)) s=lookL builtL s:=by
 simp only [alGet_set,alGet,lookL,builtL,List.lookup];simp only [eq_comm (b:=s),bytes_lit]
 repeat' (first | rfl | split | simp_all)
set_option maxHeartbeats 4000000 in
theorem built_any (s:ByteArray) (w:World):Calls prog 86 #[.string s] w fun e w'=>e=.returned (.tuple #[.int .i64 ((lookL builtL s).getD 0),.bool (lookL builtL s).isSome])∧Below w.heap.size w w':=by
 have hmm:=@run_makeMap prog;have HM0:=hZz (MapAt.new w Value.string (Value.int .i64));have HB0:=hZz (zabZ w (.map #[] 0));obtain ⟨r,hr⟩:∃ r,lookL builtL s=r:=⟨_,rfl⟩
 rw [hr];have HR:=hZz hr;clear hr;go_enter func86,ntmps86
 go_wp2_with (first
   | (refine zamZ rfl (.tmp 4) (.const (.string ⟨#[108,101,110]⟩)) (.const (.int .i64 1)) rfl Tryz.kStr underlying114 rfl (⟨#[108,101,110]⟩:ByteArray) rfl (1:Int) rfl HM0.out ?_;intro w1 hm1 hg1 hs1;have HM1:=hZz hm1;have HB1:Hid (Below w.heap.size w w1):=hZz (HB0.out.grown hg1 HB0.out.size (fun k hk=>by injection hk with hk;omega));clear hm1 hg1 hs1)
   | (refine zamZ rfl (.tmp 4) (.const (.string ⟨#[115,116,114]⟩)) (.const (.int .i64 1)) rfl Tryz.kStr underlying114 rfl (⟨#[115,116,114]⟩:ByteArray) rfl (1:Int) rfl HM1.out ?_;intro w2 hm2 hg2 hs2;have HM2:=hZz hm2;have HB2:Hid (Below w.heap.size w w2):=hZz (HB1.out.grown hg2 HB1.out.size (fun k hk=>by injection hk with hk;omega));clear hm2 hg2 hs2)
   | (refine zamZ rfl (.tmp 4) (.const (.string ⟨#[105,110,116]⟩)) (.const (.int .i64 1)) rfl Tryz.kStr underlying114 rfl (⟨#[105,110,116]⟩:ByteArray) rfl (1:Int) rfl HM2.out ?_;intro w3 hm3 hg3 hs3;have HM3:=hZz hm3;have HB3:Hid (Below w.heap.size w w3):=hZz (HB2.out.grown hg3 HB2.out.size (fun k hk=>by injection hk with hk;omega));clear hm3 hg3 hs3)
   | (refine zamZ rfl (.tmp 4) (.const (.string ⟨#[112,117,115,104]⟩)) (.const (.int .i64 2)) rfl Tryz.kStr underlying114 rfl (⟨#[112,117,115,104]⟩:ByteArray) rfl (2:Int) rfl HM3.out ?_;intro w4 hm4 hg4 hs4;have HM4:=hZz hm4;have HB4:Hid (Below w.heap.size w w4):=hZz (HB3.out.grown hg4 HB3.out.size (fun k hk=>by injection hk with hk;omega));clear hm4 hg4 hs4)
   | (refine zamZ rfl (.tmp 4) (.const (.string ⟨#[112,117,116]⟩)) (.const (.int .i64 3)) rfl Tryz.kStr underlying114 rfl (⟨#[112,117,116]⟩:ByteArray) rfl (3:Int) rfl HM4.out ?_;intro w5 hm5 hg5 hs5;have HM5:=hZz hm5;have HB5:Hid (Below w.heap.size w w5):=hZz (HB4.out.grown hg5 HB4.out.size (fun k hk=>by injection hk with hk;omega));clear hm5 hg5 hs5)
   | (refine zamZ rfl (.tmp 4) (.const (.string ⟨#[107,101,121,115]⟩)) (.const (.int .i64 1)) rfl Tryz.kStr underlying114 rfl (⟨#[107,101,121,115]⟩:ByteArray) rfl (1:Int) rfl HM5.out ?_;intro w6 hm6 hg6 hs6;have HM6:=hZz hm6;have HB6:Hid (Below w.heap.size w w6):=hZz (HB5.out.grown hg6 HB5.out.size (fun k hk=>by injection hk with hk;omega));clear hm6 hg6 hs6)
   | (refine zamZ rfl (.tmp 4) (.const (.string ⟨#[104,97,115]⟩)) (.const (.int .i64 2)) rfl Tryz.kStr underlying114 rfl (⟨#[104,97,115]⟩:ByteArray) rfl (2:Int) rfl HM6.out ?_;intro w7 hm7 hg7 hs7;have HM7:=hZz hm7;have HB7:Hid (Below w.heap.size w w7):=hZz (HB6.out.grown hg7 HB6.out.size (fun k hk=>by injection hk with hk;omega));clear hm7 hg7 hs7)
   | (refine zamZ rfl (.tmp 4) (.const (.string ⟨#[102,97,105,108]⟩)) (.const (.int .i64 1)) rfl Tryz.kStr underlying114 rfl (⟨#[102,97,105,108]⟩:ByteArray) rfl (1:Int) rfl HM7.out ?_;intro w8 hm8 hg8 hs8;have HM8:=hZz hm8;have HB8:Hid (Below w.heap.size w w8):=hZz (HB7.out.grown hg8 HB7.out.size (fun k hk=>by injection hk with hk;omega));clear hm8 hg8 hs8)
   | (go_at_call 138;(with_reducible refine (arity_any _ _ s r w8 HM8.out (by rw [built_get];exact HR.out)).mono ?_);rintro e w99 ⟨rfl,hw99⟩;rw [hw99];clear hw99 w99))
 go_returns;exact ⟨rfl,HB8.out⟩
theorem host_get (s:ByteArray):alGet ((alSet (alSet (alSet (alSet (alSet (alSet (alSet (alSet (alSet (alSet [] (⟨#[103,101,116]⟩:ByteArray) (1:Int)) (⟨#[112,117,116]⟩:ByteArray) (2:Int)) (⟨#[100,101,108,101,116,101]⟩:ByteArray) (1:Int)) (⟨#[115,101,110,100]⟩:ByteArray) (2:Int)) (⟨#[116,105,109,101,114]⟩:ByteArray) (3:Int)) (⟨#[115,105,103,110,97,108]⟩:ByteArray) (2:Int)) (⟨#[115,101,99,114,101,116]⟩:ByteArray) (1:Int)) (⟨#[102,101,116,99,104]⟩:ByteArray) (2:Int)) (⟨#[110,111,119]⟩:ByteArray) (0:Int)) (⟨#[108,111,103]⟩:ByteArray) (1:Int)):List (ByteArray × Int)) s=lookL hostL s:=by
 simp only [alGet_set,alGet,lookL,hostL,List.lookup];simp only [eq_comm (b:=s),bytes_lit]
 repeat' (first | rfl | split | simp_all)
set_option maxHeartbeats 4000000 in
theorem host_any (s:ByteArray) (w:World):Calls prog 92 #[.string s] w fun e w'=>e=.returned (.tuple #[.int .i64 ((lookL hostL s).getD 0),.bool (lookL hostL s).isSome])∧Below w.heap.size w w':=by
 have hmm:=@run_makeMap prog;have HM0:=hZz (MapAt.new w Value.string (Value.int .i64));have HB0:=hZz (zabZ w (.map #[] 0));obtain ⟨r,hr⟩:∃ r,lookL hostL s=r:=⟨_,rfl⟩
 rw [hr];have HR:=hZz hr;clear hr;go_enter func92,ntmps92
 go_wp2_with (first
   | (refine zamZ rfl (.tmp 4) (.const (.string ⟨#[103,101,116]⟩)) (.const (.int .i64 1)) rfl Tryz.kStr underlying114 rfl (⟨#[103,101,116]⟩:ByteArray) rfl (1:Int) rfl HM0.out ?_;intro w1 hm1 hg1 hs1;have HM1:=hZz hm1;have HB1:Hid (Below w.heap.size w w1):=hZz (HB0.out.grown hg1 HB0.out.size (fun k hk=>by injection hk with hk;omega));clear hm1 hg1 hs1)
   | (refine zamZ rfl (.tmp 4) (.const (.string ⟨#[112,117,116]⟩)) (.const (.int .i64 2)) rfl Tryz.kStr underlying114 rfl (⟨#[112,117,116]⟩:ByteArray) rfl (2:Int) rfl HM1.out ?_;intro w2 hm2 hg2 hs2;have HM2:=hZz hm2;have HB2:Hid (Below w.heap.size w w2):=hZz (HB1.out.grown hg2 HB1.out.size (fun k hk=>by injection hk with hk;omega));clear hm2 hg2 hs2)
   | (refine zamZ rfl (.tmp 4) (.const (.string ⟨#[100,101,108,101,116,101]⟩)) (.const (.int .i64 1)) rfl Tryz.kStr underlying114 rfl (⟨#[100,101,108,101,116,101]⟩:ByteArray) rfl (1:Int) rfl HM2.out ?_;intro w3 hm3 hg3 hs3;have HM3:=hZz hm3;have HB3:Hid (Below w.heap.size w w3):=hZz (HB2.out.grown hg3 HB2.out.size (fun k hk=>by injection hk with hk;omega));clear hm3 hg3 hs3)
   | (refine zamZ rfl (.tmp 4) (.const (.string ⟨#[115,101,110,100]⟩)) (.const (.int .i64 2)) rfl Tryz.kStr underlying114 rfl (⟨#[115,101,110,100]⟩:ByteArray) rfl (2:Int) rfl HM3.out ?_;intro w4 hm4 hg4 hs4;have HM4:=hZz hm4;have HB4:Hid (Below w.heap.size w w4):=hZz (HB3.out.grown hg4 HB3.out.size (fun k hk=>by injection hk with hk;omega));clear hm4 hg4 hs4)
   | (refine zamZ rfl (.tmp 4) (.const (.string ⟨#[116,105,109,101,114]⟩)) (.const (.int .i64 3)) rfl Tryz.kStr underlying114 rfl (⟨#[116,105,109,101,114]⟩:ByteArray) rfl (3:Int) rfl HM4.out ?_;intro w5 hm5 hg5 hs5;have HM5:=hZz hm5;have HB5:Hid (Below w.heap.size w w5):=hZz (HB4.out.grown hg5 HB4.out.size (fun k hk=>by injection hk with hk;omega));clear hm5 hg5 hs5)
   | (refine zamZ rfl (.tmp 4) (.const (.string ⟨#[115,105,103,110,97,108]⟩)) (.const (.int .i64 2)) rfl Tryz.kStr underlying114 rfl (⟨#[115,105,103,110,97,108]⟩:ByteArray) rfl (2:Int) rfl HM5.out ?_;intro w6 hm6 hg6 hs6;have HM6:=hZz hm6;have HB6:Hid (Below w.heap.size w w6):=hZz (HB5.out.grown hg6 HB5.out.size (fun k hk=>by injection hk with hk;omega));clear hm6 hg6 hs6)
   | (refine zamZ rfl (.tmp 4) (.const (.string ⟨#[115,101,99,114,101,116]⟩)) (.const (.int .i64 1)) rfl Tryz.kStr underlying114 rfl (⟨#[115,101,99,114,101,116]⟩:ByteArray) rfl (1:Int) rfl HM6.out ?_;intro w7 hm7 hg7 hs7;have HM7:=hZz hm7;have HB7:Hid (Below w.heap.size w w7):=hZz (HB6.out.grown hg7 HB6.out.size (fun k hk=>by injection hk with hk;omega));clear hm7 hg7 hs7)
   | (refine zamZ rfl (.tmp 4) (.const (.string ⟨#[102,101,116,99,104]⟩)) (.const (.int .i64 2)) rfl Tryz.kStr underlying114 rfl (⟨#[102,101,116,99,104]⟩:ByteArray) rfl (2:Int) rfl HM7.out ?_;intro w8 hm8 hg8 hs8;have HM8:=hZz hm8;have HB8:Hid (Below w.heap.size w w8):=hZz (HB7.out.grown hg8 HB7.out.size (fun k hk=>by injection hk with hk;omega));clear hm8 hg8 hs8)
   | (refine zamZ rfl (.tmp 4) (.const (.string ⟨#[110,111,119]⟩)) (.const (.int .i64 0)) rfl Tryz.kStr underlying114 rfl (⟨#[110,111,119]⟩:ByteArray) rfl (0:Int) rfl HM8.out ?_;intro w9 hm9 hg9 hs9;have HM9:=hZz hm9;have HB9:Hid (Below w.heap.size w w9):=hZz (HB8.out.grown hg9 HB8.out.size (fun k hk=>by injection hk with hk;omega));clear hm9 hg9 hs9)
   | (refine zamZ rfl (.tmp 4) (.const (.string ⟨#[108,111,103]⟩)) (.const (.int .i64 1)) rfl Tryz.kStr underlying114 rfl (⟨#[108,111,103]⟩:ByteArray) rfl (1:Int) rfl HM9.out ?_;intro w10 hm10 hg10 hs10;have HM10:=hZz hm10;have HB10:Hid (Below w.heap.size w w10):=hZz (HB9.out.grown hg10 HB9.out.size (fun k hk=>by injection hk with hk;omega));clear hm10 hg10 hs10)
   | (go_at_call 138;(with_reducible refine (arity_any _ _ s r w10 HM10.out (by rw [host_get];exact HR.out)).mono ?_);rintro e w99 ⟨rfl,hw99⟩;rw [hw99];clear hw99 w99))
 go_returns;exact ⟨rfl,HB10.out⟩
def FromC (w w':World) (S:List Value) (v:Value):Prop:=∀ (b off n cap:Nat),v=.slice (some ⟨b,off,none⟩) n cap→(∃ u∈S,∃ off' n' cap':Nat,u=.slice (some ⟨b,off',none⟩) n' cap')∨(w.heap.size≤b∧∃ cs fz,w'.heap[b]? = some (.cells cs 103 fz))
theorem FromC.self {w w':World} {S:List Value} {v:Value} (h:v∈S):FromC w w' S v:=fun _ off n cap e=>.inl ⟨v,h,off,n,cap,e⟩
theorem FromC.none {w w':World} {S:List Value} {n cap:Nat}:FromC w w' S (.slice Option.none n cap):=fun _ _ _ _ e=>by cases e
theorem FromC.up {w w1 w2 w3:World} {S:List Value} {v:Value} (h:FromC w1 w2 S v) (h1:w.heap.size≤w1.heap.size) (h2:Below w2.heap.size w2 w3):FromC w w3 S v:=fun b off n cap e=>(h b off n cap e).imp id fun ⟨h3,cs,fz,h4⟩=>⟨Nat.le_trans h1 h3,cs,fz,(h2.block b (lt_of_block h4)).trans h4⟩
theorem FromC.blk {w w':World} {S:List Value} {g n cap:Nat} {cs:Array Value} (h:Blk w' g 103 cs) (hg:w.heap.size≤g):FromC w w' S (.slice (some ⟨g,0,Option.none⟩) n cap):=fun b off n' cap' e=>by
 injection e with e _ _
 injection e with e
 injection e with e _
 subst e;exact .inr ⟨hg,_,_,h⟩
def RetR (w:World) (S:List Value) (r:ResD) (e:Ending) (w':World):Prop:=∃ u,e=.returned (.tuple #[u,.int .i64 r.2])∧ValV w' u r.1∧FromC w w' S u∧Below w.heap.size w w'
def OkV (l:ValD):Prop:=l.length≤10000∧∀ c∈l,okC c
theorem oval_blkE {w:World} {g base:Nat} {l:ValD} {cs:Array Value} (h:Blk w g 103 cs) (hb:base≤g) (e:cs.toList=l.flatMap CellD.cells) (hm:l.length≤3518437208780):OVal w base (.slice (some ⟨g,0,none⟩) l.length l.length) l:=by
 have hlen:cs.size=l.length * 4:=by
  rw [← Array.length_toList,e,zceY]
 exact ⟨by rw [zceY],.inr ⟨g,l.length,cs,rfl,hb,h,Nat.le_refl _,by unfold maxLen;omega,hlen,by rw [e];exact List.take_of_length_le (by rw [zceY];exact Nat.le_refl _)⟩⟩
theorem zcyY {w:World} {g:Nat} {c:CellD} (h:Blk w g 103 #[.int .i64 c.kind,.int .i64 c.int,.string c.str,.int .i64 c.n]):ValV w (.slice (some ⟨g,0,none⟩) 1 1) [c] :=
 (oval_blkE (base:=0) (l:=[c]) h (Nat.zero_le _) rfl (by simp)).val (by simp)
set_option maxHeartbeats 4000000 in
theorem zcxY (l:ValD) (v:Value) (w:World) (h:ValV w v l) (hp:Pow w) (ho:OkV l) :
  Calls prog 153 #[v] w (RetR w [v] (okR l)):=by
 obtain ⟨A,cap,rfl,hc,hm,hs⟩:=h.at;have HV:=hZz h;have HC:=hZz (za7Y l A cap w hs hp ho.1 hc ho.2);obtain ⟨P,hP⟩:∃ P:Ending→World→Prop,RetR w [.slice A l.length cap] (okR l)=P:=⟨_,rfl⟩
 rw [hP];have HP:=hZz hP;obtain ⟨n,hn⟩:∃ n,l.length=n:=⟨_,rfl⟩
 rw [hn] at HC HP HV ⊢;obtain ⟨ck,hck⟩:∃ c,checkF l=c:=⟨_,rfl⟩
 rw [hck] at HC;have HCK:=hZz hck;clear h hP hn hck hs hc hm ho hp;by_cases h0:ck=0
 ·have HO:Hid (okR l=(l,0)):=hZz (by unfold okR;rw [HCK.out,if_pos h0])
  subst h0;go_enter func153,ntmps153
  go_wp2_with (first
   | (go_at_call 152;(with_reducible refine HC.out.mono ?_);rintro e w1 ⟨rfl,hb1⟩;have HB:=hZz hb1;clear hb1))
  rw [← HP.out];exact ⟨.slice A n cap,by rw [HO.out];rfl,by rw [HO.out];exact HV.out.below HB.out,FromC.self (by simp),HB.out⟩
 ·have HO:Hid (okR l=([],ck)):=hZz (by unfold okR;rw [HCK.out,if_neg h0])
  have h1:(ck != 0)=true:=by simpa using h0
  clear h0;go_enter func153,ntmps153
  go_wp2_with (first
   | (go_at_call 152;(with_reducible refine HC.out.mono ?_);rintro e w1 ⟨rfl,hb1⟩;have HB:=hZz hb1;clear hb1))
  rw [← HP.out];exact ⟨.slice none 0 0,by rw [HO.out];rfl,by rw [HO.out];exact RowsV.nil none 0,FromC.none,HB.out⟩
set_option maxHeartbeats 4000000 in
theorem cbool_any (b:Bool) (w:World):Calls prog 117 #[.bool b] w fun e w'=>∃ u,e=.returned u∧ValV w' u [bCel b]∧FromC w w' [] u∧Below w.heap.size w w':=by
 obtain ⟨P,hP⟩:∃ P:Ending→World→Prop,(fun e w'=>∃ u,e=.returned u∧ValV w' u [bCel b]∧FromC w w' [] u∧Below w.heap.size w w')=P:=⟨_,rfl⟩
 rw [hP];have HP:=hZz hP;clear hP;cases b
 all_goals
  go_enter func117,ntmps117
  go_wp2_with (fail)
  rw [← HP.out];refine ⟨_,rfl,zcyY (Blk.second _ _ _ _),FromC.blk (Blk.second _ _ _ _) (by omega),zaxY _ _ _⟩
theorem FromC.new {w w1 w2:World} {S:List Value} {g n cap:Nat} {v:Value} {cs:Array Value} (h:FromC w1 w2 (.slice (some ⟨g,0,Option.none⟩) n cap :: S) v) (hg:w.heap.size≤g) (hB:Blk w2 g 103 cs) (h1:w.heap.size≤w1.heap.size):FromC w w2 S v:=fun b off n' cap' e=>by
 rcases h b off n' cap' e with ⟨u,hu,off',n2,cap2,rfl⟩ | ⟨h3,cs',fz,h4⟩
 ·rcases List.mem_cons.1 hu with hu | hu
  ·injection hu with hu _ _
   injection hu with hu
   injection hu with hu _
   subst hu;exact .inr ⟨hg,_,_,hB⟩
  ·exact .inl ⟨_,hu,_,_,_,rfl⟩
 ·exact .inr ⟨by omega,_,_,h4⟩
theorem RetR.one {w w2:World} {r:ResD} {e:Ending} {cs:Array Value} {n cap:Nat} (h:RetR (w.alloc (.cells cs 103)) [.slice (some ⟨w.heap.size,0,none⟩) n cap] r e w2):RetR w [] r e w2:=by
 obtain ⟨u,he,hu,hf,hb⟩:=h;have hB:Blk w2 w.heap.size 103 cs:=(hb.block _ (by simp)).trans (Blk.new w _ _);exact ⟨u,he,hu,hf.new (Nat.le_refl _) hB (by simp),zafZ hb (zabZ w _)⟩
theorem okV_i {n:Int} (h0 : -9223372036854775808≤n) (h1:n≤9223372036854775807):Hid (OkV [iCel n]):=hZz ⟨by simp,fun c hc=>by
 have:c=iCel n:=by simpa using hc
 subst this;exact ⟨by show (0:Nat)≤_;omega,⟨h0,h1⟩,by show (0:Int)≤_;omega⟩⟩
theorem okV_s {s:ByteArray} (h:s.size≤140737488351232):Hid (OkV [sCel s]):=hZz ⟨by simp,fun c hc=>by
 have:c=sCel s:=by simpa using hc
 subst this;exact ⟨h,by show (_:Int)≤0∧(0:Int)≤_;omega,by show (0:Int)≤_;omega⟩⟩
theorem one_any (c:CellD) (w:World) (hp:Pow w) (ho:OkV [c]) :
  Calls prog 153 #[.slice (some ⟨w.heap.size,0,none⟩) 1 1] (w.alloc (.cells #[.int .i64 c.kind,.int .i64 c.int,.string c.str,.int .i64 c.n] 103)) (RetR w [] (okR [c])) :=
 (zcxY [c] _ _ (zcyY (c:=c) (Blk.new _ _ _)) (hp.below (zabZ _ _)) ho).mono fun _ _ h=>h.one
set_option maxHeartbeats 4000000 in
theorem cint_any (n:Int) (w:World) (hp:Pow w) (h0 : -9223372036854775808≤n) (h1:n≤9223372036854775807) :
  Calls prog 118 #[.int .i64 n] w (RetR w [] (okR [iCel n])):=by
 have HC:Hid (Calls prog 153 #[.slice (some ⟨w.heap.size,0,none⟩) 1 1] (w.alloc (.cells #[.int .i64 3,.int .i64 n,.string ⟨#[]⟩,.int .i64 0] 103)) (RetR w [] (okR [iCel n]))):=hZz (one_any (iCel n) w hp (okV_i h0 h1).out);obtain ⟨P,hP⟩:∃ P:Ending→World→Prop,RetR w [] (okR [iCel n])=P:=⟨_,rfl⟩
 rw [hP];have HP:=hZz hP;clear hP hp h0 h1;go_enter func118,ntmps118
 go_wp2_with (first
  | (go_at_call 153;(with_reducible refine HC.out.mono ?_);rintro e w1 ⟨u,rfl,hu⟩;have HU:=hZz hu;clear hu))
 rw [← HP.out];exact ⟨u,rfl,HU.out⟩
set_option maxHeartbeats 4000000 in
theorem cstr_any (s:ByteArray) (w:World) (hp:Pow w) (h0:s.size≤140737488351232) :
  Calls prog 161 #[.string s] w (RetR w [] (okR [sCel s])):=by
 have HC:Hid (Calls prog 153 #[.slice (some ⟨w.heap.size,0,none⟩) 1 1] (w.alloc (.cells #[.int .i64 4,.int .i64 0,.string s,.int .i64 0] 103)) (RetR w [] (okR [sCel s]))):=hZz (one_any (sCel s) w hp (okV_s h0).out);obtain ⟨P,hP⟩:∃ P:Ending→World→Prop,RetR w [] (okR [sCel s])=P:=⟨_,rfl⟩
 rw [hP];have HP:=hZz hP;clear hP hp h0;go_enter func161,ntmps161
 go_wp2_with (first
  | (go_at_call 153;(with_reducible refine HC.out.mono ?_);rintro e w1 ⟨u,rfl,hu⟩;have HU:=hZz hu;clear hu))
 rw [← HP.out];exact ⟨u,rfl,HU.out⟩
set_option maxHeartbeats 4000000 in
theorem truth_any (c:CellD) (r:ValD) (v:Value) (w:World) (h:ValV w v (c :: r)) :
  Calls prog 116 #[v] w fun e w'=>e=.returned (.tuple #[.bool (c.int != 0),.bool (c.kind == 2)])∧∃ q,w'=w.drewN q:=by
 obtain ⟨A,cap,rfl,hc,hm,hs⟩:=h.at;obtain ⟨k,i,s,n⟩:=c;have hlt:0<(⟨k,i,s,n⟩ :: r:ValD).length:=by simp
 obtain ⟨bA,off,rfl,_⟩:=hs.ptr hlt;have c0:=hs.cell0 hlt (v:=.int .i64 k) rfl;have c1:=hs.cell hlt (j:=1) (v:=.int .i64 i) rfl;have hn:(0:Int)<((⟨k,i,s,n⟩ :: r:ValD).length:Int):=by omega
 obtain ⟨N,hN⟩:∃ N,(⟨k,i,s,n⟩ :: r:ValD).length=N:=⟨_,rfl⟩
 rw [hN] at hn ⊢;simp only [Nat.zero_mul,Nat.add_zero] at c0 c1;clear h hs hlt hm hc hN;go_enter func116,ntmps116
 go_wp2
 go_quiet (fail);go_wp2
 go_returns;exact ⟨rfl,_,rfl⟩
theorem zbvY:∀ (l:List ValD) (n:Nat) (h:n<l.length),(∀ x∈l.take n,checkF x=0)→checkF l[n]≠0→firstBad l=checkF l[n]
 | [],n,h,_,_=>by simp at h
 | x :: r,0,h,_,hb=>by simp only [firstBad,List.getElem_cons_zero] at hb ⊢;rw [if_pos hb]
 | x :: r,n+1,h,hg,hb=>by
  have h0:checkF x=0:=hg x (by simp);simp only [firstBad,List.getElem_cons_succ] at hb ⊢;rw [if_neg (by simpa using h0)];exact zbvY r n (by simpa using h) (fun y hy=>hg y (by simp [hy])) hb
theorem zbiY:∀ (l:List ValD),(∀ x∈l,checkF x=0)→firstBad l=0
 | [],_=>rfl
 | x :: r,h=>by
  unfold firstBad;rw [if_neg (by simpa using h x (by simp)),zbiY r fun y hy=>h y (by simp [hy])]
set_option maxHeartbeats 4000000 in
theorem echeck_any (l:List ValD) (v:Value) (w:World) (h:ValsV w v l) (hp:Pow w) (ho:∀ x∈l,OkV x) :
  Calls prog 115 #[v] w fun e w'=>e=.returned (.int .i64 (firstBad l))∧Below w.heap.size w w':=by
 obtain ⟨P,hP⟩:∃ P:Ending→World→Prop,(fun e w'=>e=.returned (.int .i64 (firstBad l))∧Below w.heap.size w w')=P:=⟨_,rfl⟩
 rw [hP];have HP:=hZz hP;obtain ⟨A,cap,vs,rfl,hc,hm,hs,hla,hva⟩:=h.at;have HS:=hZz hs;have HV:=hZz hva;have HLA:=hZz hla;have HW:=hZz hp;have HO:=hZz ho;clear h hP hs hva hla hp ho;go_enter func115,ntmps115
 go_wp2_with (fail)
 go_loopw [4,5,8] (fun _ _ i wr=>∃ k:Nat,k≤l.length∧i=.int .i64 k∧Hid (∀ x∈l.take k,checkF x=0)∧Below w.heap.size w wr) (fun _ _ i _=>l.length - (intOf i).toNat)
 case atStart=>exact ⟨0,Nat.zero_le _,rfl,hZz (by simp),Below.refl _ _⟩
 case round =>
  obtain ⟨k,hk,rfl,HR,hbel⟩:=hrel;have HB:=hZz hbel;clear hbel;have hk0:(0:Int)≤(k:Int):=by omega
  by_cases hlt:k<l.length
  ·have hlt':(k:Int)<(l.length:Int):=by omega
   have hna:k<vs.length:=by rw [HLA.out];exact hlt
   have hsa:=HS.out.below HB.out;obtain ⟨x,hx⟩:∃ x,vs[k]=x:=⟨_,rfl⟩
   have hvx:ValV wr x l[k]:=(hx ▸ HV.out k hna hlt:ValV w x l[k]).below HB.out;obtain ⟨A1,k1,rfl,hc1,hm1,hs1⟩:=hvx.at;obtain ⟨bA,off,rfl,_⟩:=hsa.ptr hna;have c0:=hsa.cell0 hna (v:=.slice A1 l[k].length k1) (by rw [hx];rfl);simp only [Nat.mul_one] at c0;have hok:OkV l[k]:=HO.out _ (List.getElem_mem hlt);have HC:=hZz (za7Y l[k] A1 k1 wr hs1 (HW.out.below HB.out) hok.1 hc1 hok.2);obtain ⟨ck,hck⟩:∃ c,checkF l[k]=c:=⟨_,rfl⟩
   rw [hck] at HC;have HCK:=hZz hck;clear hsa hx hvx hs1 hc1 hm1 hok hck;by_cases h0:ck=0
   ·subst h0
    go_wp2_with (first
     | (go_at_call 152;(with_reducible refine HC.out.mono ?_);rintro e w1 ⟨rfl,hb1⟩;have HB1:=hZz (zaaZ hb1 HB.out HB.out.size);clear hb1))
    exact ⟨⟨k+1,by omega,by simp,hZz (by
     rw [List.take_succ_eq_append_getElem hlt];intro x hx;rcases List.mem_append.1 hx with hx | hx
     ·exact HR.out x hx
     ·have:x=l[k]:=by simpa using hx
      rw [this];exact HCK.out),HB1.out⟩,by simp [intOf];omega⟩
   ·have h1:(ck != 0)=true:=by simpa using h0
    clear h0
    go_wp2_with (first
     | (go_at_call 152;(with_reducible refine HC.out.mono ?_);rintro e w1 ⟨rfl,hb1⟩;have HB1:=hZz (zaaZ hb1 HB.out HB.out.size);clear hb1))
    rw [← HP.out];exact ⟨by rw [zbvY l k hlt HR.out (by rw [HCK.out];simpa using h1),HCK.out];rfl,HB1.out⟩
  ·have e:k=l.length:=by omega
   subst e;go_wp2_with (fail)
   rw [← HP.out];exact ⟨by rw [zbiY l (by have:=HR.out;rwa [List.take_length] at this)];rfl,HB.out⟩
end Go.Proofs.YthiimbhjpdphpaaGreatDoor
