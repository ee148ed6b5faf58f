/- E19, E20, E21, E22 -/
import Derived.Test.YthiimbhjpdphpaaGreatDoorPE18
import Derived.Lib.AppendZeros
import Derived.Laws.AppendOwnNone
import Derived.StillTailTactics
set_option linter.unusedVariables false
set_option linter.unusedSimpArgs false
namespace Go.Proofs.YthiimbhjpdphpaaGreatDoor
open Go.RowKit
set_option maxRecDepth 100000
set_option maxHeartbeats 8000000
attribute [local go_sem] zacZ
open Go.Proofs.Tryz
set_option maxHeartbeats 4000000 in
theorem grow_any (n:Nat) (w:World) (hn:n≤10000) :
  Calls prog 199 #[.slice none 0 0,.int .i64 n] w fun e w'=>∃ A cap,e=.returned (.slice A 0 cap)∧w'.ownsRow w.heap.size 96 1 (.slice A 0 cap) 0 []∧Below w.heap.size w w':=by
 obtain ⟨i1,hj,hy0,hy1,hy2⟩:=info_parts Tryz.infoVal;obtain ⟨P,hP⟩:∃ P:Ending→World→Prop,(fun e w'=>∃ A cap,e=.returned (.slice A 0 cap)∧w'.ownsRow w.heap.size 96 1 (.slice A 0 cap) 0 []∧Below w.heap.size w w')=P:=⟨_,rfl⟩
 rw [hP];have HP:=hZz hP;clear hP;by_cases h0:n=0
 ·subst h0
  go_enter func199,ntmps199
  go_wp2_with (fail)
  rw [← HP.out];exact ⟨none,0,rfl,World.ownsRow_nil _ _ _ _,Below.refl _ _⟩
 ·have h1:¬ ((n:Int)<0):=by omega
  have h2:wrap64 (n:Int)=(n:Int):=by unfold wrap64;omega
  have h3:(0:Int)<(n:Int):=by omega
  have hrz:∀ ty,(Builtin.append_ #[95,3] ty #[.slice none 0 0,.int .i64 n]).run prog w =
    .ok (.slice (some ⟨w.heap.size,0,none⟩) n (grownCap w n 0 96)) (w.drew.alloc (.cells (Builtin.zeroCells (Value.slice none 0 0).cells n ++ Builtin.zeroCells (Value.slice none 0 0).cells (grownCap w n 0 96 - n)) 96)):=fun ty =>
   Lib.run_append_nil_zeros w 95 3 ty 96 i1 _ .i64 .i64 underlying95 underlying3 hj hy0 n (by omega) (by omega) (by omega) (by rw [hy2];omega)
  have hGn:n≤grownCap w n 0 96:=grownCap_ge w _ _ _;have hGm:=grownCap_le_maxLen w n 0 96 (by unfold maxLen;omega);obtain ⟨G,hG⟩:∃ G,G=grownCap w n 0 96:=⟨_,rfl⟩
  rw [← hG] at hrz hGn hGm;have HGm:=hZz hGm;have hG63:G≤9223372036854775807:=by unfold maxLen at hGm;omega
  clear hG hGm hj hy0 hy1 hy2;go_enter func199,ntmps199
  go_wp2_with (at_builtin;refine Lib.wpList_append_run _ rfl _ _ _ _ rfl _ _ rfl rfl _ _ (hrz _) ?_)
  all_goals
   rw [← HP.out];refine ⟨_,_,rfl,?_,zaaZ (zabZ w.drew _) (zadZ w) (Nat.le_refl _)⟩
   exact World.ownsRow_made (w:=w.drew) _ _ (Nat.le_refl _) HGm.out (by simp [Builtin.zeroCells];omega)
theorem zbeY {P:Program} (w:World) {ops:Array Oper} {rest:List Oper} {o:Oper} {a:Act} {Q:Exit→Act→World→Prop} (hgd:o.guard=none) (s x:Operand) (t:TypeId)
  (ho:o.op=.call { callee:=.builtin .append,args:=#[s,x],argTypes:=#[t,t] })
  (base base2:Nat) (e:TypeId) (i:TypeInfo) (z:Value) (size bytes:Nat) (ht:P.underlying t=some (.slice e)) (hi:P.info? e=some i) (hz:i.zero=some z)
  (hsize:i.size=size) (hby:i.bytes=bytes) (hzs:z.cells.size=size) (hsz:0<size)
  (v:Value) (n:Nat) (xs:List Value) (hs:a.eval s=v) (hown:w.ownsRow base e size v n xs)
  (v2:Value) (m:Nat) (ys:List Value) (hx:a.eval x=v2) (hown2:w.ownsRow base2 e size v2 m ys) (h1:∀ u∈ys,u.oneCell'=true)
  (h63:n+m≤maxLen) (hbytes:(n+m) * bytes≤140737488355328) (hbase:base≤w.heap.size)
  (h:∀ v' w',w'.ownsRow base e size v' (n+m) (xs ++ ys)→w.grownBy w' v.ownBlock→wpList P ops Q rest (a.put o.dst v') w'):wpList P ops Q (o :: rest) a w:=by
 rcases hown2.2 with ⟨rfl,rfl⟩ | ⟨g,cap,cur,rfl,hb,hg,hc1,hc2,hc3,hc4⟩
 ·have h0:ys=[]:=List.length_eq_zero_iff.1 (by simpa using hown2.1)
  subst h0;refine wpList_append_own_none hgd s x t ho base e i size ht hi v n xs hs hown hx ?_
  exact h v w (by simpa using hown) ⟨rfl,rfl,rfl,Nat.le_refl _,fun _ _ _=>rfl⟩
 ·exact wpList_append_own w hgd s x t ho base e i z size bytes ht hi hz hsize hby hzs hsz v n xs hs hown ⟨g,0,none⟩ m cap ys hx hown2.1 (hown2.cells (g:=g) rfl) h1 h63 hbytes hbase fun v' w' a b _=>h v' w' a b
theorem vals_one {w:World} {vs:List Value} {l:List ValD} (hl:vs.length=l.length) (h:∀ i (a:i<vs.length) (b:i<l.length),ValT w vs[i] l[i]):∀ u∈vs,u.oneCell'=true:=by
 intro u hu;obtain ⟨i,hi,rfl⟩:=List.mem_iff_getElem.1 hu;obtain ⟨A,n,cap,e⟩:=(h i hi (by omega)).shape;rw [e];rfl
theorem concat_any (v1 v2:Value) (l1 l2:List ValD) (g base1 base2:Nat) (w:World) (hB:Blk w g 95 #[v1,v2]) (h1:ValsO w base1 v1 l1) (h2:ValsO w base2 v2 l2) (hn1:l1.length≤1000) (hn2:l2.length≤1000) :
  Calls prog 164 #[.slice (some ⟨g,0,none⟩) 2 2] w fun e w'=>∃ ov,e=.returned ov∧ValsO w' w.heap.size ov (l1 ++ l2)∧Below w.heap.size w w':=by
 obtain ⟨P,hP⟩:∃ P:Ending→World→Prop,(fun e w'=>∃ ov,e=.returned ov∧ValsO w' w.heap.size ov (l1 ++ l2)∧Below w.heap.size w w')=P:=⟨_,rfl⟩
 rw [hP];have HP:=hZz hP;obtain ⟨i1,hj,hy0,hy1,hy2⟩:=info_parts Tryz.infoVal;obtain ⟨vs1,ho1,hl1,ht1⟩:=h1;obtain ⟨vs2,ho2,hl2,ht2⟩:=h2;obtain ⟨A1,c1,rfl⟩:=zahZ ho1;obtain ⟨A2,c2,rfl⟩:=zahZ ho2;have HT1:=hZz ht1;have HT2:=hZz ht2;have HL1:=hZz hl1;have HL2:=hZz hl2;have HO1:=hZz ho1;have HO2:=hZz ho2;have HV1:=hZz (vals_one hl1 ht1);have HV2:=hZz (vals_one hl2 ht2);have HBK:=hZz hB;have b0:=hB.cell 0 _ rfl;have b1:=hB.cell 1 _ rfl;have b1':w.cell? ⟨g,1,none⟩=some (.slice A2 l2.length c2):=b1;clear hP ht1 ht2 hl1 hl2 ho1 ho2 hB b1;obtain ⟨n1,hn1'⟩:∃ n,l1.length=n:=⟨_,rfl⟩
 obtain ⟨n2,hn2'⟩:∃ n,l2.length=n:=⟨_,rfl⟩
 have HN1:=hZz hn1';have HN2:=hZz hn2';rw [hn1'] at hn1 HO1 b0 HBK;rw [hn2'] at hn2 HO2 b1' HBK;clear hn1' hn2';have w1:wrap64 (n1:Int)=(n1:Int):=by unfold wrap64;omega
 have w2:wrap64 ((n1:Int)+(n2:Int))=((n1+n2:Nat):Int):=by unfold wrap64;omega
 have q1:¬ ((n1:Int)<0):=by omega
 have q2:¬ (((n1+n2:Nat):Int)<0):=by omega
 go_enter func164,ntmps164
 go_wp2_with (fail)
 refine wp_loop_rounds 3 ?_
 rw [rounds_succ];go_wp2_with (fail)
 rw [rounds_succ];go_wp2_with (fail)
 rw [rounds_succ]
 go_wp2_with (first
  | (go_at_call 199;(refine (grow_any (n1+n2) _ (by omega)).mono ?_);rintro e w3 ⟨A3,c3,rfl,ho3,hb3⟩;have HO3:=hZz ho3;have HB3:=hZz hb3;have d0:w3.cell? ⟨g,0,none⟩=some (.slice A1 n1 c1):=(HBK.out.below hb3).cell 0 _ rfl;have d1:w3.cell? ⟨g,1,none⟩=some (.slice A2 n2 c2):=(HBK.out.below hb3).cell 1 _ rfl;clear ho3 hb3 b0 b1'))
 refine wp_loop_rounds 3 ?_
 rw [rounds_succ];have HO13:=hZz (zagZ HO1.out HB3.out)
 go_wp2_with (first
  | (at_builtin;refine zbeY _ rfl _ _ 95 rfl w.heap.size base1 96 i1 _ 1 24 underlying95 hj hy0 hy1 hy2 rfl ?k1 _ 0 _ rfl HO3.out _ n1 vs1 rfl HO13.out HV1.out ?k2 ?k3 HB3.out.size ?_;(case k1=>decide);(case k2=>(unfold maxLen;omega));(case k3=>omega);intro v4 w4 hown4 hgr4;have HB4:=hZz (HB3.out.grown hgr4 HB3.out.size (fun j hj=>(HO3.out.lt j hj).1));have HCK4:=hZz (CK.own HO3.out (by decide) hgr4);have e0:w4.cell? ⟨g,0,none⟩=some (.slice A1 n1 c1):=(HBK.out.below HB4.out).cell 0 _ rfl;have e1:w4.cell? ⟨g,1,none⟩=some (.slice A2 n2 c2):=(HBK.out.below HB4.out).cell 1 _ rfl;have hz4:=Nat.zero_add n1;rw [Nat.zero_add,List.nil_append] at hown4;obtain ⟨A4,c4,hv4⟩:=zahZ hown4;subst hv4;have HO4:=hZz hown4;clear hown4 hgr4 d0 d1))
 rw [rounds_succ];have HO24:=hZz (zagZ HO2.out HB4.out)
 go_wp2_with (first
  | (at_builtin;refine zbeY _ rfl _ _ 95 rfl w.heap.size base2 96 i1 _ 1 24 underlying95 hj hy0 hy1 hy2 rfl ?k1 _ n1 vs1 rfl HO4.out _ n2 vs2 rfl HO24.out HV2.out ?k2 ?k3 HB4.out.size ?_;(case k1=>decide);(case k2=>(unfold maxLen;omega));(case k3=>omega);intro v5 w5 hown5 hgr5;have HB5:=hZz (HB4.out.grown hgr5 HB4.out.size (fun j hj=>(HO4.out.lt j hj).1));obtain ⟨A5,c5,hv5⟩:=zahZ hown5;subst hv5;have HO5:=hZz hown5;clear hown5 hgr5 e0 e1))
 rw [rounds_succ];go_wp2_with (fail)
 rw [← HP.out];refine ⟨_,rfl,⟨vs1 ++ vs2,by rw [List.length_append,HN1.out,HN2.out];exact HO5.out,by simp [HL1.out,HL2.out],fun i a b=>?_⟩,HB5.out⟩
 have hck:=CK.of_below HB5.out;by_cases hi:i<vs1.length
 ·rw [List.getElem_append_left hi,List.getElem_append_left (by rw [← HL1.out];exact hi)]
  exact (HT1.out i hi (by rw [← HL1.out];exact hi)).keep hck
 ·rw [List.getElem_append_right (by omega),List.getElem_append_right (by rw [← HL1.out];omega)]
  have:=HT2.out (i - vs1.length) (by simp at a;omega) (by simp at a;rw [← HL2.out];omega)
  simp only [HL1.out] at this ⊢;exact this.keep hck
theorem sec_ok {v:ValD} (h:OkV v) (a b:Nat):OkV (sec v a b):=by
 unfold sec;refine ⟨?_,fun c hc=>h.2 c (List.mem_of_mem_drop (List.mem_of_mem_take hc))⟩
 have:=h.1
 rw [List.length_take,List.length_drop];omega
theorem partsF_ok {v:ValD} (h:OkV v) (m:Bool):∀ k a,∀ p∈partsF v m k a,OkV p.2
 | 0,_,p,hp=>by simp [partsF] at hp
 | k+1,a,p,hp=>by
  unfold partsF at hp;split at hp
  ·simp at hp
  ·rcases List.mem_cons.1 hp with rfl | hp
   ·exact sec_ok h _ _
   ·exact partsF_ok h m k _ p hp
theorem partsOf_ok {v:ValD} (h:OkV v):∀ p∈partsOf v,OkV p.2:=by
 intro p hp;unfold partsOf at hp;split at hp
 ·simp at hp
 ·exact partsF_ok h _ _ _ p hp
theorem str_len {l:ValD} (h:checkF l=0):∀ c∈l,c.str.size≤200:=by
 obtain ⟨r,h0,h1,h2,h3,h4,h5,h6⟩:=checkF_zero.1 h;intro c hc
 have:=List.any_eq_false.1 h3 c hc
 unfold longB at this;simpa using this
theorem itemsR_eq {c:CellD} {r:ValD} (hck:checkF (c :: r)=0) (hk:c.kind=5∨c.kind=6):itemsR (c :: r)=((partsOf (c :: r)).map (fun p:ByteArray × ValD=>p.2),0):=by
 unfold itemsR;rw [if_neg (by simpa using hck)];simp only
 rw [if_pos hk]
theorem join4_any (x y:CellD) (a b:ValD) (v1 v2:Value) (w:World) (h1:ValV w v1 (x :: a)) (h2:ValV w v2 (y :: b)) (hp:Pow w) (c1:checkF (x :: a)=0) (c2:checkF (y :: b)=0) (hk:x.kind=4) :
  Calls prog 124 #[v1,v2] w (RetR w [] (okR [sCel (x.str ++ y.str)])):=by
 obtain ⟨P,hP⟩:∃ P:Ending→World→Prop,RetR w [] (okR [sCel (x.str ++ y.str)])=P:=⟨_,rfl⟩
 rw [hP];have HP:=hZz hP
 have HS:Hid (Calls prog 161 #[.string (x.str ++ y.str)] w.drew (RetR w.drew [] (okR [sCel (x.str ++ y.str)]))):=hZz (cstr_any _ _ (hp.below (zadZ w)) (by
  have:=str_len c1 x (by simp);have:=str_len c2 y (by simp)
  rw [ByteArray.size_append];omega))
 obtain ⟨bA,oA,nA,kA,rfl,hnA,p0,p1,p2,p3⟩:=zapY h1;obtain ⟨bB,oB,nB,kB,rfl,hnB,q0,q1,q2,q3⟩:=zapY h2;have hposA:(0:Int)<(nA:Int):=by omega
 have hposB:(0:Int)<(nB:Int):=by omega
 obtain ⟨k,i,s,nn⟩:=x;obtain ⟨k',i',s',nn'⟩:=y;dsimp only at hk p0 p2 q2 HS HP;subst hk
 have hcat:¬ 9223372036854775807<s.size+s'.size:=by
  have z1:=str_len c1 _ (List.mem_cons_self);have z2:=str_len c2 _ (List.mem_cons_self);dsimp only at z1 z2;omega
 clear hnA hnB p1 p3 q0 q1 q3 h1 h2 c1 c2 hP;go_enter func124,ntmps124
 go_upto_region 2 with fail
 have hnatA:0<nA:=by omega
 have hnatB:0<nB:=by omega
 have p2a:w.drew.cell? ⟨bA,oA+2,none⟩=some (.string s):=p2;have q2a:w.drew.cell? ⟨bB,oB+2,none⟩=some (.string s'):=q2
 go_region_law (first
  | (go_simp;go_at_call 161;((refine HS.out.mono ?_);rintro e w3 ⟨u,rfl,hu,hf,hb3⟩;have HU3:=hZz hu;have HF3:=hZz hf;have HB3:=hZz (zafZ hb3 (zadZ w));clear hu hf hb3)))
 all_goals
  go_simp;go_wp2_with (fail)
  rw [← HP.out];exact ⟨u,rfl,HU3.out,HF3.out.up (zadZ w).size (Below.refl _ _),HB3.out⟩
set_option maxHeartbeats 2000000 in
theorem join5_any (x y:CellD) (a b:ValD) (v1 v2:Value) (w:World) (h1:ValV w v1 (x :: a)) (h2:ValV w v2 (y :: b)) (hp:Pow w) (o1:OkV (x :: a)) (o2:OkV (y :: b)) (c1:checkF (x :: a)=0) (c2:checkF (y :: b)=0) (hk:x.kind=5) (hk2:y.kind=5) :
  Calls prog 124 #[v1,v2] w (RetR w [] (limR (⟨5,0,⟨#[]⟩,x.n+y.n⟩ :: (a ++ b)))):=by
 rw [← join_eq c1 c2 (fun z hz=>zbaY (o1.2 z hz)) (fun z hz=>zbaY (o2.2 z hz)) rfl rfl hk hk2]
 have hff:((partsOf (x :: a)).map (·.2) ++ (partsOf (y :: b)).map (·.2)).flatten.length≤9000:=by
  rw [List.flatten_append,(zb4Y c1 (fun z hz=>zbaY (o1.2 z hz)) rfl hk).1,(zb4Y c2 (fun z hz=>zbaY (o2.2 z hz)) rfl hk2).1,List.length_append];have g1:=len200 c1;have g2:=len200 c2;rw [List.length_cons] at g1 g2;omega
 have l1:=parts_len o1 c1 (.inl hk);have l2:=parts_len o2 c2 (.inl hk2)
 have HI1:Hid (∀ wx,Below w.heap.size w wx→Calls prog 162 #[v1] wx (RetL wx ((partsOf (x :: a)).map (fun p:ByteArray × ValD=>p.2),0))):=hZz fun wx hb=>by
  have:=items_any (x :: a) v1 wx (h1.below hb) (hp.below hb) o1
  rwa [itemsR_eq c1 (.inl hk)] at this
 have HI2:Hid (∀ wx,Below w.heap.size w wx→Calls prog 162 #[v2] wx (RetL wx ((partsOf (y :: b)).map (fun p:ByteArray × ValD=>p.2),0))):=hZz fun wx hb=>by
  have:=items_any (y :: b) v2 wx (h2.below hb) (hp.below hb) o2
  rwa [itemsR_eq c2 (.inl hk2)] at this
 have HOK1:Hid (∀ z∈(partsOf (x :: a)).map (fun p:ByteArray × ValD=>p.2),OkV z):=hZz fun z hz=>by
  obtain ⟨p,hp,rfl⟩:=List.mem_map.1 hz;exact partsOf_ok o1 p hp
 have HOK2:Hid (∀ z∈(partsOf (y :: b)).map (fun p:ByteArray × ValD=>p.2),OkV z):=hZz fun z hz=>by
  obtain ⟨p,hp,rfl⟩:=List.mem_map.1 hz;exact partsOf_ok o2 p hp
 have e1:((partsOf (x :: a)).map (fun p:ByteArray × ValD=>p.2)).length≤200:=by rw [List.length_map];exact l1
 have e2:((partsOf (y :: b)).map (fun p:ByteArray × ValD=>p.2)).length≤200:=by rw [List.length_map];exact l2
 obtain ⟨A,hA⟩:∃ A,(partsOf (x :: a)).map (fun p:ByteArray × ValD=>p.2)=A:=⟨_,rfl⟩
 obtain ⟨B,hB⟩:∃ B,(partsOf (y :: b)).map (fun p:ByteArray × ValD=>p.2)=B:=⟨_,rfl⟩
 rw [show (fun p:ByteArray × ValD=>p.2)=(·.2) from rfl] at hA hB;rw [show (fun p:ByteArray × ValD=>p.2)=(·.2) from rfl,hA] at HI1 HOK1 e1;rw [show (fun p:ByteArray × ValD=>p.2)=(·.2) from rfl,hB] at HI2 HOK2 e2;rw [hA,hB] at hff;rw [hA,hB];have HFF:=hZz hff;clear hff;obtain ⟨P,hP⟩:∃ P:Ending→World→Prop,RetR w [] (listR (A ++ B))=P:=⟨_,rfl⟩
 rw [hP];have HP:=hZz hP;have HLEN:Hid (A.length≤200∧B.length≤200):=hZz ⟨e1,e2⟩;have HPW:=hZz hp;obtain ⟨bA,oA,nA,kA,rfl,hnA,p0,p1,p2,p3⟩:=zapY h1;obtain ⟨A2,n2,k2,rfl⟩:=h2.shape;have hposA:(0:Int)<(nA:Int):=by omega
 rw [hk] at p0;clear hnA p1 p2 p3 h1 h2 c1 c2 hP l1 l2 e1 e2 hA hB hk hk2 o1 o2 hp;go_enter func124,ntmps124
 go_wp2_with (first
  | (go_at_call 162;first
   | ((with_reducible refine (HI1.out _ (Below.refl _ _)).mono ?_);rintro e w1 ⟨u1,rfl,hu1,hb1⟩;obtain ⟨oA1,oc1,hoe1⟩:=hu1.shape;subst hoe1;have HU1:=hZz hu1;have HB1:=hZz hb1;clear hu1 hb1 p0)
   | ((with_reducible refine (HI2.out _ HB1.out).mono ?_);rintro e w2 ⟨u2,rfl,hu2,hb2⟩;obtain ⟨oA2,oc2,hoe2⟩:=hu2.shape;subst hoe2;have HU2:=hZz hu2;have HU12:=hZz (HU1.out.below hb2);have HB2:=hZz (zafZ hb2 HB1.out);have HCC:=hZz (concat_any (.slice oA1 A.length oc1) (.slice oA2 B.length oc2) A B w2.heap.size w.heap.size w1.heap.size (w2.alloc (.cells #[.slice oA1 A.length oc1,.slice oA2 B.length oc2] 95)) (Blk.new w2 _ _) (HU12.out.below (zabZ w2 _)) (HU2.out.below (zabZ w2 _)) (by have:=HLEN.out.1;omega) (by have:=HLEN.out.2;omega));clear hu2 hb2))
  | (go_at_call 164;((with_reducible refine HCC.out.mono ?_);rintro e w3 ⟨u3,rfl,hu3,hb3⟩;obtain ⟨oA3,oc3,hoe3⟩:=hu3.shape;rw [List.length_append] at hoe3;subst hoe3;have HU3:=hZz hu3;have HB3:=hZz (zaaZ (zafZ hb3 (zabZ _ _)) HB2.out HB2.out.size);have HLL:=hZz (vlist_any (A ++ B) (.slice oA3 (A.length+B.length) oc3) w3 (HU3.out.vals (by rw [List.length_append];have:=HLEN.out;omega)) (HPW.out.below HB3.out) (fun z hz=>(List.mem_append.1 hz).elim (HOK1.out z) (HOK2.out z)) (by rw [List.length_append];have:=HLEN.out;omega) HFF.out);clear hu3 hb3))
  | (go_at_call 163;((with_reducible refine HLL.out.mono ?_);rintro e w4 ⟨u4,rfl,hu4,hf4,hb4⟩;have HU4:=hZz hu4;have HF4:=hZz hf4;have HB4:=hZz (zafZ hb4 HB3.out);clear hu4 hf4 hb4)))
 rw [← HP.out];exact ⟨u4,rfl,HU4.out,HF4.out.up HB3.out.size (Below.refl _ _),HB4.out⟩
end Go.Proofs.YthiimbhjpdphpaaGreatDoor
