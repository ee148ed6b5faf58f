/- E27, E28, E29, E30 -/
import Derived.Test.YtekdhlfapejijaaGreatDoorPE26
import Derived.Lib.SliceRun
set_option linter.unusedVariables false
set_option linter.unusedSimpArgs false
namespace Go.Proofs.YtekdhlfapejijaaGreatDoor
open Go.RowKit
set_option maxRecDepth 100000
set_option maxHeartbeats 8000000
open Go.Proofs.Tryz
section
theorem findK_mem {ps:List (ByteArray × ValD)} {key:ByteArray} {y:ValD} (h:findK ps key=some y):∃ p∈ps,p.2=y:=by
 unfold findK at h;obtain ⟨p,hp,rfl⟩:=Option.map_eq_some_iff.1 h;exact ⟨p,List.mem_of_find?_eq_some hp,rfl⟩
theorem FromC.ownO {w w1:World} {base:Nat} {v:Value} {l:ValD} (ho:OVal w1 base v l) (h1:w.heap.size≤base):FromC w w1 [] v:=fun b off n cap e=>by
 rcases ho.2 with ⟨ev,_⟩ | ⟨g,c,cur,ev,hbg,hblk,_⟩
 ·rw [ev] at e;cases e
 ·rw [ev] at e
  injection e with e _ _
  injection e with e
  injection e with e _
  subst e;exact .inr ⟨Nat.le_trans h1 hbg,_,_,hblk⟩
attribute [local go_sem] zacZ
theorem get_any (l:ValD) (key:ByteArray) (v:Value) (w:World) (h:ValV w v l) (hp:Pow w) (ho:OkV l) :
  Calls prog 56 #[v,.string key] w (RetR w [] (getR l key)):=by
 obtain ⟨P,hP⟩:∃ P:Ending→World→Prop,RetR w [] (getR l key)=P:=⟨_,rfl⟩
 rw [hP];have HP:=hZz hP;have HCK:Hid (Calls prog 79 #[v] (w.alloc (.cells #[.string key] 9)) fun e w'=>e=.returned (.int .i64 (checkF l))∧Below w.heap.size w w'∧Blk w' w.heap.size 9 #[.string key]):=hZz ((za6Y l v _ (h.below (zabZ w _)) (hp.below (zabZ w _)) ho).mono fun e w' ⟨he,hb⟩=>⟨he,zadZ hb (zabZ w _),(Blk.new w _ _).below hb⟩);by_cases hck:checkF l=0
 case neg =>
  have HR:Hid (getR l key=([],checkF l)):=hZz (by unfold getR;rw [if_pos hck]);obtain ⟨ck,hc⟩:∃ c,checkF l=c:=⟨_,rfl⟩
  rw [hc] at HCK HR hck;have hck':(ck != 0)=true:=by simpa using hck
  clear hck h hp ho hP hc;go_enter func56,ntmps56
  go_wp2_with (first
   | (go_at_call 79;((with_reducible refine HCK.out.mono ?_);rintro e w1 ⟨rfl,hb1,hk1⟩;have HB1:=hZz hb1;clear hb1 hk1)))
  rw [← HP.out];exact RetR.err HR.out HB1.out
 obtain ⟨c,r,rfl⟩:∃ c r,l=c :: r:=by
  cases l with
  | nil=>exact absurd rfl (zaoZ hck)
  | cons c r=>exact ⟨c,r,rfl⟩
 have HR:Hid (getR (c :: r) key=if c.kind≠6 then (([],7):ResD) else match findK (partsOf (c :: r)) key with
  | none=>(([],5):ResD)
  | some y=>((y,0):ResD)):=hZz (by unfold getR;rw [if_neg (by simpa using hck)];try rfl)
 rw [hck] at HCK;obtain ⟨b,off,n,cap,rfl,hn,c0,c1,c2,c3⟩:=zanZ h;have HC0:=hZz c0;have hpos:(0:Int)<(n:Int):=by omega
 clear hn;by_cases hk:c.kind=6
 ·have HPT:Hid (∀ wx,Below w.heap.size w wx→Blk wx w.heap.size 9 #[.string key]→Calls prog 105 #[.slice (some ⟨b,off,none⟩) n cap,.func (.func 107) #[] #[.pointer (some ⟨w.heap.size,0,none⟩),.pointer (some ⟨wx.heap.size,0,none⟩)]] (wx.alloc (.cells #[.slice none 0 0] 22)) fun e w'=>e=.returned (.tuple #[])∧GetS w w' w.heap.size wx.heap.size key (findK (partsOf (c :: r)) key)):=hZz fun wx hb hK=>by
   have hba:Below w.heap.size w (wx.alloc (.cells #[.slice none 0 0] 22)):=hb.alloc hb.size _;refine parts_any c r _ 107 #[.pointer (some ⟨w.heap.size,0,none⟩),.pointer (some ⟨wx.heap.size,0,none⟩)] w _ h hba hp ho hck (.inr hk) (fun k wy=>GetS w wy w.heap.size wx.heap.size key none∧∀ i (_:i<k) (h:i<(partsOf (c :: r)).length),(partsOf (c :: r))[i].1≠key) (fun wy=>GetS w wy w.heap.size wx.heap.size key (findK (partsOf (c :: r)) key)) (enters_of func107 (by kernel_rfl) rfl) ?_ (fun k wy hi=>?_) (fun k wy wz hi hbz=>⟨hi.1.below hbz,hi.2⟩) (fun k wy x hk' hi hx=>?_) (fun wy hi=>?_)
   ·exact ⟨⟨_,hK.alloc _,Blk.new _ _ _,hba,hb.size,rfl⟩,fun i hi=>by omega⟩
   ·obtain ⟨⟨u,_,_,h3,_⟩,_⟩:=hi
    exact h3
   ·refine (get1_any (partsOf (c :: r))[k].1 key x _ w.heap.size wx.heap.size w wy hi.1 hx).mono fun e w' ⟨he,h1,h2⟩=>⟨_,he,fun hb=>?_,fun hb=>?_⟩
    ·have hne:(partsOf (c :: r))[k].1≠key:=by simpa using hb
     refine ⟨h1 hne,fun i hi' hlt=>?_⟩
     rcases Nat.lt_or_ge i k with h | h
     ·exact hi.2 i h hlt
     ·obtain rfl:i=k:=by omega
      exact hne
    ·have he:(partsOf (c :: r))[k].1=key:=by simpa using hb
     rw [zc8Y hk' hi.2 he];exact h2 he
   ·rw [findK_none fun i h=>hi.2 i h h]
    exact hi.1
  have HR2:Hid (getR (c :: r) key=match findK (partsOf (c :: r)) key with
   | none=>(([],5):ResD)
   | some y=>((y,0):ResD)):=hZz (by rw [HR.out,if_neg (not_not_intro hk)])
  have HNE:Hid (∀ y,findK (partsOf (c :: r)) key=some y→y≠[]∧y.length≤1000000):=hZz fun y hy=>by
   obtain ⟨p,hp',rfl⟩:=findK_mem hy;obtain ⟨_,_,h3,_⟩:=zcpY hck (fun x hx=>zabY (ho.2 x hx)) rfl hk;exact ⟨zaoZ (h3 p hp'),(zbmY ho p hp').1⟩
  obtain ⟨f,hf⟩:∃ f,findK (partsOf (c :: r)) key=f:=⟨_,rfl⟩
  rw [hf] at HPT HR2 HNE;clear hf;obtain ⟨k,i,s,nn⟩:=c;dsimp only at hk HC0;clear hck h hp ho hP c0 c1 c2 c3 HR;subst hk;have qT:∀ (w:World) (a:Option Addr) (n c n' c':Nat),(binOp .eql 22 (.slice a n c) (.slice none n' c')).run prog w=.ok (.bool a.isNone) w:=fun w a n c n' c'=>Lib.run_eql_slice_nil w _ _ a n c n' c' underlying22
  cases f with
  | none =>
   go_enter func56,ntmps56
   go_wp2_with (first
    | (go_at_call 79;((with_reducible refine HCK.out.mono ?_);rintro e w1 ⟨rfl,hb1,hk1⟩;have HB1:=hZz hb1;have HK1:=hZz hk1;have g0:=(hb1.cell (p:=⟨b,off,none⟩) (bLZ HC0.out)).trans HC0.out;have HPT1:=hZz (HPT.out w1 hb1 hk1);clear hb1 hk1))
    | (go_at_call 105;((with_reducible refine HPT1.out.mono ?_);rintro e w2 ⟨rfl,hi⟩;obtain ⟨u,_,hg2,hb2,_,rfl⟩:=hi;have HB2:=hZz hb2;have z0:=hg2.cell 0 _ rfl;clear hg2 hb2)))
   rw [← HP.out];exact RetR.err HR2.out HB2.out
  | some y =>
   obtain ⟨hy1,hy2⟩:=HNE.out y rfl
   have hylen:∃ m,y.length=m+1:=by
    cases y with
    | nil=>exact absurd rfl hy1
    | cons a t=>exact ⟨_,rfl⟩
   obtain ⟨m,hm⟩:=hylen;have HM:=hZz hm;have HY2:=hZz hy2;clear hy1 hy2 hm;go_enter func56,ntmps56
   go_wp2_with (first
    | (go_at_call 79;((with_reducible refine HCK.out.mono ?_);rintro e w1 ⟨rfl,hb1,hk1⟩;have HB1:=hZz hb1;have HK1:=hZz hk1;have g0:=(hb1.cell (p:=⟨b,off,none⟩) (bLZ HC0.out)).trans HC0.out;have HPT1:=hZz (HPT.out w1 hb1 hk1);clear hb1 hk1))
    | (go_at_call 105;((with_reducible refine HPT1.out.mono ?_);rintro e w2 ⟨rfl,hi⟩;obtain ⟨u,_,hg2,hb2,_,hov⟩:=hi;have hov':OVal w2 w.heap.size u y:=hov;obtain ⟨gg,cc,hu,_,_⟩:=World.ownsRow.form hov' (by rw [HM.out];omega);subst hu;have HO2:=hZz hov';have HB2:=hZz hb2;have z0:=hg2.cell 0 _ rfl;clear hg2 hb2 hov hov')))
   rw [← HP.out,HR2.out];exact ⟨_,rfl,HO2.out.val (by have:=HY2.out;omega),FromC.ownO HO2.out (Nat.le_refl _),HB2.out⟩
 ·have HR2:Hid (getR (c :: r) key=([],7)):=hZz (by rw [HR.out,if_pos hk])
  obtain ⟨k,i,s,nn⟩:=c;dsimp only at hk HC0;have h6:(k != 6)=true:=by simpa using hk
  clear hck h hp ho hP c0 c1 c2 c3 HR hk;go_enter func56,ntmps56
  go_wp2_with (first
   | (go_at_call 79;((with_reducible refine HCK.out.mono ?_);rintro e w1 ⟨rfl,hb1,hk1⟩;have HB1:=hZz hb1;have g0:=(hb1.cell (p:=⟨b,off,none⟩) (bLZ HC0.out)).trans HC0.out;clear hb1 hk1)))
  rw [← HP.out];exact RetR.err HR2.out HB1.out
theorem vnull_any (w:World):Calls prog 102 #[] w fun e w'=>e=.returned (.slice (some ⟨w.heap.size,0,none⟩) 1 1)∧w'=w.alloc (.cells #[.int .i64 1,.int .i64 0,.string ⟨#[]⟩,.int .i64 0] 53):=by
 go_enter func102,ntmps102
 go_wp2_with (fail)
 go_returns;exact ⟨rfl,rfl⟩
def atR (v:ValD) (key:ByteArray):ResD:=if (getR v key).2=5 then ([⟨1,0,⟨#[]⟩,0⟩],0) else getR v key
set_option maxHeartbeats 4000000 in
theorem at_any (l:ValD) (key:ByteArray) (v:Value) (w:World) (h:ValV w v l) (hp:Pow w) (ho:OkV l) :
  Calls prog 61 #[v,.string key] w (RetR w [] (atR l key)):=by
 obtain ⟨P,hP⟩:∃ P:Ending→World→Prop,RetR w [] (atR l key)=P:=⟨_,rfl⟩
 rw [hP];have HP:=hZz hP;have HG:=hZz (get_any l key v w h hp ho);unfold atR at HP;obtain ⟨⟨rv,re⟩,hr⟩:∃ r,getR l key=r:=⟨_,rfl⟩
 rw [hr] at HG HP;clear hr hP h hp ho;by_cases h5:re=5
 ·subst h5
  rw [if_pos rfl] at HP;go_enter func61,ntmps61
  go_wp2_with (first
   | (go_at_call 56;((with_reducible refine HG.out.mono ?_);rintro e w1 ⟨u,rfl,hu,hf,hb⟩;have HB:=hZz hb;clear hu hf hb))
   | (go_at_call 102;((refine (vnull_any _).mono ?_);rintro e1 w2 ⟨rfl,hw2⟩;have HW2:=hZz hw2;clear hw2)))
  rw [← HP.out];have hB:Blk w2 w1.heap.size 53 #[.int .i64 1,.int .i64 0,.string ⟨#[]⟩,.int .i64 0]:=by rw [HW2.out];exact Blk.new _ _ _
  refine ⟨_,rfl,zaiY (c:=⟨1,0,⟨#[]⟩,0⟩) hB,FromC.blk hB HB.out.size,?_⟩
  rw [HW2.out];exact HB.out.alloc HB.out.size _
 ·have h5':(re == 5)=false:=by simpa using h5
  rw [if_neg (show ¬ (rv,re).2=5 from h5)] at HP;go_enter func61,ntmps61
  go_wp2_with (first
   | (go_at_call 56;((with_reducible refine HG.out.mono ?_);rintro e w1 ⟨u,rfl,hu,hf,hb⟩;have HU:=hZz hu;have HF:=hZz hf;have HB:=hZz hb;clear hu hf hb)))
  rw [← HP.out];exact ⟨u,rfl,HU.out,HF.out,HB.out⟩
end
section
def RetT (w:World) (r:ResD) (e:Ending) (w':World):Prop:=∃ u,e=.returned (.tuple #[u,.int .i64 r.2])∧ValT w' u r.1∧Below w.heap.size w w'
theorem RetR.t {w w':World} {r:ResD} {e:Ending} (h:RetR w [] r e w'):RetT w r e w':=by
 obtain ⟨u,he,hv,hf,hb⟩:=h;refine ⟨u,he,⟨hv,fun b off n cap e _=>?_⟩,hb⟩
 rcases hf b off n cap e with ⟨x,hx,_⟩ | ⟨_,hc⟩
 ·cases hx
 ·exact hc
theorem RetT.err {w w':World} {r:ResD} {x:Int} (hr:r=([],x)) (hb:Below w.heap.size w w'):RetT w r (.returned (.tuple #[.slice none 0 0,.int .i64 x])) w':=by
 subst hr;exact ⟨.slice none 0 0,rfl,ValT.none _,hb⟩
def indexR (v i:ValD):ResD :=
 if checkF v≠0 then ([],checkF v) else if checkF i≠0 then ([],checkF i) else match v,i with
 | x :: _,y :: _=>if x.kind=6∧y.kind=4 then atR v y.str else if x.kind≠5∨y.kind≠3 then ([],7)
  else if y.int<0 then ([],2) else match (partsOf v)[y.int.toNat]? with
   | none=>([],2)
   | some p=>(p.2,0)
 | _,_=>([],7)
attribute [local go_sem] zacZ
set_option maxHeartbeats 16000000 in
theorem index_any (a b:ValD) (v1 v2:Value) (w:World) (h1:ValV w v1 a) (h2:ValV w v2 b) (hp:Pow w) (o1:OkV a) (o2:OkV b) :
  Calls prog 18 #[v1,v2] w (RetT w (indexR a b)):=by
 obtain ⟨P,hP⟩:∃ P:Ending→World→Prop,RetT w (indexR a b)=P:=⟨_,rfl⟩
 rw [hP];have HP:=hZz hP;obtain ⟨A1,n1,k1,rfl⟩:=h1.shape;obtain ⟨A2,n2,k2,rfl⟩:=h2.shape
 have HCK:Hid (Calls prog 30 #[.slice (some ⟨w.heap.size,0,none⟩) 2 2] (w.alloc (.cells #[.slice A1 n1 k1,.slice A2 n2 k2] 22)) fun e w'=>e=.returned (.int .i64 (firstBad [a,b]))∧Below w.heap.size w w'):=hZz (by
  have:=zahY [a,b] _ (w.alloc (.cells #[.slice A1 n1 k1,.slice A2 n2 k2] 22)) (vals2 (Blk.new _ _ _) (h1.below (zabZ _ _)) (h2.below (zabZ _ _))) (hp.below (zabZ _ _)) (by simpa using ⟨o1,o2⟩)
  exact this.mono fun e w' ⟨he,hb'⟩=>⟨he,zadZ hb' (zabZ _ _)⟩)
 by_cases hck:firstBad [a,b]=0
 case neg =>
  have HR:Hid (indexR a b=([],firstBad [a,b])):=hZz (by
   rw [zayY] at hck ⊢;unfold indexR;by_cases ha:checkF a=0
   ·rw [if_neg (not_not_intro ha)] at hck ⊢
    rw [if_neg (not_not_intro ha),if_pos hck]
   ·rw [if_pos ha,if_pos ha])
  obtain ⟨ck,hc⟩:∃ c,firstBad [a,b]=c:=⟨_,rfl⟩
  rw [hc] at HCK HR hck;have hck':(ck != 0)=true:=by simpa using hck
  clear hck h1 h2 hp o1 o2 hP hc;go_enter func18,ntmps18
  go_wp2_with (first
   | (go_at_call 30;((with_reducible refine HCK.out.mono ?_);rintro e w2 ⟨rfl,hb2⟩;have HB2:=hZz hb2;clear hb2)))
  rw [← HP.out];exact RetT.err HR.out HB2.out
 have c1:checkF a=0:=by
  rw [zayY] at hck;by_cases ha:checkF a=0
  ·exact ha
  ·rw [if_pos ha] at hck;exact absurd hck ha
 have c2:checkF b=0:=by
  rw [zayY,if_neg (not_not_intro c1)] at hck;exact hck
 rw [hck] at HCK;clear hck
 obtain ⟨x,r,rfl⟩:∃ c r,a=c :: r:=by
  cases a with
  | nil=>exact absurd rfl (zaoZ c1)
  | cons c r=>exact ⟨c,r,rfl⟩
 obtain ⟨y,s,rfl⟩:∃ c r,b=c :: r:=by
  cases b with
  | nil=>exact absurd rfl (zaoZ c2)
  | cons c r=>exact ⟨c,r,rfl⟩
 obtain ⟨bA,oA,n1',k1',e1,hn1,p0,p1,p2,p3⟩:=zanZ h1;injection e1 with e1 e2 e3
 subst e1 e2 e3;obtain ⟨bB,oB,n2',k2',e1,hn2,q0,q1,q2,q3⟩:=zanZ h2;injection e1 with e1 e2 e3
 subst e1 e2 e3;have hposA:(0:Int)<(n1:Int):=by omega
 have hposB:(0:Int)<(n2:Int):=by omega
 have HP0:=hZz p0;have HQ0:=hZz q0;have HQ1:=hZz q1;have HQ2:=hZz q2
 have HU:Hid (indexR (x :: r) (y :: s)=if x.kind=6∧y.kind=4 then atR (x :: r) y.str else if x.kind≠5∨y.kind≠3 then (([],7):ResD)
  else if y.int<0 then (([],2):ResD) else match (partsOf (x :: r))[y.int.toNat]? with
   | none=>(([],2):ResD)
   | some p=>((p.2,0):ResD)):=hZz (by
  unfold indexR;rw [if_neg (not_not_intro c1),if_neg (not_not_intro c2)]
  try rfl)
 have HAT:Hid (∀ wx,Below w.heap.size w wx→Calls prog 61 #[.slice (some ⟨bA,oA,none⟩) n1 k1,.string y.str] wx (RetR wx [] (atR (x :: r) y.str))):=hZz fun wx hb=>at_any _ _ _ wx (h1.below hb) (hp.below hb) o1
 have HIT:Hid (x.kind=5→∀ wx,Below w.heap.size w wx→Calls prog 62 #[.slice (some ⟨bA,oA,none⟩) n1 k1] wx (RetL wx ((partsOf (x :: r)).map (fun p:ByteArray × ValD=>p.2),0))):=hZz fun hk wx hb=>by
  have:=zcsY (x :: r) _ wx (h1.below hb) (hp.below hb) o1
  rwa [za9Y c1 (.inl hk)] at this
 have HPL:Hid (x.kind=5→(partsOf (x :: r)).length≤200):=hZz fun hk=>zagY o1 c1 (.inl hk)
 clear h1 h2 hp o1 o2 c1 c2 hP hn1 hn2 p0 p1 p2 p3 q0 q1 q2 q3;obtain ⟨ps,hps⟩:∃ t,partsOf (x :: r)=t:=⟨_,rfl⟩
 rw [hps] at HIT HU HPL;obtain ⟨aR,haR⟩:∃ t,atR (x :: r) y.str=t:=⟨_,rfl⟩
 rw [haR] at HAT HU;obtain ⟨k,i,st,nn⟩:=x;obtain ⟨k',i',st',nn'⟩:=y;dsimp only at HP0 HQ0 HQ1 HQ2 HU HAT HIT HPL;obtain ⟨BR,hBR⟩:∃ t,indexR (⟨k,i,st,nn⟩ :: r) (⟨k',i',st',nn'⟩ :: s)=t:=⟨_,rfl⟩
 rw [hBR] at HP HU;clear hps haR hBR;by_cases h6:k=6
 ·subst h6
  by_cases h4:k'=4
  ·subst h4
   have HR:Hid (BR=aR):=hZz (by rw [HU.out,if_pos ⟨rfl,rfl⟩]);clear HU HIT HPL;go_enter func18,ntmps18
   go_wp2_with (first
    | (go_at_call 30;((with_reducible refine HCK.out.mono ?_);rintro e w2 ⟨rfl,hb2⟩;have HB2:=hZz hb2;have p0:=(hb2.cell (p:=⟨bA,oA,none⟩) (bLZ HP0.out)).trans HP0.out;have q0:=(hb2.cell (p:=⟨bB,oB,none⟩) (bLZ HQ0.out)).trans HQ0.out;have q1:=(hb2.cell (p:=⟨bB,oB+1,none⟩) (bLZ HQ1.out)).trans HQ1.out;have q2:=(hb2.cell (p:=⟨bB,oB+2,none⟩) (bLZ HQ2.out)).trans HQ2.out;clear hb2))
    | (go_at_call 61;((with_reducible refine (HAT.out _ HB2.out).mono ?_);rintro e w3 ⟨u,rfl,hu,hf,hb3⟩;have HU3:=hZz hu;have HF3:=hZz hf;have HB3:=hZz (zadZ hb3 HB2.out);clear hu hf hb3)))
   rw [← HP.out,HR.out];exact RetR.t ⟨u,rfl,HU3.out,HF3.out.up HB2.out.size (Below.refl _ _),HB3.out⟩
  ·have h4':(k' == 4)=false:=by simpa using h4
   have HR:Hid (BR=([],7)):=hZz (by rw [HU.out,if_neg (fun h=>h4 h.2),if_pos (.inl (by decide))]);clear HU HIT HPL h4;go_enter func18,ntmps18
   go_wp2_with (first
    | (go_at_call 30;((with_reducible refine HCK.out.mono ?_);rintro e w2 ⟨rfl,hb2⟩;have HB2:=hZz hb2;have p0:=(hb2.cell (p:=⟨bA,oA,none⟩) (bLZ HP0.out)).trans HP0.out;have q0:=(hb2.cell (p:=⟨bB,oB,none⟩) (bLZ HQ0.out)).trans HQ0.out;have q1:=(hb2.cell (p:=⟨bB,oB+1,none⟩) (bLZ HQ1.out)).trans HQ1.out;have q2:=(hb2.cell (p:=⟨bB,oB+2,none⟩) (bLZ HQ2.out)).trans HQ2.out;clear hb2)))
   rw [← HP.out];exact RetT.err HR.out HB2.out
 have h6':(k == 6)=false:=by simpa using h6
 rw [if_neg (fun h=>h6 h.1)] at HU;by_cases h5:k=5
 case neg =>
  have h5':(k != 5)=true:=by simpa using h5
  have HR:Hid (BR=([],7)):=hZz (by rw [HU.out,if_pos (.inl h5)]);clear HU HIT HPL h6 h5;go_enter func18,ntmps18
  go_wp2_with (first
   | (go_at_call 30;((with_reducible refine HCK.out.mono ?_);rintro e w2 ⟨rfl,hb2⟩;have HB2:=hZz hb2;have p0:=(hb2.cell (p:=⟨bA,oA,none⟩) (bLZ HP0.out)).trans HP0.out;have q0:=(hb2.cell (p:=⟨bB,oB,none⟩) (bLZ HQ0.out)).trans HQ0.out;have q1:=(hb2.cell (p:=⟨bB,oB+1,none⟩) (bLZ HQ1.out)).trans HQ1.out;have q2:=(hb2.cell (p:=⟨bB,oB+2,none⟩) (bLZ HQ2.out)).trans HQ2.out;clear hb2)))
  rw [← HP.out];exact RetT.err HR.out HB2.out
 subst h5;have hlen:=HPL.out rfl;have HIT':=hZz (HIT.out rfl);clear h6 HIT HPL;have HIT:=HIT';clear HIT' h6';by_cases h3:k'=3
 case neg =>
  have h3':(k' != 3)=true:=by simpa using h3
  have HR:Hid (BR=([],7)):=hZz (by rw [HU.out,if_pos (.inr h3)]);clear HU h3;go_enter func18,ntmps18
  go_wp2_with (first
   | (go_at_call 30;((with_reducible refine HCK.out.mono ?_);rintro e w2 ⟨rfl,hb2⟩;have HB2:=hZz hb2;have p0:=(hb2.cell (p:=⟨bA,oA,none⟩) (bLZ HP0.out)).trans HP0.out;have q0:=(hb2.cell (p:=⟨bB,oB,none⟩) (bLZ HQ0.out)).trans HQ0.out;have q1:=(hb2.cell (p:=⟨bB,oB+1,none⟩) (bLZ HQ1.out)).trans HQ1.out;have q2:=(hb2.cell (p:=⟨bB,oB+2,none⟩) (bLZ HQ2.out)).trans HQ2.out;clear hb2)))
  rw [← HP.out];exact RetT.err HR.out HB2.out
 subst h3
 have HU2:Hid (BR=if i' < 0 then (([],2):ResD) else match ps[i'.toNat]? with
   | none=>(([],2):ResD)
   | some p=>((p.2,0):ResD)):=hZz (by rw [HU.out,if_neg (by simp)])
 clear HU;obtain ⟨N,hN⟩:∃ N,(ps.map (fun p:ByteArray × ValD=>p.2)).length=N:=⟨_,rfl⟩
 have HN:=hZz hN;have hN2:ps.length=N:=by rw [← hN,List.length_map]
 have HN2:=hZz hN2;rw [hN2] at hlen;clear hN hN2;by_cases hneg:i' < 0
 ·have HR:Hid (BR=([],2)):=hZz (by rw [HU2.out,if_pos hneg])
  clear HU2;go_enter func18,ntmps18
  go_wp2_with (first
   | (go_at_call 30;((with_reducible refine HCK.out.mono ?_);rintro e w2 ⟨rfl,hb2⟩;have HB2:=hZz hb2;have p0:=(hb2.cell (p:=⟨bA,oA,none⟩) (bLZ HP0.out)).trans HP0.out;have q0:=(hb2.cell (p:=⟨bB,oB,none⟩) (bLZ HQ0.out)).trans HQ0.out;have q1:=(hb2.cell (p:=⟨bB,oB+1,none⟩) (bLZ HQ1.out)).trans HQ1.out;have q2:=(hb2.cell (p:=⟨bB,oB+2,none⟩) (bLZ HQ2.out)).trans HQ2.out;clear hb2))
   | (go_at_call 62;((with_reducible refine (HIT.out _ HB2.out).mono ?_);rintro e w3 ⟨u,rfl,hu,hb3⟩;obtain ⟨oA3,oc3,hoe3⟩:=hu.shape;rw [HN.out] at hoe3;subst hoe3;have HU3:=hZz hu;have HB3:=hZz (zadZ hb3 HB2.out);have r1:=(hb3.cell (p:=⟨bB,oB+1,none⟩) (bLZ q1)).trans q1;clear hu hb3)))
  rw [← HP.out];exact RetT.err HR.out HB3.out
 obtain ⟨j,rfl⟩:=Int.eq_ofNat_of_zero_le (Int.not_lt.1 hneg);have hj0:¬ ((j:Int)<0):=by omega
 rw [if_neg hneg,Int.toNat_natCast] at HU2;clear hneg;by_cases hjN:j<N
 ·have hjN':(j:Int)<(N:Int):=by omega
  have hjp:j<ps.length:=by rw [HN2.out];exact hjN
  have HR:Hid (BR=(ps[j].2,0)):=hZz (by rw [HU2.out,List.getElem?_eq_getElem hjp]);have HMJ:Hid ((ps.map (fun p:ByteArray × ValD=>p.2))[j]'(by rw [List.length_map];exact hjp)=ps[j].2):=hZz (by rw [List.getElem_map]);clear HU2;go_enter func18,ntmps18
  go_wp2_with (first
   | (go_at_call 30;((with_reducible refine HCK.out.mono ?_);rintro e w2 ⟨rfl,hb2⟩;have HB2:=hZz hb2;have p0:=(hb2.cell (p:=⟨bA,oA,none⟩) (bLZ HP0.out)).trans HP0.out;have q0:=(hb2.cell (p:=⟨bB,oB,none⟩) (bLZ HQ0.out)).trans HQ0.out;have q1:=(hb2.cell (p:=⟨bB,oB+1,none⟩) (bLZ HQ1.out)).trans HQ1.out;have q2:=(hb2.cell (p:=⟨bB,oB+2,none⟩) (bLZ HQ2.out)).trans HQ2.out;clear hb2))
   | (go_at_call 62;((with_reducible refine (HIT.out _ HB2.out).mono ?_);rintro e w3 ⟨u,rfl,hu,hb3⟩;obtain ⟨vs,hown,hvl,hvt⟩:=hu;obtain ⟨oA3,oc3,hoe3⟩:=zaeZ hown;rw [HN.out] at hoe3 hown;subst hoe3;obtain ⟨gg,gc,hgg,_,_⟩:=hown.form (by omega);injection hgg with hg1 hg2 hg3;subst hg1 hg3;have HVJ:=hZz (hvt j (by rw [hvl,HN.out];exact hjN) (by rw [HN.out];exact hjN));have hjv:j<vs.length:=(by rw [hvl,HN.out];exact hjN);have hcj:=hown.cells (g:=gg) rfl j vs[j] (List.getElem?_eq_getElem hjv);rw [zanY,Nat.zero_add] at hcj;obtain ⟨xu,hxu⟩:∃ x,vs[j]=x:=⟨_,rfl⟩;rw [hxu] at hcj HVJ;have HB3:=hZz (zadZ hb3 HB2.out);have r1:=(hb3.cell (p:=⟨bB,oB+1,none⟩) (bLZ q1)).trans q1;clear hb3 hown hvl hvt hxu hjv)))
  rw [← HP.out,HR.out];have hvj:=HVJ.out;rw [HMJ.out] at hvj;exact ⟨_,rfl,hvj,HB3.out⟩
 ·have hjN':(N:Int)≤(j:Int):=by omega
  have HR:Hid (BR=([],2)):=hZz (by rw [HU2.out,List.getElem?_eq_none (by rw [HN2.out];omega)]);clear HU2;go_enter func18,ntmps18
  go_wp2_with (first
   | (go_at_call 30;((with_reducible refine HCK.out.mono ?_);rintro e w2 ⟨rfl,hb2⟩;have HB2:=hZz hb2;have p0:=(hb2.cell (p:=⟨bA,oA,none⟩) (bLZ HP0.out)).trans HP0.out;have q0:=(hb2.cell (p:=⟨bB,oB,none⟩) (bLZ HQ0.out)).trans HQ0.out;have q1:=(hb2.cell (p:=⟨bB,oB+1,none⟩) (bLZ HQ1.out)).trans HQ1.out;have q2:=(hb2.cell (p:=⟨bB,oB+2,none⟩) (bLZ HQ2.out)).trans HQ2.out;clear hb2))
   | (go_at_call 62;((with_reducible refine (HIT.out _ HB2.out).mono ?_);rintro e w3 ⟨u,rfl,hu,hb3⟩;obtain ⟨oA3,oc3,hoe3⟩:=hu.shape;rw [HN.out] at hoe3;subst hoe3;have HU3:=hZz hu;have HB3:=hZz (zadZ hb3 HB2.out);have r1:=(hb3.cell (p:=⟨bB,oB+1,none⟩) (bLZ q1)).trans q1;clear hu hb3)))
  rw [← HP.out];exact RetT.err HR.out HB3.out
end
def dgB (b:UInt8):Bool:=decide (48≤b.toNat) && decide (b.toNat≤57)
def decX (s X:ByteArray):Bool:=decide (X.size≠0) && (!(decide (X.data.toList.head? = some 48) && decide (s.toList≠[48])) && X.data.toList.all dgB)
def negB (s:ByteArray):Bool:=decide (s.data.toList.head? = some 45)
def decB (s:ByteArray):Bool:=decX s (if negB s then s.extract 1 s.size else s)
structure DecF (s X:ByteArray) (D:Bool):Prop where
 none:X.size=0→D=false
 zero:∀ h:0<X.size,X[0]=48→¬ s.toList=[48]→D=false
 bad:∀ k (h:k<X.size),dgB X[k]=false→D=false
 good:X.size≠0→(∀ h:0<X.size,¬ X[0]=48)∨s.toList=[48]→(∀ k (h:k<X.size),dgB X[k]=true)→D=true
theorem zbtY (X:ByteArray) (h:0<X.size):X.data.toList.head? = some X[0]:=by
 have:=ext_head X 0 h
 rw [show X.extract 0 X.size=X by simp] at this;exact this
theorem decF (s X:ByteArray):DecF s X (decX s X):=by
 refine ⟨fun h=>by simp [decX,h],fun h h1 h2=>?_,fun k h hb=>?_,fun h h1 h2=>?_⟩
 ·have:=zbtY X h
  rw [h1] at this;simp [decX,this,h2]
 ·have:X.data.toList.all dgB=false:=by
   rw [List.all_eq_false];exact ⟨X[k],by simp [ByteArray.getElem_eq_getElem_data],by simp [hb]⟩
  simp [decX,this]
 ·have hp:0<X.size:=by omega
  have e:=zbtY X hp
  have ha:X.data.toList.all dgB=true:=by
   rw [List.all_eq_true];intro b hb;obtain ⟨i,hi,rfl⟩:=List.mem_iff_getElem.1 hb
   have:=h2 i (by simpa using hi)
   simpa [ByteArray.getElem_eq_getElem_data] using this
  unfold decX;rw [ha,e];rcases h1 with h1 | h1
  ·simp [h,h1 hp]
  ·simp [h,h1]
theorem neg_at (s:ByteArray) (h:0<s.size):negB s=decide (s[0]=45):=by
 unfold negB;rw [zbtY s h];simp
theorem dec_any (s:ByteArray) (w:World) (hs:s.size≤4294967296):Calls prog 152 #[.string s] w fun e w'=>e=.returned (.bool (decB s))∧w'=w:=by
 by_cases h0:s.size=0
 ·have h1:(s.toList == [])=true:=by rw [(zadY s).2 h0];rfl
  have hn:¬ (0:Int)<(s.size:Int):=by omega
  have hD:decB s=false:=by
   have e:negB s=false:=by
    have:s.data.toList=[]:=by rw [← Lib.toList_data];exact (zadY s).2 h0
    simp [negB,this]
   unfold decB;rw [e];exact (decF s s).none h0
  rw [hD];go_enter func152,ntmps152
  go_wp2
  go_returns;exact ⟨rfl,rfl⟩
 ·have hp:(0:Int)<(s.size:Int):=by omega
  have hp':0<s.size:=by omega
  have hns:(s.toList == [])=false:=by
   rw [← zadY] at h0;simpa using h0
  clear h0;have hneg:=neg_at s hp';by_cases hm:s[0]=45
  ·obtain ⟨X,hX⟩:∃ X,s.extract 1 s.size=X:=⟨_,rfl⟩
   have hXs:X.size=s.size - 1:=by rw [← hX];simp
   have HF0:DecF s X (decB s):=by
    unfold decB;rw [hneg,decide_eq_true hm,if_pos rfl,hX];exact decF s X
   have HF:=hZz HF0;obtain ⟨D,hD⟩:∃ D,decB s=D:=⟨_,rfl⟩
   rw [hD] at HF ⊢;clear HF0 hD hneg;by_cases h1:s.size=1
   ·have hXn:(X.toList == [])=true:=by rw [(zadY X).2 (by omega)];rfl
    have HE:=hZz (HF.out.none (by omega));rw [h1] at hX;have HXE:=hZz hX;clear hX;go_enter func152,ntmps152
    go_upto_region 4 with fail
    first | rw [HXE.out] | skip
    go_wp2_with (fail)
    go_returns;exact ⟨(congrArg (fun b=>Ending.returned (Value.bool b)) HE.out).symm,rfl⟩
   ·have hXp:0<X.size:=by omega
    have hXp':(0:Int)<(X.size:Int):=by omega
    have hXn:(X.toList == [])=false:=by
     have:¬ X.size=0:=by omega
     rw [← zadY] at this;simpa using this
    have hXb:X.size≤4294967296:=by omega
    have HXE:=hZz hX;clear hX hXs;go_enter func152,ntmps152
    go_upto_region 4 with fail
    rw [HXE.out];by_cases hd:X[0]=48
    ·by_cases hz:s.toList=[48]
     ·have hz':(s.toList == [48])=true:=by simpa using hz
      have HG:=hZz hz;go_wp2_with (fail)
      go_loop [4,29] (fun u c=>∃ k:Nat,k≤X.size∧c=.int .i64 k∧Hid (∀ i (h:i<X.size),i<k→dgB X[i]=true)) (fun u c=>X.size - (intOf c).toNat)
      case atStart=>exact ⟨0,Nat.zero_le _,rfl,hZz (fun i _ h=>absurd h (by omega))⟩
      case round =>
       obtain ⟨k,hk,rfl,HI⟩:=hrel;have hk0:(0:Int)≤(k:Int):=by omega
       by_cases hlt:k<X.size
       ·have hlt':(k:Int)<(X.size:Int):=by omega
        have hk9:(k:Int)+1≤9223372036854775807:=by omega
        by_cases h1:(X[k].toNat:Int)<48
        ·have HE:=hZz (HF.out.bad k hlt (by unfold dgB;simp;omega))
         go_wp2_with (fail)
         go_returns;exact ⟨(congrArg (fun b=>Ending.returned (Value.bool b)) HE.out).symm,rfl⟩
        ·by_cases h2:(57:Int)<(X[k].toNat:Int)
         ·have HE:=hZz (HF.out.bad k hlt (by unfold dgB;simp;omega))
          go_wp2_with (fail)
          go_returns;exact ⟨(congrArg (fun b=>Ending.returned (Value.bool b)) HE.out).symm,rfl⟩
         ·have HI2:Hid (∀ i (h:i<X.size),i<k+1→dgB X[i]=true):=hZz (fun i h hi=>by
           rcases Nat.lt_or_ge i k with h' | h'
           ·exact HI.out i h h'
           ·obtain rfl:i=k:=by omega
            unfold dgB;simp;omega)
          go_wp2_with (fail)
          exact ⟨⟨k+1,by omega,by simp,HI2⟩,by simp [intOf];omega⟩
       ·have e:k=X.size:=by omega
        have HE:=hZz (HF.out.good (by omega) (.inr HG.out) (fun i h=>HI.out i h (by omega)));subst e;go_wp2_with (fail)
        go_returns;exact ⟨(congrArg (fun b=>Ending.returned (Value.bool b)) HE.out).symm,rfl⟩
     ·have hz':(s.toList == [48])=false:=by simpa using hz
      have hz2:(s.toList != [48])=true:=by simpa using hz
      have HE:=hZz (HF.out.zero hXp hd hz);go_wp2_with (fail)
      go_returns;exact ⟨(congrArg (fun b=>Ending.returned (Value.bool b)) HE.out).symm,rfl⟩
    ·have hd':((X[0].toNat:Int) == 48)=false:=beq_eq_false_iff_ne.mpr (za4Y hd)
     have HG:=hZz hd;go_wp2_with (fail)
     go_loop [4,29] (fun u c=>∃ k:Nat,k≤X.size∧c=.int .i64 k∧Hid (∀ i (h:i<X.size),i<k→dgB X[i]=true)) (fun u c=>X.size - (intOf c).toNat)
     case atStart=>exact ⟨0,Nat.zero_le _,rfl,hZz (fun i _ h=>absurd h (by omega))⟩
     case round =>
      obtain ⟨k,hk,rfl,HI⟩:=hrel;have hk0:(0:Int)≤(k:Int):=by omega
      by_cases hlt:k<X.size
      ·have hlt':(k:Int)<(X.size:Int):=by omega
       have hk9:(k:Int)+1≤9223372036854775807:=by omega
       by_cases h1:(X[k].toNat:Int)<48
       ·have HE:=hZz (HF.out.bad k hlt (by unfold dgB;simp;omega))
        go_wp2_with (fail)
        go_returns;exact ⟨(congrArg (fun b=>Ending.returned (Value.bool b)) HE.out).symm,rfl⟩
       ·by_cases h2:(57:Int)<(X[k].toNat:Int)
        ·have HE:=hZz (HF.out.bad k hlt (by unfold dgB;simp;omega))
         go_wp2_with (fail)
         go_returns;exact ⟨(congrArg (fun b=>Ending.returned (Value.bool b)) HE.out).symm,rfl⟩
        ·have HI2:Hid (∀ i (h:i<X.size),i<k+1→dgB X[i]=true):=hZz (fun i h hi=>by
          rcases Nat.lt_or_ge i k with h' | h'
          ·exact HI.out i h h'
          ·obtain rfl:i=k:=by omega
           unfold dgB;simp;omega)
         go_wp2_with (fail)
         exact ⟨⟨k+1,by omega,by simp,HI2⟩,by simp [intOf];omega⟩
      ·have e:k=X.size:=by omega
       have HE:=hZz (HF.out.good (by omega) (.inl (fun _=>HG.out)) (fun i h=>HI.out i h (by omega)));subst e;go_wp2_with (fail)
       go_returns;exact ⟨(congrArg (fun b=>Ending.returned (Value.bool b)) HE.out).symm,rfl⟩
  ·have hm':((s[0].toNat:Int) == 45)=false:=beq_eq_false_iff_ne.mpr (za4Y hm)
   have HF0:DecF s s (decB s):=by
    unfold decB;rw [hneg,decide_eq_false hm];exact decF s s
   have HF:=hZz HF0;obtain ⟨D,hD⟩:∃ D,decB s=D:=⟨_,rfl⟩
   rw [hD] at HF ⊢;clear HF0 hD hneg;have hXp:0<s.size:=hp';go_enter func152,ntmps152
   go_upto_region 4 with fail
   by_cases hd:s[0]=48
   ·by_cases hz:s.toList=[48]
    ·have hz':(s.toList == [48])=true:=by simpa using hz
     have HG:=hZz hz;go_wp2_with (fail)
     go_loop [4,29] (fun u c=>∃ k:Nat,k≤s.size∧c=.int .i64 k∧Hid (∀ i (h:i<s.size),i<k→dgB s[i]=true)) (fun u c=>s.size - (intOf c).toNat)
     case atStart=>exact ⟨0,Nat.zero_le _,rfl,hZz (fun i _ h=>absurd h (by omega))⟩
     case round =>
      obtain ⟨k,hk,rfl,HI⟩:=hrel;have hk0:(0:Int)≤(k:Int):=by omega
      by_cases hlt:k<s.size
      ·have hlt':(k:Int)<(s.size:Int):=by omega
       have hk9:(k:Int)+1≤9223372036854775807:=by omega
       by_cases h1:(s[k].toNat:Int)<48
       ·have HE:=hZz (HF.out.bad k hlt (by unfold dgB;simp;omega))
        go_wp2_with (fail)
        go_returns;exact ⟨(congrArg (fun b=>Ending.returned (Value.bool b)) HE.out).symm,rfl⟩
       ·by_cases h2:(57:Int)<(s[k].toNat:Int)
        ·have HE:=hZz (HF.out.bad k hlt (by unfold dgB;simp;omega))
         go_wp2_with (fail)
         go_returns;exact ⟨(congrArg (fun b=>Ending.returned (Value.bool b)) HE.out).symm,rfl⟩
        ·have HI2:Hid (∀ i (h:i<s.size),i<k+1→dgB s[i]=true):=hZz (fun i h hi=>by
          rcases Nat.lt_or_ge i k with h' | h'
          ·exact HI.out i h h'
          ·obtain rfl:i=k:=by omega
           unfold dgB;simp;omega)
         go_wp2_with (fail)
         exact ⟨⟨k+1,by omega,by simp,HI2⟩,by simp [intOf];omega⟩
      ·have e:k=s.size:=by omega
       have HE:=hZz (HF.out.good (by omega) (.inr HG.out) (fun i h=>HI.out i h (by omega)));subst e;go_wp2_with (fail)
       go_returns;exact ⟨(congrArg (fun b=>Ending.returned (Value.bool b)) HE.out).symm,rfl⟩
    ·have hz':(s.toList == [48])=false:=by simpa using hz
     have hz2:(s.toList != [48])=true:=by simpa using hz
     have HE:=hZz (HF.out.zero hXp hd hz);go_wp2_with (fail)
     go_returns;exact ⟨(congrArg (fun b=>Ending.returned (Value.bool b)) HE.out).symm,rfl⟩
   ·have hd':((s[0].toNat:Int) == 48)=false:=beq_eq_false_iff_ne.mpr (za4Y hd)
    have HG:=hZz hd;go_wp2_with (fail)
    go_loop [4,29] (fun u c=>∃ k:Nat,k≤s.size∧c=.int .i64 k∧Hid (∀ i (h:i<s.size),i<k→dgB s[i]=true)) (fun u c=>s.size - (intOf c).toNat)
    case atStart=>exact ⟨0,Nat.zero_le _,rfl,hZz (fun i _ h=>absurd h (by omega))⟩
    case round =>
     obtain ⟨k,hk,rfl,HI⟩:=hrel;have hk0:(0:Int)≤(k:Int):=by omega
     by_cases hlt:k<s.size
     ·have hlt':(k:Int)<(s.size:Int):=by omega
      have hk9:(k:Int)+1≤9223372036854775807:=by omega
      by_cases h1:(s[k].toNat:Int)<48
      ·have HE:=hZz (HF.out.bad k hlt (by unfold dgB;simp;omega))
       go_wp2_with (fail)
       go_returns;exact ⟨(congrArg (fun b=>Ending.returned (Value.bool b)) HE.out).symm,rfl⟩
      ·by_cases h2:(57:Int)<(s[k].toNat:Int)
       ·have HE:=hZz (HF.out.bad k hlt (by unfold dgB;simp;omega))
        go_wp2_with (fail)
        go_returns;exact ⟨(congrArg (fun b=>Ending.returned (Value.bool b)) HE.out).symm,rfl⟩
       ·have HI2:Hid (∀ i (h:i<s.size),i<k+1→dgB s[i]=true):=hZz (fun i h hi=>by
         rcases Nat.lt_or_ge i k with h' | h'
         ·exact HI.out i h h'
         ·obtain rfl:i=k:=by omega
          unfold dgB;simp;omega)
        go_wp2_with (fail)
        exact ⟨⟨k+1,by omega,by simp,HI2⟩,by simp [intOf];omega⟩
     ·have e:k=s.size:=by omega
      have HE:=hZz (HF.out.good (by omega) (.inl (fun _=>HG.out)) (fun i h=>HI.out i h (by omega)));subst e;go_wp2_with (fail)
      go_returns;exact ⟨(congrArg (fun b=>Ending.returned (Value.bool b)) HE.out).symm,rfl⟩
theorem atoiE_any (s:ByteArray) (w:World) (hs:s.size≤4294967296) (hv:Sent w) :
  Calls prog 153 #[.string s] w fun e w'=>(match Lib.atoiAll s.data.toList with | .ok v=>e=.returned (.tuple #[.int .i64 v,.nilIface]) | _=>∃ n t p,e=.returned (.tuple #[.int .i64 n,.iface t p]))∧Below w.heap.size w w':=by
 obtain ⟨⟨tp,p,h1⟩,tp',p',h2⟩:=hv;cases ha:Lib.atoiAll s.data.toList with
 | ok v =>
  refine (Tryz.strconv_Atoi_ok s (by omega) v ha w).mono ?_
  rintro e w' ⟨rfl,hw⟩;refine ⟨rfl,?_⟩
  rcases hw with rfl | ⟨t,rfl⟩
  ·exact Below.refl _ _
  ·exact Lib.bytesWorld_below _ _ _
 | range =>
  refine (Tryz.strconv_Atoi_range_var s (by omega) ha tp' p' w h2).mono ?_
  rintro e w' ⟨N,rfl,_,_,hb⟩;exact ⟨⟨_,_,_,rfl⟩,hb⟩
 | _ =>
  refine (Any.strconv_Atoi_syntax_var Tryz.laysC172 s (by omega) ha tp p w h1).mono ?_
  rintro e w' ⟨N,rfl,_,_,hb⟩;exact ⟨⟨_,_,_,rfl⟩,hb⟩
def parseR (s:ByteArray):Int × Int:=if decB s=false then (0,1) else match Lib.atoiAll s.data.toList with
 | .ok v=>if inRange v=true then (v,0) else (0,2)
 | _=>(0,2)
set_option maxHeartbeats 2000000 in
theorem parseE_any (s:ByteArray) (w:World) (hs:s.size≤4294967296) (hv:Sent w):Calls prog 101 #[.string s] w fun e w'=>e=.returned (.tuple #[.int .i64 (parseR s).1,.int .i64 (parseR s).2])∧Below w.heap.size w w':=by
 have HD:=hZz (dec_any s w hs);have HA:=hZz (atoiE_any s w hs hv);unfold parseR;cases hd:decB s with
 | false =>
  rw [hd] at HD;rw [if_pos rfl];clear hd HA hv;go_enter func101,ntmps101
  go_wp2_with (first
   | (go_at_call 152;(with_reducible refine HD.out.mono ?_);rintro e w1 ⟨rfl,rfl⟩))
  go_returns;exact ⟨rfl,Below.refl _ _⟩
 | true =>
  rw [hd] at HD;rw [if_neg (by simp)];cases ha:Lib.atoiAll s.data.toList with
  | ok v =>
   rw [ha] at HA;have HA2:Hid (Calls prog 153 #[.string s] w fun e w'=>e=.returned (.tuple #[.int .i64 v,.nilIface])∧Below w.heap.size w w'):=hZz HA.out;have HV:Hid (∀ wx,Calls prog 154 #[.int .i64 v] wx fun e w'=>e=.returned (.bool (inRange v))∧w'=wx):=hZz fun wx=>zb3Y v wx
   obtain ⟨P,hP⟩:∃ P:Ending→World→Prop,(fun e w'=>e=.returned (.tuple #[.int .i64 (if inRange v=true then ((v,0):Int × Int) else (0,2)).1,.int .i64 (if inRange v=true then ((v,0):Int × Int) else (0,2)).2])∧Below w.heap.size w w')=P:=⟨_,rfl⟩
   show Calls _ _ _ _ (fun e w'=>e=.returned (.tuple #[.int .i64 (if inRange v=true then ((v,0):Int × Int) else (0,2)).1,.int .i64 (if inRange v=true then ((v,0):Int × Int) else (0,2)).2])∧Below w.heap.size w w');rw [hP];have HP:=hZz hP;obtain ⟨t,ht⟩:∃ t,inRange v=t:=⟨_,rfl⟩
   rw [ht] at HV HP;clear hd ha hv HA hP ht;cases t
   all_goals
    go_enter func101,ntmps101
    go_wp2_with (first
     | (go_at_call 152;(with_reducible refine HD.out.mono ?_);rintro e w1 ⟨rfl,rfl⟩)
     | (go_at_call 153;(with_reducible refine HA2.out.mono ?_);rintro e w2 ⟨rfl,hb2⟩;have HB2:=hZz hb2;clear hb2)
     | (go_at_call 154;(with_reducible refine (HV.out _).mono ?_);rintro e w3 ⟨rfl,rfl⟩))
    rw [← HP.out];exact ⟨rfl,HB2.out⟩
  | _ =>
   rw [ha] at HA;have HA2:Hid (Calls prog 153 #[.string s] w fun e w'=>(∃ n t p,e=.returned (.tuple #[.int .i64 n,.iface t p]))∧Below w.heap.size w w'):=hZz HA.out;clear hd ha hv HA;go_enter func101,ntmps101
   go_wp2_with (first
    | (go_at_call 152;(with_reducible refine HD.out.mono ?_);rintro e w1 ⟨rfl,rfl⟩)
    | (go_at_call 153;(with_reducible refine HA2.out.mono ?_);rintro e w2 ⟨⟨n,t,p,rfl⟩,hb2⟩;have HB2:=hZz hb2;clear hb2))
   go_returns;exact ⟨rfl,HB2.out⟩
section
def sizeR (v:ValD):ResD:=match v with
 | []=>([],7)
 | c :: _=>if c.kind=4 then ([iCel (c.str.size:Nat)],0) else if c.kind=5∨c.kind=6 then ([iCel c.n],0) else ([],7)
def integerR (v:ValD):ResD:=match v with
 | []=>([],7)
 | c :: r=>if c.kind=3 then (c :: r,0) else if c.kind=4 then (if (parseR c.str).2=0 then ([iCel (parseR c.str).1],0) else ([⟨1,0,⟨#[]⟩,0⟩],0)) else ([],7)
def pushR (l v:ValD):ResD:=match l with
 | []=>([],7)
 | c :: r=>if c.kind=5 then listR ((partsOf (c :: r)).map (fun p:ByteArray × ValD=>p.2) ++ [v]) else ([],7)
theorem n_bd {c:CellD} {r:ValD} (ho:OkV (c :: r)) (hck:checkF (c :: r)=0) (hk:c.kind=5∨c.kind=6):0≤c.n∧c.n≤200:=by
 obtain ⟨h1,h2,_⟩:=zacY hck (fun x hx=>zabY (ho.2 x hx)) (c:=c) rfl hk
 have:=zagY ho hck hk
 omega
theorem in_small {n:Int} (h0:0≤n) (h1:n≤200):inRange n=true:=by
 unfold inRange;simp
 omega
attribute [local go_sem] zacZ
theorem size0_any (c:CellD) (r:ValD) (v:Value) (w:World) (h:ValV w v (c :: r)) (hp:Pow w) (ho:OkV (c :: r)) (hck:checkF (c :: r)=0) :
  Calls prog 50 #[v] w (RetR w [] (sizeR (c :: r))):=by
 obtain ⟨P,hP⟩:∃ P:Ending→World→Prop,RetR w [] (sizeR (c :: r))=P:=⟨_,rfl⟩
 rw [hP];have HP:=hZz hP;obtain ⟨b,off,n,cap,rfl,hn,p0,p1,p2,p3⟩:=zanZ h;have hpos:(0:Int)<(n:Int):=by omega
 have HI:Hid (∀ m:Int,0≤m→m≤200→Calls prog 33 #[.int .i64 m] w (RetR w [] ([iCel m],0))):=hZz fun m h0 h1=>by
  have:=cint_any m w hp (by omega) (by omega)
  rwa [okR_int (in_small h0 h1)] at this
 have HS:Hid (c.str.size≤200):=hZz (za8Y hck c (by simp));have HN:Hid (c.kind=5∨c.kind=6→0≤c.n∧c.n≤200):=hZz (n_bd ho hck);have HU:Hid (sizeR (c :: r)=if c.kind=4 then ([iCel (c.str.size:Nat)],0) else if c.kind=5∨c.kind=6 then ([iCel c.n],0) else ([],7)):=hZz rfl;obtain ⟨BR,hBR⟩:∃ t,sizeR (c :: r)=t:=⟨_,rfl⟩
 rw [hBR] at HP HU;obtain ⟨k,i,s,nn⟩:=c;dsimp only at p0 p1 p2 p3 HS HN HU;clear hBR hP h hp ho hck hn p1;by_cases h4:k=4
 ·subst h4
  have HI':=hZz (HI.out (s.size:Nat) (by omega) (by have:=HS.out;omega));have HR:Hid (BR=([iCel (s.size:Nat)],0)):=hZz (by rw [HU.out,if_pos rfl]);clear HI HU HN;go_enter func50,ntmps50
  go_wp2_with (first
   | (go_at_call 33;((with_reducible refine HI'.out.mono ?_);rintro e w3 ⟨u,rfl,hu,hf,hb3⟩;have HU3:=hZz hu;have HF3:=hZz hf;have HB3:=hZz hb3;clear hu hf hb3)))
  rw [← HP.out,HR.out];exact ⟨u,rfl,HU3.out,HF3.out,HB3.out⟩
 have k4:(k == 4)=false:=by simpa using h4
 rw [if_neg h4] at HU;by_cases h5:k=5∨k=6
 ·have HI':=hZz (HI.out nn (HN.out h5).1 (HN.out h5).2)
  have HR:Hid (BR=([iCel nn],0)):=hZz (by rw [HU.out,if_pos h5]);clear HI HU HN h4;rcases h5 with h5 | h5
  all_goals
   subst h5;go_enter func50,ntmps50
   go_wp2_with (first
    | (go_at_call 33;((with_reducible refine HI'.out.mono ?_);rintro e w3 ⟨u,rfl,hu,hf,hb3⟩;have HU3:=hZz hu;have HF3:=hZz hf;have HB3:=hZz hb3;clear hu hf hb3)))
   rw [← HP.out,HR.out];exact ⟨u,rfl,HU3.out,HF3.out,HB3.out⟩
 have k5:(k == 5)=false:=by simp;omega
 have k6:(k == 6)=false:=by simp;omega
 have HR:Hid (BR=([],7)):=hZz (by rw [HU.out,if_neg h5]);clear HI HU HN h4 h5;go_enter func50,ntmps50
 go_wp2_with (fail)
 rw [← HP.out];exact RetR.err HR.out (Below.refl _ _)
theorem integer_any (c:CellD) (r:ValD) (v:Value) (w:World) (h:ValV w v (c :: r)) (hp:Pow w) (hse:Sent w) (ho:OkV (c :: r)) (hck:checkF (c :: r)=0) :
  Calls prog 52 #[v] w (RetR w [] (integerR (c :: r))):=by
 obtain ⟨P,hP⟩:∃ P:Ending→World→Prop,RetR w [] (integerR (c :: r))=P:=⟨_,rfl⟩
 rw [hP];have HP:=hZz hP;have HCL:=hZz (zbsY (c :: r) v w h);have HLN:Hid ((c :: r).length≤1000000):=hZz ho.1;obtain ⟨b,off,n,cap,rfl,hn,p0,p1,p2,p3⟩:=zanZ h;have hpos:(0:Int)<(n:Int):=by omega
 have HI:Hid (∀ wx,Below w.heap.size w wx→∀ m:Int,inRange m=true→Calls prog 33 #[.int .i64 m] wx (RetR wx [] ([iCel m],0))):=hZz fun wx hb m hm=>by
  have hm2:=hm;simp only [inRange,Bool.and_eq_true,decide_eq_true_eq] at hm2
  have:=cint_any m wx (hp.below hb) (by omega) (by omega)
  rwa [okR_int hm] at this
 have HS:Hid (c.str.size≤200):=hZz (za8Y hck c (by simp));have HPA:Hid (Calls prog 101 #[.string c.str] w fun e w'=>e=.returned (.tuple #[.int .i64 (parseR c.str).1,.int .i64 (parseR c.str).2])∧Below w.heap.size w w'):=hZz (parseE_any c.str w (by have:=HS.out;omega) hse)
 have HPR:Hid ((parseR c.str).2=0→inRange (parseR c.str).1=true):=hZz fun h=>by
  revert h
  unfold parseR;split
  ·simp
  ·split
   ·split
    ·rename_i h2;exact fun _=>h2
    ·simp
   ·simp
 have HU:Hid (integerR (c :: r)=if c.kind=3 then (c :: r,0) else if c.kind=4 then (if (parseR c.str).2=0 then ([iCel (parseR c.str).1],0) else ([⟨1,0,⟨#[]⟩,0⟩],0)) else ([],7)):=hZz rfl;obtain ⟨BR,hBR⟩:∃ t,integerR (c :: r)=t:=⟨_,rfl⟩
 rw [hBR] at HP HU;obtain ⟨k,i,s,nn⟩:=c;dsimp only at p0 p1 p2 p3 HS HPA HPR HU;obtain ⟨⟨pn,pe⟩,hpr⟩:∃ t,parseR s=t:=⟨_,rfl⟩
 rw [hpr] at HPA HPR HU;dsimp only at HPA HPR HU;clear hBR hP h hp hse ho hck hn p1 p3 hpr;by_cases h3:k=3
 ·subst h3
  have HR:Hid (BR=(⟨3,i,s,nn⟩ :: r,0)):=hZz (by rw [HU.out,if_pos rfl]);clear HI HU HPA HPR;go_enter func52,ntmps52
  go_wp2_with (first
   | (go_at_call 72;((with_reducible refine HCL.out.mono ?_);rintro e w1 ⟨u,rfl,ho,hb1⟩;have HO:=hZz ho;have HB1:=hZz hb1;clear ho hb1)))
  rw [← HP.out,HR.out];exact ⟨u,rfl,HO.out.val (by have:=HLN.out;omega),FromC.ownO HO.out (Nat.le_refl _),HB1.out⟩
 have k3:(k == 3)=false:=by simpa using h3
 rw [if_neg h3] at HU;by_cases h4:k=4
 ·subst h4
  rw [if_pos rfl] at HU;by_cases he:pe=0
  ·subst he
   have HR:Hid (BR=([iCel pn],0)):=hZz (by rw [HU.out,if_pos rfl]);have HI':=hZz (fun wx hb=>HI.out wx hb pn (HPR.out rfl));clear HI HU HCL HPR h3;go_enter func52,ntmps52
   go_wp2_with (first
    | (go_at_call 101;((with_reducible refine HPA.out.mono ?_);rintro e w1 ⟨rfl,hb1⟩;have HB1:=hZz hb1;clear hb1))
    | (go_at_call 33;((with_reducible refine (HI'.out _ HB1.out).mono ?_);rintro e w3 ⟨u,rfl,hu,hf,hb3⟩;have HU3:=hZz hu;have HF3:=hZz hf;have HB3:=hZz (zadZ hb3 HB1.out);clear hu hf hb3)))
   rw [← HP.out,HR.out];exact ⟨u,rfl,HU3.out,HF3.out.up HB1.out.size (Below.refl _ _),HB3.out⟩
  ·have he':(pe != 0)=true:=by simpa using he
   have HR:Hid (BR=([⟨1,0,⟨#[]⟩,0⟩],0)):=hZz (by rw [HU.out,if_neg he]);clear HI HU HCL HPR h3 he;go_enter func52,ntmps52
   go_wp2_with (first
    | (go_at_call 101;((with_reducible refine HPA.out.mono ?_);rintro e w1 ⟨rfl,hb1⟩;have HB1:=hZz hb1;clear hb1))
    | (go_at_call 102;((refine (vnull_any _).mono ?_);rintro e1 w2 ⟨rfl,hw2⟩;have HW2:=hZz hw2;clear hw2)))
   rw [← HP.out,HR.out];have hB:Blk w2 w1.heap.size 53 #[.int .i64 1,.int .i64 0,.string ⟨#[]⟩,.int .i64 0]:=by rw [HW2.out];exact Blk.new _ _ _
   refine ⟨_,rfl,zaiY (c:=⟨1,0,⟨#[]⟩,0⟩) hB,FromC.blk hB HB1.out.size,?_⟩
   rw [HW2.out];exact HB1.out.alloc HB1.out.size _
 have k4:(k == 4)=false:=by simpa using h4
 have HR:Hid (BR=([],7)):=hZz (by rw [HU.out,if_neg h4]);clear HI HU HPA HPR h3 h4;go_enter func52,ntmps52
 go_wp2_with (fail)
 rw [← HP.out];exact RetR.err HR.out (Below.refl _ _)
theorem vals_own {w:World} {base n:Nat} {v:Value} {vs:List Value} {l:List ValD} (ho:w.ownsRow base 22 1 v n vs) (hn:n=l.length) (hl:vs.length=l.length) (hv:∀ i (h:i<vs.length) (h':i<l.length),ValV w vs[i] l[i]) (hm:l.length≤5864062014634):ValsV w v l:=by
 subst hn;obtain ⟨A,cap,rfl⟩:=zaeZ ho
 have hc:l.length≤cap:=by
  rcases ho.2 with ⟨e,hn⟩ | ⟨g,cap',cur,e,_,_,h3,_⟩
  ·omega
  ·injection e with _ _ e;omega
 have hsl:SlAt w A 1 (fun x=>[x]) vs:=SlAt.of_own ho (by induction vs with
  | nil=>rfl
  | cons x r ih=>simp) (fun _=>rfl) (by omega)
 refine ⟨A,cap,vs.map (fun x=>[x]),rfl,hc,hm,?_,by simpa using hl,fun i h h'=>?_⟩
 ·unfold SlAt at hsl ⊢
  rw [List.map_map];exact hsl
 ·rw [List.getElem_map]
  exact ⟨_,rfl,hv i (by simpa using h) h'⟩
theorem push_any (c:CellD) (r y:ValD) (v x:Value) (w:World) (h:ValV w v (c :: r)) (hx:ValV w x y) (hp:Pow w) (ho:OkV (c :: r)) (hoy:OkV y) (hck:checkF (c :: r)=0) :
  Calls prog 53 #[v,x] w (RetR w [] (pushR (c :: r) y)):=by
 obtain ⟨P,hP⟩:∃ P:Ending→World→Prop,RetR w [] (pushR (c :: r) y)=P:=⟨_,rfl⟩
 rw [hP];have HP:=hZz hP;obtain ⟨i1,hj,hy0,hy1,hy2⟩:=info_parts Tryz.infoVal;have HPW:=hZz hp;have HX:=hZz hx
 have HIT:Hid (c.kind=5→Calls prog 62 #[v] w (RetL w ((partsOf (c :: r)).map (fun p:ByteArray × ValD=>p.2),0))):=hZz fun hk=>by
  have:=zcsY (c :: r) v w h hp ho
  rwa [za9Y hck (.inl hk)] at this
 have HPL:Hid (c.kind=5→((partsOf (c :: r)).map (fun p:ByteArray × ValD=>p.2)).length≤200):=hZz fun hk=>by
  rw [List.length_map];exact zagY ho hck (.inl hk)
 have HOK:Hid (∀ z∈(partsOf (c :: r)).map (fun p:ByteArray × ValD=>p.2),OkV z):=hZz fun z hz=>by
  obtain ⟨p,hp,rfl⟩:=List.mem_map.1 hz;exact zbmY ho p hp
 have HOY:=hZz hoy;obtain ⟨b,off,n,cap,rfl,hn,p0,p1,p2,p3⟩:=zanZ h;obtain ⟨xA,xn,xk,rfl⟩:=hx.shape;have hpos:(0:Int)<(n:Int):=by omega
 have HU:Hid (pushR (c :: r) y=if c.kind=5 then listR ((partsOf (c :: r)).map (fun p:ByteArray × ValD=>p.2) ++ [y]) else ([],7)):=hZz rfl;obtain ⟨BR,hBR⟩:∃ t,pushR (c :: r) y=t:=⟨_,rfl⟩
 rw [hBR] at HP HU;obtain ⟨ps,hps⟩:∃ t,(partsOf (c :: r)).map (fun p:ByteArray × ValD=>p.2)=t:=⟨_,rfl⟩
 rw [hps] at HU HIT HPL HOK;obtain ⟨k,i,s,nn⟩:=c;dsimp only at p0 p1 p2 p3 HIT HPL HU;clear hBR hP h hp ho hoy hck hn p1 p2 p3 hps hx;by_cases h5:k=5
 ·subst h5
  have HR:Hid (BR=listR (ps ++ [y])):=hZz (by rw [HU.out,if_pos rfl]);have HL:=hZz (HPL.out rfl);have HIT':=hZz (HIT.out rfl);clear HU HPL HIT;obtain ⟨N,hN⟩:∃ N,ps.length=N:=⟨_,rfl⟩
  have HN:=hZz hN;have hn2:N≤200:=by rw [← hN];exact HL.out
  clear hN;go_enter func53,ntmps53
  go_wp2_with (first
   | (go_at_call 62;((with_reducible refine HIT'.out.mono ?_);rintro e w1 ⟨u,rfl,hu,hb1⟩;obtain ⟨vs,hown,hvl,hvt⟩:=hu;obtain ⟨oA,oc,hoe⟩:=zaeZ hown;rw [HN.out] at hoe hown;subst hoe;have HO1:=hZz hown;have HVL:=hZz hvl;have HVT:=hZz hvt;have HB1:=hZz hb1;have hsz:=hb1.size;clear hown hvl hvt hb1))
   | (at_builtin;refine zakZ rfl (.tmp 21) (.tmp 23) 31 rfl i1 _ 24 underlying31 hj hy0 hy1 hy2 rfl (by omega) rfl HO1.out [.slice xA xn xk] rfl rfl (by simp [Value.oneCell']) (by omega) (by omega) hsz ?_;intro v' w3 hown3 hb3 hs3 hg3;obtain ⟨oA3,oc3,hoe3⟩:=zaeZ hown3;subst hoe3;have HO3:=hZz hown3;have HCK:=hZz (CK.own HO1.out (by decide) hg3);have HB3:=hZz (HB1.out.trans hb3);have HLL:=hZz (vlist_any (ps ++ [y]) (.slice oA3 (N+1) oc3) w3 (vals_own HO3.out (by rw [List.length_append,HN.out];rfl) (by rw [List.length_append,List.length_append,HVL.out];rfl) (fun i h h'=>by
     by_cases hi:i<vs.length
     ·rw [List.getElem_append_left hi,List.getElem_append_left (by rw [← HVL.out];exact hi)]
      exact ((HVT.out i hi (by rw [← HVL.out];exact hi)).keep HCK.out).1
     ·have e:i=vs.length:=(by simp at h;omega)
      subst e;rw [List.getElem_append_right (by omega),List.getElem_append_right (by rw [← HVL.out];omega)];simpa [HVL.out] using HX.out.below HB3.out) (by rw [List.length_append,HN.out];simp;omega)) (HPW.out.below HB3.out) (fun z hz=>(List.mem_append.1 hz).elim (HOK.out z) (fun hz=>by have:z=y:=(by simpa using hz);rw [this];exact HOY.out)) (by rw [List.length_append,HN.out];simp;omega));clear hown3 hb3 hs3 hg3)
   | (go_at_call 93;((with_reducible refine HLL.out.mono ?_);rintro e w4 ⟨u4,rfl,hu4,hf4,hb4⟩;have HU4:=hZz hu4;have HF4:=hZz hf4;have HB4:=hZz (zadZ hb4 HB3.out);clear hu4 hf4 hb4)))
  rw [← HP.out,HR.out];exact ⟨u4,rfl,HU4.out,HF4.out.up HB3.out.size (Below.refl _ _),HB4.out⟩
 ·have k5:(k != 5)=true:=by simpa using h5
  have HR:Hid (BR=([],7)):=hZz (by rw [HU.out,if_neg h5]);clear HU HPL HIT h5;go_enter func53,ntmps53
  go_wp2_with (fail)
  rw [← HP.out];exact RetR.err HR.out (Below.refl _ _)
end
end Go.Proofs.YtekdhlfapejijaaGreatDoor
