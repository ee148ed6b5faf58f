/- E17, E18 -/
import Derived.Test.YtekdhlfapejijaaGreatDoorPEL
import Derived.Test.YtekdhlfapejijaaGreatDoorPT6
set_option linter.unusedVariables false
set_option linter.unusedSimpArgs false
namespace Go.Proofs.YtekdhlfapejijaaGreatDoor
open Go.RowKit
set_option maxRecDepth 100000
set_option maxHeartbeats 8000000
attribute [local go_sem] zacZ
open Go.Proofs.Tryz
def ItS (w0 w:World) (g:Nat) (ys:List ValD):Prop:=∃ ov,Blk w g 31 #[ov]∧ValsO w w0.heap.size ov ys∧Below w0.heap.size w0 w∧w0.heap.size≤g
theorem ItS.below {w0 w w':World} {g:Nat} {ys:List ValD} (h:ItS w0 w g ys) (hb:Below w.heap.size w w'):ItS w0 w' g ys:=by
 obtain ⟨ov,h1,h2,h3,h4⟩:=h;exact ⟨ov,h1.below hb,h2.below hb,zaaZ hb h3 h3.size,h4⟩
theorem ValsO.snoc {w w':World} {base:Nat} {v' x:Value} {l:List ValD} {y:ValD} {vs:List Value} (ho:w'.ownsRow base 22 1 v' (l.length+1) (vs ++ [x])) (hk:CK w w') (hx:ValT w' x y) (hvl:vs.length=l.length) (hvt:∀ i (a:i<vs.length) (b:i<l.length),ValT w vs[i] l[i]):ValsO w' base v' (l ++ [y]):=by
 refine ⟨vs ++ [x],by rw [List.length_append];exact ho,by simp [hvl],fun i a b=>?_⟩
 by_cases hi:i<vs.length
 ·rw [List.getElem_append_left hi,List.getElem_append_left (by omega)]
  exact (hvt i hi (by omega)).keep hk
 ·have e:i=vs.length:=by simp at a;omega
  subst e;rw [List.getElem_append_right (by omega),List.getElem_append_right (by omega)];simpa [hvl] using hx
theorem items1_any (key:ByteArray) (x:Value) (y:ValD) (g:Nat) (ys:List ValD) (w0 w:World) (h:ItS w0 w g ys) (hx:ValV w x y) (hn:ys.length≤1000) :
  Calls prog 112 #[.string key,x,.pointer (some ⟨g,0,none⟩)] w fun e w'=>e=.returned (.bool true)∧ItS w0 w' g (ys ++ [y]):=by
 obtain ⟨i1,hj,hy0,hy1,hy2⟩:=info_parts Tryz.infoVal;obtain ⟨P,hP⟩:∃ P:Ending→World→Prop,(fun e w'=>e=.returned (.bool true)∧ItS w0 w' g (ys ++ [y]))=P:=⟨_,rfl⟩
 rw [hP];have HP:=hZz hP;obtain ⟨ov,hg,hov,hbel,hgb⟩:=h;obtain ⟨vs,ho,hvl,hvt⟩:=hov;obtain ⟨oA,ocap,rfl⟩:=zaeZ ho;have hx0:=hx;obtain ⟨xA,xc,rfl,_,hyl,_⟩:=hx.at;have HCL:=hZz (zbsY y _ w.drew hx0);have HG:=hZz hg;have HO:=hZz ho;have o0:=hg.cell 0 _ rfl;clear hP;go_enter func112,ntmps112
 go_upto_region 1 with fail
 obtain ⟨N,hN⟩:∃ n,ys.length=n:=⟨_,rfl⟩
 rw [hN] at HG HO o0;have HN:=hZz hN;have hn2:N≤1000:=by omega
 clear hg ho hx hx0
 go_region_law (first
  | (go_simp;go_at_call 72;(refine HCL.out.mono ?_);rintro e1 w1 ⟨v1,rfl,ho1,hb1⟩;obtain ⟨A1,c1,rfl⟩:=zaeZ (show w1.ownsRow w.drew.heap.size 53 4 v1 y.length _ from ho1);have HV1:=hZz ho1;have HB1:=hZz (zadZ hb1 (zafZ w));have HG1:=hZz (HG.out.below HB1.out);have o1:=HG1.out.cell 0 _ rfl;have HOA:=hZz (zajZ HO.out (zadZ (zabZ w1 (.cells #[.slice A1 y.length c1] 22)) HB1.out));have HGA:=hZz (HG1.out.alloc (.cells #[.slice A1 y.length c1] 22));have hsz:w0.heap.size≤(w1.alloc (.cells #[.slice A1 y.length c1] 22)).heap.size:=Nat.le_trans hbel.size (Nat.le_trans HB1.out.size (by simp));clear ho1 hb1)
  | (rw [if_pos (by rfl)];refine wp_append_lies _ (.tmp 6) (.tmp 9) 31 rfl w0.heap.size 22 i1 _ 1 24 underlying31 hj hy0 hy1 hy2 rfl ?k1 _ N _ rfl HOA.out ⟨w1.heap.size,0,none⟩ 1 1 [.slice A1 y.length c1] rfl rfl (za3Y w1 _ _) ?k2 ?k3 ?k4 ?k5 ?k6 _ rfl ?_;(case k1=>decide);(case k2=>simp [Value.oneCell']);(case k3=>decide);(case k4=>(unfold maxLen;omega));(case k5=>omega);(case k6=>exact hsz);intro g6 cap6 w6 hown6 hgr6 _ _;have HG6:=hZz (HGA.out.grown hgr6 (zagZ HOA.out HGA.out (by decide)));have z6:=HG6.out.frozen 0;have o6:=HG6.out.cell 0 _ rfl;have HO6:=hZz hown6;have HGR:=hZz hgr6;clear hown6 hgr6))
 all_goals
  go_wp2_with (fail)
  rw [← HP.out];have hgS:=zamZ w6 g 0 (.slice (some ⟨g6,0,none⟩) (N+1) cap6);have hckA:CK w (w1.alloc (.cells #[.slice A1 y.length c1] 22)):=CK.of_below (zadZ (zabZ w1 _) HB1.out);have hck6:=CK.own HOA.out (by decide) HGR.out;have hckS:CK w6 (w6.setCell ⟨g,0,none⟩ (.slice (some ⟨g6,0,none⟩) (N+1) cap6)):=CK.blk HG6.out (by decide) hgS;have hx1:ValT w1 (.slice A1 y.length c1) y:=OVal.valT HV1.out hyl;refine ⟨rfl,_,HG6.out.set_ 0 _,?_,?_,hgb⟩
  ·have hv6:ValsO w6 w0.heap.size (.slice (some ⟨g6,0,none⟩) (N+1) cap6) (ys ++ [y]) :=
    ValsO.snoc (vs:=vs) (by rw [HN.out];exact HO6.out) (hckA.trans hck6) ((hx1.below (zabZ w1 _)).keep hck6) hvl hvt
   exact hv6.keep hckS (fun j hj=>hgS.block j (hv6.lt hj).2 (fun e=>(hv6.blk HG6.out (by decide)) (e.symm.trans hj.symm |> fun e=>by first | exact e | exact (hj.trans e.symm).symm)))
  ·have hw1:=zaaZ (zadZ (zabZ w1 (.cells #[.slice A1 y.length c1] 22)) HB1.out) hbel hbel.size
   exact (hw1.grown HGR.out hsz (fun j hj=>(HOA.out.lt j hj).1)).grown hgS (Nat.le_trans hsz HGR.out.size) (fun j hj=>by injection hj with hj;omega)
theorem zc0Y (c:CellD) (r:ValD) (v:Value) (fid:FuncId) (caps:Array Value) (w0 w:World) (h:ValV w0 v (c :: r)) (hw:Below w0.heap.size w0 w) (hp:Pow w0) (ho:OkV (c :: r)) (hck:checkF (c :: r)=0) (hk:c.kind=5∨c.kind=6) (I:Nat→World→Prop) (J:World→Prop)
  (hent:∀ args w,(callFunc fid args).run prog w=.ok (.enter fid args) w) (h0:I 0 w) (hIB:∀ k wx,I k wx→Below w0.heap.size w0 wx) (hst:∀ k wx wy,I k wx→Below wx.heap.size wx wy→I k wy)
  (hy:∀ k wx x (hk:k<(partsOf (c :: r)).length),I k wx→ValV w0 x (partsOf (c :: r))[k].2→Calls prog fid (#[.string (partsOf (c :: r))[k].1,x] ++ caps) wx fun e w'=>∃ b,e=.returned (.bool b)∧(b=true→I (k+1) w')∧(b=false→J w'))
  (hJ:∀ wx,I (partsOf (c :: r)).length wx→J wx) :
  Calls prog 105 #[v,.func (.func fid) #[] caps] w fun e w'=>e=.returned (.tuple #[])∧J w':=by
 rcases hk with hk | hk
 ·exact parts5_any c r v fid caps w0 w h hw hp ho hck hk I J hent h0 hIB hst hy hJ
 ·exact parts6_any c r v fid caps w0 w h hw hp ho hck hk I J hent h0 hIB hst hy hJ
theorem parts_any (c:CellD) (r:ValD) (v:Value) (fid:FuncId) (caps:Array Value) (w0 w:World) (h:ValV w0 v (c :: r)) (hw:Below w0.heap.size w0 w) (hp:Pow w0) (ho:OkV (c :: r)) (hck:checkF (c :: r)=0) (hk:c.kind=5∨c.kind=6) (I:Nat→World→Prop) (J:World→Prop)
  (hent:∀ args w,(callFunc fid args).run prog w=.ok (.enter fid args) w) (h0:I 0 w) (hIB:∀ k wx,I k wx→Below w0.heap.size w0 wx) (hst:∀ k wx wy,I k wx→Below wx.heap.size wx wy→I k wy)
  (hy:∀ k wx x (hk:k<(partsOf (c :: r)).length),I k wx→ValV wx x (partsOf (c :: r))[k].2→Calls prog fid (#[.string (partsOf (c :: r))[k].1,x] ++ caps) wx fun e w'=>∃ b,e=.returned (.bool b)∧(b=true→I (k+1) w')∧(b=false→J w'))
  (hJ:∀ wx,I (partsOf (c :: r)).length wx→J wx) :
  Calls prog 105 #[v,.func (.func fid) #[] caps] w fun e w'=>e=.returned (.tuple #[])∧J w' :=
 zc0Y c r v fid caps w0 w h hw hp ho hck hk I J hent h0 hIB hst (fun k wx x hk' hi hx=>hy k wx x hk' hi (hx.below (hIB k wx hi))) hJ
theorem zagY {c:CellD} {r:ValD} (ho:OkV (c :: r)) (hck:checkF (c :: r)=0) (hk:c.kind=5∨c.kind=6):(partsOf (c :: r)).length≤200:=by
 obtain ⟨_,_,hch,_⟩:=zacY hck (fun x hx=>zabY (ho.2 x hx)) (c:=c) rfl hk
 have:=hch.len
 have:=len200 hck
 omega
def itemsR (l:ValD):List ValD × Int:=if checkF l≠0 then ([],checkF l) else match l with
 | []=>([],7)
 | c :: r=>if c.kind=5∨c.kind=6 then ((partsOf (c :: r)).map (fun p:ByteArray × ValD=>p.2),0) else ([],7)
def RetL (w:World) (r:List ValD × Int) (e:Ending) (w':World):Prop:=∃ ov,e=.returned (.tuple #[ov,.int .i64 r.2])∧ValsO w' w.heap.size ov r.1∧Below w.heap.size w w'
theorem zcsY (l:ValD) (v:Value) (w:World) (h:ValV w v l) (hp:Pow w) (ho:OkV l) :
  Calls prog 62 #[v] w (RetL w (itemsR l)):=by
 obtain ⟨P,hP⟩:∃ P:Ending→World→Prop,RetL w (itemsR l)=P:=⟨_,rfl⟩
 rw [hP];have HP:=hZz hP;have HV:=hZz h
 have hck0:Calls prog 79 #[v] w fun e w'=>e=.returned (.int .i64 (checkF l))∧Below w.heap.size w w':=by
  obtain ⟨A,cap,rfl,hc,hm,hs⟩:=h.at;exact zbeY l A cap w hs hp ho.1 hc ho.2
 have HCK:=hZz hck0;clear hck0;by_cases hck:checkF l=0
 case neg =>
  have HR:Hid (itemsR l=([],checkF l)):=hZz (by unfold itemsR;rw [if_pos hck]);obtain ⟨ck,hc⟩:∃ c,checkF l=c:=⟨_,rfl⟩
  rw [hc] at HCK HR hck;have hck':(ck != 0)=true:=by simpa using hck
  clear hck h hp ho hP hc;go_enter func62,ntmps62
  go_wp2_with (first
   | (go_at_call 79;((with_reducible refine HCK.out.mono ?_);rintro e w1 ⟨rfl,hb1⟩;have HB1:=hZz hb1;clear hb1)))
  rw [← HP.out,HR.out];exact ⟨.slice none 0 0,rfl,ValsO.nil _ _,HB1.out⟩
 obtain ⟨c,r,rfl⟩:∃ c r,l=c :: r:=by
  cases l with
  | nil=>exact absurd rfl (zaoZ hck)
  | cons c r=>exact ⟨c,r,rfl⟩
 have HR:Hid (itemsR (c :: r)=if c.kind=5∨c.kind=6 then ((partsOf (c :: r)).map (fun p:ByteArray × ValD=>p.2),0) else ([],7)):=hZz (by unfold itemsR;rw [if_neg (by simpa using hck)]);rw [hck] at HCK;obtain ⟨b,off,n,cap,rfl,hn,c0,c1,c2,c3⟩:=zanZ h;have HC0:=hZz c0;have hpos:(0:Int)<(n:Int):=by omega
 clear hn;by_cases hk:c.kind=5∨c.kind=6
 ·have HR2:Hid (itemsR (c :: r)=((partsOf (c :: r)).map (fun p:ByteArray × ValD=>p.2),0)):=hZz (by rw [HR.out,if_pos hk])
  have HPT:Hid (∀ wx g,Below w.heap.size w wx→w.heap.size≤g→Blk wx g 31 #[.slice none 0 0]→Calls prog 105 #[.slice (some ⟨b,off,none⟩) n cap,.func (.func 112) #[] #[.pointer (some ⟨g,0,none⟩)]] wx fun e w'=>e=.returned (.tuple #[])∧ItS w w' g ((partsOf (c :: r)).map (fun p:ByteArray × ValD=>p.2))):=hZz fun wx g hb hg hB=>by
   refine parts_any c r _ 112 #[.pointer (some ⟨g,0,none⟩)] w wx h hb hp ho hck hk (fun k wy=>ItS w wy g (((partsOf (c :: r)).take k).map (fun p:ByteArray × ValD=>p.2))) (fun wy=>ItS w wy g ((partsOf (c :: r)).map (fun p:ByteArray × ValD=>p.2))) (enters_of func112 (by kernel_rfl) rfl) ?_ (fun k wy hi=>?_) (fun k wy wz hi hbz=>hi.below hbz) (fun k wy x hk' hi hx=>?_) (fun wy hi=>?_)
   ·exact ⟨_,hB,by rw [List.take_zero];exact ValsO.nil _ _,hb,hg⟩
   ·obtain ⟨ov,_,_,h3,_⟩:=hi
    exact h3
   ·refine (items1_any _ x _ g _ w wy hi hx (by rw [List.length_map,List.length_take];have:=zagY ho hck hk;omega)).mono fun e w' ⟨he,hi'⟩=>⟨true,he,fun _=>?_,fun e=>by cases e⟩
    rw [List.take_succ_eq_append_getElem hk',List.map_append];exact hi'
   ·rw [List.take_length] at hi
    exact hi
  obtain ⟨ys,hys⟩:∃ ys,(partsOf (c :: r)).map (fun p:ByteArray × ValD=>p.2)=ys:=⟨_,rfl⟩
  rw [hys] at HPT HR2;clear hys;obtain ⟨k,i,s,nn⟩:=c;dsimp only at hk HC0;clear hck h hp ho hP c0 c1 c2 c3 HR;rcases hk with hk | hk
  all_goals
   subst hk;go_enter func62,ntmps62
   go_wp2_with (first
    | (go_at_call 79;((with_reducible refine HCK.out.mono ?_);rintro e w1 ⟨rfl,hb1⟩;have HB1:=hZz hb1;have g0:=(hb1.cell (p:=⟨b,off,none⟩) (bLZ HC0.out)).trans HC0.out;clear hb1))
    | (go_at_call 105;((refine Calls.mono (HPT.out _ _ (HB1.out.alloc HB1.out.size _) HB1.out.size (Blk.new _ _ _)) ?_);rintro e w2 ⟨rfl,hi⟩;obtain ⟨ov,hg2,hov2,hb2,_⟩:=hi;obtain ⟨oA,oc,hoe⟩:=hov2.shape;subst hoe;have HO2:=hZz hov2;have HB2:=hZz hb2;have z0:=hg2.cell 0 _ rfl;clear hg2 hov2 hb2)))
   rw [← HP.out,HR2.out];exact ⟨_,rfl,HO2.out,HB2.out⟩
 ·have HR2:Hid (itemsR (c :: r)=([],7)):=hZz (by rw [HR.out,if_neg hk])
  obtain ⟨k,i,s,nn⟩:=c;dsimp only at hk HC0;have h5:(k != 5)=true:=by simp;omega
  have h6:(k != 6)=true:=by simp;omega
  clear hck h hp ho hP c0 c1 c2 c3 HR hk;go_enter func62,ntmps62
  go_wp2_with (first
   | (go_at_call 79;((with_reducible refine HCK.out.mono ?_);rintro e w1 ⟨rfl,hb1⟩;have HB1:=hZz hb1;have g0:=(hb1.cell (p:=⟨b,off,none⟩) (bLZ HC0.out)).trans HC0.out;clear hb1)))
  rw [← HP.out,HR2.out];exact ⟨.slice none 0 0,rfl,ValsO.nil _ _,HB1.out⟩
end Go.Proofs.YtekdhlfapejijaaGreatDoor
