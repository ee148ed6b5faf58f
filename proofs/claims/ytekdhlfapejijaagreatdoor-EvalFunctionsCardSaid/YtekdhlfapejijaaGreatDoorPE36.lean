/- E31, E32, E33, E34, E35, E36 -/
import Derived.Test.YtekdhlfapejijaaGreatDoorPE30
set_option linter.unusedVariables false
set_option linter.unusedSimpArgs false
namespace Go.Proofs.YtekdhlfapejijaaGreatDoor
open Go.RowKit
set_option maxRecDepth 100000
set_option maxHeartbeats 8000000
open Go.Proofs.Tryz
section
theorem Tryz.infoStrE:(prog.info? 9).map (fun i=>(i.zero,i.size,i.bytes))=some (some (.string ByteArray.empty),1,16):=by kernel_rfl
def KeS (w0 w:World) (g:Nat) (ks:List ByteArray):Prop:=∃ ov,Blk w g 68 #[ov]∧w.ownsRow w0.heap.size 9 1 ov ks.length (ks.map Value.string)∧Below w0.heap.size w0 w∧w0.heap.size≤g
theorem KeS.below {w0 w w':World} {g:Nat} {ks:List ByteArray} (h:KeS w0 w g ks) (hb:Below w.heap.size w w'):KeS w0 w' g ks:=by
 obtain ⟨ov,h1,h2,h3,h4⟩:=h;exact ⟨ov,h1.below hb,zajZ h2 hb,zaaZ hb h3 h3.size,h4⟩
attribute [local go_sem] zacZ
theorem keys1_any (key:ByteArray) (x:Value) (g:Nat) (ks:List ByteArray) (w0 w:World) (h:KeS w0 w g ks) (hn:ks.length≤1000) :
  Calls prog 155 #[.string key,x,.pointer (some ⟨g,0,none⟩)] w fun e w'=>e=.returned (.bool true)∧KeS w0 w' g (ks ++ [key]):=by
 obtain ⟨i1,hj,hy0,hy1,hy2⟩:=info_parts Tryz.infoStrE;obtain ⟨P,hP⟩:∃ P:Ending→World→Prop,(fun e w'=>e=.returned (.bool true)∧KeS w0 w' g (ks ++ [key]))=P:=⟨_,rfl⟩
 rw [hP];have HP:=hZz hP;obtain ⟨ov,hg,ho,hbel,hgb⟩:=h;obtain ⟨oA,ocap,rfl⟩:=zaeZ ho;have HG:=hZz hg;have HO:=hZz ho;have HBL:=hZz hbel;have HGB:=hZz hgb;have hsz:=hbel.size;have o0:=hg.cell 0 _ rfl;have z0:=hg.frozen 0;obtain ⟨N,hN⟩:∃ n,ks.length=n:=⟨_,rfl⟩
 rw [hN] at HG HO o0;have HN:=hZz hN;have hn2:N≤1000:=by omega
 clear hg ho hbel hgb hP hn hN;go_enter func155,ntmps155
 go_wp2_with (first
  | (at_builtin;refine zakZ rfl (.tmp 6) (.tmp 8) 68 rfl i1 _ 16 underlying68 hj hy0 hy1 hy2 rfl (by omega) rfl HO.out [.string key] rfl rfl (by simp [Value.oneCell']) (by omega) (by omega) hsz ?_;intro v' w3 hown3 hb3 hs3 hg3;obtain ⟨oA3,oc3,hoe3⟩:=zaeZ hown3;subst hoe3;have HO3:=hZz hown3;have HB3:=hZz (HBL.out.trans hb3);have HG3:=hZz (HG.out.grown hg3 (zagZ HO.out HG.out (by decide)));have z3:=HG3.out.frozen 0;have o3:=HG3.out.cell 0 _ rfl;clear hown3 hb3 hs3 hg3))
 rw [← HP.out];have hgS:=zamZ w3 g 0 (.slice oA3 (N+1) oc3);refine ⟨rfl,_,HG3.out.set_ 0 _,?_,HB3.out.grown hgS HB3.out.size (fun j hj=>by injection hj with hj;have:=HGB.out;omega),HGB.out⟩
 rw [List.length_append,HN.out,List.map_append];exact World.ownsRow.kept HO3.out (row:=some g) hgS (.inr (fun e=>zagZ HO3.out HG3.out (by decide) e.symm))
def keysOf (l:ValD):List ByteArray × Int:=if checkF l≠0 then ([],checkF l) else match l with
 | []=>([],7)
 | c :: r=>if c.kind=6 then ((partsOf (c :: r)).map (fun p:ByteArray × ValD=>p.1),0) else ([],7)
def RetK (w:World) (r:List ByteArray × Int) (e:Ending) (w':World):Prop:=∃ ov,e=.returned (.tuple #[ov,.int .i64 r.2])∧w'.ownsRow w.heap.size 9 1 ov r.1.length (r.1.map Value.string)∧Below w.heap.size w w'
theorem vkeys_any (l:ValD) (v:Value) (w:World) (h:ValV w v l) (hp:Pow w) (ho:OkV l) :
  Calls prog 103 #[v] w (RetK w (keysOf l)):=by
 obtain ⟨P,hP⟩:∃ P:Ending→World→Prop,RetK w (keysOf l)=P:=⟨_,rfl⟩
 rw [hP];have HP:=hZz hP;have HCK:=hZz (za6Y l v w h hp ho);by_cases hck:checkF l=0
 case neg =>
  have HR:Hid (keysOf l=([],checkF l)):=hZz (by unfold keysOf;rw [if_pos hck]);obtain ⟨ck,hc⟩:∃ c,checkF l=c:=⟨_,rfl⟩
  rw [hc] at HCK HR hck;have hck':(ck != 0)=true:=by simpa using hck
  clear hck h hp ho hP hc;go_enter func103,ntmps103
  go_wp2_with (first
   | (go_at_call 79;((with_reducible refine HCK.out.mono ?_);rintro e w1 ⟨rfl,hb1⟩;have HB1:=hZz hb1;clear hb1)))
  rw [← HP.out,HR.out];exact ⟨.slice none 0 0,rfl,World.ownsRow_nil _ _ _ _,HB1.out⟩
 obtain ⟨c,r,rfl⟩:∃ c r,l=c :: r:=by
  cases l with
  | nil=>exact absurd rfl (zaoZ hck)
  | cons c r=>exact ⟨c,r,rfl⟩
 have HR:Hid (keysOf (c :: r)=if c.kind=6 then ((partsOf (c :: r)).map (fun p:ByteArray × ValD=>p.1),0) else ([],7)):=hZz (by unfold keysOf;rw [if_neg (by simpa using hck)]);rw [hck] at HCK;obtain ⟨b,off,n,cap,rfl,hn,c0,c1,c2,c3⟩:=zanZ h;have HC0:=hZz c0;have hpos:(0:Int)<(n:Int):=by omega
 clear hn;by_cases hk:c.kind=6
 ·have HR2:Hid (keysOf (c :: r)=((partsOf (c :: r)).map (fun p:ByteArray × ValD=>p.1),0)):=hZz (by rw [HR.out,if_pos hk])
  have HPT:Hid (∀ wx,Below w.heap.size w wx→Calls prog 105 #[.slice (some ⟨b,off,none⟩) n cap,.func (.func 155) #[] #[.pointer (some ⟨wx.heap.size,0,none⟩)]] (wx.alloc (.cells #[.slice none 0 0] 68)) fun e w'=>e=.returned (.tuple #[])∧KeS w w' wx.heap.size ((partsOf (c :: r)).map (fun p:ByteArray × ValD=>p.1))):=hZz fun wx hb=>by
   refine parts_any c r _ 155 #[.pointer (some ⟨wx.heap.size,0,none⟩)] w _ h (hb.alloc hb.size _) hp ho hck (.inr hk) (fun k wy=>KeS w wy wx.heap.size (((partsOf (c :: r)).take k).map (fun p:ByteArray × ValD=>p.1))) (fun wy=>KeS w wy wx.heap.size ((partsOf (c :: r)).map (fun p:ByteArray × ValD=>p.1))) (enters_of func155 (by kernel_rfl) rfl) ?_ (fun k wy hi=>?_) (fun k wy wz hi hbz=>hi.below hbz) (fun k wy x hk' hi hx=>?_) (fun wy hi=>?_)
   ·exact ⟨_,Blk.new _ _ _,by rw [List.take_zero];exact World.ownsRow_nil _ _ _ _,hb.alloc hb.size _,hb.size⟩
   ·obtain ⟨ov,_,_,h3,_⟩:=hi
    exact h3
   ·refine (keys1_any _ x _ _ w wy hi (by rw [List.length_map,List.length_take];have:=zagY ho hck (.inr hk);omega)).mono fun e w' ⟨he,hi'⟩=>⟨true,he,fun _=>?_,fun e=>by cases e⟩
    rw [List.take_succ_eq_append_getElem hk',List.map_append];exact hi'
   ·rw [List.take_length] at hi
    exact hi
  obtain ⟨ks,hks⟩:∃ ks,(partsOf (c :: r)).map (fun p:ByteArray × ValD=>p.1)=ks:=⟨_,rfl⟩
  rw [hks] at HPT HR2;clear hks;obtain ⟨k,i,s,nn⟩:=c;dsimp only at hk HC0;clear hck h hp ho hP c0 c1 c2 c3 HR;subst hk;go_enter func103,ntmps103
  go_wp2_with (first
   | (go_at_call 79;((with_reducible refine HCK.out.mono ?_);rintro e w1 ⟨rfl,hb1⟩;have HB1:=hZz hb1;have g0:=(hb1.cell (p:=⟨b,off,none⟩) (bLZ HC0.out)).trans HC0.out;have HPT1:=hZz (HPT.out w1 hb1);clear hb1))
   | (go_at_call 105;((with_reducible refine HPT1.out.mono ?_);rintro e w2 ⟨rfl,hi⟩;obtain ⟨ov,hg2,hov2,hb2,_⟩:=hi;obtain ⟨oA,oc,hoe⟩:=zaeZ hov2;subst hoe;have HO2:=hZz hov2;have HB2:=hZz hb2;have z0:=hg2.cell 0 _ rfl;clear hg2 hov2 hb2)))
  rw [← HP.out,HR2.out];exact ⟨_,rfl,HO2.out,HB2.out⟩
 ·have HR2:Hid (keysOf (c :: r)=([],7)):=hZz (by rw [HR.out,if_neg hk])
  obtain ⟨k,i,s,nn⟩:=c;dsimp only at hk HC0;have h6:(k != 6)=true:=by simpa using hk
  clear hck h hp ho hP c0 c1 c2 c3 HR hk;go_enter func103,ntmps103
  go_wp2_with (first
   | (go_at_call 79;((with_reducible refine HCK.out.mono ?_);rintro e w1 ⟨rfl,hb1⟩;have HB1:=hZz hb1;have g0:=(hb1.cell (p:=⟨b,off,none⟩) (bLZ HC0.out)).trans HC0.out;clear hb1)))
  rw [← HP.out,HR2.out];exact ⟨.slice none 0 0,rfl,World.ownsRow_nil _ _ _ _,HB1.out⟩
end
section
def keysR (v:ValD):ResD:=match v with
 | []=>([],7)
 | c :: r=>if c.kind=6 then listR ((partsOf (c :: r)).map fun p:ByteArray × ValD=>[sCel p.1]) else ([],7)
theorem zcjY {c:CellD} {r:ValD} (ho:OkV (c :: r)) (hck:checkF (c :: r)=0) (hk:c.kind=6):∀ p∈partsOf (c :: r),p.1.size≤200:=by
 obtain ⟨h1,_⟩:=zcpY hck (fun x hx=>zabY (ho.2 x hx)) rfl hk;intro p hp
 have:sCel p.1∈r:=by
  rw [← h1];exact List.mem_flatMap.2 ⟨p,hp,by simp⟩
 exact za8Y hck (sCel p.1) (List.mem_cons_of_mem _ this)
theorem okR_cases (s:ByteArray):(checkF [sCel s]=0∧okR [sCel s]=([sCel s],0))∨(checkF [sCel s]≠0∧okR [sCel s]=([],checkF [sCel s])):=by
 unfold okR;by_cases h:checkF [sCel s]=0
 ·exact .inl ⟨h,if_pos h⟩
 ·exact .inr ⟨h,if_neg h⟩
attribute [local go_sem] zacZ
theorem bkeys_any (c:CellD) (r:ValD) (v:Value) (w:World) (h:ValV w v (c :: r)) (hp:Pow w) (ho:OkV (c :: r)) (hck:checkF (c :: r)=0) :
  Calls prog 54 #[v] w (RetR w [] (keysR (c :: r))):=by
 obtain ⟨P,hP⟩:∃ P:Ending→World→Prop,RetR w [] (keysR (c :: r))=P:=⟨_,rfl⟩
 rw [hP];have HP:=hZz hP;obtain ⟨i1,hj,hy0,hy1,hy2⟩:=info_parts Tryz.infoVal;have hkeys:=vkeys_any (c :: r) v w h hp ho;have HU:Hid (keysR (c :: r)=if c.kind=6 then listR ((partsOf (c :: r)).map fun p:ByteArray × ValD=>[sCel p.1]) else ([],7)):=hZz rfl;by_cases hk:c.kind=6
 case neg =>
  have HR:Hid (keysR (c :: r)=([],7)):=hZz (by rw [HU.out,if_neg hk]);have e1:keysOf (c :: r)=([],7):=by unfold keysOf;rw [if_neg (by simpa using hck)];simp only;rw [if_neg hk]
  rw [e1] at hkeys;have HK:=hZz hkeys;clear hk hkeys e1 HU hP h hp ho hck;go_enter func54,ntmps54
  go_wp2_with (first
   | (go_at_call 103;((with_reducible refine HK.out.mono ?_);rintro e w1 ⟨ov,rfl,hov,hb1⟩;have HB1:=hZz hb1;clear hov hb1)))
  rw [← HP.out];exact RetR.err HR.out HB1.out
 have e1:keysOf (c :: r)=((partsOf (c :: r)).map (fun p:ByteArray × ValD=>p.1),0):=by unfold keysOf;rw [if_neg (by simpa using hck)];simp only;rw [if_pos hk]
 rw [e1] at hkeys;have hsz:=zcjY ho hck hk;have hpl:=zagY ho hck (.inr hk);have HR:Hid (keysR (c :: r)=listR (((partsOf (c :: r)).map (fun p:ByteArray × ValD=>p.1)).map fun s=>[sCel s])):=hZz (by rw [HU.out,if_pos hk,List.map_map];rfl)
 have HSZ:Hid (∀ s∈(partsOf (c :: r)).map (fun p:ByteArray × ValD=>p.1),s.size≤200):=hZz fun s hs=>by
  obtain ⟨p,hp',rfl⟩:=List.mem_map.1 hs;exact hsz p hp'
 have hkl:((partsOf (c :: r)).map (fun p:ByteArray × ValD=>p.1)).length≤200:=by rw [List.length_map];exact hpl
 obtain ⟨ks,hks⟩:∃ ks,(partsOf (c :: r)).map (fun p:ByteArray × ValD=>p.1)=ks:=⟨_,rfl⟩
 rw [hks] at hkeys HR HSZ hkl;have HK:=hZz hkeys;have HPW:=hZz hp;obtain ⟨BR,hBR⟩:∃ t,keysR (c :: r)=t:=⟨_,rfl⟩
 rw [hBR] at HP HR;obtain ⟨N,hN⟩:∃ N,ks.length=N:=⟨_,rfl⟩
 have HN:=hZz hN;rw [hN] at hkl;have hnn:(N:Int)≤200:=by omega
 clear hkeys hks hsz hpl hBR hP h hp ho hck e1 HU hN hk;go_enter func54,ntmps54
 go_wp2_with (first
  | (go_at_call 103;((with_reducible refine HK.out.mono ?_);rintro e w1 ⟨ov,rfl,hov,hb1⟩;obtain ⟨oA,oc,hoe⟩:=zaeZ hov;rw [show (ks,(0:Int)).1.length=N from HN.out] at hoe hov;subst hoe;have HOV:Hid (w1.ownsRow w.heap.size 9 1 (.slice oA N oc) N (ks.map Value.string)):=hZz hov;have HB1:=hZz hb1;clear hov hb1)))
 go_loopw [6,8,9,10,21] (fun o _ _ _ i wr=>∃ k:Nat,k≤N∧i=.int .i64 k∧Hid (∀ x∈(ks.map fun s=>[sCel s]).take k,checkF x=0)∧ValsO wr w1.heap.size o ((ks.map fun s=>[sCel s]).take k)∧Below w1.heap.size w1 wr) (fun _ _ _ _ i _=>N - (intOf i).toNat)
 case atStart=>exact ⟨0,Nat.zero_le _,rfl,hZz (by simp),ValsO.nil _ _,Below.refl _ _⟩
 case round =>
  obtain ⟨k,hk,rfl,HC,hown,hbel⟩:=hrel;have HB:=hZz hbel;obtain ⟨vs,ho1,hvl,hvt⟩:=hown;have hlk0:((ks.map fun s=>[sCel s]).take k).length=k:=by rw [List.length_take,List.length_map,HN.out];omega
  rw [hlk0] at ho1 hvl;obtain ⟨lA,lc,hle⟩:=zaeZ ho1;subst hle;have HO:=hZz ho1;have HVL:=hZz hvl;have HVT:=hZz hvt;have HLK:=hZz hlk0;clear hbel ho1 hvl hvt hlk0;have hk0:(0:Int)≤(k:Int):=by omega
  by_cases hlt:k<N
  ·have hlt':(k:Int)<(N:Int):=by omega
   have hlk:k<ks.length:=by rw [HN.out];exact hlt
   obtain ⟨gg,gc,hgg,_,_⟩:=HOV.out.form (by omega);injection hgg with hg1 hg2 hg3
   subst hg1 hg3;have hcj:=HOV.out.cells (g:=gg) rfl k (.string ks[k]) (by rw [List.getElem?_map,List.getElem?_eq_getElem hlk];rfl);rw [zanY,Nat.zero_add] at hcj;have hcj':=(HB.out.cell (bLZ hcj)).trans hcj;obtain ⟨s,hs⟩:∃ s,ks[k]=s:=⟨_,rfl⟩
   rw [hs] at hcj';have HS:=hZz hs;have HST:=hZz ((cstr_any s wr ((HPW.out.below HB1.out).below HB.out) (by have:=HSZ.out s (by rw [← hs];exact List.getElem_mem hlk);omega)).mono fun e w' h=>RetR.t h);clear hcj hs;rcases okR_cases s with ⟨h0,h1⟩ | ⟨h0,h1⟩
   ·rw [h1] at HST
    have HCK:=hZz h0;have hbs:w1.heap.size≤wr.heap.size:=HB.out.size;clear h0 h1
    go_wp2_with (first
     | (go_at_call 92;((with_reducible refine HST.out.mono ?_);rintro e w3 ⟨u,rfl,hu,hb3⟩;obtain ⟨uA,un,uk,hue⟩:=hu.shape;subst hue;have HU3:=hZz hu;have HB3:=hZz (zaaZ hb3 HB.out HB.out.size);have HO3:=hZz (zajZ HO.out hb3);have HCK3:=hZz (CK.of_below hb3);have hsz3:=HB3.out.size;clear hu hb3))
     | (at_builtin;refine zakZ rfl (.tmp 33) (.tmp 35) 31 rfl i1 _ 24 underlying31 hj hy0 hy1 hy2 rfl (by omega) rfl HO3.out [.slice uA un uk] rfl rfl (by simp [Value.oneCell']) (by omega) (by omega) hsz3 ?_;intro v' w4 hown4 hb4 hs4 hg4;have HO4:=hZz hown4;have HCK4:=hZz (CK.own HO3.out (by decide) hg4);have HB4:=hZz (HB3.out.trans hb4);clear hown4 hb4 hs4 hg4))
    have hlm:k<(ks.map fun s=>[sCel s]).length:=by rw [List.length_map];exact hlk
    have hxk:(ks.map fun s=>[sCel s])[k]=[sCel s]:=by rw [List.getElem_map,HS.out]
    refine ⟨⟨k+1,by omega,by simp,hZz (by
     rw [List.take_succ_eq_append_getElem hlm];intro x hx;rcases List.mem_append.1 hx with hx | hx
     ·exact HC.out x hx
     ·have:x=[sCel s]:=by simpa [hxk] using hx
      rw [this];exact HCK.out),?_,HB4.out⟩,by simp [intOf];omega⟩
    rw [List.take_succ_eq_append_getElem hlm,hxk];refine ValsO.snoc (vs:=vs) (by rw [HLK.out];exact HO4.out) HCK4.out (HU3.out.keep HCK4.out) (by rw [HVL.out,HLK.out]) (fun i a b=>(HVT.out i a b).keep HCK3.out)
   ·obtain ⟨ck,hc⟩:∃ c,checkF [sCel s]=c:=⟨_,rfl⟩
    rw [h1] at HST;rw [hc] at HST h0;have HCK:=hZz hc;have h0':(ck != 0)=true:=by simpa using h0
    clear h0 h1 hc
    go_wp2_with (first
     | (go_at_call 92;((with_reducible refine HST.out.mono ?_);rintro e w3 ⟨u,rfl,hu,hb3⟩;have HB3:=hZz (zaaZ hb3 HB.out HB.out.size);clear hu hb3)))
    rw [← HP.out];have hlm:k<(ks.map fun s=>[sCel s]).length:=by rw [List.length_map];exact hlk
    have hxk:(ks.map fun s=>[sCel s])[k]=[sCel s]:=by rw [List.getElem_map,HS.out]
    have hfb:BR=([],ck):=by
     have e1:=za5Y _ k hlm HC.out (by rw [hxk,HCK.out];simpa using h0');rw [HR.out];unfold listR;rw [e1,hxk,HCK.out,if_pos (by simpa using h0')]
    exact RetR.err hfb (zaaZ HB3.out HB1.out HB1.out.size)
  ·have e:k=N:=by omega
   subst e;have hz:(ks.map fun s=>[sCel s]).take k=ks.map fun s=>[sCel s]:=by rw [List.take_of_length_le (by rw [List.length_map,HN.out];exact Nat.le_refl _)]
   have hvo:ValsO wr w1.heap.size (.slice lA k lc) (ks.map fun s=>[sCel s]):=by
    refine ⟨vs,by rw [List.length_map,HN.out];exact HO.out,by rw [HVL.out,List.length_map,HN.out],fun i a b=>?_⟩
    have:=HVT.out i a (by rw [HLK.out,← HVL.out];exact a)
    simpa using this
   have HLL:=hZz (vlist_any (ks.map fun s=>[sCel s]) (.slice lA k lc) wr (hvo.vals (by rw [List.length_map,HN.out];omega)) ((HPW.out.below HB1.out).below HB.out) (fun z hz=>by
    obtain ⟨s,hs,rfl⟩:=List.mem_map.1 hz;exact (okV_s (by have:=HSZ.out s hs;omega)).out) (by rw [List.length_map,HN.out];omega))
   clear hz hvo
   go_wp2_with (first
    | (go_at_call 93;((with_reducible refine HLL.out.mono ?_);rintro e w4 ⟨u4,rfl,hu4,hf4,hb4⟩;have HU4:=hZz hu4;have HF4:=hZz hf4;have HB4:=hZz (zaaZ hb4 HB.out HB.out.size);clear hu4 hf4 hb4)))
   rw [← HP.out,HR.out];exact ⟨u4,rfl,HU4.out,HF4.out.up (Nat.le_trans HB1.out.size HB.out.size) (Below.refl _ _),zaaZ HB4.out HB1.out HB1.out.size⟩
end
section
theorem own_set {w:World} {base n size g cap:Nat} {e:TypeId} {xs:List Value} (h:w.ownsRow base e size (.slice (some ⟨g,0,none⟩) n cap) n xs) (j:Nat) (u:Value) :
  (w.setCell ⟨g,j,none⟩ u).ownsRow base e size (.slice (some ⟨g,0,none⟩) n cap) n (xs.set j u):=by
 obtain ⟨h1,h2⟩:=h;refine ⟨by rw [List.length_set];exact h1,?_⟩
 rcases h2 with ⟨e,_⟩ | ⟨g',cap',cur,e,hb,hh,hc1,hc2,hc3,hc4⟩
 ·cases e
 ·injection e with e1 e2 e3
  injection e1 with e1
  injection e1 with e1
  subst e1 e3;refine .inr ⟨g,cap,cur.setIfInBounds j u,rfl,hb,?_,hc1,hc2,by simpa using hc3,?_⟩
  ·simp [World.setCell,Array.getElem?_modify,hh]
  ·rw [← hc4,Array.toList_setIfInBounds,List.take_set]
def AddS (w0 w:World) (g:Nat) (N:Int) (ps:List (ByteArray × ValD)):Prop:=∃ ov,Blk w g 22 #[ov]∧OVal w w0.heap.size ov (mapM N ps)∧Below w0.heap.size w0 w∧w0.heap.size≤g
theorem AddS.below {w0 w w':World} {g:Nat} {N:Int} {ps:List (ByteArray × ValD)} (h:AddS w0 w g N ps) (hb:Below w.heap.size w w'):AddS w0 w' g N ps:=by
 obtain ⟨ov,h1,h2,h3,h4⟩:=h;exact ⟨ov,h1.below hb,zajZ h2 hb,zaaZ hb h3 h3.size,h4⟩
def KB (g:Nat) (w w':World):Prop:=∀ g' t cs,t≠53→g'≠g→Blk w g' t cs→Blk w' g' t cs
theorem KB.trans {g:Nat} {w w1 w2:World} (h:KB g w w1) (h':KB g w1 w2):KB g w w2:=fun g' t cs a b c=>h' g' t cs a b (h g' t cs a b c)
theorem KB.own {g base n size:Nat} {w w':World} {v:Value} {xs:List Value} (ho:w.ownsRow base 53 size v n xs) (hg:w.grownBy w' v.ownBlock):KB g w w':=fun g' t cs a b c=>c.grown hg (zagZ ho c (fun e=>a e.symm))
theorem KB.set (w:World) (g i:Nat) (u:Value):KB g w (w.setCell ⟨g,i,none⟩ u):=fun g' t cs a b c=>c.grown (zamZ w g i u) (by simpa using b)
theorem mapM_set (N M:Int) (ps:List (ByteArray × ValD)):((mapM N ps).flatMap CellD.cells).set 3 (.int .i64 M)=(mapM M ps).flatMap CellD.cells:=by
 unfold mapM;simp [CellD.cells]
theorem mapM_len' (N M:Int) (ps:List (ByteArray × ValD)):(mapM N ps).length=(mapM M ps).length:=by simp [mapM]
attribute [local go_sem] zacZ
theorem put1_any (k:ByteArray) (x:Value) (y:ValD) (g:Nat) (N:Int) (ps:List (ByteArray × ValD)) (w0 w:World) (h:AddS w0 w g N ps) (hx:ValV w0 x y) (hy:y≠[]) (hyl:y.length≤1000) (hm:(mapM N ps).length≤1000000) (hN : -1000000≤N∧N≤1000000) :
  Calls prog 104 #[.string k,x,.pointer (some ⟨g,0,none⟩)] w fun e w'=>e=.returned (.tuple #[])∧AddS w0 w' g (N+1) (ps ++ [(k,y)])∧KB g w w':=by
 obtain ⟨i0,hi,hz0,hz1,hz2⟩:=info_parts Tryz.infoCell;obtain ⟨P,hP⟩:∃ P:Ending→World→Prop,(fun e w'=>e=.returned (.tuple #[])∧AddS w0 w' g (N+1) (ps ++ [(k,y)])∧KB g w w')=P:=⟨_,rfl⟩
 rw [hP];have HP:=hZz hP;obtain ⟨ov,hg,ho,hbel,hgb⟩:=h;have ho':w.ownsRow w0.heap.size 53 4 ov (mapM N ps).length ((mapM N ps).flatMap CellD.cells):=ho;obtain ⟨a,cap,rfl,hba,hal⟩:=ho'.form (by simp [mapM]);have c3:=ho'.cells (g:=a) rfl 3 (.int .i64 N) (by simp [mapM,CellD.cells]);rw [zanY,Nat.zero_add] at c3
 have z3:w.frozen? ⟨a,3,none⟩=false:=by
  obtain ⟨_,cs,hb⟩:=zakY ho' (g:=a) rfl;exact hb.frozen 3
 have hne:g≠a:=fun e=>zagZ ho' hg (by decide) (by rw [e];rfl)
 have hne2:a≠g:=fun e=>hne e.symm
 obtain ⟨W1,hW1⟩:∃ W,w.setCell ⟨a,3,none⟩ (.int .i64 (N+1))=W:=⟨_,rfl⟩
 have hgS:=zamZ w a 3 (.int .i64 (N+1));rw [hW1] at hgS;have K1:Hid (KB g w W1):=hZz (KB.own ho' (v:=.slice (some ⟨a,0,none⟩) (mapM N ps).length cap) hgS);have HG1:Hid (Blk W1 g 22 #[.slice (some ⟨a,0,none⟩) (mapM N ps).length cap]):=hZz (hg.grown hgS (by simpa using hne))
 have HO1:Hid (W1.ownsRow w0.heap.size 53 4 (.slice (some ⟨a,0,none⟩) (mapM N ps).length cap) (mapM N ps).length ((mapM (N+1) ps).flatMap CellD.cells)):=hZz (by
  have:=own_set ho' 3 (.int .i64 (N+1))
  rw [hW1,mapM_set] at this;exact this)
 have HB1:Hid (Below w0.heap.size w0 W1):=hZz (hbel.grown hgS hbel.size (fun j hj=>by injection hj with hj;omega));obtain ⟨A,xk,rfl,hcx,hmx,hsx⟩:=hx.at;obtain ⟨bX,offX,rfl,hat⟩:=zdbY hsx hy;have HAT:=hZz hat;obtain ⟨M,hM⟩:∃ m,(mapM N ps).length=m:=⟨_,rfl⟩
 have HM:=hZz hM;rw [hM] at HG1 HO1 hg hm ho';have g0:=hg.cell 0 _ rfl;have g1:=HG1.out.cell 0 _ rfl;have y1:=HG1.out.frozen 0
 have hpos:(0:Int)<(M:Int):=by
  have:0<M:=by rw [← hM];simp [mapM]
  omega
 have hw9 : -9223372036854775808≤N+1:=by omega
 have hw10:N+1≤9223372036854775807:=by omega
 have HGB:=hZz hgb;have hsz1:=HB1.out.size;clear hg ho ho' hba hal hgS hat hsx hcx hmx hM hbel hgb hP hx;go_enter func104,ntmps104
 go_upto_region 1 with fail
 have HHW:=hZz hW1;clear hW1 c3 z3 g0;have hm2:M≤1000000:=hm
 go_upto_region 2 with (first
  | (at_builtin;refine zakZ rfl (.tmp 12) (.tmp 15) 22 rfl i0 _ 40 underlying22 hi hz0 hz1 hz2 rfl (by omega) rfl HO1.out [.int .i64 4,.int .i64 0,.string k,.int .i64 0] rfl rfl (cells4 _ _ _ _) hm2 (by omega) hsz1 ?_;intro v2 w2 hown2 hb2 hs2 hg2;have HO2:Hid (w2.ownsRow w0.heap.size 53 4 v2 (M+1) ((mapM (N+1) ps ++ [sCel k]).flatMap CellD.cells)):=hZz (by rw [List.flatMap_append];exact hown2);obtain ⟨oA2,oc2,hoe2⟩:=zaeZ hown2;subst hoe2;have K2:Hid (KB g W1 w2):=hZz (KB.own HO1.out hg2);have HB2:=hZz (HB1.out.trans hb2);have HG2:=hZz (HG1.out.grown hg2 (zagZ HO1.out HG1.out (by decide)));have y2:=HG2.out.frozen 0;have x2:=HG2.out.cell 0 _ rfl;clear hown2 hb2 hs2 hg2 g1 y1))
 obtain ⟨W3,hW3⟩:∃ W,w2.setCell ⟨g,0,none⟩ (.slice oA2 (M+1) oc2)=W:=⟨_,rfl⟩
 rw [hW3];have hgS:=zamZ w2 g 0 (.slice oA2 (M+1) oc2);have HG3:Hid (Blk W3 g 22 #[.slice oA2 (M+1) oc2]):=hZz (by rw [← hW3];exact HG2.out.set_ 0 _)
 have HO3:Hid (W3.ownsRow w0.heap.size 53 4 (.slice oA2 (M+1) oc2) (M+1) ((mapM (N+1) ps ++ [sCel k]).flatMap CellD.cells)):=hZz (by
  rw [← hW3];exact World.ownsRow.kept HO2.out (row:=some g) hgS (.inr (fun e=>zagZ HO2.out HG2.out (by decide) e.symm)))
 have HB3:Hid (Below w0.heap.size w0 W3):=hZz (by
  rw [← hW3];exact HB2.out.grown hgS HB2.out.size (fun j hj=>by injection hj with hj;have:=HGB.out;omega))
 have K3:Hid (KB g w2 W3):=hZz (by rw [← hW3];exact KB.set _ _ _ _);have hsz3:=HB3.out.size;have g3:=HG3.out.cell 0 _ rfl;clear hgS hW3 y2 x2;have hbm:M+1+y.length≤maxLen:=by unfold maxLen;omega
 have hbq:(M+1+y.length) * 40≤140737488355328:=by omega
 go_wp2_with (first
  | (at_builtin;refine wpList_append_own _ rfl (.tmp 17) (.tmp 18) 22 rfl w0.heap.size 53 i0 _ 4 40 underlying22 hi hz0 hz1 hz2 rfl (by omega) _ (M+1) ((mapM (N+1) ps ++ [sCel k]).flatMap CellD.cells) rfl HO3.out ⟨bX,offX,none⟩ y.length xk (y.flatMap CellD.cells) rfl ?k2 ?k3 (zbcY _) hbm hbq ?k4 ?_;(case k2=>rw [zawY]);(case k3=>exact HAT.out W3 HB3.out);(case k4=>exact hsz3);intro v4 w4 hown4 hg4 _;have HO4:=hZz (OVal.more (a:=mapM (N+1) ps ++ [sCel k]) (b:=y) hown4 (by simp [← HM.out,mapM];try omega) rfl);obtain ⟨oA4,oc4,hoe4⟩:=zaeZ hown4;subst hoe4;have K4:Hid (KB g W3 w4):=hZz (KB.own HO3.out hg4);have HB4:=hZz (HB3.out.grown hg4 hsz3 (fun j hj=>(HO3.out.lt j hj).1));have HG4:=hZz (HG3.out.grown hg4 (zagZ HO3.out HG3.out (by decide)));have y4:=HG4.out.frozen 0;have x4:=HG4.out.cell 0 _ rfl;clear hown4 hg4))
 go_returns;rw [← HP.out];have hgS:=zamZ w4 g 0 (.slice oA4 (M+1+y.length) oc4);refine ⟨rfl,⟨_,HG4.out.set_ 0 _,?_,HB4.out.grown hgS HB4.out.size (fun j hj=>by injection hj with hj;have:=HGB.out;omega),HGB.out⟩,(((K1.out.trans K2.out).trans K3.out).trans K4.out).trans (KB.set _ _ _ _)⟩
 have hh:(mapM (N+1) ps ++ [sCel k]) ++ y=mapM (N+1) (ps ++ [(k,y)]):=by simp [mapM]
 have:=World.ownsRow.kept (show w4.ownsRow w0.heap.size 53 4 _ _ _ from HO4.out) (row:=some g) hgS (.inr (fun e=>zagZ (show w4.ownsRow w0.heap.size 53 4 _ _ _ from HO4.out) HG4.out (by decide) e.symm))
 rw [hh] at this;exact this
end
def putStep (key:ByteArray) (x:ValD) (acc:List (ByteArray × ValD) × Bool) (p:ByteArray × ValD):List (ByteArray × ValD) × Bool :=
 let a:=if (!acc.2 && !(Op.bytesLess p.1.toList key.toList))=true then (acc.1 ++ [(key,x)],true) else acc
 if p.1=key then a else (a.1 ++ [p],a.2)
structure PutS (w0 w:World) (gd gk ga gx g:Nat) (key:ByteArray) (xv:Value) (acc:List (ByteArray × ValD) × Bool):Prop where
 d:Blk w gd 4 #[.bool acc.2]
 k:Blk w gk 9 #[.string key]
 a:Blk w ga 141 #[.func (.func 104) #[] #[.pointer (some ⟨g,0,none⟩)]]
 x:Blk w gx 22 #[xv]
 s:AddS w0 w g (acc.1.length:Nat) acc.1
 gd0:w0.heap.size≤gd
 ne:gx≠g
theorem PutS.below {w0 w w':World} {gd gk ga gx g:Nat} {key:ByteArray} {xv:Value} {acc:List (ByteArray × ValD) × Bool} (h:PutS w0 w gd gk ga gx g key xv acc) (hb:Below w.heap.size w w'):PutS w0 w' gd gk ga gx g key xv acc :=
 ⟨h.d.below hb,h.k.below hb,h.a.below hb,h.x.below hb,h.s.below hb,h.gd0,h.ne⟩
theorem PutS.add {w0 w w':World} {gd gk ga gx g:Nat} {key k':ByteArray} {y:ValD} {xv:Value} {acc:List (ByteArray × ValD) × Bool} (h:PutS w0 w gd gk ga gx g key xv acc) (hs:AddS w0 w' g ((acc.1.length:Nat)+1) (acc.1 ++ [(k',y)])) (hk:KB g w w') :
  PutS w0 w' gd gk ga gx g key xv (acc.1 ++ [(k',y)],acc.2):=by
 have hg:∀ (t:TypeId) (gq:Nat) (cs:Array Value),t≠22→Blk w gq t cs→gq≠g:=fun t gq cs hne hb e=>by
  obtain ⟨u,h1,_⟩:=h.s;subst e;unfold Blk at h1 hb;rw [h1] at hb;injection hb with hb
  injection hb with _ hb
  exact hne hb.symm
 refine ⟨hk _ _ _ (by decide) (hg _ _ _ (by decide) h.d) h.d,hk _ _ _ (by decide) (hg _ _ _ (by decide) h.k) h.k,hk _ _ _ (by decide) (hg _ _ _ (by decide) h.a) h.a,hk _ _ _ (by decide) h.ne h.x,?_,h.gd0,h.ne⟩
 have e:(((acc.1 ++ [(k',y)]).length:Nat):Int)=((acc.1.length:Nat):Int)+1:=by simp
 show AddS w0 w' g (((acc.1 ++ [(k',y)]).length:Nat):Int) _;rw [e];exact hs
theorem PutS.done {w0 w:World} {gd gk ga gx g:Nat} {key:ByteArray} {xv:Value} {acc:List (ByteArray × ValD) × Bool} (h:PutS w0 w gd gk ga gx g key xv acc):PutS w0 (w.setCell ⟨gd,0,none⟩ (.bool true)) gd gk ga gx g key xv (acc.1,true):=by
 have hgS:=zamZ w gd 0 (.bool true)
 have hne:∀ (t:TypeId) (gq:Nat) (cs:Array Value),t≠4→Blk w gq t cs→gq≠gd:=fun t gq cs hne hb e=>by
  have h1:=h.d;subst e;unfold Blk at h1 hb;rw [h1] at hb;injection hb with hb
  injection hb with _ hb
  exact hne hb.symm
 obtain ⟨u,h1,h2,h3,h4⟩:=h.s;refine ⟨h.d.set_ 0 _,h.k.grown hgS (by simpa using hne _ _ _ (by decide) h.k),h.a.grown hgS (by simpa using hne _ _ _ (by decide) h.a),h.x.grown hgS (by simpa using hne _ _ _ (by decide) h.x),⟨u,h1.grown hgS (by simpa using hne _ _ _ (by decide) h1),?_,h3.grown hgS h3.size (fun j hj=>by injection hj with hj;have:=h.gd0;omega),h4⟩,h.gd0,h.ne⟩
 exact World.ownsRow.kept h2 (row:=some gd) hgS (.inr (fun e=>zagZ h2 h.d (by decide) e.symm))
section
theorem mapM_one (N M:Int) (ps:List (ByteArray × ValD)) (k:ByteArray) (y:ValD):(mapM N (ps ++ [(k,y)])).length=(mapM M ps).length+1+y.length:=by
 simp [mapM];omega
attribute [local go_sem] zacZ
theorem put2_any (k key:ByteArray) (xv yv:Value) (x y:ValD) (gd gk ga gx g:Nat) (acc:List (ByteArray × ValD) × Bool) (w0 w:World) (h:PutS w0 w gd gk ga gx g key xv acc) (hx:ValV w0 xv x) (hy:ValV w0 yv y) (hxn:x≠[]) (hyn:y≠[]) (hxl:x.length≤1000) (hyl:y.length≤1000) (hm:(mapM 0 acc.1).length≤900000) (hn:acc.1.length≤1000) :
  Calls prog 106 #[.string k,yv,.pointer (some ⟨gd,0,none⟩),.pointer (some ⟨gk,0,none⟩),.pointer (some ⟨ga,0,none⟩),.pointer (some ⟨gx,0,none⟩)] w fun e w'=>e=.returned (.bool true)∧PutS w0 w' gd gk ga gx g key xv (putStep key x acc (k,y)):=by
 obtain ⟨P,hP⟩:∃ P:Ending→World→Prop,(fun e w'=>e=.returned (.bool true)∧PutS w0 w' gd gk ga gx g key xv (putStep key x acc (k,y)))=P:=⟨_,rfl⟩
 rw [hP];have HP:=hZz hP;have hent:∀ args w,(callFunc 104 args).run prog w=.ok (.enter 104 args) w:=enters_of func104 (by kernel_rfl) rfl
 have HADD:Hid (∀ wx ac k' v' z,PutS w0 wx gd gk ga gx g key xv ac→ValV w0 v' z→z≠[]→z.length≤1000→(mapM 0 ac.1).length≤1000000→ac.1.length≤100000→Calls prog 104 #[.string k',v',.pointer (some ⟨g,0,none⟩)] wx fun e w'=>e=.returned (.tuple #[])∧PutS w0 w' gd gk ga gx g key xv (ac.1 ++ [(k',z)],ac.2)):=hZz fun wx ac k' v' z hs hv hz hzl hm hn =>
  (put1_any k' v' z g _ _ w0 wx hs.s hv hz hzl (by rw [mapM_len' _ 0];exact hm) (by omega)).mono fun e w' ⟨he,ha,hk⟩=>⟨he,hs.add ha hk⟩
 have H:=hZz h;have d0:=h.d.cell 0 _ rfl;have k0:=h.k.cell 0 _ rfl;have a0:=h.a.cell 0 _ rfl;have x0:=h.x.cell 0 _ rfl;have z0:=h.d.frozen 0;obtain ⟨ps,dn⟩:=acc;dsimp only at d0 hm hn;obtain ⟨lt,hlt⟩:∃ t,Op.bytesLess k.toList key.toList=t:=⟨_,rfl⟩
 have HX:=hZz hx;have HY:=hZz hy;have HXN:=hZz hxn;have HYN:=hZz hyn;have HXL:=hZz hxl;have HYL:=hZz hyl;have HM:=hZz hm;have HN:=hZz hn;have HA1:Hid (Calls prog 104 #[.string key,xv,.pointer (some ⟨g,0,none⟩)] w fun e w'=>e=.returned (.tuple #[])∧PutS w0 w' gd gk ga gx g key xv (ps ++ [(key,x)],dn)):=hZz (HADD.out w (ps,dn) key xv x h hx hxn hxl (by show (mapM 0 ps).length≤1000000;omega) (by show ps.length≤100000;omega));have HA2:Hid (∀ wx dd,PutS w0 wx gd gk ga gx g key xv (ps,dd)→Calls prog 104 #[.string k,yv,.pointer (some ⟨g,0,none⟩)] wx fun e w'=>e=.returned (.tuple #[])∧PutS w0 w' gd gk ga gx g key xv (ps ++ [(k,y)],dd)):=hZz fun wx dd hs=>HADD.out wx (ps,dd) k yv y hs hy hyn hyl (by simpa using (by omega:(mapM 0 ps).length≤1000000)) (by simpa using (by omega:ps.length≤100000))
 have HA3:Hid (∀ wx dd,PutS w0 wx gd gk ga gx g key xv (ps ++ [(key,x)],dd)→Calls prog 104 #[.string k,yv,.pointer (some ⟨g,0,none⟩)] wx fun e w'=>e=.returned (.tuple #[])∧PutS w0 w' gd gk ga gx g key xv ((ps ++ [(key,x)]) ++ [(k,y)],dd)):=hZz fun wx dd hs=>HADD.out wx (ps ++ [(key,x)],dd) k yv y hs hy hyn hyl (by show (mapM 0 (ps ++ [(key,x)])).length≤1000000;rw [mapM_one 0 0];omega) (by show (ps ++ [(key,x)]).length≤100000;rw [List.length_append];simp;omega)
 have HPS:Hid (putStep key x (ps,dn) (k,y)=if k=key then (if (!dn && !lt)=true then (ps ++ [(key,x)],true) else (ps,dn)) else ((if (!dn && !lt)=true then (ps ++ [(key,x)],true) else (ps,dn)).1 ++ [(k,y)],(if (!dn && !lt)=true then (ps ++ [(key,x)],true) else (ps,dn)).2)):=hZz (by unfold putStep;simp only [hlt]);have hbe:=zbfY k key;obtain ⟨eqb,heq⟩:∃ t,decide (k=key)=t:=⟨_,rfl⟩
 have HEQ:=hZz heq;rw [heq] at hbe;have hbn:(k.toList != key.toList)=!eqb:=by simp [bne,hbe]
 clear hP h hx hy hxn hyn hxl hyl hm hn heq;by_cases hin:(!dn && !lt)=true
 ·obtain ⟨hd,hl⟩:dn=false∧lt=false:=by simpa using hin
  subst hd hl;cases eqb
  ·have HR:Hid (putStep key x (ps,false) (k,y)=((ps ++ [(key,x)]) ++ [(k,y)],true)):=hZz (by rw [HPS.out,if_neg (by simpa using HEQ.out),if_pos hin])
   clear hin HPS;go_enter func106,ntmps106
   go_wp2_with (first
    | (go_at_fn 104;first
     | ((with_reducible refine HA1.out.mono ?_);rintro e w1 ⟨rfl,hs1⟩;have HS1:=hZz hs1;have z1:=hs1.d.frozen 0;have d1:=hs1.d.cell 0 _ rfl;have HS2:=hZz hs1.done;have k1:=hs1.k.cell 0 _ rfl;have k2:=hs1.done.k.cell 0 _ rfl;have a2:=hs1.done.a.cell 0 _ rfl;clear hs1)
     | ((with_reducible refine (HA3.out _ _ HS2.out).mono ?_);rintro e w3 ⟨rfl,hs3⟩;have HS3:=hZz hs3;clear hs3)))
   rw [← HP.out,HR.out];exact ⟨rfl,HS3.out⟩
  ·have HR:Hid (putStep key x (ps,false) (k,y)=(ps ++ [(key,x)],true)):=hZz (by rw [HPS.out,if_pos (by simpa using HEQ.out),if_pos hin])
   clear hin HPS;go_enter func106,ntmps106
   go_wp2_with (first
    | (go_at_fn 104;first
     | ((with_reducible refine HA1.out.mono ?_);rintro e w1 ⟨rfl,hs1⟩;have HS1:=hZz hs1;have z1:=hs1.d.frozen 0;have d1:=hs1.d.cell 0 _ rfl;have HS2:=hZz hs1.done;have k1:=hs1.k.cell 0 _ rfl;have k2:=hs1.done.k.cell 0 _ rfl;have a2:=hs1.done.a.cell 0 _ rfl;clear hs1)
     | ((with_reducible refine (HA3.out _ _ HS2.out).mono ?_);rintro e w3 ⟨rfl,hs3⟩;have HS3:=hZz hs3;clear hs3)))
   rw [← HP.out,HR.out];exact ⟨rfl,HS2.out⟩
 ·have hin':(!dn && !lt)=false:=by simpa using hin
  cases eqb
  ·have HR:Hid (putStep key x (ps,dn) (k,y)=(ps ++ [(k,y)],dn)):=hZz (by rw [HPS.out,if_neg (by simpa using HEQ.out),if_neg hin])
   clear hin HPS;cases dn <;> cases lt <;> first | (exfalso;revert hin';decide) | skip
   all_goals
    go_enter func106,ntmps106
    go_wp2_with (first
     | (go_at_fn 104;((with_reducible refine (HA2.out _ _ H.out).mono ?_);rintro e w3 ⟨rfl,hs3⟩;have HS3:=hZz hs3;clear hs3)))
    rw [← HP.out,HR.out];exact ⟨rfl,HS3.out⟩
  ·have HR:Hid (putStep key x (ps,dn) (k,y)=(ps,dn)):=hZz (by rw [HPS.out,if_pos (by simpa using HEQ.out),if_neg hin])
   clear hin HPS;cases dn <;> cases lt <;> first | (exfalso;revert hin';decide) | skip
   all_goals
    go_enter func106,ntmps106
    go_wp2_with (first
     | (go_at_fn 104;((with_reducible refine (HA2.out _ _ H.out).mono ?_);rintro e w3 ⟨rfl,hs3⟩;have HS3:=hZz hs3;clear hs3)))
    rw [← HP.out,HR.out];exact ⟨rfl,H.out⟩
end
def putF (key:ByteArray) (x:ValD) (ps:List (ByteArray × ValD)):List (ByteArray × ValD) × Bool:=ps.foldl (putStep key x) ([],false)
theorem putF_snoc (key:ByteArray) (x:ValD) {ps:List (ByteArray × ValD)} {k:Nat} (h:k<ps.length):putF key x (ps.take (k+1))=putStep key x (putF key x (ps.take k)) ps[k]:=by
 unfold putF;rw [List.take_succ_eq_append_getElem h,List.foldl_append];rfl
def putL (key:ByteArray) (x:ValD) (ps:List (ByteArray × ValD)):List (ByteArray × ValD):=if (putF key x ps).2=true then (putF key x ps).1 else (putF key x ps).1 ++ [(key,x)]
theorem putStep_bd (key:ByteArray) (x:ValD) (acc:List (ByteArray × ValD) × Bool) (p:ByteArray × ValD):(putStep key x acc p).1.length+(if (putStep key x acc p).2=true then 0 else 1)≤acc.1.length+(if acc.2=true then 0 else 1)+1∧∀ q∈(putStep key x acc p).1,q∈acc.1∨q=p∨q=(key,x):=by
 obtain ⟨l,d⟩:=acc;unfold putStep;dsimp only;generalize Op.bytesLess p.1.toList key.toList=b
 have fin:∀ (q:ByteArray × ValD) (m:List (ByteArray × ValD)),(m=l∨m=l ++ [(key,x)]∨m=l ++ [p]∨m=(l ++ [(key,x)]) ++ [p])→q∈m→q∈l∨q=p∨q=(key,x):=by
  intro q m hm hq;rcases hm with rfl | rfl | rfl | rfl
  ·exact .inl hq
  ·rcases List.mem_append.1 hq with h | h
   ·exact .inl h
   ·exact .inr (.inr (by simpa using h))
  ·rcases List.mem_append.1 hq with h | h
   ·exact .inl h
   ·exact .inr (.inl (by simpa using h))
  ·rcases List.mem_append.1 hq with h | h
   ·rcases List.mem_append.1 h with h | h
    ·exact .inl h
    ·exact .inr (.inr (by simpa using h))
   ·exact .inr (.inl (by simpa using h))
 by_cases h:p.1=key
 ·rw [if_pos h]
  cases d <;> cases b <;> refine ⟨?_,fun q hq=>fin q _ ?_ hq⟩ <;> simp
 ·rw [if_neg h]
  cases d <;> cases b <;> refine ⟨?_,fun q hq=>fin q _ ?_ hq⟩ <;> simp
theorem putF_bd (key:ByteArray) (x:ValD) (ps:List (ByteArray × ValD)):∀ k,k≤ps.length→(putF key x (ps.take k)).1.length+(if (putF key x (ps.take k)).2=true then 0 else 1)≤k+1∧∀ q∈(putF key x (ps.take k)).1,q∈ps∨q=(key,x)
 | 0,_=>by simp [putF]
 | k+1,h=>by
  obtain ⟨h1,h2⟩:=putF_bd key x ps k (by omega);have hk:k<ps.length:=by omega
  rw [putF_snoc key x hk];obtain ⟨h3,h4⟩:=putStep_bd key x (putF key x (ps.take k)) ps[k];refine ⟨by omega,fun q hq=>?_⟩
  rcases h4 q hq with h | h | h
  ·exact h2 q h
  ·exact .inl (h ▸ List.getElem_mem hk)
  ·exact .inr h
end Go.Proofs.YtekdhlfapejijaaGreatDoor
