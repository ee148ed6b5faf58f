/- E37, E38 -/
import Derived.Test.YtekdhlfapejijaaGreatDoorPE36
import Derived.Laws.EntriesVeiled
import Derived.Lib.Builder
set_option linter.unusedVariables false
set_option linter.unusedSimpArgs false
namespace Go.Proofs.YtekdhlfapejijaaGreatDoor
open Go.RowKit
set_option maxRecDepth 100000
open Go.Proofs.Tryz
section
def putR (v:ValD) (key:ByteArray) (x:ValD):ResD:=if checkF v≠0 then ([],checkF v) else match v with
 | []=>([],7)
 | c :: r=>if c.kind≠6 then ([],7) else if checkF x≠0 then ([],checkF x) else okR (mapM ((putL key x (partsOf (c :: r))).length:Nat) (putL key x (partsOf (c :: r))))
theorem parts_ok {c:CellD} {r:ValD} (ho:OkV (c :: r)) (hck:checkF (c :: r)=0) (hk:c.kind=6):∀ p∈partsOf (c :: r),checkF p.2=0:=by
 obtain ⟨_,_,h3,_⟩:=zcpY hck (fun x hx=>zabY (ho.2 x hx)) rfl hk;exact h3
attribute [local go_sem] zacZ
set_option maxHeartbeats 16000000 in
theorem put_any (l x:ValD) (key:ByteArray) (v xv:Value) (w:World) (h:ValV w v l) (hx:ValV w xv x) (hp:Pow w) (ho:OkV l) (hox:OkV x) (hkl:key.size≤4294967296) :
  Calls prog 55 #[v,.string key,xv] w (RetR w [] (putR l key x)):=by
 obtain ⟨P,hP⟩:∃ P:Ending→World→Prop,RetR w [] (putR l key x)=P:=⟨_,rfl⟩
 rw [hP];have HP:=hZz hP;obtain ⟨xA,xn,xk,rfl⟩:=hx.shape;obtain ⟨W0,hW0⟩:∃ W,(w.alloc (.cells #[.string key] 9)).alloc (.cells #[.slice xA xn xk] 22)=W:=⟨_,rfl⟩
 have hb0:Below w.heap.size w W0:=by rw [← hW0];exact zasY w _ _
 have HK0:Hid (Blk W0 w.heap.size 9 #[.string key]):=hZz (by rw [← hW0];exact (Blk.new w _ _).alloc _);have HX0:Hid (Blk W0 (w.heap.size+1) 22 #[.slice xA xn xk]):=hZz (by rw [← hW0];exact Blk.new' (by simp));have HCK:Hid (Calls prog 79 #[v] W0 fun e w'=>e=.returned (.int .i64 (checkF l))∧Below W0.heap.size W0 w'):=hZz (za6Y l v _ (h.below hb0) (hp.below hb0) ho);have HB0:=hZz hb0;by_cases hck:checkF l=0
 case neg =>
  have HR:Hid (putR l key x=([],checkF l)):=hZz (by unfold putR;rw [if_pos hck]);obtain ⟨ck,hc⟩:∃ c,checkF l=c:=⟨_,rfl⟩
  rw [hc] at HCK HR hck;have hck':(ck != 0)=true:=by simpa using hck
  clear hck h hx hp ho hox hP hc hb0 hkl;go_enter func55,ntmps55
  go_wp2_with (first
   | (go_at_call 79;((with_reducible refine HCK.out.mono ?_);rintro e w1 ⟨rfl,hb1⟩;have HB1:=hZz (zaaZ hb1 HB0.out HB0.out.size);clear hb1)))
  rw [← HP.out];exact RetR.err HR.out HB1.out
 obtain ⟨c,r,rfl⟩:∃ c r,l=c :: r:=by
  cases l with
  | nil=>exact absurd rfl (zaoZ hck)
  | cons c r=>exact ⟨c,r,rfl⟩
 have HR:Hid (putR (c :: r) key x=if c.kind≠6 then (([],7):ResD) else if checkF x≠0 then (([],checkF x):ResD) else okR (mapM ((putL key x (partsOf (c :: r))).length:Nat) (putL key x (partsOf (c :: r))))):=hZz (by unfold putR;rw [if_neg (by simpa using hck)];try rfl);rw [hck] at HCK;obtain ⟨b,off,n,cap,rfl,hn,c0,c1,c2,c3⟩:=zanZ h;have HC0:=hZz c0;have hpos:(0:Int)<(n:Int):=by omega
 have HCX:Hid (∀ wx,Below w.heap.size w wx→Calls prog 79 #[.slice xA xn xk] wx fun e w'=>e=.returned (.int .i64 (checkF x))∧Below wx.heap.size wx w'):=hZz fun wx hb=>za6Y x _ wx (hx.below hb) (hp.below hb) hox
 by_cases hk:c.kind=6
 case neg =>
  have HR2:Hid (putR (c :: r) key x=([],7)):=hZz (by rw [HR.out,if_pos hk]);obtain ⟨k,i,s,nn⟩:=c;dsimp only at hk HC0;have h6:(k != 6)=true:=by simpa using hk
  clear hck h hx hp ho hox hP c0 c1 c2 c3 HR hk hb0 hkl hn;go_enter func55,ntmps55
  go_wp2_with (first
   | (go_at_call 79;first
    | ((with_reducible refine HCK.out.mono ?_);rintro e w1 ⟨rfl,hb1⟩;have HB1:=hZz (zaaZ hb1 HB0.out HB0.out.size);have g0:=((zaaZ hb1 HB0.out HB0.out.size).cell (p:=⟨b,off,none⟩) (bLZ HC0.out)).trans HC0.out;have HK1:=hZz (HK0.out.below hb1);have HX1:=hZz (HX0.out.below hb1);have x1:=(HX0.out.below hb1).cell 0 _ rfl;clear hb1)
    | ((with_reducible refine (HCX.out _ HB1.out).mono ?_);rintro e w2 ⟨rfl,hb2⟩;have HB2:=hZz (zaaZ hb2 HB1.out HB1.out.size);have HK2:=hZz (HK1.out.below hb2);have HX2:=hZz (HX1.out.below hb2);clear hb2 g0 x1)))
  rw [← HP.out];exact RetR.err HR2.out HB1.out
 rw [if_neg (not_not_intro hk)] at HR;by_cases hcx:checkF x=0
 case neg =>
  have HR2:Hid (putR (c :: r) key x=([],checkF x)):=hZz (by rw [HR.out,if_pos hcx]);obtain ⟨k,i,s,nn⟩:=c;dsimp only at hk HC0;subst hk;obtain ⟨cx,hc⟩:∃ c,checkF x=c:=⟨_,rfl⟩
  rw [hc] at HCX HR2 hcx;have hcx':(cx != 0)=true:=by simpa using hcx
  clear hck h hx hp ho hox hP c0 c1 c2 c3 HR hb0 hkl hn hcx hc;go_enter func55,ntmps55
  go_wp2_with (first
   | (go_at_call 79;first
    | ((with_reducible refine HCK.out.mono ?_);rintro e w1 ⟨rfl,hb1⟩;have HB1:=hZz (zaaZ hb1 HB0.out HB0.out.size);have g0:=((zaaZ hb1 HB0.out HB0.out.size).cell (p:=⟨b,off,none⟩) (bLZ HC0.out)).trans HC0.out;have HK1:=hZz (HK0.out.below hb1);have HX1:=hZz (HX0.out.below hb1);have x1:=(HX0.out.below hb1).cell 0 _ rfl;clear hb1)
    | ((with_reducible refine (HCX.out _ HB1.out).mono ?_);rintro e w2 ⟨rfl,hb2⟩;have HB2:=hZz (zaaZ hb2 HB1.out HB1.out.size);have HK2:=hZz (HK1.out.below hb2);have HX2:=hZz (HX1.out.below hb2);clear hb2 g0 x1)))
  rw [← HP.out];exact RetR.err HR2.out HB2.out
 rw [if_neg (not_not_intro hcx)] at HR;rw [hcx] at HCX;have HPC:=parts_ok ho hck hk;have HPO:=zbmY ho;have HPK:=zcjY ho hck hk;have HPL:=zagY ho hck (.inr hk);have hxn:x≠[]:=zaoZ hcx;have hxl:x.length≤1000:=by have:=len200 hcx;omega
 have hent:∀ args w,(callFunc 104 args).run prog w=.ok (.enter 104 args) w:=enters_of func104 (by kernel_rfl) rfl
 have HPT:Hid (∀ w2,Below w.heap.size w w2→Blk w2 w.heap.size 9 #[.string key]→Blk w2 (w.heap.size+1) 22 #[.slice xA xn xk]→Calls prog 105 #[.slice (some ⟨b,off,none⟩) n cap,.func (.func 106) #[] #[.pointer (some ⟨w2.heap.size+1+1+1,0,none⟩),.pointer (some ⟨w.heap.size,0,none⟩),.pointer (some ⟨w2.heap.size+1+1,0,none⟩),.pointer (some ⟨w.heap.size+1,0,none⟩)]] ((((w2.alloc (.cells #[.int .i64 6,.int .i64 0,.string ⟨#[]⟩,.int .i64 0] 53)).alloc (.cells #[.slice (some ⟨w2.heap.size,0,none⟩) 1 1] 22)).alloc (.cells #[.func (.func 104) #[] #[.pointer (some ⟨w2.heap.size+1,0,none⟩)]] 141)).alloc (.cells #[.bool false] 4)) fun e w'=>e=.returned (.tuple #[])∧PutS w w' (w2.heap.size+1+1+1) w.heap.size (w2.heap.size+1+1) (w.heap.size+1) (w2.heap.size+1) key (.slice xA xn xk) (putF key x (partsOf (c :: r)))):=hZz fun w2 hb hK hX=>by
  have hb5:Below w.heap.size w ((((w2.alloc (.cells #[.int .i64 6,.int .i64 0,.string ⟨#[]⟩,.int .i64 0] 53)).alloc (.cells #[.slice (some ⟨w2.heap.size,0,none⟩) 1 1] 22)).alloc (.cells #[.func (.func 104) #[] #[.pointer (some ⟨w2.heap.size+1,0,none⟩)]] 141)).alloc (.cells #[.bool false] 4)):=(((hb.alloc hb.size _).alloc (by simp;have:=hb.size;omega) _).alloc (by simp;have:=hb.size;omega) _).alloc (by simp;have:=hb.size;omega) _;have hlt:w.heap.size+1<w2.heap.size:=lt_of_block hX;refine zc0Y c r _ 106 _ w _ h hb5 hp ho hck (.inr hk) (fun k wy=>PutS w wy (w2.heap.size+1+1+1) w.heap.size (w2.heap.size+1+1) (w.heap.size+1) (w2.heap.size+1) key (.slice xA xn xk) (putF key x ((partsOf (c :: r)).take k))) (fun wy=>PutS w wy (w2.heap.size+1+1+1) w.heap.size (w2.heap.size+1+1) (w.heap.size+1) (w2.heap.size+1) key (.slice xA xn xk) (putF key x (partsOf (c :: r)))) (enters_of func106 (by kernel_rfl) rfl) ?_ (fun k wy hi=>?_) (fun k wy wz hi hbz=>hi.below hbz) (fun k wy y hk' hi hy=>?_) (fun wy hi=>?_)
  ·refine ⟨Blk.new' (by simp),((((hK.alloc _).alloc _).alloc _).alloc _),((Blk.new' (by simp)).alloc _),((((hX.alloc _).alloc _).alloc _).alloc _),⟨_,(((Blk.new' (by simp)).alloc _).alloc _),?_,hb5,by have:=hb.size;omega⟩,by have:=hb.size;omega,by omega⟩
   exact zbqY (l:=mapM 0 []) ((((Blk.new w2 _ _).alloc _).alloc _).alloc _) hb.size rfl (by simp [mapM])
  ·obtain ⟨u,_,_,h3,_⟩:=hi.s
   exact h3
  ·obtain ⟨b1,b2⟩:=putF_bd key x (partsOf (c :: r)) k (by omega)
   have hyl:(partsOf (c :: r))[k].2.length≤1000:=by have:=len200 (HPC _ (List.getElem_mem hk'));omega
   have hlk:(putF key x ((partsOf (c :: r)).take k)).1.length≤1000:=by omega
   have hck0:∀ q∈(putF key x ((partsOf (c :: r)).take k)).1,checkF q.2=0:=fun q hq=>by
    rcases b2 q hq with h | h
    ·exact HPC q h
    ·rw [h];exact hcx
   have:=zc5Y (N:=0) hck0
   refine (put2_any (partsOf (c :: r))[k].1 key _ y x _ _ _ _ _ _ _ w wy hi hx hy hxn (zaoZ (HPC _ (List.getElem_mem hk'))) hxl hyl (by omega) hlk).mono fun e w' ⟨he,hi'⟩=>⟨true,he,fun _=>?_,fun e=>by cases e⟩
   rw [putF_snoc key x hk'];exact hi'
  ·rw [List.take_length] at hi
   exact hi
 obtain ⟨pb1,pb2⟩:=putF_bd key x (partsOf (c :: r)) (partsOf (c :: r)).length (Nat.le_refl _);rw [List.take_length] at pb1 pb2
 have HMB:∀ q∈(putF key x (partsOf (c :: r))).1,checkF q.2=0∧q.1.size≤4294967296∧OkV q.2:=fun q hq=>by
  rcases pb2 q hq with h | h
  ·exact ⟨HPC q h,by have:=HPK q h;omega,HPO q h⟩
  ·rw [h];exact ⟨hcx,hkl,hox⟩
 obtain ⟨⟨ls,dn⟩,hacc⟩:∃ t,putF key x (partsOf (c :: r))=t:=⟨_,rfl⟩
 unfold putL at HR;rw [hacc] at HPT pb1 HMB HR;dsimp only at pb1 HMB HR;have hll:ls.length≤201:=by omega
 have HADD:Hid (∀ wx gd gk ga gx g,PutS w wx gd gk ga gx g key (.slice xA xn xk) (ls,dn)→Calls prog 104 #[.string key,.slice xA xn xk,.pointer (some ⟨g,0,none⟩)] wx fun e w'=>e=.returned (.tuple #[])∧AddS w w' g ((ls.length:Nat)+1) (ls ++ [(key,x)])):=hZz fun wx gd gk ga gx g hs =>
  (put1_any key _ x g _ _ w wx hs.s hx hxn hxl (by
   have:=zc5Y (N:=0) (fun q hq=>(HMB q hq).1)
   rw [mapM_len' _ 0];dsimp only;omega) (by dsimp only;omega)).mono fun e w' ⟨he,ha,_⟩=>⟨he,ha⟩
 have HCHK:Hid (∀ wx u,OVal wx w.heap.size u (mapM ((if dn=true then ls else ls ++ [(key,x)]).length:Nat) (if dn=true then ls else ls ++ [(key,x)]))→Below w.heap.size w wx→Calls prog 80 #[u] wx (RetR wx [u] (okR (mapM ((if dn=true then ls else ls ++ [(key,x)]).length:Nat) (if dn=true then ls else ls ++ [(key,x)]))))):=hZz fun wx u hu hb=>by
  have hmem:∀ q∈(if dn=true then ls else ls ++ [(key,x)]),checkF q.2=0∧q.1.size≤4294967296∧OkV q.2:=fun q hq=>by
   split at hq
   ·exact HMB q hq
   ·rcases List.mem_append.1 hq with h | h
    ·exact HMB q h
    ·have e:q=(key,x):=by simpa using h
     rw [e];exact ⟨hcx,hkl,hox⟩
  have hlen:(if dn=true then ls else ls ++ [(key,x)]).length≤202:=by
   split
   ·omega
   ·rw [List.length_append];simp;omega
  have hok:=mapM_ok (N:=((if dn=true then ls else ls ++ [(key,x)]).length:Nat)) (by omega) (fun q hq=>(hmem q hq).1) (fun q hq=>(hmem q hq).2.1) (fun q hq=>(hmem q hq).2.2) (by omega);exact zbuY _ _ wx (hu.val (by have:=hok.1;omega)) (hp.below hb) hok
 obtain ⟨k,i,s,nn⟩:=c;dsimp only at hk HC0;subst hk;obtain ⟨PF,hPF⟩:∃ t,putF key x (partsOf (⟨6,i,s,nn⟩ :: r))=t:=⟨_,rfl⟩
 clear hck h hx hp ho hox hP c0 c1 c2 c3 hb0 hkl hn hcx HPC HPO HPK HPL hxn hxl pb2 hacc HMB pb1 hll hPF PF;cases dn
 ·rw [if_neg (by simp),show (((ls ++ [(key,x)]).length:Nat):Int)=((ls.length:Nat):Int)+1 by simp] at HR HCHK
  go_enter func55,ntmps55
  go_wp2_with (first
   | (go_at_call 79;first
    | ((with_reducible refine HCK.out.mono ?_);rintro e w1 ⟨rfl,hb1⟩;have HB1:=hZz (zaaZ hb1 HB0.out HB0.out.size);have g0:=((zaaZ hb1 HB0.out HB0.out.size).cell (p:=⟨b,off,none⟩) (bLZ HC0.out)).trans HC0.out;have HK1:=hZz (HK0.out.below hb1);have HX1:=hZz (HX0.out.below hb1);have x1:=(HX0.out.below hb1).cell 0 _ rfl;clear hb1)
    | ((with_reducible refine (HCX.out _ HB1.out).mono ?_);rintro e w2 ⟨rfl,hb2⟩;have HPT2:=hZz (HPT.out w2 (zaaZ hb2 HB1.out HB1.out.size) (HK1.out.below hb2) (HX1.out.below hb2));clear hb2 g0 x1))
   | (go_at_call 105;((with_reducible refine HPT2.out.mono ?_);rintro e w3 ⟨rfl,hs⟩;have d3:=hs.d.cell 0 _ rfl;have k3:=hs.k.cell 0 _ rfl;have a3:=hs.a.cell 0 _ rfl;have x3:=hs.x.cell 0 _ rfl;have HADD3:=hZz (HADD.out w3 _ _ _ _ _ hs);clear hs))
   | (go_at_fn 104;((with_reducible refine HADD3.out.mono ?_);rintro e w4 ⟨rfl,hs⟩;obtain ⟨ov,hgo,hov,hbo,hg0⟩:=hs;obtain ⟨oA,oc,hoe⟩:=zaeZ hov;subst hoe;have o4:=hgo.cell 0 _ rfl;have hov':=hov;have HOV:=hZz hov';have HBO:=hZz hbo;have HC3:=hZz (HCHK.out w4 _ hov' hbo);clear hgo hov hov' hbo hg0))
   | (go_at_call 80;((with_reducible refine HC3.out.mono ?_);rintro e w5 ⟨u5,rfl,hu5⟩;have HU5:=hZz hu5;clear hu5)))
  rw [← HP.out,HR.out];exact RetR.own ⟨u5,rfl,HU5.out⟩ HOV.out HBO.out
 ·rw [if_pos rfl] at HR HCHK
  go_enter func55,ntmps55
  go_wp2_with (first
   | (go_at_call 79;first
    | ((with_reducible refine HCK.out.mono ?_);rintro e w1 ⟨rfl,hb1⟩;have HB1:=hZz (zaaZ hb1 HB0.out HB0.out.size);have g0:=((zaaZ hb1 HB0.out HB0.out.size).cell (p:=⟨b,off,none⟩) (bLZ HC0.out)).trans HC0.out;have HK1:=hZz (HK0.out.below hb1);have HX1:=hZz (HX0.out.below hb1);have x1:=(HX0.out.below hb1).cell 0 _ rfl;clear hb1)
    | ((with_reducible refine (HCX.out _ HB1.out).mono ?_);rintro e w2 ⟨rfl,hb2⟩;have HPT2:=hZz (HPT.out w2 (zaaZ hb2 HB1.out HB1.out.size) (HK1.out.below hb2) (HX1.out.below hb2));clear hb2 g0 x1))
   | (go_at_call 105;((with_reducible refine HPT2.out.mono ?_);rintro e w3 ⟨rfl,hs⟩;obtain ⟨ov,hgo,hov,hbo,hg0⟩:=hs.s;obtain ⟨oA,oc,hoe⟩:=zaeZ hov;subst hoe;have d3:=hs.d.cell 0 _ rfl;have o3:=hgo.cell 0 _ rfl;have HOV:=hZz hov;have HBO:=hZz hbo;have HC3:=hZz (HCHK.out w3 _ hov hbo);clear hgo hov hbo hg0;clear hs))
   | (go_at_call 80;((with_reducible refine HC3.out.mono ?_);rintro e w5 ⟨u5,rfl,hu5⟩;have HU5:=hZz hu5;clear hu5)))
  rw [← HP.out,HR.out];exact RetR.own ⟨u5,rfl,HU5.out⟩ HOV.out HBO.out
end
theorem Tryz.sizeBld:(prog.info? 189).map (fun i=>i.size)=some 2:=by kernel_rfl
set_option maxHeartbeats 1000000 in
theorem ccheck_used (b:Nat) (w:World) (h0:w.cell? ⟨b,0,none⟩=some (.pointer (some ⟨b,0,none⟩))) :
  Calls prog 253 #[.pointer (some ⟨b,0,none⟩)] w fun e w'=>e=.returned (.tuple #[])∧w'=w:=by
 obtain ⟨j,hj,hjs⟩:=Option.map_eq_some_iff.1 Tryz.sizeBld;go_enter func253,ntmps253
 go_wp2
 rw [Lib.run_neq_ptr_same w _ underlying186 hj];go_wp2
 go_end0
 exact ⟨rfl,rfl⟩
set_option maxHeartbeats 1000000 in
theorem ccheck_fresh (b:Nat) (w:World) (h0:w.cell? ⟨b,0,none⟩=some (.pointer none)) (hsh:w.shape? b=some (189,2)) (hfz:w.frozen? ⟨b,0,none⟩=false) :
  Calls prog 253 #[.pointer (some ⟨b,0,none⟩)] w fun e w'=>e=.returned (.tuple #[])∧w'=w.setCell ⟨b,0,none⟩ (.pointer (some ⟨b,0,none⟩)):=by
 obtain ⟨j,hj,hjs⟩:=Option.map_eq_some_iff.1 Tryz.sizeBld;go_enter func253,ntmps253
 go_wp2
 rw [Lib.run_to_unsafe w ⟨b,0,none⟩ underlying186 underlying276 hj (by rw [hjs];decide) hsh (Nat.zero_lt_succ 1)];simp only [Result.andThen];rw [Oper.upon_value];go_wp2
 rw [run_callFunc_extern func281 (by kernel_rfl) (by kernel_rfl) (by kernel_rfl) (e:=Extern.AbiNoEscape.same) (by kernel_rfl)];rw [Lib.run_noEscape];simp only [Result.andThen];rw [Oper.upon_value];go_wp2
 rw [Lib.run_from_unsafe w ⟨b,0,none⟩ underlying276 underlying186 hj hsh (by kernel_rfl)];simp only [Result.andThen];rw [Oper.upon_value];go_wp2
 go_end0
 exact ⟨rfl,rfl⟩
theorem bcc_any (B b:Nat) (bs:List Value) (w:World) (h:Lib.IsBuilderF 189 5 B b bs w) :
  Calls prog 253 #[.pointer (some ⟨b,0,none⟩)] w fun e w'=>e=.returned (.tuple #[])∧(Lib.BuilderAtF 189 5 B b (.pointer (some ⟨b,0,none⟩)) bs w'∧Below B w w'∧Lib.OthersKept 5 (some b) w w'):=by
 rcases h with h | h
 ·refine (ccheck_fresh b w h.cell0 h.shape h.frozen0).mono ?_
  rintro e w' ⟨rfl,rfl⟩;exact ⟨rfl,h.used _,(Below.refl B w).setCell (p:=⟨b,0,none⟩) h.1 _,(Lib.OthersKept.refl _ _ w).setCell ⟨b,0,none⟩ rfl _⟩
 ·refine (ccheck_used b w h.cell0).mono ?_
  rintro e w' ⟨rfl,rfl⟩;exact ⟨rfl,h,Below.refl B _,Lib.OthersKept.refl _ _ _⟩
end Go.Proofs.YtekdhlfapejijaaGreatDoor
