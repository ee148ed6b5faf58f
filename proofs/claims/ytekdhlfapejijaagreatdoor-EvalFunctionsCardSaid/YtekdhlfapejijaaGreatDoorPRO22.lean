/- RO16, RO17, RO18, RO21, RO22 -/
import Derived.Test.YtekdhlfapejijaaGreatDoorPRO15
import Derived.Test.YtekdhlfapejijaaGreatDoorPE45
import Derived.Test.YtekdhlfapejijaaGreatDoorPRO20
set_option linter.unusedVariables false
set_option linter.unusedSimpArgs false
namespace Go.Proofs.YtekdhlfapejijaaGreatDoor
open Go.RowKit
set_option maxRecDepth 100000
set_option maxHeartbeats 8000000
attribute [local go_sem] zacZ
open Go.Proofs.Tryz
theorem fexthas_any (name:ByteArray) (hn:name.toList=[104,97,115]) (a b:ValD) (v:Value) (w:World) (h:ValsV w v [a,b]) (hp:Pow w) (o1:OkV a) (c1:checkF a=0) (c2:checkF b=0) :
  Calls prog 60 #[.string name,v] w (RetV w (builtR [104,97,115] [a,b])):=by
 obtain ⟨P,hP⟩:∃ P:Ending→World→Prop,RetV w (builtR [104,97,115] [a,b])=P:=⟨_,rfl⟩
 rw [hP];have HP:=hZz hP;have t0:(name.toList == [112,117,115,104])=false:=zalZ (by rw [hn];decide);have t1:(name.toList == [104,97,115])=true:=zatY hn;obtain ⟨bR,oR,cap,rfl,hat⟩:=za2Y h (by simp);simp only [List.length_cons,List.length_nil,Nat.zero_add,Nat.reduceAdd] at hat ⊢;obtain ⟨x0,hx0,hv0⟩:=hat 0 (by decide);obtain ⟨x1,hx1,hv1⟩:=hat 1 (by decide);simp only [List.getElem_cons_zero,List.getElem_cons_succ,Nat.add_zero] at hx0 hx1 hv0 hv1
 obtain ⟨x,r,rfl⟩:∃ c r,a=c :: r:=by
  cases a with
  | nil=>exact absurd rfl (zaoZ c1)
  | cons c r=>exact ⟨c,r,rfl⟩
 obtain ⟨y,s,rfl⟩:∃ c r,b=c :: r:=by
  cases b with
  | nil=>exact absurd rfl (zaoZ c2)
  | cons c r=>exact ⟨c,r,rfl⟩
 obtain ⟨bA,oA,n1,k1,rfl,hn1,p0,p1,p2,p3⟩:=zanZ hv0;obtain ⟨bB,oB,n2,k2,rfl,hn2,q0,q1,q2,q3⟩:=zanZ hv1;have hposA:(0:Int)<(n1:Int):=by omega
 have hposB:(0:Int)<(n2:Int):=by omega
 have HG:=hZz (fget_any (x :: r) _ y.str w hv0 hp o1);have HTR:Hid (∀ bb wx,Calls prog 43 #[.bool bb] wx fun e w'=>∃ u,e=.returned u∧ValV w' u [bCel bb]∧FromC wx w' [] u∧Below wx.heap.size wx w'):=hZz ftruth_any;obtain ⟨BR,hBR⟩:∃ t,builtR [104,97,115] [x :: r,y :: s]=t:=⟨_,rfl⟩
 have hU:BR=if x.kind≠6∨y.kind≠4 then ([],7) else ([bCel (decide ((getR (x :: r) y.str).2=0))],0):=by rw [← hBR];rfl
 rw [hBR] at HP;have HU:=hZz hU;obtain ⟨⟨gl,ge⟩,hgr⟩:∃ t,getR (x :: r) y.str=t:=⟨_,rfl⟩
 rw [hgr] at HU HG;clear hn h o1 c1 c2 hp hP hn1 hn2 hBR hU hgr hat hv0 hv1;obtain ⟨k,i,st,nn⟩:=x;obtain ⟨k',i',st',nn'⟩:=y;dsimp only at HU HG p0 p1 p2 p3 q0 q1 q2 q3;by_cases h6:k=6
 case neg =>
  have t6:(k != 6)=true:=by simpa using h6
  have HR:Hid (BR=([],7)):=hZz (by rw [HU.out,if_pos (.inl h6)]);clear HU h6;go_enter func60,ntmps60
  go_wp2_with (fail)
  rw [← HP.out];exact RetV.err HR.out (Below.refl _ _)
 subst h6;by_cases h4:k'=4
 case neg =>
  have t4:(k' != 4)=true:=by simpa using h4
  have HR:Hid (BR=([],7)):=hZz (by rw [HU.out,if_pos (.inr h4)]);clear HU h4;go_enter func60,ntmps60
  go_wp2_with (fail)
  rw [← HP.out];exact RetV.err HR.out (Below.refl _ _)
 subst h4;have HR:Hid (BR=([bCel (decide (ge=0))],0)):=hZz (by rw [HU.out,if_neg (by simp)]);clear HU;by_cases h0:ge=0
 ·subst h0
  go_enter func60,ntmps60
  go_wp2_with (first
   | (go_at_call 64;((with_reducible refine HG.out.mono ?_);rintro e w1 ⟨gv,rfl,hg,hb1⟩;have HB1:=hZz hb1;clear hg hb1))
   | (go_at_call 43;((with_reducible refine (HTR.out _ _).mono ?_);rintro e w5 ⟨u,rfl,hu,hf,hb5⟩;have HU5:=hZz hu;have HB5:=hZz (zadZ hb5 HB1.out);clear hu hf hb5)))
  rw [← HP.out,HR.out];exact ⟨u,rfl,HU5.out,HB5.out⟩
 ·have h0':(ge == 0)=false:=by simpa using h0
  have HR2:Hid (BR=([bCel false],0)):=hZz (by rw [HR.out,decide_eq_false h0]);clear h0 HR;go_enter func60,ntmps60
  go_wp2_with (first
   | (go_at_call 64;((with_reducible refine HG.out.mono ?_);rintro e w1 ⟨gv,rfl,hg,hb1⟩;have HB1:=hZz hb1;clear hg hb1))
   | (go_at_call 43;((with_reducible refine (HTR.out _ _).mono ?_);rintro e w5 ⟨u,rfl,hu,hf,hb5⟩;have HU5:=hZz hu;have HB5:=hZz (zadZ hb5 HB1.out);clear hu hf hb5)))
  rw [← HP.out,HR2.out];exact ⟨u,rfl,HU5.out,HB5.out⟩
theorem fextpush_any (name:ByteArray) (hn:name.toList=[112,117,115,104]) (a b:ValD) (v:Value) (w:World) (h:ValsV w v [a,b]) (hp:Pow w) (o1:OkV a) (o2:OkV b) (c1:checkF a=0) (c2:checkF b=0) :
  Calls prog 60 #[.string name,v] w (RetV w (pushR a b)):=by
 obtain ⟨P,hP⟩:∃ P:Ending→World→Prop,RetV w (pushR a b)=P:=⟨_,rfl⟩
 rw [hP];have HP:=hZz hP;have t0:(name.toList == [112,117,115,104])=true:=zatY hn;obtain ⟨bR,oR,cap,rfl,hat⟩:=za2Y h (by simp);simp only [List.length_cons,List.length_nil,Nat.zero_add,Nat.reduceAdd] at hat ⊢;obtain ⟨x0,hx0,hv0⟩:=hat 0 (by decide);obtain ⟨x1,hx1,hv1⟩:=hat 1 (by decide);simp only [List.getElem_cons_zero,List.getElem_cons_succ,Nat.add_zero] at hx0 hx1 hv0 hv1
 obtain ⟨x,r,rfl⟩:∃ c r,a=c :: r:=by
  cases a with
  | nil=>exact absurd rfl (zaoZ c1)
  | cons c r=>exact ⟨c,r,rfl⟩
 obtain ⟨A1,k1,rfl,hc1,hm1,hs1⟩:=hv0.at;obtain ⟨A2,k2,rfl,hc2,hm2,hs2⟩:=hv1.at;obtain ⟨n1,hn1⟩:∃ n,(x :: r).length=n:=⟨_,rfl⟩
 obtain ⟨n2,hn2⟩:∃ n,b.length=n:=⟨_,rfl⟩
 rw [hn1] at hv0 hc1 hx0;rw [hn2] at hv1 hc2 hx1;obtain ⟨bA,oA,n1',k1',e1,hn1',p0,p1,p2,p3⟩:=zanZ hv0;injection e1 with e1 e2 e3
 subst e1 e2 e3;have hposA:(0:Int)<(n1:Int):=by omega
 obtain ⟨BR,hBR⟩:∃ t,pushR (x :: r) b=t:=⟨_,rfl⟩
 rw [hBR] at HP;have HU0:Hid (x.kind≠5→BR=([],7)):=hZz (fun h=>by rw [← hBR];unfold pushR;simp only;rw [if_neg h]);have HU5:Hid (x.kind=5→BR=limR (⟨5,0,⟨#[]⟩,x.n+1⟩ :: (r ++ b))):=hZz (fun h=>by rw [← hBR];unfold pushR;simp only;rw [if_pos h];exact push_eq c1 c2 (fun c hc=>zabY (o1.2 c hc)) rfl h)
 have HNB:Hid (x.kind=5→(0≤x.n∧x.n≤200∧r.length≤200)∧b.length≤200):=hZz (fun e1=>⟨list_n c1 o1 e1,by
  obtain ⟨_,_,_,_,_,h4,_⟩:=checkF_zero.1 c2;omega⟩)
 have HTA:=hZz (tail_cells hs1);have HRL:Hid (n1=r.length+1∧n2=b.length∧n1≤k1∧n2≤k2):=hZz ⟨by simp only [List.length_cons] at hn1;omega,by omega,hc1,hc2⟩;clear hBR hP hn h;by_cases h5:x.kind=5
 case neg =>
  have HR:=hZz (HU0.out h5);obtain ⟨k,i,st,nn⟩:=x;dsimp only at h5 p0 p1 p2 p3;have t5:(k != 5)=true:=by simpa using h5
  clear HU0 HU5 HNB h5 hp o1 o2 c1 c2 hat hv0 hv1 hs1 hs2 hc1 hc2 hm1 hm2 hn1 hn2 hn1';go_enter func60,ntmps60
  go_wp2_with (fail)
  rw [← HP.out];exact RetV.err HR.out (Below.refl _ _)
 have HR:=hZz (HU5.out h5);obtain ⟨⟨b1,b2,b3⟩,b4⟩:=HNB.out h5
 have HL5:Hid (∀ u wx,Below w.heap.size w wx→ValV wx u (⟨5,0,⟨#[]⟩,x.n+1⟩ :: (r ++ b))→Calls prog 48 #[u] wx (RetR wx [u] (limR (⟨5,0,⟨#[]⟩,x.n+1⟩ :: (r ++ b))))):=hZz (fun u wx hb hv=>zbvY _ u wx hv (hp.below hb) ⟨by
  simp only [List.length_cons,List.length_append];omega,fun c hc=>by
  rcases List.mem_cons.1 hc with rfl | hc
  ·exact ⟨(by show (0:Nat)≤4294967296;decide),⟨(by show (-9223372036854775808:Int)≤0;decide),(by show (0:Int)≤9223372036854775807;decide)⟩,(by show x.n+1≤9223372036854775807;omega)⟩
  ·rcases List.mem_append.1 hc with hc | hc
   ·exact o1.2 c (by simp [hc])
   ·exact o2.2 c hc⟩)
 obtain ⟨bB,oB,e2,hTB⟩:=zdbY hs2 (zaoZ c2);subst e2;have HTB:=hZz hTB;obtain ⟨k,i,st,nn⟩:=x;dsimp only at h5 p0 p1 p2 p3 b1 b2 b3 HR HL5;subst h5;obtain ⟨LR,hLR⟩:∃ t,limR (⟨5,0,⟨#[]⟩,nn+1⟩ :: (r ++ b))=t:=⟨_,rfl⟩
 rw [hLR] at HR HL5;have HB36:=hZz (And.intro b3 b4);have hw:IntKind.i64.wrap (nn+1)=nn+1:=IntWalk.i64_in _ (by omega);have hN7:n1 - 1≤200∧n2≤200:=by have:=HRL.out;omega
 have HN7:=hZz hN7;have HX1:=hZz hx1;obtain ⟨i0,hi,hz0,hz1,hz2⟩:=info_parts Tryz.infoCell;have HO2:Hid ((w.alloc (.cells #[.int .i64 5,.int .i64 0,.string ⟨#[]⟩,.int .i64 (nn+1)] 53)).ownsRow w.heap.size 53 4 (.slice (some ⟨w.heap.size,0,none⟩) 1 1) 1 ([(⟨5,0,⟨#[]⟩,nn+1⟩:CellD)].flatMap CellD.cells)):=hZz (zbqY (l:=[(⟨5,0,⟨#[]⟩,nn+1⟩:CellD)]) (Blk.new w 53 _) (Nat.le_refl _) rfl (by simp));have HB2W:Hid (Below w.heap.size w (w.alloc (.cells #[.int .i64 5,.int .i64 0,.string ⟨#[]⟩,.int .i64 (nn+1)] 53))):=hZz (zabZ _ _);clear HU0 HU5 HNB o1 o2 c1 c2 hat hv0 hv1 hs1 hs2 hc1 hc2 hm1 hm2 hn1 hn1' hn2 b1 b2 b3 b4 hTB hLR hN7 hx1 hp;by_cases hk1:k1=1
 ·subst hk1
  have HZA:Hid (r=[]):=hZz (List.eq_nil_of_length_eq_zero (by have:=HRL.out;omega));go_enter func60,ntmps60
  go_wp2_with (first
   | (at_builtin;refine wpList_append_own _ rfl (.tmp 27) (.tmp 29) 22 rfl w.heap.size 53 i0 _ 4 40 underlying22 hi hz0 hz1 hz2 rfl (by omega) _ 1 _ rfl HO2.out ⟨bA,oA,none⟩ (n1 - 1) _ (r.flatMap CellD.cells) rfl ?k2 ?k3 (zbcY _) ?k5 ?k6 ?k4 ?_;(case k2=>(rw [zawY];have:=HRL.out;omega));(case k3=>(intro j u hu;exact absurd hu (by rw [HZA.out];simp)));(case k5=>(unfold maxLen;have:=HN7.out;omega));(case k6=>(have:=HN7.out;omega));(case k4=>exact HB2W.out.size);intro v8 w8 hown hgr _;obtain ⟨zA8,zc8,hv8⟩:=zaeZ hown;subst hv8;have HO8:=hZz hown;have HB8:=hZz (HB2W.out.grown hgr HB2W.out.size (fun g hg=>(HO2.out.lt g hg).1));clear hown hgr;have g1:=zaiZ HX1.out HB8.out)
   | (at_builtin;refine wpList_append_own _ rfl (.tmp 31) (.tmp 34) 22 rfl w.heap.size 53 i0 _ 4 40 underlying22 hi hz0 hz1 hz2 rfl (by omega) _ (1+(n1 - 1)) _ rfl HO8.out ⟨bB,oB,none⟩ n2 _ (b.flatMap CellD.cells) rfl ?k2 ?k3 (zbcY _) ?k5 ?k6 ?k4 ?_;(case k2=>(rw [zawY];have:=HRL.out;omega));(case k3=>exact HTB.out _ HB8.out);(case k5=>(unfold maxLen;have:=HN7.out;omega));(case k6=>(have:=HN7.out;omega));(case k4=>exact HB8.out.size);intro v9 w9 hown hgr _;obtain ⟨zA9,zc9,hv9⟩:=zaeZ hown;subst hv9;have HO9:=hZz hown;have HB9:=hZz (HB8.out.grown hgr HB8.out.size (fun g hg=>(HO8.out.lt g hg).1));clear hown hgr)
   | (go_at_call 48;have hov:=OVal.more (a:=(⟨5,0,⟨#[]⟩,nn+1⟩:CellD) :: r) (b:=b) HO9.out (by have:=HRL.out;simp only [List.length_cons];omega) (by simp);have hvv:=hov.val (by have:=HB36.out;simp only [List.length_append,List.length_cons];omega);rw [List.cons_append] at hvv;have HVV:=hZz hvv;clear hov hvv;(refine (HL5.out _ _ HB9.out HVV.out).mono ?_);rintro e w5 ⟨u,rfl,hu,hf,hb5⟩;have HU5:=hZz hu;have HD1:=hZz (zaaZ hb5 HB9.out HB9.out.size);clear hu hf hb5))
  rw [← HP.out,HR.out];exact ⟨u,rfl,HU5.out,HD1.out⟩
 ·skip
  go_enter func60,ntmps60
  go_wp2_with (first
   | (at_builtin;refine wpList_append_own _ rfl (.tmp 27) (.tmp 29) 22 rfl w.heap.size 53 i0 _ 4 40 underlying22 hi hz0 hz1 hz2 rfl (by omega) _ 1 _ rfl HO2.out ⟨bA,oA+4,none⟩ (n1 - 1) _ (r.flatMap CellD.cells) rfl ?k2 ?k3 (zbcY _) ?k5 ?k6 ?k4 ?_;(case k2=>(rw [zawY];have:=HRL.out;omega));(case k3=>exact HTA.out _ HB2W.out);(case k5=>(unfold maxLen;have:=HN7.out;omega));(case k6=>(have:=HN7.out;omega));(case k4=>exact HB2W.out.size);intro v8 w8 hown hgr _;obtain ⟨zA8,zc8,hv8⟩:=zaeZ hown;subst hv8;have HO8:=hZz hown;have HB8:=hZz (HB2W.out.grown hgr HB2W.out.size (fun g hg=>(HO2.out.lt g hg).1));clear hown hgr;have g1:=zaiZ HX1.out HB8.out)
   | (at_builtin;refine wpList_append_own _ rfl (.tmp 31) (.tmp 34) 22 rfl w.heap.size 53 i0 _ 4 40 underlying22 hi hz0 hz1 hz2 rfl (by omega) _ (1+(n1 - 1)) _ rfl HO8.out ⟨bB,oB,none⟩ n2 _ (b.flatMap CellD.cells) rfl ?k2 ?k3 (zbcY _) ?k5 ?k6 ?k4 ?_;(case k2=>(rw [zawY];have:=HRL.out;omega));(case k3=>exact HTB.out _ HB8.out);(case k5=>(unfold maxLen;have:=HN7.out;omega));(case k6=>(have:=HN7.out;omega));(case k4=>exact HB8.out.size);intro v9 w9 hown hgr _;obtain ⟨zA9,zc9,hv9⟩:=zaeZ hown;subst hv9;have HO9:=hZz hown;have HB9:=hZz (HB8.out.grown hgr HB8.out.size (fun g hg=>(HO8.out.lt g hg).1));clear hown hgr)
   | (go_at_call 48;have hov:=OVal.more (a:=(⟨5,0,⟨#[]⟩,nn+1⟩:CellD) :: r) (b:=b) HO9.out (by have:=HRL.out;simp only [List.length_cons];omega) (by simp);have hvv:=hov.val (by have:=HB36.out;simp only [List.length_append,List.length_cons];omega);rw [List.cons_append] at hvv;have HVV:=hZz hvv;clear hov hvv;(refine (HL5.out _ _ HB9.out HVV.out).mono ?_);rintro e w5 ⟨u,rfl,hu,hf,hb5⟩;have HU5:=hZz hu;have HD1:=hZz (zaaZ hb5 HB9.out HB9.out.size);clear hu hf hb5))
  rw [← HP.out,HR.out];exact ⟨u,rfl,HU5.out,HD1.out⟩
def keysF (v:ValD):ResD:=match v with
 | []=>([],7)
 | c :: r=>if c.kind=6 then limR (⟨5,0,⟨#[]⟩,((partsOf (c :: r)).length:Nat)⟩ :: (partsOf (c :: r)).map (fun p:ByteArray × ValD=>sCel p.1)) else ([],7)
theorem fcountkeys_any (name:ByteArray) (hn:name.toList=[107,101,121,115]) (a:ValD) (v:Value) (w:World) (h:ValV w v a) (hp:Pow w) (o1:OkV a) (ck:checkF a=0) :
  Calls prog 58 #[.string name,v] w (RetV w (keysF a)):=by
 obtain ⟨P,hP⟩:∃ P:Ending→World→Prop,RetV w (keysF a)=P:=⟨_,rfl⟩
 rw [hP];have HP:=hZz hP;have t0:(name.toList == [107,101,121,115])=true:=zatY hn;have HK0:=fkeys_any a v w h hp o1
 obtain ⟨x,r,rfl⟩:∃ c r,a=c :: r:=by
  cases a with
  | nil=>exact absurd rfl (zaoZ ck)
  | cons c r=>exact ⟨c,r,rfl⟩
 obtain ⟨bA,oA,n1,k1,rfl,hn1,p0,p1,p2,p3⟩:=zanZ h;have hposA:(0:Int)<(n1:Int):=by omega
 by_cases h6:x.kind=6
 case neg =>
  have HR:Hid (keysF (x :: r)=([],7)):=hZz (by unfold keysF;simp only;rw [if_neg h6]);obtain ⟨BR,hBR⟩:∃ t,keysF (x :: r)=t:=⟨_,rfl⟩
  rw [hBR] at HR HP;obtain ⟨k,i,st,nn⟩:=x;dsimp only at h6 p0 p1 p2 p3;have t6:(k != 6)=true:=by simpa using h6
  clear hn h hp o1 ck HK0 hP hBR hn1 h6;go_enter func58,ntmps58
  go_wp2_with (fail)
  rw [← HP.out];exact RetV.err HR.out (Below.refl _ _)
 have hKO:keysOf (x :: r)=((partsOf (x :: r)).map (fun p:ByteArray × ValD=>p.1),0):=by
  unfold keysOf;rw [if_neg (not_not_intro ck)];simp only;rw [if_pos h6]
 have hKR:keysF (x :: r)=limR (⟨5,0,⟨#[]⟩,((partsOf (x :: r)).length:Nat)⟩ :: (partsOf (x :: r)).map (fun p:ByteArray × ValD=>sCel p.1)):=by
  unfold keysF;simp only;rw [if_pos h6]
 have hpl:=zagY o1 ck (.inr h6);have hkl:=zcjY o1 ck h6;obtain ⟨ps,hps⟩:∃ t,partsOf (x :: r)=t:=⟨_,rfl⟩
 rw [hps] at hKO hKR hpl hkl;rw [hKO] at HK0;obtain ⟨N,hN⟩:∃ t,ps.length=t:=⟨_,rfl⟩
 have HN:=hZz hN;have hN200:N≤200:=by omega
 have HK:Hid (Calls prog 108 #[.slice (some ⟨bA,oA,none⟩) n1 k1] w fun e1 w'=>∃ kA kc,e1=.returned (.tuple #[.slice kA N kc,.int .i64 0])∧w'.ownsRow w.heap.size 9 1 (.slice kA N kc) N ((ps.map (fun p:ByteArray × ValD=>p.1)).map Value.string)∧Below w.heap.size w w'):=hZz (HK0.mono fun e1 w' ⟨ov,a,b,c⟩=>by
  obtain ⟨kA,kc,rfl⟩:=zaeZ b;rw [show (List.map (fun p:ByteArray × ValD=>p.1) ps).length=N from by rw [List.length_map,hN]] at a b;exact ⟨kA,kc,a,b,c⟩)
 rw [hN] at hKR;obtain ⟨BR,hBR⟩:∃ t,keysF (x :: r)=t:=⟨_,rfl⟩
 rw [hBR] at hKR HP
 have HL5:Hid (∀ u wx,Below w.heap.size w wx→ValV wx u (⟨5,0,⟨#[]⟩,(N:Nat)⟩ :: ps.map (fun p:ByteArray × ValD=>sCel p.1))→Calls prog 48 #[u] wx (RetR wx [u] (limR (⟨5,0,⟨#[]⟩,(N:Nat)⟩ :: ps.map (fun p:ByteArray × ValD=>sCel p.1))))):=hZz (fun u wx hb hv=>zbvY _ u wx hv (hp.below hb) ⟨by
  simp only [List.length_cons,List.length_map];omega,fun c hc=>by
  rcases List.mem_cons.1 hc with rfl | hc
  ·exact ⟨(by show (0:Nat)≤4294967296;decide),⟨(by show (-9223372036854775808:Int)≤0;decide),(by show (0:Int)≤9223372036854775807;decide)⟩,(by show (N:Int)≤9223372036854775807;omega)⟩
  ·obtain ⟨p,hp1,rfl⟩:=List.mem_map.1 hc
   have:=hkl p hp1
   exact ⟨(by show p.1.size≤_;omega),⟨(by show (-9223372036854775808:Int)≤0;decide),(by show (0:Int)≤9223372036854775807;decide)⟩,(by show (0:Int)≤9223372036854775807;decide)⟩⟩)
 have HKR:=hZz hKR;obtain ⟨LR,hLR⟩:∃ t,limR (⟨5,0,⟨#[]⟩,(N:Nat)⟩ :: ps.map (fun p:ByteArray × ValD=>sCel p.1))=t:=⟨_,rfl⟩
 rw [hLR] at HKR HL5;obtain ⟨i0,hi,hz0,hz1,hz2⟩:=info_parts Tryz.infoCell;obtain ⟨k,i,st,nn⟩:=x;dsimp only at h6 p0 p1 p2 p3;subst h6;clear hn h o1 ck HK0 hP hn1 hKO hKR hpl hps hN hkl hp hBR hLR;go_enter func58,ntmps58
 go_wp2_with (first
  | (go_at_call 108;((with_reducible refine HK.out.mono ?_);rintro e1 w1 ⟨kA,kc,rfl,hk1,hb1⟩;have HB1:=hZz hb1;have HKS:=hZz hk1;clear hb1 hk1)))
 go_loopw [8,9,28] (fun ov u c wr=>∃ K:Nat,K≤N∧c=.int .i64 (K:Nat)∧Hid (wr.ownsRow w1.heap.size 53 4 ov (K+1) (((⟨5,0,⟨#[]⟩,(N:Nat)⟩:CellD) :: (ps.take K).map (fun p:ByteArray × ValD=>sCel p.1)).flatMap CellD.cells))∧Hid (Below w1.heap.size w1 wr)) (fun ov u c _=>N - (intOf c).toNat)
 case atStart=>exact ⟨0,Nat.zero_le _,rfl,hZz (zbqY (l:=[(⟨5,0,⟨#[]⟩,(N:Nat)⟩:CellD)]) (Blk.new w1 53 _) (Nat.le_refl _) rfl (by simp)),hZz (zabZ _ _)⟩
 case round =>
  obtain ⟨K,hKN,rfl,HV,HB⟩:=hrel;have hK0:(0:Int)≤(K:Int):=by omega
  obtain ⟨oB,oc,hov⟩:=zaeZ HV.out;subst hov;have HW1:Hid (w1.heap.size≤wr.heap.size):=hZz HB.out.size;by_cases hlt:K<N
  case neg =>
   have e:K=N:=by omega
   subst e
   have hov:OVal wr w1.heap.size (.slice oB (K+1) oc) (⟨5,0,⟨#[]⟩,(K:Nat)⟩ :: ps.map (fun p:ByteArray × ValD=>sCel p.1)):=by
    have h:=HV.out;rw [List.take_of_length_le (by have:=HN.out;omega)] at h;show wr.ownsRow _ _ 4 (.slice oB (K+1) oc) _ _;rw [List.length_cons,List.length_map,HN.out];exact h
   have HVV:=hZz (hov.val (by rw [List.length_cons,List.length_map,HN.out];omega));have HBW:=hZz (zadZ HB.out HB1.out);have hlt':¬ (K:Int)<(K:Int):=by omega
   clear hov hlt hKN
   go_wp2_with (first
    | (go_at_call 48;(refine (HL5.out _ _ HBW.out HVV.out).mono ?_);rintro e w5 ⟨u,rfl,hu,hf,hb5⟩;have HU5:=hZz hu;have HD1:=hZz (zaaZ hb5 HBW.out HBW.out.size);clear hu hf hb5))
   rw [← HP.out,HKR.out];exact ⟨u,rfl,HU5.out,HD1.out⟩
  have hlt':(K:Int)<(N:Int):=by omega
  have hKp:K<ps.length:=by have:=HN.out;omega
  obtain ⟨g,cp,y,e1,hx,hx2⟩:=own_at0 (zajZ HKS.out HB.out) K hlt (by rw [List.length_map,List.length_map,HN.out]);injection e1 with e1 e2 e3
  subst e1 e3
  have hx3:y=.string ps[K].1:=by
   rw [List.getElem?_map,List.getElem?_map,List.getElem?_eq_getElem hKp] at hx2;exact (Option.some.inj hx2).symm
  subst hx3
  have hT:(ps.take (K+1)).map (fun p:ByteArray × ValD=>sCel p.1)=(ps.take K).map (fun p:ByteArray × ValD=>sCel p.1) ++ [sCel ps[K].1]:=by
   rw [List.take_succ_eq_append_getElem hKp,List.map_append];rfl
  obtain ⟨kk,hkk⟩:∃ z,ps[K].1=z:=⟨_,rfl⟩
  rw [hkk] at hx hT;have HT:=hZz hT;have hw1:IntKind.i64.wrap ((K:Int)+1)=(K:Int)+1:=IntWalk.i64_in _ (by omega);clear hT hkk hKp hx2
  go_wp2_with (first
   | (at_builtin;refine zakZ rfl (.tmp 31) (.tmp 37) 22 rfl i0 _ 40 underlying22 hi hz0 hz1 hz2 rfl (by omega) rfl HV.out [.int .i64 4,.int .i64 0,.string kk,.int .i64 0] rfl rfl (by simp [Value.oneCell']) (by omega) (by omega) HW1.out ?_;intro v4 w4 hown4 hb4 hs4 hg4;have HO4:=hZz hown4;have HB4:=hZz (HB.out.trans hb4);clear hown4 hb4 hs4 hg4))
  refine ⟨⟨K+1,hlt,by simp,hZz ?_,HB4⟩,by simp [intOf];omega⟩
  rw [HT.out,← List.cons_append,List.flatMap_append];exact HO4.out
def txtL (l:List UInt8):Bool:=l.all fun b=>decide (32≤b.toNat) && decide (b.toNat≤126)
theorem za1Y {a b:List UInt8} (ha:txtL a=true) (hb:txtL b=true):txtL (a ++ b)=true:=by
 unfold txtL at *;rw [List.all_append,ha,hb];rfl
theorem txtL_digits (u:Nat):txtL (Lib.decDigits u)=true:=by
 have h1:∀ i,i<10→txtL [UInt8.ofNat (48+i)]=true:=by decide
 induction u using Nat.strongRecOn with
 | _ u ih =>
  by_cases h:u<10
  ·rw [Lib.decDigits,dif_pos h];exact h1 u h
  ·rw [Lib.decDigits,dif_neg h]
   exact za1Y (ih (u / 10) (by omega)) (h1 _ (by omega))
theorem txtL_itoa (n:Int):txtL (Lib.itoa n)=true:=by
 unfold Lib.itoa;split
 ·exact za1Y (a:=[45]) (by decide) (txtL_digits _)
 ·exact txtL_digits _
theorem txtL_quote {s:ByteArray} (h:txtB s=true):txtL (quoteL s)=true:=by
 have:∀ l:List UInt8,txtL l=true→txtL (l.flatMap escL)=true:=by
  intro l;induction l with
  | nil=>intro _;rfl
  | cons c r ih =>
   intro h;unfold txtL at h;rw [List.all_cons,Bool.and_eq_true] at h;rw [List.flatMap_cons];refine za1Y ?_ (ih h.2)
   have h1:txtL [c]=true:=by unfold txtL;rw [List.all_cons,h.1];rfl
   unfold escL;split
   ·exact za1Y (a:=[92]) (by decide) h1
   ·exact h1
 exact za1Y (a:=[34] ++ s.data.toList.flatMap escL) (za1Y (by decide) (this _ h)) (by decide)
theorem txtL_parts {m:Bool} {f:ValD→List UInt8}:∀ (l:List (ByteArray × ValD)) (first:Bool),(∀ p∈l,txtL (f p.2)=true∧(m=true→txtB p.1=true))→txtL (partsL m f first l)=true
 | [],_,_=>rfl
 | p :: r,first,h=>by
  obtain ⟨h1,h2⟩:=h p (by simp);have h3:=txtL_parts r false (fun q hq=>h q (by simp [hq]));simp only [partsL,partL];refine za1Y (by cases first <;> decide) (za1Y (za1Y ?_ h1) h3)
  cases m with
  | true=>exact za1Y (txtL_quote (h2 rfl)) (by decide)
  | false=>rfl
theorem ChainV.txt {v:ValD} {m:Bool} {D:Nat} {B:Int} {a b:Nat} {l:List (ByteArray × ValD)} (h:ChainV v m D B a l b) (hm:m=true):∀ p∈l,txtB p.1=true:=by
 induction h with
 | nil a=>simp
 | cons hp _ ih =>
  obtain ⟨r,hk,_⟩:=hp;rw [if_pos hm] at hk;obtain ⟨c,_,hk4,hpl,he⟩:=hk;intro p hpm;rcases List.mem_cons.1 hpm with rfl | hpm
  ·show txtB _=true
   rw [he];unfold plainB at hpl;rw [if_neg (by omega),if_neg (by omega),if_neg (by omega),if_pos hk4] at hpl;simp only [Bool.and_eq_true] at hpl;exact hpl.2.2
  ·exact ih p hpm
theorem keys_txt {c:CellD} {r:ValD} (ho:OkV (c :: r)) (hck:checkF (c :: r)=0) (hk:c.kind=6):∀ p∈partsOf (c :: r),txtB p.1=true:=by
 obtain ⟨_,_,h3,_⟩:=zacY hck (fun x hx=>zabY (ho.2 x hx)) (c:=c) rfl (.inr hk);exact h3.txt (by simp [hk])
theorem textF_txt:∀ (n:Nat) (v:ValD),checkF v=0→txtL (textF n v)=true
 | 0,v,_=>rfl
 | n+1,v,hck=>by
  cases v with
  | nil=>rfl
  | cons c r =>
   have ho:OkV (c :: r):=zahZ hck;simp only [textF];split
   ·decide
   split
   ·split <;> decide
   split
   ·exact txtL_itoa _
   split
   ·rename_i h4
    exact txtL_quote (txt_of hck h4)
   ·have hk:c.kind=5∨c.kind=6:=by have:=kinds_of hck;omega
    have hpo:=part_ok ho hck hk;have h1:txtL (partsL (decide (c.kind=6)) (textF n) true (partsOf (c :: r)))=true:=txtL_parts _ _ (fun p hp=>⟨textF_txt n p.2 (hpo p hp).2.1,fun hm=>keys_txt ho hck (by simpa using hm) p hp⟩);refine za1Y (a:=[openL c.kind]) ?_ (za1Y h1 ?_)
    ·unfold openL;split <;> decide
    ·unfold closeL;split <;> decide
theorem keysF_eq {v:ValD} (hck:checkF v=0):keysF v=keysR v:=by
 cases v with
 | nil=>rfl
 | cons c r =>
  have ho:OkV (c :: r):=zahZ hck;unfold keysF keysR;simp only
  by_cases hk:c.kind=6
  ·rw [if_pos hk,if_pos hk,listR_eq (fun x hx=>by
    obtain ⟨p,hp,rfl⟩:=List.mem_map.1 hx;exact check_str (keys_txt ho hck hk p hp) (zcjY ho hck hk p hp))]
   unfold listV;rw [List.length_map];congr 2
   induction partsOf (c :: r) with
   | nil=>rfl
   | cons p t ih=>simp [ih]
  ·rw [if_neg hk,if_neg hk]
theorem ftextE (l:ValD) (A:Option Addr) (cap:Nat) (hl:l.length≤1000000) (hok:∀ c∈l,okC c):∀ n,TextE l A cap n
 | 0=>fun p u q _ hu hn=>absurd (List.eq_nil_of_length_eq_zero (Nat.le_zero.1 hn)) (zaoZ hu)
 | n+1=>fun p u q e hu hn wx hp hx x hxx=>by
  cases u with
  | nil=>exact absurd rfl (zaoZ hu)
  | cons c r =>
   by_cases h5:c.kind=5
   ·exact ftext_list l A cap n hl hok (ftextE l A cap hl hok n) p q c r e hu h5 hn wx hp hx x hxx
   by_cases h6:c.kind=6
   ·exact ftext_map l A cap n hl hok (ftextE l A cap hl hok n) p q c r e hu h6 hn wx hp hx x hxx
   obtain ⟨s,h0,_⟩:=checkF_zero.1 hu;obtain ⟨hpb,_⟩:=zcyY (c:=c) h0 rfl;have hcl:l[p.length]? = some c:=by rw [e];simp
   subst hxx;exact ftext_leaf l A cap hl p.length n c r hcl (hok c (List.mem_of_getElem? hcl)) hpb h5 h6 wx hp hx
set_option maxHeartbeats 4000000 in
theorem fencode_any (v:ValD) (x:Value) (w:World) (h:ValV w x v) (hp:Pow w) (hck:checkF v=0) :
  Calls prog 109 #[x] w fun e w'=>e=.returned (.tuple #[.string ⟨(textF v.length v).toArray⟩,.int .i64 0])∧Below w.heap.size w w':=by
 have ho:=zahZ hck;obtain ⟨A,cap,rfl,hcp,hm,hs⟩:=h.at;have HCK0:=zarY v A cap w hs hp ho.1 ho.2;rw [hck] at HCK0;have HCK:=hZz HCK0;have HT:Hid (∀ wx,Below w.heap.size w wx→Calls prog 83 #[.slice A v.length cap,.int .i64 0] wx fun e w'=>e=.returned (.string ⟨(textF v.length v).toArray⟩)∧Below wx.heap.size wx w'):=hZz (fun wx hb=>ftextE v A cap ho.1 ho.2 v.length [] v [] (by simp) hck (Nat.le_refl _) wx (hp.below hb) (hs.below hb) 0 rfl);obtain ⟨T,hT⟩:∃ T:ByteArray,⟨(textF v.length v).toArray⟩=T:=⟨_,rfl⟩
 rw [hT] at HT ⊢;obtain ⟨n,hn⟩:∃ n,v.length=n:=⟨_,rfl⟩
 rw [hn] at HCK HT ⊢;clear h hp ho hck hcp hm hs HCK0 hT hn;go_enter func109,ntmps109
 go_wp2_with (first
  | (go_at_call 34;((with_reducible refine HCK.out.mono ?_);rintro e w1 ⟨rfl,hb1⟩;have HB1:=hZz hb1;clear hb1))
  | (go_at_call 83;((with_reducible refine (HT.out _ HB1.out).mono ?_);rintro e w2 ⟨rfl,hb2⟩;have HB2:=hZz (zadZ hb2 HB1.out);clear hb2)))
 go_returns;exact ⟨rfl,HB2.out⟩
set_option maxHeartbeats 4000000 in
theorem fturnstr_any (name:ByteArray) (hn:name.toList=[115,116,114]) (a:ValD) (v:Value) (w:World) (h:ValV w v a) (hp:Pow w) (ck:checkF a=0) :
  Calls prog 59 #[.string name,v] w (RetV w (textR a)):=by
 obtain ⟨P,hP⟩:∃ P:Ending→World→Prop,RetV w (textR a)=P:=⟨_,rfl⟩
 rw [hP];have HP:=hZz hP;have t0:(name.toList == [115,116,114])=true:=zatY hn
 obtain ⟨x,r,rfl⟩:∃ c r,a=c :: r:=by
  cases a with
  | nil=>exact absurd rfl (zaoZ ck)
  | cons c r=>exact ⟨c,r,rfl⟩
 have ho:OkV (x :: r):=zahZ ck;have HEN:=hZz (fencode_any _ v w h hp ck);have hbd:=textF_bd (x :: r).length ho ck;have htx:=textF_txt (x :: r).length (x :: r) ck;obtain ⟨bA,oA,n1,k1,rfl,hn1,p0,p1,p2,p3⟩:=zanZ h;have hposA:(0:Int)<(n1:Int):=by omega
 have hU:textR (x :: r)=if x.kind=4 then (x :: r,0) else okR [sCel ⟨(textF (x :: r).length (x :: r)).toArray⟩]:=rfl
 obtain ⟨T,hT⟩:∃ T:ByteArray,⟨(textF (x :: r).length (x :: r)).toArray⟩=T:=⟨_,rfl⟩
 rw [hT] at HEN hU;have htb:txtB T=true:=by rw [← hT];exact htx
 have htz:T.size≤86000:=by
  rw [← hT];show (textF (x :: r).length (x :: r)).toArray.size≤86000;rw [List.size_toArray];exact hbd
 rw [okR_str T htb] at hU
 have HL5:Hid (∀ u wx,Below w.heap.size w wx→ValV wx u [sCel T]→Calls prog 48 #[u] wx (RetR wx [u] (limR [sCel T]))):=hZz (fun u wx hb hv=>zbvY _ u wx hv (hp.below hb) ⟨by simp,fun c hc=>by
  have:c=sCel T:=by simpa using hc
  subst this;exact ⟨(by show T.size≤_;omega),⟨(by show (-9223372036854775808:Int)≤0;decide),(by show (0:Int)≤9223372036854775807;decide)⟩,(by show (0:Int)≤9223372036854775807;decide)⟩⟩)
 obtain ⟨BR,hBR⟩:∃ t,textR (x :: r)=t:=⟨_,rfl⟩
 rw [hBR] at hU HP;have HU:=hZz hU;have HV:=hZz h;obtain ⟨LR,hLR⟩:∃ t,limR [sCel T]=t:=⟨_,rfl⟩
 rw [hLR] at HU HL5;clear hn h ck hP hn1 hBR hU hp ho hbd htx hT htb htz hLR;obtain ⟨k,i,st,nn⟩:=x;dsimp only at HU p0 p1 p2 p3;by_cases h4:k=4
 ·subst h4
  have HR:Hid (BR=(⟨4,i,st,nn⟩ :: r,0)):=hZz (by rw [HU.out,if_pos rfl]);clear HU;go_enter func59,ntmps59
  go_wp2_with (fail)
  rw [← HP.out,HR.out];exact ⟨_,rfl,HV.out,Below.refl _ _⟩
 have t4:(k == 4)=false:=by simpa using h4
 have HR:Hid (BR=LR):=hZz (by rw [HU.out,if_neg h4]);clear HU h4;go_enter func59,ntmps59
 go_wp2_with (first
  | (go_at_call 109;((with_reducible refine HEN.out.mono ?_);rintro e w1 ⟨rfl,hb1⟩;have HB1:=hZz hb1;clear hb1))
  | (go_at_call 48;((refine (HL5.out _ _ (HB1.out.alloc HB1.out.size _) (zaiY (c:=sCel T) (Blk.new _ _ _))).mono ?_);rintro e w5 ⟨u,rfl,hu,hf,hb5⟩;have HU5:=hZz hu;have HD1:=hZz (zaaZ hb5 (HB1.out.alloc HB1.out.size _) (HB1.out.alloc HB1.out.size _).size);clear hu hf hb5)))
 rw [← HP.out,HR.out];exact ⟨u,rfl,HU5.out,HD1.out⟩
set_option maxHeartbeats 4000000 in
theorem fchecked_any (l:ValD) (v:Value) (w:World) (h:ValV w v l) (hp:Pow w) (ho:OkV l):Calls prog 211 #[v] w (RetV w (okR l)):=by
 obtain ⟨A,cap,rfl,hc,hm,hs⟩:=h.at;have HV:=hZz h;have HC:=hZz (zarY l A cap w hs hp ho.1 ho.2);obtain ⟨P,hP⟩:∃ P:Ending→World→Prop,RetV w (okR l)=P:=⟨_,rfl⟩
 rw [hP];have HP:=hZz hP;obtain ⟨n,hn⟩:∃ n,l.length=n:=⟨_,rfl⟩
 rw [hn] at HC HV ⊢;have HO:Hid (okR l=if checkF l=0 then (l,0) else ([],checkF l)):=hZz rfl;obtain ⟨ck,hck⟩:∃ c,checkF l=c:=⟨_,rfl⟩
 rw [hck] at HC HO;clear h hP hn hck hs hc hm ho hp;by_cases h0:ck=0
 ·subst h0
  go_enter func211,ntmps211
  go_wp2_with (first
   | (go_at_call 34;(with_reducible refine HC.out.mono ?_);rintro e w1 ⟨rfl,hb1⟩;have HB:=hZz hb1;clear hb1))
  rw [← HP.out,HO.out];exact ⟨_,rfl,HV.out.below HB.out,HB.out⟩
 ·have h1:(ck != 0)=true:=by simpa using h0
  have HO2:Hid (okR l=([],ck)):=hZz (by rw [HO.out,if_neg h0]);clear h0 HO;go_enter func211,ntmps211
  go_wp2_with (first
   | (go_at_call 34;(with_reducible refine HC.out.mono ?_);rintro e w1 ⟨rfl,hb1⟩;have HB:=hZz hb1;clear hb1))
  rw [← HP.out];exact RetV.err HO2.out HB.out
theorem fmap_any (ps:List (ByteArray × ValD)) (vs:List Value) (kA vA:Option Addr) (N kc vc b1 b2:Nat) (w:World) (hN:ps.length=N) (hN3:N≤300) (hk:w.ownsRow b1 9 1 (.slice kA N kc) N ((ps.map fun p:ByteArray × ValD=>p.1).map Value.string)) (hv:w.ownsRow b2 22 1 (.slice vA N vc) N vs) (hvl:vs.length=N) (hvv:∀ i (h:i<vs.length) (h':i<ps.length),ValV w vs[i] ps[i].2) (hp:Pow w) (hc:∀ p∈ps,checkF p.2=0) (hz:∀ p∈ps,p.1.size≤4294967296) :
  Calls prog 157 #[.slice kA N kc,.slice vA N vc] w (RetV w (okR (mapM (N:Nat) ps))):=by
 obtain ⟨P,hP⟩:∃ P:Ending→World→Prop,RetV w (okR (mapM (N:Nat) ps))=P:=⟨_,rfl⟩
 rw [hP];have HP:=hZz hP;obtain ⟨i0,hi,hz0,hz1,hz2⟩:=info_parts Tryz.infoCell;have HN:=hZz hN;have HK:=hZz hk;have HV:=hZz hv;have HVL:=hZz hvl;have HVV:=hZz hvv;have HW:=hZz hp;have HC0:=hZz hc;have hok:OkV (mapM (N:Nat) ps):=mapM_ok (by omega) hc hz (fun p hp=>zahZ (hc p hp)) (by omega);have HFIN:Hid (∀ wx u,Below w.heap.size w wx→ValV wx u (mapM (N:Nat) ps)→Calls prog 211 #[u] wx (RetV wx (okR (mapM (N:Nat) ps)))):=hZz (fun wx u hb hu=>fchecked_any _ u wx hu (hp.below hb) hok);have HOK:Hid ((mapM (N:Nat) ps).length≤1000000):=hZz hok.1;have HB0:=hZz (zabZ w (.cells #[.int .i64 6,.int .i64 0,.string ⟨#[]⟩,.int .i64 N] 53));have HO0:Hid (OVal (w.alloc (.cells #[.int .i64 6,.int .i64 0,.string ⟨#[]⟩,.int .i64 N] 53)) w.heap.size (.slice (some ⟨w.heap.size,0,none⟩) 1 1) (mapM (N:Nat) (ps.take 0))):=hZz (zbqY (l:=mapM (N:Nat) (ps.take 0)) (Blk.new w _ _) (Nat.le_refl _) rfl (by simp [mapM]));have hnn:(N:Int)≤4000:=by omega
 obtain ⟨BR,hBR⟩:∃ t,okR (mapM (N:Nat) ps)=t:=⟨_,rfl⟩
 rw [hBR] at HP HFIN;clear hP hN hk hv hvl hvv hp hc hz hok hBR;go_enter func157,ntmps157
 go_wp2_with (fail)
 go_loopw [6,7,8] (fun o i _ wr=>∃ k:Nat,k≤N∧i=.int .i64 k∧OVal wr w.heap.size o (mapM (N:Nat) (ps.take k))∧Below w.heap.size w wr) (fun _ i _ _=>N - (intOf i).toNat)
 case atStart=>exact ⟨0,Nat.zero_le _,rfl,HO0.out,HB0.out⟩
 case round =>
  obtain ⟨k,hk,rfl,hown,hbel⟩:=hrel;have HB:=hZz hbel;have HOW:=hZz hown;obtain ⟨oA,oc,hov⟩:=zaeZ hown;subst hov;clear hbel hown;have hk0:(0:Int)≤(k:Int):=by omega
  by_cases hlt:k<N
  ·have hlt':(k:Int)<(N:Int):=by omega
   have hkp:k<ps.length:=by rw [HN.out];exact hlt
   obtain ⟨g,cp,y,e1,hx,hx2⟩:=own_at0 HK.out k hlt (by rw [List.length_map,List.length_map,HN.out]);injection e1 with e1 e2 e3
   subst e1 e3
   have hx3:y=.string ps[k].1:=by
    rw [List.getElem?_map,List.getElem?_map,List.getElem?_eq_getElem hkp] at hx2;exact (Option.some.inj hx2).symm
   subst hx3;obtain ⟨g',cp',u,e4,hu,hu2⟩:=own_at0 HV.out k hlt HVL.out;injection e4 with e4 e5 e6
   subst e4 e6;have hkv:k<vs.length:=by rw [HVL.out];exact hlt
   have hvx:ValV w u ps[k].2:=by
    have:=HVV.out k hkv hkp
    rw [List.getElem?_eq_getElem hkv] at hu2;rw [Option.some.inj hu2] at this;exact this
   have hck:=HC0.out ps[k] (List.getElem_mem hkp);obtain ⟨A1,k1,rfl,hc1,hm1,hs1⟩:=hvx.at;have hok:=zahZ hck;have HC:=hZz (zarY ps[k].2 A1 k1 wr (hs1.below HB.out) (HW.out.below HB.out) hok.1 hok.2);rw [hck] at HC;obtain ⟨bX,offX,rfl,hat⟩:=zdbY hs1 (zaoZ hck);have HAT:=hZz hat;have hq200:=len200 hck;have HX:=hZz hx;have HU:=hZz hu;have c0:=zaiZ hu HB.out;have hps:∀ p∈ps.take k,checkF p.2=0:=fun p hp=>HC0.out p (List.mem_of_mem_take hp)
   have hml:(mapM (N:Nat) (ps.take k)).length≤804001:=by
    have:=zc5Y (N:=(N:Nat)) hps
    rw [List.length_take] at this;omega
   have HSN:=hZz (mapM_snoc (N:=(N:Nat)) hkp);have HML:=hZz hml;obtain ⟨s,hsk⟩:∃ s,ps[k].1=s:=⟨_,rfl⟩
   obtain ⟨y2,hy2⟩:∃ s,ps[k].2=s:=⟨_,rfl⟩
   rw [hsk] at HX HSN;rw [hy2] at HC HAT HSN hq200 c0 HU;obtain ⟨q,hq⟩:∃ q,y2.length=q:=⟨_,rfl⟩
   have HQ:=hZz hq;rw [hq] at HC c0 hq200 HU;obtain ⟨M,hM⟩:∃ M,mapM (N:Nat) (ps.take k)=M:=⟨_,rfl⟩
   rw [hM] at HOW HSN HML ⊢;have hbq:(M.length+1+q) * 40≤140737488355328:=by have:=HML.out;omega
   have hbm:M.length+1+q≤maxLen:=by have:=HML.out;unfold maxLen;omega
   have hn6:M.length≤1000000:=by have:=HML.out;omega
   clear hat hM hps hml hx hx2 hu hu2 hvx hck hs1 hc1 hm1 hok hsk hy2 hq hkv hkp
   go_wp2_with (first
    | (go_at_call 34;(with_reducible refine HC.out.mono ?_);rintro e w1 ⟨rfl,hb1⟩;have HB1:=hZz (zaaZ hb1 HB.out HB.out.size);have d1:=zaiZ HX.out HB1.out;have HO1:Hid (w1.ownsRow w.heap.size 53 4 (.slice oA M.length oc) M.length (M.flatMap CellD.cells)):=hZz (zajZ HOW.out hb1);have hsz1:w.heap.size≤w1.heap.size:=HB1.out.size;clear hb1)
    | (at_builtin;refine zakZ rfl (.tmp 32) (.tmp 38) 22 rfl i0 _ 40 underlying22 hi hz0 hz1 hz2 rfl (by omega) rfl HO1.out [.int .i64 4,.int .i64 0,.string s,.int .i64 0] rfl rfl (cells4 _ _ _ _) hn6 (by omega) hsz1 ?_;intro v2 w2 hown2 hb2 hs2 _;have HO2:Hid (w2.ownsRow w.heap.size 53 4 v2 (M.length+1) ((M ++ [sCel s]).flatMap CellD.cells)):=hZz (by rw [List.flatMap_append];exact hown2);have HB2:=hZz (HB1.out.trans hb2);have c2:=zaiZ HU.out HB2.out;clear hown2 hb2 hs2)
    | (at_builtin;refine wpList_append_own _ rfl (.tmp 40) (.tmp 44) 22 rfl w.heap.size 53 i0 _ 4 40 underlying22 hi hz0 hz1 hz2 rfl (by omega) _ (M.length+1) ((M ++ [sCel s]).flatMap CellD.cells) rfl HO2.out ⟨bX,offX,none⟩ q k1 (y2.flatMap CellD.cells) rfl ?k2 ?k3 (zbcY _) hbm hbq ?k4 ?_;(case k2=>rw [zawY,HQ.out]);(case k3=>exact HAT.out w2 HB2.out);(case k4=>exact HB2.out.size);intro v3 w3 hown3 hg3 _;have HO3:=hZz (OVal.more (a:=M ++ [sCel s]) (b:=y2) hown3 (by simp [HQ.out]) rfl);have HB3:=hZz (HB2.out.grown hg3 HB2.out.size (fun g hg=>(HO2.out.lt g hg).1));clear hown3 hg3))
   exact ⟨⟨k+1,by omega,by simp,by rw [HSN.out];exact HO3.out,HB3.out⟩,by simp [intOf];omega⟩
  ·have e:k=N:=by omega
   subst e;have hz:ps.take k=ps:=List.take_of_length_le (by rw [HN.out];exact Nat.le_refl _);rw [hz] at HOW ⊢;have hval:ValV wr (.slice oA (mapM (k:Nat) ps).length oc) (mapM (k:Nat) ps):=HOW.out.val (by have:=HOK.out;omega);have HC:=hZz (HFIN.out _ _ HB.out hval);obtain ⟨M,hM⟩:∃ M,mapM (k:Nat) ps=M:=⟨_,rfl⟩
   rw [hM] at HC ⊢;clear hz hval hM
   go_wp2_with (first
    | (go_at_call 211;(with_reducible refine HC.out.mono ?_);rintro e w1 ⟨u,rfl,hu,hb⟩;have HU:=hZz hu;have HBF:=hZz (zaaZ hb HB.out HB.out.size);clear hu hb))
   rw [← HP.out];exact ⟨u,rfl,HU.out,HBF.out⟩
end Go.Proofs.YtekdhlfapejijaaGreatDoor
