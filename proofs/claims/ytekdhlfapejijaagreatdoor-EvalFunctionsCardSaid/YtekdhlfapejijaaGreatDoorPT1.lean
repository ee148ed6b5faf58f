/- S8, S9, T0, T1 -/
import Derived.Test.YtekdhlfapejijaaGreatDoorPS7
set_option linter.unusedVariables false
set_option linter.unusedSimpArgs false
namespace Go.Proofs.YtekdhlfapejijaaGreatDoor
open Go.RowKit
set_option maxRecDepth 100000
set_option maxHeartbeats 8000000
open Go.Proofs.Tryz
section
theorem idx_any {α:Type} (l:List α) (Q:α→Bool):decide (0≤idxI (l.findIdx? Q))=l.any Q:=by
 rw [Bool.eq_iff_iff,decide_eq_true_iff,List.any_eq_true];cases h:l.findIdx? Q with
 | none =>
  rw [List.findIdx?_eq_none_iff] at h;simp only [idxI];constructor
  ·intro h0;omega
  ·rintro ⟨x,hx,hq⟩
   rw [h x hx] at hq;cases hq
 | some k =>
  rw [List.findIdx?_eq_some_iff_getElem] at h;obtain ⟨h1,h2,_⟩:=h;simp only [idxI];exact ⟨fun _=>⟨_,List.getElem_mem h1,h2⟩,fun _=>by omega⟩
attribute [local go_sem] zacZ
set_option maxHeartbeats 4000000 in
theorem ordered1_s (s:ByteArray) (w:World) (hs:s.size≤4294967296):Calls prog 191 #[.string s] w fun e w'=>e=.returned (.bool (!nameB s))∧w'=w:=by
 have HN:=hZz (name_s s w hs);generalize nameB s=n at HN ⊢;go_enter func191,ntmps191
 go_wp2_with (first
  | (go_at_call 189;(with_reducible refine HN.out.mono ?_);rintro e w1 ⟨rfl,hw1⟩;rw [hw1];clear hw1 w1))
 go_returns;exact ⟨rfl,rfl⟩
def badNames (l:List ByteArray):Bool:=l.any fun s=>!nameB s
theorem all_bad (l:List ByteArray):l.all nameB=!badNames l:=by
 unfold badNames;induction l with
 | nil=>rfl
 | cons a r ih=>simp only [List.all_cons,List.any_cons,ih,Bool.not_or,Bool.not_not]
theorem containsS_s (l:List ByteArray) (A:Option Addr) (cap:Nat) (w:World) (hV:KeysV w (.slice A l.length cap) l) (hl:l.length≤10000) (hs:∀ s∈l,s.size≤4294967296):Calls prog 190 #[.slice A l.length cap,.func (.func 191) #[] #[]] w fun e w'=>e=.returned (.bool (badNames l))∧Below w.heap.size w w':=by
 have hent:∀ args w,(callFunc 191 args).run prog w=.ok (.enter 191 args) w:=enters_of func191 (by kernel_rfl) rfl
 have HC:=hZz (indexS_any l A cap 191 #[] (fun s=>!nameB s) w w hV (Below.refl _ _) hl hent (fun k hk wx hb=>(ordered1_s l[k] wx (hs _ (List.getElem_mem hk))).mono (by rintro e w' ⟨rfl,rfl⟩;exact ⟨rfl,Below.refl _ _⟩)));unfold badNames;rw [← idx_any];generalize idxI (l.findIdx? fun s=>!nameB s)=r at HC ⊢;clear hV hs hent;go_enter func190,ntmps190
 go_wp2_with (first
  | (go_at_call 243;(with_reducible refine HC.out.mono ?_);rintro e w1 ⟨rfl,hb1⟩;have HB1:=hZz hb1;clear hb1))
 go_returns;exact ⟨rfl,HB1.out⟩
set_option maxHeartbeats 16000000 in
theorem ordered_s (S:ProgS) (w:World) (hS:ProgV w S) (hp:Pow w) (hok:NodesOk S.p.nodes) (hnl:S.p.nodes.length≤600) (hfl:S.p.funcs.length≤1000) (hfn:∀ f∈S.p.funcs,f.name.size≤4294967296∧f.params.length≤10000∧∀ s∈f.params,s.size≤4294967296):Calls prog 130 #[S.val] w fun e w'=>e=.returned (.bool (orderedB S.p))∧Below w.heap.size w w':=by
 obtain ⟨A,B,ncap,fcap,p⟩:=S;unfold ProgS.val;dsimp only at hok hnl hfl hfn ⊢;obtain ⟨O,hO⟩:∃ O,orderedF p.nodes p.funcs 0=O:=⟨_,rfl⟩
 have hob:orderedB p=decide (O=some p.nodes.length):=by unfold orderedB;rw [hO]
 rw [hob];obtain ⟨P,hP⟩:∃ P:Ending→World→Prop,(fun e w'=>e=.returned (.bool (decide (O=some p.nodes.length)))∧Below w.heap.size w w')=P:=⟨_,rfl⟩
 rw [hP];have HP:Hid (∀ (b:Bool) w',b=decide (O=some p.nodes.length)→Below w.heap.size w w'→P (.returned (.bool b)) w'):=hZz (fun b w' h1 h2=>by rw [← hP];exact ⟨by rw [h1],h2⟩);have HF:=hZz hS.funcs;have HV:=hZz hS.nodes;have HFN:=hZz hfn;have HFI:Hid (∀ b wx,b<p.nodes.length→Below w.heap.size w wx→Calls prog 192 #[.slice A p.nodes.length ncap,.int .i64 b] wx fun e w'=>e=.returned (.int .i64 (shO (firstF p.nodes 600 b)))∧Below wx.heap.size wx w'):=hZz (fun b wx h1 hb=>first_s p.nodes hok A ncap 600 b wx (by omega) h1 (NodesV.below hS.nodes hb) (hp.below hb));have HO:=hZz hO;have hB1:Below w.heap.size w (w.alloc (.cells #[.slice A p.nodes.length ncap,.slice B p.funcs.length fcap] 38)):=zabZ _ _;have hX1:=Blk.new w 38 #[.slice A p.nodes.length ncap,.slice B p.funcs.length fcap];dsimp only at HF HV;obtain ⟨nn,hnn⟩:∃ n,p.nodes.length=n:=⟨_,rfl⟩
 have HNN:=hZz hnn;obtain ⟨N,hNl⟩:∃ N,p.funcs.length=N:=⟨_,rfl⟩
 have HNL:=hZz hNl;rw [hnn] at hnl HFI hB1 hX1 HP ⊢;rw [hNl] at hfl hB1 hX1 ⊢;obtain ⟨g,hg⟩:∃ g,w.heap.size=g:=⟨_,rfl⟩
 obtain ⟨W1,hW1⟩:∃ W,w.alloc (.cells #[.slice A nn ncap,.slice B N fcap] 38)=W:=⟨_,rfl⟩
 rw [hW1] at hB1 hX1;rw [hg] at hX1;have HB1:=hZz hB1;have HX1:=hZz hX1;have HW1:=hZz hW1;have HG:=hZz hg;clear hO hob hP hS hp hok hfn hnn hNl hg hW1 hB1 hX1;go_enter func130,ntmps130
 go_upto_region 2 with fail
 rw [HG.out,HW1.out];clear HG HW1;have x1:=blk2 HX1.out;go_wp2_with (fail)
 clear x1;go_loopw [3,5,9] (fun sv _ kv wr=>∃ j s:Nat,j≤N∧s≤nn∧kv=.int .i64 j∧sv=.int .i64 s∧Hid (O=orderedF p.nodes (p.funcs.drop j) s)∧Hid (Below w.heap.size w wr)∧Hid (Blk wr g 38 #[.slice A nn ncap,.slice B N fcap])) (fun _ _ kv _=>N - (intOf kv).toNat)
 case atStart=>exact ⟨0,0,Nat.zero_le _,Nat.zero_le _,rfl,rfl,hZz (by rw [← HO.out,List.drop_zero]),HB1,HX1⟩
 case round =>
  obtain ⟨j,s,hj,hs,rfl,rfl,HJ,HB,HX⟩:=hrel;have hj0:(0:Int)≤(j:Int):=by omega
  by_cases hlt:j<N
  ·have hlt':(j:Int)<(N:Int):=by omega
   have hkl:j<p.funcs.length:=by rw [HNL.out];exact hlt
   have hF2:=HF.out.below HB.out;obtain ⟨b,off,kA,kc,rfl,hbk,c0,c1,c2,hkv⟩:=zcnY hF2 hkl;obtain ⟨f,hf⟩:∃ f,p.funcs[j]=f:=⟨_,rfl⟩
   have hm:=HFN.out _ (List.getElem_mem hkl)
   have hjo:O=if funcB p.nodes f s then orderedF p.nodes (p.funcs.drop (j+1)) (f.body.toNat+1) else none:=by
    rw [HJ.out,List.drop_eq_getElem_cons hkl,hf];rfl
   rw [hf] at c0 c1 c2 hkv hm;have HJO:=hZz hjo;have HCN:Hid (∀ wx,Calls prog 189 #[.string f.name] wx fun e w'=>e=.returned (.bool (nameB f.name))∧w'=wx):=hZz (fun wx=>name_s f.name wx hm.1);have HCP:Hid (∀ wx,Below wr.heap.size wr wx→Calls prog 190 #[.slice kA f.params.length kc,.func (.func 191) #[] #[]] wx fun e w'=>e=.returned (.bool (badNames f.params))∧Below wx.heap.size wx w'):=hZz (fun wx hb=>containsS_s f.params kA kc wx (hkv.below hb) hm.2.1 hm.2.2)
   have hfB:funcB p.nodes f s=((nameB f.name && !badNames f.params) && (decide ((s:Int)≤f.body) && (decide (f.body<nn) && (decide ((p.nodes.getD f.body.toNat noNode).kind=19) && decide (firstF p.nodes 600 f.body.toNat=some s))))):=by
    unfold funcB;rw [HNN.out,all_bad]
   have HFB:=hZz hfB;generalize nameB f.name=nb at HCN HFB;generalize badNames f.params=cb at HCP HFB;generalize f.name=x0 at c0 HCN;generalize f.params.length=x1 at c1 HCP;obtain ⟨x2,hx2⟩:∃ x,f.body=x:=⟨_,rfl⟩
   rw [hx2] at c2 HFB HJO;clear hF2 hjo hkv hm hf hfB hx2;have HB2:Hid (∀ o,Below w.heap.size w (wr.alloc o)):=hZz (fun o=>HB.out.alloc HB.out.size o);obtain ⟨gf,hgf⟩:∃ g,wr.heap.size=g:=⟨_,rfl⟩
   obtain ⟨W2,hW2⟩:∃ W,wr.alloc (.cells #[.string x0,.slice kA x1 kc,.int .i64 x2] 89)=W:=⟨_,rfl⟩
   have HBR:Hid (Below wr.heap.size wr W2):=hZz (by rw [← hW2];exact zabZ _ _);have HBW:=hZz (zaaZ HBR.out HB.out HB.out.size);have HX2:=hZz (HX.out.below HBR.out);have HY2:Hid (Blk W2 gf 89 #[.string x0,.slice kA x1 kc,.int .i64 x2]):=hZz (by rw [← hW2,← hgf];exact Blk.new _ _ _);have HW2:=hZz hW2;have HGF:=hZz hgf;clear hW2 hgf;have c3:=blk2 HX.out;go_upto_region 5 with fail
   rw [HGF.out,HW2.out];clear HGF HW2 c0 c1 c2 c3;have y0:=HY2.out.cell 0 _ rfl;have y1:=HY2.out.cell 1 _ rfl;cases nb with
   | false =>
    go_wp2_with (first
     | (go_at_call 189;(with_reducible refine (HCN.out _).mono ?_);rintro e w4 ⟨rfl,hw4⟩;rw [hw4];clear hw4 w4))
    exact HP.out _ _ (by rw [HJO.out,HFB.out];simp) HBW.out
   | true =>
    cases cb with
    | true =>
     go_wp2_with (first
      | (go_at_call 189;(with_reducible refine (HCN.out _).mono ?_);rintro e w4 ⟨rfl,hw4⟩;rw [hw4];clear hw4 w4)
      | (go_at_call 190;(with_reducible refine (HCP.out _ HBR.out).mono ?_);rintro e w5 ⟨rfl,hb5⟩;have HB5:=hZz (zaaZ hb5 HBW.out HBW.out.size);clear hb5))
     exact HP.out _ _ (by rw [HJO.out,HFB.out];simp) HB5.out
    | false =>
     go_upto_region 7 with (first
      | (go_at_call 189;(with_reducible refine (HCN.out _).mono ?_);rintro e w4 ⟨rfl,hw4⟩;rw [hw4];clear hw4 w4)
      | (go_at_call 190;(with_reducible refine (HCP.out _ HBR.out).mono ?_);rintro e w5 ⟨rfl,hb5⟩;have HB5:=hZz (zaaZ hb5 HBW.out HBW.out.size);have HX5:=hZz (HX2.out.below hb5);have HY5:=hZz (HY2.out.below hb5);clear hb5))
     clear y0 y1;have z0:=HX5.out.cell 0 _ rfl;have z2:=HY5.out.cell 2 _ rfl;by_cases e1:x2<(s:Int)
     ·go_wp2_with (fail)
      exact HP.out _ _ (by rw [HJO.out,HFB.out];simp;omega) HB5.out
     by_cases e2:(nn:Int)≤x2
     ·go_wp2_with (fail)
      exact HP.out _ _ (by rw [HJO.out,HFB.out];simp;omega) HB5.out
     obtain ⟨q,rfl⟩:∃ q:Nat,x2=(q:Int):=⟨x2.toNat,by omega⟩
     have hql:q<p.nodes.length:=by rw [HNN.out];omega
     have hV2:=HV.out.below HB5.out;obtain ⟨bN,offN,_,_,_,_,rfl,hbN2,d0,hdead⟩:=zc2Y hV2 hql;have hql':(q:Int)<(nn:Int):=by omega
     have hq0:(0:Int)≤(q:Int):=by omega
     have HKK:Hid ((p.nodes.getD ((q:Int)).toNat noNode).kind=(p.nodes[q]).kind):=hZz (by rw [Int.toNat_natCast,zafY hql]);clear hdead hV2;generalize (p.nodes[q]).kind=kk at d0 HKK;by_cases e3:kk=19
     rotate_left
     ·have e3':(kk != 19)=true:=by simp [e3]
      go_wp2_with (fail)
      exact HP.out _ _ (by rw [HJO.out,HFB.out,HKK.out];simp [e3]) HB5.out
     subst e3;obtain ⟨R,hR⟩:∃ R,firstF p.nodes 600 q=R:=⟨_,rfl⟩
     have HCF:Hid (∀ wx,Below w.heap.size w wx→Calls prog 192 #[.slice (some ⟨bN,offN,none⟩) nn ncap,.int .i64 q] wx fun e w'=>e=.returned (.int .i64 (shO R))∧Below wx.heap.size wx w'):=hZz (fun wx hb=>by rw [← hR];exact HFI.out q wx (by omega) hb)
     have HRR:Hid (funcB p.nodes f s=decide (R=some s)):=hZz (by
      rw [HFB.out,HKK.out,Int.toNat_natCast,hR,decide_eq_true (show (s:Int)≤q by omega),decide_eq_true (show (q:Int)<nn by omega)];simp)
     clear hR;by_cases e4:R=some s
     ·subst e4
      simp only [shO] at HCF
      go_wp2_with (first
       | (go_at_call 192;(with_reducible refine (HCF.out _ HB5.out).mono ?_);rintro e w6 ⟨rfl,hb6⟩;have HB6:=hZz (zaaZ hb6 HB5.out HB5.out.size);have HX6:=hZz (HX5.out.below hb6);have z6:=HY5.out.below hb6;have z7:=z6.cell 2 _ rfl;clear hb6 z6))
      exact ⟨⟨j+1,q+1,by omega,by omega,by simp,by simp,hZz (by rw [HJO.out,HRR.out];simp),HB6,HX6⟩,by simp [intOf];omega⟩
     ·have hne:(shO R != (s:Int))=true:=by
       cases R with
       | none=>first | (simp [shO];done) | (simp [shO];omega)
       | some r =>
        have:r≠s:=fun h=>e4 (by rw [h])
        first | (simp [shO];done) | (simp [shO];omega)
      have HE4:=hZz e4;generalize shO R=rr at HCF hne
      go_wp2_with (first
       | (go_at_call 192;(with_reducible refine (HCF.out _ HB5.out).mono ?_);rintro e w6 ⟨rfl,hb6⟩;have HB6:=hZz (zaaZ hb6 HB5.out HB5.out.size);clear hb6))
      exact HP.out _ _ (by rw [HJO.out,HRR.out];simp [HE4.out]) HB6.out
  ·have e:j=N:=by omega
   subst e;have x1:=blk2 HX.out;go_wp2_with (fail)
   refine HP.out _ _ ?_ HB.out
   rw [HJ.out,← HNL.out,List.drop_length];simp only [orderedF];rw [Bool.eq_iff_iff];simp
   try omega
end
section
structure ProgOk (p:ProgD):Prop where
 nodes:NodesOk p.nodes
 funcs:p.funcs.length≤1000
 fn:∀ f∈p.funcs,f.name.size≤4294967296∧f.params.length≤10000∧∀ s∈f.params,s.size≤4294967296
attribute [local go_sem] zacZ
theorem check1_s (n:ByteArray) (kA:Option Addr) (m kc:Nat) (body:Int) (w:World):Calls prog 132 #[.agg #[.string n,.slice kA m kc,.int .i64 body]] w fun e w'=>e=.returned (.bool (decide (8<m)))∧Below w.heap.size w w':=by
 have HB:=hZz (zabZ w (.cells #[.string n,.slice kA m kc,.int .i64 body] 89));have HD:Hid (decide ((8:Int)<(m:Int))=decide (8<m)):=hZz (by rw [Bool.eq_iff_iff];simp;omega);rw [← HD.out];clear HD;go_enter func132,ntmps132
 go_wp2
 go_returns;exact ⟨by rfl,HB.out⟩
def manyP (l:List FuncD):Bool:=l.any fun f=>decide (8<f.params.length)
theorem containsF_s (l:List FuncD) (A:Option Addr) (cap:Nat) (w:World) (hV:FuncsV w (.slice A l.length cap) l) (hl:l.length≤10000):Calls prog 131 #[.slice A l.length cap,.func (.func 132) #[] #[]] w fun e w'=>e=.returned (.bool (manyP l))∧Below w.heap.size w w':=by
 have hent:∀ args w,(callFunc 132 args).run prog w=.ok (.enter 132 args) w:=enters_of func132 (by kernel_rfl) rfl
 have HC:=hZz (zc6Y l A cap 132 #[] (fun f=>decide (8<f.params.length)) w w hV (Below.refl _ _) hl hent (fun k hk wx kA kc hb=>check1_s _ kA _ kc _ wx));unfold manyP;rw [← idx_any];generalize idxI (l.findIdx? fun f=>decide (8<f.params.length))=r at HC ⊢;clear hV hent;go_enter func131,ntmps131
 go_wp2_with (first
  | (go_at_call 69;(with_reducible refine HC.out.mono ?_);rintro e w1 ⟨rfl,hb1⟩;have HB1:=hZz hb1;clear hb1))
 go_returns;exact ⟨rfl,HB1.out⟩
theorem check_s (S:ProgS) (w:World) (hS:ProgV w S) (hp:Pow w) (hok:ProgOk S.p):Calls prog 78 #[S.val] w fun e w'=>e=.returned (.int .i64 (synF S.p))∧Below w.heap.size w w':=by
 obtain ⟨R,hR⟩:∃ R,synF S.p=R:=⟨_,rfl⟩
 rw [hR];obtain ⟨P,hP⟩:∃ P:Ending→World→Prop,(fun e w'=>e=.returned (.int .i64 R)∧Below w.heap.size w w')=P:=⟨_,rfl⟩
 rw [hP];have HP:Hid (∀ (b:Int) w',b=R→Below w.heap.size w w'→P (.returned (.int .i64 b)) w'):=hZz (fun b w' h1 h2=>by rw [← hP];exact ⟨by rw [h1],h2⟩);have HR:Hid (R=if 600<S.p.nodes.length∨16<S.p.funcs.length then 3 else if orderedB S.p=false then 1 else if manyP S.p.funcs=true∨32<deepF S.p then 3 else 0):=hZz hR.symm;have HOR:Hid (S.p.nodes.length≤600→∀ wx,Below w.heap.size w wx→Calls prog 130 #[S.val] wx fun e w'=>e=.returned (.bool (orderedB S.p))∧Below wx.heap.size wx w'):=hZz (fun h wx hb=>ordered_s S wx (hS.below hb) (hp.below hb) hok.nodes h hok.funcs hok.fn);have HCF:Hid (∀ wx,Below w.heap.size w wx→Calls prog 131 #[.slice S.B S.p.funcs.length S.fcap,.func (.func 132) #[] #[]] wx fun e w'=>e=.returned (.bool (manyP S.p.funcs))∧Below wx.heap.size wx w'):=hZz (fun wx hb=>containsF_s S.p.funcs S.B S.fcap wx (FuncsV.below hS.funcs hb) (by have:=hok.funcs;omega))
 have HDP:Hid (orderedB S.p=true→∀ wx,Below w.heap.size w wx→Calls prog 133 #[S.val] wx fun e w'=>e=.returned (.int .i64 (deepF S.p:Nat))∧Below wx.heap.size wx w'):=hZz (fun ho wx hb=>deep_s S wx (hS.below hb) hok.nodes (fun k hk=>by
  have h5:=(orderedF_at _ _ _ (of_decide_eq_true ho)).1 k hk;obtain ⟨b,hb⟩:=funcB_ok h5;exact ⟨b,_,hb.body,hb.lt,hb.first⟩) hok.funcs)
 unfold ProgS.val at HOR HDP ⊢;have HBN:Hid (∀ o,Below w.heap.size w (w.alloc o)):=hZz (fun o=>zabZ w o);have HXN:Hid (∀ c0 c1,(w.alloc (.cells #[c0,c1] 38)).cell? ⟨w.heap.size,0,none⟩=some c0∧(w.alloc (.cells #[c0,c1] 38)).cell? ⟨w.heap.size,1,none⟩=some c1):=hZz (fun c0 c1=>blk2 (Blk.new w _ _));generalize S.p.nodes.length=nn at HR HOR HDP ⊢;generalize S.p.funcs.length=nf at HR HOR HCF HDP ⊢;generalize orderedB S.p=ob at HR HOR HDP;generalize manyP S.p.funcs=mb at HR HCF;generalize deepF S.p=dn at HR HDP;clear hR hP hS hp hok;go_enter func78,ntmps78
 obtain ⟨g,hg⟩:∃ g,w.heap.size=g:=⟨_,rfl⟩
 obtain ⟨W1,hW1⟩:∃ W,w.alloc (.cells #[.slice S.A nn S.ncap,.slice S.B nf S.fcap] 38)=W:=⟨_,rfl⟩
 have HX1:Hid (Blk W1 g 38 #[.slice S.A nn S.ncap,.slice S.B nf S.fcap]):=hZz (by rw [← hW1,← hg];exact Blk.new _ _ _);have HB1:Hid (Below w.heap.size w W1):=hZz (by rw [← hW1];exact zabZ _ _);have HW1:=hZz hW1;have HG:=hZz hg;clear HBN HXN hW1 hg;go_upto_region 1 with fail
 rw [HG.out,HW1.out];clear HG HW1;have x1:=blk2 HX1.out;by_cases e1:(600:Int)<(nn:Int)
 ·go_wp2_with (fail)
  exact HP.out _ _ (by rw [HR.out,if_pos (.inl (by omega))]) HB1.out
 by_cases e2:(16:Int)<(nf:Int)
 ·go_wp2_with (fail)
  exact HP.out _ _ (by rw [HR.out,if_pos (.inr (by omega))]) HB1.out
 have HR2:Hid (R=if ob=false then 1 else if mb=true∨32<dn then 3 else 0):=hZz (by rw [HR.out,if_neg (by omega)]);have HOR2:=hZz (HOR.out (by omega) W1 HB1.out);clear HR HOR;cases ob with
 | false =>
  go_wp2_with (first
   | (go_at_call 130;(with_reducible refine HOR2.out.mono ?_);rintro e w2 ⟨rfl,hb2⟩;have HB2:=hZz (zaaZ hb2 HB1.out HB1.out.size);clear hb2))
  exact HP.out _ _ (by rw [HR2.out];rfl) HB2.out
 | true =>
  have HDP2:=hZz (HDP.out rfl);clear HDP;have HR3:Hid (R=if mb=true∨32<dn then 3 else 0):=hZz (by rw [HR2.out];rfl);clear HR2;cases mb with
  | true =>
   go_wp2_with (first
    | (go_at_call 130;(with_reducible refine HOR2.out.mono ?_);rintro e w2 ⟨rfl,hb2⟩;have HB2:=hZz (zaaZ hb2 HB1.out HB1.out.size);have HX2:=hZz (HX1.out.below hb2);have x2:=blk2 HX2.out;clear hb2 x1)
    | (go_at_call 131;(with_reducible refine (HCF.out _ HB2.out).mono ?_);rintro e w3 ⟨rfl,hb3⟩;have HB3:=hZz (zaaZ hb3 HB2.out HB2.out.size);have HX3:=hZz (HX2.out.below hb3);have x3:=blk2 HX3.out;clear hb3 x2))
   exact HP.out _ _ (by rw [HR3.out];rfl) HB3.out
  | false =>
   by_cases e3:(32:Int)<(dn:Int)
   all_goals
    go_wp2_with (first
     | (go_at_call 130;(with_reducible refine HOR2.out.mono ?_);rintro e w2 ⟨rfl,hb2⟩;have HB2:=hZz (zaaZ hb2 HB1.out HB1.out.size);have HX2:=hZz (HX1.out.below hb2);have x2:=blk2 HX2.out;clear hb2 x1)
     | (go_at_call 131;(with_reducible refine (HCF.out _ HB2.out).mono ?_);rintro e w3 ⟨rfl,hb3⟩;have HB3:=hZz (zaaZ hb3 HB2.out HB2.out.size);have HX3:=hZz (HX2.out.below hb3);have x3:=blk2 HX3.out;clear hb3 x2)
     | (go_at_call 133;(with_reducible refine (HDP2.out _ HB3.out).mono ?_);rintro e w4 ⟨rfl,hb4⟩;have HB4:=hZz (zaaZ hb4 HB3.out HB3.out.size);clear hb4))
    exact HP.out _ _ (by rw [HR3.out];first | rw [if_pos (.inr (by omega))] | rw [if_neg (by rintro (h | h);cases h;omega)]) HB4.out
end
section
theorem set_cells {α:Type} (f:α→Value) (l:List α) (i:Nat) (v:α):((l.map f).toArray).setIfInBounds i (f v)=((l.set i v).map f).toArray:=by
 apply Array.ext'
 simp [List.map_set]
def intC (n:Int):Value:=.int .i64 n
structure ScSt (w:World) (S:ProgS) (gS gm gs ge:Nat) (D:ScD):Prop where
 sc:Blk w gS 203 #[.slice S.A S.p.nodes.length S.ncap,.slice S.B S.p.funcs.length S.fcap,.map (some gm),.int .i64 D.next,.slice (some ⟨gs,0,none⟩) S.p.nodes.length S.p.nodes.length,.slice (some ⟨ge,0,none⟩) S.p.nodes.length S.p.nodes.length]
 mp:MapAt w gm Value.string (Value.int .i64) D.vis
 sl:Blk w gs 3 (D.slots.map intC).toArray
 er:Blk w ge 25 (D.errs.map intC).toArray
 sll:D.slots.length=S.p.nodes.length
 erl:D.errs.length=S.p.nodes.length
abbrev L4 (gS gm gs ge:Nat):List Nat:=[gS,gm,gs,ge]
theorem blkT_ne {w:World} {g g':Nat} {t t':TypeId} {cs cs':Array Value} (h:Blk w g t cs) (h':Blk w g' t' cs') (hne:t≠t'):g≠g':=by
 rintro rfl;unfold Blk at h h';rw [h] at h';injection h' with h'
 injection h' with _ e
 exact hne e
section
variable {w w':World} {S:ProgS} {gS gm gs ge:Nat} {D:ScD}
theorem ScSt.below (h:ScSt w S gS gm gs ge D) (hb:Below w.heap.size w w'):ScSt w' S gS gm gs ge D:=⟨h.sc.below hb,h.mp.below' hb,h.sl.below hb,h.er.below hb,h.sll,h.erl⟩
theorem ScSt.n1 (h:ScSt w S gS gm gs ge D):gS≠gs:=blkT_ne h.sc h.sl (by decide)
theorem ScSt.n2 (h:ScSt w S gS gm gs ge D):gS≠ge:=blkT_ne h.sc h.er (by decide)
theorem ScSt.n3 (h:ScSt w S gS gm gs ge D):gs≠ge:=blkT_ne h.sl h.er (by decide)
theorem ScSt.m1 (h:ScSt w S gS gm gs ge D):gS≠gm:=fun e=>h.sc.ne_map h.mp (by rw [e])
theorem ScSt.m2 (h:ScSt w S gS gm gs ge D):gs≠gm:=fun e=>h.sl.ne_map h.mp (by rw [e])
theorem ScSt.m3 (h:ScSt w S gS gm gs ge D):ge≠gm:=fun e=>h.er.ne_map h.mp (by rw [e])
theorem ScSt.setNext (h:ScSt w S gS gm gs ge D) (n:Int):ScSt (w.setCell ⟨gS,3,none⟩ (.int .i64 n)) S gS gm gs ge ⟨D.vis,n,D.slots,D.errs⟩ :=
 ⟨h.sc.set_ 3 _,h.mp.setCell _ _ h.m1,h.sl.far (fun e=>h.n1 e.symm) _,h.er.far (fun e=>h.n2 e.symm) _,h.sll,h.erl⟩
theorem ScSt.setSlot (h:ScSt w S gS gm gs ge D) (i:Nat) (n:Int):ScSt (w.setCell ⟨gs,i,none⟩ (.int .i64 n)) S gS gm gs ge ⟨D.vis,D.next,D.slots.set i n,D.errs⟩ :=
 ⟨h.sc.far h.n1 _,h.mp.setCell _ _ h.m2,by rw [← set_cells];exact h.sl.set_ i _,h.er.far (fun e=>h.n3 e.symm) _,by simpa using h.sll,h.erl⟩
theorem ScSt.setErr (h:ScSt w S gS gm gs ge D) (i:Nat) (n:Int):ScSt (w.setCell ⟨ge,i,none⟩ (.int .i64 n)) S gS gm gs ge ⟨D.vis,D.next,D.slots,D.errs.set i n⟩ :=
 ⟨h.sc.far h.n2 _,h.mp.setCell _ _ h.m3,h.sl.far h.n3 _,by rw [← set_cells];exact h.er.set_ i _,h.sll,by simpa using h.erl⟩
theorem ScSt.setVis {v:List (ByteArray × Int)} (h:ScSt w S gS gm gs ge D) (hm:MapAt w' gm Value.string (Value.int .i64) v) (hg:w.grownBy w' (some gm)):ScSt w' S gS gm gs ge ⟨v,D.next,D.slots,D.errs⟩ :=
 ⟨h.sc.grown hg (fun e=>h.m1 (by injection e)),hm,h.sl.grown hg (fun e=>h.m2 (by injection e)),h.er.grown hg (fun e=>h.m3 (by injection e)),h.sll,h.erl⟩
theorem blk6 {g:Nat} {t:TypeId} {v0 v1 v2 v3 v4 v5:Value} (h:Blk w g t #[v0,v1,v2,v3,v4,v5]):w.cell? ⟨g,0,none⟩=some v0∧w.cell? ⟨g,1,none⟩=some v1∧w.cell? ⟨g,2,none⟩=some v2∧w.cell? ⟨g,3,none⟩=some v3∧w.cell? ⟨g,4,none⟩=some v4∧w.cell? ⟨g,5,none⟩=some v5 :=
 ⟨h.cell 0 _ rfl,h.cell 1 _ rfl,h.cell 2 _ rfl,h.cell 3 _ rfl,h.cell 4 _ rfl,h.cell 5 _ rfl⟩
theorem ScSt.cells (h:ScSt w S gS gm gs ge D):w.cell? ⟨gS,0,none⟩=some (.slice S.A S.p.nodes.length S.ncap)∧w.cell? ⟨gS,1,none⟩=some (.slice S.B S.p.funcs.length S.fcap)∧w.cell? ⟨gS,2,none⟩=some (.map (some gm))∧w.cell? ⟨gS,3,none⟩=some (.int .i64 D.next)∧w.cell? ⟨gS,4,none⟩=some (.slice (some ⟨gs,0,none⟩) S.p.nodes.length S.p.nodes.length)∧w.cell? ⟨gS,5,none⟩=some (.slice (some ⟨ge,0,none⟩) S.p.nodes.length S.p.nodes.length):=blk6 h.sc
theorem ScSt.slot (h:ScSt w S gS gm gs ge D) {i:Nat} (hi:i<S.p.nodes.length):w.cell? ⟨gs,i,none⟩=some (.int .i64 (D.slots.getD i 0)):=by
 have hi':i<D.slots.length:=by rw [h.sll];exact hi
 refine h.sl.cell i _ ?_
 rw [zafY hi'];simp [hi',intC]
theorem ScSt.err (h:ScSt w S gS gm gs ge D) {i:Nat} (hi:i<S.p.nodes.length):w.cell? ⟨ge,i,none⟩=some (.int .i64 (D.errs.getD i 0)):=by
 have hi':i<D.errs.length:=by rw [h.erl];exact hi
 refine h.er.cell i _ ?_
 rw [zafY hi'];simp [hi',intC]
theorem ScSt.gl_below {w0:World} (hg:GL (L4 gS gm gs ge) w w') (hb:Below w0.heap.size w0 w) (h1:w0.heap.size≤gS) (h2:w0.heap.size≤gm) (h3:w0.heap.size≤gs) (h4:w0.heap.size≤ge):Below w0.heap.size w0 w' :=
 hg.bel hb hb.size (by intro g h;simp only [List.mem_cons,List.not_mem_nil,or_false] at h;omega)
end
attribute [local go_sem] zacZ
set_option maxHeartbeats 16000000 in
theorem let_s (S:ProgS) (gS gm gs ge:Nat) (D:ScD) (w:World) (i:Nat) (s:ByteArray) (h:ScSt w S gS gm gs ge D) (hi:i<S.p.nodes.length) (hnl:S.p.nodes.length≤1000) (hn:0≤D.next∧D.next≤100000):Calls prog 215 #[.pointer (some ⟨gS,0,none⟩),.int .i64 i,.string s] w fun e w'=>e=.returned (.tuple #[])∧ScSt w' S gS gm gs ge (letF D i s)∧GL (L4 gS gm gs ge) w w':=by
 obtain ⟨R,hR⟩:∃ R,letF D i s=R:=⟨_,rfl⟩
 rw [hR];obtain ⟨P,hP⟩:∃ P:Ending→World→Prop,(fun e w'=>e=.returned (.tuple #[])∧ScSt w' S gS gm gs ge R∧GL (L4 gS gm gs ge) w w')=P:=⟨_,rfl⟩
 rw [hP];have HP:Hid (∀ w',ScSt w' S gS gm gs ge R→GL (L4 gS gm gs ge) w w'→P (.returned (.tuple #[])) w'):=hZz (fun w' h1 h2=>by rw [← hP];exact ⟨rfl,h1,h2⟩);obtain ⟨nx,hnx⟩:∃ n,D.next=n:=⟨_,rfl⟩
 obtain ⟨r,hr⟩:∃ r,alGet D.vis s=r:=⟨_,rfl⟩
 have HR:Hid (R=if r.isSome=true then ⟨D.vis,nx+1,D.slots.set i nx,D.errs.set i 6⟩ else if nx=32 then ⟨D.vis,nx+1,D.slots.set i nx,D.errs.set i 3⟩ else ⟨alSet D.vis s nx,nx+1,D.slots.set i nx,D.errs⟩):=hZz (by rw [← hR];unfold letF;rw [hr,hnx]);have HH:=hZz h;have HI:=hZz hi;have HRR:=hZz hr;obtain ⟨c0,c1,c2,c3,c4,c5⟩:=h.cells;rw [hnx] at c3 hn;have z3:=h.sc.frozen 3;obtain ⟨nn,hnn⟩:∃ n,S.p.nodes.length=n:=⟨_,rfl⟩
 rw [hnn] at hi hnl c0 c4 c5;have HNN:=hZz hnn;have hi':(i:Int)<(nn:Int):=by omega
 have hi0:(0:Int)≤(i:Int):=by omega
 clear hR hP h hr hnn hnx;go_enter func215,ntmps215
 go_upto_region 2 with fail
 obtain ⟨W1,hW1⟩:∃ W,w.setCell ⟨gS,3,none⟩ (.int .i64 (nx+1))=W:=⟨_,rfl⟩
 have HS1:=hZz (HH.out.setNext (nx+1));have HG1:Hid (GL (L4 gS gm gs ge) w W1):=hZz (by rw [← hW1];exact (GL.refl _ _).setCell (by simp) _ _);rw [hW1] at HS1 ⊢;clear hW1 c0 c1 c2 c3 c4 c5 z3;obtain ⟨c0,c1,c2,c3,c4,c5⟩:=HS1.out.cells;rw [HNN.out] at c0 c4 c5;have z1:=HS1.out.sl.frozen i;have d1:=HS1.out.slot HI.out;go_upto_region 3 with fail
 obtain ⟨W2,hW2⟩:∃ W,W1.setCell ⟨gs,i,none⟩ (.int .i64 nx)=W:=⟨_,rfl⟩
 have HS2:=hZz (HS1.out.setSlot i nx);have HG2:Hid (GL (L4 gS gm gs ge) w W2):=hZz (by rw [← hW2];exact HG1.out.setCell (by simp) _ _);rw [hW2] at HS2 ⊢;clear hW2 c0 c1 c2 c3 c4 c5 z1 d1;obtain ⟨c0,c1,c2,c3,c4,c5⟩:=HS2.out.cells;rw [HNN.out] at c0 c4 c5;have z1:=HS2.out.er.frozen i;have d1:=HS2.out.err HI.out;cases r with
 | some x =>
  go_wp2_with (first
   | (at_lookup;refine zazY rfl (.tmp 31) (.tmp 32) rfl Tryz.kStr underlying135 0 (Tryz.zeroInt _) rfl s rfl HS2.out.mp (some x) HRR.out (.int .i64 x) rfl true rfl ?_))
  go_end0
  refine HP.out _ ?_ ?_
  ·rw [HR.out];exact HS2.out.setErr i 6
  ·exact HG2.out.setCell (by simp) _ _
 | none =>
  by_cases h32:nx=32
  ·have e32:(nx == 32)=true:=by simp [h32]
   go_wp2_with (first
    | (at_lookup;refine zazY rfl (.tmp 31) (.tmp 32) rfl Tryz.kStr underlying135 0 (Tryz.zeroInt _) rfl s rfl HS2.out.mp none HRR.out (.int .i64 0) rfl false rfl ?_))
   go_end0
   refine HP.out _ ?_ ?_
   ·rw [HR.out,if_neg (by simp),if_pos h32];exact HS2.out.setErr i 3
   ·exact HG2.out.setCell (by simp) _ _
  ·have e32:(nx == 32)=false:=by simp [h32]
   have HN32:=hZz h32
   go_wp2_with (first
    | (at_lookup;refine zazY rfl (.tmp 31) (.tmp 32) rfl Tryz.kStr underlying135 0 (Tryz.zeroInt _) rfl s rfl HS2.out.mp none HRR.out (.int .i64 0) rfl false rfl ?_)
    | (refine zcvY rfl (.tmp 54) (.tmp 55) (.tmp 56) rfl Tryz.kStr underlying135 rfl s rfl nx rfl HS2.out.mp ?_;intro w3 hm3 hg3 hs3;have HM3:=hZz hm3;have HG3:=hZz hg3;clear hm3 hg3 hs3))
   go_end0
   refine HP.out _ ?_ ?_
   ·rw [HR.out]
    have:=HS2.out.setVis HM3.out HG3.out
    rw [if_neg (by simp),if_neg HN32.out];exact this
   ·exact HG2.out.grown HG3.out (by simp)
end
section
theorem findF_lt {p:ProgD} {s:ByteArray} (h:0≤findF p s):(findF p s).toNat<p.funcs.length:=by
 unfold findF at h ⊢;split at h
 ·rename_i i hi
  have:=List.findIdx?_eq_some_iff_getElem.1 hi
  simpa using this.1
 ·omega
attribute [local go_sem] zacZ
set_option maxHeartbeats 16000000 in
theorem call_s (S:ProgS) (gS gm gs ge:Nat) (D:ScD) (w:World) (n:NodeD) (kA iA:Option Addr) (kc ic:Nat) (h:ScSt w S gS gm gs ge D) (hS:ProgV w S) (hfl:S.p.funcs.length≤1000) (hm:n.kids.length≤1000) (hpl:∀ f∈S.p.funcs,f.params.length≤10000):Calls prog 216 #[.pointer (some ⟨gS,0,none⟩),.agg (nodeC n kA kc iA ic)] w fun e w'=>e=.returned (.int .i64 (errW (wantF S.p n.text) n.kids.length))∧Below w.heap.size w w':=by
 obtain ⟨R,hR⟩:∃ R,errW (wantF S.p n.text) n.kids.length=R:=⟨_,rfl⟩
 rw [hR];obtain ⟨P,hP⟩:∃ P:Ending→World→Prop,(fun e w'=>e=.returned (.int .i64 R)∧Below w.heap.size w w')=P:=⟨_,rfl⟩
 rw [hP];have HP:Hid (∀ (b:Int) w',b=R→Below w.heap.size w w'→P (.returned (.int .i64 b)) w'):=hZz (fun b w' h1 h2=>by rw [← hP];exact ⟨by rw [h1],h2⟩);obtain ⟨r,hr⟩:∃ r,lookL builtL n.text=r:=⟨_,rfl⟩
 obtain ⟨f,hf⟩:∃ f,findF S.p n.text=f:=⟨_,rfl⟩
 have hfb:f<1000:=by
  by_cases h0:0≤f
  ·have:=findF_lt (p:=S.p) (s:=n.text) (by rw [hf];exact h0)
   rw [hf] at this;omega
  ·omega
 have HR:Hid (R=errW (if 0≤f then some ((S.p.funcs.getD f.toNat noFunc).params.length:Int) else r) n.kids.length):=hZz (by rw [← hR];unfold wantF;rw [hf,hr]);have HFL:Hid (0≤f→f.toNat<S.p.funcs.length):=hZz (fun h0=>by rw [← hf];exact findF_lt (by rw [hf];exact h0));have HBU:Hid (∀ wx,Calls prog 49 #[.string n.text] wx fun e w'=>e=.returned (.tuple #[.int .i64 (r.getD 0),.bool r.isSome])∧Below wx.heap.size wx w'):=hZz (fun wx=>by rw [← hr];exact zaxY n.text wx);have HFI:Hid (∀ wx,Below w.heap.size w wx→Calls prog 213 #[.agg #[.slice S.A S.p.nodes.length S.ncap,.slice S.B S.p.funcs.length S.fcap],.string n.text] wx fun e w'=>e=.returned (.int .i64 f)∧Below wx.heap.size wx w'):=hZz (fun wx hb=>by rw [← hf];exact find_s S n.text wx (hS.below hb) (by omega));have HH:=hZz h;have HF:=hZz hS.funcs;have HPL:=hZz hpl;obtain ⟨m,hme⟩:∃ m,n.kids.length=m:=⟨_,rfl⟩
 rw [hme] at HR hm;unfold nodeC;rw [hme];generalize n.kind=nk;generalize n.text=nt at HBU HFI ⊢;generalize n.int=ni;generalize n.keys.length=q;obtain ⟨g,hg⟩:∃ g,w.heap.size=g:=⟨_,rfl⟩
 obtain ⟨W1,hW1⟩:∃ W,w.alloc (.cells #[.int .i64 nk,.string nt,.int .i64 ni,.slice kA q kc,.slice iA m ic] 87)=W:=⟨_,rfl⟩
 have HX1:Hid (Blk W1 g 87 #[.int .i64 nk,.string nt,.int .i64 ni,.slice kA q kc,.slice iA m ic]):=hZz (by rw [← hW1,← hg];exact Blk.new _ _ _);have HB1:Hid (Below w.heap.size w W1):=hZz (by rw [← hW1];exact zabZ _ _);have HW1:=hZz hW1;have HG:=hZz hg;clear hR hP hr hf h hS hpl hme hg hW1 hfl;go_enter func216,ntmps216
 go_upto_region 1 with fail
 rw [HG.out,HW1.out];clear HG HW1;have x1:=blk5n HX1.out
 go_upto_region 2 with (first
  | (go_at_call 49;(with_reducible refine (HBU.out _).mono ?_);rintro e w2 ⟨rfl,hb2⟩;have HB2:=hZz (zaaZ hb2 HB1.out HB1.out.size);have HX2:=hZz (HX1.out.below hb2);clear hb2 x1))
 have FACT:Hid (∀ wx,Below w2.heap.size w2 wx→(wx.cell? ⟨gS,0,none⟩=some (.slice S.A S.p.nodes.length S.ncap)∧wx.cell? ⟨gS,1,none⟩=some (.slice S.B S.p.funcs.length S.fcap))∧wx.cell? ⟨g,1,none⟩=some (.string nt)):=hZz (fun wx hb=>by
  have h3:=(HH.out.below (zaaZ hb HB2.out HB2.out.size)).cells;exact ⟨⟨h3.1,h3.2.1⟩,(HX2.out.below hb).cell 1 _ rfl⟩)
 have f0:=FACT.out _ (Below.refl _ _);have fd:=FACT.out _ (zafZ w2)
 go_region_held3 (fun w'=>(w'.cell? ⟨gS,0,none⟩=some (.slice S.A S.p.nodes.length S.ncap)∧w'.cell? ⟨gS,1,none⟩=some (.slice S.B S.p.funcs.length S.fcap))∧w'.cell? ⟨g,1,none⟩=some (.string nt)) (first | with_reducible exact f0 | with_reducible exact fd | with_reducible exact f3) (first
  | (go_at_call 213;(with_reducible refine (HFI.out _ (zaaZ (zafZ w2) HB2.out HB2.out.size)).mono ?_);rintro e w3 ⟨rfl,hb3⟩;have HB23:=hZz (zadZ hb3 (zafZ w2));have f3:=FACT.out _ HB23.out;clear hb3))
 all_goals
  clear f0 fd f3;have HX3:=hZz (HX2.out.below HB23.out);have HB3:=hZz (zaaZ HB23.out HB2.out HB2.out.size);have x3:=blk5n HX3.out;by_cases h0:0≤f
  ·have hkl:=HFL.out h0
   obtain ⟨b,off,kA',kc',hBe,_,_,c1,_,hdead⟩:=zcnY (FuncsV.below HF.out HB3.out) hkl;clear hdead;have hlen:=HPL.out _ (List.getElem_mem hkl);have HR2:Hid (R=errW (some ((S.p.funcs[f.toNat]'hkl).params.length:Int)) m):=hZz (by rw [HR.out,if_pos h0,zafY hkl]);have y3:=(HH.out.below HB3.out).cells;rw [hBe] at y3;obtain ⟨fn,rfl⟩:∃ k:Nat,f=(k:Int):=⟨f.toNat,by omega⟩
   simp only [Int.toNat_natCast] at hkl c1 hlen HR2;have hkl':(fn:Int)<(S.p.funcs.length:Int):=by omega
   generalize (S.p.funcs[fn]'hkl).params.length=pl at c1 hlen HR2;obtain ⟨y0,y1,_,_,_,_⟩:=y3;by_cases e1:pl=m
   ·have e1':((pl:Int) != (m:Int))=false:=by simp [e1]
    go_wp2_with (fail)
    exact HP.out _ _ (by rw [HR2.out];simp [errW,e1]) HB3.out
   ·have e1':((pl:Int) != (m:Int))=true:=by simp;omega
    go_wp2_with (fail)
    exact HP.out _ _ (by rw [HR2.out];simp [errW];omega) HB3.out
  ·have HR2:Hid (R=errW r m):=hZz (by rw [HR.out,if_neg h0])
   cases r with
   | none =>
    go_wp2_with (fail)
    exact HP.out _ _ (by rw [HR2.out];rfl) HB3.out
   | some x =>
    by_cases e1:x=(m:Int)
    ·have e1':(x != (m:Int))=false:=by simp [e1]
     go_wp2_with (fail)
     exact HP.out _ _ (by rw [HR2.out];simp [errW,e1]) HB3.out
    ·have e1':(x != (m:Int))=true:=by simp [e1]
     go_wp2_with (fail)
     exact HP.out _ _ (by rw [HR2.out];simp [errW,e1]) HB3.out
end
end Go.Proofs.YtekdhlfapejijaaGreatDoor
