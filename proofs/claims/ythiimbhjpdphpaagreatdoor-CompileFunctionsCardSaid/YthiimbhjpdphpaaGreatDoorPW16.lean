/- S8, S9, JA, W16 -/
import Derived.Test.YthiimbhjpdphpaaGreatDoorPS7
import Derived.Test.YthiimbhjpdphpaaGreatDoorPK3
set_option linter.unusedVariables false
set_option linter.unusedSimpArgs false
namespace Go.Proofs.YthiimbhjpdphpaaGreatDoor
open Go.RowKit
set_option maxRecDepth 100000
set_option maxHeartbeats 8000000
open Go.Proofs.Tryz
section
theorem idx_any {α:Type} (l:List α) (Q:α→Bool):decide (0≤idxI (l.findIdx? Q))=l.any Q:=by
 rw [Bool.eq_iff_iff,decide_eq_true_iff,List.any_eq_true];cases h:l.findIdx? Q with
 | none =>
  rw [List.findIdx?_eq_none_iff] at h;simp only [idxI];constructor
  ·intro h0;omega
  ·rintro ⟨x,hx,hq⟩
   rw [h x hx] at hq;cases hq
 | some k =>
  rw [List.findIdx?_eq_some_iff_getElem] at h;obtain ⟨h1,h2,_⟩:=h;simp only [idxI];exact ⟨fun _=>⟨_,List.getElem_mem h1,h2⟩,fun _=>by omega⟩
attribute [local go_sem] zabZ
set_option maxHeartbeats 4000000 in
theorem ordered1_s (s:ByteArray) (w:World) (hs:s.size≤140737488351232):Calls prog 134 #[.string s] w fun e w'=>e=.returned (.bool (!nameB s))∧w'=w:=by
 have HN:=hZz (name_s s w hs);generalize nameB s=n at HN ⊢;go_enter func134,ntmps134
 go_wp2_with (first
  | (go_at_call 132;(with_reducible refine HN.out.mono ?_);rintro e w1 ⟨rfl,hw1⟩;rw [hw1];clear hw1 w1))
 go_returns;exact ⟨rfl,rfl⟩
def badNames (l:List ByteArray):Bool:=l.any fun s=>!nameB s
theorem all_bad (l:List ByteArray):l.all nameB=!badNames l:=by
 unfold badNames;induction l with
 | nil=>rfl
 | cons a r ih=>simp only [List.all_cons,List.any_cons,ih,Bool.not_or,Bool.not_not]
theorem containsS_s (l:List ByteArray) (A:Option Addr) (cap:Nat) (w:World) (hV:KeysV w (.slice A l.length cap) l) (hl:l.length≤10000) (hs:∀ s∈l,s.size≤140737488351232):Calls prog 133 #[.slice A l.length cap,.func (.func 134) #[] #[]] w fun e w'=>e=.returned (.bool (badNames l))∧Below w.heap.size w w':=by
 have hent:∀ args w,(callFunc 134 args).run prog w=.ok (.enter 134 args) w:=enters_of func134 (by kernel_rfl) rfl
 have HC:=hZz (indexS_any l A cap 134 #[] (fun s=>!nameB s) w w hV (Below.refl _ _) hl hent (fun k hk wx hb=>(ordered1_s l[k] wx (hs _ (List.getElem_mem hk))).mono (by rintro e w' ⟨rfl,rfl⟩;exact ⟨rfl,Below.refl _ _⟩)));unfold badNames;rw [← idx_any];generalize idxI (l.findIdx? fun s=>!nameB s)=r at HC ⊢;clear hV hs hent;go_enter func133,ntmps133
 go_wp2_with (first
  | (go_at_call 175;(with_reducible refine HC.out.mono ?_);rintro e w1 ⟨rfl,hb1⟩;have HB1:=hZz hb1;clear hb1))
 go_returns;exact ⟨rfl,HB1.out⟩
set_option maxHeartbeats 16000000 in
theorem ordered_s (S:ProgS) (w:World) (hS:ProgV w S) (hp:Pow w) (hok:NodesOk S.p.nodes) (hnl:S.p.nodes.length≤600) (hfl:S.p.funcs.length≤1000) (hfn:∀ f∈S.p.funcs,f.name.size≤140737488351232∧f.params.length≤10000∧∀ s∈f.params,s.size≤140737488351232):Calls prog 82 #[S.val] w fun e w'=>e=.returned (.bool (orderedB S.p))∧Below w.heap.size w w':=by
 obtain ⟨A,B,ncap,fcap,p⟩:=S;unfold ProgS.val;dsimp only at hok hnl hfl hfn ⊢;obtain ⟨O,hO⟩:∃ O,orderedF p.nodes p.funcs 0=O:=⟨_,rfl⟩
 have hob:orderedB p=decide (O=some p.nodes.length):=by unfold orderedB;rw [hO]
 rw [hob];obtain ⟨P,hP⟩:∃ P:Ending→World→Prop,(fun e w'=>e=.returned (.bool (decide (O=some p.nodes.length)))∧Below w.heap.size w w')=P:=⟨_,rfl⟩
 rw [hP];have HP:Hid (∀ (b:Bool) w',b=decide (O=some p.nodes.length)→Below w.heap.size w w'→P (.returned (.bool b)) w'):=hZz (fun b w' h1 h2=>by rw [← hP];exact ⟨by rw [h1],h2⟩);have HF:=hZz hS.funcs;have HV:=hZz hS.nodes;have HFN:=hZz hfn;have HFI:Hid (∀ b wx,b<p.nodes.length→Below w.heap.size w wx→Calls prog 135 #[.slice A p.nodes.length ncap,.int .i64 b] wx fun e w'=>e=.returned (.int .i64 (shO (firstF p.nodes 600 b)))∧Below wx.heap.size wx w'):=hZz (fun b wx h1 hb=>first_s p.nodes hok A ncap 600 b wx (by omega) h1 (NodesV.below hS.nodes hb) (hp.below hb));have HO:=hZz hO;have hB1:Below w.heap.size w (w.alloc (.cells #[.slice A p.nodes.length ncap,.slice B p.funcs.length fcap] 25)):=zacZ _ _;have hX1:=Blk.new w 25 #[.slice A p.nodes.length ncap,.slice B p.funcs.length fcap];dsimp only at HF HV;obtain ⟨nn,hnn⟩:∃ n,p.nodes.length=n:=⟨_,rfl⟩
 have HNN:=hZz hnn;obtain ⟨N,hNl⟩:∃ N,p.funcs.length=N:=⟨_,rfl⟩
 have HNL:=hZz hNl;rw [hnn] at hnl HFI hB1 hX1 HP ⊢;rw [hNl] at hfl hB1 hX1 ⊢;obtain ⟨g,hg⟩:∃ g,w.heap.size=g:=⟨_,rfl⟩
 obtain ⟨W1,hW1⟩:∃ W,w.alloc (.cells #[.slice A nn ncap,.slice B N fcap] 25)=W:=⟨_,rfl⟩
 rw [hW1] at hB1 hX1;rw [hg] at hX1;have HB1:=hZz hB1;have HX1:=hZz hX1;have HW1:=hZz hW1;have HG:=hZz hg;clear hO hob hP hS hp hok hfn hnn hNl hg hW1 hB1 hX1;go_enter func82,ntmps82
 go_upto_region 2 with fail
 rw [HG.out,HW1.out];clear HG HW1;have x1:=blk2 HX1.out;go_wp2_with (fail)
 clear x1;go_loopw [3,5,9] (fun sv _ kv wr=>∃ j s:Nat,j≤N∧s≤nn∧kv=.int .i64 j∧sv=.int .i64 s∧Hid (O=orderedF p.nodes (p.funcs.drop j) s)∧Hid (Below w.heap.size w wr)∧Hid (Blk wr g 25 #[.slice A nn ncap,.slice B N fcap])) (fun _ _ kv _=>N - (intOf kv).toNat)
 case atStart=>exact ⟨0,0,Nat.zero_le _,Nat.zero_le _,rfl,rfl,hZz (by rw [← HO.out,List.drop_zero]),HB1,HX1⟩
 case round =>
  obtain ⟨j,s,hj,hs,rfl,rfl,HJ,HB,HX⟩:=hrel;have hj0:(0:Int)≤(j:Int):=by omega
  by_cases hlt:j<N
  ·have hlt':(j:Int)<(N:Int):=by omega
   have hkl:j<p.funcs.length:=by rw [HNL.out];exact hlt
   have hF2:=HF.out.below HB.out;obtain ⟨b,off,kA,kc,rfl,hbk,c0,c1,c2,hkv⟩:=zalY hF2 hkl;obtain ⟨f,hf⟩:∃ f,p.funcs[j]=f:=⟨_,rfl⟩
   have hm:=HFN.out _ (List.getElem_mem hkl)
   have hjo:O=if funcB p.nodes f s then orderedF p.nodes (p.funcs.drop (j+1)) (f.body.toNat+1) else none:=by
    rw [HJ.out,List.drop_eq_getElem_cons hkl,hf];rfl
   rw [hf] at c0 c1 c2 hkv hm;have HJO:=hZz hjo;have HCN:Hid (∀ wx,Calls prog 132 #[.string f.name] wx fun e w'=>e=.returned (.bool (nameB f.name))∧w'=wx):=hZz (fun wx=>name_s f.name wx hm.1);have HCP:Hid (∀ wx,Below wr.heap.size wr wx→Calls prog 133 #[.slice kA f.params.length kc,.func (.func 134) #[] #[]] wx fun e w'=>e=.returned (.bool (badNames f.params))∧Below wx.heap.size wx w'):=hZz (fun wx hb=>containsS_s f.params kA kc wx (hkv.below hb) hm.2.1 hm.2.2)
   have hfB:funcB p.nodes f s=((nameB f.name && !badNames f.params) && (decide ((s:Int)≤f.body) && (decide (f.body<nn) && (decide ((p.nodes.getD f.body.toNat noNode).kind=19) && decide (firstF p.nodes 600 f.body.toNat=some s))))):=by
    unfold funcB;rw [HNN.out,all_bad]
   have HFB:=hZz hfB;generalize nameB f.name=nb at HCN HFB;generalize badNames f.params=cb at HCP HFB;generalize f.name=x0 at c0 HCN;generalize f.params.length=x1 at c1 HCP;obtain ⟨x2,hx2⟩:∃ x,f.body=x:=⟨_,rfl⟩
   rw [hx2] at c2 HFB HJO;clear hF2 hjo hkv hm hf hfB hx2;have HB2:Hid (∀ o,Below w.heap.size w (wr.alloc o)):=hZz (fun o=>HB.out.alloc HB.out.size o);obtain ⟨gf,hgf⟩:∃ g,wr.heap.size=g:=⟨_,rfl⟩
   obtain ⟨W2,hW2⟩:∃ W,wr.alloc (.cells #[.string x0,.slice kA x1 kc,.int .i64 x2] 42)=W:=⟨_,rfl⟩
   have HBR:Hid (Below wr.heap.size wr W2):=hZz (by rw [← hW2];exact zacZ _ _);have HBW:=hZz (zaaZ HBR.out HB.out HB.out.size);have HX2:=hZz (HX.out.below HBR.out);have HY2:Hid (Blk W2 gf 42 #[.string x0,.slice kA x1 kc,.int .i64 x2]):=hZz (by rw [← hW2,← hgf];exact Blk.new _ _ _);have HW2:=hZz hW2;have HGF:=hZz hgf;clear hW2 hgf;have c3:=blk2 HX.out;go_upto_region 5 with fail
   rw [HGF.out,HW2.out];clear HGF HW2 c0 c1 c2 c3;have y0:=HY2.out.cell 0 _ rfl;have y1:=HY2.out.cell 1 _ rfl;cases nb with
   | false =>
    go_wp2_with (first
     | (go_at_call 132;(with_reducible refine (HCN.out _).mono ?_);rintro e w4 ⟨rfl,hw4⟩;rw [hw4];clear hw4 w4))
    exact HP.out _ _ (by rw [HJO.out,HFB.out];simp) HBW.out
   | true =>
    cases cb with
    | true =>
     go_wp2_with (first
      | (go_at_call 132;(with_reducible refine (HCN.out _).mono ?_);rintro e w4 ⟨rfl,hw4⟩;rw [hw4];clear hw4 w4)
      | (go_at_call 133;(with_reducible refine (HCP.out _ HBR.out).mono ?_);rintro e w5 ⟨rfl,hb5⟩;have HB5:=hZz (zaaZ hb5 HBW.out HBW.out.size);clear hb5))
     exact HP.out _ _ (by rw [HJO.out,HFB.out];simp) HB5.out
    | false =>
     go_upto_region 7 with (first
      | (go_at_call 132;(with_reducible refine (HCN.out _).mono ?_);rintro e w4 ⟨rfl,hw4⟩;rw [hw4];clear hw4 w4)
      | (go_at_call 133;(with_reducible refine (HCP.out _ HBR.out).mono ?_);rintro e w5 ⟨rfl,hb5⟩;have HB5:=hZz (zaaZ hb5 HBW.out HBW.out.size);have HX5:=hZz (HX2.out.below hb5);have HY5:=hZz (HY2.out.below hb5);clear hb5))
     clear y0 y1;have z0:=HX5.out.cell 0 _ rfl;have z2:=HY5.out.cell 2 _ rfl;by_cases e1:x2<(s:Int)
     ·go_wp2_with (fail)
      exact HP.out _ _ (by rw [HJO.out,HFB.out];simp;omega) HB5.out
     by_cases e2:(nn:Int)≤x2
     ·go_wp2_with (fail)
      exact HP.out _ _ (by rw [HJO.out,HFB.out];simp;omega) HB5.out
     obtain ⟨q,rfl⟩:∃ q:Nat,x2=(q:Int):=⟨x2.toNat,by omega⟩
     have hql:q<p.nodes.length:=by rw [HNN.out];omega
     have hV2:=HV.out.below HB5.out;obtain ⟨bN,offN,_,_,_,_,rfl,hbN2,d0,hdead⟩:=zaqY hV2 hql;have hql':(q:Int)<(nn:Int):=by omega
     have hq0:(0:Int)≤(q:Int):=by omega
     have HKK:Hid ((p.nodes.getD ((q:Int)).toNat noNode).kind=(p.nodes[q]).kind):=hZz (by rw [Int.toNat_natCast,zajZ hql]);clear hdead hV2;generalize (p.nodes[q]).kind=kk at d0 HKK;by_cases e3:kk=19
     rotate_left
     ·have e3':(kk != 19)=true:=by simp [e3]
      go_wp2_with (fail)
      exact HP.out _ _ (by rw [HJO.out,HFB.out,HKK.out];simp [e3]) HB5.out
     subst e3;obtain ⟨R,hR⟩:∃ R,firstF p.nodes 600 q=R:=⟨_,rfl⟩
     have HCF:Hid (∀ wx,Below w.heap.size w wx→Calls prog 135 #[.slice (some ⟨bN,offN,none⟩) nn ncap,.int .i64 q] wx fun e w'=>e=.returned (.int .i64 (shO R))∧Below wx.heap.size wx w'):=hZz (fun wx hb=>by rw [← hR];exact HFI.out q wx (by omega) hb)
     have HRR:Hid (funcB p.nodes f s=decide (R=some s)):=hZz (by
      rw [HFB.out,HKK.out,Int.toNat_natCast,hR,decide_eq_true (show (s:Int)≤q by omega),decide_eq_true (show (q:Int)<nn by omega)];simp)
     clear hR;by_cases e4:R=some s
     ·subst e4
      simp only [shO] at HCF
      go_wp2_with (first
       | (go_at_call 135;(with_reducible refine (HCF.out _ HB5.out).mono ?_);rintro e w6 ⟨rfl,hb6⟩;have HB6:=hZz (zaaZ hb6 HB5.out HB5.out.size);have HX6:=hZz (HX5.out.below hb6);have z6:=HY5.out.below hb6;have z7:=z6.cell 2 _ rfl;clear hb6 z6))
      exact ⟨⟨j+1,q+1,by omega,by omega,by simp,by simp,hZz (by rw [HJO.out,HRR.out];simp),HB6,HX6⟩,by simp [intOf];omega⟩
     ·have hne:(shO R != (s:Int))=true:=by
       cases R with
       | none=>first | (simp [shO];done) | (simp [shO];omega)
       | some r =>
        have:r≠s:=fun h=>e4 (by rw [h])
        first | (simp [shO];done) | (simp [shO];omega)
      have HE4:=hZz e4;generalize shO R=rr at HCF hne
      go_wp2_with (first
       | (go_at_call 135;(with_reducible refine (HCF.out _ HB5.out).mono ?_);rintro e w6 ⟨rfl,hb6⟩;have HB6:=hZz (zaaZ hb6 HB5.out HB5.out.size);clear hb6))
      exact HP.out _ _ (by rw [HJO.out,HRR.out];simp [HE4.out]) HB6.out
  ·have e:j=N:=by omega
   subst e;have x1:=blk2 HX.out;go_wp2_with (fail)
   refine HP.out _ _ ?_ HB.out
   rw [HJ.out,← HNL.out,List.drop_length];simp only [orderedF];rw [Bool.eq_iff_iff];simp
   try omega
end
section
structure ProgOk (p:ProgD):Prop where
 nodes:NodesOk p.nodes
 funcs:p.funcs.length≤1000
 fn:∀ f∈p.funcs,f.name.size≤140737488351232∧f.params.length≤10000∧∀ s∈f.params,s.size≤140737488351232
attribute [local go_sem] zabZ
theorem check1_s (n:ByteArray) (kA:Option Addr) (m kc:Nat) (body:Int) (w:World):Calls prog 84 #[.agg #[.string n,.slice kA m kc,.int .i64 body]] w fun e w'=>e=.returned (.bool (decide (8<m)))∧Below w.heap.size w w':=by
 have HB:=hZz (zacZ w (.cells #[.string n,.slice kA m kc,.int .i64 body] 42));have HD:Hid (decide ((8:Int)<(m:Int))=decide (8<m)):=hZz (by rw [Bool.eq_iff_iff];simp;omega);rw [← HD.out];clear HD;go_enter func84,ntmps84
 go_wp2
 go_returns;exact ⟨by rfl,HB.out⟩
def manyP (l:List FuncD):Bool:=l.any fun f=>decide (8<f.params.length)
theorem containsF_s (l:List FuncD) (A:Option Addr) (cap:Nat) (w:World) (hV:FuncsV w (.slice A l.length cap) l) (hl:l.length≤10000):Calls prog 83 #[.slice A l.length cap,.func (.func 84) #[] #[]] w fun e w'=>e=.returned (.bool (manyP l))∧Below w.heap.size w w':=by
 have hent:∀ args w,(callFunc 84 args).run prog w=.ok (.enter 84 args) w:=enters_of func84 (by kernel_rfl) rfl
 have HC:=hZz (indexF_any l A cap 84 #[] (fun f=>decide (8<f.params.length)) w w hV (Below.refl _ _) hl hent (fun k hk wx kA kc hb=>check1_s _ kA _ kc _ wx));unfold manyP;rw [← idx_any];generalize idxI (l.findIdx? fun f=>decide (8<f.params.length))=r at HC ⊢;clear hV hent;go_enter func83,ntmps83
 go_wp2_with (first
  | (go_at_call 136;(with_reducible refine HC.out.mono ?_);rintro e w1 ⟨rfl,hb1⟩;have HB1:=hZz hb1;clear hb1))
 go_returns;exact ⟨rfl,HB1.out⟩
theorem check_s (S:ProgS) (w:World) (hS:ProgV w S) (hp:Pow w) (hok:ProgOk S.p):Calls prog 57 #[S.val] w fun e w'=>e=.returned (.int .i64 (synF S.p))∧Below w.heap.size w w':=by
 obtain ⟨R,hR⟩:∃ R,synF S.p=R:=⟨_,rfl⟩
 rw [hR];obtain ⟨P,hP⟩:∃ P:Ending→World→Prop,(fun e w'=>e=.returned (.int .i64 R)∧Below w.heap.size w w')=P:=⟨_,rfl⟩
 rw [hP];have HP:Hid (∀ (b:Int) w',b=R→Below w.heap.size w w'→P (.returned (.int .i64 b)) w'):=hZz (fun b w' h1 h2=>by rw [← hP];exact ⟨by rw [h1],h2⟩);have HR:Hid (R=if 600<S.p.nodes.length∨16<S.p.funcs.length then 3 else if orderedB S.p=false then 1 else if manyP S.p.funcs=true∨32<deepF S.p then 3 else 0):=hZz hR.symm;have HOR:Hid (S.p.nodes.length≤600→∀ wx,Below w.heap.size w wx→Calls prog 82 #[S.val] wx fun e w'=>e=.returned (.bool (orderedB S.p))∧Below wx.heap.size wx w'):=hZz (fun h wx hb=>ordered_s S wx (hS.below hb) (hp.below hb) hok.nodes h hok.funcs hok.fn);have HCF:Hid (∀ wx,Below w.heap.size w wx→Calls prog 83 #[.slice S.B S.p.funcs.length S.fcap,.func (.func 84) #[] #[]] wx fun e w'=>e=.returned (.bool (manyP S.p.funcs))∧Below wx.heap.size wx w'):=hZz (fun wx hb=>containsF_s S.p.funcs S.B S.fcap wx (FuncsV.below hS.funcs hb) (by have:=hok.funcs;omega))
 have HDP:Hid (orderedB S.p=true→∀ wx,Below w.heap.size w wx→Calls prog 85 #[S.val] wx fun e w'=>e=.returned (.int .i64 (deepF S.p:Nat))∧Below wx.heap.size wx w'):=hZz (fun ho wx hb=>deep_s S wx (hS.below hb) hok.nodes (fun k hk=>by
  have h5:=(orderedF_at _ _ _ (of_decide_eq_true ho)).1 k hk;obtain ⟨b,hb⟩:=funcB_ok h5;exact ⟨b,_,hb.body,hb.lt,hb.first⟩) hok.funcs)
 unfold ProgS.val at HOR HDP ⊢;have HBN:Hid (∀ o,Below w.heap.size w (w.alloc o)):=hZz (fun o=>zacZ w o);have HXN:Hid (∀ c0 c1,(w.alloc (.cells #[c0,c1] 25)).cell? ⟨w.heap.size,0,none⟩=some c0∧(w.alloc (.cells #[c0,c1] 25)).cell? ⟨w.heap.size,1,none⟩=some c1):=hZz (fun c0 c1=>blk2 (Blk.new w _ _));generalize S.p.nodes.length=nn at HR HOR HDP ⊢;generalize S.p.funcs.length=nf at HR HOR HCF HDP ⊢;generalize orderedB S.p=ob at HR HOR HDP;generalize manyP S.p.funcs=mb at HR HCF;generalize deepF S.p=dn at HR HDP;clear hR hP hS hp hok;go_enter func57,ntmps57
 obtain ⟨g,hg⟩:∃ g,w.heap.size=g:=⟨_,rfl⟩
 obtain ⟨W1,hW1⟩:∃ W,w.alloc (.cells #[.slice S.A nn S.ncap,.slice S.B nf S.fcap] 25)=W:=⟨_,rfl⟩
 have HX1:Hid (Blk W1 g 25 #[.slice S.A nn S.ncap,.slice S.B nf S.fcap]):=hZz (by rw [← hW1,← hg];exact Blk.new _ _ _);have HB1:Hid (Below w.heap.size w W1):=hZz (by rw [← hW1];exact zacZ _ _);have HW1:=hZz hW1;have HG:=hZz hg;clear HBN HXN hW1 hg;go_upto_region 1 with fail
 rw [HG.out,HW1.out];clear HG HW1;have x1:=blk2 HX1.out;by_cases e1:(600:Int)<(nn:Int)
 ·go_wp2_with (fail)
  exact HP.out _ _ (by rw [HR.out,if_pos (.inl (by omega))]) HB1.out
 by_cases e2:(16:Int)<(nf:Int)
 ·go_wp2_with (fail)
  exact HP.out _ _ (by rw [HR.out,if_pos (.inr (by omega))]) HB1.out
 have HR2:Hid (R=if ob=false then 1 else if mb=true∨32<dn then 3 else 0):=hZz (by rw [HR.out,if_neg (by omega)]);have HOR2:=hZz (HOR.out (by omega) W1 HB1.out);clear HR HOR;cases ob with
 | false =>
  go_wp2_with (first
   | (go_at_call 82;(with_reducible refine HOR2.out.mono ?_);rintro e w2 ⟨rfl,hb2⟩;have HB2:=hZz (zaaZ hb2 HB1.out HB1.out.size);clear hb2))
  exact HP.out _ _ (by rw [HR2.out];rfl) HB2.out
 | true =>
  have HDP2:=hZz (HDP.out rfl);clear HDP;have HR3:Hid (R=if mb=true∨32<dn then 3 else 0):=hZz (by rw [HR2.out];rfl);clear HR2;cases mb with
  | true =>
   go_wp2_with (first
    | (go_at_call 82;(with_reducible refine HOR2.out.mono ?_);rintro e w2 ⟨rfl,hb2⟩;have HB2:=hZz (zaaZ hb2 HB1.out HB1.out.size);have HX2:=hZz (HX1.out.below hb2);have x2:=blk2 HX2.out;clear hb2 x1)
    | (go_at_call 83;(with_reducible refine (HCF.out _ HB2.out).mono ?_);rintro e w3 ⟨rfl,hb3⟩;have HB3:=hZz (zaaZ hb3 HB2.out HB2.out.size);have HX3:=hZz (HX2.out.below hb3);have x3:=blk2 HX3.out;clear hb3 x2))
   exact HP.out _ _ (by rw [HR3.out];rfl) HB3.out
  | false =>
   by_cases e3:(32:Int)<(dn:Int)
   all_goals
    go_wp2_with (first
     | (go_at_call 82;(with_reducible refine HOR2.out.mono ?_);rintro e w2 ⟨rfl,hb2⟩;have HB2:=hZz (zaaZ hb2 HB1.out HB1.out.size);have HX2:=hZz (HX1.out.below hb2);have x2:=blk2 HX2.out;clear hb2 x1)
     | (go_at_call 83;(with_reducible refine (HCF.out _ HB2.out).mono ?_);rintro e w3 ⟨rfl,hb3⟩;have HB3:=hZz (zaaZ hb3 HB2.out HB2.out.size);have HX3:=hZz (HX2.out.below hb3);have x3:=blk2 HX3.out;clear hb3 x2)
     | (go_at_call 85;(with_reducible refine (HDP2.out _ HB3.out).mono ?_);rintro e w4 ⟨rfl,hb4⟩;have HB4:=hZz (zaaZ hb4 HB3.out HB3.out.size);clear hb4))
    exact HP.out _ _ (by rw [HR3.out];first | rw [if_pos (.inr (by omega))] | rw [if_neg (by rintro (h | h);cases h;omega)]) HB4.out
end
section
structure SmallPr (p:ProgD):Prop where
 nodes:p.nodes.length≤200
 funcs:p.funcs.length≤20
 node:∀ i (h:i<p.nodes.length),(p.nodes[i]).kids.length≤100∧(p.nodes[i]).keys.length≤100
 fn:∀ i (h:i<p.funcs.length),(p.funcs[i]).params.length≤20
attribute [local go_sem] zabZ
theorem small_s (S:ProgS) (w:World) (hS:ProgV w S):Calls prog 9 #[S.val] w fun e w'=>(∃ b,e=.returned (.bool b)∧(b=true→SmallPr S.p))∧Below w.heap.size w w':=by
 obtain ⟨P,hP⟩:∃ P:Ending→World→Prop,(fun e w'=>(∃ b,e=.returned (.bool b)∧(b=true→SmallPr S.p))∧Below w.heap.size w w')=P:=⟨_,rfl⟩
 rw [hP];have HP0:Hid (∀ w',Below w.heap.size w w'→P (.returned (.bool false)) w'):=hZz (fun w' h2=>by rw [← hP];exact ⟨⟨false,rfl,fun h=>by cases h⟩,h2⟩);have HP1:Hid (∀ w',SmallPr S.p→Below w.heap.size w w'→P (.returned (.bool true)) w'):=hZz (fun w' h h2=>by rw [← hP];exact ⟨⟨true,rfl,fun _=>h⟩,h2⟩);obtain ⟨W1,hW1⟩:∃ W,w.alloc (.cells #[.slice S.A S.p.nodes.length S.ncap,.slice S.B S.p.funcs.length S.fcap] 25)=W:=⟨_,rfl⟩
 obtain ⟨g,hg⟩:∃ g,w.heap.size=g:=⟨_,rfl⟩
 have hb1:Below w.heap.size w W1:=by rw [← hW1];exact zacZ _ _
 have HB1:=hZz hb1;have HX1:Hid (Blk W1 g 25 #[.slice S.A S.p.nodes.length S.ncap,.slice S.B S.p.funcs.length S.fcap]):=hZz (by rw [← hW1,← hg];exact Blk.new _ _ _);have HS1:=hZz (hS.below hb1);unfold ProgS.val;obtain ⟨nn,hnn⟩:∃ n,S.p.nodes.length=n:=⟨_,rfl⟩
 obtain ⟨nf,hnf⟩:∃ n,S.p.funcs.length=n:=⟨_,rfl⟩
 have HNN:=hZz hnn;have HNF:=hZz hnf;rw [hnn,hnf] at hW1 HX1 ⊢;have HG:=hZz hg;have HW1:=hZz hW1;clear hP hS hg hW1 hb1 hnn hnf;go_enter func9,ntmps9
 go_upto_region 1 with fail
 rw [HG.out,HW1.out];clear HG HW1;have x1:=blk2 HX1.out;by_cases e1:200<nn
 ·go_wp2_with (fail)
  exact HP0.out _ HB1.out
 by_cases e2:20<nf
 ·go_wp2_with (fail)
  exact HP0.out _ HB1.out
 go_upto_region 3 with (fail)
 go_upto_region 4 with (fail)
 go_loopw [3,18] (fun _ kv wr=>∃ k:Nat,k≤nn∧kv=.int .i64 k∧wr=W1∧Hid (∀ i (h:i<S.p.nodes.length),i<k→(S.p.nodes[i]).kids.length≤100∧(S.p.nodes[i]).keys.length≤100)) (fun _ kv _=>nn - (intOf kv).toNat)
 case atStart=>exact ⟨0,Nat.zero_le _,rfl,rfl,hZz (fun i h h2=>by omega)⟩
 case round =>
  obtain ⟨k,hk,rfl,rfl,HR⟩:=hrel;have hk0:(0:Int)≤(k:Int):=by omega
  by_cases hlt:k<nn
  ·have hlt':(k:Int)<(nn:Int):=by omega
   have hkl:k<S.p.nodes.length:=by rw [HNN.out];exact hlt
   obtain ⟨bN,offN,kA,kc,iA,ic,hA,hbN,c0,c1,c2,c3,c4,z1,z2⟩:=zaqY HS1.out.nodes hkl;rw [hA] at x1
   have HM:Hid ((S.p.nodes[k]).kids.length≤100→(S.p.nodes[k]).keys.length≤100→∀ i (h:i<S.p.nodes.length),i<k+1→(S.p.nodes[i]).kids.length≤100∧(S.p.nodes[i]).keys.length≤100):=hZz (fun h1 h2 i h h3=>by
    by_cases e:i=k
    ·subst e;exact ⟨h1,h2⟩
    ·exact HR.out i h (by omega))
   generalize (S.p.nodes[k]).kids.length=a at c4 HM;generalize (S.p.nodes[k]).keys.length=b at c3 HM;clear z1 z2 c0 c1 c2 hA hbN hkl HR;by_cases h1:100<a
   ·go_wp2_with (fail)
    exact HP0.out _ HB1.out
   by_cases h2:100<b
   ·go_wp2_with (fail)
    exact HP0.out _ HB1.out
   go_wp2_with (fail)
   exact ⟨⟨k+1,by omega,by simp,by simp,hZz (HM.out (by omega) (by omega))⟩,by simp [intOf];omega⟩
  ·have e9:nn=k:=by omega
   subst e9;have HN1:Hid (∀ i (h:i<S.p.nodes.length),(S.p.nodes[i]).kids.length≤100∧(S.p.nodes[i]).keys.length≤100):=hZz (fun i h=>HR.out i h (by have:=HNN.out;omega));clear HR;go_upto_region 10 with (fail)
   go_loopw [4,43] (fun _ kv wq=>∃ k:Nat,k≤nf∧kv=.int .i64 k∧wq=wr∧Hid (∀ i (h:i<S.p.funcs.length),i<k→(S.p.funcs[i]).params.length≤20)) (fun _ kv _=>nf - (intOf kv).toNat)
   case atStart=>exact ⟨0,Nat.zero_le _,rfl,rfl,hZz (fun i h h2=>by omega)⟩
   case round =>
    obtain ⟨k,hk,rfl,rfl,HR⟩:=hrel;have hk0:(0:Int)≤(k:Int):=by omega
    by_cases hlt:k<nf
    ·have hlt':(k:Int)<(nf:Int):=by omega
     have hkl:k<S.p.funcs.length:=by rw [HNF.out];exact hlt
     obtain ⟨bF,offF,kA,kc,hA,hbF,c0,c1,c2,z1⟩:=zalY HS1.out.funcs hkl;rw [hA] at x1
     have HM:Hid ((S.p.funcs[k]).params.length≤20→∀ i (h:i<S.p.funcs.length),i<k+1→(S.p.funcs[i]).params.length≤20):=hZz (fun h1 i h h3=>by
      by_cases e:i=k
      ·subst e;exact h1
      ·exact HR.out i h (by omega))
     generalize (S.p.funcs[k]).params.length=a at c1 HM;clear z1 c0 c2 hA hbF hkl HR;by_cases h1:20<a
     ·go_wp2_with (fail)
      exact HP0.out _ HB1.out
     go_wp2_with (fail)
     exact ⟨⟨k+1,by omega,by simp,by simp,hZz (HM.out (by omega))⟩,by simp [intOf];omega⟩
    ·have e9:nf=k:=by omega
     subst e9;have HN2:Hid (∀ i (h:i<S.p.funcs.length),(S.p.funcs[i]).params.length≤20):=hZz (fun i h=>HR.out i h (by have:=HNF.out;omega));go_wp2_with (fail)
     exact HP1.out _ ⟨by rw [HNN.out];omega,by rw [HNF.out];omega,HN1.out,HN2.out⟩ HB1.out
end
theorem lvl_size {s:ByteArray} (h:0<lvlF s):s.toList.length≤3:=by
 unfold lvlF at h;by_cases h1:s.toList=[111,114]
 ·rw [h1];decide
 rw [if_neg h1] at h;by_cases h2:s.toList=[97,110,100]
 ·rw [h2];decide
 rw [if_neg h2] at h;by_cases h3:s.toList∈([[61,61],[33,61],[60],[60,61],[62],[62,61]]:List (List UInt8))
 ·simp only [List.mem_cons,List.not_mem_nil,or_false] at h3
  rcases h3 with h3 | h3 | h3 | h3 | h3 | h3 <;> rw [h3] <;> decide
 rw [if_neg h3] at h;by_cases h4:s.toList∈([[43],[45]]:List (List UInt8))
 ·simp only [List.mem_cons,List.not_mem_nil,or_false] at h4
  rcases h4 with h4 | h4 <;> rw [h4] <;> decide
 rw [if_neg h4] at h;by_cases h5:s.toList∈([[42],[47],[37]]:List (List UInt8))
 ·simp only [List.mem_cons,List.not_mem_nil,or_false] at h5
  rcases h5 with h5 | h5 | h5 <;> rw [h5] <;> decide
 rw [if_neg h5] at h;omega
theorem size_toL (s:ByteArray):s.toList.length=s.size:=by
 rw [ByteArray.toList_eq,Array.length_toList];rfl
theorem run_small {s:ByteArray} (h:runB s=true):s.size≤24:=by
 unfold runB at h;simp only [Bool.and_eq_true,decide_eq_true_eq] at h;exact h.1
theorem str_small {s:ByteArray} (h:strB s=true):s.size≤200:=by
 unfold strB at h;simp only [Bool.and_eq_true,decide_eq_true_eq] at h;exact h.2
theorem name_small {s:ByteArray} (h:nameB s=true):s.size≤24:=by
 unfold nameB at h;simp only [Bool.and_eq_true] at h;exact run_small h.1
theorem keys_small {l:List ByteArray} (h:keysB l=true):∀ k∈l,k.size≤200:=by
 intro k hk;obtain ⟨i,hi,rfl⟩:=List.getElem_of_mem hk;unfold keysB at h;rw [List.all_eq_true] at h
 have:=h i (List.mem_range.2 hi)
 unfold keyAtB at this;simp only [Bool.and_eq_true] at this;have h2:=str_small this.1
 rwa [zajZ hi] at h2
theorem zcnY {n:NodeD} (h:fieldsB n=true):n.text.size≤200∧∀ k∈n.keys,k.size≤200:=by
 unfold fieldsB at h;by_cases h0:(n.kind≠7∧n.keys≠[])∨(n.kind≠2∧n.kind≠3∧n.int≠0)
 ·rw [if_pos h0] at h;cases h
 rw [if_neg h0] at h
 have hk:n.kind≠7→∀ k∈n.keys,k.size≤200:=by
  intro h7 k hk;by_cases he:n.keys=[]
  ·rw [he] at hk;cases hk
  ·exact absurd (.inl ⟨h7,he⟩) h0
 have he:∀ {l:List UInt8},n.text.toList=l→l.length≤200→n.text.size≤200:=by
  intro l h1 h2;rw [← size_toL,h1];exact h2
 by_cases h2:n.kind=2
 ·rw [if_pos h2] at h
  simp only [Bool.and_eq_true,decide_eq_true_eq] at h;exact ⟨he h.1 (by decide),hk (by omega)⟩
 rw [if_neg h2] at h;by_cases h3:n.kind=3
 ·rw [if_pos h3] at h
  simp only [Bool.and_eq_true,decide_eq_true_eq] at h;exact ⟨he h.1 (by decide),hk (by omega)⟩
 rw [if_neg h3] at h;by_cases h4:n.kind=4
 ·rw [if_pos h4] at h
  exact ⟨str_small h,hk (by omega)⟩
 rw [if_neg h4] at h;by_cases h5:n.kind=5∨n.kind=11∨n.kind=13∨n.kind=14
 ·rw [if_pos h5] at h
  exact ⟨by have:=name_small h;omega,hk (by omega)⟩
 rw [if_neg h5] at h;by_cases h6:n.kind=12
 ·rw [if_pos h6] at h
  exact ⟨by have:=run_small h;omega,hk (by omega)⟩
 rw [if_neg h6] at h;by_cases h7:n.kind=7
 ·rw [if_pos h7] at h
  simp only [Bool.and_eq_true,decide_eq_true_eq] at h;exact ⟨he h.1 (by decide),keys_small h.2.2⟩
 rw [if_neg h7] at h;by_cases h8:n.kind=8
 ·rw [if_pos h8] at h
  simp only [Bool.or_eq_true,decide_eq_true_eq] at h;rcases h with h | h
  ·exact ⟨he h (by decide),hk h7⟩
  ·exact ⟨he h (by decide),hk h7⟩
 rw [if_neg h8] at h;by_cases h9:n.kind=9
 ·rw [if_pos h9] at h
  have:=lvl_size (of_decide_eq_true h)
  rw [size_toL] at this;exact ⟨by omega,hk h7⟩
 rw [if_neg h9] at h;exact ⟨he (of_decide_eq_true h) (by decide),hk h7⟩
theorem ok_O (op a:Int):InsOk (insO op a):=⟨by show (0:Nat)≤1000;omega,by show (0:Nat)≤1000;omega,fun k hk=>by cases hk⟩
theorem ok_T (op a:Int) {s:ByteArray} (h:s.size≤200):InsOk ⟨op,a,s,[]⟩:=⟨by show s.size≤1000;omega,by show (0:Nat)≤1000;omega,fun k hk=>by cases hk⟩
theorem last_small {p:ProgD} {sl:List Int} {n:NodeD} {i:Nat} {x:InsD} (h:lastF p sl n i=some x) (hf:fieldsB n=true) (hk:n.keys.length≤1000):InsOk x:=by
 obtain ⟨ht,hks⟩:=zcnY hf;unfold lastF at h;by_cases k0:n.kind=1
 ·rw [if_pos k0] at h;cases h;exact ok_O _ _
 rw [if_neg k0] at h;by_cases k1:n.kind=2
 ·rw [if_pos k1] at h;cases h;exact ok_O _ _
 rw [if_neg k1] at h;by_cases k2:n.kind=3
 ·rw [if_pos k2] at h;cases h;exact ok_O _ _
 rw [if_neg k2] at h;by_cases k3:n.kind=4
 ·rw [if_pos k3] at h;cases h;exact ok_T _ _ ht
 rw [if_neg k3] at h;by_cases k4:n.kind=5
 ·rw [if_pos k4] at h;cases h;exact ok_O _ _
 rw [if_neg k4] at h;by_cases k5:n.kind=6
 ·rw [if_pos k5] at h;cases h;exact ok_O _ _
 rw [if_neg k5] at h;by_cases k6:n.kind=7
 ·rw [if_pos k6] at h;cases h
  exact ⟨by show (0:Nat)≤1000;omega,hk,fun k hk=>by have:=hks k hk;omega⟩
 rw [if_neg k6] at h;by_cases k7:n.kind=8
 ·rw [if_pos k7] at h;cases h;exact ok_T _ _ ht
 rw [if_neg k7] at h;by_cases k8:n.kind=10
 ·rw [if_pos k8] at h;cases h;exact ok_O _ _
 rw [if_neg k8] at h;by_cases k9:n.kind=11
 ·rw [if_pos k9] at h;cases h
  split
  ·exact ok_O _ _
  ·exact ok_T _ _ ht
 rw [if_neg k9] at h;by_cases k10:n.kind=12
 ·rw [if_pos k10] at h;cases h;exact ok_T _ _ ht
 rw [if_neg k10] at h;by_cases k11:n.kind=13∨n.kind=14
 ·rw [if_pos k11] at h;cases h;exact ok_O _ _
 rw [if_neg k11] at h;by_cases k12:n.kind=17
 ·rw [if_pos k12] at h;cases h;exact ok_O _ _
 rw [if_neg k12] at h;by_cases k13:n.kind=18
 ·rw [if_pos k13] at h;cases h;exact ok_O _ _
 rw [if_neg k13] at h;cases h
theorem seq_mem {l:List NodeD} {f:Nat} {rec:Nat→Int→List InsD} {Q:InsD→Prop} (hr:∀ i s b,firstF l f i=some s→∀ x∈rec i b,Q x) {r:List Int} {s e:Nat} (h:Cover l f r s e):∀ b,∀ x∈seqF rec r b,Q x:=by
 induction h with
 | nil s=>intro b x hx;cases hx
 | cons r s m e h1 h2 ih =>
  intro b x hx;simp only [seqF,Int.toNat_natCast,List.mem_append] at hx;rcases hx with hx | hx
  ·exact hr m s b h1 x hx
  ·exact ih _ x hx
theorem seg_small (p:ProgD) (sl:List Int) (hkl:∀ i,(p.at_ i).keys.length≤1000):∀ f i s b,firstF p.nodes f i=some s→∀ x∈segF p sl f i b,InsOk x:=by
 intro f;induction f with
 | zero=>intro i s b h;cases h
 | succ f ih =>
  intro i s b h;have T:=zabY h;have hn:p.nodes.getD i noNode=p.at_ i:=rfl;have hq:=fun b=>seq_mem ih T.cover b
  have hc:=T.cover;have hct:=T.count;have hfi:=T.fields;rw [hn] at hq hc hct hfi;have hts:=(zcnY hfi).1;intro x hx;simp only [segF] at hx;split at hx
  ·rename_i hk
   by_cases h16:(p.at_ i).kind=16
   ·rw [if_pos h16] at hx
    obtain ⟨a,c,hl⟩:=zayY (zbxY hct (.inr (.inr h16)));rw [hl] at hc hx;obtain ⟨m,rfl,rfl,h1,h2,h3,h4⟩:=hc.two;simp only [List.mem_append,List.mem_singleton,List.getD_cons_zero,List.getD_cons_succ,Int.toNat_natCast] at hx;rw [show ((i:Int) - 1).toNat=i - 1 by omega] at hx;rcases hx with ((hx | rfl) | hx) | rfl
    ·exact ih _ _ _ h3 x hx
    ·exact ok_O _ _
    ·exact ih _ _ _ h4 x hx
    ·exact ok_O _ _
   ·rw [if_neg h16] at hx
    have h15:(p.at_ i).kind=15:=by omega
    rcases cnt_if hct h15 with hl2 | hl3
    ·rw [if_neg (by omega)] at hx
     obtain ⟨a,c,hl⟩:=zayY hl2;rw [hl] at hc hx;obtain ⟨m,rfl,rfl,h1,h2,h3,h4⟩:=hc.two;simp only [List.mem_append,List.mem_singleton,List.getD_cons_zero,List.getD_cons_succ,Int.toNat_natCast] at hx;rw [show ((i:Int) - 1).toNat=i - 1 by omega] at hx;rcases hx with (hx | rfl) | hx
     ·exact ih _ _ _ h3 x hx
     ·exact ok_O _ _
     ·exact ih _ _ _ h4 x hx
    ·rw [if_pos (by omega)] at hx
     obtain ⟨a,c,d,hl⟩:=zbtY hl3;rw [hl] at hc hx;obtain ⟨m,k,rfl,rfl,rfl,h0,h1,h2,h3,h4,h5⟩:=hc.three;simp only [List.mem_append,List.mem_singleton,List.getD_cons_zero,List.getD_cons_succ,Int.toNat_natCast] at hx;rw [show ((i:Int) - 1).toNat=i - 1 by omega] at hx;rcases hx with (((hx | rfl) | hx) | rfl) | hx
     ·exact ih _ _ _ h3 x hx
     ·exact ok_O _ _
     ·exact ih _ _ _ h4 x hx
     ·exact ok_O _ _
     ·exact ih _ _ _ h5 x hx
  ·split at hx
   ·rename_i hk
    split at hx
    ·obtain ⟨a,c,hl⟩:=zayY (zbxY hct (.inl hk))
     rw [hl] at hc hx;obtain ⟨m,rfl,rfl,h1,h2,h3,h4⟩:=hc.two;simp only [List.getD_cons_zero,List.getD_cons_succ,Int.toNat_natCast] at hx;rw [show ((i:Int) - 1).toNat=i - 1 by omega] at hx;rcases List.mem_append.1 hx with hx | hx
     ·rcases List.mem_append.1 hx with hx | hx
      ·rcases List.mem_append.1 hx with hx | hx
       ·rcases List.mem_append.1 hx with hx | hx
        ·exact ih _ _ _ h3 x hx
        ·rcases List.mem_append.1 hx with hx | hx
         ·simp only [List.mem_cons,List.not_mem_nil,or_false] at hx
          rcases hx with rfl | rfl <;> exact ok_O _ _
         ·split at hx
          ·simp only [List.mem_singleton] at hx
           subst hx;exact ok_T _ _ (by decide)
          ·cases hx
       ·simp only [List.mem_cons,List.not_mem_nil,or_false] at hx
        rcases hx with rfl | rfl <;> exact ok_O _ _
      ·exact ih _ _ _ h4 x hx
     ·simp only [List.mem_singleton] at hx
      subst hx;exact ok_O _ _
    ·rcases List.mem_append.1 hx with hx | hx
     ·exact hq _ x hx
     ·simp only [List.mem_singleton] at hx
      subst hx;exact ok_T _ _ hts
   ·rcases List.mem_append.1 hx with hx | hx
    ·exact hq _ x hx
    ·cases hl:lastF p sl (p.at_ i) i with
     | none=>rw [hl] at hx;cases hx
     | some y =>
      rw [hl] at hx;simp only [List.mem_singleton] at hx;subst hx;exact last_small hl hfi (hkl i)
theorem SynOk.small {p:ProgD} (h:SynOk p) (sl:List Int) (hkl:∀ i,(p.at_ i).keys.length≤1000):∀ k,k≤p.funcs.length→∀ x∈allSeg p sl k,InsOk x:=by
 intro k;induction k with
 | zero=>intro _ x hx;cases hx
 | succ k ih =>
  intro hk x hx;simp only [allSeg] at hx;rcases List.mem_append.1 hx with hx | hx
  ·exact ih (by omega) x hx
  ·unfold funcSeg at hx
   rcases List.mem_append.1 hx with hx | hx
   ·obtain ⟨b,hfo,_,hb⟩:=h.func (k:=k) (by omega)
    rw [hb] at hx;exact seg_small p sl hkl 600 b _ _ hfo.first x hx
   ·simp only [List.mem_cons,List.not_mem_nil,or_false] at hx
    rcases hx with rfl | rfl <;> exact ok_O _ _
end Go.Proofs.YthiimbhjpdphpaaGreatDoor
