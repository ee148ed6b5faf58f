/- XR, XT, XS -/
import Derived.Test.YtekdhlfapejijaaGreatDoorPXQ
import Derived.Defers
import Derived.Recover
set_option linter.unusedVariables false
set_option linter.unusedSimpArgs false
namespace Go.Proofs.YtekdhlfapejijaaGreatDoor
open Go.RowKit
set_option maxRecDepth 100000
open Go.Proofs.Tryz
theorem program10 {K:ParC} (hts:K.ts=toksE) (hfx:K.fx=[]) (hfv:K.fv=.slice none 0 0) {F:List Nat} {w:World} (h:PXK K F w 0 []) :
  Calls prog 77 #[.pointer (some ⟨K.gp,0,none⟩)] w fun e w'=>e=.returned (.tuple #[])∧∃ u fv',PX K.w0 K.gp K.tv K.ts K.en [(⟨ "main".toUTF8,["e".toUTF8],7⟩,u)] fv' F w' 20 nodes10:=by
 have nf:∀ (p:Nat) (k:Int) (l:List ByteArray) (b:Bool),nextF toksE p k l=b→nextF K.ts p k l=b:=fun p k l b h=>by rw [hts];exact h
 have tk:∀ (p:Nat) (t:Tok),toksE[p]? = some t→K.ts[p]? = some t:=fun p t h=>by rw [hts];exact h
 exact program1_x (K:=K) (p:=0) (ns:=[]) hfx hfv (nf _ _ _ _ (by decide +kernel)) (t0:=⟨2,"func".toUTF8,0,0⟩) (t1:=⟨1,"main".toUTF8,0,5⟩) (t2:=⟨5,"(".toUTF8,0,9⟩) (t3:=⟨1,"e".toUTF8,0,10⟩) (t4:=⟨5,")".toUTF8,0,11⟩) (tk _ _ (by decide +kernel)) (nf _ _ _ _ (by decide +kernel)) (tk _ _ (by decide +kernel)) (nf _ _ _ _ (by decide +kernel)) (tk _ _ (by decide +kernel)) (nf _ _ _ _ (by decide +kernel)) (nf _ _ _ _ (by decide +kernel)) (tk _ _ (by decide +kernel)) (nf _ _ _ _ (by decide +kernel)) (tk _ _ (by decide +kernel)) (by decide +kernel) (block10 hts) (by rw [hts];rfl) h
set_option maxHeartbeats 1000000 in
theorem parse_idle (a b c:Value) (w:World) :
  CallsD prog 76 #[a,b,c] .returning w fun e u' w'=>e=.returned (.tuple #[])∧u'=.returning∧Below w.heap.size w w':=by
 have hta:∀ w:World,(Instr.typeAssert .nilIface 20 121 true).run prog w=.ok (.tuple #[.agg #[.int .i64 0],.bool false]) w:=by intro w;kernel_rfl
 refine callsD_of_wpS func76 rfl fun c₀ cs hu=>?_
 apply wpS_seq
 apply wpS_region
 simp [wpOpsS,go_sem,recoverD,hu,ntmps76,Exit.thenS,hta]
 apply wpS_seq
 apply wpS_region
 simp [wpOpsS,go_sem,Exit.thenS]
 refine wpS_cond (t:=false) (by simp [Act.eval,Array.replicate]) ?_
 simp only [Bool.false_eq_true,if_false];refine wpS_of_wp (wp_skip ?_)
 cases c₀
 simp_all [bodyPostS,results,Tryz.results76]
 exact zabZ _ _
theorem PSt.progV {w0 w:World} {gp:Nat} {tv:Value} {ts:List Tok} {en:Int} {fx:List FuncX} {fv:Value} {F:List Nat} {p:Nat} {nx:List NodeX} {nv:Value} (h:PSt w0 gp tv ts en fx fv F w p nx nv) (hl:nx.length≤1000) (hl2:fx.length≤1000) (hk:∀ q∈nx,q.1.kids.length≤1000) :
  ∃ S:ProgS,S.p=⟨nx.map Prod.fst,fx.map Prod.fst⟩∧nv=.slice S.A S.p.nodes.length S.ncap∧fv=.slice S.B S.p.funcs.length S.fcap∧ProgV w S:=by
 obtain ⟨A,cap,rfl⟩:=zaeZ h.nd;obtain ⟨B,fcap,rfl⟩:=zaeZ h.fu
 have hn:NodesV w (.slice A nx.length cap) (nx.map Prod.fst):=nodes_sl (SlAt.of_own h.nd rfl (fun _=>rfl) (by decide)) (fun q hq=>by
  obtain ⟨h1,h2,h3⟩:=h.kids q hq;refine ⟨?_,ints_own h1 (by have:=hk q hq;omega)⟩
  rw [h2,h3];exact zcrY (n0:=w0.heap.size) (e:=9) (l:=[]) (World.ownsRow_nil _ _ _ _)) (own_cap h.nd) (by omega)
 have hf:FuncsV w (.slice B fx.length fcap) (fx.map Prod.fst):=funcs_sl (SlAt.of_own h.fu rfl (fun _=>rfl) (by decide)) (fun q hq=>zcrY (h.pars q hq)) (own_cap h.fu) (by omega);refine ⟨⟨A,B,cap,fcap,⟨nx.map Prod.fst,fx.map Prod.fst⟩⟩,rfl,by simp,by simp,?_,?_⟩
 ·simpa using hn
 ·simpa using hf
theorem PSt.progV2 {w0 w w2:World} {gp:Nat} {tv:Value} {ts:List Tok} {en:Int} {fx:List FuncX} {fv:Value} {F:List Nat} {p:Nat} {nx:List NodeX} {nv:Value} (h:PSt w0 gp tv ts en fx fv F w p nx nv) (hl:nx.length≤1000) (hl2:fx.length≤1000) (hk:∀ q∈nx,q.1.kids.length≤1000)
  (hw:∀ g,w0.heap.size≤g→g<w.heap.size→w2.heap[g]? = w.heap[g]?) :
  ∃ A cap B fcap,nv=.slice A nx.length cap∧fv=.slice B fx.length fcap∧ProgV w ⟨A,B,cap,fcap,⟨nx.map Prod.fst,fx.map Prod.fst⟩⟩∧ProgV w2 ⟨A,B,cap,fcap,⟨nx.map Prod.fst,fx.map Prod.fst⟩⟩:=by
 obtain ⟨A,cap,rfl⟩:=zaeZ h.nd;obtain ⟨B,fcap,rfl⟩:=zaeZ h.fu
 have key:∀ wx:World,(∀ g,w0.heap.size≤g→g<w.heap.size→wx.heap[g]? = w.heap[g]?)→ProgV wx ⟨A,B,cap,fcap,⟨nx.map Prod.fst,fx.map Prod.fst⟩⟩:=fun wx hx=>by
  have mv:∀ {e:TypeId} {sz n:Nat} {v:Value} {xs:List Value},w.ownsRow w0.heap.size e sz v n xs→wx.ownsRow w0.heap.size e sz v n xs:=fun ho=>zchY ho (fun g hg=>by
   obtain ⟨h1,cs,hB⟩:=zakY ho hg;exact hx g h1 hB.lt)
  have hn:NodesV wx (.slice A nx.length cap) (nx.map Prod.fst):=nodes_sl (SlAt.of_own (mv h.nd) rfl (fun _=>rfl) (by decide)) (fun q hq=>by
   obtain ⟨h1,h2,h3⟩:=h.kids q hq;refine ⟨?_,ints_own (mv h1) (by have:=hk q hq;omega)⟩
   rw [h2,h3];exact zcrY (n0:=w0.heap.size) (e:=9) (l:=[]) (World.ownsRow_nil _ _ _ _)) (own_cap h.nd) (by omega)
  have hf:FuncsV wx (.slice B fx.length fcap) (fx.map Prod.fst):=funcs_sl (SlAt.of_own (mv h.fu) rfl (fun _=>rfl) (by decide)) (fun q hq=>zcrY (mv (h.pars q hq))) (own_cap h.fu) (by omega);exact ⟨by simpa using hn,by simpa using hf⟩
 exact ⟨A,cap,B,fcap,rfl,rfl,key w (fun _ _ _=>rfl),key w2 hw⟩
def P10:ProgD:=⟨nodes10,[⟨ "main".toUTF8,["e".toUTF8],7⟩]⟩
theorem syn10:synF P10=0:=by decide +kernel
theorem ok10:ProgOk P10:=⟨⟨by decide,by decide,by decide +kernel⟩,by decide,by decide +kernel⟩
section
attribute [local go_sem] zacZ
set_option maxHeartbeats 4000000 in
theorem parse10_p (w:World) (hv:Sent w) (hpw:Pow w) (P:Ending→World→Prop)
  (hPP:∀ e w',(∃ A nc B fc,e=.returned (.tuple #[.agg #[.slice A 8 nc,.slice B 1 fc],.int .i64 0,.int .i64 0])∧ProgV w' ⟨A,B,nc,fc,P10⟩∧Below w.heap.size w w')→P e w') :
  Calls prog 29 #[.string srcE] w P:=by
 have HP:=hZz hPP;clear hPP;have hmf:∀ (fn:Fn) (first cap:Array Value) (w:World),(Instr.makeFunc fn first cap).run prog w=.ok (.func fn first cap) w:=fun _ _ _ _=>rfl
 obtain ⟨s,hs⟩:∃ s,srcE=s:=⟨_,rfl⟩
 have hsz:s.size=49:=by rw [← hs];decide +kernel
 have HTO:Hid (∀ wx,Sent wx→Calls prog 75 #[.string s] wx fun e w'=>(∃ v,e=.returned (.tuple #[v,.int .i64 0,.int .i64 0])∧w'.ownsRow wx.heap.size 161 4 v toksE.length (toksE.flatMap Tok.cells))∧Below wx.heap.size wx w'):=hZz (fun wx hv=>by
  rw [← hs];exact tokens_x srcE wx (by rw [hs,hsz];decide) hv lexE.1 lexE.2 (by decide))
 have HV:=hZz hv;rw [hs];clear hs hv;go_enter_defers func29,ntmps29
 go_upto_region 1 with fail
 obtain ⟨W,hW⟩:∃ W,((w.alloc (.cells #[.slice none 0 0,.slice none 0 0] 38)).alloc (.cells #[.int .i64 0] 3)).alloc (.cells #[.int .i64 0] 25)=W:=⟨_,rfl⟩
 have HBW:Hid (Below w.heap.size w W):=hZz (by rw [← hW];exact below_3 _ _ _ _);have HW:=hZz hW;have HS:=hZz hsz;rw [hW];clear hW
 go_upto_region 4 with (first
  | (go_at_call 75;(refine (HTO.out _ (HV.out.below HBW.out)).mono ?_);rintro e w1 ⟨⟨v,rfl,ho⟩,hb⟩;obtain ⟨tA,tcap,rfl⟩:=zaeZ ho;have HO:=hZz ho;have HB1:=hZz hb;clear ho hb))
 obtain ⟨gp,hgp⟩:∃ g,w1.heap.size=g:=⟨_,rfl⟩
 obtain ⟨W2,hW2⟩:∃ W2,w1.alloc (.cells #[.slice tA toksE.length tcap,.int .i64 0,.int .i64 49,.slice none 0 0,.slice none 0 0] 119)=W2:=⟨_,rfl⟩
 have HPX:Hid (PXK ⟨W,gp,.slice tA toksE.length tcap,toksE,49,[],.slice none 0 0⟩ [] W2 0 []):=hZz (by
  have hb:=zabZ w1 (.cells #[.slice tA toksE.length tcap,.int .i64 0,.int .i64 49,.slice none 0 0,.slice none 0 0] 119);rw [hW2] at hb;refine ⟨[],.slice none 0 0,rfl,zadZ hb HB1.out,(by rw [← hgp];exact HB1.out.size),(by rw [← hW2,← hgp];exact Blk.new _ _ _),zajZ HO.out hb,World.ownsRow_nil _ _ _ _,World.ownsRow_nil _ _ _ _,(fun q hq=>by cases hq),(fun q hq=>by cases hq),(fun q hq=>by cases hq),(fun g hg=>by cases hg),(show toksE.length≤1000 by decide)⟩)
 have HW2:=hZz hW2;have HGP:=hZz hgp;have HSZ:=hZz hsz;clear hW2 hgp
 go_upto_region 7 with (first
  | (go_at_call 77;rw [HGP.out];(refine (program10 (K:=⟨W,gp,.slice tA toksE.length tcap,toksE,49,[],.slice none 0 0⟩) rfl rfl rfl (by first | exact HPX.out | (rw [HW2.out];exact HPX.out))).mono ?_);rintro e w3 ⟨rfl,u,fv',nx,nv,hnx,hst⟩;have HST:=hZz hst;have HNX:=hZz hnx;clear hst hnx))
 have hlen:nx.length=8:=by have:=congrArg List.length HNX.out;rw [List.length_map] at this;exact this
 have hkl:∀ q∈nx,q.1.kids.length≤1000:=fun q hq=>(by decide:∀ n∈nodes10,n.kids.length≤1000) _ (by rw [← HNX.out];exact List.mem_map_of_mem hq)
 have HPV:Hid (∀ w2:World,(∀ g,W.heap.size≤g→g<w3.heap.size→w2.heap[g]? = w3.heap[g]?)→∃ A cap B fcap,nv=.slice A 8 cap∧fv'=.slice B 1 fcap∧ProgV w3 ⟨A,B,cap,fcap,P10⟩∧ProgV w2 ⟨A,B,cap,fcap,P10⟩):=hZz (fun w2 hw=>by
  obtain ⟨A,cap,B,fcap,h1,h2,h3,h4⟩:=PSt.progV2 HST.out (by omega) (by simp) hkl hw;rw [HNX.out] at h3 h4;rw [hlen] at h1;exact ⟨A,cap,B,fcap,h1,h2,h3,h4⟩)
 obtain ⟨A,cap,B,fcap,hnv,hfv,hPV3,_⟩:=HPV.out w3 (fun _ _ _=>rfl);subst hnv hfv;obtain ⟨c0,c1,c2,c3,c4⟩:=blk5x HST.out.bp;have hp3:Pow w3:=hpw.below (zaaZ HST.out.bel HBW.out HBW.out.size);have hck:=check_s ⟨A,B,cap,fcap,P10⟩ w3 hPV3 hp3 ok10;rw [syn10] at hck;have HCK:Hid (Calls prog 78 #[.agg #[.slice A 8 cap,.slice B 1 fcap]] w3 fun e w'=>e=.returned (.int .i64 0)∧Below w3.heap.size w3 w'):=hZz hck;have hA:Blk W w.heap.size 38 #[.slice none 0 0,.slice none 0 0]:=by rw [← HW.out];exact ((Blk.new w _ _).alloc _).alloc _
 have hI:Blk W (w.heap.size+1) 3 #[.int .i64 0]:=by rw [← HW.out];exact (Blk.second w _ _ _).alloc _
 have hE:Blk W (w.heap.size+2) 25 #[.int .i64 0]:=by rw [← HW.out];exact Blk.third w _ _ _ _
 have HA:=hZz (hA.below HST.out.bel);have HI:=hZz (hI.below HST.out.bel);have HE:=hZz (hE.below HST.out.bel);have HGS:Hid (w.heap.size+3=W.heap.size):=hZz (by rw [← HW.out];simp);obtain ⟨gA,hgA⟩:∃ g,w.heap.size=g:=⟨_,rfl⟩
 obtain ⟨gI,hgI⟩:∃ g,w.heap.size+1=g:=⟨_,rfl⟩
 obtain ⟨gE,hgE⟩:∃ g,w.heap.size+2=g:=⟨_,rfl⟩
 have HNE:Hid (gA≠gI∧gA≠gE∧gI≠gE∧gA<W.heap.size∧gI<W.heap.size∧gE<W.heap.size∧w.heap.size≤gA∧w.heap.size≤gI∧w.heap.size≤gE):=hZz (by have:=HGS.out;omega);have HBEL:=hZz HST.out.bel;have HBP:=hZz HST.out.bp;rw [hgA] at HA;rw [hgI] at HI;rw [hgE] at HE;obtain ⟨tn,htn⟩:∃ n,toksE.length=n:=⟨_,rfl⟩
 have hgE2:w.heap.size+1+1=gE:=hgE;rw [hgE2,hgI,hgA];rw [htn] at c0 HBP ⊢;clear hlen hkl hck hA hI hE hp3 hpw HTO HV HW HS HO HB1 HPX HW2 HGP HSZ HNX hgE2 hgE hgI hgA htn hsz c0 c1 c2
 go_upto_region 10 with (first
  | (go_at_call 78;((with_reducible refine HCK.out.mono ?_);rintro e w4 ⟨rfl,hb4⟩;have HB34:=hZz hb4;have hbp4:=(HBP.out.below hb4);have HA4:=hZz (HA.out.below hb4);have HI4:=hZz (HI.out.below hb4);have HE4:=hZz (HE.out.below hb4);have d3:=hbp4.cell 3 _ rfl;have d4:=hbp4.cell 4 _ rfl;clear hb4 hbp4 c3 c4)))
 have hne1:gA≠gI:=HNE.out.1;have hne2:gA≠gE:=HNE.out.2.1;have hne3:gI≠gE:=HNE.out.2.2.1;obtain ⟨a0,a1⟩:=blk2 HA4.out;have z0:=HA4.out.frozen 0;have z1:=HA4.out.frozen 1;have i0:=HI4.out.cell 0 _ rfl;have zi:=HI4.out.frozen 0;have e0:=HE4.out.cell 0 _ rfl;have ze:=HE4.out.frozen 0;go_wp2_with (fail)
 have hb9a:=((((HA4.out.set_ 0 (.slice A 8 cap)).set_ 1 (.slice B 1 fcap)).far (p:=⟨gI,0,none⟩) hne1 (.int .i64 0)).far (p:=⟨gE,0,none⟩) hne2 (.int .i64 0))
 have hb9i:=((((HI4.out.far (p:=⟨gA,0,none⟩) hne1.symm (.slice A 8 cap)).far (p:=⟨gA,1,none⟩) hne1.symm (.slice B 1 fcap)).set_ 0 (.int .i64 0)).far (p:=⟨gE,0,none⟩) hne3 (.int .i64 0))
 have hb9e:=(((HE4.out.far (p:=⟨gA,0,none⟩) hne2.symm (.slice A 8 cap)).far (p:=⟨gA,1,none⟩) hne2.symm (.slice B 1 fcap)).far (p:=⟨gI,0,none⟩) hne3.symm (.int .i64 0)).set_ 0 (.int .i64 0)
 have hq:∀ g,g≠gA→g≠gI→g≠gE→((((w4.setCell ⟨gA,0,none⟩ (.slice A 8 cap)).setCell ⟨gA,1,none⟩ (.slice B 1 fcap)).setCell ⟨gI,0,none⟩ (.int .i64 0)).setCell ⟨gE,0,none⟩ (.int .i64 0)).heap[g]? = w4.heap[g]?:=fun g h1 h2 h3=>by
  rw [Below.heap_setCell _ ⟨gE,0,none⟩ _ g h3,Below.heap_setCell _ ⟨gI,0,none⟩ _ g h2,Below.heap_setCell _ ⟨gA,1,none⟩ _ g h1,Below.heap_setCell _ ⟨gA,0,none⟩ _ g h1]
 have hbel:Below w.heap.size w ((((w4.setCell ⟨gA,0,none⟩ (.slice A 8 cap)).setCell ⟨gA,1,none⟩ (.slice B 1 fcap)).setCell ⟨gI,0,none⟩ (.int .i64 0)).setCell ⟨gE,0,none⟩ (.int .i64 0)):=by
  obtain ⟨_,_,_,_,_,_,l1,l2,l3⟩:=HNE.out;have h4:Below w.heap.size w w4:=zaaZ HB34.out (zaaZ HBEL.out HBW.out HBW.out.size) (Nat.le_trans HBW.out.size HBEL.out.size);exact (((h4.grown (zamZ _ gA 0 _) h4.size (fun k hk=>by injection hk with hk;omega)).grown (zamZ _ gA 1 _) (by simpa using h4.size) (fun k hk=>by injection hk with hk;omega)).grown (zamZ _ gI 0 _) (by simpa using h4.size) (fun k hk=>by injection hk with hk;omega)).grown (zamZ _ gE 0 _) (by simpa using h4.size) (fun k hk=>by injection hk with hk;omega)
 obtain ⟨W9,hW9⟩:∃ W9,((((w4.setCell ⟨gA,0,none⟩ (.slice A 8 cap)).setCell ⟨gA,1,none⟩ (.slice B 1 fcap)).setCell ⟨gI,0,none⟩ (.int .i64 0)).setCell ⟨gE,0,none⟩ (.int .i64 0))=W9:=⟨_,rfl⟩
 rw [hW9] at hb9a hb9i hb9e hq hbel ⊢
 have hP9:ProgV W9 ⟨A,B,cap,fcap,P10⟩:=by
  obtain ⟨A',c',B',f',h1,h2,_,h4⟩:=HPV.out W9 (fun g h1 h2=>by
   obtain ⟨_,_,_,l1,l2,l3,_⟩:=HNE.out;rw [hq g (by omega) (by omega) (by omega)];exact HB34.out.block g h2)
  injection h1 with h1 _ h1'
  injection h2 with h2 _ h2'
  subst h1 h1' h2 h2';exact h4
 clear hW9 hq;refine leaves_cons (f:=76) (args:=#[.pointer (some ⟨gA,0,none⟩),.pointer (some ⟨gI,0,none⟩),.pointer (some ⟨gE,0,none⟩)]) (by simp) (by simp [go_sem]) ?_
 refine (parse_idle _ _ _ W9).mono ?_
 rintro e u' w' ⟨rfl,rfl,hb⟩;obtain ⟨r0,r1⟩:=blk2 (hb9a.below hb);have r2:=(hb9i.below hb).cell 0 _ rfl;have r3:=(hb9e.below hb).cell 0 _ rfl;show Leaves _ _ _ _ [] _ _;refine ⟨.tuple #[.agg #[.slice A 8 cap,.slice B 1 fcap],.int .i64 0,.int .i64 0],?_,?_⟩
 ·simp [results,Tryz.results29,go_sem,r0,r1,r2,r3]
 ·exact HP.out _ _ ⟨A,cap,B,fcap,rfl,hP9.below hb,zaaZ hb hbel hbel.size⟩
theorem parse10_s (w:World) (hv:Sent w) (hpw:Pow w):Calls prog 29 #[.string srcE] w fun e w'=>∃ A nc B fc,e=.returned (.tuple #[.agg #[.slice A 8 nc,.slice B 1 fc],.int .i64 0,.int .i64 0])∧ProgV w' ⟨A,B,nc,fc,P10⟩∧Below w.heap.size w w':=parse10_p w hv hpw _ (fun _ _ h=>h)
end
end Go.Proofs.YtekdhlfapejijaaGreatDoor
