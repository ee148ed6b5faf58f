/- XR, XT, AK0, XS, AK2, AK3, AK7 -/
import Derived.Test.YtekdhlfapejijaaGreatDoorQH21
import Derived.Test.YtekdhlfapejijaaGreatDoorQRO4
import Derived.Defers
import Derived.Recover
set_option linter.unusedVariables false
set_option linter.unusedSimpArgs false
namespace Go.Proofs.YtekdhlfapejijaaGreatDoor
open Go.RowKit
set_option maxRecDepth 100000
open Go.Proofs.Tryz
theorem program10 {K:ParC} (hts:K.ts=toksE) (hfx:K.fx=[]) (hfv:K.fv=.slice none 0 0) {F:List Nat} {w:World} (h:PXK K F w 0 []) :
  Calls prog 77 #[.pointer (some ⟨K.gp,0,none⟩)] w fun e w'=>e=.returned (.tuple #[])∧∃ u fv',PX K.w0 K.gp K.tv K.ts K.en [(⟨ "main".toUTF8,["e".toUTF8],7⟩,u)] fv' F w' 20 nodes10:=by
 have nf:∀ (p:Nat) (k:Int) (l:List ByteArray) (b:Bool),nextF toksE p k l=b→nextF K.ts p k l=b:=fun p k l b h=>by rw [hts];exact h
 have tk:∀ (p:Nat) (t:Tok),toksE[p]? = some t→K.ts[p]? = some t:=fun p t h=>by rw [hts];exact h
 exact program1_x (K:=K) (p:=0) (ns:=[]) hfx hfv (nf _ _ _ _ (by decide +kernel)) (t0:=⟨2,"func".toUTF8,0,0⟩) (t1:=⟨1,"main".toUTF8,0,5⟩) (t2:=⟨5,"(".toUTF8,0,9⟩) (t3:=⟨1,"e".toUTF8,0,10⟩) (t4:=⟨5,")".toUTF8,0,11⟩) (tk _ _ (by decide +kernel)) (nf _ _ _ _ (by decide +kernel)) (tk _ _ (by decide +kernel)) (nf _ _ _ _ (by decide +kernel)) (tk _ _ (by decide +kernel)) (nf _ _ _ _ (by decide +kernel)) (nf _ _ _ _ (by decide +kernel)) (tk _ _ (by decide +kernel)) (nf _ _ _ _ (by decide +kernel)) (tk _ _ (by decide +kernel)) (by decide +kernel) (block10 hts) (by rw [hts];rfl) h
set_option maxHeartbeats 1000000 in
theorem parse_idle (a b c:Value) (w:World) :
  CallsD prog 76 #[a,b,c] .returning w fun e u' w'=>e=.returned (.tuple #[])∧u'=.returning∧Below w.heap.size w w':=by
 have hta:∀ w:World,(Instr.typeAssert .nilIface 20 121 true).run prog w=.ok (.tuple #[.agg #[.int .i64 0],.bool false]) w:=by intro w;kernel_rfl
 refine callsD_of_wpS func76 rfl fun c₀ cs hu=>?_
 apply wpS_seq
 apply wpS_region
 simp [wpOpsS,go_sem,recoverD,hu,ntmps76,Exit.thenS,hta]
 apply wpS_seq
 apply wpS_region
 simp [wpOpsS,go_sem,Exit.thenS]
 refine wpS_cond (t:=false) (by simp [Act.eval,Array.replicate]) ?_
 simp only [Bool.false_eq_true,if_false];refine wpS_of_wp (wp_skip ?_)
 cases c₀
 simp_all [bodyPostS,results,Tryz.results76]
 exact zaaZ _ _
theorem PSt.progV {w0 w:World} {gp:Nat} {tv:Value} {ts:List Tok} {en:Int} {fx:List FuncX} {fv:Value} {F:List Nat} {p:Nat} {nx:List NodeX} {nv:Value} (h:PSt w0 gp tv ts en fx fv F w p nx nv) (hl:nx.length≤1000) (hl2:fx.length≤1000) (hk:∀ q∈nx,q.1.kids.length≤1000) :
  ∃ S:ProgS,S.p=⟨nx.map Prod.fst,fx.map Prod.fst⟩∧nv=.slice S.A S.p.nodes.length S.ncap∧fv=.slice S.B S.p.funcs.length S.fcap∧ProgV w S:=by
 obtain ⟨A,cap,rfl⟩:=zafZ h.nd;obtain ⟨B,fcap,rfl⟩:=zafZ h.fu
 have hn:NodesV w (.slice A nx.length cap) (nx.map Prod.fst):=nodes_sl (SlAt.of_own h.nd rfl (fun _=>rfl) (by decide)) (fun q hq=>by
  obtain ⟨h1,h2,h3⟩:=h.kids q hq;refine ⟨?_,ints_own h1 (by have:=hk q hq;omega)⟩
  rw [h2,h3];exact zdcY (n0:=w0.heap.size) (e:=9) (l:=[]) (World.ownsRow_nil _ _ _ _)) (own_cap h.nd) (by omega)
 have hf:FuncsV w (.slice B fx.length fcap) (fx.map Prod.fst):=funcs_sl (SlAt.of_own h.fu rfl (fun _=>rfl) (by decide)) (fun q hq=>zdcY (h.pars q hq)) (own_cap h.fu) (by omega);refine ⟨⟨A,B,cap,fcap,⟨nx.map Prod.fst,fx.map Prod.fst⟩⟩,rfl,by simp,by simp,?_,?_⟩
 ·simpa using hn
 ·simpa using hf
theorem PSt.progV2 {w0 w w2:World} {gp:Nat} {tv:Value} {ts:List Tok} {en:Int} {fx:List FuncX} {fv:Value} {F:List Nat} {p:Nat} {nx:List NodeX} {nv:Value} (h:PSt w0 gp tv ts en fx fv F w p nx nv) (hl:nx.length≤1000) (hl2:fx.length≤1000) (hk:∀ q∈nx,q.1.kids.length≤1000)
  (hw:∀ g,w0.heap.size≤g→g<w.heap.size→w2.heap[g]? = w.heap[g]?) :
  ∃ A cap B fcap,nv=.slice A nx.length cap∧fv=.slice B fx.length fcap∧ProgV w ⟨A,B,cap,fcap,⟨nx.map Prod.fst,fx.map Prod.fst⟩⟩∧ProgV w2 ⟨A,B,cap,fcap,⟨nx.map Prod.fst,fx.map Prod.fst⟩⟩:=by
 obtain ⟨A,cap,rfl⟩:=zafZ h.nd;obtain ⟨B,fcap,rfl⟩:=zafZ h.fu
 have key:∀ wx:World,(∀ g,w0.heap.size≤g→g<w.heap.size→wx.heap[g]? = w.heap[g]?)→ProgV wx ⟨A,B,cap,fcap,⟨nx.map Prod.fst,fx.map Prod.fst⟩⟩:=fun wx hx=>by
  have mv:∀ {e:TypeId} {sz n:Nat} {v:Value} {xs:List Value},w.ownsRow w0.heap.size e sz v n xs→wx.ownsRow w0.heap.size e sz v n xs:=fun ho=>zb6Y ho (fun g hg=>by
   obtain ⟨h1,cs,hB⟩:=zanY ho hg;exact hx g h1 hB.lt)
  have hn:NodesV wx (.slice A nx.length cap) (nx.map Prod.fst):=nodes_sl (SlAt.of_own (mv h.nd) rfl (fun _=>rfl) (by decide)) (fun q hq=>by
   obtain ⟨h1,h2,h3⟩:=h.kids q hq;refine ⟨?_,ints_own (mv h1) (by have:=hk q hq;omega)⟩
   rw [h2,h3];exact zdcY (n0:=w0.heap.size) (e:=9) (l:=[]) (World.ownsRow_nil _ _ _ _)) (own_cap h.nd) (by omega)
  have hf:FuncsV wx (.slice B fx.length fcap) (fx.map Prod.fst):=funcs_sl (SlAt.of_own (mv h.fu) rfl (fun _=>rfl) (by decide)) (fun q hq=>zdcY (mv (h.pars q hq))) (own_cap h.fu) (by omega);exact ⟨by simpa using hn,by simpa using hf⟩
 exact ⟨A,cap,B,fcap,rfl,rfl,key w (fun _ _ _=>rfl),key w2 hw⟩
def P10:ProgD:=⟨nodes10,[⟨ "main".toUTF8,["e".toUTF8],7⟩]⟩
theorem syn10:synF P10=0:=by decide +kernel
theorem ok10:ProgOk P10:=⟨⟨by decide,by decide,by decide +kernel⟩,by decide,by decide +kernel⟩
section
def okA:Option OutD × Int→Bool
 | (some o,e)=>decide (e=0) && (!o.done) && decide (o.requests=[⟨ "get".toUTF8,[[sCel "k".toUTF8]]⟩])
 | _=>false
def okB:Option OutD × Int→Bool
 | (some o,e)=>decide (e=0) && o.done && decide (o.err=0) && decide (o.value=[iCel 5])
 | _=>false
theorem run10a:okA (runE P10 [iCel 0] [] 100)=true:=by decide +kernel
theorem run10b:okB (runE P10 [iCel 0] [⟨0,[iCel 4]⟩] 100)=true:=by decide +kernel
theorem okA_of {r:Option OutD × Int} (h:okA r=true) {o:OutD} (ho:r.1=some o):r.2=0∧o.done=false∧o.requests=[⟨ "get".toUTF8,[[sCel "k".toUTF8]]⟩]:=by
 obtain ⟨r1,e⟩:=r;subst ho;simpa [okA,and_assoc] using h
theorem okB_of {r:Option OutD × Int} (h:okB r=true) {o:OutD} (ho:r.1=some o):r.2=0∧o.done=true∧o.err=0∧o.value=[iCel 5]:=by
 obtain ⟨r1,e⟩:=r;subst ho;simpa [okB,and_assoc] using h
theorem smallB_ok {l:ValD} (h:smallB l=true):l.length≤300∧∀ c∈l,c.str.size≤5000:=by
 unfold smallB at h;simp only [Bool.and_eq_true,decide_eq_true_eq,List.all_eq_true] at h;exact h
def IntOk (c:CellD):Prop:=(-9223372036854775808≤c.int∧c.int≤9223372036854775807)∧c.n≤9223372036854775807
theorem zbyY {l:ValD} (h:smallB l=true) (hi:∀ c∈l,IntOk c):OkV l:=by
 obtain ⟨h1,h2⟩:=smallB_ok h;exact ⟨by omega,fun c hc=>⟨by have:=h2 c hc;omega,(hi c hc).1,(hi c hc).2⟩⟩
attribute [local go_sem] zacZ
set_option maxHeartbeats 4000000 in
theorem integer_h (n:Int) (w:World):Calls prog 28 #[.int .i64 n] w fun e w'=>∃ g,e=.returned (.slice (some ⟨g,0,none⟩) 1 1)∧ValV w' (.slice (some ⟨g,0,none⟩) 1 1) [iCel n]∧Below w.heap.size w w':=by
 obtain ⟨P,hP⟩:∃ P:Ending→World→Prop,(fun e w'=>∃ g,e=.returned (.slice (some ⟨g,0,none⟩) 1 1)∧ValV w' (.slice (some ⟨g,0,none⟩) 1 1) [iCel n]∧Below w.heap.size w w')=P:=⟨_,rfl⟩
 rw [hP];have HP:=hZz hP;clear hP;go_enter func28,ntmps28
 go_wp2_with (fail)
 rw [← HP.out]
 first
 | exact ⟨_,rfl,zaoY (c:=iCel n) (Blk.new _ _ _),zaaZ _ _⟩
 | exact ⟨_,rfl,zaoY (c:=iCel n) (Blk.second _ _ _ _),zaqY _ _ _⟩
end
section
attribute [local go_sem] zacZ
set_option maxHeartbeats 4000000 in
theorem parse10_p (w:World) (hv:Sent w) (hpw:Pow w) (P:Ending→World→Prop)
  (hPP:∀ e w',(∃ A nc B fc,e=.returned (.tuple #[.agg #[.slice A 8 nc,.slice B 1 fc],.int .i64 0,.int .i64 0])∧ProgV w' ⟨A,B,nc,fc,P10⟩∧Below w.heap.size w w')→P e w') :
  Calls prog 29 #[.string srcE] w P:=by
 have HP:=hZz hPP;clear hPP;have hmf:∀ (fn:Fn) (first cap:Array Value) (w:World),(Instr.makeFunc fn first cap).run prog w=.ok (.func fn first cap) w:=fun _ _ _ _=>rfl
 obtain ⟨s,hs⟩:∃ s,srcE=s:=⟨_,rfl⟩
 have hsz:s.size=49:=by rw [← hs];decide +kernel
 have HTO:Hid (∀ wx,Sent wx→Calls prog 75 #[.string s] wx fun e w'=>(∃ v,e=.returned (.tuple #[v,.int .i64 0,.int .i64 0])∧w'.ownsRow wx.heap.size 161 4 v toksE.length (toksE.flatMap Tok.cells))∧Below wx.heap.size wx w'):=hZz (fun wx hv=>by
  rw [← hs];exact tokens_x srcE wx (by rw [hs,hsz];decide) hv lexE.1 lexE.2 (by decide))
 have HV:=hZz hv;rw [hs];clear hs hv;go_enter_defers func29,ntmps29
 go_upto_region 1 with fail
 obtain ⟨W,hW⟩:∃ W,((w.alloc (.cells #[.slice none 0 0,.slice none 0 0] 38)).alloc (.cells #[.int .i64 0] 3)).alloc (.cells #[.int .i64 0] 25)=W:=⟨_,rfl⟩
 have HBW:Hid (Below w.heap.size w W):=hZz (by rw [← hW];exact below_3 _ _ _ _);have HW:=hZz hW;have HS:=hZz hsz;rw [hW];clear hW
 go_upto_region 4 with (first
  | (go_at_call 75;(refine (HTO.out _ (HV.out.below HBW.out)).mono ?_);rintro e w1 ⟨⟨v,rfl,ho⟩,hb⟩;obtain ⟨tA,tcap,rfl⟩:=zafZ ho;have HO:=hZz ho;have HB1:=hZz hb;clear ho hb))
 obtain ⟨gp,hgp⟩:∃ g,w1.heap.size=g:=⟨_,rfl⟩
 obtain ⟨W2,hW2⟩:∃ W2,w1.alloc (.cells #[.slice tA toksE.length tcap,.int .i64 0,.int .i64 49,.slice none 0 0,.slice none 0 0] 119)=W2:=⟨_,rfl⟩
 have HPX:Hid (PXK ⟨W,gp,.slice tA toksE.length tcap,toksE,49,[],.slice none 0 0⟩ [] W2 0 []):=hZz (by
  have hb:=zaaZ w1 (.cells #[.slice tA toksE.length tcap,.int .i64 0,.int .i64 49,.slice none 0 0,.slice none 0 0] 119);rw [hW2] at hb;refine ⟨[],.slice none 0 0,rfl,zadZ hb HB1.out,(by rw [← hgp];exact HB1.out.size),(by rw [← hW2,← hgp];exact Blk.new _ _ _),zakZ HO.out hb,World.ownsRow_nil _ _ _ _,World.ownsRow_nil _ _ _ _,(fun q hq=>by cases hq),(fun q hq=>by cases hq),(fun q hq=>by cases hq),(fun g hg=>by cases hg),(show toksE.length≤1000 by decide)⟩)
 have HW2:=hZz hW2;have HGP:=hZz hgp;have HSZ:=hZz hsz;clear hW2 hgp
 go_upto_region 7 with (first
  | (go_at_call 77;rw [HGP.out];(refine (program10 (K:=⟨W,gp,.slice tA toksE.length tcap,toksE,49,[],.slice none 0 0⟩) rfl rfl rfl (by first | exact HPX.out | (rw [HW2.out];exact HPX.out))).mono ?_);rintro e w3 ⟨rfl,u,fv',nx,nv,hnx,hst⟩;have HST:=hZz hst;have HNX:=hZz hnx;clear hst hnx))
 have hlen:nx.length=8:=by have:=congrArg List.length HNX.out;rw [List.length_map] at this;exact this
 have hkl:∀ q∈nx,q.1.kids.length≤1000:=fun q hq=>(by decide:∀ n∈nodes10,n.kids.length≤1000) _ (by rw [← HNX.out];exact List.mem_map_of_mem hq)
 have HPV:Hid (∀ w2:World,(∀ g,W.heap.size≤g→g<w3.heap.size→w2.heap[g]? = w3.heap[g]?)→∃ A cap B fcap,nv=.slice A 8 cap∧fv'=.slice B 1 fcap∧ProgV w3 ⟨A,B,cap,fcap,P10⟩∧ProgV w2 ⟨A,B,cap,fcap,P10⟩):=hZz (fun w2 hw=>by
  obtain ⟨A,cap,B,fcap,h1,h2,h3,h4⟩:=PSt.progV2 HST.out (by omega) (by simp) hkl hw;rw [HNX.out] at h3 h4;rw [hlen] at h1;exact ⟨A,cap,B,fcap,h1,h2,h3,h4⟩)
 obtain ⟨A,cap,B,fcap,hnv,hfv,hPV3,_⟩:=HPV.out w3 (fun _ _ _=>rfl);subst hnv hfv;obtain ⟨c0,c1,c2,c3,c4⟩:=blk5x HST.out.bp;have hp3:Pow w3:=hpw.below (zabZ HST.out.bel HBW.out HBW.out.size);have hck:=check_s ⟨A,B,cap,fcap,P10⟩ w3 hPV3 hp3 ok10;rw [syn10] at hck;have HCK:Hid (Calls prog 78 #[.agg #[.slice A 8 cap,.slice B 1 fcap]] w3 fun e w'=>e=.returned (.int .i64 0)∧Below w3.heap.size w3 w'):=hZz hck;have hA:Blk W w.heap.size 38 #[.slice none 0 0,.slice none 0 0]:=by rw [← HW.out];exact ((Blk.new w _ _).alloc _).alloc _
 have hI:Blk W (w.heap.size+1) 3 #[.int .i64 0]:=by rw [← HW.out];exact (Blk.second w _ _ _).alloc _
 have hE:Blk W (w.heap.size+2) 25 #[.int .i64 0]:=by rw [← HW.out];exact Blk.third w _ _ _ _
 have HA:=hZz (hA.below HST.out.bel);have HI:=hZz (hI.below HST.out.bel);have HE:=hZz (hE.below HST.out.bel);have HGS:Hid (w.heap.size+3=W.heap.size):=hZz (by rw [← HW.out];simp);obtain ⟨gA,hgA⟩:∃ g,w.heap.size=g:=⟨_,rfl⟩
 obtain ⟨gI,hgI⟩:∃ g,w.heap.size+1=g:=⟨_,rfl⟩
 obtain ⟨gE,hgE⟩:∃ g,w.heap.size+2=g:=⟨_,rfl⟩
 have HNE:Hid (gA≠gI∧gA≠gE∧gI≠gE∧gA<W.heap.size∧gI<W.heap.size∧gE<W.heap.size∧w.heap.size≤gA∧w.heap.size≤gI∧w.heap.size≤gE):=hZz (by have:=HGS.out;omega);have HBEL:=hZz HST.out.bel;have HBP:=hZz HST.out.bp;rw [hgA] at HA;rw [hgI] at HI;rw [hgE] at HE;obtain ⟨tn,htn⟩:∃ n,toksE.length=n:=⟨_,rfl⟩
 have hgE2:w.heap.size+1+1=gE:=hgE;rw [hgE2,hgI,hgA];rw [htn] at c0 HBP ⊢;clear hlen hkl hck hA hI hE hp3 hpw HTO HV HW HS HO HB1 HPX HW2 HGP HSZ HNX hgE2 hgE hgI hgA htn hsz c0 c1 c2
 go_upto_region 10 with (first
  | (go_at_call 78;((with_reducible refine HCK.out.mono ?_);rintro e w4 ⟨rfl,hb4⟩;have HB34:=hZz hb4;have hbp4:=(HBP.out.below hb4);have HA4:=hZz (HA.out.below hb4);have HI4:=hZz (HI.out.below hb4);have HE4:=hZz (HE.out.below hb4);have d3:=hbp4.cell 3 _ rfl;have d4:=hbp4.cell 4 _ rfl;clear hb4 hbp4 c3 c4)))
 have hne1:gA≠gI:=HNE.out.1;have hne2:gA≠gE:=HNE.out.2.1;have hne3:gI≠gE:=HNE.out.2.2.1;obtain ⟨a0,a1⟩:=blk2 HA4.out;have z0:=HA4.out.frozen 0;have z1:=HA4.out.frozen 1;have i0:=HI4.out.cell 0 _ rfl;have zi:=HI4.out.frozen 0;have e0:=HE4.out.cell 0 _ rfl;have ze:=HE4.out.frozen 0;go_wp2_with (fail)
 have hb9a:=((((HA4.out.set_ 0 (.slice A 8 cap)).set_ 1 (.slice B 1 fcap)).far (p:=⟨gI,0,none⟩) hne1 (.int .i64 0)).far (p:=⟨gE,0,none⟩) hne2 (.int .i64 0))
 have hb9i:=((((HI4.out.far (p:=⟨gA,0,none⟩) hne1.symm (.slice A 8 cap)).far (p:=⟨gA,1,none⟩) hne1.symm (.slice B 1 fcap)).set_ 0 (.int .i64 0)).far (p:=⟨gE,0,none⟩) hne3 (.int .i64 0))
 have hb9e:=(((HE4.out.far (p:=⟨gA,0,none⟩) hne2.symm (.slice A 8 cap)).far (p:=⟨gA,1,none⟩) hne2.symm (.slice B 1 fcap)).far (p:=⟨gI,0,none⟩) hne3.symm (.int .i64 0)).set_ 0 (.int .i64 0)
 have hq:∀ g,g≠gA→g≠gI→g≠gE→((((w4.setCell ⟨gA,0,none⟩ (.slice A 8 cap)).setCell ⟨gA,1,none⟩ (.slice B 1 fcap)).setCell ⟨gI,0,none⟩ (.int .i64 0)).setCell ⟨gE,0,none⟩ (.int .i64 0)).heap[g]? = w4.heap[g]?:=fun g h1 h2 h3=>by
  rw [Below.heap_setCell _ ⟨gE,0,none⟩ _ g h3,Below.heap_setCell _ ⟨gI,0,none⟩ _ g h2,Below.heap_setCell _ ⟨gA,1,none⟩ _ g h1,Below.heap_setCell _ ⟨gA,0,none⟩ _ g h1]
 have hbel:Below w.heap.size w ((((w4.setCell ⟨gA,0,none⟩ (.slice A 8 cap)).setCell ⟨gA,1,none⟩ (.slice B 1 fcap)).setCell ⟨gI,0,none⟩ (.int .i64 0)).setCell ⟨gE,0,none⟩ (.int .i64 0)):=by
  obtain ⟨_,_,_,_,_,_,l1,l2,l3⟩:=HNE.out;have h4:Below w.heap.size w w4:=zabZ HB34.out (zabZ HBEL.out HBW.out HBW.out.size) (Nat.le_trans HBW.out.size HBEL.out.size);exact (((h4.grown (zajZ _ gA 0 _) h4.size (fun k hk=>by injection hk with hk;omega)).grown (zajZ _ gA 1 _) (by simpa using h4.size) (fun k hk=>by injection hk with hk;omega)).grown (zajZ _ gI 0 _) (by simpa using h4.size) (fun k hk=>by injection hk with hk;omega)).grown (zajZ _ gE 0 _) (by simpa using h4.size) (fun k hk=>by injection hk with hk;omega)
 obtain ⟨W9,hW9⟩:∃ W9,((((w4.setCell ⟨gA,0,none⟩ (.slice A 8 cap)).setCell ⟨gA,1,none⟩ (.slice B 1 fcap)).setCell ⟨gI,0,none⟩ (.int .i64 0)).setCell ⟨gE,0,none⟩ (.int .i64 0))=W9:=⟨_,rfl⟩
 rw [hW9] at hb9a hb9i hb9e hq hbel ⊢
 have hP9:ProgV W9 ⟨A,B,cap,fcap,P10⟩:=by
  obtain ⟨A',c',B',f',h1,h2,_,h4⟩:=HPV.out W9 (fun g h1 h2=>by
   obtain ⟨_,_,_,l1,l2,l3,_⟩:=HNE.out;rw [hq g (by omega) (by omega) (by omega)];exact HB34.out.block g h2)
  injection h1 with h1 _ h1'
  injection h2 with h2 _ h2'
  subst h1 h1' h2 h2';exact h4
 clear hW9 hq;refine leaves_cons (f:=76) (args:=#[.pointer (some ⟨gA,0,none⟩),.pointer (some ⟨gI,0,none⟩),.pointer (some ⟨gE,0,none⟩)]) (by simp) (by simp [go_sem]) ?_
 refine (parse_idle _ _ _ W9).mono ?_
 rintro e u' w' ⟨rfl,rfl,hb⟩;obtain ⟨r0,r1⟩:=blk2 (hb9a.below hb);have r2:=(hb9i.below hb).cell 0 _ rfl;have r3:=(hb9e.below hb).cell 0 _ rfl;show Leaves _ _ _ _ [] _ _;refine ⟨.tuple #[.agg #[.slice A 8 cap,.slice B 1 fcap],.int .i64 0,.int .i64 0],?_,?_⟩
 ·simp [results,Tryz.results29,go_sem,r0,r1,r2,r3]
 ·exact HP.out _ _ ⟨A,cap,B,fcap,rfl,hP9.below hb,zabZ hb hbel hbel.size⟩
theorem parse10_s (w:World) (hv:Sent w) (hpw:Pow w):Calls prog 29 #[.string srcE] w fun e w'=>∃ A nc B fc,e=.returned (.tuple #[.agg #[.slice A 8 nc,.slice B 1 fc],.int .i64 0,.int .i64 0])∧ProgV w' ⟨A,B,nc,fc,P10⟩∧Below w.heap.size w w':=parse10_p w hv hpw _ (fun _ _ h=>h)
end
def StrAt (w:World) (b off:Nat) (s:ByteArray):Prop:=w.cell? ⟨b,off,none⟩=some (.string s)
theorem StrAt.below {w w':World} {b off:Nat} {s:ByteArray} (h:StrAt w b off s) (hb:Below w.heap.size w w'):StrAt w' b off s:=(hb.cell (World.block_lt_of_cell? w _ h)).trans h
theorem StrAt.ne {w:World} {b off g:Nat} {s:ByteArray} (h:StrAt w b off s) (hB:Blk w g 44 #[.bool false,.int .i64 0,.slice none 0 0,.slice none 0 0]):b≠g:=by
 rintro rfl;unfold StrAt World.cell? at h;unfold Blk at hB;rw [hB] at h;simp only at h
 match off,h with
 | 0,h=>simp at h
 | 1,h=>simp at h
 | 2,h=>simp at h
 | 3,h=>simp at h
 | n+4,h=>simp at h
theorem StrAt.setRow {w:World} {b off g:Nat} {s:ByteArray} {cs:Array Value} (h:StrAt w b off s) (hB:Blk w g 44 #[.bool false,.int .i64 0,.slice none 0 0,.slice none 0 0]):StrAt (w.setRow g cs) b off s:=by
 have hne:=h.ne hB;unfold StrAt World.cell? at h ⊢;rw [setRow_other w g b cs hne];exact h
def One (w:World) (b off:Nat) (c:CellD):Prop:=w.cell? ⟨b,off,none⟩=some (.int .i64 c.kind)∧w.cell? ⟨b,off+1,none⟩=some (.int .i64 c.int)∧StrAt w b (off+2) c.str∧w.cell? ⟨b,off+3,none⟩=some (.int .i64 c.n)
theorem One.below {w w':World} {b off:Nat} {c:CellD} (h:One w b off c) (hb:Below w.heap.size w w'):One w' b off c :=
 ⟨(hb.cell (World.block_lt_of_cell? w _ h.1)).trans h.1,(hb.cell (World.block_lt_of_cell? w _ h.2.1)).trans h.2.1,h.2.2.1.below hb,(hb.cell (World.block_lt_of_cell? w _ h.2.2.2)).trans h.2.2.2⟩
theorem One.setRow {w:World} {b off g:Nat} {c:CellD} {cs:Array Value} (h:One w b off c) (hB:Blk w g 44 #[.bool false,.int .i64 0,.slice none 0 0,.slice none 0 0]):One (w.setRow g cs) b off c:=by
 have hne:=h.2.2.1.ne hB;have e:∀ k,(w.setRow g cs).cell? ⟨b,k,none⟩=w.cell? ⟨b,k,none⟩:=fun k=>by unfold World.cell?;rw [setRow_other w g b cs hne]
 exact ⟨(e _).trans h.1,(e _).trans h.2.1,h.2.2.1.setRow hB,(e _).trans h.2.2.2⟩
theorem One.of {w:World} {A:Option Addr} {n cap:Nat} {c:CellD} (h:ValV w (.slice A n cap) [c]):∃ b off,A=some ⟨b,off,none⟩∧n=1∧1≤cap∧One w b off c:=by
 obtain ⟨A',cap',e,h1,_,hs⟩:=h.at;injection e with e1 e2 e3
 subst e1 e2 e3;obtain ⟨b,off,rfl,_⟩:=hs.ptr (n:=0) (by simp);have c0:=hs.cell0 (n:=0) (by simp) (v:=.int .i64 c.kind) rfl;have c1:=hs.cell (n:=0) (by simp) (j:=1) (v:=.int .i64 c.int) rfl;have c2:=hs.cell (n:=0) (by simp) (j:=2) (v:=.string c.str) rfl;have c3:=hs.cell (n:=0) (by simp) (j:=3) (v:=.int .i64 c.n) rfl;simp only [Nat.zero_mul,Nat.add_zero] at c0 c1 c2 c3;exact ⟨b,off,rfl,rfl,by simpa using h1,c0,c1,c2,c3⟩
theorem One.val {w:World} {b off cap:Nat} {c:CellD} (h:One w b off c) (hc:1≤cap):ValV w (.slice (some ⟨b,off,none⟩) 1 cap) [c]:=by
 refine ⟨_,cap,[c.cells],rfl,by simpa using hc,by simp,?_,rfl,?_⟩
 ·intro i row hi
  have hlt:=World.block_lt_of_cell? w _ h.1
  match i,hi with
  | 0,hi =>
   simp at hi
   subst hi;refine ⟨b,off,rfl,hlt,fun j v hv=>?_⟩
   match j,hv with
   | 0,hv=>simp [CellD.cells] at hv;subst hv;simpa using h.1
   | 1,hv=>simp [CellD.cells] at hv;subst hv;simpa using h.2.1
   | 2,hv=>simp [CellD.cells] at hv;subst hv;simpa [StrAt] using h.2.2.1
   | 3,hv=>simp [CellD.cells] at hv;subst hv;simpa using h.2.2.2
   | n+4,hv=>simp [CellD.cells] at hv
  | n+1,hi=>simp at hi
 ·intro i hi hi'
  match i,hi,hi' with
  | 0,hi,hi'=>rfl
  | n+1,hi,hi'=>simp at hi
theorem ret1 {w w':World} {r:ResD} {e:Ending} (h:RetR w [] r e w'):∃ A c,e=.returned (.tuple #[.slice A r.1.length c,.int .i64 r.2])∧ValV w' (.slice A r.1.length c) r.1∧Below w.heap.size w w':=by
 obtain ⟨u,rfl,hv,_,hb⟩:=h;obtain ⟨A,c,rfl,_⟩:=hv.at;exact ⟨A,c,rfl,hv,hb⟩
theorem okV1 {c:CellD} (h:okC c):OkV [c]:=⟨by simp,fun x hx=>by simp at hx;subst hx;exact h⟩
theorem ans1 {w:World} {g:Nat} {t:TypeId} {e:Int} {v:Value} {l:ValD} (h:Blk w g t #[.int .i64 e,v]) (hv:ValV w v l):AnsV w (.slice (some ⟨g,0,none⟩) 1 1) [⟨e,l⟩]:=by
 refine ⟨_,1,[[.int .i64 e,v]],rfl,by simp,by simp,?_,rfl,?_⟩
 ·intro i row hi
  match i,hi with
  | 0,hi =>
   simp at hi
   subst hi;refine ⟨g,0,rfl,h.lt,fun j u hu=>?_⟩
   match j,hu with
   | 0,hu=>simp at hu;subst hu;exact h.cell 0 _ rfl
   | 1,hu=>simp at hu;subst hu;exact h.cell 1 _ rfl
   | n+2,hu=>simp at hu
  | n+1,hi=>simp at hi
 ·intro i hi hi'
  match i,hi,hi' with
  | 0,hi,hi'=>exact ⟨v,rfl,hv⟩
  | n+1,hi,hi'=>simp at hi
theorem zdoY:SmallEv P10:=⟨by decide,by decide,by decide +kernel,by decide +kernel⟩
theorem run_a (w:World) (hp:Pow w) (hm:MaxL w) (hs:Sent w) (A:Option Addr) (nc:Nat) (B:Option Addr) (fc:Nat) (ev:Value) (hP:ProgV w ⟨A,B,nc,fc,P10⟩) (hv:ValV w ev [iCel 0]) :
  Calls prog 24 #[.agg #[.slice A 8 nc,.slice B 1 fc],ev,.slice none 0 0,.int .i64 100] w fun e w'=>∃ er vA vn vc b off qc,e=.returned (.tuple #[.agg #[.bool false,.int .i64 er,.slice vA vn vc,.slice (some ⟨b,off,none⟩) 1 qc],.int .i64 0])∧StrAt w' b off ⟨#[103,101,116]⟩∧Below w.heap.size w w':=by
 have h:=run_h ⟨A,B,nc,fc,P10⟩ [iCel 0] ev [] none 0 100 w ⟨hP,hv,RowsV.nil none 0,hp,hm,hs,zdoY,okV1 ⟨by decide,by decide,by decide⟩,fun a ha=>(by cases ha),by decide⟩;refine h.mono ?_
 rintro e w' ⟨oo,ov,h1,rfl,⟨vv,qv,rfl,h3,h4⟩,h5,_⟩;obtain ⟨e2,e3,e4⟩:=okA_of run10a h1;obtain ⟨vA,vn,vc,rfl⟩:=h3.shape;obtain ⟨qA,qc,rows,rfl,q1,q2,q3,q4,q5⟩:=h4;rw [e4] at q4 q5;have hl:0<rows.length:=by rw [q4];decide
 obtain ⟨b,off,rfl,_⟩:=q3.ptr hl;obtain ⟨av,hr,_⟩:=q5 0 hl (by decide);have c0:=q3.cell0 hl (v:=.string ⟨#[103,101,116]⟩) (by rw [hr];show some (Value.string "get".toUTF8)=_;rw [show "get".toUTF8=(⟨#[103,101,116]⟩:ByteArray) by decide +kernel])
 rw [Nat.zero_mul,Nat.add_zero] at c0;refine ⟨oo.err,vA,vn,vc,b,off,qc,?_,c0,h5⟩
 rw [e2,e3,e4];rfl
theorem run_b (w:World) (hp:Pow w) (hm:MaxL w) (hs:Sent w) (A:Option Addr) (nc:Nat) (B:Option Addr) (fc:Nat) (ev:Value) (g:Nat) (hP:ProgV w ⟨A,B,nc,fc,P10⟩) (hv:ValV w ev [iCel 0]) (ha:AnsV w (.slice (some ⟨g,0,none⟩) 1 1) [⟨0,[iCel 4]⟩]) :
  Calls prog 24 #[.agg #[.slice A 8 nc,.slice B 1 fc],ev,.slice (some ⟨g,0,none⟩) 1 1,.int .i64 100] w fun e w'=>∃ b off vc qA qn qc,e=.returned (.tuple #[.agg #[.bool true,.int .i64 0,.slice (some ⟨b,off,none⟩) 1 vc,.slice qA qn qc],.int .i64 0])∧1≤vc∧One w' b off (iCel 5)∧Below w.heap.size w w':=by
 have h:=run_h ⟨A,B,nc,fc,P10⟩ [iCel 0] ev [⟨0,[iCel 4]⟩] (some ⟨g,0,none⟩) 1 100 w ⟨hP,hv,ha,hp,hm,hs,zdoY,okV1 ⟨by decide,by decide,by decide⟩,fun a ha=>(by simp at ha;subst ha;exact okV1 ⟨by decide,by decide,by decide⟩),by decide⟩;refine h.mono ?_
 rintro e w' ⟨oo,ov,h1,rfl,⟨vv,qv,rfl,h3,h4⟩,h5,_⟩;obtain ⟨e2,e3,e4,e5⟩:=okB_of run10b h1;rw [e5] at h3;obtain ⟨vA,vn,vc,rfl⟩:=h3.shape;obtain ⟨b,off,rfl,rfl,hc,ho⟩:=One.of h3;obtain ⟨qA,qc,rows,rfl,q1,q2,q3,q4,q5⟩:=h4;refine ⟨b,off,vc,qA,oo.requests.length,qc,?_,hc,ho,h5⟩
 rw [e2,e3,e4]
section
theorem retS {w w':World} {r:ResD} {e:Ending} (h:RetR w [] r e w'):∃ A n c,e=.returned (.tuple #[.slice A n c,.int .i64 r.2])∧ValV w' (.slice A n c) r.1∧Below w.heap.size w w':=by
 obtain ⟨u,rfl,hv,_,hb⟩:=h;obtain ⟨A,n,c,rfl⟩:=hv.shape;exact ⟨A,n,c,rfl,hv,hb⟩
attribute [local go_sem] zacZ
abbrev CelH:Prop:=∀ (l:ValD) (va vb:Value) (wx:World),ValV wx va l→ValV wx vb l→Calls prog 15 #[va,vb] wx fun e w'=>e=.returned (.bool true)∧Below wx.heap.size wx w'
theorem celH:CelH:=fun l va vb wx h1 h2=>(cells_any l l va vb wx h1 h2).mono fun e w' ⟨h,q,hq⟩=>⟨by rw [h];simp [eqV],by rw [hq];exact zagZ (Below.refl _ _) _⟩
end
section
attribute [local go_sem] zacZ
set_option maxHeartbeats 16000000 in
theorem operators_h (op:ByteArray) (a b:ValD) (va vb:Value) (w:World) (hp:Pow w) (hm:MaxL w) (ha:ValV w va a) (hb:ValV w vb b) (hsa:∀ c∈a,c.str.size≤140737488351232) (hsb:∀ c∈b,c.str.size≤140737488351232) (hia:∀ c∈a,IntOk c) (hib:∀ c∈b,IntOk c)
  (hA:∀ wx,Below w.heap.size w wx→Calls prog 10 #[] wx fun r w'=>r=.returned (.bool true)∧Below wx.heap.size wx w') :
  Calls prog 3 #[.string op,va,vb] w fun r w'=>r=.returned (.bool true)∧Below w.heap.size w w':=by
 obtain ⟨P,hP⟩:∃ P:Ending→World→Prop,(fun e w'=>e=.returned (.bool true)∧Below w.heap.size w w')=P:=⟨_,rfl⟩
 rw [hP];have HP:Hid (∀ w',Below w.heap.size w w'→P (.returned (.bool true)) w'):=hZz (fun w' h2=>by rw [← hP];exact ⟨rfl,h2⟩);obtain ⟨A,n,c,rfl⟩:=ha.shape;obtain ⟨B,m,d,rfl⟩:=hb.shape;have HA:=hZz hA;have HB0:=hZz (Below.refl w.heap.size w);obtain ⟨ta,hta⟩:∃ t,smallB a=t:=⟨_,rfl⟩
 obtain ⟨tb,htb⟩:∃ t,smallB b=t:=⟨_,rfl⟩
 have HSA:Hid (Calls prog 9 #[.slice A n c] w fun e w'=>e=.returned (.bool ta)∧w'=w):=hZz (by rw [← hta];exact small_any a _ w ha hsa);have HSB:Hid (Calls prog 9 #[.slice B m d] w fun e w'=>e=.returned (.bool tb)∧w'=w):=hZz (by rw [← htb];exact small_any b _ w hb hsb);obtain ⟨⟨u1,u2⟩,hu⟩:∃ r,unaryR op a=r:=⟨_,rfl⟩
 obtain ⟨⟨x1,x2⟩,hx⟩:∃ r,binaryR op a b=r:=⟨_,rfl⟩
 have HU:Hid (ta=true→Calls prog 11 #[.string op,.slice A n c] w fun e w'=>∃ A n c,e=.returned (.tuple #[.slice A n c,.int .i64 u2])∧ValV w' (.slice A n c) u1∧Below w.heap.size w w'):=hZz (fun h=>(unary_any op a _ w ha hp (zbyY (hta.trans h) hia)).mono fun e w' h=>by rw [hu] at h;exact retS h);have HV:Hid (ta=true→∀ wx,Below w.heap.size w wx→Calls prog 12 #[.string op,.slice A n c] wx fun e w'=>∃ A n c,e=.returned (.tuple #[.slice A n c,.int .i64 u2])∧ValV w' (.slice A n c) u1∧Below wx.heap.size wx w'):=hZz (fun h wx hbx=>(funary_any op a _ wx (ha.below hbx) (hp.below hbx) (zbyY (hta.trans h) hia)).mono fun e w' h=>by rw [hu] at h;exact retS h);have HX:Hid (ta=true→tb=true→∀ wx,Below w.heap.size w wx→Calls prog 13 #[.string op,.slice A n c,.slice B m d] wx fun e w'=>∃ A n c,e=.returned (.tuple #[.slice A n c,.int .i64 x2])∧ValV w' (.slice A n c) x1∧Below wx.heap.size wx w'):=hZz (fun h h' wx hbx=>(zbwY op a b _ _ wx (ha.below hbx) (hb.below hbx) (hp.below hbx) (hm.below hbx) (zbyY (hta.trans h) hia) (zbyY (htb.trans h') hib)).mono fun e w' h=>by rw [hx] at h;exact retS h);have HY:Hid (ta=true→tb=true→∀ wx,Below w.heap.size w wx→Calls prog 14 #[.string op,.slice A n c,.slice B m d] wx fun e w'=>∃ A n c,e=.returned (.tuple #[.slice A n c,.int .i64 x2])∧ValV w' (.slice A n c) x1∧Below wx.heap.size wx w'):=hZz (fun h h' wx hbx=>(fbinary_any op a b _ _ wx (ha.below hbx) (hb.below hbx) (hp.below hbx) (zbyY (hta.trans h) hia) (zbyY (htb.trans h') hib)).mono fun e w' h=>by rw [hx] at h;exact retS h);have HC:=hZz celH;clear hP hp hm ha hb hsa hsb hia hib hA hta htb hu hx;go_enter func3,ntmps3
 cases ta with
 | false =>
  go_wp2_with (first
   | (go_at_call 9;(with_reducible refine HSA.out.mono ?_);rintro e2 W2 ⟨rfl,hw2⟩;rw [hw2];clear hw2 W2)
   | (go_at_call 10;(with_reducible refine (HA.out _ HB0.out).mono ?_);rintro r w1 ⟨rfl,hb1⟩;have HB1:=hZz hb1;clear hb1))
  exact HP.out _ HB1.out
 | true =>
  cases tb with
  | false =>
   go_wp2_with (first
    | (go_at_call 9;(with_reducible refine HSA.out.mono ?_);rintro e2 W2 ⟨rfl,hw2⟩;rw [hw2];clear hw2 W2)
    | (go_at_call 9;(with_reducible refine HSB.out.mono ?_);rintro e2 W2 ⟨rfl,hw2⟩;rw [hw2];clear hw2 W2)
    | (go_at_call 10;(with_reducible refine (HA.out _ HB0.out).mono ?_);rintro r w1 ⟨rfl,hb1⟩;have HB1:=hZz hb1;clear hb1))
   exact HP.out _ HB1.out
  | true =>
   have HU9:=hZz (HU.out rfl);have HV9:=hZz (HV.out rfl);have HX9:=hZz (HX.out rfl rfl);have HY9:=hZz (HY.out rfl rfl);clear HU HV HX HY
   go_wp2_with (first
    | (go_at_call 9;(with_reducible refine HSA.out.mono ?_);rintro e2 W2 ⟨rfl,hw2⟩;rw [hw2];clear hw2 W2)
    | (go_at_call 9;(with_reducible refine HSB.out.mono ?_);rintro e2 W2 ⟨rfl,hw2⟩;rw [hw2];clear hw2 W2)
    | (go_at_call 11;(with_reducible refine HU9.out.mono ?_);rintro r w1 ⟨A1,z1,c1,rfl,hv,hb⟩;have HV1:=hZz hv;have HB1:=hZz hb;clear hv hb)
    | (go_at_call 12;(with_reducible refine (HV9.out _ HB1.out).mono ?_);rintro r w2 ⟨A2,z2,c2,rfl,hv,hb⟩;have HV2:=hZz hv;have HS2:=hZz hb;have HB2:=hZz (zabZ hb HB1.out HB1.out.size);clear hv hb)
    | (go_at_call 13;(with_reducible refine (HX9.out _ HB2.out).mono ?_);rintro r w3 ⟨A3,z3,c3,rfl,hv,hb⟩;have HV3:=hZz hv;have HS3:=hZz hb;have HB3:=hZz (zabZ hb HB2.out HB2.out.size);clear hv hb)
    | (go_at_call 14;(with_reducible refine (HY9.out _ HB3.out).mono ?_);rintro r w4 ⟨A4,z4,c4,rfl,hv,hb⟩;have HV4:=hZz hv;have HS4:=hZz hb;have HB4:=hZz (zabZ hb HB3.out HB3.out.size);clear hv hb)
    | (go_at_call 15;(with_reducible refine (HC.out u1 _ _ _ (HV1.out.below (zabZ HS4.out (zabZ HS3.out HS2.out HS2.out.size) (Nat.le_trans HS2.out.size HS3.out.size))) (HV2.out.below (zabZ HS4.out HS3.out HS3.out.size))).mono ?_);rintro r w5 ⟨rfl,hb⟩;have HS5:=hZz hb;have HB5:=hZz (zabZ hb HB4.out HB4.out.size);clear hb)
    | (go_at_call 15;(with_reducible refine (HC.out x1 _ _ _ (HV3.out.below (zabZ HS5.out HS4.out HS4.out.size)) (HV4.out.below HS5.out)).mono ?_);rintro r w6 ⟨rfl,hb⟩;have HB6:=hZz (zabZ hb HB5.out HB5.out.size);clear hb)
    | (go_at_call 10;(with_reducible refine (HA.out _ HB6.out).mono ?_);rintro r w7 ⟨rfl,hb⟩;have HB7:=hZz (zabZ hb HB6.out HB6.out.size);clear hb))
   exact HP.out _ HB7.out
end
end Go.Proofs.YtekdhlfapejijaaGreatDoor
