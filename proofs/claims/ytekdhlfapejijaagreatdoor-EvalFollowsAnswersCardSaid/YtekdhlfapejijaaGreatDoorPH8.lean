/- H6, XA, H7, H8 -/
import Derived.Test.YtekdhlfapejijaaGreatDoorPH1
import Derived.Test.YtekdhlfapejijaaGreatDoorPLE
set_option linter.unusedVariables false
set_option linter.unusedSimpArgs false
namespace Go.Proofs.YtekdhlfapejijaaGreatDoor
open Go.RowKit
set_option maxRecDepth 100000
section
def ValE (w0 w:World) (v:Value) (l:ValD):Prop:=ValV w0 v l∨ValT w v l
theorem ValE.keep {w0 w w':World} {v:Value} {l:ValD} (h:ValE w0 w v l) (hk:CK w w'):ValE w0 w' v l:=h.imp id (fun h=>h.keep hk)
theorem ValE.val {w0 w:World} {v:Value} {l:ValD} (h:ValE w0 w v l) (hb:Below w0.heap.size w0 w):ValV w v l:=by
 rcases h with h | h
 ·exact h.below hb
 ·exact h.1
def VOk (v:ValD):Prop:=v=[]∨checkF v=0
theorem VOk.ok {v:ValD} (h:VOk v):OkV v:=by
 rcases h with rfl | h
 ·exact ⟨by simp,fun c hc=>by cases hc⟩
 ·exact okV_of_check h
theorem VOk.nil:VOk []:=.inl rfl
structure ValG (w0 w:World) (v:Value) (l:ValD):Prop where
 e:ValE w0 w v l
 k:VOk l
theorem ValG.keep {w0 w w':World} {v:Value} {l:ValD} (h:ValG w0 w v l) (hk:CK w w'):ValG w0 w' v l:=⟨h.e.keep hk,h.k⟩
theorem ValG.below {w0 w w':World} {v:Value} {l:ValD} (h:ValG w0 w v l) (hb:Below w.heap.size w w'):ValG w0 w' v l:=h.keep (CK.of_below hb)
theorem ValG.val {w0 w:World} {v:Value} {l:ValD} (h:ValG w0 w v l) (hb:Below w0.heap.size w0 w):ValV w v l:=h.e.val hb
theorem ValG.nil (w0 w:World):ValG w0 w (.slice none 0 0) []:=⟨.inr (ValT.none w),.nil⟩
theorem ValG.shape {w0 w:World} {v:Value} {l:ValD} (h:ValG w0 w v l):∃ A n cap,v=.slice A n cap:=by
 rcases h.e with h | h
 ·exact h.shape
 ·exact h.shape
def SigV (w0 w:World) (v:Value):Option SigD→Prop
 | none=>v=.nilIface
 | some (.fail e)=>v=.iface 104 (.agg #[.int .i64 e])
 | some .wait=>v=.iface 106 (.agg #[])
 | some (.ret l)=>∃ u,v=.iface 149 (.agg #[u])∧ValG w0 w u l
def ansR (w:World) (row:List Value) (a:AnsD):Prop:=∃ v,row=[.int .i64 a.err,v]∧ValV w v a.value
theorem stays_ans:Stays2 ansR:=fun _ _ _ _ ⟨v,h1,h2⟩ hb=>⟨v,h1,h2.below hb⟩
def AnsV:=RowsV 4398046510976 2 ansR
theorem AnsV.below {w w':World} {v:Value} {l:List AnsD} (h:AnsV w v l) (hb:Below w.heap.size w w'):AnsV w' v l:=stays_rows stays_ans _ _ _ _ h hb
theorem ans_cells {w:World} {A:Option Addr} {n cap:Nat} {l:List AnsD} (h:AnsV w (.slice A n cap) l) {i:Nat} (hi:i<l.length):n=l.length∧n≤cap∧∃ b off v,A=some ⟨b,off,none⟩∧b<w.heap.size ∧
  w.cell? ⟨b,off+i * 2,none⟩=some (.int .i64 (l[i]).err)∧w.cell? ⟨b,off+i * 2+1,none⟩=some v∧ValV w v (l[i]).value:=by
 obtain ⟨A',cap',rows,h1,h2,h3,h4,h5,h6⟩:=h
 injection h1 with e1 e2 e3
 subst e1 e2 e3
 have hi':i<rows.length:=by omega
 obtain ⟨b,off,hA,hlt⟩:=h4.ptr hi'
 subst hA
 obtain ⟨v,hr,hv⟩:=h6 i hi' hi
 refine ⟨rfl,h2,b,off,v,rfl,hlt,?_,?_,hv⟩
 ·exact h4.cell0 hi' (by rw [hr];rfl)
 ·exact h4.cell hi' (j:=1) (by rw [hr];rfl)
structure EvK where
 gx:Nat
 S:ProgS
 sA:Option Addr
 sc:Nat
 lA:Option Addr
 lc:Nat
 aA:Option Addr
 ac:Nat
structure EvH (w0:World) (K:EvK) (C:EvC):Prop where
 p:K.S.p=C.p
 prog:ProgV w0 K.S
 sl:SlAt w0 K.sA 1 intS C.slots
 an:AnsV w0 (.slice K.aA C.answers.length K.ac) C.answers
 pow:Pow w0
 maxl:MaxL w0
 sent:Sent w0
 nodes:C.p.nodes.length≤600
 funcs:C.p.funcs.length≤16
 slen:C.slots.length=C.p.nodes.length
 llen:C.locals.length=C.p.funcs.length
 lbd:∀ x∈C.locals,0≤x∧x≤608
 aok:∀ a∈C.answers,OkV a.value
 alen:C.answers.length≤40
 kids:∀ n∈C.p.nodes,n.kids.length≤600∧n.keys.length≤600∧(∀ k∈n.kids,0≤k∧k<C.p.nodes.length)∧n.text.size≤1000∧∀ k∈n.keys,k.size≤1000
 count:∀ n∈C.p.nodes,countB n=true
 fields:∀ n∈C.p.nodes,fieldsB n=true
 bodies:∀ f∈C.p.funcs,0≤f.body∧f.body<C.p.nodes.length
structure EvM (w0:World) (K:EvK) (C:EvC) (gv:Nat) (F:List Nat) (c:Nat) (w:World) (s:EvS) (qv:Value) (avs vs:List Value):Prop where
 bel:Below w0.heap.size w0 w
 hx:w0.heap.size≤K.gx
 hv:w0.heap.size≤gv
 ex:Blk w K.gx 95 #[.slice K.S.A K.S.p.nodes.length K.S.ncap,.slice K.S.B K.S.p.funcs.length K.S.fcap,.slice K.sA C.slots.length K.sc,.slice K.lA C.locals.length K.lc,.slice K.aA C.answers.length K.ac,qv,.int .i64 s.fuel,.int .i64 c]
 lo:w.ownsRow w0.heap.size 3 1 (.slice K.lA C.locals.length K.lc) C.locals.length (C.locals.map intC)
 rq:ReqsO w w0.heap.size avs s.reqs
 qrow:w.ownsRow w0.heap.size 60 2 qv s.reqs.length (rowsQ avs s.reqs)
 vb:Blk w gv 22 vs.toArray
 vl:vs.length=s.vars.length
 vv:∀ i (h:i<vs.length) (h':i<s.vars.length),ValG w0 w vs[i] s.vars[i]
 qd:∀ g∈gv :: F,g ∉ blocksQ avs
 fb:∀ g∈F,g<w.heap.size
 rl:s.reqs.length≤32∧∀ r∈s.reqs,r.args.length≤1000
structure KX (gx gv:Nat) (w w':World):Prop where
 os:w'.os=w.os
 tape:w'.tape=w.tape
 output:w'.output=w.output
 size:w.heap.size≤w'.heap.size
 block:∀ j o,w.heap[j]? = some o→j≠gx→j≠gv→(∀ cs fz,o≠.cells cs 60 fz)→w'.heap[j]? = some o
 ck:CK w w'
section
variable {gx gv:Nat} {w w1 w':World}
theorem KX.refl (gx gv:Nat) (w:World):KX gx gv w w:=⟨rfl,rfl,rfl,Nat.le_refl _,fun _ _ h _ _ _=>h,CK.refl w⟩
theorem KX.trans (h:KX gx gv w w1) (g:KX gx gv w1 w'):KX gx gv w w' :=
 ⟨g.os.trans h.os,g.tape.trans h.tape,g.output.trans h.output,Nat.le_trans h.size g.size,fun j o hj h1 h2 h3=>g.block j o (h.block j o hj h1 h2 h3) h1 h2 h3,h.ck.trans g.ck⟩
theorem KX.of_below (h:Below w.heap.size w w'):KX gx gv w w':=⟨h.os,h.tape,h.output,h.size,fun j o hj _ _ _=>(h.block j (lt_of_block hj)).trans hj,CK.of_below h⟩
theorem KX.blk {g:Nat} {t:TypeId} {cs:Array Value} (h:KX gx gv w w') (hB:Blk w g t cs) (h1:g≠gx) (h2:g≠gv) (h3:t≠60):Blk w' g t cs :=
 h.block g _ hB h1 h2 (fun cs' fz e=>by injection e with _ e;exact h3 e)
theorem KX.own {base n size:Nat} {e:TypeId} {v:Value} {xs:List Value} (h:KX gx gv w w') (ho:w.ownsRow base e size v n xs) (h1:∀ g,v.ownBlock=some g→g≠gx∧g≠gv) (h3:e≠60):w'.ownsRow base e size v n xs:=by
 refine own_heap ho (fun g hg=>?_)
 obtain ⟨_,cs,hb⟩:=own_blk ho hg
 have:=h.blk hb (h1 g hg).1 (h1 g hg).2 h3
 unfold Blk at hb this
 rw [hb,this]
theorem KX.set {g:Nat} {t:TypeId} {cs:Array Value} (hB:Blk w g t cs) (ht:t≠53) (hg:g=gx∨g=gv) (j:Nat) (u:Value):KX gx gv w (w.setCell ⟨g,j,none⟩ u) :=
 ⟨rfl,rfl,rfl,by simp,fun k o hk h1 h2 _=>(Below.heap_setCell w ⟨g,j,none⟩ u k (fun e=>by have:k=g:=e;rcases hg with h | h <;> omega)).trans hk,CK.blk hB ht (grown_setc w g j u)⟩
theorem KX.call {gv':Nat} (h:KX gx gv' w1 w') (hb:Below w.heap.size w w1) (hn:w.heap.size≤gv'):KX gx gv w w' :=
 ⟨h.os.trans hb.os,h.tape.trans hb.tape,h.output.trans hb.output,Nat.le_trans hb.size h.size,fun j o hj h1 h2 h3=>h.block j o ((hb.block j (lt_of_block hj)).trans hj) h1 (fun e=>by have:=lt_of_block hj;omega) h3,(CK.of_below hb).trans h.ck⟩
end
section
variable {w0 w w':World} {K:EvK} {C:EvC} {gv:Nat} {F:List Nat} {c:Nat} {s:EvS} {qv:Value} {avs vs:List Value}
theorem EvM.ne_vx (h:EvM w0 K C gv F c w s qv avs vs):gv≠K.gx:=blk_ne h.vb h.ex (by decide)
theorem EvM.below (h:EvM w0 K C gv F c w s qv avs vs) (hb:Below w.heap.size w w'):EvM w0 K C gv F c w' s qv avs vs :=
 ⟨below_call' hb h.bel h.bel.size,h.hx,h.hv,h.ex.below hb,own_below h.lo hb,h.rq.keep (CK.of_below hb) (fun g hg=>hb.block g (h.rq.mem g hg).2.1),own_below h.qrow hb,h.vb.below hb,h.vl,fun i a b=>(h.vv i a b).below hb,h.qd,fun g hg=>Nat.lt_of_lt_of_le (h.fb g hg) hb.size,h.rl⟩
theorem EvM.lo_ne (h:EvM w0 K C gv F c w s qv avs vs) {g:Nat} {t:TypeId} {cs:Array Value} (hB:Blk w g t cs) (ht:t≠3):some g≠(Value.slice K.lA C.locals.length K.lc).ownBlock:=own_ne_blk h.lo hB (fun e=>ht e.symm)
theorem EvM.setX (h:EvM w0 K C gv F c w s qv avs vs) (j:Nat) (u:Value) {s':EvS} {c':Nat} (hs:s'.reqs=s.reqs) (hv:s'.vars=s.vars)
  (hc:(#[.slice K.S.A K.S.p.nodes.length K.S.ncap,.slice K.S.B K.S.p.funcs.length K.S.fcap,.slice K.sA C.slots.length K.sc,.slice K.lA C.locals.length K.lc,.slice K.aA C.answers.length K.ac,qv,.int .i64 s.fuel,.int .i64 c]:Array Value).setIfInBounds j u=#[.slice K.S.A K.S.p.nodes.length K.S.ncap,.slice K.S.B K.S.p.funcs.length K.S.fcap,.slice K.sA C.slots.length K.sc,.slice K.lA C.locals.length K.lc,.slice K.aA C.answers.length K.ac,qv,.int .i64 s'.fuel,.int .i64 c']) :
  EvM w0 K C gv F c' (w.setCell ⟨K.gx,j,none⟩ u) s' qv avs vs:=by
 have hg:=grown_setc w K.gx j u
 have hck:CK w (w.setCell ⟨K.gx,j,none⟩ u):=CK.blk h.ex (by decide) hg
 refine ⟨h.bel.grown hg h.bel.size (fun k hk=>by injection hk with hk;have:=h.hx;omega),h.hx,h.hv,by rw [← hc];exact h.ex.set_ j u,own_grown h.lo hg (fun k hk=>by injection hk with hk;subst hk;exact h.lo_ne h.ex (by decide)),?_,?_,h.vb.far h.ne_vx u,by rw [hv];exact h.vl,?_,h.qd,fun g hg=>(by simpa using h.fb g hg),by rw [hs];exact h.rl⟩
 ·rw [hs]
  exact h.rq.keep hck (fun g hm=>by obtain ⟨_,h2,cs,h3⟩:=h.rq.mem g hm;exact hg.block g h2 (fun e=>blk_ne h3 h.ex (by decide) (by simpa using e)))
 ·rw [hs]
  exact own_grown h.qrow hg (fun k hk=>by injection hk with hk;subst hk;exact own_ne_blk h.qrow h.ex (by decide))
 ·rw [hv]
  exact fun i a b=>(h.vv i a b).keep hck
theorem EvM.setFuel (h:EvM w0 K C gv F c w s qv avs vs) (n:Nat):EvM w0 K C gv F c (w.setCell ⟨K.gx,6,none⟩ (.int .i64 n)) { s with fuel:=n } qv avs vs:=h.setX 6 _ rfl rfl rfl
theorem EvM.setCalls (h:EvM w0 K C gv F c w s qv avs vs) (n:Nat):EvM w0 K C gv F n (w.setCell ⟨K.gx,7,none⟩ (.int .i64 n)) s qv avs vs:=h.setX 7 _ rfl rfl rfl
theorem EvM.setVar (h:EvM w0 K C gv F c w s qv avs vs) (i:Nat) (u:Value) {v:ValD} (hu:ValG w0 w u v):EvM w0 K C gv F c (w.setCell ⟨gv,i,none⟩ u) { s with vars:=s.vars.set i v } qv avs (vs.set i u):=by
 have hg:=grown_setc w gv i u
 have hck:CK w (w.setCell ⟨gv,i,none⟩ u):=CK.blk h.vb (by decide) hg
 refine ⟨h.bel.grown hg h.bel.size (fun k hk=>by injection hk with hk;have:=h.hv;omega),h.hx,h.hv,h.ex.far (p:=⟨gv,i,none⟩) (fun e=>h.ne_vx e.symm) u,own_grown h.lo hg (fun k hk=>by injection hk with hk;subst hk;exact h.lo_ne h.vb (by decide)),?_,?_,?_,by simp [h.vl],?_,h.qd,fun g hg=>(by simpa using h.fb g hg),h.rl⟩
 ·exact h.rq.keep hck (fun g hm=>hg.block g (h.rq.mem g hm).2.1 (fun e=>h.qd gv (by simp) (by have h9:g=gv:=(by simpa using e);rw [← h9];exact hm)))
 ·exact own_grown h.qrow hg (fun k hk=>by injection hk with hk;subst hk;exact own_ne_blk h.qrow h.vb (by decide))
 ·have:=h.vb.set_ i u
  simpa using this
 ·intro j a b
  simp only [List.getElem_set]
  split
  ·exact hu.keep hck
  ·exact (h.vv j (by simpa using a) (by simpa using b)).keep hck
theorem EvM.enter (h:EvM w0 K C gv F c w s qv avs vs) {g:Nat} {us:List Value} {l:List ValD} (hb:Below w.heap.size w w') (hg:w.heap.size≤g) (hB:Blk w' g 22 us.toArray) (hl:us.length=l.length) (hv:∀ i (a:i<us.length) (b:i<l.length),ValG w0 w' us[i] l[i]) :
  EvM w0 K C g (gv :: F) c w' { s with vars:=l } qv avs us:=by
 have h':=h.below hb
 refine ⟨h'.bel,h'.hx,Nat.le_trans h.bel.size hg,h'.ex,h'.lo,h'.rq,h'.qrow,hB,hl,hv,fun k hk=>?_,fun k hk=>?_,h.rl⟩
 rcases List.mem_cons.1 hk with rfl | hk
 ·intro hm
  have:=(h.rq.mem _ hm).2.1
  omega
 ·exact h.qd k hk
 ·rcases List.mem_cons.1 hk with rfl | hk
  ·exact h'.vb.lt
  ·exact h'.fb k hk
theorem EvM.leave {wc:World} {t:EvS} {qv':Value} {avs' vs':List Value} {g c':Nat} (h:EvM w0 K C gv F c w s qv avs vs) (hc:EvM w0 K C g (gv :: F) c' wc t qv' avs' vs') (hk:KX K.gx g w wc) (hg:w.heap.size≤g):EvM w0 K C gv F c' wc { t with vars:=s.vars } qv' avs' vs :=
 ⟨hc.bel,hc.hx,h.hv,hc.ex,hc.lo,hc.rq,hc.qrow,hk.blk h.vb h.ne_vx (fun e=>by have:=h.vb.lt;omega) (by decide),h.vl,fun i a b=>(h.vv i a b).keep hk.ck,fun k hk=>hc.qd k (by simp only [List.mem_cons] at hk ⊢;exact .inr hk),fun k hk=>hc.fb k (by simp [hk]),hc.rl⟩
end
def EvX (w0:World) (K:EvK) (C:EvC) (gv:Nat) (F:List Nat) (c:Nat) (w:World) (s:EvS):Prop:=∃ qv avs vs,EvM w0 K C gv F c w s qv avs vs
theorem EvX.below {w0 w w':World} {K:EvK} {C:EvC} {gv:Nat} {F:List Nat} {c:Nat} {s:EvS} (h:EvX w0 K C gv F c w s) (hb:Below w.heap.size w w'):EvX w0 K C gv F c w' s:=by
 obtain ⟨a,b,d,h⟩:=h;exact ⟨a,b,d,h.below hb⟩
theorem EvX.bel {w0 w:World} {K:EvK} {C:EvC} {gv:Nat} {F:List Nat} {c:Nat} {s:EvS} (h:EvX w0 K C gv F c w s):Below w0.heap.size w0 w:=by
 obtain ⟨a,b,d,h⟩:=h;exact h.bel
def NodeP (w0:World) (K:EvK) (C:EvC) (gv:Nat) (F:List Nat) (c:Nat) (w:World) (R:(ValD × Option SigD) × EvS) (e:Ending) (w':World):Prop :=
 ∃ u sv,e=.returned (.tuple #[u,sv])∧ValG w0 w' u R.1.1∧SigV w0 w' sv R.1.2∧EvX w0 K C gv F c w' R.2∧KX K.gx gv w w'
def NodeOk (w0:World) (K:EvK) (C:EvC) (N:EvN) (c fB:Nat):Prop:=∀ gv F k s w R,EvX w0 K C gv F c w s→k<C.p.nodes.length→s.fuel≤fB→s.vars.length≤1000→N k s=some R →
 Calls Tryz.prog 116 #[.pointer (some ⟨K.gx,0,none⟩),.int .i64 k,.slice (some ⟨gv,0,none⟩) s.vars.length s.vars.length] w (NodeP w0 K C gv F c w R)
end
section
theorem Tryz.infoNodeX:(Tryz.prog.info? 87).map (fun i=>(i.zero,i.size,i.bytes))=some (some (.agg #[.int .i64 0,.string ByteArray.empty,.int .i64 0,.slice none 0 0,.slice none 0 0]),5,80):=by kernel_rfl
theorem Tryz.infoFuncX:(Tryz.prog.info? 89).map (fun i=>(i.zero,i.size,i.bytes))=some (some (.agg #[.string ByteArray.empty,.slice none 0 0,.int .i64 0]),3,48):=by kernel_rfl
theorem blk5x {w:World} {g:Nat} {t:TypeId} {v0 v1 v2 v3 v4:Value} (h:Blk w g t #[v0,v1,v2,v3,v4]):w.cell? ⟨g,0,none⟩=some v0∧w.cell? ⟨g,1,none⟩=some v1∧w.cell? ⟨g,2,none⟩=some v2∧w.cell? ⟨g,3,none⟩=some v3∧w.cell? ⟨g,4,none⟩=some v4 :=
 ⟨h.cell 0 _ rfl,h.cell 1 _ rfl,h.cell 2 _ rfl,h.cell 3 _ rfl,h.cell 4 _ rfl⟩
structure PSt (w0:World) (gp:Nat) (tv:Value) (ts:List Tok) (en:Int) (fx:List FuncX) (fv:Value) (F:List Nat) (w:World) (p:Nat) (nx:List NodeX) (nv:Value):Prop where
 bel:Below w0.heap.size w0 w
 hp:w0.heap.size≤gp
 bp:Blk w gp 119 #[tv,.int .i64 (p:Int),.int .i64 en,nv,fv]
 tk:w.ownsRow w0.heap.size 161 4 tv ts.length (ts.flatMap Tok.cells)
 nd:w.ownsRow w0.heap.size 87 5 nv nx.length (nx.flatMap nodeRow)
 fu:w.ownsRow w0.heap.size 89 3 fv fx.length (fx.flatMap funcRow)
 kids:∀ q∈nx,w.ownsRow w0.heap.size 3 1 q.2.2 q.1.kids.length (q.1.kids.map (Value.int .i64))∧q.2.1=.slice none 0 0∧q.1.keys=[]
 kd:∀ q∈nx,∀ g∈F,q.2.2.ownBlock≠some g
 pars:∀ q∈fx,w.ownsRow w0.heap.size 9 1 q.2 q.1.params.length (q.1.params.map Value.string)
 fb:∀ g∈F,g<w.heap.size
 tl:ts.length≤1000
structure KP (gp:Nat) (w w':World):Prop where
 os:w'.os=w.os
 tape:w'.tape=w.tape
 output:w'.output=w.output
 size:w.heap.size≤w'.heap.size
 block:∀ j o,w.heap[j]? = some o→j≠gp→(∀ cs fz,o≠.cells cs 87 fz)→w'.heap[j]? = some o
section
variable {gp:Nat} {w w1 w':World}
theorem KP.trans (h:KP gp w w1) (g:KP gp w1 w'):KP gp w w' :=
 ⟨g.os.trans h.os,g.tape.trans h.tape,g.output.trans h.output,Nat.le_trans h.size g.size,fun j o hj h1 h2=>g.block j o (h.block j o hj h1 h2) h1 h2⟩
theorem KP.of_below (h:Below w.heap.size w w'):KP gp w w':=⟨h.os,h.tape,h.output,h.size,fun j o hj _ _=>(h.block j (lt_of_block hj)).trans hj⟩
theorem KP.blk {g:Nat} {t:TypeId} {cs:Array Value} (h:KP gp w w') (hB:Blk w g t cs) (h1:g≠gp) (h2:t≠87) (h3:t≠89):Blk w' g t cs :=
 h.block g _ hB h1 (fun cs' fz e=>by injection e with _ e;exact h2 e)
theorem KP.own {base n size:Nat} {e:TypeId} {v:Value} {xs:List Value} (h:KP gp w w') (ho:w.ownsRow base e size v n xs) (h1:∀ g,v.ownBlock=some g→g≠gp) (h2:e≠87) (h3:e≠89):w'.ownsRow base e size v n xs:=by
 refine own_heap ho (fun g hg=>?_)
 obtain ⟨_,cs,hb⟩:=own_blk ho hg
 have:=h.blk hb (h1 g hg) h2 h3
 unfold Blk at hb this
 rw [hb,this]
theorem KP.set (gp:Nat) (w:World) (j:Nat) (u:Value):KP gp w (w.setCell ⟨gp,j,none⟩ u) :=
 ⟨rfl,rfl,rfl,by simp,fun k o hk h1 _=>(Below.heap_setCell w ⟨gp,j,none⟩ u k h1).trans hk⟩
theorem KP.row {base n size:Nat} {e:TypeId} {v:Value} {xs:List Value} (ho:w.ownsRow base e size v n xs) (he:e=87∨False) (hg:w.grownBy w' v.ownBlock):KP gp w w' :=
 ⟨hg.os,hg.tape,hg.output,hg.size,fun j o hj h1 h2=>(hg.block j (lt_of_block hj) (fun e'=>by
  obtain ⟨_,cs,hB⟩:=own_blk ho e'.symm
  unfold Blk at hB
  rw [hB] at hj
  injection hj with hj
  subst hj
  rcases he with rfl | hf
  ·exact h2 _ _ rfl
  ·exact hf)).trans hj⟩
end
section
variable {w0 w w':World} {gp:Nat} {tv:Value} {ts:List Tok} {en:Int} {fx:List FuncX} {fv:Value} {F:List Nat} {p:Nat} {nx:List NodeX} {nv:Value}
theorem PSt.below (h:PSt w0 gp tv ts en fx fv F w p nx nv) (hb:Below w.heap.size w w'):PSt w0 gp tv ts en fx fv F w' p nx nv :=
 ⟨below_call' hb h.bel h.bel.size,h.hp,h.bp.below hb,own_below h.tk hb,own_below h.nd hb,own_below h.fu hb,fun q hq=>⟨own_below (h.kids q hq).1 hb,(h.kids q hq).2⟩,h.kd,fun q hq=>own_below (h.pars q hq) hb,fun g hg=>Nat.lt_of_lt_of_le (h.fb g hg) hb.size,h.tl⟩
theorem PSt.setP (h:PSt w0 gp tv ts en fx fv F w p nx nv) (p':Nat):PSt w0 gp tv ts en fx fv F (w.setCell ⟨gp,1,none⟩ (.int .i64 (p':Int))) p' nx nv:=by
 have hg:=grown_setc w gp 1 (.int .i64 (p':Int))
 have hne:∀ {n size:Nat} {e:TypeId} {v:Value} {xs:List Value},w.ownsRow w0.heap.size e size v n xs→e≠119→(w.setCell ⟨gp,1,none⟩ (.int .i64 (p':Int))).ownsRow w0.heap.size e size v n xs:=fun ho he=>own_grown ho hg (fun k hk=>by injection hk with hk;subst hk;exact own_ne_blk ho h.bp he)
 refine ⟨h.bel.grown hg h.bel.size (fun k hk=>by injection hk with hk;have:=h.hp;omega),h.hp,h.bp.set_ 1 _,hne h.tk (by decide),hne h.nd (by decide),hne h.fu (by decide),fun q hq=>⟨hne (h.kids q hq).1 (by decide),(h.kids q hq).2⟩,h.kd,fun q hq=>hne (h.pars q hq) (by decide),fun g hg=>(by simpa using h.fb g hg),h.tl⟩
theorem PSt.tok (h:PSt w0 gp tv ts en fx fv F w p nx nv) {i:Nat} (hi:i<ts.length):∃ g off cap,tv=.slice (some ⟨g,off,none⟩) ts.length cap∧w.cell? ⟨g,off+i * 4,none⟩=some (.int .i64 ts[i].kind)∧w.cell? ⟨g,off+i * 4+1,none⟩=some (.string ts[i].text)∧w.cell? ⟨g,off+i * 4+2,none⟩=some (.int .i64 ts[i].int)∧w.cell? ⟨g,off+i * 4+3,none⟩=some (.int .i64 (ts[i].at_:Int)):=by
 obtain ⟨A,cap,hv⟩:=own_shape h.tk
 have ht:=h.tk
 rw [hv] at ht
 have hs:SlAt w A 4 Tok.cells ts:=SlAt.of_own ht rfl (fun _=>rfl) (by decide)
 obtain ⟨b,off,hA,_⟩:=hs.ptr hi
 subst hA
 exact ⟨b,off,cap,hv,hs.cell0 hi rfl,hs.cell hi (j:=1) rfl,hs.cell hi (j:=2) rfl,hs.cell hi (j:=3) rfl⟩
end
def TxV (w:World) (v:Value) (l:List ByteArray):Prop:=(v=.slice none 0 0∧l=[])∨∃ b,v=.slice (some ⟨b,0,none⟩) l.length l.length∧Blk w b 9 (l.map Value.string).toArray∧0<l.length∧l.length≤100
theorem TxV.nil (w:World):TxV w (.slice none 0 0) []:=.inl ⟨rfl,rfl⟩
theorem TxV.below {w w':World} {v:Value} {l:List ByteArray} (h:TxV w v l) (hb:Below w.heap.size w w'):TxV w' v l:=by
 rcases h with h | ⟨b,h1,h2,h3⟩
 ·exact .inl h
 ·exact .inr ⟨b,h1,h2.below hb,h3⟩
def nextF (ts:List Tok) (p:Nat) (k:Int) (l:List ByteArray):Bool:=match ts[p]? with
 | none=>false
 | some t=>(t.kind == k) && (l.isEmpty || Lib.containsS l t.text)
theorem tx_has {w:World} {b:Nat} {l:List ByteArray} {x:ByteArray} (h:Blk w b 9 (l.map Value.string).toArray) (hl:l.length≤100):Calls Tryz.prog 35 #[.slice (some ⟨b,0,none⟩) l.length l.length,.string x] w fun e w'=>e=.returned (.bool (Lib.containsS l x))∧w'=w:=by
 refine (Tryz.slices_Contains_string b 0 l.length l.length l x w (Nat.le_refl _) (by omega) (fun j hj=>?_)).mono ?_
 ·rw [Nat.zero_add]
  refine h.cell j _ ?_
  simp [hj,List.getD_eq_getElem?_getD]
 ·rintro e w' ⟨rfl,rfl⟩
  exact ⟨by rw [List.take_length],rfl⟩
attribute [local go_sem] cell_alloc_is
set_option maxHeartbeats 8000000 in
theorem next_x {w0 w:World} {gp:Nat} {tv:Value} {ts:List Tok} {en:Int} {fx:List FuncX} {fv:Value} {F:List Nat} {p:Nat} {nx:List NodeX} {nv:Value} (h:PSt w0 gp tv ts en fx fv F w p nx nv) (k:Int) {tx:Value} {l:List ByteArray} (hx:TxV w tx l) :
  Calls Tryz.prog 237 #[.pointer (some ⟨gp,0,none⟩),.int .i64 k,tx] w fun e w'=>e=.returned (.bool (nextF ts p k l))∧Below w.heap.size w w':=by
 obtain ⟨P,hP⟩:∃ P:Ending→World→Prop,(fun e w'=>e=.returned (.bool (nextF ts p k l))∧Below w.heap.size w w')=P:=⟨_,rfl⟩
 rw [hP]
 have HP:=hZz hP
 obtain ⟨c0,c1,_,_,_⟩:=blk5x h.bp
 have hbd:=below_drew w
 have HBd:=hZz hbd
 by_cases hlt:p<ts.length
 ·obtain ⟨g,off,cap,htv,t0,t1,t2,t3⟩:=h.tok hlt
  clear t2 t3
  have hn:nextF ts p k l=((ts[p].kind == k) && (l.isEmpty || Lib.containsS l ts[p].text)):=by unfold nextF;rw [List.getElem?_eq_getElem hlt]
  rw [hn] at HP
  rw [htv] at c0
  obtain ⟨n,hnn⟩:∃ n,ts.length=n:=⟨_,rfl⟩
  rw [hnn] at c0
  have hlt':(p:Int)<(n:Int):=by omega
  have hp0:(0:Int)≤(p:Int):=by omega
  obtain ⟨kd,hkd⟩:∃ x,ts[p].kind=x:=⟨_,rfl⟩
  obtain ⟨tt,htt⟩:∃ x,ts[p].text=x:=⟨_,rfl⟩
  rw [hkd] at t0 HP
  rw [htt] at t1 HP
  clear hP hn htv hkd htt h hnn hlt
  by_cases hk:kd=k
  ·subst hk
   rcases hx with ⟨rfl,rfl⟩ | ⟨b,rfl,hb,hl0,hl1⟩
   ·go_enter Tryz.func237,Tryz.ntmps237
    go_wp2_with (fail)
    go_quiet (fail)
    go_wp2_with (fail)
    rw [← HP.out]
    exact ⟨by simp,below_drewN (Below.refl _ _) _⟩
   ·have HC:Hid (∀ wx,Below w.heap.size w wx→Calls Tryz.prog 35 #[.slice (some ⟨b,0,none⟩) l.length l.length,.string tt] wx fun e w'=>e=.returned (.bool (Lib.containsS l tt))∧w'=wx):=hZz (fun wx hbx=>tx_has (hb.below hbx) hl1)
    obtain ⟨m,hm⟩:∃ m,l.length=m:=⟨_,rfl⟩
    have he:l.isEmpty=false:=by cases l with | nil=>simp at hl0 | cons _ _=>rfl
    rw [hm] at HC ⊢ hl0
    have hm0:((m:Int) == 0)=false:=by simp;omega
    have HE:=hZz he
    clear hb he hm hl0 hl1
    go_enter Tryz.func237,Tryz.ntmps237
    go_wp2_with (fail)
    go_quiet (((with_reducible refine (HC.out _ (below_drewN (Below.refl _ _) _)).mono ?_);rintro e w2 ⟨h1,h2⟩;exact ⟨h1,_,h2⟩))
    go_wp2_with (fail)
    rw [← HP.out]
    exact ⟨by rw [HE.out];simp,below_drewN (Below.refl _ _) _⟩
  ·have hk':(kd == k)=false:=by simpa using hk
   clear hx
   go_enter Tryz.func237,Tryz.ntmps237
   go_wp2_with (fail)
   go_quiet (fail)
   go_wp2_with (fail)
   rw [← HP.out]
   exact ⟨by rw [hk'];simp,below_drewN (Below.refl _ _) _⟩
 ·have hn:nextF ts p k l=false:=by unfold nextF;rw [List.getElem?_eq_none (by omega)]
  rw [hn] at HP
  obtain ⟨A,cap,htv⟩:=own_shape h.tk
  rw [htv] at c0
  obtain ⟨n,hnn⟩:∃ n,ts.length=n:=⟨_,rfl⟩
  rw [hnn] at c0
  have hlt':¬ (p:Int)<(n:Int):=by omega
  clear hP hn htv h hnn hlt hx
  go_enter Tryz.func237,Tryz.ntmps237
  go_wp2_with (fail)
  have hld:((p:Int)<(n:Int))=False:=by simp;omega
  have hld2:(p<n)=False:=by simp;omega
  go_quiet (fail)
  go_wp2_with (fail)
  rw [← HP.out]
  exact ⟨rfl,below_drewN (Below.refl _ _) _⟩
end
section
theorem ifc_ne (T:TypeId) (v:Value) (w:World):(Go.binOp .neq 100 (.iface T v) .nilIface).run Tryz.prog w=.ok (.bool true) w:=by kernel_rfl
theorem ifn_ne (w:World):(Go.binOp .neq 100 .nilIface .nilIface).run Tryz.prog w=.ok (.bool false) w:=by kernel_rfl
theorem ifc_eq (T:TypeId) (v:Value) (w:World):(Go.binOp .eql 100 (.iface T v) .nilIface).run Tryz.prog w=.ok (.bool false) w:=by kernel_rfl
theorem ifn_eq (w:World):(Go.binOp .eql 100 .nilIface .nilIface).run Tryz.prog w=.ok (.bool true) w:=by kernel_rfl
theorem as_ret (u:Value) (w:World):(Instr.typeAssert (.iface 149 (.agg #[u])) 100 149 true).run Tryz.prog w=.ok (.tuple #[.agg #[u],.bool true]) w:=by kernel_rfl
theorem as_ret_fail (u:Value) (w:World):(Instr.typeAssert (.iface 104 u) 100 149 true).run Tryz.prog w=.ok (.tuple #[.agg #[.slice none 0 0],.bool false]) w:=by kernel_rfl
theorem as_ret_wait (u:Value) (w:World):(Instr.typeAssert (.iface 106 u) 100 149 true).run Tryz.prog w=.ok (.tuple #[.agg #[.slice none 0 0],.bool false]) w:=by kernel_rfl
theorem as_fail (u:Value) (w:World):(Instr.typeAssert (.iface 104 u) 100 104 true).run Tryz.prog w=.ok (.tuple #[u,.bool true]) w:=by kernel_rfl
theorem as_fail_wait (u:Value) (w:World):(Instr.typeAssert (.iface 106 u) 100 104 true).run Tryz.prog w=.ok (.tuple #[.agg #[.int .i64 0],.bool false]) w:=by kernel_rfl
theorem as_fail_nil (w:World):(Instr.typeAssert .nilIface 100 104 true).run Tryz.prog w=.ok (.tuple #[.agg #[.int .i64 0],.bool false]) w:=by kernel_rfl
theorem as_wait (u:Value) (w:World):(Instr.typeAssert (.iface 106 u) 100 106 true).run Tryz.prog w=.ok (.tuple #[u,.bool true]) w:=by kernel_rfl
theorem as_wait_nil (w:World):(Instr.typeAssert .nilIface 100 106 true).run Tryz.prog w=.ok (.tuple #[.agg #[],.bool false]) w:=by kernel_rfl
theorem sig_some {w0 w:World} {v:Value} {g:SigD} (h:SigV w0 w v (some g)):∃ T u,v=.iface T u:=by
 cases g with
 | fail e=>exact ⟨_,_,h⟩
 | wait=>exact ⟨_,_,h⟩
 | ret l=>obtain ⟨u,h,_⟩:=h;exact ⟨_,_,h⟩
def OutcP (w0 w:World) (r:ResD) (e:Ending) (w':World):Prop:=∃ A n cap sv,e=.returned (.tuple #[.slice A n cap,sv])∧ValG w0 w (.slice A n cap) (outF r).1∧SigV w0 w sv (outF r).2∧w=w'
theorem valG_t {w0 w:World} {v:Value} {l:ValD} (h:ValT w v l) (hk:VOk l):ValG w0 w v l:=⟨.inr h,hk⟩
attribute [local go_sem] cell_alloc_is
set_option maxHeartbeats 2000000 in
theorem outcome_h (w0:World) (r:ResD) (u:Value) (w:World) (hu:ValT w u r.1) (hr:ResOk r):Calls Tryz.prog 164 #[u,.int .i64 r.2] w (OutcP w0 w r):=by
 obtain ⟨A,n,cap,rfl⟩:=hu.shape
 obtain ⟨v,e⟩:=r
 obtain ⟨P,hP⟩:∃ P:Ending→World→Prop,OutcP w0 w (v,e)=P:=⟨_,rfl⟩
 rw [hP]
 have HP:=hZz hP
 by_cases he:e=0
 ·subst he
  have HV:Hid (ValG w0 w (.slice A n cap) (outF (v,0)).1):=hZz (valG_t hu (.inr (hr rfl)))
  clear hP hu hr
  go_enter Tryz.func164,Tryz.ntmps164
  go_wp2_with (fail)
  rw [← HP.out]
  exact ⟨_,_,_,_,rfl,HV.out,rfl,rfl⟩
 ·have h1:(e != 0)=true:=by simpa using he
  have HE:Hid (outF (v,e)=([],some (.fail e))):=hZz (by unfold outF;rw [if_pos he])
  clear hP hu hr he
  go_enter Tryz.func164,Tryz.ntmps164
  go_wp2_with (fail)
  rw [← HP.out]
  exact ⟨none,0,0,_,rfl,by rw [HE.out];exact ValG.nil w0 w,by rw [HE.out];rfl,rfl⟩
def CondP (w0:World) (K:EvK) (C:EvC) (gv:Nat) (F:List Nat) (c:Nat) (w:World) (R:(Bool × Option SigD) × EvS) (e:Ending) (w':World):Prop :=
 ∃ sv,e=.returned (.tuple #[.bool R.1.1,sv])∧SigV w0 w' sv R.1.2∧EvX w0 K C gv F c w' R.2∧KX K.gx gv w w'
theorem below_dn {w w':World} {q:Nat} (h:w'=w.drewN q):Below w.heap.size w w':=by rw [h];exact below_drewN (Below.refl _ _) q
set_option maxHeartbeats 4000000 in
theorem cond_h {fB:Nat} {w0:World} {K:EvK} {C:EvC} {N:EvN} {c:Nat} (hN:NodeOk w0 K C N c fB) {gv:Nat} {F:List Nat} {k:Nat} {s:EvS} {w:World} {R} (h:EvX w0 K C gv F c w s) (hk:k<C.p.nodes.length) (hf:s.fuel≤fB) (hl:s.vars.length≤1000) (hR:condF N k s=some R) :
  Calls Tryz.prog 218 #[.pointer (some ⟨K.gx,0,none⟩),.int .i64 k,.slice (some ⟨gv,0,none⟩) s.vars.length s.vars.length] w (CondP w0 K C gv F c w R):=by
 unfold condF at hR
 cases hQ:N k s with
 | none=>rw [hQ] at hR;cases hR
 | some Q =>
  rw [hQ] at hR
  have HN:=hZz (hN gv F k s w Q h hk hf hl hQ)
  obtain ⟨P,hP⟩:∃ P:Ending→World→Prop,CondP w0 K C gv F c w R=P:=⟨_,rfl⟩
  rw [hP]
  have HP:=hZz hP
  obtain ⟨⟨v,g⟩,t⟩:=Q
  obtain ⟨L,hL⟩:∃ L,s.vars.length=L:=⟨_,rfl⟩
  rw [hL] at HN ⊢
  clear hP h hk hf hl hQ hN hL
  cases g with
  | some g =>
   have HR:Hid (R=((false,some g),t)):=hZz (by cases hR;rfl)
   clear hR
   go_enter Tryz.func218,Tryz.ntmps218
   go_wp2_with (first
    | (go_at_call 116;((with_reducible refine HN.out.mono ?_);rintro e w1 ⟨u,sv,rfl,hu,hsv,hx,hkx⟩;obtain ⟨T,pv,rfl⟩:=sig_some hsv;have HS:=hZz hsv;have HX:=hZz hx;have HK:=hZz hkx;have hne:=fun w=>ifc_ne T pv w;clear hsv hx hkx hu)))
   rw [← HP.out,HR.out]
   exact ⟨_,rfl,HS.out,HX.out,HK.out⟩
  | none =>
   cases v with
   | nil=>cases hR
   | cons ce r =>
    simp only at hR
    have hne:=fun w=>ifn_ne w
    by_cases h2:ce.kind=2
    ·obtain ⟨bb,hbb⟩:∃ x,decide (ce.int≠0)=x:=⟨_,rfl⟩
     have HR:Hid (R=((bb,none),t)):=hZz (by rw [if_pos h2,hbb] at hR;cases hR;rfl)
     have k2:(ce.kind == 2)=true:=by simp [h2]
     have HI:Hid ((ce.int != 0)=bb):=hZz (by rw [← hbb,Bool.eq_iff_iff];simp)
     clear hR h2 hbb
     go_enter Tryz.func218,Tryz.ntmps218
     go_wp2_with (first
      | (go_at_call 116;((with_reducible refine HN.out.mono ?_);rintro e w1 ⟨u,sv,rfl,hu,hsv,hx,hkx⟩;(have hsv':sv=.nilIface:=hsv);subst hsv';have HX:=hZz hx;have HK:=hZz hkx;have HT:=hZz (truth_any ce r u w1 (hu.val hx.bel));rw [k2,HI.out] at HT;clear hsv hx hkx hu))
      | (go_at_call 31;((with_reducible refine HT.out.mono ?_);rintro e w2 ⟨rfl,q,hq⟩;have HB:=hZz (below_dn hq);clear hq)))
     rw [← HP.out,HR.out]
     exact ⟨_,rfl,rfl,HX.out.below HB.out,HK.out.trans (KX.of_below HB.out)⟩
    ·have HR:Hid (R=((false,some (.fail 7)),t)):=hZz (by rw [if_neg h2] at hR;cases hR;rfl)
     have k2:(ce.kind == 2)=false:=by simp [h2]
     clear hR h2
     go_enter Tryz.func218,Tryz.ntmps218
     go_wp2_with (first
      | (go_at_call 116;((with_reducible refine HN.out.mono ?_);rintro e w1 ⟨u,sv,rfl,hu,hsv,hx,hkx⟩;(have hsv':sv=.nilIface:=hsv);subst hsv';have HX:=hZz hx;have HK:=hZz hkx;have HT:=hZz (truth_any ce r u w1 (hu.val hx.bel));rw [k2] at HT;clear hsv hx hkx hu))
      | (go_at_call 31;((with_reducible refine HT.out.mono ?_);rintro e w2 ⟨rfl,q,hq⟩;have HB:=hZz (below_dn hq);clear hq)))
     rw [← HP.out,HR.out]
     exact ⟨_,rfl,rfl,HX.out.below HB.out,HK.out.trans (KX.of_below HB.out)⟩
end
section
theorem kid_cells {w0:World} {n:NodeD} {iA:Option Addr} {ic M:Nat} (hi:IntsV w0 (.slice iA n.kids.length ic) n.kids) (hk:∀ k∈n.kids,0≤k∧k<(M:Int)) (hl:0<n.kids.length):∃ b off,iA=some ⟨b,off,none⟩∧b<w0.heap.size∧∀ j,j<n.kids.length→w0.cell? ⟨b,off+j,none⟩=some (.int .i64 (kidN n j:Nat))∧kidN n j<M:=by
 obtain ⟨b,off,hA,hb,_⟩:=hi.cell hl
 refine ⟨b,off,hA,hb,fun j hj=>?_⟩
 obtain ⟨b',off',hA',_,c⟩:=hi.cell hj
 rw [hA] at hA'
 cases hA'
 have hm:=hk _ (List.getElem_mem hj)
 have e:kidN n j=(n.kids[j]).toNat:=by unfold kidN;rw [getD_at hj]
 rw [e,c,Int.toNat_of_nonneg hm.1]
 exact ⟨rfl,by omega⟩
theorem EvX.ne {w0 w:World} {K:EvK} {C:EvC} {gv:Nat} {F:List Nat} {c:Nat} {s:EvS} (h:EvX w0 K C gv F c w s) {g:Nat} {t:TypeId} {cs:Array Value} (hB:Blk w g t cs) (h1:t≠95) (h2:t≠22):g≠K.gx∧g≠gv:=by
 obtain ⟨_,_,_,h⟩:=h
 exact ⟨blk_ne hB h.ex h1,blk_ne hB h.vb h2⟩
theorem EvX.keep {w0 w w':World} {K:EvK} {C:EvC} {gv:Nat} {F:List Nat} {c:Nat} {s:EvS} (h:EvX w0 K C gv F c w s) (hk:KX K.gx gv w w') {g:Nat} {cs:Array Value} (hB:Blk w g 87 cs):Blk w' g 87 cs :=
 hk.blk hB (h.ne hB (by decide) (by decide)).1 (h.ne hB (by decide) (by decide)).2 (by decide)
theorem valT_from {w w':World} {u:Value} {l:ValD} (hv:ValV w' u l) (hf:FromC w w' [] u):ValT w' u l:=⟨hv,fun b off n cap e _=>by
 rcases hf b off n cap e with ⟨x,hx,_⟩ | ⟨_,hc⟩
 ·cases hx
 ·exact hc⟩
theorem bool_h (w0:World) (b:Bool) (w:World):Calls Tryz.prog 32 #[.bool b] w fun e w'=>∃ A n cap,e=.returned (.slice A n cap)∧ValG w0 w' (.slice A n cap) [bCel b]∧Below w.heap.size w w' :=
 (cbool_any b w).mono fun e w' ⟨u,he,hv,hf,hb⟩=>by
  obtain ⟨A,n,cap,rfl⟩:=hv.shape
  exact ⟨A,n,cap,he,valG_t (valT_from hv hf) (.inr (check_b b)),hb⟩
attribute [local go_sem] cell_alloc_is
set_option maxHeartbeats 8000000 in
theorem both_h {fB:Nat} {w0:World} {K:EvK} {C:EvC} (hH:EvH w0 K C) {N:EvN} {c:Nat} (hN:NodeOk w0 K C N c fB) (hD:DownN N) {gv:Nat} {F:List Nat} {n:NodeD} {kA iA:Option Addr} {kc ic:Nat} {s:EvS} {w:World} {R} (h:EvX w0 K C gv F c w s) (hn:n∈C.p.nodes) (hi:IntsV w0 (.slice iA n.kids.length ic) n.kids)
  (hf:s.fuel≤fB) (hl:s.vars.length≤1000) (hk2:n.kids.length=2) (hR:bothF N n s=some R) :
  Calls Tryz.prog 167 #[.pointer (some ⟨K.gx,0,none⟩),.agg (nodeC n kA kc iA ic),.slice (some ⟨gv,0,none⟩) s.vars.length s.vars.length] w (NodeP w0 K C gv F c w R):=by
 obtain ⟨b,off,rfl,hb,hkc⟩:=kid_cells hi (hH.kids n hn).2.2.1 (by omega)
 obtain ⟨c0,l0⟩:=hkc 0 (by omega)
 obtain ⟨c1,l1⟩:=hkc 1 (by omega)
 rw [Nat.add_zero] at c0
 obtain ⟨P,hP⟩:∃ P:Ending→World→Prop,NodeP w0 K C gv F c w R=P:=⟨_,rfl⟩
 rw [hP]
 have HP:=hZz hP
 unfold bothF at hR
 cases hQ:condF N (kidN n 0) s with
 | none=>rw [hQ] at hR;cases hR
 | some Q =>
  obtain ⟨⟨b1,g1⟩,t⟩:=Q
  rw [hQ] at hR
  have hd:=(down_cond hD hQ).1
  have hdf:=hd.fuel
  have hdl:=hd.len
  simp only at hdf hdl
  unfold nodeC
  obtain ⟨gn,hgn⟩:∃ g,w.heap.size=g:=⟨_,rfl⟩
  obtain ⟨W1,hW1⟩:∃ W,w.alloc (.cells #[.int .i64 n.kind,.string n.text,.int .i64 n.int,.slice kA n.keys.length kc,.slice (some ⟨b,off,none⟩) n.kids.length ic] 87)=W:=⟨_,rfl⟩
  have hb1:Below w.heap.size w W1:=by rw [← hW1];exact below_new _ _
  have hX1:Blk W1 gn 87 #[.int .i64 n.kind,.string n.text,.int .i64 n.int,.slice kA n.keys.length kc,.slice (some ⟨b,off,none⟩) n.kids.length ic]:=by rw [← hW1,← hgn];exact Blk.new _ _ _
  have hx1:=h.below hb1
  have HC0:Hid (Calls Tryz.prog 218 #[.pointer (some ⟨K.gx,0,none⟩),.int .i64 (kidN n 0:Nat),.slice (some ⟨gv,0,none⟩) s.vars.length s.vars.length] W1 fun e w'=>∃ sv,e=.returned (.tuple #[.bool b1,sv])∧SigV w0 w' sv g1∧EvX w0 K C gv F c w' t∧KX K.gx gv W1 w'):=hZz (cond_h hN hx1 l0 hf hl hQ)
  have HC1:Hid (∀ Q2,condF N (kidN n 1) t=some Q2→∀ wx,EvX w0 K C gv F c wx t→Calls Tryz.prog 218 #[.pointer (some ⟨K.gx,0,none⟩),.int .i64 (kidN n 1:Nat),.slice (some ⟨gv,0,none⟩) s.vars.length s.vars.length] wx fun e w'=>∃ sv,e=.returned (.tuple #[.bool Q2.1.1,sv])∧SigV w0 w' sv Q2.1.2∧EvX w0 K C gv F c w' Q2.2∧KX K.gx gv wx w'):=hZz (fun Q2 hQ2 wx hx=>by
   have:=cond_h hN hx l1 (by omega) (by omega) hQ2
   rw [hdl] at this
   exact this)
  have HB1:=hZz hb1
  have HX1:=hZz hX1
  have HE1:=hZz hx1
  have HBB:=hZz hb
  have HC1C:=hZz c1
  have d0:=(hx1.bel.cell hb).trans c0
  have HGN:=hZz hgn
  have HW1:=hZz hW1
  have HBO:=fun b=>hZz (bool_h w0 b)
  obtain ⟨L,hL⟩:∃ L,s.vars.length=L:=⟨_,rfl⟩
  rw [hL] at HC0 HC1 ⊢
  rw [hk2] at HX1 HW1 ⊢
  obtain ⟨k0,hk0⟩:∃ k,kidN n 0=k:=⟨_,rfl⟩
  rw [hk0] at HC0 d0
  obtain ⟨k1,hk1⟩:∃ k,kidN n 1=k:=⟨_,rfl⟩
  rw [hk1] at HC1 HC1C hR
  obtain ⟨nt,hnt⟩:∃ k,n.text=k:=⟨_,rfl⟩
  rw [hnt] at HX1 HW1 hR ⊢
  generalize n.kind=nk at HX1 HW1 ⊢
  generalize n.int=ni at HX1 HW1 ⊢
  generalize n.keys.length=nq at HX1 HW1 ⊢
  have x1:=blk5n HX1.out
  clear hP h hn hi hf hl hk2 hQ hN hD hL c0 c1 l0 l1 hkc hb hb1 hX1 hx1 hgn hW1 hd hdf hdl hH hk0 hk1 hnt
  cases g1 with
  | some g =>
   have HR:Hid (R=(([],some g),t)):=hZz (by cases hR;rfl)
   clear hR
   go_enter Tryz.func167,Tryz.ntmps167
   go_upto_region 1 with fail
   rw [HGN.out,HW1.out]
   clear HGN HW1
   go_wp2_with (first
    | (go_at_call 218;((with_reducible refine HC0.out.mono ?_);rintro e w2 ⟨sv,rfl,hsv,hx,hkx⟩;obtain ⟨T,pv,rfl⟩:=sig_some hsv;have HS:=hZz hsv;have HX:=hZz hx;have HK:=hZz hkx;have hne:=fun w=>ifc_ne T pv w;have heq:=fun w=>ifc_eq T pv w;clear hsv hx hkx)))
   rw [← HP.out,HR.out]
   exact ⟨.slice none 0 0,_,rfl,ValG.nil _ _,HS.out,HX.out,(KX.of_below HB1.out).trans HK.out⟩
  | none =>
   have hne:=fun w=>ifn_ne w
   have heq:=fun w=>ifn_eq w
   have hcase:(b1=decide (nt.toList=andS))∨(b1=!decide (nt.toList=andS)):=by
    cases b1 <;> cases decide (nt.toList=andS) <;> simp
   rcases hcase with hcase | hcase
   ·have hR2:boolF (condF N k1 t)=some R:=by simpa only [if_pos hcase] using hR
    cases hQ2:condF N k1 t with
    | none=>rw [hQ2] at hR2;cases hR2
    | some Q2 =>
     obtain ⟨⟨b2,g2⟩,t2⟩:=Q2
     rw [hQ2] at hR2
     have HC2:=hZz (HC1.out _ hQ2)
     clear hR HC1 hQ2
     simp only at HC2
     cases g2 with
     | some g =>
      have HR:Hid (R=(([],some g),t2)):=hZz (by cases hR2;rfl)
      clear hR2
      by_cases hand:nt.toList=andS
      ·have hand':=eq_str hand
       rw [decide_eq_true hand] at hcase
       subst hcase
       unfold andS at hand hand'
       go_enter Tryz.func167,Tryz.ntmps167
       go_upto_region 1 with fail
       rw [HGN.out,HW1.out]
       clear HGN HW1
       go_wp2_with (first
        | (go_at_call 218;((with_reducible refine HC0.out.mono ?_);rintro e w2 ⟨sv,rfl,hsv,hx,hkx⟩;(have hsv':sv=.nilIface:=hsv);subst hsv';have HX:=hZz hx;have HK:=hZz hkx;have x2:=blk5n (HE1.out.keep hkx HX1.out);have d1:=(hx.bel.cell HBB.out).trans HC1C.out;have HC3:=hZz (HC2.out w2 hx);clear hsv hx hkx HC0))
        | (go_at_call 218;((with_reducible refine HC3.out.mono ?_);rintro e w3 ⟨sv,rfl,hsv,hx,hkx⟩;obtain ⟨T,pv,rfl⟩:=sig_some hsv;have HS:=hZz hsv;have HX3:=hZz hx;have HK3:=hZz hkx;have hne:=fun w=>ifc_ne T pv w;have heq:=fun w=>ifc_eq T pv w;clear hsv hx hkx)))
       rw [← HP.out,HR.out]
       exact ⟨.slice none 0 0,_,rfl,ValG.nil _ _,HS.out,HX3.out,((KX.of_below HB1.out).trans HK.out).trans HK3.out⟩
      ·have hand':=ne_str hand
       rw [decide_eq_false hand] at hcase
       subst hcase
       unfold andS at hand hand'
       go_enter Tryz.func167,Tryz.ntmps167
       go_upto_region 1 with fail
       rw [HGN.out,HW1.out]
       clear HGN HW1
       go_wp2_with (first
        | (go_at_call 218;((with_reducible refine HC0.out.mono ?_);rintro e w2 ⟨sv,rfl,hsv,hx,hkx⟩;(have hsv':sv=.nilIface:=hsv);subst hsv';have HX:=hZz hx;have HK:=hZz hkx;have x2:=blk5n (HE1.out.keep hkx HX1.out);have d1:=(hx.bel.cell HBB.out).trans HC1C.out;have HC3:=hZz (HC2.out w2 hx);clear hsv hx hkx HC0))
        | (go_at_call 218;((with_reducible refine HC3.out.mono ?_);rintro e w3 ⟨sv,rfl,hsv,hx,hkx⟩;obtain ⟨T,pv,rfl⟩:=sig_some hsv;have HS:=hZz hsv;have HX3:=hZz hx;have HK3:=hZz hkx;have hne:=fun w=>ifc_ne T pv w;have heq:=fun w=>ifc_eq T pv w;clear hsv hx hkx)))
       rw [← HP.out,HR.out]
       exact ⟨.slice none 0 0,_,rfl,ValG.nil _ _,HS.out,HX3.out,((KX.of_below HB1.out).trans HK.out).trans HK3.out⟩
     | none =>
      have HR:Hid (R=(([bCel b2],none),t2)):=hZz (by cases hR2;rfl)
      clear hR2
      by_cases hand:nt.toList=andS
      ·have hand':=eq_str hand
       rw [decide_eq_true hand] at hcase
       subst hcase
       unfold andS at hand hand'
       go_enter Tryz.func167,Tryz.ntmps167
       go_upto_region 1 with fail
       rw [HGN.out,HW1.out]
       clear HGN HW1
       go_wp2_with (first
        | (go_at_call 218;((with_reducible refine HC0.out.mono ?_);rintro e w2 ⟨sv,rfl,hsv,hx,hkx⟩;(have hsv':sv=.nilIface:=hsv);subst hsv';have HX:=hZz hx;have HK:=hZz hkx;have x2:=blk5n (HE1.out.keep hkx HX1.out);have d1:=(hx.bel.cell HBB.out).trans HC1C.out;have HC3:=hZz (HC2.out w2 hx);clear hsv hx hkx HC0))
        | (go_at_call 218;((with_reducible refine HC3.out.mono ?_);rintro e w3 ⟨sv,rfl,hsv,hx,hkx⟩;(have hsv':sv=.nilIface:=hsv);subst hsv';have HX3:=hZz hx;have HK3:=hZz hkx;clear hsv hx hkx))
        | (go_at_call 32;((with_reducible refine ((HBO b2).out w3).mono ?_);rintro e w4 ⟨A,m,cap,rfl,hg,hb4⟩;have HG:=hZz hg;have HB4:=hZz hb4;clear hg hb4)))
       rw [← HP.out,HR.out]
       exact ⟨_,_,rfl,HG.out,rfl,HX3.out.below HB4.out,(((KX.of_below HB1.out).trans HK.out).trans HK3.out).trans (KX.of_below HB4.out)⟩
      ·have hand':=ne_str hand
       rw [decide_eq_false hand] at hcase
       subst hcase
       unfold andS at hand hand'
       go_enter Tryz.func167,Tryz.ntmps167
       go_upto_region 1 with fail
       rw [HGN.out,HW1.out]
       clear HGN HW1
       go_wp2_with (first
        | (go_at_call 218;((with_reducible refine HC0.out.mono ?_);rintro e w2 ⟨sv,rfl,hsv,hx,hkx⟩;(have hsv':sv=.nilIface:=hsv);subst hsv';have HX:=hZz hx;have HK:=hZz hkx;have x2:=blk5n (HE1.out.keep hkx HX1.out);have d1:=(hx.bel.cell HBB.out).trans HC1C.out;have HC3:=hZz (HC2.out w2 hx);clear hsv hx hkx HC0))
        | (go_at_call 218;((with_reducible refine HC3.out.mono ?_);rintro e w3 ⟨sv,rfl,hsv,hx,hkx⟩;(have hsv':sv=.nilIface:=hsv);subst hsv';have HX3:=hZz hx;have HK3:=hZz hkx;clear hsv hx hkx))
        | (go_at_call 32;((with_reducible refine ((HBO b2).out w3).mono ?_);rintro e w4 ⟨A,m,cap,rfl,hg,hb4⟩;have HG:=hZz hg;have HB4:=hZz hb4;clear hg hb4)))
       rw [← HP.out,HR.out]
       exact ⟨_,_,rfl,HG.out,rfl,HX3.out.below HB4.out,(((KX.of_below HB1.out).trans HK.out).trans HK3.out).trans (KX.of_below HB4.out)⟩
   ·have HR:Hid (R=(([bCel b1],none),t)):=hZz (by
     simp only at hR
     rw [if_neg (by rw [hcase];cases decide (nt.toList=andS) <;> simp)] at hR
     cases hR;rfl)
    clear hR HC1
    by_cases hand:nt.toList=andS
    ·have hand':=eq_str hand
     rw [decide_eq_true hand] at hcase
     subst hcase
     unfold andS at hand hand'
     go_enter Tryz.func167,Tryz.ntmps167
     go_upto_region 1 with fail
     rw [HGN.out,HW1.out]
     clear HGN HW1
     go_wp2_with (first
      | (go_at_call 218;((with_reducible refine HC0.out.mono ?_);rintro e w2 ⟨sv,rfl,hsv,hx,hkx⟩;(have hsv':sv=.nilIface:=hsv);subst hsv';have HX:=hZz hx;have HK:=hZz hkx;have x2:=blk5n (HE1.out.keep hkx HX1.out);clear hsv hx hkx HC0))
      | (go_at_call 32;((with_reducible refine ((HBO _).out w2).mono ?_);rintro e w4 ⟨A,m,cap,rfl,hg,hb4⟩;have HG:=hZz hg;have HB4:=hZz hb4;clear hg hb4)))
     rw [← HP.out,HR.out]
     exact ⟨_,_,rfl,HG.out,rfl,HX.out.below HB4.out,((KX.of_below HB1.out).trans HK.out).trans (KX.of_below HB4.out)⟩
    ·have hand':=ne_str hand
     rw [decide_eq_false hand] at hcase
     subst hcase
     unfold andS at hand hand'
     go_enter Tryz.func167,Tryz.ntmps167
     go_upto_region 1 with fail
     rw [HGN.out,HW1.out]
     clear HGN HW1
     go_wp2_with (first
      | (go_at_call 218;((with_reducible refine HC0.out.mono ?_);rintro e w2 ⟨sv,rfl,hsv,hx,hkx⟩;(have hsv':sv=.nilIface:=hsv);subst hsv';have HX:=hZz hx;have HK:=hZz hkx;have x2:=blk5n (HE1.out.keep hkx HX1.out);clear hsv hx hkx HC0))
      | (go_at_call 32;((with_reducible refine ((HBO _).out w2).mono ?_);rintro e w4 ⟨A,m,cap,rfl,hg,hb4⟩;have HG:=hZz hg;have HB4:=hZz hb4;clear hg hb4)))
     rw [← HP.out,HR.out]
     exact ⟨_,_,rfl,HG.out,rfl,HX.out.below HB4.out,((KX.of_below HB1.out).trans HK.out).trans (KX.of_below HB4.out)⟩
end
end Go.Proofs.YtekdhlfapejijaaGreatDoor
