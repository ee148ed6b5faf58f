/- H2 -/
import Derived.Test.YtekdhlfapejijaaGreatDoorQH1
set_option linter.unusedVariables false
set_option linter.unusedSimpArgs false
namespace Go.Proofs.YtekdhlfapejijaaGreatDoor
open Go.RowKit
def Chk (vars:List ValD) (sl:Int):Prop:=0≤sl∧sl<vars.length∧checkF (vars.getD sl.toNat [])=0
def GoodV (vis:List (ByteArray × Int)) (vars:List ValD):Prop:=∀ q∈vis,Chk vars q.2
structure NdV (T:VN):Prop where
 nd:(T.vis.map (·.1)).Nodup
 nx:0≤T.next
theorem alGet_mem {l:List (ByteArray × Int)} {a:ByteArray} {x:Int} (h:alGet l a=some x):(a,x)∈l:=by
 obtain ⟨l1,l2,e,_⟩:=al_split l a x h;rw [e];simp
theorem alDel_nd {a:ByteArray}:∀ {m:List (ByteArray × Int)},(m.map (·.1)).Nodup→((alDel m a).map (·.1)).Nodup∧∀ q∈alDel m a,q∈m∧q.1≠a
 | [],h=>⟨by simp [alDel],fun q hq=>by simp [alDel] at hq⟩
 | x :: r,h=>by
  rw [List.map_cons,List.nodup_cons] at h;unfold alDel;by_cases hx:x.1=a
  ·rw [List.eraseP_cons_of_pos (by simpa using hx)]
   refine ⟨h.2,fun q hq=>⟨by simp [hq],fun e=>h.1 ?_⟩⟩
   rw [hx,← e];exact List.mem_map.2 ⟨q,hq,rfl⟩
  ·rw [List.eraseP_cons_of_neg (by simpa using hx)]
   obtain ⟨h1,h2⟩:=alDel_nd (a:=a) h.2;unfold alDel at h1 h2;refine ⟨?_,fun q hq=>?_⟩
   ·rw [List.map_cons,List.nodup_cons]
    refine ⟨fun hm=>h.1 ?_,h1⟩
    obtain ⟨q,hq,e⟩:=List.mem_map.1 hm;exact List.mem_map.2 ⟨q,(h2 q hq).1,e⟩
   ·rcases List.mem_cons.1 hq with rfl | hq
    ·exact ⟨by simp,hx⟩
    ·exact ⟨by simp [(h2 q hq).1],(h2 q hq).2⟩
theorem dels_nd:∀ (ds:List ByteArray) {m:List (ByteArray × Int)},(m.map (·.1)).Nodup→((ds.foldl alDel m).map (·.1)).Nodup∧∀ q∈ds.foldl alDel m,q∈m∧q.1 ∉ ds
 | [],m,h=>⟨h,fun q hq=>⟨hq,by simp⟩⟩
 | a :: r,m,h=>by
  obtain ⟨h1,h2⟩:=alDel_nd (a:=a) h;obtain ⟨h3,h4⟩:=dels_nd r h1;refine ⟨h3,fun q hq=>?_⟩
  obtain ⟨h5,h6⟩:=h4 q hq;obtain ⟨h7,h8⟩:=h2 q h5;exact ⟨h7,by simp only [List.mem_cons,not_or];exact ⟨h8,h6⟩⟩
theorem declF_nil {p:ProgD}:∀ {r:List Int},(∀ k∈r,(p.at_ k.toNat).kind≠13)→declF p r=[]
 | [],_=>rfl
 | k :: r,h=>by
  simp only [declF];rw [if_neg (h k (by simp)),declF_nil (fun k hk=>h k (by simp [hk]))];rfl
theorem mem_get {α:Type} {l:List α} {x:α} (h:x∈l):∃ j,∃ hj:j<l.length,l[j]=x:=List.mem_iff_getElem.1 h
theorem Tree.kid {p:ProgD} {f i s:Nat} (T:Tree p.nodes f i s) {k:Int} (hk:k∈(p.at_ i).kids):∃ j,j<(p.at_ i).kids.length∧(p.at_ i).kids.getD j 0=k∧0≤k∧k.toNat<i∧fitsB (p.at_ i).kind j (p.at_ k.toNat).kind=true:=by
 obtain ⟨j,hj,e⟩:=mem_get hk;obtain ⟨m,h1,h2,h3⟩:=T.fits j hj;have e2:(p.at_ i).kids.getD j (-1)=k:=by rw [List.getD_eq_getElem?_getD,List.getElem?_eq_getElem hj,e];rfl
 have e3:(p.at_ i).kids.getD j 0=k:=by rw [List.getD_eq_getElem?_getD,List.getElem?_eq_getElem hj,e];rfl
 have h1':(p.at_ i).kids.getD j (-1)=m:=h1;rw [e2] at h1';subst h1';exact ⟨j,hj,e3,by omega,by simpa using h2,by rw [Int.toNat_natCast];exact h3⟩
theorem fits_no {k:Int} {j:Nat} {part:Int} (h:fitsB k j part=true) (h19:k≠19):part≠13:=by
 unfold fitsB at h;rw [if_neg h19] at h;split at h
 ·have:=of_decide_eq_true h;omega
 ·simp at h;omega
theorem fits_expr {k:Int} {j:Nat} {part:Int} (h:fitsB k j part=true) (h19:k≠19) (hj:(k=15∨k=16)→j=0):part≤12:=by
 unfold fitsB at h;rw [if_neg h19] at h;split at h
 ·rename_i hc;have:=hj hc.1;omega
 ·simp at h;omega
section
variable {p:ProgD} {SL:List Int}
theorem okS_vis {f:Nat} (hr:∀ i T U,okW p SL f i T U→NdV T→NdV U∧T.next≤U.next∧∀ q∈U.vis,q∈T.vis∨((p.at_ i).kind=13∧q.1=(p.at_ i).text)):∀ {r:List Int} {T U:VN},okS (okW p SL f) r T U→NdV T→NdV U∧T.next≤U.next∧∀ q∈U.vis,q∈T.vis∨q.1∈declF p r
 | [],T,U,h,hn=>by
  have e:T=U:=h;subst e;exact ⟨hn,Int.le_refl _,fun q hq=>.inl hq⟩
 | k :: r,T,U,h,hn=>by
  obtain ⟨V,h1,h2⟩:=h;obtain ⟨g1,g2,g3⟩:=hr _ _ _ h1 hn;obtain ⟨g4,g5,g6⟩:=okS_vis hr h2 g1;refine ⟨g4,by omega,fun q hq=>?_⟩
  simp only [declF];rcases g6 q hq with h | h
  ·rcases g3 q h with h | ⟨h,e⟩
   ·exact .inl h
   ·rw [if_pos h]
    exact .inr (by simp [e])
  ·exact .inr (by simp [h])
theorem zbmY:∀ f i T U,okW p SL f i T U→NdV T→NdV U∧T.next≤U.next∧∀ q∈U.vis,q∈T.vis∨((p.at_ i).kind=13∧q.1=(p.at_ i).text):=by
 intro f;induction f with
 | zero=>intro i T U h;exact h.elim
 | succ f ih =>
  intro i T U ⟨⟨s,hT⟩,hi,V,hs,he⟩ hn;obtain ⟨g1,g2,g3⟩:=okS_vis ih hs hn;unfold endOk at he;by_cases h19:(p.at_ i).kind=19
  ·rw [if_pos h19] at he
   subst he;obtain ⟨d1,d2⟩:=dels_nd (declF p (p.at_ i).kids) g1.nd;refine ⟨⟨d1,g1.nx⟩,g2,fun q hq=>.inl ?_⟩
   obtain ⟨d3,d4⟩:=d2 q hq;exact (g3 q d3).resolve_right d4
  ·rw [if_neg h19] at he
   have hd:declF p (p.at_ i).kids=[]:=declF_nil fun k hk=>by
    obtain ⟨j,_,_,_,_,h⟩:=hT.kid hk;exact fits_no h h19
   have g3':∀ q∈V.vis,q∈T.vis:=fun q hq=>(g3 q hq).resolve_right (by rw [hd];simp)
   split at he
   ·rw [he.1];exact ⟨g1,g2,fun q hq=>.inl (g3' q hq)⟩
   ·split at he
    ·rename_i h13
     rw [he.1];refine ⟨⟨?_,by show 0≤V.next+1;have:=g1.nx;omega⟩,by show T.next≤V.next+1;omega,fun q hq=>?_⟩
     ·simp only [List.map_append,List.map_cons,List.map_nil]
      rw [List.nodup_append];refine ⟨g1.nd,by simp,fun a ha b hb=>?_⟩
      simp only [List.mem_cons,List.not_mem_nil,or_false] at hb;rintro rfl
      have:=(zd2Y V.vis a).2 ha
      rw [hb,he.2.1] at this;cases this
     ·rcases List.mem_append.1 hq with hq | hq
      ·exact .inl (g3' q hq)
      ·simp only [List.mem_cons,List.not_mem_nil,or_false] at hq
       exact .inr ⟨h13,by rw [hq]⟩
    ·rw [he.1];exact ⟨g1,g2,fun q hq=>.inl (g3' q hq)⟩
theorem okS_vis' {f:Nat} {r:List Int} {T U:VN} (h:okS (okW p SL f) r T U) (hn:NdV T):NdV U∧T.next≤U.next∧∀ q∈U.vis,q∈T.vis∨q.1∈declF p r:=okS_vis (zbmY f) h hn
theorem zdtY {f i:Nat} {T U:VN} (h:okW p SL f i T U) (hn:NdV T) (h13:(p.at_ i).kind≠13):∀ q∈U.vis,q∈T.vis:=fun q hq=>((zbmY f i T U h hn).2.2 q hq).resolve_right fun e=>h13 e.1
end
theorem GoodV.sub {a b:List (ByteArray × Int)} {vars:List ValD} (h:GoodV a vars) (hs:∀ q∈b,q∈a):GoodV b vars:=fun q hq=>h q (hs q hq)
structure SafeR {α:Type} (U:VN) (s:EvS) (R:(α × Option SigD) × EvS):Prop where
 len:R.2.vars.length=s.vars.length
 mono:∀ sl,Chk s.vars sl→Chk R.2.vars sl
 ret:∀ v,R.1.2=some (.ret v)→checkF v=0
 vis:R.1.2=none→GoodV U.vis R.2.vars
theorem SafeR.sig {α β:Type} {U V:VN} {s:EvS} {R:(α × Option SigD) × EvS} (h:SafeR U s R) (x:β) {g:SigD} (hg:R.1.2=some g):SafeR V s ((x,some g),R.2):=⟨h.len,h.mono,fun v e=>h.ret v (by rw [hg];exact e),fun e=>(by cases e)⟩
theorem SafeR.fail {α:Type} (U:VN) (s:EvS) (x:α) (e:Int):SafeR U s ((x,some (.fail e)),s):=⟨rfl,fun _ h=>h,fun v h=>(by injection h with h;cases h),fun h=>by cases h⟩
theorem SafeR.same {α:Type} {U:VN} {s:EvS} (x:α) (h:GoodV U.vis s.vars):SafeR U s ((x,none),s):=⟨rfl,fun _ h=>h,fun v h=>(by cases h),fun _=>h⟩
theorem SafeR.trans {α β:Type} {U V:VN} {s:EvS} {R:(α × Option SigD) × EvS} {Q:(β × Option SigD) × EvS} (h:SafeR U s R) (g:SafeR V R.2 Q):SafeR V s Q:=⟨g.len.trans h.len,fun sl hs=>g.mono sl (h.mono sl hs),g.ret,g.vis⟩
structure SafeV (kind:Int) (U:VN) (s:EvS) (R:(ValD × Option SigD) × EvS):Prop extends SafeR U s R where
 val:R.1.2=none→kind≤12→checkF R.1.1=0
def SafeN (C:EvC) (N:EvN):Prop:=∀ f i T U s,okW C.p C.slots f i T U→NdV T→GoodV T.vis s.vars→U.next≤s.vars.length→∃ R,N i s=some R∧SafeV (C.p.at_ i).kind U s R
theorem outF_none {r:ResD} (h:(outF r).2=none):r.2=0∧(outF r).1=r.1:=by
 unfold outF at h ⊢;split at h
 ·cases h
 ·rename_i h0
  rw [if_neg h0];exact ⟨by omega,rfl⟩
theorem outF_ret {r:ResD} {v:ValD} (h:(outF r).2=some (.ret v)):False:=by
 unfold outF at h;split at h
 ·injection h with h;cases h
 ·cases h
theorem zdsY {r:ResD} (hr:ResOk r) (h:(outF r).2=none):checkF (outF r).1=0:=by
 obtain ⟨h1,h2⟩:=outF_none h;rw [h2];exact hr h1
section
variable {C:EvC} {N:EvN}
theorem safe_all (hN:SafeN C N) {f:Nat}:∀ {r:List Int} {T U:VN} {s:EvS} (out:List ValD),okS (okW C.p C.slots f) r T U→NdV T→GoodV T.vis s.vars→U.next≤s.vars.length →
  ∃ R,allF N r out s=some R∧SafeR U s R∧(R.1.2=none→∃ l,R.1.1=out ++ l∧l.length=r.length∧((∀ k∈r,(C.p.at_ k.toNat).kind≤12)→∀ v∈l,checkF v=0))
 | [],T,U,s,out,h,hn,hg,hb=>by
  have e:T=U:=h;subst e;exact ⟨_,rfl,.same _ hg,fun _=>⟨[],by simp,rfl,fun _ v hv=>by cases hv⟩⟩
 | k :: r,T,U,s,out,h,hn,hg,hb=>by
  obtain ⟨V,h1,h2⟩:=h;obtain ⟨n1,n2,_⟩:=zbmY _ _ _ _ h1 hn;obtain ⟨n3,n4,_⟩:=okS_vis' h2 n1;obtain ⟨⟨⟨v,g⟩,t⟩,hR,hs⟩:=hN _ _ _ _ s h1 hn hg (by omega);simp only [allF];rw [hR];cases g with
  | some g=>exact ⟨_,rfl,hs.toSafeR.sig _ rfl,fun e=>by cases e⟩
  | none =>
   obtain ⟨Q,hQ,hq,hq2⟩:=safe_all hN (out ++ [v]) h2 n1 (hs.vis rfl) (by show U.next≤(t.vars.length:Int);have h9:t.vars.length=s.vars.length:=hs.len;omega);refine ⟨Q,hQ,hs.toSafeR.trans hq,fun e=>?_⟩
   obtain ⟨l,e1,e2,e3⟩:=hq2 e;refine ⟨v :: l,by rw [e1];simp,by simp [e2],fun hk u hu=>?_⟩
   rcases List.mem_cons.1 hu with rfl | hu
   ·exact hs.val rfl (hk k (by simp))
   ·exact e3 (fun k hk'=>hk k (by simp [hk'])) u hu
theorem check_cons {v:ValD} (h:checkF v=0):∃ c r,v=c :: r:=by
 cases v with
 | nil=>exact absurd h (by decide)
 | cons c r=>exact ⟨c,r,rfl⟩
theorem zchY (hN:SafeN C N) {f i:Nat} {T U:VN} {s:EvS} (h:okW C.p C.slots f i T U) (hk:(C.p.at_ i).kind≤12) (hn:NdV T) (hg:GoodV T.vis s.vars) (hb:U.next≤s.vars.length) :
  ∃ R,condF N i s=some R∧SafeR U s R:=by
 obtain ⟨⟨⟨v,g⟩,t⟩,hR,hs⟩:=hN _ _ _ _ s h hn hg hb;unfold condF;rw [hR];cases g with
 | some g=>exact ⟨_,rfl,hs.toSafeR.sig _ rfl⟩
 | none =>
  obtain ⟨c,r,rfl⟩:=check_cons (hs.val rfl hk);simp only
  split
  ·exact ⟨_,rfl,hs.len,hs.mono,fun v e=>(by cases e),fun _=>hs.vis rfl⟩
  ·exact ⟨_,rfl,hs.len,hs.mono,fun v e=>(by injection e with e;cases e),fun e=>by cases e⟩
theorem safe_drop {k:Int} {U V:VN} {s t:EvS} {o:EvR ValD} (h:∃ R,o=some R∧SafeV k U t R) (hb:∀ sl,Chk s.vars sl→Chk t.vars sl) (hl:t.vars.length=s.vars.length) (hv:∀ q∈V.vis,q∈U.vis):∃ R,dropF o=some R∧SafeR V s R:=by
 obtain ⟨⟨⟨v,g⟩,u⟩,rfl,hs⟩:=h;exact ⟨_,rfl,hs.len.trans hl,fun sl h=>hs.mono sl (hb sl h),hs.ret,fun e=>(hs.vis e).sub hv⟩
end
theorem kid_two {n:NodeD} (h:n.kids.length=2):n.kids=[n.kids.getD 0 0,n.kids.getD 1 0]:=by
 obtain ⟨a,b,e⟩:=list_two h;rw [e];rfl
theorem kid_three {n:NodeD} (h:n.kids.length=3):n.kids=[n.kids.getD 0 0,n.kids.getD 1 0,n.kids.getD 2 0]:=by
 obtain ⟨a,b,c,e⟩:=list_three h;rw [e];rfl
section
variable {C:EvC} {N:EvN}
theorem safe_loop (hN:SafeN C N) {f:Nat} {n:NodeD} {T V U:VN} (h0:okW C.p C.slots f (kidN n 0) T V) (h1:okW C.p C.slots f (kidN n 1) V U) (k0:(C.p.at_ (kidN n 0)).kind≤12) (k1:(C.p.at_ (kidN n 1)).kind≠13) (hn:NdV T) :
  ∀ (j:Nat) (s:EvS),GoodV T.vis s.vars→U.next≤s.vars.length→∃ R,loopF N n j s=some R∧SafeR U s R:=by
 obtain ⟨n1,n2,_⟩:=zbmY _ _ _ _ h0 hn;obtain ⟨n3,n4,_⟩:=zbmY _ _ _ _ h1 n1;have sb:=zdtY h1 n1 k1;have sb0:=zdtY h0 hn (by omega);intro j;induction j with
 | zero=>intro s hg hb;exact ⟨_,rfl,.fail _ _ _ _⟩
 | succ j ih =>
  intro s hg hb;obtain ⟨⟨⟨b,g⟩,t⟩,hR,hs⟩:=zchY hN h0 k0 hn hg (by omega);simp only [loopF];rw [hR];cases g with
  | some g=>exact ⟨_,rfl,hs.sig _ rfl⟩
  | none =>
   cases b with
   | false=>exact ⟨_,rfl,hs.len,hs.mono,fun v e=>(by cases e),fun _=>(hs.vis rfl).sub sb⟩
   | true =>
    have hl:=hs.len;simp only at hl;obtain ⟨⟨⟨v,g⟩,u⟩,hQ,hq⟩:=hN _ _ _ _ t h1 n1 (hs.vis rfl) (by omega);simp only
    rw [hQ];cases g with
    | some g=>exact ⟨_,rfl,(hs.trans hq.toSafeR).sig _ rfl⟩
    | none =>
     have hl2:=hq.len;simp only at hl2;obtain ⟨W,hW,hw⟩:=ih u (fun q hm=>hq.mono _ (hs.mono _ (hg q hm))) (by omega);exact ⟨W,hW,(hs.trans hq.toSafeR).trans hw⟩
end
theorem alSet_vis {m:List (ByteArray × Int)} {a:ByteArray} {x:Int} (h:(m.map (·.1)).Nodup):((alSet m a x).map (·.1)).Nodup∧∀ q∈alSet m a x,q∈m∨q=(a,x):=by
 constructor
 ·rw [alSet_keys]
  split
  ·exact h
  ·rename_i h0
   rw [List.nodup_append];refine ⟨h,by simp,fun b hb c hc=>?_⟩
   simp only [List.mem_cons,List.not_mem_nil,or_false] at hc;rintro rfl;rw [hc] at hb;exact h0 ((zd2Y m a).2 hb)
 ·intro q hq
  cases hg:alGet m a with
  | none =>
   rw [alSet_none m a x hg] at hq;rcases List.mem_append.1 hq with h | h
   ·exact .inl h
   ·exact .inr (by simpa using h)
  | some v =>
   obtain ⟨l1,l2,e,h2⟩:=al_split m a v hg;rw [h2 x] at hq;rw [e];rcases List.mem_append.1 hq with h | h
   ·exact .inl (by simp [h])
   ·rcases List.mem_cons.1 h with h | h
    ·exact .inr h
    ·exact .inl (by simp [h])
theorem start_vis (f:FuncD):∀ n,(((List.range n).foldl (fun m i=>alSet m (f.params.getD i ⟨#[]⟩) (i:Int)) ([]:List (ByteArray × Int))).map (·.1)).Nodup∧∀ q∈(List.range n).foldl (fun m i=>alSet m (f.params.getD i ⟨#[]⟩) (i:Int)) ([]:List (ByteArray × Int)),∃ j:Nat,j<n∧q.2=j:=by
 intro n;induction n with
 | zero=>exact ⟨by simp,fun q hq=>by simp at hq⟩
 | succ n ih =>
  rw [List.range_succ,List.foldl_append];simp only [List.foldl_cons,List.foldl_nil];obtain ⟨h1,h2⟩:=alSet_vis (a:=f.params.getD n ⟨#[]⟩) (x:=(n:Int)) ih.1;refine ⟨h1,fun q hq=>?_⟩
  rcases h2 q hq with h | h
  ·obtain ⟨j,h3,h4⟩:=ih.2 q h
   exact ⟨j,by omega,h4⟩
  ·exact ⟨n,by omega,by rw [h]⟩
theorem zcdY (L:Nat) (args:List ValD):(varsF L args).length=L:=by unfold varsF;simp;omega
theorem varsF_get {L:Nat} {args:List ValD} {j:Nat} (h:j<args.length) (hL:args.length≤L):(varsF L args).getD j []=args[j]:=by
 unfold varsF;rw [List.take_of_length_le hL,List.getD_eq_getElem?_getD,List.getElem?_append_left h,List.getElem?_eq_getElem h];rfl
theorem zdfY {p:ProgD} {s:ByteArray} (h:0≤findF p s):(findF p s).toNat<p.funcs.length:=by
 unfold findF at h ⊢;cases hi:p.funcs.findIdx? (fun f=>decide (f.name=s)) with
 | none=>rw [hi] at h;exact absurd h (by decide)
 | some i=>simp only [Int.toNat_natCast];exact (List.findIdx?_eq_some_iff_findIdx_eq.1 hi).1
theorem at_getD {p:ProgD} {f:Nat} (h:f<p.funcs.length):p.funcs[f]? = some (p.funcs.getD f noFunc):=by
 rw [zacY h,List.getElem?_eq_getElem h]
structure GoodC (C:EvC):Prop where
 fn:∀ m,m<C.p.funcs.length→FunW C.p C.slots C.locals m
 sl:C.slots.length=C.p.nodes.length
theorem good_slot {C:EvC} (h:GoodC C) {i:Nat} (hi:i<C.p.nodes.length):C.slots[i]? = some (zAt C.slots i):=by
 have:i<C.slots.length:=by rw [h.sl];exact hi
 unfold zAt;rw [zacY this,List.getElem?_eq_getElem this]
theorem node_get {p:ProgD} {i:Nat} (hi:i<p.nodes.length):p.nodes[i]? = some (p.at_ i):=by
 rw [List.getElem?_eq_getElem hi];unfold ProgD.at_;rw [zacY hi]
section
variable {C:EvC} {N:Nat→EvN}
theorem safe_call (hC:GoodC C) (hN:∀ c,SafeN C (N c)) {c f:Nat} {args:List ValD} {s:EvS} {U:VN} (hf:f<C.p.funcs.length) (ha:args.length=(C.p.funcs.getD f noFunc).params.length) (hck:∀ v∈args,checkF v=0) (hg:GoodV U.vis s.vars) :
  ∃ R,callF C N c f args s=some R∧SafeR U s R∧(R.1.2=none→checkF R.1.1=0):=by
 unfold callF;by_cases hc:c=16
 ·rw [if_pos hc]
  exact ⟨_,rfl,.fail _ _ _ _,fun h=>by cases h⟩
 ·rw [if_neg hc]
  obtain ⟨b,T,st,hfo,hok,hl⟩:=(hC.fn f hf).ok;rw [at_getD hf,hl];simp only
  obtain ⟨v1,v2⟩:=start_vis (C.p.funcs.getD f noFunc) (C.p.funcs.getD f noFunc).params.length;have hn:NdV ⟨(startS C.p (C.p.funcs.getD f noFunc) [] []).vis,(C.p.funcs.getD f noFunc).params.length⟩:=⟨v1,by simp⟩
  obtain ⟨_,hnx,_⟩:=zbmY _ _ _ _ hok hn;simp only at hnx;have hb:(C.p.funcs.getD f noFunc).body.toNat=b:=by rw [hfo.body];simp
  have hpl:args.length≤T.next.toNat:=by omega
  obtain ⟨⟨⟨v,g⟩,t⟩,hR,hs⟩:=hN (c+1) 600 b _ T { s with vars:=varsF T.next.toNat args } hok hn (fun q hq=>by
   obtain ⟨j,hj,e⟩:=v2 q hq;have hj':j<args.length:=by omega
   refine ⟨by omega,by rw [e];simp only [zcdY];omega,?_⟩
   rw [e,Int.toNat_natCast];simp only
   rw [varsF_get hj' hpl];exact hck _ (List.getElem_mem hj')) (by simp only [zcdY];omega)
  rw [hb,hR];cases g with
  | none=>exact ⟨_,rfl,⟨rfl,fun _ h=>h,fun v e=>(by cases e),fun _=>hg⟩,fun _=>zctY⟩
  | some g =>
   cases g with
   | fail e=>exact ⟨_,rfl,⟨rfl,fun _ h=>h,fun v e=>(by injection e with e;cases e),fun e=>by cases e⟩,fun e=>by cases e⟩
   | wait=>exact ⟨_,rfl,⟨rfl,fun _ h=>h,fun v e=>(by injection e with e;cases e),fun e=>by cases e⟩,fun e=>by cases e⟩
   | ret v=>exact ⟨_,rfl,⟨rfl,fun _ h=>h,fun v e=>(by cases e),fun _=>hg⟩,fun _=>hs.ret v rfl⟩
theorem kinds_low {i f st:Nat} (hT:Tree C.p.nodes f i st) (h19:(C.p.at_ i).kind≠19) (h15:(C.p.at_ i).kind≠15) (h16:(C.p.at_ i).kind≠16):∀ k∈(C.p.at_ i).kids,(C.p.at_ k.toNat).kind≤12:=fun k hk=>by
 obtain ⟨j,_,_,_,_,h⟩:=hT.kid hk;exact fits_expr h h19 (fun h=>by omega)
theorem safe_apply (hC:GoodC C) (hN:∀ c,SafeN C (N c)) {c i f st:Nat} {V U:VN} {l:List ValD} {s:EvS} (hT:Tree C.p.nodes f i st) (hi:i<C.p.nodes.length) (he:endOk C.p C.slots i (C.p.at_ i) V U)
  (hll:l.length=(C.p.at_ i).kids.length) (hck:(C.p.at_ i).kind≠19→∀ v∈l,checkF v=0) (hn:NdV V) (hg:GoodV V.vis s.vars) (hb:U.next≤s.vars.length)
  (hx:¬ ((C.p.at_ i).kind≤5∨(C.p.at_ i).kind=15∨(C.p.at_ i).kind=16)) :
  ∃ R,applyF C N c i (C.p.at_ i) l s=some R∧SafeV (C.p.at_ i).kind U s R:=by
 have hsub:(C.p.at_ i).kind≠13→GoodV U.vis s.vars:=fun h13=>by
  unfold endOk at he;by_cases h19:(C.p.at_ i).kind=19
  ·rw [if_pos h19] at he
   rw [he];exact hg.sub fun q hq=>((dels_nd _ hn.nd).2 q hq).1
  ·rw [if_neg h19] at he
   by_cases h5:(C.p.at_ i).kind=5∨(C.p.at_ i).kind=14
   ·rw [if_pos h5] at he
    rw [he.1];exact hg
   ·rw [if_neg h5,if_neg h13] at he
    rw [he.1];exact hg
 have hout:∀ {r:ResD},ResOk r→(C.p.at_ i).kind≠13→∃ R,(some (outF r,s):EvR ValD)=some R∧SafeV (C.p.at_ i).kind U s R:=fun {r} hr h13 =>
  ⟨_,rfl,⟨rfl,fun _ h=>h,fun v e=>(outF_ret e).elim,fun _=>hsub h13⟩,fun e _=>zdsY hr e⟩
 have hget:∀ j,j<(C.p.at_ i).kids.length→(C.p.at_ i).kind≠19→checkF (l.getD j [])=0:=fun j hj h19=>by
  rw [zacY (by omega:j<l.length)];exact hck h19 _ (List.getElem_mem _)
 have hcnt:=hT.count;have hcnt':countB (C.p.at_ i)=true:=hcnt;unfold applyF;by_cases h6:(C.p.at_ i).kind=6
 ·rw [if_pos h6];exact hout (listR_ok _) (by omega)
 rw [if_neg h6];by_cases h7:(C.p.at_ i).kind=7
 ·rw [if_pos h7];exact hout (mapR_ok _ _) (by omega)
 rw [if_neg h7];by_cases h8:(C.p.at_ i).kind=8
 ·rw [if_pos h8];exact hout (unaryR_ok _ _) (by omega)
 rw [if_neg h8];by_cases h9:(C.p.at_ i).kind=9
 ·rw [if_pos h9];exact hout (binaryR_ok _ _ _) (by omega)
 rw [if_neg h9];by_cases h10:(C.p.at_ i).kind=10
 ·rw [if_pos h10];exact hout (indexR_ok _ _) (by omega)
 rw [if_neg h10];by_cases h12:(C.p.at_ i).kind=12
 ·rw [if_pos h12]
  refine ⟨_,rfl,?_⟩
  have hs:=hsub (by omega);unfold askF;split
  ·exact ⟨.fail _ _ _ _,fun e=>by cases e⟩
  ·split
   ·exact ⟨⟨rfl,fun _ h=>h,fun v e=>(by injection e with e;cases e),fun e=>by cases e⟩,fun e=>by cases e⟩
   ·split
    ·exact ⟨⟨rfl,fun _ h=>h,fun v e=>(by injection e with e;cases e),fun e=>by cases e⟩,fun e=>by cases e⟩
    ·split
     ·exact ⟨⟨rfl,fun _ h=>h,fun v e=>(by injection e with e;cases e),fun e=>by cases e⟩,fun e=>by cases e⟩
     ·rename_i hck'
      exact ⟨⟨rfl,fun _ h=>h,fun v e=>(by cases e),fun _=>hs⟩,fun _ _=>by simpa using hck'⟩
 rw [if_neg h12];by_cases h13:(C.p.at_ i).kind=13∨(C.p.at_ i).kind=14
 ·rw [if_pos h13]
  have hk1:=cnt_one hcnt' (by omega);have hv:=hget 0 (by omega) (by omega)
  have hset:∀ sl:Int,zAt C.slots i=sl→0≤sl→sl<s.vars.length→∃ R,setF C i (l.getD 0 []) s=some R∧R.1=([],none)∧R.2.vars.length=s.vars.length∧(∀ x,Chk s.vars x→Chk R.2.vars x)∧Chk R.2.vars sl:=fun sl e h1 h2=>by
   unfold setF;rw [good_slot hC hi,e];simp only
   rw [if_pos ⟨h1,h2⟩];refine ⟨_,rfl,rfl,by simp,fun x ⟨x1,x2,x3⟩=>?_,?_⟩
   ·refine ⟨x1,by simpa using x2,?_⟩
    simp only
    rw [List.getD_eq_getElem?_getD,List.getElem?_set];split
    ·split
     ·exact hv
     ·rename_i h;exact absurd (by omega) h
    ·rw [← List.getD_eq_getElem?_getD];exact x3
   ·refine ⟨h1,by simpa using h2,?_⟩
    simp only
    rw [List.getD_eq_getElem?_getD,List.getElem?_set,if_pos rfl,if_pos (by omega)];exact hv
  unfold endOk at he;rw [if_neg (by omega)] at he;by_cases h14:(C.p.at_ i).kind=14
  ·rw [if_pos (.inr h14)] at he
   obtain ⟨rfl,sl,hsl,hz⟩:=he;obtain ⟨c1,c2,_⟩:=hg _ (alGet_mem hsl);obtain ⟨R,hR,e1,e2,e3,e4⟩:=hset sl hz c1 c2;exact ⟨R,hR,⟨e2,e3,fun v e=>(by rw [e1] at e;cases e),fun _ q hq=>e3 _ (hg q hq)⟩,fun _ e=>by omega⟩
  ·have h13':(C.p.at_ i).kind=13:=by omega
   rw [if_neg (by omega),if_pos h13'] at he;obtain ⟨rfl,hno,hz⟩:=he;have hnx0:0≤V.next:=hn.nx;simp only at hb;obtain ⟨R,hR,e1,e2,e3,e4⟩:=hset V.next hz hnx0 (by omega);refine ⟨R,hR,⟨e2,e3,fun v e=>(by rw [e1] at e;cases e),fun _ q hq=>?_⟩,fun _ e=>by omega⟩
   rcases List.mem_append.1 hq with hq | hq
   ·exact e3 _ (hg q hq)
   ·simp only [List.mem_cons,List.not_mem_nil,or_false] at hq
    rw [hq];exact e4
 rw [if_neg h13];have hs:=hsub (by omega);by_cases h17:(C.p.at_ i).kind=17
 ·rw [if_pos h17]
  have hk1:=cnt_one hcnt' (by omega);have hv:=hget 0 (by omega) (by omega);exact ⟨_,rfl,⟨rfl,fun _ h=>h,fun v e=>(by injection e with e;injection e with e;rw [← e];exact hv),fun e=>by cases e⟩,fun e=>by cases e⟩
 rw [if_neg h17];by_cases h11:(C.p.at_ i).kind=11
 ·rw [if_pos h11]
  split
  ·rename_i hf
   unfold endOk at he;rw [if_neg (by omega),if_neg (by omega),if_neg (by omega)] at he;obtain ⟨rfl,hw⟩:=he;have hw:=hw h11;unfold wantF at hw;rw [if_pos hf] at hw;injection hw with hw
   obtain ⟨R,hR,h1,h2⟩:=safe_call hC hN (c:=c) (args:=l) (s:=s) (U:=U) (zdfY hf) (by omega) (hck (by omega)) hs;exact ⟨R,hR,h1,fun e _=>h2 e⟩
  ·exact hout (builtinR_ok _ _) (by omega)
 rw [if_neg h11]
 have:=cnt_kind hcnt'
 exact ⟨_,rfl,.same _ hs,fun _ h=>by omega⟩
end
theorem safe_node {C:EvC} (hC:GoodC C):∀ g c,SafeN C (nodeE C g c):=by
 intro g;induction g with
 | zero=>intro c f i T U s h hn hg hb;exact ⟨_,rfl,.fail _ _ _ _,fun e=>by cases e⟩
 | succ g ih =>
  intro c f i T U s h hn hg hb;simp only [nodeE];by_cases h0:s.fuel=0
  ·rw [if_pos h0];exact ⟨_,rfl,.fail _ _ _ _,fun e=>by cases e⟩
  rw [if_neg h0];cases f with
  | zero=>exact h.elim
  | succ f =>
   have hh:=h;obtain ⟨⟨st,hT⟩,hi,V,hs,he⟩:=h;rw [node_get hi];simp only
   obtain ⟨s1,hs1⟩:∃ s1:EvS,{ s with fuel:=s.fuel - 1 }=s1:=⟨_,rfl⟩
   have hv:s1.vars=s.vars:=by rw [← hs1]
   rw [hs1];clear hs1
   suffices hh2:∃ R,stepN C (nodeE C g) g c i (C.p.at_ i) s1=some R∧SafeV (C.p.at_ i).kind U s1 R by
    obtain ⟨R,h1,h2⟩:=hh2;exact ⟨R,h1,⟨h2.len.trans (by rw [hv]),fun sl hc=>h2.mono sl (by rw [hv];exact hc),h2.ret,h2.vis⟩,h2.val⟩
   rw [← hv] at hg hb;clear hv h0;have hcnt:countB (C.p.at_ i)=true:=hT.count;have hsub:(C.p.at_ i).kind≠13→GoodV U.vis s1.vars:=fun h13=>hg.sub (zdtY hh hn h13)
   obtain ⟨n1,n2,n3⟩:=okS_vis' hs hn
   have hVU:(C.p.at_ i).kind≠19→V.next≤U.next∧((C.p.at_ i).kind≠13→U=V):=fun h19=>by
    unfold endOk at he;rw [if_neg h19] at he;split at he
    ·rw [he.1];exact ⟨Int.le_refl _,fun _=>rfl⟩
    ·split at he
     ·rw [he.1];exact ⟨by show V.next≤V.next+1;omega,fun h=>absurd (by assumption) h⟩
     ·rw [he.1];exact ⟨Int.le_refl _,fun _=>rfl⟩
   have k15:(C.p.at_ i).kind=15∨(C.p.at_ i).kind=16→∀ j,j<(C.p.at_ i).kids.length→(j=0→(C.p.at_ (kidN (C.p.at_ i) j)).kind≤12)∧(C.p.at_ (kidN (C.p.at_ i) j)).kind≠13:=fun hk j hj=>by
    obtain ⟨m,e1,e2,e3⟩:=hT.fits j hj;have e1':(C.p.at_ i).kids.getD j (-1)=m:=e1
    have e4:kidN (C.p.at_ i) j=m:=by
     unfold kidN;rw [zacY hj] at e1' ⊢;rw [e1'];simp
    have e3':fitsB (C.p.at_ i).kind j (C.p.at_ m).kind=true:=e3;rw [e4];exact ⟨fun hj0=>fits_expr e3' (by omega) (fun _=>hj0),fits_no e3' (by omega)⟩
   unfold stepN;by_cases h1:(C.p.at_ i).kind=1
   ·rw [if_pos h1];exact ⟨_,rfl,.same _ (hsub (by omega)),fun _ _=>zctY⟩
   rw [if_neg h1];by_cases h2:(C.p.at_ i).kind=2
   ·rw [if_pos h2];exact ⟨_,rfl,.same _ (hsub (by omega)),fun _ _=>zb2Y _⟩
   rw [if_neg h2];by_cases h3:(C.p.at_ i).kind=3
   ·rw [if_pos h3];exact ⟨_,rfl,⟨rfl,fun _ h=>h,fun v e=>(outF_ret e).elim,fun _=>hsub (by omega)⟩,fun e _=>zdsY (okR_ok _) e⟩
   rw [if_neg h3];by_cases h4:(C.p.at_ i).kind=4
   ·rw [if_pos h4];exact ⟨_,rfl,⟨rfl,fun _ h=>h,fun v e=>(outF_ret e).elim,fun _=>hsub (by omega)⟩,fun e _=>zdsY (okR_ok _) e⟩
   rw [if_neg h4];by_cases h5:(C.p.at_ i).kind=5
   ·rw [if_pos h5]
    unfold endOk at he;rw [if_neg (by omega),if_pos (.inl h5)] at he;obtain ⟨rfl,sl,hsl,hz⟩:=he;obtain ⟨c1,c2,c3⟩:=hsub (by omega) _ (alGet_mem hsl);simp only at c1 c2 c3;unfold varF;rw [good_slot hC hi,hz];simp only
    rw [if_pos ⟨c1,c2⟩];exact ⟨_,rfl,.same _ (hsub (by omega)),fun _ _=>c3⟩
   rw [if_neg h5];by_cases h15:(C.p.at_ i).kind=15
   ·rw [if_pos h15]
    have hk:=k15 (.inl h15);have hU:=(hVU (by omega)).2 (by omega);unfold chooseF;rcases cnt_if hcnt h15 with hl | hl
    ·rw [kid_two hl] at hs
     obtain ⟨V1,g1,V2,g2,e2⟩:=hs;have e2':V2=V:=e2;subst e2';subst hU;obtain ⟨m1,m2,_⟩:=zbmY _ _ _ _ g1 hn;obtain ⟨m3,m4,_⟩:=zbmY _ _ _ _ g2 m1;have sb:=zdtY g2 m1 (hk 1 (by omega)).2;obtain ⟨⟨⟨b,g⟩,t⟩,hR,hr⟩:=zchY (ih c) g1 ((hk 0 (by omega)).1 rfl) hn hg (by omega);rw [show condF _ (kidN (C.p.at_ i) 0) s1=_ from hR];cases g with
     | some g=>exact ⟨_,rfl,hr.sig _ rfl,fun e=>by cases e⟩
     | none =>
      cases b with
      | true =>
       have hl2:=hr.len;simp only at hl2;obtain ⟨R,e1,e2⟩:=safe_drop (s:=s1) (V:=U) (ih c _ _ _ _ t g2 m1 (hr.vis rfl) (by omega)) hr.mono hr.len (fun q hq=>hq);exact ⟨R,e1,e2,fun _ e=>by omega⟩
      | false =>
       simp only
       rw [if_neg (by omega)];exact ⟨_,rfl,⟨hr.len,hr.mono,fun v e=>(by cases e),fun _=>(hr.vis rfl).sub sb⟩,fun _ e=>by omega⟩
    ·rw [kid_three hl] at hs
     obtain ⟨V1,g1,V2,g2,V3,g3,e3⟩:=hs;have e3':V3=V:=e3;subst e3';subst hU;obtain ⟨m1,m2,_⟩:=zbmY _ _ _ _ g1 hn;obtain ⟨m3,m4,_⟩:=zbmY _ _ _ _ g2 m1;obtain ⟨m5,m6,_⟩:=zbmY _ _ _ _ g3 m3;have sb2:=zdtY g2 m1 (hk 1 (by omega)).2;have sb3:=zdtY g3 m3 (hk 2 (by omega)).2;obtain ⟨⟨⟨b,g⟩,t⟩,hR,hr⟩:=zchY (ih c) g1 ((hk 0 (by omega)).1 rfl) hn hg (by omega);rw [show condF _ (kidN (C.p.at_ i) 0) s1=_ from hR];cases g with
     | some g=>exact ⟨_,rfl,hr.sig _ rfl,fun e=>by cases e⟩
     | none =>
      have hl2:=hr.len;simp only at hl2;cases b with
      | true =>
       obtain ⟨R,e1,e2⟩:=safe_drop (s:=s1) (V:=U) (ih c _ _ _ _ t g2 m1 (hr.vis rfl) (by omega)) hr.mono hr.len sb3;exact ⟨R,e1,e2,fun _ e=>by omega⟩
      | false =>
       simp only
       rw [if_pos (by omega)];obtain ⟨R,e1,e2⟩:=safe_drop (s:=s1) (V:=U) (ih c _ _ _ _ t g3 m3 ((hr.vis rfl).sub sb2) (by omega)) hr.mono hr.len (fun q hq=>hq);exact ⟨R,e1,e2,fun _ e=>by omega⟩
   rw [if_neg h15];by_cases h16:(C.p.at_ i).kind=16
   ·rw [if_pos h16]
    have hl:=cnt_two hcnt (.inr (.inr h16));have hk:=k15 (.inr h16);have hU:=(hVU (by omega)).2 (by omega);rw [kid_two hl] at hs;obtain ⟨V1,g1,V2,g2,e2⟩:=hs;have e2':V2=V:=e2;subst e2';subst hU;obtain ⟨R,e1,e2⟩:=safe_loop (ih c) g1 g2 ((hk 0 (by omega)).1 rfl) (hk 1 (by omega)).2 hn (g+1) s1 hg hb;exact ⟨R,e1,e2,fun _ e=>by omega⟩
   rw [if_neg h16];by_cases hbo:isBothB (C.p.at_ i)=true
   ·rw [if_pos hbo]
    have h9:(C.p.at_ i).kind=9:=by
     unfold isBothB at hbo;simp only [Bool.and_eq_true,decide_eq_true_eq] at hbo;exact hbo.1
    have hl:=cnt_two hcnt (.inl h9);have hlow:=kinds_low hT (by omega) h15 h16;have hU:=(hVU (by omega)).2 (by omega)
    have hkk:∀ j,j<(C.p.at_ i).kids.length→(C.p.at_ (kidN (C.p.at_ i) j)).kind≤12:=fun j hj=>by
     unfold kidN;rw [zacY hj];exact hlow _ (List.getElem_mem hj)
    rw [kid_two hl] at hs;obtain ⟨V1,g1,V2,g2,e2⟩:=hs;have e2':V2=V:=e2;subst e2';subst hU;obtain ⟨m1,m2,_⟩:=zbmY _ _ _ _ g1 hn;obtain ⟨m3,m4,_⟩:=zbmY _ _ _ _ g2 m1;have hk0:=hkk 0 (by omega);have hk1:=hkk 1 (by omega);have sb:=zdtY g2 m1 (by show (C.p.at_ (kidN (C.p.at_ i) 1)).kind≠13;omega);obtain ⟨⟨⟨b,g⟩,t⟩,hR,hr⟩:=zchY (ih c) g1 hk0 hn hg (by omega);unfold bothF;rw [show condF _ (kidN (C.p.at_ i) 0) s1=_ from hR];cases g with
    | some g=>exact ⟨_,rfl,hr.sig _ rfl,fun e=>by cases e⟩
    | none =>
     have hl2:=hr.len;simp only at hl2;simp only
     split
     ·obtain ⟨⟨⟨b2,g⟩,u⟩,hQ,hq⟩:=zchY (ih c) g2 hk1 m1 (hr.vis rfl) (by show U.next≤(t.vars.length:Int);omega)
      rw [show condF _ (kidN (C.p.at_ i) 1) t=_ from hQ];cases g with
      | some g=>exact ⟨_,rfl,(hr.trans hq).sig _ rfl,fun e=>by cases e⟩
      | none=>exact ⟨_,rfl,⟨hq.len.trans hr.len,fun sl h=>hq.mono sl (hr.mono sl h),fun v e=>(by cases e),fun _=>hq.vis rfl⟩,fun _ _=>zb2Y _⟩
     ·exact ⟨_,rfl,⟨hr.len,hr.mono,fun v e=>(by cases e),fun _=>(hr.vis rfl).sub sb⟩,fun _ _=>zb2Y _⟩
   rw [if_neg hbo]
   have hVb:V.next≤U.next:=by
    by_cases h19:(C.p.at_ i).kind=19
    ·unfold endOk at he
     rw [if_pos h19] at he;rw [he];exact Int.le_refl _
    ·exact (hVU h19).1
   obtain ⟨⟨⟨l,g⟩,t⟩,hR,hr,hr2⟩:=safe_all (ih c) [] hs hn hg (by omega);unfold thenF;rw [hR];cases g with
   | some g=>exact ⟨_,rfl,hr.sig _ rfl,fun e=>by cases e⟩
   | none =>
    obtain ⟨l',e1,e2,e3⟩:=hr2 rfl;simp only [List.nil_append] at e1;subst e1;have hl2:=hr.len;simp only at hl2;have hk:=cnt_kind hcnt;obtain ⟨R,f1,f2⟩:=safe_apply hC ih (c:=c) hT hi he e2 (fun h19=>e3 (kinds_low hT h19 h15 h16)) n1 (hr.vis rfl) (by show U.next≤(t.vars.length:Int);omega) (by omega);exact ⟨R,f1,⟨f2.len.trans hr.len,fun sl h=>f2.mono sl (hr.mono sl h),f2.ret,f2.vis⟩,f2.val⟩
theorem main_some {p:ProgD} (h:(studyF p).err=0) {event:ValD} (he:checkF event=0) (answers:List AnsD) (fuel:Nat):∃ R,callF (ctxF p answers) (nodeE (ctxF p answers) fuel) 0 (findF p mainS).toNat [event] ⟨fuel,[],[event]⟩=some R∧(R.1.2=none→checkF R.1.1=0)∧∀ v,R.1.2≠some (.ret v):=by
 obtain ⟨hsy,hf,hw⟩:=study_funW h;obtain ⟨_,e1,_⟩:=zcwY h;have hC:GoodC (ctxF p answers):=⟨hw,by show (studyF p).slots.length=_;rw [e1];exact (hsy.step _ (Nat.le_refl _)).1⟩
 unfold funsF at hf;split at hf
 ·rename_i r hr
  exact absurd hf (by
   have:∀ (l:List FuncD) i r,funcsF p l i=some r→r.2=6:=by
    intro l;induction l with
    | nil=>intro i r h;cases h
    | cons f l ih =>
     intro i r h;simp only [funcsF] at h;split at h
     ·cases h;rfl
     ·exact ih _ _ h
   rw [this _ _ _ hr];decide)
 ·split at hf
  ·exact absurd hf (by simp)
  ·rename_i h0
   split at hf
   ·exact absurd hf (by simp)
   ·rename_i h1
    have h0':0≤findF p mainS:=by omega
    obtain ⟨R,hR,hs,hv⟩:=safe_call (N:=nodeE (ctxF p answers) fuel) hC (safe_node hC fuel) (c:=0) (f:=(findF p mainS).toNat) (args:=[event]) (s:=⟨fuel,[],[event]⟩) (U:=⟨[],0⟩) (zdfY h0') (by simp only [List.length_cons,List.length_nil];show 1=(p.funcs.getD _ noFunc).params.length;omega) (by simpa using he) (fun q hq=>by cases hq);refine ⟨R,hR,hv,fun v e=>?_⟩
    revert hR
    unfold callF;rw [if_neg (by decide)];split
    ·intro hR
     rename_i fn L _ _;cases hb:nodeE (ctxF p answers) fuel (0+1) fn.body.toNat { fuel:=fuel,reqs:=[],vars:=varsF L.toNat [event] } with
     | none=>rw [hb] at hR;cases hR
     | some Q =>
      rw [hb] at hR;obtain ⟨⟨x,g⟩,t⟩:=Q;cases g with
      | none=>cases hR;cases e
      | some g=>cases g <;> cases hR <;> cases e
    ·intro hR;cases hR
end Go.Proofs.YtekdhlfapejijaaGreatDoor
