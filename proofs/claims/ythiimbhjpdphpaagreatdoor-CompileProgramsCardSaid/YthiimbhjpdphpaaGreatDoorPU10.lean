/- U9, U10 -/
import Derived.Test.YthiimbhjpdphpaaGreatDoorPU8
import Derived.Test.YthiimbhjpdphpaaGreatDoorPW0
set_option linter.unusedVariables false
set_option linter.unusedSimpArgs false
namespace Go.Proofs.YthiimbhjpdphpaaGreatDoor
open Go.RowKit
set_option maxRecDepth 100000
open Go.Proofs.Tryz
section
section
variable {w w':World} {base:Nat} {e:TypeId} {size n:Nat} {v:Value} {xs:List Value}
theorem za9Y {P:Program} {ops:Array Oper} {rest:List Oper} {o:Oper} {a:Act} {Q:Exit→Act→World→Prop} (hgd:o.guard=none) (s x:Operand) (t:TypeId)
  (ho:o.op=.call { callee:=.builtin .append,args:=#[s,x],argTypes:=#[t,t] })
  (i:TypeInfo) (z:Value) (bytes:Nat) (ht:P.underlying t=some (.slice e)) (hi:P.info? e=some i) (hz:i.zero=some z)
  (hsize:i.size=size) (hby:i.bytes=bytes) (hzs:z.cells.size=size) (hsz:0<size)
  (hs:a.eval s=v) (hown:w.ownsRow base e size v n xs) (news:List Value) (hx:a.eval x=.slice (some ⟨w.heap.size,0,none⟩) 1 1)
  (hl:news.length=size) (h1:∀ u∈news,u.oneCell'=true) (hn:n≤1000000) (hb:bytes≤1000) (hbase:base≤w.heap.size)
  (hk:∀ g cap w',w'.ownsRow base e size (.slice (some ⟨g,0,none⟩) (n+1) cap) (n+1) (xs ++ news)→Below base w w'→w.heap.size≤w'.heap.size→w.grownBy w' v.ownBlock→(v.ownBlock=some g∨w.heap.size≤g)→wpList P ops Q rest (a.put o.dst (.slice (some ⟨g,0,none⟩) (n+1) cap)) w') :
  wpList P ops Q (o :: rest) a (w.alloc (.cells news.toArray e)):=by
 refine wpList_append_lies _ hgd s x t ho base e i z size bytes ht hi hz hsize hby hzs hsz v n xs hs (hown.alloc _) ⟨w.heap.size,0,none⟩ 1 1 news hx (by omega) (zapY w news e) h1 (by decide) (by unfold maxLen;omega) ?_ (by simp;omega) _ rfl ?_
 ·have:(n+1) * bytes≤1000001 * 1000:=Nat.mul_le_mul (by omega) hb
  omega
 ·intro g cap w' hown' hg hat _
  have hg':w.grownBy w' v.ownBlock:=(World.grownBy_alloc w _ _).trans hg;refine hk g cap w' hown' ((Below.refl _ _).grown hg' hbase ?_) hg'.size hg' ?_
  ·intro k hkk
   exact (hown.lt k hkk).1
  ·rcases hat with h | h
   ·exact .inl h
   ·right;rw [h];simp
end
theorem two_step {w w1:World} {b e sz n m g:Nat} {s h:Value} {xs ys:List Value} (hs:w.ownsRow b e sz s n xs) (hh:w.ownsRow b e sz h m ys) (ap:∀ k,s.ownBlock=some k→h.ownBlock≠some k) (hg:w.grownBy w1 s.ownBlock) (ha:s.ownBlock=some g∨w.heap.size≤g):w1.ownsRow b e sz h m ys∧h.ownBlock≠some g:=by
 refine ⟨own_grown hh hg (fun k hk e=>ap k hk e.symm),fun e=>?_⟩
 rcases ha with h1 | h1
 ·exact ap g h1 e
 ·have:=(hh.lt g e).2
  omega
def szV (l:List NodeD) (n:Nat):List Value:=(List.range n).map fun q=>Value.int .i64 (sz0 l q:Nat)
def htV (l:List NodeD) (n:Nat):List Value:=(List.range n).map fun q=>Value.int .i64 (nestF l 600 q:Nat)
theorem szV_succ (l:List NodeD) (n:Nat):szV l (n+1)=szV l n ++ [.int .i64 (sz0 l n:Nat)]:=by simp [szV,List.range_succ]
theorem htV_succ (l:List NodeD) (n:Nat):htV l (n+1)=htV l n ++ [.int .i64 (nestF l 600 n:Nat)]:=by simp [htV,List.range_succ]
structure MeaS (l:List NodeD) (w0 w:World) (n:Nat) (sv hv:Value):Prop where
 s:w.ownsRow w0.heap.size 3 1 sv n (szV l n)
 h:w.ownsRow w0.heap.size 3 1 hv n (htV l n)
 ap:∀ g,sv.ownBlock=some g→hv.ownBlock≠some g
 bel:Below w0.heap.size w0 w
theorem MeaS.below {l:List NodeD} {w0 w w':World} {n:Nat} {sv hv:Value} (h:MeaS l w0 w n sv hv) (hb:Below w.heap.size w w'):MeaS l w0 w' n sv hv:=⟨zagZ h.s hb,zagZ h.h hb,h.ap,zaaZ hb h.bel h.bel.size⟩
theorem MeaS.start (l:List NodeD) (w:World):MeaS l w ((w.alloc (.cells #[] 3)).alloc (.cells #[] 3)) 0 (.slice (some ⟨w.heap.size,0,none⟩) 0 0) (.slice (some ⟨w.heap.size+1,0,none⟩) 0 0):=by
 refine ⟨(own_empty w 3 1).alloc _,?_,fun g h e=>?_,zauY w _ _⟩
 ·have:=own_base (own_empty (w.alloc (.cells #[] 3)) 3 1) (base':=w.heap.size) (by simp)
  simpa [szV,htV] using this
 ·have h1:w.heap.size=g:=by simpa [Value.ownBlock] using h
  have h2:w.heap.size+1=g:=by simpa [Value.ownBlock] using e
  omega
theorem own_atU {w:World} {base n:Nat} {e:TypeId} {v:Value} {xs:List Value} (h:w.ownsRow base e 1 v n xs) (k:Nat) {x:Value} (hx:xs[k]? = some x) (hk:k<n):∃ g cap,v=.slice (some ⟨g,0,none⟩) n cap∧w.cell? ⟨g,k,none⟩=some x:=by
 obtain ⟨g,cap,rfl,_,_⟩:=h.form (by omega);refine ⟨g,cap,rfl,?_⟩
 have:=h.cells (g:=g) rfl k x hx
 rwa [za6Y,Nat.zero_add] at this
theorem MeaS.sat {l:List NodeD} {w0 w:World} {n:Nat} {sv hv:Value} (h:MeaS l w0 w n sv hv) {q:Nat} (hq:q<n):∃ g cap,sv=.slice (some ⟨g,0,none⟩) n cap∧w.cell? ⟨g,q,none⟩=some (.int .i64 (sz0 l q:Nat)) :=
 own_atU h.s q (by simp [szV,hq]) hq
theorem MeaS.hat {l:List NodeD} {w0 w:World} {n:Nat} {sv hv:Value} (h:MeaS l w0 w n sv hv) {q:Nat} (hq:q<n):∃ g cap,hv=.slice (some ⟨g,0,none⟩) n cap∧w.cell? ⟨g,q,none⟩=some (.int .i64 (nestF l 600 q:Nat)) :=
 own_atU h.h q (by simp [htV,hq]) hq
def topM (n:NodeD) (h:Nat→Nat) (k:Nat):Nat:=(n.kids.drop k).foldr (fun x m=>max m (h x.toNat)) 0
theorem topM_step {n:NodeD} {h:Nat→Nat} {k:Nat} (hk:k<n.kids.length):topM n h k=max (topM n h (k+1)) (h (n.kids[k]).toNat):=by
 unfold topM;rw [List.drop_eq_getElem_cons hk,List.foldr_cons]
theorem foldr_max {h:Int→Nat}:∀ (r:List Int) (a:Nat),r.foldl (fun m x=>max m (h x)) a=max a (r.foldr (fun x m=>max m (h x)) 0)
 | [],a=>by simp
 | x :: r,a=>by
  rw [List.foldl_cons,List.foldr_cons,foldr_max r];omega
theorem nestF_le (l:List NodeD):∀ f q,nestF l f q≤f
 | 0,q=>Nat.le_refl _
 | f+1,q=>by
  simp only [nestF];rw [foldr_max]
  have:∀ (r:List Int),r.foldr (fun x m=>max m (nestF l f x.toNat)) 0≤f:=by
   intro r;induction r with
   | nil=>exact Nat.zero_le _
   | cons x r ih=>rw [List.foldr_cons];have:=nestF_le l f x.toNat;omega
  have:=this (l.getD q noNode).kids
  omega
theorem kidsM_in {n:NodeD} {low:Nat} {sz:Nat→Nat}:∀ k a b,k≤n.kids.length→kidsM n low sz k a=some b→∀ j (h:j<k),(low:Int)≤n.kids.getD j (-1)∧n.kids.getD j (-1)<a:=by
 intro k;induction k with
 | zero=>intro a b _ _ j h;omega
 | succ k ih =>
  intro a b hl h j hj;simp only [kidsM] at h;split at h
  ·cases h
  ·rename_i hc
   rw [not_or] at hc;obtain ⟨h1,h2⟩:=hc;have h1:n.kids.getD k (-1)=(a:Int) - 1:=Classical.byContradiction h1;by_cases e:j=k
   ·subst e;omega
   ·obtain ⟨h3,h4⟩:=ih _ _ (by omega) h j (by omega)
    exact ⟨h3,by omega⟩
theorem nestF_succ (l:List NodeD) (f i:Nat):nestF l (f+1) i=(l.getD i noNode).kids.foldl (fun m k=>max m (nestF l f k.toNat)) 0+1:=rfl
theorem nest_topG {l:List NodeD} {low i a:Nat} (g:Nat) (hg:i<g+1) (hi:i<600) (hlow:low≤i) (ho:∀ q,low≤q→q<i→okM l low q) (hk:kidsM (l.getD i noNode) low (sz0 l) (l.getD i noNode).kids.length i=some a):nestF l (g+1) i=topM (l.getD i noNode) (nestF l (g+1)) 0+1:=by
 have hin:=kidsM_in _ _ _ (Nat.le_refl _) hk
 have h9:∀ x∈(l.getD i noNode).kids,nestF l g x.toNat=nestF l (g+1) x.toNat:=by
  intro x hx;obtain ⟨j,hj,rfl⟩:=List.mem_iff_getElem.1 hx;obtain ⟨h1,h2⟩:=hin j hj;rw [List.getD_eq_getElem?_getD,List.getElem?_eq_getElem hj,Option.getD_some] at h1 h2;obtain ⟨q,hq⟩:∃ q:Nat,(l.getD i noNode).kids[j]=q:=⟨((l.getD i noNode).kids[j]).toNat,by omega⟩
  rw [hq] at h1 h2 ⊢;rw [Int.toNat_natCast];obtain ⟨s,hs,_⟩:=ho q (by omega) (by omega);exact nest_eq g (g+1) q s 600 (by omega) (by omega) hs
 rw [nestF_succ,foldr_max,Nat.zero_max];unfold topM;rw [List.drop_zero];congr 1
 revert h9
 generalize (l.getD i noNode).kids=r;intro h9;induction r with
 | nil=>rfl
 | cons x r ih =>
  rw [List.foldr_cons,List.foldr_cons,ih (fun y hy=>h9 y (List.mem_cons_of_mem _ hy)),h9 x (List.mem_cons_self ..)]
theorem nest_top {l:List NodeD} {low i a:Nat} (hi:i<600) (hlow:low≤i) (ho:∀ q,low≤q→q<i→okM l low q) (hk:kidsM (l.getD i noNode) low (sz0 l) (l.getD i noNode).kids.length i=some a):nestF l 600 i=topM (l.getD i noNode) (nestF l 600) 0+1:=nest_topG 599 (by omega) hi hlow ho hk
end
section
theorem keyAt {w:World} {A:Option Addr} {n cap:Nat} {l:List ByteArray} (h:KeysV w (.slice A n cap) l) {i:Nat} (hi:i<l.length):∃ b off,A=some ⟨b,off,none⟩∧w.cell? ⟨b,off+i,none⟩=some (.string l[i]):=by
 obtain ⟨A',cap',e,_,hs⟩:=h;injection e with e1 _ _
 subst e1;obtain ⟨b,off,rfl,_⟩:=hs.ptr hi
 have:=hs.cell0 hi (v:=.string l[i]) rfl
 exact ⟨b,off,rfl,by simpa using this⟩
theorem zasY {l:List NodeD} {f:FuncD} {s:Nat} (h:funcB l f s=true):nameB f.name=true∧(∀ x∈f.params,nameB x=true)∧(s:Int)≤f.body∧f.body<l.length∧(l.getD f.body.toNat noNode).kind=19∧firstF l 600 f.body.toNat=some s:=by
 unfold funcB at h;simp only [Bool.and_eq_true,decide_eq_true_eq,List.all_eq_true] at h;obtain ⟨⟨h1,h2⟩,h3,h4,h5,h6⟩:=h;exact ⟨h1,h2,h3,h4,h5,h6⟩
theorem funcB_mk {l:List NodeD} {f:FuncD} {s:Nat} (h1:nameB f.name=true) (h2:∀ x∈f.params,nameB x=true) (h3:(s:Int)≤f.body) (h4:f.body<l.length) (h5:(l.getD f.body.toNat noNode).kind=19) (h6:firstF l 600 f.body.toNat=some s):funcB l f s=true:=by
 unfold funcB;simp only [Bool.and_eq_true,decide_eq_true_eq,List.all_eq_true];exact ⟨⟨h1,h2⟩,h3,h4,h5,h6⟩
theorem cellK {w w':World} {b off:Nat} {u:Value} (h:w.cell? ⟨b,off,none⟩=some u) (hb:Below w.heap.size w w'):w'.cell? ⟨b,off,none⟩=some u:=(hb.cell (bLZ h)).trans h
def MeaR (p:ProgD) (w:World) (e:Ending) (w':World):Prop:=∃ sv hv,e=.returned (.tuple #[sv,hv,.bool (orderedB p)])∧Below w.heap.size w w'∧(orderedB p=true→w'.ownsRow w.heap.size 3 1 hv p.nodes.length (htV p.nodes p.nodes.length))
attribute [local go_sem] zabZ
set_option maxHeartbeats 32000000 in
theorem measure8_s (S:ProgS) (w:World) (hS:ProgV w S) (hok:ProgOk S.p) (hn6:S.p.nodes.length≤600) (hf16:S.p.funcs.length≤16) :
  Calls prog 78 #[S.val] w (MeaR S.p w):=by
 obtain ⟨P,hP⟩:∃ P:Ending→World→Prop,MeaR S.p w=P:=⟨_,rfl⟩
 rw [hP];have HP:=hZz hP;obtain ⟨W0,hW0⟩:∃ W,w.alloc (.cells #[.slice S.A S.p.nodes.length S.ncap,.slice S.B S.p.funcs.length S.fcap] 25)=W:=⟨_,rfl⟩
 obtain ⟨gp,hgp⟩:∃ g,w.heap.size=g:=⟨_,rfl⟩
 have hb0:Below w.heap.size w W0:=by rw [← hW0];exact zacZ _ _
 have HX0:Hid (Blk W0 gp 25 #[.slice S.A S.p.nodes.length S.ncap,.slice S.B S.p.funcs.length S.fcap]):=hZz (by rw [← hW0,← hgp];exact Blk.new _ _ _);have HB0:=hZz hb0;have HS:=hZz (hS.below hb0);have HST:=hZz (MeaS.start S.p.nodes W0);have HW0:=hZz hW0;have HGP:=hZz hgp;have HNO:=hZz hok.nodes;have HFN:=hZz hok.fn;obtain ⟨L,hL⟩:∃ L,S.p.nodes=L:=⟨_,rfl⟩
 obtain ⟨FS,hFS⟩:∃ L,S.p.funcs=L:=⟨_,rfl⟩
 have HOB:Hid (orderedB S.p=decide (orderedF L FS 0=some L.length)):=hZz (by unfold orderedB;rw [hL,hFS])
 have HFAIL:Hid (orderedB S.p=false→∀ w',Below W0.heap.size W0 w'→P (.returned (.tuple #[.slice none 0 0,.slice none 0 0,.bool false])) w'):=hZz (fun h w' hb=>by
  rw [← HP.out];exact ⟨_,_,by rw [h],zahZ hb hb0,fun h2=>by rw [h] at h2;cases h2⟩)
 have HDONE:Hid (∀ sv hv w' s,MeaS L W0 w' s sv hv→orderedF L FS 0=some s→P (.returned (.tuple #[sv,hv,.bool (decide ((s:Int)=(L.length:Int)))])) w'):=hZz (fun sv hv w' s hm ho=>by
  rw [← HP.out]
  have e1:orderedB S.p=decide ((s:Int)=(L.length:Int)):=by
   rw [HOB.out,ho,Bool.eq_iff_iff];simp only [decide_eq_true_eq,Option.some.injEq];omega
  refine ⟨sv,hv,by rw [e1],zahZ hm.bel hb0,fun h2=>?_⟩
  rw [e1] at h2;have e2:s=L.length:=by have:=of_decide_eq_true h2;omega
  rw [hL,← e2];exact own_base hm.h hb0.size)
 unfold ProgS.val;rw [hL] at HX0 HNO HST hW0 hn6 ⊢;rw [hFS] at HX0 HFN hf16 hW0 ⊢;have HPN:Hid (NodesV W0 (.slice S.A L.length S.ncap) L):=hZz (by have:=HS.out.nodes;rwa [hL] at this);have HPF:Hid (FuncsV W0 (.slice S.B FS.length S.fcap) FS):=hZz (by have:=HS.out.funcs;rwa [hFS] at this);have HW0:=hZz hW0;obtain ⟨nn,hnn⟩:∃ t,L.length=t:=⟨_,rfl⟩
 obtain ⟨nf,hnf⟩:∃ t,FS.length=t:=⟨_,rfl⟩
 have HNN:=hZz hnn;have HNF:=hZz hnf;rw [hnn] at HX0 HW0 hn6 HDONE HOB ⊢;rw [hnf] at HX0 HW0 hf16 ⊢;obtain ⟨AA,hAA⟩:∃ t,S.A=t:=⟨_,rfl⟩
 obtain ⟨BB,hBB⟩:∃ t,S.B=t:=⟨_,rfl⟩
 obtain ⟨ca,hca⟩:∃ t,S.ncap=t:=⟨_,rfl⟩
 obtain ⟨cb,hcb⟩:∃ t,S.fcap=t:=⟨_,rfl⟩
 rw [hAA,hca] at HPN;rw [hBB,hcb] at HPF;rw [hAA,hBB,hca,hcb] at HX0 HW0 ⊢;obtain ⟨i1,hj,hy0,hy1,hy2⟩:=info_parts Tryz.infoIntS;have HNX:Hid (∀ q (h:q<L.length),∃ b off kA kc iA ic,AA=some ⟨b,off,none⟩∧b<W0.heap.size∧W0.cell? ⟨b,off+q * 5,none⟩=some (.int .i64 (L[q]).kind)∧W0.cell? ⟨b,off+q * 5+1,none⟩=some (.string (L[q]).text)∧W0.cell? ⟨b,off+q * 5+2,none⟩=some (.int .i64 (L[q]).int)∧W0.cell? ⟨b,off+q * 5+3,none⟩=some (.slice kA (L[q]).keys.length kc)∧W0.cell? ⟨b,off+q * 5+4,none⟩=some (.slice iA (L[q]).kids.length ic)∧KeysV W0 (.slice kA (L[q]).keys.length kc) (L[q]).keys∧IntsV W0 (.slice iA (L[q]).kids.length ic) (L[q]).kids):=hZz (fun q h=>zalY HPN.out h);clear hP hS hok hb0 hW0 hgp hL hFS hnn hnf hAA hBB hca hcb HS;go_enter func78,ntmps78
 go_upto_region 1 with fail
 rw [HGP.out,HW0.out];clear HW0;have x0:=blk2 HX0.out;go_wp2_with (fail)
 clear x0;go_loopw [5,6,7,8,9,10,11,12,13,14,15] (fun sv hv lv fv _ _ _ _ _ _ _ wr=>∃ F s:Nat,F≤nf∧fv=.int .i64 F∧lv=.int .i64 s∧s≤nn∧Hid (orderedF L FS 0=orderedF L (FS.drop F) s)∧Hid (MeaS L W0 wr s sv hv)) (fun _ _ _ fv _ _ _ _ _ _ _ _=>nf - (intOf fv).toNat)
 case atStart=>exact ⟨0,0,Nat.zero_le _,rfl,rfl,Nat.zero_le _,hZz rfl,HST⟩
 case round =>
  obtain ⟨F,s,hF,rfl,rfl,hs,HO,HM⟩:=hrel;have hF0:(0:Int)≤(F:Int):=by omega
  have hs0:(0:Int)≤(s:Int):=by omega
  have HBL:=hZz HM.out.bel;have x1:=blk2 (HX0.out.below HBL.out);clear HST;by_cases hlt:F<nf
  case neg =>
   have e:F=nf:=by omega
   subst e;have HOE:Hid (orderedF L FS 0=some s):=hZz (by rw [HO.out,List.drop_of_length_le (by rw [HNF.out];exact Nat.le_refl _)];rfl);have hlt':¬ (F:Int)<(F:Int):=by omega
   clear hlt HO;go_upto_region 35 with fail
   go_region
   all_goals
    go_wp2_with (fail)
    refine HDONE.out _ _ _ _ ?_ HOE.out
    first
     | exact HM.out
     | exact HM.out.below (zadZ _)
  have hlt':(F:Int)<(nf:Int):=by omega
  have hFl:F<FS.length:=by rw [HNF.out];exact hlt
  obtain ⟨bF,oF,kA,kc,hBB,hbF,f0,f1,f2,hkv⟩:=zakY HPF.out hFl;subst hBB;have hfn:=HFN.out FS[F] (List.getElem_mem hFl);have HO2:Hid (orderedF L FS 0=if funcB L FS[F] s=true then orderedF L (FS.drop (F+1)) (FS[F].body.toNat+1) else none):=hZz (by rw [HO.out,List.drop_eq_getElem_cons hFl];rfl);obtain ⟨fd,hfd⟩:∃ t,FS[F]=t:=⟨_,rfl⟩
  rw [hfd] at f0 f1 f2 hkv hfn HO2
  have HBADF:Hid (funcB L fd s=false→orderedB S.p=false):=hZz (fun h=>by
   rw [HOB.out,HO2.out,h];rfl)
  clear hfd hFl HO;obtain ⟨nm,pa,bd⟩:=fd;dsimp only at f0 f1 f2 hkv hfn HO2;have HF0:=hZz f0;have HF1:=hZz f1;have HF2:=hZz f2;have g0:=cellK f0 HBL.out;have g1:=cellK f1 HBL.out;have g2:=cellK f2 HBL.out;obtain ⟨hnz,hpl,hpz⟩:=hfn;have HPZ:=hZz hpz;have HKV:=hZz hkv;clear f0 f1 f2 hkv hpz;by_cases hb1:bd<(s:Int)
  ·have HFF:Hid (orderedB S.p=false):=hZz (HBADF.out (by
    rw [← Bool.not_eq_true];intro h;have:=(zasY h).2.2.1;dsimp only at this;omega))
   go_wp2_with (fail)
   exact HFAIL.out HFF.out _ HBL.out
  by_cases hb2:(nn:Int)≤bd
  ·have HFF:Hid (orderedB S.p=false):=hZz (HBADF.out (by
    rw [← Bool.not_eq_true];intro h;have:=(zasY h).2.2.2.1;have:=HNN.out;dsimp only at *;omega))
   go_wp2_with (fail)
   exact HFAIL.out HFF.out _ HBL.out
  obtain ⟨B,rfl⟩:∃ B:Nat,bd=(B:Int):=⟨bd.toNat,by omega⟩
  have hsB:s≤B:=by omega
  have hBn:B<nn:=by omega
  have hBl:B<L.length:=by rw [HNN.out];exact hBn
  obtain ⟨bN,oN,hAA,cz⟩:∃ b off,AA=some ⟨b,off,none⟩∧W0.cell? ⟨b,off+B * 5,none⟩=some (.int .i64 (L[B]).kind):=by
   obtain ⟨b,off,_,_,_,_,h1,_,h2,_⟩:=HNX.out B hBl;exact ⟨b,off,h1,h2⟩
  subst hAA;have c0:=cellK cz HBL.out;clear cz;have hB0:(0:Int)≤(B:Int):=by omega
  have hBI:(B:Int)<(nn:Int):=by omega
  have HKB:Hid ((L.getD B noNode).kind=L[B].kind):=hZz (by rw [zaiZ hBl]);obtain ⟨kB,hkB⟩:∃ t,L[B].kind=t:=⟨_,rfl⟩
  rw [hkB] at c0 HKB;clear hkB hBl;by_cases hk19:kB=19
  case neg =>
   have HFF:Hid (orderedB S.p=false):=hZz (HBADF.out (by
    rw [← Bool.not_eq_true];intro h;have:=(zasY h).2.2.2.2.1;dsimp only at this;rw [Int.toNat_natCast,HKB.out] at this;exact hk19 this))
   have hk19':(kB != 19)=true:=by simpa using hk19
   clear hk19;go_wp2_with (fail)
   exact HFAIL.out HFF.out _ HBL.out
  subst hk19;have HNM:=hZz (name8_s nm wr hnz);obtain ⟨tn,htn⟩:∃ t,nameB nm=t:=⟨_,rfl⟩
  rw [htn] at HNM;have HTN:=hZz htn;clear htn;cases tn with
  | false =>
   have HFF:Hid (orderedB S.p=false):=hZz (HBADF.out (by
    rw [← Bool.not_eq_true];intro h;have:=(zasY h).1;dsimp only at this;rw [HTN.out] at this;cases this))
   go_wp2_with (first
    | (go_at_call 125;(with_reducible refine HNM.out.mono ?_);rintro e w1 ⟨rfl,hb1⟩;have HB1:=hZz (zaaZ hb1 HBL.out HBL.out.size);clear hb1))
   exact HFAIL.out HFF.out _ HB1.out
  | true =>
  go_wp2_with (first
   | (go_at_call 125;(with_reducible refine HNM.out.mono ?_);rintro e w1 ⟨rfl,hb1⟩;have HB1:=hZz (zaaZ hb1 HBL.out HBL.out.size);have HM1:=hZz (HM.out.below hb1);clear hb1))
  clear x1 g0 g1 g2 c0 HNM HM HBL;obtain ⟨np,hnp⟩:∃ t,pa.length=t:=⟨_,rfl⟩
  have HNP:=hZz hnp;rw [hnp] at HF1 HKV hpl;clear hnp;go_loopw [10] (fun pv wq=>∃ q:Nat,q≤np∧pv=.int .i64 q∧Hid (∀ x∈pa.take q,nameB x=true)∧Hid (Below w1.heap.size w1 wq)) (fun pv _=>np - (intOf pv).toNat)
  case atStart=>exact ⟨0,Nat.zero_le _,rfl,hZz (by simp),hZz (Below.refl _ _)⟩
  case round =>
   obtain ⟨q,hq,rfl,HQ,HBQ⟩:=hrel;have hq0:(0:Int)≤(q:Int):=by omega
   have HBW:=hZz (zaaZ HBQ.out HB1.out HB1.out.size);have y1:=blk2 (HX0.out.below HBW.out);have g1:=cellK HF1.out HBW.out;by_cases hqp:q<np
   ·have hqp':(q:Int)<(np:Int):=by omega
    have hql:q<pa.length:=by rw [HNP.out];exact hqp
    obtain ⟨bK,oK,hkA,cz⟩:=keyAt HKV.out hql;subst hkA;have ck:=cellK cz HBW.out;clear cz;have HNM:=hZz (name8_s pa[q] wr (HPZ.out _ (List.getElem_mem hql)))
    have HQ2:Hid (nameB pa[q]=true→∀ x∈pa.take (q+1),nameB x=true):=hZz (fun h x hx=>by
     rw [List.take_succ_eq_append_getElem hql] at hx;rcases List.mem_append.1 hx with hx | hx
     ·exact HQ.out x hx
     ·simp at hx;subst hx;exact h)
    have HQ3:Hid (nameB pa[q]=false→orderedB S.p=false):=hZz (fun h2=>HBADF.out (by
     rw [← Bool.not_eq_true];intro h;have:=(zasY h).2.1 _ (List.getElem_mem hql);rw [h2] at this;cases this))
    obtain ⟨tx,htx⟩:∃ t,pa[q]=t:=⟨_,rfl⟩
    rw [htx] at ck HNM HQ2 HQ3;obtain ⟨tn,htn⟩:∃ t,nameB tx=t:=⟨_,rfl⟩
    rw [htn] at HNM HQ2 HQ3;clear htx htn hql;cases tn with
    | false =>
     go_wp2_with (first
      | (go_at_call 125;(with_reducible refine HNM.out.mono ?_);rintro e w3 ⟨rfl,hb3⟩;have HB3:=hZz (zaaZ hb3 HBW.out HBW.out.size);clear hb3))
     exact HFAIL.out (HQ3.out (by trivial)) _ HB3.out
    | true =>
     go_wp2_with (first
      | (go_at_call 125;(with_reducible refine HNM.out.mono ?_);rintro e w3 ⟨rfl,hb3⟩;have HB3:=hZz (zaaZ hb3 HBQ.out HBQ.out.size);clear hb3))
     exact ⟨⟨q+1,hqp,by simp,hZz (HQ2.out (by trivial)),HB3⟩,by simp [intOf];omega⟩
   have eq:q=np:=by omega
   subst eq;have HPA:Hid (∀ x∈pa,nameB x=true):=hZz (by have:=HQ.out;rwa [List.take_of_length_le (by rw [HNP.out];exact Nat.le_refl _)] at this);have HMQ:=hZz (HM1.out.below HBQ.out);have hlt9:¬ (q:Int)<(q:Int):=by omega
   clear hqp HQ;go_wp2_with (fail)
   clear y1 g1;go_loopw [5,6,11,12,13,14,15] (fun sv hv iv _ _ _ _ wi=>∃ i:Nat,s≤i∧i≤B+1∧iv=.int .i64 i∧Hid (∀ q,s≤q→q<i→okM L s q)∧Hid (MeaS L W0 wi i sv hv)) (fun _ _ iv _ _ _ _ _=>B+1 - (intOf iv).toNat)
   case atStart=>exact ⟨s,Nat.le_refl _,by omega,rfl,hZz (fun q h1 h2=>by omega),HMQ⟩
   case round =>
    obtain ⟨i,hsi,hiB,rfl,HOK,HMI⟩:=hrel;have hi0:(0:Int)≤(i:Int):=by omega
    have HBI:=hZz HMI.out.bel;have z1:=blk2 (HX0.out.below HBI.out);by_cases hle:i≤B
    case neg =>
     have ei:i=B+1:=by omega
     subst ei;have hle':¬ ((B+1:Nat):Int)≤(B:Int):=by omega
     obtain ⟨gS,cS,hsv,cs⟩:=HMI.out.sat (q:=B) (by omega);subst hsv;obtain ⟨z,hz⟩:∃ t,sz0 L B=t:=⟨_,rfl⟩
     have HZ:=hZz hz;rw [hz] at cs;have hw1:IntKind.i64.wrap ((B:Int) - (s:Int))=(B:Int) - (s:Int):=IntWalk.i64_in _ (by omega);have hw2:IntKind.i64.wrap ((B:Int) - (s:Int)+1)=(B:Int) - (s:Int)+1:=IntWalk.i64_in _ (by omega);have hw3:IntKind.i64.wrap ((B:Int)+1)=(B:Int)+1:=IntWalk.i64_in _ (by omega);have hw4:IntKind.i64.wrap ((F:Int)+1)=(F:Int)+1:=IntWalk.i64_in _ (by omega);have hB1:(B:Int)<((B+1:Nat):Int):=by omega
     clear hz hle;by_cases hzz:z=B - s+1
     ·have hz2:(((z:Nat):Int) != (B:Int) - (s:Int)+1)=false:=by simp;omega
      have HO3:Hid (orderedF L FS 0=orderedF L (FS.drop (F+1)) (B+1)):=hZz (by
       rw [HO2.out,if_pos (funcB_mk HTN.out HPA.out (by dsimp only;omega) (by dsimp only;rw [HNN.out];omega) (by dsimp only;rw [Int.toNat_natCast];exact HKB.out) (by dsimp only;rw [Int.toNat_natCast];exact (range_iff hsB).2 ⟨fun q h1 h2=>HOK.out q h1 (by omega),by rw [HZ.out];exact hzz⟩))];rfl)
      clear hzz;go_wp2_with (fail)
      exact ⟨⟨F+1,B+1,hlt,by simp,by simp,by omega,HO3,HMI⟩,by simp [intOf];omega⟩
     ·have hz2:(((z:Nat):Int) != (B:Int) - (s:Int)+1)=true:=by simp;omega
      have HFF:Hid (orderedB S.p=false):=hZz (HBADF.out (by
       rw [← Bool.not_eq_true];intro h;have:=(zasY h).2.2.2.2.2;dsimp only at this;rw [Int.toNat_natCast] at this;have:=((range_iff hsB).1 this).2;rw [HZ.out] at this;exact hzz this))
      clear hzz;go_wp2_with (fail)
      exact HFAIL.out HFF.out _ HBI.out
    have hil:i<L.length:=by rw [HNN.out];omega
    obtain ⟨b',o',kA',kc',iA,ic,hAA',hbN',d0,d1,d2,d3,d4,hkv',hiv⟩:=HNX.out i hil;injection hAA' with hAA'
    injection hAA' with e1 e2 _
    subst e1 e2;have hmem:=List.getElem_mem hil;obtain ⟨hkl,hql⟩:=HNO.out.kids _ hmem;obtain ⟨htz,hkz⟩:=HNO.out.text _ hmem;have HGD:Hid (L.getD i noNode=L[i]):=hZz (zaiZ hil _);have HOI:Hid (okM L s i↔∃ a,nodeM L s (sz0 L) i=some a):=hZz (okM_iff (by omega) hsi HOK.out);have HMZ:Hid (∀ a,nodeM L s (sz0 L) i=some a→sz0 L i=i+1 - a∧s≤a∧a≤i):=hZz (fun a h=>nodeM_sz (by omega) hsi HOK.out h);have HNT:Hid (∀ a,kidsM (L.getD i noNode) s (sz0 L) (L.getD i noNode).kids.length i=some a→nestF L 600 i=topM (L.getD i noNode) (nestF L 600) 0+1):=hZz (fun a h=>nest_top (by omega) hsi HOK.out h);obtain ⟨n,hn⟩:∃ t,L[i]=t:=⟨_,rfl⟩
    rw [hn] at d0 d1 d2 d3 d4 hkv' hiv hkl hql htz hkz HGD;rw [HGD.out] at HNT;have HNM2:Hid (nodeM L s (sz0 L) i=if fieldsB n=true∧partsB L n=true then kidsM n s (sz0 L) n.kids.length i else none):=hZz (by unfold nodeM;rw [HGD.out])
    have HBADN:Hid (nodeM L s (sz0 L) i=none→orderedB S.p=false):=hZz (fun h=>HBADF.out (by
     rw [← Bool.not_eq_true];intro h2;have h3:=(zasY h2).2.2.2.2.2;dsimp only at h3;rw [Int.toNat_natCast] at h3;obtain ⟨a,ha⟩:=HOI.out.1 (((range_iff hsB).1 h3).1 i hsi hle);rw [h] at ha;cases ha))
    have HFL:Hid (∀ wx,Below W0.heap.size W0 wx→Calls prog 126 #[.agg (nodeC n kA' kc' iA ic)] wx fun e w'=>e=.returned (.bool (fieldsB n))∧Below wx.heap.size wx w'):=hZz (fun wx hb=>fields8_s n kA' iA kc' ic wx (hkv'.below hb) htz (by omega) hkz)
    have HPT:Hid ((∀ x∈n.kids,0≤x∧x<L.length)→∀ wx,Below W0.heap.size W0 wx→Calls prog 127 #[.slice (some ⟨bN,oN,none⟩) L.length ca,.agg (nodeC n kA' kc' iA ic)] wx fun e w'=>e=.returned (.bool (partsB L n))∧Below wx.heap.size wx w'):=hZz (fun hx wx hb=>by
     obtain ⟨A9,c9,e9,_,hs9⟩:=hiv.at;injection e9 with e9 _ _
     subst e9;exact parts8_s L _ ca n kA' iA kc' ic wx (HPN.out.below hb) (hs9.below hb) hx hkl (by rw [HNN.out];omega))
    rw [HNN.out] at HPT;have HIV:=hZz hiv;have HHI:=hZz (fun q (h:q<i)=>HMI.out.hat h);have HSI:=hZz (fun q (h:q<i)=>HMI.out.sat h);have HOZ:Hid (∀ q,s≤q→q<i→s+sz0 L q≤q+1∧1≤sz0 L q):=hZz (fun q h1 h2=>(HOK.out q h1 h2).sz.2);have d0:=cellK d0 HBI.out;have d1:=cellK d1 HBI.out;have d2:=cellK d2 HBI.out;have d3:=cellK d3 HBI.out;have d4:=cellK d4 HBI.out;obtain ⟨nk,hnk⟩:∃ x,n.kind=x:=⟨_,rfl⟩
    obtain ⟨nt,hnt⟩:∃ x,n.text=x:=⟨_,rfl⟩
    obtain ⟨ni,hni⟩:∃ x,n.int=x:=⟨_,rfl⟩
    obtain ⟨nq,hnq⟩:∃ x,n.keys.length=x:=⟨_,rfl⟩
    obtain ⟨m,hm⟩:∃ x,n.kids.length=x:=⟨_,rfl⟩
    rw [hnk] at d0;rw [hnt] at d1;rw [hni] at d2;rw [hnq] at d3;rw [hm] at d4 hkl;have HNC:Hid (nodeC n kA' kc' iA ic=#[.int .i64 nk,.string nt,.int .i64 ni,.slice kA' nq kc',.slice iA m ic]):=hZz (by unfold nodeC;rw [hnk,hnt,hni,hnq,hm]);rw [HNC.out] at HFL HPT;rw [hm] at HNM2 HNT;have HM:=hZz hm;obtain ⟨V,hV⟩:∃ W,wr.alloc (.cells #[.int .i64 nk,.string nt,.int .i64 ni,.slice kA' nq kc',.slice iA m ic] 58)=W:=⟨_,rfl⟩
    obtain ⟨gn,hgn⟩:∃ g,wr.heap.size=g:=⟨_,rfl⟩
    have hbV:Below wr.heap.size wr V:=by rw [← hV];exact zacZ _ _
    have HXV:Hid (Blk V gn 58 #[.int .i64 nk,.string nt,.int .i64 ni,.slice kA' nq kc',.slice iA m ic]):=hZz (by rw [← hV,← hgn];exact Blk.new _ _ _);have HBV:=hZz (zaaZ hbV HBI.out HBI.out.size);have HVW:=hZz hbV;have HV:=hZz hV;have HGN:=hZz hgn;have hiI:(i:Int)<(nn:Int):=by omega
    have hw5:IntKind.i64.wrap ((i:Int) - 1)=(i:Int) - 1:=IntWalk.i64_in _ (by omega);have hw6:IntKind.i64.wrap ((m:Int) - 1)=(m:Int) - 1:=IntWalk.i64_in _ (by omega);have hle2:(i:Int)≤(B:Int):=by omega
    clear hmem hil hn hnk hnt hni hnq hm hV hgn hbV htz hkz hql hkv' hiv;go_upto_region 19 with fail
    rw [HGN.out,HV.out];clear HV HGN z1 d0 d1 d2 d3 d4;have v0:=blk2 (HX0.out.below HBV.out);have v1:=blk5n HXV.out;go_wp2_with (fail)
    go_loopw [13,14,15] (fun av tv jv wx=>∃ k a t:Nat,k≤m∧jv=.int .i64 ((k:Int) - 1)∧av=.int .i64 ((a:Int) - 1)∧tv=.int .i64 t∧s≤a∧a≤i∧t≤600∧Hid (kidsM n s (sz0 L) m i=kidsM n s (sz0 L) k a)∧Hid (t=topM n (nestF L 600) k)∧wx=V) (fun _ _ jv _=>(intOf jv+1).toNat)
    case atStart=>exact ⟨m,i,0,Nat.le_refl _,rfl,rfl,rfl,hsi,Nat.le_refl _,Nat.zero_le _,hZz rfl,hZz (by unfold topM;rw [List.drop_of_length_le (by rw [HM.out];exact Nat.le_refl _)];rfl),rfl⟩
    case round =>
     obtain ⟨k,a,t,hkm,rfl,rfl,rfl,hsa,hai,ht6,HKM,HT,rfl⟩:=hrel;cases k with
     | zero =>
      have HKA:Hid (kidsM n s (sz0 L) m i=some a):=hZz (by rw [HKM.out];rfl);have HTOP:Hid (nestF L 600 i=t+1):=hZz (by rw [HNT.out a HKA.out,HT.out])
      have HKID:Hid (∀ x∈n.kids,0≤x∧x<(nn:Int)):=hZz (fun x hx=>by
       obtain ⟨j,hj,rfl⟩:=List.mem_iff_getElem.1 hx;obtain ⟨h1,h2⟩:=kidsM_in _ _ _ (Nat.le_of_eq HM.out.symm) HKA.out j (by rw [← HM.out];exact hj);rw [List.getD_eq_getElem?_getD,List.getElem?_eq_getElem hj,Option.getD_some] at h1 h2;omega)
      have HF9:=hZz (HFL.out _ HBV.out);have HP9:=hZz (HPT.out HKID.out)
      have HFD:Hid (fieldsB n=false∨partsB L n=false→orderedB S.p=false):=hZz (fun h=>HBADN.out (by
       rw [HNM2.out,if_neg];rintro ⟨h1,h2⟩;rcases h with h | h
       ·rw [h1] at h;cases h
       ·rw [h2] at h;cases h))
      have HGO:Hid (fieldsB n=true→partsB L n=true→(i:Int) - ((a:Int) - 1)=((sz0 L i:Nat):Int)∧okM L s i):=hZz (fun h1 h2=>by
       have h3:nodeM L s (sz0 L) i=some a:=by rw [HNM2.out,if_pos ⟨h1,h2⟩];exact HKA.out
       obtain ⟨h4,h5,h6⟩:=HMZ.out a h3;exact ⟨by rw [h4];omega,HOI.out.2 ⟨a,h3⟩⟩)
      have hw7:IntKind.i64.wrap ((i:Int) - ((a:Int) - 1))=(i:Int) - ((a:Int) - 1):=IntWalk.i64_in _ (by omega);have hw8:IntKind.i64.wrap ((t:Int)+1)=(t:Int)+1:=IntWalk.i64_in _ (by omega);have hw9:IntKind.i64.wrap ((i:Int)+1)=(i:Int)+1:=IntWalk.i64_in _ (by omega);obtain ⟨tf,htf⟩:∃ t,fieldsB n=t:=⟨_,rfl⟩
      obtain ⟨tp,htp⟩:∃ t,partsB L n=t:=⟨_,rfl⟩
      rw [htf] at HF9 HFD HGO;rw [htp] at HP9 HFD HGO;clear htf htp;cases tf with
      | false =>
       go_wp2_with (first
        | (go_at_call 126;(with_reducible refine HF9.out.mono ?_);rintro e w5 ⟨rfl,hb5⟩;have HB5:=hZz (zaaZ hb5 HBV.out HBV.out.size);clear hb5))
       exact HFAIL.out (HFD.out (.inl (by trivial))) _ HB5.out
      | true =>
      cases tp with
      | false =>
       go_wp2_with (first
        | (go_at_call 126;(with_reducible refine HF9.out.mono ?_);rintro e w5 ⟨rfl,hb5⟩;have HB5:=hZz (zaaZ hb5 HBV.out HBV.out.size);have v0:=blk2 (HX0.out.below HB5.out);have v1:=blk5n (HXV.out.below hb5);clear hb5)
        | (go_at_call 127;(with_reducible refine (HP9.out _ HB5.out).mono ?_);rintro e w6 ⟨rfl,hb6⟩;have HB6:=hZz (zaaZ hb6 HB5.out HB5.out.size);clear hb6))
       exact HFAIL.out (HFD.out (.inr (by trivial))) _ HB6.out
      | true =>
      obtain ⟨hzz,hokI⟩:=HGO.out rfl rfl;have HZZ:=hZz hzz
      have HOK2:Hid (∀ q,s≤q→q<i+1→okM L s q):=hZz (fun q h1 h2=>by
       by_cases e:q=i
       ·subst e;exact hokI
       ·exact HOK.out q h1 (by omega))
      clear hzz hokI
      go_wp2_with (first
       | (go_at_call 126;(with_reducible refine HF9.out.mono ?_);rintro e w5 ⟨rfl,hb5⟩;have HB5:=hZz (zaaZ hb5 HBV.out HBV.out.size);have HW5:=hZz (zaaZ hb5 HVW.out HVW.out.size);have v0:=blk2 (HX0.out.below HB5.out);have v1:=blk5n (HXV.out.below hb5);clear hb5)
       | (go_at_call 127;(with_reducible refine (HP9.out _ HB5.out).mono ?_);rintro e w6 ⟨rfl,hb6⟩;have HM6:=hZz (HMI.out.below (zaaZ hb6 HW5.out HW5.out.size));clear hb6 v0 v1)
       | (at_builtin;refine za9Y rfl (.tmp 137) (.tmp 141) 56 rfl i1 _ 8 underlying56 hj hy0 hy1 hy2 rfl (by omega) rfl HM6.out.s [.int .i64 ((i:Int) - ((a:Int) - 1))] rfl rfl (by simp [Value.oneCell']) (by omega) (by omega) HM6.out.bel.size ?_;intro gA cA w7 hown hb hsz hg hl;have HA7:=hZz hown;have HC7:=hZz (two_step HM6.out.s HM6.out.h HM6.out.ap hg hl);have HB7:=hZz (HM6.out.bel.trans hb);clear hown hb hsz hg hl)
       | (at_builtin;refine za9Y rfl (.tmp 143) (.tmp 146) 56 rfl i1 _ 8 underlying56 hj hy0 hy1 hy2 rfl (by omega) rfl HC7.out.1 [.int .i64 ((t:Int)+1)] rfl rfl (by simp [Value.oneCell']) (by omega) (by omega) HB7.out.size ?_;intro gB cB w8 hown hb hsz hg hl;have HA8:=hZz hown;have HC8:=hZz (two_step HC7.out.1 HA7.out (fun k h1 h2=>HC7.out.2 (by rw [h1];exact h2.symm ▸ rfl)) hg hl);have HB8:=hZz (HB7.out.trans hb);clear hown hb hsz hg hl))
      refine ⟨⟨i+1,by omega,by omega,by simp,HOK2,hZz ⟨?_,?_,?_,HB8.out⟩⟩,by simp [intOf];omega⟩
      ·rw [szV_succ,← HZZ.out];exact HC8.out.1
      ·rw [htV_succ,HTOP.out];exact HA8.out
      ·intro g h1 h2
       exact HC8.out.2 (by rw [h1,← h2];rfl)
     | succ k =>
      have ek:(((k+1:Nat):Int) - 1)=(k:Int):=by omega
      rw [ek];have hk0:(0:Int)≤(k:Int):=by omega
      have hkI:(k:Int)<(m:Int):=by omega
      have hkl2:k<n.kids.length:=by rw [HM.out];omega
      obtain ⟨bI,oI,hiA,_,ci⟩:=IntsV.cell HIV.out hkl2;subst hiA;have ci2:=cellK ci HBV.out;have HX9:Hid (n.kids.getD k (-1)=n.kids[k]):=hZz (zaiZ hkl2 _);have HT9:Hid (topM n (nestF L 600) k=max (topM n (nestF L 600) (k+1)) (nestF L 600 (n.kids[k]).toNat)):=hZz (topM_step hkl2);obtain ⟨x,hx⟩:∃ x,n.kids[k]=x:=⟨_,rfl⟩
      rw [hx] at ci2 HX9 HT9;clear ci hx hkl2;have HK1:Hid (kidsM n s (sz0 L) (k+1) a=if x≠(a:Int) - 1∨a<s+1 then none else kidsM n s (sz0 L) k (a - sz0 L (a - 1))):=hZz (by simp only [kidsM];rw [HX9.out]);have hw8:IntKind.i64.wrap ((k:Int) - 1)=(k:Int) - 1:=IntWalk.i64_in _ (by omega);by_cases hxa:x=(a:Int) - 1
      case neg =>
       have HFF:Hid (orderedB S.p=false):=hZz (HBADN.out (by
        rw [HNM2.out];split
        ·rw [HKM.out,HK1.out,if_pos (.inl hxa)]
        ·rfl))
       have hxa':(x != (a:Int) - 1)=true:=by simpa using hxa
       clear hxa;go_wp2_with (fail)
       exact HFAIL.out HFF.out _ HBV.out
      subst hxa;by_cases has:a<s+1
      ·have HFF:Hid (orderedB S.p=false):=hZz (HBADN.out (by
        rw [HNM2.out];split
        ·rw [HKM.out,HK1.out,if_pos (.inr has)]
        ·rfl))
       have has':((a:Int) - 1)<(s:Int):=by omega
       clear has;go_wp2_with (fail)
       exact HFAIL.out HFF.out _ HBV.out
      have HK2:Hid (kidsM n s (sz0 L) (k+1) a=kidsM n s (sz0 L) k (a - sz0 L (a - 1))):=hZz (by rw [HK1.out,if_neg (by rintro (h | h);exact h rfl;exact has h)]);obtain ⟨q,rfl⟩:∃ q,a=q+1:=⟨a - 1,by omega⟩
      have eq1:(((q+1:Nat):Int) - 1)=(q:Int):=by omega
      rw [eq1] at ci2 ⊢;rw [Nat.add_sub_cancel] at HK2;obtain ⟨z1,z2⟩:=HOZ.out q (by omega) (by omega);obtain ⟨gH,cH,hhv,ch⟩:=HHI.out q (by omega);obtain ⟨gS,cS,hsv,cs⟩:=HSI.out q (by omega);subst hhv hsv;have ch2:=cellK ch HVW.out;have cs2:=cellK cs HVW.out
      have HT8:Hid (topM n (nestF L 600) k=max t (nestF L 600 q)):=hZz (by
       have:=HT9.out
       rw [eq1,Int.toNat_natCast] at this;rw [this,HT.out])
      have hq6:=nestF_le L 600 q;obtain ⟨y,hy⟩:∃ t,nestF L 600 q=t:=⟨_,rfl⟩
      obtain ⟨z,hz⟩:∃ t,sz0 L q=t:=⟨_,rfl⟩
      rw [hy] at ch2 HT8 hq6;rw [hz] at cs2 z1 z2 HK2;have hw7:IntKind.i64.wrap ((q:Int) - (z:Int))=(q:Int) - (z:Int):=IntWalk.i64_in _ (by omega);have hqs:¬ (q:Int)<(s:Int):=by omega
      have hqi:(q:Int)<(i:Int):=by omega
      have hq0:(0:Int)≤(q:Int):=by omega
      clear has ch cs hy hz HT9 HK1 HX9 ek eq1;go_wp2_with (fail)
      refine ⟨⟨k,q+1 - z,max t y,by omega,rfl,?_,?_,by omega,by omega,by omega,hZz (by rw [HKM.out];exact HK2.out),hZz HT8.out.symm,by trivial⟩,by simp [intOf] <;> omega⟩
      ·congr 1;omega
      ·congr 1;omega
end
end Go.Proofs.YthiimbhjpdphpaaGreatDoor
