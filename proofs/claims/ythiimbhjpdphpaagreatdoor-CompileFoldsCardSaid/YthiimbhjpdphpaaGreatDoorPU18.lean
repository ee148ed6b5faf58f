/- U11, U14, U15, U16, U17, U18 -/
import Derived.Test.YthiimbhjpdphpaaGreatDoorPAX2
set_option linter.unusedVariables false
set_option linter.unusedSimpArgs false
namespace Go.Proofs.YthiimbhjpdphpaaGreatDoor
open Go.RowKit
set_option maxRecDepth 100000
set_option maxHeartbeats 8000000
open Go.Proofs.Tryz
section
theorem zc3Y {l:List NodeD}:∀ (fs:List FuncD) (s e:Nat),orderedF l fs s=some e→∀ f∈fs,0≤f.body∧f.body<l.length
 | [],_,_,_=>by simp
 | g :: r,s,e,h=>by
  simp only [orderedF] at h;split at h
  ·rename_i hg
   obtain ⟨_,_,h3,h4,_⟩:=zavY hg;intro f hf;rcases List.mem_cons.1 hf with rfl | hf
   ·exact ⟨by omega,h4⟩
   ·exact zc3Y r _ e h f hf
  ·cases h
theorem foldl_maxN {α:Type} {h:α→Nat}:∀ (r:List α) (a b:Nat),r.foldl (fun m x=>max m (h x)) a≤b↔(a≤b∧∀ x∈r,h x≤b)
 | [],a,b=>by simp
 | x :: r,a,b=>by
  rw [List.foldl_cons,foldl_maxN r];constructor
  ·rintro ⟨h1,h2⟩
   refine ⟨by omega,fun y hy=>?_⟩
   rcases List.mem_cons.1 hy with rfl | hy
   ·omega
   ·exact h2 y hy
  ·rintro ⟨h1,h2⟩
   have:=h2 x (List.mem_cons_self ..)
   exact ⟨by omega,fun y hy=>h2 y (List.mem_cons_of_mem _ hy)⟩
theorem deepF_le {p:ProgD} {b:Nat}:deepF p≤b↔∀ f∈p.funcs,nestF p.nodes 600 f.body.toNat≤b:=by
 unfold deepF;rw [foldl_maxN];exact ⟨fun h=>h.2,fun h=>⟨Nat.zero_le _,h⟩⟩
attribute [local go_sem] zacZ
set_option maxHeartbeats 16000000 in
theorem rsyntax_s (S:ProgS) (w:World) (hS:ProgV w S) (hok:ProgOk S.p) :
  Calls prog 51 #[S.val] w fun e w'=>e=.returned (.int .i64 (synF S.p))∧Below w.heap.size w w':=by
 obtain ⟨R,hR⟩:∃ R,synF S.p=R:=⟨_,rfl⟩
 rw [hR];obtain ⟨P,hP⟩:∃ P:Ending→World→Prop,(fun e w'=>e=.returned (.int .i64 R)∧Below w.heap.size w w')=P:=⟨_,rfl⟩
 rw [hP];have hR2:R=if 600<S.p.nodes.length∨16<S.p.funcs.length then 3 else if orderedB S.p=false then 1 else if (S.p.funcs.any fun f=>decide (8<f.params.length))=true∨32<deepF S.p then 3 else 0:=hR.symm
 have HR:=hZz hR2;have HP:Hid (∀ w' r,r=R→Below w.heap.size w w'→P (.returned (.int .i64 r)) w'):=hZz (fun w' r h1 h2=>by rw [← hP,h1];exact ⟨rfl,h2⟩);obtain ⟨W0,hW0⟩:∃ W,w.alloc (.cells #[.slice S.A S.p.nodes.length S.ncap,.slice S.B S.p.funcs.length S.fcap] 25)=W:=⟨_,rfl⟩
 obtain ⟨gp,hgp⟩:∃ g,w.heap.size=g:=⟨_,rfl⟩
 have hb0:Below w.heap.size w W0:=by rw [← hW0];exact zabZ _ _
 have HX0:Hid (Blk W0 gp 25 #[.slice S.A S.p.nodes.length S.ncap,.slice S.B S.p.funcs.length S.fcap]):=hZz (by rw [← hW0,← hgp];exact Blk.new _ _ _);have HB0:=hZz hb0;have HW0:=hZz hW0;have HGP:=hZz hgp;have HME:Hid (¬ (600<S.p.nodes.length∨16<S.p.funcs.length)→Calls prog 78 #[S.val] W0 (MeaR S.p W0)):=hZz (fun h=>measure8_s S W0 (hS.below hb0) hok (by omega) (by omega));have HFV:=hZz hS.funcs;obtain ⟨nn,hnn⟩:∃ t,S.p.nodes.length=t:=⟨_,rfl⟩
 obtain ⟨nf,hnf⟩:∃ t,S.p.funcs.length=t:=⟨_,rfl⟩
 have HNN:=hZz hnn;have HNF:=hZz hnf;obtain ⟨BB,hBB⟩:∃ t,S.B=t:=⟨_,rfl⟩
 unfold ProgS.val at HME ⊢;rw [hBB] at HX0 HFV HME HW0 ⊢;rw [hnn,hnf] at HX0 HME HR HW0 ⊢;have hl9:nn≤1000:=by rw [← hnn];exact hok.nodes.len
 have hf9:nf≤1000:=by rw [← hnf];exact hok.funcs
 clear hR hR2 hP hS hok hb0 hW0 hgp hnn hnf hBB;go_enter func51,ntmps51
 go_upto_region 1 with fail
 rw [HGP.out,HW0.out];clear HW0 HGP;have x0:=blk2 HX0.out;by_cases h6:600<nn
 ·have h6':(600:Int)<(nn:Int):=by omega
  have HRR:Hid (3=R):=hZz (by rw [HR.out,if_pos (.inl h6)]);clear h6 HR;go_wp2_with (fail)
  exact HP.out _ _ HRR.out HB0.out
 by_cases h16:16<nf
 ·have h6':¬ (600:Int)<(nn:Int):=by omega
  have h16':(16:Int)<(nf:Int):=by omega
  have HRR:Hid (3=R):=hZz (by rw [HR.out,if_pos (.inr h16)]);clear h6 h16 HR;go_wp2_with (fail)
  exact HP.out _ _ HRR.out HB0.out
 have h6':¬ (600:Int)<(nn:Int):=by omega
 have h16':¬ (16:Int)<(nf:Int):=by omega
 have HM:=hZz (HME.out (by omega));have hR3:=HR.out;rw [if_neg (by omega)] at hR3;have HR3:=hZz hR3;obtain ⟨ob,hob⟩:∃ t,orderedB S.p=t:=⟨_,rfl⟩
 have HOB:=hZz hob;unfold MeaR at HM;rw [hob] at HM HR3;clear hR3 HR h6 hob HME;cases ob with
 | false =>
  have HRR:Hid (1=R):=hZz (by rw [HR3.out,if_pos rfl]);clear HR3
  go_wp2_with (first
   | (go_at_call 78;(with_reducible refine HM.out.mono ?_);rintro e w1 ⟨sv,hv,rfl,hb1,_⟩;have HB1:=hZz (zafZ hb1 HB0.out);clear hb1))
  exact HP.out _ _ HRR.out HB1.out
 | true =>
 have HR4:Hid (R=if (S.p.funcs.any fun f=>decide (8<f.params.length))=true∨32<deepF S.p then 3 else 0):=hZz (by rw [HR3.out,if_neg (by simp)])
 have HBD:Hid (∀ f∈S.p.funcs,0≤f.body∧f.body<S.p.nodes.length):=hZz (by
  have h:=HOB.out;unfold orderedB at h;exact zc3Y _ _ _ (of_decide_eq_true h))
 clear HR3
 go_wp2_with (first
  | (go_at_call 78;(with_reducible refine HM.out.mono ?_);rintro e w1 ⟨sv,hv,rfl,hb1,hro⟩;have HB1:=hZz (zafZ hb1 HB0.out);have HX1:=hZz (HX0.out.below hb1);have HRO:=hZz (hro rfl);clear hb1 hro))
 rw [HNN.out] at HRO;clear x0;go_loopw [6] (fun fv wr=>∃ k:Nat,k≤nf∧fv=.int .i64 k∧Hid (∀ f∈S.p.funcs.take k,¬ 8<f.params.length∧nestF S.p.nodes 600 f.body.toNat≤32)∧wr=w1) (fun fv _=>nf - (intOf fv).toNat)
 case atStart=>exact ⟨0,Nat.zero_le _,rfl,hZz (by simp),rfl⟩
 case round =>
  obtain ⟨k,hk,rfl,HQ,rfl⟩:=hrel;have hk0:(0:Int)≤(k:Int):=by omega
  have x1:=blk2 HX1.out;by_cases hlt:k<nf
  case neg =>
   have e:k=nf:=by omega
   subst e
   have HRR:Hid (0=R):=hZz (by
    have h:=HQ.out;rw [List.take_of_length_le (by rw [HNF.out];exact Nat.le_refl _)] at h;rw [HR4.out,if_neg];rintro (h1 | h1)
    ·obtain ⟨f,hf,h2⟩:=List.any_eq_true.1 h1
     exact (h f hf).1 (of_decide_eq_true h2)
    ·have:=(deepF_le (p:=S.p) (b:=32)).2 (fun f hf=>(h f hf).2)
     omega)
   have hlt':¬ (k:Int)<(k:Int):=by omega
   clear hlt HQ;go_wp2_with (fail)
   exact HP.out _ _ HRR.out HB1.out
  have hlt':(k:Int)<(nf:Int):=by omega
  have hkl:k<S.p.funcs.length:=by rw [HNF.out];exact hlt
  obtain ⟨bF,oF,kA,kc,hBe,_,f0,f1,f2,hkv⟩:=zamY HFV.out hkl;subst hBe;have hbd:=HBD.out _ (List.getElem_mem hkl)
  have HQ2:Hid (¬ 8<(S.p.funcs[k]).params.length→nestF S.p.nodes 600 (S.p.funcs[k]).body.toNat≤32→∀ f∈S.p.funcs.take (k+1),¬ 8<f.params.length∧nestF S.p.nodes 600 f.body.toNat≤32):=hZz (fun h1 h2 f hf=>by
   rw [List.take_succ_eq_append_getElem hkl] at hf;rcases List.mem_append.1 hf with hf | hf
   ·exact HQ.out f hf
   ·simp at hf;subst hf;exact ⟨h1,h2⟩)
  have HBAD:Hid (8<(S.p.funcs[k]).params.length∨32<nestF S.p.nodes 600 (S.p.funcs[k]).body.toNat→3=R):=hZz (fun h=>by
   rw [HR4.out,if_pos];rcases h with h | h
   ·exact .inl (List.any_eq_true.2 ⟨_,List.getElem_mem hkl,decide_eq_true h⟩)
   ·right
    have:=fun h2=>(deepF_le (p:=S.p) (b:=32)).1 h2 _ (List.getElem_mem hkl)
    omega)
  have g1:=cellK f1 HB1.out;have g2:=cellK f2 HB1.out;obtain ⟨B,hB⟩:∃ B:Nat,(S.p.funcs[k]).body=(B:Int):=⟨(S.p.funcs[k]).body.toNat,by omega⟩
  obtain ⟨np,hnp⟩:∃ t,(S.p.funcs[k]).params.length=t:=⟨_,rfl⟩
  rw [hB] at g2 HQ2 HBAD hbd;rw [hnp] at g1 HQ2 HBAD;rw [Int.toNat_natCast] at HQ2 HBAD;have hBn:B<nn:=by have:=hbd.2;have:=HNN.out;omega
  obtain ⟨gH,cH,hhv,ch⟩:=own_atU HRO.out B (x:=.int .i64 (nestF S.p.nodes 600 B:Nat)) (by simp [htV,hBn]) hBn;subst hhv;obtain ⟨y,hy⟩:∃ t,nestF S.p.nodes 600 B=t:=⟨_,rfl⟩
  rw [hy] at ch HQ2 HBAD;have hB0:(0:Int)≤(B:Int):=by omega
  have hBI:(B:Int)<(nn:Int):=by omega
  clear hkv f0 f1 f2 hB hnp hy hbd hkl;by_cases h8:8<np
  ·have HRR:=hZz (HBAD.out (.inl h8))
   have h8':(8:Int)<(np:Int):=by omega
   clear h8 HBAD;go_wp2_with (fail)
   exact HP.out _ _ HRR.out HB1.out
  have h8':¬ (8:Int)<(np:Int):=by omega
  by_cases h32:32<y
  ·have HRR:=hZz (HBAD.out (.inr h32))
   have h32':(32:Int)<(y:Int):=by omega
   clear h32 HBAD;go_wp2_with (fail)
   exact HP.out _ _ HRR.out HB1.out
  have h32':¬ (32:Int)<(y:Int):=by omega
  have HQ3:=hZz (HQ2.out h8 (by omega));clear h32 h8;go_wp2_with (fail)
  exact ⟨⟨k+1,hlt,by simp,HQ3,by trivial⟩,by simp [intOf];omega⟩
end
section
def KV (w w':World):Prop:=w.heap.size≤w'.heap.size∧∀ (j:Nat) (o:Obj),w.heap[j]? = some o→(∀ cs fr,o≠Obj.cells cs 9 fr∧o≠Obj.cells cs 3 fr∧o≠Obj.cells cs 86 fr)→w'.heap[j]? = some o
theorem KV.refl (w:World):KV w w:=⟨Nat.le_refl _,fun _ _ h _=>h⟩
theorem KV.trans {a b c:World} (h:KV a b) (k:KV b c):KV a c:=⟨Nat.le_trans h.1 k.1,fun j o hj ho=>k.2 j o (h.2 j o hj ho) ho⟩
theorem KV.of_below {w w':World} (h:Below w.heap.size w w'):KV w w':=⟨h.size,fun j o hj _=>(h.block j (lt_of_block hj)).trans hj⟩
theorem KV.str {w w':World} (h:KT 9 w w'):KV w w':=⟨h.1,fun j o hj ho=>h.2 j o hj (fun cs fr=>(ho cs fr).1)⟩
theorem KV.int {w w':World} (h:KT 3 w w'):KV w w':=⟨h.1,fun j o hj ho=>h.2 j o hj (fun cs fr=>(ho cs fr).2.1)⟩
theorem KV.wlk {w w':World} (h:KT 86 w w'):KV w w':=⟨h.1,fun j o hj ho=>h.2 j o hj (fun cs fr=>(ho cs fr).2.2)⟩
theorem KV.blk {w w':World} {g:Nat} {e:TypeId} {cs:Array Value} (k:KV w w') (h:Blk w g e cs) (h1:e≠9) (h2:e≠3) (h3:e≠86):Blk w' g e cs:=by
 unfold Blk at h ⊢;exact k.2 g _ h (fun cs fr=>⟨fun hh=>by injection hh with _ hh;exact h1 hh,fun hh=>by injection hh with _ hh;exact h2 hh,fun hh=>by injection hh with _ hh;exact h3 hh⟩)
structure WkM (S:ProgS) (w0:World) (g:Nat) (x:WkD) (w:World) (nv sv:Value) (gl:Nat):Prop where
 b:Blk w g 86 #[.slice S.A S.p.nodes.length S.ncap,.slice S.B S.p.funcs.length S.fcap,nv,sv,.int .i64 x.next,.slice (some ⟨gl,0,none⟩) x.slot.length x.slot.length,.int .i64 x.node,.int .i64 x.err]
 n:w.ownsRow w0.heap.size 9 1 nv x.vis.length (x.vis.map fun q=>Value.string q.1)
 s:w.ownsRow w0.heap.size 3 1 sv x.vis.length (x.vis.map fun q=>Value.int .i64 q.2)
 l:Blk w gl 3 (x.slot.map (Value.int .i64)).toArray
 ap:∀ k,sv.ownBlock=some k→k≠gl
 bel:Below w0.heap.size w0 w
 gb:w0.heap.size≤g
 gc:w0.heap.size≤gl
def WkS (S:ProgS) (w0:World) (g gl:Nat) (x:WkD) (w:World):Prop:=∃ nv sv,WkM S w0 g x w nv sv gl
theorem WkM.below {S:ProgS} {w0 w w':World} {g:Nat} {x:WkD} {nv sv:Value} {gl:Nat} (h:WkM S w0 g x w nv sv gl) (hb:Below w.heap.size w w'):WkM S w0 g x w' nv sv gl :=
 ⟨h.b.below hb,zagZ h.n hb,zagZ h.s hb,h.l.below hb,h.ap,zaaZ hb h.bel h.bel.size,h.gb,h.gc⟩
theorem WkS.below {S:ProgS} {w0 w w':World} {g gl:Nat} {x:WkD} (h:WkS S w0 g gl x w) (hb:Below w.heap.size w w'):WkS S w0 g gl x w':=by
 obtain ⟨nv,sv,h⟩:=h;exact ⟨nv,sv,h.below hb⟩
theorem WkM.set {S:ProgS} {w0 w:World} {g:Nat} {x y:WkD} {nv sv nv' sv':Value} {gl:Nat} (h:WkM S w0 g x w nv sv gl) (i:Nat) (u:Value)
  (hb : #[.slice S.A S.p.nodes.length S.ncap,.slice S.B S.p.funcs.length S.fcap,nv,sv,.int .i64 x.next,.slice (some ⟨gl,0,none⟩) x.slot.length x.slot.length,.int .i64 x.node,.int .i64 x.err].setIfInBounds i u=#[.slice S.A S.p.nodes.length S.ncap,.slice S.B S.p.funcs.length S.fcap,nv',sv',.int .i64 y.next,.slice (some ⟨gl,0,none⟩) y.slot.length y.slot.length,.int .i64 y.node,.int .i64 y.err])
  (hn:w.ownsRow w0.heap.size 9 1 nv' y.vis.length (y.vis.map fun q=>Value.string q.1)) (hs:w.ownsRow w0.heap.size 3 1 sv' y.vis.length (y.vis.map fun q=>Value.int .i64 q.2)) (hl:y.slot=x.slot) (ap:∀ k,sv'.ownBlock=some k→k≠gl) :
  WkM S w0 g y (w.setCell ⟨g,i,none⟩ u) nv' sv' gl∧KV w (w.setCell ⟨g,i,none⟩ u):=by
 have hk:=KT.set h.b i u;refine ⟨⟨?_,hk.own (by decide) hn,hk.own (by decide) hs,?_,ap,h.bel.grown (zacY w g i u) h.bel.size (fun k hk=>by injection hk with hk;have:=h.gb;omega),h.gb,h.gc⟩,KV.wlk hk⟩
 ·have:=h.b.set_ i u
  rw [hb] at this;exact this
 ·rw [hl]
  exact hk.blk (by decide) h.l
attribute [local go_sem] zacZ
theorem wfail_s (S:ProgS) (w0:World) (g gl:Nat) (x:WkD) (i e:Int) (w:World) (h:WkS S w0 g gl x w) :
  Calls prog 104 #[.pointer (some ⟨g,0,none⟩),.int .i64 i,.int .i64 e] w fun r w'=>r=.returned (.tuple #[])∧WkS S w0 g gl (failW x i e) w'∧KV w w':=by
 obtain ⟨P,hP⟩:∃ P:Ending→World→Prop,(fun r w'=>r=.returned (.tuple #[])∧WkS S w0 g gl (failW x i e) w'∧KV w w')=P:=⟨_,rfl⟩
 rw [hP];have HP:Hid (∀ w',WkS S w0 g gl (failW x i e) w'→KV w w'→P (.returned (.tuple #[])) w'):=hZz (fun w' h1 h2=>by rw [← hP];exact ⟨rfl,h1,h2⟩);obtain ⟨nv,sv,h⟩:=h;have HM:=hZz h;have c6:=h.b.cell 7 _ rfl;have c5:=h.b.cell 6 _ rfl;have z5:=h.b.frozen 6;have z6:=h.b.frozen 7;clear hP h;obtain ⟨vi,nx,sl,nd,er⟩:=x;dsimp only at c6 c5;by_cases h0:er=0
 ·subst h0
  have h1:=HM.out.set (y:=⟨vi,nx,sl,i,0⟩) 6 (.int .i64 i) rfl HM.out.n HM.out.s rfl HM.out.ap;have h2:=h1.1.set (y:=⟨vi,nx,sl,i,e⟩) 7 (.int .i64 e) rfl h1.1.n h1.1.s rfl h1.1.ap;have HF:Hid (failW ⟨vi,nx,sl,nd,0⟩ i e=⟨vi,nx,sl,i,e⟩):=hZz rfl;have HE:=hZz (And.intro h2.1 (h1.2.trans h2.2));have y7:=h1.1.b.cell 7 _ rfl;have w7:=h1.1.b.frozen 7;dsimp only at y7;clear h1 h2;go_enter func104,ntmps104
  go_wp2_with (fail)
  rw [HF.out] at HP;go_returns;exact HP.out _ ⟨_,_,HE.out.1⟩ HE.out.2
 ·have h0':(er == 0)=false:=by simpa using h0
  have HF:Hid (failW ⟨vi,nx,sl,nd,er⟩ i e=⟨vi,nx,sl,nd,er⟩):=hZz (zcaY h0);clear h0;go_enter func104,ntmps104
  go_wp2_with (fail)
  rw [HF.out] at HP;go_returns;exact HP.out _ ⟨_,_,HM.out⟩ (KV.refl _)
theorem alGet_at {v:List (ByteArray × Int)} {s:ByteArray} {k:Nat} (hk:k<v.length) (h:∀ j (hj:j<v.length),j<k→v[j].1≠s) (he:v[k].1=s):alGet v s=some v[k].2:=by
 induction v generalizing k with
 | nil=>simp at hk
 | cons q r ih =>
  obtain ⟨a,b⟩:=q;cases k with
  | zero=>simp only [alGet];rw [if_pos (by simpa using he)];rfl
  | succ k =>
   have h0:=h 0 (by simp) (by omega);simp only [alGet];rw [if_neg (by simpa using h0)];exact ih (by simpa using hk) (fun j hj hjk=>by have:=h (j+1) (by simpa using hj) (by omega);simpa using this) (by simpa using he)
theorem visible_s (S:ProgS) (w0:World) (g gl:Nat) (x:WkD) (s:ByteArray) (w:World) (h:WkS S w0 g gl x w) (hl:x.vis.length≤10000) :
  Calls prog 103 #[.pointer (some ⟨g,0,none⟩),.string s] w fun r w'=>r=.returned (.int .i64 (visW x.vis s))∧w'=w:=by
 obtain ⟨nv,sv,h⟩:=h;have HM:=hZz h;obtain ⟨v,hv⟩:∃ t,x.vis=t:=⟨_,rfl⟩
 have hn:=h.n;have hs:=h.s;rw [hv] at hn hs hl ⊢;have HN:=hZz hn;have HS:=hZz hs;obtain ⟨nA,nc,rfl⟩:=zahZ hn;obtain ⟨sA,sc,rfl⟩:=zahZ hs;have c2:=h.b.cell 2 _ rfl;have c3:=h.b.cell 3 _ rfl;obtain ⟨R,hR⟩:∃ t,visW v s=t:=⟨_,rfl⟩
 rw [hR];have HR:=hZz hR;obtain ⟨N,hN⟩:∃ t,v.length=t:=⟨_,rfl⟩
 have HNN:=hZz hN;rw [hN] at HN HS c2 c3 hl;clear h hn hs hv hR hN;go_enter func103,ntmps103
 go_wp2_with (fail)
 go_loopw [5] (fun iv wr=>∃ k:Nat,k≤N∧iv=.int .i64 k∧Hid (∀ j (hj:j<v.length),j<k→v[j].1≠s)∧wr=w) (fun iv _=>N - (intOf iv).toNat)
 case atStart=>exact ⟨0,Nat.zero_le _,rfl,hZz (fun j hj h=>by omega),rfl⟩
 case round =>
  obtain ⟨k,hk,rfl,HQ,rfl⟩:=hrel;have hk0:(0:Int)≤(k:Int):=by omega
  by_cases hlt:k<N
  case neg =>
   have e:k=N:=by omega
   subst e
   have HRR:Hid (-1=R):=hZz (by
    rw [← HR.out];unfold visW
    rw [alGet_none.2 (fun q hq=>by
     obtain ⟨j,hj,rfl⟩:=List.mem_iff_getElem.1 hq;exact HQ.out j hj (by rw [← HNN.out];exact hj))]
    rfl)
   have hlt':¬ (k:Int)<(k:Int):=by omega
   clear hlt HQ;go_wp2_with (fail)
   go_returns;exact ⟨by rw [← HRR.out];rfl,by trivial⟩
  have hlt':(k:Int)<(N:Int):=by omega
  have hkv:k<v.length:=by rw [HNN.out];exact hlt
  obtain ⟨gn,cn,e1,d0⟩:=own_atU HN.out k (x:=.string v[k].1) (by rw [List.getElem?_map,List.getElem?_eq_getElem hkv];rfl) hlt;obtain ⟨gs,cs,e2,d1⟩:=own_atU HS.out k (x:=.int .i64 v[k].2) (by rw [List.getElem?_map,List.getElem?_eq_getElem hkv];rfl) hlt;injection e1 with e1 _ e3
  subst e1 e3;injection e2 with e2 _ e4
  subst e2 e4;have hbe:=za2Y v[k].1 s;by_cases he:v[k].1=s
  ·have HRR:Hid (v[k].2=R):=hZz (by
    rw [← HR.out];unfold visW;rw [alGet_at hkv HQ.out he];rfl)
   rw [decide_eq_true he] at hbe;obtain ⟨a,ha⟩:∃ t,v[k].1=t:=⟨_,rfl⟩
   obtain ⟨b,hb⟩:∃ t,v[k].2=t:=⟨_,rfl⟩
   rw [ha] at d0 hbe;rw [hb] at d1 HRR;clear he ha hb hkv;go_wp2_with (fail)
   go_returns;exact ⟨by rw [← HRR.out];rfl,by trivial⟩
  ·have HQ2:Hid (∀ j (hj:j<v.length),j<k+1→v[j].1≠s):=hZz (fun j hj hjk=>by
    by_cases e:j=k
    ·subst e;exact he
    ·exact HQ.out j hj (by omega))
   rw [decide_eq_false he] at hbe;obtain ⟨a,ha⟩:∃ t,v[k].1=t:=⟨_,rfl⟩
   rw [ha] at d0 hbe;clear he ha hkv d1;go_wp2_with (fail)
   exact ⟨⟨k+1,hlt,by simp,HQ2,by trivial⟩,by simp [intOf];omega⟩
end
section
theorem Tryz.infoStrU:(prog.info? 9).map (fun i=>(i.zero,i.size,i.bytes))=some (some (.string ByteArray.empty),1,16):=by kernel_rfl
attribute [local go_sem] zacZ
set_option maxHeartbeats 16000000 in
theorem zbzY (S:ProgS) (w0:World) (g gl:Nat) (x:WkD) (s:ByteArray) (w:World) (h:WkS S w0 g gl x w) (hl:x.vis.length≤10000) (hx:0≤x.next∧x.next≤10000) :
  Calls prog 71 #[.pointer (some ⟨g,0,none⟩),.string s] w fun r w'=>r=.returned (.int .i64 x.next)∧WkS S w0 g gl (declW x s) w'∧KV w w':=by
 obtain ⟨P,hP⟩:∃ P:Ending→World→Prop,(fun r w'=>r=.returned (.int .i64 x.next)∧WkS S w0 g gl (declW x s) w'∧KV w w')=P:=⟨_,rfl⟩
 rw [hP];have HP:Hid (∀ w',WkS S w0 g gl (declW x s) w'→KV w w'→P (.returned (.int .i64 x.next)) w'):=hZz (fun w' h1 h2=>by rw [← hP];exact ⟨rfl,h1,h2⟩);obtain ⟨nv,sv,h⟩:=h;have HM:=hZz h;have hn:=h.n;have hs:=h.s;obtain ⟨n,hnl⟩:∃ t,x.vis.length=t:=⟨_,rfl⟩
 have HNL:=hZz hnl;rw [hnl] at hn hs hl;have HN:=hZz hn;have HS:=hZz hs;have c2:=h.b.cell 2 _ rfl;have z2:=h.b.frozen 2;obtain ⟨i1,hj,hy0,hy1,hy2⟩:=info_parts Tryz.infoStrU;obtain ⟨i2,hj',hz0,hz1,hz2⟩:=info_parts Tryz.infoIntS;have hw1:IntKind.i64.wrap (x.next+1)=x.next+1:=IntWalk.i64_in _ (by omega);have hw2:IntKind.i64.wrap (x.next+1 - 1)=x.next:=by rw [show x.next+1 - 1=x.next by omega];exact IntWalk.i64_in _ (by omega)
 obtain ⟨nx,hnx⟩:∃ t,x.next=t:=⟨_,rfl⟩
 rw [hnx] at hx hw1 hw2 HP;have HNX:=hZz hnx;have HSZ:Hid (w0.heap.size≤w.heap.size):=hZz h.bel.size;clear hP h hn hs hnl hnx;go_enter func71,ntmps71
 go_upto_region 2 with (at_builtin;refine za1Y rfl (.tmp 9) (.tmp 11) 40 rfl i1 _ 16 underlying40 hj hy0 hy1 hy2 rfl (by omega) rfl HN.out [.string s] rfl rfl (by simp [Value.oneCell']) (by omega) (by omega) HSZ.out ?_;intro gA cA w1 hown hb hsz hg ha;have HA1:=hZz hown;have HG1:=hZz hg;have HB1:=hZz (HM.out.b.grown hg (zaeZ HN.out HM.out.b (by decide)));have c1:=HB1.out.cell 2 _ rfl;have z1:=HB1.out.frozen 2;clear hown hb hsz hg ha)
 have hk1:=KT.grown HN.out HG1.out;have HK1:Hid (KV w w1):=hZz (KV.str hk1);have hs1:=hk1.own (by decide) HS.out;have hl1:=hk1.blk (by decide) HM.out.l;have hbel1:=HM.out.bel.grown HG1.out HM.out.bel.size (fun k hk=>(HN.out.lt k hk).1);obtain ⟨V1,hV1⟩:∃ W,w1.setCell ⟨g,2,none⟩ (.slice (some ⟨gA,0,none⟩) (n+1) cA)=W:=⟨_,rfl⟩
 have hk2:KT 86 w1 V1:=by rw [← hV1];exact KT.set HB1.out 2 _
 have HBV:Hid (Blk V1 g 86 #[.slice S.A S.p.nodes.length S.ncap,.slice S.B S.p.funcs.length S.fcap,.slice (some ⟨gA,0,none⟩) (n+1) cA,sv,.int .i64 nx,.slice (some ⟨gl,0,none⟩) x.slot.length x.slot.length,.int .i64 x.node,.int .i64 x.err]):=hZz (by rw [← hV1];have:=HB1.out.set_ 2 (.slice (some ⟨gA,0,none⟩) (n+1) cA);rw [HNX.out] at this;exact this);have HNV:=hZz (hk2.own (by decide) HA1.out);have HSV:=hZz (hk2.own (by decide) hs1);have HLV:=hZz (hk2.blk (by decide) hl1);have HKV:=hZz (HK1.out.trans (KV.wlk hk2));have HBE:Hid (Below w0.heap.size w0 V1):=hZz (by rw [← hV1];exact hbel1.grown (zacY w1 g 2 _) hbel1.size (fun k hk=>by injection hk with hk;have:=HM.out.gb;omega));rw [hV1];clear hk1 hs1 hl1 hbel1 hV1 hk2 c2 z2 c1 z1;have HBD:=hZz (HBV.out.below (zadZ V1));have c3:=HBD.out.cell 3 _ rfl;have c4:=HBD.out.cell 4 _ rfl;have v3:=HBV.out.cell 3 _ rfl;have v4:=HBV.out.cell 4 _ rfl;have HSA:=hZz (zagZ HSV.out ((zadZ V1).trans ((zabZ V1.drew (.cells #[.int .i64 nx] 3)).mono (by simp))));have HLA:=hZz (HLV.out.below ((zadZ V1).trans ((zabZ V1.drew (.cells #[.int .i64 nx] 3)).mono (by simp))));have HNA:=hZz (zagZ HNV.out ((zadZ V1).trans ((zabZ V1.drew (.cells #[.int .i64 nx] 3)).mono (by simp))));have HBA:=hZz (HBD.out.alloc (.cells #[.int .i64 nx] 3));have HBEA:Hid (Below w0.heap.size w0 (V1.drew.alloc (.cells #[.int .i64 nx] 3))):=hZz (zaaZ ((zadZ V1).trans ((zabZ V1.drew (.cells #[.int .i64 nx] 3)).mono (by simp))) HBE.out HBE.out.size);go_region_law (rw [if_pos (by rfl)];refine wp_append_lies _ (.tmp 19) (.tmp 24) 56 rfl w0.heap.size 3 i2 _ 1 8 underlying56 hj' hz0 hz1 hz2 rfl ?k1 _ n _ rfl HSA.out ⟨V1.drew.heap.size,0,none⟩ 1 1 [.int .i64 nx] rfl rfl (zadY V1.drew _ _) ?k2 ?k3 ?k4 ?k5 ?k6 _ rfl ?_;(case k1=>decide);(case k2=>simp [Value.oneCell']);(case k3=>decide);(case k4=>(unfold maxLen;omega));(case k5=>omega);(case k6=>exact HBEA.out.size);intro g6 cap6 w6 hown6 hgr6 hat6 _;have HB6:=hZz (HBA.out.grown hgr6 (zaeZ HSA.out HBA.out (by decide)));have z6:=HB6.out.frozen 3;have o6:=HB6.out.cell 3 _ rfl;have HO6:=hZz hown6;have HGR:=hZz hgr6;have HAT:=hZz hat6;clear hown6 hgr6 hat6)
 all_goals
  have h6:=HB6.out.set_ 3 (.slice (some ⟨g6,0,none⟩) (n+1) cap6);have y4:=h6.cell 4 _ rfl;have w4:=h6.frozen 4;have h7:=h6.set_ 4 (.int .i64 (nx+1));have x4:=h7.cell 4 _ rfl;have HB7:=hZz h7;clear h6 h7;go_wp2_with (fail)
  have k6:=KT.grown HSA.out HGR.out;have k7:=KT.set HB6.out 3 (.slice (some ⟨g6,0,none⟩) (n+1) cap6);have k8:=KT.set (HB6.out.set_ 3 (.slice (some ⟨g6,0,none⟩) (n+1) cap6)) 4 (.int .i64 (nx+1));have hl6:=HLA.out.grown HGR.out (fun e=>HM.out.ap gl e.symm rfl)
  have hg6:g6≠gl:=by
   rcases HAT.out with h | h
   ·exact HM.out.ap g6 h
   ·intro e
    have:=HLA.out.lt
    rw [← e,h] at this;exact absurd this (Nat.lt_irrefl _)
  have hvl:(declW x s).vis.length=n+1:=by simp only [declW];rw [List.length_append,HNL.out];rfl
  refine HP.out _ ⟨.slice (some ⟨gA,0,none⟩) (n+1) cA,.slice (some ⟨g6,0,none⟩) (n+1) cap6,⟨?_,?_,?_,?_,?_,?_,HM.out.gb,HM.out.gc⟩⟩ (((HKV.out.trans (KV.of_below ((zadZ V1).trans ((zabZ V1.drew (.cells #[.int .i64 nx] 3)).mono (by simp))))).trans (KV.int k6)).trans ((KV.wlk k7).trans (KV.wlk k8)))
  ·have:=HB7.out
   show Blk _ g 86 #[_,_,_,_,.int .i64 (x.next+1),_,_,_];rw [HNX.out];exact this
  ·rw [hvl]
   have:=k8.own (by decide) (k7.own (by decide) (k6.own (by decide) HNA.out))
   simp only [declW,List.map_append,List.map_cons,List.map_nil];exact this
  ·rw [hvl]
   have:=k8.own (by decide) (k7.own (by decide) HO6.out)
   simp only [declW,List.map_append,List.map_cons,List.map_nil,HNX.out];exact this
  ·exact k8.blk (by decide) (k7.blk (by decide) hl6)
  ·intro k hk
   have e:g6=k:=by simpa [Value.ownBlock] using hk
   rw [← e];exact hg6
  ·have hb1:=HBEA.out.grown HGR.out HBEA.out.size (fun k hk=>(HSA.out.lt k hk).1)
   have hb2:=hb1.grown (zacY w6 g 3 (.slice (some ⟨g6,0,none⟩) (n+1) cap6)) hb1.size (fun k hk=>by injection hk with hk;have:=HM.out.gb;omega);exact hb2.grown (zacY _ g 4 (.int .i64 (nx+1))) hb2.size (fun k hk=>by injection hk with hk;have:=HM.out.gb;omega)
end
section
theorem strEq {s:ByteArray} {l:List UInt8} (h:s.toList=l):(s.toList == l)=true:=by rw [h];simp
theorem strNe {s:ByteArray} {l:List UInt8} (h:¬ s.toList=l):(s.toList == l)=false:=by simpa using h
attribute [local go_sem] zacZ
set_option maxHeartbeats 4000000 in
theorem wbuiltin_s (s:ByteArray) (w:World):Calls prog 52 #[.string s] w fun e w'=>e=.returned (.tuple #[.int .i64 ((lookL builtL s).getD 0),.bool (lookL builtL s).isSome])∧w'=w:=by
 by_cases h0:s.toList=[108,101,110]
 ·have HT:Hid (lookL builtL s=some 1):=hZz (by unfold lookL;rw [h0];decide)
  have e0:=strEq h0;clear h0;go_enter func52,ntmps52
  go_wp2_with (fail)
  go_returns;exact ⟨by rw [HT.out];rfl,rfl⟩
 by_cases h1:s.toList=[115,116,114]
 ·have HT:Hid (lookL builtL s=some 1):=hZz (by unfold lookL;rw [h1];decide)
  have e0:=strNe h0;have e1:=strEq h1;clear h0 h1;go_enter func52,ntmps52
  go_wp2_with (fail)
  go_returns;exact ⟨by rw [HT.out];rfl,rfl⟩
 by_cases h2:s.toList=[105,110,116]
 ·have HT:Hid (lookL builtL s=some 1):=hZz (by unfold lookL;rw [h2];decide)
  have e0:=strNe h0;have e1:=strNe h1;have e2:=strEq h2;clear h0 h1 h2;go_enter func52,ntmps52
  go_wp2_with (fail)
  go_returns;exact ⟨by rw [HT.out];rfl,rfl⟩
 by_cases h3:s.toList=[107,101,121,115]
 ·have HT:Hid (lookL builtL s=some 1):=hZz (by unfold lookL;rw [h3];decide)
  have e0:=strNe h0;have e1:=strNe h1;have e2:=strNe h2;have e3:=strEq h3;clear h0 h1 h2 h3;go_enter func52,ntmps52
  go_wp2_with (fail)
  go_returns;exact ⟨by rw [HT.out];rfl,rfl⟩
 by_cases h4:s.toList=[102,97,105,108]
 ·have HT:Hid (lookL builtL s=some 1):=hZz (by unfold lookL;rw [h4];decide)
  have e0:=strNe h0;have e1:=strNe h1;have e2:=strNe h2;have e3:=strNe h3;have e4:=strEq h4;clear h0 h1 h2 h3 h4;go_enter func52,ntmps52
  go_wp2_with (fail)
  go_returns;exact ⟨by rw [HT.out];rfl,rfl⟩
 by_cases h5:s.toList=[112,117,115,104]
 ·have HT:Hid (lookL builtL s=some 2):=hZz (by unfold lookL;rw [h5];decide)
  have e0:=strNe h0;have e1:=strNe h1;have e2:=strNe h2;have e3:=strNe h3;have e4:=strNe h4;have e5:=strEq h5;clear h0 h1 h2 h3 h4 h5;go_enter func52,ntmps52
  go_wp2_with (fail)
  go_returns;exact ⟨by rw [HT.out];rfl,rfl⟩
 by_cases h6:s.toList=[104,97,115]
 ·have HT:Hid (lookL builtL s=some 2):=hZz (by unfold lookL;rw [h6];decide)
  have e0:=strNe h0;have e1:=strNe h1;have e2:=strNe h2;have e3:=strNe h3;have e4:=strNe h4;have e5:=strNe h5;have e6:=strEq h6;clear h0 h1 h2 h3 h4 h5 h6;go_enter func52,ntmps52
  go_wp2_with (fail)
  go_returns;exact ⟨by rw [HT.out];rfl,rfl⟩
 by_cases h7:s.toList=[112,117,116]
 ·have HT:Hid (lookL builtL s=some 3):=hZz (by unfold lookL;rw [h7];decide)
  have e0:=strNe h0;have e1:=strNe h1;have e2:=strNe h2;have e3:=strNe h3;have e4:=strNe h4;have e5:=strNe h5;have e6:=strNe h6;have e7:=strEq h7;clear h0 h1 h2 h3 h4 h5 h6 h7;go_enter func52,ntmps52
  go_wp2_with (fail)
  go_returns;exact ⟨by rw [HT.out];rfl,rfl⟩
 have HT:Hid (lookL builtL s=none):=hZz (by
  unfold lookL builtL;simp only [List.lookup];simp [h0,h1,h2,h3,h4,h5,h6,h7,beq_eq_false_iff_ne.2 h0,beq_eq_false_iff_ne.2 h1,beq_eq_false_iff_ne.2 h2,beq_eq_false_iff_ne.2 h3,beq_eq_false_iff_ne.2 h4,beq_eq_false_iff_ne.2 h5,beq_eq_false_iff_ne.2 h6,beq_eq_false_iff_ne.2 h7])
 have e0:=strNe h0;have e1:=strNe h1;have e2:=strNe h2;have e3:=strNe h3;have e4:=strNe h4;have e5:=strNe h5;have e6:=strNe h6;have e7:=strNe h7;clear h0 h1 h2 h3 h4 h5 h6 h7;go_enter func52,ntmps52
 go_wp2_with (fail)
 go_returns;exact ⟨by rw [HT.out];rfl,rfl⟩
set_option maxHeartbeats 4000000 in
theorem whost_s (s:ByteArray) (w:World):Calls prog 148 #[.string s] w fun e w'=>e=.returned (.tuple #[.int .i64 ((lookL hostL s).getD 0),.bool (lookL hostL s).isSome])∧w'=w:=by
 by_cases h0:s.toList=[110,111,119]
 ·have HT:Hid (lookL hostL s=some 0):=hZz (by unfold lookL;rw [h0];decide)
  have e0:=strEq h0;clear h0;go_enter func148,ntmps148
  go_wp2_with (fail)
  go_returns;exact ⟨by rw [HT.out];rfl,rfl⟩
 by_cases h1:s.toList=[103,101,116]
 ·have HT:Hid (lookL hostL s=some 1):=hZz (by unfold lookL;rw [h1];decide)
  have e0:=strNe h0;have e1:=strEq h1;clear h0 h1;go_enter func148,ntmps148
  go_wp2_with (fail)
  go_returns;exact ⟨by rw [HT.out];rfl,rfl⟩
 by_cases h2:s.toList=[100,101,108,101,116,101]
 ·have HT:Hid (lookL hostL s=some 1):=hZz (by unfold lookL;rw [h2];decide)
  have e0:=strNe h0;have e1:=strNe h1;have e2:=strEq h2;clear h0 h1 h2;go_enter func148,ntmps148
  go_wp2_with (fail)
  go_returns;exact ⟨by rw [HT.out];rfl,rfl⟩
 by_cases h3:s.toList=[115,101,99,114,101,116]
 ·have HT:Hid (lookL hostL s=some 1):=hZz (by unfold lookL;rw [h3];decide)
  have e0:=strNe h0;have e1:=strNe h1;have e2:=strNe h2;have e3:=strEq h3;clear h0 h1 h2 h3;go_enter func148,ntmps148
  go_wp2_with (fail)
  go_returns;exact ⟨by rw [HT.out];rfl,rfl⟩
 by_cases h4:s.toList=[108,111,103]
 ·have HT:Hid (lookL hostL s=some 1):=hZz (by unfold lookL;rw [h4];decide)
  have e0:=strNe h0;have e1:=strNe h1;have e2:=strNe h2;have e3:=strNe h3;have e4:=strEq h4;clear h0 h1 h2 h3 h4;go_enter func148,ntmps148
  go_wp2_with (fail)
  go_returns;exact ⟨by rw [HT.out];rfl,rfl⟩
 by_cases h5:s.toList=[112,117,116]
 ·have HT:Hid (lookL hostL s=some 2):=hZz (by unfold lookL;rw [h5];decide)
  have e0:=strNe h0;have e1:=strNe h1;have e2:=strNe h2;have e3:=strNe h3;have e4:=strNe h4;have e5:=strEq h5;clear h0 h1 h2 h3 h4 h5;go_enter func148,ntmps148
  go_wp2_with (fail)
  go_returns;exact ⟨by rw [HT.out];rfl,rfl⟩
 by_cases h6:s.toList=[115,101,110,100]
 ·have HT:Hid (lookL hostL s=some 2):=hZz (by unfold lookL;rw [h6];decide)
  have e0:=strNe h0;have e1:=strNe h1;have e2:=strNe h2;have e3:=strNe h3;have e4:=strNe h4;have e5:=strNe h5;have e6:=strEq h6;clear h0 h1 h2 h3 h4 h5 h6;go_enter func148,ntmps148
  go_wp2_with (fail)
  go_returns;exact ⟨by rw [HT.out];rfl,rfl⟩
 by_cases h7:s.toList=[115,105,103,110,97,108]
 ·have HT:Hid (lookL hostL s=some 2):=hZz (by unfold lookL;rw [h7];decide)
  have e0:=strNe h0;have e1:=strNe h1;have e2:=strNe h2;have e3:=strNe h3;have e4:=strNe h4;have e5:=strNe h5;have e6:=strNe h6;have e7:=strEq h7;clear h0 h1 h2 h3 h4 h5 h6 h7;go_enter func148,ntmps148
  go_wp2_with (fail)
  go_returns;exact ⟨by rw [HT.out];rfl,rfl⟩
 by_cases h8:s.toList=[102,101,116,99,104]
 ·have HT:Hid (lookL hostL s=some 2):=hZz (by unfold lookL;rw [h8];decide)
  have e0:=strNe h0;have e1:=strNe h1;have e2:=strNe h2;have e3:=strNe h3;have e4:=strNe h4;have e5:=strNe h5;have e6:=strNe h6;have e7:=strNe h7;have e8:=strEq h8;clear h0 h1 h2 h3 h4 h5 h6 h7 h8;go_enter func148,ntmps148
  go_wp2_with (fail)
  go_returns;exact ⟨by rw [HT.out];rfl,rfl⟩
 by_cases h9:s.toList=[116,105,109,101,114]
 ·have HT:Hid (lookL hostL s=some 3):=hZz (by unfold lookL;rw [h9];decide)
  have e0:=strNe h0;have e1:=strNe h1;have e2:=strNe h2;have e3:=strNe h3;have e4:=strNe h4;have e5:=strNe h5;have e6:=strNe h6;have e7:=strNe h7;have e8:=strNe h8;have e9:=strEq h9;clear h0 h1 h2 h3 h4 h5 h6 h7 h8 h9;go_enter func148,ntmps148
  go_wp2_with (fail)
  go_returns;exact ⟨by rw [HT.out];rfl,rfl⟩
 have HT:Hid (lookL hostL s=none):=hZz (by
  unfold lookL hostL;simp only [List.lookup];simp [h0,h1,h2,h3,h4,h5,h6,h7,h8,h9,beq_eq_false_iff_ne.2 h0,beq_eq_false_iff_ne.2 h1,beq_eq_false_iff_ne.2 h2,beq_eq_false_iff_ne.2 h3,beq_eq_false_iff_ne.2 h4,beq_eq_false_iff_ne.2 h5,beq_eq_false_iff_ne.2 h6,beq_eq_false_iff_ne.2 h7,beq_eq_false_iff_ne.2 h8,beq_eq_false_iff_ne.2 h9])
 have e0:=strNe h0;have e1:=strNe h1;have e2:=strNe h2;have e3:=strNe h3;have e4:=strNe h4;have e5:=strNe h5;have e6:=strNe h6;have e7:=strNe h7;have e8:=strNe h8;have e9:=strNe h9;clear h0 h1 h2 h3 h4 h5 h6 h7 h8 h9;go_enter func148,ntmps148
 go_wp2_with (fail)
 go_returns;exact ⟨by rw [HT.out];rfl,rfl⟩
theorem findF_at {p:ProgD} {s:ByteArray} {k:Nat} (hk:k<p.funcs.length) (h:∀ j (hj:j<p.funcs.length),j<k→p.funcs[j].name≠s) (he:p.funcs[k].name=s):findF p s=k:=by
 unfold findF
 have:p.funcs.findIdx? (fun f=>decide (f.name=s))=some k:=by
  rw [List.findIdx?_eq_some_iff_getElem];exact ⟨hk,decide_eq_true he,fun j hj=>by simpa using h j (by omega) hj⟩
 rw [this]
theorem findF_not {p:ProgD} {s:ByteArray} (h:∀ j (hj:j<p.funcs.length),p.funcs[j].name≠s):findF p s=-1:=by
 unfold findF
 have:p.funcs.findIdx? (fun f=>decide (f.name=s))=none:=by
  rw [List.findIdx?_eq_none_iff];intro f hf;obtain ⟨j,hj,rfl⟩:=List.mem_iff_getElem.1 hf;simpa using h j hj
 rw [this]
theorem wfunction_s (S:ProgS) (s:ByteArray) (w:World) (hS:ProgV w S) (hf:S.p.funcs.length≤10000):Calls prog 53 #[S.val,.string s] w fun e w'=>e=.returned (.int .i64 (findF S.p s))∧Below w.heap.size w w':=by
 obtain ⟨R,hR⟩:∃ t,findF S.p s=t:=⟨_,rfl⟩
 rw [hR];have HR:=hZz hR;obtain ⟨W0,hW0⟩:∃ W,w.alloc (.cells #[.slice S.A S.p.nodes.length S.ncap,.slice S.B S.p.funcs.length S.fcap] 25)=W:=⟨_,rfl⟩
 obtain ⟨gp,hgp⟩:∃ g,w.heap.size=g:=⟨_,rfl⟩
 have hb0:Below w.heap.size w W0:=by rw [← hW0];exact zabZ _ _
 have HX0:Hid (Blk W0 gp 25 #[.slice S.A S.p.nodes.length S.ncap,.slice S.B S.p.funcs.length S.fcap]):=hZz (by rw [← hW0,← hgp];exact Blk.new _ _ _);have HB0:=hZz hb0;have HW0:=hZz hW0;have HGP:=hZz hgp;have HFV:=hZz (hS.below hb0).funcs;obtain ⟨N,hN⟩:∃ t,S.p.funcs.length=t:=⟨_,rfl⟩
 have HN:=hZz hN;obtain ⟨BB,hBB⟩:∃ t,S.B=t:=⟨_,rfl⟩
 unfold ProgS.val;rw [hBB] at HX0 HW0 HFV ⊢;rw [hN] at HX0 HW0 hf ⊢;clear hR hW0 hgp hb0 hS hN hBB;go_enter func53,ntmps53
 go_upto_region 1 with fail
 rw [HGP.out,HW0.out];clear HW0;have x0:=blk2 HX0.out;go_wp2_with (fail)
 go_loopw [5] (fun iv wr=>∃ k:Nat,k≤N∧iv=.int .i64 k∧Hid (∀ j (hj:j<S.p.funcs.length),j<k→S.p.funcs[j].name≠s)∧wr=W0) (fun iv _=>N - (intOf iv).toNat)
 case atStart=>exact ⟨0,Nat.zero_le _,rfl,hZz (fun j hj h=>by omega),rfl⟩
 case round =>
  obtain ⟨k,hk,rfl,HQ,rfl⟩:=hrel;have hk0:(0:Int)≤(k:Int):=by omega
  by_cases hlt:k<N
  case neg =>
   have e:k=N:=by omega
   subst e;have HRR:Hid (-1=R):=hZz (by rw [← HR.out,findF_not (fun j hj=>HQ.out j hj (by rw [← HN.out];exact hj))]);have hlt':¬ (k:Int)<(k:Int):=by omega
   clear hlt HQ;go_wp2_with (fail)
   go_returns;exact ⟨by rw [← HRR.out];rfl,HB0.out⟩
  have hlt':(k:Int)<(N:Int):=by omega
  have hkl:k<S.p.funcs.length:=by rw [HN.out];exact hlt
  obtain ⟨bF,oF,kA,kc,hBe,_,f0,f1,f2,hkv⟩:=zamY HFV.out hkl;subst hBe;have hbe:=za2Y (S.p.funcs[k]).name s;by_cases he:(S.p.funcs[k]).name=s
  ·have HRR:Hid ((k:Int)=R):=hZz (by rw [← HR.out,findF_at hkl HQ.out he])
   rw [decide_eq_true he] at hbe;obtain ⟨a,ha⟩:∃ t,(S.p.funcs[k]).name=t:=⟨_,rfl⟩
   rw [ha] at f0 hbe;clear he ha hkv f1 f2 hkl;go_wp2_with (fail)
   go_returns;exact ⟨by rw [← HRR.out];rfl,HB0.out⟩
  ·have HQ2:Hid (∀ j (hj:j<S.p.funcs.length),j<k+1→S.p.funcs[j].name≠s):=hZz (fun j hj hjk=>by
    by_cases e:j=k
    ·subst e;exact he
    ·exact HQ.out j hj (by omega))
   rw [decide_eq_false he] at hbe;obtain ⟨a,ha⟩:∃ t,(S.p.funcs[k]).name=t:=⟨_,rfl⟩
   rw [ha] at f0 hbe;clear he ha hkv f1 f2 hkl;go_wp2_with (fail)
   exact ⟨⟨k+1,hlt,by simp,HQ2,by trivial⟩,by simp [intOf];omega⟩
end
section
def callW (p:ProgD) (n:NodeD) (i:Nat) (x:WkD):WkD:=if callE p n=0 then x else failW x i (callE p n)
theorem findF_ltN {p:ProgD} {s:ByteArray} {f:Nat} (h:findF p s=f):f<p.funcs.length:=by
 unfold findF at h;cases hf:p.funcs.findIdx? (fun f=>decide (f.name=s)) with
 | none=>rw [hf] at h;simp only at h;omega
 | some i =>
  rw [hf] at h;obtain ⟨hi,_⟩:=List.findIdx?_eq_some_iff_getElem.1 hf;simp only at h;omega
attribute [local go_sem] zacZ
set_option maxHeartbeats 16000000 in
theorem kcall_s (S:ProgS) (w0:World) (g gl:Nat) (x:WkD) (i:Nat) (w:World) (hS:ProgV w0 S) (h:WkS S w0 g gl x w) (hi:i<S.p.nodes.length) (hl:S.p.nodes.length≤1000) (hf:S.p.funcs.length≤1000) :
  Calls prog 105 #[.pointer (some ⟨g,0,none⟩),.int .i64 i] w fun r w'=>r=.returned (.tuple #[])∧WkS S w0 g gl (callW S.p (S.p.at_ i) i x) w'∧KV w w':=by
 obtain ⟨n,hn⟩:∃ t,S.p.at_ i=t:=⟨_,rfl⟩
 rw [hn];obtain ⟨P,hP⟩:∃ P:Ending→World→Prop,(fun r w'=>r=.returned (.tuple #[])∧WkS S w0 g gl (callW S.p n i x) w'∧KV w w')=P:=⟨_,rfl⟩
 rw [hP]
 have HOKW:Hid (callE S.p n=0→∀ w',WkS S w0 g gl x w'→KV w w'→P (.returned (.tuple #[])) w'):=hZz (fun h0 w' h1 h2=>by
  rw [← hP];refine ⟨rfl,?_,h2⟩
  unfold callW;rw [if_pos h0];exact h1)
 have HBADW:Hid (∀ e,callE S.p n=e→e≠0→∀ w',WkS S w0 g gl (failW x i e) w'→KV w w'→P (.returned (.tuple #[])) w'):=hZz (fun e he h0 w' h1 h2=>by
  rw [← hP];refine ⟨rfl,?_,h2⟩
  unfold callW;rw [he,if_neg h0];exact h1)
 have hnl:S.p.nodes[i]=n:=by rw [← hn];exact (zakZ hi _).symm
 obtain ⟨nv,sv,hm⟩:=h;have HW:=hZz hm;obtain ⟨b,off,kA,kc,iA,ic,hA,hbA,c0,c1,c2,c3,c4,hkv,hiv⟩:=zalY hS.nodes hi;rw [hnl] at c0 c1 c2 c3 c4;have hbe:=hm.bel;have d0:=cellK c0 hbe;have d1:=cellK c1 hbe;have d2:=cellK c2 hbe;have d3:=cellK c3 hbe;have d4:=cellK c4 hbe;have b0:=hm.b.cell 0 _ rfl;rw [hA] at b0;obtain ⟨V,hV⟩:∃ W,w.alloc (.cells #[.int .i64 n.kind,.string n.text,.int .i64 n.int,.slice kA n.keys.length kc,.slice iA n.kids.length ic] 58)=W:=⟨_,rfl⟩
 obtain ⟨gn,hgn⟩:∃ g,w.heap.size=g:=⟨_,rfl⟩
 have hbV:Below w.heap.size w V:=by rw [← hV];exact zabZ _ _
 have HXV:Hid (Blk V gn 58 #[.int .i64 n.kind,.string n.text,.int .i64 n.int,.slice kA n.keys.length kc,.slice iA n.kids.length ic]):=hZz (by rw [← hV,← hgn];exact Blk.new _ _ _);have HBV:=hZz hbV;have HV:=hZz hV;have HGN:=hZz hgn;have HBU:=hZz (wbuiltin_s n.text);have HHO:=hZz (whost_s n.text);have HFN:Hid (∀ wx,Below w0.heap.size w0 wx→Calls prog 53 #[S.val,.string n.text] wx fun e w'=>e=.returned (.int .i64 (findF S.p n.text))∧Below wx.heap.size wx w'):=hZz (fun wx hb=>wfunction_s S n.text wx (hS.below hb) (by omega));have HFA:Hid (∀ e w3,WkS S w0 g gl x w3→Calls prog 104 #[.pointer (some ⟨g,0,none⟩),.int .i64 i,.int .i64 e] w3 fun r w'=>r=.returned (.tuple #[])∧WkS S w0 g gl (failW x i e) w'∧KV w3 w'):=hZz (fun e w3 h=>wfail_s S w0 g gl x i e w3 h);have HFS:=hZz hS.funcs;have hE:callE S.p n=errW (if n.kind=12 then lookL hostL n.text else wantF S.p n.text) n.kids.length:=rfl;have hWN:wantF S.p n.text=if 0≤findF S.p n.text then some ((S.p.funcs.getD (findF S.p n.text).toNat noFunc).params.length:Int) else lookL builtL n.text:=rfl
 rw [hWN] at hE;have HFL:Hid (∀ f:Nat,findF S.p n.text=f→f<S.p.funcs.length):=hZz (fun f hf=>findF_ltN hf);have HE:=hZz hE;have HWM:Hid (∀ wx,Below w.heap.size w wx→WkS S w0 g gl x wx):=hZz (fun wx hb=>⟨nv,sv,hm.below hb⟩);have HBW:Hid (∀ wx,Below w.heap.size w wx→Below w0.heap.size w0 wx):=hZz (fun wx hb=>zaaZ hb hbe hbe.size);unfold ProgS.val at HFN;rw [hA] at HFN;obtain ⟨nk,hnk⟩:∃ x,n.kind=x:=⟨_,rfl⟩
 obtain ⟨nt,hnt⟩:∃ x,n.text=x:=⟨_,rfl⟩
 obtain ⟨ni,hni⟩:∃ x,n.int=x:=⟨_,rfl⟩
 obtain ⟨nq,hnq⟩:∃ x,n.keys.length=x:=⟨_,rfl⟩
 obtain ⟨m,hmm⟩:∃ x,n.kids.length=x:=⟨_,rfl⟩
 rw [hnk,hnt,hni,hnq,hmm] at HXV HV;rw [hnk] at d0;rw [hnt] at d1 HBU HHO HFN HFL;rw [hni] at d2;rw [hnq] at d3;rw [hmm] at d4;rw [hnk,hnt,hmm] at HE;obtain ⟨fi,hfi⟩:∃ x,findF S.p nt=x:=⟨_,rfl⟩
 rw [hfi] at HFN HE HFL;obtain ⟨lb,hlb⟩:∃ x,lookL builtL nt=x:=⟨_,rfl⟩
 rw [hlb] at HBU HE;obtain ⟨lh,hlh⟩:∃ x,lookL hostL nt=x:=⟨_,rfl⟩
 rw [hlh] at HHO HE;have hiI:(i:Int)<(S.p.nodes.length:Int):=by omega
 have hi0:(0:Int)≤(i:Int):=by omega
 obtain ⟨nn,hnn⟩:∃ x,S.p.nodes.length=x:=⟨_,rfl⟩
 obtain ⟨nf,hnf⟩:∃ x,S.p.funcs.length=x:=⟨_,rfl⟩
 rw [hnn] at hiI b0;rw [hnf] at HFL;have HNF:=hZz hnf;have HBK:Hid (∀ wx,Below w.heap.size w wx→Blk wx g 86 #[.slice S.A nn S.ncap,.slice S.B nf S.fcap,nv,sv,.int .i64 x.next,.slice (some ⟨gl,0,none⟩) x.slot.length x.slot.length,.int .i64 x.node,.int .i64 x.err]):=hZz (fun wx hb=>by rw [← hnn,← hnf];exact hm.b.below hb);rw [hnn,hnf] at HFN;clear hP hn hnl hm c0 c1 c2 c3 c4 hkv hiv hbe hV hgn hbV hS hE hWN hnk hnt hni hnq hmm hfi hlb hlh hi hl hf hnn hnf;go_enter func105,ntmps105
 go_upto_region 1 with fail
 rw [HGN.out,HV.out];clear HV HGN d0 d1 d2 d3 d4 b0;have v1:=zalZ HXV.out;go_upto_region 2 with (go_at_call 52;(with_reducible refine (HBU.out _).mono ?_);rintro e w1 ⟨rfl,hw1⟩;rw [hw1];clear hw1 w1)
 have HVD:=hZz (HXV.out.below (zadZ V));have y1:=zalZ HVD.out;have z0:=(HBK.out _ HBV.out).cell 0 _ rfl;have z1:=(HBK.out _ HBV.out).cell 1 _ rfl;have HBVD:Hid (Below w.heap.size w V.drew):=hZz (zafZ (zadZ V) HBV.out);have y2:=(HBK.out _ HBVD.out).cell 0 _ rfl;have y3:=(HBK.out _ HBVD.out).cell 1 _ rfl;go_region_law (go_simp;go_at_call 53;((refine (HFN.out _ (HBW.out _ HBVD.out)).mono ?_);rintro e w3 ⟨rfl,hb3⟩;have HB3:=hZz (zafZ hb3 HBVD.out);have HX3:=hZz (HVD.out.below hb3);clear hb3))
 all_goals
  clear v1 y1 z0 z1 y2 y3;have v3:=zalZ HX3.out;have z3:=(HBK.out _ HB3.out).cell 1 _ rfl;have HK3:Hid (KV w w3):=hZz (KV.of_below HB3.out);have HM3:=hZz (HWM.out _ HB3.out);have HF4:=hZz (HFA.out 4 w3 HM3.out);have HF7:=hZz (HFA.out 7 w3 HM3.out);by_cases hk12:nk=12
  ·subst hk12
   rw [if_pos rfl] at HE
   have hff:fi<0∨∃ f:Nat,fi=(f:Int):=by
    rcases Int.lt_or_le fi 0 with h | h
    ·exact .inl h
    ·exact .inr ⟨fi.toNat,by omega⟩
   rcases hff with hneg | ⟨f,rfl⟩
   ·have hge:¬ 0≤fi:=by omega
    cases lh with
    | none =>
     have HE0:Hid (callE S.p n=4):=hZz (by rw [HE.out];rfl)
     go_wp2_with (first
      | (go_at_call 148;(with_reducible refine (HHO.out _).mono ?_);rintro e w4 ⟨rfl,hw4⟩;rw [hw4];clear hw4 w4)
      | (go_at_call 104;(with_reducible refine HF4.out.mono ?_);rintro e w5 ⟨rfl,hs5,hk5⟩;have HS5:=hZz hs5;have HK5:=hZz (HK3.out.trans hk5);clear hs5 hk5))
     go_returns;exact HBADW.out 4 HE0.out (by decide) _ HS5.out HK5.out
    | some k =>
     by_cases hq:k=(m:Int)
     ·have HE0:Hid (callE S.p n=0):=hZz (by rw [HE.out];unfold errW;simp only;rw [if_neg (not_not_intro hq)])
      have hqb:((m:Int) != k)=false:=by rw [hq];simp
      clear hq
      go_wp2_with (first
       | (go_at_call 148;(with_reducible refine (HHO.out _).mono ?_);rintro e w4 ⟨rfl,hw4⟩;rw [hw4];clear hw4 w4))
      go_returns;exact HOKW.out HE0.out _ HM3.out HK3.out
     ·have HE0:Hid (callE S.p n=7):=hZz (by rw [HE.out];unfold errW;simp only;rw [if_pos hq])
      have hqb:((m:Int) != k)=true:=by simp;exact fun h=>hq h.symm
      clear hq
      go_wp2_with (first
       | (go_at_call 148;(with_reducible refine (HHO.out _).mono ?_);rintro e w4 ⟨rfl,hw4⟩;rw [hw4];clear hw4 w4)
       | (go_at_call 104;(with_reducible refine HF7.out.mono ?_);rintro e w5 ⟨rfl,hs5,hk5⟩;have HS5:=hZz hs5;have HK5:=hZz (HK3.out.trans hk5);clear hs5 hk5))
      go_returns;exact HBADW.out 7 HE0.out (by decide) _ HS5.out HK5.out
   ·have hge:(0:Int)≤(f:Int):=by omega
    have hfl:=HFL.out f rfl;have hfI:(f:Int)<(nf:Int):=by omega
    obtain ⟨bF,oF,kF,kfc,hBe,_,f0,f1,f2,hkf⟩:=zamY HFS.out (i:=f) (by rw [HNF.out];exact hfl);have f1:=cellK f1 (HBW.out _ HB3.out);rw [hBe] at z3;generalize (S.p.funcs[f]'(by rw [HNF.out];exact hfl)).params.length=np at f1;clear f0 f2 hkf;cases lh with
    | none =>
     have HE0:Hid (callE S.p n=4):=hZz (by rw [HE.out];rfl)
     go_wp2_with (first
      | (go_at_call 148;(with_reducible refine (HHO.out _).mono ?_);rintro e w4 ⟨rfl,hw4⟩;rw [hw4];clear hw4 w4)
      | (go_at_call 104;(with_reducible refine HF4.out.mono ?_);rintro e w5 ⟨rfl,hs5,hk5⟩;have HS5:=hZz hs5;have HK5:=hZz (HK3.out.trans hk5);clear hs5 hk5))
     go_returns;exact HBADW.out 4 HE0.out (by decide) _ HS5.out HK5.out
    | some k =>
     by_cases hq:k=(m:Int)
     ·have HE0:Hid (callE S.p n=0):=hZz (by rw [HE.out];unfold errW;simp only;rw [if_neg (not_not_intro hq)])
      have hqb:((m:Int) != k)=false:=by rw [hq];simp
      clear hq
      go_wp2_with (first
       | (go_at_call 148;(with_reducible refine (HHO.out _).mono ?_);rintro e w4 ⟨rfl,hw4⟩;rw [hw4];clear hw4 w4))
      go_returns;exact HOKW.out HE0.out _ HM3.out HK3.out
     ·have HE0:Hid (callE S.p n=7):=hZz (by rw [HE.out];unfold errW;simp only;rw [if_pos hq])
      have hqb:((m:Int) != k)=true:=by simp;exact fun h=>hq h.symm
      clear hq
      go_wp2_with (first
       | (go_at_call 148;(with_reducible refine (HHO.out _).mono ?_);rintro e w4 ⟨rfl,hw4⟩;rw [hw4];clear hw4 w4)
       | (go_at_call 104;(with_reducible refine HF7.out.mono ?_);rintro e w5 ⟨rfl,hs5,hk5⟩;have HS5:=hZz hs5;have HK5:=hZz (HK3.out.trans hk5);clear hs5 hk5))
      go_returns;exact HBADW.out 7 HE0.out (by decide) _ HS5.out HK5.out
  ·have hk12':(nk == 12)=false:=by simpa using hk12
   rw [if_neg hk12] at HE;clear hk12
   have hff:fi<0∨∃ f:Nat,fi=(f:Int):=by
    rcases Int.lt_or_le fi 0 with h | h
    ·exact .inl h
    ·exact .inr ⟨fi.toNat,by omega⟩
   rcases hff with hneg | ⟨f,rfl⟩
   ·have hge:¬ 0≤fi:=by omega
    rw [if_neg hge] at HE;cases lb with
    | none =>
     have HE0:Hid (callE S.p n=4):=hZz (by rw [HE.out];rfl)
     go_wp2_with (first
      | (go_at_call 104;(with_reducible refine HF4.out.mono ?_);rintro e w5 ⟨rfl,hs5,hk5⟩;have HS5:=hZz hs5;have HK5:=hZz (HK3.out.trans hk5);clear hs5 hk5))
     go_returns;exact HBADW.out 4 HE0.out (by decide) _ HS5.out HK5.out
    | some k =>
     by_cases hq:k=(m:Int)
     ·have HE0:Hid (callE S.p n=0):=hZz (by rw [HE.out];unfold errW;simp only;rw [if_neg (not_not_intro hq)])
      have hqb:((m:Int) != k)=false:=by rw [hq];simp
      clear hq;go_wp2_with (fail)
      go_returns;exact HOKW.out HE0.out _ HM3.out HK3.out
     ·have HE0:Hid (callE S.p n=7):=hZz (by rw [HE.out];unfold errW;simp only;rw [if_pos hq])
      have hqb:((m:Int) != k)=true:=by simp;exact fun h=>hq h.symm
      clear hq
      go_wp2_with (first
       | (go_at_call 104;(with_reducible refine HF7.out.mono ?_);rintro e w5 ⟨rfl,hs5,hk5⟩;have HS5:=hZz hs5;have HK5:=hZz (HK3.out.trans hk5);clear hs5 hk5))
      go_returns;exact HBADW.out 7 HE0.out (by decide) _ HS5.out HK5.out
   ·have hge:(0:Int)≤(f:Int):=by omega
    have hfl:=HFL.out f rfl;have hfI:(f:Int)<(nf:Int):=by omega
    obtain ⟨bF,oF,kF,kfc,hBe,_,f0,f1,f2,hkf⟩:=zamY HFS.out (i:=f) (by rw [HNF.out];exact hfl);have f1:=cellK f1 (HBW.out _ HB3.out);rw [hBe] at z3;have hgd:S.p.funcs.getD f noFunc=S.p.funcs[f]'(by rw [HNF.out];exact hfl):=zakZ (by rw [HNF.out];exact hfl) _;rw [if_pos hge,Int.toNat_natCast,hgd] at HE;generalize (S.p.funcs[f]'(by rw [HNF.out];exact hfl)).params.length=np at f1 HE;clear f0 f2 hkf hgd;by_cases hq:(np:Int)=(m:Int)
    ·have HE0:Hid (callE S.p n=0):=hZz (by rw [HE.out];unfold errW;simp only;rw [if_neg (not_not_intro hq)])
     have hqb:((m:Int) != (np:Int))=false:=by rw [hq];simp
     clear hq;go_wp2_with (fail)
     go_returns;exact HOKW.out HE0.out _ HM3.out HK3.out
    ·have HE0:Hid (callE S.p n=7):=hZz (by rw [HE.out];unfold errW;simp only;rw [if_pos hq])
     have hqb:((m:Int) != (np:Int))=true:=by simp;exact fun h=>hq h.symm
     clear hq
     go_wp2_with (first
      | (go_at_call 104;(with_reducible refine HF7.out.mono ?_);rintro e w5 ⟨rfl,hs5,hk5⟩;have HS5:=hZz hs5;have HK5:=hZz (HK3.out.trans hk5);clear hs5 hk5))
     go_returns;exact HBADW.out 7 HE0.out (by decide) _ HS5.out HK5.out
end
def BdW (x:WkD) (d N:Nat):Prop:=x.vis.length+d≤10000∧0≤x.next∧x.next+d≤10000∧x.slot.length=N
theorem BdW.sub {x:WkD} {d e N:Nat} (h:BdW x d N) (hd:e≤d):BdW x e N:=by
 unfold BdW at h ⊢;omega
theorem zcnY {x:WkD} {i e:Int} {d N:Nat} (h:BdW x d N):BdW (failW x i e) d N∧(failW x i e).vis.length=x.vis.length:=by
 obtain ⟨h1,h2,h3⟩:=zbkY x i e;unfold BdW at h ⊢;rw [h1,h2,h3];exact ⟨h,rfl⟩
theorem setW_bd {x:WkD} {i:Nat} {v:Int} {d N:Nat} (h:BdW x d N):BdW (setW x i v) d N∧(setW x i v).vis.length=x.vis.length:=by
 unfold BdW at h ⊢;simp only [setW,List.length_set];exact ⟨h,trivial⟩
theorem declW_bd {x:WkD} {s:ByteArray} {d N:Nat} (h:BdW x (d+1) N):BdW (declW x s) d N∧(declW x s).vis.length=x.vis.length+1:=by
 unfold BdW at h ⊢;simp only [declW,List.length_append,List.length_cons,List.length_nil];refine ⟨?_,trivial⟩
 omega
theorem letC_bd {x:WkD} {i:Nat} {s:ByteArray} {d N:Nat} (h:BdW x d N):BdW (letC x i s) d N∧(letC x i s).vis.length=x.vis.length:=by
 unfold letC;split
 ·exact zcnY h
 split
 ·exact zcnY h
 ·exact ⟨h,rfl⟩
theorem endW_bd {p:ProgD} {n:NodeD} {i m:Nat} {x:WkD} {d N:Nat} (h:BdW x (d+1) N) (hm:m≤x.vis.length):BdW (endW p n i m x) d N∧m≤(endW p n i m x).vis.length:=by
 have h0:=h.sub (Nat.le_succ d);unfold endW;split
 ·refine ⟨?_,by simp only [List.length_take];omega⟩
  unfold BdW at h0 ⊢;simp only [List.length_take];omega
 split
 ·unfold varW
  split
  ·have h1:=setW_bd (i:=i) (v:=visW x.vis n.text) h0
   have h2:=zcnY (i:=(i:Int)) (e:=4) h1.1;exact ⟨h2.1,by rw [h2.2,h1.2];exact hm⟩
  ·have h1:=setW_bd (i:=i) (v:=visW x.vis n.text) h0
   exact ⟨h1.1,by rw [h1.2];exact hm⟩
 split
 ·unfold letW
  have h1:=letC_bd (i:=i) (s:=n.text) h;have h2:=declW_bd (s:=n.text) h1.1;have h3:=setW_bd (i:=i) (v:=(letC x i n.text).next) h2.1;exact ⟨h3.1,by rw [h3.2,h2.2,h1.2];omega⟩
 split
 ·split
  ·exact ⟨h0,hm⟩
  ·have h2:=zcnY (i:=(i:Int)) (e:=callE p n) h0
   exact ⟨h2.1,by rw [h2.2];exact hm⟩
 ·exact ⟨h0,hm⟩
theorem seqW_bd {p:ProgD} {f N:Nat} (hr:∀ i s x d,firstF p.nodes f i=some s→BdW x (d+(i+1 - s)) N→BdW (visitW p f i x) d N∧x.vis.length≤(visitW p f i x).vis.length) {r:List Int} {s e:Nat} (h:Cover p.nodes f r s e):∀ x d,BdW x (d+(e - s)) N→BdW (r.foldl (fun y k=>visitW p f k.toNat y) x) d N∧x.vis.length≤(r.foldl (fun y k=>visitW p f k.toNat y) x).vis.length:=by
 induction h with
 | nil s=>intro x d h;exact ⟨h.sub (by omega),Nat.le_refl _⟩
 | cons r s m e h1 h2 ih =>
  intro x d h;have q1:=zaaY h1;have q2:=h2.le';obtain ⟨g1,g2⟩:=hr m s x (d+(e - (m+1))) h1 (h.sub (by omega));obtain ⟨g3,g4⟩:=ih _ d g1;simp only [List.foldl_cons,Int.toNat_natCast];exact ⟨g3,Nat.le_trans g2 g4⟩
theorem visitW_bd (p:ProgD) (N:Nat):∀ f i s x d,firstF p.nodes f i=some s→BdW x (d+(i+1 - s)) N→BdW (visitW p f i x) d N∧x.vis.length≤(visitW p f i x).vis.length:=by
 intro f;induction f with
 | zero=>intro i s x d h;cases h
 | succ f ih =>
  intro i s x d h hb;have T:=zabY h;have hs:=zaaY h;have hcv:=T.cover;rw [show p.nodes.getD i noNode=p.at_ i from rfl] at hcv;obtain ⟨g1,g2⟩:=seqW_bd ih hcv x (d+1) (hb.sub (by omega));simp only [visitW];exact endW_bd g1 g2
theorem Cover.len {l:List NodeD} {f:Nat} {r:List Int} {s e:Nat} (h:Cover l f r s e):r.length≤e - s:=by
 induction h with
 | nil s=>simp
 | cons r s m e h1 h2 ih =>
  have:=zaaY h1
  have:=h2.le'
  simp only [List.length_cons];omega
theorem own_prefixU {w:World} {base n m cap size:Nat} {A:Option Addr} {xs:List Value} {e:TypeId} (h:w.ownsRow base e size (.slice A n cap) n xs) (hm:m≤n):w.ownsRow base e size (.slice A m cap) m (xs.take (m * size)):=by
 have hle:m * size≤n * size:=Nat.mul_le_mul_right _ hm;refine ⟨by rw [List.length_take,h.1];omega,?_⟩
 rcases h.2 with ⟨e1,e2⟩ | ⟨g,c,cur,e1,e2,e3,e4,e5,e6,e7⟩
 ·injection e1 with e1 e3 e4
  have:m=0:=by omega
  subst e1 this e4;exact .inl ⟨rfl,rfl⟩
 ·injection e1 with e1 e8 e9
  subst e1 e9;refine .inr ⟨g,cap,cur,rfl,e2,e3,by omega,e5,e6,?_⟩
  rw [← e7,List.take_take];congr 1
  omega
theorem own_capU {w:World} {base n cap size:Nat} {A:Option Addr} {xs:List Value} {e:TypeId} (h:w.ownsRow base e size (.slice A n cap) n xs):n≤cap:=by
 rcases h.2 with ⟨e1,e2⟩ | ⟨g,c,cur,e1,_,_,hc,_⟩
 ·omega
 ·injection e1 with _ _ e4
  omega
theorem WkM.cut {S:ProgS} {w0 w:World} {g gl:Nat} {x:WkD} {A A':Option Addr} {c c':Nat} (h:WkM S w0 g x w (.slice A x.vis.length c) (.slice A' x.vis.length c') gl) {m:Nat} (hm:m≤x.vis.length) :
  WkS S w0 g gl { x with vis:=x.vis.take m } ((w.setCell ⟨g,2,none⟩ (.slice A m c)).setCell ⟨g,3,none⟩ (.slice A' m c'))∧KV w ((w.setCell ⟨g,2,none⟩ (.slice A m c)).setCell ⟨g,3,none⟩ (.slice A' m c')):=by
 have k1:=KT.set h.b 2 (.slice A m c);have b1:=h.b.set_ 2 (.slice A m c);have k2:=KT.set b1 3 (.slice A' m c');have hl:(x.vis.take m).length=m:=by rw [List.length_take];omega
 have hb1:=h.bel.grown (zacY w g 2 (.slice A m c)) h.bel.size (fun k hk=>by injection hk with hk;have:=h.gb;omega);refine ⟨⟨.slice A m c,.slice A' m c',b1.set_ 3 (.slice A' m c'),?_,?_,k2.blk (by decide) (k1.blk (by decide) h.l),(fun k hk=>h.ap k (by cases A' <;> exact hk)),hb1.grown (zacY _ g 3 (.slice A' m c')) hb1.size (fun k hk=>by injection hk with hk;have:=h.gb;omega),h.gb,h.gc⟩,(KV.wlk k1).trans (KV.wlk k2)⟩
 ·have:=own_prefixU (k2.own (by decide) (k1.own (by decide) h.n)) hm
  rw [Nat.mul_one,← List.map_take] at this;rw [hl];exact this
 ·have:=own_prefixU (k2.own (by decide) (k1.own (by decide) h.s)) hm
  rw [Nat.mul_one,← List.map_take] at this;rw [hl];exact this
theorem WkS.slot {S:ProgS} {w0 w:World} {g gl:Nat} {x:WkD} (h:WkS S w0 g gl x w) (i:Nat) (v:Int):WkS S w0 g gl (setW x i v) (w.setCell ⟨gl,i,none⟩ (.int .i64 v))∧KV w (w.setCell ⟨gl,i,none⟩ (.int .i64 v)):=by
 obtain ⟨nv,sv,h⟩:=h;have k:=KT.set h.l i (.int .i64 v);have hg:=zacY w gl i (.int .i64 v);refine ⟨⟨nv,sv,?_,k.own (by decide) h.n,own_grown h.s hg (fun k hk hk2=>h.ap k hk2.symm (by injection hk with hk;exact hk.symm)),?_,h.ap,h.bel.grown hg h.bel.size (fun k hk=>by injection hk with hk;have:=h.gc;omega),h.gb,h.gc⟩,KV.int k⟩
 ·have:=k.blk (by decide) h.b
  simp only [setW,List.length_set];exact this
 ·have:=h.l.set_ i (.int .i64 v)
  simp only [setW]
  rwa [show (x.slot.map (Value.int .i64)).toArray.setIfInBounds i (.int .i64 v)=((x.slot.set i v).map (Value.int .i64)).toArray by simp [List.map_set]] at this
def VisH (S:ProgS) (w0:World) (g gl:Nat) (f:Nat):Prop:=∀ (i s:Nat) (x:WkD) (w:World),firstF S.p.nodes f i=some s→i<S.p.nodes.length→WkS S w0 g gl x w→BdW x (i+1 - s) S.p.nodes.length →
 Calls prog 72 #[.pointer (some ⟨g,0,none⟩),.int .i64 i] w fun r w'=>r=.returned (.tuple #[])∧WkS S w0 g gl (visitW S.p f i x) w'∧KV w w'
end Go.Proofs.YthiimbhjpdphpaaGreatDoor
