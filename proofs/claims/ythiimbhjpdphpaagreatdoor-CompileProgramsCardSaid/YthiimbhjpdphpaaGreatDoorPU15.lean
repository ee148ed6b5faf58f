/- U11, U14, U15 -/
import Derived.Test.YthiimbhjpdphpaaGreatDoorPU10
set_option linter.unusedVariables false
set_option linter.unusedSimpArgs false
namespace Go.Proofs.YthiimbhjpdphpaaGreatDoor
open Go.RowKit
set_option maxRecDepth 100000
set_option maxHeartbeats 8000000
open Go.Proofs.Tryz
section
theorem zccY {l:List NodeD}:∀ (fs:List FuncD) (s e:Nat),orderedF l fs s=some e→∀ f∈fs,0≤f.body∧f.body<l.length
 | [],_,_,_=>by simp
 | g :: r,s,e,h=>by
  simp only [orderedF] at h;split at h
  ·rename_i hg
   obtain ⟨_,_,h3,h4,_⟩:=zasY hg;intro f hf;rcases List.mem_cons.1 hf with rfl | hf
   ·exact ⟨by omega,h4⟩
   ·exact zccY r _ e h f hf
  ·cases h
theorem foldl_maxN {α:Type} {h:α→Nat}:∀ (r:List α) (a b:Nat),r.foldl (fun m x=>max m (h x)) a≤b↔(a≤b∧∀ x∈r,h x≤b)
 | [],a,b=>by simp
 | x :: r,a,b=>by
  rw [List.foldl_cons,foldl_maxN r];constructor
  ·rintro ⟨h1,h2⟩
   refine ⟨by omega,fun y hy=>?_⟩
   rcases List.mem_cons.1 hy with rfl | hy
   ·omega
   ·exact h2 y hy
  ·rintro ⟨h1,h2⟩
   have:=h2 x (List.mem_cons_self ..)
   exact ⟨by omega,fun y hy=>h2 y (List.mem_cons_of_mem _ hy)⟩
theorem deepF_le {p:ProgD} {b:Nat}:deepF p≤b↔∀ f∈p.funcs,nestF p.nodes 600 f.body.toNat≤b:=by
 unfold deepF;rw [foldl_maxN];exact ⟨fun h=>h.2,fun h=>⟨Nat.zero_le _,h⟩⟩
attribute [local go_sem] zabZ
set_option maxHeartbeats 16000000 in
theorem rsyntax_s (S:ProgS) (w:World) (hS:ProgV w S) (hok:ProgOk S.p) :
  Calls prog 51 #[S.val] w fun e w'=>e=.returned (.int .i64 (synF S.p))∧Below w.heap.size w w':=by
 obtain ⟨R,hR⟩:∃ R,synF S.p=R:=⟨_,rfl⟩
 rw [hR];obtain ⟨P,hP⟩:∃ P:Ending→World→Prop,(fun e w'=>e=.returned (.int .i64 R)∧Below w.heap.size w w')=P:=⟨_,rfl⟩
 rw [hP];have hR2:R=if 600<S.p.nodes.length∨16<S.p.funcs.length then 3 else if orderedB S.p=false then 1 else if (S.p.funcs.any fun f=>decide (8<f.params.length))=true∨32<deepF S.p then 3 else 0:=hR.symm
 have HR:=hZz hR2;have HP:Hid (∀ w' r,r=R→Below w.heap.size w w'→P (.returned (.int .i64 r)) w'):=hZz (fun w' r h1 h2=>by rw [← hP,h1];exact ⟨rfl,h2⟩);obtain ⟨W0,hW0⟩:∃ W,w.alloc (.cells #[.slice S.A S.p.nodes.length S.ncap,.slice S.B S.p.funcs.length S.fcap] 25)=W:=⟨_,rfl⟩
 obtain ⟨gp,hgp⟩:∃ g,w.heap.size=g:=⟨_,rfl⟩
 have hb0:Below w.heap.size w W0:=by rw [← hW0];exact zacZ _ _
 have HX0:Hid (Blk W0 gp 25 #[.slice S.A S.p.nodes.length S.ncap,.slice S.B S.p.funcs.length S.fcap]):=hZz (by rw [← hW0,← hgp];exact Blk.new _ _ _);have HB0:=hZz hb0;have HW0:=hZz hW0;have HGP:=hZz hgp;have HME:Hid (¬ (600<S.p.nodes.length∨16<S.p.funcs.length)→Calls prog 78 #[S.val] W0 (MeaR S.p W0)):=hZz (fun h=>measure8_s S W0 (hS.below hb0) hok (by omega) (by omega));have HFV:=hZz hS.funcs;obtain ⟨nn,hnn⟩:∃ t,S.p.nodes.length=t:=⟨_,rfl⟩
 obtain ⟨nf,hnf⟩:∃ t,S.p.funcs.length=t:=⟨_,rfl⟩
 have HNN:=hZz hnn;have HNF:=hZz hnf;obtain ⟨BB,hBB⟩:∃ t,S.B=t:=⟨_,rfl⟩
 unfold ProgS.val at HME ⊢;rw [hBB] at HX0 HFV HME HW0 ⊢;rw [hnn,hnf] at HX0 HME HR HW0 ⊢;have hl9:nn≤1000:=by rw [← hnn];exact hok.nodes.len
 have hf9:nf≤1000:=by rw [← hnf];exact hok.funcs
 clear hR hR2 hP hS hok hb0 hW0 hgp hnn hnf hBB;go_enter func51,ntmps51
 go_upto_region 1 with fail
 rw [HGP.out,HW0.out];clear HW0 HGP;have x0:=blk2 HX0.out;by_cases h6:600<nn
 ·have h6':(600:Int)<(nn:Int):=by omega
  have HRR:Hid (3=R):=hZz (by rw [HR.out,if_pos (.inl h6)]);clear h6 HR;go_wp2_with (fail)
  exact HP.out _ _ HRR.out HB0.out
 by_cases h16:16<nf
 ·have h6':¬ (600:Int)<(nn:Int):=by omega
  have h16':(16:Int)<(nf:Int):=by omega
  have HRR:Hid (3=R):=hZz (by rw [HR.out,if_pos (.inr h16)]);clear h6 h16 HR;go_wp2_with (fail)
  exact HP.out _ _ HRR.out HB0.out
 have h6':¬ (600:Int)<(nn:Int):=by omega
 have h16':¬ (16:Int)<(nf:Int):=by omega
 have HM:=hZz (HME.out (by omega));have hR3:=HR.out;rw [if_neg (by omega)] at hR3;have HR3:=hZz hR3;obtain ⟨ob,hob⟩:∃ t,orderedB S.p=t:=⟨_,rfl⟩
 have HOB:=hZz hob;unfold MeaR at HM;rw [hob] at HM HR3;clear hR3 HR h6 hob HME;cases ob with
 | false =>
  have HRR:Hid (1=R):=hZz (by rw [HR3.out,if_pos rfl]);clear HR3
  go_wp2_with (first
   | (go_at_call 78;(with_reducible refine HM.out.mono ?_);rintro e w1 ⟨sv,hv,rfl,hb1,_⟩;have HB1:=hZz (zahZ hb1 HB0.out);clear hb1))
  exact HP.out _ _ HRR.out HB1.out
 | true =>
 have HR4:Hid (R=if (S.p.funcs.any fun f=>decide (8<f.params.length))=true∨32<deepF S.p then 3 else 0):=hZz (by rw [HR3.out,if_neg (by simp)])
 have HBD:Hid (∀ f∈S.p.funcs,0≤f.body∧f.body<S.p.nodes.length):=hZz (by
  have h:=HOB.out;unfold orderedB at h;exact zccY _ _ _ (of_decide_eq_true h))
 clear HR3
 go_wp2_with (first
  | (go_at_call 78;(with_reducible refine HM.out.mono ?_);rintro e w1 ⟨sv,hv,rfl,hb1,hro⟩;have HB1:=hZz (zahZ hb1 HB0.out);have HX1:=hZz (HX0.out.below hb1);have HRO:=hZz (hro rfl);clear hb1 hro))
 rw [HNN.out] at HRO;clear x0;go_loopw [6] (fun fv wr=>∃ k:Nat,k≤nf∧fv=.int .i64 k∧Hid (∀ f∈S.p.funcs.take k,¬ 8<f.params.length∧nestF S.p.nodes 600 f.body.toNat≤32)∧wr=w1) (fun fv _=>nf - (intOf fv).toNat)
 case atStart=>exact ⟨0,Nat.zero_le _,rfl,hZz (by simp),rfl⟩
 case round =>
  obtain ⟨k,hk,rfl,HQ,rfl⟩:=hrel;have hk0:(0:Int)≤(k:Int):=by omega
  have x1:=blk2 HX1.out;by_cases hlt:k<nf
  case neg =>
   have e:k=nf:=by omega
   subst e
   have HRR:Hid (0=R):=hZz (by
    have h:=HQ.out;rw [List.take_of_length_le (by rw [HNF.out];exact Nat.le_refl _)] at h;rw [HR4.out,if_neg];rintro (h1 | h1)
    ·obtain ⟨f,hf,h2⟩:=List.any_eq_true.1 h1
     exact (h f hf).1 (of_decide_eq_true h2)
    ·have:=(deepF_le (p:=S.p) (b:=32)).2 (fun f hf=>(h f hf).2)
     omega)
   have hlt':¬ (k:Int)<(k:Int):=by omega
   clear hlt HQ;go_wp2_with (fail)
   exact HP.out _ _ HRR.out HB1.out
  have hlt':(k:Int)<(nf:Int):=by omega
  have hkl:k<S.p.funcs.length:=by rw [HNF.out];exact hlt
  obtain ⟨bF,oF,kA,kc,hBe,_,f0,f1,f2,hkv⟩:=zakY HFV.out hkl;subst hBe;have hbd:=HBD.out _ (List.getElem_mem hkl)
  have HQ2:Hid (¬ 8<(S.p.funcs[k]).params.length→nestF S.p.nodes 600 (S.p.funcs[k]).body.toNat≤32→∀ f∈S.p.funcs.take (k+1),¬ 8<f.params.length∧nestF S.p.nodes 600 f.body.toNat≤32):=hZz (fun h1 h2 f hf=>by
   rw [List.take_succ_eq_append_getElem hkl] at hf;rcases List.mem_append.1 hf with hf | hf
   ·exact HQ.out f hf
   ·simp at hf;subst hf;exact ⟨h1,h2⟩)
  have HBAD:Hid (8<(S.p.funcs[k]).params.length∨32<nestF S.p.nodes 600 (S.p.funcs[k]).body.toNat→3=R):=hZz (fun h=>by
   rw [HR4.out,if_pos];rcases h with h | h
   ·exact .inl (List.any_eq_true.2 ⟨_,List.getElem_mem hkl,decide_eq_true h⟩)
   ·right
    have:=fun h2=>(deepF_le (p:=S.p) (b:=32)).1 h2 _ (List.getElem_mem hkl)
    omega)
  have g1:=cellK f1 HB1.out;have g2:=cellK f2 HB1.out;obtain ⟨B,hB⟩:∃ B:Nat,(S.p.funcs[k]).body=(B:Int):=⟨(S.p.funcs[k]).body.toNat,by omega⟩
  obtain ⟨np,hnp⟩:∃ t,(S.p.funcs[k]).params.length=t:=⟨_,rfl⟩
  rw [hB] at g2 HQ2 HBAD hbd;rw [hnp] at g1 HQ2 HBAD;rw [Int.toNat_natCast] at HQ2 HBAD;have hBn:B<nn:=by have:=hbd.2;have:=HNN.out;omega
  obtain ⟨gH,cH,hhv,ch⟩:=own_atU HRO.out B (x:=.int .i64 (nestF S.p.nodes 600 B:Nat)) (by simp [htV,hBn]) hBn;subst hhv;obtain ⟨y,hy⟩:∃ t,nestF S.p.nodes 600 B=t:=⟨_,rfl⟩
  rw [hy] at ch HQ2 HBAD;have hB0:(0:Int)≤(B:Int):=by omega
  have hBI:(B:Int)<(nn:Int):=by omega
  clear hkv f0 f1 f2 hB hnp hy hbd hkl;by_cases h8:8<np
  ·have HRR:=hZz (HBAD.out (.inl h8))
   have h8':(8:Int)<(np:Int):=by omega
   clear h8 HBAD;go_wp2_with (fail)
   exact HP.out _ _ HRR.out HB1.out
  have h8':¬ (8:Int)<(np:Int):=by omega
  by_cases h32:32<y
  ·have HRR:=hZz (HBAD.out (.inr h32))
   have h32':(32:Int)<(y:Int):=by omega
   clear h32 HBAD;go_wp2_with (fail)
   exact HP.out _ _ HRR.out HB1.out
  have h32':¬ (32:Int)<(y:Int):=by omega
  have HQ3:=hZz (HQ2.out h8 (by omega));clear h32 h8;go_wp2_with (fail)
  exact ⟨⟨k+1,hlt,by simp,HQ3,by trivial⟩,by simp [intOf];omega⟩
end
section
def KV (w w':World):Prop:=w.heap.size≤w'.heap.size∧∀ (j:Nat) (o:Obj),w.heap[j]? = some o→(∀ cs fr,o≠Obj.cells cs 9 fr∧o≠Obj.cells cs 3 fr∧o≠Obj.cells cs 86 fr)→w'.heap[j]? = some o
theorem KV.refl (w:World):KV w w:=⟨Nat.le_refl _,fun _ _ h _=>h⟩
theorem KV.trans {a b c:World} (h:KV a b) (k:KV b c):KV a c:=⟨Nat.le_trans h.1 k.1,fun j o hj ho=>k.2 j o (h.2 j o hj ho) ho⟩
theorem KV.of_below {w w':World} (h:Below w.heap.size w w'):KV w w':=⟨h.size,fun j o hj _=>(h.block j (lt_of_block hj)).trans hj⟩
theorem KV.str {w w':World} (h:KT 9 w w'):KV w w':=⟨h.1,fun j o hj ho=>h.2 j o hj (fun cs fr=>(ho cs fr).1)⟩
theorem KV.int {w w':World} (h:KT 3 w w'):KV w w':=⟨h.1,fun j o hj ho=>h.2 j o hj (fun cs fr=>(ho cs fr).2.1)⟩
theorem KV.wlk {w w':World} (h:KT 86 w w'):KV w w':=⟨h.1,fun j o hj ho=>h.2 j o hj (fun cs fr=>(ho cs fr).2.2)⟩
theorem KV.blk {w w':World} {g:Nat} {e:TypeId} {cs:Array Value} (k:KV w w') (h:Blk w g e cs) (h1:e≠9) (h2:e≠3) (h3:e≠86):Blk w' g e cs:=by
 unfold Blk at h ⊢;exact k.2 g _ h (fun cs fr=>⟨fun hh=>by injection hh with _ hh;exact h1 hh,fun hh=>by injection hh with _ hh;exact h2 hh,fun hh=>by injection hh with _ hh;exact h3 hh⟩)
structure WkM (S:ProgS) (w0:World) (g:Nat) (x:WkD) (w:World) (nv sv:Value) (gl:Nat):Prop where
 b:Blk w g 86 #[.slice S.A S.p.nodes.length S.ncap,.slice S.B S.p.funcs.length S.fcap,nv,sv,.int .i64 x.next,.slice (some ⟨gl,0,none⟩) x.slot.length x.slot.length,.int .i64 x.node,.int .i64 x.err]
 n:w.ownsRow w0.heap.size 9 1 nv x.vis.length (x.vis.map fun q=>Value.string q.1)
 s:w.ownsRow w0.heap.size 3 1 sv x.vis.length (x.vis.map fun q=>Value.int .i64 q.2)
 l:Blk w gl 3 (x.slot.map (Value.int .i64)).toArray
 ap:∀ k,sv.ownBlock=some k→k≠gl
 bel:Below w0.heap.size w0 w
 gb:w0.heap.size≤g
 gc:w0.heap.size≤gl
def WkS (S:ProgS) (w0:World) (g gl:Nat) (x:WkD) (w:World):Prop:=∃ nv sv,WkM S w0 g x w nv sv gl
theorem WkM.below {S:ProgS} {w0 w w':World} {g:Nat} {x:WkD} {nv sv:Value} {gl:Nat} (h:WkM S w0 g x w nv sv gl) (hb:Below w.heap.size w w'):WkM S w0 g x w' nv sv gl :=
 ⟨h.b.below hb,zagZ h.n hb,zagZ h.s hb,h.l.below hb,h.ap,zaaZ hb h.bel h.bel.size,h.gb,h.gc⟩
theorem WkS.below {S:ProgS} {w0 w w':World} {g gl:Nat} {x:WkD} (h:WkS S w0 g gl x w) (hb:Below w.heap.size w w'):WkS S w0 g gl x w':=by
 obtain ⟨nv,sv,h⟩:=h;exact ⟨nv,sv,h.below hb⟩
theorem WkM.set {S:ProgS} {w0 w:World} {g:Nat} {x y:WkD} {nv sv nv' sv':Value} {gl:Nat} (h:WkM S w0 g x w nv sv gl) (i:Nat) (u:Value)
  (hb : #[.slice S.A S.p.nodes.length S.ncap,.slice S.B S.p.funcs.length S.fcap,nv,sv,.int .i64 x.next,.slice (some ⟨gl,0,none⟩) x.slot.length x.slot.length,.int .i64 x.node,.int .i64 x.err].setIfInBounds i u=#[.slice S.A S.p.nodes.length S.ncap,.slice S.B S.p.funcs.length S.fcap,nv',sv',.int .i64 y.next,.slice (some ⟨gl,0,none⟩) y.slot.length y.slot.length,.int .i64 y.node,.int .i64 y.err])
  (hn:w.ownsRow w0.heap.size 9 1 nv' y.vis.length (y.vis.map fun q=>Value.string q.1)) (hs:w.ownsRow w0.heap.size 3 1 sv' y.vis.length (y.vis.map fun q=>Value.int .i64 q.2)) (hl:y.slot=x.slot) (ap:∀ k,sv'.ownBlock=some k→k≠gl) :
  WkM S w0 g y (w.setCell ⟨g,i,none⟩ u) nv' sv' gl∧KV w (w.setCell ⟨g,i,none⟩ u):=by
 have hk:=KT.set h.b i u;refine ⟨⟨?_,hk.own (by decide) hn,hk.own (by decide) hs,?_,ap,h.bel.grown (zaeY w g i u) h.bel.size (fun k hk=>by injection hk with hk;have:=h.gb;omega),h.gb,h.gc⟩,KV.wlk hk⟩
 ·have:=h.b.set_ i u
  rw [hb] at this;exact this
 ·rw [hl]
  exact hk.blk (by decide) h.l
attribute [local go_sem] zabZ
theorem wfail_s (S:ProgS) (w0:World) (g gl:Nat) (x:WkD) (i e:Int) (w:World) (h:WkS S w0 g gl x w) :
  Calls prog 104 #[.pointer (some ⟨g,0,none⟩),.int .i64 i,.int .i64 e] w fun r w'=>r=.returned (.tuple #[])∧WkS S w0 g gl (failW x i e) w'∧KV w w':=by
 obtain ⟨P,hP⟩:∃ P:Ending→World→Prop,(fun r w'=>r=.returned (.tuple #[])∧WkS S w0 g gl (failW x i e) w'∧KV w w')=P:=⟨_,rfl⟩
 rw [hP];have HP:Hid (∀ w',WkS S w0 g gl (failW x i e) w'→KV w w'→P (.returned (.tuple #[])) w'):=hZz (fun w' h1 h2=>by rw [← hP];exact ⟨rfl,h1,h2⟩);obtain ⟨nv,sv,h⟩:=h;have HM:=hZz h;have c6:=h.b.cell 7 _ rfl;have c5:=h.b.cell 6 _ rfl;have z5:=h.b.frozen 6;have z6:=h.b.frozen 7;clear hP h;obtain ⟨vi,nx,sl,nd,er⟩:=x;dsimp only at c6 c5;by_cases h0:er=0
 ·subst h0
  have h1:=HM.out.set (y:=⟨vi,nx,sl,i,0⟩) 6 (.int .i64 i) rfl HM.out.n HM.out.s rfl HM.out.ap;have h2:=h1.1.set (y:=⟨vi,nx,sl,i,e⟩) 7 (.int .i64 e) rfl h1.1.n h1.1.s rfl h1.1.ap;have HF:Hid (failW ⟨vi,nx,sl,nd,0⟩ i e=⟨vi,nx,sl,i,e⟩):=hZz rfl;have HE:=hZz (And.intro h2.1 (h1.2.trans h2.2));have y7:=h1.1.b.cell 7 _ rfl;have w7:=h1.1.b.frozen 7;dsimp only at y7;clear h1 h2;go_enter func104,ntmps104
  go_wp2_with (fail)
  rw [HF.out] at HP;go_returns;exact HP.out _ ⟨_,_,HE.out.1⟩ HE.out.2
 ·have h0':(er == 0)=false:=by simpa using h0
  have HF:Hid (failW ⟨vi,nx,sl,nd,er⟩ i e=⟨vi,nx,sl,nd,er⟩):=hZz (zbmY h0);clear h0;go_enter func104,ntmps104
  go_wp2_with (fail)
  rw [HF.out] at HP;go_returns;exact HP.out _ ⟨_,_,HM.out⟩ (KV.refl _)
theorem alGet_at {v:List (ByteArray × Int)} {s:ByteArray} {k:Nat} (hk:k<v.length) (h:∀ j (hj:j<v.length),j<k→v[j].1≠s) (he:v[k].1=s):alGet v s=some v[k].2:=by
 induction v generalizing k with
 | nil=>simp at hk
 | cons q r ih =>
  obtain ⟨a,b⟩:=q;cases k with
  | zero=>simp only [alGet];rw [if_pos (by simpa using he)];rfl
  | succ k =>
   have h0:=h 0 (by simp) (by omega);simp only [alGet];rw [if_neg (by simpa using h0)];exact ih (by simpa using hk) (fun j hj hjk=>by have:=h (j+1) (by simpa using hj) (by omega);simpa using this) (by simpa using he)
theorem visible_s (S:ProgS) (w0:World) (g gl:Nat) (x:WkD) (s:ByteArray) (w:World) (h:WkS S w0 g gl x w) (hl:x.vis.length≤10000) :
  Calls prog 103 #[.pointer (some ⟨g,0,none⟩),.string s] w fun r w'=>r=.returned (.int .i64 (visW x.vis s))∧w'=w:=by
 obtain ⟨nv,sv,h⟩:=h;have HM:=hZz h;obtain ⟨v,hv⟩:∃ t,x.vis=t:=⟨_,rfl⟩
 have hn:=h.n;have hs:=h.s;rw [hv] at hn hs hl ⊢;have HN:=hZz hn;have HS:=hZz hs;obtain ⟨nA,nc,rfl⟩:=zajZ hn;obtain ⟨sA,sc,rfl⟩:=zajZ hs;have c2:=h.b.cell 2 _ rfl;have c3:=h.b.cell 3 _ rfl;obtain ⟨R,hR⟩:∃ t,visW v s=t:=⟨_,rfl⟩
 rw [hR];have HR:=hZz hR;obtain ⟨N,hN⟩:∃ t,v.length=t:=⟨_,rfl⟩
 have HNN:=hZz hN;rw [hN] at HN HS c2 c3 hl;clear h hn hs hv hR hN;go_enter func103,ntmps103
 go_wp2_with (fail)
 go_loopw [5] (fun iv wr=>∃ k:Nat,k≤N∧iv=.int .i64 k∧Hid (∀ j (hj:j<v.length),j<k→v[j].1≠s)∧wr=w) (fun iv _=>N - (intOf iv).toNat)
 case atStart=>exact ⟨0,Nat.zero_le _,rfl,hZz (fun j hj h=>by omega),rfl⟩
 case round =>
  obtain ⟨k,hk,rfl,HQ,rfl⟩:=hrel;have hk0:(0:Int)≤(k:Int):=by omega
  by_cases hlt:k<N
  case neg =>
   have e:k=N:=by omega
   subst e
   have HRR:Hid (-1=R):=hZz (by
    rw [← HR.out];unfold visW
    rw [alGet_none.2 (fun q hq=>by
     obtain ⟨j,hj,rfl⟩:=List.mem_iff_getElem.1 hq;exact HQ.out j hj (by rw [← HNN.out];exact hj))]
    rfl)
   have hlt':¬ (k:Int)<(k:Int):=by omega
   clear hlt HQ;go_wp2_with (fail)
   go_returns;exact ⟨by rw [← HRR.out];rfl,by trivial⟩
  have hlt':(k:Int)<(N:Int):=by omega
  have hkv:k<v.length:=by rw [HNN.out];exact hlt
  obtain ⟨gn,cn,e1,d0⟩:=own_atU HN.out k (x:=.string v[k].1) (by rw [List.getElem?_map,List.getElem?_eq_getElem hkv];rfl) hlt;obtain ⟨gs,cs,e2,d1⟩:=own_atU HS.out k (x:=.int .i64 v[k].2) (by rw [List.getElem?_map,List.getElem?_eq_getElem hkv];rfl) hlt;injection e1 with e1 _ e3
  subst e1 e3;injection e2 with e2 _ e4
  subst e2 e4;have hbe:=za1Y v[k].1 s;by_cases he:v[k].1=s
  ·have HRR:Hid (v[k].2=R):=hZz (by
    rw [← HR.out];unfold visW;rw [alGet_at hkv HQ.out he];rfl)
   rw [decide_eq_true he] at hbe;obtain ⟨a,ha⟩:∃ t,v[k].1=t:=⟨_,rfl⟩
   obtain ⟨b,hb⟩:∃ t,v[k].2=t:=⟨_,rfl⟩
   rw [ha] at d0 hbe;rw [hb] at d1 HRR;clear he ha hb hkv;go_wp2_with (fail)
   go_returns;exact ⟨by rw [← HRR.out];rfl,by trivial⟩
  ·have HQ2:Hid (∀ j (hj:j<v.length),j<k+1→v[j].1≠s):=hZz (fun j hj hjk=>by
    by_cases e:j=k
    ·subst e;exact he
    ·exact HQ.out j hj (by omega))
   rw [decide_eq_false he] at hbe;obtain ⟨a,ha⟩:∃ t,v[k].1=t:=⟨_,rfl⟩
   rw [ha] at d0 hbe;clear he ha hkv d1;go_wp2_with (fail)
   exact ⟨⟨k+1,hlt,by simp,HQ2,by trivial⟩,by simp [intOf];omega⟩
end
section
theorem Tryz.infoStrU:(prog.info? 9).map (fun i=>(i.zero,i.size,i.bytes))=some (some (.string ByteArray.empty),1,16):=by kernel_rfl
attribute [local go_sem] zabZ
set_option maxHeartbeats 16000000 in
theorem zbgY (S:ProgS) (w0:World) (g gl:Nat) (x:WkD) (s:ByteArray) (w:World) (h:WkS S w0 g gl x w) (hl:x.vis.length≤10000) (hx:0≤x.next∧x.next≤10000) :
  Calls prog 71 #[.pointer (some ⟨g,0,none⟩),.string s] w fun r w'=>r=.returned (.int .i64 x.next)∧WkS S w0 g gl (declW x s) w'∧KV w w':=by
 obtain ⟨P,hP⟩:∃ P:Ending→World→Prop,(fun r w'=>r=.returned (.int .i64 x.next)∧WkS S w0 g gl (declW x s) w'∧KV w w')=P:=⟨_,rfl⟩
 rw [hP];have HP:Hid (∀ w',WkS S w0 g gl (declW x s) w'→KV w w'→P (.returned (.int .i64 x.next)) w'):=hZz (fun w' h1 h2=>by rw [← hP];exact ⟨rfl,h1,h2⟩);obtain ⟨nv,sv,h⟩:=h;have HM:=hZz h;have hn:=h.n;have hs:=h.s;obtain ⟨n,hnl⟩:∃ t,x.vis.length=t:=⟨_,rfl⟩
 have HNL:=hZz hnl;rw [hnl] at hn hs hl;have HN:=hZz hn;have HS:=hZz hs;have c2:=h.b.cell 2 _ rfl;have z2:=h.b.frozen 2;obtain ⟨i1,hj,hy0,hy1,hy2⟩:=info_parts Tryz.infoStrU;obtain ⟨i2,hj',hz0,hz1,hz2⟩:=info_parts Tryz.infoIntS;have hw1:IntKind.i64.wrap (x.next+1)=x.next+1:=IntWalk.i64_in _ (by omega);have hw2:IntKind.i64.wrap (x.next+1 - 1)=x.next:=by rw [show x.next+1 - 1=x.next by omega];exact IntWalk.i64_in _ (by omega)
 obtain ⟨nx,hnx⟩:∃ t,x.next=t:=⟨_,rfl⟩
 rw [hnx] at hx hw1 hw2 HP;have HNX:=hZz hnx;have HSZ:Hid (w0.heap.size≤w.heap.size):=hZz h.bel.size;clear hP h hn hs hnl hnx;go_enter func71,ntmps71
 go_upto_region 2 with (at_builtin;refine za9Y rfl (.tmp 9) (.tmp 11) 40 rfl i1 _ 16 underlying40 hj hy0 hy1 hy2 rfl (by omega) rfl HN.out [.string s] rfl rfl (by simp [Value.oneCell']) (by omega) (by omega) HSZ.out ?_;intro gA cA w1 hown hb hsz hg ha;have HA1:=hZz hown;have HG1:=hZz hg;have HB1:=hZz (HM.out.b.grown hg (zafZ HN.out HM.out.b (by decide)));have c1:=HB1.out.cell 2 _ rfl;have z1:=HB1.out.frozen 2;clear hown hb hsz hg ha)
 have hk1:=KT.grown HN.out HG1.out;have HK1:Hid (KV w w1):=hZz (KV.str hk1);have hs1:=hk1.own (by decide) HS.out;have hl1:=hk1.blk (by decide) HM.out.l;have hbel1:=HM.out.bel.grown HG1.out HM.out.bel.size (fun k hk=>(HN.out.lt k hk).1);obtain ⟨V1,hV1⟩:∃ W,w1.setCell ⟨g,2,none⟩ (.slice (some ⟨gA,0,none⟩) (n+1) cA)=W:=⟨_,rfl⟩
 have hk2:KT 86 w1 V1:=by rw [← hV1];exact KT.set HB1.out 2 _
 have HBV:Hid (Blk V1 g 86 #[.slice S.A S.p.nodes.length S.ncap,.slice S.B S.p.funcs.length S.fcap,.slice (some ⟨gA,0,none⟩) (n+1) cA,sv,.int .i64 nx,.slice (some ⟨gl,0,none⟩) x.slot.length x.slot.length,.int .i64 x.node,.int .i64 x.err]):=hZz (by rw [← hV1];have:=HB1.out.set_ 2 (.slice (some ⟨gA,0,none⟩) (n+1) cA);rw [HNX.out] at this;exact this);have HNV:=hZz (hk2.own (by decide) HA1.out);have HSV:=hZz (hk2.own (by decide) hs1);have HLV:=hZz (hk2.blk (by decide) hl1);have HKV:=hZz (HK1.out.trans (KV.wlk hk2));have HBE:Hid (Below w0.heap.size w0 V1):=hZz (by rw [← hV1];exact hbel1.grown (zaeY w1 g 2 _) hbel1.size (fun k hk=>by injection hk with hk;have:=HM.out.gb;omega));rw [hV1];clear hk1 hs1 hl1 hbel1 hV1 hk2 c2 z2 c1 z1;have HBD:=hZz (HBV.out.below (zadZ V1));have c3:=HBD.out.cell 3 _ rfl;have c4:=HBD.out.cell 4 _ rfl;have v3:=HBV.out.cell 3 _ rfl;have v4:=HBV.out.cell 4 _ rfl;have HSA:=hZz (zagZ HSV.out ((zadZ V1).trans ((zacZ V1.drew (.cells #[.int .i64 nx] 3)).mono (by simp))));have HLA:=hZz (HLV.out.below ((zadZ V1).trans ((zacZ V1.drew (.cells #[.int .i64 nx] 3)).mono (by simp))));have HNA:=hZz (zagZ HNV.out ((zadZ V1).trans ((zacZ V1.drew (.cells #[.int .i64 nx] 3)).mono (by simp))));have HBA:=hZz (HBD.out.alloc (.cells #[.int .i64 nx] 3));have HBEA:Hid (Below w0.heap.size w0 (V1.drew.alloc (.cells #[.int .i64 nx] 3))):=hZz (zaaZ ((zadZ V1).trans ((zacZ V1.drew (.cells #[.int .i64 nx] 3)).mono (by simp))) HBE.out HBE.out.size);go_region_law (rw [if_pos (by rfl)];refine wp_append_lies _ (.tmp 19) (.tmp 24) 56 rfl w0.heap.size 3 i2 _ 1 8 underlying56 hj' hz0 hz1 hz2 rfl ?k1 _ n _ rfl HSA.out ⟨V1.drew.heap.size,0,none⟩ 1 1 [.int .i64 nx] rfl rfl (zapY V1.drew _ _) ?k2 ?k3 ?k4 ?k5 ?k6 _ rfl ?_;(case k1=>decide);(case k2=>simp [Value.oneCell']);(case k3=>decide);(case k4=>(unfold maxLen;omega));(case k5=>omega);(case k6=>exact HBEA.out.size);intro g6 cap6 w6 hown6 hgr6 hat6 _;have HB6:=hZz (HBA.out.grown hgr6 (zafZ HSA.out HBA.out (by decide)));have z6:=HB6.out.frozen 3;have o6:=HB6.out.cell 3 _ rfl;have HO6:=hZz hown6;have HGR:=hZz hgr6;have HAT:=hZz hat6;clear hown6 hgr6 hat6)
 all_goals
  have h6:=HB6.out.set_ 3 (.slice (some ⟨g6,0,none⟩) (n+1) cap6);have y4:=h6.cell 4 _ rfl;have w4:=h6.frozen 4;have h7:=h6.set_ 4 (.int .i64 (nx+1));have x4:=h7.cell 4 _ rfl;have HB7:=hZz h7;clear h6 h7;go_wp2_with (fail)
  have k6:=KT.grown HSA.out HGR.out;have k7:=KT.set HB6.out 3 (.slice (some ⟨g6,0,none⟩) (n+1) cap6);have k8:=KT.set (HB6.out.set_ 3 (.slice (some ⟨g6,0,none⟩) (n+1) cap6)) 4 (.int .i64 (nx+1));have hl6:=HLA.out.grown HGR.out (fun e=>HM.out.ap gl e.symm rfl)
  have hg6:g6≠gl:=by
   rcases HAT.out with h | h
   ·exact HM.out.ap g6 h
   ·intro e
    have:=HLA.out.lt
    rw [← e,h] at this;exact absurd this (Nat.lt_irrefl _)
  have hvl:(declW x s).vis.length=n+1:=by simp only [declW];rw [List.length_append,HNL.out];rfl
  refine HP.out _ ⟨.slice (some ⟨gA,0,none⟩) (n+1) cA,.slice (some ⟨g6,0,none⟩) (n+1) cap6,⟨?_,?_,?_,?_,?_,?_,HM.out.gb,HM.out.gc⟩⟩ (((HKV.out.trans (KV.of_below ((zadZ V1).trans ((zacZ V1.drew (.cells #[.int .i64 nx] 3)).mono (by simp))))).trans (KV.int k6)).trans ((KV.wlk k7).trans (KV.wlk k8)))
  ·have:=HB7.out
   show Blk _ g 86 #[_,_,_,_,.int .i64 (x.next+1),_,_,_];rw [HNX.out];exact this
  ·rw [hvl]
   have:=k8.own (by decide) (k7.own (by decide) (k6.own (by decide) HNA.out))
   simp only [declW,List.map_append,List.map_cons,List.map_nil];exact this
  ·rw [hvl]
   have:=k8.own (by decide) (k7.own (by decide) HO6.out)
   simp only [declW,List.map_append,List.map_cons,List.map_nil,HNX.out];exact this
  ·exact k8.blk (by decide) (k7.blk (by decide) hl6)
  ·intro k hk
   have e:g6=k:=by simpa [Value.ownBlock] using hk
   rw [← e];exact hg6
  ·have hb1:=HBEA.out.grown HGR.out HBEA.out.size (fun k hk=>(HSA.out.lt k hk).1)
   have hb2:=hb1.grown (zaeY w6 g 3 (.slice (some ⟨g6,0,none⟩) (n+1) cap6)) hb1.size (fun k hk=>by injection hk with hk;have:=HM.out.gb;omega);exact hb2.grown (zaeY _ g 4 (.int .i64 (nx+1))) hb2.size (fun k hk=>by injection hk with hk;have:=HM.out.gb;omega)
end
end Go.Proofs.YthiimbhjpdphpaaGreatDoor
