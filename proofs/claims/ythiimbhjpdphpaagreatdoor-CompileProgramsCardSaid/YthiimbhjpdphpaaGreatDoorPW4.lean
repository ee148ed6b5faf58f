/- W1, W2, W3, W4 -/
import Derived.Test.YthiimbhjpdphpaaGreatDoorPW0
import Derived.StillTailTactics
set_option linter.unusedVariables false
set_option linter.unusedSimpArgs false
namespace Go.Proofs.YthiimbhjpdphpaaGreatDoor
open Go.RowKit
set_option maxRecDepth 100000
set_option maxHeartbeats 8000000
open Go.Proofs.Tryz
section
def nilK:Value:=.slice none 0 0
theorem zbjY (n0:Nat) (w:World) (i:InsD) (h:i.keys=[]):OKeys n0 w (i,nilK):=by
 unfold OKeys nilK;rw [h];exact ⟨rfl,.inl ⟨rfl,rfl⟩⟩
theorem add1_s (w0:World) (S:ProgS) (sA:Option Addr) (sn sc gW:Nat) (e0:Int) (L:List (InsD × Value)) (w:World) (op a:Int) (s:ByteArray) (ks:List ByteArray) (kv:Value) (h:WrSt w0 w S sA sn sc gW e0 L) (hL:L.length≤100000) (hk:OKeys w0.heap.size w (⟨op,a,s,ks⟩,kv)) (ho:kv.oneCell'=true) :
  Calls prog 42 #[.pointer (some ⟨gW,0,none⟩),.slice (some ⟨w.heap.size,0,none⟩) 1 1] (w.alloc (.cells #[.int .i64 op,.int .i64 a,.string s,kv] 53)) fun e w'=>e=.returned (.tuple #[])∧WrSt w0 w' S sA sn sc gW e0 (L ++ [(⟨op,a,s,ks⟩,kv)])∧KW w0.heap.size gW w w':=by
 have hb:=zacZ w (.cells #[.int .i64 op,.int .i64 a,.string s,kv] 53);refine (add_s w0 S sA sn sc gW e0 L [(⟨op,a,s,ks⟩,kv)] _ w.heap.size 1 (h.below hb) rfl (by omega) hL (Blk.new w _ _) ?_ ?_).mono ?_
 ·intro p hp
  simp only [List.mem_singleton] at hp;subst hp;exact zagZ hk hb
 ·intro p hp
  simp only [List.mem_singleton] at hp;subst hp;exact ho
 ·rintro e w' ⟨rfl,h1,h2⟩
  exact ⟨rfl,h1,(h.kw hb).trans h2⟩
theorem add2_s (w0:World) (S:ProgS) (sA:Option Addr) (sn sc gW:Nat) (e0:Int) (L:List (InsD × Value)) (w:World) (op op2:Int) (h:WrSt w0 w S sA sn sc gW e0 L) (hL:L.length≤100000) :
  Calls prog 42 #[.pointer (some ⟨gW,0,none⟩),.slice (some ⟨w.heap.size,0,none⟩) 2 2] (w.alloc (.cells #[.int .i64 op,.int .i64 0,.string ByteArray.empty,nilK,.int .i64 op2,.int .i64 0,.string ByteArray.empty,nilK] 53)) fun e w'=>e=.returned (.tuple #[])∧WrSt w0 w' S sA sn sc gW e0 (L ++ [(insO op 0,nilK),(insO op2 0,nilK)])∧KW w0.heap.size gW w w':=by
 have hb:=zacZ w (.cells #[.int .i64 op,.int .i64 0,.string ByteArray.empty,nilK,.int .i64 op2,.int .i64 0,.string ByteArray.empty,nilK] 53);refine (add_s w0 S sA sn sc gW e0 L [(insO op 0,nilK),(insO op2 0,nilK)] _ w.heap.size 2 (h.below hb) rfl (by omega) hL (Blk.new w _ _) ?_ ?_).mono ?_
 ·intro p hp
  simp only [List.mem_cons,List.not_mem_nil,or_false] at hp;rcases hp with rfl | rfl
  ·exact zbjY _ _ _ rfl
  ·exact zbjY _ _ _ rfl
 ·intro p hp
  simp only [List.mem_cons,List.not_mem_nil,or_false] at hp;rcases hp with rfl | rfl <;> rfl
 ·rintro e w' ⟨rfl,h1,h2⟩
  exact ⟨rfl,h1,(h.kw hb).trans h2⟩
structure FwdAt (w:World) (gW gb ga k:Nat):Prop where
 b:Blk w gb 60 #[.pointer (some ⟨gW,0,none⟩)]
 a:Blk w ga 3 #[.int .i64 k]
 nb:gb≠gW
 na:ga≠gW
theorem FwdAt.kw {n0:Nat} {w w':World} {gW gb ga k:Nat} (h:FwdAt w gW gb ga k) (hk:KW n0 gW w w'):FwdAt w' gW gb ga k:=⟨hk.blk h.b h.nb (by decide),hk.blk h.a h.na (by decide),h.nb,h.na⟩
attribute [local go_sem] zabZ
theorem za7Y (w0:World) (S:ProgS) (sA:Option Addr) (sn sc gW:Nat) (e0:Int) (L:List (InsD × Value)) (w:World) (op:Int) (h:WrSt w0 w S sA sn sc gW e0 L) (hL:L.length≤100000) :
  Calls prog 100 #[.pointer (some ⟨gW,0,none⟩),.int .i64 op] w fun e w'=>∃ gb ga,e=.returned (.func (.func 147) #[] #[.pointer (some ⟨gb,0,none⟩),.pointer (some ⟨ga,0,none⟩)])∧FwdAt w' gW gb ga L.length∧WrSt w0 w' S sA sn sc gW e0 (L ++ [(insO op 0,nilK)])∧KW w0.heap.size gW w w':=by
 obtain ⟨P,hP⟩:∃ P:Ending→World→Prop,(fun e w'=>∃ gb ga,e=.returned (.func (.func 147) #[] #[.pointer (some ⟨gb,0,none⟩),.pointer (some ⟨ga,0,none⟩)])∧FwdAt w' gW gb ga L.length∧WrSt w0 w' S sA sn sc gW e0 (L ++ [(insO op 0,nilK)])∧KW w0.heap.size gW w w')=P:=⟨_,rfl⟩
 rw [hP];have HP:Hid (∀ gb ga w',FwdAt w' gW gb ga L.length→WrSt w0 w' S sA sn sc gW e0 (L ++ [(insO op 0,nilK)])→KW w0.heap.size gW w w'→P (.returned (.func (.func 147) #[] #[.pointer (some ⟨gb,0,none⟩),.pointer (some ⟨ga,0,none⟩)])) w'):=hZz (fun gb ga w' h1 h2 h3=>by rw [← hP];exact ⟨gb,ga,rfl,h1,h2,h3⟩);obtain ⟨gb,hgb⟩:∃ g,w.heap.size=g:=⟨_,rfl⟩
 obtain ⟨W1,hW1⟩:∃ W,w.alloc (.cells #[.pointer (some ⟨gW,0,none⟩)] 60)=W:=⟨_,rfl⟩
 have hb1:Below w.heap.size w W1:=by rw [← hW1];exact zacZ _ _
 have hX1:Blk W1 gb 60 #[.pointer (some ⟨gW,0,none⟩)]:=by rw [← hW1,← hgb];exact Blk.new _ _ _
 have h1:=h.below hb1;have hlt:gW<w.heap.size:=by obtain ⟨iv,q,_⟩:=h.wr;exact q.lt
 have HNB:Hid (gb≠gW):=hZz (by omega);obtain ⟨iv,hw1,ho1⟩:=h1.wr;obtain ⟨iA,ic,rfl⟩:=zajZ ho1;obtain ⟨n,hn⟩:∃ n,L.length=n:=⟨_,rfl⟩
 have HN:=hZz hn;rw [hn] at hL hw1 HP;have HH:=hZz h;have H1:=hZz h1;have HX1:=hZz hX1;have HB1:=hZz hb1;have HW1:=hZz hW1;have HGB:=hZz hgb;have HLT:=hZz hlt;obtain ⟨ga,hga⟩:∃ g,W1.heap.size=g:=⟨_,rfl⟩
 obtain ⟨W2,hW2⟩:∃ W,W1.alloc (.cells #[.int .i64 n] 3)=W:=⟨_,rfl⟩
 have HB2:Hid (Below w.heap.size w W2):=hZz (by rw [← hW2];exact hb1.alloc hb1.size _)
 have HX2:Hid (FwdAt W2 gW gb ga n):=hZz (by
  refine ⟨by rw [← hW2];exact hX1.alloc _,by rw [← hW2,← hga];exact Blk.new _ _ _,HNB.out,?_⟩
  have:=hb1.size
  omega)
 have H2:Hid (WrSt w0 W2 S sA sn sc gW e0 L):=hZz (h.below HB2.out);have HAD:Hid (∀ wx,WrSt w0 wx S sA sn sc gW e0 L→Calls prog 42 #[.pointer (some ⟨gW,0,none⟩),.slice (some ⟨wx.heap.size,0,none⟩) 1 1] (wx.alloc (.cells #[.int .i64 op,.int .i64 0,.string ByteArray.empty,.slice none 0 0] 53)) fun e w'=>e=.returned (.tuple #[])∧WrSt w0 w' S sA sn sc gW e0 (L ++ [(insO op 0,nilK)])∧KW w0.heap.size gW wx w'):=hZz (fun wx hx=>add1_s w0 S sA sn sc gW e0 L wx op 0 ByteArray.empty [] (.slice none 0 0) hx (by rw [hn];exact hL) (zbjY _ _ ⟨op,0,ByteArray.empty,[]⟩ rfl) rfl);have HW2:=hZz hW2;have HGA:=hZz hga;obtain ⟨c0,c1,c2,c3,c4⟩:=blkW hw1;have d0:=hX1.cell 0 _ rfl;clear hP h hb1 hX1 h1 hlt hw1 ho1 hn hgb hW1 hga hW2 c0 c1 c2 c3;go_enter func100,ntmps100
 go_upto_region 1 with fail
 rw [HGB.out,HW1.out];go_upto_region 2 with fail
 rw [HGA.out,HW2.out];clear HGB HW1 HGA HW2 c4 d0;have d0:=HX2.out.b.cell 0 _ rfl
 go_wp2_with (first
  | (go_at_call 42;(refine (HAD.out _ H2.out).mono ?_);rintro e w4 ⟨rfl,hs4,hk4⟩;have HS4:=hZz hs4;have HK4:=hZz hk4;clear hs4 hk4))
 exact HP.out _ _ _ (HX2.out.kw HK4.out) HS4.out ((HH.out.kw HB2.out).trans HK4.out)
end
section
theorem ownSet {w:World} {base n size g cap:Nat} {e:TypeId} {xs:List Value} (h:w.ownsRow base e size (.slice (some ⟨g,0,none⟩) n cap) n xs) (j:Nat) (u:Value) :
  (w.setCell ⟨g,j,none⟩ u).ownsRow base e size (.slice (some ⟨g,0,none⟩) n cap) n (xs.set j u):=by
 obtain ⟨h1,h2⟩:=h;refine ⟨by rw [List.length_set];exact h1,?_⟩
 rcases h2 with ⟨e,_⟩ | ⟨g',cap',cur,e,hb,hh,hc1,hc2,hc3,hc4⟩
 ·cases e
 ·injection e with e1 e2 e3
  injection e1 with e1
  injection e1 with e1
  subst e1 e3;refine .inr ⟨g,cap,cur.setIfInBounds j u,rfl,hb,?_,hc1,hc2,by simpa using hc3,?_⟩
  ·simp [World.setCell,Array.getElem?_modify,hh]
  ·rw [← hc4,Array.toList_setIfInBounds,List.take_set]
theorem own_blkG {w:World} {base n size g cap:Nat} {e:TypeId} {xs:List Value} (h:w.ownsRow base e size (.slice (some ⟨g,0,none⟩) n cap) n xs):∃ cur:Array Value,Blk w g e cur∧∀ (j:Nat) (u:Value),xs[j]? = some u→cur[j]? = some u:=by
 obtain ⟨_,h2⟩:=h;rcases h2 with ⟨e,_⟩ | ⟨g',cap',cur,e,hb,hh,hc1,hc2,hc3,hc4⟩
 ·cases e
 ·injection e with e1 e2 e3
  injection e1 with e1
  injection e1 with e1
  subst e1;refine ⟨cur,hh,fun j u hj=>?_⟩
  rw [← hc4,List.getElem?_take] at hj;split at hj
  ·simpa using hj
  ·cases hj
theorem own_ptr {w:World} {base n size:Nat} {e:TypeId} {v:Value} {xs:List Value} (h:w.ownsRow base e size v n xs) (hn:0<n):∃ g cap,v=.slice (some ⟨g,0,none⟩) n cap:=by
 obtain ⟨_,h2⟩:=h;rcases h2 with ⟨_,e⟩ | ⟨g,cap,cur,e,_⟩
 ·omega
 ·exact ⟨g,cap,e⟩
def setA (p:InsD × Value) (v:Int):InsD × Value:=(⟨p.1.op,v,p.1.s,p.1.keys⟩,p.2)
theorem flat_get:∀ (L:List (InsD × Value)) (k:Nat) (h:k<L.length),(L.flatMap insRow)[k * 4+1]? = some (.int .i64 (L[k]).1.a)
 | [],k,h=>by simp at h
 | p :: r,0,_=>rfl
 | p :: r,k+1,h=>by
  have:=flat_get r k (by simpa using h)
  rw [List.flatMap_cons];show ([_,_,_,_] ++ r.flatMap insRow)[(k+1) * 4+1]? = _;rw [List.getElem?_append_right (by simp;omega)];have e:(k+1) * 4+1 - 4=k * 4+1:=by omega
  simpa [e] using this
theorem flat_set:∀ (L:List (InsD × Value)) (k:Nat) (h:k<L.length) (v:Int),(L.flatMap insRow).set (k * 4+1) (.int .i64 v)=(L.set k (setA L[k] v)).flatMap insRow
 | [],k,h,v=>by simp at h
 | p :: r,0,_,v=>rfl
 | p :: r,k+1,h,v=>by
  have:=flat_set r k (by simpa using h) v
  rw [List.flatMap_cons,List.set_cons_succ,List.flatMap_cons,List.getElem_cons_succ,← this];show ([_,_,_,_] ++ r.flatMap insRow).set ((k+1) * 4+1) _=[_,_,_,_] ++ _;rw [List.set_append_right _ _ (by simp;omega)];have e:(k+1) * 4+1 - 4=k * 4+1:=by omega
  simp [e]
attribute [local go_sem] zabZ
set_option maxHeartbeats 16000000 in
theorem end_s (w0:World) (S:ProgS) (sA:Option Addr) (sn sc gW:Nat) (e0:Int) (L:List (InsD × Value)) (w:World) (gb ga k:Nat) (h:WrSt w0 w S sA sn sc gW e0 L) (hL:L.length≤100000) (he:0≤e0∧e0≤4000) (hF:FwdAt w gW gb ga k) (hk:k<L.length) :
  Calls prog 147 #[.pointer (some ⟨gb,0,none⟩),.pointer (some ⟨ga,0,none⟩)] w fun e w'=>e=.returned (.tuple #[])∧WrSt w0 w' S sA sn sc gW e0 (L.set k (setA L[k] (e0+(L.length:Nat))))∧KW w0.heap.size gW w w':=by
 obtain ⟨L2,hL2⟩:∃ L2,L.set k (setA L[k] (e0+(L.length:Nat)))=L2:=⟨_,rfl⟩
 rw [hL2];obtain ⟨P,hP⟩:∃ P:Ending→World→Prop,(fun e w'=>e=.returned (.tuple #[])∧WrSt w0 w' S sA sn sc gW e0 L2∧KW w0.heap.size gW w w')=P:=⟨_,rfl⟩
 rw [hP];have HP:Hid (∀ w',WrSt w0 w' S sA sn sc gW e0 L2→KW w0.heap.size gW w w'→P (.returned (.tuple #[])) w'):=hZz (fun w' h1 h2=>by rw [← hP];exact ⟨rfl,h1,h2⟩);obtain ⟨⟨iv,hw,ho⟩,hks,hbl,hbw⟩:=h;obtain ⟨gi,ic,rfl⟩:=own_ptr ho (by omega);have hWr:WrSt w0 w S sA sn sc gW e0 L:=⟨⟨_,hw,ho⟩,hks,hbl,hbw⟩
 obtain ⟨cur,hcur,hget⟩:=own_blkG ho;have hq:=hget _ _ (flat_get L k hk);obtain ⟨av,hav⟩:∃ x,(L[k]).1.a=x:=⟨_,rfl⟩
 rw [hav] at hq;have n1:gi≠gb:=za8Y hcur hF.b (by decide);have n2:gi≠ga:=za8Y hcur hF.a (by decide);have n3:gi≠gW:=za8Y hcur hw (by decide);have HHE:Hid (∀ wx,Below w.heap.size w wx→Calls prog 27 #[.pointer (some ⟨gW,0,none⟩)] wx fun e w'=>e=.returned (.int .i64 (e0+(L.length:Nat)))∧∃ q,w'=wx.drewN q):=hZz (fun wx hb=>here_s w0 S sA sn sc gW e0 L wx (hWr.below hb) he hL);have FACT:Hid (∀ wx,Below w.heap.size w wx→wx.cell? ⟨gb,0,none⟩=some (.pointer (some ⟨gW,0,none⟩))∧wx.cell? ⟨ga,0,none⟩=some (.int .i64 k)∧wx.cell? ⟨gW,4,none⟩=some (.slice (some ⟨gi,0,none⟩) L.length ic)):=hZz (fun wx hb=>⟨(hF.b.below hb).cell 0 _ rfl,(hF.a.below hb).cell 0 _ rfl,(hw.below hb).cell 4 _ rfl⟩);have FZ:Hid (∀ wx,Below w.heap.size w wx→wx.frozen? ⟨gi,k * 4+1,none⟩=false∧wx.cell? ⟨gi,k * 4+1,none⟩=some (.int .i64 av)):=hZz (fun wx hb=>⟨(hcur.below hb).frozen _,(hcur.below hb).cell _ _ hq⟩);have F4:Hid (∀ wx,Below w.heap.size w wx→∀ x,(wx.setCell ⟨gi,k * 4+1,none⟩ (.int .i64 x)).cell? ⟨gb,0,none⟩=some (.pointer (some ⟨gW,0,none⟩))∧(wx.setCell ⟨gi,k * 4+1,none⟩ (.int .i64 x)).cell? ⟨ga,0,none⟩=some (.int .i64 k)∧(wx.setCell ⟨gi,k * 4+1,none⟩ (.int .i64 x)).cell? ⟨gW,4,none⟩=some (.slice (some ⟨gi,0,none⟩) L.length ic)):=hZz (fun wx hb x=>⟨((hF.b.below hb).far (p:=⟨gi,k * 4+1,none⟩) (fun e=>n1 e.symm) _).cell 0 _ rfl,((hF.a.below hb).far (p:=⟨gi,k * 4+1,none⟩) (fun e=>n2 e.symm) _).cell 0 _ rfl,((hw.below hb).far (p:=⟨gi,k * 4+1,none⟩) (fun e=>n3 e.symm) _).cell 4 _ rfl⟩);have HWr:=hZz hWr;have HOW:=hZz ho;have HWB:=hZz hw;have HL2:=hZz hL2;have HN3:=hZz n3;have HKL:=hZz hk;obtain ⟨n,hn⟩:∃ n,L.length=n:=⟨_,rfl⟩
 have HN:=hZz hn;rw [hn] at hL hk HHE FACT F4 HOW HWB;have hk':(k:Int)<(n:Int):=by omega
 have hk0:(0:Int)≤(k:Int):=by omega
 obtain ⟨x,hx⟩:∃ x,e0+(n:Int)=x:=⟨_,rfl⟩
 have HXX:=hZz hx;rw [hx] at HHE;have f0:=FACT.out _ (Below.refl _ _);have fd:=FACT.out _ (zadZ w);clear hP hw ho hks hbl hbw hWr hcur hget hq hav n1 n2 n3 hL2 hn hx hF;go_enter func147,ntmps147
 go_region_held3 (fun w'=>w'.cell? ⟨gb,0,none⟩=some (.pointer (some ⟨gW,0,none⟩))∧w'.cell? ⟨ga,0,none⟩=some (.int .i64 k)∧w'.cell? ⟨gW,4,none⟩=some (.slice (some ⟨gi,0,none⟩) n ic)) (first | with_reducible exact f0 | with_reducible exact fd | with_reducible exact f3 | with_reducible exact f4 _) (first
  | (go_at_call 27;(with_reducible refine (HHE.out _ (zadZ w)).mono ?_);rintro e w3 ⟨rfl,hw3⟩;have HB3:Hid (Below w.heap.size w w3):=hZz (by obtain ⟨q,rfl⟩:=hw3;exact zaeZ (zadZ w) q);have f3:=FACT.out _ HB3.out;have f4:=F4.out w3 HB3.out;obtain ⟨z3,d3⟩:=FZ.out w3 HB3.out;clear hw3))
 all_goals
  go_simp;go_end0
  have HKW:Hid (KW w0.heap.size gW w (w3.setCell ⟨gi,k * 4+1,none⟩ (.int .i64 x))):=hZz ((HWr.out.kw HB3.out).setI (zagZ HOW.out HB3.out) (Nat.le_refl _) _ _);refine HP.out _ ⟨⟨_,(HWB.out.below HB3.out).far (p:=⟨gi,k * 4+1,none⟩) (fun e=>HN3.out e.symm) _,?_⟩,?_,HKW.out.bel HWr.out.bl,HWr.out.bW⟩ HKW.out
  ·have:=ownSet (zagZ HOW.out HB3.out) (k * 4+1) (.int .i64 x)
   rw [flat_set L k HKL.out x] at this;rw [← HL2.out,List.length_set,HN.out,HXX.out];exact this
  ·intro p hp
   rw [← HL2.out] at hp;have hm:=List.mem_or_eq_of_mem_set hp
   have hpw:OKeys w0.heap.size w p:=by
    rcases hm with hm | rfl
    ·exact HWr.out.keys p hm
    ·exact (HWr.out.keys L[k] (List.getElem_mem HKL.out):OKeys w0.heap.size w L[k])
   exact HKW.out.ownS HWB.out (by decide) hpw
end
section
def callI (p:ProgD) (n:NodeD):InsD:=if 0≤findF p n.text then insO 17 (findF p n.text) else ⟨18,n.kids.length,n.text,[]⟩
theorem callI_keys (p:ProgD) (n:NodeD):(callI p n).keys=[]:=by
 unfold callI;split <;> rfl
theorem blk4n {w:World} {g:Nat} {t:TypeId} {v0 v1 v2 v3:Value} (h:Blk w g t #[v0,v1,v2,v3]):w.cell? ⟨g,0,none⟩=some v0∧w.cell? ⟨g,1,none⟩=some v1∧w.cell? ⟨g,2,none⟩=some v2∧w.cell? ⟨g,3,none⟩=some v3 :=
 ⟨h.cell 0 _ rfl,h.cell 1 _ rfl,h.cell 2 _ rfl,h.cell 3 _ rfl⟩
attribute [local go_sem] zabZ
theorem wcall_s (w0:World) (S:ProgS) (sA:Option Addr) (sn sc gW:Nat) (e0:Int) (L:List (InsD × Value)) (w:World) (n:NodeD) (kA iA:Option Addr) (kc ic:Nat) (h:WrSt w0 w S sA sn sc gW e0 L) (hS:ProgV w0 S) (hfl:S.p.funcs.length≤1000):Calls prog 101 #[.pointer (some ⟨gW,0,none⟩),.agg (nodeC n kA kc iA ic)] w fun e w'=>e=.returned (.agg (insRow (callI S.p n,nilK)).toArray)∧Below w.heap.size w w':=by
 obtain ⟨R,hR⟩:∃ R,(insRow (callI S.p n,nilK)).toArray=R:=⟨_,rfl⟩
 rw [hR];obtain ⟨P,hP⟩:∃ P:Ending→World→Prop,(fun e w'=>e=.returned (.agg R)∧Below w.heap.size w w')=P:=⟨_,rfl⟩
 rw [hP];have HP:Hid (∀ b w',b=R→Below w.heap.size w w'→P (.returned (.agg b)) w'):=hZz (fun b w' h1 h2=>by rw [← hP];exact ⟨by rw [h1],h2⟩);obtain ⟨f,hf⟩:∃ f,findF S.p n.text=f:=⟨_,rfl⟩
 have HR:Hid (R=if 0≤f then #[.int .i64 17,.int .i64 f,.string ⟨#[]⟩,nilK] else #[.int .i64 18,.int .i64 n.kids.length,.string n.text,nilK]):=hZz (by
  rw [← hR,← hf];unfold callI;split <;> rfl)
 have HFI:Hid (∀ wx,Below w.heap.size w wx→Calls prog 87 #[.agg #[.slice S.A S.p.nodes.length S.ncap,.slice S.B S.p.funcs.length S.fcap],.string n.text] wx fun e w'=>e=.returned (.int .i64 f)∧Below wx.heap.size wx w'):=hZz (fun wx hb=>by rw [← hf];exact find_s S n.text wx ((hS.below h.bl).below hb) (by omega));have HH:=hZz h;unfold nodeC;obtain ⟨m,hme⟩:∃ m,n.kids.length=m:=⟨_,rfl⟩
 rw [hme] at HR ⊢;generalize n.kind=nk;generalize n.text=nt at HR HFI ⊢;generalize n.int=ni;generalize n.keys.length=q;obtain ⟨g,hg⟩:∃ g,w.heap.size=g:=⟨_,rfl⟩
 obtain ⟨W1,hW1⟩:∃ W,w.alloc (.cells #[.int .i64 nk,.string nt,.int .i64 ni,.slice kA q kc,.slice iA m ic] 58)=W:=⟨_,rfl⟩
 obtain ⟨g2,hg2⟩:∃ g,W1.heap.size=g:=⟨_,rfl⟩
 obtain ⟨W2,hW2⟩:∃ W,W1.alloc (.cells #[.int .i64 0,.int .i64 0,.string ⟨#[]⟩,.slice none 0 0] 53)=W:=⟨_,rfl⟩
 have hx1:Blk W1 g 58 #[.int .i64 nk,.string nt,.int .i64 ni,.slice kA q kc,.slice iA m ic]:=by rw [← hW1,← hg];exact Blk.new _ _ _
 have HX1:Hid (Blk W2 g 58 #[.int .i64 nk,.string nt,.int .i64 ni,.slice kA q kc,.slice iA m ic]):=hZz (by rw [← hW2];exact hx1.alloc _);have HY1:Hid (Blk W2 g2 53 #[.int .i64 0,.int .i64 0,.string ⟨#[]⟩,.slice none 0 0]):=hZz (by rw [← hW2,← hg2];exact Blk.new _ _ _);have HB1:Hid (Below w.heap.size w W2):=hZz (by rw [← hW2,← hW1];exact zauY _ _ _);have hle:w.heap.size≤g2:=by rw [← hg2,← hW1];simp
 have HLE:=hZz hle;have HW1:=hZz hW1;have HW2:=hZz hW2;have HG:=hZz hg;have HG2:Hid (g+1=g2):=hZz (by rw [← hg2,← hW1,← hg];simp);clear hR hP hf h hS hme hg hW1 hW2 hg2 hfl hx1 hle;go_enter func101,ntmps101
 go_upto_region 1 with fail
 rw [HG.out,HW1.out]
 try rw [HG2.out]
 rw [HW2.out];clear HG HW1 HW2 HG2
 have FACT:Hid (∀ wx,Below W2.heap.size W2 wx→(wx.cell? ⟨gW,0,none⟩=some (.slice S.A S.p.nodes.length S.ncap)∧wx.cell? ⟨gW,1,none⟩=some (.slice S.B S.p.funcs.length S.fcap))∧wx.cell? ⟨g,1,none⟩=some (.string nt)):=hZz (fun wx hb=>by
  obtain ⟨⟨iv,h1,_⟩,_,_,_⟩:=HH.out.below (zaaZ hb HB1.out HB1.out.size);obtain ⟨c0,c1,_⟩:=blkW h1;exact ⟨⟨c0,c1⟩,(HX1.out.below hb).cell 1 _ rfl⟩)
 have f0:=FACT.out _ (Below.refl _ _);have fd:=FACT.out _ (zadZ W2)
 go_region_held3 (fun w'=>(w'.cell? ⟨gW,0,none⟩=some (.slice S.A S.p.nodes.length S.ncap)∧w'.cell? ⟨gW,1,none⟩=some (.slice S.B S.p.funcs.length S.fcap))∧w'.cell? ⟨g,1,none⟩=some (.string nt)) (first | with_reducible exact f0 | with_reducible exact fd | with_reducible exact f3) (first
  | (go_at_call 87;(with_reducible refine (HFI.out _ (zaaZ (zadZ W2) HB1.out HB1.out.size)).mono ?_);rintro e w3 ⟨rfl,hb3⟩;have HB23:=hZz (zahZ hb3 (zadZ W2));have f3:=FACT.out _ HB23.out;clear hb3))
 all_goals
  clear f0 fd f3;have HX3:=hZz (HX1.out.below HB23.out);have HY3:=hZz (HY1.out.below HB23.out);have HB3:=hZz (zaaZ HB23.out HB1.out HB1.out.size);have x3:=blk5n HX3.out;obtain ⟨y0,y1,y2,y3⟩:=blk4n HY3.out;have z3:=fun i=>HY3.out.frozen i
  by_cases h0:0≤f
  ·have HR2:=hZz (HR.out.trans (if_pos h0))
   obtain ⟨W4,hW4⟩:∃ W,(((w3.setCell ⟨g2,0,none⟩ (.int .i64 17)).setCell ⟨g2,1,none⟩ (.int .i64 f)).setCell ⟨g2,2,none⟩ (.string ⟨#[]⟩)).setCell ⟨g2,3,none⟩ (.slice none 0 0)=W:=⟨_,rfl⟩
   have HY4:Hid (Blk W4 g2 53 #[.int .i64 17,.int .i64 f,.string ⟨#[]⟩,.slice none 0 0]):=hZz (by rw [← hW4];exact (((HY3.out.set_ 0 _).set_ 1 _).set_ 2 _).set_ 3 _);have HB4:Hid (Below w.heap.size w W4):=hZz (by rw [← hW4];exact (((HB3.out.setCell (p:=⟨g2,0,none⟩) HLE.out _).setCell (p:=⟨g2,1,none⟩) HLE.out _).setCell (p:=⟨g2,2,none⟩) HLE.out _).setCell (p:=⟨g2,3,none⟩) HLE.out _);have HW4:=hZz hW4;clear hW4;go_wp2_with (fail)
   rw [HW4.out];clear y0 y1 y2 y3;obtain ⟨y0,y1,y2,y3⟩:=blk4n HY4.out;refine bodyPost_ret (by simp [results,Tryz.results101,y0,y1,y2,y3,go_sem];try rfl) rfl ?_
   exact HP.out _ _ HR2.out.symm HB4.out
  ·have HR2:=hZz (HR.out.trans (if_neg h0))
   obtain ⟨W4,hW4⟩:∃ W,(((w3.setCell ⟨g2,0,none⟩ (.int .i64 18)).setCell ⟨g2,1,none⟩ (.int .i64 m)).setCell ⟨g2,2,none⟩ (.string nt)).setCell ⟨g2,3,none⟩ (.slice none 0 0)=W:=⟨_,rfl⟩
   have HY4:Hid (Blk W4 g2 53 #[.int .i64 18,.int .i64 m,.string nt,.slice none 0 0]):=hZz (by rw [← hW4];exact (((HY3.out.set_ 0 _).set_ 1 _).set_ 2 _).set_ 3 _);have HB4:Hid (Below w.heap.size w W4):=hZz (by rw [← hW4];exact (((HB3.out.setCell (p:=⟨g2,0,none⟩) HLE.out _).setCell (p:=⟨g2,1,none⟩) HLE.out _).setCell (p:=⟨g2,2,none⟩) HLE.out _).setCell (p:=⟨g2,3,none⟩) HLE.out _);have HW4:=hZz hW4;clear hW4;go_wp2_with (fail)
   rw [HW4.out];clear y0 y1 y2 y3;obtain ⟨y0,y1,y2,y3⟩:=blk4n HY4.out;refine bodyPost_ret (by simp [results,Tryz.results101,y0,y1,y2,y3,go_sem];try rfl) rfl ?_
   exact HP.out _ _ HR2.out.symm HB4.out
end
section
def lastG (k ni:Int) (nt:ByteArray) (ks:List ByteArray) (m:Nat) (sv:Int) (x:InsD):Option InsD :=
 if k=1 then some (insO 1 0)
 else if k=2 then some (insO 2 ni)
 else if k=3 then some (insO 3 ni)
 else if k=4 then some (insT 4 nt)
 else if k=5 then some (insO 5 sv)
 else if k=6 then some (insO 11 m)
 else if k=7 then some ⟨12,m,⟨#[]⟩,ks⟩
 else if k=8 then some (insT 8 nt)
 else if k=10 then some (insO 10 0)
 else if k=11 then some x
 else if k=12 then some ⟨19,m,nt,[]⟩
 else if k=13∨k=14 then some (insO 6 sv)
 else if k=17 then some (insO 20 0)
 else if k=18 then some (insO 7 0)
 else none
theorem last_G (p:ProgD) (sl:List Int) (n:NodeD) (i:Nat):lastF p sl n i=lastG n.kind n.int n.text n.keys n.kids.length (sl.getD i 0) (callI p n):=rfl
def LastQ (n0:Nat) (w':World) (o:Option InsD) (R:Array Value) (b:Bool):Prop :=
 (∃ x kv,o=some x∧b=true∧R=(insRow (x,kv)).toArray∧OKeys n0 w' (x,kv))∨(o=none∧b=false∧R=#[.int .i64 0,.int .i64 0,.string ⟨#[]⟩,.slice none 0 0])
theorem zaiY {n0:Nat} {w':World} {o:Option InsD} (x:InsD) (h:o=some x) (hk:x.keys=[]):LastQ n0 w' o #[.int .i64 x.op,.int .i64 x.a,.string x.s,.slice none 0 0] true:=.inl ⟨x,nilK,h,rfl,rfl,zbjY _ _ _ hk⟩
attribute [local go_sem] zabZ
set_option maxHeartbeats 16000000 in
theorem last_s (w0:World) (S:ProgS) (sA:Option Addr) (sc gW:Nat) (e0:Int) (L:List (InsD × Value)) (w:World) (n:NodeD) (i:Nat) (sl:List Int) (kA iA:Option Addr) (kc ic:Nat) (h:WrSt w0 w S sA sl.length sc gW e0 L) (hS:ProgV w0 S) (hfl:S.p.funcs.length≤1000) (hsl:SlAt w0 sA 1 intS sl) (hi:i<sl.length) (hk7:n.kind≠7) :
  Calls prog 66 #[.pointer (some ⟨gW,0,none⟩),.agg (nodeC n kA kc iA ic),.int .i64 i] w fun e w'=>∃ R b,e=.returned (.tuple #[.agg R,.bool b])∧LastQ w0.heap.size w' (lastF S.p sl n i) R b∧Below w.heap.size w w':=by
 rw [last_G];obtain ⟨P,hP⟩:∃ P:Ending→World→Prop,(fun e w'=>∃ R b,e=.returned (.tuple #[.agg R,.bool b])∧LastQ w0.heap.size w' (lastG n.kind n.int n.text n.keys n.kids.length (sl.getD i 0) (callI S.p n)) R b∧Below w.heap.size w w')=P:=⟨_,rfl⟩
 rw [hP];have HP:Hid (∀ R b w',LastQ w0.heap.size w' (lastG n.kind n.int n.text n.keys n.kids.length (sl.getD i 0) (callI S.p n)) R b→Below w.heap.size w w'→P (.returned (.tuple #[.agg R,.bool b])) w'):=hZz (fun R b w' h1 h2=>by rw [← hP];exact ⟨R,b,rfl,h1,h2⟩);obtain ⟨x,hx⟩:∃ x,callI S.p n=x:=⟨_,rfl⟩
 have hxk:x.keys=[]:=by rw [← hx];exact callI_keys _ _
 have HC:Hid (∀ wx,Below w.heap.size w wx→Calls prog 101 #[.pointer (some ⟨gW,0,none⟩),.agg (nodeC n kA kc iA ic)] wx fun e w'=>e=.returned (.agg #[.int .i64 x.op,.int .i64 x.a,.string x.s,.slice none 0 0])∧Below wx.heap.size wx w'):=hZz (fun wx hb=>by
  rw [← hx];exact wcall_s w0 S sA _ sc gW e0 L wx n kA iA kc ic (h.below hb) hS hfl)
 obtain ⟨B,off,rfl,_⟩:=hsl.ptr hi
 have HS:Hid (∀ wx,Below w.heap.size w wx→wx.cell? ⟨B,off+i,none⟩=some (.int .i64 (sl.getD i 0))):=hZz (fun wx hb=>by
  have hcell:=(hsl.below (zaaZ hb h.bl h.bl.size)).cell0 hi (v:=.int .i64 (sl[i])) rfl;rw [zaiZ hi];simpa using hcell)
 obtain ⟨⟨iv,h1,_⟩,_,_,_⟩:=h;have HW:=hZz h1;have hiI:(i:Int)<(sl.length:Int):=by omega
 have hi0:(0:Int)≤(i:Int):=by omega
 unfold nodeC at HC ⊢;obtain ⟨m,hme⟩:∃ m,n.kids.length=m:=⟨_,rfl⟩
 rw [hme] at HP HC ⊢;rw [hx] at HP;generalize sl.getD i 0=sv at HS HP;obtain ⟨N,hN⟩:∃ N,sl.length=N:=⟨_,rfl⟩
 rw [hN] at HW hi hiI;obtain ⟨ks,hks⟩:∃ ks,n.keys=ks:=⟨_,rfl⟩
 rw [hks] at HP HC ⊢;generalize ks.length=q at HC ⊢;generalize n.kind=nk at HC HP hk7 ⊢;generalize n.text=nt at HC HP ⊢;generalize n.int=ni at HC HP ⊢;obtain ⟨g,hg⟩:∃ g,w.heap.size=g:=⟨_,rfl⟩
 obtain ⟨W1,hW1⟩:∃ W,w.alloc (.cells #[.int .i64 nk,.string nt,.int .i64 ni,.slice kA q kc,.slice iA m ic] 58)=W:=⟨_,rfl⟩
 obtain ⟨g2,hg2⟩:∃ g,W1.heap.size=g:=⟨_,rfl⟩
 obtain ⟨W2,hW2⟩:∃ W,W1.alloc (.cells #[.int .i64 0,.int .i64 0,.string ⟨#[]⟩,.slice none 0 0] 53)=W:=⟨_,rfl⟩
 have hx1:Blk W1 g 58 #[.int .i64 nk,.string nt,.int .i64 ni,.slice kA q kc,.slice iA m ic]:=by rw [← hW1,← hg];exact Blk.new _ _ _
 have HX1:Hid (Blk W2 g 58 #[.int .i64 nk,.string nt,.int .i64 ni,.slice kA q kc,.slice iA m ic]):=hZz (by rw [← hW2];exact hx1.alloc _);have HY1:Hid (Blk W2 g2 53 #[.int .i64 0,.int .i64 0,.string ⟨#[]⟩,.slice none 0 0]):=hZz (by rw [← hW2,← hg2];exact Blk.new _ _ _);have hb2:Below w.heap.size w W2:=by rw [← hW2,← hW1];exact zauY _ _ _
 have HB1:=hZz hb2;have s2:W2.cell? ⟨B,off+i,none⟩=some (.int .i64 sv):=HS.out _ hb2;have ww:=blkW (HW.out.below hb2);have hle:w.heap.size≤g2:=by rw [← hg2,← hW1];simp
 have HLE:=hZz hle;have HW1:=hZz hW1;have HW2:=hZz hW2;have HG:=hZz hg;have HG2:Hid (g+1=g2):=hZz (by rw [← hg2,← hW1,← hg];simp);clear hP hx h1 hme hN hks hg hW1 hW2 hg2 hx1 hle hb2 hsl HS;go_enter func66,ntmps66
 go_upto_region 1 with fail
 rw [HG.out,HW1.out]
 try rw [HG2.out]
 rw [HW2.out];clear HG HW1 HW2 HG2;have x1:=blk5n HX1.out;obtain ⟨y0,y1,y2,y3⟩:=blk4n HY1.out;have z3:=fun i=>HY1.out.frozen i
 by_cases k1:nk=1
 ·subst k1
  obtain ⟨W4,hW4⟩:∃ W,((((W2.setCell ⟨g2,0,none⟩ (.int .i64 1)).setCell ⟨g2,1,none⟩ (.int .i64 0)).setCell ⟨g2,2,none⟩ (.string ⟨#[]⟩)).setCell ⟨g2,3,none⟩ (.slice none 0 0))=W:=⟨_,rfl⟩
  have HY4:Hid (Blk W4 g2 53 #[.int .i64 1,.int .i64 0,.string ⟨#[]⟩,.slice none 0 0]):=hZz (by rw [← hW4];exact (((HY1.out.set_ 0 _).set_ 1 _).set_ 2 _).set_ 3 _);have HB4:Hid (Below w.heap.size w W4):=hZz (by rw [← hW4];exact (((HB1.out.setCell (p:=⟨g2,0,none⟩) HLE.out _).setCell (p:=⟨g2,1,none⟩) HLE.out _).setCell (p:=⟨g2,2,none⟩) HLE.out _).setCell (p:=⟨g2,3,none⟩) HLE.out _);have HW4:=hZz hW4;clear hW4;go_wp2_with (fail)
  rw [HW4.out];clear y0 y1 y2 y3;obtain ⟨y0,y1,y2,y3⟩:=blk4n HY4.out;refine bodyPost_ret (by simp [results,Tryz.results66,y0,y1,y2,y3,go_sem];try rfl) rfl ?_
  exact HP.out _ _ _ (zaiY (insO 1 0) (by simp [lastG]) rfl) HB4.out
 by_cases k2:nk=2
 ·subst k2
  obtain ⟨W4,hW4⟩:∃ W,((((W2.setCell ⟨g2,0,none⟩ (.int .i64 2)).setCell ⟨g2,1,none⟩ (.int .i64 ni)).setCell ⟨g2,2,none⟩ (.string ⟨#[]⟩)).setCell ⟨g2,3,none⟩ (.slice none 0 0))=W:=⟨_,rfl⟩
  have HY4:Hid (Blk W4 g2 53 #[.int .i64 2,.int .i64 ni,.string ⟨#[]⟩,.slice none 0 0]):=hZz (by rw [← hW4];exact (((HY1.out.set_ 0 _).set_ 1 _).set_ 2 _).set_ 3 _);have HB4:Hid (Below w.heap.size w W4):=hZz (by rw [← hW4];exact (((HB1.out.setCell (p:=⟨g2,0,none⟩) HLE.out _).setCell (p:=⟨g2,1,none⟩) HLE.out _).setCell (p:=⟨g2,2,none⟩) HLE.out _).setCell (p:=⟨g2,3,none⟩) HLE.out _);have HW4:=hZz hW4;clear hW4;go_wp2_with (fail)
  rw [HW4.out];clear y0 y1 y2 y3;obtain ⟨y0,y1,y2,y3⟩:=blk4n HY4.out;refine bodyPost_ret (by simp [results,Tryz.results66,y0,y1,y2,y3,go_sem];try rfl) rfl ?_
  exact HP.out _ _ _ (zaiY (insO 2 ni) (by simp [lastG]) rfl) HB4.out
 by_cases k3:nk=3
 ·subst k3
  obtain ⟨W4,hW4⟩:∃ W,((((W2.setCell ⟨g2,0,none⟩ (.int .i64 3)).setCell ⟨g2,1,none⟩ (.int .i64 ni)).setCell ⟨g2,2,none⟩ (.string ⟨#[]⟩)).setCell ⟨g2,3,none⟩ (.slice none 0 0))=W:=⟨_,rfl⟩
  have HY4:Hid (Blk W4 g2 53 #[.int .i64 3,.int .i64 ni,.string ⟨#[]⟩,.slice none 0 0]):=hZz (by rw [← hW4];exact (((HY1.out.set_ 0 _).set_ 1 _).set_ 2 _).set_ 3 _);have HB4:Hid (Below w.heap.size w W4):=hZz (by rw [← hW4];exact (((HB1.out.setCell (p:=⟨g2,0,none⟩) HLE.out _).setCell (p:=⟨g2,1,none⟩) HLE.out _).setCell (p:=⟨g2,2,none⟩) HLE.out _).setCell (p:=⟨g2,3,none⟩) HLE.out _);have HW4:=hZz hW4;clear hW4;go_wp2_with (fail)
  rw [HW4.out];clear y0 y1 y2 y3;obtain ⟨y0,y1,y2,y3⟩:=blk4n HY4.out;refine bodyPost_ret (by simp [results,Tryz.results66,y0,y1,y2,y3,go_sem];try rfl) rfl ?_
  exact HP.out _ _ _ (zaiY (insO 3 ni) (by simp [lastG]) rfl) HB4.out
 by_cases k4:nk=4
 ·subst k4
  obtain ⟨W4,hW4⟩:∃ W,((((W2.setCell ⟨g2,0,none⟩ (.int .i64 4)).setCell ⟨g2,1,none⟩ (.int .i64 0)).setCell ⟨g2,2,none⟩ (.string nt)).setCell ⟨g2,3,none⟩ (.slice none 0 0))=W:=⟨_,rfl⟩
  have HY4:Hid (Blk W4 g2 53 #[.int .i64 4,.int .i64 0,.string nt,.slice none 0 0]):=hZz (by rw [← hW4];exact (((HY1.out.set_ 0 _).set_ 1 _).set_ 2 _).set_ 3 _);have HB4:Hid (Below w.heap.size w W4):=hZz (by rw [← hW4];exact (((HB1.out.setCell (p:=⟨g2,0,none⟩) HLE.out _).setCell (p:=⟨g2,1,none⟩) HLE.out _).setCell (p:=⟨g2,2,none⟩) HLE.out _).setCell (p:=⟨g2,3,none⟩) HLE.out _);have HW4:=hZz hW4;clear hW4;go_wp2_with (fail)
  rw [HW4.out];clear y0 y1 y2 y3;obtain ⟨y0,y1,y2,y3⟩:=blk4n HY4.out;refine bodyPost_ret (by simp [results,Tryz.results66,y0,y1,y2,y3,go_sem];try rfl) rfl ?_
  exact HP.out _ _ _ (zaiY (insT 4 nt) (by simp [lastG]) rfl) HB4.out
 by_cases k5:nk=5
 ·subst k5
  obtain ⟨W4,hW4⟩:∃ W,((((W2.setCell ⟨g2,0,none⟩ (.int .i64 5)).setCell ⟨g2,1,none⟩ (.int .i64 sv)).setCell ⟨g2,2,none⟩ (.string ⟨#[]⟩)).setCell ⟨g2,3,none⟩ (.slice none 0 0))=W:=⟨_,rfl⟩
  have HY4:Hid (Blk W4 g2 53 #[.int .i64 5,.int .i64 sv,.string ⟨#[]⟩,.slice none 0 0]):=hZz (by rw [← hW4];exact (((HY1.out.set_ 0 _).set_ 1 _).set_ 2 _).set_ 3 _);have HB4:Hid (Below w.heap.size w W4):=hZz (by rw [← hW4];exact (((HB1.out.setCell (p:=⟨g2,0,none⟩) HLE.out _).setCell (p:=⟨g2,1,none⟩) HLE.out _).setCell (p:=⟨g2,2,none⟩) HLE.out _).setCell (p:=⟨g2,3,none⟩) HLE.out _);have HW4:=hZz hW4;clear hW4;go_wp2_with (fail)
  rw [HW4.out];clear y0 y1 y2 y3;obtain ⟨y0,y1,y2,y3⟩:=blk4n HY4.out;refine bodyPost_ret (by simp [results,Tryz.results66,y0,y1,y2,y3,go_sem];try rfl) rfl ?_
  exact HP.out _ _ _ (zaiY (insO 5 sv) (by simp [lastG]) rfl) HB4.out
 by_cases k6:nk=6
 ·subst k6
  obtain ⟨W4,hW4⟩:∃ W,((((W2.setCell ⟨g2,0,none⟩ (.int .i64 11)).setCell ⟨g2,1,none⟩ (.int .i64 m)).setCell ⟨g2,2,none⟩ (.string ⟨#[]⟩)).setCell ⟨g2,3,none⟩ (.slice none 0 0))=W:=⟨_,rfl⟩
  have HY4:Hid (Blk W4 g2 53 #[.int .i64 11,.int .i64 m,.string ⟨#[]⟩,.slice none 0 0]):=hZz (by rw [← hW4];exact (((HY1.out.set_ 0 _).set_ 1 _).set_ 2 _).set_ 3 _);have HB4:Hid (Below w.heap.size w W4):=hZz (by rw [← hW4];exact (((HB1.out.setCell (p:=⟨g2,0,none⟩) HLE.out _).setCell (p:=⟨g2,1,none⟩) HLE.out _).setCell (p:=⟨g2,2,none⟩) HLE.out _).setCell (p:=⟨g2,3,none⟩) HLE.out _);have HW4:=hZz hW4;clear hW4;go_wp2_with (fail)
  rw [HW4.out];clear y0 y1 y2 y3;obtain ⟨y0,y1,y2,y3⟩:=blk4n HY4.out;refine bodyPost_ret (by simp [results,Tryz.results66,y0,y1,y2,y3,go_sem];try rfl) rfl ?_
  exact HP.out _ _ _ (zaiY (insO 11 m) (by simp [lastG]) rfl) HB4.out
 by_cases k8:nk=8
 ·subst k8
  obtain ⟨W4,hW4⟩:∃ W,((((W2.setCell ⟨g2,0,none⟩ (.int .i64 8)).setCell ⟨g2,1,none⟩ (.int .i64 0)).setCell ⟨g2,2,none⟩ (.string nt)).setCell ⟨g2,3,none⟩ (.slice none 0 0))=W:=⟨_,rfl⟩
  have HY4:Hid (Blk W4 g2 53 #[.int .i64 8,.int .i64 0,.string nt,.slice none 0 0]):=hZz (by rw [← hW4];exact (((HY1.out.set_ 0 _).set_ 1 _).set_ 2 _).set_ 3 _);have HB4:Hid (Below w.heap.size w W4):=hZz (by rw [← hW4];exact (((HB1.out.setCell (p:=⟨g2,0,none⟩) HLE.out _).setCell (p:=⟨g2,1,none⟩) HLE.out _).setCell (p:=⟨g2,2,none⟩) HLE.out _).setCell (p:=⟨g2,3,none⟩) HLE.out _);have HW4:=hZz hW4;clear hW4;go_wp2_with (fail)
  rw [HW4.out];clear y0 y1 y2 y3;obtain ⟨y0,y1,y2,y3⟩:=blk4n HY4.out;refine bodyPost_ret (by simp [results,Tryz.results66,y0,y1,y2,y3,go_sem];try rfl) rfl ?_
  exact HP.out _ _ _ (zaiY (insT 8 nt) (by simp [lastG]) rfl) HB4.out
 by_cases k10:nk=10
 ·subst k10
  obtain ⟨W4,hW4⟩:∃ W,((((W2.setCell ⟨g2,0,none⟩ (.int .i64 10)).setCell ⟨g2,1,none⟩ (.int .i64 0)).setCell ⟨g2,2,none⟩ (.string ⟨#[]⟩)).setCell ⟨g2,3,none⟩ (.slice none 0 0))=W:=⟨_,rfl⟩
  have HY4:Hid (Blk W4 g2 53 #[.int .i64 10,.int .i64 0,.string ⟨#[]⟩,.slice none 0 0]):=hZz (by rw [← hW4];exact (((HY1.out.set_ 0 _).set_ 1 _).set_ 2 _).set_ 3 _);have HB4:Hid (Below w.heap.size w W4):=hZz (by rw [← hW4];exact (((HB1.out.setCell (p:=⟨g2,0,none⟩) HLE.out _).setCell (p:=⟨g2,1,none⟩) HLE.out _).setCell (p:=⟨g2,2,none⟩) HLE.out _).setCell (p:=⟨g2,3,none⟩) HLE.out _);have HW4:=hZz hW4;clear hW4;go_wp2_with (fail)
  rw [HW4.out];clear y0 y1 y2 y3;obtain ⟨y0,y1,y2,y3⟩:=blk4n HY4.out;refine bodyPost_ret (by simp [results,Tryz.results66,y0,y1,y2,y3,go_sem];try rfl) rfl ?_
  exact HP.out _ _ _ (zaiY (insO 10 0) (by simp [lastG]) rfl) HB4.out
 by_cases k11:nk=11
 ·subst k11
  go_wp2_with (first
   | (go_at_call 101;(with_reducible refine (HC.out _ HB1.out).mono ?_);rintro e w3 ⟨rfl,hb3⟩;have HB3:=hZz (zaaZ hb3 HB1.out HB1.out.size);have HY3:=hZz (HY1.out.below hb3);have y5:=blk4n HY3.out;have z5:=(fun i=>HY3.out.frozen i);clear hb3 y0 y1 y2 y3 z3))
  obtain ⟨W4,hW4⟩:∃ W,((((w3.setCell ⟨g2,0,none⟩ (.int .i64 x.op)).setCell ⟨g2,1,none⟩ (.int .i64 x.a)).setCell ⟨g2,2,none⟩ (.string x.s)).setCell ⟨g2,3,none⟩ (.slice none 0 0))=W:=⟨_,rfl⟩
  have HY4:Hid (Blk W4 g2 53 #[.int .i64 x.op,.int .i64 x.a,.string x.s,.slice none 0 0]):=hZz (by rw [← hW4];exact (((HY3.out.set_ 0 _).set_ 1 _).set_ 2 _).set_ 3 _);have HB4:Hid (Below w.heap.size w W4):=hZz (by rw [← hW4];exact (((HB3.out.setCell (p:=⟨g2,0,none⟩) HLE.out _).setCell (p:=⟨g2,1,none⟩) HLE.out _).setCell (p:=⟨g2,2,none⟩) HLE.out _).setCell (p:=⟨g2,3,none⟩) HLE.out _);have HW4:=hZz hW4;clear hW4;rw [HW4.out];obtain ⟨y0,y1,y2,y3⟩:=blk4n HY4.out;refine bodyPost_ret (by simp [results,Tryz.results66,y0,y1,y2,y3,go_sem];try rfl) rfl ?_
  exact HP.out _ _ _ (zaiY x (by simp [lastG]) hxk) HB4.out
 by_cases k12:nk=12
 ·subst k12
  obtain ⟨W4,hW4⟩:∃ W,((((W2.setCell ⟨g2,0,none⟩ (.int .i64 19)).setCell ⟨g2,1,none⟩ (.int .i64 m)).setCell ⟨g2,2,none⟩ (.string nt)).setCell ⟨g2,3,none⟩ (.slice none 0 0))=W:=⟨_,rfl⟩
  have HY4:Hid (Blk W4 g2 53 #[.int .i64 19,.int .i64 m,.string nt,.slice none 0 0]):=hZz (by rw [← hW4];exact (((HY1.out.set_ 0 _).set_ 1 _).set_ 2 _).set_ 3 _);have HB4:Hid (Below w.heap.size w W4):=hZz (by rw [← hW4];exact (((HB1.out.setCell (p:=⟨g2,0,none⟩) HLE.out _).setCell (p:=⟨g2,1,none⟩) HLE.out _).setCell (p:=⟨g2,2,none⟩) HLE.out _).setCell (p:=⟨g2,3,none⟩) HLE.out _);have HW4:=hZz hW4;clear hW4;go_wp2_with (fail)
  rw [HW4.out];clear y0 y1 y2 y3;obtain ⟨y0,y1,y2,y3⟩:=blk4n HY4.out;refine bodyPost_ret (by simp [results,Tryz.results66,y0,y1,y2,y3,go_sem];try rfl) rfl ?_
  exact HP.out _ _ _ (zaiY (⟨19,m,nt,[]⟩) (by simp [lastG]) rfl) HB4.out
 by_cases k13:nk=13
 ·subst k13
  obtain ⟨W4,hW4⟩:∃ W,((((W2.setCell ⟨g2,0,none⟩ (.int .i64 6)).setCell ⟨g2,1,none⟩ (.int .i64 sv)).setCell ⟨g2,2,none⟩ (.string ⟨#[]⟩)).setCell ⟨g2,3,none⟩ (.slice none 0 0))=W:=⟨_,rfl⟩
  have HY4:Hid (Blk W4 g2 53 #[.int .i64 6,.int .i64 sv,.string ⟨#[]⟩,.slice none 0 0]):=hZz (by rw [← hW4];exact (((HY1.out.set_ 0 _).set_ 1 _).set_ 2 _).set_ 3 _);have HB4:Hid (Below w.heap.size w W4):=hZz (by rw [← hW4];exact (((HB1.out.setCell (p:=⟨g2,0,none⟩) HLE.out _).setCell (p:=⟨g2,1,none⟩) HLE.out _).setCell (p:=⟨g2,2,none⟩) HLE.out _).setCell (p:=⟨g2,3,none⟩) HLE.out _);have HW4:=hZz hW4;clear hW4;go_wp2_with (fail)
  rw [HW4.out];clear y0 y1 y2 y3;obtain ⟨y0,y1,y2,y3⟩:=blk4n HY4.out;refine bodyPost_ret (by simp [results,Tryz.results66,y0,y1,y2,y3,go_sem];try rfl) rfl ?_
  exact HP.out _ _ _ (zaiY (insO 6 sv) (by simp [lastG]) rfl) HB4.out
 by_cases k14:nk=14
 ·subst k14
  obtain ⟨W4,hW4⟩:∃ W,((((W2.setCell ⟨g2,0,none⟩ (.int .i64 6)).setCell ⟨g2,1,none⟩ (.int .i64 sv)).setCell ⟨g2,2,none⟩ (.string ⟨#[]⟩)).setCell ⟨g2,3,none⟩ (.slice none 0 0))=W:=⟨_,rfl⟩
  have HY4:Hid (Blk W4 g2 53 #[.int .i64 6,.int .i64 sv,.string ⟨#[]⟩,.slice none 0 0]):=hZz (by rw [← hW4];exact (((HY1.out.set_ 0 _).set_ 1 _).set_ 2 _).set_ 3 _);have HB4:Hid (Below w.heap.size w W4):=hZz (by rw [← hW4];exact (((HB1.out.setCell (p:=⟨g2,0,none⟩) HLE.out _).setCell (p:=⟨g2,1,none⟩) HLE.out _).setCell (p:=⟨g2,2,none⟩) HLE.out _).setCell (p:=⟨g2,3,none⟩) HLE.out _);have HW4:=hZz hW4;clear hW4;go_wp2_with (fail)
  rw [HW4.out];clear y0 y1 y2 y3;obtain ⟨y0,y1,y2,y3⟩:=blk4n HY4.out;refine bodyPost_ret (by simp [results,Tryz.results66,y0,y1,y2,y3,go_sem];try rfl) rfl ?_
  exact HP.out _ _ _ (zaiY (insO 6 sv) (by simp [lastG]) rfl) HB4.out
 by_cases k17:nk=17
 ·subst k17
  obtain ⟨W4,hW4⟩:∃ W,((((W2.setCell ⟨g2,0,none⟩ (.int .i64 20)).setCell ⟨g2,1,none⟩ (.int .i64 0)).setCell ⟨g2,2,none⟩ (.string ⟨#[]⟩)).setCell ⟨g2,3,none⟩ (.slice none 0 0))=W:=⟨_,rfl⟩
  have HY4:Hid (Blk W4 g2 53 #[.int .i64 20,.int .i64 0,.string ⟨#[]⟩,.slice none 0 0]):=hZz (by rw [← hW4];exact (((HY1.out.set_ 0 _).set_ 1 _).set_ 2 _).set_ 3 _);have HB4:Hid (Below w.heap.size w W4):=hZz (by rw [← hW4];exact (((HB1.out.setCell (p:=⟨g2,0,none⟩) HLE.out _).setCell (p:=⟨g2,1,none⟩) HLE.out _).setCell (p:=⟨g2,2,none⟩) HLE.out _).setCell (p:=⟨g2,3,none⟩) HLE.out _);have HW4:=hZz hW4;clear hW4;go_wp2_with (fail)
  rw [HW4.out];clear y0 y1 y2 y3;obtain ⟨y0,y1,y2,y3⟩:=blk4n HY4.out;refine bodyPost_ret (by simp [results,Tryz.results66,y0,y1,y2,y3,go_sem];try rfl) rfl ?_
  exact HP.out _ _ _ (zaiY (insO 20 0) (by simp [lastG]) rfl) HB4.out
 by_cases k18:nk=18
 ·subst k18
  obtain ⟨W4,hW4⟩:∃ W,((((W2.setCell ⟨g2,0,none⟩ (.int .i64 7)).setCell ⟨g2,1,none⟩ (.int .i64 0)).setCell ⟨g2,2,none⟩ (.string ⟨#[]⟩)).setCell ⟨g2,3,none⟩ (.slice none 0 0))=W:=⟨_,rfl⟩
  have HY4:Hid (Blk W4 g2 53 #[.int .i64 7,.int .i64 0,.string ⟨#[]⟩,.slice none 0 0]):=hZz (by rw [← hW4];exact (((HY1.out.set_ 0 _).set_ 1 _).set_ 2 _).set_ 3 _);have HB4:Hid (Below w.heap.size w W4):=hZz (by rw [← hW4];exact (((HB1.out.setCell (p:=⟨g2,0,none⟩) HLE.out _).setCell (p:=⟨g2,1,none⟩) HLE.out _).setCell (p:=⟨g2,2,none⟩) HLE.out _).setCell (p:=⟨g2,3,none⟩) HLE.out _);have HW4:=hZz hW4;clear hW4;go_wp2_with (fail)
  rw [HW4.out];clear y0 y1 y2 y3;obtain ⟨y0,y1,y2,y3⟩:=blk4n HY4.out;refine bodyPost_ret (by simp [results,Tryz.results66,y0,y1,y2,y3,go_sem];try rfl) rfl ?_
  exact HP.out _ _ _ (zaiY (insO 7 0) (by simp [lastG]) rfl) HB4.out
 have e0:∀ c∈[1,2,3,4,5,6,7,8,10,11,12,13,14,17,18],(nk == c)=false:=by
  intro c hc;simp only [List.mem_cons,List.not_mem_nil,or_false] at hc;rcases hc with rfl | rfl | rfl | rfl | rfl | rfl | rfl | rfl | rfl | rfl | rfl | rfl | rfl | rfl | rfl <;> simpa using by assumption
 have HN:Hid (lastG nk ni nt ks m sv x=none):=hZz (by simp [lastG,hk7,k1,k2,k3,k4,k5,k6,k8,k10,k11,k12,k13,k14,k17,k18]);have d1:=e0 1 (by simp);have d2:=e0 2 (by simp);have d3:=e0 3 (by simp);have d4:=e0 4 (by simp);have d5:=e0 5 (by simp);have d6:=e0 6 (by simp);have d7:=e0 7 (by simp);have d8:=e0 8 (by simp);have d10:=e0 10 (by simp);have d11:=e0 11 (by simp);have d12:=e0 12 (by simp);have d13:=e0 13 (by simp);have d14:=e0 14 (by simp);have d17:=e0 17 (by simp);have d18:=e0 18 (by simp);clear e0 hk7 k1 k2 k3 k4 k5 k6 k8 k10 k11 k12 k13 k14 k17 k18;go_wp2_with (fail)
 refine bodyPost_ret (by simp [results,Tryz.results66,y0,y1,y2,y3,go_sem];try rfl) rfl ?_
 exact HP.out _ _ _ (.inr ⟨HN.out,rfl,rfl⟩) ((((HB1.out.setCell (p:=⟨g2,0,none⟩) HLE.out _).setCell (p:=⟨g2,1,none⟩) HLE.out _).setCell (p:=⟨g2,2,none⟩) HLE.out _).setCell (p:=⟨g2,3,none⟩) HLE.out _)
end
end Go.Proofs.YthiimbhjpdphpaaGreatDoor
