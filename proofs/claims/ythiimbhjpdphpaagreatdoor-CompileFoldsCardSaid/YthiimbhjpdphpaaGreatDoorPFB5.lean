/- FB2, FB3, FB4, FC1, FC3, FB5 -/
import Derived.Test.YthiimbhjpdphpaaGreatDoorPE18
import Derived.Test.YthiimbhjpdphpaaGreatDoorPW17
set_option linter.unusedVariables false
set_option linter.unusedSimpArgs false
namespace Go.Proofs.YthiimbhjpdphpaaGreatDoor
open Go.RowKit
set_option maxRecDepth 100000
set_option maxHeartbeats 8000000
open Go.Proofs.Tryz
def OutCut (wr wx:World) (n:NodeD) (u:Value):Prop:=∃ gO kA kc,u=.pointer (some ⟨gO,0,none⟩)∧Below wr.heap.size wr wx∧wr.heap.size≤gO∧Blk wx gO 58 #[.int .i64 n.kind,.string n.text,.int .i64 n.int,.slice kA n.keys.length kc,.slice none 0 0]∧wx.ownsRow wr.heap.size 9 1 (.slice kA n.keys.length kc) n.keys.length (n.keys.map Value.string)
theorem za0Y {w w':World} (h:w.grownBy w' none):Below w.heap.size w w':=⟨h.os,h.tape,h.output,h.size,fun k hk=>h.block k hk (by simp)⟩
theorem own_rowfar {w:World} {base:Nat} {e t:TypeId} {size n g:Nat} {v:Value} {xs:List Value} {cs cs':Array Value} (h:w.ownsRow base e size v n xs) (hb:Blk w g t cs) (hne:e≠t):(w.setRow g cs').ownsRow base e size v n xs:=by
 have hn:=zaeZ h hb hne;obtain ⟨h1,h2⟩:=h;refine ⟨h1,h2.imp id (fun ⟨g',cap,cur,ev,eg,eh,e4⟩=>⟨g',cap,cur,ev,eg,?_,e4⟩)⟩
 subst ev;exact (setRow_other w g g' cs' (fun e'=>hn (by show some g=some g';rw [e']))).trans eh
theorem four_n {w:World} {g:Nat} {t:TypeId} {a b c d e:Value} (h:Blk w g t #[a,b,c,d,e]):w.cell? ⟨g,0,none⟩=some a∧w.cell? ⟨g,1,none⟩=some b∧w.cell? ⟨g,2,none⟩=some c∧w.cell? ⟨g,3,none⟩=some d:=⟨h.cell 0 _ rfl,h.cell 1 _ rfl,h.cell 2 _ rfl,h.cell 3 _ rfl⟩
section
theorem zagY {w w':World} {base n size:Nat} {v:Value} {xs:List Value} {e:TypeId} {row:Option Nat} (h:w.ownsRow base e size v n xs) (hg:w.grownBy w' row) (hn:∀ g,v.ownBlock=some g→some g≠row):w'.ownsRow base e size v n xs:=by
 refine ⟨h.1,h.2.imp id (fun ⟨g,cap,cur,ev,eg,eh,e4⟩=>⟨g,cap,cur,ev,eg,?_,e4⟩)⟩
 exact (hg.block g (lt_of_block eh) (hn g (by rw [ev];rfl))).trans eh
theorem KF.new {gF:Nat} {b b2 row:Option Nat} {w w' w'':World} (h:KF gF b b2 w w') (hg:w'.grownBy w'' row) (hr:∀ g,row=some g→w.heap.size≤g):KF gF b b2 w w'':=by
 refine ⟨hg.os.trans h.os,hg.tape.trans h.tape,hg.output.trans h.output,Nat.le_trans h.size hg.size,fun g h1 h2 h3=>?_,h.own⟩
 exact (hg.block g (Nat.lt_of_lt_of_le h1 h.size) (fun e=>by have:=hr g e.symm;omega)).trans (h.stay g h1 h2 h3)
theorem zaiY {B:Nat} {w w' w'':World} {row:Option Nat} (h:Below B w w') (hg:w'.grownBy w'' row) (hB:B≤w'.heap.size) (hr:∀ g,row=some g→B≤g):Below B w w'':=h.grown hg hB hr
theorem zdeY {l:List NodeD} {f:Nat} {r:List Int} {s e:Nat} (h:Cover l f r s e):∀ k,k≤r.length→∃ e',Cover l f (r.take k) s e'∧e'≤e∧(∀ hk:k<r.length,∃ m:Nat,r[k]=m∧firstF l f m=some e'∧m+1≤e):=by
 induction h with
 | nil s =>
  intro k hk
  have:k=0:=by simpa using hk
  subst this;exact ⟨s,.nil s,Nat.le_refl _,fun h=>by cases h⟩
 | cons r s m e h1 h2 ih =>
  intro k hk;have hle:=h2.le';have hsm:=zaaY h1;cases k with
  | zero=>exact ⟨s,.nil s,by omega,fun _=>⟨m,rfl,h1,hle⟩⟩
  | succ k =>
   obtain ⟨e',a,b,c⟩:=ih k (by simpa using hk);exact ⟨e',.cons _ _ _ _ h1 a,b,fun hk'=>by simpa using c (by simpa using hk')⟩
theorem zc7Y (rec:Nat→List NodeD→List NodeD) (x:Int):∀ (r:List Int) (out:List NodeD) (ks:List Int) (vs:List CellD),foldK rec (r ++ [x]) out ks vs=(rec x.toNat (foldK rec r out ks vs).1,(foldK rec r out ks vs).2.1 ++ [((rec x.toNat (foldK rec r out ks vs).1).length:Int) - 1],(foldK rec r out ks vs).2.2 ++ (constF (rec x.toNat (foldK rec r out ks vs).1) ((rec x.toNat (foldK rec r out ks vs).1).getD ((rec x.toNat (foldK rec r out ks vs).1).length - 1) noNode)).toList):=by
 intro r;induction r with
 | nil=>intro out ks vs;simp [foldK]
 | cons k r ih=>intro out ks vs;simp only [List.cons_append,foldK];exact ih _ _ _
theorem root8 {l:List NodeD} {f i s:Nat} (h:firstF l f i=some s) (hk:(l.getD i noNode).kind=8):0<(l.getD i noNode).kids.length∧∃ m:Nat,(l.getD i noNode).kids.getD 0 0=m∧m<i∧((l.getD m noNode).kind=3→-1000000000000≤(l.getD m noNode).int∧(l.getD m noNode).int≤1000000000000):=by
 cases f with
 | zero=>cases h
 | succ f =>
  have T:=zabY h;have hc:=zcdY T.count (.inl hk);obtain ⟨a,ha⟩:=zclY hc;have hcv:=T.cover;rw [ha] at hcv;obtain ⟨e1,e2,e3⟩:=hcv.one;refine ⟨by omega,i - 1,?_,by omega,fun h3=>?_⟩
  ·rw [ha]
   show a=((i - 1:Nat):Int);omega
  ·cases f with
   | zero=>cases e3
   | succ f =>
    have:=zdcY (zabY e3).fields h3
    omega
def PartsO (B:Nat) (w:World) (N:List NodeX):Prop:=∀ p∈N,w.ownsRow B 9 1 p.2.1 p.1.keys.length (p.1.keys.map Value.string)∧w.ownsRow B 3 1 p.2.2 p.1.kids.length (p.1.kids.map (Value.int .i64))
theorem FoSt.grown {w0 w w':World} {S:ProgS} {gF:Nat} {nv:Value} {L:List NodeX} {row:Option Nat} (h:FoSt w0 w S gF nv L) (hg:w.grownBy w' row) (h1:some gF≠row) (h2:∀ g,nv.ownBlock=some g→some g≠row) (h3:∀ p∈L,∀ g,p.2.1.ownBlock=some g→some g≠row) (h4:∀ p∈L,∀ g,p.2.2.ownBlock=some g→some g≠row) (h0:∀ g,row=some g→w0.heap.size≤g):FoSt w0 w' S gF nv L :=
 ⟨h.fo.grown hg h1,zagY h.row hg h2,fun p hp=>zagY (h.keys p hp) hg (h3 p hp),fun p hp=>zagY (h.kids p hp) hg (h4 p hp),zaiY h.bl hg h.bl.size h0,h.bF⟩
structure FLc (w0 w wr:World) (S:ProgS) (gF gN gO:Nat) (nv nvk:Value) (L N:List NodeX) (n:NodeD) (nb:Array Value) (kO:Value) (ks:List Int) (vs:List CellD) (kv lv:Value) (lr:List Value):Prop where
 st:FoSt w0 wr S gF nvk (L ++ N)
 kf:KF gF nv.ownBlock nvk.ownBlock w wr
 parts:PartsO w.heap.size wr N
 bn:Blk wr gN 58 nb
 bo:Blk wr gO 58 #[.int .i64 n.kind,.string n.text,.int .i64 n.int,kO,kv]
 keys:wr.ownsRow w.heap.size 9 1 kO n.keys.length (n.keys.map Value.string)
 kids:wr.ownsRow w.heap.size 3 1 kv ks.length (ks.map (Value.int .i64))
 apart:∀ p∈N,∀ g,p.2.2.ownBlock=some g→kv.ownBlock≠some g
 vals:wr.ownsRow w.heap.size 96 1 lv vs.length lr
 vrow:∀ i (h:i<vs.length),∃ g,lr[i]? = some (.slice (some ⟨g,0,none⟩) 1 1)∧w.heap.size≤g∧Blk wr g 103 (vs[i]).cells.toArray
 geN:w.heap.size≤gN
 geO:w.heap.size≤gO
 ne:gO≠gN
 nN:nvk.ownBlock≠some gN
 nO:nvk.ownBlock≠some gO
 old:∀ p∈L,∀ g,p.2.2.ownBlock=some g→g<w.heap.size
 ltF:gF<w.heap.size
section
variable {w0 w wr wx:World} {S:ProgS} {gF gN gO:Nat} {nv nvk:Value} {L N:List NodeX} {n:NodeD} {nb:Array Value} {kO:Value} {ks:List Int} {vs:List CellD} {kv lv:Value} {lr:List Value}
theorem FLc.below (h:FLc w0 w wr S gF gN gO nv nvk L N n nb kO ks vs kv lv lr) (hb:Below wr.heap.size wr wx):FLc w0 w wx S gF gN gO nv nvk L N n nb kO ks vs kv lv lr :=
 ⟨h.st.below hb,h.kf.trans (KF.of_below hb _ _),fun p hp=>⟨zagZ (h.parts p hp).1 hb,zagZ (h.parts p hp).2 hb⟩,h.bn.below hb,h.bo.below hb,zagZ h.keys hb,zagZ h.kids hb,h.apart,zagZ h.vals hb,
  fun i hi=>by obtain ⟨g,a,b,c⟩:=h.vrow i hi;exact ⟨g,a,b,c.below hb⟩,h.geN,h.geO,h.ne,h.nN,h.nO,h.old,h.ltF⟩
theorem FLc.size (h:FLc w0 w wr S gF gN gO nv nvk L N n nb kO ks vs kv lv lr):w.heap.size≤wr.heap.size:=h.kf.size
theorem FLc.rec_ {nv3:Value} {N2:List NodeX} (h:FLc w0 w wr S gF gN gO nv nvk L N n nb kO ks vs kv lv lr) (hst:FoSt w0 wx S gF nv3 (L ++ (N ++ N2))) (hk:KF gF nvk.ownBlock nv3.ownBlock wr wx) (hp:PartsO wr.heap.size wx N2):FLc w0 w wx S gF gN gO nv nv3 L (N ++ N2) n nb kO ks vs kv lv lr:=by
 have hw:=h.size;have aS:∀ {base m:Nat} {v:Value} {xs:List Value} {e:TypeId},e≠73→e≠58→wr.ownsRow base e 1 v m xs→wx.ownsRow base e 1 v m xs:=fun h1 h2 ho=>hk.row ho (fun g hg=>⟨zanY ho h.st.fo h1 g hg,zafY ho h.st.row h2 g hg⟩)
 have hnew:∀ g,g<wr.heap.size→nvk.ownBlock≠some g→nv3.ownBlock≠some g:=fun g h1 h2 e=>by
  rcases hk.own with e2 | ⟨g',e2,e3⟩
  ·exact h2 (e2.symm.trans e)
  ·rw [e2] at e
   injection e with e
   omega
 have lN:=h.bn.lt;have lO:=h.bo.lt;refine ⟨hst,h.kf.trans hk,fun p hp'=>?_,hk.blk h.bn (by have:=h.ltF;have:=h.geN;omega) (fun e=>h.nN e.symm),hk.blk h.bo (by have:=h.ltF;have:=h.geO;omega) (fun e=>h.nO e.symm),aS (by decide) (by decide) h.keys,aS (by decide) (by decide) h.kids,fun p hp' g hg=>?_,aS (by decide) (by decide) h.vals,fun i hi=>?_,h.geN,h.geO,h.ne,hnew _ lN h.nN,hnew _ lO h.nO,h.old,h.ltF⟩
 ·rcases List.mem_append.1 hp' with hp' | hp'
  ·exact ⟨aS (by decide) (by decide) (h.parts p hp').1,aS (by decide) (by decide) (h.parts p hp').2⟩
  ·exact ⟨zahY (hp p hp').1 hw,zahY (hp p hp').2 hw⟩
 ·rcases List.mem_append.1 hp' with hp' | hp'
  ·exact h.apart p hp' g hg
  ·intro e
   have h1:=((hp p hp').2.lt g hg).1;have h2:=(h.kids.lt g e).2;omega
 ·obtain ⟨g,a,b,c⟩:=h.vrow i hi
  refine ⟨g,a,b,hk.blk c (by have:=h.ltF;omega) (zaeZ h.st.row c (by decide))⟩
theorem FLc.kid {kv2:Value} {k:Int} (h:FLc w0 w wr S gF gN gO nv nvk L N n nb kO ks vs kv lv lr) (hown:wx.ownsRow w.heap.size 3 1 kv2 (ks.length+1) (ks.map (Value.int .i64) ++ [.int .i64 k])) (hg:wr.grownBy wx kv.ownBlock) (hat:kv.ownBlock=kv2.ownBlock∨kv2.ownBlock=some wr.heap.size) :
  FLc w0 w (wx.setCell ⟨gO,4,none⟩ kv2) S gF gN gO nv nvk L N n nb kO (ks ++ [k]) vs kv2 lv lr:=by
 have hw:=h.size;have lO:=h.bo.lt;have lN:=h.bn.lt;have hkl:∀ g,kv.ownBlock=some g→w.heap.size≤g∧g<wr.heap.size:=fun g hg=>h.kids.lt g hg
 have bo1:Blk wx gO 58 _:=h.bo.grown hg (zaeZ h.kids h.bo (by decide));have bn1:Blk wx gN 58 nb:=h.bn.grown hg (zaeZ h.kids h.bn (by decide));have hg2:=zacY wx gO 4 kv2;have r1:∀ {base m s:Nat} {v:Value} {xs:List Value} {e:TypeId},e≠3→e≠58→wr.ownsRow base e s v m xs→(wx.setCell ⟨gO,4,none⟩ kv2).ownsRow base e s v m xs:=fun h1 h2 ho=>zakY (zagY ho hg (zafY ho h.kids h1)) bo1 h2 4 _
 have r2:∀ {base m:Nat} {v:Value} {xs:List Value},wr.ownsRow base 3 1 v m xs→(∀ g,v.ownBlock=some g→kv.ownBlock≠some g)→(wx.setCell ⟨gO,4,none⟩ kv2).ownsRow base 3 1 v m xs:=fun ho h1=>zakY (zagY ho hg (fun g hg e=>h1 g hg e.symm)) bo1 (by decide) 4 _
 have r3:(wx.setCell ⟨gO,4,none⟩ kv2).ownsRow w0.heap.size 58 5 nvk (L ++ N).length ((L ++ N).flatMap nodeRow):=zagY (zagY h.st.row hg (zafY h.st.row h.kids (by decide))) hg2 (fun g e1 e2=>h.nO (e1.trans e2))
 have hall:∀ p∈L ++ N,∀ g,p.2.2.ownBlock=some g→kv.ownBlock≠some g:=fun p hp g hg e=>by
  rcases List.mem_append.1 hp with hp | hp
  ·have:=h.old p hp g hg
   have:=(hkl g e).1
   omega
  ·exact h.apart p hp g hg e
 have hbF:gF≠gO:=by have:=h.ltF;have:=h.geO;omega
 refine ⟨⟨(h.st.fo.grown hg (zaeZ h.kids h.st.fo (by decide))).far (p:=⟨gO,4,none⟩) hbF _,r3,fun p hp=>r1 (by decide) (by decide) (h.st.keys p hp),fun p hp=>r2 (h.st.kids p hp) (hall p hp),?_,h.st.bF⟩,?_,fun p hp=>⟨r1 (by decide) (by decide) (h.parts p hp).1,r2 (h.parts p hp).2 (h.apart p hp)⟩,bn1.far (p:=⟨gO,4,none⟩) (Ne.symm h.ne) _,bo1.set_ 4 _,r1 (by decide) (by decide) h.keys,?_,fun p hp g hg e=>?_,r1 (by decide) (by decide) h.vals,fun i hi=>?_,h.geN,h.geO,h.ne,h.nN,h.nO,h.old,h.ltF⟩
 ·exact zaiY (zaiY h.st.bl hg h.st.bl.size (fun g e=>by have:=(hkl g e).1;have:=h.ltF;have:=h.st.bF;omega)) hg2 (Nat.le_trans h.st.bl.size hg.size) (fun g e=>by injection e with e;have:=h.geO;have:=h.ltF;have:=h.st.bF;omega)
 ·exact (h.kf.new hg (fun g e=>(hkl g e).1)).new hg2 (fun g e=>by injection e with e;have:=h.geO;omega)
 ·have:=zakY hown bo1 (by decide) 4 kv2
  simpa using this
 ·rcases hat with hat | hat
  ·exact h.apart p hp g hg (hat.trans e)
  ·rw [hat] at e
   injection e with e
   have:=((h.parts p hp).2.lt g hg).2
   omega
 ·obtain ⟨g,a,b,c⟩:=h.vrow i hi
  refine ⟨g,a,b,(c.grown hg (zaeZ h.kids c (by decide))).far (p:=⟨gO,4,none⟩) (fun e=>?_) _⟩
  have e':g=gO:=e;subst e';have c2:=h.bo;unfold Blk at c c2;rw [c] at c2;injection c2 with c2
  injection c2 with _ c2 _
  exact absurd c2 (by decide)
theorem FLc.val {lv2:Value} {c:CellD} {g1:Nat} (h:FLc w0 w wr S gF gN gO nv nvk L N n nb kO ks vs kv lv lr) (hown:wx.ownsRow w.heap.size 96 1 lv2 (vs.length+1) (lr ++ [.slice (some ⟨g1,0,none⟩) 1 1])) (hg:wr.grownBy wx lv.ownBlock) (hc:Blk wr g1 103 c.cells.toArray) (hle:w.heap.size≤g1) :
  FLc w0 w wx S gF gN gO nv nvk L N n nb kO ks (vs ++ [c]) kv lv2 (lr ++ [.slice (some ⟨g1,0,none⟩) 1 1]):=by
 have hkl:∀ g,lv.ownBlock=some g→w.heap.size≤g∧g<wr.heap.size:=fun g hg=>h.vals.lt g hg
 have r1:∀ {base m s:Nat} {v:Value} {xs:List Value} {e:TypeId},e≠96→wr.ownsRow base e s v m xs→wx.ownsRow base e s v m xs:=fun h1 ho=>zagY ho hg (zafY ho h.vals h1)
 have hlr:lr.length=vs.length:=by have:=h.vals.1;omega
 refine ⟨h.st.grown hg (zaeZ h.vals h.st.fo (by decide)) (zafY h.st.row h.vals (by decide)) (fun p hp=>zafY (h.st.keys p hp) h.vals (by decide)) (fun p hp=>zafY (h.st.kids p hp) h.vals (by decide)) (fun g e=>by have:=(hkl g e).1;have:=h.ltF;have:=h.st.bF;omega),h.kf.new hg (fun g e=>(hkl g e).1),fun p hp=>⟨r1 (by decide) (h.parts p hp).1,r1 (by decide) (h.parts p hp).2⟩,h.bn.grown hg (zaeZ h.vals h.bn (by decide)),h.bo.grown hg (zaeZ h.vals h.bo (by decide)),r1 (by decide) h.keys,r1 (by decide) h.kids,h.apart,?_,fun i hi=>?_,h.geN,h.geO,h.ne,h.nN,h.nO,h.old,h.ltF⟩
 ·simpa using hown
 ·rw [List.length_append,List.length_singleton] at hi
  by_cases e:i<vs.length
  ·obtain ⟨g,a,b,d⟩:=h.vrow i e
   refine ⟨g,?_,b,?_⟩
   ·rw [List.getElem?_append_left (by omega)];exact a
   ·rw [List.getElem_append_left e];exact d.grown hg (zaeZ h.vals d (by decide))
  ·have e2:i=vs.length:=by omega
   subst e2;refine ⟨g1,?_,hle,?_⟩
   ·rw [← hlr];simp
   ·simp only [List.getElem_concat_length]
    exact hc.grown hg (zaeZ h.vals hc (by decide))
theorem FLc.push {nv2:Value} (h:FLc w0 w wr S gF gN gO nv nvk L N n nb kO ks vs kv lv lr) (hown:wx.ownsRow w0.heap.size 58 5 nv2 ((L ++ N).length+1) ((L ++ N).flatMap nodeRow ++ nodeRow (⟨n.kind,n.text,n.int,n.keys,ks⟩,kO,kv))) (hg:wr.grownBy wx nvk.ownBlock) (hat:nvk.ownBlock=nv2.ownBlock∨nv2.ownBlock=some wr.heap.size) :
  FoSt w0 (wx.setCell ⟨gF,2,none⟩ nv2) S gF nv2 (L ++ (N ++ [(⟨n.kind,n.text,n.int,n.keys,ks⟩,kO,kv)]))∧KF gF nv.ownBlock nv2.ownBlock w (wx.setCell ⟨gF,2,none⟩ nv2)∧PartsO w.heap.size (wx.setCell ⟨gF,2,none⟩ nv2) (N ++ [(⟨n.kind,n.text,n.int,n.keys,ks⟩,kO,kv)]):=by
 have hw:=h.size;have hkl:∀ g,nvk.ownBlock=some g→w0.heap.size≤g∧g<wr.heap.size:=fun g hg=>h.st.row.lt g hg
 have hw0:w0.heap.size≤w.heap.size:=by have:=h.ltF;have:=h.st.bF;omega
 have bF1:Blk wx gF 73 _:=h.st.fo.grown hg (zaeZ h.st.row h.st.fo (by decide));have r1:∀ {base m s:Nat} {v:Value} {xs:List Value} {e:TypeId},e≠58→e≠73→wr.ownsRow base e s v m xs→(wx.setCell ⟨gF,2,none⟩ nv2).ownsRow base e s v m xs:=fun h1 h2 ho=>zakY (zagY ho hg (zafY ho h.st.row h1)) bF1 h2 2 _
 have hrow:(wx.setCell ⟨gF,2,none⟩ nv2).ownsRow w0.heap.size 58 5 nv2 (L ++ (N ++ [((⟨n.kind,n.text,n.int,n.keys,ks⟩,kO,kv):NodeX)])).length ((L ++ (N ++ [((⟨n.kind,n.text,n.int,n.keys,ks⟩,kO,kv):NodeX)])).flatMap nodeRow):=by
  have:=zakY hown bF1 (by decide) 2 nv2
  rw [← List.append_assoc,List.length_append,List.length_singleton,List.flatMap_append,List.flatMap_cons,List.flatMap_nil,List.append_nil];exact this
 have hN:PartsO w.heap.size (wx.setCell ⟨gF,2,none⟩ nv2) (N ++ [((⟨n.kind,n.text,n.int,n.keys,ks⟩,kO,kv):NodeX)]):=fun p hp=>by
  rcases List.mem_append.1 hp with hp | hp
  ·exact ⟨r1 (by decide) (by decide) (h.parts p hp).1,r1 (by decide) (by decide) (h.parts p hp).2⟩
  ·simp only [List.mem_singleton] at hp
   subst hp;exact ⟨r1 (by decide) (by decide) h.keys,r1 (by decide) (by decide) h.kids⟩
 have hparts:∀ p∈L ++ (N ++ [((⟨n.kind,n.text,n.int,n.keys,ks⟩,kO,kv):NodeX)]),(wx.setCell ⟨gF,2,none⟩ nv2).ownsRow w0.heap.size 9 1 p.2.1 p.1.keys.length (p.1.keys.map Value.string)∧(wx.setCell ⟨gF,2,none⟩ nv2).ownsRow w0.heap.size 3 1 p.2.2 p.1.kids.length (p.1.kids.map (Value.int .i64)):=fun p hp=>by
  rcases List.mem_append.1 hp with hp | hp
  ·have hp':p∈L ++ N:=List.mem_append_left _ hp
   exact ⟨r1 (by decide) (by decide) (h.st.keys p hp'),r1 (by decide) (by decide) (h.st.kids p hp')⟩
  ·exact ⟨zahY (hN p hp).1 hw0,zahY (hN p hp).2 hw0⟩
 refine ⟨⟨bF1.set_ 2 _,hrow,fun p hp=>(hparts p hp).1,fun p hp=>(hparts p hp).2,?_,h.st.bF⟩,?_,hN⟩
 ·exact zaiY (zaiY h.st.bl hg h.st.bl.size (fun g e=>(hkl g e).1)) (zacY wx gF 2 nv2) (Nat.le_trans h.st.bl.size hg.size) (fun g e=>by injection e with e;have:=h.st.bF;omega)
 ·refine (KF.grown (v:=nvk) (v':=nvk) h.kf hg ?_).setF 2 nv2
  rcases hat with e | e
  ·exact .inl e.symm
  ·exact .inr ⟨_,e,Nat.le_refl _⟩
end
end
section
def NodeP (w0 w:World) (S:ProgS) (gF:Nat) (nv:Value) (L:List NodeX) (R:List NodeD) (r:Ending) (w':World):Prop:=∃ nv' N m,r=.returned (.int .i64 (m:Nat))∧m+1=(L ++ N).length∧FoSt w0 w' S gF nv' (L ++ N)∧(L ++ N).map Prod.fst=R∧KF gF nv.ownBlock nv'.ownBlock w w'∧PartsO w.heap.size w' N
def FNodeH (w0:World) (S:ProgS) (gF f i s:Nat):Prop:=∀ (w:World) (nv:Value) (L:List NodeX),FoSt w0 w S gF nv L→L.length+(i+1 - s)≤5000→Calls prog 34 #[.pointer (some ⟨gF,0,none⟩),.int .i64 i] w (NodeP w0 w S gF nv L (foldF S.p f i (L.map Prod.fst)))
theorem last_h8 {p:ProgD} {f m e':Nat} {out:List NodeD} {M:List NodeX} (hf:firstF p.nodes f m=some e') (hM:M.map Prod.fst=foldF p f m out) {j:Nat} (hj:j+1=M.length) (hjl:j<M.length) :
  ((M[j]).1.kind=8→0<(M[j]).1.kids.length∧∃ m:Nat,(M[j]).1.kids.getD 0 0=m∧∃ hm:m<M.length,(M[m]).1.kind=3→(-1000000000000≤(M[m]).1.int∧(M[m]).1.int≤1000000000000))∧(M[j]).1=(foldF p f m out).getD ((foldF p f m out).length - 1) noNode∧(foldF p f m out).length=j+1:=by
 obtain ⟨t,K⟩:=zauY p f m e' hf out;have hlen:(foldF p f m out).length=j+1:=by rw [← hM,List.length_map,hj]
 have hget:∀ q,(hq:q<M.length)→(foldF p f m out).getD q noNode=(M[q]).1:=fun q hq=>by
  rw [← hM,List.getD_eq_getElem?_getD,List.getElem?_map,List.getElem?_eq_getElem hq];rfl
 have htr:=K.tree (foldF p f m out) (by rw [K.eq];exact List.prefix_rfl)
 have hj2:out.length+t.length - 1=j:=by
  have:=congrArg List.length K.eq
  rw [hlen,List.length_append] at this;omega
 rw [hj2] at htr;refine ⟨fun hk=>?_,?_,hlen⟩
 ·rw [← hget j hjl] at hk
  obtain ⟨a,m',b,c,d⟩:=root8 htr hk;rw [hget j hjl] at a b;exact ⟨a,m',b,by omega,fun h3=>by rw [← hget m' (by omega)] at h3 ⊢;exact d h3⟩
 ·rw [hlen,Nat.add_sub_cancel,hget j hjl]
attribute [local go_sem] zacZ
end
section
def ConsP (c:CellD) (a:Nat) (w:World) (r:Ending) (w':World):Prop:=∃ (g:Nat) (N:List NodeX),r=.returned (.slice (some ⟨g,0,none⟩) N.length N.length)∧N.map Prod.fst=constantsF c a∧Blk w' g 58 (N.flatMap nodeRow).toArray∧PartsO w.heap.size w' N∧0<N.length∧N.length≤2∧Below w.heap.size w w'
attribute [local go_sem] zacZ
theorem constants_s (c:CellD) (a:Nat) (w:World) (hc : -1000000000000≤c.int∧c.int≤1000000000000):Calls prog 50 #[.agg c.cells.toArray,.int .i64 (a:Nat)] w (ConsP c a w):=by
 obtain ⟨P,hP⟩:∃ P:Ending→World→Prop,ConsP c a w=P:=⟨_,rfl⟩
 rw [hP];obtain ⟨ck,ci,cs,cn⟩:=c;obtain ⟨W1,hW1⟩:∃ W,w.alloc (.cells #[.int .i64 ck,.int .i64 ci,.string cs,.int .i64 cn] 103)=W:=⟨_,rfl⟩
 obtain ⟨g,hg⟩:∃ g,w.heap.size=g:=⟨_,rfl⟩
 have hb1:Below w.heap.size w W1:=by rw [← hW1];exact zabZ _ _
 have HX1:Hid (Blk W1 g 103 #[.int .i64 ck,.int .i64 ci,.string cs,.int .i64 cn]):=hZz (by rw [← hW1,← hg];exact Blk.new _ _ _);have HB1:=hZz hb1
 have HP1:Hid (∀ (n:NodeD) (W:World) (g':Nat),constantsF ⟨ck,ci,cs,cn⟩ a=[n]→n.keys=[]→n.kids=[]→Below w.heap.size w W→Blk W g' 58 #[.int .i64 n.kind,.string n.text,.int .i64 n.int,.slice none 0 0,.slice none 0 0]→P (.returned (.slice (some ⟨g',0,none⟩) 1 1)) W):=hZz (fun n W g' h1 h2 h3 h4 h5=>by
  rw [← hP];refine ⟨g',[(n,.slice none 0 0,.slice none 0 0)],rfl,h1.symm,h5,fun p hp=>?_,by simp,by simp,h4⟩
  simp only [List.mem_singleton] at hp;subst hp;exact ⟨by rw [h2];exact ⟨rfl,.inl ⟨rfl,rfl⟩⟩,by rw [h3];exact ⟨rfl,.inl ⟨rfl,rfl⟩⟩⟩)
 have HP2:Hid (∀ (W:World) (gi g':Nat),ck≠1→ck≠2→ck≠4→ci<0→Below w.heap.size w W→w.heap.size≤gi→Blk W gi 3 #[.int .i64 (a:Nat)]→Blk W g' 58 #[.int .i64 3,.string ⟨#[]⟩,.int .i64 (-ci),.slice none 0 0,.slice none 0 0,.int .i64 8,.string ⟨#[45]⟩,.int .i64 0,.slice none 0 0,.slice (some ⟨gi,0,none⟩) 1 1]→P (.returned (.slice (some ⟨g',0,none⟩) 2 2)) W):=hZz (fun W gi g' k1 k2 k4 k5 h1 h2 h3 h4=>by
  rw [← hP];refine ⟨g',[(leafN 3 ⟨#[]⟩ (-ci),.slice none 0 0,.slice none 0 0),(⟨8,minS,0,[],[(a:Int)]⟩,.slice none 0 0,.slice (some ⟨gi,0,none⟩) 1 1)],rfl,?_,h4,fun p hp=>?_,by simp,by simp,h1⟩
  ·unfold constantsF
   rw [if_neg k1,if_neg k2,if_neg k4,if_pos k5];rfl
  ·simp only [List.mem_cons,List.not_mem_nil,or_false] at hp
   rcases hp with rfl | rfl
   ·exact ⟨⟨rfl,.inl ⟨rfl,rfl⟩⟩,⟨rfl,.inl ⟨rfl,rfl⟩⟩⟩
   ·exact ⟨⟨rfl,.inl ⟨rfl,rfl⟩⟩,⟨rfl,.inr ⟨gi,1,_,rfl,h2,h3,by simp,by simp [maxLen],rfl,rfl⟩⟩⟩)
 have HW1:=hZz hW1;have HG:=hZz hg;have hwr:IntKind.i64.wrap (-ci)=-ci:=IntWalk.i64_in _ (by dsimp only at hc;omega);have HWR:=hZz hwr;clear hP hW1 hg hb1 hwr;show Calls prog 50 #[.agg #[.int .i64 ck,.int .i64 ci,.string cs,.int .i64 cn],.int .i64 (a:Nat)] w P;dsimp only at hc;go_enter func50,ntmps50
 go_upto_region 1 with fail
 rw [HG.out,HW1.out];clear HG HW1;have x1:=blk4n HX1.out;by_cases k1:ck=1
 ·subst k1
  go_wp2_with (fail)
  exact HP1.out (leafN 1 ⟨#[]⟩ 0) _ W1.heap.size rfl rfl rfl (zafZ (zabZ _ _) HB1.out) (Blk.new _ _ _)
 by_cases k2:ck=2
 ·subst k2
  go_wp2_with (fail)
  exact HP1.out (leafN 2 ⟨#[]⟩ ci) _ W1.heap.size rfl rfl rfl (zafZ (zabZ _ _) HB1.out) (Blk.new _ _ _)
 by_cases k4:ck=4
 ·subst k4
  go_wp2_with (fail)
  exact HP1.out (leafN 4 cs 0) _ W1.heap.size rfl rfl rfl (zafZ (zabZ _ _) HB1.out) (Blk.new _ _ _)
 by_cases k5:ci<0
 ·have hwr:=HWR.out
  go_wp2_with (fail)
  exact HP2.out _ W1.heap.size (W1.heap.size+1) k1 k2 k4 k5 (zafZ (zaxY _ _ _) HB1.out) HB1.out.size ((Blk.new _ _ _).alloc _) (Blk.new' (by simp))
 ·have HC:Hid (constantsF ⟨ck,ci,cs,cn⟩ a=[leafN 3 ⟨#[]⟩ ci]):=hZz (by unfold constantsF;rw [if_neg k1,if_neg k2,if_neg k4,if_neg k5])
  go_wp2_with (fail)
  exact HP1.out (leafN 3 ⟨#[]⟩ ci) _ W1.heap.size HC.out rfl rfl (zafZ (zabZ _ _) HB1.out) (Blk.new _ _ _)
end
section
theorem own_prefix {w:World} {base n m cap size:Nat} {A:Option Addr} {xs:List Value} {e:TypeId} (h:w.ownsRow base e size (.slice A n cap) n xs) (hm:m≤n):w.ownsRow base e size (.slice A m cap) m (xs.take (m * size)):=by
 have hle:m * size≤n * size:=Nat.mul_le_mul_right _ hm;refine ⟨by rw [List.length_take,h.1];omega,?_⟩
 rcases h.2 with ⟨e1,e2⟩ | ⟨g,c,cur,e1,e2,e3,e4,e5,e6,e7⟩
 ·injection e1 with e1 e3 e4
  have:m=0:=by omega
  subst e1 this e4;exact .inl ⟨rfl,rfl⟩
 ·injection e1 with e1 e8 e9
  subst e1 e9;refine .inr ⟨g,cap,cur,rfl,e2,e3,by omega,e5,e6,?_⟩
  rw [← e7,List.take_take];congr 1
  omega
section
variable {w0 w wr wx:World} {S:ProgS} {gF gN gO:Nat} {nv nvk:Value} {L N:List NodeX} {n:NodeD} {nb:Array Value} {kO:Value} {ks:List Int} {vs:List CellD} {kv lv:Value} {lr:List Value}
theorem FLc.cut {nv2:Value} {Cs:List NodeX} (h:FLc w0 w wr S gF gN gO nv nvk L N n nb kO ks vs kv lv lr) (hp:PartsO w.heap.size wr Cs) (hown:wx.ownsRow w0.heap.size 58 5 nv2 (L.length+Cs.length) (L.flatMap nodeRow ++ Cs.flatMap nodeRow)) (hg:wr.grownBy wx nvk.ownBlock) (hat:nvk.ownBlock=nv2.ownBlock∨nv2.ownBlock=some wr.heap.size) :
  FoSt w0 (wx.setCell ⟨gF,2,none⟩ nv2) S gF nv2 (L ++ Cs)∧KF gF nv.ownBlock nv2.ownBlock w (wx.setCell ⟨gF,2,none⟩ nv2)∧PartsO w.heap.size (wx.setCell ⟨gF,2,none⟩ nv2) Cs:=by
 have hw:=h.size;have hkl:∀ g,nvk.ownBlock=some g→w0.heap.size≤g∧g<wr.heap.size:=fun g hg=>h.st.row.lt g hg
 have hw0:w0.heap.size≤w.heap.size:=by have:=h.ltF;have:=h.st.bF;omega
 have bF1:Blk wx gF 73 _:=h.st.fo.grown hg (zaeZ h.st.row h.st.fo (by decide));have r1:∀ {base m s:Nat} {v:Value} {xs:List Value} {e:TypeId},e≠58→e≠73→wr.ownsRow base e s v m xs→(wx.setCell ⟨gF,2,none⟩ nv2).ownsRow base e s v m xs:=fun h1 h2 ho=>zakY (zagY ho hg (zafY ho h.st.row h1)) bF1 h2 2 _
 have hrow:(wx.setCell ⟨gF,2,none⟩ nv2).ownsRow w0.heap.size 58 5 nv2 (L ++ Cs).length ((L ++ Cs).flatMap nodeRow):=by
  have:=zakY hown bF1 (by decide) 2 nv2
  rw [List.length_append,List.flatMap_append];exact this
 have hN:PartsO w.heap.size (wx.setCell ⟨gF,2,none⟩ nv2) Cs:=fun p hp'=>⟨r1 (by decide) (by decide) (hp p hp').1,r1 (by decide) (by decide) (hp p hp').2⟩
 have hparts:∀ p∈L ++ Cs,(wx.setCell ⟨gF,2,none⟩ nv2).ownsRow w0.heap.size 9 1 p.2.1 p.1.keys.length (p.1.keys.map Value.string)∧(wx.setCell ⟨gF,2,none⟩ nv2).ownsRow w0.heap.size 3 1 p.2.2 p.1.kids.length (p.1.kids.map (Value.int .i64)):=fun p hp=>by
  rcases List.mem_append.1 hp with hp | hp
  ·have hp':p∈L ++ N:=List.mem_append_left _ hp
   exact ⟨r1 (by decide) (by decide) (h.st.keys p hp'),r1 (by decide) (by decide) (h.st.kids p hp')⟩
  ·exact ⟨zahY (hN p hp).1 hw0,zahY (hN p hp).2 hw0⟩
 refine ⟨⟨bF1.set_ 2 _,hrow,fun p hp=>(hparts p hp).1,fun p hp=>(hparts p hp).2,?_,h.st.bF⟩,?_,hN⟩
 ·exact zaiY (zaiY h.st.bl hg h.st.bl.size (fun g e=>(hkl g e).1)) (zacY wx gF 2 nv2) (Nat.le_trans h.st.bl.size hg.size) (fun g e=>by injection e with e;have:=h.st.bF;omega)
 ·refine (KF.grown (v:=nvk) (v':=nvk) h.kf hg ?_).setF 2 nv2
  rcases hat with e | e
  ·exact .inl e.symm
  ·exact .inr ⟨_,e,Nat.le_refl _⟩
end
end
section
theorem Tryz.infoFunc:(prog.info? 42).map (fun i=>(i.zero,i.size,i.bytes))=some (some (.agg #[.string ByteArray.empty,.slice none 0 0,.int .i64 0]),3,48):=by kernel_rfl
structure FoldS (w0 wr:World) (S:ProgS) (gF gU:Nat) (nv:Value) (L:List NodeX) (fA:Option Addr) (fc:Nat) (M:List FuncX):Prop where
 st:FoSt w0 wr S gF nv L
 bu:Blk wr gU 25 #[.slice none 0 0,.slice fA M.length fc]
 row:wr.ownsRow w0.heap.size 42 3 (.slice fA M.length fc) M.length (M.flatMap funcRow)
 keys:∀ p∈M,wr.ownsRow w0.heap.size 9 1 p.2 p.1.params.length (p.1.params.map Value.string)
 geU:w0.heap.size≤gU
section
variable {w0 w wr wx:World} {S:ProgS} {gF gU:Nat} {nv nv2:Value} {L L2:List NodeX} {fA:Option Addr} {fc:Nat} {M:List FuncX}
theorem FoldS.below (h:FoldS w0 wr S gF gU nv L fA fc M) (hb:Below wr.heap.size wr wx):FoldS w0 wx S gF gU nv L fA fc M :=
 ⟨h.st.below hb,h.bu.below hb,zagZ h.row hb,fun p hp=>zagZ (h.keys p hp) hb,h.geU⟩
theorem FoldS.neU (h:FoldS w0 wr S gF gU nv L fA fc M):gU≠gF:=fun e=>by
 have a:=h.bu;have b:=h.st.fo;subst e;unfold Blk at a b;rw [a] at b;injection b with b
 injection b with _ b _
 exact absurd b (by decide)
theorem FoldS.rec_ (h:FoldS w0 wr S gF gU nv L fA fc M) (hst:FoSt w0 wx S gF nv2 L2) (hk:KF gF nv.ownBlock nv2.ownBlock wr wx):FoldS w0 wx S gF gU nv2 L2 fA fc M:=by
 have aS:∀ {base m s:Nat} {v:Value} {xs:List Value} {e:TypeId},e≠73→e≠58→wr.ownsRow base e s v m xs→wx.ownsRow base e s v m xs:=fun h1 h2 ho=>hk.row ho (fun g hg=>⟨zanY ho h.st.fo h1 g hg,zafY ho h.st.row h2 g hg⟩)
 exact ⟨hst,hk.blk h.bu h.neU (zaeZ h.st.row h.bu (by decide)),aS (by decide) (by decide) h.row,fun p hp=>aS (by decide) (by decide) (h.keys p hp),h.geU⟩
theorem FoldS.func {x:FuncX} {f2:Option Addr} {c2:Nat} (h:FoldS w0 wr S gF gU nv L fA fc M) (hk:wr.ownsRow w0.heap.size 9 1 x.2 x.1.params.length (x.1.params.map Value.string)) (hown:wx.ownsRow w0.heap.size 42 3 (.slice f2 (M.length+1) c2) (M.length+1) (M.flatMap funcRow ++ funcRow x)) (hg:wr.grownBy wx (Value.slice fA M.length fc).ownBlock) :
  FoldS w0 (wx.setCell ⟨gU,1,none⟩ (.slice f2 (M.length+1) c2)) S gF gU nv L f2 c2 (M ++ [x]):=by
 have bu1:Blk wx gU 25 _:=h.bu.grown hg (zaeZ h.row h.bu (by decide));have hg2:=zacY wx gU 1 (.slice f2 (M.length+1) c2);have r1:∀ {base m s:Nat} {v:Value} {xs:List Value} {e:TypeId},e≠42→e≠25→wr.ownsRow base e s v m xs→(wx.setCell ⟨gU,1,none⟩ (.slice f2 (M.length+1) c2)).ownsRow base e s v m xs:=fun h1 h2 ho=>zakY (zagY ho hg (zafY ho h.row h1)) bu1 h2 1 _
 refine ⟨⟨(h.st.fo.grown hg (zaeZ h.row h.st.fo (by decide))).far (p:=⟨gU,1,none⟩) (Ne.symm h.neU) _,r1 (by decide) (by decide) h.st.row,fun p hp=>r1 (by decide) (by decide) (h.st.keys p hp),fun p hp=>r1 (by decide) (by decide) (h.st.kids p hp),?_,h.st.bF⟩,?_,?_,fun p hp=>?_,h.geU⟩
 ·exact zaiY (zaiY h.st.bl hg h.st.bl.size (fun g e=>(h.row.lt g e).1)) hg2 (Nat.le_trans h.st.bl.size hg.size) (fun g e=>by injection e with e;have:=h.geU;omega)
 ·have:=bu1.set_ 1 (.slice f2 (M.length+1) c2)
  simpa using this
 ·have:=zakY hown bu1 (by decide) 1 (.slice f2 (M.length+1) c2)
  rw [List.length_append,List.length_singleton,List.flatMap_append,List.flatMap_cons,List.flatMap_nil,List.append_nil];exact this
 ·rcases List.mem_append.1 hp with hp | hp
  ·exact r1 (by decide) (by decide) (h.keys p hp)
  ·simp only [List.mem_singleton] at hp
   subst hp;exact r1 (by decide) (by decide) hk
end
structure RowsAll (B:Nat) (w:World) (A:Option Addr) (c:Nat) (L:List NodeX) (fA:Option Addr) (fc:Nat) (M:List FuncX):Prop where
 nrow:w.ownsRow B 58 5 (.slice A L.length c) L.length (L.flatMap nodeRow)
 keys:∀ p∈L,w.ownsRow B 9 1 p.2.1 p.1.keys.length (p.1.keys.map Value.string)
 kids:∀ p∈L,w.ownsRow B 3 1 p.2.2 p.1.kids.length (p.1.kids.map (Value.int .i64))
 frow:w.ownsRow B 42 3 (.slice fA M.length fc) M.length (M.flatMap funcRow)
 pars:∀ p∈M,w.ownsRow B 9 1 p.2 p.1.params.length (p.1.params.map Value.string)
theorem RowsAll.far {B g c fc:Nat} {w:World} {A fA:Option Addr} {L:List NodeX} {M:List FuncX} {cs:Array Value} (h:RowsAll B w A c L fA fc M) (hb:Blk w g 25 cs) (j:Nat) (u:Value):RowsAll B (w.setCell ⟨g,j,none⟩ u) A c L fA fc M :=
 ⟨zakY h.nrow hb (by decide) j u,fun p hp=>zakY (h.keys p hp) hb (by decide) j u,fun p hp=>zakY (h.kids p hp) hb (by decide) j u,zakY h.frow hb (by decide) j u,fun p hp=>zakY (h.pars p hp) hb (by decide) j u⟩
theorem RowsAll.prog {B c fc:Nat} {w:World} {A fA:Option Addr} {L:List NodeX} {M:List FuncX} (h:RowsAll B w A c L fA fc M) (hl:L.length≤1000000) (hk:∀ p∈L,p.1.kids.length≤1000000) (hm:M.length≤1000000):ProgV w ⟨A,fA,c,fc,⟨L.map Prod.fst,M.map Prod.fst⟩⟩:=by
 refine ⟨?_,?_⟩
 ·show NodesV w (.slice A (L.map Prod.fst).length c) (L.map Prod.fst)
  rw [List.length_map];exact nodes_sl (SlAt.of_own h.nrow rfl (fun _=>rfl) (by decide)) (fun p hp=>⟨keys_ownV (h.keys p hp),ints_own (h.kids p hp) (by have:=hk p hp;omega)⟩) (zb6Y h.nrow) hl
 ·show FuncsV w (.slice fA (M.map Prod.fst).length fc) (M.map Prod.fst)
  rw [List.length_map];exact funcs_sl (SlAt.of_own h.frow rfl (fun _=>rfl) (by decide)) (fun p hp=>keys_ownV (h.pars p hp)) (zb6Y h.frow) hm
theorem FoldS.rows {w0 wr:World} {S:ProgS} {gF gU:Nat} {A:Option Addr} {c:Nat} {L:List NodeX} {fA:Option Addr} {fc:Nat} {M:List FuncX} (h:FoldS w0 wr S gF gU (.slice A L.length c) L fA fc M):RowsAll w0.heap.size wr A c L fA fc M:=⟨h.st.row,h.st.keys,h.st.kids,h.row,h.keys⟩
theorem foldK_kids {rec:Nat→List NodeD→List NodeD} {B:Nat} (hr:∀ i out,(∀ x∈out,x.kids.length≤B)→∀ x∈rec i out,x.kids.length≤B):∀ (r:List Int) (out:List NodeD) (ks:List Int) (vs:List CellD),(∀ x∈out,x.kids.length≤B)→(∀ x∈(foldK rec r out ks vs).1,x.kids.length≤B)∧(foldK rec r out ks vs).2.1.length=ks.length+r.length:=by
 intro r;induction r with
 | nil=>intro out ks vs h;exact ⟨h,rfl⟩
 | cons k r ih =>
  intro out ks vs h;obtain ⟨a,b⟩:=ih (rec k.toNat out) (ks ++ [((rec k.toNat out).length:Int) - 1]) (vs ++ (constF (rec k.toNat out) ((rec k.toNat out).getD ((rec k.toNat out).length - 1) noNode)).toList) (hr _ _ h);refine ⟨a,?_⟩
  show (foldK rec r _ _ _).2.1.length=_;rw [b,List.length_append,List.length_cons,List.length_nil,List.length_cons];omega
theorem foldF_kids {p:ProgD} {B:Nat} (hB:1≤B) (hp:∀ i,(p.at_ i).kids.length≤B):∀ f i out,(∀ x∈out,x.kids.length≤B)→∀ x∈foldF p f i out,x.kids.length≤B:=by
 intro f;induction f with
 | zero=>intro i out h;exact h
 | succ f ih =>
  intro i out h x hx;simp only [foldF] at hx;obtain ⟨a,b⟩:=foldK_kids (rec:=foldF p f) ih (p.at_ i).kids out [] [] h;cases hv:opVal (p.at_ i) (foldK (foldF p f) (p.at_ i).kids out [] []).2.2 with
  | some c =>
   rw [hv] at hx;rcases List.mem_append.1 hx with hx | hx
   ·exact h x hx
   ·unfold constantsF at hx
    split at hx
    ·simp at hx;subst hx;exact Nat.zero_le _
    split at hx
    ·simp at hx;subst hx;exact Nat.zero_le _
    split at hx
    ·simp at hx;subst hx;exact Nat.zero_le _
    split at hx
    ·simp at hx
     rcases hx with rfl | rfl
     ·exact Nat.zero_le _
     ·exact hB
    ·simp at hx;subst hx;exact Nat.zero_le _
  | none =>
   rw [hv] at hx;rcases List.mem_append.1 hx with hx | hx
   ·exact a x hx
   ·simp only [List.mem_singleton] at hx
    subst hx
    have:(foldK (foldF p f) (p.at_ i).kids out [] []).2.1.length=(p.at_ i).kids.length:=by rw [b];simp
    show (foldK (foldF p f) (p.at_ i).kids out [] []).2.1.length≤B;rw [this];exact hp i
theorem foldN_kids {p:ProgD} {B:Nat} (hB:1≤B) (hp:∀ i,(p.at_ i).kids.length≤B):∀ k,∀ x∈foldN p k,x.kids.length≤B:=by
 intro k;induction k with
 | zero=>intro x hx;cases hx
 | succ k ih=>exact foldF_kids hB hp _ _ _ ih
theorem ProgOk.kids {p:ProgD} (h:ProgOk p):∀ i,(p.at_ i).kids.length≤1000:=by
 intro i;by_cases hi:i<p.nodes.length
 ·have e:p.at_ i=p.nodes[i]:=zakZ hi _
  rw [e];exact (h.nodes.kids _ (List.getElem_mem hi)).1
 ·have e:p.at_ i=noNode:=by
   show p.nodes.getD i noNode=noNode;rw [List.getD_eq_getElem?_getD,List.getElem?_eq_none (by omega)];rfl
  rw [e];show (0:Nat)≤1000;omega
end
end Go.Proofs.YthiimbhjpdphpaaGreatDoor
