/- FB2, FB3 -/
import Derived.Test.YthiimbhjpdphpaaGreatDoorPFB1
import Derived.Test.YthiimbhjpdphpaaGreatDoorPW17
set_option linter.unusedVariables false
set_option linter.unusedSimpArgs false
namespace Go.Proofs.YthiimbhjpdphpaaGreatDoor
open Go.RowKit
set_option maxRecDepth 100000
def OutCut (wr wx:World) (n:NodeD) (u:Value):Prop:=∃ gO kA kc,u=.pointer (some ⟨gO,0,none⟩)∧Below wr.heap.size wr wx∧wr.heap.size≤gO∧Blk wx gO 58 #[.int .i64 n.kind,.string n.text,.int .i64 n.int,.slice kA n.keys.length kc,.slice none 0 0]∧wx.ownsRow wr.heap.size 9 1 (.slice kA n.keys.length kc) n.keys.length (n.keys.map Value.string)
theorem zazY {w w':World} (h:w.grownBy w' none):Below w.heap.size w w':=⟨h.os,h.tape,h.output,h.size,fun k hk=>h.block k hk (by simp)⟩
theorem own_rowfar {w:World} {base:Nat} {e t:TypeId} {size n g:Nat} {v:Value} {xs:List Value} {cs cs':Array Value} (h:w.ownsRow base e size v n xs) (hb:Blk w g t cs) (hne:e≠t):(w.setRow g cs').ownsRow base e size v n xs:=by
 have hn:=zafZ h hb hne;obtain ⟨h1,h2⟩:=h;refine ⟨h1,h2.imp id (fun ⟨g',cap,cur,ev,eg,eh,e4⟩=>⟨g',cap,cur,ev,eg,?_,e4⟩)⟩
 subst ev;exact (setRow_other w g g' cs' (fun e'=>hn (by show some g=some g';rw [e']))).trans eh
theorem four_n {w:World} {g:Nat} {t:TypeId} {a b c d e:Value} (h:Blk w g t #[a,b,c,d,e]):w.cell? ⟨g,0,none⟩=some a∧w.cell? ⟨g,1,none⟩=some b∧w.cell? ⟨g,2,none⟩=some c∧w.cell? ⟨g,3,none⟩=some d:=⟨h.cell 0 _ rfl,h.cell 1 _ rfl,h.cell 2 _ rfl,h.cell 3 _ rfl⟩
section
theorem zajY {w w':World} {base n size:Nat} {v:Value} {xs:List Value} {e:TypeId} {row:Option Nat} (h:w.ownsRow base e size v n xs) (hg:w.grownBy w' row) (hn:∀ g,v.ownBlock=some g→some g≠row):w'.ownsRow base e size v n xs:=by
 refine ⟨h.1,h.2.imp id (fun ⟨g,cap,cur,ev,eg,eh,e4⟩=>⟨g,cap,cur,ev,eg,?_,e4⟩)⟩
 exact (hg.block g (lt_of_block eh) (hn g (by rw [ev];rfl))).trans eh
theorem KF.new {gF:Nat} {b b2 row:Option Nat} {w w' w'':World} (h:KF gF b b2 w w') (hg:w'.grownBy w'' row) (hr:∀ g,row=some g→w.heap.size≤g):KF gF b b2 w w'':=by
 refine ⟨hg.os.trans h.os,hg.tape.trans h.tape,hg.output.trans h.output,Nat.le_trans h.size hg.size,fun g h1 h2 h3=>?_,h.own⟩
 exact (hg.block g (Nat.lt_of_lt_of_le h1 h.size) (fun e=>by have:=hr g e.symm;omega)).trans (h.stay g h1 h2 h3)
theorem zavY {B:Nat} {w w' w'':World} {row:Option Nat} (h:Below B w w') (hg:w'.grownBy w'' row) (hB:B≤w'.heap.size) (hr:∀ g,row=some g→B≤g):Below B w w'':=h.grown hg hB hr
theorem cover_take {l:List NodeD} {f:Nat} {r:List Int} {s e:Nat} (h:Cover l f r s e):∀ k,k≤r.length→∃ e',Cover l f (r.take k) s e'∧e'≤e∧(∀ hk:k<r.length,∃ m:Nat,r[k]=m∧firstF l f m=some e'∧m+1≤e):=by
 induction h with
 | nil s =>
  intro k hk
  have:k=0:=by simpa using hk
  subst this;exact ⟨s,.nil s,Nat.le_refl _,fun h=>by cases h⟩
 | cons r s m e h1 h2 ih =>
  intro k hk;have hle:=h2.le';have hsm:=zaaY h1;cases k with
  | zero=>exact ⟨s,.nil s,by omega,fun _=>⟨m,rfl,h1,hle⟩⟩
  | succ k =>
   obtain ⟨e',a,b,c⟩:=ih k (by simpa using hk);exact ⟨e',.cons _ _ _ _ h1 a,b,fun hk'=>by simpa using c (by simpa using hk')⟩
theorem foldK_snoc (rec:Nat→List NodeD→List NodeD) (x:Int):∀ (r:List Int) (out:List NodeD) (ks:List Int) (vs:List CellD),foldK rec (r ++ [x]) out ks vs=(rec x.toNat (foldK rec r out ks vs).1,(foldK rec r out ks vs).2.1 ++ [((rec x.toNat (foldK rec r out ks vs).1).length:Int) - 1],(foldK rec r out ks vs).2.2 ++ (constF (rec x.toNat (foldK rec r out ks vs).1) ((rec x.toNat (foldK rec r out ks vs).1).getD ((rec x.toNat (foldK rec r out ks vs).1).length - 1) noNode)).toList):=by
 intro r;induction r with
 | nil=>intro out ks vs;simp [foldK]
 | cons k r ih=>intro out ks vs;simp only [List.cons_append,foldK];exact ih _ _ _
theorem root8 {l:List NodeD} {f i s:Nat} (h:firstF l f i=some s) (hk:(l.getD i noNode).kind=8):0<(l.getD i noNode).kids.length∧∃ m:Nat,(l.getD i noNode).kids.getD 0 0=m∧m<i∧((l.getD m noNode).kind=3→-1000000000000≤(l.getD m noNode).int∧(l.getD m noNode).int≤1000000000000):=by
 cases f with
 | zero=>cases h
 | succ f =>
  have T:=zabY h;have hc:=cnt_one T.count (.inl hk);obtain ⟨a,ha⟩:=list_one hc;have hcv:=T.cover;rw [ha] at hcv;obtain ⟨e1,e2,e3⟩:=hcv.one;refine ⟨by omega,i - 1,?_,by omega,fun h3=>?_⟩
  ·rw [ha]
   show a=((i - 1:Nat):Int);omega
  ·cases f with
   | zero=>cases e3
   | succ f =>
    have:=zcpY (zabY e3).fields h3
    omega
def PartsO (B:Nat) (w:World) (N:List NodeX):Prop:=∀ p∈N,w.ownsRow B 9 1 p.2.1 p.1.keys.length (p.1.keys.map Value.string)∧w.ownsRow B 3 1 p.2.2 p.1.kids.length (p.1.kids.map (Value.int .i64))
theorem FoSt.grown {w0 w w':World} {S:ProgS} {gF:Nat} {nv:Value} {L:List NodeX} {row:Option Nat} (h:FoSt w0 w S gF nv L) (hg:w.grownBy w' row) (h1:some gF≠row) (h2:∀ g,nv.ownBlock=some g→some g≠row) (h3:∀ p∈L,∀ g,p.2.1.ownBlock=some g→some g≠row) (h4:∀ p∈L,∀ g,p.2.2.ownBlock=some g→some g≠row) (h0:∀ g,row=some g→w0.heap.size≤g):FoSt w0 w' S gF nv L :=
 ⟨h.fo.grown hg h1,zajY h.row hg h2,fun p hp=>zajY (h.keys p hp) hg (h3 p hp),fun p hp=>zajY (h.kids p hp) hg (h4 p hp),zavY h.bl hg h.bl.size h0,h.bF⟩
structure FLc (w0 w wr:World) (S:ProgS) (gF gN gO:Nat) (nv nvk:Value) (L N:List NodeX) (n:NodeD) (nb:Array Value) (kO:Value) (ks:List Int) (vs:List CellD) (kv lv:Value) (lr:List Value):Prop where
 st:FoSt w0 wr S gF nvk (L ++ N)
 kf:KF gF nv.ownBlock nvk.ownBlock w wr
 parts:PartsO w.heap.size wr N
 bn:Blk wr gN 58 nb
 bo:Blk wr gO 58 #[.int .i64 n.kind,.string n.text,.int .i64 n.int,kO,kv]
 keys:wr.ownsRow w.heap.size 9 1 kO n.keys.length (n.keys.map Value.string)
 kids:wr.ownsRow w.heap.size 3 1 kv ks.length (ks.map (Value.int .i64))
 apart:∀ p∈N,∀ g,p.2.2.ownBlock=some g→kv.ownBlock≠some g
 vals:wr.ownsRow w.heap.size 96 1 lv vs.length lr
 vrow:∀ i (h:i<vs.length),∃ g,lr[i]? = some (.slice (some ⟨g,0,none⟩) 1 1)∧w.heap.size≤g∧Blk wr g 103 (vs[i]).cells.toArray
 geN:w.heap.size≤gN
 geO:w.heap.size≤gO
 ne:gO≠gN
 nN:nvk.ownBlock≠some gN
 nO:nvk.ownBlock≠some gO
 old:∀ p∈L,∀ g,p.2.2.ownBlock=some g→g<w.heap.size
 ltF:gF<w.heap.size
section
variable {w0 w wr wx:World} {S:ProgS} {gF gN gO:Nat} {nv nvk:Value} {L N:List NodeX} {n:NodeD} {nb:Array Value} {kO:Value} {ks:List Int} {vs:List CellD} {kv lv:Value} {lr:List Value}
theorem FLc.below (h:FLc w0 w wr S gF gN gO nv nvk L N n nb kO ks vs kv lv lr) (hb:Below wr.heap.size wr wx):FLc w0 w wx S gF gN gO nv nvk L N n nb kO ks vs kv lv lr :=
 ⟨h.st.below hb,h.kf.trans (KF.of_below hb _ _),fun p hp=>⟨zahZ (h.parts p hp).1 hb,zahZ (h.parts p hp).2 hb⟩,h.bn.below hb,h.bo.below hb,zahZ h.keys hb,zahZ h.kids hb,h.apart,zahZ h.vals hb,
  fun i hi=>by obtain ⟨g,a,b,c⟩:=h.vrow i hi;exact ⟨g,a,b,c.below hb⟩,h.geN,h.geO,h.ne,h.nN,h.nO,h.old,h.ltF⟩
theorem FLc.size (h:FLc w0 w wr S gF gN gO nv nvk L N n nb kO ks vs kv lv lr):w.heap.size≤wr.heap.size:=h.kf.size
theorem FLc.rec_ {nv3:Value} {N2:List NodeX} (h:FLc w0 w wr S gF gN gO nv nvk L N n nb kO ks vs kv lv lr) (hst:FoSt w0 wx S gF nv3 (L ++ (N ++ N2))) (hk:KF gF nvk.ownBlock nv3.ownBlock wr wx) (hp:PartsO wr.heap.size wx N2):FLc w0 w wx S gF gN gO nv nv3 L (N ++ N2) n nb kO ks vs kv lv lr:=by
 have hw:=h.size;have aS:∀ {base m:Nat} {v:Value} {xs:List Value} {e:TypeId},e≠73→e≠58→wr.ownsRow base e 1 v m xs→wx.ownsRow base e 1 v m xs:=fun h1 h2 ho=>hk.row ho (fun g hg=>⟨own_blk_ne ho h.st.fo h1 g hg,zakY ho h.st.row h2 g hg⟩)
 have hnew:∀ g,g<wr.heap.size→nvk.ownBlock≠some g→nv3.ownBlock≠some g:=fun g h1 h2 e=>by
  rcases hk.own with e2 | ⟨g',e2,e3⟩
  ·exact h2 (e2.symm.trans e)
  ·rw [e2] at e
   injection e with e
   omega
 have lN:=h.bn.lt;have lO:=h.bo.lt;refine ⟨hst,h.kf.trans hk,fun p hp'=>?_,hk.blk h.bn (by have:=h.ltF;have:=h.geN;omega) (fun e=>h.nN e.symm),hk.blk h.bo (by have:=h.ltF;have:=h.geO;omega) (fun e=>h.nO e.symm),aS (by decide) (by decide) h.keys,aS (by decide) (by decide) h.kids,fun p hp' g hg=>?_,aS (by decide) (by decide) h.vals,fun i hi=>?_,h.geN,h.geO,h.ne,hnew _ lN h.nN,hnew _ lO h.nO,h.old,h.ltF⟩
 ·rcases List.mem_append.1 hp' with hp' | hp'
  ·exact ⟨aS (by decide) (by decide) (h.parts p hp').1,aS (by decide) (by decide) (h.parts p hp').2⟩
  ·exact ⟨za7Y (hp p hp').1 hw,za7Y (hp p hp').2 hw⟩
 ·rcases List.mem_append.1 hp' with hp' | hp'
  ·exact h.apart p hp' g hg
  ·intro e
   have h1:=((hp p hp').2.lt g hg).1;have h2:=(h.kids.lt g e).2;omega
 ·obtain ⟨g,a,b,c⟩:=h.vrow i hi
  refine ⟨g,a,b,hk.blk c (by have:=h.ltF;omega) (zafZ h.st.row c (by decide))⟩
theorem FLc.kid {kv2:Value} {k:Int} (h:FLc w0 w wr S gF gN gO nv nvk L N n nb kO ks vs kv lv lr) (hown:wx.ownsRow w.heap.size 3 1 kv2 (ks.length+1) (ks.map (Value.int .i64) ++ [.int .i64 k])) (hg:wr.grownBy wx kv.ownBlock) (hat:kv.ownBlock=kv2.ownBlock∨kv2.ownBlock=some wr.heap.size) :
  FLc w0 w (wx.setCell ⟨gO,4,none⟩ kv2) S gF gN gO nv nvk L N n nb kO (ks ++ [k]) vs kv2 lv lr:=by
 have hw:=h.size;have lO:=h.bo.lt;have lN:=h.bn.lt;have hkl:∀ g,kv.ownBlock=some g→w.heap.size≤g∧g<wr.heap.size:=fun g hg=>h.kids.lt g hg
 have bo1:Blk wx gO 58 _:=h.bo.grown hg (zafZ h.kids h.bo (by decide));have bn1:Blk wx gN 58 nb:=h.bn.grown hg (zafZ h.kids h.bn (by decide));have hg2:=zaeY wx gO 4 kv2;have r1:∀ {base m s:Nat} {v:Value} {xs:List Value} {e:TypeId},e≠3→e≠58→wr.ownsRow base e s v m xs→(wx.setCell ⟨gO,4,none⟩ kv2).ownsRow base e s v m xs:=fun h1 h2 ho=>zapY (zajY ho hg (zakY ho h.kids h1)) bo1 h2 4 _
 have r2:∀ {base m:Nat} {v:Value} {xs:List Value},wr.ownsRow base 3 1 v m xs→(∀ g,v.ownBlock=some g→kv.ownBlock≠some g)→(wx.setCell ⟨gO,4,none⟩ kv2).ownsRow base 3 1 v m xs:=fun ho h1=>zapY (zajY ho hg (fun g hg e=>h1 g hg e.symm)) bo1 (by decide) 4 _
 have r3:(wx.setCell ⟨gO,4,none⟩ kv2).ownsRow w0.heap.size 58 5 nvk (L ++ N).length ((L ++ N).flatMap nodeRow):=zajY (zajY h.st.row hg (zakY h.st.row h.kids (by decide))) hg2 (fun g e1 e2=>h.nO (e1.trans e2))
 have hall:∀ p∈L ++ N,∀ g,p.2.2.ownBlock=some g→kv.ownBlock≠some g:=fun p hp g hg e=>by
  rcases List.mem_append.1 hp with hp | hp
  ·have:=h.old p hp g hg
   have:=(hkl g e).1
   omega
  ·exact h.apart p hp g hg e
 have hbF:gF≠gO:=by have:=h.ltF;have:=h.geO;omega
 refine ⟨⟨(h.st.fo.grown hg (zafZ h.kids h.st.fo (by decide))).far (p:=⟨gO,4,none⟩) hbF _,r3,fun p hp=>r1 (by decide) (by decide) (h.st.keys p hp),fun p hp=>r2 (h.st.kids p hp) (hall p hp),?_,h.st.bF⟩,?_,fun p hp=>⟨r1 (by decide) (by decide) (h.parts p hp).1,r2 (h.parts p hp).2 (h.apart p hp)⟩,bn1.far (p:=⟨gO,4,none⟩) (Ne.symm h.ne) _,bo1.set_ 4 _,r1 (by decide) (by decide) h.keys,?_,fun p hp g hg e=>?_,r1 (by decide) (by decide) h.vals,fun i hi=>?_,h.geN,h.geO,h.ne,h.nN,h.nO,h.old,h.ltF⟩
 ·exact zavY (zavY h.st.bl hg h.st.bl.size (fun g e=>by have:=(hkl g e).1;have:=h.ltF;have:=h.st.bF;omega)) hg2 (Nat.le_trans h.st.bl.size hg.size) (fun g e=>by injection e with e;have:=h.geO;have:=h.ltF;have:=h.st.bF;omega)
 ·exact (h.kf.new hg (fun g e=>(hkl g e).1)).new hg2 (fun g e=>by injection e with e;have:=h.geO;omega)
 ·have:=zapY hown bo1 (by decide) 4 kv2
  simpa using this
 ·rcases hat with hat | hat
  ·exact h.apart p hp g hg (hat.trans e)
  ·rw [hat] at e
   injection e with e
   have:=((h.parts p hp).2.lt g hg).2
   omega
 ·obtain ⟨g,a,b,c⟩:=h.vrow i hi
  refine ⟨g,a,b,(c.grown hg (zafZ h.kids c (by decide))).far (p:=⟨gO,4,none⟩) (fun e=>?_) _⟩
  have e':g=gO:=e;subst e';have c2:=h.bo;unfold Blk at c c2;rw [c] at c2;injection c2 with c2
  injection c2 with _ c2 _
  exact absurd c2 (by decide)
theorem FLc.val {lv2:Value} {c:CellD} {g1:Nat} (h:FLc w0 w wr S gF gN gO nv nvk L N n nb kO ks vs kv lv lr) (hown:wx.ownsRow w.heap.size 96 1 lv2 (vs.length+1) (lr ++ [.slice (some ⟨g1,0,none⟩) 1 1])) (hg:wr.grownBy wx lv.ownBlock) (hc:Blk wr g1 103 c.cells.toArray) (hle:w.heap.size≤g1) :
  FLc w0 w wx S gF gN gO nv nvk L N n nb kO ks (vs ++ [c]) kv lv2 (lr ++ [.slice (some ⟨g1,0,none⟩) 1 1]):=by
 have hkl:∀ g,lv.ownBlock=some g→w.heap.size≤g∧g<wr.heap.size:=fun g hg=>h.vals.lt g hg
 have r1:∀ {base m s:Nat} {v:Value} {xs:List Value} {e:TypeId},e≠96→wr.ownsRow base e s v m xs→wx.ownsRow base e s v m xs:=fun h1 ho=>zajY ho hg (zakY ho h.vals h1)
 have hlr:lr.length=vs.length:=by have:=h.vals.1;omega
 refine ⟨h.st.grown hg (zafZ h.vals h.st.fo (by decide)) (zakY h.st.row h.vals (by decide)) (fun p hp=>zakY (h.st.keys p hp) h.vals (by decide)) (fun p hp=>zakY (h.st.kids p hp) h.vals (by decide)) (fun g e=>by have:=(hkl g e).1;have:=h.ltF;have:=h.st.bF;omega),h.kf.new hg (fun g e=>(hkl g e).1),fun p hp=>⟨r1 (by decide) (h.parts p hp).1,r1 (by decide) (h.parts p hp).2⟩,h.bn.grown hg (zafZ h.vals h.bn (by decide)),h.bo.grown hg (zafZ h.vals h.bo (by decide)),r1 (by decide) h.keys,r1 (by decide) h.kids,h.apart,?_,fun i hi=>?_,h.geN,h.geO,h.ne,h.nN,h.nO,h.old,h.ltF⟩
 ·simpa using hown
 ·rw [List.length_append,List.length_singleton] at hi
  by_cases e:i<vs.length
  ·obtain ⟨g,a,b,d⟩:=h.vrow i e
   refine ⟨g,?_,b,?_⟩
   ·rw [List.getElem?_append_left (by omega)];exact a
   ·rw [List.getElem_append_left e];exact d.grown hg (zafZ h.vals d (by decide))
  ·have e2:i=vs.length:=by omega
   subst e2;refine ⟨g1,?_,hle,?_⟩
   ·rw [← hlr];simp
   ·simp only [List.getElem_concat_length]
    exact hc.grown hg (zafZ h.vals hc (by decide))
theorem FLc.push {nv2:Value} (h:FLc w0 w wr S gF gN gO nv nvk L N n nb kO ks vs kv lv lr) (hown:wx.ownsRow w0.heap.size 58 5 nv2 ((L ++ N).length+1) ((L ++ N).flatMap nodeRow ++ nodeRow (⟨n.kind,n.text,n.int,n.keys,ks⟩,kO,kv))) (hg:wr.grownBy wx nvk.ownBlock) (hat:nvk.ownBlock=nv2.ownBlock∨nv2.ownBlock=some wr.heap.size) :
  FoSt w0 (wx.setCell ⟨gF,2,none⟩ nv2) S gF nv2 (L ++ (N ++ [(⟨n.kind,n.text,n.int,n.keys,ks⟩,kO,kv)]))∧KF gF nv.ownBlock nv2.ownBlock w (wx.setCell ⟨gF,2,none⟩ nv2)∧PartsO w.heap.size (wx.setCell ⟨gF,2,none⟩ nv2) (N ++ [(⟨n.kind,n.text,n.int,n.keys,ks⟩,kO,kv)]):=by
 have hw:=h.size;have hkl:∀ g,nvk.ownBlock=some g→w0.heap.size≤g∧g<wr.heap.size:=fun g hg=>h.st.row.lt g hg
 have hw0:w0.heap.size≤w.heap.size:=by have:=h.ltF;have:=h.st.bF;omega
 have bF1:Blk wx gF 73 _:=h.st.fo.grown hg (zafZ h.st.row h.st.fo (by decide));have r1:∀ {base m s:Nat} {v:Value} {xs:List Value} {e:TypeId},e≠58→e≠73→wr.ownsRow base e s v m xs→(wx.setCell ⟨gF,2,none⟩ nv2).ownsRow base e s v m xs:=fun h1 h2 ho=>zapY (zajY ho hg (zakY ho h.st.row h1)) bF1 h2 2 _
 have hrow:(wx.setCell ⟨gF,2,none⟩ nv2).ownsRow w0.heap.size 58 5 nv2 (L ++ (N ++ [((⟨n.kind,n.text,n.int,n.keys,ks⟩,kO,kv):NodeX)])).length ((L ++ (N ++ [((⟨n.kind,n.text,n.int,n.keys,ks⟩,kO,kv):NodeX)])).flatMap nodeRow):=by
  have:=zapY hown bF1 (by decide) 2 nv2
  rw [← List.append_assoc,List.length_append,List.length_singleton,List.flatMap_append,List.flatMap_cons,List.flatMap_nil,List.append_nil];exact this
 have hN:PartsO w.heap.size (wx.setCell ⟨gF,2,none⟩ nv2) (N ++ [((⟨n.kind,n.text,n.int,n.keys,ks⟩,kO,kv):NodeX)]):=fun p hp=>by
  rcases List.mem_append.1 hp with hp | hp
  ·exact ⟨r1 (by decide) (by decide) (h.parts p hp).1,r1 (by decide) (by decide) (h.parts p hp).2⟩
  ·simp only [List.mem_singleton] at hp
   subst hp;exact ⟨r1 (by decide) (by decide) h.keys,r1 (by decide) (by decide) h.kids⟩
 have hparts:∀ p∈L ++ (N ++ [((⟨n.kind,n.text,n.int,n.keys,ks⟩,kO,kv):NodeX)]),(wx.setCell ⟨gF,2,none⟩ nv2).ownsRow w0.heap.size 9 1 p.2.1 p.1.keys.length (p.1.keys.map Value.string)∧(wx.setCell ⟨gF,2,none⟩ nv2).ownsRow w0.heap.size 3 1 p.2.2 p.1.kids.length (p.1.kids.map (Value.int .i64)):=fun p hp=>by
  rcases List.mem_append.1 hp with hp | hp
  ·have hp':p∈L ++ N:=List.mem_append_left _ hp
   exact ⟨r1 (by decide) (by decide) (h.st.keys p hp'),r1 (by decide) (by decide) (h.st.kids p hp')⟩
  ·exact ⟨za7Y (hN p hp).1 hw0,za7Y (hN p hp).2 hw0⟩
 refine ⟨⟨bF1.set_ 2 _,hrow,fun p hp=>(hparts p hp).1,fun p hp=>(hparts p hp).2,?_,h.st.bF⟩,?_,hN⟩
 ·exact zavY (zavY h.st.bl hg h.st.bl.size (fun g e=>(hkl g e).1)) (zaeY wx gF 2 nv2) (Nat.le_trans h.st.bl.size hg.size) (fun g e=>by injection e with e;have:=h.st.bF;omega)
 ·refine (KF.grown (v:=nvk) (v':=nvk) h.kf hg ?_).setF 2 nv2
  rcases hat with e | e
  ·exact .inl e.symm
  ·exact .inr ⟨_,e,Nat.le_refl _⟩
end
end
end Go.Proofs.YthiimbhjpdphpaaGreatDoor
