/- GC10 -/
import Derived.Test.YtmljohbialacfaaGreatDoorPGC6
import Derived.Lib.LazyBuf
set_option linter.unusedVariables false
set_option linter.unusedSimpArgs false
namespace Go.Proofs.YtmljohbialacfaaGreatDoor
section
open Go.RowKit
set_option maxRecDepth 100000
/-- A value whose cells lie in a row of the call's own. -/
def OVal (w:World) (base:Nat) (v:Value) (l:ValD):Prop:=w.ownsRow base 62 4 v l.length (l.flatMap CellD.cells)
theorem OVal.below {w w':World} {base:Nat} {v:Value} {l:ValD} (h:OVal w base v l) (hb:Below w.heap.size w w'):OVal w' base v l:=own_below h hb
theorem own_base {w:World} {base base':Nat} {e:TypeId} {size n:Nat} {v:Value} {xs:List Value} (h:w.ownsRow base e size v n xs) (hb:base'≤base):w.ownsRow base' e size v n xs:=by
 obtain ⟨h1,h2⟩:=h
 exact ⟨h1,h2.imp id (fun ⟨g,cap,cur,e1,e2,e3⟩=>⟨g,cap,cur,e1,Nat.le_trans hb e2,e3⟩)⟩
theorem OVal.base {w:World} {base base':Nat} {v:Value} {l:ValD} (h:OVal w base v l) (hb:base'≤base):OVal w base' v l:=own_base h hb
theorem OVal.val {w:World} {base:Nat} {v:Value} {l:ValD} (h:OVal w base v l) (hm:l.length≤3518437208780):ValV w v l:=by
 rcases h.2 with ⟨rfl,hn⟩ | ⟨g,cap,cur,rfl,h1,h2,h3,h4⟩
 ·have:l=[]:=List.eq_nil_of_length_eq_zero hn
  subst this
  exact RowsV.nil none 0
 ·exact ValV.mk h3 hm (SlAt.of_own h rfl (fun _=>rfl) (by omega))
theorem cells_one (l:ValD):∀ u∈l.flatMap CellD.cells,u.oneCell'=true:=by
 intro u hu
 obtain ⟨c,_,hc⟩:=List.mem_flatMap.1 hu
 simp only [CellD.cells,List.mem_cons,List.not_mem_nil,or_false] at hc
 rcases hc with rfl | rfl | rfl | rfl <;> rfl
theorem cells_len (l:ValD):(l.flatMap CellD.cells).length=l.length * 4:=by
 induction l with
 | nil=>rfl
 | cons c r ih=>rw [List.flatMap_cons,List.length_append,ih,List.length_cons];simp [CellD.cells];omega
theorem cells_at (l:ValD) (j:Nat) (u:Value) (h:(l.flatMap CellD.cells)[j]? = some u):∃ (n k:Nat) (hn:n<l.length),j=n * 4+k∧(l[n].cells)[k]? = some u:=by
 induction l generalizing j with
 | nil=>simp at h
 | cons c r ih =>
  rw [List.flatMap_cons] at h
  by_cases hj:j<4
  ·rw [List.getElem?_append_left (by simpa [CellD.cells] using hj)] at h
   exact ⟨0,j,by simp,by omega,by simpa using h⟩
  ·rw [List.getElem?_append_right (by simp [CellD.cells];omega)] at h
   obtain ⟨n,k,hn,e,hk⟩:=ih (j - c.cells.length) h
   exact ⟨n+1,k,by simp;omega,by simp [CellD.cells] at e;omega,by simpa using hk⟩
/-- A slice held against nil. -/
theorem nil_no {T e:TypeId} (h:Tryz.prog.underlying T=some (.slice e)) (ad:Addr) (n c:Nat) (w:World):(Go.binOp .eql T (.slice (some ad) n c) (.slice none 0 0)).run Tryz.prog w=.ok (.bool false) w:=Go.run_eql_slice_nil w T e (some ad) n c h
theorem nil_yes {T e:TypeId} (h:Tryz.prog.underlying T=some (.slice e)) (n c:Nat) (w:World):(Go.binOp .eql T (.slice none n c) (.slice none 0 0)).run Tryz.prog w=.ok (.bool true) w:=Go.run_eql_slice_nil w T e none n c h
/-- An empty slice literal. -/
theorem own_empty (w:World) (t:TypeId) (sz:Nat):(w.alloc (.cells #[] t)).ownsRow w.heap.size t sz (.slice (some ⟨w.heap.size,0,none⟩) 0 0) 0 [] :=
 ⟨by simp,.inr ⟨w.heap.size,0,#[],rfl,Nat.le_refl _,heap_alloc_new w _,Nat.le_refl _,by simp,by simp,by simp⟩⟩
theorem Tryz.infoCell:(Tryz.prog.info? 62).map (fun i=>(i.zero,i.size,i.bytes))=some (some (.agg #[.int .i64 0,.int .i64 0,.string ByteArray.empty,.int .i64 0]),4,40):=by kernel_rfl
theorem Tryz.infoVal:(Tryz.prog.info? 26).map (fun i=>(i.zero,i.size,i.bytes))=some (some (.slice none 0 0),1,24):=by kernel_rfl
attribute [local go_sem] cell_alloc_is
set_option maxHeartbeats 1000000 in
theorem clone_any (l:ValD) (v:Value) (w:World) (h:ValV w v l) :
  Calls Tryz.prog 26 #[v] w fun e w'=>∃ v',e=.returned v'∧OVal w' w.heap.size v' l∧Below w.heap.size w w':=by
 obtain ⟨i0,hi,hz0,hz1,hz2⟩:=info_parts Tryz.infoCell
 obtain ⟨A,cap,rfl,hca,hma,hsa⟩:=h.at
 clear h
 cases A with
 | none =>
  have hl:l=[]:=by
   cases l with
   | nil=>rfl
   | cons c r=>obtain ⟨b,off,hb,_⟩:=hsa.ptr (n:=0) (by simp);cases hb
  subst hl
  go_enter Tryz.func26,Tryz.ntmps26
  have hnil:=fun w=>nil_yes Tryz.underlying26 0 cap w
  go_wp2
  go_ret
  exact ⟨_,rfl,World.ownsRow_nil _ _ _ _,Below.refl _ _⟩
 | some ad =>
  have HS:=Lib.hid hsa
  clear hsa
  go_enter Tryz.func26,Tryz.ntmps26
  have hnil:=fun w=>nil_no Tryz.underlying26 ad l.length cap w
  have HCL:=Lib.hid (cells_len l)
  have HAT:Hid (∀ j u,(l.flatMap CellD.cells)[j]? = some u→(w.alloc (.cells #[] 62)).cell? (ad.add j)=some u):=Lib.hid (fun j u hj=>by
   obtain ⟨n,k,hn,rfl,hk⟩:=cells_at l j u hj
   obtain ⟨b,off,e,_⟩:=HS.out.ptr hn
   cases e
   rw [addr_add,← Nat.add_assoc]
   exact (HS.out.alloc _).cell hn hk)
  have hm40:l.length * 40≤140737488355328:=by omega
  have hmm:l.length≤maxLen:=by unfold maxLen;omega
  go_wp2_with (first
   | (at_builtin;refine wpList_append_own _ rfl (.tmp 5) (.tmp 6) 26 rfl w.heap.size 62 i0 _ 4 40 Tryz.underlying26 hi hz0 hz1 hz2 rfl (by omega) _ 0 [] rfl (own_empty w _ 4) ad l.length cap (l.flatMap CellD.cells) rfl HCL.out HAT.out (cells_one l) (by simpa using hmm) (by simpa using hm40) (by simp) ?_;intro v' w1 hown hgrow _))
  go_ret
  refine ⟨_,rfl,by simpa [OVal] using hown,?_⟩
  exact (below_new w _).grown hgrow (by simp) (fun k hk=>by have h2:some w.heap.size=some k:=hk;injection h2 with h2;omega)
/-- A list of values in rows of the call's own. -/
def OVals (w:World) (base:Nat) (v:Value) (ll:List ValD):Prop :=
 ∃ vs,w.ownsRow base 26 1 v ll.length vs∧vs.length=ll.length∧∀ i (h:i<vs.length) (h':i<ll.length),OVal w base vs[i] ll[i]
theorem OVals.below {w w':World} {base:Nat} {v:Value} {l:List ValD} (h:OVals w base v l) (hb:Below w.heap.size w w'):OVals w' base v l:=by
 obtain ⟨vs,h1,h2,h3⟩:=h
 exact ⟨vs,own_below h1 hb,h2,fun i a b=>(h3 i a b).below hb⟩
theorem OVals.base {w:World} {base base':Nat} {v:Value} {l:List ValD} (h:OVals w base v l) (hb:base'≤base):OVals w base' v l:=by
 obtain ⟨vs,h1,h2,h3⟩:=h
 exact ⟨vs,own_base h1 hb,h2,fun i a b=>(h3 i a b).base hb⟩
theorem OVals.vals {w:World} {base:Nat} {v:Value} {l:List ValD} (h:OVals w base v l) (hm:l.length≤5864062014634) (hs:∀ x∈l,x.length≤3518437208780):ValsV w v l:=by
 obtain ⟨vs,h1,h2,h3⟩:=h
 obtain ⟨A,cap,rfl⟩:=own_shape h1
 have hc:l.length≤cap:=by
  rcases h1.2 with ⟨e,hn⟩ | ⟨g,cap',cur,e,_,_,h3,_⟩
  ·omega
  ·injection e with _ _ e;omega
 have hsl:SlAt w A 1 (fun x=>[x]) vs:=SlAt.of_own h1 (by induction vs with
  | nil=>rfl
  | cons x r ih=>simp) (fun _=>rfl) (by omega)
 refine ⟨A,cap,vs.map (fun x=>[x]),rfl,hc,hm,?_,by simpa using h2,fun i h h'=>?_⟩
 ·unfold SlAt at hsl ⊢;rwa [List.map_map]
 ·exact ⟨vs[i]'(by simpa using h),by simp,(h3 i (by simpa using h) h').val (hs _ (List.getElem_mem h'))⟩
theorem OVals.shape {w:World} {base:Nat} {v:Value} {l:List ValD} (h:OVals w base v l):∃ A cap,v=.slice A l.length cap:=by
 obtain ⟨vs,h1,_⟩:=h;exact own_shape h1
theorem OVals.lt {w:World} {base g:Nat} {v:Value} {l:List ValD} (h:OVals w base v l) (hg:v.ownBlock=some g):base≤g∧g<w.heap.size:=by
 obtain ⟨vs,h1,_⟩:=h;exact h1.lt g hg
/-- Rows of different element types never share a block. -/
theorem own_apart {w:World} {b1 b2:Nat} {e1 e2:TypeId} {s1 s2 n1 n2 g:Nat} {v1 v2:Value} {xs1 xs2:List Value} (h1:w.ownsRow b1 e1 s1 v1 n1 xs1) (h2:w.ownsRow b2 e2 s2 v2 n2 xs2) (hne:e1≠e2) (hg:v1.ownBlock=some g):some g≠v2.ownBlock:=by
 intro he
 rcases h1.2 with ⟨rfl,_⟩ | ⟨g1,c1,cur1,rfl,_,hh1,_⟩
 ·cases hg
 rcases h2.2 with ⟨rfl,_⟩ | ⟨g2,c2,cur2,rfl,_,hh2,_⟩
 ·cases he
 simp only [Value.ownBlock,Option.some.injEq] at hg he
 subst hg;subst he
 rw [hh1] at hh2
 injection hh2 with hh2
 injection hh2 with _ e
 exact hne e
set_option maxHeartbeats 2000000 in
theorem mvalues_any (l:List ValD) (v:Value) (w:World) (h:ValsV w v l) :
  Calls Tryz.prog 61 #[v] w fun e w'=>∃ v',e=.returned v'∧OVals w' w.heap.size v' l∧Below w.heap.size w w':=by
 obtain ⟨i0,hi,hz0,hz1,hz2⟩:=info_parts Tryz.infoVal
 obtain ⟨A,cap,vs0,rfl,hca,hma,hsa,hla,hva⟩:=h.at
 have HV:=Lib.hid hva
 have HLA:=Lib.hid hla
 have HSA:=Lib.hid hsa
 clear h hva hla hsa
 have hm24:i0.bytes * l.length≤281474976710656:=by rw [hz2];omega
 have hmm:l.length≤maxLen:=by unfold maxLen;omega
 go_enter Tryz.func61,Tryz.ntmps61
 go_wp2_with (refine wpList_make_full _ rfl (.tmp 7) (.tmp 7) 72 rfl w.heap.size 26 i0 _ 1 Tryz.underlying72 hi hz0 hz1 .i64 .i64 _ _ l.length rfl rfl rfl rfl hm24 hmm (Nat.le_refl _) ?_;intro w1 hown1 hgrow1)
 have HO1:=Lib.hid hown1
 have hb1:Below w.heap.size w w1:=(Below.refl _ w).grown hgrow1 (Nat.le_refl _) (fun k hk=>by cases hk)
 have HB1:=Lib.hid hb1
 clear hown1 hgrow1 hb1
 go_loopw [11] (fun i wr=>∃ (k:Nat) (vs:List Value),k≤l.length∧i=.int .i64 k∧wr.ownsRow w.heap.size 26 1 (.slice (some ⟨w.heap.size,0,none⟩) l.length l.length) l.length vs∧vs.length=l.length∧Below w.heap.size w wr∧Hid (∀ j (h:j<vs.length) (h':j<l.length),j<k→OVal wr w.heap.size vs[j] l[j])) (fun i _=>l.length - (intOf i).toNat)
 case atStart=>exact ⟨0,_,Nat.zero_le _,rfl,HO1.out,by have:=HO1.out.1;omega,HB1.out,Lib.hid (fun j _ _ h=>absurd h (by omega))⟩
 case round =>
  obtain ⟨k,vs,hk,rfl,hown,hvl,hbel,HOV⟩:=hrel
  have HO:=Lib.hid hown
  have HB:=Lib.hid hbel
  have HVL:=Lib.hid hvl
  clear hown hbel hvl
  by_cases hlt:k<l.length
  ·have hna:k<vs0.length:=by rw [HLA.out];exact hlt
   have hlt':(k:Int)<(l.length:Int):=by omega
   have hk0:(0:Int)≤(k:Int):=by omega
   have hsa:=HSA.out.below HB.out
   obtain ⟨bA,off,rfl,_⟩:=hsa.ptr hna
   obtain ⟨x,hx⟩:∃ x,vs0[k]=x:=⟨_,rfl⟩
   have hvx:ValV w x l[k]:=hx ▸ HV.out k hna hlt
   have c0:=hsa.cell0 hna (v:=x) (by rw [hx];rfl)
   rw [Nat.mul_one] at c0
   have HC:Hid (Calls Tryz.prog 26 #[x] wr fun e w'=>∃ v',e=.returned v'∧OVal w' wr.heap.size v' l[k]∧Below wr.heap.size wr w'):=Lib.hid (clone_any _ _ _ (hvx.below HB.out))
   clear hx hvx hsa
   go_wp2_with (fail)
   with_reducible refine HC.out.mono ?_
   rintro e w2 ⟨v',rfl,hov,hb2⟩
   obtain ⟨A9,k9,rfl⟩:=own_shape hov
   have HOV2:=Lib.hid hov
   have HB2:=Lib.hid hb2
   have hown2:=own_below HO.out hb2
   have q0:=hown2.cellAt k (by omega)
   have hvk:k<vs.length:=by rw [HVL.out];exact hlt
   rw [List.getElem?_eq_getElem hvk] at q0
   have z0:=hown2.frozenAt k
   have HOW2:=Lib.hid hown2
   clear hov hb2 hown2
   go_wp2_with (fail)
   obtain ⟨hst,hgr⟩:=HOW2.out.stored k (.slice A9 l[k].length k9)
   have hap:∀ {v:Value} {x:ValD},OVal w2 w.heap.size v x→OVal (w2.setCell ⟨w.heap.size,k,none⟩ (.slice A9 l[k].length k9)) w.heap.size v x:=fun ho =>
    own_grown ho hgr (fun g hg=>by cases hg;exact own_apart HOW2.out ho (by decide) rfl)
   refine ⟨⟨k+1,vs.set k (.slice A9 l[k].length k9),by omega,by simp,hst,by simp [HVL.out],(below_call HB2.out HB.out).setCell (p:=⟨w.heap.size,k,none⟩) (Nat.le_refl _) _,Lib.hid (fun j h h' hj=>?_)⟩,by simp [intOf];omega⟩
   by_cases hjk:j=k
   ·subst hjk
    rw [List.getElem_set_self]
    exact hap (HOV2.out.base HB.out.size)
   ·rw [List.getElem_set_ne (fun e=>hjk e.symm)]
    have hjv:j<vs.length:=by simpa using h
    exact hap ((HOV.out j hjv h' (by omega)).below HB2.out)
  ·have e:k=l.length:=by omega
   subst e
   go_wp2
   go_ret
   exact ⟨_,rfl,⟨vs,HO.out,HVL.out,fun i a b=>HOV.out i a b b⟩,HB.out⟩
end
section
open Go.RowKit
set_option maxRecDepth 100000
/-- Only blocks of cells of element type t have turned, and blocks have been made. -/
def KT (t:TypeId) (w w':World):Prop:=w.heap.size≤w'.heap.size∧∀ (g:Nat) (o:Obj),w.heap[g]? = some o→(∀ cs fr,o≠Obj.cells cs t fr)→w'.heap[g]? = some o
theorem KT.trans {t:TypeId} {a b c:World} (h:KT t a b) (k:KT t b c):KT t a c:=⟨Nat.le_trans h.1 k.1,fun g o hg ho=>k.2 g o (h.2 g o hg ho) ho⟩
theorem KT.of_below {t:TypeId} {w w':World} (h:Below w.heap.size w w'):KT t w w':=⟨h.size,fun g o hg _=>(h.block g (lt_of_block hg)).trans hg⟩
theorem KT.set {t:TypeId} {w:World} {g:Nat} {cs:Array Value} (h:Blk w g t cs) (i:Nat) (u:Value):KT t w (w.setCell ⟨g,i,none⟩ u) :=
 ⟨by simp,fun k o hk ho=>by
  rw [Below.heap_setCell w ⟨g,i,none⟩ u k ?_]
  ·exact hk
  ·rintro rfl
   unfold Blk at h
   rw [h] at hk
   injection hk with hk
   exact ho _ _ hk.symm⟩
theorem KT.row {t:TypeId} {w:World} {g:Nat} {cs:Array Value} (h:Blk w g t cs) (cs':Array Value):KT t w (w.setRow g cs') :=
 ⟨by simp,fun k o hk ho=>by
  rw [setRow_other w g k cs' ?_]
  ·exact hk
  ·rintro rfl
   unfold Blk at h
   rw [h] at hk
   injection hk with hk
   exact ho _ _ hk.symm⟩
theorem KT.grown {t:TypeId} {w w':World} {base size n:Nat} {v:Value} {xs:List Value} (h:w.ownsRow base t size v n xs) (hg:w.grownBy w' v.ownBlock):KT t w w' :=
 ⟨hg.size,fun k o hk ho=>by
  rw [hg.block k (lt_of_block hk) ?_]
  ·exact hk
  ·intro he
   rcases h.2 with ⟨rfl,_⟩ | ⟨g,cap,cur,rfl,_,hh,_⟩
   ·cases he
   ·have:k=g:=by simpa [Value.ownBlock] using he
    subst this
    rw [hh] at hk
    injection hk with hk
    exact ho _ _ hk.symm⟩
theorem KT.own {t e:TypeId} {w w':World} (k:KT t w w') (hne:e≠t) {base size n:Nat} {v:Value} {xs:List Value} (h:w.ownsRow base e size v n xs):w'.ownsRow base e size v n xs:=by
 obtain ⟨h1,h2⟩:=h
 refine ⟨h1,h2.imp id (fun ⟨g,cap,cur,e1,e2,e3,e4⟩=>⟨g,cap,cur,e1,e2,k.2 g _ e3 (fun cs fr hh=>?_),e4⟩)⟩
 injection hh with _ hh
 exact hne hh
theorem KT.blk {t e:TypeId} {w w':World} (k:KT t w w') (hne:e≠t) {g:Nat} {cs:Array Value} (h:Blk w g e cs):Blk w' g e cs:=by
 unfold Blk at h ⊢
 exact k.2 g _ h (fun cs fr hh=>by injection hh with _ hh;exact hne hh)
theorem KT.oval {t:TypeId} {w w':World} (k:KT t w w') (hne:62≠t) {base:Nat} {v:Value} {l:ValD} (h:OVal w base v l):OVal w' base v l:=k.own hne h
theorem KT.ovals {t:TypeId} {w w':World} (k:KT t w w') (hne:62≠t) (hne2:26≠t) {base:Nat} {v:Value} {l:List ValD} (h:OVals w base v l):OVals w' base v l:=by
 obtain ⟨vs,h1,h2,h3⟩:=h
 exact ⟨vs,k.own hne2 h1,h2,fun i a b=>k.oval hne (h3 i a b)⟩
/-- The blocks of the values of frames. -/
def blocks (ps:List (Value × Value)):List Nat:=ps.flatMap fun p=>p.1.ownBlock.toList ++ p.2.ownBlock.toList
def frameRow (f:FrameD) (p:Value × Value):List Value:=[.int .i64 f.func,.int .i64 f.pc,p.1,p.2]
def OFrames (w:World) (base:Nat) (v:Value) (l:List FrameD) (ps:List (Value × Value)):Prop :=
 ps.length=l.length∧w.ownsRow base 74 4 v l.length ((List.zipWith frameRow l ps).flatten)∧(blocks ps).Nodup ∧
 ∀ i (h:i<ps.length) (h':i<l.length),OVals w base ps[i].1 l[i].locals∧OVals w base ps[i].2 l[i].stack
theorem KT.oframes {t:TypeId} {w w':World} (k:KT t w w') (h1:62≠t) (h2:26≠t) (h3:74≠t) {base:Nat} {v:Value} {l:List FrameD} {ps:List (Value × Value)} (h:OFrames w base v l ps):OFrames w' base v l ps :=
 ⟨h.1,k.own h3 h.2.1,h.2.2.1,fun i a b=>⟨k.ovals h1 h2 (h.2.2.2 i a b).1,k.ovals h1 h2 (h.2.2.2 i a b).2⟩⟩
def reqRow (r:ReqD) (v:Value):List Value:=[.string r.op,v]
def OReqs (w:World) (base:Nat) (v:Value) (l:List ReqD):Prop :=
 ∃ vs:List Value,vs.length=l.length∧w.ownsRow base 86 2 v l.length ((List.zipWith reqRow l vs).flatten) ∧
 ∀ i (h:i<vs.length) (h':i<l.length),OVals w base vs[i] l[i].args
theorem KT.oreqs {t:TypeId} {w w':World} (k:KT t w w') (h1:62≠t) (h2:26≠t) (h3:86≠t) {base:Nat} {v:Value} {l:List ReqD} (h:OReqs w base v l):OReqs w' base v l:=by
 obtain ⟨vs,e1,e2,e3⟩:=h
 exact ⟨vs,e1,k.own h3 e2,fun i a b=>k.ovals h1 h2 (e3 i a b)⟩
theorem OFrames.nil (w:World) (base:Nat):OFrames w base (.slice none 0 0) [] []:=⟨rfl,World.ownsRow_nil _ _ _ _,List.nodup_nil,fun i h=>absurd h (by simp)⟩
theorem zip_snoc {α β γ:Type} (f:α→β→List γ) (l:List α) (ps:List β) (a:α) (b:β) (h:ps.length=l.length) :
  (List.zipWith f (l ++ [a]) (ps ++ [b])).flatten=(List.zipWith f l ps).flatten ++ f a b:=by
 rw [List.zipWith_append h.symm]
 simp
/-- A machine in memory of the call's own. -/
def OMach (w:World) (base:Nat) (v:Value) (m:MachD):Prop :=
 ∃ vv fv qv ps,v=.agg #[.int .i64 m.status,.int .i64 m.err,vv,fv,qv,.int .i64 m.lsteps,.int .i64 m.lmem,.int .i64 m.steps,.int .i64 m.peak]∧OVal w base vv m.value∧OFrames w base fv m.frames ps∧OReqs w base qv m.requests
theorem Tryz.infoFrame:(Tryz.prog.info? 74).map (fun i=>(i.zero,i.size,i.bytes))=some (some (.agg #[.int .i64 0,.int .i64 0,.slice none 0 0,.slice none 0 0]),4,64):=by kernel_rfl
theorem Tryz.infoReq:(Tryz.prog.info? 86).map (fun i=>(i.zero,i.size,i.bytes))=some (some (.agg #[.string ByteArray.empty,.slice none 0 0]),2,40):=by kernel_rfl
/-- Behind the statement that copies the values of a frame. -/
def FrameCut (w:World) (g:Nat) (f:FrameD) (wx:World):Prop :=
 ∃ lv sv,Blk wx g 74 #[.int .i64 f.func,.int .i64 f.pc,lv,sv]∧OVals wx w.heap.size lv f.locals∧OVals wx w.heap.size sv f.stack∧(lv.ownBlock.toList ++ sv.ownBlock.toList).Nodup∧Below w.heap.size w wx
theorem nodup_two {a b:Option Nat} {B:Nat} (ha:∀ g,a=some g→g<B) (hb:∀ g,b=some g→B≤g):(a.toList ++ b.toList).Nodup:=by
 cases a with
 | none=>cases b <;> simp
 | some x=>cases b with
  | none=>simp
  | some y =>
   have h1:=ha x rfl
   have h2:=hb y rfl
   simp;omega
theorem frameCut_mk {wr w3 w4:World} {f:FrameD} {f1 c1:Int} {x y v3 v4:Value} {B:Nat} (hG:Blk w4 wr.heap.size 74 #[.int .i64 f1,.int .i64 c1,x,y]) (h1:f.func=f1) (h2:f.pc=c1)
  (h3:OVals w3 B v3 f.locals) (hB:wr.heap.size≤B) (hq:Below w3.heap.size w3 w4) (h4:OVals w4 w3.heap.size v4 f.stack) (hb:Below wr.heap.size wr w4) (hs:wr.heap.size≤w3.heap.size) :
  FrameCut wr wr.heap.size f ((w4.setCell ⟨wr.heap.size,2,none⟩ v3).setCell ⟨wr.heap.size,3,none⟩ v4):=by
 subst h1;subst h2
 have b1:=hG.set_ 2 v3
 have K:=(KT.set hG 2 v3).trans (KT.set b1 3 v4)
 refine ⟨v3,v4,b1.set_ 3 v4,K.ovals (by decide) (by decide) ((h3.base hB).below hq),K.ovals (by decide) (by decide) (h4.base hs),nodup_two (fun g hg=>(h3.lt hg).2) (fun g hg=>(h4.lt hg).1),(hb.setCell (p:=⟨wr.heap.size,2,none⟩) (Nat.le_refl _) _).setCell (p:=⟨wr.heap.size,3,none⟩) (Nat.le_refl _) _⟩
theorem OFrames.snoc {wr w6:World} {base:Nat} {v v' lv sv:Value} {L:List FrameD} {ps:List (Value × Value)} {f:FrameD} (h:OFrames wr base v L ps) (hkeep:∀ {u l},OVals wr base u l→OVals w6 base u l)
  (hown:w6.ownsRow base 74 4 v' (L.length+1) ((List.zipWith frameRow L ps).flatten ++ frameRow f (lv,sv))) (h1:OVals w6 base lv f.locals) (h2:OVals w6 base sv f.stack)
  (hnd:(lv.ownBlock.toList ++ sv.ownBlock.toList).Nodup) (hlow:∀ g,lv.ownBlock=some g∨sv.ownBlock=some g→wr.heap.size≤g):OFrames w6 base v' (L ++ [f]) (ps ++ [(lv,sv)]):=by
 obtain ⟨e1,e2,e3,e4⟩:=h
 refine ⟨by simp [e1],?_,?_,fun i hi hi'=>?_⟩
 ·rw [zip_snoc frameRow L ps f (lv,sv) e1,List.length_append]
  exact hown
 ·have hb:blocks (ps ++ [(lv,sv)])=blocks ps ++ (lv.ownBlock.toList ++ sv.ownBlock.toList):=by simp [blocks]
  rw [hb,List.nodup_append]
  refine ⟨e3,hnd,fun x hx y hy=>?_⟩
  have hy':wr.heap.size≤y:=hlow y (by simpa using hy)
  obtain ⟨p,hp,hx⟩:=List.mem_flatMap.1 hx
  obtain ⟨i,hi,rfl⟩:=List.getElem_of_mem hp
  have h5:=e4 i hi (by omega)
  have hx':x<wr.heap.size:=by
   rcases List.mem_append.1 hx with hx | hx
   ·exact (h5.1.lt (by simpa using hx)).2
   ·exact (h5.2.lt (by simpa using hx)).2
  omega
 ·by_cases hlt:i<L.length
  ·have hlp:i<ps.length:=by omega
   rw [List.getElem_append_left hlp,List.getElem_append_left hlt]
   exact ⟨hkeep (e4 i hlp hlt).1,hkeep (e4 i hlp hlt).2⟩
  ·have:i=L.length:=by simp at hi';omega
   subst this
   simp only [List.getElem_append_right (Nat.le_refl _)]
   rw [List.getElem_append_right (by omega)]
   simpa using ⟨h1,h2⟩
theorem OReqs.snoc {w6:World} {base:Nat} {v' lv:Value} {vs:List Value} {R:List ReqD} {r:ReqD} (hvl:vs.length=R.length) (hold:∀ i (h:i<vs.length) (h':i<R.length),OVals w6 base vs[i] R[i].args)
  (hown:w6.ownsRow base 86 2 v' (R.length+1) ((List.zipWith reqRow R vs).flatten ++ reqRow r lv)) (h1:OVals w6 base lv r.args):OReqs w6 base v' (R ++ [r]):=by
 refine ⟨vs ++ [lv],by simp [hvl],?_,fun i hi hi'=>?_⟩
 ·rw [zip_snoc reqRow R vs r lv hvl,List.length_append]
  exact hown
 ·by_cases hlt:i<R.length
  ·have hlp:i<vs.length:=by omega
   rw [List.getElem_append_left hlp,List.getElem_append_left hlt]
   exact hold i hlp hlt
  ·have:i=R.length:=by simp at hi';omega
   subst this
   simp only [List.getElem_append_right (Nat.le_refl _)]
   rw [List.getElem_append_right (by omega)]
   simpa using h1
end
end Go.Proofs.YtmljohbialacfaaGreatDoor
