/- GX0, K7 -/
import Derived.Test.YthiimbhjpdphpaaGreatDoorPGK8
import Derived.Deep.OwnRows
set_option linter.unusedVariables false
set_option linter.unusedSimpArgs false
namespace Go.Proofs.YthiimbhjpdphpaaGreatDoor
open Go.RowKit
set_option maxRecDepth 100000
open Go.Proofs.Tryz
def GoodF (c:CodeD) (f:FnD):Prop:=FnSmall f∧f.fin.toNat≤c.ins.length∧∀ k,f.entry.toNat≤k→k<f.fin.toNat→∃ i,c.ins[k]? = some i∧FormedP c.fns.length f i∧(k+1=f.fin.toNat→i.op=20∨i.op=13)
def AllSmall (c:CodeD):Prop:=∀ f∈c.fns,FnSmall f
theorem lookL_bd {l:List (List UInt8 × Int)} (hl:∀ p∈l,0≤p.2∧p.2≤3) {s:ByteArray} {n:Int} (h:lookL l s=some n):0≤n∧n≤3:=by
 unfold lookL at h;induction l with
 | nil=>simp at h
 | cons p r ih =>
  obtain ⟨k,v⟩:=p;simp only [List.lookup] at h;split at h
  ·injection h with h
   have:=hl (k,v) (by simp)
   dsimp only at this;omega
  ·exact ih (fun p hp=>hl p (by simp [hp])) h
theorem pop_bd {c:CodeD} {f:FnD} {i:InsD} (hc:AllSmall c) (h:FormedP c.fns.length f i):0≤popF c i∧popF c i≤64:=by
 obtain ⟨h1,ho,_,_⟩:=h;obtain ⟨_,_,_,_,h11,h12,_,h17,h18,h19⟩:=ho;unfold popF;split
 ·omega
 split
 ·omega
 split
 ·rename_i h
  rcases h with h | h | h | h
  ·have:=h11 h;omega
  ·have:=h12 h;omega
  ·have:=lookL_bd (by decide) (h18 h);omega
  ·have:=lookL_bd (by decide) (h19 h);omega
 split
 ·rename_i h
  have h2:=h17 h;split
  ·rename_i f' hf'
   have:=hc f' (List.mem_of_getElem? hf')
   have:=this.1
   omega
  ·omega
 ·omega
theorem push_bd (op:Int):0≤pushF op∧pushF op≤2:=by
 unfold pushF;split
 ·omega
 split <;> omega
theorem pops_p {c:CodeD} {f:FnD} {i:InsD} (h:FormedP c.fns.length f i):PopsP c i:=⟨h.1,fun e=>h.2.1.2.2.2.2.2.2.2.1 e⟩
theorem jump_in {c:CodeD} {f:FnD} {i:InsD} (h:FormedP c.fns.length f i) (e:i.op=13∨i.op=14):f.entry≤i.a∧i.a<f.fin:=h.2.1.2.2.2.2.2.2.1 e
theorem suc_in {c:CodeD} {f:FnD} (hg:GoodF c f) {k:Nat} {i:InsD} (h1:f.entry.toNat≤k) (h2:k<f.fin.toNat) (hi:c.ins[k]? = some i):∀ m∈sucF i k,f.entry.toNat≤m∧m<f.fin.toNat:=by
 obtain ⟨hs,_,h3⟩:=hg;obtain ⟨i',hi',hf,hl⟩:=h3 k h1 h2;rw [hi] at hi';injection hi' with hi'
 subst hi';have he:=hs.2.2;intro m hm
 have hnext:i.op≠20→i.op≠13→k+1<f.fin.toNat:=fun a b=>by
  by_cases e:k+1=f.fin.toNat
  ·have:=hl e;omega
  ·omega
 unfold sucF at hm;split at hm
 ·cases hm
 rename_i n20;split at hm
 ·rename_i h13
  have:=jump_in hf (.inl h13)
  simp at hm
  omega
 rename_i n13;split at hm
 ·rename_i h14
  have:=jump_in hf (.inr h14)
  have:=hnext n20 n13
  simp at hm
  omega
 ·have:=hnext n20 n13
  simp at hm
  omega
def DBd (d:List Int):Prop:=∀ j,-1≤getD d j∧getD d j≤64
theorem DBd.set {d:List Int} (h:DBd d) (k:Nat) (n:Int) (h1 : -1≤n) (h2:n≤64):DBd (d.set k n):=by
 intro j;have hj:=h j;unfold getD at hj ⊢;rw [List.getD_eq_getElem?_getD,List.getElem?_set];split
 ·split
  ·simp;omega
  ·simp
 ·rw [← List.getD_eq_getElem?_getD];exact hj
theorem getD_set (d:List Int) (k j:Nat) (n:Int) (hk:k<d.length):getD (d.set k n) j=if k=j then n else getD d j:=by
 unfold getD;rw [List.getD_eq_getElem?_getD,List.getElem?_set];by_cases e:k=j
 ·subst e;simp [hk]
 ·simp [e,List.getD_eq_getElem?_getD]
theorem zcjY (d:List Int) (k:Nat) (hk:k<d.length):getD d k=d[k]:=by
 unfold getD;rw [List.getD_eq_getElem?_getD,List.getElem?_eq_getElem hk];rfl
theorem done_lt (l:List Bool) (k:Nat) (hk:k<l.length):l.getD k false=l[k]:=by
 rw [List.getD_eq_getElem?_getD,List.getElem?_eq_getElem hk];rfl
theorem zb3Y (n:Int) (k:Nat) (r:List Nat) (d:List Int):setS n (k :: r) d=if 0≤getD d k∧getD d k≠n then (some k,d) else setS n r (d.set k n):=rfl
def DepAt (w:World) (b:Nat) (d:List Int):Prop:=∃ cells:Array Value,Blk w b 3 cells∧∀ i (h:i<d.length),cells[i]? = some (.int .i64 d[i])
theorem DepAt.cell {w:World} {b:Nat} {d:List Int} (h:DepAt w b d) {k:Nat} (hk:k<d.length):w.cell? ⟨b,k,none⟩=some (.int .i64 d[k]):=by
 obtain ⟨cells,h1,h2⟩:=h;exact h1.cell k _ (h2 k hk)
theorem DepAt.frozen {w:World} {b:Nat} {d:List Int} (h:DepAt w b d) (k:Nat):w.frozen? ⟨b,k,none⟩=false:=by
 obtain ⟨cells,h1,_⟩:=h;exact h1.frozen k
theorem DepAt.below {w w':World} {b:Nat} {d:List Int} (h:DepAt w b d) (hb:Below w.heap.size w w'):DepAt w' b d:=by
 obtain ⟨cells,h1,h2⟩:=h;exact ⟨cells,h1.below hb,h2⟩
theorem DepAt.set {w:World} {b:Nat} {d:List Int} (h:DepAt w b d) (k:Nat) (n:Int):DepAt (w.setCell ⟨b,k,none⟩ (.int .i64 n)) b (d.set k n):=by
 obtain ⟨cells,h1,h2⟩:=h;refine ⟨_,h1.set_ k (.int .i64 n),fun i hi=>?_⟩
 have hi':i<d.length:=by simpa using hi
 have hc:i<cells.size:=by
  have:=h2 i hi'
  exact (Array.getElem?_eq_some_iff.1 this).1
 rw [Array.getElem?_setIfInBounds];rw [List.getElem_set];by_cases e:k=i
 ·subst e;simp [hc]
 ·rw [if_neg e,if_neg e];exact h2 i hi'
theorem DepAt.far {w:World} {b:Nat} {d:List Int} (h:DepAt w b d) {p:Addr} (hp:b≠p.block) (u:Value):DepAt (w.setCell p u) b d:=by
 obtain ⟨cells,h1,h2⟩:=h;exact ⟨cells,h1.far hp u,h2⟩
def FlagAt (w:World) (b:Nat) (l:List Bool):Prop:=Blk w b 4 (l.map Value.bool).toArray
theorem FlagAt.cell {w:World} {b:Nat} {l:List Bool} (h:FlagAt w b l) {k:Nat} (hk:k<l.length):w.cell? ⟨b,k,none⟩=some (.bool l[k]):=Blk.cell h k _ (by simp [hk])
theorem FlagAt.set {w:World} {b:Nat} {l:List Bool} (h:FlagAt w b l) (k:Nat) (v:Bool):FlagAt (w.setCell ⟨b,k,none⟩ (.bool v)) b (l.set k v):=by
 have:=Blk.set_ h k (.bool v)
 unfold FlagAt;rw [List.map_set];simpa using this
structure FSt (w wr:World) (c0 c1:Array Value) (g0 g1 gd bD:Nat) (done:List Bool) (d:List Int):Prop where
 b0:Blk wr g0 31 c0
 b1:Blk wr g1 50 c1
 fl:FlagAt wr gd done
 dp:DepAt wr bD d
 hg:w.grownBy wr (some bD)
theorem zbtY {w wr w':World} {b:Nat} (h:w.grownBy wr (some b)) (hb:Below wr.heap.size wr w'):w.grownBy w' (some b) :=
 ⟨hb.os.trans h.os,hb.tape.trans h.tape,hb.output.trans h.output,Nat.le_trans h.size hb.size,fun k hk hne=>(hb.block k (Nat.lt_of_lt_of_le hk h.size)).trans (h.block k hk hne)⟩
theorem grown_set {w wr:World} {b:Nat} (h:w.grownBy wr (some b)) (p:Addr) (hp:p.block=b∨w.heap.size≤p.block) (u:Value):w.grownBy (wr.setCell p u) (some b) :=
 ⟨h.os,h.tape,h.output,by simpa using h.size,fun k hk hne=>(Below.heap_setCell wr p u k (fun e=>by rcases hp with hp | hp;(exact hne (by rw [e,hp]));omega)).trans (h.block k hk hne)⟩
theorem FSt.below {w wr w':World} {c0 c1:Array Value} {g0 g1 gd bD:Nat} {done:List Bool} {d:List Int} (h:FSt w wr c0 c1 g0 g1 gd bD done d) (hb:Below wr.heap.size wr w'):FSt w w' c0 c1 g0 g1 gd bD done d :=
 ⟨h.b0.below hb,h.b1.below hb,Blk.below h.fl hb,h.dp.below hb,zbtY h.hg hb⟩
theorem FSt.setD {w wr:World} {c0 c1:Array Value} {g0 g1 gd bD:Nat} {done:List Bool} {d:List Int} (h:FSt w wr c0 c1 g0 g1 gd bD done d) (h0:g0≠bD) (h1:g1≠bD) (h2:gd≠bD) (k:Nat) (n:Int):FSt w (wr.setCell ⟨bD,k,none⟩ (.int .i64 n)) c0 c1 g0 g1 gd bD done (d.set k n) :=
 ⟨h.b0.far (p:=⟨bD,k,none⟩) h0 _,h.b1.far (p:=⟨bD,k,none⟩) h1 _,Blk.far h.fl (p:=⟨bD,k,none⟩) h2 _,h.dp.set k n,grown_set h.hg ⟨bD,k,none⟩ (.inl rfl) _⟩
theorem FSt.setF {w wr:World} {c0 c1:Array Value} {g0 g1 gd bD:Nat} {done:List Bool} {d:List Int} (h:FSt w wr c0 c1 g0 g1 gd bD done d) (h0:g0≠gd) (h1:g1≠gd) (h2:bD≠gd) (hw:w.heap.size≤gd) (k:Nat) (v:Bool):FSt w (wr.setCell ⟨gd,k,none⟩ (.bool v)) c0 c1 g0 g1 gd bD (done.set k v) d :=
 ⟨h.b0.far (p:=⟨gd,k,none⟩) h0 _,h.b1.far (p:=⟨gd,k,none⟩) h1 _,FlagAt.set h.fl k v,h.dp.far (p:=⟨gd,k,none⟩) h2 _,grown_set h.hg ⟨gd,k,none⟩ (.inr hw) _⟩
theorem made_rep (z:Value) (n:Nat):madeCells #[z] n=(List.replicate n z).toArray:=by
 apply Array.ext
 ·simp [size_madeCells]
 ·intro i h1 h2
  have:(madeCells #[z] n)[i]? = some z:=by
   have hi:i<n:=by simpa using h2
   simp [madeCells,hi,Nat.mod_one]
  rw [Array.getElem?_eq_getElem h1] at this;injection this with this
  rw [this];simp
theorem mk_boolsL (n:Nat) (hn:n≤4100) (w:World):(Instr.makeSlice 146 (.int .i64 n) (.int .i64 n)).run prog w=.ok (.slice (some ⟨w.heap.size,0,none⟩) n n) (w.alloc (.cells ((List.replicate n false).map Value.bool).toArray 4)):=by
 obtain ⟨i0,hi,hz0,hz1,hz2⟩:=info_parts Tryz.infoBool;have h:=run_makeSlice (P:=prog) w 146 4 i0 _ underlying146 hi hz0 .i64 .i64 n n (by omega) (by omega) (by rw [hz1];omega) (by rw [hz2];omega) (by omega);rw [hz1] at h;rw [Int.toNat_natCast] at h
 have e:madeCells (Value.bool false).cells (n * 1)=((List.replicate n false).map Value.bool).toArray:=by
  rw [Nat.mul_one]
  have:=made_rep (.bool false) n
  simpa [Value.cells] using this
 rw [e] at h;simpa using h
def undoneW (w:World) (g L:Nat):Nat:=(List.range L).countP fun j=>match w.cell? ⟨g,j,none⟩ with | some (.bool false)=>true | _=>false
theorem zb1Y {w:World} {g:Nat} {l:List Bool} (h:FlagAt w g l):undoneW w g l.length=l.count false:=by
 unfold undoneW
 have:∀ L,L≤l.length→(List.range L).countP (fun j=>match w.cell? ⟨g,j,none⟩ with | some (.bool false)=>true | _=>false)=(l.take L).count false:=by
  intro L;induction L with
  | zero=>intro _;rfl
  | succ L ih =>
   intro hL;have hlt:L<l.length:=by omega
   rw [List.range_succ,List.countP_append,ih (by omega),List.take_succ_eq_append_getElem hlt,List.count_append];congr 1
   simp only [List.countP_cons,List.countP_nil];rw [h.cell hlt];cases l[L] <;> simp
 have:=this l.length (Nat.le_refl _)
 rwa [List.take_length] at this
theorem count_set (l:List Bool) (k:Nat) (hk:k<l.length) (hf:l[k]=false):(l.set k true).count false+1=l.count false:=by
 have h1:l=l.take k ++ l[k] :: l.drop (k+1):=by simp
 have h2:l.set k true=l.take k ++ true :: l.drop (k+1):=by
  rw [List.set_eq_take_append_cons_drop,if_pos hk]
 rw [h2]
 conv=>rhs;rw [h1]
 rw [List.count_append,List.count_append,List.count_cons,List.count_cons,hf];simp
 omega
section
section
variable {w w1 w':World}
theorem zaeY (w:World) (g i:Nat) (u:Value):w.grownBy (w.setCell ⟨g,i,none⟩ u) (some g) :=
 ⟨rfl,rfl,rfl,by simp,fun k _ hne=>Below.heap_setCell w ⟨g,i,none⟩ u k (fun e=>hne (by rw [e]))⟩
end
end
section
theorem Shaped.push {w:World} (h:Shaped w) (m:Nat) (h1:1≤m) (h2:m≤20):w.cell? ⟨0,m * 6+5,none⟩=some (.int .i64 (pushF m)):=by
 have:m=1∨m=2∨m=3∨m=4∨m=5∨m=6∨m=7∨m=8∨m=9∨m=10∨m=11∨m=12∨m=13∨m=14∨m=15∨m=16∨m=17∨m=18∨m=19∨m=20:=by omega
 rcases this with rfl | rfl | rfl | rfl | rfl | rfl | rfl | rfl | rfl | rfl | rfl | rfl | rfl | rfl | rfl | rfl | rfl | rfl | rfl | rfl
 all_goals exact h _ _ rfl
theorem SlAt.far {α:Type} {w:World} {A:Option Addr} {sz:Nat} {cf:α→List Value} {l:List α} (h:SlAt w A sz cf l) {p:Addr} (hp:∀ g off,A=some ⟨g,off,none⟩→g≠p.block) (u:Value):SlAt (w.setCell p u) A sz cf l:=by
 intro i row hi;obtain ⟨b,off,h1,h2,h3⟩:=h i row hi;refine ⟨b,off,h1,by simpa using h2,fun j v hj=>?_⟩
 rw [World.cell?_setCell_far _ _ _ _ (fun e=>hp b off h1 e.symm)];exact h3 j v hj
theorem FSt.drewN {w wr:World} {c0 c1:Array Value} {g0 g1 gd bD:Nat} {done:List Bool} {d:List Int} (h:FSt w wr c0 c1 g0 g1 gd bD done d) (n:Nat):FSt w (wr.drewN n) c0 c1 g0 g1 gd bD done d:=h.below (zaeZ (Below.refl _ _) n)
attribute [local go_sem] zabZ
set_option maxHeartbeats 16000000 in
theorem depths_any (c:CodeD) (name:ByteArray) (params locals:Int) (e0 b0:Nat) (A B:Option Addr) (ncap icap dcap:Nat) (w0 w:World) (bD:Nat) (d0:List Int) (hL:c.ins.length≤4000) (hnf:c.fns.length≤40) (hS:Shaped w0) (hF:SlAt w0 A 5 FnD.cells c.fns) (hI:InsV w0 B c.ins) (hw:Below w0.heap.size w0 w) (hbD:w0.heap.size≤bD) (hbw:bD<w.heap.size) (hd:DepAt w bD d0) (hdl:d0.length=c.ins.length) (hdb:DBd d0) (hc:AllSmall c) (hg:GoodF c ⟨name,params,locals,e0,b0⟩) :
  Calls prog 62 #[.agg #[.slice A c.fns.length ncap,.slice B c.ins.length icap],.agg #[.string name,.int .i64 params,.int .i64 locals,.int .i64 e0,.int .i64 b0],.slice (some ⟨bD,0,none⟩) d0.length dcap] w fun e w'=>∃ k d',e=.returned (.int .i64 k)∧FollowR c e0 b0 (List.replicate c.ins.length false) (d0.set e0 0) (k,d')∧DepAt w' bD d'∧d'.length=d0.length∧DBd d'∧w.grownBy w' (some bD):=by
 obtain ⟨P,hP⟩:∃ P:Ending→World→Prop,(fun e w'=>∃ k d',e=.returned (.int .i64 k)∧FollowR c e0 b0 (List.replicate c.ins.length false) (d0.set e0 0) (k,d')∧DepAt w' bD d'∧d'.length=d0.length∧DBd d'∧w.grownBy w' (some bD))=P:=⟨_,rfl⟩
 rw [hP];have HP:=hZz hP;have he0:e0<b0:=by have:=hg.1.2.2;dsimp only at this;omega
 have hb0:b0≤c.ins.length:=by have:=hg.2.1;simpa using this
 have hGF:∀ k,e0≤k→k<b0→∃ i,c.ins[k]? = some i∧FormedP c.fns.length ⟨name,params,locals,e0,b0⟩ i∧(k+1=b0→i.op=20∨i.op=13):=by have:=hg.2.2;simpa using this
 have HSI:Hid (∀ k i,e0≤k→k<b0→c.ins[k]? = some i→∀ m∈sucF i k,e0≤m∧m<b0):=hZz (fun k i h1 h2 h3=>by have:=suc_in hg (k:=k) (i:=i) (by simpa using h1) (by simpa using h2) h3;simpa using this);have HGF:=hZz hGF;have HAS:=hZz hc;have HS:=hZz hS;have HF:=hZz hF;have HI:=hZz hI;have HW:=hZz hw;have HD:=hZz hd;have HBD:=hZz hbD;have HBW:=hZz hbw;have HDB:=hZz hdb;obtain ⟨L,hLe⟩:∃ L,c.ins.length=L:=⟨_,rfl⟩
 have HLE:=hZz hLe;rw [hLe] at hL hb0 hdl;rw [hdl,hLe];have hmk:=mk_boolsL L (by omega);have heL:e0<L:=by omega
 have heL':(e0:Int)<(L:Int):=by omega
 have he00:(0:Int)≤(e0:Int):=by omega
 have HDL:=hZz hdl;clear hP hc hS hF hI hw hd hbD hdb hGF hg hLe hdl hbw;go_enter func62,ntmps62
 go_upto_region 2 with fail
 obtain ⟨g0,hg0⟩:∃ g,w.heap.size=g:=⟨_,rfl⟩
 obtain ⟨W3,hW3⟩:∃ W3,((w.alloc (.cells #[.slice A c.fns.length ncap,.slice B L icap] 31)).alloc (.cells #[.string name,.int .i64 params,.int .i64 locals,.int .i64 e0,.int .i64 b0] 50)).alloc (.cells (Array.replicate L (.bool false)) 4)=W3:=⟨_,rfl⟩
 have HS3:Hid (FSt w W3 #[.slice A c.fns.length ncap,.slice B L icap] #[.string name,.int .i64 params,.int .i64 locals,.int .i64 e0,.int .i64 b0] g0 (g0+1) (g0+1+1) bD (List.replicate L false) d0):=hZz (by
  have hb3:=zbzY w (.cells #[.slice A c.fns.length ncap,.slice B L icap] 31) (.cells #[.string name,.int .i64 params,.int .i64 locals,.int .i64 e0,.int .i64 b0] 50) (.cells (Array.replicate L (.bool false)) 4);rw [hW3] at hb3;rw [← hg0];refine ⟨?_,?_,?_,HD.out.below hb3,zbtY ⟨rfl,rfl,rfl,Nat.le_refl _,fun _ _ _=>rfl⟩ hb3⟩
  ·rw [← hW3];exact ((Blk.new w _ _).alloc _).alloc _
  ·rw [← hW3];exact (Blk.second _ _ _ _).alloc _
  ·rw [← hW3]
   have e:((List.replicate L false).map Value.bool).toArray=Array.replicate L (Value.bool false):=by simp
   unfold FlagAt;rw [e];exact Blk.third _ _ _ _ _)
 rw [hg0,hW3];have HG:Hid (g0=w.heap.size∧bD<g0):=hZz ⟨hg0.symm,by have:=HBW.out;omega⟩;have HNE:Hid (g0≠bD∧g0+1≠bD∧g0+1+1≠bD):=hZz (by have:=HG.out.2;omega);clear hW3 hg0;have z0:=HS3.out.dp.frozen e0;have cd0:=HS3.out.dp.cell (k:=e0) (by have:=HDL.out;omega);obtain ⟨y0,hy0⟩:∃ y,d0[e0]'(by have:=HDL.out;omega)=y:=⟨_,rfl⟩
 rw [hy0] at cd0;clear hy0;have c0:=blk2 HS3.out.b0;have c1:=blk5 HS3.out.b1;go_upto_region 3 with fail
 obtain ⟨W4,hW4⟩:∃ W4,W3.setCell ⟨bD,e0,none⟩ (.int .i64 0)=W4:=⟨_,rfl⟩
 have HS4:=hZz (HS3.out.setD HNE.out.1 HNE.out.2.1 HNE.out.2.2 e0 0);rw [hW4] at HS4 ⊢;clear hW4 z0 cd0 c0 c1 HS3;have c0:=blk2 HS4.out.b0;have c1:=blk5 HS4.out.b1;go_wp2_with (fail)
 clear c0 c1 hmk;obtain ⟨d1,hd1⟩:∃ d1,d0.set e0 0=d1:=⟨_,rfl⟩
 have HD1:=hZz hd1;rw [hd1] at HS4;have hdl1:d1.length=L:=by rw [← hd1];simp;exact HDL.out
 have HDB1:Hid (DBd d1):=hZz (by rw [← hd1];exact HDB.out.set e0 0 (by omega) (by omega));clear hd1;go_loopw [8] (fun iv wr=>∃ (at_:Nat) (done:List Bool) (d:List Int),e0≤at_∧at_≤b0∧iv=.int .i64 at_∧done.length=L∧d.length=L∧Hid (DBd d)∧Hid (∀ j,e0≤j→j<at_→done.getD j false=true∨getD d j<0)∧Hid (∀ R,FollowR c e0 b0 done d R→FollowR c e0 b0 (List.replicate L false) d1 R)∧Hid (FSt w wr #[.slice A c.fns.length ncap,.slice B L icap] #[.string name,.int .i64 params,.int .i64 locals,.int .i64 e0,.int .i64 b0] g0 (g0+1) (g0+1+1) bD done d)) (fun iv wr=>undoneW wr (g0+1+1) L * (L+1)+(L - (intOf iv).toNat))
 case atStart=>exact ⟨e0,_,d1,Nat.le_refl _,by omega,rfl,by simp,hdl1,HDB1,hZz (fun j h1 h2=>by omega),hZz (fun R h=>h),HS4⟩
 case round =>
  obtain ⟨at_,done,d,hat0,hat1,rfl,hdn,hdl,HDBd,HSC,HAC,HST⟩:=hrel;have hk0:(0:Int)≤(at_:Int):=by omega
  have HBW0:Hid (Below w0.heap.size w0 wr):=hZz (HW.out.grown HST.out.hg HW.out.size (fun k hk=>by injection hk with hk;have:=HBD.out;omega));have c0:=blk2 HST.out.b0;have c1:=blk5 HST.out.b1;have HMU:Hid (undoneW wr (g0+1+1) L=done.count false):=hZz (by rw [← hdn];exact zb1Y HST.out.fl);by_cases hlt:at_<b0
  ·have hlt':(at_:Int)<(b0:Int):=by omega
   have hltL:(at_:Int)<(L:Int):=by omega
   have hk9:(at_:Int)+1≤9223372036854775807:=by omega
   have HDI:Hid (getD d at_=d[at_]'(by omega)):=hZz (zcjY d at_ (by omega));have HFI:Hid (done.getD at_ false=done[at_]'(by omega)):=hZz (done_lt done at_ (by omega));have cd:=HST.out.dp.cell (k:=at_) (by omega);have cf:=HST.out.fl.cell (k:=at_) (by omega);obtain ⟨x,hx⟩:∃ x,d[at_]'(by omega)=x:=⟨_,rfl⟩
   obtain ⟨fl,hfl⟩:∃ x,done[at_]'(by omega)=x:=⟨_,rfl⟩
   rw [hx] at cd HDI;rw [hfl] at cf HFI;clear hx hfl;by_cases hneg:x<0
   ·go_wp2_with (fail)
    exact ⟨⟨at_+1,done,d,by omega,by omega,by simp,hdn,hdl,HDBd,hZz (fun j h1 h2=>by
     by_cases e:j=at_
     ·subst e;exact .inr (by rw [HDI.out];exact hneg)
     ·exact HSC.out j h1 (by omega)),HAC,HST⟩,by simp [intOf];omega⟩
   ·have hneg':0≤x:=by omega
    cases fl with
    | true =>
     go_wp2_with (fail)
     exact ⟨⟨at_+1,done,d,by omega,by omega,by simp,hdn,hdl,HDBd,hZz (fun j h1 h2=>by
      by_cases e:j=at_
      ·subst e;exact .inl HFI.out
      ·exact HSC.out j h1 (by omega)),HAC,HST⟩,by simp [intOf];omega⟩
    | false =>
     have HNX:Hid (IsNext done d e0 b0 at_):=hZz ⟨hat0,hat1,HSC.out,fun _=>⟨HFI.out,by rw [HDI.out];exact hneg'⟩⟩;have zf:=Blk.frozen HST.out.fl at_;obtain ⟨i,hi,hform,_⟩:=HGF.out at_ hat0 hlt;have HII:=hZz hi;have HFM:=hZz hform;have hki:at_<c.ins.length:=by rw [HLE.out];omega
     obtain ⟨bI,offI,kv0,hB,hdead⟩:=(HI.out.below HBW0.out).at hki;clear hdead;subst hB;have HKI:=hZz hki;clear hi hform hki;go_upto_region 8 with fail
     obtain ⟨W5,hW5⟩:∃ W5,wr.setCell ⟨g0+1+1,at_,none⟩ (.bool true)=W5:=⟨_,rfl⟩
     have HS5:=hZz (HST.out.setF (by omega) (by omega) (by have:=HNE.out;omega) (by have:=HG.out;omega) at_ true);rw [hW5] at HS5 ⊢;clear hW5 zf cd cf c0 c1;have HBW5:Hid (Below w0.heap.size w0 W5):=hZz (HW.out.grown HS5.out.hg HW.out.size (fun k hk=>by injection hk with hk;have:=HBD.out;omega));obtain ⟨bI',offI',kv,hB',hbI,q0,q1,q2,q3,hkv⟩:=(HI.out.below HBW5.out).at HKI.out;injection hB' with hB'
     injection hB' with hB1 hB2
     subst hB1 hB2;have hie:c.ins[at_]'HKI.out=i:=(List.getElem?_eq_some_iff.mp HII.out).2;rw [hie] at q0 q1 q2 hkv;clear hie;obtain ⟨kA,kcap,rfl,_,_⟩:=hkv;have HPP:=hZz (pops_p HFM.out);have hop:=HFM.out.1;have HPB:=hZz (pop_bd HAS.out HFM.out);have hja:i.op=13∨i.op=14→0≤i.a:=fun h=>by have:=jump_in HFM.out h;dsimp only at this;omega
     have HPOP:Hid (∀ wx,Shaped wx→SlAt wx A 5 FnD.cells c.fns→Calls prog 98 #[.agg #[.slice A c.fns.length ncap,.slice (some ⟨bI,offI,none⟩) L icap],.agg #[.int .i64 i.op,.int .i64 i.a,.string i.s,.slice kA i.keys.length kcap]] wx fun e w'=>e=.returned (.int .i64 (popF c i))∧Below wx.heap.size wx w'):=hZz (fun wx h1 h2=>cpops_any c A _ ncap L icap i _ wx hnf h1 h2 HPP.out);have HSUC:Hid (∀ wx,Calls prog 99 #[.agg #[.int .i64 i.op,.int .i64 i.a,.string i.s,.slice kA i.keys.length kcap],.int .i64 at_] wx fun e w'=>(∃ v,e=.returned v∧SucV wx.heap.size w' v (sucF i at_))∧Below wx.heap.size wx w'):=hZz (fun wx=>csuc_any i _ at_ wx (by omega) hop hja);have HSX:Hid (∀ m∈sucF i at_,e0≤m∧m<b0):=hZz (HSI.out at_ i hat0 hlt HII.out);have HQB:=hZz (push_bd i.op);obtain ⟨sl,hsl⟩:∃ sl,sucF i at_=sl:=⟨_,rfl⟩
     obtain ⟨pp,hpp⟩:∃ p,popF c i=p:=⟨_,rfl⟩
     obtain ⟨qq,hqq⟩:∃ p,pushF i.op=p:=⟨_,rfl⟩
     rw [hsl] at HSUC HSX;rw [hpp] at HPOP HPB;rw [hqq] at HQB;have HSL:=hZz hsl;have HPPE:=hZz hpp;have HQQE:=hZz hqq;clear hja hsl hpp hqq;obtain ⟨m,hm⟩:∃ m:Nat,i.op=(m:Int):=⟨i.op.toNat,by omega⟩
     have HMM:=hZz hm;rw [hm] at q0 HPOP HSUC;have hm1:1≤m:=by omega
     have hm2:m≤20:=by omega
     generalize i.keys.length=kn at q3 HPOP HSUC;generalize i.a=ia at q1 HPOP HSUC;generalize i.s=is at q2 HPOP HSUC;clear hm hop;have c0:=blk2 HS5.out.b0;have c1:=blk5 HS5.out.b1;go_upto_region 9 with fail
     obtain ⟨gx,hgx⟩:∃ g,W5.heap.size=g:=⟨_,rfl⟩
     obtain ⟨W6,hW6⟩:∃ W6,W5.alloc (.cells #[.int .i64 m,.int .i64 ia,.string is,.slice kA kn kcap] 53)=W6:=⟨_,rfl⟩
     have HX6:Hid (Blk W6 gx 53 #[.int .i64 m,.int .i64 ia,.string is,.slice kA kn kcap]):=hZz (by rw [← hW6,← hgx];exact Blk.new _ _ _);have HS6:=hZz (HS5.out.below (zacZ W5 (.cells #[.int .i64 m,.int .i64 ia,.string is,.slice kA kn kcap] 53)));have HB6:Hid (Below w0.heap.size w0 W6):=hZz (by rw [← hW6];exact HBW5.out.alloc HBW5.out.size _);rw [hW6] at HS6 ⊢;rw [hgx];clear hW6 hgx q0 q1 q2 q3 c0 c1;have c0:=blk2 HS6.out.b0;have c1:=blk5 HS6.out.b1;have x0:=blk4 HX6.out
     go_upto_region 10 with (first
      | (go_at_call 98;(with_reducible refine (HPOP.out _ (HS.out.below HB6.out) (HF.out.below HB6.out)).mono ?_);rintro e w7 ⟨rfl,hb7⟩;have HS7:=hZz (HS6.out.below hb7);have HX7:=hZz (HX6.out.below hb7);have HB7:=hZz (zaaZ hb7 HB6.out HB6.out.size);clear hb7 c0 c1 x0))
     have c0:=blk2 HS7.out.b0;have c1:=blk5 HS7.out.b1;have x0:=blk4 HX7.out;have cd:=HS7.out.dp.cell (k:=at_) (by omega);have hdx:d[at_]'(by omega)=x:=by rw [← HDI.out];exact (zcjY d at_ (by omega)).symm
     rw [hdx] at cd;have sp:=(HS.out.below HB7.out).push m hm1 hm2;rw [← HMM.out,HQQE.out] at sp;clear hdx;have hp0:=HPB.out.1;have hp1:=HPB.out.2;have hq0:=HQB.out.1;have hq1:=HQB.out.2;have hx1:x≤64:=by rw [← HDI.out];exact (HDBd.out at_).2
     have hm0:(0:Int)≤(m:Int):=by omega
     have hm9:(m:Int)<21:=by omega
     go_quiet (fail);obtain ⟨W8,hW8⟩:∃ W8,w7.drewN nq=W8:=⟨_,rfl⟩
     have HS8:=hZz (HS7.out.drewN nq);have HX8:Hid (Blk W8 gx 53 #[.int .i64 m,.int .i64 ia,.string is,.slice kA kn kcap]):=hZz (by rw [← hW8];exact HX7.out.drewN nq);rw [hW8] at HS8 ⊢;clear hW8 c0 c1 x0 cd sp;have c0:=blk2 HS8.out.b0;have c1:=blk5 HS8.out.b1;have x0:=blk4 HX8.out;have cd:=HS8.out.dp.cell (k:=at_) (by omega);have hdx:d[at_]'(by omega)=x:=by rw [← HDI.out];exact (zcjY d at_ (by omega)).symm
     rw [hdx] at cd;clear hdx;have HFA:Hid (Faulty c i x↔x<pp∨((m:Int)=20∧x≠1)∨64<x - pp+qq):=hZz (by unfold Faulty;rw [HPPE.out,HQQE.out,HMM.out]);have HBAD:Hid (Faulty c i x→FollowR c e0 b0 (List.replicate L false) d1 ((at_:Nat),d)):=hZz (fun hf=>HAC.out _ (.bad done d at_ i HNX.out hlt HII.out (by rw [HDI.out];exact hf)));have HDP:Hid (DepAt W8 bD d∧d.length=d0.length∧DBd d∧w.grownBy W8 (some bD)):=hZz ⟨HS8.out.dp,by rw [hdl,HDL.out],HDBd.out,HS8.out.hg⟩;by_cases hf1:x<pp
     ·go_wp2_with (fail)
      rw [← HP.out];rw [HLE.out,HD1.out];exact ⟨at_,d,rfl,HBAD.out (HFA.out.2 (.inl hf1)),HDP.out⟩
     by_cases hf2:(m:Int)=20∧x≠1
     ·have hm20:((m:Int) == 20)=true:=by simpa using hf2.1
      have hxn:(x != 1)=true:=by simpa using hf2.2
      have HF2:=hZz hf2;clear hf2;go_wp2_with (fail)
      rw [← HP.out];rw [HLE.out,HD1.out];exact ⟨at_,d,rfl,HBAD.out (HFA.out.2 (.inr (.inl HF2.out))),HDP.out⟩
     by_cases hf3:64<x - pp+qq
     ·have HF3:=hZz hf3
      by_cases hm20:(m:Int)=20
      ·have hx1':x=1:=by
        by_cases e:x=1
        ·exact e
        ·exact absurd ⟨hm20,e⟩ hf2
       have hm20':((m:Int) == 20)=true:=by simpa using hm20
       have hxn:(x != 1)=false:=by simpa using hx1'
       clear hf2 hm20 hx1';go_wp2_with (fail)
       rw [← HP.out];rw [HLE.out,HD1.out];exact ⟨at_,d,rfl,HBAD.out (HFA.out.2 (.inr (.inr HF3.out))),HDP.out⟩
      ·have hm20':((m:Int) == 20)=false:=by simpa using hm20
       clear hf2 hm20;go_wp2_with (fail)
       rw [← HP.out];rw [HLE.out,HD1.out];exact ⟨at_,d,rfl,HBAD.out (HFA.out.2 (.inr (.inr HF3.out))),HDP.out⟩
     have HNF:Hid (¬ Faulty c i x):=hZz (fun h=>by rcases HFA.out.1 h with h | h | h;exact hf1 h;exact hf2 h;exact hf3 h)
     have HF2:Hid (((m:Int) == 20)=false∨((m:Int) == 20)=true∧(x != 1)=false):=hZz (by
      by_cases e:(m:Int)=20
      ·refine .inr ⟨by simpa using e,?_⟩
       by_cases e2:x=1
       ·simpa using e2
       ·exact absurd ⟨e,e2⟩ hf2
      ·exact .inl (by simpa using e))
     clear hf2 HBAD HFA HDP;obtain ⟨nn,hnn⟩:∃ n,x - pp+qq=n:=⟨_,rfl⟩
     have hn64:nn≤64:=by omega
     have hn0:0≤nn:=by omega
     have hnf1:¬ 64<nn:=by omega
     have HNN:=hZz hnn;have HXP:=hZz hf1;rw [hnn];clear hnn hf3;obtain ⟨R0,hR0⟩:∃ R,setS nn sl d=R:=⟨_,rfl⟩
     have HR0:=hZz hR0;clear hR0;have hk91:(at_:Int)+1≤9223372036854775807:=by omega
     go_upto_region 11 with fail
     go_cut [85] from 64 to 84 (fun s85 wx=>s85=.bool false∧wx=W8)
     case first =>
      rcases HF2.out with hq | ⟨hq,hq2⟩
      all_goals
       go_wp2_with (fail)
       go_meet
       exact ⟨rfl,rfl⟩
     case rest =>
      obtain ⟨rfl,rfl⟩:=hcut
      go_upto_region 15 with (first
       | (go_at_call 99;(with_reducible refine (HSUC.out _).mono ?_);rintro e w9 ⟨⟨v,rfl,sA,scap,rfl,hss,hsg⟩,hb9⟩;have HS9:=hZz (HS8.out.below hb9);have HSS:=hZz hss;have HSG:Hid (∀ g off,sA=some ⟨g,off,none⟩→g≠bD):=hZz (fun g off h e=>by have h1:=hsg g off h;have h2:=HS8.out.hg.size;have h3:=HBW.out;omega);clear hb9 hss hsg c0 c1 x0 cd))
      have hsl2:sl.length≤2:=by rw [← HSL.out];unfold sucF;split;(simp);split;(simp);split <;> simp
      go_loopw [12,14,93] (fun lv _ iv wr2=>∃ (q ls:Nat) (dm:List Int),q≤sl.length∧iv=.int .i64 q∧lv=.int .i64 ls∧e0≤ls∧ls≤at_+1∧dm.length=L∧Hid (∀ j (h:j<sl.length),j<q→ls≤sl[j])∧Hid (DBd dm)∧Hid (setS nn (sl.drop q) dm=R0)∧Hid (∀ j,j<ls→getD dm j=getD d j)∧Hid (SlAt wr2 sA 1 natCs sl)∧Hid (FSt w wr2 #[.slice A c.fns.length ncap,.slice (some ⟨bI,offI,none⟩) L icap] #[.string name,.int .i64 params,.int .i64 locals,.int .i64 e0,.int .i64 b0] g0 (g0+1) (g0+1+1) bD (done.set at_ true) dm)) (fun _ _ iv _=>sl.length - (intOf iv).toNat)
      case atStart=>exact ⟨0,at_+1,d,Nat.zero_le _,rfl,by simp,by omega,Nat.le_refl _,hdl,hZz (fun j _ h=>by omega),HDBd,hZz HR0.out,hZz (fun j _=>rfl),HSS,HS9⟩
      case round =>
       obtain ⟨q,ls,dm,hq,rfl,rfl,hls0,hls1,hdml,HLS,HDM,HSE,HEQ,HSV,HS2⟩:=hrel;have hq0':(0:Int)≤(q:Int):=by omega
       have hls9:(0:Int)≤(ls:Int):=by omega
       by_cases hql:q<sl.length
       ·have hql':(q:Int)<(sl.length:Int):=by omega
        obtain ⟨t,ht⟩:∃ t,sl[q]=t:=⟨_,rfl⟩
        have HTB:=hZz (HSX.out t (ht ▸ List.getElem_mem hql));have htL:t<L:=by have:=HTB.out.2;omega
        have htL':(t:Int)<(L:Int):=by omega
        have ht0:(0:Int)≤(t:Int):=by omega
        obtain ⟨bS,offS,rfl,_⟩:=HSV.out.ptr hql;have cs:=HSV.out.cell0 hql (v:=.int .i64 t) (by rw [ht];rfl);simp only [Nat.mul_one] at cs;have HDR:Hid (sl.drop q=t :: sl.drop (q+1)):=hZz (by rw [← ht];exact List.drop_eq_getElem_cons hql);have HTE:=hZz ht;clear ht;obtain ⟨y,hy⟩:∃ y,dm[t]'(by omega)=y:=⟨_,rfl⟩
        have HGY:Hid (getD dm t=y):=hZz (by rw [← hy];exact zcjY dm t (by omega));have cy:=HS2.out.dp.cell (k:=t) (by omega);rw [hy] at cy;have zy:=HS2.out.dp.frozen t;clear hy;by_cases hbad:0≤y∧y≠nn
        ·have hy0:=hbad.1
         have hyn:(y != nn)=true:=by simpa using hbad.2
         have HRE:Hid (R0=(some t,dm)):=hZz (by rw [← HSE.out,HDR.out,zb3Y,HGY.out,if_pos hbad]);clear hbad;go_wp2_with (fail)
         rw [← HP.out];rw [HLE.out,HD1.out];refine ⟨t,dm,rfl,HAC.out _ (.two done d dm at_ t i HNX.out hlt HII.out (by rw [HDI.out];exact HNF.out) ?_),HS2.out.dp,by rw [hdml,HDL.out],HDM.out,HS2.out.hg⟩
         rw [HDI.out,HPPE.out,HQQE.out,HNN.out,HSL.out,HR0.out,HRE.out]
        ·have HRE:Hid (setS nn (sl.drop (q+1)) (dm.set t nn)=R0):=hZz (by rw [← HSE.out,HDR.out,zb3Y,HGY.out,if_neg hbad])
         have HYC:Hid (y<0∨0≤y∧y=nn):=hZz (by
          by_cases h:y<0
          ·exact .inl h
          ·refine .inr ⟨by omega,?_⟩
           by_cases e:y=nn
           ·exact e
           ·exact absurd ⟨by omega,e⟩ hbad)
         clear hbad;have HS3:=hZz (HS2.out.setD HNE.out.1 HNE.out.2.1 HNE.out.2.2 t nn);have HSV3:=hZz (HSV.out.far (p:=⟨bD,t,none⟩) HSG.out (.int .i64 nn));have HDM3:=hZz (HDM.out.set t nn (by omega) hn64);have HL1:=hZz hls1;clear hls1 hk91 hk9;rcases HYC.out with hy1 | ⟨hy1,hy2⟩
         all_goals
          first
           | (have hyn:(y != nn)=false:=(by simpa using hy2);clear hy2)
           | skip
          go_wp2_with (fail)
          refine ⟨⟨q+1,min ls t,dm.set t nn,by omega,by simp,?_,by have:=HTB.out.1;omega,by have:=HL1.out;omega,by simp;exact hdml,hZz (fun j h h2=>?_),HDM3,HRE,hZz (fun j hj=>?_),HSV3,HS3⟩,by simp [intOf];omega⟩
          ·simp
           try omega
          ·by_cases e:j=q
           ·subst e;rw [HTE.out];omega
           ·have:=HLS.out j h (by omega);omega
          ·rw [getD_set dm t j nn (by omega),if_neg (by omega)]
           exact HEQ.out j (by omega)
       ·have e:q=sl.length:=by omega
        subst e;have HRE:Hid (R0=(none,dm)):=hZz (by rw [← HSE.out,List.drop_length];rfl);have hdn2:(done.set at_ true).length=L:=by simp;exact hdn
        have HMU2:Hid (undoneW wr (g0+1+1) L+1=done.count false):=hZz (by
         have h1:=zb1Y HS2.out.fl;rw [hdn2] at h1;rw [h1];exact count_set done at_ (by omega) (by rw [← HFI.out];exact (done_lt done at_ (by omega)).symm))
        go_wp2_with (fail)
        refine ⟨⟨ls,done.set at_ true,dm,hls0,by omega,rfl,hdn2,hdml,HDM,hZz (fun j h1 h2=>?_),hZz (fun R hR=>HAC.out R (.go done d dm at_ i R HNX.out hlt HII.out (by rw [HDI.out];exact HNF.out) ?_ hR)),HS2⟩,?_⟩
        ·by_cases e:j=at_
         ·subst e
          refine .inl ?_
          rw [List.getD_eq_getElem?_getD,List.getElem?_set,if_pos rfl,if_pos (by omega)];rfl
         ·rcases HSC.out j h1 (by omega) with h | h
          ·refine .inl ?_
           rw [List.getD_eq_getElem?_getD,List.getElem?_set,if_neg (fun e2=>e e2.symm),← List.getD_eq_getElem?_getD];exact h
          ·exact .inr (by rw [HEQ.out j h2];exact h)
        ·rw [HDI.out,HPPE.out,HQQE.out,HNN.out,HSL.out,HR0.out,HRE.out]
        ·have h1:=HMU.out
         have h2:=HMU2.out;simp only [intOf];rw [h1,← h2,Nat.add_mul];simp only [Int.toNat_natCast,Nat.one_mul];omega
  ·have e:at_=b0:=by omega
   subst e;go_wp2_with (fail)
   rw [← HP.out];rw [HLE.out,HD1.out];exact ⟨-1,d,rfl,HAC.out _ (.stop done d ⟨hat0,Nat.le_refl _,HSC.out,fun h=>by omega⟩),HST.out.dp,by rw [hdl,HDL.out],HDBd.out,HST.out.hg⟩
end
end Go.Proofs.YthiimbhjpdphpaaGreatDoor
