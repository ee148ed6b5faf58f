/- GN0 -/
import Derived.Lib.Hide
import Derived.MapKept
import Derived.Maps.AppendAt
import Derived.Maps.OwnSet
import Derived.OrdersHeld
import Derived.WalkKit
import Derived.WalkLawsBesides
import Derived.WalkSpells
set_option linter.unusedVariables false
set_option linter.unusedSimpArgs false
namespace Go.Proofs.YthiimbhjpdphpaaGreatDoor
open Go.RowKit
theorem tkZ {P:Program} {ops:Array Oper} {Q:Exit→Act→World→Prop} {md:Region.Mode} {S:World→Prop} {i:Nat} {oi:Oper} {v:Value} {fuel:Nat} {listed:Array Bool} {a:Act} {w:World} (hi:ops[i]? = some oi) (h:wpAnyH P md ops Q S fuel (listed.setIfInBounds i true) (a.put oi.dst v) w) (hs:Region.noSelect ops=true:=by kernel_rfl) (hf:Region.free md ops listed i=true:=by kernel_rfl) (hr:(Region.ready md ops listed).contains i=true:=by kernel_rfl) (hQ:∀ c a w,Q (.panic c) (a.put oi.dst v) w→Q (.panic c) a w:=by exact fun _ _ _ h=>h) (hy:YieldsIf P ops S oi v a:=by exact (Or.inl ⟨by rfl,by intro w hSw;(try dsimp only at hSw);go_simp⟩)) (hS:S w:=by assumption):wpAnyH P md ops Q S (fuel+1) listed a w:=wpAnyH_take hi hs hf hr hQ hy hS h
theorem tsZ {P:Program} {ops:Array Oper} {Q:Exit→Act→World→Prop} {md:Region.Mode} {S:World→Prop} {i:Nat} {oi:Oper} {fuel:Nat} {listed:Array Bool} {a:Act} {w:World} (hi:ops[i]? = some oi) (h:wpAnyH P md ops Q S fuel (listed.setIfInBounds i true) (a.put oi.dst undef) w) (hs:Region.noSelect ops=true:=by kernel_rfl) (hf:Region.free md ops listed i=true:=by kernel_rfl) (hr:(Region.ready md ops listed).contains i=true:=by kernel_rfl) (hQ:∀ c a w,Q (.panic c) (a.put oi.dst undef) w→Q (.panic c) a w:=by exact fun _ _ _ h=>h) (hy:YieldsIf P ops S oi undef a:=by exact (Or.inr ⟨by rfl,rfl⟩)) (hS:S w:=by assumption):wpAnyH P md ops Q S (fuel+1) listed a w:=wpAnyH_take hi hs hf hr hQ hy hS h
theorem tqZ {P:Program} {ops:Array Oper} {Q:Exit→Act→World→Prop} {md:Region.Mode} {S:World→Prop} {i:Nat} {oi:Oper} {v:Value} {fuel:Nat} {listed:Array Bool} {a:Act} {w:World} (hi:ops[i]? = some oi) (h:wpAnyH P md ops Q S fuel (listed.setIfInBounds i true) (a.put oi.dst v) w) (hs:Region.noSelect ops=true:=by kernel_rfl) (hf:Region.free md ops listed i=true:=by kernel_rfl) (hr:(Region.ready md ops listed).contains i=true:=by kernel_rfl) (hQ:∀ c a w,Q (.panic c) (a.put oi.dst v) w→Q (.panic c) a w:=by exact fun _ _ _ h=>h) (hy:YieldsIf P ops S oi v a:=by exact (Or.inl ⟨by rfl,by intro w hSw;(try dsimp only at hSw);(try simp only [List.getElem_toArray,List.getElem_cons_succ,List.getElem_cons_zero]);go_simp⟩)) (hS:S w:=by assumption):wpAnyH P md ops Q S (fuel+1) listed a w:=wpAnyH_take hi hs hf hr hQ hy hS h
theorem bLZ {w:World} {a:Addr} {u:Value} (h:w.cell? a=some u):a.block<w.heap.size:=World.block_lt_of_cell? _ _ h
section
theorem hZz {p:Prop} (h:p):Hid p:=h
theorem nz {α:Type}:(∀(l:List α)(i:Nat)(h:i<l.toArray.size),l.toArray[i]=l[i]'(by simpa using h))∧(∀(a:α)(l:List α)(i:Nat)(h:i+1<(a::l).length),(a::l)[i+1]=l[i]'(by simpa using h))∧(∀(a:α)(l:List α)(h:0<(a::l).length),(a::l)[0]=a)∧(∀(l:List α)(i:Nat)(a:α),l.toArray.setIfInBounds i a=(l.set i a).toArray)∧(∀(a b:α)(l:List α),(a::l).set 0 b=b::l)∧(∀(a b:α)(l:List α)(i:Nat),(a::l).set (i+1) b=a::l.set i b):=⟨fun _ _ _=>by simp,fun _ _ _ _=>by simp,fun _ _ _=>rfl,fun _ _ _=>by simp,fun _ _ _=>rfl,fun _ _ _ _=>rfl⟩
theorem zahZ {w w0 w1:World} (h:Below w0.heap.size w0 w1) (h0:Below w.heap.size w w0):Below w.heap.size w w1:=h0.trans (h.mono h0.size)
theorem zaaZ {B:Nat} {w w0 w1:World} (h:Below w0.heap.size w0 w1) (h0:Below B w w0) (hB:B≤w0.heap.size):Below B w w1:=h0.trans (h.mono hB)
theorem zacZ (w:World) (o:Obj):Below w.heap.size w (w.alloc o):=(Below.refl _ _).alloc (Nat.le_refl _) o
theorem zabZ (w:World) (a:Addr) (o:Obj) (h:(w.cell? a).isSome=true):(w.alloc o).cell? a=w.cell? a:=by
 obtain ⟨u,hu⟩:=Option.isSome_iff_exists.1 h;exact World.cell?_alloc_lt _ _ _ (World.block_lt_of_cell? w a hu)
def RdAt (w:World) (A:Option Addr) (sz:Nat) (rows:List (List Value)):Prop :=
 ∀ i (row:List Value),rows[i]? = some row→∃ b off,A=some ⟨b,off,none⟩∧b<w.heap.size∧∀ j v,row[j]? = some v→w.cell? ⟨b,off+i * sz+j,none⟩=some v
def SlAt {α:Type} (w:World) (A:Option Addr) (sz:Nat) (c:α→List Value) (l:List α):Prop:=RdAt w A sz (l.map c)
section
variable {α:Type} {w w':World} {A:Option Addr} {sz:Nat} {c:α→List Value} {l:List α}
theorem SlAt.nil:SlAt w A sz c []:=by
 intro i row h;simp at h
theorem SlAt.ptr (h:SlAt w A sz c l) {n:Nat} (hn:n<l.length):∃ b off,A=some ⟨b,off,none⟩∧b<w.heap.size:=by
 obtain ⟨b,off,h1,h2,_⟩:=h n (c l[n]) (by simp [hn]);exact ⟨b,off,h1,h2⟩
theorem SlAt.cell {b off:Nat} (h:SlAt w (some ⟨b,off,none⟩) sz c l) {n:Nat} (hn:n<l.length) {j:Nat} {v:Value} (hv:(c l[n])[j]? = some v):w.cell? ⟨b,off+n * sz+j,none⟩=some v:=by
 obtain ⟨b',off',h1,_,h3⟩:=h n (c l[n]) (by simp [hn]);simp only [Option.some.injEq,Addr.mk.injEq,and_true] at h1;obtain ⟨rfl,rfl⟩:=h1;exact h3 j v hv
theorem SlAt.cell0 {b off:Nat} (h:SlAt w (some ⟨b,off,none⟩) sz c l) {n:Nat} (hn:n<l.length) {v:Value} (hv:(c l[n])[0]? = some v):w.cell? ⟨b,off+n * sz,none⟩=some v:=h.cell hn hv
theorem SlAt.keep (h:SlAt w A sz c l) (hs:w.heap.size≤w'.heap.size) (hk:∀ p:Addr,p.block<w.heap.size→w'.cell? p=w.cell? p):SlAt w' A sz c l:=by
 intro i row hi;obtain ⟨b,off,h1,h2,h3⟩:=h i row hi;exact ⟨b,off,h1,by omega,fun j v hv=>(hk _ h2).trans (h3 j v hv)⟩
theorem SlAt.below (h:SlAt w A sz c l) (hb:Below w.heap.size w w'):SlAt w' A sz c l:=h.keep hb.size fun _ hp=>hb.cell hp
theorem SlAt.take (h:SlAt w A sz c l) (n:Nat):SlAt w A sz c (l.take n):=by
 intro i row hi;refine h i row ?_
 rw [List.map_take,List.getElem?_take] at hi;split at hi
 ·exact hi
 ·cases hi
theorem za6Y (b o n:Nat):(⟨b,o,none⟩:Addr).add n=⟨b,o+n,none⟩:=by
 unfold Addr.add;split
 ·subst_vars;rfl
 ·rfl
theorem SlAt.of_own {base:Nat} {e:TypeId} {A:Option Addr} {n cap:Nat} {xs:List Value} (h:w.ownsRow base e sz (.slice A n cap) n xs) (hx:xs=l.flatMap c) (hc:∀ a,(c a).length=sz) (hsz:0<sz):SlAt w A sz c l:=by
 rcases h.2 with ⟨hv,hn⟩ | ⟨g,cap',cur,hv,hb,hg,_⟩
 ·have h1:=h.1
  subst hn
  have:xs=[]:=List.eq_nil_of_length_eq_zero (by simpa using h1)
  have hl:l=[]:=by
   cases l with
   | nil=>rfl
   | cons a r =>
    have h2:((c a) ++ r.flatMap c).length=0:=by rw [← List.flatMap_cons,← hx,this];rfl
    rw [List.length_append,hc] at h2;omega
  subst hl;exact SlAt.nil
 ·intro i row hi
  have hA:A=some ⟨g,0,none⟩:=by injection hv
  refine ⟨g,0,hA,lt_of_block hg,fun j v hj=>?_⟩
  have hcell:=h.cells (g:=g) (by rw [hA];rfl) (i * sz+j) v;rw [za6Y] at hcell;rw [← hcell]
  ·congr 2
   omega
  ·rw [hx]
   rw [List.getElem?_map] at hi
   have:∀ (l:List α) (i:Nat) (a:α),l[i]? = some a→(l.flatMap c)[i * sz+j]? = (c a)[j]?∨sz≤j:=by
    intro l;induction l with
    | nil=>intro i a h;simp at h
    | cons x r ih =>
     intro i a h;by_cases hj:sz≤j
     ·exact .inr hj
     refine .inl ?_
     cases i with
     | zero =>
      simp at h;subst h
      rw [List.flatMap_cons,List.getElem?_append_left (by rw [hc];omega)];simp
     | succ i =>
      rcases ih i a (by simpa using h) with h' | h'
      ·rw [List.flatMap_cons,List.getElem?_append_right (by rw [hc,Nat.succ_mul];omega),hc,← h']
       congr 1
       rw [Nat.succ_mul];omega
      ·omega
   cases ha:l[i]? with
   | none=>rw [ha] at hi;cases hi
   | some a =>
    rw [ha] at hi;simp at hi
    subst hi;rcases this l i a ha with h' | h'
    ·rw [h'];exact hj
    ·have:=hc a
     have:j<(c a).length:=(List.getElem?_eq_some_iff.1 hj).1
     omega
end
section
variable {α β:Type} [DecidableEq α]
def alGet:List (α × β)→α→Option β
 | [],_=>none
 | (k,v) :: r,a=>if k=a then some v else alGet r a
def alSet:List (α × β)→α→β→List (α × β)
 | [],a,x=>[(a,x)]
 | (k,v) :: r,a,x=>if k=a then (k,x) :: r else (k,v) :: alSet r a x
def alFind:List (α × β)→α→Nat→Option (Nat × β)
 | [],_,_=>none
 | (k,v) :: r,a,i=>if k=a then some (i,v) else alFind r a (i+1)
theorem alGet_find (l:List (α × β)) (a:α) (i:Nat):alGet l a=(alFind l a i).map (·.2):=by
 induction l generalizing i with
 | nil=>rfl
 | cons p r ih=>obtain ⟨k,v⟩:=p;unfold alGet alFind;split <;> simp [ih (i+1)]
theorem alGet_set (l:List (α × β)) (a b:α) (x:β):alGet (alSet l a x) b=if a=b then some x else alGet l b:=by
 induction l with
 | nil=>simp [alSet,alGet]
 | cons p r ih =>
  obtain ⟨k,v⟩:=p;unfold alSet;by_cases h:k=a
  ·subst h
   simp only [if_true,alGet];split <;> rfl
  ·rw [if_neg h]
   simp only [alGet,ih];by_cases h2:k=b
   ·subst h2
    rw [if_pos rfl,if_neg (fun e=>h e.symm),if_pos rfl]
   ·rw [if_neg h2,if_neg h2]
end
section
variable {α β:Type}
def MapAt (w:World) (b:Nat) (kc:α→Value) (vc:β→Value) (m:List (α × β)):Prop :=
 ∃ es clock,w.heap[b]? = some (.map es clock)∧es.toList.map (fun e=>(e.key,e.val))=m.map (fun p=>(kc p.1,vc p.2))
variable {w w':World} {b:Nat} {kc:α→Value} {vc:β→Value} {m:List (α × β)}
theorem MapAt.lt (h:MapAt w b kc vc m):b<w.heap.size:=by
 obtain ⟨es,clock,h1,_⟩:=h;exact lt_of_block h1
theorem MapAt.keep (h:MapAt w b kc vc m) (hk:w'.heap[b]? = w.heap[b]?):MapAt w' b kc vc m:=by
 obtain ⟨es,clock,h1,h2⟩:=h;exact ⟨es,clock,hk.trans h1,h2⟩
theorem MapAt.below' (h:MapAt w b kc vc m) (hb:Below w.heap.size w w'):MapAt w' b kc vc m:=h.keep (hb.block b h.lt)
theorem MapAt.drewN (h:MapAt w b kc vc m) (n:Nat):MapAt (w.drewN n) b kc vc m:=h
theorem MapAt.setCell (h:MapAt w b kc vc m) (p:Addr) (v:Value) (hp:p.block≠b):MapAt (w.setCell p v) b kc vc m:=h.keep (Below.heap_setCell w p v b (fun e=>hp e.symm))
theorem MapAt.grown {row:Option Nat} (h:MapAt w b kc vc m) (hg:w.grownBy w' row) (hne:some b≠row):MapAt w' b kc vc m:=h.keep (hg.block b h.lt hne)
theorem MapAt.new (w:World) (kc:α→Value) (vc:β→Value):MapAt (w.alloc (.map #[] 0)) w.heap.size kc vc []:=⟨#[],0,heap_alloc_new w _,rfl⟩
end
section
variable {α β:Type} [DecidableEq α]
structure KeyOk (P:Program) (K:TypeId) (kc:α→Value):Prop where
 check:∀ (w:World) (e:Bool) (a:α) (n:Nat),(Instr.checkKey e (n+8) K (kc a)).run P w=.ok () w
 find:∀ (w:World) (a:α) (l:List MapEntry) (es:List (α × Value)),l.map (fun e=>(e.key,e.val))=es.map (fun p=>(kc p.1,p.2))→(Instr.findKey K (kc a) l).run P w=.ok (alFind es a 0) w
 stays:∀ (w:World) (a:α),(Instr.keyThatStays (kc a) (kc a)).run P w=.ok (kc a) w
theorem zblY (a:ByteArray):∀ (l:List MapEntry) (es:List (ByteArray × Value)) (i:Nat),l.map (fun e=>(e.key,e.val))=es.map (fun p=>(Value.string p.1,p.2))→Instr.findNow .string (.string a) l i=some (alFind es a i)
 | [],es,i,h=>by
  have:es=[]:=by simpa using h.symm
  subst this;rfl
 | e :: l,[],i,h=>by simp at h
 | e :: l,(k,v) :: es,i,h=>by
  simp only [List.map_cons,List.cons.injEq,Prod.mk.injEq] at h;obtain ⟨⟨h1,h2⟩,h3⟩:=h;unfold Instr.findNow alFind;rw [h1,h2];simp only [Instr.sameNow];by_cases hk:k=a
  ·subst hk
   have:(k == k)=true:=(MapKept.bytes_beq k k).2 rfl
   rw [this,if_pos rfl]
  ·have:(a == k)=false:=by
    cases hb:(a == k)
    ·rfl
    ·exact absurd ((MapKept.bytes_beq a k).1 hb).symm hk
   rw [this,if_neg hk];exact zblY a l es (i+1) h3
theorem keyOk_string {P:Program} {K:TypeId} (h:P.underlying K=some .string):KeyOk P K Value.string where
 check w e a n:=MapKept.run_checkKey (d:=.string) h (by simp [MapKept.IsKey]) e (n+7)
 find w a l es hl:=MapKept.run_findKey h (zblY a l es 0 hl)
 stays w a:=MapKept.run_keyThatStays (d:=.string) (by simp [MapKept.IsKey])
variable {w w':World} {b:Nat} {kc:α→Value} {vc:β→Value} {m:List (α × β)}
theorem zcmY (l:List (α × β)) (f:β→Value) (a:α) (i:Nat):alFind (l.map fun p=>(p.1,f p.2)) a i=(alFind l a i).map (fun p=>(p.1,f p.2)):=by
 induction l generalizing i with
 | nil=>rfl
 | cons p r ih=>obtain ⟨k,v⟩:=p;simp only [List.map_cons,alFind];split <;> simp [ih (i+1)]
theorem MapAt.found {P:Program} {K:TypeId} (h:MapAt w b kc vc m) (hK:KeyOk P K kc) (a:α):∃ es clock,w.heap[b]? = some (.map es clock)∧(Instr.findKey K (kc a) es.toList).run P w=.ok ((alFind m a 0).map (fun p=>(p.1,vc p.2))) w:=by
 obtain ⟨es,clock,h1,h2⟩:=h;refine ⟨es,clock,h1,?_⟩
 rw [← zcmY];exact hK.find w a es.toList (m.map fun p=>(p.1,vc p.2)) (by rw [h2,List.map_map];rfl)
theorem MapAt.look_ok {P:Program} {K T E:TypeId} (h:MapAt w b kc vc m) (hK:KeyOk P K kc) (hT:P.underlying T=some (.map K E)) (d:β) (hz:(zeroValue E).run P w=.ok (vc d) w) (a:α) :
  (Instr.lookup T (.map (some b)) (kc a) true).run P w=.ok (.tuple #[vc ((alGet m a).getD d),.bool (alGet m a).isSome]) w:=by
 obtain ⟨es,clock,h1,h2⟩:=h.found hK a;rw [alGet_find m a 0];cases hf:alFind m a 0 with
 | none =>
  rw [hf] at h2;simp [Instr.lookup,run_underlying hT,MapKept.run_getObj_map h1,hK.check w _ a 9992,h2,hz,Result.andThen]
 | some p =>
  rw [hf] at h2;simp [Instr.lookup,run_underlying hT,MapKept.run_getObj_map h1,hK.check w _ a 9992,h2,Result.andThen]
theorem alSet_find_none (l:List (α × β)) (a:α) (x:β):∀ i,alFind l a i=none→alSet l a x=l ++ [(a,x)]:=by
 induction l with
 | nil=>intro i _;rfl
 | cons p r ih =>
  obtain ⟨k,v⟩:=p;intro i h;unfold alFind at h;unfold alSet;split at h
  ·cases h
  ·rename_i hk
   rw [if_neg hk,ih (i+1) h];rfl
theorem alSet_find_some (l:List (α × β)) (a:α) (x:β):∀ i j v,alFind l a i=some (j,v)→i≤j∧l[j - i]? = some (a,v)∧alSet l a x=l.modify (j - i) (fun _=>(a,x)):=by
 induction l with
 | nil=>intro i j v h;cases h
 | cons p r ih =>
  obtain ⟨k,v0⟩:=p;intro i j v h;unfold alFind at h;unfold alSet;split at h
  ·rename_i hk
   simp only [Option.some.injEq,Prod.mk.injEq] at h;obtain ⟨rfl,rfl⟩:=h;subst hk;simp
  ·rename_i hk
   obtain ⟨h1,h2,h3⟩:=ih (i+1) j v h;have e:j - i=(j - (i+1))+1:=by omega
   rw [if_neg hk,h3,e];exact ⟨by omega,by simpa using h2,by simp⟩
theorem MapAt.store {P:Program} {K T E:TypeId} (h:MapAt w b kc vc m) (hK:KeyOk P K kc) (hT:P.underlying T=some (.map K E)) (a:α) (x:β) :
  ∃ w',(Instr.mapUpdate T (.map (some b)) (kc a) (vc x)).run P w=.ok () w'∧MapAt w' b kc vc (alSet m a x)∧w.grownBy w' (some b)∧w'.heap.size=w.heap.size∧w'.drawn=w.drawn:=by
 obtain ⟨es,clock,h1,h2⟩:=h;have hf:=hK.find w a es.toList (m.map fun p=>(p.1,vc p.2)) (by rw [h2,List.map_map];rfl);rw [zcmY] at hf;have hlt:=lt_of_block h1
 have hgrow:∀ o:Obj,w.grownBy { w with heap:=w.heap.setIfInBounds b o } (some b):=fun o =>
  ⟨rfl,rfl,rfl,by simp,fun k _ hne=>by
   show (w.heap.setIfInBounds b o)[k]? = _;rw [Array.getElem?_setIfInBounds_ne (fun e=>hne (by rw [e]))]⟩
 cases hfd:alFind m a 0 with
 | none =>
  rw [hfd] at hf;refine ⟨_,by simp [Instr.mapUpdate,run_underlying hT,MapKept.run_getObj_map h1,hK.check w _ a 9992,hf,MapKept.run_setObj_map _ h1,Result.andThen];rfl,?_,hgrow _,by simp,rfl⟩
  refine ⟨es.push { key:=kc a,val:=vc x,born:=clock },clock+1,by simp [hlt],?_⟩
  rw [alSet_find_none m a x 0 hfd];simp [h2]
 | some p =>
  obtain ⟨i,v⟩:=p;rw [hfd] at hf;obtain ⟨_,hi,hset⟩:=alSet_find_some m a x 0 i v hfd;simp only [Nat.sub_zero] at hi hset
  have hlen:i<es.size:=by
   have h3:i<m.length:=(List.getElem?_eq_some_iff.1 hi).1;have h4:=congrArg List.length h2;simp at h4
   omega
  have hkey:es[i].key=kc a:=by
   have h3:=congrArg (fun l=>l[i]?) h2;simp only [List.getElem?_map,hi] at h3;have h5:es.toList[i]? = some es[i]:=by simp [hlen]
   rw [h5] at h3;simp at h3
   exact h3.1
  refine ⟨_,by simp [Instr.mapUpdate,run_underlying hT,MapKept.run_getObj_map h1,hK.check w _ a 9992,hf,hlen,hkey,hK.stays,MapKept.run_setObj_map _ h1,Result.andThen];rfl,?_,hgrow _,by simp,rfl⟩
  refine ⟨_,clock,by simp [hlt];rfl,?_⟩
  rw [hset,Array.toList_modify];apply List.ext_getElem?
  intro j;have h3:=congrArg (fun l=>l[j]?) h2;simp only [List.getElem?_map] at h3;simp only [List.getElem?_map,List.getElem?_modify];by_cases hj:i=j
  ·subst hj
   simp [hlen,hi]
  ·simpa [if_neg hj] using h3
theorem wpList_look_ok {P:Program} {K T E:TypeId} {ops:Array Oper} {rest:List Oper} {o:Oper} {ac:Act} {Q:Exit→Act→World→Prop}
  (hg:Region.wanted o (yielded ops ac.tmps)=true) (mo xo:Operand) (hop:o.op=Op.lookup T mo xo true) (hK:KeyOk P K kc) (hT:P.underlying T=some (.map K E)) (d:β) (hz:(zeroValue E).run P w=.ok (vc d) w)
  (hm:ac.eval mo=.map (some b)) (a:α) (hx:ac.eval xo=kc a) (h:MapAt w b kc vc m)
  (hk:wpList P ops Q rest (ac.put o.dst (.tuple #[vc ((alGet m a).getD d),.bool (alGet m a).isSome])) w):wpList P ops Q (o :: rest) ac w:=by
 refine wpList_step fun K' hK'=>?_
 rw [if_pos hg];have hrun:=h.look_ok hK hT d hz a;unfold Oper.wp;simp [execOp,hop,hm,hx,hrun,Result.andThen]
 exact hK' _ _ hk
theorem zb5Y {P:Program} {K T E:TypeId} {ops:Array Oper} {rest:List Oper} {o:Oper} {ac:Act} {Q:Exit→Act→World→Prop}
  (hg:Region.wanted o (yielded ops ac.tmps)=true) (mo xo vo:Operand) (hop:o.op=Op.mapUpdate T mo xo vo) (hK:KeyOk P K kc) (hT:P.underlying T=some (.map K E))
  (hm:ac.eval mo=.map (some b)) (a:α) (hx:ac.eval xo=kc a) (x:β) (hv:ac.eval vo=vc x) (h:MapAt w b kc vc m)
  (hk:∀ w',MapAt w' b kc vc (alSet m a x)→w.grownBy w' (some b)→w'.heap.size=w.heap.size→wpList P ops Q rest (ac.put o.dst undef) w'):wpList P ops Q (o :: rest) ac w:=by
 refine wpList_step fun K' hK'=>?_
 rw [if_pos hg];obtain ⟨w',hrun,h1,h2,h3,_⟩:=h.store (x:=x) hK hT a;unfold Oper.wp;simp [execOp,hop,hm,hx,hv,hrun,Result.andThen]
 exact hK' _ _ (hk w' h1 h2 h3)
end
section
variable {w w':World} {base:Nat} {e:TypeId} {size n:Nat} {v:Value} {xs:List Value}
theorem zajZ (h:w.ownsRow base e size v n xs):∃ A cap,v=.slice A n cap:=by
 rcases h.2 with ⟨rfl,rfl⟩ | ⟨g,cap,cur,rfl,_⟩
 ·exact ⟨none,0,rfl⟩
 ·exact ⟨_,_,rfl⟩
theorem zagZ (h:w.ownsRow base e size v n xs) (hb:Below w.heap.size w w'):w'.ownsRow base e size v n xs:=by
 refine h.kept (row:=none) ⟨hb.os,hb.tape,hb.output,hb.size,fun k hk _=>hb.block k hk⟩ ?_
 rcases zajZ h with ⟨A,cap,rfl⟩
 cases A <;> simp [Value.ownBlock]
theorem zapY (w:World) (news:List Value) (t:TypeId):∀ j u,news[j]? = some u→(w.alloc (.cells news.toArray t)).cell? ((⟨w.heap.size,0,none⟩:Addr).add j)=some u:=by
 intro j u hj;rw [za6Y];have hh:=heap_alloc_new w (.cells news.toArray t);simp only [World.cell?,hh,Nat.zero_add,Option.isSome_none,Bool.false_eq_true,if_false];simpa using hj
theorem zafY {P:Program} {ops:Array Oper} {rest:List Oper} {o:Oper} {a:Act} {Q:Exit→Act→World→Prop} (hgd:o.guard=none) (s x:Operand) (t:TypeId)
  (ho:o.op=.call { callee:=.builtin .append,args:=#[s,x],argTypes:=#[t,t] })
  (i:TypeInfo) (z:Value) (bytes:Nat) (ht:P.underlying t=some (.slice e)) (hi:P.info? e=some i) (hz:i.zero=some z)
  (hsize:i.size=size) (hby:i.bytes=bytes) (hzs:z.cells.size=size) (hsz:0<size)
  (hs:a.eval s=v) (hown:w.ownsRow base e size v n xs) (news:List Value) (hx:a.eval x=.slice (some ⟨w.heap.size,0,none⟩) 1 1)
  (hl:news.length=size) (h1:∀ u∈news,u.oneCell'=true) (hn:n≤1000000) (hb:bytes≤1000) (hbase:base≤w.heap.size)
  (hk:∀ v' w',w'.ownsRow base e size v' (n+1) (xs ++ news)→Below base w w'→w.heap.size≤w'.heap.size→w.grownBy w' v.ownBlock→wpList P ops Q rest (a.put o.dst v') w') :
  wpList P ops Q (o :: rest) a (w.alloc (.cells news.toArray e)):=by
 refine wpList_append_own _ hgd s x t ho base e i z size bytes ht hi hz hsize hby hzs hsz v n xs hs (hown.alloc _) ⟨w.heap.size,0,none⟩ 1 1 news hx (by omega) (zapY w news e) h1 (by unfold maxLen;omega) ?_ (by simp;omega) ?_
 ·have:(n+1) * bytes≤1000001 * 1000:=Nat.mul_le_mul (by omega) hb
  omega
 ·intro v' w' hown' hg _
  have hg':w.grownBy w' v.ownBlock:=(World.grownBy_alloc w _ _).trans hg;refine hk v' w' hown' ((Below.refl _ _).grown hg' hbase ?_) hg'.size hg'
  intro k hkk;exact (hown.lt k hkk).1
end
section
variable {α β:Type} [DecidableEq α] {w w':World} {b:Nat} {kc:α→Value} {vc:β→Value} {m:List (α × β)}
theorem zarY {P:Program} {K T E:TypeId} {ops:Array Oper} {rest:List Oper} {o:Oper} {ac:Act} {Q:Exit→Act→World→Prop}
  (hg:Region.wanted o (yielded ops ac.tmps)=true) (mo xo:Operand) (hop:o.op=Op.lookup T mo xo true) (hK:KeyOk P K kc) (hT:P.underlying T=some (.map K E)) (d:β) (hz:(zeroValue E).run P w=.ok (vc d) w)
  (hm:ac.eval mo=.map (some b)) (a:α) (hx:ac.eval xo=kc a) (h:MapAt w b kc vc m) (r:Option β) (hr:alGet m a=r) (v:Value) (hv:vc (r.getD d)=v) (ok:Bool) (hok:r.isSome=ok)
  (hk:wpList P ops Q rest (ac.put o.dst (.tuple #[v,.bool ok])) w):wpList P ops Q (o :: rest) ac w:=by
 subst hr;subst hv;subst hok;exact wpList_look_ok hg mo xo hop hK hT d hz hm a hx h hk
omit [DecidableEq α] in
theorem zbhY {base:Nat} {e:TypeId} {size n:Nat} {v:Value} {xs:List Value} (h:w.ownsRow base e size v n xs) (hm:MapAt w b kc vc m):some b≠v.ownBlock:=by
 intro he;obtain ⟨es,clock,h1,_⟩:=hm;rcases h.2 with ⟨rfl,_⟩ | ⟨g,cap,cur,rfl,_,hh,_⟩
 ·cases he
 ·have:b=g:=by simpa [Value.ownBlock] using he
  subst this;rw [h1] at hh;cases hh
theorem own_grown {base:Nat} {e:TypeId} {size n:Nat} {v:Value} {xs:List Value} (h:w.ownsRow base e size v n xs) {row:Option Nat} (hg:w.grownBy w' row) (hne:∀ k,row=some k→some k≠v.ownBlock):w'.ownsRow base e size v n xs:=by
 refine h.kept hg ?_
 rcases row with _ | k
 ·rcases zajZ h with ⟨A,cap,rfl⟩
  cases A <;> simp [Value.ownBlock]
 ·exact .inr (fun e=>hne k rfl e.symm)
end
theorem zalZ {α:Type} {g:Nat} {w:World} {sz:Nat} {c:α→List Value} (hg:g=w.heap.size) (cs:Array Value) (t:TypeId) (l:List α) (hx:cs.toList=l.flatMap c) (hc:∀ a,(c a).length=sz) (hsz:0<sz) (hl:l.length≤maxLen) :
  SlAt (w.alloc (.cells cs t)) (some ⟨g,0,none⟩) sz c l:=by
 subst hg
 have hlen:cs.toList.length=l.length * sz:=by
  rw [hx];clear hx hl;induction l with
  | nil=>simp
  | cons a r ih=>rw [List.flatMap_cons,List.length_append,hc,ih,List.length_cons,Nat.succ_mul];omega
 have h:(w.alloc (.cells cs t)).ownsRow 0 t sz (.slice (some ⟨w.heap.size,0,none⟩) l.length l.length) l.length cs.toList :=
  ⟨hlen,.inr ⟨w.heap.size,l.length,cs,rfl,Nat.zero_le _,heap_alloc_new w _,Nat.le_refl _,hl,by simpa using hlen,by rw [← hlen];exact List.take_length⟩⟩
 exact SlAt.of_own h hx hc hsz
def Blk (w:World) (g:Nat) (t:TypeId) (cs:Array Value):Prop:=w.heap[g]? = some (.cells cs t (0,0))
section
variable {w w':World} {g:Nat} {t:TypeId} {cs:Array Value}
theorem Blk.lt (h:Blk w g t cs):g<w.heap.size:=lt_of_block h
theorem Blk.cell (h:Blk w g t cs) (i:Nat) (v:Value) (hv:cs[i]? = some v):w.cell? ⟨g,i,none⟩=some v:=(cell_of_row w g i cs t (0,0) h).trans hv
theorem Blk.frozen (h:Blk w g t cs) (i:Nat):w.frozen? ⟨g,i,none⟩=false:=by
 unfold Blk at h;simp [World.frozen?,h]
theorem Blk.new (w:World) (t:TypeId) (cs:Array Value):Blk (w.alloc (.cells cs t)) w.heap.size t cs:=heap_alloc_new w _
theorem Blk.new' {w:World} {g:Nat} {t:TypeId} {cs:Array Value} (h:g=w.heap.size):Blk (w.alloc (.cells cs t)) g t cs:=by rw [h];exact Blk.new w t cs
theorem Blk.drew (h:Blk w g t cs):Blk w.drew g t cs:=h
theorem Blk.drewN (h:Blk w g t cs) (n:Nat):Blk (w.drewN n) g t cs:=h
theorem Blk.alloc (h:Blk w g t cs) (o:Obj):Blk (w.alloc o) g t cs:=(Below.heap_alloc w o g h.lt).trans h
theorem Blk.below (h:Blk w g t cs) (hb:Below w.heap.size w w'):Blk w' g t cs:=(hb.block g h.lt).trans h
theorem Blk.grown {row:Option Nat} (h:Blk w g t cs) (hb:w.grownBy w' row) (hg:some g≠row):Blk w' g t cs:=(hb.block g h.lt hg).trans h
theorem Blk.set_ (h:Blk w g t cs) (i:Nat) (u:Value):Blk (w.setCell ⟨g,i,none⟩ u) g t (cs.setIfInBounds i u):=by
 unfold Blk at h ⊢;simp [World.setCell,Array.getElem?_modify,h]
theorem Blk.far (h:Blk w g t cs) {p:Addr} (hp:g≠p.block) (u:Value):Blk (w.setCell p u) g t cs:=(Below.heap_setCell w p u g hp).trans h
theorem Blk.ne_map {α β:Type} {kc:α→Value} {vc:β→Value} {m:List (α × β)} {b:Nat} (h:Blk w g t cs) (hm:MapAt w b kc vc m):some g≠some b:=by
 intro he;obtain ⟨es,clock,h1,_⟩:=hm;cases he
 unfold Blk at h;rw [h] at h1;cases h1
end
theorem zafZ {w:World} {base:Nat} {e t:TypeId} {size n g:Nat} {v:Value} {xs:List Value} {cs:Array Value} (h:w.ownsRow base e size v n xs) (hb:Blk w g t cs) (hne:e≠t):some g≠v.ownBlock:=by
 intro he;rcases h.2 with ⟨rfl,_⟩ | ⟨g',cap,cur,rfl,_,hh,_⟩
 ·cases he
 ·have:g=g':=by simpa [Value.ownBlock] using he
  subst this;unfold Blk at hb;rw [hb] at hh;injection hh with hh
  injection hh with _ ht
  exact hne ht.symm
end
def RowsV {α:Type} (lim sz:Nat) (R:World→List Value→α→Prop) (w:World) (v:Value) (l:List α):Prop :=
 ∃ (A:Option Addr) (cap:Nat) (rows:List (List Value)),v=.slice A l.length cap∧l.length≤cap∧l.length≤lim∧SlAt w A sz (fun r=>r) rows∧rows.length=l.length∧∀ i (h:i<rows.length) (h':i<l.length),R w rows[i] l[i]
def Stays2 {α β:Type} (R:World→α→β→Prop):Prop:=∀ w w' a b,R w a b→Below w.heap.size w w'→R w' a b
theorem RowsV.below {α:Type} {lim sz:Nat} {R:World→List Value→α→Prop} (hR:Stays2 R) {w w':World} {v:Value} {l:List α} (h:RowsV lim sz R w v l) (hb:Below w.heap.size w w'):RowsV lim sz R w' v l:=by
 obtain ⟨A,cap,rows,h1,h2,h3,h4,h5,h6⟩:=h;exact ⟨A,cap,rows,h1,h2,h3,h4.below hb,h5,fun i h h'=>hR _ _ _ _ (h6 i h h') hb⟩
theorem zahY {α:Type} {lim sz:Nat} {R:World→List Value→α→Prop} (hR:Stays2 R):Stays2 (RowsV lim sz R):=fun _ _ _ _ h hb=>h.below hR hb
theorem RowsV.nil {α:Type} {lim sz:Nat} {R:World→List Value→α→Prop} {w:World} (A:Option Addr) (cap:Nat):RowsV lim sz R w (.slice A 0 cap) ([]:List α) :=
 ⟨A,cap,[],rfl,Nat.zero_le _,by simp,SlAt.nil,rfl,fun i h=>absurd h (by simp)⟩
structure CellD where
 kind:Int
 int:Int
 str:ByteArray
 n:Int
def CellD.cells (c:CellD):List Value:=[.int .i64 c.kind,.int .i64 c.int,.string c.str,.int .i64 c.n]
abbrev ValD:=List CellD
structure FrameD where
 func:Int
 pc:Int
 locals:List ValD
 stack:List ValD
structure ReqD where
 op:ByteArray
 args:List ValD
instance:DecidableEq CellD:=fun a b =>
 if h:a.kind=b.kind∧a.int=b.int∧a.str=b.str∧a.n=b.n then isTrue (by cases a;cases b;simp_all) else isFalse (fun e=>h (by subst e;simp))
instance:DecidableEq FrameD:=fun a b =>
 if h:a.func=b.func∧a.pc=b.pc∧a.locals=b.locals∧a.stack=b.stack then isTrue (by cases a;cases b;simp_all) else isFalse (fun e=>h (by subst e;simp))
instance:DecidableEq ReqD:=fun a b =>
 if h:a.op=b.op∧a.args=b.args then isTrue (by cases a;cases b;simp_all) else isFalse (fun e=>h (by subst e;simp))
def letB (b:UInt8):Bool:=(decide (97≤b.toNat) && decide (b.toNat≤122)) || decide (b.toNat=95)
def digB (b:UInt8):Bool:=decide (48≤b.toNat) && decide (b.toNat≤57)
def wrdB (b:UInt8):Bool:=letB b || digB b
def kwL:List (List UInt8):=[[102,117,110,99],[108,101,116],[105,102],[101,108,115,101],[119,104,105,108,101],[114,101,116,117,114,110],[97,110,100],[111,114],[110,111,116],[110,117,108,108],[116,114,117,101],[102,97,108,115,101]]
def kwB (s:ByteArray):Bool:=kwL.any fun k=>s.toList == k
def Whole (s:ByteArray):Prop:=0<s.size∧(∀ h:0<s.size,letB s[0]=true)∧∀ i (h:i<s.size),wrdB s[i]=true
def RunAt (s:ByteArray) (n:Nat):Prop:=n≤s.size∧(∀ i (h:i<s.size),i<n→wrdB s[i]=true)∧(0<n→∀ h:0<s.size,letB s[0]=true)∧(∀ h:n<s.size,(n=0→letB s[n]=false)∧(0<n→wrdB s[n]=false))
def NameOk (s:ByteArray):Prop:=Whole s∧s.size≤24∧kwB s=false
theorem RunAt.whole {s:ByteArray} {n:Nat} (h:RunAt s n) (h0:0<s.size):n=s.size↔Whole s:=by
 obtain ⟨h1,h2,h3,h4⟩:=h;constructor
 ·intro e
  exact ⟨h0,fun h=>h3 (by omega) h,fun i hi=>h2 i hi (by omega)⟩
 ·rintro ⟨_,w1,w2⟩
  by_cases hlt:n<s.size
  ·obtain ⟨a,b⟩:=h4 hlt
   by_cases hn:n=0
   ·subst hn
    have:=a rfl
    rw [w1 h0] at this;cases this
   ·have:=b (by omega)
    rw [w2 n hlt] at this;cases this
  ·omega
theorem let_wrd {b:UInt8} (h:letB b=true):wrdB b=true:=by unfold wrdB;rw [h];rfl
theorem RunAt.zero {s:ByteArray}:RunAt s 0→∀ h:0<s.size,letB s[0]=false:=fun h h0=>(h.2.2.2 h0).1 rfl
theorem RunAt.unique {s:ByteArray} {a b:Nat} (ha:RunAt s a) (hb:RunAt s b):a=b:=by
 have key:∀ {a b:Nat},RunAt s a→RunAt s b→¬ a<b:=by
  intro a b ha hb hlt;have hs:a<s.size:=by have:=hb.1;omega
  obtain ⟨p,q⟩:=ha.2.2.2 hs;by_cases h0:a=0
  ·subst h0
   have:=hb.2.2.1 hlt hs
   rw [p rfl] at this;cases this
  ·have:=hb.2.1 a hs hlt
   rw [q (by omega)] at this;cases this
 have h1:=key ha hb;have h2:=key hb ha;omega
theorem zavY (b:UInt8):wrap32 (b.toNat:Int)=b.toNat:=by
 have:b.toNat<256:=UInt8.toNat_lt b
 unfold wrap32;omega
end Go.Proofs.YthiimbhjpdphpaaGreatDoor
