/- P3, PM, P4, P5, PA -/
import Derived.Test.YthiimbhjpdphpaaGreatDoorPP2
set_option linter.unusedVariables false
set_option linter.unusedSimpArgs false
namespace Go.Proofs.YthiimbhjpdphpaaGreatDoor
section
open Go.RowKit
/-- The first node of function k. -/
def startF (fs:List FuncD):Nat→Nat
 | 0=>0
 | k+1=>(fs.getD k noFunc).body.toNat+1
theorem orderedF_at {l:List NodeD}:∀ (fs:List FuncD) (s e:Nat),orderedF l fs s=some e→(∀ k,(h:k<fs.length)→funcB l fs[k] (if k=0 then s else startF fs k)=true)∧e=if fs.length=0 then s else startF fs fs.length:=by
 intro fs
 induction fs with
 | nil=>intro s e h;simp only [orderedF,Option.some.injEq] at h;exact ⟨fun k h=>by simp at h,by simp [h]⟩
 | cons f r ih =>
  intro s e h
  simp only [orderedF] at h
  split at h
  ·rename_i hf
   obtain ⟨h1,h2⟩:=ih _ _ h
   have hst:∀ k,(if k=0 then f.body.toNat+1 else startF r k)=startF (f :: r) (k+1):=by
    intro k
    cases k with
    | zero=>simp [startF]
    | succ k=>simp [startF]
   refine ⟨fun k hk=>?_,?_⟩
   ·cases k with
    | zero=>simpa using hf
    | succ k =>
     have:=h1 k (by simpa using hk)
     rw [hst] at this
     simpa using this
   ·rw [if_neg (by simp),h2]
    have:=hst r.length
    cases hr:r.length with
    | zero=>rw [hr] at this;simpa [hr] using this
    | succ n=>rw [hr] at this;simpa [hr] using this
  ·cases h
/-- What a program without errors of syntax shows. -/
structure SynOk (p:ProgD):Prop where
 nodes:p.nodes.length≤600
 funcs:p.funcs.length≤16
 at_:∀ k,(h:k<p.funcs.length)→funcB p.nodes p.funcs[k] (startF p.funcs k)=true
 fin:p.nodes.length=startF p.funcs p.funcs.length
 params:∀ f∈p.funcs,f.params.length≤8
theorem synF_ok {p:ProgD} (h:synF p=0):SynOk p:=by
 unfold synF at h
 split at h
 ·cases h
 ·rename_i h1
  split at h
  ·cases h
  ·rename_i h2
   split at h
   ·cases h
   ·rename_i h3
    have h4:orderedB p=true:=by simpa using h2
    obtain ⟨h5,h6⟩:=orderedF_at _ _ _ (of_decide_eq_true h4)
    refine ⟨by omega,by omega,fun k hk=>?_,?_,fun f hf=>?_⟩
    ·have:=h5 k hk
     cases k with
     | zero=>simpa [startF] using this
     | succ k=>simpa using this
    ·rw [h6]
     cases hl:p.funcs.length with
     | zero=>simp [startF]
     | succ n=>simp
    ·simp only [not_or,List.any_eq_true,decide_eq_true_eq,not_exists,not_and] at h3
     have:=h3.1 f hf
     omega
structure FuncOk (l:List NodeD) (f:FuncD) (s:Nat) (b:Nat):Prop where
 body:f.body=(b:Int)
 lt:b<l.length
 block:(l.getD b noNode).kind=19
 first:firstF l 600 b=some s
 name:nameB f.name=true
 params:f.params.all nameB=true
theorem funcB_ok {l:List NodeD} {f:FuncD} {s:Nat} (h:funcB l f s=true):∃ b,FuncOk l f s b:=by
 unfold funcB at h
 simp only [Bool.and_eq_true,decide_eq_true_eq] at h
 obtain ⟨⟨h1,h2⟩,h3,h4,h5,h6⟩:=h
 have:f.body=(f.body.toNat:Int):=by omega
 exact ⟨f.body.toNat,this,by omega,h5,h6,h1,h2⟩
theorem getD_at {α:Type} {l:List α} {k:Nat} (h:k<l.length) (d:α):l.getD k d=l[k]:=by
 simp [List.getD_eq_getElem?_getD,h]
theorem SynOk.func {p:ProgD} (h:SynOk p) {k:Nat} (hk:k<p.funcs.length):∃ b,FuncOk p.nodes p.funcs[k] (startF p.funcs k) b∧startF p.funcs (k+1)=b+1∧(p.funcs.getD k noFunc).body.toNat=b:=by
 obtain ⟨b,hb⟩:=funcB_ok (h.at_ k hk)
 refine ⟨b,hb,?_,?_⟩
 ·simp only [startF]
  rw [getD_at hk,hb.body]
  simp
 ·rw [getD_at hk,hb.body]
  simp
theorem SynOk.seg {p:ProgD} (h:SynOk p) (sl:List Int) {k:Nat} (hk:k<p.funcs.length) (b:Int):(funcSeg p sl k b).length≤6 * (startF p.funcs (k+1) - startF p.funcs k)+2∧startF p.funcs k<startF p.funcs (k+1):=by
 obtain ⟨m,hm,h1,h2⟩:=h.func hk
 have:=seg_bd p sl _ _ _ b hm.first
 have:=first_le hm.first
 unfold funcSeg
 rw [h2,h1]
 simp only [List.length_append,List.length_cons,List.length_nil]
 omega
theorem SynOk.all_bd {p:ProgD} (h:SynOk p) (sl:List Int):∀ k,k≤p.funcs.length→(allSeg p sl k).length≤6 * startF p.funcs k+2 * k:=by
 intro k
 induction k with
 | zero=>intro _;simp [allSeg]
 | succ k ih =>
  intro hk
  have h1:=ih (by omega)
  have h2:=h.seg sl (k:=k) (by omega) ((allSeg p sl k).length)
  simp only [allSeg,List.length_append]
  omega
theorem SynOk.start_le {p:ProgD} (h:SynOk p):∀ k,k≤p.funcs.length→startF p.funcs k≤p.nodes.length:=by
 intro k hk
 cases k with
 | zero=>simp [startF]
 | succ k =>
  obtain ⟨b,hb,h1,_⟩:=h.func (k:=k) (by omega)
  have:=hb.lt
  omega
theorem SynOk.all_le {p:ProgD} (h:SynOk p) (sl:List Int) {k:Nat} (hk:k≤p.funcs.length):(allSeg p sl k).length≤3632:=by
 have:=h.all_bd sl k hk
 have:=h.start_le k hk
 have:=h.nodes
 have:=h.funcs
 omega
/-- The functions of the code. -/
def fnAt (p:ProgD) (sl lo:List Int) (k:Nat):FnD:=⟨(p.funcs.getD k noFunc).name,(p.funcs.getD k noFunc).params.length,lo.getD k 0,((allSeg p sl k).length:Nat),((allSeg p sl (k+1)).length:Nat)⟩
def codeP (p:ProgD) (sl lo:List Int):CodeD:=⟨(List.range p.funcs.length).map (fnAt p sl lo),allSeg p sl p.funcs.length⟩
def noCode:CodeD:=⟨[],[]⟩
/-- compile.Program -/
def ProgR (p:ProgD) (c:CodeD) (e:Int):Prop :=
 ((studyF p).err≠0∧c=noCode∧e=(studyF p).err) ∨
 ((studyF p).err=0∧∃ R,CodeR (codeP p (studyF p).slots (studyF p).locals) R∧((R.2≠0∧c=noCode∧e=R.2)∨(R.2=0∧c=codeP p (studyF p).slots (studyF p).locals∧e=0)))
theorem ProgR.det {p:ProgD} {c d:CodeD} {e f:Int} (h:ProgR p c e) (g:ProgR p d f):c=d∧e=f:=by
 rcases h with ⟨h1,rfl,rfl⟩ | ⟨h1,R,h2,h3⟩ <;> rcases g with ⟨g1,rfl,rfl⟩ | ⟨g1,S,g2,g3⟩
 ·exact ⟨rfl,rfl⟩
 ·exact absurd g1 h1
 ·exact absurd h1 g1
 ·have:=h2.det g2
  subst this
  rcases h3 with ⟨h4,rfl,rfl⟩ | ⟨h4,rfl,rfl⟩ <;> rcases g3 with ⟨g4,rfl,rfl⟩ | ⟨g4,rfl,rfl⟩
  ·exact ⟨rfl,rfl⟩
  ·exact absurd g4 h4
  ·exact absurd h4 g4
  ·exact ⟨rfl,rfl⟩
end
section
open Go.RowKit
theorem map_eraseIdx {α β:Type} (f:α→β):∀ (l:List α) (i:Nat),(l.map f).eraseIdx i=(l.eraseIdx i).map f
 | [],_=>rfl
 | _ :: _,0=>rfl
 | a :: r,i+1=>by simp only [List.map_cons,List.eraseIdx_cons_succ,map_eraseIdx f r i]
section
variable {α β:Type} [DecidableEq α] {w w':World} {b:Nat} {kc:α→Value} {vc:β→Value} {m:List (α × β)}
theorem alDel_none (l:List (α × β)) (a:α):∀ i,alFind l a i=none→alDel l a=l:=by
 induction l with
 | nil=>intro i _;rfl
 | cons q r ih =>
  intro i h
  obtain ⟨k,v⟩:=q
  unfold alFind at h
  split at h
  ·cases h
  ·rename_i hk
   unfold alDel at ih ⊢
   rw [List.eraseP_cons_of_neg (by simpa using hk),ih _ h]
theorem alDel_some (l:List (α × β)) (a:α):∀ i j v,alFind l a i=some (j,v)→i≤j∧j - i<l.length∧alDel l a=l.eraseIdx (j - i):=by
 induction l with
 | nil=>intro i j v h;cases h
 | cons q r ih =>
  intro i j v h
  obtain ⟨k,x⟩:=q
  unfold alFind at h
  split at h
  ·rename_i hk
   simp only [Option.some.injEq,Prod.mk.injEq] at h
   obtain ⟨rfl,rfl⟩:=h
   refine ⟨Nat.le_refl _,by simp,?_⟩
   unfold alDel
   rw [List.eraseP_cons_of_pos (by simpa using hk)]
   simp
  ·rename_i hk
   obtain ⟨h1,h2,h3⟩:=ih _ _ _ h
   refine ⟨by omega,by simp only [List.length_cons];omega,?_⟩
   unfold alDel at h3 ⊢
   rw [List.eraseP_cons_of_neg (by simpa using hk),h3,show j - i=(j - (i+1))+1 by omega,List.eraseIdx_cons_succ]
/-- What delete(m, k) does: one block turns. -/
theorem MapAt.del {P:Program} {K T E ty:TypeId} (h:MapAt w b kc vc m) (hK:KeyOk P K kc) (hT:P.underlying T=some (.map K E)) (a:α) :
  ∃ w',(Builtin.delete_ #[T,K] ty #[.map (some b),kc a]).run P w=.ok (.tuple #[]) w'∧MapAt w' b kc vc (alDel m a)∧w.grownBy w' (some b)∧w'.heap.size=w.heap.size:=by
 obtain ⟨es,clock,h1,h2⟩:=h
 have hf:=hK.find w a es.toList (m.map fun p=>(p.1,vc p.2)) (by rw [h2,List.map_map];rfl)
 rw [alFind_map] at hf
 have hlt:=lt_of_block h1
 have hgrow:∀ o:Obj,w.grownBy { w with heap:=w.heap.setIfInBounds b o } (some b):=fun o =>
  ⟨rfl,rfl,rfl,by simp,fun k _ hne=>by
   show (w.heap.setIfInBounds b o)[k]? = _
   rw [Array.getElem?_setIfInBounds_ne (fun e=>hne (by rw [e]))]⟩
 cases hfd:alFind m a 0 with
 | none =>
  rw [hfd] at hf
  refine ⟨_,by simp [Builtin.delete_,run_underlying hT,MapKept.run_getObj_map h1,hK.check w _ a 9992,hf,MapKept.run_setObj_map _ h1,Result.andThen];rfl,?_,hgrow _,by simp⟩
  refine ⟨es,clock,by simp [hlt],?_⟩
  rw [alDel_none m a 0 hfd]
  exact h2
 | some q =>
  obtain ⟨i,v⟩:=q
  rw [hfd] at hf
  obtain ⟨_,hi,hdel⟩:=alDel_some m a 0 i v hfd
  simp only [Nat.sub_zero] at hi hdel
  have hlen:i<es.size:=by
   have h4:=congrArg List.length h2
   simp at h4
   omega
  refine ⟨_,by simp [Builtin.delete_,run_underlying hT,MapKept.run_getObj_map h1,hK.check w _ a 9992,hf,MapKept.run_setObj_map _ h1,Result.andThen];rfl,?_,hgrow _,by simp⟩
  refine ⟨es.eraseIdxIfInBounds i,clock,by simp [hlt],?_⟩
  rw [hdel]
  unfold Array.eraseIdxIfInBounds
  rw [dif_pos hlen,Array.toList_eraseIdx]
  have h4:=congrArg (fun l=>l.eraseIdx i) h2
  simp only [map_eraseIdx] at h4
  exact h4
end
/-- Only the blocks of a list may be turned. -/
structure GL (L:List Nat) (w w':World):Prop where
 os:w'.os=w.os
 tape:w'.tape=w.tape
 output:w'.output=w.output
 size:w.heap.size≤w'.heap.size
 block:∀ j,j<w.heap.size→j ∉ L→w'.heap[j]? = w.heap[j]?
theorem GL.refl (L:List Nat) (w:World):GL L w w:=⟨rfl,rfl,rfl,Nat.le_refl _,fun _ _ _=>rfl⟩
theorem GL.trans {L:List Nat} {a b c:World} (h:GL L a b) (g:GL L b c):GL L a c :=
 ⟨g.os.trans h.os,g.tape.trans h.tape,g.output.trans h.output,Nat.le_trans h.size g.size,fun j hj hn=>(g.block j (Nat.lt_of_lt_of_le hj h.size) hn).trans (h.block j hj hn)⟩
theorem GL.of_below {L:List Nat} {w w':World} (h:Below w.heap.size w w'):GL L w w':=⟨h.os,h.tape,h.output,h.size,fun j hj _=>h.block j hj⟩
theorem GL.below_tr {L:List Nat} {a b c:World} (h:GL L a b) (g:Below b.heap.size b c):GL L a c:=h.trans (.of_below g)
theorem GL.grown {L:List Nat} {a b c:World} {g:Nat} (h:GL L a b) (k:b.grownBy c (some g)) (hg:g∈L):GL L a c :=
 h.trans ⟨k.os,k.tape,k.output,k.size,fun j hj hn=>k.block j hj (fun e=>hn (by injection e with e;subst e;exact hg))⟩
theorem GL.setCell {L:List Nat} {a b:World} {g:Nat} (h:GL L a b) (hg:g∈L) (i:Nat) (u:Value):GL L a (b.setCell ⟨g,i,none⟩ u) :=
 h.trans ⟨rfl,rfl,rfl,by simp,fun j hj hn=>Below.heap_setCell b _ u j (fun e=>hn (by have:j=g:=e;subst this;exact hg))⟩
theorem GL.bel {L:List Nat} {base:Nat} {w0 w w':World} (h:GL L w w') (hb:Below base w0 w) (hs:base≤w.heap.size) (hL:∀ g∈L,base≤g):Below base w0 w' :=
 hb.trans ⟨h.os,h.tape,h.output,h.size,fun j hj=>h.block j (Nat.lt_of_lt_of_le hj hs) (fun hm=>by have:=hL j hm;omega)⟩
theorem GL.blk {L:List Nat} {w w':World} {g:Nat} {t:TypeId} {cs:Array Value} (h:GL L w w') (hB:Blk w g t cs) (hg:g ∉ L):Blk w' g t cs:=(h.block g hB.lt hg).trans hB
theorem GL.own {L:List Nat} {w w':World} (h:GL L w w') {base:Nat} {e:TypeId} {size n:Nat} {v:Value} {xs:List Value} (ho:w.ownsRow base e size v n xs) (h2:∀ g,v.ownBlock=some g→g ∉ L):w'.ownsRow base e size v n xs:=by
 obtain ⟨e1,e2⟩:=ho
 refine ⟨e1,e2.imp id (fun ⟨g,cap,cur,ev,eg,eh,e4⟩=>⟨g,cap,cur,ev,eg,?_,e4⟩)⟩
 subst ev
 exact (h.block g (lt_of_block eh) (h2 g rfl)).trans eh
end
section
open Go.RowKit
structure WInv (c:Nat) (S T:ScD):Prop where
 slots:T.slots.length=S.slots.length
 errs:T.errs.length=S.errs.length
 lo:S.next≤T.next
 hi:T.next≤S.next+c
theorem WInv.refl (S:ScD):WInv 0 S S:=⟨rfl,rfl,Int.le_refl _,by simp⟩
theorem WInv.trans {a b:Nat} {S T U:ScD} (h:WInv a S T) (g:WInv b T U):WInv (a+b) S U :=
 ⟨g.slots.trans h.slots,g.errs.trans h.errs,Int.le_trans h.lo g.lo,by have:=h.hi;have:=g.hi;omega⟩
theorem WInv.mono {a b:Nat} {S T:ScD} (h:WInv a S T) (hab:a≤b):WInv b S T:=⟨h.slots,h.errs,h.lo,by have:=h.hi;omega⟩
theorem letF_inv (S:ScD) (i:Nat) (s:ByteArray):WInv 1 S (letF S i s):=by
 unfold letF
 split
 ·exact ⟨by simp,by simp,by show S.next≤S.next+1;omega,by show S.next+1≤S.next+(1:Nat);omega⟩
 ·split
  ·exact ⟨by simp,by simp,by show S.next≤S.next+1;omega,by show S.next+1≤S.next+(1:Nat);omega⟩
  ·exact ⟨by simp,rfl,by show S.next≤S.next+1;omega,by show S.next+1≤S.next+(1:Nat);omega⟩
theorem endF_inv (p:ProgD) (n:NodeD) (i:Nat) (S:ScD):WInv 1 S (endF p n i S):=by
 unfold endF
 split
 ·split
  ·exact ⟨by simp,rfl,Int.le_refl _,by show S.next≤S.next+(1:Nat);omega⟩
  ·exact ⟨rfl,by simp,Int.le_refl _,by show S.next≤S.next+(1:Nat);omega⟩
 ·split
  ·exact letF_inv S i n.text
  ·split
   ·exact ⟨rfl,by simp,Int.le_refl _,by show S.next≤S.next+(1:Nat);omega⟩
   ·split
    ·split
     ·exact (WInv.refl S).mono (by omega)
     ·exact ⟨rfl,by simp,Int.le_refl _,by show S.next≤S.next+(1:Nat);omega⟩
    ·exact (WInv.refl S).mono (by omega)
theorem foldl_inv {p:ProgD} {f:Nat} (hr:∀ i s S,firstF p.nodes f i=some s→WInv (i+1 - s) S (walkF p f i S)) {r:List Int} {s e:Nat} (h:Cover p.nodes f r s e):∀ S,WInv (e - s) S (r.foldl (fun S k=>walkF p f k.toNat S) S):=by
 induction h with
 | nil s=>intro S;exact (WInv.refl S).mono (by omega)
 | cons r s m e h1 h2 ih =>
  intro S
  have q1:=first_le h1
  have q2:=h2.le'
  simp only [List.foldl_cons,Int.toNat_natCast]
  exact ((hr m s S h1).trans (ih _)).mono (by omega)
theorem block_inv {p:ProgD} {f:Nat} (hr:∀ i s S,firstF p.nodes f i=some s→WInv (i+1 - s) S (walkF p f i S)) {r:List Int} {s e:Nat} (h:Cover p.nodes f r s e):∀ S d,WInv (e - s) S (blockF p (walkF p f) r S d).1:=by
 induction h with
 | nil s=>intro S d;exact (WInv.refl S).mono (by omega)
 | cons r s m e h1 h2 ih =>
  intro S d
  have q1:=first_le h1
  have q2:=h2.le'
  simp only [blockF,Int.toNat_natCast]
  exact ((hr m s S h1).trans (ih _ _)).mono (by omega)
theorem walk_inv (p:ProgD):∀ f i s S,firstF p.nodes f i=some s→WInv (i+1 - s) S (walkF p f i S):=by
 intro f
 induction f with
 | zero=>intro i s S h;cases h
 | succ f ih =>
  intro i s S h
  have T:=first_tree h
  have hs:=first_le h
  simp only [walkF]
  split
  ·have hb:=(block_inv ih T.cover S []).mono (show i - s≤i+1 - s by omega)
   exact ⟨hb.slots,hb.errs,hb.lo,hb.hi⟩
  ·exact ((foldl_inv ih T.cover S).trans (endF_inv p _ i _)).mono (by omega)
theorem startS_next (p:ProgD) (f:FuncD) (sl er:List Int):(startS p f sl er).next=f.params.length:=rfl
/-- The walk through function k. -/
def walkK (p:ProgD) (k:Nat) (sl er:List Int):ScD:=walkF p 600 (p.funcs.getD k noFunc).body.toNat (startS p (p.funcs.getD k noFunc) sl er)
theorem SynOk.walk {p:ProgD} (h:SynOk p) {k:Nat} (hk:k<p.funcs.length) (sl er:List Int):(walkK p k sl er).slots.length=sl.length∧(walkK p k sl er).errs.length=er.length∧0≤(walkK p k sl er).next∧(walkK p k sl er).next≤608:=by
 obtain ⟨b,hb,h1,h2⟩:=h.func hk
 have h3:=walk_inv p _ _ _ (startS p (p.funcs.getD k noFunc) sl er) hb.first
 have h4:=h.params _ (List.getElem_mem hk)
 have h5:=h.nodes
 have h6:=hb.lt
 have e:(startS p (p.funcs.getD k noFunc) sl er).next=((p.funcs[k]).params.length:Nat):=by rw [getD_at hk];rfl
 unfold walkK
 rw [h2]
 have h7:=h3.hi
 have h8:=h3.lo
 rw [e] at h7 h8
 exact ⟨h3.slots,h3.errs,by omega,by omega⟩
/-- What study has found behind the first k functions. -/
def stepK (p:ProgD):Nat→List Int × List Int × List Int
 | 0=>(List.replicate p.nodes.length (-1),List.replicate p.nodes.length 0,[])
 | k+1=>((walkK p k (stepK p k).1 (stepK p k).2.1).slots,(walkK p k (stepK p k).1 (stepK p k).2.1).errs,(stepK p k).2.2 ++ [(walkK p k (stepK p k).1 (stepK p k).2.1).next])
theorem studyL_drop (p:ProgD):∀ (n k:Nat),k+n=p.funcs.length→studyL p (p.funcs.drop k) (stepK p k).1 (stepK p k).2.1 (stepK p k).2.2=stepK p p.funcs.length:=by
 intro n
 induction n with
 | zero =>
  intro k hk
  obtain rfl:k=p.funcs.length:=by omega
  rw [List.drop_length]
  rfl
 | succ n ih =>
  intro k hk
  rw [List.drop_eq_getElem_cons (by omega:k<p.funcs.length)]
  have:=ih (k+1) (by omega)
  simp only [studyL]
  rw [← this]
  simp only [stepK,walkK]
  rw [getD_at (by omega:k<p.funcs.length)]
theorem studyL_all (p:ProgD):studyL p p.funcs (List.replicate p.nodes.length (-1)) (List.replicate p.nodes.length 0) []=stepK p p.funcs.length:=by
 have:=studyL_drop p p.funcs.length 0 (by omega)
 rwa [List.drop_zero] at this
theorem SynOk.step {p:ProgD} (h:SynOk p):∀ k,k≤p.funcs.length→(stepK p k).1.length=p.nodes.length∧(stepK p k).2.1.length=p.nodes.length∧(stepK p k).2.2.length=k∧∀ x∈(stepK p k).2.2,0≤x∧x≤608:=by
 intro k
 induction k with
 | zero=>intro _;simp [stepK]
 | succ k ih =>
  intro hk
  obtain ⟨h1,h2,h3,h4⟩:=ih (by omega)
  obtain ⟨g1,g2,g3,g4⟩:=h.walk (k:=k) (by omega) (stepK p k).1 (stepK p k).2.1
  simp only [stepK]
  refine ⟨g1.trans h1,g2.trans h2,by simp [h3],fun x hx=>?_⟩
  rcases List.mem_append.1 hx with hx | hx
  ·exact h4 x hx
  ·simp at hx;subst hx;exact ⟨g3,g4⟩
/-- What study has found, if it has found no error. -/
theorem study_ok {p:ProgD} (h:(studyF p).err=0):SynOk p∧(studyF p).slots=(stepK p p.funcs.length).1∧(studyF p).locals=(stepK p p.funcs.length).2.2∧synF p=0∧(funsF p).2=0∧firstE (stepK p p.funcs.length).2.1 0=none:=by
 unfold studyF at h ⊢
 rw [studyL_all] at h ⊢
 by_cases h1:synF p≠0
 ·rw [if_pos h1] at h;exact absurd h h1
 rw [if_neg h1] at h ⊢
 by_cases h2:(funsF p).2≠0
 ·rw [if_pos h2] at h;exact absurd h h2
 rw [if_neg h2] at h ⊢
 have h1':synF p=0:=by omega
 have h2':(funsF p).2=0:=by omega
 cases he:firstE (stepK p p.funcs.length).2.1 0 with
 | none=>exact ⟨synF_ok h1',rfl,rfl,h1',h2',rfl⟩
 | some q =>
  rw [he] at h
  exfalso
  have:∀ (l:List Int) i q,firstE l i=some q→q.2≠0:=by
   intro l
   induction l with
   | nil=>intro i q h;cases h
   | cons e r ih =>
    intro i q h
    unfold firstE at h
    split at h
    ·cases h;assumption
    ·exact ih _ _ h
  exact this _ _ _ he h
end
section
open Go.RowKit
structure VN where
 vis:List (ByteArray × Int)
 next:Int
def guardE (e:Int) (T:VN):Except Int VN:=if e=0 then .ok T else .error e
def endE (p:ProgD) (n:NodeD) (T:VN):Except Int VN :=
 if n.kind=5∨n.kind=14 then guardE (if (alGet T.vis n.text).isSome=true then 0 else 4) T
 else if n.kind=13 then (if (alGet T.vis n.text).isSome=true then .error 6 else if T.next=32 then .error 3 else .ok ⟨alSet T.vis n.text T.next,T.next+1⟩)
 else if n.kind=11 then guardE (errW (wantF p n.text) n.kids.length) T
 else if n.kind=12 then guardE (errW (lookL hostL n.text) n.kids.length) T
 else .ok T
def seqE (rec:Nat→VN→Except Int VN):List Int→VN→Except Int VN
 | [],T=>.ok T
 | k :: r,T=>(rec k.toNat T).bind (seqE rec r)
/-- The variables that the statements of a block declare. -/
def declF (p:ProgD):List Int→List ByteArray
 | []=>[]
 | k :: r=>(if (p.at_ k.toNat).kind=13 then [(p.at_ k.toNat).text] else []) ++ declF p r
def walkE (p:ProgD):Nat→Nat→VN→Except Int VN
 | 0,_,T=>.ok T
 | f+1,i,T=>if (p.at_ i).kind=19 then (seqE (walkE p f) (p.at_ i).kids T).map (fun U=>⟨(declF p (p.at_ i).kids).foldl alDel U.vis,U.next⟩)
  else (seqE (walkE p f) (p.at_ i).kids T).bind (endE p (p.at_ i))
def zAt (l:List Int) (j:Nat):Int:=l.getD j 0
theorem zAt_set (l:List Int) (i j:Nat) (x:Int) (hi:i<l.length):zAt (l.set i x) j=if i=j then x else zAt l j:=by
 unfold zAt
 simp only [List.getD_eq_getElem?_getD,List.getElem?_set]
 split
 ·subst_vars;simp [hi]
 ·rfl
structure Res (S S':ScD) (s e:Nat) (r:Except Int VN):Prop where
 ok:∀ T,r=.ok T→S'.vis=T.vis∧S'.next=T.next∧∀ j,s≤j→j<e→zAt S'.errs j=0
 bad:∀ x,r=.error x→x≠0∧∃ j,s≤j∧j<e∧zAt S'.errs j=x∧∀ k,s≤k→k<j→zAt S'.errs k=0
def OutE (S S':ScD) (s e:Nat):Prop:=∀ j,j<s∨e≤j→zAt S'.errs j=zAt S.errs j
def Zeros (S:ScD) (s e:Nat):Prop:=∀ j,s≤j→j<e→zAt S.errs j=0
theorem OutE.refl (S:ScD) (s e:Nat):OutE S S s e:=fun _ _=>rfl
theorem OutE.trans {S T U:ScD} {s m e:Nat} (h:OutE S T s m) (g:OutE T U m e) (h1:s≤m) (h2:m≤e):OutE S U s e:=fun j hj=>(g j (by omega)).trans (h j (by omega))
theorem OutE.wide {S T:ScD} {s e a b:Nat} (h:OutE S T s e) (h1:a≤s) (h2:e≤b):OutE S T a b:=fun j hj=>h j (by omega)
theorem letF_out (S:ScD) (i:Nat) (s:ByteArray) (hi:i<S.errs.length):OutE S (letF S i s) i (i+1):=by
 intro j hj
 unfold letF
 split
 ·show zAt (S.errs.set i 6) j=_
  rw [zAt_set _ _ _ _ hi,if_neg (by omega)]
 ·split
  ·show zAt (S.errs.set i 3) j=_
   rw [zAt_set _ _ _ _ hi,if_neg (by omega)]
  ·rfl
theorem endF_out (p:ProgD) (n:NodeD) (i:Nat) (S:ScD) (hi:i<S.errs.length):OutE S (endF p n i S) i (i+1):=by
 intro j hj
 unfold endF
 split
 ·split
  ·rfl
  ·show zAt (S.errs.set i 4) j=_
   rw [zAt_set _ _ _ _ hi,if_neg (by omega)]
 ·split
  ·exact letF_out S i n.text hi j hj
  ·split
   ·show zAt (S.errs.set i _) j=_
    rw [zAt_set _ _ _ _ hi,if_neg (by omega)]
   ·split
    ·split
     ·rfl
     ·show zAt (S.errs.set i _) j=_
      rw [zAt_set _ _ _ _ hi,if_neg (by omega)]
    ·rfl
theorem walk_len {p:ProgD} {f i s:Nat} {S:ScD} (h:firstF p.nodes f i=some s):(walkF p f i S).errs.length=S.errs.length:=(walk_inv p f i s S h).errs
theorem seq_out {p:ProgD} {f:Nat} (hr:∀ i s S,firstF p.nodes f i=some s→i<S.errs.length→OutE S (walkF p f i S) s (i+1)) {r:List Int} {s e:Nat} (h:Cover p.nodes f r s e):∀ S,e≤S.errs.length→OutE S (r.foldl (fun S k=>walkF p f k.toNat S) S) s e:=by
 induction h with
 | nil s=>intro S _;exact OutE.refl _ _ _
 | cons r s m e h1 h2 ih =>
  intro S he
  have q1:=first_le h1
  have q2:=h2.le'
  simp only [List.foldl_cons,Int.toNat_natCast]
  exact (hr m s S h1 (by omega)).trans (ih _ (by rw [walk_len h1];exact he)) (by omega) q2
theorem block_out {p:ProgD} {f:Nat} (hr:∀ i s S,firstF p.nodes f i=some s→i<S.errs.length→OutE S (walkF p f i S) s (i+1)) {r:List Int} {s e:Nat} (h:Cover p.nodes f r s e):∀ S d,e≤S.errs.length→OutE S (blockF p (walkF p f) r S d).1 s e:=by
 induction h with
 | nil s=>intro S d _;exact OutE.refl _ _ _
 | cons r s m e h1 h2 ih =>
  intro S d he
  have q1:=first_le h1
  have q2:=h2.le'
  simp only [blockF,Int.toNat_natCast]
  exact (hr m s S h1 (by omega)).trans (ih _ _ (by rw [walk_len h1];exact he)) (by omega) q2
theorem walk_out (p:ProgD):∀ f i s S,firstF p.nodes f i=some s→i<S.errs.length→OutE S (walkF p f i S) s (i+1):=by
 intro f
 induction f with
 | zero=>intro i s S h;cases h
 | succ f ih =>
  intro i s S h hi
  have T:=first_tree h
  have hs:=first_le h
  simp only [walkF]
  split
  ·exact (block_out ih T.cover S [] (by omega)).wide (Nat.le_refl _) (by omega)
  ·refine (seq_out ih T.cover S (by omega)).trans (endF_out p _ i _ ?_) hs (by omega)
   rw [(foldl_inv (walk_inv p f) T.cover S).errs]
   exact hi
theorem Res.then_ {S S1 S2:ScD} {s m e:Nat} {r1:Except Int VN} {g:VN→Except Int VN} (h1:Res S S1 s m r1) (hsm:s≤m) (hme:m≤e) (ho:OutE S1 S2 m e) (h2:∀ T,r1=.ok T→Res S1 S2 m e (g T)):Res S S2 s e (r1.bind g):=by
 cases r1 with
 | error x =>
  refine ⟨fun T h=>by simp [Except.bind] at h,fun y h=>?_⟩
  simp only [Except.bind,Except.error.injEq] at h
  subst h
  obtain ⟨h0,j,h3,h4,h5,h6⟩:=h1.bad _ rfl
  exact ⟨h0,j,h3,by omega,by rw [ho j (by omega),h5],fun k hk1 hk2=>by rw [ho k (by omega),h6 k hk1 hk2]⟩
 | ok T =>
  have h3:=h1.ok T rfl
  have h4:=h2 T rfl
  refine ⟨fun U h=>?_,fun y h=>?_⟩
  ·obtain ⟨g1,g2,g3⟩:=h4.ok U h
   refine ⟨g1,g2,fun j hj1 hj2=>?_⟩
   by_cases hm:j<m
   ·rw [ho j (by omega),h3.2.2 j hj1 hm]
   ·exact g3 j (by omega) hj2
  ·obtain ⟨g1,j,g2,g3,g4,g5⟩:=h4.bad y h
   refine ⟨g1,j,by omega,g3,g4,fun k hk1 hk2=>?_⟩
   by_cases hm:k<m
   ·rw [ho k (by omega),h3.2.2 k hk1 hm]
   ·exact g5 k (by omega) hk2
theorem endF_res (p:ProgD) (n:NodeD) (i:Nat) (S:ScD) (hi:i<S.errs.length) (hz:zAt S.errs i=0):Res S (endF p n i S) i (i+1) (endE p n ⟨S.vis,S.next⟩):=by
 have one:∀ (x:Int) (T:ScD),zAt T.errs i=x→x≠0→∃ j,i≤j∧j<i+1∧zAt T.errs j=x∧∀ k,i≤k→k<j→zAt T.errs k=0:=fun x T h _=>⟨i,Nat.le_refl _,by omega,h,fun k h1 h2=>by omega⟩
 have zer:∀ (T:ScD),zAt T.errs i=0→∀ j,i≤j→j<i+1→zAt T.errs j=0:=fun T h j h1 h2=>by
  have e:j=i:=by omega
  subst e
  exact h
 have gd:∀ (e:Int) (T:ScD),T.vis=S.vis→T.next=S.next→zAt T.errs i=e→Res S T i (i+1) (guardE e ⟨S.vis,S.next⟩):=by
  intro e T h1 h2 h3
  unfold guardE
  split
  ·rename_i he
   refine ⟨fun U h=>?_,fun y h=>(by cases h)⟩
   cases h
   exact ⟨h1,h2,zer T (by omega)⟩
  ·rename_i he
   refine ⟨fun U h=>(by cases h),fun y h=>?_⟩
   cases h
   exact ⟨he,one _ T h3 he⟩
 have st:∀ x:Int,zAt (S.errs.set i x) i=x:=fun x=>by rw [zAt_set _ _ _ _ hi,if_pos rfl]
 unfold endF endE
 split
 ·split
  ·rename_i k hk
   rw [if_pos (by simp only;rw [hk];rfl)]
   exact gd 0 _ rfl rfl hz
  ·rename_i hk
   rw [if_neg (by simp only;rw [hk];simp)]
   exact gd 4 _ rfl rfl (st 4)
 ·split
  ·unfold letF
   simp only
   split
   ·exact ⟨fun U h=>(by cases h),fun y h=>by cases h;exact ⟨by omega,one _ _ (st 6) (by omega)⟩⟩
   ·split
    ·exact ⟨fun U h=>(by cases h),fun y h=>by cases h;exact ⟨by omega,one _ _ (st 3) (by omega)⟩⟩
    ·exact ⟨fun U h=>(by cases h;exact ⟨rfl,rfl,zer _ hz⟩),fun y h=>(by cases h)⟩
  ·split
   ·exact gd _ _ rfl rfl (st _)
   ·split
    ·split
     ·rename_i h0
      rw [h0]
      exact gd 0 _ rfl rfl hz
     ·exact gd _ _ rfl rfl (st _)
    ·exact ⟨fun U h=>(by cases h;exact ⟨rfl,rfl,zer _ hz⟩),fun y h=>(by cases h)⟩
theorem Zeros.sub {S:ScD} {s e a b:Nat} (h:Zeros S s e) (h1:s≤a) (h2:b≤e):Zeros S a b:=fun j hj1 hj2=>h j (by omega) (by omega)
theorem Zeros.out {S T:ScD} {s e a b:Nat} (h:Zeros S a b) (ho:OutE S T s e) (h1:e≤a):Zeros T a b:=fun j hj1 hj2=>by rw [ho j (by omega)];exact h j hj1 hj2
theorem seq_res {p:ProgD} {f:Nat} (hr:∀ i s S,firstF p.nodes f i=some s→i<S.errs.length→Zeros S s (i+1)→Res S (walkF p f i S) s (i+1) (walkE p f i ⟨S.vis,S.next⟩)) {r:List Int} {s e:Nat} (h:Cover p.nodes f r s e):∀ S,e≤S.errs.length→Zeros S s e→Res S (r.foldl (fun S k=>walkF p f k.toNat S) S) s e (seqE (walkE p f) r ⟨S.vis,S.next⟩):=by
 induction h with
 | nil s=>intro S _ _;exact ⟨fun T h=>(by cases h;exact ⟨rfl,rfl,fun j h1 h2=>by omega⟩),fun y h=>(by cases h)⟩
 | cons r s m e h1 h2 ih =>
  intro S he hz
  have q1:=first_le h1
  have q2:=h2.le'
  have ho:=walk_out p f m s S h1 (by omega)
  simp only [List.foldl_cons,Int.toNat_natCast,seqE]
  refine (hr m s S h1 (by omega) (hz.sub (Nat.le_refl _) q2)).then_ (by omega) q2 (seq_out (walk_out p f) h2 _ (by rw [walk_len h1];exact he)) (fun T hT=>?_)
  obtain ⟨g1,g2,_⟩:=(hr m s S h1 (by omega) (hz.sub (Nat.le_refl _) q2)).ok T hT
  have:=ih (walkF p f m S) (by rw [walk_len h1];exact he) ((hz.sub (a:=m+1) (by omega) (Nat.le_refl _)).out ho (Nat.le_refl _))
  rw [g1,g2] at this
  exact this
theorem blockF_d {p:ProgD} {rec:Nat→ScD→ScD}:∀ (r:List Int) (S:ScD) (d:List ByteArray),(blockF p rec r S d).1=r.foldl (fun S k=>rec k.toNat S) S:=by
 intro r
 induction r with
 | nil=>intro S d;rfl
 | cons k r ih=>intro S d;simp only [blockF,List.foldl_cons];exact ih _ _
/-- Without errors, a block's variables are those that its statements declare. -/
theorem blockF_decl {p:ProgD} {f:Nat} {r:List Int} {s e:Nat} (h:Cover p.nodes f r s e):∀ S d,e≤S.errs.length→(∀ j,s≤j→j<e→zAt (r.foldl (fun S k=>walkF p f k.toNat S) S).errs j=0)→(blockF p (walkF p f) r S d).2=d ++ declF p r:=by
 induction h with
 | nil s=>intro S d _ _;simp [blockF,declF]
 | cons r s m e h1 h2 ih =>
  intro S d he hz
  have q1:=first_le h1
  have q2:=h2.le'
  simp only [List.foldl_cons,Int.toNat_natCast] at hz
  have ho:=seq_out (walk_out p f) h2 (walkF p f m S) (by rw [walk_len h1];exact he)
  have hm:(walkF p f m S).errs.getD m 0=0:=by
   have:=hz m q1 (by omega)
   rw [ho m (by omega)] at this
   exact this
  simp only [blockF,declF,Int.toNat_natCast]
  rw [ih _ _ (by rw [walk_len h1];exact he) (fun j h3 h4=>hz j (by omega) h4)]
  by_cases hk:(p.at_ m).kind=13
  ·rw [if_pos ⟨hk,hm⟩,if_pos hk,List.append_assoc]
  ·rw [if_neg (fun h=>hk h.1),if_neg hk];simp
theorem walk_res (p:ProgD):∀ f i s S,firstF p.nodes f i=some s→i<S.errs.length→Zeros S s (i+1)→Res S (walkF p f i S) s (i+1) (walkE p f i ⟨S.vis,S.next⟩):=by
 intro f
 induction f with
 | zero=>intro i s S h;cases h
 | succ f ih =>
  intro i s S h hi hz
  have T:=first_tree h
  have hs:=first_le h
  have hq:=seq_res ih T.cover S (by omega) (hz.sub (Nat.le_refl _) (by omega))
  have ho:=seq_out (walk_out p f) T.cover S (by omega)
  have hlen:=(foldl_inv (walk_inv p f) T.cover S).errs
  have hn:p.nodes.getD i noNode=p.at_ i:=rfl
  have hcv:=T.cover
  rw [hn] at hq ho hlen hcv
  have hz1:zAt ((p.at_ i).kids.foldl (fun S k=>walkF p f k.toNat S) S).errs i=0:=by rw [ho i (by omega)];exact hz i hs (by omega)
  simp only [walkF,walkE]
  by_cases hk:(p.at_ i).kind=19
  ·rw [if_pos hk,if_pos hk]
   have e1:(blockF p (walkF p f) (p.at_ i).kids S []).1=(p.at_ i).kids.foldl (fun S k=>walkF p f k.toNat S) S:=blockF_d _ _ _
   refine ⟨fun U hU=>?_,fun y hy=>?_⟩
   ·cases hr:seqE (walkE p f) (p.at_ i).kids ⟨S.vis,S.next⟩ with
    | error x=>rw [hr] at hU;cases hU
    | ok V =>
     rw [hr] at hU
     cases hU
     obtain ⟨g1,g2,g3⟩:=hq.ok V hr
     have e2:=blockF_decl hcv S [] (by omega) g3
     simp only
     rw [e1,show (blockF p (walkF p f) (p.at_ i).kids S []).2=declF p (p.at_ i).kids from by rw [e2];simp,g1,g2]
     refine ⟨rfl,rfl,fun j h1 h2=>?_⟩
     by_cases e:j=i
     ·subst e;exact hz1
     ·exact g3 j h1 (by omega)
   ·cases hr:seqE (walkE p f) (p.at_ i).kids ⟨S.vis,S.next⟩ with
    | ok V=>rw [hr] at hy;cases hy
    | error x =>
     rw [hr] at hy
     cases hy
     obtain ⟨g1,j,g2,g3,g4,g5⟩:=hq.bad _ hr
     simp only
     rw [e1]
     exact ⟨g1,j,g2,by omega,g4,g5⟩
  ·rw [if_neg hk,if_neg hk]
   refine hq.then_ hs (by omega) (endF_out p _ i _ (by rw [hlen];exact hi)) (fun U hU=>?_)
   obtain ⟨g1,g2,_⟩:=hq.ok U hU
   have:=endF_res p (p.at_ i) i ((p.at_ i).kids.foldl (fun S k=>walkF p f k.toNat S) S) (by rw [hlen];exact hi) hz1
   rw [g1,g2] at this
   exact this
/-- The first error of function k, or what its walk leaves. -/
def walkKE (p:ProgD) (k:Nat):Except Int VN:=walkE p 600 (p.funcs.getD k noFunc).body.toNat ⟨(startS p (p.funcs.getD k noFunc) [] []).vis,(p.funcs.getD k noFunc).params.length⟩
/-- The first error of the first k functions. -/
def errK (p:ProgD):Nat→Int
 | 0=>0
 | k+1=>if errK p k≠0 then errK p k else match walkKE p k with | .ok _=>0 | .error e=>e
theorem SynOk.errs {p:ProgD} (h:SynOk p):∀ k,k≤p.funcs.length→(∀ j,startF p.funcs k≤j→zAt (stepK p k).2.1 j=0)∧(errK p k=0→(∀ j,zAt (stepK p k).2.1 j=0)∧∀ m,m<k→∃ T,walkKE p m=.ok T)∧(errK p k≠0→∃ j,j<startF p.funcs k∧zAt (stepK p k).2.1 j=errK p k∧∀ m,m<j→zAt (stepK p k).2.1 m=0):=by
 intro k
 induction k with
 | zero =>
  intro _
  have:∀ j,zAt (stepK p 0).2.1 j=0:=by
   intro j
   simp only [stepK,zAt,List.getD_eq_getElem?_getD,List.getElem?_replicate]
   split <;> rfl
  exact ⟨fun j _=>this j,fun _=>⟨this,fun m hm=>by omega⟩,fun h=>absurd rfl h⟩
 | succ k ih =>
  intro hk
  obtain ⟨h1,h2,h3⟩:=ih (by omega)
  obtain ⟨b,hb,hs1,hs2⟩:=h.func (k:=k) (by omega)
  obtain ⟨q1,q2,q3,_⟩:=h.step k (by omega)
  have hfl:=first_le hb.first
  have hout:OutE (startS p (p.funcs.getD k noFunc) (stepK p k).1 (stepK p k).2.1) (walkK p k (stepK p k).1 (stepK p k).2.1) (startF p.funcs k) (b+1):=by
   unfold walkK
   rw [hs2]
   exact walk_out p _ _ _ _ hb.first (by show b<(stepK p k).2.1.length;rw [q2];exact hb.lt)
  have hres:Res (startS p (p.funcs.getD k noFunc) (stepK p k).1 (stepK p k).2.1) (walkK p k (stepK p k).1 (stepK p k).2.1) (startF p.funcs k) (b+1) (walkKE p k):=by
   unfold walkK walkKE
   rw [hs2]
   exact walk_res p _ _ _ _ hb.first (by show b<(stepK p k).2.1.length;rw [q2];exact hb.lt) (fun j hj1 _=>h1 j hj1)
  have ho:∀ j,j<startF p.funcs k∨b+1≤j→zAt (stepK p (k+1)).2.1 j=zAt (stepK p k).2.1 j:=hout
  have hlt:startF p.funcs k<startF p.funcs (k+1):=by omega
  refine ⟨fun j hj=>?_,fun he=>?_,fun he=>?_⟩
  ·rw [ho j (by omega)];exact h1 j (by omega)
  ·simp only [errK] at he
   by_cases h0:errK p k≠0
   ·rw [if_pos h0] at he;exact absurd he h0
   rw [if_neg h0] at he
   obtain ⟨g1,g2⟩:=h2 (by omega)
   cases hw:walkKE p k with
   | error e=>rw [hw] at he;exact absurd he (hres.bad e hw).1
   | ok T =>
    obtain ⟨_,_,g3⟩:=hres.ok T hw
    refine ⟨fun j=>?_,fun m hm=>?_⟩
    ·by_cases hj:j<startF p.funcs k∨b+1≤j
     ·rw [ho j hj];exact g1 j
     ·exact g3 j (by omega) (by omega)
    ·by_cases e:m=k
     ·subst e;exact ⟨T,hw⟩
     ·exact g2 m (by omega)
  ·simp only [errK] at he ⊢
   by_cases h0:errK p k≠0
   ·rw [if_pos h0]
    obtain ⟨j,g1,g2,g3⟩:=h3 h0
    exact ⟨j,by omega,by rw [ho j (by omega)];exact g2,fun m hm=>by rw [ho m (by omega)];exact g3 m hm⟩
   ·rw [if_neg h0] at he ⊢
    obtain ⟨g1,_⟩:=h2 (by omega)
    cases hw:walkKE p k with
    | ok T=>rw [hw] at he;exact absurd rfl he
    | error e =>
     obtain ⟨_,j,g2,g3,g4,g5⟩:=hres.bad e hw
     exact ⟨j,by omega,g4,fun m hm=>by
      by_cases hm2:m<startF p.funcs k
      ·rw [ho m (by omega)];exact g1 m
      ·exact g5 m (by omega) hm⟩
theorem firstE_none {l:List Int}:∀ i,(∀ j,zAt l j=0)→firstE l i=none:=by
 induction l with
 | nil=>intro i _;rfl
 | cons e r ih =>
  intro i h
  have h0:e=0:=h 0
  unfold firstE
  rw [if_neg (by omega)]
  exact ih _ (fun j=>h (j+1))
theorem firstE_some {l:List Int}:∀ i j x,zAt l j=x→x≠0→(∀ m,m<j→zAt l m=0)→firstE l i=some (i+j,x):=by
 induction l with
 | nil=>intro i j x h hx _;exact absurd h.symm hx
 | cons e r ih =>
  intro i j x h hx hm
  unfold firstE
  cases j with
  | zero =>
   have:e=x:=h
   subst this
   rw [if_pos hx];rfl
  | succ j =>
   have h0:e=0:=hm 0 (by omega)
   rw [if_neg (by omega),ih (i+1) j x h hx (fun m h=>hm (m+1) (by omega)),show i+1+j=i+(j+1) by omega]
/-- The error of static, without the arrays. -/
def errP (p:ProgD):Int:=if synF p≠0 then synF p else if (funsF p).2≠0 then (funsF p).2 else errK p p.funcs.length
theorem study_err (p:ProgD):(studyF p).err=errP p:=by
 unfold studyF errP
 rw [studyL_all]
 by_cases h1:synF p≠0
 ·rw [if_pos h1,if_pos h1]
 rw [if_neg h1,if_neg h1]
 by_cases h2:(funsF p).2≠0
 ·rw [if_pos h2,if_pos h2]
 rw [if_neg h2,if_neg h2]
 obtain ⟨_,g1,g2⟩:=(synF_ok (by omega:synF p=0)).errs p.funcs.length (Nat.le_refl _)
 by_cases h3:errK p p.funcs.length=0
 ·rw [firstE_none 0 (g1 h3).1,h3]
 ·obtain ⟨j,_,h4,h5⟩:=g2 h3
  rw [firstE_some 0 j _ h4 h3 h5]
end
section
open Go.RowKit
def eS:ByteArray:=⟨#[101]⟩
def exP:ProgD:=⟨[⟨5,eS,0,[],[]⟩,⟨17,⟨#[]⟩,0,[],[0]⟩,⟨19,⟨#[]⟩,0,[],[1]⟩],[⟨mainS,[eS],2⟩]⟩
def exS:StudyD:=⟨[0,-1,-1],[1],0,0⟩
def exI:List InsD:=[⟨5,0,⟨#[]⟩,[]⟩,⟨20,0,⟨#[]⟩,[]⟩,⟨1,0,⟨#[]⟩,[]⟩,⟨20,0,⟨#[]⟩,[]⟩]
def exF:FnD:=⟨mainS,1,1,0,4⟩
def exC:CodeD:=⟨[exF],exI⟩
theorem ex_study:studyF exP=exS:=by kernel_rfl
theorem ex_code:codeP exP exS.slots exS.locals=exC:=by rfl
theorem main_ok:NameOk mainS:=by
 refine ⟨⟨by decide,fun _=>by rfl,?_⟩,by decide,by decide +kernel⟩
 intro i h
 have:i=0∨i=1∨i=2∨i=3:=by have:mainS.size=4:=rfl;omega
 rcases this with rfl | rfl | rfl | rfl <;> rfl
theorem ex_next (done:List Bool) (d:List Int) (k:Nat) (h:∀ j,j<k→done.getD j false=true∨getD d j<0) (hk:k≤4) (h2:k<4→done.getD k false=false∧0≤getD d k):IsNext done d 0 4 k:=⟨Nat.zero_le _,hk,fun j _ hj=>h j hj,h2⟩
theorem ex_done (j:Nat) (h:j<1):((List.replicate 4 false).set 0 true).getD j false=true:=by
 have e:j=0:=by omega
 subst e;rfl
theorem ex_follow:FollowR exC 0 4 (List.replicate 4 false) [0,-1,-1,-1] (-1,[0,1,-1,-1]):=by
 refine .go _ _ [0,1,-1,-1] 0 ⟨5,0,⟨#[]⟩,[]⟩ _ (ex_next _ _ _ (fun j h=>by omega) (by omega) (fun _=>⟨rfl,by decide⟩)) (by omega) rfl ?_ rfl ?_
 ·unfold Faulty
  decide
 refine .go _ _ [0,1,-1,-1] 1 ⟨20,0,⟨#[]⟩,[]⟩ _ (ex_next _ _ _ (fun j h=>.inl (ex_done j h)) (by omega) (fun _=>⟨rfl,by decide⟩)) (by omega) rfl ?_ rfl ?_
 ·unfold Faulty
  decide
 refine .stop _ _ (ex_next _ _ _ (fun j h=>?_) (by omega) (fun h=>by omega))
 have:j=0∨j=1∨j=2∨j=3:=by omega
 rcases this with rfl | rfl | rfl | rfl
 ·exact .inl rfl
 ·exact .inl rfl
 ·exact .inr (by decide)
 ·exact .inr (by decide)
theorem ex_formed (i:InsD) (h:i∈exI):FormedP 1 exF i:=by
 simp only [exI,List.mem_cons,List.not_mem_nil,or_false] at h
 rcases h with rfl | rfl | rfl | rfl
 all_goals
  refine ⟨by decide,?_,?_,?_⟩
  ·unfold OperandP
   simp [bareB,exF]
  ·unfold StrP
   simp
   try rfl
  ·unfold KeysP
   simp
theorem ex_codeR:CodeR exC (0,0):=by
 have hF:fnsF exC exC.fns 0 0=(0,0):=by
  simp only [exC,fnsF]
  rw [if_neg,if_neg,if_neg,if_neg]
  ·simp [exF,exI]
  ·simp [exF,exI]
  ·simp [exF]
  ·rintro (h | ⟨j,h,_⟩)
   ·exact h main_ok
   ·omega
 refine .ok [0,1,-1,-1] (by simp [Big,exC,exI]) (by rw [hF]) ?_ ?_
 ·have hi:∀ n k,n+k=4→insF exC exF n k=none:=by
   intro n
   induction n with
   | zero=>intro k _;rfl
   | succ n ih =>
    intro k hk
    simp only [insF]
    have hk':k<exI.length:=by simp only [exI,List.length_cons,List.length_nil];omega
    rw [show exC.ins[k]? = some exI[k] from List.getElem?_eq_getElem hk']
    simp only
    rw [if_neg (fun h=>h (ex_formed _ (List.getElem_mem hk'))),if_neg,ih _ (by omega)]
    rintro ⟨h0,h1,h2⟩
    obtain rfl:k=3:=by omega
    exact h1 rfl
  have h0:=hi 4 0 rfl
  show (match insF exC exF 4 0 with | some R=>some R | none=>none)=none
  rw [h0]
 ·exact .go exF [] _ [0,1,-1,-1] _ ex_follow (.nil _)
theorem ex_prog {c:CodeD} {e:Int} (h:ProgR exP c e):c=exC∧e=0:=by
 refine h.det (.inr ⟨by rw [ex_study];rfl,(0,0),?_,.inr ⟨rfl,?_,rfl⟩⟩)
 ·rw [ex_study,ex_code];exact ex_codeR
 ·rw [ex_study,ex_code]
theorem ex_len:lengthF exP=(4,0):=by
 unfold lengthF
 rw [ex_study]
 rfl
end
end Go.Proofs.YthiimbhjpdphpaaGreatDoor
