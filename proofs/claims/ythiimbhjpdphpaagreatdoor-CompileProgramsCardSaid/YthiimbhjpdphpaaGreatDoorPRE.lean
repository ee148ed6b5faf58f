/- P4, P5, U12, U13, RE -/
import Derived.Test.YthiimbhjpdphpaaGreatDoorPPA
set_option linter.unusedVariables false
set_option linter.unusedSimpArgs false
namespace Go.Proofs.YthiimbhjpdphpaaGreatDoor
open Go.RowKit
structure WInv (c:Nat) (S T:ScD):Prop where
 slots:T.slots.length=S.slots.length
 errs:T.errs.length=S.errs.length
 lo:S.next≤T.next
 hi:T.next≤S.next+c
theorem WInv.refl (S:ScD):WInv 0 S S:=⟨rfl,rfl,Int.le_refl _,by simp⟩
theorem WInv.trans {a b:Nat} {S T U:ScD} (h:WInv a S T) (g:WInv b T U):WInv (a+b) S U :=
 ⟨g.slots.trans h.slots,g.errs.trans h.errs,Int.le_trans h.lo g.lo,by have:=h.hi;have:=g.hi;omega⟩
theorem WInv.mono {a b:Nat} {S T:ScD} (h:WInv a S T) (hab:a≤b):WInv b S T:=⟨h.slots,h.errs,h.lo,by have:=h.hi;omega⟩
theorem letF_inv (S:ScD) (i:Nat) (s:ByteArray):WInv 1 S (letF S i s):=by
 unfold letF;split
 ·exact ⟨by simp,by simp,by show S.next≤S.next+1;omega,by show S.next+1≤S.next+(1:Nat);omega⟩
 ·split
  ·exact ⟨by simp,by simp,by show S.next≤S.next+1;omega,by show S.next+1≤S.next+(1:Nat);omega⟩
  ·exact ⟨by simp,rfl,by show S.next≤S.next+1;omega,by show S.next+1≤S.next+(1:Nat);omega⟩
theorem endF_inv (p:ProgD) (n:NodeD) (i:Nat) (S:ScD):WInv 1 S (endF p n i S):=by
 unfold endF;split
 ·split
  ·exact ⟨by simp,rfl,Int.le_refl _,by show S.next≤S.next+(1:Nat);omega⟩
  ·exact ⟨rfl,by simp,Int.le_refl _,by show S.next≤S.next+(1:Nat);omega⟩
 ·split
  ·exact letF_inv S i n.text
  ·split
   ·exact ⟨rfl,by simp,Int.le_refl _,by show S.next≤S.next+(1:Nat);omega⟩
   ·split
    ·split
     ·exact (WInv.refl S).mono (by omega)
     ·exact ⟨rfl,by simp,Int.le_refl _,by show S.next≤S.next+(1:Nat);omega⟩
    ·exact (WInv.refl S).mono (by omega)
theorem zb4Y {p:ProgD} {f:Nat} (hr:∀ i s S,firstF p.nodes f i=some s→WInv (i+1 - s) S (walkF p f i S)) {r:List Int} {s e:Nat} (h:Cover p.nodes f r s e):∀ S,WInv (e - s) S (r.foldl (fun S k=>walkF p f k.toNat S) S):=by
 induction h with
 | nil s=>intro S;exact (WInv.refl S).mono (by omega)
 | cons r s m e h1 h2 ih =>
  intro S;have q1:=zaaY h1;have q2:=h2.le';simp only [List.foldl_cons,Int.toNat_natCast];exact ((hr m s S h1).trans (ih _)).mono (by omega)
theorem block_inv {p:ProgD} {f:Nat} (hr:∀ i s S,firstF p.nodes f i=some s→WInv (i+1 - s) S (walkF p f i S)) {r:List Int} {s e:Nat} (h:Cover p.nodes f r s e):∀ S d,WInv (e - s) S (blockF p (walkF p f) r S d).1:=by
 induction h with
 | nil s=>intro S d;exact (WInv.refl S).mono (by omega)
 | cons r s m e h1 h2 ih =>
  intro S d;have q1:=zaaY h1;have q2:=h2.le';simp only [blockF,Int.toNat_natCast];exact ((hr m s S h1).trans (ih _ _)).mono (by omega)
theorem zbbY (p:ProgD):∀ f i s S,firstF p.nodes f i=some s→WInv (i+1 - s) S (walkF p f i S):=by
 intro f;induction f with
 | zero=>intro i s S h;cases h
 | succ f ih =>
  intro i s S h;have T:=zadY h;have hs:=zaaY h;simp only [walkF];split
  ·have hb:=(block_inv ih T.cover S []).mono (show i - s≤i+1 - s by omega)
   exact ⟨hb.slots,hb.errs,hb.lo,hb.hi⟩
  ·exact ((zb4Y ih T.cover S).trans (endF_inv p _ i _)).mono (by omega)
theorem startS_next (p:ProgD) (f:FuncD) (sl er:List Int):(startS p f sl er).next=f.params.length:=rfl
def walkK (p:ProgD) (k:Nat) (sl er:List Int):ScD:=walkF p 600 (p.funcs.getD k noFunc).body.toNat (startS p (p.funcs.getD k noFunc) sl er)
theorem SynOk.walk {p:ProgD} (h:SynOk p) {k:Nat} (hk:k<p.funcs.length) (sl er:List Int):(walkK p k sl er).slots.length=sl.length∧(walkK p k sl er).errs.length=er.length∧0≤(walkK p k sl er).next∧(walkK p k sl er).next≤608:=by
 obtain ⟨b,hb,h1,h2⟩:=h.func hk;have h3:=zbbY p _ _ _ (startS p (p.funcs.getD k noFunc) sl er) hb.first
 have h4:=h.params _ (List.getElem_mem hk);have h5:=h.nodes;have h6:=hb.lt;have e:(startS p (p.funcs.getD k noFunc) sl er).next=((p.funcs[k]).params.length:Nat):=by rw [zaiZ hk];rfl
 unfold walkK;rw [h2];have h7:=h3.hi;have h8:=h3.lo;rw [e] at h7 h8;exact ⟨h3.slots,h3.errs,by omega,by omega⟩
def stepK (p:ProgD):Nat→List Int × List Int × List Int
 | 0=>(List.replicate p.nodes.length (-1),List.replicate p.nodes.length 0,[])
 | k+1=>((walkK p k (stepK p k).1 (stepK p k).2.1).slots,(walkK p k (stepK p k).1 (stepK p k).2.1).errs,(stepK p k).2.2 ++ [(walkK p k (stepK p k).1 (stepK p k).2.1).next])
theorem studyL_drop (p:ProgD):∀ (n k:Nat),k+n=p.funcs.length→studyL p (p.funcs.drop k) (stepK p k).1 (stepK p k).2.1 (stepK p k).2.2=stepK p p.funcs.length:=by
 intro n;induction n with
 | zero =>
  intro k hk;obtain rfl:k=p.funcs.length:=by omega
  rw [List.drop_length];rfl
 | succ n ih =>
  intro k hk;rw [List.drop_eq_getElem_cons (by omega:k<p.funcs.length)]
  have:=ih (k+1) (by omega)
  simp only [studyL];rw [← this];simp only [stepK,walkK];rw [zaiZ (by omega:k<p.funcs.length)]
theorem zb8Y (p:ProgD):studyL p p.funcs (List.replicate p.nodes.length (-1)) (List.replicate p.nodes.length 0) []=stepK p p.funcs.length:=by
 have:=studyL_drop p p.funcs.length 0 (by omega)
 rwa [List.drop_zero] at this
theorem SynOk.step {p:ProgD} (h:SynOk p):∀ k,k≤p.funcs.length→(stepK p k).1.length=p.nodes.length∧(stepK p k).2.1.length=p.nodes.length∧(stepK p k).2.2.length=k∧∀ x∈(stepK p k).2.2,0≤x∧x≤608:=by
 intro k;induction k with
 | zero=>intro _;simp [stepK]
 | succ k ih =>
  intro hk;obtain ⟨h1,h2,h3,h4⟩:=ih (by omega);obtain ⟨g1,g2,g3,g4⟩:=h.walk (k:=k) (by omega) (stepK p k).1 (stepK p k).2.1;simp only [stepK];refine ⟨g1.trans h1,g2.trans h2,by simp [h3],fun x hx=>?_⟩
  rcases List.mem_append.1 hx with hx | hx
  ·exact h4 x hx
  ·simp at hx;subst hx;exact ⟨g3,g4⟩
theorem za2Y {p:ProgD} (h:(studyF p).err=0):SynOk p∧(studyF p).slots=(stepK p p.funcs.length).1∧(studyF p).locals=(stepK p p.funcs.length).2.2∧synF p=0∧(funsF p).2=0∧firstE (stepK p p.funcs.length).2.1 0=none:=by
 unfold studyF at h ⊢;rw [zb8Y] at h ⊢;by_cases h1:synF p≠0
 ·rw [if_pos h1] at h;exact absurd h h1
 rw [if_neg h1] at h ⊢;by_cases h2:(funsF p).2≠0
 ·rw [if_pos h2] at h;exact absurd h h2
 rw [if_neg h2] at h ⊢;have h1':synF p=0:=by omega
 have h2':(funsF p).2=0:=by omega
 cases he:firstE (stepK p p.funcs.length).2.1 0 with
 | none=>exact ⟨synF_ok h1',rfl,rfl,h1',h2',rfl⟩
 | some q =>
  rw [he] at h;exfalso
  have:∀ (l:List Int) i q,firstE l i=some q→q.2≠0:=by
   intro l;induction l with
   | nil=>intro i q h;cases h
   | cons e r ih =>
    intro i q h;unfold firstE at h;split at h
    ·cases h;assumption
    ·exact ih _ _ h
  exact this _ _ _ he h
structure VN where
 vis:List (ByteArray × Int)
 next:Int
def guardE (e:Int) (T:VN):Except Int VN:=if e=0 then .ok T else .error e
def endE (p:ProgD) (n:NodeD) (T:VN):Except Int VN :=
 if n.kind=5∨n.kind=14 then guardE (if (alGet T.vis n.text).isSome=true then 0 else 4) T
 else if n.kind=13 then (if (alGet T.vis n.text).isSome=true then .error 6 else if T.next=32 then .error 3 else .ok ⟨alSet T.vis n.text T.next,T.next+1⟩)
 else if n.kind=11 then guardE (errW (wantF p n.text) n.kids.length) T
 else if n.kind=12 then guardE (errW (lookL hostL n.text) n.kids.length) T
 else .ok T
def seqE (rec:Nat→VN→Except Int VN):List Int→VN→Except Int VN
 | [],T=>.ok T
 | k :: r,T=>(rec k.toNat T).bind (seqE rec r)
def declF (p:ProgD):List Int→List ByteArray
 | []=>[]
 | k :: r=>(if (p.at_ k.toNat).kind=13 then [(p.at_ k.toNat).text] else []) ++ declF p r
def walkE (p:ProgD):Nat→Nat→VN→Except Int VN
 | 0,_,T=>.ok T
 | f+1,i,T=>if (p.at_ i).kind=19 then (seqE (walkE p f) (p.at_ i).kids T).map (fun U=>⟨(declF p (p.at_ i).kids).foldl alDel U.vis,U.next⟩)
  else (seqE (walkE p f) (p.at_ i).kids T).bind (endE p (p.at_ i))
def zAt (l:List Int) (j:Nat):Int:=l.getD j 0
theorem zAt_set (l:List Int) (i j:Nat) (x:Int) (hi:i<l.length):zAt (l.set i x) j=if i=j then x else zAt l j:=by
 unfold zAt;simp only [List.getD_eq_getElem?_getD,List.getElem?_set];split
 ·subst_vars;simp [hi]
 ·rfl
structure Res (S S':ScD) (s e:Nat) (r:Except Int VN):Prop where
 ok:∀ T,r=.ok T→S'.vis=T.vis∧S'.next=T.next∧∀ j,s≤j→j<e→zAt S'.errs j=0
 bad:∀ x,r=.error x→x≠0∧∃ j,s≤j∧j<e∧zAt S'.errs j=x∧∀ k,s≤k→k<j→zAt S'.errs k=0
def OutE (S S':ScD) (s e:Nat):Prop:=∀ j,j<s∨e≤j→zAt S'.errs j=zAt S.errs j
def Zeros (S:ScD) (s e:Nat):Prop:=∀ j,s≤j→j<e→zAt S.errs j=0
theorem OutE.refl (S:ScD) (s e:Nat):OutE S S s e:=fun _ _=>rfl
theorem OutE.trans {S T U:ScD} {s m e:Nat} (h:OutE S T s m) (g:OutE T U m e) (h1:s≤m) (h2:m≤e):OutE S U s e:=fun j hj=>(g j (by omega)).trans (h j (by omega))
theorem OutE.wide {S T:ScD} {s e a b:Nat} (h:OutE S T s e) (h1:a≤s) (h2:e≤b):OutE S T a b:=fun j hj=>h j (by omega)
theorem letF_out (S:ScD) (i:Nat) (s:ByteArray) (hi:i<S.errs.length):OutE S (letF S i s) i (i+1):=by
 intro j hj;unfold letF;split
 ·show zAt (S.errs.set i 6) j=_
  rw [zAt_set _ _ _ _ hi,if_neg (by omega)]
 ·split
  ·show zAt (S.errs.set i 3) j=_
   rw [zAt_set _ _ _ _ hi,if_neg (by omega)]
  ·rfl
theorem endF_out (p:ProgD) (n:NodeD) (i:Nat) (S:ScD) (hi:i<S.errs.length):OutE S (endF p n i S) i (i+1):=by
 intro j hj;unfold endF;split
 ·split
  ·rfl
  ·show zAt (S.errs.set i 4) j=_
   rw [zAt_set _ _ _ _ hi,if_neg (by omega)]
 ·split
  ·exact letF_out S i n.text hi j hj
  ·split
   ·show zAt (S.errs.set i _) j=_
    rw [zAt_set _ _ _ _ hi,if_neg (by omega)]
   ·split
    ·split
     ·rfl
     ·show zAt (S.errs.set i _) j=_
      rw [zAt_set _ _ _ _ hi,if_neg (by omega)]
    ·rfl
theorem zbaY {p:ProgD} {f i s:Nat} {S:ScD} (h:firstF p.nodes f i=some s):(walkF p f i S).errs.length=S.errs.length:=(zbbY p f i s S h).errs
theorem seq_out {p:ProgD} {f:Nat} (hr:∀ i s S,firstF p.nodes f i=some s→i<S.errs.length→OutE S (walkF p f i S) s (i+1)) {r:List Int} {s e:Nat} (h:Cover p.nodes f r s e):∀ S,e≤S.errs.length→OutE S (r.foldl (fun S k=>walkF p f k.toNat S) S) s e:=by
 induction h with
 | nil s=>intro S _;exact OutE.refl _ _ _
 | cons r s m e h1 h2 ih =>
  intro S he;have q1:=zaaY h1;have q2:=h2.le';simp only [List.foldl_cons,Int.toNat_natCast];exact (hr m s S h1 (by omega)).trans (ih _ (by rw [zbaY h1];exact he)) (by omega) q2
theorem block_out {p:ProgD} {f:Nat} (hr:∀ i s S,firstF p.nodes f i=some s→i<S.errs.length→OutE S (walkF p f i S) s (i+1)) {r:List Int} {s e:Nat} (h:Cover p.nodes f r s e):∀ S d,e≤S.errs.length→OutE S (blockF p (walkF p f) r S d).1 s e:=by
 induction h with
 | nil s=>intro S d _;exact OutE.refl _ _ _
 | cons r s m e h1 h2 ih =>
  intro S d he;have q1:=zaaY h1;have q2:=h2.le';simp only [blockF,Int.toNat_natCast];exact (hr m s S h1 (by omega)).trans (ih _ _ (by rw [zbaY h1];exact he)) (by omega) q2
theorem zbpY (p:ProgD):∀ f i s S,firstF p.nodes f i=some s→i<S.errs.length→OutE S (walkF p f i S) s (i+1):=by
 intro f;induction f with
 | zero=>intro i s S h;cases h
 | succ f ih =>
  intro i s S h hi;have T:=zadY h;have hs:=zaaY h;simp only [walkF];split
  ·exact (block_out ih T.cover S [] (by omega)).wide (Nat.le_refl _) (by omega)
  ·refine (seq_out ih T.cover S (by omega)).trans (endF_out p _ i _ ?_) hs (by omega)
   rw [(zb4Y (zbbY p f) T.cover S).errs];exact hi
theorem Res.then_ {S S1 S2:ScD} {s m e:Nat} {r1:Except Int VN} {g:VN→Except Int VN} (h1:Res S S1 s m r1) (hsm:s≤m) (hme:m≤e) (ho:OutE S1 S2 m e) (h2:∀ T,r1=.ok T→Res S1 S2 m e (g T)):Res S S2 s e (r1.bind g):=by
 cases r1 with
 | error x =>
  refine ⟨fun T h=>by simp [Except.bind] at h,fun y h=>?_⟩
  simp only [Except.bind,Except.error.injEq] at h;subst h;obtain ⟨h0,j,h3,h4,h5,h6⟩:=h1.bad _ rfl;exact ⟨h0,j,h3,by omega,by rw [ho j (by omega),h5],fun k hk1 hk2=>by rw [ho k (by omega),h6 k hk1 hk2]⟩
 | ok T =>
  have h3:=h1.ok T rfl;have h4:=h2 T rfl;refine ⟨fun U h=>?_,fun y h=>?_⟩
  ·obtain ⟨g1,g2,g3⟩:=h4.ok U h
   refine ⟨g1,g2,fun j hj1 hj2=>?_⟩
   by_cases hm:j<m
   ·rw [ho j (by omega),h3.2.2 j hj1 hm]
   ·exact g3 j (by omega) hj2
  ·obtain ⟨g1,j,g2,g3,g4,g5⟩:=h4.bad y h
   refine ⟨g1,j,by omega,g3,g4,fun k hk1 hk2=>?_⟩
   by_cases hm:k<m
   ·rw [ho k (by omega),h3.2.2 k hk1 hm]
   ·exact g5 k (by omega) hk2
theorem endF_res (p:ProgD) (n:NodeD) (i:Nat) (S:ScD) (hi:i<S.errs.length) (hz:zAt S.errs i=0):Res S (endF p n i S) i (i+1) (endE p n ⟨S.vis,S.next⟩):=by
 have one:∀ (x:Int) (T:ScD),zAt T.errs i=x→x≠0→∃ j,i≤j∧j<i+1∧zAt T.errs j=x∧∀ k,i≤k→k<j→zAt T.errs k=0:=fun x T h _=>⟨i,Nat.le_refl _,by omega,h,fun k h1 h2=>by omega⟩
 have zer:∀ (T:ScD),zAt T.errs i=0→∀ j,i≤j→j<i+1→zAt T.errs j=0:=fun T h j h1 h2=>by
  have e:j=i:=by omega
  subst e;exact h
 have gd:∀ (e:Int) (T:ScD),T.vis=S.vis→T.next=S.next→zAt T.errs i=e→Res S T i (i+1) (guardE e ⟨S.vis,S.next⟩):=by
  intro e T h1 h2 h3;unfold guardE;split
  ·rename_i he
   refine ⟨fun U h=>?_,fun y h=>(by cases h)⟩
   cases h
   exact ⟨h1,h2,zer T (by omega)⟩
  ·rename_i he
   refine ⟨fun U h=>(by cases h),fun y h=>?_⟩
   cases h
   exact ⟨he,one _ T h3 he⟩
 have st:∀ x:Int,zAt (S.errs.set i x) i=x:=fun x=>by rw [zAt_set _ _ _ _ hi,if_pos rfl]
 unfold endF endE;split
 ·split
  ·rename_i k hk
   rw [if_pos (by simp only;rw [hk];rfl)];exact gd 0 _ rfl rfl hz
  ·rename_i hk
   rw [if_neg (by simp only;rw [hk];simp)];exact gd 4 _ rfl rfl (st 4)
 ·split
  ·unfold letF
   simp only
   split
   ·exact ⟨fun U h=>(by cases h),fun y h=>by cases h;exact ⟨by omega,one _ _ (st 6) (by omega)⟩⟩
   ·split
    ·exact ⟨fun U h=>(by cases h),fun y h=>by cases h;exact ⟨by omega,one _ _ (st 3) (by omega)⟩⟩
    ·exact ⟨fun U h=>(by cases h;exact ⟨rfl,rfl,zer _ hz⟩),fun y h=>(by cases h)⟩
  ·split
   ·exact gd _ _ rfl rfl (st _)
   ·split
    ·split
     ·rename_i h0
      rw [h0];exact gd 0 _ rfl rfl hz
     ·exact gd _ _ rfl rfl (st _)
    ·exact ⟨fun U h=>(by cases h;exact ⟨rfl,rfl,zer _ hz⟩),fun y h=>(by cases h)⟩
theorem Zeros.sub {S:ScD} {s e a b:Nat} (h:Zeros S s e) (h1:s≤a) (h2:b≤e):Zeros S a b:=fun j hj1 hj2=>h j (by omega) (by omega)
theorem Zeros.out {S T:ScD} {s e a b:Nat} (h:Zeros S a b) (ho:OutE S T s e) (h1:e≤a):Zeros T a b:=fun j hj1 hj2=>by rw [ho j (by omega)];exact h j hj1 hj2
theorem seq_res {p:ProgD} {f:Nat} (hr:∀ i s S,firstF p.nodes f i=some s→i<S.errs.length→Zeros S s (i+1)→Res S (walkF p f i S) s (i+1) (walkE p f i ⟨S.vis,S.next⟩)) {r:List Int} {s e:Nat} (h:Cover p.nodes f r s e):∀ S,e≤S.errs.length→Zeros S s e→Res S (r.foldl (fun S k=>walkF p f k.toNat S) S) s e (seqE (walkE p f) r ⟨S.vis,S.next⟩):=by
 induction h with
 | nil s=>intro S _ _;exact ⟨fun T h=>(by cases h;exact ⟨rfl,rfl,fun j h1 h2=>by omega⟩),fun y h=>(by cases h)⟩
 | cons r s m e h1 h2 ih =>
  intro S he hz;have q1:=zaaY h1;have q2:=h2.le';have ho:=zbpY p f m s S h1 (by omega);simp only [List.foldl_cons,Int.toNat_natCast,seqE];refine (hr m s S h1 (by omega) (hz.sub (Nat.le_refl _) q2)).then_ (by omega) q2 (seq_out (zbpY p f) h2 _ (by rw [zbaY h1];exact he)) (fun T hT=>?_)
  obtain ⟨g1,g2,_⟩:=(hr m s S h1 (by omega) (hz.sub (Nat.le_refl _) q2)).ok T hT
  have:=ih (walkF p f m S) (by rw [zbaY h1];exact he) ((hz.sub (a:=m+1) (by omega) (Nat.le_refl _)).out ho (Nat.le_refl _))
  rw [g1,g2] at this;exact this
theorem blockF_d {p:ProgD} {rec:Nat→ScD→ScD}:∀ (r:List Int) (S:ScD) (d:List ByteArray),(blockF p rec r S d).1=r.foldl (fun S k=>rec k.toNat S) S:=by
 intro r;induction r with
 | nil=>intro S d;rfl
 | cons k r ih=>intro S d;simp only [blockF,List.foldl_cons];exact ih _ _
theorem blockF_decl {p:ProgD} {f:Nat} {r:List Int} {s e:Nat} (h:Cover p.nodes f r s e):∀ S d,e≤S.errs.length→(∀ j,s≤j→j<e→zAt (r.foldl (fun S k=>walkF p f k.toNat S) S).errs j=0)→(blockF p (walkF p f) r S d).2=d ++ declF p r:=by
 induction h with
 | nil s=>intro S d _ _;simp [blockF,declF]
 | cons r s m e h1 h2 ih =>
  intro S d he hz;have q1:=zaaY h1;have q2:=h2.le';simp only [List.foldl_cons,Int.toNat_natCast] at hz;have ho:=seq_out (zbpY p f) h2 (walkF p f m S) (by rw [zbaY h1];exact he)
  have hm:(walkF p f m S).errs.getD m 0=0:=by
   have:=hz m q1 (by omega)
   rw [ho m (by omega)] at this;exact this
  simp only [blockF,declF,Int.toNat_natCast];rw [ih _ _ (by rw [zbaY h1];exact he) (fun j h3 h4=>hz j (by omega) h4)];by_cases hk:(p.at_ m).kind=13
  ·rw [if_pos ⟨hk,hm⟩,if_pos hk,List.append_assoc]
  ·rw [if_neg (fun h=>hk h.1),if_neg hk];simp
theorem zboY (p:ProgD):∀ f i s S,firstF p.nodes f i=some s→i<S.errs.length→Zeros S s (i+1)→Res S (walkF p f i S) s (i+1) (walkE p f i ⟨S.vis,S.next⟩):=by
 intro f;induction f with
 | zero=>intro i s S h;cases h
 | succ f ih =>
  intro i s S h hi hz;have T:=zadY h;have hs:=zaaY h;have hq:=seq_res ih T.cover S (by omega) (hz.sub (Nat.le_refl _) (by omega));have ho:=seq_out (zbpY p f) T.cover S (by omega);have hlen:=(zb4Y (zbbY p f) T.cover S).errs;have hn:p.nodes.getD i noNode=p.at_ i:=rfl;have hcv:=T.cover;rw [hn] at hq ho hlen hcv;have hz1:zAt ((p.at_ i).kids.foldl (fun S k=>walkF p f k.toNat S) S).errs i=0:=by rw [ho i (by omega)];exact hz i hs (by omega)
  simp only [walkF,walkE];by_cases hk:(p.at_ i).kind=19
  ·rw [if_pos hk,if_pos hk]
   have e1:(blockF p (walkF p f) (p.at_ i).kids S []).1=(p.at_ i).kids.foldl (fun S k=>walkF p f k.toNat S) S:=blockF_d _ _ _;refine ⟨fun U hU=>?_,fun y hy=>?_⟩
   ·cases hr:seqE (walkE p f) (p.at_ i).kids ⟨S.vis,S.next⟩ with
    | error x=>rw [hr] at hU;cases hU
    | ok V =>
     rw [hr] at hU;cases hU
     obtain ⟨g1,g2,g3⟩:=hq.ok V hr;have e2:=blockF_decl hcv S [] (by omega) g3;simp only
     rw [e1,show (blockF p (walkF p f) (p.at_ i).kids S []).2=declF p (p.at_ i).kids from by rw [e2];simp,g1,g2];refine ⟨rfl,rfl,fun j h1 h2=>?_⟩
     by_cases e:j=i
     ·subst e;exact hz1
     ·exact g3 j h1 (by omega)
   ·cases hr:seqE (walkE p f) (p.at_ i).kids ⟨S.vis,S.next⟩ with
    | ok V=>rw [hr] at hy;cases hy
    | error x =>
     rw [hr] at hy;cases hy
     obtain ⟨g1,j,g2,g3,g4,g5⟩:=hq.bad _ hr;simp only
     rw [e1];exact ⟨g1,j,g2,by omega,g4,g5⟩
  ·rw [if_neg hk,if_neg hk]
   refine hq.then_ hs (by omega) (endF_out p _ i _ (by rw [hlen];exact hi)) (fun U hU=>?_)
   obtain ⟨g1,g2,_⟩:=hq.ok U hU
   have:=endF_res p (p.at_ i) i ((p.at_ i).kids.foldl (fun S k=>walkF p f k.toNat S) S) (by rw [hlen];exact hi) hz1
   rw [g1,g2] at this;exact this
def walkKE (p:ProgD) (k:Nat):Except Int VN:=walkE p 600 (p.funcs.getD k noFunc).body.toNat ⟨(startS p (p.funcs.getD k noFunc) [] []).vis,(p.funcs.getD k noFunc).params.length⟩
def errK (p:ProgD):Nat→Int
 | 0=>0
 | k+1=>if errK p k≠0 then errK p k else match walkKE p k with | .ok _=>0 | .error e=>e
theorem SynOk.errs {p:ProgD} (h:SynOk p):∀ k,k≤p.funcs.length→(∀ j,startF p.funcs k≤j→zAt (stepK p k).2.1 j=0)∧(errK p k=0→(∀ j,zAt (stepK p k).2.1 j=0)∧∀ m,m<k→∃ T,walkKE p m=.ok T)∧(errK p k≠0→∃ j,j<startF p.funcs k∧zAt (stepK p k).2.1 j=errK p k∧∀ m,m<j→zAt (stepK p k).2.1 m=0):=by
 intro k;induction k with
 | zero =>
  intro _
  have:∀ j,zAt (stepK p 0).2.1 j=0:=by
   intro j;simp only [stepK,zAt,List.getD_eq_getElem?_getD,List.getElem?_replicate];split <;> rfl
  exact ⟨fun j _=>this j,fun _=>⟨this,fun m hm=>by omega⟩,fun h=>absurd rfl h⟩
 | succ k ih =>
  intro hk;obtain ⟨h1,h2,h3⟩:=ih (by omega);obtain ⟨b,hb,hs1,hs2⟩:=h.func (k:=k) (by omega);obtain ⟨q1,q2,q3,_⟩:=h.step k (by omega);have hfl:=zaaY hb.first
  have hout:OutE (startS p (p.funcs.getD k noFunc) (stepK p k).1 (stepK p k).2.1) (walkK p k (stepK p k).1 (stepK p k).2.1) (startF p.funcs k) (b+1):=by
   unfold walkK;rw [hs2];exact zbpY p _ _ _ _ hb.first (by show b<(stepK p k).2.1.length;rw [q2];exact hb.lt)
  have hres:Res (startS p (p.funcs.getD k noFunc) (stepK p k).1 (stepK p k).2.1) (walkK p k (stepK p k).1 (stepK p k).2.1) (startF p.funcs k) (b+1) (walkKE p k):=by
   unfold walkK walkKE;rw [hs2];exact zboY p _ _ _ _ hb.first (by show b<(stepK p k).2.1.length;rw [q2];exact hb.lt) (fun j hj1 _=>h1 j hj1)
  have ho:∀ j,j<startF p.funcs k∨b+1≤j→zAt (stepK p (k+1)).2.1 j=zAt (stepK p k).2.1 j:=hout
  have hlt:startF p.funcs k<startF p.funcs (k+1):=by omega
  refine ⟨fun j hj=>?_,fun he=>?_,fun he=>?_⟩
  ·rw [ho j (by omega)];exact h1 j (by omega)
  ·simp only [errK] at he
   by_cases h0:errK p k≠0
   ·rw [if_pos h0] at he;exact absurd he h0
   rw [if_neg h0] at he;obtain ⟨g1,g2⟩:=h2 (by omega);cases hw:walkKE p k with
   | error e=>rw [hw] at he;exact absurd he (hres.bad e hw).1
   | ok T =>
    obtain ⟨_,_,g3⟩:=hres.ok T hw;refine ⟨fun j=>?_,fun m hm=>?_⟩
    ·by_cases hj:j<startF p.funcs k∨b+1≤j
     ·rw [ho j hj];exact g1 j
     ·exact g3 j (by omega) (by omega)
    ·by_cases e:m=k
     ·subst e;exact ⟨T,hw⟩
     ·exact g2 m (by omega)
  ·simp only [errK] at he ⊢
   by_cases h0:errK p k≠0
   ·rw [if_pos h0]
    obtain ⟨j,g1,g2,g3⟩:=h3 h0;exact ⟨j,by omega,by rw [ho j (by omega)];exact g2,fun m hm=>by rw [ho m (by omega)];exact g3 m hm⟩
   ·rw [if_neg h0] at he ⊢
    obtain ⟨g1,_⟩:=h2 (by omega);cases hw:walkKE p k with
    | ok T=>rw [hw] at he;exact absurd rfl he
    | error e =>
     obtain ⟨_,j,g2,g3,g4,g5⟩:=hres.bad e hw
     exact ⟨j,by omega,g4,fun m hm=>by
      by_cases hm2:m<startF p.funcs k
      ·rw [ho m (by omega)];exact g1 m
      ·exact g5 m (by omega) hm⟩
theorem firstE_none {l:List Int}:∀ i,(∀ j,zAt l j=0)→firstE l i=none:=by
 induction l with
 | nil=>intro i _;rfl
 | cons e r ih =>
  intro i h;have h0:e=0:=h 0;unfold firstE;rw [if_neg (by omega)];exact ih _ (fun j=>h (j+1))
theorem firstE_some {l:List Int}:∀ i j x,zAt l j=x→x≠0→(∀ m,m<j→zAt l m=0)→firstE l i=some (i+j,x):=by
 induction l with
 | nil=>intro i j x h hx _;exact absurd h.symm hx
 | cons e r ih =>
  intro i j x h hx hm;unfold firstE;cases j with
  | zero =>
   have:e=x:=h
   subst this;rw [if_pos hx];rfl
  | succ j =>
   have h0:e=0:=hm 0 (by omega);rw [if_neg (by omega),ih (i+1) j x h hx (fun m h=>hm (m+1) (by omega)),show i+1+j=i+(j+1) by omega]
def errP (p:ProgD):Int:=if synF p≠0 then synF p else if (funsF p).2≠0 then (funsF p).2 else errK p p.funcs.length
theorem zb2Y (p:ProgD):(studyF p).err=errP p:=by
 unfold studyF errP;rw [zb8Y];by_cases h1:synF p≠0
 ·rw [if_pos h1,if_pos h1]
 rw [if_neg h1,if_neg h1];by_cases h2:(funsF p).2≠0
 ·rw [if_pos h2,if_pos h2]
 rw [if_neg h2,if_neg h2];obtain ⟨_,g1,g2⟩:=(synF_ok (by omega:synF p=0)).errs p.funcs.length (Nat.le_refl _);by_cases h3:errK p p.funcs.length=0
 ·rw [firstE_none 0 (g1 h3).1,h3]
 ·obtain ⟨j,_,h4,h5⟩:=g2 h3
  rw [firstE_some 0 j _ h4 h3 h5]
section
structure WkD where
 vis:List (ByteArray × Int)
 next:Int
 slot:List Int
 node:Int
 err:Int
def failW (x:WkD) (i e:Int):WkD:=if x.err=0 then { x with node:=i,err:=e } else x
def visW (v:List (ByteArray × Int)) (s:ByteArray):Int:=(alGet v s).getD (-1)
def callE (p:ProgD) (n:NodeD):Int:=errW (if n.kind=12 then lookL hostL n.text else wantF p n.text) n.kids.length
def declW (x:WkD) (s:ByteArray):WkD:={ x with vis:=x.vis ++ [(s,x.next)],next:=x.next+1 }
def setW (x:WkD) (i:Nat) (v:Int):WkD:={ x with slot:=x.slot.set i v }
def varW (x:WkD) (i:Nat) (s:ByteArray):WkD:=if visW x.vis s<0 then failW (setW x i (visW x.vis s)) i 4 else setW x i (visW x.vis s)
def letC (x:WkD) (i:Nat) (s:ByteArray):WkD:=if 0≤visW x.vis s then failW x i 6 else if 32≤x.next then failW x i 3 else x
def letW (x:WkD) (i:Nat) (s:ByteArray):WkD:=setW (declW (letC x i s) s) i (letC x i s).next
def endW (p:ProgD) (n:NodeD) (i mark:Nat) (x:WkD):WkD :=
 if n.kind=19 then { x with vis:=x.vis.take mark }
 else if n.kind=5∨n.kind=14 then varW x i n.text
 else if n.kind=13 then letW x i n.text
 else if n.kind=11∨n.kind=12 then (if callE p n=0 then x else failW x i (callE p n))
 else x
def visitW (p:ProgD):Nat→Nat→WkD→WkD
 | 0,_,x=>x
 | f+1,i,x=>endW p (p.at_ i) i x.vis.length ((p.at_ i).kids.foldl (fun y k=>visitW p f k.toNat y) x)
section
variable {α β:Type} [DecidableEq α]
theorem alGet_none {l:List (α × β)} {a:α}:alGet l a=none↔∀ q∈l,q.1≠a:=by
 induction l with
 | nil=>simp [alGet]
 | cons q r ih =>
  obtain ⟨k,v⟩:=q;simp only [alGet];by_cases h:k=a
  ·rw [if_pos h];simp [h]
  ·rw [if_neg h,ih];simp [h]
theorem alSet_new {l:List (α × β)} {a:α} {x:β} (h:alGet l a=none):alSet l a x=l ++ [(a,x)]:=by
 induction l with
 | nil=>rfl
 | cons q r ih =>
  obtain ⟨k,v⟩:=q;simp only [alGet] at h;split at h
  ·cases h
  ·rename_i hk
   simp only [alSet,if_neg hk,ih h,List.cons_append]
theorem alDel_new {V D:List (α × β)} {a:α} {x:β} (h:alGet V a=none):alDel (V ++ (a,x) :: D) a=V ++ D:=by
 unfold alDel;rw [List.eraseP_append_right]
 ·rw [List.eraseP_cons_of_pos (by simp)]
 ·intro q hq
  simpa using alGet_none.1 h q hq
theorem alGet_sub {V W:List (α × β)} {a:α} (h:alGet W a=none) (hs:∀ q∈V,q∈W):alGet V a=none:=alGet_none.2 (fun q hq=>alGet_none.1 h q (hs q hq))
def Fresh:List (α × β)→List (α × β)→Prop
 | _,[]=>True
 | V,q :: D=>alGet V q.1=none∧Fresh (V ++ [q]) D
theorem Fresh.sub:∀ {D V W:List (α × β)},Fresh W D→(∀ q∈V,q∈W)→Fresh V D
 | [],_,_,_,_=>trivial
 | q :: D,V,W,h,hs=>⟨alGet_sub h.1 hs,h.2.sub (fun r hr=>by
   rcases List.mem_append.1 hr with hr | hr
   ·exact List.mem_append_left _ (hs r hr)
   ·exact List.mem_append_right _ hr)⟩
theorem Fresh.append:∀ {D E V:List (α × β)},Fresh V D→Fresh (V ++ D) E→Fresh V (D ++ E)
 | [],_,_,_,h=>by simpa using h
 | q :: D,E,V,h,g=>⟨h.1,h.2.append (by simpa using g)⟩
theorem Fresh.del:∀ {D V:List (α × β)},Fresh V D→(D.map (·.1)).foldl alDel (V ++ D)=V
 | [],V,_=>by simp
 | q :: D,V,h=>by
  obtain ⟨k,v⟩:=q;rw [List.map_cons,List.foldl_cons,alDel_new h.1];exact (h.2.sub (fun r hr=>List.mem_append_left _ hr)).del
end
theorem zbmY {x:WkD} {i e:Int} (h:x.err≠0):failW x i e=x:=by unfold failW;rw [if_neg h]
theorem za3Y {x:WkD} {i e:Int} (h:x.err=0):(failW x i e).err=e:=by unfold failW;rw [if_pos h]
theorem za4Y (x:WkD) (i e:Int):(failW x i e).vis=x.vis∧(failW x i e).next=x.next∧(failW x i e).slot=x.slot:=by
 unfold failW;split <;> exact ⟨rfl,rfl,rfl⟩
theorem endW_err {p:ProgD} {n:NodeD} {i m:Nat} {x:WkD} (h:x.err≠0):(endW p n i m x).err=x.err:=by
 unfold endW;split
 ·rfl
 split
 ·unfold varW
  split
  ·rw [zbmY (by exact h)];rfl
  ·rfl
 split
 ·unfold letW letC
  split
  ·rw [zbmY h];rfl
  split
  ·rw [zbmY h];rfl
  ·rfl
 split
 ·split
  ·rfl
  ·rw [zbmY h]
 ·rfl
theorem zb6Y (p:ProgD):∀ f i x,x.err≠0→(visitW p f i x).err=x.err
 | 0,_,_,_=>rfl
 | f+1,i,x,h=>by
  have hq:∀ (r:List Int) (y:WkD),y.err≠0→(r.foldl (fun y k=>visitW p f k.toNat y) y).err=y.err:=by
   intro r;induction r with
   | nil=>intro y _;rfl
   | cons k r ih =>
    intro y hy;have h1:=zb6Y p f k.toNat y hy;rw [List.foldl_cons,ih _ (by rw [h1];exact hy),h1]
  have h1:=hq (p.at_ i).kids x h;simp only [visitW];rw [endW_err (by rw [h1];exact h),h1]
theorem seqW_err (p:ProgD) (f:Nat):∀ (r:List Int) (y:WkD),y.err≠0→(r.foldl (fun y k=>visitW p f k.toNat y) y).err=y.err
 | [],_,_=>rfl
 | k :: r,y,hy=>by
  have h1:=zb6Y p f k.toNat y hy;rw [List.foldl_cons,seqW_err p f r _ (by rw [h1];exact hy),h1]
structure RelW (x:WkD) (S:ScD):Prop where
 vis:x.vis=S.vis
 next:x.next=S.next
 slot:x.slot=S.slots
 err:x.err=0
 pos:∀ q∈x.vis,0≤q.2
 nx:0≤x.next∧x.next≤32
theorem visW_neg {v:List (ByteArray × Int)} {s:ByteArray} (h:∀ q∈v,0≤q.2):visW v s<0↔alGet v s=none:=by
 unfold visW;induction v with
 | nil=>simp [alGet]
 | cons q r ih =>
  obtain ⟨k,w⟩:=q;simp only [alGet];by_cases hk:k=s
  ·rw [if_pos hk]
   have:=h (k,w) (by simp)
   simp only [Option.getD_some,reduceCtorEq,iff_false];simp only at this;omega
  ·rw [if_neg hk]
   exact ih (fun q hq=>h q (by simp [hq]))
def declN (n:NodeD):List ByteArray:=if n.kind=13 then [n.text] else []
def LawW (x y:WkD) (S S':ScD) (names:List ByteArray) (r:Except Int VN):Prop:=match r with
 | .ok _=>RelW y S'∧∃ D,S'.vis=S.vis ++ D∧D.map (·.1)=names∧Fresh S.vis D
 | .error e=>y.err=e
theorem endW_law (p:ProgD) (n:NodeD) (i m:Nat) {x:WkD} {S:ScD} (hk:n.kind≠19) (hR:RelW x S):LawW x (endW p n i m x) S (endF p n i S) (declN n) (endE p n ⟨S.vis,S.next⟩):=by
 have hd:n.kind≠13→declN n=[]:=fun h=>by unfold declN;rw [if_neg h]
 unfold endW endE endF LawW;rw [if_neg hk];by_cases h5:n.kind=5∨n.kind=14
 ·rw [if_pos h5,if_pos h5,if_pos h5]
  cases hg:alGet S.vis n.text with
  | some k =>
   have hv:visW x.vis n.text=k:=by unfold visW;rw [hR.vis,hg];rfl
   have h0:¬ visW x.vis n.text<0:=by
    rw [visW_neg hR.pos,hR.vis,hg];simp
   simp only [guardE,Option.isSome_some,if_true];unfold varW;rw [if_neg h0,hv];exact ⟨⟨hR.vis,hR.next,by simp only [setW];rw [hR.slot],hR.err,hR.pos,hR.nx⟩,[],by simp,by rw [hd (by omega)];rfl,trivial⟩
  | none =>
   have h0:visW x.vis n.text<0:=by rw [visW_neg hR.pos,hR.vis,hg]
   simp only [guardE,Option.isSome_none,Bool.false_eq_true,if_false];rw [if_neg (by decide)];simp only
   unfold varW;rw [if_pos h0,za3Y (by exact hR.err)]
 rw [if_neg h5,if_neg h5,if_neg h5];by_cases h13:n.kind=13
 ·rw [if_pos h13,if_pos h13,if_pos h13]
  cases hg:alGet S.vis n.text with
  | some k =>
   have h0:0≤visW x.vis n.text:=by
    rcases Int.lt_or_le (visW x.vis n.text) 0 with h | h
    ·rw [visW_neg hR.pos,hR.vis,hg] at h;cases h
    ·exact h
   simp only [Option.isSome_some,if_true];unfold letW letC;rw [if_pos h0];show (failW x i 6).err=6;exact za3Y hR.err
  | none =>
   have h0:¬ 0≤visW x.vis n.text:=by
    have:visW x.vis n.text<0:=by rw [visW_neg hR.pos,hR.vis,hg]
    omega
   simp only [Option.isSome_none,Bool.false_eq_true,if_false];by_cases h32:S.next=32
   ·rw [if_pos h32]
    simp only
    unfold letW letC;rw [if_neg h0,if_pos (by rw [hR.next];omega)];show (failW x i 3).err=3;exact za3Y hR.err
   ·rw [if_neg h32]
    simp only
    have h32':¬ 32≤x.next:=by have:=hR.nx.2;rw [hR.next] at this ⊢;omega
    unfold letW letC letF;rw [if_neg h0,if_neg h32',hg];simp only [Option.isSome_none,Bool.false_eq_true,if_false];rw [if_neg h32,alSet_new hg];refine ⟨⟨?_,?_,?_,hR.err,?_,?_⟩,[(n.text,S.next)],rfl,?_,?_⟩
    ·simp only [setW,declW];rw [hR.vis,hR.next]
    ·simp only [setW,declW];rw [hR.next]
    ·simp only [setW,declW];rw [hR.slot,hR.next]
    ·intro q hq
     simp only [setW,declW] at hq;rcases List.mem_append.1 hq with hq | hq
     ·exact hR.pos q hq
     ·simp at hq;subst hq;exact hR.nx.1
    ·simp only [setW,declW];have:=hR.nx;omega
    ·unfold declN;rw [if_pos h13];rfl
    ·exact ⟨hg,trivial⟩
 rw [if_neg h13,if_neg h13,if_neg h13];by_cases h11:n.kind=11
 ·have hc:callE p n=errW (wantF p n.text) n.kids.length:=by unfold callE;rw [if_neg (by omega)]
  simp only [if_pos h11,if_pos (show n.kind=11∨n.kind=12 from .inl h11),hc];by_cases h0:errW (wantF p n.text) n.kids.length=0
  ·simp only [guardE,h0,if_true]
   exact ⟨⟨hR.vis,hR.next,hR.slot,hR.err,hR.pos,hR.nx⟩,[],by simp,by rw [hd h13];rfl,trivial⟩
  ·simp only [guardE,h0,if_false]
   exact za3Y hR.err
 by_cases h12:n.kind=12
 ·have hc:callE p n=errW (lookL hostL n.text) n.kids.length:=by unfold callE;rw [if_pos h12]
  simp only [if_neg h11,if_pos h12,if_pos (show n.kind=11∨n.kind=12 from .inr h12),hc];by_cases h0:errW (lookL hostL n.text) n.kids.length=0
  ·simp only [guardE,h0,if_true]
   exact ⟨⟨hR.vis,hR.next,hR.slot,hR.err,hR.pos,hR.nx⟩,[],by simp,by rw [hd h13];rfl,trivial⟩
  ·simp only [guardE,h0,if_false]
   exact za3Y hR.err
 simp only [if_neg h11,if_neg h12,if_neg (show ¬ (n.kind=11∨n.kind=12) from fun h=>h.elim h11 h12)];exact ⟨⟨hR.vis,hR.next,hR.slot,hR.err,hR.pos,hR.nx⟩,[],by simp,by rw [hd h13];rfl,trivial⟩
theorem seqW_law {p:ProgD} {f:Nat} (hr:∀ i s x S,firstF p.nodes f i=some s→i<S.errs.length→Zeros S s (i+1)→RelW x S→LawW x (visitW p f i x) S (walkF p f i S) (declN (p.at_ i)) (walkE p f i ⟨S.vis,S.next⟩)) {r:List Int} {s e:Nat} (h:Cover p.nodes f r s e):∀ x S,e≤S.errs.length→Zeros S s e→RelW x S→LawW x (r.foldl (fun y k=>visitW p f k.toNat y) x) S (r.foldl (fun S k=>walkF p f k.toNat S) S) (declF p r) (seqE (walkE p f) r ⟨S.vis,S.next⟩):=by
 induction h with
 | nil s=>intro x S _ _ hR;exact ⟨hR,[],by simp,rfl,trivial⟩
 | cons r s m e h1 h2 ih =>
  intro x S he hz hR;have q1:=zaaY h1;have q2:=h2.le';have ho:=zbpY p f m s S h1 (by omega);have hres:=zboY p f m s S h1 (by omega) (hz.sub (Nat.le_refl _) q2);have hl:=hr m s x S h1 (by omega) (hz.sub (Nat.le_refl _) q2) hR;simp only [List.foldl_cons,Int.toNat_natCast,seqE,declF];cases hw:walkE p f m ⟨S.vis,S.next⟩ with
  | error x' =>
   rw [hw] at hl;simp only [LawW,Except.bind] at hl ⊢;rw [seqW_err p f r _ (by rw [hl];exact (hres.bad _ hw).1),hl]
  | ok T =>
   rw [hw] at hl;obtain ⟨hR1,D,hv,hdn,hf⟩:=hl;obtain ⟨g1,g2,_⟩:=hres.ok T hw;have h3:=ih (visitW p f m x) (walkF p f m S) (by rw [zbaY h1];exact he) ((hz.sub (a:=m+1) (by omega) (Nat.le_refl _)).out ho (Nat.le_refl _)) hR1;rw [g1,g2] at h3;simp only [Except.bind];cases hs:seqE (walkE p f) r ⟨T.vis,T.next⟩ with
   | error y=>rw [show (⟨T.vis,T.next⟩:VN)=T from rfl] at hs h3;rw [hs] at h3;exact h3
   | ok U =>
    rw [show (⟨T.vis,T.next⟩:VN)=T from rfl] at hs h3;rw [hs] at h3;obtain ⟨hR2,E,hv2,hdn2,hf2⟩:=h3;refine ⟨hR2,D ++ E,?_,?_,?_⟩
    ·rw [hv2,hv,List.append_assoc]
    ·rw [List.map_append,hdn,hdn2];rfl
    ·refine hf.append ?_
     rw [← hv];exact hf2
theorem visit_law (p:ProgD):∀ f i s x S,firstF p.nodes f i=some s→i<S.errs.length→Zeros S s (i+1)→RelW x S→LawW x (visitW p f i x) S (walkF p f i S) (declN (p.at_ i)) (walkE p f i ⟨S.vis,S.next⟩):=by
 intro f;induction f with
 | zero=>intro i s x S h;cases h
 | succ f ih =>
  intro i s x S h hi hz hR;have T:=zadY h;have hs:=zaaY h;have hn:p.nodes.getD i noNode=p.at_ i:=rfl;have hcv:=T.cover;have hfits:=T.fits;rw [hn] at hcv hfits;have hl:=seqW_law ih hcv x S (by omega) (hz.sub (Nat.le_refl _) (by omega)) hR;have hq:=seq_res (zboY p f) hcv S (by omega) (hz.sub (Nat.le_refl _) (by omega));simp only [visitW,walkF,walkE];by_cases hk:(p.at_ i).kind=19
  ·rw [if_pos hk,if_pos hk]
   have e1:(blockF p (walkF p f) (p.at_ i).kids S []).1=(p.at_ i).kids.foldl (fun S k=>walkF p f k.toNat S) S:=blockF_d _ _ _;have hdn:declN (p.at_ i)=[]:=by unfold declN;rw [if_neg (by omega)]
   cases hw:seqE (walkE p f) (p.at_ i).kids ⟨S.vis,S.next⟩ with
   | error y =>
    rw [hw] at hl;simp only [LawW,Except.map] at hl ⊢;rw [endW_err (by rw [hl];exact (hq.bad _ hw).1),hl]
   | ok V =>
    rw [hw] at hl;obtain ⟨hR1,D,hv,hd,hf⟩:=hl;obtain ⟨_,_,g3⟩:=hq.ok V hw;have e2:=blockF_decl hcv S [] (by omega) g3;simp only [Except.map,LawW];rw [show (blockF p (walkF p f) (p.at_ i).kids S []).2=declF p (p.at_ i).kids from by rw [e2];simp,e1,hv,← hd,hf.del,hdn];unfold endW;rw [if_pos hk];refine ⟨⟨?_,hR1.next,hR1.slot,hR1.err,?_,hR1.nx⟩,[],by simp,rfl,trivial⟩
    ·simp only
     rw [hR1.vis,hv,hR.vis,List.take_left]
    ·intro q hq
     exact hR1.pos q (List.mem_of_mem_take hq)
  ·rw [if_neg hk,if_neg hk]
   have hnl:declF p (p.at_ i).kids=[]:=by
    have:∀ k∈(p.at_ i).kids,(p.at_ k.toNat).kind≠13:=by
     intro k hkm;obtain ⟨j,hj,rfl⟩:=List.mem_iff_getElem.1 hkm;obtain ⟨m,hm,_,hfit⟩:=hfits j hj;rw [List.getD_eq_getElem?_getD,List.getElem?_eq_getElem hj,Option.getD_some] at hm;rw [hm,Int.toNat_natCast];intro h13;have h13':(p.nodes.getD m noNode).kind=13:=h13;unfold fitsB at hfit;rw [if_neg hk] at hfit;rw [h13'] at hfit;split at hfit
     ·exact absurd hfit (by decide)
     ·exact absurd hfit (by decide)
    revert this
    generalize (p.at_ i).kids=r;intro this;induction r with
    | nil=>rfl
    | cons k r ihr =>
     simp only [declF];rw [if_neg (this k (List.mem_cons_self ..)),ihr (fun y hy=>this y (List.mem_cons_of_mem _ hy))];rfl
   rw [hnl] at hl;cases hw:seqE (walkE p f) (p.at_ i).kids ⟨S.vis,S.next⟩ with
   | error y =>
    rw [hw] at hl;simp only [LawW,Except.bind] at hl ⊢;rw [endW_err (by rw [hl];exact (hq.bad _ hw).1),hl]
   | ok V =>
    rw [hw] at hl;obtain ⟨hR1,D,hv,hd,hf⟩:=hl;have hD:D=[]:=by simpa using hd
    subst hD;rw [List.append_nil] at hv;obtain ⟨g1,g2,_⟩:=hq.ok V hw;have h3:=endW_law p (p.at_ i) i x.vis.length hk hR1;simp only [Except.bind];rw [g1,g2] at h3;rw [show (⟨V.vis,V.next⟩:VN)=V from rfl] at h3;cases he:endE p (p.at_ i) V with
    | error y=>rw [he] at h3;exact h3
    | ok U =>
     rw [he] at h3;obtain ⟨hR2,D,hv2,hd2,hf2⟩:=h3;refine ⟨hR2,D,?_,hd2,?_⟩
     ·rw [hv2,hv]
     ·rw [← hv];exact hf2
end
def parW (x:WkD) (ps:List ByteArray):WkD:=ps.foldl declW { x with vis:=[],next:=0 }
def runW (p:ProgD) (x:WkD) (k:Nat):WkD:=visitW p 600 (p.funcs.getD k noFunc).body.toNat (parW x (p.funcs.getD k noFunc).params)
def newW (p:ProgD):WkD:=⟨[],0,List.replicate p.nodes.length (-1),0,0⟩
def allW (p:ProgD):Nat→WkD
 | 0=>newW p
 | k+1=>runW p (allW p k) k
def pairsN (ps:List ByteArray) (n:Nat):List (ByteArray × Int):=(List.range n).map fun i=>(ps.getD i ⟨#[]⟩,(i:Int))
theorem zbsY (ps:List ByteArray) (n:Nat):pairsN ps (n+1)=pairsN ps n ++ [(ps.getD n ⟨#[]⟩,(n:Int))]:=by simp [pairsN,List.range_succ]
theorem pairs_par (x:WkD) (ps:List ByteArray):∀ n,n≤ps.length→(ps.take n).foldl declW { x with vis:=[],next:=0 }={ x with vis:=pairsN ps n,next:=n }
 | 0,_=>by simp [pairsN]
 | n+1,h=>by
  rw [List.take_succ_eq_append_getElem (by omega),List.foldl_append,pairs_par x ps n (by omega),zbsY];simp only [List.foldl_cons,List.foldl_nil,declW];rw [zaiZ (by omega:n<ps.length)];rfl
theorem parW_eq (x:WkD) (ps:List ByteArray):parW x ps={ x with vis:=pairsN ps ps.length,next:=ps.length }:=by
 have:=pairs_par x ps ps.length (Nat.le_refl _)
 rwa [List.take_length] at this
theorem dup_ne {l:List ByteArray} (h:dupB l=false) {i n:Nat} (hi:i<n) (hn:n<l.length):l.getD i ⟨#[]⟩≠l.getD n ⟨#[]⟩:=by
 intro e;unfold dupB at h;have h1:=List.any_eq_false.1 h n (List.mem_range.2 hn);refine h1 (List.any_eq_true.2 ⟨l.getD i ⟨#[]⟩,?_,decide_eq_true e⟩)
 rw [List.mem_iff_getElem];refine ⟨i,by rw [List.length_take];omega,?_⟩
 rw [List.getElem_take,zaiZ (by omega)]
theorem start_pairs {ps:List ByteArray} (h:dupB ps=false):∀ n,n≤ps.length→(List.range n).foldl (fun m i=>alSet m (ps.getD i ⟨#[]⟩) (i:Int)) []=pairsN ps n
 | 0,_=>rfl
 | n+1,hn=>by
  rw [List.range_succ,List.foldl_append,start_pairs h n (by omega),zbsY];simp only [List.foldl_cons,List.foldl_nil];refine alSet_new (alGet_none.2 (fun q hq=>?_))
  obtain ⟨i,hi,rfl⟩:=List.mem_map.1 hq;exact dup_ne h (List.mem_range.1 hi) (by omega)
theorem funcs_dup {p:ProgD}:∀ (l:List FuncD) (i:Nat),funcsF p l i=none→∀ f∈l,dupB f.params=false
 | [],_,_=>by simp
 | g :: r,i,h=>by
  simp only [funcsF] at h;split at h
  ·cases h
  ·rename_i hg
   intro f hf;rcases List.mem_cons.1 hf with rfl | hf
   ·rw [← Bool.not_eq_true]
    exact fun hd=>hg (.inr (.inr hd))
   ·exact funcs_dup r _ h f hf
theorem funs_none {p:ProgD} (h:(funsF p).2=0):funcsF p p.funcs 0=none:=by
 have h6:∀ (l:List FuncD) i r,funcsF p l i=some r→r.2=6:=by
  intro l;induction l with
  | nil=>intro i r h;cases h
  | cons f l ih =>
   intro i r h;simp only [funcsF] at h;split at h
   ·cases h;rfl
   ·exact ih _ _ h
 unfold funsF at h;cases hf:funcsF p p.funcs 0 with
 | none=>rfl
 | some r=>rw [hf] at h;have:=h6 _ _ _ hf;simp only at h;omega
theorem par_rel {p:ProgD} (h:SynOk p) (hd:(funsF p).2=0) {k:Nat} (hk:k<p.funcs.length) {x:WkD} {sl er:List Int} (hx:x.slot=sl) (he:x.err=0):RelW (parW x (p.funcs.getD k noFunc).params) (startS p (p.funcs.getD k noFunc) sl er):=by
 have h1:=funcs_dup _ _ (funs_none hd) _ (List.getElem_mem hk);have h2:=h.params _ (List.getElem_mem hk);rw [parW_eq,zaiZ hk];refine ⟨(start_pairs h1 _ (Nat.le_refl _)).symm,rfl,hx,he,fun q hq=>?_,⟨by simp only;omega,by simp only;omega⟩⟩
 obtain ⟨i,_,rfl⟩:=List.mem_map.1 hq;simp only
 omega
theorem all_law {p:ProgD} (hs:synF p=0) (hf:(funsF p).2=0):∀ k,k≤p.funcs.length→(allW p k).err=errK p k∧(errK p k=0→(allW p k).slot=(stepK p k).1):=by
 have h:=synF_ok hs;intro k;induction k with
 | zero=>intro _;exact ⟨rfl,fun _=>rfl⟩
 | succ k ih =>
  intro hk;obtain ⟨g1,g2⟩:=ih (by omega);have hpe:(parW (allW p k) (p.funcs.getD k noFunc).params).err=(allW p k).err:=by rw [parW_eq]
  by_cases h0:errK p k=0
  ·obtain ⟨b,hb,hs1,hs2⟩:=h.func (k:=k) (by omega)
   obtain ⟨q1,q2,_,_⟩:=h.step k (by omega);obtain ⟨e1,_,_⟩:=h.errs k (by omega);have hR:=par_rel h hf (k:=k) (by omega) (x:=allW p k) (er:=(stepK p k).2.1) (g2 h0) (by rw [g1];exact h0);have hl:=visit_law p 600 b _ _ _ hb.first (by show b<(stepK p k).2.1.length;rw [q2];exact hb.lt) (fun j hj1 _=>e1 j hj1) hR
   have hke:walkKE p k=walkE p 600 b ⟨(startS p (p.funcs.getD k noFunc) (stepK p k).1 (stepK p k).2.1).vis,(startS p (p.funcs.getD k noFunc) (stepK p k).1 (stepK p k).2.1).next⟩:=by unfold walkKE;rw [hs2];rfl
   rw [← hke] at hl;simp only [allW,runW,errK,stepK,walkK,hs2];rw [if_neg (by omega)];cases hw:walkKE p k with
   | error e =>
    rw [hw] at hl;have hres:=zboY p _ _ _ (startS p (p.funcs.getD k noFunc) (stepK p k).1 (stepK p k).2.1) hb.first (by show b<(stepK p k).2.1.length;rw [q2];exact hb.lt) (fun j hj1 _=>e1 j hj1)
    rw [← hke] at hres;exact ⟨hl,fun h9=>absurd h9 (hres.bad e hw).1⟩
   | ok T =>
    rw [hw] at hl;obtain ⟨hR1,_⟩:=hl;exact ⟨hR1.err,fun _=>hR1.slot⟩
  ·simp only [allW,runW,errK]
   rw [if_pos h0];have h1:(allW p k).err≠0:=by rw [g1];exact h0
   exact ⟨by rw [zb6Y p 600 _ _ (by rw [hpe];exact h1),hpe,g1],fun h9=>absurd h9 h0⟩
theorem step_loc (p:ProgD):∀ n k,k<n→(stepK p n).2.2.getD k 0=(walkK p k (stepK p k).1 (stepK p k).2.1).next∧(stepK p n).2.2.length=n
 | 0,k,h=>by omega
 | n+1,k,h=>by
  have hlen:(stepK p n).2.2.length=n:=by
   cases n with
   | zero=>rfl
   | succ m=>exact (step_loc p (m+1) 0 (by omega)).2
  simp only [stepK];refine ⟨?_,by rw [List.length_append,hlen];rfl⟩
  by_cases e:k=n
  ·subst e
   rw [List.getD_eq_getElem?_getD,List.getElem?_append_right (by omega),hlen];simp
  ·rw [List.getD_eq_getElem?_getD,List.getElem?_append_left (by omega),← List.getD_eq_getElem?_getD]
   exact (step_loc p n k (by omega)).1
def RowE (w:World) (g:Nat) (l:List Value):Prop:=∀ (i:Nat) (v:Value),l[i]? = some v→w.cell? ⟨g,i,none⟩=some v
theorem RowE.of_own {w:World} {b n sz cap g:Nat} {e:TypeId} {xs:List Value} (h:w.ownsRow b e sz (.slice (some ⟨g,0,none⟩) n cap) n xs):RowE w g xs:=fun i v hv=>by
 rcases h.2 with ⟨h1,_⟩ | ⟨g',cap',cur,h1,_,hb,_,_,_,ht⟩
 ·cases h1
 ·injection h1 with h1 h2 h3
  injection h1 with h1
  injection h1 with h1
  subst h1;rw [← ht,List.getElem?_take] at hv;split at hv
  ·exact Blk.cell hb i v (by simpa using hv)
  ·cases hv
end Go.Proofs.YthiimbhjpdphpaaGreatDoor
