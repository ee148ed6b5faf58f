/- E0, E1, E2, E3 -/
import Derived.Test.YthiimbhjpdphpaaGreatDoorPP2
import Derived.Test.YthiimbhjpdphpaaGreatDoorPGN0
set_option linter.unusedVariables false
set_option linter.unusedSimpArgs false
namespace Go.Proofs.YthiimbhjpdphpaaGreatDoor
section
open Go.RowKit
/-- The cells from a up to b. -/
def sec (v:ValD) (a b:Nat):ValD:=(v.drop a).take (b - a)
theorem sec_get (v:ValD) (a b i:Nat) (h:a+i<b):(sec v a b)[i]? = v[a+i]?:=by
 unfold sec
 rw [List.getElem?_take,if_pos (by omega),List.getElem?_drop]
theorem sec_len (v:ValD) (a b:Nat) (hb:b≤v.length):(sec v a b).length=b - a:=by unfold sec;simp;omega
/-- What lies at a in v, seen from a on. -/
def shS (a:Nat) (s:Sh):Sh:=⟨s.j - a,s.d,s.b⟩
/-- The value at a + i, read in the cells from a up to b. -/
def LikeG (a b:Nat) (g g':Nat→Option Sh):Prop:=∀ i s,g (a+i)=some s→s.j≤b→g' i=some (shS a s)
theorem elems_sec {a b:Nat} {g g':Nat→Option Sh} (hl:LikeG a b g g') (hadv:∀ j s,g j=some s→j<s.j):∀ k s t,a≤s.j→elems g 0 k s=some t→t.j≤b→elems g' 0 k (shS a s)=some (shS a t)
 | 0,s,t,_,h,_=>by
  simp only [elems,Option.some.injEq] at h ⊢
  rw [h]
 | k+1,s,t,hs,h,hb=>by
  obtain ⟨r,hr,h2⟩:=elems_cons h
  have hr1:=hadv _ _ hr
  have hrb:r.j≤t.j:=elems_mono hadv k ⟨r.j,max s.d (0+r.d),s.b+r.b⟩ t h2
  have he:s.j=a+(s.j - a):=by omega
  rw [he] at hr
  have h3:=hl _ _ hr (by omega)
  have h4:=elems_sec hl hadv k ⟨r.j,max s.d (0+r.d),s.b+r.b⟩ t (by simp only;omega) h2 hb
  rw [elems_some (show g' (shS a s).j=some (shS a r) from h3)]
  exact h4
where elems_mono {g:Nat→Option Sh} (hadv:∀ j s,g j=some s→j<s.j):∀ k (s t:Sh),elems g 0 k s=some t→s.j≤t.j
 | 0,s,t,h=>by simp [elems] at h;rw [h];exact Nat.le_refl _
 | k+1,s,t,h=>by
  obtain ⟨r,hr,h2⟩:=elems_cons h
  have:=hadv _ _ hr
  have:=elems_mono hadv k _ t h2
  simp only at this
  omega
theorem pairs_mono {v:ValD} {g:Nat→Option Sh} (hadv:∀ j s,g j=some s→j<s.j):∀ k last (s t:Sh),pairs v g 0 k last s=some t→s.j≤t.j
 | 0,last,s,t,h=>by simp [pairs] at h;rw [h];exact Nat.le_refl _
 | k+1,last,s,t,h=>by
  obtain ⟨c,r,_,_,hr,h2⟩:=pairs_cons h
  have:=hadv _ _ hr
  have:=pairs_mono hadv k _ _ t h2
  simp only at this
  omega
theorem pairs_sec {v:ValD} {a b:Nat} {g g':Nat→Option Sh} (hl:LikeG a b g g') (hadv:∀ j s,g j=some s→j<s.j):∀ k last s t,a≤s.j→pairs v g 0 k last s=some t→t.j≤b→pairs (sec v a b) g' 0 k last (shS a s)=some (shS a t)
 | 0,last,s,t,_,h,_=>by
  simp only [pairs,Option.some.injEq] at h ⊢
  rw [h]
 | k+1,last,s,t,hs,h,hb=>by
  obtain ⟨c,r,hc,hk,hr,h2⟩:=pairs_cons h
  have hr1:=hadv _ _ hr
  have hrb:r.j≤t.j:=pairs_mono hadv k _ ⟨r.j,max s.d (0+r.d),s.b+(quotedN c.str+1)+r.b⟩ t h2
  have he:s.j+1=a+(s.j - a+1):=by omega
  rw [he] at hr
  have h3:=hl _ _ hr (by omega)
  have h4:=pairs_sec hl hadv k (some c.str) ⟨r.j,max s.d (0+r.d),s.b+(quotedN c.str+1)+r.b⟩ t (by simp only;omega) h2 hb
  have hc':(sec v a b)[(shS a s).j]? = some c:=by
   show (sec v a b)[s.j - a]? = some c
   rw [sec_get v a b _ (by omega),show a+(s.j - a)=s.j by omega]
   exact hc
  rw [pairs_some hc' hk (show g' ((shS a s).j+1)=some (shS a r) from h3)]
  exact h4
theorem parse_sec (v:ValD) (a b:Nat) (hb:b≤v.length):∀ f i s,parse v f (a+i)=some s→s.j≤b→px (sec v a b) i=some (shS a s)
 | 0,i,s,h,_=>by cases h
 | f+1,i,s,h,hsb=>by
  have hadv:=parse_adv v (f+1) _ _ h
  have hl:LikeG a b (parse v f) (px (sec v a b)):=fun j r hr hrb=>parse_sec v a b hb f j r hr hrb
  have hga:∀ j r,parse v f j=some r→j<r.j:=fun j r hr=>(parse_adv v f j r hr).1
  simp only [parse,pstep] at h
  rw [px_eq,pstep,sec_get v a b i (by omega)]
  cases hc:v[a+i]? with
  | none=>rw [hc] at h;cases h
  | some c =>
   rw [hc] at h
   simp only at h ⊢
   split at h
   ·cases h
   rename_i hp
   rw [if_neg hp]
   split at h
   ·rename_i h5
    rw [if_pos h5]
    cases ht:elems (parse v f) 0 c.n.toNat ⟨a+i+1,0,0⟩ with
    | none=>rw [ht] at h;cases h
    | some t =>
     rw [ht] at h
     simp at h
     subst h
     have h6:=elems_sec hl hga _ ⟨a+i+1,0,0⟩ t (by simp only;omega) ht hsb
     have e:shS a ⟨a+i+1,0,0⟩=⟨i+1,0,0⟩:=by unfold shS;simp only [Sh.mk.injEq,and_true];omega
     rw [e] at h6
     rw [h6]
     rfl
   rename_i h5
   rw [if_neg h5]
   split at h
   ·rename_i h6
    rw [if_pos h6]
    cases ht:pairs v (parse v f) 0 c.n.toNat none ⟨a+i+1,0,0⟩ with
    | none=>rw [ht] at h;cases h
    | some t =>
     rw [ht] at h
     simp at h
     subst h
     have h7:=pairs_sec hl hga _ none ⟨a+i+1,0,0⟩ t (by simp only;omega) ht hsb
     have e:shS a ⟨a+i+1,0,0⟩=⟨i+1,0,0⟩:=by unfold shS;simp only [Sh.mk.injEq,and_true];omega
     rw [e] at h7
     rw [h7]
     rfl
   ·rename_i h6
    rw [if_neg h6]
    simp at h
    subst h
    simp only [shS,Option.some.injEq,Sh.mk.injEq,and_true]
    omega
theorem px_sec {v:ValD} {a b:Nat} {r:Sh} (h:px v a=some r) (hb:r.j≤b) (hbl:b≤v.length):px (sec v a b) 0=some ⟨r.j - a,r.d,r.b⟩:=parse_sec v a b hbl _ 0 r h hb
theorem checkF_zero {v:ValD}:checkF v=0↔∃ r,px v 0=some r∧r.j=v.length∧v.any outB=false∧v.any longB=false∧v.length≤200∧r.d≤8∧r.b≤4000:=by
 unfold checkF
 cases h:px v 0 with
 | none=>simp [eSyntax]
 | some r =>
  simp only [Option.some.injEq,exists_eq_left']
  by_cases h1:r.j=v.length
  ·rw [if_neg (by simpa using h1)]
   by_cases h2:v.any outB=true
   ·rw [if_pos h2];simp [h2,eRange]
   ·have h2':v.any outB=false:=by simpa using h2
    rw [if_neg h2]
    split
    ·rename_i h3
     constructor
     ·intro h;simp [eLimit] at h
     ·rintro ⟨_,_,a,b,c,d⟩
      simp [a] at h3
      omega
    ·rename_i h3
     simp at h3
     refine ⟨fun _=>⟨h1,h2',?_,?_⟩,fun _=>rfl⟩
     ·simpa using h3.1
     ·omega
  ·rw [if_pos h1]
   simp [eSyntax,h1]
theorem any_sec {v:ValD} {p:CellD→Bool} (h:v.any p=false) (a b:Nat):(sec v a b).any p=false:=by
 rw [List.any_eq_false] at h ⊢
 exact fun x hx=>h x (List.mem_of_mem_drop (List.mem_of_mem_take hx))
/-- A part of a checked value is checked. -/
theorem check_part {v:ValD} (hv:checkF v=0) {a:Nat} {r:Sh} (h:px v a=some r) (hd:r.d≤8) (hb:r.b≤4000):checkF (sec v a r.j)=0:=by
 obtain ⟨r0,h0,h1,h2,h3,h4,h5,h6⟩:=checkF_zero.1 hv
 have hadv:=px_adv h
 rw [checkF_zero]
 have hl:=sec_len v a r.j hadv.2
 exact ⟨_,px_sec h (Nat.le_refl _) hadv.2,by rw [hl],any_sec h2 _ _,any_sec h3 _ _,by rw [hl];omega,hd,hb⟩
/-- A part at a: its key, if there is one; its value; where the next one begins. -/
def PartOk (v:ValD) (m:Bool) (D:Nat) (B:Int) (a:Nat) (key:ByteArray) (x:ValD) (a2:Nat):Prop :=
 ∃ r,(if m=true then ∃ c,v[a]? = some c∧c.kind=4∧plainB c=true∧key=c.str else key=⟨#[]⟩)∧px v (a+m.toNat)=some r∧x=sec v (a+m.toNat) r.j∧a2=r.j∧r.d≤D∧r.b≤B
inductive ChainV (v:ValD) (m:Bool) (D:Nat) (B:Int):Nat→List (ByteArray × ValD)→Nat→Prop
 | nil (a:Nat):ChainV v m D B a [] a
 | cons {a a2 b:Nat} {key:ByteArray} {x:ValD} {l:List (ByteArray × ValD)}:PartOk v m D B a key x a2→ChainV v m D B a2 l b→ChainV v m D B a ((key,x) :: l) b
def AscFrom:Option ByteArray→List ByteArray→Prop
 | _,[]=>True
 | none,k :: r=>AscFrom (some k) r
 | some l,k :: r=>sleB k l=false∧AscFrom (some k) r
theorem elems_ge {g:Nat→Option Sh} (hg:∀ j s,g j=some s→0≤s.b):∀ k (s t:Sh),elems g 0 k s=some t→s.d≤t.d∧s.b≤t.b
 | 0,s,t,h=>by simp [elems] at h;rw [h];exact ⟨Nat.le_refl _,Int.le_refl _⟩
 | k+1,s,t,h=>by
  obtain ⟨r,hr,h2⟩:=elems_cons h
  have:=hg _ _ hr
  have:=elems_ge hg k _ t h2
  simp only at this
  omega
theorem pairs_ge {v:ValD} {g:Nat→Option Sh} (hv:∀ c∈v,0≤quotedN c.str) (hg:∀ j s,g j=some s→0≤s.b):∀ k last (s t:Sh),pairs v g 0 k last s=some t→s.d≤t.d∧s.b≤t.b
 | 0,last,s,t,h=>by simp [pairs] at h;rw [h];exact ⟨Nat.le_refl _,Int.le_refl _⟩
 | k+1,last,s,t,h=>by
  obtain ⟨c,r,hc,_,hr,h2⟩:=pairs_cons h
  have:=hg _ _ hr
  have:=hv c (List.mem_of_getElem? hc)
  have:=pairs_ge hv hg k _ _ t h2
  simp only at this
  omega
theorem elems_chain {v:ValD} (hg:∀ j s,px v j=some s→0≤s.b):∀ k (s t:Sh),0≤s.b→elems (px v) 0 k s=some t→∃ l,l.length=k∧ChainV v false t.d t.b s.j l t.j
 | 0,s,t,_,h=>by simp [elems] at h;rw [h];exact ⟨[],rfl,.nil _⟩
 | k+1,s,t,hs,h=>by
  obtain ⟨r,hr,h2⟩:=elems_cons h
  have hb:=hg _ _ hr
  have hge:=elems_ge hg k _ t h2
  simp only at hge
  obtain ⟨l,hl,hc⟩:=elems_chain hg k _ t (by simp only;omega) h2
  exact ⟨(⟨#[]⟩,sec v (s.j+false.toNat) r.j) :: l,by simp [hl],.cons ⟨r,rfl,hr,rfl,rfl,by omega,by omega⟩ hc⟩
theorem pairs_chain {v:ValD} (hv:∀ c∈v,0≤quotedN c.str) (hg:∀ j s,px v j=some s→0≤s.b):∀ k last (s t:Sh),0≤s.b→pairs v (px v) 0 k last s=some t→∃ l,l.length=k∧ChainV v true t.d t.b s.j l t.j∧AscFrom last (l.map (·.1))
 | 0,last,s,t,_,h=>by simp [pairs] at h;rw [h];exact ⟨[],rfl,.nil _,by cases last <;> trivial⟩
 | k+1,last,s,t,hs,h=>by
  obtain ⟨c,r,hc,hk,hr,h2⟩:=pairs_cons h
  have hb:=hg _ _ hr
  have hq:=hv c (List.mem_of_getElem? hc)
  have hge:=pairs_ge hv hg k _ _ t h2
  simp only at hge
  obtain ⟨l,hl,hch,ha⟩:=pairs_chain hv hg k _ _ t (by simp only;omega) h2
  unfold keyOk at hk
  rw [Bool.and_eq_true,Bool.and_eq_true] at hk
  refine ⟨(c.str,sec v (s.j+true.toNat) r.j) :: l,by simp [hl],.cons ⟨r,?_,hr,rfl,rfl,by omega,by omega⟩ hch,?_⟩
  ·rw [if_pos rfl];exact ⟨c,hc,of_decide_eq_true hk.2.1,hk.1,rfl⟩
  ·cases last with
   | none=>exact ha
   | some l=>exact ⟨by simpa using hk.2.2,ha⟩
end
section
open Go.RowKit
abbrev ResD:=ValD × Int
def bCel (b:Bool):CellD:=⟨2,if b then 1 else 0,⟨#[]⟩,0⟩
def iCel (n:Int):CellD:=⟨3,n,⟨#[]⟩,0⟩
def sCel (s:ByteArray):CellD:=⟨4,0,s,0⟩
/-- A value, or its error. -/
def okR (v:ValD):ResD:=if checkF v=0 then (v,0) else ([],checkF v)
/-- A value, or the error that a limit is passed. -/
def limR (v:ValD):ResD:=if checkF v=0 then (v,0) else ([],3)
def firstBad:List ValD→Int
 | []=>0
 | x :: r=>if checkF x≠0 then checkF x else firstBad r
def listV (l:List ValD):ValD:=⟨5,0,⟨#[]⟩,(l.length:Nat)⟩ :: l.flatten
def listR (l:List ValD):ResD:=if firstBad l≠0 then ([],firstBad l) else okR (listV l)
/-- The operator of one operand. -/
def unaryR (op:ByteArray) (v:ValD):ResD :=
 if ¬ (op.toList=[45]∨op.toList=[110,111,116]) then ([],4)
 else if checkF v≠0 then ([],checkF v)
 else match v with
  | []=>([],7)
  | c :: _=>if op.toList=[110,111,116]∧c.kind=2 then ([bCel (decide (c.int=0))],0) else if op.toList=[45]∧c.kind=3 then ([iCel (-c.int)],0) else ([],7)
def inRange (n:Int):Bool:=decide (-1000000000000≤n) && decide (n≤1000000000000)
def numR (n:Int):ResD:=if inRange n=true then ([iCel n],0) else ([],8)
/-- Arithmetic, of whole numbers in their range. -/
def arithR (op:List UInt8) (a b:Int):ResD :=
 if op=[43] then numR (a+b)
 else if op=[45] then numR (a - b)
 else if op=[42] then numR (a * b)
 else if b=0 then ([],9)
 else if op=[47] then ([iCel (a.fdiv b)],0)
 else ([iCel (a.fmod b)],0)
def cmpL:List (List UInt8):=[[60],[60,61],[62],[62,61]]
/-- What an operator says of two things, given which is below, which is above. -/
def ordB (op:List UInt8) (lt gt:Bool):Bool:=if op=[60] then lt else if op=[60,61] then !gt else if op=[62] then gt else !lt
def sltB (a b:ByteArray):Bool:=Op.bytesLess a.toList b.toList
def binaryR (op:ByteArray) (a b:ValD):ResD :=
 if op.toList ∉ binL then ([],4)
 else if checkF a≠0 then ([],checkF a)
 else if checkF b≠0 then ([],checkF b)
 else if op.toList=[61,61] then ([bCel (decide (a=b))],0)
 else if op.toList=[33,61] then ([bCel (!decide (a=b))],0)
 else match a,b with
  | x :: a',y :: b' =>
   if x.kind≠y.kind then ([],7)
   else if op.toList∈cmpL then
    (if x.kind=3 then ([bCel (ordB op.toList (decide (x.int<y.int)) (decide (y.int<x.int)))],0)
     else if x.kind=4 then ([bCel (ordB op.toList (sltB x.str y.str) (sltB y.str x.str))],0)
     else ([],7))
   else if x.kind=3 then arithR op.toList x.int y.int
   else if op.toList=[43]∧x.kind=4 then limR [sCel (x.str ++ y.str)]
   else if op.toList=[43]∧x.kind=5 then limR (⟨5,0,⟨#[]⟩,x.n+y.n⟩ :: (a' ++ b'))
   else ([],7)
  | _,_=>([],7)
def partsF (v:ValD) (m:Bool):Nat→Nat→List (ByteArray × ValD)
 | 0,_=>[]
 | k+1,a=>match px v (a+m.toNat) with
  | none=>[]
  | some r=>((if m then (v[a]?.map CellD.str).getD ⟨#[]⟩ else ⟨#[]⟩),sec v (a+m.toNat) r.j) :: partsF v m k r.j
def partsOf (v:ValD):List (ByteArray × ValD):=match v with
 | []=>[]
 | c :: _=>partsF v (decide (c.kind=6)) c.n.toNat 1
theorem ChainV.eq {v:ValD} {m:Bool} {D:Nat} {B:Int} {a b:Nat} {l:List (ByteArray × ValD)} (h:ChainV v m D B a l b):partsF v m l.length a=l:=by
 induction h with
 | nil a=>rfl
 | cons hp _ ih =>
  obtain ⟨r,hk,hr,hx,ha,_,_⟩:=hp
  simp only [List.length_cons,partsF]
  rw [hr]
  simp only
  subst hx ha
  rw [ih]
  congr 2
  cases m with
  | false=>rw [if_neg (by simp)] at hk;simp [hk]
  | true =>
   rw [if_pos rfl] at hk
   obtain ⟨c,hc,_,_,he⟩:=hk
   simp [hc,he]
/-- The parts of a checked list or map. -/
theorem parts_chain {v:ValD} {c:CellD} (hv:checkF v=0) (hs:∀ x∈v,SmallC x) (hc:v[0]? = some c) (hk:c.kind=5∨c.kind=6) :
  (partsOf v).length=c.n.toNat∧0≤c.n∧ChainV v (decide (c.kind=6)) 7 4000 1 (partsOf v) v.length∧(c.kind=6→AscFrom none ((partsOf v).map (·.1))):=by
 obtain ⟨r,h0,h1,h2,h3,h4,h5,h6⟩:=checkF_zero.1 hv
 obtain ⟨hp,hcases⟩:=px_cases h0 hc
 have hlen:v.length≤10000:=by omega
 have hg:∀ j s,px v j=some s→0≤s.b:=fun j s h=>(px_b hlen hs h).1
 have hq:∀ x∈v,0≤quotedN x.str:=fun x hx=>(hs x hx).2.1
 have hn:=plain_n hp hk
 have hpo:partsOf v=partsF v (decide (c.kind=6)) c.n.toNat 1:=by
  cases v with
  | nil=>simp at hc
  | cons x t=>simp at hc;subst hc;rfl
 have mono:∀ {m:Bool} {D D':Nat} {B B':Int} {a b:Nat} {l:List (ByteArray × ValD)},D≤D'→B≤B'→ChainV v m D B a l b→ChainV v m D' B' a l b:=by
  intro m D D' B B' a b l hD hB h
  induction h with
  | nil a=>exact .nil a
  | cons hp _ ih =>
   obtain ⟨r,p1,p2,p3,p4,p5,p6⟩:=hp
   exact .cons ⟨r,p1,p2,p3,p4,by omega,by omega⟩ ih
 rcases hcases with ⟨h5',t,ht,hr⟩ | ⟨h6',t,ht,hr⟩ | ⟨n5,n6,_⟩
 ·obtain ⟨l,hl,hch⟩:=elems_chain hg _ _ t (by simp) ht
  have hsz:0≤sizeN c:=by unfold sizeN;rw [if_neg (by omega),if_neg (by omega),if_neg (by omega),if_neg (by omega)];omega
  subst hr
  simp only at h1 h5 h6
  have hch':ChainV v (decide (c.kind=6)) 7 4000 1 l v.length:=by
   rw [show decide (c.kind=6)=false by simp;omega,← h1]
   exact mono (by omega) (by omega) hch
  have he:=hch'.eq
  rw [hl] at he
  rw [hpo,he]
  exact ⟨hl,hn,hch',fun e=>by omega⟩
 ·obtain ⟨l,hl,hch,hasc⟩:=pairs_chain hq hg _ _ _ t (by simp) ht
  have hsz:0≤sizeN c:=by unfold sizeN;rw [if_neg (by omega),if_neg (by omega),if_neg (by omega),if_neg (by omega)];omega
  subst hr
  simp only at h1 h5 h6
  have hch':ChainV v (decide (c.kind=6)) 7 4000 1 l v.length:=by
   rw [show decide (c.kind=6)=true by simp [h6'],← h1]
   exact mono (by omega) (by omega) hch
  have he:=hch'.eq
  rw [hl] at he
  rw [hpo,he]
  exact ⟨hl,hn,hch',fun _=>hasc⟩
 ·omega
/-- Every part of a checked value is checked. -/
theorem parts_check {v:ValD} {m:Bool} {a b:Nat} {l:List (ByteArray × ValD)} (hv:checkF v=0) (h:ChainV v m 7 4000 a l b):∀ p∈l,checkF p.2=0:=by
 induction h with
 | nil a=>intro p hp;cases hp
 | cons hp _ ih =>
  obtain ⟨r,_,hr,hx,_,hd,hb⟩:=hp
  intro p hp
  rcases List.mem_cons.1 hp with rfl | hp
  ·rw [hx];exact check_part hv hr (by omega) (by omega)
  ·exact ih p hp
end
section
open Go.RowKit
def shE (n:Nat) (s:Sh):Sh:=⟨n+s.j,s.d,s.b⟩
def LikeE (n:Nat) (g g':Nat→Option Sh):Prop:=∀ i s,g i=some s→g' (n+i)=some (shE n s)
theorem elems_ext {n:Nat} {g g':Nat→Option Sh} (hl:LikeE n g g'):∀ k s t,elems g 0 k s=some t→elems g' 0 k (shE n s)=some (shE n t)
 | 0,s,t,h=>by
  simp only [elems,Option.some.injEq] at h ⊢
  rw [h]
 | k+1,s,t,h=>by
  obtain ⟨r,hr,h2⟩:=elems_cons h
  have h4:=elems_ext hl k ⟨r.j,max s.d (0+r.d),s.b+r.b⟩ t h2
  rw [elems_some (show g' (shE n s).j=some (shE n r) from hl _ _ hr)]
  exact h4
theorem mid_get (p u q:ValD) (i:Nat) (h:i<u.length):(p ++ u ++ q)[p.length+i]? = u[i]?:=by
 rw [List.append_assoc,List.getElem?_append_right (by omega),show p.length+i - p.length=i by omega,List.getElem?_append_left h]
theorem pairs_ext {p u q:ValD} {g g':Nat→Option Sh} (hl:LikeE p.length g g'):∀ k last s t,pairs u g 0 k last s=some t→pairs (p ++ u ++ q) g' 0 k last (shE p.length s)=some (shE p.length t)
 | 0,last,s,t,h=>by
  simp only [pairs,Option.some.injEq] at h ⊢
  rw [h]
 | k+1,last,s,t,h=>by
  obtain ⟨c,r,hc,hk,hr,h2⟩:=pairs_cons h
  have h3:=hl _ _ hr
  have h4:=pairs_ext (q:=q) hl k (some c.str) ⟨r.j,max s.d (0+r.d),s.b+(quotedN c.str+1)+r.b⟩ t h2
  have hc':(p ++ u ++ q)[(shE p.length s).j]? = some c:=by
   show (p ++ u ++ q)[p.length+s.j]? = some c
   rw [mid_get p u q _ (List.getElem?_eq_some_iff.1 hc).1]
   exact hc
  rw [pairs_some hc' hk (show g' ((shE p.length s).j+1)=some (shE p.length r) from h3)]
  exact h4
theorem parse_ext (p u q:ValD):∀ f i s,parse u f i=some s→px (p ++ u ++ q) (p.length+i)=some (shE p.length s)
 | 0,i,s,h=>by cases h
 | f+1,i,s,h=>by
  have hl:LikeE p.length (parse u f) (px (p ++ u ++ q)):=fun j r hr=>parse_ext p u q f j r hr
  simp only [parse,pstep] at h
  cases hc:u[i]? with
  | none=>rw [hc] at h;cases h
  | some c =>
   rw [px_eq,pstep,mid_get p u q i (List.getElem?_eq_some_iff.1 hc).1,hc]
   rw [hc] at h
   simp only at h ⊢
   split at h
   ·cases h
   rename_i hp
   rw [if_neg hp]
   split at h
   ·rename_i h5
    rw [if_pos h5]
    cases ht:elems (parse u f) 0 c.n.toNat ⟨i+1,0,0⟩ with
    | none=>rw [ht] at h;cases h
    | some t =>
     rw [ht] at h
     simp at h
     subst h
     have h6:=elems_ext hl _ ⟨i+1,0,0⟩ t ht
     have e:shE p.length ⟨i+1,0,0⟩=⟨p.length+i+1,0,0⟩:=rfl
     rw [e] at h6
     rw [h6]
     rfl
   rename_i h5
   rw [if_neg h5]
   split at h
   ·rename_i h6
    rw [if_pos h6]
    cases ht:pairs u (parse u f) 0 c.n.toNat none ⟨i+1,0,0⟩ with
    | none=>rw [ht] at h;cases h
    | some t =>
     rw [ht] at h
     simp at h
     subst h
     have h7:=pairs_ext (q:=q) hl _ none ⟨i+1,0,0⟩ t ht
     have e:shE p.length ⟨i+1,0,0⟩=⟨p.length+i+1,0,0⟩:=rfl
     rw [e] at h7
     rw [h7]
     rfl
   ·rename_i h6
    rw [if_neg h6]
    simp at h
    subst h
    simp only [shE,Option.some.injEq,Sh.mk.injEq,and_true]
    omega
theorem px_ext (p q:ValD) {u:ValD} {r:Sh} (h:px u 0=some r):px (p ++ u ++ q) p.length=some ⟨p.length+r.j,r.d,r.b⟩:=parse_ext p u q _ 0 r h
theorem elems_build:∀ (l:List ValD) (p q:ValD) (d:Nat) (b:Int),(∀ x∈l,∃ r,px x 0=some r∧r.j=x.length)→∃ t,elems (px (p ++ l.flatten ++ q)) 0 l.length ⟨p.length,d,b⟩=some t∧t.j=p.length+l.flatten.length
 | [],p,q,d,b,_=>⟨_,rfl,by simp⟩
 | x :: l,p,q,d,b,h=>by
  obtain ⟨r,hr,hj⟩:=h x (by simp)
  have h1:=px_ext p (l.flatten ++ q) hr
  have e:p ++ (x :: l).flatten ++ q=p ++ x ++ (l.flatten ++ q):=by simp
  obtain ⟨t,ht,htj⟩:=elems_build l (p ++ x) q (max d (0+r.d)) (b+r.b) (fun y hy=>h y (by simp [hy]))
  refine ⟨t,?_,?_⟩
  ·rw [List.length_cons,elems_some (r:=⟨p.length+r.j,r.d,r.b⟩) (by rw [e];exact h1)]
   rw [e,← List.append_assoc]
   rw [List.length_append] at ht
   rw [hj]
   exact ht
  ·rw [htj];simp;omega
theorem firstBad_zero {l:List ValD} (h:∀ x∈l,checkF x=0):firstBad l=0:=by
 induction l with
 | nil=>rfl
 | cons x r ih =>
  unfold firstBad
  rw [if_neg (by simp [h x])]
  exact ih (fun y hy=>h y (by simp [hy]))
theorem any_flatten {p:CellD→Bool} {l:List ValD} (h:∀ x∈l,x.any p=false):l.flatten.any p=false:=by
 rw [List.any_eq_false]
 intro c hc
 obtain ⟨x,hx,hcx⟩:=List.mem_flatten.1 hc
 exact List.any_eq_false.1 (h x hx) c hcx
theorem check_cases {v:ValD} {r:Sh} (h:px v 0=some r) (hj:r.j=v.length) (ho:v.any outB=false):checkF v=0∨checkF v=3:=by
 unfold checkF
 rw [h]
 simp only
 rw [if_neg (by simpa using hj),if_neg (by simp [ho])]
 split
 ·exact .inr rfl
 ·exact .inl rfl
/-- A list of checked values is a value, unless it passes a limit. -/
theorem check_listV {l:List ValD} (h:∀ x∈l,checkF x=0):checkF (listV l)=0∨checkF (listV l)=3:=by
 have hx:∀ x∈l,∃ r,px x 0=some r∧r.j=x.length:=fun x hx=>by
  obtain ⟨r,a,b,_⟩:=checkF_zero.1 (h x hx);exact ⟨r,a,b⟩
 have ho:∀ x∈l,x.any outB=false:=fun x hx=>by
  obtain ⟨r,_,_,a,_⟩:=checkF_zero.1 (h x hx);exact a
 obtain ⟨t,ht,hj⟩:=elems_build l [⟨5,0,⟨#[]⟩,(l.length:Nat)⟩] [] 0 0 hx
 have e:[(⟨5,0,⟨#[]⟩,(l.length:Nat)⟩:CellD)] ++ l.flatten ++ []=listV l:=by simp [listV]
 rw [e] at ht
 have hp:px (listV l) 0=some ⟨t.j,t.d+1,sizeN ⟨5,0,⟨#[]⟩,(l.length:Nat)⟩ + t.b⟩:=by
  rw [px_eq,pstep]
  have hc:(listV l)[0]? = some ⟨5,0,⟨#[]⟩,(l.length:Nat)⟩:=rfl
  rw [hc]
  simp only
  have hpl:plainB ⟨5,0,⟨#[]⟩,(l.length:Nat)⟩=true:=by
   simp [plainB]
   rfl
  rw [if_neg (by rw [hpl];simp),if_pos trivial]
  have ht':elems (px (listV l)) 0 ((l.length:Nat):Int).toNat ⟨0+1,0,0⟩=some t:=by simpa using ht
  rw [ht']
  rfl
 refine check_cases hp ?_ ?_
 ·show t.j=_
  rw [hj]
  simp [listV]
  omega
 ·unfold listV
  rw [List.any_cons,any_flatten ho]
  rfl
theorem listR_eq {l:List ValD} (h:∀ x∈l,checkF x=0):listR l=limR (listV l):=by
 unfold listR okR limR
 rw [if_neg (by simp [firstBad_zero h])]
 rcases check_listV h with e | e
 ·rw [if_pos e,if_pos e]
 ·rw [if_neg (by omega),if_neg (by omega),e]
theorem sec_split (v:ValD) (a c b:Nat) (h1:a≤c) (h2:c≤b):sec v a b=sec v a c ++ sec v c b:=by
 unfold sec
 have e:b - a=(c - a)+(b - c):=by omega
 rw [e,List.take_add,List.drop_drop,show a+(c - a)=c by omega]
theorem ChainV.le {v:ValD} {m:Bool} {D:Nat} {B:Int} {a b:Nat} {l:List (ByteArray × ValD)} (h:ChainV v m D B a l b):a≤b:=by
 induction h with
 | nil a=>exact Nat.le_refl _
 | cons hp _ ih =>
  obtain ⟨r,_,hr,_,ha,_,_⟩:=hp
  have:=(px_adv hr).1
  omega
theorem ChainV.flat {v:ValD} {D:Nat} {B:Int} {a b:Nat} {l:List (ByteArray × ValD)} (h:ChainV v false D B a l b):(l.map (·.2)).flatten=sec v a b:=by
 induction h with
 | nil a=>simp [sec]
 | @cons a a2 b key x l hp hc ih =>
  obtain ⟨r,_,hr,hx,ha,_,_⟩:=hp
  have hx':x=sec v a r.j:=hx
  have h1:a<r.j:=(px_adv hr).1
  have h2:=hc.le
  simp only [List.map_cons,List.flatten_cons]
  rw [ih,hx',ha,← sec_split v a r.j b (by omega) (by omega)]
theorem sec_one (v:ValD):sec v 1 v.length=v.tail:=by
 unfold sec
 cases v with
 | nil=>rfl
 | cons c t=>simp
end
section
open Go.RowKit
theorem parts_list {v:ValD} {c:CellD} {t:ValD} (hv:checkF v=0) (hs:∀ x∈v,SmallC x) (he:v=c :: t) (hk:c.kind=5) :
  ((partsOf v).map (·.2)).flatten=t∧((partsOf v).length:Int)=c.n∧∀ x∈(partsOf v).map (·.2),checkF x=0:=by
 obtain ⟨h1,h2,h3,_⟩:=parts_chain hv hs (c:=c) (by rw [he];rfl) (.inl hk)
 rw [show decide (c.kind=6)=false by simp;omega] at h3
 refine ⟨?_,by omega,fun x hx=>?_⟩
 ·rw [h3.flat,sec_one,he];rfl
 ·obtain ⟨p,hp,rfl⟩:=List.mem_map.1 hx
  exact parts_check hv h3 p hp
/-- Joining two lists. -/
theorem join_eq {a b:ValD} {x y:CellD} {a' b':ValD} (ha:checkF a=0) (hb:checkF b=0) (sa:∀ c∈a,SmallC c) (sb:∀ c∈b,SmallC c) (ea:a=x :: a') (eb:b=y :: b') (kx:x.kind=5) (ky:y.kind=5) :
  listR ((partsOf a).map (·.2) ++ (partsOf b).map (·.2))=limR (⟨5,0,⟨#[]⟩,x.n+y.n⟩ :: (a' ++ b')):=by
 obtain ⟨a1,a2,a3⟩:=parts_list ha sa ea kx
 obtain ⟨b1,b2,b3⟩:=parts_list hb sb eb ky
 rw [listR_eq (fun z hz=>by
  rcases List.mem_append.1 hz with h | h
  ·exact a3 z h
  ·exact b3 z h)]
 congr 1
 unfold listV
 rw [List.flatten_append,a1,b1]
 congr 2
 simp
 omega
theorem px_sCel (s:ByteArray) (h:txtB s=true):px [sCel s] 0=some ⟨1,1,quotedN s⟩:=by
 rw [px_eq,pstep]
 have hp:plainB (sCel s)=true:=by simp [plainB,sCel,h]
 have hc:([sCel s]:ValD)[0]? = some (sCel s):=rfl
 rw [hc]
 simp only
 rw [if_neg (by rw [hp];simp),if_neg (by simp [sCel]),if_neg (by simp [sCel])]
 simp [sizeN,sCel]
theorem check_str_cases (s:ByteArray) (h:txtB s=true):checkF [sCel s]=0∨checkF [sCel s]=3 :=
 check_cases (px_sCel s h) rfl (by simp [outB,sCel])
theorem okR_str (s:ByteArray) (h:txtB s=true):okR [sCel s]=limR [sCel s]:=by
 unfold okR limR
 rcases check_str_cases s h with e | e
 ·rw [if_pos e,if_pos e]
 ·rw [if_neg (by omega),if_neg (by omega),e]
theorem count_two (l:List UInt8):l.count 34+l.count 92≤l.length:=by
 induction l with
 | nil=>simp
 | cons c r ih =>
  simp only [List.count_cons,List.length_cons]
  by_cases h1:c=34
  ·subst h1;simp;omega
  ·by_cases h2:c=92
   ·subst h2;simp;omega
   ·simp [h1,h2];omega
theorem quoted_le (s:ByteArray):quotedN s≤2+2 * (s.size:Int):=by
 unfold quotedN
 have:=count_two s.data.toList
 have e:s.data.toList.length=s.size:=by rw [Array.length_toList];rfl
 omega
/-- A short string of printing bytes is a value. -/
theorem check_str {s:ByteArray} (h:txtB s=true) (hl:s.size≤200):checkF [sCel s]=0:=by
 rw [checkF_zero]
 have hlb:longB (sCel s)=false:=by unfold longB;exact decide_eq_false (by show ¬ 200<s.size;omega)
 have hob:outB (sCel s)=false:=rfl
 refine ⟨_,px_sCel s h,rfl,by rw [List.any_cons,hob];rfl,by rw [List.any_cons,hlb];rfl,by show 1≤200;omega,by show 1≤8;omega,?_⟩
 have:=quoted_le s
 simp only
 omega
theorem px_int (n:Int):px [iCel n] 0=some ⟨1,1,(itoaLen n:Nat)⟩:=by
 rw [px_eq,pstep]
 have hp:plainB (iCel n)=true:=by
  simp [plainB,iCel]
  rfl
 have hc:([iCel n]:ValD)[0]? = some (iCel n):=rfl
 rw [hc]
 simp only
 rw [if_neg (by rw [hp];simp),if_neg (by simp [iCel]),if_neg (by simp [iCel])]
 simp [sizeN,iCel]
end
end Go.Proofs.YthiimbhjpdphpaaGreatDoor
