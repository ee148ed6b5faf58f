/- P0, P2, P3, U5, U6, PM, PA -/
import Derived.Test.YthiimbhjpdphpaaGreatDoorPGN1
set_option linter.unusedVariables false
set_option linter.unusedSimpArgs false
namespace Go.Proofs.YthiimbhjpdphpaaGreatDoor
open Go.RowKit
structure NodeD where
 kind:Int
 text:ByteArray
 int:Int
 keys:List ByteArray
 kids:List Int
structure FuncD where
 name:ByteArray
 params:List ByteArray
 body:Int
structure ProgD where
 nodes:List NodeD
 funcs:List FuncD
def noNode:NodeD:=⟨0,⟨#[]⟩,0,[],[]⟩
def noFunc:FuncD:=⟨⟨#[]⟩,[],0⟩
def ProgD.at_ (p:ProgD) (i:Nat):NodeD:=p.nodes.getD i noNode
def strB (s:ByteArray):Bool:=txtB s && decide (s.size≤200)
def wholeB (s:ByteArray):Bool:=match s.data.toList with
 | []=>false
 | c :: r=>letB c && r.all wrdB
def runB (s:ByteArray):Bool:=decide (s.size≤24) && wholeB s
def nameB (s:ByteArray):Bool:=runB s && !kwB s
def keyAtB (l:List ByteArray) (i:Nat):Bool:=strB (l.getD i ⟨#[]⟩) && (decide (i=0) || !sleB (l.getD i ⟨#[]⟩) (l.getD (i - 1) ⟨#[]⟩))
def keysB (l:List ByteArray):Bool:=(List.range l.length).all (keyAtB l)
def lvlF (s:ByteArray):Int :=
 if s.toList=[111,114] then 1 else if s.toList=[97,110,100] then 2
 else if s.toList∈([[61,61],[33,61],[60],[60,61],[62],[62,61]]:List (List UInt8)) then 4
 else if s.toList∈([[43],[45]]:List (List UInt8)) then 5
 else if s.toList∈([[42],[47],[37]]:List (List UInt8)) then 6 else 0
def fieldsB (n:NodeD):Bool :=
 if (n.kind≠7∧n.keys≠[])∨(n.kind≠2∧n.kind≠3∧n.int≠0) then false
 else if n.kind=2 then decide (n.text.toList=[]) && (decide (n.int=0) || decide (n.int=1))
 else if n.kind=3 then decide (n.text.toList=[]) && (decide (0≤n.int) && decide (n.int≤1000000000000))
 else if n.kind=4 then strB n.text
 else if n.kind=5∨n.kind=11∨n.kind=13∨n.kind=14 then nameB n.text
 else if n.kind=12 then runB n.text
 else if n.kind=7 then decide (n.text.toList=[]) && (decide (n.keys.length=n.kids.length) && keysB n.keys)
 else if n.kind=8 then decide (n.text.toList=[45]) || decide (n.text.toList=[110,111,116])
 else if n.kind=9 then decide (0<lvlF n.text)
 else decide (n.text.toList=[])
def countB (n:NodeD):Bool :=
 if 1≤n.kind∧n.kind≤5 then decide (n.kids.length=0)
 else if n.kind=8∨n.kind=13∨n.kind=14∨n.kind=17∨n.kind=18 then decide (n.kids.length=1)
 else if n.kind=9∨n.kind=10∨n.kind=16 then decide (n.kids.length=2)
 else if n.kind=15 then decide (n.kids.length=2) || decide (n.kids.length=3)
 else decide (n.kind=6∨n.kind=7∨n.kind=11∨n.kind=12∨n.kind=19)
def fitsB (kind:Int) (k:Nat) (part:Int):Bool :=
 if kind=19 then decide (13≤part) && decide (part≤18)
 else if (kind=15∨kind=16)∧0<k then decide (part=19)
 else decide (1≤part) && decide (part≤12)
def kidsF (l:List NodeD) (rec:Nat→Option Nat) (n:NodeD):Nat→Nat→Option Nat
 | 0,a=>some a
 | k+1,a=>if a<1∨n.kids.getD k (-1)≠(a:Int) - 1∨fitsB n.kind k (l.getD (a - 1) noNode).kind=false then none
  else (rec (a - 1)).bind (kidsF l rec n k)
def firstF (l:List NodeD):Nat→Nat→Option Nat
 | 0,_=>none
 | f+1,i=>if fieldsB (l.getD i noNode) && countB (l.getD i noNode) then kidsF l (firstF l f) (l.getD i noNode) (l.getD i noNode).kids.length i else none
def funcB (l:List NodeD) (f:FuncD) (s:Nat):Bool :=
 (nameB f.name && f.params.all nameB) && (decide ((s:Int)≤f.body) && (decide (f.body<l.length) && (decide ((l.getD f.body.toNat noNode).kind=19) && decide (firstF l 600 f.body.toNat=some s))))
def orderedF (l:List NodeD):List FuncD→Nat→Option Nat
 | [],s=>some s
 | f :: r,s=>if funcB l f s then orderedF l r (f.body.toNat+1) else none
def orderedB (p:ProgD):Bool:=decide (orderedF p.nodes p.funcs 0=some p.nodes.length)
def nestF (l:List NodeD):Nat→Nat→Nat
 | 0,_=>0
 | f+1,i=>(l.getD i noNode).kids.foldl (fun m k=>max m (nestF l f k.toNat)) 0+1
def deepF (p:ProgD):Nat:=p.funcs.foldl (fun m f=>max m (nestF p.nodes 600 f.body.toNat)) 0
def synF (p:ProgD):Int :=
 if 600<p.nodes.length∨16<p.funcs.length then 3
 else if orderedB p=false then 1
 else if (p.funcs.any fun f=>decide (8<f.params.length))=true∨32<deepF p then 3 else 0
def findF (p:ProgD) (s:ByteArray):Int:=match p.funcs.findIdx? (fun f=>decide (f.name=s)) with
 | some i=>i
 | none=>-1
def dupB (l:List ByteArray):Bool:=(List.range l.length).any fun k=>(l.take k).any fun s=>decide (s=l.getD k ⟨#[]⟩)
def funcsF (p:ProgD):List FuncD→Nat→Option (Int × Int)
 | [],_=>none
 | f :: r,i=>if (lookL builtL f.name).isSome=true∨findF p f.name<i∨dupB f.params=true then some (f.body,6) else funcsF p r (i+1)
def mainS:ByteArray:=⟨#[109,97,105,110]⟩
def funsF (p:ProgD):Int × Int:=match funcsF p p.funcs 0 with
 | some r=>r
 | none=>if findF p mainS<0 then (-1,5) else if (p.funcs.getD (findF p mainS).toNat noFunc).params.length≠1 then ((p.funcs.getD (findF p mainS).toNat noFunc).body,7) else (0,0)
structure ScD where
 vis:List (ByteArray × Int)
 next:Int
 slots:List Int
 errs:List Int
def alDel {α β:Type} [DecidableEq α] (l:List (α × β)) (a:α):List (α × β):=l.eraseP fun q=>decide (q.1=a)
def letF (S:ScD) (i:Nat) (s:ByteArray):ScD :=
 if (alGet S.vis s).isSome=true then ⟨S.vis,S.next+1,S.slots.set i S.next,S.errs.set i 6⟩
 else if S.next=32 then ⟨S.vis,S.next+1,S.slots.set i S.next,S.errs.set i 3⟩
 else ⟨alSet S.vis s S.next,S.next+1,S.slots.set i S.next,S.errs⟩
def wantF (p:ProgD) (s:ByteArray):Option Int :=
 if 0≤findF p s then some (p.funcs.getD (findF p s).toNat noFunc).params.length else lookL builtL s
def errW (want:Option Int) (n:Nat):Int:=match want with
 | none=>4
 | some k=>if k≠n then 7 else 0
def endF (p:ProgD) (n:NodeD) (i:Nat) (S:ScD):ScD :=
 if n.kind=5∨n.kind=14 then (match alGet S.vis n.text with
  | some k=>⟨S.vis,S.next,S.slots.set i k,S.errs⟩
  | none=>⟨S.vis,S.next,S.slots,S.errs.set i 4⟩)
 else if n.kind=13 then letF S i n.text
 else if n.kind=11 then ⟨S.vis,S.next,S.slots,S.errs.set i (errW (wantF p n.text) n.kids.length)⟩
 else if n.kind=12 then (if errW (lookL hostL n.text) n.kids.length=0 then S else ⟨S.vis,S.next,S.slots,S.errs.set i (errW (lookL hostL n.text) n.kids.length)⟩)
 else S
def blockF (p:ProgD) (rec:Nat→ScD→ScD):List Int→ScD→List ByteArray→ScD × List ByteArray
 | [],S,d=>(S,d)
 | k :: r,S,d=>blockF p rec r (rec k.toNat S) (if (p.at_ k.toNat).kind=13∧(rec k.toNat S).errs.getD k.toNat 0=0 then d ++ [(p.at_ k.toNat).text] else d)
def walkF (p:ProgD):Nat→Nat→ScD→ScD
 | 0,_,S=>S
 | f+1,i,S=>if (p.at_ i).kind=19 then
   (let R:=blockF p (walkF p f) (p.at_ i).kids S []
    ⟨R.2.foldl alDel R.1.vis,R.1.next,R.1.slots,R.1.errs⟩)
  else endF p (p.at_ i) i ((p.at_ i).kids.foldl (fun S k=>walkF p f k.toNat S) S)
def startS (p:ProgD) (f:FuncD) (sl er:List Int):ScD:=⟨(List.range f.params.length).foldl (fun m i=>alSet m (f.params.getD i ⟨#[]⟩) (i:Int)) [],f.params.length,sl,er⟩
def studyL (p:ProgD):List FuncD→List Int→List Int→List Int→List Int × List Int × List Int
 | [],sl,er,lo=>(sl,er,lo)
 | f :: r,sl,er,lo=>studyL p r (walkF p 600 f.body.toNat (startS p f sl er)).slots (walkF p 600 f.body.toNat (startS p f sl er)).errs (lo ++ [(walkF p 600 f.body.toNat (startS p f sl er)).next])
def firstE:List Int→Nat→Option (Nat × Int)
 | [],_=>none
 | e :: r,i=>if e≠0 then some (i,e) else firstE r (i+1)
structure StudyD where
 slots:List Int
 locals:List Int
 at_:Int
 err:Int
def studyF (p:ProgD):StudyD :=
 if synF p≠0 then ⟨[],[],-1,synF p⟩
 else if (funsF p).2≠0 then ⟨[],[],(funsF p).1,(funsF p).2⟩
 else match firstE (studyL p p.funcs (List.replicate p.nodes.length (-1)) (List.replicate p.nodes.length 0) []).2.1 0 with
  | some q=>⟨[],[],q.1,q.2⟩
  | none=>⟨(studyL p p.funcs (List.replicate p.nodes.length (-1)) (List.replicate p.nodes.length 0) []).1,(studyL p p.funcs (List.replicate p.nodes.length (-1)) (List.replicate p.nodes.length 0) []).2.2,0,0⟩
def insO (op a:Int):InsD:=⟨op,a,⟨#[]⟩,[]⟩
def insT (op:Int) (s:ByteArray):InsD:=⟨op,0,s,[]⟩
def lastF (p:ProgD) (slots:List Int) (n:NodeD) (i:Nat):Option InsD :=
 if n.kind=1 then some (insO 1 0)
 else if n.kind=2 then some (insO 2 n.int)
 else if n.kind=3 then some (insO 3 n.int)
 else if n.kind=4 then some (insT 4 n.text)
 else if n.kind=5 then some (insO 5 (slots.getD i 0))
 else if n.kind=6 then some (insO 11 n.kids.length)
 else if n.kind=7 then some ⟨12,n.kids.length,⟨#[]⟩,n.keys⟩
 else if n.kind=8 then some (insT 8 n.text)
 else if n.kind=10 then some (insO 10 0)
 else if n.kind=11 then some (if 0≤findF p n.text then insO 17 (findF p n.text) else ⟨18,n.kids.length,n.text,[]⟩)
 else if n.kind=12 then some ⟨19,n.kids.length,n.text,[]⟩
 else if n.kind=13∨n.kind=14 then some (insO 6 (slots.getD i 0))
 else if n.kind=17 then some (insO 20 0)
 else if n.kind=18 then some (insO 7 0)
 else none
def isAnd (n:NodeD):Bool:=decide (n.text.toList=[97,110,100])
def isOr (n:NodeD):Bool:=decide (n.text.toList=[111,114])
def seqF (rec:Nat→Int→List InsD):List Int→Int→List InsD
 | [],_=>[]
 | k :: r,b=>rec k.toNat b ++ seqF rec r (b+(rec k.toNat b).length)
def notS:ByteArray:=⟨#[110,111,116]⟩
def segF (p:ProgD) (slots:List Int):Nat→Nat→Int→List InsD
 | 0,_,_=>[]
 | f+1,i,b =>
  let n:=p.at_ i
  let k0:=(n.kids.getD 0 0).toNat
  let k1:=(n.kids.getD 1 0).toNat
  let k2:=(n.kids.getD 2 0).toNat
  if n.kind=15∨n.kind=16 then
   let s0:=segF p slots f k0 b
   let b1:=b+s0.length+1
   let s1:=segF p slots f k1 b1
   let b2:=b1+s1.length
   if n.kind=16 then s0 ++ [insO 14 (b2+1)] ++ s1 ++ [insO 13 b]
   else if 2<n.kids.length then
    let s2:=segF p slots f k2 (b2+1)
    s0 ++ [insO 14 (b2+1)] ++ s1 ++ [insO 13 (b2+1+s2.length)] ++ s2
   else s0 ++ [insO 14 b2] ++ s1
  else if n.kind=9 then
   if isAnd n || isOr n then
    let s0:=segF p slots f k0 b
    let m:=[insO 15 0,insO 16 0] ++ (if isOr n then [insT 8 notS] else [])
    let b1:=b+s0.length+m.length+2
    let s1:=segF p slots f k1 b1
    s0 ++ m ++ [insO 14 (b1+s1.length+1),insO 7 0] ++ s1 ++ [insO 15 0]
   else seqF (segF p slots f) n.kids b ++ [insT 9 n.text]
  else seqF (segF p slots f) n.kids b ++ (match lastF p slots n i with | some x=>[x] | none=>[])
def funcSeg (p:ProgD) (slots:List Int) (f:Nat) (b:Int):List InsD:=segF p slots 600 (p.funcs.getD f noFunc).body.toNat b ++ [insO 1 0,insO 20 0]
def allSeg (p:ProgD) (slots:List Int):Nat→List InsD
 | 0=>[]
 | k+1=>allSeg p slots k ++ funcSeg p slots k (allSeg p slots k).length
def lengthF (p:ProgD):Int × Int :=
 if (studyF p).err≠0 then (0,(studyF p).err) else (((allSeg p (studyF p).slots p.funcs.length).length:Int),0)
inductive Cover (l:List NodeD) (f:Nat):List Int→Nat→Nat→Prop
 | nil (s:Nat):Cover l f [] s s
 | cons (r:List Int) (s m e:Nat):firstF l f m=some s→Cover l f r (m+1) e→Cover l f ((m:Int) :: r) s e
theorem Cover.snoc {l:List NodeD} {f:Nat} {r:List Int} {s m e:Nat} (h:Cover l f r s e) (hm:firstF l f m=some e):Cover l f (r ++ [(m:Int)]) s (m+1):=by
 induction h with
 | nil s=>exact .cons _ _ _ _ hm (.nil _)
 | cons r s k e h1 h2 ih=>exact .cons _ _ _ _ h1 (ih hm)
theorem kidsF_cover {l:List NodeD} {f:Nat} {n:NodeD}:∀ k a s,k≤n.kids.length→kidsF l (firstF l f) n k a=some s→Cover l f (n.kids.take k) s a∧∀ j,j<k→∃ m:Nat,n.kids.getD j (-1)=m∧m<a∧fitsB n.kind j (l.getD m noNode).kind=true:=by
 intro k;induction k with
 | zero =>
  intro a s _ h;simp only [kidsF,Option.some.injEq] at h;subst h;exact ⟨by simpa using Cover.nil a,fun j hj=>by omega⟩
 | succ k ih =>
  intro a s hk h;simp only [kidsF] at h;split at h
  ·cases h
  ·rename_i hc
   simp only [not_or,ne_eq,Decidable.not_not] at hc;obtain ⟨h1,h2,h3⟩:=hc;obtain ⟨a',ha,h4⟩:=Option.bind_eq_some_iff.mp h;obtain ⟨g1,g2⟩:=ih a' s (by omega) h4
   have hle:a'≤a - 1:=by
    clear g1 g2 h4 ih h
    suffices ∀ f i s,firstF l f i=some s→s≤i from this _ _ _ ha
    intro f;induction f with
    | zero=>intro i s h;cases h
    | succ f ih =>
     intro i s h;simp only [firstF] at h;split at h
     ·have:∀ k a s,kidsF l (firstF l f) (l.getD i noNode) k a=some s→s≤a:=by
       intro k;induction k with
       | zero=>intro a s h;simp only [kidsF,Option.some.injEq] at h;omega
       | succ k ihk =>
        intro a s h;simp only [kidsF] at h;split at h
        ·cases h
        ·obtain ⟨a',h5,h6⟩:=Option.bind_eq_some_iff.mp h
         have:=ih _ _ h5
         have:=ihk _ _ h6
         omega
      exact this _ _ _ h
     ·cases h
   have hkl:k<n.kids.length:=by omega
   have hgd:n.kids.getD k (-1)=n.kids[k]:=by simp [List.getD_eq_getElem?_getD,hkl]
   refine ⟨?_,fun j hj=>?_⟩
   ·rw [List.take_succ_eq_append_getElem hkl,← hgd,h2,show ((a:Int) - 1)=((a - 1:Nat):Int) by omega]
    have:=g1.snoc (m:=a - 1) ha
    rwa [show a - 1+1=a by omega] at this
   ·by_cases e:j=k
    ·subst e
     exact ⟨a - 1,by rw [h2];omega,by omega,by simpa using h3⟩
    ·obtain ⟨m,h5,h6,h7⟩:=g2 j (by omega)
     exact ⟨m,h5,by omega,h7⟩
structure Tree (l:List NodeD) (f i s:Nat):Prop where
 fields:fieldsB (l.getD i noNode)=true
 count:countB (l.getD i noNode)=true
 cover:Cover l f (l.getD i noNode).kids s i
 fits:∀ j,j<(l.getD i noNode).kids.length→∃ m:Nat,(l.getD i noNode).kids.getD j (-1)=m∧m<i∧fitsB (l.getD i noNode).kind j (l.getD m noNode).kind=true
theorem zadY {l:List NodeD} {f i s:Nat} (h:firstF l (f+1) i=some s):Tree l f i s:=by
 simp only [firstF] at h;split at h
 ·rename_i hc
  simp only [Bool.and_eq_true] at hc;obtain ⟨h1,h2⟩:=kidsF_cover _ _ _ (Nat.le_refl _) h;rw [List.take_length] at h1;exact ⟨hc.1,hc.2,h1,h2⟩
 ·cases h
theorem Cover.le {l:List NodeD} {f:Nat} (hf:∀ i s,firstF l f i=some s→s≤i) {r:List Int} {s e:Nat} (h:Cover l f r s e):s≤e:=by
 induction h with
 | nil s=>exact Nat.le_refl _
 | cons r s m e h1 h2 ih=>have:=hf _ _ h1;omega
theorem zaaY {l:List NodeD}:∀ {f i s},firstF l f i=some s→s≤i:=by
 intro f;induction f with
 | zero=>intro i s h;cases h
 | succ f ih =>
  intro i s h;exact (zadY h).cover.le (fun _ _ h=>ih h)
theorem Cover.le' {l:List NodeD} {f:Nat} {r:List Int} {s e:Nat} (h:Cover l f r s e):s≤e:=h.le (fun _ _=>zaaY)
theorem Cover.mem {l:List NodeD} {f:Nat} {r:List Int} {s e:Nat} (h:Cover l f r s e):∀ k∈r,∃ m s':Nat,k=m∧m<e∧s≤s'∧firstF l f m=some s':=by
 induction h with
 | nil s=>intro k hk;cases hk
 | cons r s m e h1 h2 ih =>
  have:=zaaY h1
  have:=h2.le'
  intro k hk;rcases List.mem_cons.1 hk with rfl | hk
  ·exact ⟨m,s,rfl,by omega,Nat.le_refl _,h1⟩
  ·obtain ⟨m',s',h3,h4,h5,h6⟩:=ih k hk
   exact ⟨m',s',h3,h4,by omega,h6⟩
theorem seq_bd {l:List NodeD} {f c:Nat} {rec:Nat→Int→List InsD} (hr:∀ i s b,firstF l f i=some s→(rec i b).length≤c * (i+1 - s)) {r:List Int} {s e:Nat} (h:Cover l f r s e):∀ b,(seqF rec r b).length≤c * (e - s):=by
 induction h with
 | nil s=>intro b;simp [seqF]
 | cons r s m e h1 h2 ih =>
  intro b;have q1:=zaaY h1;have q2:=h2.le';simp only [seqF,List.length_append,Int.toNat_natCast];have h3:=hr m s b h1;have h4:=ih (b+(rec m b).length)
  have:c * (e - s)=c * (m+1 - s)+c * (e - (m+1)):=by rw [← Nat.mul_add];congr 1;omega
  omega
theorem Cover.two {l:List NodeD} {f:Nat} {a b:Int} {s e:Nat} (h:Cover l f [a,b] s e):∃ m:Nat,a=m∧b=(e:Int) - 1∧m+1<e+1∧1≤e∧firstF l f m=some s∧firstF l f (e - 1)=some (m+1):=by
 cases h with
 | cons r s m e h1 h2 =>
  cases h2 with
  | cons r s' m' e h3 h4 =>
   cases h4 with
   | nil _=>exact ⟨m,rfl,by omega,by have:=zaaY h3;omega,by omega,h1,by simpa using h3⟩
theorem Cover.three {l:List NodeD} {f:Nat} {a b c:Int} {s e:Nat} (h:Cover l f [a,b,c] s e):∃ m k:Nat,a=m∧b=k∧c=(e:Int) - 1∧m<k∧k+1<e+1∧1≤e∧firstF l f m=some s∧firstF l f k=some (m+1)∧firstF l f (e - 1)=some (k+1):=by
 cases h with
 | cons r s m e h1 h2 =>
  cases h2 with
  | cons r s' k e h3 h4 =>
   cases h4 with
   | cons r s'' k' e h5 h6 =>
    cases h6 with
    | nil _=>exact ⟨m,k,rfl,rfl,by omega,by have:=zaaY h3;omega,by have:=zaaY h5;omega,by omega,h1,h3,by simpa using h5⟩
theorem zatY {α:Type} {l:List α} (h:l.length=2):∃ a b,l=[a,b]:=by
 match l,h with
 | [a,b],_=>exact ⟨a,b,rfl⟩
theorem zbkY {α:Type} {l:List α} (h:l.length=3):∃ a b c,l=[a,b,c]:=by
 match l,h with
 | [a,b,c],_=>exact ⟨a,b,c,rfl⟩
theorem zbyY {n:NodeD} (h:countB n=true) (hk:n.kind=9∨n.kind=10∨n.kind=16):n.kids.length=2:=by
 unfold countB at h;rw [if_neg (by omega),if_neg (by omega),if_pos hk] at h;simpa using h
theorem cnt_if {n:NodeD} (h:countB n=true) (hk:n.kind=15):n.kids.length=2∨n.kids.length=3:=by
 unfold countB at h;rw [if_neg (by omega),if_neg (by omega),if_neg (by omega),if_pos hk] at h;simpa using h
theorem zaqY (p:ProgD) (sl:List Int):∀ f i s b,firstF p.nodes f i=some s→(segF p sl f i b).length≤6 * (i+1 - s):=by
 intro f;induction f with
 | zero=>intro i s b h;cases h
 | succ f ih =>
  intro i s b h;have T:=zadY h;have hsi:=zaaY h;have hn:p.nodes.getD i noNode=p.at_ i:=rfl;have hq:=fun b=>seq_bd ih T.cover b
  have hc:=T.cover;have hct:=T.count;rw [hn] at hq hc hct;simp only [segF];split
  ·rename_i hk
   by_cases h16:(p.at_ i).kind=16
   ·rw [if_pos h16]
    obtain ⟨a,c,hl⟩:=zatY (zbyY hct (.inr (.inr h16)));rw [hl] at hc ⊢;obtain ⟨m,rfl,rfl,h1,h2,h3,h4⟩:=hc.two;simp only [List.length_append,List.length_cons,List.length_nil,List.getD_cons_zero,List.getD_cons_succ,Int.toNat_natCast];have q1:=ih _ _ b h3;have q2:=fun b=>ih _ _ b h4
    have:=zaaY h3
    have q3:=q2 (b+((segF p sl f m b).length:Int)+1);rw [show ((i:Int) - 1).toNat=i - 1 by omega];omega
   ·rw [if_neg h16]
    have h15:(p.at_ i).kind=15:=by omega
    rcases cnt_if hct h15 with hl2 | hl3
    ·rw [if_neg (by omega)]
     obtain ⟨a,c,hl⟩:=zatY hl2;rw [hl] at hc ⊢;obtain ⟨m,rfl,rfl,h1,h2,h3,h4⟩:=hc.two;simp only [List.length_append,List.length_cons,List.length_nil,List.getD_cons_zero,List.getD_cons_succ,Int.toNat_natCast];have q1:=ih _ _ b h3
     have:=zaaY h3
     have q3:=ih _ _ (b+((segF p sl f m b).length:Int)+1) h4;rw [show ((i:Int) - 1).toNat=i - 1 by omega];omega
    ·rw [if_pos (by omega)]
     obtain ⟨a,c,d,hl⟩:=zbkY hl3;rw [hl] at hc ⊢;obtain ⟨m,k,rfl,rfl,rfl,h0,h1,h2,h3,h4,h5⟩:=hc.three;simp only [List.length_append,List.length_cons,List.length_nil,List.getD_cons_zero,List.getD_cons_succ,Int.toNat_natCast];have q1:=ih _ _ b h3
     have:=zaaY h3
     have q3:=ih _ _ (b+((segF p sl f m b).length:Int)+1) h4;have q4:=ih _ _ (b+((segF p sl f m b).length:Int)+1+((segF p sl f k (b+((segF p sl f m b).length:Int)+1)).length:Int)+1) h5;rw [show ((i:Int) - 1).toNat=i - 1 by omega];omega
  ·split
   ·rename_i hk
    split
    ·obtain ⟨a,c,hl⟩:=zatY (zbyY hct (.inl hk))
     rw [hl] at hc ⊢;obtain ⟨m,rfl,rfl,h1,h2,h3,h4⟩:=hc.two;simp only [List.length_append,List.length_cons,List.length_nil,List.getD_cons_zero,List.getD_cons_succ,Int.toNat_natCast];rw [show ((i:Int) - 1).toNat=i - 1 by omega];have q1:=ih _ _ b h3
     have:=zaaY h3
     have q3:=fun b=>ih _ _ b h4
     have hm:(if isOr (p.at_ i)=true then [insT 8 notS] else []).length≤1:=by split <;> simp
     refine Nat.le_trans (Nat.add_le_add_right (Nat.add_le_add (Nat.add_le_add_right (Nat.add_le_add q1 (Nat.add_le_add_left hm _)) _) (q3 _)) _) ?_
     omega
    ·have:=hq b
     simp only [List.length_append,List.length_cons,List.length_nil];omega
   ·have:=hq b
    rw [List.length_append];split <;> simp only [List.length_cons,List.length_nil] <;> omega
def startF (fs:List FuncD):Nat→Nat
 | 0=>0
 | k+1=>(fs.getD k noFunc).body.toNat+1
theorem orderedF_at {l:List NodeD}:∀ (fs:List FuncD) (s e:Nat),orderedF l fs s=some e→(∀ k,(h:k<fs.length)→funcB l fs[k] (if k=0 then s else startF fs k)=true)∧e=if fs.length=0 then s else startF fs fs.length:=by
 intro fs;induction fs with
 | nil=>intro s e h;simp only [orderedF,Option.some.injEq] at h;exact ⟨fun k h=>by simp at h,by simp [h]⟩
 | cons f r ih =>
  intro s e h;simp only [orderedF] at h;split at h
  ·rename_i hf
   obtain ⟨h1,h2⟩:=ih _ _ h
   have hst:∀ k,(if k=0 then f.body.toNat+1 else startF r k)=startF (f :: r) (k+1):=by
    intro k;cases k with
    | zero=>simp [startF]
    | succ k=>simp [startF]
   refine ⟨fun k hk=>?_,?_⟩
   ·cases k with
    | zero=>simpa using hf
    | succ k =>
     have:=h1 k (by simpa using hk)
     rw [hst] at this;simpa using this
   ·rw [if_neg (by simp),h2]
    have:=hst r.length
    cases hr:r.length with
    | zero=>rw [hr] at this;simpa [hr] using this
    | succ n=>rw [hr] at this;simpa [hr] using this
  ·cases h
structure SynOk (p:ProgD):Prop where
 nodes:p.nodes.length≤600
 funcs:p.funcs.length≤16
 at_:∀ k,(h:k<p.funcs.length)→funcB p.nodes p.funcs[k] (startF p.funcs k)=true
 fin:p.nodes.length=startF p.funcs p.funcs.length
 params:∀ f∈p.funcs,f.params.length≤8
theorem synF_ok {p:ProgD} (h:synF p=0):SynOk p:=by
 unfold synF at h;split at h
 ·cases h
 ·rename_i h1
  split at h
  ·cases h
  ·rename_i h2
   split at h
   ·cases h
   ·rename_i h3
    have h4:orderedB p=true:=by simpa using h2
    obtain ⟨h5,h6⟩:=orderedF_at _ _ _ (of_decide_eq_true h4);refine ⟨by omega,by omega,fun k hk=>?_,?_,fun f hf=>?_⟩
    ·have:=h5 k hk
     cases k with
     | zero=>simpa [startF] using this
     | succ k=>simpa using this
    ·rw [h6]
     cases hl:p.funcs.length with
     | zero=>simp [startF]
     | succ n=>simp
    ·simp only [not_or,List.any_eq_true,decide_eq_true_eq,not_exists,not_and] at h3
     have:=h3.1 f hf
     omega
structure FuncOk (l:List NodeD) (f:FuncD) (s:Nat) (b:Nat):Prop where
 body:f.body=(b:Int)
 lt:b<l.length
 block:(l.getD b noNode).kind=19
 first:firstF l 600 b=some s
 name:nameB f.name=true
 params:f.params.all nameB=true
theorem funcB_ok {l:List NodeD} {f:FuncD} {s:Nat} (h:funcB l f s=true):∃ b,FuncOk l f s b:=by
 unfold funcB at h;simp only [Bool.and_eq_true,decide_eq_true_eq] at h;obtain ⟨⟨h1,h2⟩,h3,h4,h5,h6⟩:=h
 have:f.body=(f.body.toNat:Int):=by omega
 exact ⟨f.body.toNat,this,by omega,h5,h6,h1,h2⟩
theorem zaiZ {α:Type} {l:List α} {k:Nat} (h:k<l.length) (d:α):l.getD k d=l[k]:=by
 simp [List.getD_eq_getElem?_getD,h]
theorem SynOk.func {p:ProgD} (h:SynOk p) {k:Nat} (hk:k<p.funcs.length):∃ b,FuncOk p.nodes p.funcs[k] (startF p.funcs k) b∧startF p.funcs (k+1)=b+1∧(p.funcs.getD k noFunc).body.toNat=b:=by
 obtain ⟨b,hb⟩:=funcB_ok (h.at_ k hk);refine ⟨b,hb,?_,?_⟩
 ·simp only [startF]
  rw [zaiZ hk,hb.body];simp
 ·rw [zaiZ hk,hb.body]
  simp
theorem SynOk.seg {p:ProgD} (h:SynOk p) (sl:List Int) {k:Nat} (hk:k<p.funcs.length) (b:Int):(funcSeg p sl k b).length≤6 * (startF p.funcs (k+1) - startF p.funcs k)+2∧startF p.funcs k<startF p.funcs (k+1):=by
 obtain ⟨m,hm,h1,h2⟩:=h.func hk
 have:=zaqY p sl _ _ _ b hm.first
 have:=zaaY hm.first
 unfold funcSeg;rw [h2,h1];simp only [List.length_append,List.length_cons,List.length_nil];omega
theorem SynOk.all_bd {p:ProgD} (h:SynOk p) (sl:List Int):∀ k,k≤p.funcs.length→(allSeg p sl k).length≤6 * startF p.funcs k+2 * k:=by
 intro k;induction k with
 | zero=>intro _;simp [allSeg]
 | succ k ih =>
  intro hk;have h1:=ih (by omega);have h2:=h.seg sl (k:=k) (by omega) ((allSeg p sl k).length);simp only [allSeg,List.length_append];omega
theorem SynOk.start_le {p:ProgD} (h:SynOk p):∀ k,k≤p.funcs.length→startF p.funcs k≤p.nodes.length:=by
 intro k hk;cases k with
 | zero=>simp [startF]
 | succ k =>
  obtain ⟨b,hb,h1,_⟩:=h.func (k:=k) (by omega)
  have:=hb.lt
  omega
theorem SynOk.all_le {p:ProgD} (h:SynOk p) (sl:List Int) {k:Nat} (hk:k≤p.funcs.length):(allSeg p sl k).length≤3632:=by
 have:=h.all_bd sl k hk
 have:=h.start_le k hk
 have:=h.nodes
 have:=h.funcs
 omega
def fnAt (p:ProgD) (sl lo:List Int) (k:Nat):FnD:=⟨(p.funcs.getD k noFunc).name,(p.funcs.getD k noFunc).params.length,lo.getD k 0,((allSeg p sl k).length:Nat),((allSeg p sl (k+1)).length:Nat)⟩
def codeP (p:ProgD) (sl lo:List Int):CodeD:=⟨(List.range p.funcs.length).map (fnAt p sl lo),allSeg p sl p.funcs.length⟩
def noCode:CodeD:=⟨[],[]⟩
def ProgR (p:ProgD) (c:CodeD) (e:Int):Prop :=
 ((studyF p).err≠0∧c=noCode∧e=(studyF p).err) ∨
 ((studyF p).err=0∧∃ R,CodeR (codeP p (studyF p).slots (studyF p).locals) R∧((R.2≠0∧c=noCode∧e=R.2)∨(R.2=0∧c=codeP p (studyF p).slots (studyF p).locals∧e=0)))
theorem ProgR.det {p:ProgD} {c d:CodeD} {e f:Int} (h:ProgR p c e) (g:ProgR p d f):c=d∧e=f:=by
 rcases h with ⟨h1,rfl,rfl⟩ | ⟨h1,R,h2,h3⟩ <;> rcases g with ⟨g1,rfl,rfl⟩ | ⟨g1,S,g2,g3⟩
 ·exact ⟨rfl,rfl⟩
 ·exact absurd g1 h1
 ·exact absurd h1 g1
 ·have:=h2.det g2
  subst this;rcases h3 with ⟨h4,rfl,rfl⟩ | ⟨h4,rfl,rfl⟩ <;> rcases g3 with ⟨g4,rfl,rfl⟩ | ⟨g4,rfl,rfl⟩
  ·exact ⟨rfl,rfl⟩
  ·exact absurd g4 h4
  ·exact absurd h4 g4
  ·exact ⟨rfl,rfl⟩
theorem kidsF_mono {l:List NodeD} {r1 r2:Nat→Option Nat} {n:NodeD} (h:∀ i s,r1 i=some s→r2 i=some s):∀ k a s,kidsF l r1 n k a=some s→kidsF l r2 n k a=some s:=by
 intro k;induction k with
 | zero=>intro a s hk;exact hk
 | succ k ih =>
  intro a s hk;simp only [kidsF] at hk ⊢;split at hk
  ·cases hk
  ·rename_i hc
   rw [if_neg hc];cases h1:r1 (a - 1) with
   | none=>rw [h1] at hk;cases hk
   | some b =>
    rw [h1] at hk;rw [h _ _ h1];exact ih _ _ hk
theorem firstF_succ {l:List NodeD}:∀ f i s,firstF l f i=some s→firstF l (f+1) i=some s:=by
 intro f;induction f with
 | zero=>intro i s h;cases h
 | succ f ih =>
  intro i s h;rw [firstF] at h ⊢;split at h
  ·rename_i hc
   rw [if_pos hc];exact kidsF_mono ih _ _ _ h
  ·cases h
theorem Cover.all {l:List NodeD} {f:Nat} {r:List Int} {s e:Nat} (hc:Cover l f r s e) (ih:∀ i s,firstF l f i=some s→∀ j,s≤j→j≤i→∃ s',firstF l f j=some s'∧s≤s'):∀ j,s≤j→j<e→∃ s',firstF l f j=some s'∧s≤s':=by
 induction hc with
 | nil s=>intro j h1 h2;omega
 | cons r s m e h1 h2 ih2 =>
  intro j hj1 hj2;have hsm:=zaaY h1;by_cases h:j≤m
  ·exact ih m s h1 j hj1 h
  ·obtain ⟨s',a,b⟩:=ih2 j (by omega) hj2
   exact ⟨s',a,by omega⟩
theorem firstF_all {l:List NodeD}:∀ f i s,firstF l f i=some s→∀ j,s≤j→j≤i→∃ s',firstF l f j=some s'∧s≤s':=by
 intro f;induction f with
 | zero=>intro i s h;cases h
 | succ f ih =>
  intro i s h j h1 h2;by_cases e:j=i
  ·subst e;exact ⟨s,h,Nat.le_refl _⟩
  ·obtain ⟨s',a,b⟩:=(zadY h).cover.all ih j h1 (by omega)
   exact ⟨s',firstF_succ _ _ _ a,b⟩
def kidsM (n:NodeD) (low:Nat) (sz:Nat→Nat):Nat→Nat→Option Nat
 | 0,a=>some a
 | k+1,a=>if n.kids.getD k (-1)≠(a:Int) - 1∨a<low+1 then none else kidsM n low sz k (a - sz (a - 1))
theorem kidsF_le {l:List NodeD} {f:Nat} {n:NodeD}:∀ k a s,kidsF l (firstF l f) n k a=some s→s≤a:=by
 intro k;induction k with
 | zero =>
  intro a s h;simp only [kidsF,Option.some.injEq] at h;omega
 | succ k ih =>
  intro a s h;simp only [kidsF] at h;split at h
  ·cases h
  ·cases h1:firstF l f (a - 1) with
   | none=>rw [h1] at h;cases h
   | some b =>
    rw [h1] at h;have h2:=ih _ _ h;have h3:=zaaY h1;omega
theorem kidsM_iff {l:List NodeD} {n:NodeD} {low i:Nat} {sz:Nat→Nat} (hsz:∀ q,low≤q→q<i→firstF l 600 q=some (q+1 - sz q)∧low+sz q≤q+1∧1≤sz q) :
  ∀ k a,low≤a→a≤i→∀ s,(kidsM n low sz k a=some s∧∀ j,j<k→fitsB n.kind j (l.getD (n.kids.getD j (-1)).toNat noNode).kind=true)↔(kidsF l (firstF l 600) n k a=some s∧low≤s):=by
 intro k;induction k with
 | zero =>
  intro a h1 h2 s;simp only [kidsM,kidsF,Option.some.injEq];constructor
  ·rintro ⟨rfl,_⟩;exact ⟨rfl,h1⟩
  ·rintro ⟨rfl,_⟩;exact ⟨rfl,fun j hj=>by omega⟩
 | succ k ih =>
  intro a h1 h2 s;simp only [kidsM,kidsF];by_cases hk:n.kids.getD k (-1)=(a:Int) - 1
  ·by_cases ha:a<low+1
   ·rw [if_pos (.inr ha)]
    constructor
    ·rintro ⟨h,_⟩;cases h
    ·rintro ⟨h,hs⟩
     exfalso
     split at h
     ·cases h
     ·rename_i hc
      cases h3:firstF l 600 (a - 1) with
      | none=>rw [h3] at h;cases h
      | some b =>
       rw [h3] at h;have h4:=kidsF_le _ _ _ h;have h5:=zaaY h3;omega
   ·rw [if_neg (by rintro (h | h);exact h hk;exact ha h)]
    obtain ⟨g1,g2,g3⟩:=hsz (a - 1) (by omega) (by omega);have e1:a - 1+1 - sz (a - 1)=a - sz (a - 1):=by omega
    rw [e1] at g1;have e2:(n.kids.getD k (-1)).toNat=a - 1:=by rw [hk];omega
    cases hf:fitsB n.kind k (l.getD (a - 1) noNode).kind with
    | false =>
     rw [if_pos (.inr (.inr rfl))];constructor
     ·rintro ⟨_,h⟩
      have:=h k (by omega)
      rw [e2,hf] at this;cases this
     ·rintro ⟨h,_⟩;cases h
    | true =>
     rw [if_neg (by rintro (h | h | h);omega;exact h hk;cases h),g1];show _↔(kidsF l (firstF l 600) n k (a - sz (a - 1))=some s∧low≤s);rw [← ih (a - sz (a - 1)) (by omega) (by omega) s];constructor
     ·rintro ⟨h,h'⟩;exact ⟨h,fun j hj=>h' j (by omega)⟩
     ·rintro ⟨h,h'⟩
      refine ⟨h,fun j hj=>?_⟩
      by_cases e:j=k
      ·subst e;rw [e2];exact hf
      ·exact h' j (by omega)
  ·rw [if_pos (.inl hk),if_pos (.inr (.inl hk))]
   constructor
   ·rintro ⟨h,_⟩;cases h
   ·rintro ⟨h,_⟩;cases h
section
theorem zcgY {α β:Type} (f:α→β):∀ (l:List α) (i:Nat),(l.map f).eraseIdx i=(l.eraseIdx i).map f
 | [],_=>rfl
 | _ :: _,0=>rfl
 | a :: r,i+1=>by simp only [List.map_cons,List.eraseIdx_cons_succ,zcgY f r i]
section
variable {α β:Type} [DecidableEq α] {w w':World} {b:Nat} {kc:α→Value} {vc:β→Value} {m:List (α × β)}
theorem alDel_none (l:List (α × β)) (a:α):∀ i,alFind l a i=none→alDel l a=l:=by
 induction l with
 | nil=>intro i _;rfl
 | cons q r ih =>
  intro i h;obtain ⟨k,v⟩:=q;unfold alFind at h;split at h
  ·cases h
  ·rename_i hk
   unfold alDel at ih ⊢;rw [List.eraseP_cons_of_neg (by simpa using hk),ih _ h]
theorem alDel_some (l:List (α × β)) (a:α):∀ i j v,alFind l a i=some (j,v)→i≤j∧j - i<l.length∧alDel l a=l.eraseIdx (j - i):=by
 induction l with
 | nil=>intro i j v h;cases h
 | cons q r ih =>
  intro i j v h;obtain ⟨k,x⟩:=q;unfold alFind at h;split at h
  ·rename_i hk
   simp only [Option.some.injEq,Prod.mk.injEq] at h;obtain ⟨rfl,rfl⟩:=h;refine ⟨Nat.le_refl _,by simp,?_⟩
   unfold alDel;rw [List.eraseP_cons_of_pos (by simpa using hk)];simp
  ·rename_i hk
   obtain ⟨h1,h2,h3⟩:=ih _ _ _ h;refine ⟨by omega,by simp only [List.length_cons];omega,?_⟩
   unfold alDel at h3 ⊢;rw [List.eraseP_cons_of_neg (by simpa using hk),h3,show j - i=(j - (i+1))+1 by omega,List.eraseIdx_cons_succ]
theorem MapAt.del {P:Program} {K T E ty:TypeId} (h:MapAt w b kc vc m) (hK:KeyOk P K kc) (hT:P.underlying T=some (.map K E)) (a:α) :
  ∃ w',(Builtin.delete_ #[T,K] ty #[.map (some b),kc a]).run P w=.ok (.tuple #[]) w'∧MapAt w' b kc vc (alDel m a)∧w.grownBy w' (some b)∧w'.heap.size=w.heap.size:=by
 obtain ⟨es,clock,h1,h2⟩:=h;have hf:=hK.find w a es.toList (m.map fun p=>(p.1,vc p.2)) (by rw [h2,List.map_map];rfl);rw [zcmY] at hf;have hlt:=lt_of_block h1
 have hgrow:∀ o:Obj,w.grownBy { w with heap:=w.heap.setIfInBounds b o } (some b):=fun o =>
  ⟨rfl,rfl,rfl,by simp,fun k _ hne=>by
   show (w.heap.setIfInBounds b o)[k]? = _;rw [Array.getElem?_setIfInBounds_ne (fun e=>hne (by rw [e]))]⟩
 cases hfd:alFind m a 0 with
 | none =>
  rw [hfd] at hf;refine ⟨_,by simp [Builtin.delete_,run_underlying hT,MapKept.run_getObj_map h1,hK.check w _ a 9992,hf,MapKept.run_setObj_map _ h1,Result.andThen];rfl,?_,hgrow _,by simp⟩
  refine ⟨es,clock,by simp [hlt],?_⟩
  rw [alDel_none m a 0 hfd];exact h2
 | some q =>
  obtain ⟨i,v⟩:=q;rw [hfd] at hf;obtain ⟨_,hi,hdel⟩:=alDel_some m a 0 i v hfd;simp only [Nat.sub_zero] at hi hdel
  have hlen:i<es.size:=by
   have h4:=congrArg List.length h2;simp at h4
   omega
  refine ⟨_,by simp [Builtin.delete_,run_underlying hT,MapKept.run_getObj_map h1,hK.check w _ a 9992,hf,MapKept.run_setObj_map _ h1,Result.andThen];rfl,?_,hgrow _,by simp⟩
  refine ⟨es.eraseIdxIfInBounds i,clock,by simp [hlt],?_⟩
  rw [hdel];unfold Array.eraseIdxIfInBounds;rw [dif_pos hlen,Array.toList_eraseIdx];have h4:=congrArg (fun l=>l.eraseIdx i) h2;simp only [zcgY] at h4;exact h4
end
structure GL (L:List Nat) (w w':World):Prop where
 os:w'.os=w.os
 tape:w'.tape=w.tape
 output:w'.output=w.output
 size:w.heap.size≤w'.heap.size
 block:∀ j,j<w.heap.size→j ∉ L→w'.heap[j]? = w.heap[j]?
theorem GL.refl (L:List Nat) (w:World):GL L w w:=⟨rfl,rfl,rfl,Nat.le_refl _,fun _ _ _=>rfl⟩
theorem GL.trans {L:List Nat} {a b c:World} (h:GL L a b) (g:GL L b c):GL L a c :=
 ⟨g.os.trans h.os,g.tape.trans h.tape,g.output.trans h.output,Nat.le_trans h.size g.size,fun j hj hn=>(g.block j (Nat.lt_of_lt_of_le hj h.size) hn).trans (h.block j hj hn)⟩
theorem GL.of_below {L:List Nat} {w w':World} (h:Below w.heap.size w w'):GL L w w':=⟨h.os,h.tape,h.output,h.size,fun j hj _=>h.block j hj⟩
theorem GL.below_tr {L:List Nat} {a b c:World} (h:GL L a b) (g:Below b.heap.size b c):GL L a c:=h.trans (.of_below g)
theorem GL.grown {L:List Nat} {a b c:World} {g:Nat} (h:GL L a b) (k:b.grownBy c (some g)) (hg:g∈L):GL L a c :=
 h.trans ⟨k.os,k.tape,k.output,k.size,fun j hj hn=>k.block j hj (fun e=>hn (by injection e with e;subst e;exact hg))⟩
theorem GL.setCell {L:List Nat} {a b:World} {g:Nat} (h:GL L a b) (hg:g∈L) (i:Nat) (u:Value):GL L a (b.setCell ⟨g,i,none⟩ u) :=
 h.trans ⟨rfl,rfl,rfl,by simp,fun j hj hn=>Below.heap_setCell b _ u j (fun e=>hn (by have:j=g:=e;subst this;exact hg))⟩
theorem GL.bel {L:List Nat} {base:Nat} {w0 w w':World} (h:GL L w w') (hb:Below base w0 w) (hs:base≤w.heap.size) (hL:∀ g∈L,base≤g):Below base w0 w' :=
 hb.trans ⟨h.os,h.tape,h.output,h.size,fun j hj=>h.block j (Nat.lt_of_lt_of_le hj hs) (fun hm=>by have:=hL j hm;omega)⟩
theorem GL.blk {L:List Nat} {w w':World} {g:Nat} {t:TypeId} {cs:Array Value} (h:GL L w w') (hB:Blk w g t cs) (hg:g ∉ L):Blk w' g t cs:=(h.block g hB.lt hg).trans hB
theorem GL.own {L:List Nat} {w w':World} (h:GL L w w') {base:Nat} {e:TypeId} {size n:Nat} {v:Value} {xs:List Value} (ho:w.ownsRow base e size v n xs) (h2:∀ g,v.ownBlock=some g→g ∉ L):w'.ownsRow base e size v n xs:=by
 obtain ⟨e1,e2⟩:=ho;refine ⟨e1,e2.imp id (fun ⟨g,cap,cur,ev,eg,eh,e4⟩=>⟨g,cap,cur,ev,eg,?_,e4⟩)⟩
 subst ev;exact (h.block g (lt_of_block eh) (h2 g rfl)).trans eh
end
def eS:ByteArray:=⟨#[101]⟩
def exP:ProgD:=⟨[⟨5,eS,0,[],[]⟩,⟨17,⟨#[]⟩,0,[],[0]⟩,⟨19,⟨#[]⟩,0,[],[1]⟩],[⟨mainS,[eS],2⟩]⟩
def exS:StudyD:=⟨[0,-1,-1],[1],0,0⟩
def exI:List InsD:=[⟨5,0,⟨#[]⟩,[]⟩,⟨20,0,⟨#[]⟩,[]⟩,⟨1,0,⟨#[]⟩,[]⟩,⟨20,0,⟨#[]⟩,[]⟩]
def exF:FnD:=⟨mainS,1,1,0,4⟩
def exC:CodeD:=⟨[exF],exI⟩
theorem zclY:studyF exP=exS:=by kernel_rfl
theorem ex_code:codeP exP exS.slots exS.locals=exC:=by rfl
theorem main_ok:NameOk mainS:=by
 refine ⟨⟨by decide,fun _=>by rfl,?_⟩,by decide,by decide +kernel⟩
 intro i h
 have:i=0∨i=1∨i=2∨i=3:=by have:mainS.size=4:=rfl;omega
 rcases this with rfl | rfl | rfl | rfl <;> rfl
theorem ex_next (done:List Bool) (d:List Int) (k:Nat) (h:∀ j,j<k→done.getD j false=true∨getD d j<0) (hk:k≤4) (h2:k<4→done.getD k false=false∧0≤getD d k):IsNext done d 0 4 k:=⟨Nat.zero_le _,hk,fun j _ hj=>h j hj,h2⟩
theorem ex_done (j:Nat) (h:j<1):((List.replicate 4 false).set 0 true).getD j false=true:=by
 have e:j=0:=by omega
 subst e;rfl
theorem ex_follow:FollowR exC 0 4 (List.replicate 4 false) [0,-1,-1,-1] (-1,[0,1,-1,-1]):=by
 refine .go _ _ [0,1,-1,-1] 0 ⟨5,0,⟨#[]⟩,[]⟩ _ (ex_next _ _ _ (fun j h=>by omega) (by omega) (fun _=>⟨rfl,by decide⟩)) (by omega) rfl ?_ rfl ?_
 ·unfold Faulty
  decide
 refine .go _ _ [0,1,-1,-1] 1 ⟨20,0,⟨#[]⟩,[]⟩ _ (ex_next _ _ _ (fun j h=>.inl (ex_done j h)) (by omega) (fun _=>⟨rfl,by decide⟩)) (by omega) rfl ?_ rfl ?_
 ·unfold Faulty
  decide
 refine .stop _ _ (ex_next _ _ _ (fun j h=>?_) (by omega) (fun h=>by omega))
 have:j=0∨j=1∨j=2∨j=3:=by omega
 rcases this with rfl | rfl | rfl | rfl
 ·exact .inl rfl
 ·exact .inl rfl
 ·exact .inr (by decide)
 ·exact .inr (by decide)
theorem ex_formed (i:InsD) (h:i∈exI):FormedP 1 exF i:=by
 simp only [exI,List.mem_cons,List.not_mem_nil,or_false] at h;rcases h with rfl | rfl | rfl | rfl
 all_goals
  refine ⟨by decide,?_,?_,?_⟩
  ·unfold OperandP
   simp [bareB,exF]
  ·unfold StrP
   simp
   try rfl
  ·unfold KeysP
   simp
theorem ex_codeR:CodeR exC (0,0):=by
 have hF:fnsF exC exC.fns 0 0=(0,0):=by
  simp only [exC,fnsF];rw [if_neg,if_neg,if_neg,if_neg]
  ·simp [exF,exI]
  ·simp [exF,exI]
  ·simp [exF]
  ·rintro (h | ⟨j,h,_⟩)
   ·exact h main_ok
   ·omega
 refine .ok [0,1,-1,-1] (by simp [Big,exC,exI]) (by rw [hF]) ?_ ?_
 ·have hi:∀ n k,n+k=4→insF exC exF n k=none:=by
   intro n;induction n with
   | zero=>intro k _;rfl
   | succ n ih =>
    intro k hk;simp only [insF];have hk':k<exI.length:=by simp only [exI,List.length_cons,List.length_nil];omega
    rw [show exC.ins[k]? = some exI[k] from List.getElem?_eq_getElem hk'];simp only
    rw [if_neg (fun h=>h (ex_formed _ (List.getElem_mem hk'))),if_neg,ih _ (by omega)];rintro ⟨h0,h1,h2⟩;obtain rfl:k=3:=by omega
    exact h1 rfl
  have h0:=hi 4 0 rfl;show (match insF exC exF 4 0 with | some R=>some R | none=>none)=none;rw [h0]
 ·exact .go exF [] _ [0,1,-1,-1] _ ex_follow (.nil _)
theorem ex_prog {c:CodeD} {e:Int} (h:ProgR exP c e):c=exC∧e=0:=by
 refine h.det (.inr ⟨by rw [zclY];rfl,(0,0),?_,.inr ⟨rfl,?_,rfl⟩⟩)
 ·rw [zclY,ex_code];exact ex_codeR
 ·rw [zclY,ex_code]
theorem ex_len:lengthF exP=(4,0):=by
 unfold lengthF;rw [zclY];rfl
end Go.Proofs.YthiimbhjpdphpaaGreatDoor
