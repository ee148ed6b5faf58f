/- P0, P2 -/
import Derived.Test.YthiimbhjpdphpaaGreatDoorPE3
set_option linter.unusedVariables false
set_option linter.unusedSimpArgs false
set_option linter.unusedVariables false
namespace Go.Proofs.YthiimbhjpdphpaaGreatDoor
open Go.RowKit
structure NodeD where
 kind : Int
 text : ByteArray
 int : Int
 keys : List ByteArray
 kids : List Int
structure FuncD where
 name : ByteArray
 params : List ByteArray
 body : Int
structure ProgD where
 nodes : List NodeD
 funcs : List FuncD
def noNode : NodeD := ⟨0, ⟨#[]⟩, 0, [], []⟩
def noFunc : FuncD := ⟨⟨#[]⟩, [], 0⟩
def ProgD.at_ (p : ProgD) (i : Nat) : NodeD := p.nodes.getD i noNode
def strB (s : ByteArray) : Bool := txtB s && decide (s.size ≤ 200)
def wholeB (s : ByteArray) : Bool := match s.data.toList with
 | [] => false
 | c :: r => letB c && r.all wrdB
def runB (s : ByteArray) : Bool := decide (s.size ≤ 24) && wholeB s
def nameB (s : ByteArray) : Bool := runB s && !kwB s
def keyAtB (l : List ByteArray) (i : Nat) : Bool := strB (l.getD i ⟨#[]⟩) && (decide (i = 0) || !sleB (l.getD i ⟨#[]⟩) (l.getD (i - 1) ⟨#[]⟩))
def keysB (l : List ByteArray) : Bool := (List.range l.length).all (keyAtB l)
/-- The level of a binary operator, or 0. -/
def lvlF (s : ByteArray) : Int :=
 if s.toList = [111, 114] then 1 else if s.toList = [97, 110, 100] then 2
 else if s.toList ∈ ([[61, 61], [33, 61], [60], [60, 61], [62], [62, 61]] : List (List UInt8)) then 4
 else if s.toList ∈ ([[43], [45]] : List (List UInt8)) then 5
 else if s.toList ∈ ([[42], [47], [37]] : List (List UInt8)) then 6 else 0
def fieldsB (n : NodeD) : Bool :=
 if (n.kind ≠ 7 ∧ n.keys ≠ []) ∨ (n.kind ≠ 2 ∧ n.kind ≠ 3 ∧ n.int ≠ 0) then false
 else if n.kind = 2 then decide (n.text.toList = []) && (decide (n.int = 0) || decide (n.int = 1))
 else if n.kind = 3 then decide (n.text.toList = []) && (decide (0 ≤ n.int) && decide (n.int ≤ 1000000000000))
 else if n.kind = 4 then strB n.text
 else if n.kind = 5 ∨ n.kind = 11 ∨ n.kind = 13 ∨ n.kind = 14 then nameB n.text
 else if n.kind = 12 then runB n.text
 else if n.kind = 7 then decide (n.text.toList = []) && (decide (n.keys.length = n.kids.length) && keysB n.keys)
 else if n.kind = 8 then decide (n.text.toList = [45]) || decide (n.text.toList = [110, 111, 116])
 else if n.kind = 9 then decide (0 < lvlF n.text)
 else decide (n.text.toList = [])
def countB (n : NodeD) : Bool :=
 if 1 ≤ n.kind ∧ n.kind ≤ 5 then decide (n.kids.length = 0)
 else if n.kind = 8 ∨ n.kind = 13 ∨ n.kind = 14 ∨ n.kind = 17 ∨ n.kind = 18 then decide (n.kids.length = 1)
 else if n.kind = 9 ∨ n.kind = 10 ∨ n.kind = 16 then decide (n.kids.length = 2)
 else if n.kind = 15 then decide (n.kids.length = 2) || decide (n.kids.length = 3)
 else decide (n.kind = 6 ∨ n.kind = 7 ∨ n.kind = 11 ∨ n.kind = 12 ∨ n.kind = 19)
def fitsB (kind : Int) (k : Nat) (part : Int) : Bool :=
 if kind = 19 then decide (13 ≤ part) && decide (part ≤ 18)
 else if (kind = 15 ∨ kind = 16) ∧ 0 < k then decide (part = 19)
 else decide (1 ≤ part) && decide (part ≤ 12)
/-- The parts of a node, from the last one on. -/
def kidsF (l : List NodeD) (rec : Nat → Option Nat) (n : NodeD) : Nat → Nat → Option Nat
 | 0, a => some a
 | k + 1, a => if a < 1 ∨ n.kids.getD k (-1) ≠ (a : Int) - 1 ∨ fitsB n.kind k (l.getD (a - 1) noNode).kind = false then none
  else (rec (a - 1)).bind (kidsF l rec n k)
/-- The index of the first node of a node's tree. -/
def firstF (l : List NodeD) : Nat → Nat → Option Nat
 | 0, _ => none
 | f + 1, i => if fieldsB (l.getD i noNode) && countB (l.getD i noNode) then kidsF l (firstF l f) (l.getD i noNode) (l.getD i noNode).kids.length i else none
def funcB (l : List NodeD) (f : FuncD) (s : Nat) : Bool :=
 (nameB f.name && f.params.all nameB) && (decide ((s : Int) ≤ f.body) && (decide (f.body < l.length) && (decide ((l.getD f.body.toNat noNode).kind = 19) && decide (firstF l 600 f.body.toNat = some s))))
def orderedF (l : List NodeD) : List FuncD → Nat → Option Nat
 | [], s => some s
 | f :: r, s => if funcB l f s then orderedF l r (f.body.toNat + 1) else none
def orderedB (p : ProgD) : Bool := decide (orderedF p.nodes p.funcs 0 = some p.nodes.length)
def nestF (l : List NodeD) : Nat → Nat → Nat
 | 0, _ => 0
 | f + 1, i => (l.getD i noNode).kids.foldl (fun m k => max m (nestF l f k.toNat)) 0 + 1
def deepF (p : ProgD) : Nat := p.funcs.foldl (fun m f => max m (nestF p.nodes 600 f.body.toNat)) 0
/-- syntax.Check -/
def synF (p : ProgD) : Int :=
 if 600 < p.nodes.length ∨ 16 < p.funcs.length then 3
 else if orderedB p = false then 1
 else if (p.funcs.any fun f => decide (8 < f.params.length)) = true ∨ 32 < deepF p then 3 else 0
def findF (p : ProgD) (s : ByteArray) : Int := match p.funcs.findIdx? (fun f => decide (f.name = s)) with
 | some i => i
 | none => -1
def dupB (l : List ByteArray) : Bool := (List.range l.length).any fun k => (l.take k).any fun s => decide (s = l.getD k ⟨#[]⟩)
def funcsF (p : ProgD) : List FuncD → Nat → Option (Int × Int)
 | [], _ => none
 | f :: r, i => if (lookL builtL f.name).isSome = true ∨ findF p f.name < i ∨ dupB f.params = true then some (f.body, 6) else funcsF p r (i + 1)
def mainS : ByteArray := ⟨#[109, 97, 105, 110]⟩
/-- static.functions -/
def funsF (p : ProgD) : Int × Int := match funcsF p p.funcs 0 with
 | some r => r
 | none => if findF p mainS < 0 then (-1, 5) else if (p.funcs.getD (findF p mainS).toNat noFunc).params.length ≠ 1 then ((p.funcs.getD (findF p mainS).toNat noFunc).body, 7) else (0, 0)
structure ScD where
 vis : List (ByteArray × Int)
 next : Int
 slots : List Int
 errs : List Int
def alDel {α β : Type} [DecidableEq α] (l : List (α × β)) (a : α) : List (α × β) := l.eraseP fun q => decide (q.1 = a)
def letF (S : ScD) (i : Nat) (s : ByteArray) : ScD :=
 if (alGet S.vis s).isSome = true then ⟨S.vis, S.next + 1, S.slots.set i S.next, S.errs.set i 6⟩
 else if S.next = 32 then ⟨S.vis, S.next + 1, S.slots.set i S.next, S.errs.set i 3⟩
 else ⟨alSet S.vis s S.next, S.next + 1, S.slots.set i S.next, S.errs⟩
def wantF (p : ProgD) (s : ByteArray) : Option Int :=
 if 0 ≤ findF p s then some (p.funcs.getD (findF p s).toNat noFunc).params.length else lookL builtL s
def errW (want : Option Int) (n : Nat) : Int := match want with
 | none => 4
 | some k => if k ≠ n then 7 else 0
def endF (p : ProgD) (n : NodeD) (i : Nat) (S : ScD) : ScD :=
 if n.kind = 5 ∨ n.kind = 14 then (match alGet S.vis n.text with
  | some k => ⟨S.vis, S.next, S.slots.set i k, S.errs⟩
  | none => ⟨S.vis, S.next, S.slots, S.errs.set i 4⟩)
 else if n.kind = 13 then letF S i n.text
 else if n.kind = 11 then ⟨S.vis, S.next, S.slots, S.errs.set i (errW (wantF p n.text) n.kids.length)⟩
 else if n.kind = 12 then (if errW (lookL hostL n.text) n.kids.length = 0 then S else ⟨S.vis, S.next, S.slots, S.errs.set i (errW (lookL hostL n.text) n.kids.length)⟩)
 else S
def blockF (p : ProgD) (rec : Nat → ScD → ScD) : List Int → ScD → List ByteArray → ScD × List ByteArray
 | [], S, d => (S, d)
 | k :: r, S, d => blockF p rec r (rec k.toNat S) (if (p.at_ k.toNat).kind = 13 ∧ (rec k.toNat S).errs.getD k.toNat 0 = 0 then d ++ [(p.at_ k.toNat).text] else d)
def walkF (p : ProgD) : Nat → Nat → ScD → ScD
 | 0, _, S => S
 | f + 1, i, S => if (p.at_ i).kind = 19 then
   (let R := blockF p (walkF p f) (p.at_ i).kids S []
    ⟨R.2.foldl alDel R.1.vis, R.1.next, R.1.slots, R.1.errs⟩)
  else endF p (p.at_ i) i ((p.at_ i).kids.foldl (fun S k => walkF p f k.toNat S) S)
/-- static.study -/
def startS (p : ProgD) (f : FuncD) (sl er : List Int) : ScD := ⟨(List.range f.params.length).foldl (fun m i => alSet m (f.params.getD i ⟨#[]⟩) (i : Int)) [], f.params.length, sl, er⟩
def studyL (p : ProgD) : List FuncD → List Int → List Int → List Int → List Int × List Int × List Int
 | [], sl, er, lo => (sl, er, lo)
 | f :: r, sl, er, lo => studyL p r (walkF p 600 f.body.toNat (startS p f sl er)).slots (walkF p 600 f.body.toNat (startS p f sl er)).errs (lo ++ [(walkF p 600 f.body.toNat (startS p f sl er)).next])
def firstE : List Int → Nat → Option (Nat × Int)
 | [], _ => none
 | e :: r, i => if e ≠ 0 then some (i, e) else firstE r (i + 1)
structure StudyD where
 slots : List Int
 locals : List Int
 at_ : Int
 err : Int
def studyF (p : ProgD) : StudyD :=
 if synF p ≠ 0 then ⟨[], [], -1, synF p⟩
 else if (funsF p).2 ≠ 0 then ⟨[], [], (funsF p).1, (funsF p).2⟩
 else match firstE (studyL p p.funcs (List.replicate p.nodes.length (-1)) (List.replicate p.nodes.length 0) []).2.1 0 with
  | some q => ⟨[], [], q.1, q.2⟩
  | none => ⟨(studyL p p.funcs (List.replicate p.nodes.length (-1)) (List.replicate p.nodes.length 0) []).1, (studyL p p.funcs (List.replicate p.nodes.length (-1)) (List.replicate p.nodes.length 0) []).2.2, 0, 0⟩
def insO (op a : Int) : InsD := ⟨op, a, ⟨#[]⟩, []⟩
def insT (op : Int) (s : ByteArray) : InsD := ⟨op, 0, s, []⟩
/-- The instruction behind the parts of a node, if there is one. -/
def lastF (p : ProgD) (slots : List Int) (n : NodeD) (i : Nat) : Option InsD :=
 if n.kind = 1 then some (insO 1 0)
 else if n.kind = 2 then some (insO 2 n.int)
 else if n.kind = 3 then some (insO 3 n.int)
 else if n.kind = 4 then some (insT 4 n.text)
 else if n.kind = 5 then some (insO 5 (slots.getD i 0))
 else if n.kind = 6 then some (insO 11 n.kids.length)
 else if n.kind = 7 then some ⟨12, n.kids.length, ⟨#[]⟩, n.keys⟩
 else if n.kind = 8 then some (insT 8 n.text)
 else if n.kind = 10 then some (insO 10 0)
 else if n.kind = 11 then some (if 0 ≤ findF p n.text then insO 17 (findF p n.text) else ⟨18, n.kids.length, n.text, []⟩)
 else if n.kind = 12 then some ⟨19, n.kids.length, n.text, []⟩
 else if n.kind = 13 ∨ n.kind = 14 then some (insO 6 (slots.getD i 0))
 else if n.kind = 17 then some (insO 20 0)
 else if n.kind = 18 then some (insO 7 0)
 else none
def isAnd (n : NodeD) : Bool := decide (n.text.toList = [97, 110, 100])
def isOr (n : NodeD) : Bool := decide (n.text.toList = [111, 114])
def seqF (rec : Nat → Int → List InsD) : List Int → Int → List InsD
 | [], _ => []
 | k :: r, b => rec k.toNat b ++ seqF rec r (b + (rec k.toNat b).length)
def notS : ByteArray := ⟨#[110, 111, 116]⟩
/-- The instructions of a node, the first one of which has the index b. -/
def segF (p : ProgD) (slots : List Int) : Nat → Nat → Int → List InsD
 | 0, _, _ => []
 | f + 1, i, b =>
  let n := p.at_ i
  let k0 := (n.kids.getD 0 0).toNat
  let k1 := (n.kids.getD 1 0).toNat
  let k2 := (n.kids.getD 2 0).toNat
  if n.kind = 15 ∨ n.kind = 16 then
   let s0 := segF p slots f k0 b
   let b1 := b + s0.length + 1
   let s1 := segF p slots f k1 b1
   let b2 := b1 + s1.length
   if n.kind = 16 then s0 ++ [insO 14 (b2 + 1)] ++ s1 ++ [insO 13 b]
   else if 2 < n.kids.length then
    let s2 := segF p slots f k2 (b2 + 1)
    s0 ++ [insO 14 (b2 + 1)] ++ s1 ++ [insO 13 (b2 + 1 + s2.length)] ++ s2
   else s0 ++ [insO 14 b2] ++ s1
  else if n.kind = 9 then
   if isAnd n || isOr n then
    let s0 := segF p slots f k0 b
    let m := [insO 15 0, insO 16 0] ++ (if isOr n then [insT 8 notS] else [])
    let b1 := b + s0.length + m.length + 2
    let s1 := segF p slots f k1 b1
    s0 ++ m ++ [insO 14 (b1 + s1.length + 1), insO 7 0] ++ s1 ++ [insO 15 0]
   else seqF (segF p slots f) n.kids b ++ [insT 9 n.text]
  else seqF (segF p slots f) n.kids b ++ (match lastF p slots n i with | some x => [x] | none => [])
def funcSeg (p : ProgD) (slots : List Int) (f : Nat) (b : Int) : List InsD := segF p slots 600 (p.funcs.getD f noFunc).body.toNat b ++ [insO 1 0, insO 20 0]
/-- compile.Function -/
def functionF (p : ProgD) (f e : Int) : List InsD × Int :=
 if (studyF p).err ≠ 0 then ([], (studyF p).err)
 else if f < 0 ∨ (p.funcs.length : Int) ≤ f ∨ e < 0 ∨ 4000 < e then ([], 2)
 else (funcSeg p (studyF p).slots f.toNat e, 0)
def allSeg (p : ProgD) (slots : List Int) : Nat → List InsD
 | 0 => []
 | k + 1 => allSeg p slots k ++ funcSeg p slots k (allSeg p slots k).length
def lengthF (p : ProgD) : Int × Int :=
 if (studyF p).err ≠ 0 then (0, (studyF p).err) else (((allSeg p (studyF p).slots p.funcs.length).length : Int), 0)
def shiftI (e : Int) (i : InsD) : InsD := if i.op = 13 ∨ i.op = 14 then ⟨i.op, i.a + e, i.s, i.keys⟩ else i
theorem shift_last (e : Int) (p : ProgD) (sl : List Int) (n : NodeD) (i : Nat) (x : InsD) (h : lastF p sl n i = some x) : shiftI e x = x := by
 unfold shiftI
 rw [if_neg]
 unfold lastF at h
 by_cases k0 : n.kind = 1
 ·rw [if_pos k0] at h; cases h; simp [insO]
 rw [if_neg k0] at h
 by_cases k1 : n.kind = 2
 ·rw [if_pos k1] at h; cases h; simp [insO]
 rw [if_neg k1] at h
 by_cases k2 : n.kind = 3
 ·rw [if_pos k2] at h; cases h; simp [insO]
 rw [if_neg k2] at h
 by_cases k3 : n.kind = 4
 ·rw [if_pos k3] at h; cases h; simp [insT]
 rw [if_neg k3] at h
 by_cases k4 : n.kind = 5
 ·rw [if_pos k4] at h; cases h; simp [insO]
 rw [if_neg k4] at h
 by_cases k5 : n.kind = 6
 ·rw [if_pos k5] at h; cases h; simp [insO]
 rw [if_neg k5] at h
 by_cases k6 : n.kind = 7
 ·rw [if_pos k6] at h; cases h; simp
 rw [if_neg k6] at h
 by_cases k7 : n.kind = 8
 ·rw [if_pos k7] at h; cases h; simp [insT]
 rw [if_neg k7] at h
 by_cases k8 : n.kind = 10
 ·rw [if_pos k8] at h; cases h; simp [insO]
 rw [if_neg k8] at h
 by_cases k9 : n.kind = 11
 ·rw [if_pos k9] at h; cases h; split <;> simp [insO]
 rw [if_neg k9] at h
 by_cases k10 : n.kind = 12
 ·rw [if_pos k10] at h; cases h; simp
 rw [if_neg k10] at h
 by_cases k11 : n.kind = 13 ∨ n.kind = 14
 ·rw [if_pos k11] at h; cases h; simp [insO]
 rw [if_neg k11] at h
 by_cases k12 : n.kind = 17
 ·rw [if_pos k12] at h; cases h; simp [insO]
 rw [if_neg k12] at h
 by_cases k13 : n.kind = 18
 ·rw [if_pos k13] at h; cases h; simp [insO]
 rw [if_neg k13] at h
 cases h
theorem seg_shift (e : Int) (p : ProgD) (sl : List Int) : ∀ f i b, segF p sl f i (b + e) = (segF p sl f i b).map (shiftI e) := by
 intro f
 induction f with
 | zero => intros; rfl
 | succ f ih =>
  have hs : ∀ l b, seqF (segF p sl f) l (b + e) = (seqF (segF p sl f) l b).map (shiftI e) := by
   intro l
   induction l with
   | nil => intros; rfl
   | cons k r ihr =>
    intro b
    simp only [seqF, List.map_append, ih, List.length_map]
    rw [← ihr]
    congr 2
    omega
  intro i b
  simp only [segF]
  split
  ·have e1 : ∀ a : Int, b + e + a + 1 = b + a + 1 + e := by intro a; omega
   rw [ih _ b]
   simp only [List.length_map, e1]
   rw [ih _ (b + _ + 1)]
   simp only [List.length_map]
   split
   ·simp only [List.map_append, List.map_cons, List.map_nil]
    congr 1
    ·congr 1
     congr 1
     simp [shiftI, insO]; omega
   ·split
    ·have e2 : ∀ a c : Int, b + a + 1 + e + c + 1 = b + a + 1 + c + 1 + e := by intro a c; omega
     simp only [e2]
     rw [ih _ (b + _ + 1 + _ + 1)]
     simp only [List.map_append, List.map_cons, List.map_nil, List.length_map]
     congr 1
     congr 1
     all_goals first
      | (simp [shiftI, insO]; done)
      | (simp [shiftI, insO]; omega)
      | (congr 1; congr 1; simp [shiftI, insO]; done)
      | (congr 1; congr 1; simp [shiftI, insO]; omega)
    ·simp only [List.map_append, List.map_cons, List.map_nil]
     congr 1
     congr 1
     simp [shiftI, insO]
     try omega
  ·split
   ·split
    ·rw [ih _ b]
     simp only [List.length_map]
     have e1 : ∀ a c : Int, b + e + a + c + 2 = b + a + c + 2 + e := by intro a c; omega
     simp only [e1]
     rw [ih _ (b + _ + _ + 2)]
     simp only [List.map_append, List.map_cons, List.map_nil, List.length_map]
     congr 1
     congr 1
     congr 1
     ·congr 1
      split <;> simp [shiftI, insO, insT]
     ·simp [shiftI, insO]; omega
    ·rw [hs]
     simp only [List.map_append, List.map_cons, List.map_nil]
     congr 1
   ·rw [hs]
    simp only [List.map_append]
    congr 1
    split
    ·rename_i x hx
     simp [shift_last e p sl _ _ _ hx]
    ·rfl
end Go.Proofs.YthiimbhjpdphpaaGreatDoor
set_option linter.unusedVariables false
namespace Go.Proofs.YthiimbhjpdphpaaGreatDoor
open Go.RowKit
/-- A list of operands that covers the nodes from s on, up to e. -/
inductive Cover (l : List NodeD) (f : Nat) : List Int → Nat → Nat → Prop
 | nil (s : Nat) : Cover l f [] s s
 | cons (r : List Int) (s m e : Nat) : firstF l f m = some s → Cover l f r (m + 1) e → Cover l f ((m : Int) :: r) s e
theorem Cover.snoc {l : List NodeD} {f : Nat} {r : List Int} {s m e : Nat} (h : Cover l f r s e) (hm : firstF l f m = some e) : Cover l f (r ++ [(m : Int)]) s (m + 1) := by
 induction h with
 | nil s => exact .cons _ _ _ _ hm (.nil _)
 | cons r s k e h1 h2 ih => exact .cons _ _ _ _ h1 (ih hm)
theorem kidsF_cover {l : List NodeD} {f : Nat} {n : NodeD} : ∀ k a s, k ≤ n.kids.length → kidsF l (firstF l f) n k a = some s → Cover l f (n.kids.take k) s a ∧ ∀ j, j < k → ∃ m : Nat, n.kids.getD j (-1) = m ∧ m < a ∧ fitsB n.kind j (l.getD m noNode).kind = true := by
 intro k
 induction k with
 | zero =>
  intro a s _ h
  simp only [kidsF, Option.some.injEq] at h
  subst h
  exact ⟨by simpa using Cover.nil a, fun j hj => by omega⟩
 | succ k ih =>
  intro a s hk h
  simp only [kidsF] at h
  split at h
  ·cases h
  ·rename_i hc
   simp only [not_or, ne_eq, Decidable.not_not] at hc
   obtain ⟨h1, h2, h3⟩ := hc
   obtain ⟨a', ha, h4⟩ := Option.bind_eq_some_iff.mp h
   obtain ⟨g1, g2⟩ := ih a' s (by omega) h4
   have hle : a' ≤ a - 1 := by
    clear g1 g2 h4 ih h
    suffices ∀ f i s, firstF l f i = some s → s ≤ i from this _ _ _ ha
    intro f
    induction f with
    | zero => intro i s h; cases h
    | succ f ih =>
     intro i s h
     simp only [firstF] at h
     split at h
     ·have : ∀ k a s, kidsF l (firstF l f) (l.getD i noNode) k a = some s → s ≤ a := by
       intro k
       induction k with
       | zero => intro a s h; simp only [kidsF, Option.some.injEq] at h; omega
       | succ k ihk =>
        intro a s h
        simp only [kidsF] at h
        split at h
        ·cases h
        ·obtain ⟨a', h5, h6⟩ := Option.bind_eq_some_iff.mp h
         have := ih _ _ h5
         have := ihk _ _ h6
         omega
      exact this _ _ _ h
     ·cases h
   have hkl : k < n.kids.length := by omega
   have hgd : n.kids.getD k (-1) = n.kids[k] := by simp [List.getD_eq_getElem?_getD, hkl]
   refine ⟨?_, fun j hj => ?_⟩
   ·rw [List.take_succ_eq_append_getElem hkl, ← hgd, h2, show ((a : Int) - 1) = ((a - 1 : Nat) : Int) by omega]
    have := g1.snoc (m := a - 1) ha
    rwa [show a - 1 + 1 = a by omega] at this
   ·by_cases e : j = k
    ·subst e
     exact ⟨a - 1, by rw [h2]; omega, by omega, by simpa using h3⟩
    ·obtain ⟨m, h5, h6, h7⟩ := g2 j (by omega)
     exact ⟨m, h5, by omega, h7⟩
/-- What a node whose tree is right shows. -/
structure Tree (l : List NodeD) (f i s : Nat) : Prop where
 fields : fieldsB (l.getD i noNode) = true
 count : countB (l.getD i noNode) = true
 cover : Cover l f (l.getD i noNode).kids s i
 fits : ∀ j, j < (l.getD i noNode).kids.length → ∃ m : Nat, (l.getD i noNode).kids.getD j (-1) = m ∧ m < i ∧ fitsB (l.getD i noNode).kind j (l.getD m noNode).kind = true
theorem first_tree {l : List NodeD} {f i s : Nat} (h : firstF l (f + 1) i = some s) : Tree l f i s := by
 simp only [firstF] at h
 split at h
 ·rename_i hc
  simp only [Bool.and_eq_true] at hc
  obtain ⟨h1, h2⟩ := kidsF_cover _ _ _ (Nat.le_refl _) h
  rw [List.take_length] at h1
  exact ⟨hc.1, hc.2, h1, h2⟩
 ·cases h
theorem Cover.le {l : List NodeD} {f : Nat} (hf : ∀ i s, firstF l f i = some s → s ≤ i) {r : List Int} {s e : Nat} (h : Cover l f r s e) : s ≤ e := by
 induction h with
 | nil s => exact Nat.le_refl _
 | cons r s m e h1 h2 ih => have := hf _ _ h1; omega
theorem first_le {l : List NodeD} : ∀ {f i s}, firstF l f i = some s → s ≤ i := by
 intro f
 induction f with
 | zero => intro i s h; cases h
 | succ f ih =>
  intro i s h
  exact (first_tree h).cover.le (fun _ _ h => ih h)
theorem Cover.le' {l : List NodeD} {f : Nat} {r : List Int} {s e : Nat} (h : Cover l f r s e) : s ≤ e := h.le (fun _ _ => first_le)
theorem Cover.mem {l : List NodeD} {f : Nat} {r : List Int} {s e : Nat} (h : Cover l f r s e) : ∀ k ∈ r, ∃ m s' : Nat, k = m ∧ m < e ∧ s ≤ s' ∧ firstF l f m = some s' := by
 induction h with
 | nil s => intro k hk; cases hk
 | cons r s m e h1 h2 ih =>
  have := first_le h1
  have := h2.le'
  intro k hk
  rcases List.mem_cons.1 hk with rfl | hk
  ·exact ⟨m, s, rfl, by omega, Nat.le_refl _, h1⟩
  ·obtain ⟨m', s', h3, h4, h5, h6⟩ := ih k hk
   exact ⟨m', s', h3, h4, by omega, h6⟩
theorem seq_bd {l : List NodeD} {f c : Nat} {rec : Nat → Int → List InsD} (hr : ∀ i s b, firstF l f i = some s → (rec i b).length ≤ c * (i + 1 - s)) {r : List Int} {s e : Nat} (h : Cover l f r s e) : ∀ b, (seqF rec r b).length ≤ c * (e - s) := by
 induction h with
 | nil s => intro b; simp [seqF]
 | cons r s m e h1 h2 ih =>
  intro b
  have q1 := first_le h1
  have q2 := h2.le'
  simp only [seqF, List.length_append, Int.toNat_natCast]
  have h3 := hr m s b h1
  have h4 := ih (b + (rec m b).length)
  have : c * (e - s) = c * (m + 1 - s) + c * (e - (m + 1)) := by rw [← Nat.mul_add]; congr 1; omega
  omega
theorem Cover.two {l : List NodeD} {f : Nat} {a b : Int} {s e : Nat} (h : Cover l f [a, b] s e) : ∃ m : Nat, a = m ∧ b = (e : Int) - 1 ∧ m + 1 < e + 1 ∧ 1 ≤ e ∧ firstF l f m = some s ∧ firstF l f (e - 1) = some (m + 1) := by
 cases h with
 | cons r s m e h1 h2 =>
  cases h2 with
  | cons r s' m' e h3 h4 =>
   cases h4 with
   | nil _ => exact ⟨m, rfl, by omega, by have := first_le h3; omega, by omega, h1, by simpa using h3⟩
theorem Cover.three {l : List NodeD} {f : Nat} {a b c : Int} {s e : Nat} (h : Cover l f [a, b, c] s e) : ∃ m k : Nat, a = m ∧ b = k ∧ c = (e : Int) - 1 ∧ m < k ∧ k + 1 < e + 1 ∧ 1 ≤ e ∧ firstF l f m = some s ∧ firstF l f k = some (m + 1) ∧ firstF l f (e - 1) = some (k + 1) := by
 cases h with
 | cons r s m e h1 h2 =>
  cases h2 with
  | cons r s' k e h3 h4 =>
   cases h4 with
   | cons r s'' k' e h5 h6 =>
    cases h6 with
    | nil _ => exact ⟨m, k, rfl, rfl, by omega, by have := first_le h3; omega, by have := first_le h5; omega, by omega, h1, h3, by simpa using h5⟩
theorem Cover.one {l : List NodeD} {f : Nat} {a : Int} {s e : Nat} (h : Cover l f [a] s e) : a = (e : Int) - 1 ∧ 1 ≤ e ∧ firstF l f (e - 1) = some s := by
 cases h with
 | cons r s m e h1 h2 =>
  cases h2 with
  | nil _ => exact ⟨by omega, by omega, by simpa using h1⟩
theorem list_two {α : Type} {l : List α} (h : l.length = 2) : ∃ a b, l = [a, b] := by
 match l, h with
 | [a, b], _ => exact ⟨a, b, rfl⟩
theorem list_three {α : Type} {l : List α} (h : l.length = 3) : ∃ a b c, l = [a, b, c] := by
 match l, h with
 | [a, b, c], _ => exact ⟨a, b, c, rfl⟩
theorem list_one {α : Type} {l : List α} (h : l.length = 1) : ∃ a, l = [a] := by
 match l, h with
 | [a], _ => exact ⟨a, rfl⟩
/-- The kinds that have two operands, or two or three. -/
theorem cnt_two {n : NodeD} (h : countB n = true) (hk : n.kind = 9 ∨ n.kind = 10 ∨ n.kind = 16) : n.kids.length = 2 := by
 unfold countB at h
 rw [if_neg (by omega), if_neg (by omega), if_pos hk] at h
 simpa using h
theorem cnt_if {n : NodeD} (h : countB n = true) (hk : n.kind = 15) : n.kids.length = 2 ∨ n.kids.length = 3 := by
 unfold countB at h
 rw [if_neg (by omega), if_neg (by omega), if_neg (by omega), if_pos hk] at h
 simpa using h
theorem cnt_one {n : NodeD} (h : countB n = true) (hk : n.kind = 8 ∨ n.kind = 13 ∨ n.kind = 14 ∨ n.kind = 17 ∨ n.kind = 18) : n.kids.length = 1 := by
 unfold countB at h
 rw [if_neg (by omega), if_pos hk] at h
 simpa using h
theorem cnt_none {n : NodeD} (h : countB n = true) (hk : 1 ≤ n.kind ∧ n.kind ≤ 5) : n.kids.length = 0 := by
 unfold countB at h
 rw [if_pos hk] at h
 simpa using h
theorem seg_bd (p : ProgD) (sl : List Int) : ∀ f i s b, firstF p.nodes f i = some s → (segF p sl f i b).length ≤ 6 * (i + 1 - s) := by
 intro f
 induction f with
 | zero => intro i s b h; cases h
 | succ f ih =>
  intro i s b h
  have T := first_tree h
  have hsi := first_le h
  have hn : p.nodes.getD i noNode = p.at_ i := rfl
  have hq := fun b => seq_bd ih T.cover b
  have hc := T.cover
  have hct := T.count
  rw [hn] at hq hc hct
  simp only [segF]
  split
  ·rename_i hk
   by_cases h16 : (p.at_ i).kind = 16
   ·rw [if_pos h16]
    obtain ⟨a, c, hl⟩ := list_two (cnt_two hct (.inr (.inr h16)))
    rw [hl] at hc ⊢
    obtain ⟨m, rfl, rfl, h1, h2, h3, h4⟩ := hc.two
    simp only [List.length_append, List.length_cons, List.length_nil, List.getD_cons_zero, List.getD_cons_succ, Int.toNat_natCast]
    have q1 := ih _ _ b h3
    have q2 := fun b => ih _ _ b h4
    have := first_le h3
    have q3 := q2 (b + ((segF p sl f m b).length : Int) + 1)
    rw [show ((i : Int) - 1).toNat = i - 1 by omega]
    omega
   ·rw [if_neg h16]
    have h15 : (p.at_ i).kind = 15 := by omega
    rcases cnt_if hct h15 with hl2 | hl3
    ·rw [if_neg (by omega)]
     obtain ⟨a, c, hl⟩ := list_two hl2
     rw [hl] at hc ⊢
     obtain ⟨m, rfl, rfl, h1, h2, h3, h4⟩ := hc.two
     simp only [List.length_append, List.length_cons, List.length_nil, List.getD_cons_zero, List.getD_cons_succ, Int.toNat_natCast]
     have q1 := ih _ _ b h3
     have := first_le h3
     have q3 := ih _ _ (b + ((segF p sl f m b).length : Int) + 1) h4
     rw [show ((i : Int) - 1).toNat = i - 1 by omega]
     omega
    ·rw [if_pos (by omega)]
     obtain ⟨a, c, d, hl⟩ := list_three hl3
     rw [hl] at hc ⊢
     obtain ⟨m, k, rfl, rfl, rfl, h0, h1, h2, h3, h4, h5⟩ := hc.three
     simp only [List.length_append, List.length_cons, List.length_nil, List.getD_cons_zero, List.getD_cons_succ, Int.toNat_natCast]
     have q1 := ih _ _ b h3
     have := first_le h3
     have q3 := ih _ _ (b + ((segF p sl f m b).length : Int) + 1) h4
     have q4 := ih _ _ (b + ((segF p sl f m b).length : Int) + 1 + ((segF p sl f k (b + ((segF p sl f m b).length : Int) + 1)).length : Int) + 1) h5
     rw [show ((i : Int) - 1).toNat = i - 1 by omega]
     omega
  ·split
   ·rename_i hk
    split
    ·obtain ⟨a, c, hl⟩ := list_two (cnt_two hct (.inl hk))
     rw [hl] at hc ⊢
     obtain ⟨m, rfl, rfl, h1, h2, h3, h4⟩ := hc.two
     simp only [List.length_append, List.length_cons, List.length_nil, List.getD_cons_zero, List.getD_cons_succ, Int.toNat_natCast]
     rw [show ((i : Int) - 1).toNat = i - 1 by omega]
     have q1 := ih _ _ b h3
     have := first_le h3
     have q3 := fun b => ih _ _ b h4
     have hm : (if isOr (p.at_ i) = true then [insT 8 notS] else []).length ≤ 1 := by split <;> simp
     refine Nat.le_trans (Nat.add_le_add_right (Nat.add_le_add (Nat.add_le_add_right (Nat.add_le_add q1 (Nat.add_le_add_left hm _)) _) (q3 _)) _) ?_
     omega
    ·have := hq b
     simp only [List.length_append, List.length_cons, List.length_nil]
     omega
   ·have := hq b
    rw [List.length_append]
    split <;> simp only [List.length_cons, List.length_nil] <;> omega
end Go.Proofs.YthiimbhjpdphpaaGreatDoor
