/- E6, E8, PF, PG, PH -/
import Derived.Test.YthiimbhjpdphpaaGreatDoorPU13
import Derived.Lib.ItoaLen
set_option linter.unusedVariables false
set_option linter.unusedSimpArgs false
namespace Go.Proofs.YthiimbhjpdphpaaGreatDoor
open Go.RowKit
set_option maxRecDepth 100000
theorem check_int {n:Int} (h:inRange n=true):checkF [iCel n]=0:=by
 simp only [inRange,Bool.and_eq_true,decide_eq_true_eq] at h;refine checkF_zero.2 ⟨_,px_int n,rfl,?_,by simp [longB,iCel];decide,by simp,by show 1≤8;omega,?_⟩
 ·simp [outB,iCel];omega
 ·have:itoaLen n≤21:=Lib.itoa_length_le n (by omega) (by omega)
  show ((itoaLen n:Nat):Int)≤4000;omega
theorem okR_int {n:Int} (h:inRange n=true):okR [iCel n]=([iCel n],0):=by unfold okR;rw [if_pos (check_int h)]
theorem zbpY {v:ValD} (h:checkF v=0) {c:CellD} (hc:c∈v) (hk:c.kind=3):inRange c.int=true:=by
 obtain ⟨_,_,_,h2,_⟩:=checkF_zero.1 h;have h3:=List.any_eq_false.1 h2 c hc;simpa [outB,hk,inRange] using h3
theorem inRange_neg {n:Int} (h:inRange n=true):inRange (-n)=true:=by
 simp only [inRange,Bool.and_eq_true,decide_eq_true_eq] at h ⊢;omega
theorem zdgY {v:ValD} (h:checkF v=0):v≠[]:=by
 rintro rfl;have e:px ([]:ValD) 0=none:=by rw [px_eq,pstep];rfl
 simp [checkF,e,eSyntax] at h
theorem fdm_pos {a b:Int} (hb:0<b) (h:a.tmod b<0):a.fdiv b=a.tdiv b - 1∧a.fmod b=a.tmod b+b:=by
 have e:=Int.mul_tdiv_add_tmod a b;have l:=Int.lt_tmod_of_pos a hb;refine (Int.fdiv_fmod_unique hb).2 ⟨?_,by omega,by omega⟩
 rw [Int.mul_sub];omega
theorem fdm_pos' {a b:Int} (hb:0<b) (h:0≤a.tmod b):a.fdiv b=a.tdiv b∧a.fmod b=a.tmod b:=by
 have e:=Int.mul_tdiv_add_tmod a b;have l:=Int.tmod_lt_of_pos a hb;exact (Int.fdiv_fmod_unique hb).2 ⟨by omega,h,l⟩
theorem fdm_neg {a b:Int} (hb:b<0) (h:0<a.tmod b):a.fdiv b=a.tdiv b - 1∧a.fmod b=a.tmod b+b:=by
 have e:=Int.mul_tdiv_add_tmod a b;have l:=Int.tmod_lt_of_pos a (b:=-b) (by omega);rw [Int.tmod_neg] at l;refine (Int.fdiv_fmod_unique' hb).2 ⟨?_,by omega,by omega⟩
 rw [Int.mul_sub];omega
theorem fdm_neg' {a b:Int} (hb:b<0) (h:a.tmod b≤0):a.fdiv b=a.tdiv b∧a.fmod b=a.tmod b:=by
 have e:=Int.mul_tdiv_add_tmod a b;have l:=Int.lt_tmod_of_pos a (b:=-b) (by omega);rw [Int.tmod_neg] at l;exact (Int.fdiv_fmod_unique' hb).2 ⟨by omega,by omega,h⟩
theorem tdm_bd {a b:Int} (ha : -1000000000000≤a∧a≤1000000000000) (hb : -1000000000000≤b∧b≤1000000000000) (h0:b≠0):(-1000000000000≤a.tdiv b∧a.tdiv b≤1000000000000)∧(-1000000000000≤a.tmod b∧a.tmod b≤1000000000000):=by
 have h1:(a.tdiv b).natAbs≤a.natAbs:=by rw [Int.natAbs_tdiv];exact Nat.div_le_self _ _
 have h2:(a.tmod b).natAbs≤a.natAbs:=by rw [Int.natAbs_tmod];exact Nat.mod_le _ _
 omega
theorem fdiv_bd {a b:Int} (ha : -1000000000000≤a∧a≤1000000000000) (hb : -1000000000000≤b∧b≤1000000000000) (h0:b≠0):inRange (a.fdiv b)=true∧inRange (a.fmod b)=true:=by
 obtain ⟨h1,h2⟩:=tdm_bd ha hb h0;have e:=Int.mul_tdiv_add_tmod a b;simp only [inRange,Bool.and_eq_true,decide_eq_true_eq];rcases Int.lt_or_gt_of_ne h0 with hn | hn
 ·by_cases h:0<a.tmod b
  ·obtain ⟨e1,e2⟩:=fdm_neg hn h
   rw [e1,e2];have l:=Int.tmod_lt_of_pos a (b:=-b) (by omega);rw [Int.tmod_neg] at l;refine ⟨⟨?_,by omega⟩,by omega,by omega⟩
   by_cases hq:a.tdiv b≤-1000000000000
   ·have:=Int.mul_le_mul_of_nonpos_right (a:=-1) (b:=b) (c:=a.tdiv b) (by omega) (by omega)
    omega
   ·omega
  ·obtain ⟨e1,e2⟩:=fdm_neg' (a:=a) hn (by omega)
   rw [e1,e2];exact ⟨h1,h2⟩
 ·by_cases h:a.tmod b<0
  ·obtain ⟨e1,e2⟩:=fdm_pos hn h
   rw [e1,e2];have l:=Int.lt_tmod_of_pos a hn;refine ⟨⟨?_,by omega⟩,by omega,by omega⟩
   by_cases hq:a.tdiv b≤-1000000000000
   ·have:=Int.mul_le_mul_of_nonpos_right (a:=b) (b:=1) (c:=a.tdiv b) (by omega) (by omega)
    omega
   ·omega
  ·obtain ⟨e1,e2⟩:=fdm_pos' (a:=a) hn (by omega)
   rw [e1,e2];exact ⟨h1,h2⟩
def dmI (a b:Int):Int × Int × Int:=if b=0 then (0,0,9) else (a.fdiv b,a.fmod b,0)
theorem dm_cases {a b:Int} (h0:b≠0):∃ q r,a.fdiv b=q∧a.fmod b=r∧((a.tmod b=0∧q=a.tdiv b∧r=a.tmod b)∨(a.tmod b<0∧0<b∧q=a.tdiv b - 1∧r=a.tmod b+b)∨(a.tmod b<0∧b<0∧q=a.tdiv b∧r=a.tmod b)∨(0<a.tmod b∧b<0∧q=a.tdiv b - 1∧r=a.tmod b+b)∨(0<a.tmod b∧0<b∧q=a.tdiv b∧r=a.tmod b)):=by
 refine ⟨_,_,rfl,rfl,?_⟩
 rcases Int.lt_or_gt_of_ne h0 with hn | hn
 ·rcases Int.lt_trichotomy (a.tmod b) 0 with h | h | h
  ·obtain ⟨e1,e2⟩:=fdm_neg' (a:=a) hn (by omega)
   exact .inr (.inr (.inl ⟨h,hn,e1,e2⟩))
  ·obtain ⟨e1,e2⟩:=fdm_neg' (a:=a) hn (by omega)
   exact .inl ⟨h,e1,e2⟩
  ·obtain ⟨e1,e2⟩:=fdm_neg (a:=a) hn (by omega)
   exact .inr (.inr (.inr (.inl ⟨h,hn,e1,e2⟩)))
 ·rcases Int.lt_trichotomy (a.tmod b) 0 with h | h | h
  ·obtain ⟨e1,e2⟩:=fdm_pos (a:=a) hn (by omega)
   exact .inr (.inl ⟨h,hn,e1,e2⟩)
  ·obtain ⟨e1,e2⟩:=fdm_pos' (a:=a) hn (by omega)
   exact .inl ⟨h,e1,e2⟩
  ·obtain ⟨e1,e2⟩:=fdm_pos' (a:=a) hn (by omega)
   exact .inr (.inr (.inr (.inr ⟨h,hn,e1,e2⟩)))
def noCell:CellD:=⟨0,0,⟨#[]⟩,0⟩
def nulC:CellD:=⟨1,0,⟨#[]⟩,0⟩
def constF (l:List NodeD) (n:NodeD):Option CellD :=
 if n.kind=1 then some nulC
 else if n.kind=2 then some ⟨2,n.int,⟨#[]⟩,0⟩
 else if n.kind=3 then some (iCel n.int)
 else if n.kind=4 then some (sCel n.text)
 else if n.kind=8∧n.text.toList=[45]∧(l.getD (n.kids.getD 0 0).toNat noNode).kind=3∧0<(l.getD (n.kids.getD 0 0).toNat noNode).int then some (iCel (-(l.getD (n.kids.getD 0 0).toNat noNode).int))
 else none
def leafN (k:Int) (s:ByteArray) (n:Int):NodeD:=⟨k,s,n,[],[]⟩
def minS:ByteArray:=⟨#[45]⟩
def constantsF (c:CellD) (a:Nat):List NodeD :=
 if c.kind=1 then [leafN 1 ⟨#[]⟩ 0]
 else if c.kind=2 then [leafN 2 ⟨#[]⟩ c.int]
 else if c.kind=4 then [leafN 4 c.str 0]
 else if c.int<0 then [leafN 3 ⟨#[]⟩ (-c.int),⟨8,minS,0,[],[(a:Int)]⟩]
 else [leafN 3 ⟨#[]⟩ c.int]
def firstC (r:ResD):Option CellD:=if r.2=0 then r.1.head? else none
def valueF (n:NodeD) (l:List CellD):Option CellD :=
 if n.kind=8 then firstC (unaryR n.text [l.getD 0 noCell])
 else if isAnd n=false∧isOr n=false then firstC (binaryR n.text [l.getD 0 noCell] [l.getD 1 noCell])
 else if (l.getD 0 noCell).kind≠2 then none
 else if decide ((l.getD 0 noCell).int=1)=isOr n then some (l.getD 0 noCell)
 else if (l.getD 1 noCell).kind=2 then some (l.getD 1 noCell) else none
def foldK (rec:Nat→List NodeD→List NodeD):List Int→List NodeD→List Int→List CellD→List NodeD × List Int × List CellD
 | [],out,ks,vs=>(out,ks,vs)
 | k :: r,out,ks,vs=>foldK rec r (rec k.toNat out) (ks ++ [((rec k.toNat out).length:Int) - 1]) (vs ++ (constF (rec k.toNat out) ((rec k.toNat out).getD ((rec k.toNat out).length - 1) noNode)).toList)
def opVal (n:NodeD) (vs:List CellD):Option CellD:=if (n.kind=8∨n.kind=9)∧vs.length=n.kids.length then valueF n vs else none
def foldF (p:ProgD):Nat→Nat→List NodeD→List NodeD
 | 0,_,out=>out
 | f+1,i,out=>match opVal (p.at_ i) (foldK (foldF p f) (p.at_ i).kids out [] []).2.2 with
  | some c=>out ++ constantsF c out.length
  | none=>(foldK (foldF p f) (p.at_ i).kids out [] []).1 ++ [⟨(p.at_ i).kind,(p.at_ i).text,(p.at_ i).int,(p.at_ i).keys,(foldK (foldF p f) (p.at_ i).kids out [] []).2.1⟩]
def foldN (p:ProgD):Nat→List NodeD
 | 0=>[]
 | k+1=>foldF p 600 (p.funcs.getD k noFunc).body.toNat (foldN p k)
def foldFn (p:ProgD) (k:Nat):FuncD:=⟨(p.funcs.getD k noFunc).name,(p.funcs.getD k noFunc).params,((foldN p (k+1)).length:Int) - 1⟩
def foldP (p:ProgD):ProgD:=⟨foldN p p.funcs.length,(List.range p.funcs.length).map (foldFn p)⟩
def noProg:ProgD:=⟨[],[]⟩
def foldG (p:ProgD):ProgD × Int:=if (studyF p).err≠0 then (noProg,(studyF p).err) else (foldP p,0)
inductive ConC:CellD→Prop
 | nul:ConC nulC
 | bool (n:Int):n=0∨n=1→ConC ⟨2,n,⟨#[]⟩,0⟩
 | int (n:Int):inRange n=true→ConC (iCel n)
 | str (s:ByteArray):checkF [sCel s]=0→ConC (sCel s)
theorem ConC.check {c:CellD} (h:ConC c):checkF [c]=0:=by
 cases h with
 | nul=>decide +kernel
 | bool n h=>rcases h with rfl | rfl <;> decide +kernel
 | int n h=>exact check_int h
 | str s h=>exact h
theorem strB_check {s:ByteArray} (h:strB s=true):checkF [sCel s]=0:=by
 unfold strB at h;simp only [Bool.and_eq_true,decide_eq_true_eq] at h;exact check_str h.1 h.2
theorem check_strB {s:ByteArray} (h:checkF [sCel s]=0):strB s=true:=by
 have:=(zblY s).1 h
 unfold strB;simp only [Bool.and_eq_true,decide_eq_true_eq];exact this
theorem fields_bool {n:NodeD} (h:fieldsB n=true) (hk:n.kind=2):n.int=0∨n.int=1:=by
 unfold fieldsB at h;rw [if_neg (fun hh=>by rw [if_pos hh] at h;cases h),if_pos hk] at h;simp only [Bool.and_eq_true,Bool.or_eq_true,decide_eq_true_eq] at h;exact h.2
theorem zdcY {n:NodeD} (h:fieldsB n=true) (hk:n.kind=3):0≤n.int∧n.int≤1000000000000:=by
 unfold fieldsB at h;rw [if_neg (fun hh=>by rw [if_pos hh] at h;cases h),if_neg (by omega),if_pos hk] at h;simp only [Bool.and_eq_true,decide_eq_true_eq] at h;exact h.2
theorem fields_str {n:NodeD} (h:fieldsB n=true) (hk:n.kind=4):strB n.text=true:=by
 unfold fieldsB at h
 rwa [if_neg (fun hh=>by rw [if_pos hh] at h;cases h),if_neg (by omega),if_neg (by omega),if_pos hk] at h
theorem const_con {l:List NodeD} {n:NodeD} {c:CellD} (h:fieldsB n=true) (hk:n.kind=8→fieldsB (l.getD (n.kids.getD 0 0).toNat noNode)=true) (hc:constF l n=some c):ConC c:=by
 unfold constF at hc;by_cases k1:n.kind=1
 ·rw [if_pos k1] at hc;cases hc;exact .nul
 rw [if_neg k1] at hc;by_cases k2:n.kind=2
 ·rw [if_pos k2] at hc;cases hc;exact .bool _ (fields_bool h k2)
 rw [if_neg k2] at hc;by_cases k3:n.kind=3
 ·rw [if_pos k3] at hc;cases hc
  have:=zdcY h k3
  exact .int _ (by unfold inRange;simp;omega)
 rw [if_neg k3] at hc;by_cases k4:n.kind=4
 ·rw [if_pos k4] at hc;cases hc;exact .str _ (strB_check (fields_str h k4))
 rw [if_neg k4] at hc;split at hc
 ·rename_i k8
  cases hc
  obtain ⟨b1,b2⟩:=zdcY (hk k8.1) k8.2.2.1;have b3:=k8.2.2.2;generalize (l.getD (n.kids.getD 0 0).toNat noNode).int=z at b1 b2 b3;exact .int _ (by unfold inRange;simp;omega)
 ·cases hc
theorem firstC_some {r:ResD} {c:CellD} (h:firstC r=some c):r.2=0∧r.1.head? = some c:=by
 unfold firstC at h;split at h
 ·exact ⟨by assumption,h⟩
 ·cases h
theorem zdhY (b:Bool):ConC (bCel b):=by cases b <;> exact .bool _ (by decide)
theorem arith_con {op:List UInt8} {a b:Int} {c:CellD} (ha:inRange a=true) (hb:inRange b=true) (h:(arithR op a b).1.head? = some c):ConC c:=by
 have hn:∀ z:Int,(numR z).1.head? = some c→ConC c:=fun z hz=>by
  unfold numR at hz;split at hz
  ·simp at hz;subst hz;exact .int _ (by assumption)
  ·cases hz
 unfold arithR at h;split at h
 ·exact hn _ h
 ·split at h
  ·exact hn _ h
  ·split at h
   ·exact hn _ h
   ·split at h
    ·cases h
    ·rename_i h0
     have ha':=ha;have hb':=hb;simp only [inRange,Bool.and_eq_true,decide_eq_true_eq] at ha' hb';obtain ⟨hq,hm⟩:=fdiv_bd ha' hb' h0;split at h
     ·simp at h;subst h;exact .int _ hq
     ·simp at h;subst h;exact .int _ hm
theorem binary_con {op:ByteArray} {x y c:CellD} (hx:ConC x) (hy:ConC y) (h:(binaryR op [x] [y]).1.head? = some c):ConC c:=by
 unfold binaryR at h;split at h
 ·cases h
 rw [if_neg (by rw [hx.check];simp),if_neg (by rw [hy.check];simp)] at h;split at h
 ·simp at h;subst h;exact zdhY _
 split at h
 ·simp at h;subst h;exact zdhY _
 dsimp only at h;split at h
 ·cases h
 rename_i hk;split at h
 ·split at h
  ·simp at h;subst h;exact zdhY _
  ·split at h
   ·simp at h;subst h;exact zdhY _
   ·cases h
 split at h
 ·rename_i h3
  refine arith_con ?_ ?_ h
  ·exact zbpY hx.check (List.mem_singleton.2 rfl) h3
  ·exact zbpY hy.check (List.mem_singleton.2 rfl) (by omega)
 split at h
 ·unfold limR at h
  split at h
  ·rename_i h5
   simp at h;subst h;exact .str _ h5
  ·cases h
 split at h
 ·rename_i h5
  exfalso
  have h6:=h5.2;cases hx with
  | nul=>cases h6
  | bool n _=>cases h6
  | int n _=>cases h6
  | str s _=>cases h6
 ·cases h
theorem zb0Y {n:NodeD} {l:List CellD} {c:CellD} (h:∀ x∈l,ConC x) (hl:0<l.length) (hl2:n.kind≠8→1<l.length) (hc:valueF n l=some c):ConC c:=by
 have m0:ConC (l.getD 0 noCell):=by rw [zakZ hl];exact h _ (List.getElem_mem hl)
 unfold valueF at hc;split at hc
 ·obtain ⟨h1,h2⟩:=firstC_some hc
  unfold unaryR at h1 h2;split at h2
  ·cases h2
  ·split at h2
   ·cases h2
   ·simp only at h2
    split at h2
    ·simp at h2;subst h2;exact zdhY _
    ·split at h2
     ·rename_i hh
      simp at h2;subst h2
      have:=zbpY m0.check (List.mem_singleton.2 rfl) hh.2
      exact .int _ (inRange_neg this)
     ·cases h2
 ·rename_i hk
  have hl2:=hl2 hk;have m1:ConC (l.getD 1 noCell):=by rw [zakZ hl2];exact h _ (List.getElem_mem hl2)
  split at hc
  ·exact binary_con m0 m1 (firstC_some hc).2
  ·split at hc
   ·cases hc
   ·split at hc
    ·cases hc;exact m0
    ·split at hc
     ·cases hc;exact m1
     ·cases hc
theorem zcmY {l m:List NodeD} (h:l <+: m) {k:Nat} (hk:k<l.length) (d:NodeD):m.getD k d=l.getD k d:=by
 obtain ⟨r,rfl⟩:=h;simp [List.getD_eq_getElem?_getD,List.getElem?_append_left hk]
def RootR (m:List NodeD) (n n':NodeD):Prop :=
 (n'.kind=n.kind∧n'.text=n.text∧n'.int=n.int∧n'.keys=n.keys∧n'.kids.length=n.kids.length) ∨
 ((n.kind=8∨n.kind=9)∧((1≤n'.kind∧n'.kind≤4)∨n'.kind=8))
theorem fields_congr {n n':NodeD} (h1:n'.kind=n.kind) (h2:n'.text=n.text) (h3:n'.int=n.int) (h4:n'.keys=n.keys) (h5:n'.kids.length=n.kids.length):fieldsB n'=fieldsB n:=by
 unfold fieldsB;rw [h1,h2,h3,h4,h5]
theorem count_congr {n n':NodeD} (h1:n'.kind=n.kind) (h5:n'.kids.length=n.kids.length):countB n'=countB n:=by
 unfold countB;rw [h1,h5]
theorem fits_expr {a:Int} {j:Nat} {x y:Int} (hx:1≤x∧x≤12) (hy:1≤y∧y≤12) (h:fitsB a j x=true):fitsB a j y=true:=by
 unfold fitsB at h ⊢;split at h
 ·rename_i h2
  simp only [Bool.and_eq_true,decide_eq_true_eq] at h;omega
 ·split at h
  ·rename_i h2 h3
   simp only [decide_eq_true_eq] at h;omega
  ·rename_i h2 h3
   rw [if_neg h2,if_neg h3];simp
   omega
theorem fits_root {m:List NodeD} {a:Int} {j:Nat} {n n':NodeD} (h:RootR m n n') (hf:fitsB a j n.kind=true):fitsB a j n'.kind=true:=by
 rcases h with ⟨h,_⟩ | ⟨h1,h2⟩
 ·rw [h];exact hf
 ·exact fits_expr (x:=n.kind) (by omega) (by omega) hf
theorem Cover.split {l:List NodeD} {f:Nat} {r:List Int} {k:Int} {s e:Nat} (h:Cover l f (r ++ [k]) s e):∃ m s':Nat,k=m∧e=m+1∧firstF l f m=some s'∧Cover l f r s s':=by
 induction r generalizing s with
 | nil =>
  cases h with
  | cons _ _ m _ h1 h2 =>
   cases h2 with
   | nil _=>exact ⟨m,s,rfl,rfl,h1,.nil _⟩
 | cons a r ih =>
  cases h with
  | cons _ _ m _ h1 h2 =>
   obtain ⟨m',s',g1,g2,g3,g4⟩:=ih h2;exact ⟨m',s',g1,g2,g3,.cons _ _ _ _ h1 g4⟩
theorem cover_kidsF {l:List NodeD} {f:Nat} {n:NodeD}:∀ k s e,k≤n.kids.length→Cover l f (n.kids.take k) s e→(∀ j,j<k→fitsB n.kind j (l.getD (n.kids.getD j (-1)).toNat noNode).kind=true)→kidsF l (firstF l f) n k e=some s:=by
 intro k;induction k with
 | zero =>
  intro s e _ h _;rw [List.take_zero] at h;cases h with
  | nil _=>rfl
 | succ k ih =>
  intro s e hk h hf;have hkl:k<n.kids.length:=by omega
  rw [List.take_succ_eq_append_getElem hkl] at h;obtain ⟨m,s',g1,rfl,g3,g4⟩:=h.split;have hgd:n.kids.getD k (-1)=(m:Int):=by rw [zakZ hkl,g1]
  simp only [kidsF];have h0:=hf k (by omega);rw [hgd,Int.toNat_natCast] at h0;rw [if_neg,Nat.add_sub_cancel,g3]
  ·exact ih _ _ (by omega) g4 (fun j hj=>hf j (by omega))
  ·rw [hgd,Nat.add_sub_cancel]
   rintro (h1 | h1 | h1)
   ·omega
   ·exact h1 (by omega)
   ·rw [h0] at h1;cases h1
theorem zc8Y {l:List NodeD} {f i s:Nat} (h1:fieldsB (l.getD i noNode)=true) (h2:countB (l.getD i noNode)=true) (h3:Cover l f (l.getD i noNode).kids s i) (h4:∀ j,j<(l.getD i noNode).kids.length→fitsB (l.getD i noNode).kind j (l.getD ((l.getD i noNode).kids.getD j (-1)).toNat noNode).kind=true):firstF l (f+1) i=some s:=by
 simp only [firstF];rw [if_pos (by rw [h1,h2];rfl)];refine cover_kidsF _ _ _ (Nat.le_refl _) ?_ h4
 rw [List.take_length];exact h3
theorem foldl_max_le {g:Int→Nat} {N:Nat}:∀ (l:List Int) (a:Nat),a≤N→(∀ k∈l,g k≤N)→l.foldl (fun m k=>max m (g k)) a≤N:=by
 intro l;induction l with
 | nil=>intro a h _;exact h
 | cons k r ih=>intro a h hk;exact ih _ (Nat.max_le.2 ⟨h,hk k (List.mem_cons_self ..)⟩) (fun x hx=>hk x (List.mem_cons_of_mem _ hx))
theorem zc6Y {g:Int→Nat}:∀ (l:List Int) (a:Nat),a≤l.foldl (fun m k=>max m (g k)) a∧∀ k∈l,g k≤l.foldl (fun m k=>max m (g k)) a:=by
 intro l;induction l with
 | nil=>intro a;exact ⟨Nat.le_refl _,fun k hk=>by cases hk⟩
 | cons k r ih =>
  intro a;obtain ⟨h1,h2⟩:=ih (max a (g k));refine ⟨Nat.le_trans (Nat.le_max_left _ _) h1,fun x hx=>?_⟩
  rcases List.mem_cons.1 hx with rfl | hx
  ·exact Nat.le_trans (Nat.le_max_right _ _) h1
  ·exact h2 x hx
theorem toList_nil0:(⟨#[]⟩:ByteArray).toList=[]:=by rw [ByteArray.toList_eq]
theorem minS_list:minS.toList=[45]:=by rw [ByteArray.toList_eq];rfl
theorem zdbY {k:Int} (h:0≤k∧k≤1000000000000):fieldsB (leafN 3 ⟨#[]⟩ k)=true:=by
 have e:fieldsB (leafN 3 ⟨#[]⟩ k)=(decide ((⟨#[]⟩:ByteArray).toList=[]) && (decide (0≤k) && decide (k≤1000000000000))):=by
  unfold fieldsB;rw [if_neg (by simp [leafN]),if_neg (by simp [leafN]),if_pos (by rfl)];rfl
 rw [e,toList_nil0,decide_eq_true h.1,decide_eq_true h.2];rfl
theorem fields_min (a:Int):fieldsB ⟨8,minS,0,[],[a]⟩=true:=by
 unfold fieldsB;simp [minS_list]
theorem constants_at {c:CellD} (h:ConC c) (out m:List NodeD) (hm:out ++ constantsF c out.length <+: m) :
  (∃ n,constantsF c out.length=[n]∧n.kids=[]∧1≤n.kind∧n.kind≤4∧fieldsB n=true∧constF m n=some c) ∨
  (∃ k:Int,0<k∧k≤1000000000000∧c=iCel (-k)∧constantsF c out.length=[leafN 3 ⟨#[]⟩ k,⟨8,minS,0,[],[(out.length:Int)]⟩]):=by
 cases h with
 | nul=>exact .inl ⟨leafN 1 ⟨#[]⟩ 0,rfl,rfl,by decide,by decide,by decide +kernel,rfl⟩
 | bool n h =>
  refine .inl ⟨leafN 2 ⟨#[]⟩ n,rfl,rfl,by show (1:Int)≤2;omega,by show (2:Int)≤4;omega,?_,rfl⟩
  rcases h with rfl | rfl <;> decide +kernel
 | int n h =>
  have hr : -1000000000000≤n∧n≤1000000000000:=by simpa [inRange] using h
  by_cases hn:n<0
  ·refine .inr ⟨-n,by omega,by omega,by rw [Int.neg_neg],?_⟩
   unfold constantsF;rw [if_neg (by show ¬ (3:Int)=1;omega),if_neg (by show ¬ (3:Int)=2;omega),if_neg (by show ¬ (3:Int)=4;omega),if_pos (by exact hn)];rfl
  ·refine .inl ⟨leafN 3 ⟨#[]⟩ n,?_,rfl,by show (1:Int)≤3;omega,by show (3:Int)≤4;omega,?_,rfl⟩
   ·unfold constantsF
    rw [if_neg (by show ¬ (3:Int)=1;omega),if_neg (by show ¬ (3:Int)=2;omega),if_neg (by show ¬ (3:Int)=4;omega),if_neg (by exact hn)];rfl
   ·exact zdbY (by omega)
 | str s h =>
  refine .inl ⟨leafN 4 s 0,rfl,rfl,by show (1:Int)≤4;omega,by show (4:Int)≤4;omega,?_,rfl⟩
  unfold fieldsB;rw [if_neg (by simp [leafN]),if_neg (by simp [leafN]),if_neg (by simp [leafN]),if_pos (by rfl)];exact check_strB h
theorem zdfY {q:ProgD} {f k s:Nat} {c:CellD} (h:firstF q.nodes f k=some s) (hc:constF q.nodes (q.at_ k)=some c) (T:VN):walkE q f k T=.ok T:=by
 cases f with
 | zero=>cases h
 | succ f =>
  have T0:=zabY h;have leaf:1≤(q.at_ k).kind∧(q.at_ k).kind≤4→(q.at_ k).kids=[]:=fun hk=>List.length_eq_zero_iff.1 (cnt_none T0.count (by show 1≤(q.at_ k).kind∧(q.at_ k).kind≤5;omega))
  have lw:∀ (f k:Nat) (T:VN),1≤(q.at_ k).kind∧(q.at_ k).kind≤4→(q.at_ k).kids=[]→walkE q (f+1) k T=.ok T:=by
   intro f k T hk h0;simp only [walkE];rw [if_neg (by omega),h0];simp only [seqE,Except.bind];unfold endE;rw [if_neg (by omega),if_neg (by omega),if_neg (by omega),if_neg (by omega)]
  unfold constF at hc;by_cases k1:(q.at_ k).kind=1
  ·exact lw _ _ _ (by omega) (leaf (by omega))
  rw [if_neg k1] at hc;by_cases k2:(q.at_ k).kind=2
  ·exact lw _ _ _ (by omega) (leaf (by omega))
  rw [if_neg k2] at hc;by_cases k3:(q.at_ k).kind=3
  ·exact lw _ _ _ (by omega) (leaf (by omega))
  rw [if_neg k3] at hc;by_cases k4:(q.at_ k).kind=4
  ·exact lw _ _ _ (by omega) (leaf (by omega))
  rw [if_neg k4] at hc;split at hc
  ·rename_i k8
   obtain ⟨a,ha⟩:=zclY (zcdY T0.count (.inl k8.1));have hcv:=T0.cover;have ha':(q.nodes.getD k noNode).kids=[a]:=ha;rw [ha'] at hcv;obtain ⟨e1,e2,e3⟩:=hcv.one
   have hk3:(q.at_ (k - 1)).kind=3:=by
    have:=k8.2.2.1
    rw [show (q.at_ k).kids=[a] from ha,List.getD_cons_zero,e1,show ((k:Int) - 1).toNat=k - 1 by omega] at this;exact this
   simp only [walkE];rw [if_neg (by omega),show (q.at_ k).kids=[a] from ha];simp only [seqE];rw [e1,show ((k:Int) - 1).toNat=k - 1 by omega];cases f with
   | zero=>cases e3
   | succ f =>
    have T1:=zabY e3;rw [lw f (k - 1) T (by omega) (List.length_eq_zero_iff.1 (cnt_none T1.count (by show 1≤(q.at_ (k - 1)).kind∧(q.at_ (k - 1)).kind≤5;omega)))];simp only [Except.bind];unfold endE;rw [if_neg (by omega),if_neg (by omega),if_neg (by omega),if_neg (by omega)]
  ·cases hc
structure FoldI (p:ProgD) (f i s:Nat) (out t:List NodeD):Prop where
 eq:foldF p f i out=out ++ t
 pos:0<t.length
 len:t.length≤i+1 - s
 tree:∀ m,out ++ t <+: m→firstF m f (out.length+t.length - 1)=some out.length
 root:∀ m,out ++ t <+: m→RootR m (p.at_ i) (m.getD (out.length+t.length - 1) noNode)
 nest:∀ m,out ++ t <+: m→nestF m f (out.length+t.length - 1)≤nestF p.nodes f i
 again:∀ q:ProgD,out ++ t <+: q.nodes→foldF q f (out.length+t.length - 1) out=out ++ t
 walk:∀ q:ProgD,out ++ t <+: q.nodes→(∀ s,wantF q s=wantF p s)→∀ T,walkE q f (out.length+t.length - 1) T=walkE p f i T
structure FoldKs (p:ProgD) (f:Nat) (r:List Int) (s e:Nat) (out t:List NodeD) (ks:List Int) (vs:List CellD):Prop where
 eq:∀ kz vz,foldK (foldF p f) r out kz vz=(out ++ t,kz ++ ks,vz ++ vs)
 len:t.length≤e - s
 num:ks.length=r.length
 cov:∀ m,out ++ t <+: m→Cover m f ks out.length (out.length+t.length)
 root:∀ m,out ++ t <+: m→∀ j,j<r.length→RootR m (p.at_ (r.getD j (-1)).toNat) (m.getD (ks.getD j (-1)).toNat noNode)
 nest:∀ m,out ++ t <+: m→∀ k∈ks,∃ k'∈r,nestF m f k.toNat≤nestF p.nodes f k'.toNat
 again:∀ q:ProgD,out ++ t <+: q.nodes→∀ kz vz,foldK (foldF q f) ks out kz vz=(out ++ t,kz ++ ks,vz ++ vs)
 walk:∀ q:ProgD,out ++ t <+: q.nodes→(∀ s,wantF q s=wantF p s)→∀ T,seqE (walkE q f) ks T=seqE (walkE p f) r T
 vals:∀ m,out ++ t <+: m→vs=ks.filterMap fun k=>constF m (m.getD k.toNat noNode)
theorem zbfY {out a b m:List NodeD} (h:out ++ (a ++ b) <+: m):(out ++ a) <+: m:=by
 obtain ⟨r,rfl⟩:=h;exact ⟨b ++ r,by simp⟩
theorem const_pre {l m:List NodeD} (h:l <+: m) {f k s:Nat} (hk:k<l.length) (ht:firstF l f k=some s):constF m (m.getD k noNode)=constF l (l.getD k noNode):=by
 rw [zcmY h hk];cases f with
 | zero=>cases ht
 | succ f =>
  have T:=zabY ht;unfold constF;by_cases k8:(l.getD k noNode).kind=8
  ·obtain ⟨a,ha⟩:=zclY (zcdY T.count (.inl k8))
   have hcv:=T.cover;rw [ha] at hcv ⊢;obtain ⟨e1,e2,e3⟩:=hcv.one;rw [List.getD_cons_zero,e1,show ((k:Int) - 1).toNat=k - 1 by omega,zcmY h (by omega)]
  ·rw [if_neg (fun hh=>k8 hh.1) (c:=(l.getD k noNode).kind=8∧_∧_∧_),if_neg (fun hh=>k8 hh.1) (c:=(l.getD k noNode).kind=8∧_∧_∧_)]
theorem zbcY {p:ProgD} {f:Nat} (ih:∀ i s,firstF p.nodes f i=some s→∀ out,∃ t,FoldI p f i s out t) {r:List Int} {s e:Nat} (h:Cover p.nodes f r s e):∀ out,∃ t ks vs,FoldKs p f r s e out t ks vs:=by
 induction h with
 | nil s =>
  intro out;exact ⟨[],[],[],⟨fun kz vz=>(by simp [foldK]),by simp,rfl,fun m _=>(by simpa using Cover.nil out.length),fun m _ j hj=>absurd hj (by simp),fun m _ k hk=>(by cases hk),fun q _ kz vz=>(by simp [foldK]),fun q _ _ T=>rfl,fun m _=>rfl⟩⟩
 | cons r s m e h1 h2 ihr =>
  intro out;obtain ⟨t1,F⟩:=ih m s h1 out;obtain ⟨t2,ks,vs,K⟩:=ihr (out ++ t1);have q1:=zaaY h1;have q2:=h2.le';have hp:=F.pos;obtain ⟨a,ha⟩:∃ a,out.length+t1.length - 1=a:=⟨_,rfl⟩
  have hlen:(out ++ t1).length - 1=a:=by rw [List.length_append];exact ha
  have hai:(((out ++ t1).length:Int) - 1)=(a:Int):=by rw [List.length_append];omega
  obtain ⟨v,hv⟩:∃ v,constF (out ++ t1) ((out ++ t1).getD a noNode)=v:=⟨_,rfl⟩
  have hst:∀ q:ProgD,foldF q f a out=out ++ t1→∀ (r':List Int) kz vz,foldK (foldF q f) ((a:Int) :: r') out kz vz=foldK (foldF q f) r' (out ++ t1) (kz ++ [(a:Int)]) (vz ++ v.toList):=by
   intro q hq r' kz vz;simp only [foldK,Int.toNat_natCast];rw [hq,hlen,hai,hv]
  refine ⟨t1 ++ t2,(a:Int) :: ks,v.toList ++ vs,⟨fun kz vz=>?_,?_,?_,fun l hl=>?_,fun l hl j hj=>?_,fun l hl k hk=>?_,fun q hq kz vz=>?_,fun q hq hw T=>?_,fun l hl=>?_⟩⟩
  ·simp only [foldK,Int.toNat_natCast]
   rw [F.eq,hlen,hai,hv,K.eq];simp
  ·have:=F.len;have:=K.len;rw [List.length_append];omega
  ·simp [K.num]
  ·have:=K.cov l (by rwa [List.append_assoc])
   rw [List.length_append] at this ⊢;have h3:=F.tree l (zbfY hl);rw [ha] at h3;refine .cons _ _ _ _ h3 ?_
   rw [show a+1=out.length+t1.length by omega,show out.length+(t1.length+t2.length)=out.length+t1.length+t2.length by omega];exact this
  ·cases j with
   | zero=>simpa [ha] using F.root l (zbfY hl)
   | succ j=>simpa using K.root l (by rwa [List.append_assoc]) j (by simpa using hj)
  ·rcases List.mem_cons.1 hk with rfl | hk
   ·exact ⟨m,List.mem_cons_self ..,by have:=F.nest l (zbfY hl);rw [ha] at this;simpa using this⟩
   ·obtain ⟨k',h3,h4⟩:=K.nest l (by rwa [List.append_assoc]) k hk
    exact ⟨k',List.mem_cons_of_mem _ h3,h4⟩
  ·have h3:=F.again q (zbfY hq)
   rw [ha] at h3;rw [hst q h3,K.again q (by rwa [List.append_assoc])];simp
  ·have h3:=F.walk q (zbfY hq) hw
   rw [ha] at h3;simp only [seqE,Int.toNat_natCast];rw [h3];have h4:seqE (walkE q f) ks=seqE (walkE p f) r:=funext (K.walk q (by rwa [List.append_assoc]) hw);rw [h4]
  ·have h3:=F.tree (out ++ t1) ⟨[],by simp⟩
   rw [ha] at h3;have h4:=const_pre (zbfY hl) (by rw [List.length_append];omega) h3;rw [hv] at h4;rw [List.filterMap_cons,Int.toNat_natCast,h4,K.vals l (by rwa [List.append_assoc])];cases v <;> rfl
theorem nest_pos (l:List NodeD) (f i:Nat):1≤nestF l (f+1) i:=by simp [nestF]
theorem filterMap_full {α β:Type} {g:α→Option β}:∀ {l:List α},(l.filterMap g).length=l.length→∀ k∈l,∃ v,g k=some v:=by
 intro l;induction l with
 | nil=>intro _ k hk;cases hk
 | cons a r ih =>
  intro h k hk;rw [List.filterMap_cons] at h;cases ha:g a with
  | none =>
   rw [ha] at h
   have:=List.length_filterMap_le g r
   simp at h;omega
  | some v =>
   rw [ha] at h;rcases List.mem_cons.1 hk with rfl | hk
   ·exact ⟨v,ha⟩
   ·exact ih (by simpa using h) k hk
theorem decl_same {p q:ProgD} {l:List NodeD} {r ks:List Int} (hn:ks.length=r.length) (h:∀ j,j<r.length→RootR l (p.at_ (r.getD j (-1)).toNat) (q.at_ (ks.getD j (-1)).toNat)):declF q ks=declF p r:=by
 induction r generalizing ks with
 | nil=>obtain rfl:ks=[]:=List.length_eq_zero_iff.1 hn;rfl
 | cons a r ih =>
  match ks,hn with
  | b :: ks,hn =>
   have h0:=h 0 (by simp);simp only [List.getD_cons_zero] at h0;simp only [declF];rw [ih (by simpa using hn) (fun j hj=>by have:=h (j+1) (by simpa using hj);simpa using this)];congr 1
   rcases h0 with ⟨h1,h2,_⟩ | ⟨h1,h2⟩
   ·rw [h1,h2]
   ·rw [if_neg (by omega),if_neg (by omega)]
theorem value_congr {n n':NodeD} (h1:n'.kind=n.kind) (h2:n'.text=n.text) (h5:n'.kids.length=n.kids.length) (vs:List CellD):opVal n' vs=opVal n vs:=by
 unfold opVal valueF isAnd isOr;rw [h1,h2,h5]
theorem endE_congr {p q:ProgD} (hw:∀ s,wantF q s=wantF p s) {n n':NodeD} (h1:n'.kind=n.kind) (h2:n'.text=n.text) (h5:n'.kids.length=n.kids.length) (T:VN):endE q n' T=endE p n T:=by
 unfold endE;rw [h1,h2,h5,hw]
theorem op_kids {n:NodeD} (h:countB n=true) (hk:n.kind=8∨n.kind=9):0<n.kids.length∧(n.kind≠8→1<n.kids.length):=by
 rcases hk with hk | hk
 ·have:=zcdY h (.inl hk);exact ⟨by omega,fun h=>absurd hk h⟩
 ·have:=cnt_two h (.inl hk);exact ⟨by omega,fun _=>by omega⟩
theorem unary_minus {k:Int} (h:0<k∧k≤1000000000000):firstC (unaryR minS [iCel k])=some (iCel (-k)):=by
 have hr:inRange k=true:=by unfold inRange;simp;omega
 have ht:minS.toList=[45]:=by rw [ByteArray.toList_eq];rfl
 unfold unaryR;rw [ht,if_neg (by simp),if_neg (by rw [check_int hr];simp)];simp only
 rw [if_neg (by simp),if_pos ⟨by trivial,rfl⟩];rfl
theorem zauY (p:ProgD):∀ f i s,firstF p.nodes f i=some s→∀ out,∃ t,FoldI p f i s out t:=by
 intro f;induction f with
 | zero=>intro i s h;cases h
 | succ f ih =>
  intro i s h out;have T:=zabY h;have hs:=zaaY h;obtain ⟨t,ks,vs,K⟩:=zbcY ih T.cover out;have hn:p.nodes.getD i noNode=p.at_ i:=rfl;rw [hn] at K;have hct:=T.count;have hfd:=T.fields;rw [hn] at hct hfd
  have hft:∀ j,j<(p.at_ i).kids.length→fitsB (p.at_ i).kind j (p.at_ ((p.at_ i).kids.getD j (-1)).toNat).kind=true:=by
   intro j hj;obtain ⟨m,h1,h2,h3⟩:=T.fits j hj;rw [hn] at h1 h3;rw [h1,Int.toNat_natCast];exact h3
  have hK:=K.eq [] [];simp only [List.nil_append] at hK;obtain ⟨ov,hov⟩:∃ v,opVal (p.at_ i) vs=v:=⟨_,rfl⟩
  cases ov with
  | none =>
   have hF:∀ (q:ProgD) (j:Nat) (n:NodeD) ,q.at_ j=n→n.kind=(p.at_ i).kind→n.text=(p.at_ i).text→n.int=(p.at_ i).int→n.keys=(p.at_ i).keys→n.kids.length=(p.at_ i).kids.length→foldK (foldF q f) n.kids out [] []=(out ++ t,ks,vs)→foldF q (f+1) j out=(out ++ t) ++ [⟨(p.at_ i).kind,(p.at_ i).text,(p.at_ i).int,(p.at_ i).keys,ks⟩]:=by
    intro q j n e1 e2 e3 e4 e5 e6 e7;simp only [foldF];rw [e1,e7,value_congr e2 e3 e6,hov,e2,e3,e4,e5]
   obtain ⟨N,hN⟩:∃ N:NodeD,(⟨(p.at_ i).kind,(p.at_ i).text,(p.at_ i).int,(p.at_ i).keys,ks⟩:NodeD)=N:=⟨_,rfl⟩
   have n1:N.kind=(p.at_ i).kind:=by rw [← hN]
   have n2:N.text=(p.at_ i).text:=by rw [← hN]
   have n3:N.int=(p.at_ i).int:=by rw [← hN]
   have n4:N.keys=(p.at_ i).keys:=by rw [← hN]
   have n5:N.kids=ks:=by rw [← hN]
   have n6:N.kids.length=(p.at_ i).kids.length:=by rw [n5,K.num]
   rw [hN] at hF;have hidx:out.length+(t ++ [N]).length - 1=out.length+t.length:=by simp
   have hget:∀ m,out ++ (t ++ [N]) <+: m→m.getD (out.length+t.length) noNode=N:=by
    intro m hm;rw [zcmY hm (by simp)];rw [← List.append_assoc,← List.length_append];simp [List.getD_eq_getElem?_getD]
   refine ⟨t ++ [N],⟨?_,by simp,?_,fun m hm=>?_,fun m hm=>?_,fun m hm=>?_,fun q hq=>?_,fun q hq hw U=>?_⟩⟩
   ·rw [hF p i (p.at_ i) rfl rfl rfl rfl rfl rfl hK,List.append_assoc]
   ·have:=K.len;have:=T.cover.le';simp;omega
   ·rw [hidx]
    have hg:=hget m hm;refine zc8Y ?_ ?_ ?_ ?_
    ·rw [hg,fields_congr n1 n2 n3 n4 n6];exact hfd
    ·rw [hg,count_congr n1 n6];exact hct
    ·rw [hg,n5];exact K.cov m (zbfY hm)
    ·rw [hg]
     intro j hj;rw [n6] at hj;rw [n1,n5];exact fits_root (K.root m (zbfY hm) j hj) (hft j hj)
   ·rw [hidx,hget m hm]
    exact .inl ⟨n1,n2,n3,n4,n6⟩
   ·rw [hidx]
    simp only [nestF];rw [hget m hm,n5,hn];refine Nat.succ_le_succ (foldl_max_le _ _ (Nat.zero_le _) (fun k hk=>?_))
    obtain ⟨k',h1,h2⟩:=K.nest m (zbfY hm) k hk;exact Nat.le_trans h2 ((zc6Y (g:=fun k=>nestF p.nodes f k.toNat) _ 0).2 k' h1)
   ·rw [hidx]
    rw [hF q (out.length+t.length) N (hget _ hq) n1 n2 n3 n4 n6 (by rw [n5];have:=K.again q (zbfY hq) [] [];simpa using this),List.append_assoc]
   ·rw [hidx]
    simp only [walkE];rw [show q.at_ (out.length+t.length)=N from hget _ hq,n1,n5];have h4:=K.walk q (zbfY hq) hw;have h5:declF q ks=declF p (p.at_ i).kids:=decl_same K.num (K.root q.nodes (zbfY hq));rw [h4,h5];split
    ·rfl
    ·cases seqE (walkE p f) (p.at_ i).kids U with
     | error x=>rfl
     | ok V=>exact endE_congr hw n1 n2 n6 V
  | some c =>
   have hop:((p.at_ i).kind=8∨(p.at_ i).kind=9)∧vs.length=(p.at_ i).kids.length:=by
    unfold opVal at hov;split at hov
    ·assumption
    ·cases hov
   have hval:valueF (p.at_ i) vs=some c:=by
    unfold opVal at hov
    rwa [if_pos hop] at hov
   obtain ⟨ok1,ok2⟩:=op_kids hct hop.1;have hpre:out ++ t <+: out ++ t:=⟨[],by simp⟩
   have hcov:=K.cov _ hpre;have hvs:=K.vals _ hpre;have hfull:∀ k∈ks,∃ v,constF (out ++ t) ((out ++ t).getD k.toNat noNode)=some v:=filterMap_full (by rw [← hvs,hop.2,K.num])
   have hcon:∀ x∈vs,ConC x:=by
    intro x hx;rw [hvs] at hx;obtain ⟨k,hk,hx⟩:=List.mem_filterMap.1 hx;obtain ⟨m,s',rfl,h1,h2,h3⟩:=hcov.mem k hk;rw [Int.toNat_natCast] at hx;cases f with
    | zero=>cases h3
    | succ f =>
     have T1:=zabY h3;refine const_con T1.fields (fun h8=>?_) hx
     obtain ⟨a,ha⟩:=zclY (zcdY T1.count (.inl h8));have hc2:=T1.cover;rw [ha] at hc2 ⊢;obtain ⟨e1,e2,e3⟩:=hc2.one;rw [List.getD_cons_zero,e1,show ((m:Int) - 1).toNat=m - 1 by omega];cases f with
     | zero=>cases e3
     | succ f=>exact (zabY e3).fields
   have hc:ConC c:=zb0Y hcon (by omega) (fun h=>by have:=ok2 h;omega) hval
   have hpw:∀ U,walkE p (f+1) i U=.ok U:=by
    intro U;have h4:=K.walk ⟨out ++ t,p.funcs⟩ hpre (fun _=>rfl) U
    have h5:∀ (l:List Int),(∀ k∈l,k∈ks)→∀ U,seqE (walkE ⟨out ++ t,p.funcs⟩ f) l U=.ok U:=by
     intro l;induction l with
     | nil=>intro _ U;rfl
     | cons a r ihl =>
      intro hl U;obtain ⟨v,hv⟩:=hfull a (hl a (List.mem_cons_self ..));obtain ⟨m,s',rfl,g1,g2,g3⟩:=hcov.mem a (hl a (List.mem_cons_self ..));simp only [seqE,Int.toNat_natCast];rw [zdfY (q:=⟨out ++ t,p.funcs⟩) g3 hv U];exact ihl (fun k hk=>hl k (List.mem_cons_of_mem _ hk)) U
    rw [h5 ks (fun _ h=>h)] at h4;simp only [walkE];rw [if_neg (by omega),← h4];simp only [Except.bind];unfold endE;rw [if_neg (by omega),if_neg (by omega),if_neg (by omega),if_neg (by omega)]
   have hkid:∃ k0∈(p.at_ i).kids,True:=by
    match h0:(p.at_ i).kids,ok1 with
    | a :: r,_=>exact ⟨a,List.mem_cons_self ..,trivial⟩
   obtain ⟨k0,hk0,_⟩:=hkid;obtain ⟨m0,s0,e0,hm0,_,hf0⟩:=T.cover.mem k0 (by rw [hn];exact hk0)
   have hnest2:2≤nestF p.nodes (f+1) i:=by
    cases f with
    | zero=>cases hf0
    | succ f =>
     have h1:=nest_pos p.nodes f m0;have h2:=(zc6Y (g:=fun k=>nestF p.nodes (f+1) k.toNat) (p.at_ i).kids 0).2 k0 hk0;rw [e0] at h2;simp only [Int.toNat_natCast] at h2;simp only [nestF] at h1 h2 ⊢;rw [hn];omega
   have hwide:s+1≤i:=by have:=zaaY hf0;have:=T.cover;rw [hn] at this;obtain ⟨_,s1,_,_,h5,h6⟩:=this.mem k0 hk0;have:=zaaY h6;omega
   have hEq:foldF p (f+1) i out=out ++ constantsF c out.length:=by
    simp only [foldF];rw [hK,hov]
   have hcc:=constants_at hc out
   have hpf:∃ f',f=f' + 1:=by
    cases f with
    | zero=>cases hf0
    | succ f=>exact ⟨f,rfl⟩
   obtain ⟨f',hf'⟩:=hpf;rcases hcc (out ++ constantsF c out.length) ⟨[],by simp⟩ with ⟨n,c1,c2,c3,c4,c5,_⟩ | ⟨k,c1,c2,c3,c4⟩
   ·have hget:∀ m,out ++ [n] <+: m→m.getD out.length noNode=n:=by
     intro m hm;rw [zcmY hm (by simp)];simp [List.getD_eq_getElem?_getD]
    have hidx:out.length + [n].length - 1=out.length:=by simp
    rw [c1] at hEq hcc
    have hcn:countB n=true:=by
     unfold countB;by_cases h5:1≤n.kind∧n.kind≤5
     ·rw [if_pos h5,c2];rfl
     ·omega
    refine ⟨[n],⟨hEq,by simp,by simp;omega,fun m hm=>?_,fun m hm=>?_,fun m hm=>?_,fun q hq=>?_,fun q hq hw U=>?_⟩⟩
    ·rw [hidx]
     have hg:=hget m hm;refine zc8Y (by rw [hg];exact c5) (by rw [hg];exact hcn) (by rw [hg,c2];exact .nil _) (by rw [hg,c2];intro j hj;simp at hj)
    ·rw [hidx,hget m hm]
     exact .inr ⟨hop.1,.inl ⟨c3,c4⟩⟩
    ·rw [hidx]
     simp only [nestF];rw [hget m hm,c2];simp only [List.foldl_nil];simp only [nestF] at hnest2;omega
    ·rw [hidx]
     simp only [foldF];rw [show q.at_ out.length=n from hget _ hq,c2];simp only [foldK];unfold opVal;rw [if_neg (by omega)];simp only
     congr 1
     congr 1
     cases n
     simp_all
    ·rw [hidx,hpw]
     obtain ⟨v,hv⟩:∃ v,constF q.nodes (q.at_ out.length)=some v:=by
      rcases hcc q.nodes hq with ⟨n',d1,_,_,_,_,d6⟩ | ⟨k,_,_,_,d4⟩
      ·injection d1 with d1 _
       subst d1;exact ⟨c,by rw [show q.at_ out.length=n from hget _ hq];exact d6⟩
      ·simp at d4
     refine zdfY (s:=out.length) (zc8Y ?_ ?_ ?_ ?_) hv U
     ·rw [hget _ hq];exact c5
     ·rw [hget _ hq];exact hcn
     ·rw [hget _ hq,c2];exact .nil _
     ·rw [hget _ hq,c2];intro j hj;simp at hj
   ·obtain ⟨N,hN⟩:∃ N:NodeD,(⟨8,minS,0,[],[(out.length:Int)]⟩:NodeD)=N:=⟨_,rfl⟩
    have n1:N.kind=8:=by rw [← hN]
    have n5:N.kids=[(out.length:Int)]:=by rw [← hN]
    rw [hN] at c4;rw [c4] at hEq hcc;have hidx:out.length + [leafN 3 ⟨#[]⟩ k,N].length - 1=out.length+1:=by simp
    have g0:∀ m,out ++ [leafN 3 ⟨#[]⟩ k,N] <+: m→m.getD out.length noNode=leafN 3 ⟨#[]⟩ k:=by
     intro m hm;rw [zcmY hm (by simp)];simp [List.getD_eq_getElem?_getD]
    have g1:∀ m,out ++ [leafN 3 ⟨#[]⟩ k,N] <+: m→m.getD (out.length+1) noNode=N:=by
     intro m hm;rw [zcmY hm (by simp)];simp [List.getD_eq_getElem?_getD]
    have lf:fieldsB (leafN 3 ⟨#[]⟩ k)=true:=zdbY (by omega)
    have hfirst:∀ m,out ++ [leafN 3 ⟨#[]⟩ k,N] <+: m→firstF m (f+1) (out.length+1)=some out.length:=by
     intro m hm
     have hl:firstF m f out.length=some out.length:=by
      rw [hf'];refine zc8Y (by rw [g0 m hm];exact lf) (by rw [g0 m hm];rfl) (by rw [g0 m hm];exact .nil _) (by rw [g0 m hm];intro j hj;simp [leafN] at hj)
     refine zc8Y ?_ ?_ ?_ ?_
     ·rw [g1 m hm,← hN];exact fields_min _
     ·rw [g1 m hm,← hN];rfl
     ·rw [g1 m hm,n5];exact .cons _ _ _ _ hl (.nil _)
     ·rw [g1 m hm,n5,n1]
      intro j hj;obtain rfl:j=0:=by simpa using hj
      rw [List.getD_cons_zero,Int.toNat_natCast,g0 m hm];rfl
    have hcst:∀ m,out ++ [leafN 3 ⟨#[]⟩ k,N] <+: m→constF m N=some (iCel (-k)):=by
     intro m hm;unfold constF;rw [if_neg (by omega),if_neg (by omega),if_neg (by omega),if_neg (by omega),if_pos,n5,List.getD_cons_zero,Int.toNat_natCast,g0 m hm]
     ·rfl
     ·rw [n5,List.getD_cons_zero,Int.toNat_natCast,g0 m hm]
      exact ⟨n1,by rw [← hN];show minS.toList=[45];rw [ByteArray.toList_eq];rfl,rfl,c1⟩
    refine ⟨[leafN 3 ⟨#[]⟩ k,N],⟨hEq,by simp,by simp;omega,fun m hm=>?_,fun m hm=>?_,fun m hm=>?_,fun q hq=>?_,fun q hq hw U=>?_⟩⟩
    ·rw [hidx];exact hfirst m hm
    ·rw [hidx,g1 m hm]
     exact .inr ⟨hop.1,.inr n1⟩
    ·rw [hidx]
     have h3:nestF m (f+1) (out.length+1)=2:=by
      rw [hf'];simp only [nestF];rw [g1 m hm,n5];simp only [List.foldl_cons,List.foldl_nil,Int.toNat_natCast,nestF];rw [g0 m hm];rfl
     omega
    ·rw [hidx]
     have hleaf:foldF q f out.length out=out ++ [leafN 3 ⟨#[]⟩ k]:=by
      rw [hf'];simp only [foldF];rw [show q.at_ out.length=leafN 3 ⟨#[]⟩ k from g0 _ hq];rfl
     simp only [foldF];rw [show q.at_ (out.length+1)=N from g1 _ hq,n5];simp only [foldK,Int.toNat_natCast,hleaf,List.nil_append];have e1:(out ++ [leafN 3 ⟨#[]⟩ k]).length - 1=out.length:=by simp
     have e2:(out ++ [leafN 3 ⟨#[]⟩ k]).getD out.length noNode=leafN 3 ⟨#[]⟩ k:=by simp [List.getD_eq_getElem?_getD]
     rw [e1,e2]
     have e3:opVal N (constF (out ++ [leafN 3 ⟨#[]⟩ k]) (leafN 3 ⟨#[]⟩ k)).toList=some (iCel (-k)):=by
      show opVal N [iCel k]=_;unfold opVal valueF;rw [if_pos ⟨.inl n1,by rw [n5];rfl⟩,if_pos n1,← hN];exact unary_minus ⟨c1,c2⟩
     rw [e3];simp only
     rw [← c3,c4]
    ·rw [hidx,hpw]
     exact zdfY (c:=iCel (-k)) (hfirst _ hq) (by rw [show q.at_ (out.length+1)=N from g1 _ hq];exact hcst _ hq) U
theorem SynOk.foldStep {p:ProgD} (h:SynOk p) {k:Nat} (hk:k<p.funcs.length):∃ b t,FuncOk p.nodes p.funcs[k] (startF p.funcs k) b∧FoldI p 600 b (startF p.funcs k) (foldN p k) t∧foldN p (k+1)=foldN p k ++ t∧startF p.funcs (k+1)=b+1:=by
 obtain ⟨b,hb,h1,h2⟩:=h.func hk;obtain ⟨t,F⟩:=zauY p _ _ _ hb.first (foldN p k)
 refine ⟨b,t,hb,F,?_,h1⟩
 simp only [foldN];rw [h2];exact F.eq
theorem SynOk.fold_pre {p:ProgD} (h:SynOk p):∀ n,n≤p.funcs.length→∀ k,k≤n→foldN p k <+: foldN p n:=by
 intro n;induction n with
 | zero =>
  intro _ k hk;obtain rfl:k=0:=by omega
  exact ⟨[],by simp⟩
 | succ n ih =>
  intro hn k hk;obtain ⟨b,t,_,_,h1,_⟩:=h.foldStep (k:=n) (by omega);by_cases e:k=n+1
  ·subst e;exact ⟨[],by simp⟩
  ·obtain ⟨r,hr⟩:=ih (by omega) k (by omega)
   exact ⟨r ++ t,by rw [h1,← hr,List.append_assoc]⟩
theorem SynOk.fold_len {p:ProgD} (h:SynOk p):∀ k,k≤p.funcs.length→(foldN p k).length≤startF p.funcs k:=by
 intro k;induction k with
 | zero=>intro _;simp [foldN]
 | succ k ih =>
  intro hk;have h1:=ih (by omega);obtain ⟨b,t,hb,F,h2,h3⟩:=h.foldStep (k:=k) (by omega);have h4:=F.len;have h5:=zaaY hb.first
  rw [h2,h3,List.length_append];omega
theorem zbbY {p:ProgD} {k:Nat} (hk:k<p.funcs.length):(foldP p).funcs.getD k noFunc=foldFn p k:=by
 simp [foldP,List.getD_eq_getElem?_getD,hk]
theorem za4Y (p:ProgD):(foldP p).funcs.length=p.funcs.length:=by simp [foldP]
theorem SynOk.fold_start {p:ProgD} (h:SynOk p):∀ k,k≤p.funcs.length→startF (foldP p).funcs k=(foldN p k).length:=by
 intro k hk;cases k with
 | zero=>rfl
 | succ k =>
  obtain ⟨b,t,_,F,h2,_⟩:=h.foldStep (k:=k) (by omega)
  have:=F.pos
  simp only [startF];rw [zbbY (by omega)];unfold foldFn;simp only
  rw [h2,List.length_append];omega
theorem orderedF_of {l:List NodeD}:∀ (fs:List FuncD) (s:Nat),(∀ k,(h:k<fs.length)→funcB l fs[k] (if k=0 then s else startF fs k)=true)→orderedF l fs s=some (if fs.length=0 then s else startF fs fs.length):=by
 intro fs;induction fs with
 | nil=>intro s _;rfl
 | cons f r ih =>
  intro s h;have h0:=h 0 (by simp);simp only [List.getElem_cons_zero,if_true] at h0;simp only [orderedF];rw [if_pos h0,ih (f.body.toNat+1) (fun k hk=>?_)]
  ·congr 1
   cases hr:r.length with
   | zero=>simp [hr,startF]
   | succ n=>simp [hr,startF]
  ·have:=h (k+1) (by simpa using hk)
   rw [if_neg (by omega)] at this;cases k with
   | zero=>simpa [startF] using this
   | succ k=>simpa [startF] using this
theorem names_fold (p:ProgD):(foldP p).funcs.map FuncD.name=p.funcs.map FuncD.name:=by
 apply List.ext_getElem
 ·simp [foldP]
 ·intro i h1 h2
  have hi:i<p.funcs.length:=by simpa using h2
  simp only [foldP,List.getElem_map,List.getElem_range];unfold foldFn;rw [zakZ hi]
theorem findF_names (p:ProgD) (s:ByteArray):p.funcs.findIdx? (fun f=>decide (f.name=s))=(p.funcs.map FuncD.name).findIdx? (fun x=>decide (x=s)):=by
 rw [List.findIdx?_map];rfl
theorem zdaY (p:ProgD) (s:ByteArray):findF (foldP p) s=findF p s:=by
 unfold findF;rw [findF_names,findF_names,names_fold]
theorem wantF_fold (p:ProgD) (s:ByteArray):wantF (foldP p) s=wantF p s:=by
 unfold wantF;rw [zdaY];split
 ·rename_i h
  have hlt:(findF p s).toNat<p.funcs.length:=by
   unfold findF at h ⊢;split at h
   ·rename_i i hi
    have:=List.findIdx?_eq_some_iff_getElem.1 hi
    simpa using this.1
   ·omega
  rw [zbbY hlt];rfl
 ·rfl
theorem funcsF_fold (p q:ProgD) (hq:∀ s,findF q s=findF p s):∀ (l l':List FuncD) (i:Nat),l'.length=l.length→(∀ k,(h:k<l.length)→(h':k<l'.length)→l'[k].name=l[k].name∧l'[k].params=l[k].params)→funcsF p l i=none→funcsF q l' i=none:=by
 intro l;induction l with
 | nil=>intro l' i hl _ _;obtain rfl:l'=[]:=List.length_eq_zero_iff.1 hl;rfl
 | cons f r ih =>
  intro l' i hl hn h
  match l',hl with
  | g :: r',hl =>
   obtain ⟨h1,h2⟩:=hn 0 (by simp) (by simp);simp only [List.getElem_cons_zero] at h1 h2;simp only [funcsF] at h ⊢;split at h
   ·cases h
   ·rename_i hc
    rw [if_neg (by rw [h1,h2,hq];exact hc)];exact ih r' _ (by simpa using hl) (fun k hk hk'=>by have:=hn (k+1) (by simpa using hk) (by simpa using hk');simpa using this) h
theorem main_lt {p:ProgD} {s:ByteArray} (h:0≤findF p s):(findF p s).toNat<p.funcs.length:=by
 unfold findF at h ⊢;split at h
 ·rename_i i hi
  have:=List.findIdx?_eq_some_iff_getElem.1 hi
  simpa using this.1
 ·omega
theorem funsF_fold (p:ProgD) (h:(funsF p).2=0):(funsF (foldP p)).2=0:=by
 unfold funsF at h ⊢;cases hf:funcsF p p.funcs 0 with
 | some r =>
  rw [hf] at h;exfalso
  have:∀ (l:List FuncD) i r,funcsF p l i=some r→r.2=6:=by
   intro l;induction l with
   | nil=>intro i r h;cases h
   | cons f t ih =>
    intro i r h;simp only [funcsF] at h;split at h
    ·cases h;rfl
    ·exact ih _ _ h
  have h6:=this _ _ _ hf;dsimp only at h;omega
 | none =>
  rw [hf] at h
  have hq:funcsF (foldP p) (foldP p).funcs 0=none:=funcsF_fold p (foldP p) (zdaY p) p.funcs (foldP p).funcs 0 (za4Y p) (fun k hk hk'=>by
   have:(foldP p).funcs[k]=foldFn p k:=by rw [← zakZ hk' noFunc];exact zbbY hk
   rw [this];unfold foldFn;rw [zakZ hk];exact ⟨rfl,rfl⟩) hf
  rw [hq];simp only at h ⊢;rw [zdaY];split at h
  ·cases h
  ·rename_i h0
   rw [if_neg h0,zbbY (main_lt (by omega))];split at h
   ·cases h
   ·rename_i h1
    rw [if_neg (by exact h1)]
theorem SynOk.fold_syn {p:ProgD} (h:SynOk p) (hd:deepF p≤32):synF (foldP p)=0:=by
 have hlen:=h.fold_len p.funcs.length (Nat.le_refl _);have hfin:=h.fin;have hn:=h.nodes;have hfs:=h.funcs;unfold synF;rw [if_neg (by rw [za4Y];show ¬ (600<(foldN p p.funcs.length).length∨_);omega),if_neg,if_neg]
 ·rintro (h1 | h1)
  ·simp only [List.any_eq_true,decide_eq_true_eq] at h1
   obtain ⟨f,hf,h2⟩:=h1;obtain ⟨k,hk,rfl⟩:=List.mem_map.1 hf;have hk':k<p.funcs.length:=by simpa using hk
   have:=h.params _ (List.getElem_mem hk')
   unfold foldFn at h2;rw [zakZ hk'] at h2;simp only at h2;omega
  ·have:deepF (foldP p)≤deepF p:=by
    unfold deepF
    have key:∀ (l l':List FuncD) (a:Nat),l'.length=l.length→(∀ k,(h:k<l.length)→(h':k<l'.length)→nestF (foldP p).nodes 600 l'[k].body.toNat≤nestF p.nodes 600 l[k].body.toNat)→∀ b,a≤b→l'.foldl (fun m f=>max m (nestF (foldP p).nodes 600 f.body.toNat)) a≤l.foldl (fun m f=>max m (nestF p.nodes 600 f.body.toNat)) b:=by
     intro l;induction l with
     | nil=>intro l' a hl _ b hab;obtain rfl:l'=[]:=List.length_eq_zero_iff.1 hl;exact hab
     | cons f r ih =>
      intro l' a hl hk b hab
      match l',hl with
      | g :: r',hl =>
       have h0:=hk 0 (by simp) (by simp);simp only [List.getElem_cons_zero] at h0;simp only [List.foldl_cons];exact ih r' _ (by simpa using hl) (fun k h1 h2=>by have:=hk (k+1) (by simpa using h1) (by simpa using h2);simpa using this) _ (Nat.max_le.2 ⟨Nat.le_trans hab (Nat.le_max_left _ _),Nat.le_trans h0 (Nat.le_max_right _ _)⟩)
    refine key p.funcs (foldP p).funcs 0 (za4Y p) (fun k hk hk'=>?_) 0 (Nat.le_refl _)
    obtain ⟨b,t,hb,F,h2,_⟩:=h.foldStep hk;have hpos:=F.pos
    have e1:(foldP p).funcs[k].body.toNat=(foldN p k).length+t.length - 1:=by
     rw [← zakZ hk' noFunc,zbbY hk];unfold foldFn;simp only
     rw [h2,List.length_append];omega
    rw [e1,hb.body,Int.toNat_natCast];refine F.nest _ ?_
    rw [← h2];exact h.fold_pre _ (Nat.le_refl _) _ hk
   omega
 ·have ho:orderedF (foldP p).nodes (foldP p).funcs 0=some (foldP p).nodes.length:=by
   rw [orderedF_of _ _ (fun k hk=>?_)]
   ·rw [za4Y]
    congr 1
    cases hl:p.funcs.length with
    | zero=>show 0=(foldN p p.funcs.length).length;rw [hl];rfl
    | succ n =>
     rw [if_neg (by omega),h.fold_start _ (by omega),← hl];rfl
   ·have hk':k<p.funcs.length:=by rwa [za4Y] at hk
    obtain ⟨b,t,hb,F,h2,_⟩:=h.foldStep hk';have hpos:=F.pos;have hpre:foldN p k ++ t <+: (foldP p).nodes:=by rw [← h2];exact h.fold_pre _ (Nat.le_refl _) _ hk'
    have e0:(if k=0 then 0 else startF (foldP p).funcs k)=(foldN p k).length:=by
     rw [← h.fold_start k (by omega)];cases k with
     | zero=>rfl
     | succ k=>rfl
    have e1:(foldP p).funcs[k]=⟨p.funcs[k].name,p.funcs[k].params,((foldN p k).length+t.length - 1:Nat)⟩:=by
     rw [← zakZ hk noFunc,zbbY hk'];unfold foldFn;rw [zakZ hk',h2,List.length_append];congr 1
     omega
    have hlt:(foldN p k).length+t.length - 1<(foldP p).nodes.length:=by
     have:=hpre.length_le
     rw [List.length_append] at this;omega
    have hroot:=F.root _ hpre;rw [e0,e1];unfold funcB;simp only [Bool.and_eq_true,decide_eq_true_eq,Int.toNat_natCast];refine ⟨⟨hb.name,hb.params⟩,by omega,by omega,?_,F.tree _ hpre⟩
    have h19:(p.at_ b).kind=19:=hb.block;rcases hroot with ⟨g1,_⟩ | ⟨g1,_⟩
    ·rw [g1];exact h19
    ·omega
  unfold orderedB;rw [ho];simp
theorem SynOk.fold_walk {p:ProgD} (h:SynOk p) {k:Nat} (hk:k<p.funcs.length):walkKE (foldP p) k=walkKE p k:=by
 obtain ⟨b,t,hb,F,h2,_⟩:=h.foldStep hk;have hpos:=F.pos;have hpre:foldN p k ++ t <+: (foldP p).nodes:=by rw [← h2];exact h.fold_pre _ (Nat.le_refl _) _ hk
 obtain ⟨b',hb',_,h4⟩:=h.func hk;have hbb:b=b':=by have:=hb.body;have:=hb'.body;omega
 unfold walkKE;rw [zbbY hk,h4,← hbb]
 have e1:(foldFn p k).body.toNat=(foldN p k).length+t.length - 1:=by
  unfold foldFn;simp only
  rw [h2,List.length_append];omega
 rw [e1]
 have:=F.walk (foldP p) hpre (wantF_fold p) ⟨(startS p (p.funcs.getD k noFunc) [] []).vis,(p.funcs.getD k noFunc).params.length⟩
 rw [← this];rfl
theorem fold_ok {p:ProgD} (h:(studyF p).err=0):(studyF (foldP p)).err=0∧foldP (foldP p)=foldP p∧(foldP p).nodes.length≤p.nodes.length:=by
 obtain ⟨hs,_,_,h1,h2,_⟩:=zcgY h;rw [study_err] at h ⊢
 have hd:deepF p≤32:=by
  unfold synF at h1;split at h1
  ·cases h1
  ·split at h1
   ·cases h1
   ·split at h1
    ·cases h1
    ·omega
 have hfs:=hs.fold_syn hd;have hq:=synF_ok hfs;refine ⟨?_,?_,?_⟩
 ·unfold errP at h ⊢
  rw [if_neg (by omega),if_neg (by omega)] at h;rw [if_neg (by omega),if_neg (by have:=funsF_fold p h2;omega),za4Y]
  have:∀ k,k≤p.funcs.length→errK (foldP p) k=errK p k:=by
   intro k;induction k with
   | zero=>intro _;rfl
   | succ k ih =>
    intro hk;simp only [errK];rw [ih (by omega),hs.fold_walk (by omega)]
  rw [this _ (Nat.le_refl _)];exact h
 ·have hN:∀ k,k≤p.funcs.length→foldN (foldP p) k=foldN p k:=by
   intro k;induction k with
   | zero=>intro _;rfl
   | succ k ih =>
    intro hk;obtain ⟨b,t,hb,F,h3,_⟩:=hs.foldStep (k:=k) (by omega);have hpos:=F.pos;simp only [foldN];rw [ih (by omega),zbbY (by omega)]
    have e1:(foldFn p k).body.toNat=(foldN p k).length+t.length - 1:=by
     unfold foldFn;simp only
     rw [h3,List.length_append];omega
    rw [e1,F.again (foldP p) (by rw [← h3];exact hs.fold_pre _ (Nat.le_refl _) _ hk)]
    have:=h3
    simp only [foldN] at this;rw [this]
  have hF:∀ k,k<p.funcs.length→foldFn (foldP p) k=foldFn p k:=by
   intro k hk;unfold foldFn;rw [zbbY hk,hN (k+1) (by omega)];rfl
  show ProgD.mk (foldN (foldP p) (foldP p).funcs.length) ((List.range (foldP p).funcs.length).map (foldFn (foldP p)))=ProgD.mk (foldN p p.funcs.length) ((List.range p.funcs.length).map (foldFn p));rw [za4Y,hN _ (Nat.le_refl _)];congr 1
  apply List.map_congr_left
  intro k hk;exact hF k (by simpa using hk)
 ·rw [hs.fin]
  exact hs.fold_len _ (Nat.le_refl _)
end Go.Proofs.YthiimbhjpdphpaaGreatDoor
