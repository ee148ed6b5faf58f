/- E39, E40, E41, E42, E43 -/
import Derived.Test.YtekdhlfapejijaaGreatDoorPE38
set_option linter.unusedVariables false
set_option linter.unusedSimpArgs false
namespace Go.Proofs.YtekdhlfapejijaaGreatDoor
open Go.RowKit
set_option maxRecDepth 100000
set_option maxHeartbeats 8000000
open Go.Proofs.Tryz
set_option maxHeartbeats 2000000 in
theorem wbyte_any (B b:Nat) (bs:List Value) (c:Int) (w:World) (h:Lib.IsBuilderF 189 5 B b bs w) (hlen:bs.length+1≤140737488355328) (hBw:B≤w.heap.size) :
  Calls prog 207 #[.pointer (some ⟨b,0,none⟩),.int .u8 c] w fun e w'=>e=.returned .nilIface∧(Lib.BuilderAtF 189 5 B b (.pointer (some ⟨b,0,none⟩)) (bs ++ [.int .u8 c]) w'∧Below B w w'∧Lib.OthersKept 5 (some b) w w'):=by
 obtain ⟨i0,hi,hz0,hz1,hz2⟩:=info_parts Tryz.infoU8;go_enter func207,ntmps207
 go_wp2_with (go_at_call 253;refine (bcc_any B b bs _ h).mono ?_)
 rintro e w1 ⟨rfl,h1,hb1,hk1⟩;obtain ⟨hB,v,hbk,hown,hne⟩:=h1;have c0:w1.cell? ⟨b,0,none⟩=some (.pointer (some ⟨b,0,none⟩)):=by rw [Lib.cell_of_heap hbk];rfl
 have c1:w1.cell? ⟨b,1,none⟩=some v:=by rw [Lib.cell_of_heap hbk];rfl
 go_wp2_with (at_builtin;refine wpList_append_ownF _ rfl _ _ 187 rfl B 5 i0 (.int .u8 0) 1 1 underlying187 hi hz0 hz1 hz2 rfl (by decide) _ _ _ rfl (hown.alloc _) ⟨w1.heap.size,0,none⟩ 1 1 [.int .u8 c] rfl rfl ?c1 ?c2 ?c3 ?c4 ?c5 ?_)
 case c1 =>
  intro j u hj
  match j,hj with
  | 0,hj=>simp at hj;subst hj;simp [Addr.add]
 case c2=>intro u hu;simp at hu;subst hu;rfl
 case c3=>unfold maxLen;omega
 case c4=>omega
 case c5=>have:=hb1.size;simp;omega
 intro v' w2 hown' hgrow _
 have hlt:b<w1.heap.size:=by
  rcases Nat.lt_or_ge b w1.heap.size with h' | h'
  ·exact h'
  ·simp [Array.getElem?_eq_none h'] at hbk
 have hb2:w2.heap[b]? = some (.cells #[.pointer (some ⟨b,0,none⟩),v] 189 (0,0)):=by
  rw [hgrow.block b (by simp;omega) (fun e=>hne e.symm),Lib.alloc_old w1 _ b hlt];exact hbk
 have d0:w2.cell? ⟨b,0,none⟩=some (.pointer (some ⟨b,0,none⟩)):=by rw [Lib.cell_of_heap hb2];rfl
 have d1:w2.cell? ⟨b,1,none⟩=some v:=by rw [Lib.cell_of_heap hb2];rfl
 have f1:w2.frozen? ⟨b,1,none⟩=false:=Lib.frozen_of_heap hb2 1
 obtain ⟨g,cap,rfl⟩:∃ g cap,v'=.slice (some ⟨g,0,none⟩) (bs.length+1) cap:=by
  rcases hown'.2 with ⟨_,h0⟩ | ⟨g,cap,cur,fz,hv,_⟩
  ·omega
  ·exact ⟨g,cap,hv⟩
 go_wp2
 go_ret;refine ⟨rfl,?_,?_,((hk1.alloc _).grown hgrow (Lib.ownsRowF_kind (hown.alloc _))).setCell ⟨b,1,none⟩ rfl _⟩
 ·exact Lib.BuilderAtF.put (T:=189) (e:=5) hB hb2 (bs':=bs ++ [.int .u8 c]) (by simpa using hown') (by decide)
 ·exact ((hb1.alloc (by have:=hb1.size;omega) _).grown hgrow (by have:=hb1.size;simp;omega) (fun k hk=>(hown.lt k hk).1)).setCell (p:=⟨b,1,none⟩) hB _
set_option maxHeartbeats 2000000 in
theorem wstr_any (B b:Nat) (bs:List Value) (s:ByteArray) (w:World) (h:Lib.IsBuilderF 189 5 B b bs w) (hlen:bs.length+s.size≤140737488355328) (hBw:B≤w.heap.size) :
  Calls prog 204 #[.pointer (some ⟨b,0,none⟩),.string s] w fun e w'=>e=.returned (.tuple #[.int .i64 s.size,.nilIface])∧(Lib.BuilderAtF 189 5 B b (.pointer (some ⟨b,0,none⟩)) (bs ++ Lib.strCells s) w'∧Below B w w'∧Lib.OthersKept 5 (some b) w w'):=by
 obtain ⟨i0,hi,hz0,hz1,hz2⟩:=info_parts Tryz.infoU8;go_enter func204,ntmps204
 go_wp2_with (go_at_call 253;refine (bcc_any B b bs _ h).mono ?_)
 rintro e w1 ⟨rfl,h1,hb1,hk1⟩;obtain ⟨hB,v,hbk,hown,hne⟩:=h1;have c0:w1.cell? ⟨b,0,none⟩=some (.pointer (some ⟨b,0,none⟩)):=by rw [Lib.cell_of_heap hbk];rfl
 have c1:w1.cell? ⟨b,1,none⟩=some v:=by rw [Lib.cell_of_heap hbk];rfl
 go_wp2_with (at_builtin;refine Lib.wpList_append_own_stringF _ rfl _ _ 187 9 rfl B 5 i0 underlying187 underlying9 hi hz0 hz1 hz2 _ _ _ rfl hown s rfl ?c3 ?c4 ?c5 ?_)
 case c3=>unfold maxLen;omega
 case c4=>omega
 case c5=>have:=hb1.size;omega
 intro v' w2 hown' hgrow _
 have hlt:b<w1.heap.size:=by
  rcases Nat.lt_or_ge b w1.heap.size with h' | h'
  ·exact h'
  ·simp [Array.getElem?_eq_none h'] at hbk
 have hb2:w2.heap[b]? = some (.cells #[.pointer (some ⟨b,0,none⟩),v] 189 (0,0)):=by
  rw [hgrow.block b hlt (fun e=>hne e.symm)];exact hbk
 have d0:w2.cell? ⟨b,0,none⟩=some (.pointer (some ⟨b,0,none⟩)):=by rw [Lib.cell_of_heap hb2];rfl
 have d1:w2.cell? ⟨b,1,none⟩=some v:=by rw [Lib.cell_of_heap hb2];rfl
 have f1:w2.frozen? ⟨b,1,none⟩=false:=Lib.frozen_of_heap hb2 1
 obtain ⟨ao,n',cap,rfl⟩:∃ ao n' cap,v'=.slice ao n' cap:=by
  rcases hown'.2 with ⟨hv,_⟩ | ⟨g,cap,cur,fz,hv,_⟩
  ·exact ⟨_,_,_,hv⟩
  ·exact ⟨_,_,_,hv⟩
 go_wp2
 go_ret2;refine ⟨rfl,?_,?_,(hk1.grown hgrow (Lib.ownsRowF_kind hown)).setCell ⟨b,1,none⟩ rfl _⟩
 ·exact Lib.BuilderAtF.put (T:=189) (e:=5) hB hb2 (bs':=bs ++ Lib.strCells s) (by simpa [Lib.strCells_length] using hown') (by decide)
 ·exact (hb1.grown hgrow (by have:=hb1.size;omega) (fun k hk=>(hown.lt k hk).1)).setCell (p:=⟨b,1,none⟩) hB _
structure WB (B b:Nat) (l:List UInt8) (w0 w:World):Prop where
 is:Lib.IsBuilderF 189 5 B b (Lib.byteCells l) w
 bel:Below B w0 w
 kept:Lib.OthersKept 5 (some b) w0 w
 b0:B≤w0.heap.size
theorem WB.trans {B b:Nat} {l l':List UInt8} {w0 w w':World} (h:WB B b l w0 w) (h':WB B b l' w w'):WB B b l' w0 w':=⟨h'.is,h.bel.trans h'.bel,h.kept.trans h'.kept,h.b0⟩
theorem WB.start {B b:Nat} {l:List UInt8} {w:World} (h:Lib.IsBuilderF 189 5 B b (Lib.byteCells l) w) (hb:B≤w.heap.size):WB B b l w w:=⟨h,Below.refl _ _,Lib.OthersKept.refl _ _ _,hb⟩
theorem zb2Y {B b:Nat} {l:List UInt8} {w0 w:World} (h:WB B b l w0 w) (c:UInt8) (hl:l.length≤1000000):Calls prog 207 #[.pointer (some ⟨b,0,none⟩),.int .u8 c.toNat] w fun e w'=>e=.returned .nilIface∧WB B b (l ++ [c]) w0 w' :=
 (wbyte_any B b _ c.toNat w h.is (by rw [Lib.byteCells_length];omega) (Nat.le_trans h.b0 h.bel.size)).mono fun e w' ⟨he,h1,h2,h3⟩=>⟨he,.inr (by rw [Lib.byteCells_append];exact h1),h.bel.trans h2,h.kept.trans h3,h.b0⟩
theorem wb_str {B b:Nat} {l:List UInt8} {w0 w:World} (h:WB B b l w0 w) (s:ByteArray) (hl:l.length≤1000000) (hs:s.size≤1000000):Calls prog 204 #[.pointer (some ⟨b,0,none⟩),.string s] w fun e w'=>e=.returned (.tuple #[.int .i64 s.size,.nilIface])∧WB B b (l ++ s.data.toList) w0 w' :=
 (wstr_any B b _ s w h.is (by rw [Lib.byteCells_length];omega) (Nat.le_trans h.b0 h.bel.size)).mono fun e w' ⟨he,h1,h2,h3⟩=>⟨he,.inr (by rw [Lib.byteCells_append];exact h1),h.bel.trans h2,h.kept.trans h3,h.b0⟩
def escL (c:UInt8):List UInt8:=if c=34∨c=92 then [92,c] else [c]
def quoteL (s:ByteArray):List UInt8:=(34 :: s.data.toList.flatMap escL) ++ [34]
theorem escL_len (l:List UInt8):(l.flatMap escL).length≤2 * l.length:=by
 induction l with
 | nil=>simp
 | cons c r ih =>
  rw [List.flatMap_cons,List.length_append,List.length_cons]
  have:(escL c).length≤2:=by unfold escL;split <;> simp
  omega
theorem esc_snoc (s:ByteArray) (k:Nat) (h:k<s.size):(s.data.toList.take (k+1)).flatMap escL=(s.data.toList.take k).flatMap escL ++ escL s[k]:=by
 have hk:k<s.data.toList.length:=by simpa using h
 rw [List.take_succ_eq_append_getElem hk,List.flatMap_append];congr 1
 simp [ByteArray.getElem_eq_getElem_data]
theorem quote_any (B b:Nat) (l:List UInt8) (s:ByteArray) (w0 w:World) (h:WB B b l w0 w) (hl:l.length≤500000) (hs:s.size≤100000) :
  Calls prog 206 #[.pointer (some ⟨b,0,none⟩),.string s] w fun e w'=>e=.returned (.tuple #[])∧WB B b (l ++ quoteL s) w0 w':=by
 obtain ⟨P,hP⟩:∃ P:Ending→World→Prop,(fun e w'=>e=.returned (.tuple #[])∧WB B b (l ++ quoteL s) w0 w')=P:=⟨_,rfl⟩
 rw [hP];have HP:=hZz hP;have H0:=hZz (zb2Y h 34 (by omega));have HL:Hid (l.length≤500000):=hZz hl;clear hP h hl;go_enter func206,ntmps206
 go_wp2_with (first
  | (go_at_call 207;((refine H0.out.mono ?_);rintro e w1 ⟨rfl,hw1⟩;have HW:=hZz hw1;clear hw1)))
 go_loopw [4,9] (fun _ i wr=>∃ k:Nat,k≤s.size∧i=.int .i64 k∧WB B b ((l ++ [34]) ++ (s.data.toList.take k).flatMap escL) w0 wr) (fun _ i _=>s.size - (intOf i).toNat)
 case atStart=>exact ⟨0,Nat.zero_le _,rfl,by simpa using HW.out⟩
 case round =>
  obtain ⟨k,hk,rfl,hwb⟩:=hrel;have HWB:=hZz hwb;have hk0:(0:Int)≤(k:Int):=by omega
  have hlen:((l ++ [34]) ++ (s.data.toList.take k).flatMap escL).length≤900000:=by
   have h1:=escL_len (s.data.toList.take k);have h2:=HL.out;have h3:(s.data.toList.take k).length≤100000:=by rw [List.length_take];simp;omega
   simp only [List.length_append,List.length_cons,List.length_nil];omega
  have HLN:=hZz hlen;clear hwb hlen;by_cases hlt:k<s.size
  ·have hlt':(k:Int)<(s.size:Int):=by omega
   have HSN:=hZz (esc_snoc s k hlt);obtain ⟨c,hc⟩:∃ c,s[k]=c:=⟨_,rfl⟩
   have HCC:=hZz hc;rw [hc] at HSN;clear HW H0;by_cases he:c=34∨c=92
   ·have HE:Hid (escL c=[92,c]):=hZz (by unfold escL;rw [if_pos he])
    have H1:=hZz (zb2Y HWB.out 92 (by have:=HLN.out;omega));have H2:Hid (∀ wx,WB B b (((l ++ [34]) ++ (s.data.toList.take k).flatMap escL) ++ [92]) w0 wx→Calls prog 207 #[.pointer (some ⟨b,0,none⟩),.int .u8 c.toNat] wx fun e w'=>e=.returned .nilIface∧WB B b ((((l ++ [34]) ++ (s.data.toList.take k).flatMap escL) ++ [92]) ++ [c]) w0 w'):=hZz fun wx hx=>zb2Y hx c (by rw [List.length_append,List.length_singleton];have:=HLN.out;omega)
    rcases he with rfl | rfl
    all_goals
     go_wp2_with (first
      | (go_at_call 207;first
       | ((refine H1.out.mono ?_);rintro e w2 ⟨rfl,hw2⟩;have HW2:=hZz hw2;clear hw2 H1)
       | ((refine (H2.out _ HW2.out).mono ?_);rintro e w3 ⟨rfl,hw3⟩;have HW3:=hZz hw3;clear hw3)))
     refine ⟨⟨k+1,by omega,by simp,?_⟩,by simp [intOf];omega⟩
     have e:=HW3.out;rw [List.append_assoc _ [92],show ([92] ++ [_]:List UInt8)=_ from HE.out.symm,List.append_assoc _ _ (escL _),← HSN.out] at e;exact e
   ·have h1:((c.toNat:Int) == 34)=false:=beq_eq_false_iff_ne.mpr (za4Y (b:=34) (fun e=>he (.inl e)))
    have h2:((c.toNat:Int) == 92)=false:=beq_eq_false_iff_ne.mpr (za4Y (b:=92) (fun e=>he (.inr e)));have HE:Hid (escL c=[c]):=hZz (by unfold escL;rw [if_neg he]);have H1:=hZz (zb2Y HWB.out c (by have:=HLN.out;omega))
    go_wp2_with (first
     | (go_at_call 207;((refine H1.out.mono ?_);rintro e w2 ⟨rfl,hw2⟩;have HW2:=hZz hw2;clear hw2 H1)))
    refine ⟨⟨k+1,by omega,by simp,?_⟩,by simp [intOf];omega⟩
    have e:=HW2.out;rw [← HE.out,List.append_assoc _ _ (escL _),← HSN.out] at e;exact e
  ·have e:k=s.size:=by omega
   have H1:=hZz (zb2Y HWB.out 34 (by have:=HLN.out;omega));subst e
   go_wp2_with (first
    | (go_at_call 207;((refine H1.out.mono ?_);rintro e w2 ⟨rfl,hw2⟩;have HW2:=hZz hw2;clear hw2 H1)))
   go_returns;rw [← HP.out];refine ⟨rfl,?_⟩
   have e:=HW2.out;rw [List.take_of_length_le (by simp)] at e;have e2:l ++ quoteL s=l ++ [34] ++ s.data.toList.flatMap escL ++ [34]:=by simp [quoteL]
   rw [e2];exact e
def nullL:List UInt8:=[110,117,108,108]
def trueL:List UInt8:=[116,114,117,101]
def falseL:List UInt8:=[102,97,108,115,101]
def partL (m:Bool) (f:ValD→List UInt8) (p:ByteArray × ValD):List UInt8:=(if m then quoteL p.1 ++ [58] else []) ++ f p.2
def partsL (m:Bool) (f:ValD→List UInt8):Bool→List (ByteArray × ValD)→List UInt8
 | _,[]=>[]
 | first,p :: r=>(if first then [] else [44]) ++ (partL m f p ++ partsL m f false r)
theorem zbpY (m:Bool) (f:ValD→List UInt8) (p:ByteArray × ValD):∀ (l:List (ByteArray × ValD)) (first:Bool),partsL m f first (l ++ [p])=partsL m f first l ++ ((if (first && l.isEmpty) then [] else [44]) ++ partL m f p)
 | [],first=>by cases first <;> simp [partsL]
 | q :: r,first=>by
  have:=zbpY m f p r false
  simp only [List.cons_append,partsL,this];cases first <;> simp
def openL (k:Int):UInt8:=if k=6 then 123 else 91
def closeL (k:Int):UInt8:=if k=6 then 125 else 93
def textF:Nat→ValD→List UInt8
 | 0,_=>[]
 | n+1,v=>match v with
  | []=>[]
  | c :: r =>
   if c.kind=1 then nullL
   else if c.kind=2 then (if c.int=0 then falseL else trueL)
   else if c.kind=3 then Lib.itoa c.int
   else if c.kind=4 then quoteL c.str
   else openL c.kind :: (partsL (decide (c.kind=6)) (textF n) true (partsOf (c :: r)) ++ [closeL c.kind])
def costC (c:CellD):Nat:=2 * c.str.size+30
def costV (v:ValD):Nat:=(v.map costC).sum
theorem zbhY (c:CellD) (v:ValD):costV (c :: v)=costC c+costV v:=rfl
theorem zc9Y (a b:ValD):costV (a ++ b)=costV a+costV b:=by unfold costV;rw [List.map_append,List.sum_append]
theorem zblY (s:ByteArray):(quoteL s).length≤2 * s.size+2:=by
 unfold quoteL
 have:=escL_len s.data.toList
 simp only [List.length_append,List.length_cons,List.length_nil];have e:s.data.toList.length=s.size:=by rw [Array.length_toList];rfl
 omega
def pcost (m:Bool) (p:ByteArray × ValD):Nat:=if m=true then costV (sCel p.1 :: p.2) else costV p.2
def psum (m:Bool) (l:List (ByteArray × ValD)):Nat:=(l.map (pcost m)).sum
theorem psum_true (l:List (ByteArray × ValD)):psum true l=costV (l.flatMap fun p=>sCel p.1 :: p.2):=by
 induction l with
 | nil=>rfl
 | cons p r ih =>
  rw [List.flatMap_cons,zc9Y,← ih];rfl
theorem psum_false (l:List (ByteArray × ValD)):psum false l=costV ((l.map (·.2)).flatten):=by
 induction l with
 | nil=>rfl
 | cons p r ih =>
  rw [List.map_cons,List.flatten_cons,zc9Y,← ih];rfl
theorem psum_take (m:Bool):∀ (l:List (ByteArray × ValD)) (k:Nat) (h:k<l.length),psum m (l.take k)+pcost m l[k]≤psum m l
 | p :: r,0,_=>by simp [psum]
 | p :: r,k+1,h=>by
  have:=psum_take m r k (by simpa using h)
  simp only [psum,List.take_succ_cons,List.map_cons,List.sum_cons,List.getElem_cons_succ] at this ⊢;omega
theorem pcost_part (m:Bool) (p:ByteArray × ValD):(if m=true then 2 * p.1.size+30 else 0)+costV p.2=pcost m p:=by
 unfold pcost;cases m <;> simp [zbhY,costC,sCel]
theorem zb6Y (m:Bool) (f:ValD→List UInt8):∀ (l:List (ByteArray × ValD)) (first:Bool),(∀ p∈l,(f p.2).length+1≤costV p.2) →
  (partsL m f first l).length≤psum m l
 | [],first,_=>by simp [partsL]
 | p :: r,first,h=>by
  have ih:=zb6Y m f r false (fun q hq=>h q (by simp [hq]));have hp:=h p (by simp);have hc:(if first=true then ([]:List UInt8) else [44]).length≤1:=by split <;> simp
  have hpc:=pcost_part m p;have hs:psum m (p :: r)=pcost m p+psum m r:=rfl;simp only [partsL,List.length_append,partL];cases m with
  | false =>
   simp only [Bool.false_eq_true,if_false,List.length_nil] at hpc ⊢;omega
  | true =>
   simp only [if_true,List.length_append,List.length_singleton] at hpc ⊢
   have:=zblY p.1
   omega
theorem psum_of {c:CellD} {r:ValD} (ho:OkV (c :: r)) (hck:checkF (c :: r)=0) (hk:c.kind=5∨c.kind=6):psum (decide (c.kind=6)) (partsOf (c :: r))=costV r:=by
 have hs:∀ x∈c :: r,SmallC x:=fun x hx=>zabY (ho.2 x hx)
 rcases hk with hk | hk
 ·rw [show decide (c.kind=6)=false by simp [hk],psum_false,(zb5Y hck hs rfl hk).1]
 ·rw [show decide (c.kind=6)=true by simp [hk],psum_true,(zcpY hck hs rfl hk).1]
theorem itoa_len21 (n:Int) (h : -9223372036854775808≤n∧n≤9223372036854775807):(Lib.itoa n).length≤21:=by
 unfold Lib.itoa;split
 ·rw [List.length_cons,Lib.decDigits_length]
  have:=zboY 19 n.natAbs (by omega)
  omega
 ·rw [Lib.decDigits_length]
  have:=zboY 19 n.toNat (by omega)
  omega
theorem okV_sec {v:ValD} (h:OkV v) (a b:Nat):OkV (sec v a b) :=
 ⟨by have:=h.1;unfold sec;rw [List.length_take,List.length_drop];omega,fun c hc=>h.2 c (List.mem_of_mem_drop (List.mem_of_mem_take hc))⟩
theorem okV_part {v:ValD} {m:Bool} {D:Nat} {B:Int} {a b:Nat} {l:List (ByteArray × ValD)} (hv:OkV v) (h:ChainV v m D B a l b):∀ p∈l,OkV p.2:=by
 induction h with
 | nil a=>intro p hp;cases hp
 | cons hp _ ih =>
  obtain ⟨r,_,hr,hx,_,hd,hb⟩:=hp;intro p hp;rcases List.mem_cons.1 hp with rfl | hp
  ·rw [hx];exact okV_sec hv _ _
  ·exact ih p hp
theorem len_part {v:ValD} {m:Bool} {D:Nat} {B:Int} {a b:Nat} {l:List (ByteArray × ValD)} (h:ChainV v m D B a l b) (ha:1≤a):∀ p∈l,p.2.length<v.length:=by
 induction h with
 | nil a=>intro p hp;cases hp
 | cons hp _ ih =>
  obtain ⟨r,_,hr,hx,ha2,hd,hb⟩:=hp;have hadv:=zapY hr;intro p hp;rcases List.mem_cons.1 hp with rfl | hp
  ·rw [hx,sec_len _ _ _ hadv.2];omega
  ·exact ih (by omega) p hp
theorem part_ok {c:CellD} {r:ValD} (ho:OkV (c :: r)) (hck:checkF (c :: r)=0) (hk:c.kind=5∨c.kind=6):∀ p∈partsOf (c :: r),OkV p.2∧checkF p.2=0∧p.2.length<(c :: r).length:=by
 obtain ⟨_,_,hch,_⟩:=zacY hck (fun x hx=>zabY (ho.2 x hx)) (c:=c) rfl hk;exact fun p hp=>⟨okV_part ho hch p hp,zcfY hck hch p hp,len_part hch (Nat.le_refl 1) p hp⟩
theorem kinds_of {c:CellD} {r:ValD} (hck:checkF (c :: r)=0):c.kind=1∨c.kind=2∨c.kind=3∨c.kind=4∨c.kind=5∨c.kind=6:=by
 obtain ⟨s,hs,_⟩:=checkF_zero.1 hck
 have hp:plainB c=true:=by
  rw [px_eq,pstep] at hs;simp only [List.getElem?_cons_zero] at hs;cases h:plainB c with
  | true=>rfl
  | false=>rw [h] at hs;simp at hs
 unfold plainB at hp;by_cases h1:c.kind=1
 ·omega
 rw [if_neg h1] at hp;by_cases h2:c.kind=2
 ·omega
 rw [if_neg h2] at hp;by_cases h3:c.kind=3
 ·omega
 rw [if_neg h3] at hp;by_cases h4:c.kind=4
 ·omega
 rw [if_neg h4] at hp;by_cases h5:c.kind=5∨c.kind=6
 ·omega
 rw [if_neg h5] at hp;cases hp
theorem zcoY:∀ (n:Nat) (v:ValD),OkV v→checkF v=0→(textF n v).length+1≤costV v
 | 0,v,_,hck=>by
  cases v with
  | nil=>exact absurd rfl (zaoZ hck)
  | cons c r=>simp only [textF,List.length_nil,zbhY,costC];omega
 | n+1,v,ho,hck=>by
  cases v with
  | nil=>exact absurd rfl (zaoZ hck)
  | cons c r =>
   have hi:=(ho.2 c (by simp)).2.1;simp only [textF,zbhY,costC];split
   ·simp [nullL];omega
   split
   ·split <;> simp [trueL,falseL] <;> omega
   split
   ·have:=itoa_len21 c.int hi;omega
   split
   ·have:=zblY c.str;omega
   ·rename_i h1 h2 h3 h4
    have hk:c.kind=5∨c.kind=6:=by have:=kinds_of hck;omega
    have hpo:=part_ok ho hck hk;have hl:=zb6Y (decide (c.kind=6)) (textF n) (partsOf (c :: r)) true (fun p hp=>zcoY n p.2 (hpo p hp).1 (hpo p hp).2.1);rw [psum_of ho hck hk] at hl;simp only [List.length_cons,List.length_append,List.length_nil];omega
theorem costV_le {v:ValD} (hck:checkF v=0):costV v≤86000:=by
 obtain ⟨_,_,_,_,hl,hn,_⟩:=checkF_zero.1 hck
 have:∀ (u:ValD),u.any longB=false→costV u≤u.length * 430:=by
  intro u;induction u with
  | nil=>intro _;simp [costV]
  | cons c r ih =>
   intro h;rw [List.any_cons,Bool.or_eq_false_iff] at h;have h1:=ih h.2;have h2:c.str.size≤200:=by have:=h.1;unfold longB at this;simpa using this
   rw [zbhY,List.length_cons];simp only [costC];omega
 have:=this v hl
 omega
theorem textF_bd {v:ValD} (n:Nat) (ho:OkV v) (hck:checkF v=0):(textF n v).length≤86000:=by
 have:=zcoY n v ho hck
 have:=costV_le hck
 omega
section
section
variable {B b:Nat} {l l':List UInt8} {w0 w w':World}
theorem WB.lt (h:WB B b l w0 w):b<w.heap.size:=h.is.elim (fun h=>h.lt) (fun h=>h.lt)
theorem WB.again (h:WB B b l w0 w):WB B b l w w:=WB.start h.is (Nat.le_trans h.b0 h.bel.size)
theorem WB.alloc (h:WB B b l w0 w) (o:Obj):WB B b l w0 (w.alloc o):=⟨h.is.alloc o,h.bel.alloc (Nat.le_trans h.b0 h.bel.size) o,h.kept.alloc o,h.b0⟩
theorem WB.blk (h:WB B b l w0 w) {g:Nat} {t:TypeId} {cs:Array Value} (hb:Blk w0 g t cs) (hg:g≠b) (ht:t≠5):Blk w g t cs :=
 h.kept g _ hb (by simpa using hg) (fun c fz e=>by injection e with _ e _;exact ht e)
theorem isB_grown {bs:List Value} (h:Lib.IsBuilderF 189 5 B b bs w) {row:Option Nat} (hg:w.grownBy w' row) (h1:some b≠row) (h2:∀ g,row=some g→∃ t cs fz,w.heap[g]? = some (.cells cs t fz)∧t≠5):Lib.IsBuilderF 189 5 B b bs w':=by
 have key:∀ {p:Value},Lib.BuilderAtF 189 5 B b p bs w→Lib.BuilderAtF 189 5 B b p bs w':=by
  rintro p ⟨hB,v,hb,hown,hne⟩;refine ⟨hB,v,(hg.block b (Array.getElem?_eq_some_iff.1 hb).1 h1).trans hb,hown.kept hg ?_,hne⟩
  cases row with
  | none =>
   by_cases e:v.ownBlock=none
   ·exact .inl e
   ·exact .inr e
  | some g =>
   obtain ⟨t,cs,fz,hh,ht⟩:=h2 g rfl;exact .inr (Lib.ownBlock_neF hown hh ht)
 exact h.elim (fun h=>.inl (key h)) (fun h=>.inr (key h))
theorem WB.below (h:WB B b l w0 w) (hb:Below w.heap.size w w'):WB B b l w0 w' :=
 ⟨isB_grown h.is (row:=none) (grown_of_below hb) (by simp) (fun g e=>by cases e),zaaZ hb h.bel (Nat.le_trans h.b0 h.bel.size),fun k o hk h1 h2=>(hb.block k (Array.getElem?_eq_some_iff.1 (h.kept k o hk h1 h2)).1).trans (h.kept k o hk h1 h2),h.b0⟩
theorem WB.set (h:WB B b l w0 w) {g:Nat} {t:TypeId} {cs:Array Value} (hg:Blk w g t cs) (hn:w0.heap.size≤g) (hgb:g≠b) (ht:t≠5) (i:Nat) (u:Value):WB B b l w0 (w.setCell ⟨g,i,none⟩ u) :=
 ⟨isB_grown h.is (zamZ w g i u) (by simpa using fun e=>hgb e.symm) (fun g' e=>by injection e with e;subst e;exact ⟨t,cs,_,hg,ht⟩),h.bel.setCell (p:=⟨g,i,none⟩) (Nat.le_trans h.b0 hn) u,
  fun k o hk h1 h2=>(Below.heap_setCell w ⟨g,i,none⟩ u k (fun e=>by have:=(Array.getElem?_eq_some_iff.1 hk).1;simp at e;omega)).trans (h.kept k o hk h1 h2),h.b0⟩
end
structure WrS (wE w0:World) (b gB gC gF:Nat) (cs:Array Value) (l:List UInt8) (first:Bool) (w:World):Prop where
 wb:WB wE.heap.size b l w0 w
 f:Blk w gF 4 #[.bool first]
 bb:Blk w gB 186 #[.pointer (some ⟨b,0,none⟩)]
 c:Blk w gC 53 cs
 hb:b<w0.heap.size
 hB:w0.heap.size≤gB
 hC:w0.heap.size≤gC
 hF:w0.heap.size≤gF
section
variable {wE w0 w w':World} {b gB gC gF:Nat} {cs:Array Value} {l l':List UInt8} {first:Bool}
theorem WrS.go (h:WrS wE w0 b gB gC gF cs l first w) (hw:WB wE.heap.size b l' w w'):WrS wE w0 b gB gC gF cs l' first w' :=
 ⟨h.wb.trans hw,hw.blk h.f (by have:=h.hb;have:=h.hF;omega) (by decide),hw.blk h.bb (by have:=h.hb;have:=h.hB;omega) (by decide),hw.blk h.c (by have:=h.hb;have:=h.hC;omega) (by decide),h.hb,h.hB,h.hC,h.hF⟩
theorem WrS.below (h:WrS wE w0 b gB gC gF cs l first w) (hb:Below w.heap.size w w'):WrS wE w0 b gB gC gF cs l first w' :=
 ⟨h.wb.below hb,h.f.below hb,h.bb.below hb,h.c.below hb,h.hb,h.hB,h.hC,h.hF⟩
theorem WrS.set (h:WrS wE w0 b gB gC gF cs l first w) (first':Bool):WrS wE w0 b gB gC gF cs l first' (w.setCell ⟨gF,0,none⟩ (.bool first')) :=
 ⟨h.wb.set h.f h.hF (by have:=h.hb;have:=h.hF;omega) (by decide) 0 _,h.f.set_ 0 _,h.bb.far (p:=⟨gF,0,none⟩) (za7Y h.bb h.f (by decide)) _,h.c.far (p:=⟨gF,0,none⟩) (za7Y h.c h.f (by decide)) _,h.hb,h.hB,h.hC,h.hF⟩
end
def keyL (k:Int) (key:ByteArray):List UInt8:=if k=6 then quoteL key ++ [58] else []
attribute [local go_sem] zacZ
theorem write1_any (wE w0 w:World) (b gB gC gF:Nat) (k:Int) (u1 u2 u3:Value) (l:List UInt8) (first:Bool) (key:ByteArray) (x:Value) (tx:List UInt8) (h:WrS wE w0 b gB gC gF #[.int .i64 k,u1,u2,u3] l first w) (hl:l.length≤300000) (hks:key.size≤10000)
  (HW:∀ wx lx,WB wE.heap.size b lx wx wx→Below wE.heap.size w wx→lx.length≤l.length+(if k=6 then 2 * key.size+4 else 1)→Calls prog 150 #[.pointer (some ⟨b,0,none⟩),x] wx fun e w'=>e=.returned (.tuple #[])∧WB wE.heap.size b (lx ++ tx) wx w') :
  Calls prog 208 #[.string key,x,.pointer (some ⟨gF,0,none⟩),.pointer (some ⟨gB,0,none⟩),.pointer (some ⟨gC,0,none⟩)] w fun e w'=>e=.returned (.bool true)∧WrS wE w0 b gB gC gF #[.int .i64 k,u1,u2,u3] (l ++ ((if first then [] else [44]) ++ (keyL k key ++ tx))) false w':=by
 obtain ⟨P,hP⟩:∃ P:Ending→World→Prop,(fun e w'=>e=.returned (.bool true)∧WrS wE w0 b gB gC gF #[.int .i64 k,u1,u2,u3] (l ++ ((if first then [] else [44]) ++ (keyL k key ++ tx))) false w')=P:=⟨_,rfl⟩
 rw [hP];have HP:=hZz hP;have HL:=hZz hl;have HKS:=hZz hks;have HWB:Hid (∀ wx lx,WB wE.heap.size b lx wx wx→Below wE.heap.size w wx→lx.length≤l.length+(if k=6 then 2 * key.size+4 else 1)→Calls prog 150 #[.pointer (some ⟨b,0,none⟩),x] wx fun e w'=>e=.returned (.tuple #[])∧WB wE.heap.size b (lx ++ tx) wx w'):=hZz HW
 -- behind the comma
 have HCOMMA:Hid (∀ (l1:List UInt8) (W:World),WrS wE w0 b gB gC gF #[.int .i64 k,u1,u2,u3] l1 first W→True):=hZz (fun _ _ _=>trivial);clear HCOMMA;have HS:=hZz h;have HBE0:Hid (∀ {l1:List UInt8} {W:World},WB wE.heap.size b l1 w W→Below wE.heap.size w W):=hZz (fun h=>h.bel);have f0:=h.f.cell 0 _ rfl;have b0:=h.bb.cell 0 _ rfl;have c0:=h.c.cell 0 _ rfl;have z0:=h.f.frozen 0;clear hP h hl hks HW;cases first
 ·have H1:=hZz (zb2Y HS.out.wb.again 44 (by have:=HL.out;omega))
  by_cases hk:k=6
  ·subst hk
   have HLEN:Hid ((l ++ [44] ++ quoteL key ++ [58]).length≤l.length+(2 * key.size+4)∧(l ++ [44] ++ quoteL key).length≤900000):=hZz (by
    have:=zblY key
    have:=HL.out
    have:=HKS.out
    simp only [List.length_append,List.length_singleton];omega)
   rw [if_pos rfl] at HWB;go_enter func208,ntmps208
   go_wp2_with (first
    | (go_at_call 207;first
     | ((refine H1.out.mono ?_);rintro e w1 ⟨rfl,hw1⟩;have HW1:=hZz hw1;have HS1:=hZz (HS.out.go hw1);have b1:=HS1.out.bb.cell 0 _ rfl;have c1:=HS1.out.c.cell 0 _ rfl;have z1:=HS1.out.f.frozen 0;have f1:=HS1.out.f.cell 0 _ rfl;have HS2:=hZz (HS1.out.set false);have b2:=HS2.out.bb.cell 0 _ rfl;have c2:=HS2.out.c.cell 0 _ rfl;have H2:=hZz (quote_any _ b _ key _ _ HS2.out.wb.again (by have:=HL.out;rw [List.length_append,List.length_singleton];omega) (by have:=HKS.out;omega));clear hw1 H1)
     | ((refine H3.out.mono ?_);rintro e w4 ⟨rfl,hw4⟩;have HS4:=hZz (HS3.out.go hw4);have b4:=HS4.out.bb.cell 0 _ rfl;have HB4:=hZz ((HW1.out.bel.setCell (p:=⟨gF,0,none⟩) (Nat.le_trans HS.out.wb.b0 HS.out.hF) (.bool false)).trans (HW3.out.bel.trans hw4.bel));have H4:=hZz (HWB.out _ _ HS4.out.wb.again HB4.out HLEN.out.1);clear hw4 H3))
    | (go_at_call 206;((refine H2.out.mono ?_);rintro e w3 ⟨rfl,hw3⟩;have HW3:=hZz hw3;have HS3:=hZz (HS2.out.go hw3);have b3:=HS3.out.bb.cell 0 _ rfl;have H3:=hZz (zb2Y HS3.out.wb.again 58 (by have:=HLEN.out.2;omega));clear hw3 H2))
    | (go_at_call 150;((refine H4.out.mono ?_);rintro e w5 ⟨rfl,hw5⟩;have HS5:=hZz (HS4.out.go hw5);clear hw5 H4)))
   rw [← HP.out];refine ⟨rfl,?_⟩
   have e:=HS5.out;simpa [keyL] using e
  ·have hk':(k == 6)=false:=by simpa using hk
   have HLEN:Hid ((l ++ [44]).length≤l.length+1):=hZz (by simp);rw [if_neg hk] at HWB;have HK:Hid (keyL k key=[]):=hZz (by unfold keyL;rw [if_neg hk]);clear hk;go_enter func208,ntmps208
   go_wp2_with (first
    | (go_at_call 207;((refine H1.out.mono ?_);rintro e w1 ⟨rfl,hw1⟩;have HW1:=hZz hw1;have HS1:=hZz (HS.out.go hw1);have b1:=HS1.out.bb.cell 0 _ rfl;have c1:=HS1.out.c.cell 0 _ rfl;have z1:=HS1.out.f.frozen 0;have f1:=HS1.out.f.cell 0 _ rfl;have HS2:=hZz (HS1.out.set false);have b2:=HS2.out.bb.cell 0 _ rfl;have c2:=HS2.out.c.cell 0 _ rfl;have HB4:=hZz (hw1.bel.setCell (p:=⟨gF,0,none⟩) (Nat.le_trans HS.out.wb.b0 HS.out.hF) (.bool false));have H4:=hZz (HWB.out _ _ HS2.out.wb.again HB4.out HLEN.out);clear hw1 H1))
    | (go_at_call 150;((refine H4.out.mono ?_);rintro e w5 ⟨rfl,hw5⟩;have HS5:=hZz (HS2.out.go hw5);clear hw5 H4)))
   rw [← HP.out];refine ⟨rfl,?_⟩
   have e:=HS5.out;rw [HK.out];simpa using e
 ·have HS2:=hZz (HS.out.set false)
  have b2:=HS2.out.bb.cell 0 _ rfl;have c2:=HS2.out.c.cell 0 _ rfl;have HB2:Hid (Below wE.heap.size w (w.setCell ⟨gF,0,none⟩ (.bool false))):=hZz ((Below.refl _ w).setCell (p:=⟨gF,0,none⟩) (Nat.le_trans HS.out.wb.b0 HS.out.hF) _);by_cases hk:k=6
  ·subst hk
   have HLEN:Hid ((l ++ quoteL key ++ [58]).length≤l.length+(2 * key.size+4)∧(l ++ quoteL key).length≤900000):=hZz (by
    have:=zblY key
    have:=HL.out
    have:=HKS.out
    simp only [List.length_append,List.length_singleton];omega)
   rw [if_pos rfl] at HWB;have H2:=hZz (quote_any _ b _ key _ _ HS2.out.wb.again (by have:=HL.out;omega) (by have:=HKS.out;omega));go_enter func208,ntmps208
   go_wp2_with (first
    | (go_at_call 207;((refine H3.out.mono ?_);rintro e w4 ⟨rfl,hw4⟩;have HS4:=hZz (HS3.out.go hw4);have b4:=HS4.out.bb.cell 0 _ rfl;have HB4:=hZz (HB2.out.trans (HW3.out.bel.trans hw4.bel));have H4:=hZz (HWB.out _ _ HS4.out.wb.again HB4.out HLEN.out.1);clear hw4 H3))
    | (go_at_call 206;((refine H2.out.mono ?_);rintro e w3 ⟨rfl,hw3⟩;have HW3:=hZz hw3;have HS3:=hZz (HS2.out.go hw3);have b3:=HS3.out.bb.cell 0 _ rfl;have H3:=hZz (zb2Y HS3.out.wb.again 58 (by have:=HLEN.out.2;omega));clear hw3 H2))
    | (go_at_call 150;((refine H4.out.mono ?_);rintro e w5 ⟨rfl,hw5⟩;have HS5:=hZz (HS4.out.go hw5);clear hw5 H4)))
   rw [← HP.out];refine ⟨rfl,?_⟩
   have e:=HS5.out;simpa [keyL] using e
  ·have hk':(k == 6)=false:=by simpa using hk
   rw [if_neg hk] at HWB;have HK:Hid (keyL k key=[]):=hZz (by unfold keyL;rw [if_neg hk]);have H4:=hZz (HWB.out _ _ HS2.out.wb.again HB2.out (by omega));clear hk;go_enter func208,ntmps208
   go_wp2_with (first
    | (go_at_call 150;((refine H4.out.mono ?_);rintro e w5 ⟨rfl,hw5⟩;have HS5:=hZz (HS2.out.go hw5);clear hw5 H4)))
   rw [← HP.out];refine ⟨rfl,?_⟩
   have e:=HS5.out;rw [HK.out];simpa using e
end
section
theorem partsL_take (m:Bool) (f:ValD→List UInt8) (ps:List (ByteArray × ValD)) (k:Nat) (h:k<ps.length):partsL m f true (ps.take (k+1))=partsL m f true (ps.take k) ++ ((if decide (k=0)=true then [] else [44]) ++ partL m f ps[k]):=by
 rw [List.take_succ_eq_append_getElem h,zbpY];congr 2
 cases k with
 | zero=>simp
 | succ k =>
  have:(ps.take (k+1)).isEmpty=false:=by
   cases ps with
   | nil=>simp at h
   | cons a r=>simp
  simp [this]
theorem key_part {v:ValD} {m:Bool} {D:Nat} {B:Int} {a b:Nat} {l:List (ByteArray × ValD)} (hs:∀ c∈v,c.str.size≤200) (h:ChainV v m D B a l b):∀ p∈l,p.1.size≤200:=by
 induction h with
 | nil a=>intro p hp;cases hp
 | cons hp _ ih =>
  obtain ⟨r,hk,_⟩:=hp;intro p hp;rcases List.mem_cons.1 hp with rfl | hp
  ·cases m with
   | false =>
    rw [if_neg (by simp)] at hk;simp only at hk ⊢;rw [hk];decide
   | true =>
    rw [if_pos rfl] at hk;obtain ⟨c,hc,_,_,e⟩:=hk;simp only at e ⊢;rw [e];exact hs c (List.mem_of_getElem? hc)
  ·exact ih p hp
def WriteOk (n:Nat):Prop:=∀ (wE:World) (_:Pow wE) (b:Nat) (v:ValD) (x:Value) (l:List UInt8) (w:World),v.length≤n→OkV v→checkF v=0→ValV wE x v→Below wE.heap.size wE w→WB wE.heap.size b l w w→l.length+costV v≤300000 →
  Calls prog 150 #[.pointer (some ⟨b,0,none⟩),x] w fun e w'=>e=.returned (.tuple #[])∧WB wE.heap.size b (l ++ textF n v) w w'
theorem write_parts (n:Nat) (ih:WriteOk n) (c:CellD) (r:ValD) (x:Value) (wE w w3:World) (b gB gC:Nat) (l:List UInt8) (hp:Pow wE) (hv:ValV wE x (c :: r)) (ho:OkV (c :: r)) (hck:checkF (c :: r)=0) (hk:c.kind=5∨c.kind=6) (hbE:Below wE.heap.size wE w) (h3:WB wE.heap.size b (l ++ [openL c.kind]) w w3)
  (hB:Blk w3 gB 186 #[.pointer (some ⟨b,0,none⟩)]) (hC:Blk w3 gC 53 #[.int .i64 c.kind,.int .i64 c.int,.string c.str,.int .i64 c.n]) (hgB:w.heap.size≤gB) (hgC:w.heap.size≤gC) (hbw:b<w.heap.size) (hl:l.length+costV (c :: r)≤300000) (hn:(c :: r).length≤n+1) :
  Calls prog 105 #[x,.func (.func 208) #[] #[.pointer (some ⟨w3.heap.size,0,none⟩),.pointer (some ⟨gB,0,none⟩),.pointer (some ⟨gC,0,none⟩)]] (w3.alloc (.cells #[.bool true] 4)) fun e w'=>e=.returned (.tuple #[])∧∃ fst,WrS wE w b gB gC w3.heap.size #[.int .i64 c.kind,.int .i64 c.int,.string c.str,.int .i64 c.n] (l ++ [openL c.kind] ++ partsL (decide (c.kind=6)) (textF n) true (partsOf (c :: r))) fst w':=by
 have hpk:=part_ok ho hck hk
 have hkey:∀ p∈partsOf (c :: r),p.1.size≤200:=by
  obtain ⟨_,_,hch,_⟩:=zacY hck (fun x hx=>zabY (ho.2 x hx)) (c:=c) rfl hk;exact key_part (za8Y hck) hch
 have hps:=psum_of ho hck hk;have h6:∀ (α:Type) (a b:α),(if decide (c.kind=6)=true then a else b)=if c.kind=6 then a else b:=fun α a b=>by by_cases h:c.kind=6 <;> simp [h]
 have hKL:∀ key,keyL c.kind key=if decide (c.kind=6)=true then quoteL key ++ [58] else []:=fun key=>by unfold keyL;rw [h6]
 have hm6:∀ key:ByteArray,(if c.kind=6 then 2 * key.size+4 else 1)=if decide (c.kind=6)=true then 2 * key.size+4 else 1:=fun key=>by rw [h6]
 obtain ⟨m,hm⟩:∃ m,decide (c.kind=6)=m:=⟨_,rfl⟩
 rw [hm] at hps hKL hm6;rw [hm];obtain ⟨ps,hpse⟩:∃ ps,partsOf (c :: r)=ps:=⟨_,rfl⟩
 have hle:∀ k,(partsL m (textF n) true (ps.take k)).length≤psum m (ps.take k):=fun k =>
  zb6Y m (textF n) _ true (fun p hp=>by
   have:=hpk p (by rw [hpse];exact List.mem_of_mem_take hp)
   exact zcoY n p.2 this.1 this.2.1)
 rw [hpse] at hpk hkey hps;rw [zbhY] at hl;have hcc:30≤costC c:=by unfold costC;omega
 refine (zc0Y c r x 208 #[.pointer (some ⟨w3.heap.size,0,none⟩),.pointer (some ⟨gB,0,none⟩),.pointer (some ⟨gC,0,none⟩)] wE _ hv ?_ hp ho hck hk
  (fun k wy=>WrS wE w b gB gC w3.heap.size #[.int .i64 c.kind,.int .i64 c.int,.string c.str,.int .i64 c.n] (l ++ [openL c.kind] ++ partsL m (textF n) true (ps.take k)) (decide (k=0)) wy)
  (fun wy=>∃ fst,WrS wE w b gB gC w3.heap.size #[.int .i64 c.kind,.int .i64 c.int,.string c.str,.int .i64 c.n] (l ++ [openL c.kind] ++ partsL m (textF n) true ps) fst wy)
  (enters_of func208 (by kernel_rfl) rfl) ?_ (fun k wx hi=>hbE.trans hi.wb.bel) (fun k wx wy hi hb=>hi.below hb) (fun k wx y hk' hi hy=>?_) (fun wx hi=>?_)).mono fun e w' ⟨he,hj⟩=>⟨he,by rw [hpse];exact hj⟩
 ·exact (hbE.trans h3.bel).alloc (by have:=h3.bel.size;have:=h3.b0;omega) _
 ·exact ⟨by simpa [partsL] using h3.alloc _,Blk.new' rfl,hB.alloc _,hC.alloc _,hbw,hgB,hgC,h3.bel.size⟩
 ·subst hpse
  obtain ⟨p1,p2,p3⟩:=hpk _ (List.getElem_mem hk');have pk:=hkey _ (List.getElem_mem hk');have ht:=psum_take m (partsOf (c :: r)) k hk';have hpc:=pcost_part m (partsOf (c :: r))[k];have h1:=hle k;have hL:(l ++ [openL c.kind] ++ partsL m (textF n) true ((partsOf (c :: r)).take k)).length=l.length+1+(partsL m (textF n) true ((partsOf (c :: r)).take k)).length:=by simp;omega
  refine (write1_any wE w wx b gB gC w3.heap.size c.kind _ _ _ _ (decide (k=0)) (partsOf (c :: r))[k].1 y (textF n (partsOf (c :: r))[k].2) hi (by omega) (by omega) (fun wz lx hz hbz hlx=>?_)).mono fun e w' ⟨he,hs⟩=>⟨true,he,fun _=>?_,fun e=>by cases e⟩
  ·refine ih wE hp b _ y lx wz (by simp only [List.length_cons] at p3 hn ⊢;omega) p1 p2 hy ((hbE.trans hi.wb.bel).trans hbz) hz ?_
   rw [hm6,hL] at hlx;cases m with
   | false =>
    simp only [Bool.false_eq_true,if_false] at hlx hpc;omega
   | true =>
    simp only [if_true] at hlx hpc;omega
  ·have e2:=partsL_take m (textF n) (partsOf (c :: r)) k hk'
   have e3:decide (k+1=0)=false:=by simp
   rw [e2,e3];rw [hKL] at hs;have e4:partL m (textF n) (partsOf (c :: r))[k]=(if m=true then quoteL (partsOf (c :: r))[k].1 ++ [58] else []) ++ textF n (partsOf (c :: r))[k].2:=rfl;rw [e4,← List.append_assoc];exact hs
 ·rw [hpse] at hi
  rw [List.take_length] at hi;exact ⟨_,hi⟩
attribute [local go_sem] zacZ
set_option maxHeartbeats 16000000 in
theorem write_any:∀ (n:Nat) (wE:World) (hp:Pow wE) (b:Nat) (v:ValD) (x:Value) (l:List UInt8) (w:World),v.length≤n→OkV v→checkF v=0→ValV wE x v→Below wE.heap.size wE w→WB wE.heap.size b l w w→l.length+costV v≤300000 →
  Calls prog 150 #[.pointer (some ⟨b,0,none⟩),x] w fun e w'=>e=.returned (.tuple #[])∧WB wE.heap.size b (l ++ textF n v) w w'
 | 0,wE,hp,b,v,x,l,w,hn,ho,hck,hv,hb,hw,hl=>by
  cases v with
  | nil=>exact absurd rfl (zaoZ hck)
  | cons c r=>simp at hn
 | n+1,wE,hp,b,v,x,l,w,hn,ho,hck,hv,hb,hw,hl=>by
  obtain ⟨c,r,rfl⟩:∃ c r,v=c :: r:=by
   cases v with
   | nil=>exact absurd rfl (zaoZ hck)
   | cons c r=>exact ⟨c,r,rfl⟩
  obtain ⟨P,hP⟩:∃ P:Ending→World→Prop,(fun e w'=>e=.returned (.tuple #[])∧WB wE.heap.size b (l ++ textF (n+1) (c :: r)) w w')=P:=⟨_,rfl⟩
  rw [hP];have HP:=hZz hP;obtain ⟨bv,off,nn,cap,rfl,hnn,e0,e1,e2,e3⟩:=zanZ hv;have hpos:(0:Int)<(nn:Int):=by omega
  have p0:=(hb.cell (p:=⟨bv,off,none⟩) (bLZ e0)).trans e0;have p1:=(hb.cell (p:=⟨bv,off+1,none⟩) (bLZ e1)).trans e1;have p2:=(hb.cell (p:=⟨bv,off+2,none⟩) (bLZ e2)).trans e2;have p3:=(hb.cell (p:=⟨bv,off+3,none⟩) (bLZ e3)).trans e3;have HT:Hid (textF (n+1) (c :: r)=if c.kind=1 then nullL else if c.kind=2 then (if c.int=0 then falseL else trueL) else if c.kind=3 then Lib.itoa c.int else if c.kind=4 then quoteL c.str else openL c.kind :: (partsL (decide (c.kind=6)) (textF n) true (partsOf (c :: r)) ++ [closeL c.kind])):=hZz rfl;have hlb:l.length≤300000:=by omega
  have hkk:=kinds_of hck
  have hbool:c.kind=2→c.int=0∨c.int=1:=fun h2=>by
   obtain ⟨s,hs,_⟩:=checkF_zero.1 hck
   have hp:plainB c=true:=by
    rw [px_eq,pstep] at hs;simp only [List.getElem?_cons_zero] at hs;cases h:plainB c with
    | true=>rfl
    | false=>rw [h] at hs;simp at hs
   unfold plainB at hp;rw [if_neg (by omega),if_pos h2] at hp;simp at hp
   exact hp.1
  have HW:=hZz hw;have HB:=hZz hb
  -- the boxes
  have HW2:Hid (∀ o1 o2,WB wE.heap.size b l w ((w.alloc o1).alloc o2)):=hZz fun o1 o2=>(hw.alloc o1).alloc o2
  have hint:=(ho.2 c (by simp)).2.1;have hstr:=za8Y hck c (by simp);by_cases hk5:c.kind=5∨c.kind=6
  case neg =>
   obtain ⟨k,i,s,N⟩:=c;dsimp only at p0 p1 p2 p3 HT hkk hbool hint hk5 hstr;have hk4:k=1∨k=2∨k=3∨k=4:=by omega
   clear hkk hk5;have HPW:Hid (∀ wx,Below wE.heap.size w wx→Pow wx):=hZz fun wx hx=>hp.below (hb.trans hx)
   have HLB:=hZz hlb;clear hP hn ho hck hv hb hw hl hp e0 e1 e2 e3 hnn;rcases hk4 with rfl | rfl | rfl | rfl
   ·have H1:Hid (∀ W,WB wE.heap.size b l w W→Calls prog 204 #[.pointer (some ⟨b,0,none⟩),.string ⟨#[110,117,108,108]⟩] W fun e w'=>e=.returned (.tuple #[.int .i64 (4:Nat),.nilIface])∧WB wE.heap.size b (l ++ nullL) w w'):=hZz fun W hW=>wb_str hW ⟨#[110,117,108,108]⟩ (by have:=HLB.out;omega) (by decide)
    have H1':=hZz (H1.out _ (HW2.out (.cells #[.pointer (some ⟨b,0,none⟩)] 186) (.cells #[.int .i64 1,.int .i64 i,.string s,.int .i64 N] 53)));go_enter func150,ntmps150
    go_wp2_with (first
     | (go_at_call 204;((refine H1'.out.mono ?_);rintro e w1 ⟨rfl,hw1⟩;have HW3:=hZz hw1;clear hw1)))
    go_returns;rw [← HP.out];exact ⟨rfl,by rw [HT.out];exact HW3.out⟩
   ·have HBB:=hZz ((Blk.new w 186 #[.pointer (some ⟨b,0,none⟩)]).alloc (.cells #[.int .i64 2,.int .i64 i,.string s,.int .i64 N] 53))
    have HBC:=hZz (Blk.second w (.cells #[.pointer (some ⟨b,0,none⟩)] 186) 53 #[.int .i64 2,.int .i64 i,.string s,.int .i64 N]);have HWW:=hZz (HW2.out (.cells #[.pointer (some ⟨b,0,none⟩)] 186) (.cells #[.int .i64 2,.int .i64 i,.string s,.int .i64 N] 53));have HB2:=hZz (zasY w (.cells #[.pointer (some ⟨b,0,none⟩)] 186) (.cells #[.int .i64 2,.int .i64 i,.string s,.int .i64 N] 53));have HX:Hid (∀ (W:World) (tx:ByteArray),tx.size≤1000→WB wE.heap.size b l w W→Calls prog 204 #[.pointer (some ⟨b,0,none⟩),.string tx] W fun e w'=>e=.returned (.tuple #[.int .i64 tx.size,.nilIface])∧WB wE.heap.size b (l ++ tx.data.toList) w w'):=hZz fun W tx h1 hW=>wb_str hW tx (by have:=HLB.out;omega) (by omega)
    go_enter func150,ntmps150
    go_upto_region 13 with fail
    obtain ⟨W2,hW2⟩:∃ W2,(w.alloc (.cells #[.pointer (some ⟨b,0,none⟩)] 186)).alloc (.cells #[.int .i64 2,.int .i64 i,.string s,.int .i64 N] 53)=W2:=⟨_,rfl⟩
    rw [hW2] at HBB HBC HWW HB2 ⊢;clear hW2;have b0:=HBB.out.cell 0 _ rfl;have c1:=HBC.out.cell 1 _ rfl;rcases hbool rfl with rfl | rfl
    ·have HT':Hid (textF (n+1) (⟨2,0,s,N⟩ :: r)=falseL):=hZz (by rw [HT.out];rfl)
     go_region_law (go_simp;go_at_call 204;((refine (HX.out _ ⟨#[102,97,108,115,101]⟩ (by decide) ((HWW.out.below (zafZ _)).alloc _)).mono ?_);rintro e w1 ⟨rfl,hw1⟩;have HW3:=hZz hw1;clear hw1))
     all_goals
      go_simp;go_wp2_with (fail)
      go_returns;rw [← HP.out];exact ⟨rfl,by rw [HT'.out];exact HW3.out⟩
    ·have HT':Hid (textF (n+1) (⟨2,1,s,N⟩ :: r)=trueL):=hZz (by rw [HT.out];rfl)
     go_region_law (go_simp;go_at_call 204;((refine (HX.out _ ⟨#[116,114,117,101]⟩ (by decide) ((HWW.out.below (zafZ _)).alloc _)).mono ?_);rintro e w1 ⟨rfl,hw1⟩;have HW3:=hZz hw1;clear hw1))
     all_goals
      go_simp;go_wp2_with (fail)
      go_returns;rw [← HP.out];exact ⟨rfl,by rw [HT'.out];exact HW3.out⟩
   ·have HFM:Hid (∀ W,Below wE.heap.size w W→Calls prog 205 #[.int .i64 i] W fun e w'=>∃ s:ByteArray,s.size=itoaLen i∧s=⟨(Lib.itoa i).toArray⟩∧e=.returned (.string s)∧Below W.heap.size W w'):=hZz fun W hb=>format_any i W hint.1 hint.2 (HPW.out W hb)
    have HBB:=hZz ((Blk.new w 186 #[.pointer (some ⟨b,0,none⟩)]).alloc (.cells #[.int .i64 3,.int .i64 i,.string s,.int .i64 N] 53));have HBC:=hZz (Blk.second w (.cells #[.pointer (some ⟨b,0,none⟩)] 186) 53 #[.int .i64 3,.int .i64 i,.string s,.int .i64 N]);have HWW:=hZz (HW2.out (.cells #[.pointer (some ⟨b,0,none⟩)] 186) (.cells #[.int .i64 3,.int .i64 i,.string s,.int .i64 N] 53));have HB2:=hZz (zasY w (.cells #[.pointer (some ⟨b,0,none⟩)] 186) (.cells #[.int .i64 3,.int .i64 i,.string s,.int .i64 N] 53));have HX:Hid (∀ (W:World) (tx:ByteArray),tx.size≤1000→WB wE.heap.size b l w W→Calls prog 204 #[.pointer (some ⟨b,0,none⟩),.string tx] W fun e w'=>e=.returned (.tuple #[.int .i64 tx.size,.nilIface])∧WB wE.heap.size b (l ++ tx.data.toList) w w'):=hZz fun W tx h1 hW=>wb_str hW tx (by have:=HLB.out;omega) (by omega)
    have HT':Hid (textF (n+1) (⟨3,i,s,N⟩ :: r)=Lib.itoa i):=hZz (by rw [HT.out];rfl);have HIL:=hZz (itoa_len21 i hint);go_enter func150,ntmps150
    go_upto_region 15 with fail
    obtain ⟨W2,hW2⟩:∃ W2,(w.alloc (.cells #[.pointer (some ⟨b,0,none⟩)] 186)).alloc (.cells #[.int .i64 3,.int .i64 i,.string s,.int .i64 N] 53)=W2:=⟨_,rfl⟩
    rw [hW2] at HBB HBC HWW HB2 ⊢;clear hW2;have b0:=HBB.out.cell 0 _ rfl;have c1:=HBC.out.cell 1 _ rfl
    go_region_law (first
     | (go_simp;go_at_call 205;((refine (HFM.out _ (HB2.out.drew.mono HB.out.size)).mono ?_);rintro e w3 ⟨s3,hs1,hs2,rfl,hb3⟩;have b3:=(HBB.out.below (zadZ hb3 (zafZ _))).cell 0 _ rfl;have HW4:=hZz (HX.out w3 s3 (by rw [hs1];have:=HIL.out;unfold itoaLen;omega) (HWW.out.below (zadZ hb3 (zafZ _))));have HS2:=hZz hs2;clear hb3 hs1 hs2))
     | (go_simp;go_at_call 204;((refine HW4.out.mono ?_);rintro e w1 ⟨rfl,hw1⟩;have HW3:=hZz hw1;clear hw1)))
    all_goals
     go_simp;go_wp2_with (fail)
     go_returns;rw [← HP.out];refine ⟨rfl,?_⟩
     rw [HT'.out];have h9:=HW3.out;rw [HS2.out] at h9;simpa using h9
   ·have H1':=hZz (quote_any _ b l s w _ (HW2.out (.cells #[.pointer (some ⟨b,0,none⟩)] 186) (.cells #[.int .i64 4,.int .i64 i,.string s,.int .i64 N] 53)) (by have:=HLB.out;omega) (by omega))
    go_enter func150,ntmps150
    go_wp2_with (first
     | (go_at_call 206;((refine H1'.out.mono ?_);rintro e w1 ⟨rfl,hw1⟩;have HW3:=hZz hw1;clear hw1)))
    go_returns;rw [← HP.out];exact ⟨rfl,by rw [HT.out];exact HW3.out⟩
  case pos =>
   have hlt:=hw.lt;have HBOX:Hid (∀ w3 gB gC,WB wE.heap.size b (l ++ [openL c.kind]) w w3→Blk w3 gB 186 #[.pointer (some ⟨b,0,none⟩)]→Blk w3 gC 53 #[.int .i64 c.kind,.int .i64 c.int,.string c.str,.int .i64 c.n]→w.heap.size≤gB→w.heap.size≤gC→Calls prog 105 #[.slice (some ⟨bv,off,none⟩) nn cap,.func (.func 208) #[] #[.pointer (some ⟨w3.heap.size,0,none⟩),.pointer (some ⟨gB,0,none⟩),.pointer (some ⟨gC,0,none⟩)]] (w3.alloc (.cells #[.bool true] 4)) fun e w'=>e=.returned (.tuple #[])∧∃ fst,WrS wE w b gB gC w3.heap.size #[.int .i64 c.kind,.int .i64 c.int,.string c.str,.int .i64 c.n] (l ++ [openL c.kind] ++ partsL (decide (c.kind=6)) (textF n) true (partsOf (c :: r))) fst w'):=hZz fun w3 gB gC h3 hB hC h1 h2=>write_parts n (write_any n) c r _ wE w w3 b gB gC l hp hv ho hck hk5 hb h3 hB hC h1 h2 hlt hl hn
   have HTL:Hid ((l ++ [openL c.kind] ++ partsL (decide (c.kind=6)) (textF n) true (partsOf (c :: r))).length≤400000):=hZz (by
    have h1:=zb6Y (decide (c.kind=6)) (textF n) (partsOf (c :: r)) true (fun p hp=>by
     have:=part_ok ho hck hk5 p hp
     exact zcoY n p.2 this.1 this.2.1)
    rw [psum_of ho hck hk5] at h1;rw [zbhY] at hl;simp only [List.length_append,List.length_singleton];omega)
   obtain ⟨tp,htp⟩:∃ t,partsL (decide (c.kind=6)) (textF n) true (partsOf (c :: r))=t:=⟨_,rfl⟩
   rw [htp] at HT HBOX HTL;have HLB:=hZz hlb;obtain ⟨k,i,s,N⟩:=c;dsimp only at p0 p1 p2 p3 HT hkk hbool hint hk5 hstr HBOX HTL;have HBB:=hZz ((Blk.new w 186 #[.pointer (some ⟨b,0,none⟩)]).alloc (.cells #[.int .i64 k,.int .i64 i,.string s,.int .i64 N] 53));have HBC:=hZz (Blk.second w (.cells #[.pointer (some ⟨b,0,none⟩)] 186) 53 #[.int .i64 k,.int .i64 i,.string s,.int .i64 N]);have HWW:=hZz (HW2.out (.cells #[.pointer (some ⟨b,0,none⟩)] 186) (.cells #[.int .i64 k,.int .i64 i,.string s,.int .i64 N] 53));have HBY:Hid (∀ (W:World) (l':List UInt8) (ch:UInt8),l'.length≤500000→WB wE.heap.size b l' w W→Calls prog 207 #[.pointer (some ⟨b,0,none⟩),.int .u8 ch.toNat] W fun e w'=>e=.returned .nilIface∧WB wE.heap.size b (l' ++ [ch]) w w'∧WB wE.heap.size b (l' ++ [ch]) W w'):=hZz fun W l' ch h1 hW=>(zb2Y hW.again ch (by omega)).mono fun e w' ⟨he,h⟩=>⟨he,hW.trans h,h⟩
   have HLT:=hZz hlt
   have HT':Hid (textF (n+1) (⟨k,i,s,N⟩ :: r)=openL k :: (tp ++ [closeL k])):=hZz (by
    rw [HT.out,if_neg (by omega),if_neg (by omega),if_neg (by omega),if_neg (by omega)])
   clear hP hn ho hck hv hb hw hl hp e0 e1 e2 e3 hnn hkk hbool hint hstr htp hlt HT HW HB HW2;rcases hk5 with rfl | rfl
   ·go_enter func150,ntmps150
    go_upto_region 6 with fail
    obtain ⟨W2,hW2⟩:∃ W2,(w.alloc (.cells #[.pointer (some ⟨b,0,none⟩)] 186)).alloc (.cells #[.int .i64 5,.int .i64 i,.string s,.int .i64 N] 53)=W2:=⟨_,rfl⟩
    rw [hW2] at HBB HBC HWW ⊢;clear hW2;have b0:=HBB.out.cell 0 _ rfl;go_region_law (go_simp;go_at_call 207;((refine (HBY.out _ l 91 (by have:=HLB.out;omega) (HWW.out.below (zafZ _))).mono ?_);rintro e w3 ⟨rfl,hw3,hq3⟩;have HW3:Hid (WB wE.heap.size b (l ++ [openL 5]) w w3):=hZz hw3;have HB3:=hZz (hq3.blk (HBB.out.below (zafZ _)) (by have:=HLT.out;omega) (by decide));have HC3:=hZz (hq3.blk (HBC.out.below (zafZ _)) (by have:=HLT.out;omega) (by decide));have HPT:=hZz (HBOX.out w3 _ _ HW3.out HB3.out HC3.out (Nat.le_refl _) (Nat.le_succ _));have b3:=HB3.out.cell 0 _ rfl;clear hw3 hq3))
    all_goals
     go_simp;clear b0
     go_upto_region 9 with (first
      | (go_at_call 105;((refine HPT.out.mono ?_);rintro e w4 ⟨rfl,fst,hs⟩;have HS4:=hZz hs;have b4:=hs.bb.cell 0 _ rfl;clear hs b3))
      | fail)
     go_region_law (go_simp;go_at_call 207;((refine (HBY.out _ (l ++ [openL 5] ++ tp) 93 (by have:=HTL.out;omega) (HS4.out.wb.below (zafZ _))).mono ?_);rintro e w5 ⟨rfl,hw5,_⟩;have HW5:=hZz hw5;clear hw5))
     all_goals
      go_simp;go_wp2_with (fail)
      go_returns;rw [← HP.out];refine ⟨rfl,?_⟩
      rw [HT'.out];have h9:=HW5.out;have e9:l ++ openL 5 :: (tp ++ [closeL 5])=l ++ [openL 5] ++ tp ++ [93]:=by simp [closeL]
      rw [e9];exact h9
   ·go_enter func150,ntmps150
    go_upto_region 6 with fail
    obtain ⟨W2,hW2⟩:∃ W2,(w.alloc (.cells #[.pointer (some ⟨b,0,none⟩)] 186)).alloc (.cells #[.int .i64 6,.int .i64 i,.string s,.int .i64 N] 53)=W2:=⟨_,rfl⟩
    rw [hW2] at HBB HBC HWW ⊢;clear hW2;have b0:=HBB.out.cell 0 _ rfl;go_region_law (go_simp;go_at_call 207;((refine (HBY.out _ l 123 (by have:=HLB.out;omega) (HWW.out.below (zafZ _))).mono ?_);rintro e w3 ⟨rfl,hw3,hq3⟩;have HW3:Hid (WB wE.heap.size b (l ++ [openL 6]) w w3):=hZz hw3;have HB3:=hZz (hq3.blk (HBB.out.below (zafZ _)) (by have:=HLT.out;omega) (by decide));have HC3:=hZz (hq3.blk (HBC.out.below (zafZ _)) (by have:=HLT.out;omega) (by decide));have HPT:=hZz (HBOX.out w3 _ _ HW3.out HB3.out HC3.out (Nat.le_refl _) (Nat.le_succ _));have b3:=HB3.out.cell 0 _ rfl;clear hw3 hq3))
    all_goals
     go_simp;clear b0
     go_upto_region 9 with (first
      | (go_at_call 105;((refine HPT.out.mono ?_);rintro e w4 ⟨rfl,fst,hs⟩;have HS4:=hZz hs;have b4:=hs.bb.cell 0 _ rfl;clear hs b3))
      | fail)
     go_region_law (go_simp;go_at_call 207;((refine (HBY.out _ (l ++ [openL 6] ++ tp) 125 (by have:=HTL.out;omega) (HS4.out.wb.below (zafZ _))).mono ?_);rintro e w5 ⟨rfl,hw5,_⟩;have HW5:=hZz hw5;clear hw5))
     all_goals
      go_simp;go_wp2_with (fail)
      go_returns;rw [← HP.out];refine ⟨rfl,?_⟩
      rw [HT'.out];have h9:=HW5.out;have e9:l ++ openL 6 :: (tp ++ [closeL 6])=l ++ [openL 6] ++ tp ++ [125]:=by simp [closeL]
      rw [e9];exact h9
end
end Go.Proofs.YtekdhlfapejijaaGreatDoor
