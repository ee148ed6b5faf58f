/- E12, E13, E14, E15, E16 -/
import Derived.Test.YthiimbhjpdphpaaGreatDoorPE11
set_option linter.unusedVariables false
set_option linter.unusedSimpArgs false
namespace Go.Proofs.YthiimbhjpdphpaaGreatDoor
open Go.RowKit
set_option maxRecDepth 100000
set_option maxHeartbeats 8000000
attribute [local go_sem] zacZ
open Go.Proofs.Tryz
def arithN (op:List UInt8) (a b:Int):Int × Int :=
 if op=[43] then numI (a+b) else if op=[45] then numI (a - b) else if op=[42] then numI (a * b)
 else if op=[47] then ((dmI a b).1,(dmI a b).2.2) else ((dmI a b).2.1,(dmI a b).2.2)
theorem numI_ok {n:Int} (h:(numI n).2=0):inRange (numI n).1=true:=by
 unfold numI at h ⊢;split
 ·rename_i h1;exact h1
 ·rename_i h1;rw [if_neg h1] at h;simp at h
theorem dmI_ok {a b:Int} (ha:inRange a=true) (hb:inRange b=true) (h:(dmI a b).2.2=0):inRange (dmI a b).1=true∧inRange (dmI a b).2.1=true:=by
 unfold dmI at h ⊢;by_cases h0:b=0
 ·rw [if_pos h0] at h;simp at h
 ·rw [if_neg h0]
  simp only [inRange,Bool.and_eq_true,decide_eq_true_eq] at ha hb;exact fdiv_bd ha hb h0
theorem arithN_ok {op:List UInt8} {a b:Int} (ha:inRange a=true) (hb:inRange b=true) (h:(arithN op a b).2=0):inRange (arithN op a b).1=true:=by
 unfold arithN at h ⊢
 repeat' split at h
 ·rename_i h1;rw [if_pos h1];exact numI_ok h
 ·rename_i h1 h2;rw [if_neg h1,if_pos h2];exact numI_ok h
 ·rename_i h1 h2 h3;rw [if_neg h1,if_neg h2,if_pos h3];exact numI_ok h
 ·rename_i h1 h2 h3 h4;rw [if_neg h1,if_neg h2,if_neg h3,if_pos h4];exact (dmI_ok ha hb h).1
 ·rename_i h1 h2 h3 h4;rw [if_neg h1,if_neg h2,if_neg h3,if_neg h4];exact (dmI_ok ha hb h).2
theorem numR_eq (n:Int):numR n=if (numI n).2=0 then ([iCel (numI n).1],0) else ([],(numI n).2):=by
 unfold numR numI;split <;> simp
theorem arithR_eq (op:List UInt8) (a b:Int):arithR op a b=if (arithN op a b).2=0 then ([iCel (arithN op a b).1],0) else ([],(arithN op a b).2):=by
 unfold arithR arithN;by_cases h1:op=[43]
 ·rw [if_pos h1,if_pos h1];exact numR_eq _
 by_cases h2:op=[45]
 ·rw [if_neg h1,if_pos h2,if_neg h1,if_pos h2];exact numR_eq _
 by_cases h3:op=[42]
 ·rw [if_neg h1,if_neg h2,if_pos h3,if_neg h1,if_neg h2,if_pos h3];exact numR_eq _
 rw [if_neg h1,if_neg h2,if_neg h3,if_neg h1,if_neg h2,if_neg h3];by_cases h0:b=0
 ·rw [if_pos h0];unfold dmI;rw [if_pos h0];split <;> rfl
 ·rw [if_neg h0];unfold dmI;rw [if_neg h0]
  by_cases h4:op=[47]
  ·rw [if_pos h4,if_pos h4];rfl
  ·rw [if_neg h4,if_neg h4];rfl
theorem arith_any (op:ByteArray) (a b:Int) (w:World) (hp:Pow w) (ha:inRange a=true) (hb:inRange b=true) :
  Calls prog 123 #[.string op,.int .i64 a,.int .i64 b] w (RetR w [] (arithR op.toList a b)):=by
 obtain ⟨P,hP⟩:∃ P:Ending→World→Prop,RetR w [] (arithR op.toList a b)=P:=⟨_,rfl⟩
 rw [hP];have HP:=hZz hP
 obtain ⟨x,e,hxe,HR,HI⟩:∃ x e,arithN op.toList a b=(x,e)∧Hid (arithR op.toList a b=if e=0 then ([iCel x],0) else ([],e))∧Hid (e=0→∀ wx,Below w.heap.size w wx→Calls prog 118 #[.int .i64 x] wx (RetR wx [] ([iCel x],0))):=by
  refine ⟨_,_,rfl,hZz (arithR_eq _ _ _),hZz fun h wx hbl=>?_⟩
  have hr:=arithN_ok ha hb h;have hr2:=hr;simp only [inRange,Bool.and_eq_true,decide_eq_true_eq] at hr2
  have:=cint_any (arithN op.toList a b).1 wx (hp.below hbl) (by omega) (by omega)
  rwa [okR_int hr] at this
 have H1:Hid (op.toList=[43]→Calls prog 157 #[.int .i64 a,.int .i64 b] w fun en w'=>en=.returned (.tuple #[.int .i64 x,.int .i64 e])∧Below w.heap.size w w'):=hZz fun h=>by
  have:=nadd_any a b w ha hb
  rw [show numI (a+b)=(x,e) by rw [← hxe];unfold arithN;rw [if_pos h]] at this;exact this
 have H2:Hid (op.toList=[45]→Calls prog 158 #[.int .i64 a,.int .i64 b] w fun en w'=>en=.returned (.tuple #[.int .i64 x,.int .i64 e])∧Below w.heap.size w w'):=hZz fun h=>by
  have:=nsub_any a b w ha hb
  rw [show numI (a - b)=(x,e) by rw [← hxe];unfold arithN;rw [h];rfl] at this;exact this
 have H3:Hid (op.toList=[42]→Calls prog 159 #[.int .i64 a,.int .i64 b] w fun en w'=>en=.returned (.tuple #[.int .i64 x,.int .i64 e])∧Below w.heap.size w w'):=hZz fun h=>by
  have:=nmul_any a b w ha hb
  rw [show numI (a * b)=(x,e) by rw [← hxe];unfold arithN;rw [h];rfl] at this;exact this
 have H4:Hid (op.toList=[47]→Calls prog 160 #[.int .i64 a,.int .i64 b] w fun en w'=>∃ y,en=.returned (.tuple #[.int .i64 x,.int .i64 y,.int .i64 e])∧Below w.heap.size w w'):=hZz fun h=>by
  have h2:((dmI a b).1,(dmI a b).2.2)=(x,e):=by rw [← hxe];unfold arithN;rw [h];rfl
  injection h2 with h2 h3
  exact (ndiv_any a b w ha hb).mono fun en w' ⟨he,hbl⟩=>⟨(dmI a b).2.1,by rw [he,h2,h3],hbl⟩
 have H5:Hid (op.toList≠[43]→op.toList≠[45]→op.toList≠[42]→op.toList≠[47]→Calls prog 160 #[.int .i64 a,.int .i64 b] w fun en w'=>∃ y,en=.returned (.tuple #[.int .i64 y,.int .i64 x,.int .i64 e])∧Below w.heap.size w w'):=hZz fun n1 n2 n3 n4=>by
  have h2:((dmI a b).2.1,(dmI a b).2.2)=(x,e):=by rw [← hxe];unfold arithN;rw [if_neg n1,if_neg n2,if_neg n3,if_neg n4]
  injection h2 with h2 h3
  exact (ndiv_any a b w ha hb).mono fun en w' ⟨he,hbl⟩=>⟨(dmI a b).1,by rw [he,h2,h3],hbl⟩
 clear hP hp ha hb hxe;by_cases he:e=0
 ·subst he
  have HR2:Hid (arithR op.toList a b=([iCel x],0)):=hZz (by rw [HR.out,if_pos rfl]);have HI2:=hZz (HI.out rfl);clear HR HI;by_cases h1:op.toList=[43]
  ·have HC:=hZz (H1.out h1)
   clear H1 H2 H3 H4 H5;have h1':=zbdY h1;go_enter func123,ntmps123
   go_wp2_with (first
    | (go_at_call 157;((with_reducible refine HC.out.mono ?_);rintro e w1 ⟨rfl,hb1⟩;have HB1:=hZz hb1;clear hb1))
    | (go_at_call 118;((with_reducible refine (HI2.out _ HB1.out).mono ?_);rintro e w2 ⟨u,rfl,hu,hf,hb2⟩;have HU:=hZz hu;have HF:=hZz hf;have HB2:=hZz (zafZ hb2 HB1.out);clear hu hf hb2)))
   rw [← HP.out,HR2.out];exact ⟨u,rfl,HU.out,HF.out.up HB1.out.size (Below.refl _ _),HB2.out⟩
  have h1':=za3Y h1;by_cases h2:op.toList=[45]
  ·have HC:=hZz (H2.out h2)
   clear H1 H2 H3 H4 H5;have h2':=zbdY h2;go_enter func123,ntmps123
   go_wp2_with (first
    | (go_at_call 158;((with_reducible refine HC.out.mono ?_);rintro e w1 ⟨rfl,hb1⟩;have HB1:=hZz hb1;clear hb1))
    | (go_at_call 118;((with_reducible refine (HI2.out _ HB1.out).mono ?_);rintro e w2 ⟨u,rfl,hu,hf,hb2⟩;have HU:=hZz hu;have HF:=hZz hf;have HB2:=hZz (zafZ hb2 HB1.out);clear hu hf hb2)))
   rw [← HP.out,HR2.out];exact ⟨u,rfl,HU.out,HF.out.up HB1.out.size (Below.refl _ _),HB2.out⟩
  have h2':=za3Y h2;by_cases h3:op.toList=[42]
  ·have HC:=hZz (H3.out h3)
   clear H1 H2 H3 H4 H5;have h3':=zbdY h3;go_enter func123,ntmps123
   go_wp2_with (first
    | (go_at_call 159;((with_reducible refine HC.out.mono ?_);rintro e w1 ⟨rfl,hb1⟩;have HB1:=hZz hb1;clear hb1))
    | (go_at_call 118;((with_reducible refine (HI2.out _ HB1.out).mono ?_);rintro e w2 ⟨u,rfl,hu,hf,hb2⟩;have HU:=hZz hu;have HF:=hZz hf;have HB2:=hZz (zafZ hb2 HB1.out);clear hu hf hb2)))
   rw [← HP.out,HR2.out];exact ⟨u,rfl,HU.out,HF.out.up HB1.out.size (Below.refl _ _),HB2.out⟩
  have h3':=za3Y h3;by_cases h4:op.toList=[47]
  ·have HC:=hZz (H4.out h4)
   clear H1 H2 H3 H4 H5;have h4':=zbdY h4;go_enter func123,ntmps123
   go_wp2_with (first
    | (go_at_call 160;((with_reducible refine HC.out.mono ?_);rintro e w1 ⟨y,rfl,hb1⟩;have HB1:=hZz hb1;clear hb1))
    | (go_at_call 118;((with_reducible refine (HI2.out _ HB1.out).mono ?_);rintro e w2 ⟨u,rfl,hu,hf,hb2⟩;have HU:=hZz hu;have HF:=hZz hf;have HB2:=hZz (zafZ hb2 HB1.out);clear hu hf hb2)))
   rw [← HP.out,HR2.out];exact ⟨u,rfl,HU.out,HF.out.up HB1.out.size (Below.refl _ _),HB2.out⟩
  ·have HC:=hZz (H5.out h1 h2 h3 h4)
   clear H1 H2 H3 H4 H5;have h4':=za3Y h4;go_enter func123,ntmps123
   go_wp2_with (first
    | (go_at_call 160;((with_reducible refine HC.out.mono ?_);rintro e w1 ⟨y,rfl,hb1⟩;have HB1:=hZz hb1;clear hb1))
    | (go_at_call 118;((with_reducible refine (HI2.out _ HB1.out).mono ?_);rintro e w2 ⟨u,rfl,hu,hf,hb2⟩;have HU:=hZz hu;have HF:=hZz hf;have HB2:=hZz (zafZ hb2 HB1.out);clear hu hf hb2)))
   rw [← HP.out,HR2.out];exact ⟨u,rfl,HU.out,HF.out.up HB1.out.size (Below.refl _ _),HB2.out⟩
 ·have HR2:Hid (arithR op.toList a b=([],e)):=hZz (by rw [HR.out,if_neg he])
  have he':(e != 0)=true:=by simpa using he
  clear HR HI he;by_cases h1:op.toList=[43]
  ·have HC:=hZz (H1.out h1)
   clear H1 H2 H3 H4 H5;have h1':=zbdY h1;go_enter func123,ntmps123
   go_wp2_with (first
    | (go_at_call 157;((with_reducible refine HC.out.mono ?_);rintro e w1 ⟨rfl,hb1⟩;have HB1:=hZz hb1;clear hb1)))
   rw [← HP.out];exact RetR.err HR2.out HB1.out
  have h1':=za3Y h1;by_cases h2:op.toList=[45]
  ·have HC:=hZz (H2.out h2)
   clear H1 H2 H3 H4 H5;have h2':=zbdY h2;go_enter func123,ntmps123
   go_wp2_with (first
    | (go_at_call 158;((with_reducible refine HC.out.mono ?_);rintro e w1 ⟨rfl,hb1⟩;have HB1:=hZz hb1;clear hb1)))
   rw [← HP.out];exact RetR.err HR2.out HB1.out
  have h2':=za3Y h2;by_cases h3:op.toList=[42]
  ·have HC:=hZz (H3.out h3)
   clear H1 H2 H3 H4 H5;have h3':=zbdY h3;go_enter func123,ntmps123
   go_wp2_with (first
    | (go_at_call 159;((with_reducible refine HC.out.mono ?_);rintro e w1 ⟨rfl,hb1⟩;have HB1:=hZz hb1;clear hb1)))
   rw [← HP.out];exact RetR.err HR2.out HB1.out
  have h3':=za3Y h3;by_cases h4:op.toList=[47]
  ·have HC:=hZz (H4.out h4)
   clear H1 H2 H3 H4 H5;have h4':=zbdY h4;go_enter func123,ntmps123
   go_wp2_with (first
    | (go_at_call 160;((with_reducible refine HC.out.mono ?_);rintro e w1 ⟨y,rfl,hb1⟩;have HB1:=hZz hb1;clear hb1)))
   rw [← HP.out];exact RetR.err HR2.out HB1.out
  ·have HC:=hZz (H5.out h1 h2 h3 h4)
   clear H1 H2 H3 H4 H5;have h4':=za3Y h4;go_enter func123,ntmps123
   go_wp2_with (first
    | (go_at_call 160;((with_reducible refine HC.out.mono ?_);rintro e w1 ⟨y,rfl,hb1⟩;have HB1:=hZz hb1;clear hb1)))
   rw [← HP.out];exact RetR.err HR2.out HB1.out
theorem FromC.own {w w1 w2:World} {S:List Value} {v u:Value} {l:ValD} (h:FromC w1 w2 (v :: S) u) (ho:OVal w1 w.heap.size v l) (hb:Below w1.heap.size w1 w2) (h1:w.heap.size≤w1.heap.size):FromC w w2 S u:=fun b off n cap e=>by
 rcases h b off n cap e with ⟨x,hx,off',n',cap',rfl⟩ | ⟨h3,r⟩
 ·rcases List.mem_cons.1 hx with hx | hx
  ·rcases ho.2 with ⟨ev,_⟩ | ⟨g,c,cur,ev,hbg,hblk,_⟩
   ·rw [ev] at hx;cases hx
   ·rw [ev] at hx
    injection hx with hx _ _
    injection hx with hx
    injection hx with hx
    subst hx;exact .inr ⟨hbg,_,_,(hb.block _ (lt_of_block hblk)).trans hblk⟩
  ·exact .inl ⟨_,hx,off',n',cap',rfl⟩
 ·exact .inr ⟨by omega,r⟩
theorem RetR.own {w w1 w2:World} {v:Value} {l:ValD} {r:ResD} {e:Ending} (h:RetR w1 [v] r e w2) (ho:OVal w1 w.heap.size v l) (hb:Below w.heap.size w w1):RetR w [] r e w2:=by
 obtain ⟨u,he,hu,hf,hb2⟩:=h;exact ⟨u,he,hu,hf.own ho hb2 hb.size,zafZ hb2 hb⟩
theorem len200 {x:ValD} (h:checkF x=0):x.length≤200:=by
 obtain ⟨_,_,_,_,_,h,_⟩:=checkF_zero.1 h;exact h
theorem OVal.more {w:World} {base:Nat} {v:Value} {a b:ValD} {n:Nat} {xs:List Value} (h:w.ownsRow base 103 4 v n xs) (hn:n=a.length+b.length) (hx:xs=a.flatMap CellD.cells ++ b.flatMap CellD.cells):OVal w base v (a ++ b):=by
 unfold OVal;rw [List.length_append,List.flatMap_append,← hn,← hx];exact h
theorem at_cells {w:World} {A:Option Addr} {x:ValD} (h:SlAt w A 4 CellD.cells x) (hne:x≠[]):∃ b off,A=some ⟨b,off,none⟩∧∀ w',Below w.heap.size w w'→∀ j u,(x.flatMap CellD.cells)[j]? = some u→w'.cell? ((⟨b,off,none⟩:Addr).add j)=some u:=by
 have hlt:0<x.length:=List.length_pos_iff.2 hne;obtain ⟨b,off,rfl,_⟩:=h.ptr hlt;refine ⟨b,off,rfl,fun w' hb j u hj=>?_⟩
 obtain ⟨n,k,hn,rfl,hk⟩:=cells_at x j u hj;rw [zayY,← Nat.add_assoc];exact (h.below hb).cell hn hk
def listM (N:Int) (l:List ValD):ValD:=⟨5,0,⟨#[]⟩,N⟩ :: l.flatten
theorem listM_all (l:List ValD):listM (l.length:Nat) l=listV l:=rfl
theorem listM_snoc {N:Int} {l:List ValD} {k:Nat} (h:k<l.length):listM N (l.take (k+1))=listM N (l.take k) ++ l[k]:=by
 unfold listM;rw [List.take_succ_eq_append_getElem h,List.flatten_append];simp
theorem take_flat (l:List ValD) (k:Nat):(l.take k).flatten.length≤l.flatten.length:=by
 have h:=congrArg List.flatten (List.take_append_drop k l);rw [List.flatten_append] at h
 have:=congrArg List.length h
 rw [List.length_append] at this;omega
theorem listM_ok {N:Int} {l:List ValD} (hN:0≤N∧N≤10000) (h:∀ p∈l,checkF p=0) (h2:∀ p∈l,OkV p) (hl:l.flatten.length≤9000):OkV (listM N l):=by
 refine ⟨by unfold listM;rw [List.length_cons];omega,fun c hc=>?_⟩
 unfold listM at hc;rcases List.mem_cons.1 hc with rfl | hc
 ·exact ⟨by show (0:Nat)≤_;omega,by show (_:Int)≤0∧(0:Int)≤_;omega,by show N≤_;omega⟩
 ·obtain ⟨p,hp,hc⟩:=List.mem_flatten.1 hc
  exact (h2 p hp).2 c hc
theorem vlist_any (l:List ValD) (lv:Value) (w:World) (hl:ValsV w lv l) (hp:Pow w) (ho:∀ x∈l,OkV x) (hn:l.length≤4000) (hfl:l.flatten.length≤9000) :
  Calls prog 163 #[lv] w (RetR w [] (listR l)):=by
 obtain ⟨P,hP⟩:∃ P:Ending→World→Prop,RetR w [] (listR l)=P:=⟨_,rfl⟩
 rw [hP];have HP:=hZz hP;obtain ⟨i0,hi,hz0,hz1,hz2⟩:=info_parts Tryz.infoCell;obtain ⟨A,cap,vs,rfl,hc,hm,hs,hla,hva⟩:=hl.at;have HS:=hZz hs;have HV:=hZz hva;have HLA:=hZz hla;have HW:=hZz hp;have HO:=hZz ho;have HL:Hid (l.length≤4000):=hZz hn;have HFLT:=hZz hfl;clear hfl;clear hP hs hva hla hp ho hl hc hm;have hB0:Below w.heap.size w (w.alloc (.cells #[.int .i64 5,.int .i64 0,.string ⟨#[]⟩,.int .i64 l.length] 103)):=zabZ _ _;have HB0:=hZz hB0;have HO0:Hid (OVal (w.alloc (.cells #[.int .i64 5,.int .i64 0,.string ⟨#[]⟩,.int .i64 l.length] 103)) w.heap.size (.slice (some ⟨w.heap.size,0,none⟩) 1 1) (listM (l.length:Nat) (l.take 0))):=hZz (oval_blkE (l:=listM (l.length:Nat) (l.take 0)) (Blk.new w _ _) (Nat.le_refl _) rfl (by simp [listM]));have hnn:(l.length:Int)≤4000:=by omega
 obtain ⟨N,hN⟩:∃ N,l.length=N:=⟨_,rfl⟩
 rw [hN] at hnn HO0 HB0 ⊢;have HN:=hZz hN;clear hB0 hN hn;go_enter func163,ntmps163
 go_wp2_with (fail)
 go_loopw [4,6,7,14] (fun o _ _ i wr=>∃ k:Nat,k≤N∧i=.int .i64 k∧Hid (∀ x∈l.take k,checkF x=0)∧OVal wr w.heap.size o (listM (N:Nat) (l.take k))∧Below w.heap.size w wr) (fun _ _ _ i _=>N - (intOf i).toNat)
 case atStart=>exact ⟨0,Nat.zero_le _,rfl,hZz (by simp),HO0.out,HB0.out⟩
 case round =>
  obtain ⟨k,hk,rfl,HR,hown,hbel⟩:=hrel;have HB:=hZz hbel;have HOW:=hZz hown;obtain ⟨oA,oc,hov⟩:=zahZ hown;subst hov;clear hbel hown;have hk0:(0:Int)≤(k:Int):=by omega
  by_cases hlt:k<N
  ·have hlt':(k:Int)<(N:Int):=by omega
   have hlk:k<l.length:=by rw [HN.out];exact hlt
   have hna:k<vs.length:=by rw [HLA.out];exact hlk
   have hsa:=HS.out.below HB.out;obtain ⟨x,hx⟩:∃ x,vs[k]=x:=⟨_,rfl⟩
   have hvx:ValV w x l[k]:=(hx ▸ HV.out k hna hlk:ValV w x l[k])
   obtain ⟨A1,k1,rfl,hc1,hm1,hs1⟩:=hvx.at;obtain ⟨bA,off,rfl,_⟩:=hsa.ptr hna;have c0:=hsa.cell0 hna (v:=.slice A1 l[k].length k1) (by rw [hx];rfl);simp only [Nat.mul_one] at c0;have hok:OkV l[k]:=HO.out _ (List.getElem_mem hlk);have HC:=hZz (za7Y l[k] A1 k1 wr (hs1.below HB.out) (HW.out.below HB.out) hok.1 hc1 hok.2);have HX:=hZz hs1;obtain ⟨ck,hck⟩:∃ c,checkF l[k]=c:=⟨_,rfl⟩
   rw [hck] at HC;have HCK:=hZz hck;obtain ⟨q,hq⟩:∃ q,l[k].length=q:=⟨_,rfl⟩
   rw [hq] at HC c0;have HQ:=hZz hq;clear hsa hx hvx hs1 hc1 hm1 hok hck hq;by_cases h0:ck=0
   ·subst h0
    obtain ⟨bX,offX,rfl,hat⟩:=at_cells HX.out (zdgY HCK.out);have HAT:=hZz hat;have hq200:q≤200:=by rw [← HQ.out];exact len200 HCK.out
    have hqn:l[k].length=q:=HQ.out
    have hml:(listM (N:Nat) (l.take k)).length≤9001:=by
     have:=take_flat l k
     have:=HFLT.out
     unfold listM;rw [List.length_cons];omega
    have hsn:listM (N:Nat) (l.take (k+1))=listM (N:Nat) (l.take k) ++ l[k]:=listM_snoc hlk;have HSN:=hZz hsn;have HML:=hZz hml;obtain ⟨M,hM⟩:∃ M,listM (N:Nat) (l.take k)=M:=⟨_,rfl⟩
    rw [hM] at HOW HSN HML ⊢
    have hbq:(M.length+q) * 40≤140737488355328:=by
     have:=HML.out
     omega
    have hbm:M.length+q≤maxLen:=by
     have:=HML.out
     unfold maxLen;omega
    have hn6:M.length≤10000:=by
     have:=HML.out
     omega
    clear hat hM hsn hml
    go_wp2_with (first
     | (go_at_call 152;(with_reducible refine HC.out.mono ?_);rintro e w1 ⟨rfl,hb1⟩;have HB1:=hZz hb1;have HO1:Hid (w1.ownsRow w.heap.size 103 4 (.slice oA M.length oc) M.length (M.flatMap CellD.cells)):=hZz (HOW.out.below hb1);have hsz1:w.heap.size≤w1.heap.size:=Nat.le_trans HB.out.size hb1.size;clear hb1)
     | (at_builtin;refine wpList_append_own _ rfl (.tmp 23) (.tmp 24) 96 rfl w.heap.size 103 i0 _ 4 40 underlying96 hi hz0 hz1 hz2 rfl (by omega) _ M.length (M.flatMap CellD.cells) rfl HO1.out ⟨bX,offX,none⟩ q k1 (l[k].flatMap CellD.cells) rfl ?k2 ?k3 (cells_one _) hbm hbq ?k4 ?_;(case k2=>rw [zceY,hqn]);(case k3=>exact HAT.out w1 (zaaZ HB1.out HB.out HB.out.size));(case k4=>exact hsz1);intro v3 w3 hown3 hg3 _;have HO3:=hZz (OVal.more (a:=M) (b:=l[k]) hown3 (by simp [hqn]) rfl);have HB3:=hZz ((zaaZ HB1.out HB.out HB.out.size).grown hg3 hsz1 (fun g hg=>(HO1.out.lt g hg).1));clear hown3 hg3))
    exact ⟨⟨k+1,by omega,by simp,hZz (by
     rw [List.take_succ_eq_append_getElem hlk];intro x hx;rcases List.mem_append.1 hx with hx | hx
     ·exact HR.out x hx
     ·have:x=l[k]:=by simpa using hx
      rw [this];exact HCK.out),by rw [HSN.out];exact HO3.out,HB3.out⟩,by simp [intOf];omega⟩
   ·have h1:(ck != 0)=true:=by simpa using h0
    clear h0
    go_wp2_with (first
     | (go_at_call 152;(with_reducible refine HC.out.mono ?_);rintro e w1 ⟨rfl,hb1⟩;have HB1:=hZz (zaaZ hb1 HB.out HB.out.size);clear hb1))
    rw [← HP.out]
    have hfb:listR l=([],ck):=by
     have e1:=zbvY l k hlk HR.out (by rw [HCK.out];simpa using h1);unfold listR;rw [e1,HCK.out,if_pos (by simpa using h1)]
    exact ⟨.slice none 0 0,by rw [hfb];rfl,by rw [hfb];exact RowsV.nil none 0,FromC.none,HB1.out⟩
  ·have e:k=N:=by omega
   have HKN:=hZz e;subst e;have hz:l.take k=l:=by rw [← HN.out,List.take_length]
   have hps:∀ p∈l,checkF p=0:=by
    have:=HR.out
    rwa [hz] at this
   have hfb:listR l=okR (listM (k:Nat) (l.take k)):=by
    have e1:=zbiY l hps;unfold listR;rw [if_neg (by rw [e1];simp),← listM_all,HN.out,hz]
   have hok:OkV (listM (k:Nat) (l.take k)):=by
    rw [hz];exact listM_ok (by omega) hps HO.out HFLT.out
   have hval:=HOW.out.val (by have:=hok.1;omega);have HC:=hZz (zcxY _ _ wr hval (HW.out.below HB.out) hok);have HFB:=hZz hfb;clear hz hps hfb hok hval;obtain ⟨M,hM⟩:∃ M,listM (k:Nat) (l.take k)=M:=⟨_,rfl⟩
   rw [hM] at HOW HFB HC ⊢;clear hM
   go_wp2_with (first
    | (go_at_call 153;(with_reducible refine HC.out.mono ?_);rintro e w1 ⟨u,rfl,hu⟩;have HU:=hZz hu;clear hu))
   rw [← HP.out,HFB.out];exact RetR.own ⟨u,rfl,HU.out⟩ HOW.out HB.out
theorem ChainV.head {v:ValD} {m:Bool} {D:Nat} {B:Int} {a b:Nat} {l:List (ByteArray × ValD)} {p:ByteArray × ValD} (h:ChainV v m D B a (p :: l) b):∃ r,(if m=true then ∃ c,v[a]? = some c∧c.kind=4∧plainB c=true∧p.1=c.str else p.1=⟨#[]⟩)∧px v (a+m.toNat)=some r∧p.2=sec v (a+m.toNat) r.j∧ChainV v m D B r.j l b:=by
 cases h with
 | cons hp hc =>
  obtain ⟨r,h1,h2,h3,h4,_,_⟩:=hp;subst h4;exact ⟨r,h1,h2,h3,hc⟩
theorem ChainV.len {v:ValD} {m:Bool} {D:Nat} {B:Int} {a b:Nat} {l:List (ByteArray × ValD)} (h:ChainV v m D B a l b):a+l.length≤b:=by
 induction h with
 | nil a=>simp
 | cons hp _ ih =>
  obtain ⟨r,_,hr,_,ha,_,_⟩:=hp
  have:=(px_adv hr).1
  simp only [List.length_cons];omega
theorem drop_sec (v:ValD) (a:Nat):sec v a v.length=v.drop a:=by
 unfold sec;rw [List.take_of_length_le (by simp)]
theorem px_drop {v:ValD} {a:Nat} {r:Sh} (h:px v a=some r):px (v.drop a) 0=some ⟨r.j - a,r.d,r.b⟩:=by
 rw [← drop_sec];exact px_sec h (px_adv h).2 (Nat.le_refl _)
theorem SlAt.sub {w:World} {b off:Nat} {v:ValD} (h:SlAt w (some ⟨b,off,none⟩) 4 CellD.cells v) (a m:Nat):SlAt w (some ⟨b,off+a * 4,none⟩) 4 CellD.cells ((v.drop a).take m):=by
 intro i row hi;rw [List.getElem?_map,List.getElem?_take] at hi;split at hi
 ·rw [List.getElem?_drop] at hi
  obtain ⟨b',off',e,hlt,hc⟩:=h (a+i) row (by rw [List.getElem?_map];exact hi);simp only [Option.some.injEq,Addr.mk.injEq,and_true] at e;obtain ⟨rfl,rfl⟩:=e;refine ⟨b,off+a * 4,rfl,hlt,fun j u hu=>?_⟩
  have:=hc j u hu
  rw [show off+a * 4+i * 4+j=off+(a+i) * 4+j by omega];exact this
 ·cases hi
theorem valV_slAt {w:World} {A:Option Addr} {cap:Nat} {l:ValD} (h:SlAt w A 4 CellD.cells l) (hc:l.length≤cap) (hm:l.length≤3518437208780):ValV w (.slice A l.length cap) l :=
 ⟨A,cap,l.map CellD.cells,rfl,hc,hm,by unfold SlAt at h ⊢;rw [List.map_map];exact h,by simp,fun i hi hi'=>by simp [cellR]⟩
theorem parts5_any (c:CellD) (r:ValD) (v:Value) (fid:FuncId) (caps:Array Value) (w0 w:World) (h:ValV w0 v (c :: r)) (hw:Below w0.heap.size w0 w) (hp:Pow w0) (ho:OkV (c :: r)) (hck:checkF (c :: r)=0) (hk:c.kind=5) (I:Nat→World→Prop) (J:World→Prop)
  (hent:∀ args w,(callFunc fid args).run prog w=.ok (.enter fid args) w) (h0:I 0 w) (hIB:∀ k wx,I k wx→Below w0.heap.size w0 wx) (hst:∀ k wx wy,I k wx→Below wx.heap.size wx wy→I k wy)
  (hy:∀ k wx x (hk:k<(partsOf (c :: r)).length),I k wx→ValV w0 x (partsOf (c :: r))[k].2→Calls prog fid (#[.string (partsOf (c :: r))[k].1,x] ++ caps) wx fun e w'=>∃ b,e=.returned (.bool b)∧(b=true→I (k+1) w')∧(b=false→J w'))
  (hJ:∀ wx,I (partsOf (c :: r)).length wx→J wx) :
  Calls prog 190 #[v,.func (.func fid) #[] caps] w fun e w'=>e=.returned (.tuple #[])∧J w':=by
 obtain ⟨b,off,n,cap,rfl,hn,c0,c1,c2,c3⟩:=zapY h;have hs:=fun x hx=>zbaY (ho.2 x hx)
 obtain ⟨hpl,hnn,hch,_⟩:=zbmY hck hs (c:=c) rfl (.inl hk);rw [show decide (c.kind=6)=false by simp [hk]] at hch;have hpos:(0:Int)<(n:Int):=by omega
 have HV:=hZz h;have HCH:=hZz hch;obtain ⟨A,cap',e,hc',hm',hsl⟩:=h.at;injection e with e1 e2 e3
 subst e1 e2 e3;have HSL:=hZz hsl;have HOK:=hZz ho;have HP:=hZz hp;have HL:Hid ((c :: r).length≤200):=hZz (len200 hck);have HY:=hZz hy;have HST:=hZz hst;have HIB:=hZz hIB;have HJ:=hZz hJ;have HI0:=hZz h0;obtain ⟨ps,hps⟩:∃ ps,partsOf (c :: r)=ps:=⟨_,rfl⟩
 rw [hps] at HY HJ HCH hpl;obtain ⟨l,hl⟩:∃ l,c :: r=l:=⟨_,rfl⟩
 rw [hl] at HV HCH HSL HOK HL hc' hm' hpos ⊢;obtain ⟨N,hN⟩:∃ N,l.length=N:=⟨_,rfl⟩
 have HN:=hZz hN;rw [hN] at hc' hm' hpos ⊢;obtain ⟨k,i,s,nn⟩:=c;dsimp only at c0 c3 hk hpl hnn;have HC0:Hid (w0.cell? ⟨b,off,none⟩=some (.int .i64 5)):=hZz (by rw [c0,hk]);have HC3:Hid (w0.cell? ⟨b,off+3,none⟩=some (.int .i64 (ps.length:Nat))):=hZz (by rw [c3,hpl];congr 2;omega)
 have HPS:Hid (ps.length≤200):=hZz (by
  have h1:=HL.out;have h2:=HCH.out.len;omega)
 clear h hp ho hck c0 c1 c2 c3 hsl hst hIB hJ h0 hy hps hl hN hn hs hch hk hpl hnn;go_enter func190,ntmps190
 have w1:=(hw.cell (p:=⟨b,off+3,none⟩) (bLZ HC3.out)).trans HC3.out;go_wp2_with (fail)
 go_loopw [4,5,6,7,8,13] (fun at' _ _ _ _ j wr=>∃ k a:Nat,k≤ps.length∧j=.int .i64 k∧at'=.int .i64 a∧ChainV l false 7 4000 a (ps.drop k) N∧I k wr) (fun _ _ _ _ _ j _=>ps.length - (intOf j).toNat)
 case atStart=>exact ⟨0,1,Nat.zero_le _,rfl,rfl,by rw [← HN.out];exact HCH.out,HI0.out⟩
 case round =>
  obtain ⟨k,a,hk,rfl,rfl,hch,hi⟩:=hrel;have HCK:=hZz hch;have HI:=hZz hi;have HB:=hZz (HIB.out _ _ hi);have g0:=(HB.out.cell (p:=⟨b,off,none⟩) (bLZ HC0.out)).trans HC0.out;clear hch hi;have hk0:(0:Int)≤(k:Int):=by omega
  have hk1:(k:Int)≤200:=by have:=HPS.out;omega
  by_cases hlt:k<ps.length
  ·have hlt':(k:Int)<(ps.length:Int):=by omega
   have hch:=HCK.out;rw [List.drop_eq_getElem_cons hlt] at hch;obtain ⟨rr,hkey,hpx,hsec,hrest⟩:=hch.head;have hadv:=px_adv hpx;have hrest2:=hrest.le;simp only [Bool.toNat_false,Nat.add_zero] at hpx hadv hsec;obtain ⟨q,hq⟩:∃ q,rr.j=a+q:=⟨rr.j - a,by omega⟩
   have haN:a+q≤N:=by rw [← hq];exact hrest2
   have hq1:0<q:=by omega
   have ha0:(0:Int)≤(a:Int):=by omega
   have ha1:(a:Int)≤(N:Int):=by omega
   have ha2:¬ cap=a:=by omega
   have ha3:(a:Int)+(q:Int)≤(cap:Int):=by omega
   have ha4:(a:Int)≤(a:Int)+(q:Int):=by omega
   have hda:(l.drop a).length=N - a:=by rw [List.length_drop,HN.out]
   have HLK:Hid (Calls prog 186 #[.slice (some ⟨b,off+a * 4,none⟩) (N - a) (cap - a)] wr fun e w'=>∃ x1 x2 x3 x4,e=.returned (.tuple #[.int .i64 q,.agg #[.int .i64 x1,.int .i64 x2,.bool x3,.bool x4],.bool true])∧Below wr.heap.size wr w'):=hZz (by
    have hsl:SlAt wr (some ⟨b,off+a * 4,none⟩) 4 CellD.cells (l.drop a):=by
     have:=(HSL.out.below HB.out).sub a (N - a)
     rwa [List.take_of_length_le (by rw [hda];exact Nat.le_refl _)] at this
    have hlk:=look_any (l.drop a) (some ⟨b,off+a * 4,none⟩) (cap - a) wr hsl (HP.out.below HB.out) (by rw [hda];have:=HL.out;rw [HN.out] at this;omega) (by rw [hda];omega) (fun x hx=>HOK.out.2 x (List.mem_of_mem_drop hx));rw [hda,px_drop hpx] at hlk;refine hlk.mono fun e w' hpost=>?_
    obtain ⟨hb,he⟩:=hpost;dsimp only at he;rw [show rr.j - a=q by omega] at he;exact ⟨_,_,_,_,he,hb⟩)
   have HYK:Hid (∀ wx,I k wx→Calls prog fid (#[.string ⟨#[]⟩,.slice (some ⟨b,off+a * 4,none⟩) q q] ++ caps) wx fun e w'=>∃ b,e=.returned (.bool b)∧(b=true→I (k+1) w')∧(b=false→J w')):=hZz (fun wx hix=>by
    have hkey':ps[k].1=⟨#[]⟩:=by simpa using hkey
    have hsl:SlAt w0 (some ⟨b,off+a * 4,none⟩) 4 CellD.cells ((l.drop a).take q):=HSL.out.sub a q;have hx2:ps[k].2=(l.drop a).take q:=by rw [hsec];unfold sec;rw [hq];congr 1;omega
    have hln:((l.drop a).take q).length=q:=by rw [List.length_take,hda];omega
    have hv:=valV_slAt hsl (cap:=q) (by rw [hln];exact Nat.le_refl _) (by rw [hln];omega);rw [hln,← hx2] at hv
    have:=HY.out k wx _ hlt hix hv
    rwa [hkey'] at this)
   have HNX:Hid (ChainV l false 7 4000 (a+q) (ps.drop (k+1)) N):=hZz (by rw [← hq];exact hrest);clear hadv hrest2 hda hpx hch hkey hsec hrest hq;have haq:(a:Int)+(q:Int)≤1000000000000000:=by omega
   go_wp2_with (first
    | (go_at_call 186;((with_reducible refine HLK.out.mono ?_);rintro e w2 ⟨x1,x2,x3,x4,rfl,hb2⟩;have HI2:=hZz (HST.out _ _ _ HI.out hb2);clear hb2))
    | (go_at_fn fid;((refine Calls.mono (HYK.out _ (HST.out _ _ _ HI2.out (zabZ _ _))) ?_);rintro e w4 ⟨bb,rfl,hbt,hbf⟩;have HT:=hZz hbt;have HF:=hZz hbf;clear hbt hbf;cases bb)))
   ·go_returns
    exact ⟨rfl,HF.out (by trivial)⟩
   ·exact ⟨⟨k+1,a+q,by omega,by simp,by simp,HNX.out,HT.out (by trivial)⟩,by simp [intOf];omega⟩
  ·have e:k=ps.length:=by omega
   subst e;go_wp2_with (fail)
   go_returns;exact ⟨rfl,HJ.out _ HI.out⟩
theorem parts6_any (c:CellD) (r:ValD) (v:Value) (fid:FuncId) (caps:Array Value) (w0 w:World) (h:ValV w0 v (c :: r)) (hw:Below w0.heap.size w0 w) (hp:Pow w0) (ho:OkV (c :: r)) (hck:checkF (c :: r)=0) (hk:c.kind=6) (I:Nat→World→Prop) (J:World→Prop)
  (hent:∀ args w,(callFunc fid args).run prog w=.ok (.enter fid args) w) (h0:I 0 w) (hIB:∀ k wx,I k wx→Below w0.heap.size w0 wx) (hst:∀ k wx wy,I k wx→Below wx.heap.size wx wy→I k wy)
  (hy:∀ k wx x (hk:k<(partsOf (c :: r)).length),I k wx→ValV w0 x (partsOf (c :: r))[k].2→Calls prog fid (#[.string (partsOf (c :: r))[k].1,x] ++ caps) wx fun e w'=>∃ b,e=.returned (.bool b)∧(b=true→I (k+1) w')∧(b=false→J w'))
  (hJ:∀ wx,I (partsOf (c :: r)).length wx→J wx) :
  Calls prog 190 #[v,.func (.func fid) #[] caps] w fun e w'=>e=.returned (.tuple #[])∧J w':=by
 obtain ⟨b,off,n,cap,rfl,hn,c0,c1,c2,c3⟩:=zapY h;have hs:=fun x hx=>zbaY (ho.2 x hx)
 obtain ⟨hpl,hnn,hch,_⟩:=zbmY hck hs (c:=c) rfl (.inr hk);rw [show decide (c.kind=6)=true by simp [hk]] at hch;have hpos:(0:Int)<(n:Int):=by omega
 have HV:=hZz h;have HCH:=hZz hch;obtain ⟨A,cap',e,hc',hm',hsl⟩:=h.at;injection e with e1 e2 e3
 subst e1 e2 e3;have HSL:=hZz hsl;have HOK:=hZz ho;have HP:=hZz hp;have HL:Hid ((c :: r).length≤200):=hZz (len200 hck);have HY:=hZz hy;have HST:=hZz hst;have HIB:=hZz hIB;have HJ:=hZz hJ;have HI0:=hZz h0;obtain ⟨ps,hps⟩:∃ ps,partsOf (c :: r)=ps:=⟨_,rfl⟩
 rw [hps] at HY HJ HCH hpl;obtain ⟨l,hl⟩:∃ l,c :: r=l:=⟨_,rfl⟩
 rw [hl] at HV HCH HSL HOK HL hc' hm' hpos ⊢;obtain ⟨N,hN⟩:∃ N,l.length=N:=⟨_,rfl⟩
 have HN:=hZz hN;rw [hN] at hc' hm' hpos ⊢;obtain ⟨k,i,s,nn⟩:=c;dsimp only at c0 c3 hk hpl hnn;have HC0:Hid (w0.cell? ⟨b,off,none⟩=some (.int .i64 6)):=hZz (by rw [c0,hk]);have HC3:Hid (w0.cell? ⟨b,off+3,none⟩=some (.int .i64 (ps.length:Nat))):=hZz (by rw [c3,hpl];congr 2;omega)
 have HPS:Hid (ps.length≤200):=hZz (by
  have h1:=HL.out;have h2:=HCH.out.len;omega)
 clear h hp ho hck c0 c1 c2 c3 hsl hst hIB hJ h0 hy hps hl hN hn hs hch hk hpl hnn;go_enter func190,ntmps190
 have w1:=(hw.cell (p:=⟨b,off+3,none⟩) (bLZ HC3.out)).trans HC3.out;go_wp2_with (fail)
 go_loopw [4,5,6,7,8,13] (fun at' _ _ _ _ j wr=>∃ k a:Nat,k≤ps.length∧j=.int .i64 k∧at'=.int .i64 a∧ChainV l true 7 4000 a (ps.drop k) N∧I k wr) (fun _ _ _ _ _ j _=>ps.length - (intOf j).toNat)
 case atStart=>exact ⟨0,1,Nat.zero_le _,rfl,rfl,by rw [← HN.out];exact HCH.out,HI0.out⟩
 case round =>
  obtain ⟨k,a,hk,rfl,rfl,hch,hi⟩:=hrel;have HCK:=hZz hch;have HI:=hZz hi;have HB:=hZz (HIB.out _ _ hi);have g0:=(HB.out.cell (p:=⟨b,off,none⟩) (bLZ HC0.out)).trans HC0.out;clear hch hi;have hk0:(0:Int)≤(k:Int):=by omega
  have hk1:(k:Int)≤200:=by have:=HPS.out;omega
  by_cases hlt:k<ps.length
  ·have hlt':(k:Int)<(ps.length:Int):=by omega
   have hch:=HCK.out;rw [List.drop_eq_getElem_cons hlt] at hch;obtain ⟨rr,hkey,hpx,hsec,hrest⟩:=hch.head;have hadv:=px_adv hpx;have hrest2:=hrest.le;simp only [Bool.toNat_true] at hpx hadv hsec;rw [if_pos rfl] at hkey;obtain ⟨kc,hkc,_,_,hks⟩:=hkey;obtain ⟨ks,hks2⟩:∃ s,kc.str=s:=⟨_,rfl⟩
   rw [hks2] at hks;obtain ⟨a1,ha1e⟩:∃ x,a+1=x:=⟨_,rfl⟩
   rw [ha1e] at hpx hadv hsec;obtain ⟨q,hq⟩:∃ q,rr.j=a1+q:=⟨rr.j - a1,by omega⟩
   have haN:a1+q≤N:=by rw [← hq];exact hrest2
   have hq1:0<q:=by omega
   have ha0:(0:Int)≤(a:Int):=by omega
   have hai:(a:Int)<(N:Int):=by omega
   have hae:(a:Int)+1=(a1:Int):=by omega
   have hb0:(0:Int)≤(a1:Int):=by omega
   have d2:wr.cell? ⟨b,off+a * 4+2,none⟩=some (.string ks):=by
    have hal:a<l.length:=(List.getElem?_eq_some_iff.1 hkc).1;have e0:l[a]=kc:=by have:=hkc;rw [List.getElem?_eq_getElem hal] at this;exact Option.some.inj this
    have:=(HSL.out.below HB.out).cell hal (j:=2) (v:=.string ks) (by rw [e0,← hks2];rfl)
    exact this
   have hb1:(a1:Int)≤(N:Int):=by omega
   have hb2':¬ cap=a1:=by omega
   have hb3:(a1:Int)+(q:Int)≤(cap:Int):=by omega
   have hb4:(a1:Int)≤(a1:Int)+(q:Int):=by omega
   have hda:(l.drop a1).length=N - a1:=by rw [List.length_drop,HN.out]
   have HLK:Hid (Calls prog 186 #[.slice (some ⟨b,off+a1 * 4,none⟩) (N - a1) (cap - a1)] wr fun e w'=>∃ x1 x2 x3 x4,e=.returned (.tuple #[.int .i64 q,.agg #[.int .i64 x1,.int .i64 x2,.bool x3,.bool x4],.bool true])∧Below wr.heap.size wr w'):=hZz (by
    have hsl:SlAt wr (some ⟨b,off+a1 * 4,none⟩) 4 CellD.cells (l.drop a1):=by
     have:=(HSL.out.below HB.out).sub a1 (N - a1)
     rwa [List.take_of_length_le (by rw [hda];exact Nat.le_refl _)] at this
    have hlk:=look_any (l.drop a1) (some ⟨b,off+a1 * 4,none⟩) (cap - a1) wr hsl (HP.out.below HB.out) (by rw [hda];have:=HL.out;rw [HN.out] at this;omega) (by rw [hda];omega) (fun x hx=>HOK.out.2 x (List.mem_of_mem_drop hx));rw [hda,px_drop hpx] at hlk;refine hlk.mono fun e w' hpost=>?_
    obtain ⟨hb,he⟩:=hpost;dsimp only at he;rw [show rr.j - a1=q by omega] at he;exact ⟨_,_,_,_,he,hb⟩)
   have HYK:Hid (∀ wx,I k wx→Calls prog fid (#[.string ks,.slice (some ⟨b,off+a1 * 4,none⟩) q q] ++ caps) wx fun e w'=>∃ b,e=.returned (.bool b)∧(b=true→I (k+1) w')∧(b=false→J w')):=hZz (fun wx hix=>by
    have hsl:SlAt w0 (some ⟨b,off+a1 * 4,none⟩) 4 CellD.cells ((l.drop a1).take q):=HSL.out.sub a1 q;have hx2:ps[k].2=(l.drop a1).take q:=by rw [hsec];unfold sec;rw [hq];congr 1;omega
    have hln:((l.drop a1).take q).length=q:=by rw [List.length_take,hda];omega
    have hv:=valV_slAt hsl (cap:=q) (by rw [hln];exact Nat.le_refl _) (by rw [hln];omega);rw [hln,← hx2] at hv
    have:=HY.out k wx _ hlt hix hv
    rwa [hks] at this)
   have HNX:Hid (ChainV l true 7 4000 (a1+q) (ps.drop (k+1)) N):=hZz (by rw [← hq];exact hrest);clear hadv hrest2 hda hpx hch hsec hrest hq hkc hks hks2 ha1e;have haq:(a1:Int)+(q:Int)≤1000000000000000:=by omega
   go_wp2_with (first
    | (go_at_call 186;((with_reducible refine HLK.out.mono ?_);rintro e w2 ⟨x1,x2,x3,x4,rfl,hb2⟩;have HI2:=hZz (HST.out _ _ _ HI.out hb2);clear hb2))
    | (go_at_fn fid;((refine Calls.mono (HYK.out _ (HST.out _ _ _ HI2.out (zabZ _ _))) ?_);rintro e w4 ⟨bb,rfl,hbt,hbf⟩;have HT:=hZz hbt;have HF:=hZz hbf;clear hbt hbf;cases bb)))
   ·go_returns
    exact ⟨rfl,HF.out (by trivial)⟩
   ·exact ⟨⟨k+1,a1+q,by omega,by simp,by simp,HNX.out,HT.out (by trivial)⟩,by simp [intOf];omega⟩
  ·have e:k=ps.length:=by omega
   subst e;go_wp2_with (fail)
   go_returns;exact ⟨rfl,HJ.out _ HI.out⟩
end Go.Proofs.YthiimbhjpdphpaaGreatDoor
