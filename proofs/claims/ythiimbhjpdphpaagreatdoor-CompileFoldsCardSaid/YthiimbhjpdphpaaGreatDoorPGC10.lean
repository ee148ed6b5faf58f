/- GC4, GC10 -/
import Derived.Test.YthiimbhjpdphpaaGreatDoorPGN0
import Derived.ArgAppend
import Derived.BigQuiet
import Derived.Deep.DeepCutAuto
import Derived.Deep.LoopGhost
import Derived.Deep.QuietTactic
import Derived.Deep.RegionHeld3
import Derived.Laws.CopyOwn
import Derived.Laws.Rows
import Derived.Test.YthiimbhjpdphpaaGreatDoorProg
import Derived.Lib.LazyBuf
set_option linter.unusedVariables false
set_option linter.unusedSimpArgs false
namespace Go.Proofs.YthiimbhjpdphpaaGreatDoor
open Go.RowKit
set_option maxRecDepth 100000
open Go.Proofs.Tryz
theorem zaiZ {B:Nat} {a w:World} (h:Below B a w) (n:Nat):Below B a (w.drewN n):=⟨h.os,h.tape,h.output,h.size,h.block⟩
theorem zadZ (w:World):Below w.heap.size w w.drew:=⟨rfl,rfl,rfl,Nat.le_refl _,fun _ _=>rfl⟩
theorem za2Y (a b:ByteArray):(a.toList == b.toList)=decide (a=b):=by
 rw [Bool.eq_iff_iff];simp only [beq_iff_eq,decide_eq_true_eq];constructor
 ·intro h
  have:a.data.toList=b.data.toList:=by simpa [ByteArray.toList_eq] using h
  cases a;cases b;simp at this;simpa using this
 ·rintro rfl;rfl
theorem Blk.setRow {w:World} {g:Nat} {t:TypeId} {cs cs':Array Value} (h:Blk w g t cs):Blk (w.setRow g cs') g t cs':=setRow_heap w g cs cs' t (0,0) h
theorem zaxY (w:World) (o1 o2:Obj):Below w.heap.size w ((w.alloc o1).alloc o2):=((Below.refl _ _).alloc (Nat.le_refl _) o1).alloc (by simp) o2
theorem below_3 (w:World) (o1 o2 o3:Obj):Below w.heap.size w (((w.alloc o1).alloc o2).alloc o3):=(((Below.refl _ _).alloc (Nat.le_refl _) o1).alloc (by simp) o2).alloc (by simp;omega) o3
theorem Blk.second (w:World) (o:Obj) (t:TypeId) (cs:Array Value):Blk ((w.alloc o).alloc (.cells cs t)) (w.heap.size+1) t cs:=by
 have:=Blk.new (w.alloc o) t cs
 simpa using this
theorem blk2 {w:World} {g:Nat} {t:TypeId} {v0 v1:Value} (h:Blk w g t #[v0,v1]):w.cell? ⟨g,0,none⟩=some v0∧w.cell? ⟨g,1,none⟩=some v1:=⟨h.cell 0 _ rfl,h.cell 1 _ rfl⟩
theorem blk4 {w:World} {g:Nat} {t:TypeId} {v0 v1 v2 v3:Value} (h:Blk w g t #[v0,v1,v2,v3]):w.cell? ⟨g,0,none⟩=some v0∧w.cell? ⟨g,1,none⟩=some v1∧w.cell? ⟨g,2,none⟩=some v2∧w.cell? ⟨g,3,none⟩=some v3 :=
 ⟨h.cell 0 _ rfl,h.cell 1 _ rfl,h.cell 2 _ rfl,h.cell 3 _ rfl⟩
section
def eqV (a b:ValD):Bool:=decide (a=b)
theorem take_succ_eq {α:Type} {a b:List α} {n:Nat} (ha:n<a.length) (hb:n<b.length) (h:a.take n=b.take n) (e:a[n]=b[n]):a.take (n+1)=b.take (n+1):=by
 rw [List.take_succ_eq_append_getElem ha,List.take_succ_eq_append_getElem hb,h,e]
theorem cell_ne {k1 k2 i1 i2 n1 n2:Int} {s1 s2:ByteArray} (h:¬ (k1=k2∧i1=i2∧s1=s2∧n1=n2)) :
  (k1 == k2)=false∨(k1=k2∧(i1 == i2)=false)∨(k1=k2∧i1=i2∧(s1.toList == s2.toList)=false)∨(k1=k2∧i1=i2∧s1=s2∧(n1 == n2)=false):=by
 by_cases a:k1=k2
 ·by_cases b:i1=i2
  ·by_cases c:s1=s2
   ·exact .inr (.inr (.inr ⟨a,b,c,by simpa using fun d=>h ⟨a,b,c,d⟩⟩))
   ·exact .inr (.inr (.inl ⟨a,b,by rw [za2Y];simpa using c⟩))
  ·exact .inr (.inl ⟨a,by simpa using b⟩)
 ·exact .inl (by simpa using a)
attribute [local go_sem] zacZ
set_option maxHeartbeats 1000000 in
theorem equal_any (a b:ValD) (va vb:Value) (w:World) (ha:ValV w va a) (hb:ValV w vb b) :
  Calls prog 154 #[va,vb] w fun e w'=>e=.returned (.bool (eqV a b))∧∃ q,w'=w.drewN q:=by
 obtain ⟨A,cap,rfl,hca,hma,hsa⟩:=ha.at;obtain ⟨B,cbp,rfl,hcb,hmb,hsb⟩:=hb.at;clear ha hb;by_cases hl:b.length=a.length
 ·rw [hl]
  have HL:=hZz hl;clear hl;go_enter func154,ntmps154
  go_wp2
  go_loopw [13] (fun i wr=>∃ n q:Nat,n≤a.length∧i=.int .i64 n∧wr=w.drewN q∧Hid (a.take n=b.take n)) (fun i _=>a.length - (intOf i).toNat)
  case atStart=>exact ⟨0,0,Nat.zero_le _,rfl,rfl,hZz rfl⟩
  case round =>
   obtain ⟨n,q,hn,rfl,rfl,HT⟩:=hrel;by_cases hlt:n<a.length
   ·have hltb:n<b.length:=by rw [HL.out];exact hlt
    have hlt':(n:Int)<(a.length:Int):=by omega
    have hn0:(0:Int)≤(n:Int):=by omega
    obtain ⟨bA,off,rfl,_⟩:=hsa.ptr hlt;obtain ⟨bB,off',rfl,_⟩:=hsb.ptr hltb;obtain ⟨⟨k1,i1,s1,n1⟩,h1⟩:∃ c,a[n]=c:=⟨_,rfl⟩
    obtain ⟨⟨k2,i2,s2,n2⟩,h2⟩:∃ c,b[n]=c:=⟨_,rfl⟩
    have c0:=hsa.cell0 hlt (v:=.int .i64 k1) (by rw [h1];rfl);have c1:=hsa.cell hlt (j:=1) (v:=.int .i64 i1) (by rw [h1];rfl);have c2:=hsa.cell hlt (j:=2) (v:=.string s1) (by rw [h1];rfl);have c3:=hsa.cell hlt (j:=3) (v:=.int .i64 n1) (by rw [h1];rfl);have d0:=hsb.cell0 hltb (v:=.int .i64 k2) (by rw [h2];rfl);have d1:=hsb.cell hltb (j:=1) (v:=.int .i64 i2) (by rw [h2];rfl);have d2:=hsb.cell hltb (j:=2) (v:=.string s2) (by rw [h2];rfl);have d3:=hsb.cell hltb (j:=3) (v:=.int .i64 n2) (by rw [h2];rfl);have H1:=hZz h1;have H2:=hZz h2;clear h1 h2;by_cases he:k1=k2∧i1=i2∧s1=s2∧n1=n2
    ·obtain ⟨rfl,rfl,rfl,rfl⟩:=he
     have HT2:=hZz (take_succ_eq hlt hltb HT.out (H1.out.trans H2.out.symm));go_wp2
     go_quiet (fail);go_wp2
     refine ⟨⟨n+1,_,by omega,by simp,rfl,HT2⟩,by simp [intOf];omega⟩
    ·have HE:Hid (eqV a b=false):=hZz (by
      unfold eqV;rw [decide_eq_false_iff_not];rintro rfl
      have:=H1.out.symm.trans H2.out
      simp at this;exact he this)
     rcases cell_ne he with ha | ⟨rfl,ha⟩ | ⟨rfl,rfl,ha⟩ | ⟨rfl,rfl,rfl,ha⟩
     all_goals
      clear he;go_wp2
      go_quiet (fail);go_wp2
      go_ret;exact ⟨by rw [HE.out];rfl,_,World.drewN_drewN _ _ _⟩
   ·have e:n=a.length:=by omega
    subst e
    have HE:Hid (eqV a b=true):=hZz (by
     have:=HT.out
     rw [List.take_length,← HL.out,List.take_length] at this;simp [eqV,this])
    go_wp2
    go_ret;exact ⟨by rw [HE.out];rfl,q,rfl⟩
 ·have e:eqV a b=false:=by
   unfold eqV;rw [decide_eq_false_iff_not];rintro rfl;exact hl rfl
  have HE:=hZz e;have hl':((a.length:Int) != (b.length:Int))=true:=by simp;omega
  clear hl e;go_enter func154,ntmps154
  go_wp2
  go_ret;exact ⟨by rw [HE.out];rfl,0,rfl⟩
theorem vsame_any (a b:ValD) (va vb:Value) (w:World) (ha:ValV w va a) (hb:ValV w vb b) :
  Calls prog 119 #[va,vb] w fun e w'=>e=.returned (.bool (eqV a b))∧∃ q,w'=w.drewN q:=by
 go_enter func119,ntmps119
 go_wp2_with (first | (go_at_call 154;refine (equal_any a b _ _ _ ha hb).mono ?_;rintro e w1 ⟨rfl,q,rfl⟩))
 go_ret;exact ⟨rfl,q,rfl⟩
end
section
attribute [local go_sem] zacZ
end
section
attribute [local go_sem] zacZ
end
section
attribute [local go_sem] zacZ
end
section
def OVal (w:World) (base:Nat) (v:Value) (l:ValD):Prop:=w.ownsRow base 103 4 v l.length (l.flatMap CellD.cells)
theorem OVal.below {w w':World} {base:Nat} {v:Value} {l:ValD} (h:OVal w base v l) (hb:Below w.heap.size w w'):OVal w' base v l:=zagZ h hb
theorem own_base {w:World} {base base':Nat} {e:TypeId} {size n:Nat} {v:Value} {xs:List Value} (h:w.ownsRow base e size v n xs) (hb:base'≤base):w.ownsRow base' e size v n xs:=by
 obtain ⟨h1,h2⟩:=h;exact ⟨h1,h2.imp id (fun ⟨g,cap,cur,e1,e2,e3⟩=>⟨g,cap,cur,e1,Nat.le_trans hb e2,e3⟩)⟩
theorem OVal.val {w:World} {base:Nat} {v:Value} {l:ValD} (h:OVal w base v l) (hm:l.length≤3518437208780):ValV w v l:=by
 rcases h.2 with ⟨rfl,hn⟩ | ⟨g,cap,cur,rfl,h1,h2,h3,h4⟩
 ·have:l=[]:=List.eq_nil_of_length_eq_zero hn
  subst this;exact RowsV.nil none 0
 ·exact ValV.mk h3 hm (SlAt.of_own h rfl (fun _=>rfl) (by omega))
theorem cells_one (l:ValD):∀ u∈l.flatMap CellD.cells,u.oneCell'=true:=by
 intro u hu;obtain ⟨c,_,hc⟩:=List.mem_flatMap.1 hu;simp only [CellD.cells,List.mem_cons,List.not_mem_nil,or_false] at hc;rcases hc with rfl | rfl | rfl | rfl <;> rfl
theorem zceY (l:ValD):(l.flatMap CellD.cells).length=l.length * 4:=by
 induction l with
 | nil=>rfl
 | cons c r ih=>rw [List.flatMap_cons,List.length_append,ih,List.length_cons];simp [CellD.cells];omega
theorem cells_at (l:ValD) (j:Nat) (u:Value) (h:(l.flatMap CellD.cells)[j]? = some u):∃ (n k:Nat) (hn:n<l.length),j=n * 4+k∧(l[n].cells)[k]? = some u:=by
 induction l generalizing j with
 | nil=>simp at h
 | cons c r ih =>
  rw [List.flatMap_cons] at h;by_cases hj:j<4
  ·rw [List.getElem?_append_left (by simpa [CellD.cells] using hj)] at h
   exact ⟨0,j,by simp,by omega,by simpa using h⟩
  ·rw [List.getElem?_append_right (by simp [CellD.cells];omega)] at h
   obtain ⟨n,k,hn,e,hk⟩:=ih (j - c.cells.length) h;exact ⟨n+1,k,by simp;omega,by simp [CellD.cells] at e;omega,by simpa using hk⟩
theorem nil_no {T e:TypeId} (h:prog.underlying T=some (.slice e)) (ad:Addr) (n c:Nat) (w:World):(Go.binOp .eql T (.slice (some ad) n c) (.slice none 0 0)).run prog w=.ok (.bool false) w:=Go.run_eql_slice_nil w T e (some ad) n c h
theorem nil_yes {T e:TypeId} (h:prog.underlying T=some (.slice e)) (n c:Nat) (w:World):(Go.binOp .eql T (.slice none n c) (.slice none 0 0)).run prog w=.ok (.bool true) w:=Go.run_eql_slice_nil w T e none n c h
theorem own_empty (w:World) (t:TypeId) (sz:Nat):(w.alloc (.cells #[] t)).ownsRow w.heap.size t sz (.slice (some ⟨w.heap.size,0,none⟩) 0 0) 0 [] :=
 ⟨by simp,.inr ⟨w.heap.size,0,#[],rfl,Nat.le_refl _,heap_alloc_new w _,Nat.le_refl _,by simp,by simp,by simp⟩⟩
theorem Tryz.infoCell:(prog.info? 103).map (fun i=>(i.zero,i.size,i.bytes))=some (some (.agg #[.int .i64 0,.int .i64 0,.string ByteArray.empty,.int .i64 0]),4,40):=by kernel_rfl
theorem Tryz.infoVal:(prog.info? 96).map (fun i=>(i.zero,i.size,i.bytes))=some (some (.slice none 0 0),1,24):=by kernel_rfl
attribute [local go_sem] zacZ
set_option maxHeartbeats 1000000 in
theorem clone_any (l:ValD) (v:Value) (w:World) (h:ValV w v l) :
  Calls prog 198 #[v] w fun e w'=>∃ v',e=.returned v'∧OVal w' w.heap.size v' l∧Below w.heap.size w w':=by
 obtain ⟨i0,hi,hz0,hz1,hz2⟩:=info_parts Tryz.infoCell;obtain ⟨A,cap,rfl,hca,hma,hsa⟩:=h.at;clear h;cases A with
 | none =>
  have hl:l=[]:=by
   cases l with
   | nil=>rfl
   | cons c r=>obtain ⟨b,off,hb,_⟩:=hsa.ptr (n:=0) (by simp);cases hb
  subst hl;go_enter func198,ntmps198
  have hnil:=fun w=>nil_yes underlying96 0 cap w
  go_wp2
  go_ret;exact ⟨_,rfl,World.ownsRow_nil _ _ _ _,Below.refl _ _⟩
 | some ad =>
  have HS:=hZz hsa;clear hsa;go_enter func198,ntmps198
  have hnil:=fun w=>nil_no underlying96 ad l.length cap w
  have HCL:=hZz (zceY l)
  have HAT:Hid (∀ j u,(l.flatMap CellD.cells)[j]? = some u→(w.alloc (.cells #[] 103)).cell? (ad.add j)=some u):=hZz (fun j u hj=>by
   obtain ⟨n,k,hn,rfl,hk⟩:=cells_at l j u hj;obtain ⟨b,off,e,_⟩:=HS.out.ptr hn;cases e
   rw [zayY,← Nat.add_assoc];exact (HS.out.alloc _).cell hn hk)
  have hm40:l.length * 40≤140737488355328:=by omega
  have hmm:l.length≤maxLen:=by unfold maxLen;omega
  go_wp2_with (first
   | (at_builtin;refine wpList_append_own _ rfl (.tmp 5) (.tmp 6) 96 rfl w.heap.size 103 i0 _ 4 40 underlying96 hi hz0 hz1 hz2 rfl (by omega) _ 0 [] rfl (own_empty w _ 4) ad l.length cap (l.flatMap CellD.cells) rfl HCL.out HAT.out (cells_one l) (by simpa using hmm) (by simpa using hm40) (by simp) ?_;intro v' w1 hown hgrow _))
  go_ret;refine ⟨_,rfl,by simpa [OVal] using hown,?_⟩
  exact (zabZ w _).grown hgrow (by simp) (fun k hk=>by have h2:some w.heap.size=some k:=hk;injection h2 with h2;omega)
end
def KT (t:TypeId) (w w':World):Prop:=w.heap.size≤w'.heap.size∧∀ (g:Nat) (o:Obj),w.heap[g]? = some o→(∀ cs fr,o≠Obj.cells cs t fr)→w'.heap[g]? = some o
theorem KT.set {t:TypeId} {w:World} {g:Nat} {cs:Array Value} (h:Blk w g t cs) (i:Nat) (u:Value):KT t w (w.setCell ⟨g,i,none⟩ u) :=
 ⟨by simp,fun k o hk ho=>by
  rw [Below.heap_setCell w ⟨g,i,none⟩ u k ?_]
  ·exact hk
  ·rintro rfl
   unfold Blk at h;rw [h] at hk;injection hk with hk
   exact ho _ _ hk.symm⟩
theorem KT.grown {t:TypeId} {w w':World} {base size n:Nat} {v:Value} {xs:List Value} (h:w.ownsRow base t size v n xs) (hg:w.grownBy w' v.ownBlock):KT t w w' :=
 ⟨hg.size,fun k o hk ho=>by
  rw [hg.block k (lt_of_block hk) ?_]
  ·exact hk
  ·intro he
   rcases h.2 with ⟨rfl,_⟩ | ⟨g,cap,cur,rfl,_,hh,_⟩
   ·cases he
   ·have:k=g:=by simpa [Value.ownBlock] using he
    subst this;rw [hh] at hk;injection hk with hk
    exact ho _ _ hk.symm⟩
theorem KT.own {t e:TypeId} {w w':World} (k:KT t w w') (hne:e≠t) {base size n:Nat} {v:Value} {xs:List Value} (h:w.ownsRow base e size v n xs):w'.ownsRow base e size v n xs:=by
 obtain ⟨h1,h2⟩:=h;refine ⟨h1,h2.imp id (fun ⟨g,cap,cur,e1,e2,e3,e4⟩=>⟨g,cap,cur,e1,e2,k.2 g _ e3 (fun cs fr hh=>?_),e4⟩)⟩
 injection hh with _ hh
 exact hne hh
theorem KT.blk {t e:TypeId} {w w':World} (k:KT t w w') (hne:e≠t) {g:Nat} {cs:Array Value} (h:Blk w g e cs):Blk w' g e cs:=by
 unfold Blk at h ⊢;exact k.2 g _ h (fun cs fr hh=>by injection hh with _ hh;exact hne hh)
def blocks (ps:List (Value × Value)):List Nat:=ps.flatMap fun p=>p.1.ownBlock.toList ++ p.2.ownBlock.toList
end Go.Proofs.YthiimbhjpdphpaaGreatDoor
