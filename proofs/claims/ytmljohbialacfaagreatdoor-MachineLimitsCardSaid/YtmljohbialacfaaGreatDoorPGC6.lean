/- GC4, GC6 -/
import Derived.Test.YtmljohbialacfaaGreatDoorPGN0
import Derived.ArgAppend
import Derived.BigQuiet
import Derived.Deep.DeepCutAuto
import Derived.Deep.LoopGhost
import Derived.Deep.QuietTactic
import Derived.Deep.RegionHeld3
import Derived.Laws.CopyOwn
import Derived.Laws.Rows
import Derived.Test.YtmljohbialacfaaGreatDoorProg
set_option linter.unusedVariables false
set_option linter.unusedSimpArgs false
namespace Go.Proofs.YtmljohbialacfaaGreatDoor
section
open Go.RowKit
theorem below_drewN {B:Nat} {a w:World} (h:Below B a w) (n:Nat):Below B a (w.drewN n):=⟨h.os,h.tape,h.output,h.size,h.block⟩
theorem below_drew (w:World):Below w.heap.size w w.drew:=⟨rfl,rfl,rfl,Nat.le_refl _,fun _ _=>rfl⟩
theorem toList_beq (a b:ByteArray):(a.toList == b.toList)=decide (a=b):=by
 rw [Bool.eq_iff_iff]
 simp only [beq_iff_eq,decide_eq_true_eq]
 constructor
 ·intro h
  have:a.data.toList=b.data.toList:=by simpa [ByteArray.toList_eq] using h
  cases a;cases b;simp at this;simpa using this
 ·rintro rfl;rfl
theorem Blk.setRow {w:World} {g:Nat} {t:TypeId} {cs cs':Array Value} (h:Blk w g t cs):Blk (w.setRow g cs') g t cs':=setRow_heap w g cs cs' t (0,0) h
theorem Blk.row_far {w:World} {g g':Nat} {t:TypeId} {cs cs':Array Value} (h:Blk w g t cs) (hne:g≠g'):Blk (w.setRow g' cs') g t cs:=(setRow_other w g' g cs' hne).trans h
theorem below_2 (w:World) (o1 o2:Obj):Below w.heap.size w ((w.alloc o1).alloc o2):=((Below.refl _ _).alloc (Nat.le_refl _) o1).alloc (by simp) o2
theorem below_3 (w:World) (o1 o2 o3:Obj):Below w.heap.size w (((w.alloc o1).alloc o2).alloc o3):=(((Below.refl _ _).alloc (Nat.le_refl _) o1).alloc (by simp) o2).alloc (by simp;omega) o3
theorem Blk.second (w:World) (o:Obj) (t:TypeId) (cs:Array Value):Blk ((w.alloc o).alloc (.cells cs t)) (w.heap.size+1) t cs:=by
 have:=Blk.new (w.alloc o) t cs
 simpa using this
theorem blk2 {w:World} {g:Nat} {t:TypeId} {v0 v1:Value} (h:Blk w g t #[v0,v1]):w.cell? ⟨g,0,none⟩=some v0∧w.cell? ⟨g,1,none⟩=some v1:=⟨h.cell 0 _ rfl,h.cell 1 _ rfl⟩
theorem blk4 {w:World} {g:Nat} {t:TypeId} {v0 v1 v2 v3:Value} (h:Blk w g t #[v0,v1,v2,v3]):w.cell? ⟨g,0,none⟩=some v0∧w.cell? ⟨g,1,none⟩=some v1∧w.cell? ⟨g,2,none⟩=some v2∧w.cell? ⟨g,3,none⟩=some v3 :=
 ⟨h.cell 0 _ rfl,h.cell 1 _ rfl,h.cell 2 _ rfl,h.cell 3 _ rfl⟩
theorem blk9 {w:World} {g:Nat} {t:TypeId} {v0 v1 v2 v3 v4 v5 v6 v7 v8:Value} (h:Blk w g t #[v0,v1,v2,v3,v4,v5,v6,v7,v8]) :
  w.cell? ⟨g,0,none⟩=some v0∧w.cell? ⟨g,1,none⟩=some v1∧w.cell? ⟨g,2,none⟩=some v2∧w.cell? ⟨g,3,none⟩=some v3∧w.cell? ⟨g,4,none⟩=some v4∧w.cell? ⟨g,5,none⟩=some v5∧w.cell? ⟨g,6,none⟩=some v6∧w.cell? ⟨g,7,none⟩=some v7∧w.cell? ⟨g,8,none⟩=some v8 :=
 ⟨h.cell 0 _ rfl,h.cell 1 _ rfl,h.cell 2 _ rfl,h.cell 3 _ rfl,h.cell 4 _ rfl,h.cell 5 _ rfl,h.cell 6 _ rfl,h.cell 7 _ rfl,h.cell 8 _ rfl⟩
end
section
open Go.RowKit
set_option maxRecDepth 100000
def eqV (a b:ValD):Bool:=decide (a=b)
theorem take_succ_eq {α:Type} {a b:List α} {n:Nat} (ha:n<a.length) (hb:n<b.length) (h:a.take n=b.take n) (e:a[n]=b[n]):a.take (n+1)=b.take (n+1):=by
 rw [List.take_succ_eq_append_getElem ha,List.take_succ_eq_append_getElem hb,h,e]
/-- Two cells that are not equal: the first field that tells them apart, as the walk spells the test. -/
theorem cell_ne {k1 k2 i1 i2 n1 n2:Int} {s1 s2:ByteArray} (h:¬ (k1=k2∧i1=i2∧s1=s2∧n1=n2)) :
  (k1 == k2)=false∨(k1=k2∧(i1 == i2)=false)∨(k1=k2∧i1=i2∧(s1.toList == s2.toList)=false)∨(k1=k2∧i1=i2∧s1=s2∧(n1 == n2)=false):=by
 by_cases a:k1=k2
 ·by_cases b:i1=i2
  ·by_cases c:s1=s2
   ·exact .inr (.inr (.inr ⟨a,b,c,by simpa using fun d=>h ⟨a,b,c,d⟩⟩))
   ·exact .inr (.inr (.inl ⟨a,b,by rw [toList_beq];simpa using c⟩))
  ·exact .inr (.inl ⟨a,by simpa using b⟩)
 ·exact .inl (by simpa using a)
attribute [local go_sem] cell_alloc_is
set_option maxHeartbeats 1000000 in
theorem cells_any (a b:ValD) (va vb:Value) (w:World) (ha:ValV w va a) (hb:ValV w vb b) :
  Calls Tryz.prog 21 #[va,vb] w fun e w'=>e=.returned (.bool (eqV a b))∧∃ q,w'=w.drewN q:=by
 obtain ⟨A,cap,rfl,hca,hma,hsa⟩:=ha.at
 obtain ⟨B,cbp,rfl,hcb,hmb,hsb⟩:=hb.at
 clear ha hb
 by_cases hl:b.length=a.length
 ·rw [hl]
  have HL:=Lib.hid hl
  clear hl
  go_enter Tryz.func21,Tryz.ntmps21
  go_wp2
  go_loopw [13] (fun i wr=>∃ n q:Nat,n≤a.length∧i=.int .i64 n∧wr=w.drewN q∧Hid (a.take n=b.take n)) (fun i _=>a.length - (intOf i).toNat)
  case atStart=>exact ⟨0,0,Nat.zero_le _,rfl,rfl,Lib.hid rfl⟩
  case round =>
   obtain ⟨n,q,hn,rfl,rfl,HT⟩:=hrel
   by_cases hlt:n<a.length
   ·have hltb:n<b.length:=by rw [HL.out];exact hlt
    have hlt':(n:Int)<(a.length:Int):=by omega
    have hn0:(0:Int)≤(n:Int):=by omega
    obtain ⟨bA,off,rfl,_⟩:=hsa.ptr hlt
    obtain ⟨bB,off',rfl,_⟩:=hsb.ptr hltb
    obtain ⟨⟨k1,i1,s1,n1⟩,h1⟩:∃ c,a[n]=c:=⟨_,rfl⟩
    obtain ⟨⟨k2,i2,s2,n2⟩,h2⟩:∃ c,b[n]=c:=⟨_,rfl⟩
    have c0:=hsa.cell0 hlt (v:=.int .i64 k1) (by rw [h1];rfl)
    have c1:=hsa.cell hlt (j:=1) (v:=.int .i64 i1) (by rw [h1];rfl)
    have c2:=hsa.cell hlt (j:=2) (v:=.string s1) (by rw [h1];rfl)
    have c3:=hsa.cell hlt (j:=3) (v:=.int .i64 n1) (by rw [h1];rfl)
    have d0:=hsb.cell0 hltb (v:=.int .i64 k2) (by rw [h2];rfl)
    have d1:=hsb.cell hltb (j:=1) (v:=.int .i64 i2) (by rw [h2];rfl)
    have d2:=hsb.cell hltb (j:=2) (v:=.string s2) (by rw [h2];rfl)
    have d3:=hsb.cell hltb (j:=3) (v:=.int .i64 n2) (by rw [h2];rfl)
    have H1:=Lib.hid h1
    have H2:=Lib.hid h2
    clear h1 h2
    by_cases he:k1=k2∧i1=i2∧s1=s2∧n1=n2
    ·obtain ⟨rfl,rfl,rfl,rfl⟩:=he
     have HT2:=Lib.hid (take_succ_eq hlt hltb HT.out (H1.out.trans H2.out.symm))
     go_wp2
     go_quiet (fail)
     go_wp2
     refine ⟨⟨n+1,_,by omega,by simp,rfl,HT2⟩,by simp [intOf];omega⟩
    ·have HE:Hid (eqV a b=false):=Lib.hid (by
      unfold eqV;rw [decide_eq_false_iff_not];rintro rfl
      have:=H1.out.symm.trans H2.out
      simp at this;exact he this)
     rcases cell_ne he with ha | ⟨rfl,ha⟩ | ⟨rfl,rfl,ha⟩ | ⟨rfl,rfl,rfl,ha⟩
     all_goals
      clear he
      go_wp2
      go_quiet (fail)
      go_wp2
      go_ret
      exact ⟨by rw [HE.out];rfl,_,World.drewN_drewN _ _ _⟩
   ·have e:n=a.length:=by omega
    subst e
    have HE:Hid (eqV a b=true):=Lib.hid (by
     have:=HT.out
     rw [List.take_length,← HL.out,List.take_length] at this
     simp [eqV,this])
    go_wp2
    go_ret
    exact ⟨by rw [HE.out];rfl,q,rfl⟩
 ·have e:eqV a b=false:=by
   unfold eqV;rw [decide_eq_false_iff_not];rintro rfl;exact hl rfl
  have HE:=Lib.hid e
  have hl':((a.length:Int) != (b.length:Int))=true:=by simp;omega
  clear hl e
  go_enter Tryz.func21,Tryz.ntmps21
  go_wp2
  go_ret
  exact ⟨by rw [HE.out];rfl,0,rfl⟩
set_option maxHeartbeats 1000000 in
theorem equal_any (a b:ValD) (va vb:Value) (w:World) (ha:ValV w va a) (hb:ValV w vb b) :
  Calls Tryz.prog 186 #[va,vb] w fun e w'=>e=.returned (.bool (eqV a b))∧∃ q,w'=w.drewN q:=by
 obtain ⟨A,cap,rfl,hca,hma,hsa⟩:=ha.at
 obtain ⟨B,cbp,rfl,hcb,hmb,hsb⟩:=hb.at
 clear ha hb
 by_cases hl:b.length=a.length
 ·rw [hl]
  have HL:=Lib.hid hl
  clear hl
  go_enter Tryz.func186,Tryz.ntmps186
  go_wp2
  go_loopw [13] (fun i wr=>∃ n q:Nat,n≤a.length∧i=.int .i64 n∧wr=w.drewN q∧Hid (a.take n=b.take n)) (fun i _=>a.length - (intOf i).toNat)
  case atStart=>exact ⟨0,0,Nat.zero_le _,rfl,rfl,Lib.hid rfl⟩
  case round =>
   obtain ⟨n,q,hn,rfl,rfl,HT⟩:=hrel
   by_cases hlt:n<a.length
   ·have hltb:n<b.length:=by rw [HL.out];exact hlt
    have hlt':(n:Int)<(a.length:Int):=by omega
    have hn0:(0:Int)≤(n:Int):=by omega
    obtain ⟨bA,off,rfl,_⟩:=hsa.ptr hlt
    obtain ⟨bB,off',rfl,_⟩:=hsb.ptr hltb
    obtain ⟨⟨k1,i1,s1,n1⟩,h1⟩:∃ c,a[n]=c:=⟨_,rfl⟩
    obtain ⟨⟨k2,i2,s2,n2⟩,h2⟩:∃ c,b[n]=c:=⟨_,rfl⟩
    have c0:=hsa.cell0 hlt (v:=.int .i64 k1) (by rw [h1];rfl)
    have c1:=hsa.cell hlt (j:=1) (v:=.int .i64 i1) (by rw [h1];rfl)
    have c2:=hsa.cell hlt (j:=2) (v:=.string s1) (by rw [h1];rfl)
    have c3:=hsa.cell hlt (j:=3) (v:=.int .i64 n1) (by rw [h1];rfl)
    have d0:=hsb.cell0 hltb (v:=.int .i64 k2) (by rw [h2];rfl)
    have d1:=hsb.cell hltb (j:=1) (v:=.int .i64 i2) (by rw [h2];rfl)
    have d2:=hsb.cell hltb (j:=2) (v:=.string s2) (by rw [h2];rfl)
    have d3:=hsb.cell hltb (j:=3) (v:=.int .i64 n2) (by rw [h2];rfl)
    have H1:=Lib.hid h1
    have H2:=Lib.hid h2
    clear h1 h2
    by_cases he:k1=k2∧i1=i2∧s1=s2∧n1=n2
    ·obtain ⟨rfl,rfl,rfl,rfl⟩:=he
     have HT2:=Lib.hid (take_succ_eq hlt hltb HT.out (H1.out.trans H2.out.symm))
     go_wp2
     go_quiet (fail)
     go_wp2
     refine ⟨⟨n+1,_,by omega,by simp,rfl,HT2⟩,by simp [intOf];omega⟩
    ·have HE:Hid (eqV a b=false):=Lib.hid (by
      unfold eqV;rw [decide_eq_false_iff_not];rintro rfl
      have:=H1.out.symm.trans H2.out
      simp at this;exact he this)
     rcases cell_ne he with ha | ⟨rfl,ha⟩ | ⟨rfl,rfl,ha⟩ | ⟨rfl,rfl,rfl,ha⟩
     all_goals
      clear he
      go_wp2
      go_quiet (fail)
      go_wp2
      go_ret
      exact ⟨by rw [HE.out];rfl,_,World.drewN_drewN _ _ _⟩
   ·have e:n=a.length:=by omega
    subst e
    have HE:Hid (eqV a b=true):=Lib.hid (by
     have:=HT.out
     rw [List.take_length,← HL.out,List.take_length] at this
     simp [eqV,this])
    go_wp2
    go_ret
    exact ⟨by rw [HE.out];rfl,q,rfl⟩
 ·have e:eqV a b=false:=by
   unfold eqV;rw [decide_eq_false_iff_not];rintro rfl;exact hl rfl
  have HE:=Lib.hid e
  have hl':((a.length:Int) != (b.length:Int))=true:=by simp;omega
  clear hl e
  go_enter Tryz.func186,Tryz.ntmps186
  go_wp2
  go_ret
  exact ⟨by rw [HE.out];rfl,0,rfl⟩
theorem vsame_any (a b:ValD) (va vb:Value) (w:World) (ha:ValV w va a) (hb:ValV w vb b) :
  Calls Tryz.prog 141 #[va,vb] w fun e w'=>e=.returned (.bool (eqV a b))∧∃ q,w'=w.drewN q:=by
 go_enter Tryz.func141,Tryz.ntmps141
 go_wp2_with (first | (go_at_call 186;refine (equal_any a b _ _ _ ha hb).mono ?_;rintro e w1 ⟨rfl,q,rfl⟩))
 go_ret
 exact ⟨rfl,q,rfl⟩
end
section
open Go.RowKit
set_option maxRecDepth 100000
attribute [local go_sem] cell_alloc_is
end
section
open Go.RowKit
set_option maxRecDepth 100000
attribute [local go_sem] cell_alloc_is
end
section
open Go.RowKit
set_option maxRecDepth 100000
attribute [local go_sem] cell_alloc_is
end
section
open Go.RowKit
set_option maxRecDepth 100000
/-- A machine as a value. -/
def MachV (w:World) (v:Value) (m:MachD):Prop:=∃ vv fv qv,v=.agg #[.int .i64 m.status,.int .i64 m.err,vv,fv,qv,.int .i64 m.lsteps,.int .i64 m.lmem,.int .i64 m.steps,.int .i64 m.peak]∧ValV w vv m.value∧FramesV w fv m.frames∧ReqsV w qv m.requests
theorem MachV.below {w w':World} {v:Value} {m:MachD} (h:MachV w v m) (hb:Below w.heap.size w w'):MachV w' v m:=by
 obtain ⟨vv,fv,qv,rfl,h1,h2,h3⟩:=h;exact ⟨vv,fv,qv,rfl,h1.below hb,h2.below hb,h3.below hb⟩
end
section
open Go.RowKit
set_option maxRecDepth 100000
theorem cellsN_bd {w:World} {v:Value} {l:List ValD} (h:ValsV w v l) (hl:l.length≤10000) (n:Nat):cellsN (l.take n)≤87960930222080000:=by
 have h1:=cellsN_take_le l n
 have h2:=cellsN_le l _ h.short
 have h3:l.length * 8796093022208≤10000 * 8796093022208:=Nat.mul_le_mul_right _ hl
 omega
attribute [local go_sem] cell_alloc_is
set_option maxHeartbeats 1000000 in
theorem cells38_any (l:List ValD) (v:Value) (w:World) (h:ValsV w v l) (hl:l.length≤10000) :
  Calls Tryz.prog 38 #[v] w fun e w'=>e=.returned (.int .i64 (cellsN l))∧w'=w:=by
 have HB:=Lib.hid (cellsN_bd h hl)
 obtain ⟨A,cap,vs,rfl,hca,hma,hsa,hla,hva⟩:=h.at
 have HV:=Lib.hid hva
 have HLA:=Lib.hid hla
 clear h hva hla
 go_enter Tryz.func38,Tryz.ntmps38
 go_wp2
 go_loop [3,8] (fun s i=>∃ n:Nat,n≤l.length∧i=.int .i64 n∧s=.int .i64 (cellsN (l.take n))) (fun _ i=>l.length - (intOf i).toNat)
 case atStart=>exact ⟨0,Nat.zero_le _,rfl,rfl⟩
 case round =>
  obtain ⟨n,hn,rfl,rfl⟩:=hrel
  by_cases hlt:n<l.length
  ·have hna:n<vs.length:=by rw [HLA.out];exact hlt
   obtain ⟨bA,off,rfl,_⟩:=hsa.ptr hna
   obtain ⟨x,hx⟩:∃ x,vs[n]=x:=⟨_,rfl⟩
   have hvx:ValV w x l[n]:=hx ▸ HV.out n hna hlt
   obtain ⟨A1,k1,rfl,hc1,hm1,_⟩:=hvx.at
   have c0:=hsa.cell0 hna (v:=.slice A1 l[n].length k1) (by rw [hx];rfl)
   rw [Nat.mul_one] at c0
   have HS:=Lib.hid (cellsN_snoc l n hlt)
   have hb1:=HB.out n
   have hb0:(0:Int)≤(cellsN (l.take n):Int):=by omega
   have hb2:(cellsN (l.take n):Int)≤87960930222080000:=by omega
   clear hx hvx
   go_wp2
   refine ⟨⟨n+1,by omega,by simp,by rw [HS.out];simp⟩,by simp [intOf];omega⟩
  ·have e:n=l.length:=by omega
   subst e
   have HT:=Lib.hid (show l.take l.length=l from List.take_length)
   go_wp2
   go_ret
   exact ⟨by rw [← HT.out];simp [List.take_length],rfl⟩
/-- Frames that are gone through. -/
def SmallF (l:List FrameD):Prop:=l.length≤40∧∀ f∈l,f.locals.length≤10000∧f.stack.length≤10000
theorem memN_bd {w:World} {v:Value} {l:List FrameD} (h:FramesV w v l) (hl:SmallF l) (n:Nat):memN (l.take n)≤7036874417766400000:=by
 refine Nat.le_trans (memN_take_le l n) ?_
 have hall:∀ f∈l,cellsN f.locals+cellsN f.stack≤175921860444160000:=fun f hf=>by
  obtain ⟨A,cap,rows,_,_,_,_,h5,h6⟩:=h
  obtain ⟨i,hi,rfl⟩:=List.getElem_of_mem hf
  obtain ⟨lv,sv,_,h1,h2⟩:=h6 i (by omega) hi
  have b1:=cellsN_bd h1 (hl.2 _ hf).1 l[i].locals.length
  have b2:=cellsN_bd h2 (hl.2 _ hf).2 l[i].stack.length
  rw [List.take_length] at b1 b2
  omega
 have key:∀ l:List FrameD,(∀ f∈l,cellsN f.locals+cellsN f.stack≤175921860444160000)→memN l≤l.length * 175921860444160000:=by
  intro l
  induction l with
  | nil=>intro _;simp [memN]
  | cons f r ih =>
   intro hh
   have:=ih (fun x hx=>hh x (by simp [hx]))
   have h1:=hh f (by simp)
   simp only [memN,List.map_cons,List.sum_cons,List.length_cons,Nat.succ_mul] at this ⊢
   omega
 have:=key l hall
 have h3:l.length * 175921860444160000≤40 * 175921860444160000:=Nat.mul_le_mul_right _ hl.1
 omega
set_option maxHeartbeats 2000000 in
theorem memory_any (m:MachD) (v:Value) (w:World) (h:MachV w v m) (hm:SmallF m.frames) :
  Calls Tryz.prog 16 #[v] w fun e w'=>e=.returned (.int .i64 (memN m.frames))∧Below w.heap.size w w':=by
 obtain ⟨vv,fv,qv,rfl,hvv,hfv,hqv⟩:=h
 have HBD:=Lib.hid (memN_bd hfv hm)
 obtain ⟨A1,n1,k1,rfl⟩:=hvv.shape
 obtain ⟨A2,n2,k2,rfl⟩:=hqv.shape
 have HSM:=Lib.hid hm.2
 clear hvv hqv hm
 obtain ⟨A,cap,rows,rfl,hca,hma,hsa,hla,hva⟩:=hfv
 have HV:=Lib.hid hva
 have HLA:=Lib.hid hla
 have HSA:=Lib.hid hsa
 clear hva hla hsa
 go_enter Tryz.func16,Tryz.ntmps16
 go_wp2
 go_loopw [3,9] (fun s i wr=>∃ n:Nat,n≤m.frames.length∧i=.int .i64 n∧s=.int .i64 (memN (m.frames.take n))∧Below w.heap.size w wr) (fun _ i _=>m.frames.length - (intOf i).toNat)
 case atStart=>exact ⟨0,Nat.zero_le _,rfl,rfl,below_new _ _⟩
 case round =>
  obtain ⟨n,hn,rfl,rfl,hbel⟩:=hrel
  have HB:=Lib.hid hbel
  clear hbel
  by_cases hlt:n<m.frames.length
  ·have hna:n<rows.length:=by rw [HLA.out];exact hlt
   have hsa:=HSA.out.below HB.out
   obtain ⟨bA,off,rfl,_⟩:=hsa.ptr hna
   obtain ⟨lv,sv,hrow,hlv,hsv⟩:=HV.out n hna hlt
   obtain ⟨B1,z1,y1,rfl⟩:=hlv.shape
   obtain ⟨B2,z2,y2,rfl⟩:=hsv.shape
   obtain ⟨f1,hf1⟩:∃ x,m.frames[n].func=x:=⟨_,rfl⟩
   obtain ⟨c1,hc1⟩:∃ x,m.frames[n].pc=x:=⟨_,rfl⟩
   rw [hf1,hc1] at hrow
   have c0:=hsa.cell0 hna (v:=.int .i64 f1) (by rw [hrow];rfl)
   have c1':=hsa.cell hna (j:=1) (v:=.int .i64 c1) (by rw [hrow];rfl)
   have c2:=hsa.cell hna (j:=2) (v:=.slice B1 z1 y1) (by rw [hrow];rfl)
   have c3:=hsa.cell hna (j:=3) (v:=.slice B2 z2 y2) (by rw [hrow];rfl)
   have hsm:=HSM.out _ (List.getElem_mem hlt)
   have HS:=Lib.hid (memN_snoc m.frames n hlt)
   obtain ⟨x1,hx1⟩:∃ x,cellsN m.frames[n].locals=x:=⟨_,rfl⟩
   obtain ⟨x2,hx2⟩:∃ x,cellsN m.frames[n].stack=x:=⟨_,rfl⟩
   have b1:=cellsN_bd hlv hsm.1 m.frames[n].locals.length
   have b2:=cellsN_bd hsv hsm.2 m.frames[n].stack.length
   rw [List.take_length,hx1] at b1
   rw [List.take_length,hx2] at b2
   have HC1:Hid (∀ wx,Below wr.heap.size wr wx→Calls Tryz.prog 38 #[.slice B1 z1 y1] wx fun e w'=>e=.returned (.int .i64 x1)∧w'=wx):=Lib.hid (fun wx hx=>by
    have:=cells38_any _ _ wx ((hlv.below HB.out).below hx) hsm.1;rw [hx1] at this;exact this)
   have HC2:Hid (∀ wx,Below wr.heap.size wr wx→Calls Tryz.prog 38 #[.slice B2 z2 y2] wx fun e w'=>e=.returned (.int .i64 x2)∧w'=wx):=Lib.hid (fun wx hx=>by
    have:=cells38_any _ _ wx ((hsv.below HB.out).below hx) hsm.2;rw [hx2] at this;exact this)
   have HX:Hid (memN (m.frames.take (n+1))=memN (m.frames.take n)+(x1+x2)):=Lib.hid (by rw [HS.out,hx1,hx2])
   obtain ⟨s,hs⟩:∃ s,memN (m.frames.take n)=s:=⟨_,rfl⟩
   have hb1:=HBD.out n
   rw [hs] at hb1
   rw [hs]
   have HSS:=Lib.hid hs
   clear hf1 hc1 hrow hlv hsv hsm hx1 hx2 hsa hs
   have k0:(0:Int)≤(s:Int):=by omega
   have k1':(s:Int)≤7036874417766400000:=by omega
   have k2':(0:Int)≤(x1:Int):=by omega
   have k3:(x1:Int)≤87960930222080000:=by omega
   have k4:(0:Int)≤(x2:Int):=by omega
   have k5:(x2:Int)≤87960930222080000:=by omega
   go_wp2
   go_quiet (first
    | (go_at_call 38;with_reducible exact Calls.quiet_of_same (HC1.out _ (by first | exact below_new _ _ | exact below_drewN (below_new _ _) _)))
    | (go_at_call 38;with_reducible exact Calls.quiet_of_same (HC2.out _ (by first | exact below_new _ _ | exact below_drewN (below_new _ _) _))))
   go_wp2
   refine ⟨⟨n+1,by omega,by simp,by rw [HX.out,HSS.out];simp,below_drewN (below_call (below_new _ _) HB.out) _⟩,by simp [intOf];omega⟩
  ·have e:n=m.frames.length:=by omega
   subst e
   have HT:=Lib.hid (show m.frames.take m.frames.length=m.frames from List.take_length)
   go_wp2
   go_ret
   exact ⟨by rw [← HT.out];simp [List.take_length],HB.out⟩
end
section
open Go.RowKit
set_option maxRecDepth 100000
attribute [local go_sem] cell_alloc_is
def smallB (l:ValD):Bool:=decide (l.length≤300) && l.all (fun c=>decide (c.str.size≤5000))
set_option maxHeartbeats 1000000 in
theorem small_any (l:ValD) (v:Value) (w:World) (h:ValV w v l) (hs:∀ c∈l,c.str.size≤140737488351232) :
  Calls Tryz.prog 8 #[v] w fun e w'=>e=.returned (.bool (smallB l))∧w'=w:=by
 obtain ⟨A,cap,rfl,hca,hma,hsa⟩:=h.at
 have HSA:=Lib.hid hsa
 have HSS:=Lib.hid hs
 clear h hsa hs
 by_cases hl:l.length≤300
 ·have hl':((l.length:Int) > 300)=False:=by simp;omega
  go_enter Tryz.func8,Tryz.ntmps8
  go_wp2
  go_loop [9] (fun i=>∃ n:Nat,n≤l.length∧i=.int .i64 n∧Hid (∀ c∈l.take n,c.str.size≤5000)) (fun i=>l.length - (intOf i).toNat)
  case atStart=>exact ⟨0,Nat.zero_le _,rfl,Lib.hid (by simp)⟩
  case round =>
   obtain ⟨n,hn,rfl,HT⟩:=hrel
   by_cases hlt:n<l.length
   ·have hlt':(n:Int)<(l.length:Int):=by omega
    have hn0:(0:Int)≤(n:Int):=by omega
    have hsa:=HSA.out
    obtain ⟨b,off,rfl,_⟩:=hsa.ptr hlt
    obtain ⟨s,hs⟩:∃ s,l[n].str=s:=⟨_,rfl⟩
    have c2:=hsa.cell hlt (j:=2) (v:=.string s) (by rw [← hs];rfl)
    have hsz:=HSS.out _ (List.getElem_mem hlt)
    rw [hs] at hsz
    have HS:=Lib.hid hs
    clear hsa hs
    by_cases h5:s.size≤5000
    ·have HT2:Hid (∀ c∈l.take (n+1),c.str.size≤5000):=Lib.hid (by
      rw [List.take_succ_eq_append_getElem hlt]
      intro c hc
      rcases List.mem_append.1 hc with hc | hc
      ·exact HT.out c hc
      ·simp at hc;subst hc;rw [HS.out];exact h5)
     go_wp2
     refine ⟨⟨n+1,by omega,by simp,HT2⟩,by simp [intOf];omega⟩
    ·have e:smallB l=false:=by
      unfold smallB
      rw [Bool.and_eq_false_iff]
      right
      rw [List.all_eq_false]
      exact ⟨l[n],List.getElem_mem hlt,by rw [HS.out];simpa using h5⟩
     have HE:=Lib.hid e
     have h5':(5000:Int)<(s.size:Int):=by omega
     clear h5 e
     go_wp2
     go_ret
     exact ⟨by rw [HE.out];rfl,rfl⟩
   ·have e:n=l.length:=by omega
    subst e
    have HE:Hid (smallB l=true):=Lib.hid (by
     have:=HT.out
     rw [List.take_length] at this
     simp only [smallB,Bool.and_eq_true,decide_eq_true_eq,List.all_eq_true]
     exact ⟨hl,this⟩)
    go_wp2
    go_ret
    exact ⟨by rw [HE.out];rfl,rfl⟩
 ·have e:smallB l=false:=by unfold smallB;simp;intro h;omega
  have HE:=Lib.hid e
  have hl':(300:Int)<(l.length:Int):=by omega
  clear hl e
  go_enter Tryz.func8,Tryz.ntmps8
  go_wp2
  go_ret
  exact ⟨by rw [HE.out];rfl,rfl⟩
end
section
open Go.RowKit
set_option maxRecDepth 100000
attribute [local go_sem] cell_alloc_is
end
end Go.Proofs.YtmljohbialacfaaGreatDoor
