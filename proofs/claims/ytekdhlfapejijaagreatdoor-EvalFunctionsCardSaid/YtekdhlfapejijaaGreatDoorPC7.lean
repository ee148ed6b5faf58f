/- GC4, GC6, C7 -/
import Derived.Test.YtekdhlfapejijaaGreatDoorPGN0
import Derived.ArgAppend
import Derived.BigQuiet
import Derived.Deep.DeepCutAuto
import Derived.Deep.LoopGhost
import Derived.Deep.QuietTactic
import Derived.Deep.RegionHeld3
import Derived.Laws.CopyOwn
import Derived.Laws.Rows
import Derived.Test.YtekdhlfapejijaaGreatDoorProg
set_option linter.unusedVariables false
set_option linter.unusedSimpArgs false
namespace Go.Proofs.YtekdhlfapejijaaGreatDoor
open Go.RowKit
set_option maxRecDepth 100000
open Go.Proofs.Tryz
theorem zaqZ {B:Nat} {a w:World} (h:Below B a w) (n:Nat):Below B a (w.drewN n):=⟨h.os,h.tape,h.output,h.size,h.block⟩
theorem zafZ (w:World):Below w.heap.size w w.drew:=⟨rfl,rfl,rfl,Nat.le_refl _,fun _ _=>rfl⟩
theorem zbfY (a b:ByteArray):(a.toList == b.toList)=decide (a=b):=by
 rw [Bool.eq_iff_iff];simp only [beq_iff_eq,decide_eq_true_eq];constructor
 ·intro h
  have:a.data.toList=b.data.toList:=by simpa [ByteArray.toList_eq] using h
  cases a;cases b;simp at this;simpa using this
 ·rintro rfl;rfl
theorem Blk.setRow {w:World} {g:Nat} {t:TypeId} {cs cs':Array Value} (h:Blk w g t cs):Blk (w.setRow g cs') g t cs':=setRow_heap w g cs cs' t (0,0) h
theorem zasY (w:World) (o1 o2:Obj):Below w.heap.size w ((w.alloc o1).alloc o2):=((Below.refl _ _).alloc (Nat.le_refl _) o1).alloc (by simp) o2
theorem below_3 (w:World) (o1 o2 o3:Obj):Below w.heap.size w (((w.alloc o1).alloc o2).alloc o3):=(((Below.refl _ _).alloc (Nat.le_refl _) o1).alloc (by simp) o2).alloc (by simp;omega) o3
theorem Blk.second (w:World) (o:Obj) (t:TypeId) (cs:Array Value):Blk ((w.alloc o).alloc (.cells cs t)) (w.heap.size+1) t cs:=by
 have:=Blk.new (w.alloc o) t cs
 simpa using this
theorem blk2 {w:World} {g:Nat} {t:TypeId} {v0 v1:Value} (h:Blk w g t #[v0,v1]):w.cell? ⟨g,0,none⟩=some v0∧w.cell? ⟨g,1,none⟩=some v1:=⟨h.cell 0 _ rfl,h.cell 1 _ rfl⟩
theorem blk4 {w:World} {g:Nat} {t:TypeId} {v0 v1 v2 v3:Value} (h:Blk w g t #[v0,v1,v2,v3]):w.cell? ⟨g,0,none⟩=some v0∧w.cell? ⟨g,1,none⟩=some v1∧w.cell? ⟨g,2,none⟩=some v2∧w.cell? ⟨g,3,none⟩=some v3 :=
 ⟨h.cell 0 _ rfl,h.cell 1 _ rfl,h.cell 2 _ rfl,h.cell 3 _ rfl⟩
section
def eqV (a b:ValD):Bool:=decide (a=b)
theorem zcwY {α:Type} {a b:List α} {n:Nat} (ha:n<a.length) (hb:n<b.length) (h:a.take n=b.take n) (e:a[n]=b[n]):a.take (n+1)=b.take (n+1):=by
 rw [List.take_succ_eq_append_getElem ha,List.take_succ_eq_append_getElem hb,h,e]
theorem cell_ne {k1 k2 i1 i2 n1 n2:Int} {s1 s2:ByteArray} (h:¬ (k1=k2∧i1=i2∧s1=s2∧n1=n2)) :
  (k1 == k2)=false∨(k1=k2∧(i1 == i2)=false)∨(k1=k2∧i1=i2∧(s1.toList == s2.toList)=false)∨(k1=k2∧i1=i2∧s1=s2∧(n1 == n2)=false):=by
 by_cases a:k1=k2
 ·by_cases b:i1=i2
  ·by_cases c:s1=s2
   ·exact .inr (.inr (.inr ⟨a,b,c,by simpa using fun d=>h ⟨a,b,c,d⟩⟩))
   ·exact .inr (.inr (.inl ⟨a,b,by rw [zbfY];simpa using c⟩))
  ·exact .inr (.inl ⟨a,by simpa using b⟩)
 ·exact .inl (by simpa using a)
attribute [local go_sem] zacZ
set_option maxHeartbeats 1000000 in
theorem cells_any (a b:ValD) (va vb:Value) (w:World) (ha:ValV w va a) (hb:ValV w vb b) :
  Calls prog 15 #[va,vb] w fun e w'=>e=.returned (.bool (eqV a b))∧∃ q,w'=w.drewN q:=by
 obtain ⟨A,cap,rfl,hca,hma,hsa⟩:=ha.at;obtain ⟨B,cbp,rfl,hcb,hmb,hsb⟩:=hb.at;clear ha hb;by_cases hl:b.length=a.length
 ·rw [hl]
  have HL:=hZz hl;clear hl;go_enter func15,ntmps15
  go_wp2
  go_loopw [13] (fun i wr=>∃ n q:Nat,n≤a.length∧i=.int .i64 n∧wr=w.drewN q∧Hid (a.take n=b.take n)) (fun i _=>a.length - (intOf i).toNat)
  case atStart=>exact ⟨0,0,Nat.zero_le _,rfl,rfl,hZz rfl⟩
  case round =>
   obtain ⟨n,q,hn,rfl,rfl,HT⟩:=hrel;by_cases hlt:n<a.length
   ·have hltb:n<b.length:=by rw [HL.out];exact hlt
    have hlt':(n:Int)<(a.length:Int):=by omega
    have hn0:(0:Int)≤(n:Int):=by omega
    obtain ⟨bA,off,rfl,_⟩:=hsa.ptr hlt;obtain ⟨bB,off',rfl,_⟩:=hsb.ptr hltb;obtain ⟨⟨k1,i1,s1,n1⟩,h1⟩:∃ c,a[n]=c:=⟨_,rfl⟩
    obtain ⟨⟨k2,i2,s2,n2⟩,h2⟩:∃ c,b[n]=c:=⟨_,rfl⟩
    have c0:=hsa.cell0 hlt (v:=.int .i64 k1) (by rw [h1];rfl);have c1:=hsa.cell hlt (j:=1) (v:=.int .i64 i1) (by rw [h1];rfl);have c2:=hsa.cell hlt (j:=2) (v:=.string s1) (by rw [h1];rfl);have c3:=hsa.cell hlt (j:=3) (v:=.int .i64 n1) (by rw [h1];rfl);have d0:=hsb.cell0 hltb (v:=.int .i64 k2) (by rw [h2];rfl);have d1:=hsb.cell hltb (j:=1) (v:=.int .i64 i2) (by rw [h2];rfl);have d2:=hsb.cell hltb (j:=2) (v:=.string s2) (by rw [h2];rfl);have d3:=hsb.cell hltb (j:=3) (v:=.int .i64 n2) (by rw [h2];rfl);have H1:=hZz h1;have H2:=hZz h2;clear h1 h2;by_cases he:k1=k2∧i1=i2∧s1=s2∧n1=n2
    ·obtain ⟨rfl,rfl,rfl,rfl⟩:=he
     have HT2:=hZz (zcwY hlt hltb HT.out (H1.out.trans H2.out.symm));go_wp2
     go_quiet (fail);go_wp2
     refine ⟨⟨n+1,_,by omega,by simp,rfl,HT2⟩,by simp [intOf];omega⟩
    ·have HE:Hid (eqV a b=false):=hZz (by
      unfold eqV;rw [decide_eq_false_iff_not];rintro rfl
      have:=H1.out.symm.trans H2.out
      simp at this;exact he this)
     rcases cell_ne he with ha | ⟨rfl,ha⟩ | ⟨rfl,rfl,ha⟩ | ⟨rfl,rfl,rfl,ha⟩
     all_goals
      clear he;go_wp2
      go_quiet (fail);go_wp2
      go_ret;exact ⟨by rw [HE.out];rfl,_,World.drewN_drewN _ _ _⟩
   ·have e:n=a.length:=by omega
    subst e
    have HE:Hid (eqV a b=true):=hZz (by
     have:=HT.out
     rw [List.take_length,← HL.out,List.take_length] at this;simp [eqV,this])
    go_wp2
    go_ret;exact ⟨by rw [HE.out];rfl,q,rfl⟩
 ·have e:eqV a b=false:=by
   unfold eqV;rw [decide_eq_false_iff_not];rintro rfl;exact hl rfl
  have HE:=hZz e;have hl':((a.length:Int) != (b.length:Int))=true:=by simp;omega
  clear hl e;go_enter func15,ntmps15
  go_wp2
  go_ret;exact ⟨by rw [HE.out];rfl,0,rfl⟩
set_option maxHeartbeats 1000000 in
theorem equal_any (a b:ValD) (va vb:Value) (w:World) (ha:ValV w va a) (hb:ValV w vb b) :
  Calls prog 85 #[va,vb] w fun e w'=>e=.returned (.bool (eqV a b))∧∃ q,w'=w.drewN q:=by
 obtain ⟨A,cap,rfl,hca,hma,hsa⟩:=ha.at;obtain ⟨B,cbp,rfl,hcb,hmb,hsb⟩:=hb.at;clear ha hb;by_cases hl:b.length=a.length
 ·rw [hl]
  have HL:=hZz hl;clear hl;go_enter func85,ntmps85
  go_wp2
  go_loopw [13] (fun i wr=>∃ n q:Nat,n≤a.length∧i=.int .i64 n∧wr=w.drewN q∧Hid (a.take n=b.take n)) (fun i _=>a.length - (intOf i).toNat)
  case atStart=>exact ⟨0,0,Nat.zero_le _,rfl,rfl,hZz rfl⟩
  case round =>
   obtain ⟨n,q,hn,rfl,rfl,HT⟩:=hrel;by_cases hlt:n<a.length
   ·have hltb:n<b.length:=by rw [HL.out];exact hlt
    have hlt':(n:Int)<(a.length:Int):=by omega
    have hn0:(0:Int)≤(n:Int):=by omega
    obtain ⟨bA,off,rfl,_⟩:=hsa.ptr hlt;obtain ⟨bB,off',rfl,_⟩:=hsb.ptr hltb;obtain ⟨⟨k1,i1,s1,n1⟩,h1⟩:∃ c,a[n]=c:=⟨_,rfl⟩
    obtain ⟨⟨k2,i2,s2,n2⟩,h2⟩:∃ c,b[n]=c:=⟨_,rfl⟩
    have c0:=hsa.cell0 hlt (v:=.int .i64 k1) (by rw [h1];rfl);have c1:=hsa.cell hlt (j:=1) (v:=.int .i64 i1) (by rw [h1];rfl);have c2:=hsa.cell hlt (j:=2) (v:=.string s1) (by rw [h1];rfl);have c3:=hsa.cell hlt (j:=3) (v:=.int .i64 n1) (by rw [h1];rfl);have d0:=hsb.cell0 hltb (v:=.int .i64 k2) (by rw [h2];rfl);have d1:=hsb.cell hltb (j:=1) (v:=.int .i64 i2) (by rw [h2];rfl);have d2:=hsb.cell hltb (j:=2) (v:=.string s2) (by rw [h2];rfl);have d3:=hsb.cell hltb (j:=3) (v:=.int .i64 n2) (by rw [h2];rfl);have H1:=hZz h1;have H2:=hZz h2;clear h1 h2;by_cases he:k1=k2∧i1=i2∧s1=s2∧n1=n2
    ·obtain ⟨rfl,rfl,rfl,rfl⟩:=he
     have HT2:=hZz (zcwY hlt hltb HT.out (H1.out.trans H2.out.symm));go_wp2
     go_quiet (fail);go_wp2
     refine ⟨⟨n+1,_,by omega,by simp,rfl,HT2⟩,by simp [intOf];omega⟩
    ·have HE:Hid (eqV a b=false):=hZz (by
      unfold eqV;rw [decide_eq_false_iff_not];rintro rfl
      have:=H1.out.symm.trans H2.out
      simp at this;exact he this)
     rcases cell_ne he with ha | ⟨rfl,ha⟩ | ⟨rfl,rfl,ha⟩ | ⟨rfl,rfl,rfl,ha⟩
     all_goals
      clear he;go_wp2
      go_quiet (fail);go_wp2
      go_ret;exact ⟨by rw [HE.out];rfl,_,World.drewN_drewN _ _ _⟩
   ·have e:n=a.length:=by omega
    subst e
    have HE:Hid (eqV a b=true):=hZz (by
     have:=HT.out
     rw [List.take_length,← HL.out,List.take_length] at this;simp [eqV,this])
    go_wp2
    go_ret;exact ⟨by rw [HE.out];rfl,q,rfl⟩
 ·have e:eqV a b=false:=by
   unfold eqV;rw [decide_eq_false_iff_not];rintro rfl;exact hl rfl
  have HE:=hZz e;have hl':((a.length:Int) != (b.length:Int))=true:=by simp;omega
  clear hl e;go_enter func85,ntmps85
  go_wp2
  go_ret;exact ⟨by rw [HE.out];rfl,0,rfl⟩
theorem vsame_any (a b:ValD) (va vb:Value) (w:World) (ha:ValV w va a) (hb:ValV w vb b) :
  Calls prog 36 #[va,vb] w fun e w'=>e=.returned (.bool (eqV a b))∧∃ q,w'=w.drewN q:=by
 go_enter func36,ntmps36
 go_wp2_with (first | (go_at_call 85;refine (equal_any a b _ _ _ ha hb).mono ?_;rintro e w1 ⟨rfl,q,rfl⟩))
 go_ret;exact ⟨rfl,q,rfl⟩
end
section
attribute [local go_sem] zacZ
end
section
attribute [local go_sem] zacZ
end
section
attribute [local go_sem] zacZ
end
section
attribute [local go_sem] zacZ
end
section
attribute [local go_sem] zacZ
def smallB (l:ValD):Bool:=decide (l.length≤300) && l.all (fun c=>decide (c.str.size≤5000))
set_option maxHeartbeats 1000000 in
theorem small_any (l:ValD) (v:Value) (w:World) (h:ValV w v l) (hs:∀ c∈l,c.str.size≤140737488351232) :
  Calls prog 9 #[v] w fun e w'=>e=.returned (.bool (smallB l))∧w'=w:=by
 obtain ⟨A,cap,rfl,hca,hma,hsa⟩:=h.at;have HSA:=hZz hsa;have HSS:=hZz hs;clear h hsa hs;by_cases hl:l.length≤300
 ·have hl':((l.length:Int) > 300)=False:=by simp;omega
  go_enter func9,ntmps9
  go_wp2
  go_loop [9] (fun i=>∃ n:Nat,n≤l.length∧i=.int .i64 n∧Hid (∀ c∈l.take n,c.str.size≤5000)) (fun i=>l.length - (intOf i).toNat)
  case atStart=>exact ⟨0,Nat.zero_le _,rfl,hZz (by simp)⟩
  case round =>
   obtain ⟨n,hn,rfl,HT⟩:=hrel;by_cases hlt:n<l.length
   ·have hlt':(n:Int)<(l.length:Int):=by omega
    have hn0:(0:Int)≤(n:Int):=by omega
    have hsa:=HSA.out;obtain ⟨b,off,rfl,_⟩:=hsa.ptr hlt;obtain ⟨s,hs⟩:∃ s,l[n].str=s:=⟨_,rfl⟩
    have c2:=hsa.cell hlt (j:=2) (v:=.string s) (by rw [← hs];rfl);have hsz:=HSS.out _ (List.getElem_mem hlt);rw [hs] at hsz;have HS:=hZz hs;clear hsa hs;by_cases h5:s.size≤5000
    ·have HT2:Hid (∀ c∈l.take (n+1),c.str.size≤5000):=hZz (by
      rw [List.take_succ_eq_append_getElem hlt];intro c hc;rcases List.mem_append.1 hc with hc | hc
      ·exact HT.out c hc
      ·simp at hc;subst hc;rw [HS.out];exact h5)
     go_wp2
     refine ⟨⟨n+1,by omega,by simp,HT2⟩,by simp [intOf];omega⟩
    ·have e:smallB l=false:=by
      unfold smallB;rw [Bool.and_eq_false_iff];right
      rw [List.all_eq_false];exact ⟨l[n],List.getElem_mem hlt,by rw [HS.out];simpa using h5⟩
     have HE:=hZz e;have h5':(5000:Int)<(s.size:Int):=by omega
     clear h5 e;go_wp2
     go_ret;exact ⟨by rw [HE.out];rfl,rfl⟩
   ·have e:n=l.length:=by omega
    subst e
    have HE:Hid (smallB l=true):=hZz (by
     have:=HT.out
     rw [List.take_length] at this;simp only [smallB,Bool.and_eq_true,decide_eq_true_eq,List.all_eq_true];exact ⟨hl,this⟩)
    go_wp2
    go_ret;exact ⟨by rw [HE.out];rfl,rfl⟩
 ·have e:smallB l=false:=by unfold smallB;simp;intro h;omega
  have HE:=hZz e;have hl':(300:Int)<(l.length:Int):=by omega
  clear hl e;go_enter func9,ntmps9
  go_wp2
  go_ret;exact ⟨by rw [HE.out];rfl,rfl⟩
end
section
attribute [local go_sem] zacZ
end
section
structure OutD where
 done:Bool
 err:Int
 value:ValD
 requests:List ReqD
def OutV (w:World) (v:Value) (o:OutD):Prop:=∃ vv qv,v=.agg #[.bool o.done,.int .i64 o.err,vv,qv]∧ValV w vv o.value∧ReqsV w qv o.requests
attribute [local go_sem] zacZ
end
end Go.Proofs.YtekdhlfapejijaaGreatDoor
