/- GC4, GC10, GD6 -/
import Derived.Test.YthiimbhjpdphpaaGreatDoorPGN0
import Derived.ArgAppend
import Derived.BigQuiet
import Derived.Deep.DeepCutAuto
import Derived.Deep.LoopGhost
import Derived.Deep.QuietTactic
import Derived.Deep.RegionHeld3
import Derived.Laws.CopyOwn
import Derived.Laws.Rows
import Derived.Test.YthiimbhjpdphpaaGreatDoorProg
import Derived.Lib.LazyBuf
import Derived.Handy
set_option linter.unusedVariables false
set_option linter.unusedSimpArgs false
namespace Go.Proofs.YthiimbhjpdphpaaGreatDoor
open Go.RowKit
set_option maxRecDepth 100000
open Go.Proofs.Tryz
theorem zaeZ {B:Nat} {a w:World} (h:Below B a w) (n:Nat):Below B a (w.drewN n):=⟨h.os,h.tape,h.output,h.size,h.block⟩
theorem zadZ (w:World):Below w.heap.size w w.drew:=⟨rfl,rfl,rfl,Nat.le_refl _,fun _ _=>rfl⟩
theorem za1Y (a b:ByteArray):(a.toList == b.toList)=decide (a=b):=by
 rw [Bool.eq_iff_iff];simp only [beq_iff_eq,decide_eq_true_eq];constructor
 ·intro h
  have:a.data.toList=b.data.toList:=by simpa [ByteArray.toList_eq] using h
  cases a;cases b;simp at this;simpa using this
 ·rintro rfl;rfl
theorem Blk.setRow {w:World} {g:Nat} {t:TypeId} {cs cs':Array Value} (h:Blk w g t cs):Blk (w.setRow g cs') g t cs':=setRow_heap w g cs cs' t (0,0) h
theorem zauY (w:World) (o1 o2:Obj):Below w.heap.size w ((w.alloc o1).alloc o2):=((Below.refl _ _).alloc (Nat.le_refl _) o1).alloc (by simp) o2
theorem zbzY (w:World) (o1 o2 o3:Obj):Below w.heap.size w (((w.alloc o1).alloc o2).alloc o3):=(((Below.refl _ _).alloc (Nat.le_refl _) o1).alloc (by simp) o2).alloc (by simp;omega) o3
theorem Blk.second (w:World) (o:Obj) (t:TypeId) (cs:Array Value):Blk ((w.alloc o).alloc (.cells cs t)) (w.heap.size+1) t cs:=by
 have:=Blk.new (w.alloc o) t cs
 simpa using this
theorem blk2 {w:World} {g:Nat} {t:TypeId} {v0 v1:Value} (h:Blk w g t #[v0,v1]):w.cell? ⟨g,0,none⟩=some v0∧w.cell? ⟨g,1,none⟩=some v1:=⟨h.cell 0 _ rfl,h.cell 1 _ rfl⟩
theorem blk4 {w:World} {g:Nat} {t:TypeId} {v0 v1 v2 v3:Value} (h:Blk w g t #[v0,v1,v2,v3]):w.cell? ⟨g,0,none⟩=some v0∧w.cell? ⟨g,1,none⟩=some v1∧w.cell? ⟨g,2,none⟩=some v2∧w.cell? ⟨g,3,none⟩=some v3 :=
 ⟨h.cell 0 _ rfl,h.cell 1 _ rfl,h.cell 2 _ rfl,h.cell 3 _ rfl⟩
section
attribute [local go_sem] zabZ
end
section
attribute [local go_sem] zabZ
end
section
attribute [local go_sem] zabZ
end
section
attribute [local go_sem] zabZ
end
section
theorem own_base {w:World} {base base':Nat} {e:TypeId} {size n:Nat} {v:Value} {xs:List Value} (h:w.ownsRow base e size v n xs) (hb:base'≤base):w.ownsRow base' e size v n xs:=by
 obtain ⟨h1,h2⟩:=h;exact ⟨h1,h2.imp id (fun ⟨g,cap,cur,e1,e2,e3⟩=>⟨g,cap,cur,e1,Nat.le_trans hb e2,e3⟩)⟩
theorem own_empty (w:World) (t:TypeId) (sz:Nat):(w.alloc (.cells #[] t)).ownsRow w.heap.size t sz (.slice (some ⟨w.heap.size,0,none⟩) 0 0) 0 [] :=
 ⟨by simp,.inr ⟨w.heap.size,0,#[],rfl,Nat.le_refl _,heap_alloc_new w _,Nat.le_refl _,by simp,by simp,by simp⟩⟩
attribute [local go_sem] zabZ
end
def KT (t:TypeId) (w w':World):Prop:=w.heap.size≤w'.heap.size∧∀ (g:Nat) (o:Obj),w.heap[g]? = some o→(∀ cs fr,o≠Obj.cells cs t fr)→w'.heap[g]? = some o
theorem KT.set {t:TypeId} {w:World} {g:Nat} {cs:Array Value} (h:Blk w g t cs) (i:Nat) (u:Value):KT t w (w.setCell ⟨g,i,none⟩ u) :=
 ⟨by simp,fun k o hk ho=>by
  rw [Below.heap_setCell w ⟨g,i,none⟩ u k ?_]
  ·exact hk
  ·rintro rfl
   unfold Blk at h;rw [h] at hk;injection hk with hk
   exact ho _ _ hk.symm⟩
theorem KT.grown {t:TypeId} {w w':World} {base size n:Nat} {v:Value} {xs:List Value} (h:w.ownsRow base t size v n xs) (hg:w.grownBy w' v.ownBlock):KT t w w' :=
 ⟨hg.size,fun k o hk ho=>by
  rw [hg.block k (lt_of_block hk) ?_]
  ·exact hk
  ·intro he
   rcases h.2 with ⟨rfl,_⟩ | ⟨g,cap,cur,rfl,_,hh,_⟩
   ·cases he
   ·have:k=g:=by simpa [Value.ownBlock] using he
    subst this;rw [hh] at hk;injection hk with hk
    exact ho _ _ hk.symm⟩
theorem KT.own {t e:TypeId} {w w':World} (k:KT t w w') (hne:e≠t) {base size n:Nat} {v:Value} {xs:List Value} (h:w.ownsRow base e size v n xs):w'.ownsRow base e size v n xs:=by
 obtain ⟨h1,h2⟩:=h;refine ⟨h1,h2.imp id (fun ⟨g,cap,cur,e1,e2,e3,e4⟩=>⟨g,cap,cur,e1,e2,k.2 g _ e3 (fun cs fr hh=>?_),e4⟩)⟩
 injection hh with _ hh
 exact hne hh
theorem KT.blk {t e:TypeId} {w w':World} (k:KT t w w') (hne:e≠t) {g:Nat} {cs:Array Value} (h:Blk w g e cs):Blk w' g e cs:=by
 unfold Blk at h ⊢;exact k.2 g _ h (fun cs fr hh=>by injection hh with _ hh;exact hne hh)
def blocks (ps:List (Value × Value)):List Nat:=ps.flatMap fun p=>p.1.ownBlock.toList ++ p.2.ownBlock.toList
section
theorem mb (i:Nat) (h:i<(⟨#[109,97,105,110]⟩:ByteArray).size):(wrap32 (((⟨#[109,97,105,110]⟩:ByteArray)[i]'h).toNat:Int))=if i=0 then 109 else if i=1 then 97 else if i=2 then 105 else 110:=by
 have h4:i<4:=h
 have:i=0∨i=1∨i=2∨i=3:=by omega
 rcases this with rfl | rfl | rfl | rfl
 ·rw [show ((⟨#[109,97,105,110]⟩:ByteArray)[0]'h)=(109:UInt8) from rfl];decide +kernel
 ·rw [show ((⟨#[109,97,105,110]⟩:ByteArray)[1]'h)=(97:UInt8) from rfl];decide +kernel
 ·rw [show ((⟨#[109,97,105,110]⟩:ByteArray)[2]'h)=(105:UInt8) from rfl];decide +kernel
 ·rw [show ((⟨#[109,97,105,110]⟩:ByteArray)[3]'h)=(110:UInt8) from rfl];decide +kernel
attribute [local go_sem] mb
attribute [local go_sem] zabZ
theorem Tryz.infoTok:(prog.info? 184).map (fun i=>(i.zero,i.size,i.bytes))=some (some (.agg #[.int .i64 0,.string ByteArray.empty,.int .i64 0,.int .i64 0]),4,40):=by kernel_rfl
theorem one_own {w:World} {base:Nat} {t:TypeId} {v a b c d:Value} (h:w.ownsRow base t 4 v 1 [a,b,c,d]):∃ g cap,v=.slice (some ⟨g,0,none⟩) 1 cap∧1≤cap∧w.cell? ⟨g,0,none⟩=some a∧w.cell? ⟨g,1,none⟩=some b:=by
 have h0:=h;rcases h.2 with ⟨_,h1⟩ | ⟨g,cap,cur,rfl,_,_,h3,_⟩
 ·cases h1
 ·have hs:SlAt w (some ⟨g,0,none⟩) 4 (fun _:Unit=>[a,b,c,d]) [()]:=SlAt.of_own h0 rfl (fun _=>rfl) (by omega)
  refine ⟨g,cap,rfl,h3,?_,?_⟩
  ·have:=hs.cell (n:=0) (by simp) (j:=0) (v:=a) rfl;simpa using this
  ·have:=hs.cell (n:=0) (by simp) (j:=1) (v:=b) rfl;simpa using this
end
section
theorem blk5 {w:World} {g:Nat} {t:TypeId} {v0 v1 v2 v3 v4:Value} (h:Blk w g t #[v0,v1,v2,v3,v4]):w.cell? ⟨g,0,none⟩=some v0∧w.cell? ⟨g,1,none⟩=some v1∧w.cell? ⟨g,2,none⟩=some v2∧w.cell? ⟨g,3,none⟩=some v3∧w.cell? ⟨g,4,none⟩=some v4 :=
 ⟨h.cell 0 _ rfl,h.cell 1 _ rfl,h.cell 2 _ rfl,h.cell 3 _ rfl,h.cell 4 _ rfl⟩
attribute [local go_sem] zabZ
end
section
def shapeCells:List Value:=[
 .string ⟨#[]⟩,.bool false,.bool false,.bool false,.int .i64 0,.int .i64 0,
 .string ⟨#[110,117,108,108]⟩,.bool false,.bool false,.bool false,.int .i64 0,.int .i64 1,
 .string ⟨#[98,111,111,108]⟩,.bool true,.bool false,.bool false,.int .i64 0,.int .i64 1,
 .string ⟨#[105,110,116]⟩,.bool true,.bool false,.bool false,.int .i64 0,.int .i64 1,
 .string ⟨#[115,116,114]⟩,.bool false,.bool true,.bool false,.int .i64 0,.int .i64 1,
 .string ⟨#[108,111,97,100]⟩,.bool true,.bool false,.bool false,.int .i64 0,.int .i64 1,
 .string ⟨#[115,116,111,114,101]⟩,.bool true,.bool false,.bool false,.int .i64 1,.int .i64 0,
 .string ⟨#[112,111,112]⟩,.bool false,.bool false,.bool false,.int .i64 1,.int .i64 0,
 .string ⟨#[117,110,97,114,121]⟩,.bool false,.bool true,.bool false,.int .i64 1,.int .i64 1,
 .string ⟨#[98,105,110,97,114,121]⟩,.bool false,.bool true,.bool false,.int .i64 2,.int .i64 1,
 .string ⟨#[105,110,100,101,120]⟩,.bool false,.bool false,.bool false,.int .i64 2,.int .i64 1,
 .string ⟨#[108,105,115,116]⟩,.bool true,.bool false,.bool false,.int .i64 (-1),.int .i64 1,
 .string ⟨#[109,97,112]⟩,.bool true,.bool false,.bool true,.int .i64 (-1),.int .i64 1,
 .string ⟨#[106,117,109,112]⟩,.bool true,.bool false,.bool false,.int .i64 0,.int .i64 0,
 .string ⟨#[102,97,108,115,101]⟩,.bool true,.bool false,.bool false,.int .i64 1,.int .i64 0,
 .string ⟨#[116,101,115,116]⟩,.bool false,.bool false,.bool false,.int .i64 1,.int .i64 1,
 .string ⟨#[100,117,112]⟩,.bool false,.bool false,.bool false,.int .i64 1,.int .i64 2,
 .string ⟨#[99,97,108,108]⟩,.bool true,.bool false,.bool false,.int .i64 (-1),.int .i64 1,
 .string ⟨#[98,117,105,108,116]⟩,.bool true,.bool true,.bool false,.int .i64 (-1),.int .i64 1,
 .string ⟨#[104,111,115,116]⟩,.bool true,.bool true,.bool false,.int .i64 (-1),.int .i64 1,
 .string ⟨#[114,101,116,117,114,110]⟩,.bool false,.bool false,.bool false,.int .i64 1,.int .i64 0]
def Shaped (w:World):Prop:=∀ (i:Nat) (v:Value),shapeCells[i]? = some v→w.cell? ⟨0,i,none⟩=some v
theorem Shaped.below {w w':World} (h:Shaped w) (hb:Below w.heap.size w w'):Shaped w':=fun i v hv=>by
 have:=h i v hv
 rw [hb.cell (p:=⟨_,i,none⟩) (World.block_lt_of_cell? w _ (by rw [this]))];exact this
attribute [local go_sem] zabZ
end
section
attribute [local go_sem] zabZ
theorem Tryz.infoBool:(prog.info? 4).map (fun i=>(i.zero,i.size,i.bytes))=some (some (.bool false),1,1):=by kernel_rfl
theorem Tryz.infoInt:(prog.info? 3).map (fun i=>(i.zero,i.size,i.bytes))=some (some (.int .i64 0),1,8):=by kernel_rfl
theorem Blk.third (w:World) (o1 o2:Obj) (t:TypeId) (cs:Array Value):Blk (((w.alloc o1).alloc o2).alloc (.cells cs t)) (w.heap.size+1+1) t cs:=by
 have:=Blk.new ((w.alloc o1).alloc o2) t cs
 simpa using this
end
section
attribute [local go_sem] zabZ
end
section
attribute [local go_sem] zabZ
end
end Go.Proofs.YthiimbhjpdphpaaGreatDoor
