/- GC10, GD6 -/
import Derived.Test.YtekdhlfapejijaaGreatDoorPC7
import Derived.Lib.LazyBuf
import Derived.Handy
set_option linter.unusedVariables false
set_option linter.unusedSimpArgs false
namespace Go.Proofs.YtekdhlfapejijaaGreatDoor
open Go.RowKit
set_option maxRecDepth 100000
open Go.Proofs.Tryz
section
def OVal (w:World) (base:Nat) (v:Value) (l:ValD):Prop:=w.ownsRow base 53 4 v l.length (l.flatMap CellD.cells)
theorem OVal.below {w w':World} {base:Nat} {v:Value} {l:ValD} (h:OVal w base v l) (hb:Below w.heap.size w w'):OVal w' base v l:=zajZ h hb
theorem own_base {w:World} {base base':Nat} {e:TypeId} {size n:Nat} {v:Value} {xs:List Value} (h:w.ownsRow base e size v n xs) (hb:base'≤base):w.ownsRow base' e size v n xs:=by
 obtain ⟨h1,h2⟩:=h;exact ⟨h1,h2.imp id (fun ⟨g,cap,cur,e1,e2,e3⟩=>⟨g,cap,cur,e1,Nat.le_trans hb e2,e3⟩)⟩
theorem OVal.val {w:World} {base:Nat} {v:Value} {l:ValD} (h:OVal w base v l) (hm:l.length≤3518437208780):ValV w v l:=by
 rcases h.2 with ⟨rfl,hn⟩ | ⟨g,cap,cur,rfl,h1,h2,h3,h4⟩
 ·have:l=[]:=List.eq_nil_of_length_eq_zero hn
  subst this;exact RowsV.nil none 0
 ·exact ValV.mk h3 hm (SlAt.of_own h rfl (fun _=>rfl) (by omega))
theorem zbcY (l:ValD):∀ u∈l.flatMap CellD.cells,u.oneCell'=true:=by
 intro u hu;obtain ⟨c,_,hc⟩:=List.mem_flatMap.1 hu;simp only [CellD.cells,List.mem_cons,List.not_mem_nil,or_false] at hc;rcases hc with rfl | rfl | rfl | rfl <;> rfl
theorem zawY (l:ValD):(l.flatMap CellD.cells).length=l.length * 4:=by
 induction l with
 | nil=>rfl
 | cons c r ih=>rw [List.flatMap_cons,List.length_append,ih,List.length_cons];simp [CellD.cells];omega
theorem cells_at (l:ValD) (j:Nat) (u:Value) (h:(l.flatMap CellD.cells)[j]? = some u):∃ (n k:Nat) (hn:n<l.length),j=n * 4+k∧(l[n].cells)[k]? = some u:=by
 induction l generalizing j with
 | nil=>simp at h
 | cons c r ih =>
  rw [List.flatMap_cons] at h;by_cases hj:j<4
  ·rw [List.getElem?_append_left (by simpa [CellD.cells] using hj)] at h
   exact ⟨0,j,by simp,by omega,by simpa using h⟩
  ·rw [List.getElem?_append_right (by simp [CellD.cells];omega)] at h
   obtain ⟨n,k,hn,e,hk⟩:=ih (j - c.cells.length) h;exact ⟨n+1,k,by simp;omega,by simp [CellD.cells] at e;omega,by simpa using hk⟩
theorem nil_no {T e:TypeId} (h:prog.underlying T=some (.slice e)) (ad:Addr) (n c:Nat) (w:World):(Go.binOp .eql T (.slice (some ad) n c) (.slice none 0 0)).run prog w=.ok (.bool false) w:=Go.run_eql_slice_nil w T e (some ad) n c h
theorem nil_yes {T e:TypeId} (h:prog.underlying T=some (.slice e)) (n c:Nat) (w:World):(Go.binOp .eql T (.slice none n c) (.slice none 0 0)).run prog w=.ok (.bool true) w:=Go.run_eql_slice_nil w T e none n c h
theorem own_empty (w:World) (t:TypeId) (sz:Nat):(w.alloc (.cells #[] t)).ownsRow w.heap.size t sz (.slice (some ⟨w.heap.size,0,none⟩) 0 0) 0 [] :=
 ⟨by simp,.inr ⟨w.heap.size,0,#[],rfl,Nat.le_refl _,heap_alloc_new w _,Nat.le_refl _,by simp,by simp,by simp⟩⟩
theorem Tryz.infoCell:(prog.info? 53).map (fun i=>(i.zero,i.size,i.bytes))=some (some (.agg #[.int .i64 0,.int .i64 0,.string ByteArray.empty,.int .i64 0]),4,40):=by kernel_rfl
theorem Tryz.infoVal:(prog.info? 22).map (fun i=>(i.zero,i.size,i.bytes))=some (some (.slice none 0 0),1,24):=by kernel_rfl
attribute [local go_sem] zacZ
set_option maxHeartbeats 1000000 in
theorem zbsY (l:ValD) (v:Value) (w:World) (h:ValV w v l) :
  Calls prog 72 #[v] w fun e w'=>∃ v',e=.returned v'∧OVal w' w.heap.size v' l∧Below w.heap.size w w':=by
 obtain ⟨i0,hi,hz0,hz1,hz2⟩:=info_parts Tryz.infoCell;obtain ⟨A,cap,rfl,hca,hma,hsa⟩:=h.at;clear h;cases A with
 | none =>
  have hl:l=[]:=by
   cases l with
   | nil=>rfl
   | cons c r=>obtain ⟨b,off,hb,_⟩:=hsa.ptr (n:=0) (by simp);cases hb
  subst hl;go_enter func72,ntmps72
  have hnil:=fun w=>nil_yes underlying22 0 cap w
  go_wp2
  go_ret;exact ⟨_,rfl,World.ownsRow_nil _ _ _ _,Below.refl _ _⟩
 | some ad =>
  have HS:=hZz hsa;clear hsa;go_enter func72,ntmps72
  have hnil:=fun w=>nil_no underlying22 ad l.length cap w
  have HCL:=hZz (zawY l)
  have HAT:Hid (∀ j u,(l.flatMap CellD.cells)[j]? = some u→(w.alloc (.cells #[] 53)).cell? (ad.add j)=some u):=hZz (fun j u hj=>by
   obtain ⟨n,k,hn,rfl,hk⟩:=cells_at l j u hj;obtain ⟨b,off,e,_⟩:=HS.out.ptr hn;cases e
   rw [zanY,← Nat.add_assoc];exact (HS.out.alloc _).cell hn hk)
  have hm40:l.length * 40≤140737488355328:=by omega
  have hmm:l.length≤maxLen:=by unfold maxLen;omega
  go_wp2_with (first
   | (at_builtin;refine wpList_append_own _ rfl (.tmp 5) (.tmp 6) 22 rfl w.heap.size 53 i0 _ 4 40 underlying22 hi hz0 hz1 hz2 rfl (by omega) _ 0 [] rfl (own_empty w _ 4) ad l.length cap (l.flatMap CellD.cells) rfl HCL.out HAT.out (zbcY l) (by simpa using hmm) (by simpa using hm40) (by simp) ?_;intro v' w1 hown hgrow _))
  go_ret;refine ⟨_,rfl,by simpa [OVal] using hown,?_⟩
  exact (zabZ w _).grown hgrow (by simp) (fun k hk=>by have h2:some w.heap.size=some k:=hk;injection h2 with h2;omega)
end
def KT (t:TypeId) (w w':World):Prop:=w.heap.size≤w'.heap.size∧∀ (g:Nat) (o:Obj),w.heap[g]? = some o→(∀ cs fr,o≠Obj.cells cs t fr)→w'.heap[g]? = some o
theorem KT.set {t:TypeId} {w:World} {g:Nat} {cs:Array Value} (h:Blk w g t cs) (i:Nat) (u:Value):KT t w (w.setCell ⟨g,i,none⟩ u) :=
 ⟨by simp,fun k o hk ho=>by
  rw [Below.heap_setCell w ⟨g,i,none⟩ u k ?_]
  ·exact hk
  ·rintro rfl
   unfold Blk at h;rw [h] at hk;injection hk with hk
   exact ho _ _ hk.symm⟩
theorem KT.grown {t:TypeId} {w w':World} {base size n:Nat} {v:Value} {xs:List Value} (h:w.ownsRow base t size v n xs) (hg:w.grownBy w' v.ownBlock):KT t w w' :=
 ⟨hg.size,fun k o hk ho=>by
  rw [hg.block k (lt_of_block hk) ?_]
  ·exact hk
  ·intro he
   rcases h.2 with ⟨rfl,_⟩ | ⟨g,cap,cur,rfl,_,hh,_⟩
   ·cases he
   ·have:k=g:=by simpa [Value.ownBlock] using he
    subst this;rw [hh] at hk;injection hk with hk
    exact ho _ _ hk.symm⟩
theorem KT.own {t e:TypeId} {w w':World} (k:KT t w w') (hne:e≠t) {base size n:Nat} {v:Value} {xs:List Value} (h:w.ownsRow base e size v n xs):w'.ownsRow base e size v n xs:=by
 obtain ⟨h1,h2⟩:=h;refine ⟨h1,h2.imp id (fun ⟨g,cap,cur,e1,e2,e3,e4⟩=>⟨g,cap,cur,e1,e2,k.2 g _ e3 (fun cs fr hh=>?_),e4⟩)⟩
 injection hh with _ hh
 exact hne hh
theorem KT.blk {t e:TypeId} {w w':World} (k:KT t w w') (hne:e≠t) {g:Nat} {cs:Array Value} (h:Blk w g e cs):Blk w' g e cs:=by
 unfold Blk at h ⊢;exact k.2 g _ h (fun cs fr hh=>by injection hh with _ hh;exact hne hh)
def blocks (ps:List (Value × Value)):List Nat:=ps.flatMap fun p=>p.1.ownBlock.toList ++ p.2.ownBlock.toList
theorem Tryz.infoReq:(prog.info? 60).map (fun i=>(i.zero,i.size,i.bytes))=some (some (.agg #[.string ByteArray.empty,.slice none 0 0]),2,40):=by kernel_rfl
section
theorem mb (i:Nat) (h:i<(⟨#[109,97,105,110]⟩:ByteArray).size):(wrap32 (((⟨#[109,97,105,110]⟩:ByteArray)[i]'h).toNat:Int))=if i=0 then 109 else if i=1 then 97 else if i=2 then 105 else 110:=by
 have h4:i<4:=h
 have:i=0∨i=1∨i=2∨i=3:=by omega
 rcases this with rfl | rfl | rfl | rfl
 ·rw [show ((⟨#[109,97,105,110]⟩:ByteArray)[0]'h)=(109:UInt8) from rfl];decide +kernel
 ·rw [show ((⟨#[109,97,105,110]⟩:ByteArray)[1]'h)=(97:UInt8) from rfl];decide +kernel
 ·rw [show ((⟨#[109,97,105,110]⟩:ByteArray)[2]'h)=(105:UInt8) from rfl];decide +kernel
 ·rw [show ((⟨#[109,97,105,110]⟩:ByteArray)[3]'h)=(110:UInt8) from rfl];decide +kernel
attribute [local go_sem] mb
attribute [local go_sem] zacZ
theorem Tryz.infoTok:(prog.info? 161).map (fun i=>(i.zero,i.size,i.bytes))=some (some (.agg #[.int .i64 0,.string ByteArray.empty,.int .i64 0,.int .i64 0]),4,40):=by kernel_rfl
end
section
attribute [local go_sem] zacZ
end
section
attribute [local go_sem] zacZ
end
section
attribute [local go_sem] zacZ
theorem Blk.third (w:World) (o1 o2:Obj) (t:TypeId) (cs:Array Value):Blk (((w.alloc o1).alloc o2).alloc (.cells cs t)) (w.heap.size+1+1) t cs:=by
 have:=Blk.new ((w.alloc o1).alloc o2) t cs
 simpa using this
end
section
attribute [local go_sem] zacZ
end
section
attribute [local go_sem] zacZ
end
end Go.Proofs.YtekdhlfapejijaaGreatDoor
