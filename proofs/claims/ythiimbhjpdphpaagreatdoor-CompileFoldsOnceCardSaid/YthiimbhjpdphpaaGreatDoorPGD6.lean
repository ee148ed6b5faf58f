/- GC10, GD6 -/
import Derived.Test.YthiimbhjpdphpaaGreatDoorPGC4
import Derived.Lib.LazyBuf
import Derived.Handy
set_option linter.unusedVariables false
set_option linter.unusedSimpArgs false
namespace Go.Proofs.YthiimbhjpdphpaaGreatDoor
section
open Go.RowKit
set_option maxRecDepth 100000
/-- A value whose cells lie in a row of the call's own. -/
def OVal (w:World) (base:Nat) (v:Value) (l:ValD):Prop:=w.ownsRow base 103 4 v l.length (l.flatMap CellD.cells)
theorem OVal.below {w w':World} {base:Nat} {v:Value} {l:ValD} (h:OVal w base v l) (hb:Below w.heap.size w w'):OVal w' base v l:=own_below h hb
theorem OVal.val {w:World} {base:Nat} {v:Value} {l:ValD} (h:OVal w base v l) (hm:l.length≤3518437208780):ValV w v l:=by
 rcases h.2 with ⟨rfl,hn⟩ | ⟨g,cap,cur,rfl,h1,h2,h3,h4⟩
 ·have:l=[]:=List.eq_nil_of_length_eq_zero hn
  subst this
  exact RowsV.nil none 0
 ·exact ValV.mk h3 hm (SlAt.of_own h rfl (fun _=>rfl) (by omega))
theorem cells_one (l:ValD):∀ u∈l.flatMap CellD.cells,u.oneCell'=true:=by
 intro u hu
 obtain ⟨c,_,hc⟩:=List.mem_flatMap.1 hu
 simp only [CellD.cells,List.mem_cons,List.not_mem_nil,or_false] at hc
 rcases hc with rfl | rfl | rfl | rfl <;> rfl
theorem cells_len (l:ValD):(l.flatMap CellD.cells).length=l.length * 4:=by
 induction l with
 | nil=>rfl
 | cons c r ih=>rw [List.flatMap_cons,List.length_append,ih,List.length_cons];simp [CellD.cells];omega
theorem cells_at (l:ValD) (j:Nat) (u:Value) (h:(l.flatMap CellD.cells)[j]? = some u):∃ (n k:Nat) (hn:n<l.length),j=n * 4+k∧(l[n].cells)[k]? = some u:=by
 induction l generalizing j with
 | nil=>simp at h
 | cons c r ih =>
  rw [List.flatMap_cons] at h
  by_cases hj:j<4
  ·rw [List.getElem?_append_left (by simpa [CellD.cells] using hj)] at h
   exact ⟨0,j,by simp,by omega,by simpa using h⟩
  ·rw [List.getElem?_append_right (by simp [CellD.cells];omega)] at h
   obtain ⟨n,k,hn,e,hk⟩:=ih (j - c.cells.length) h
   exact ⟨n+1,k,by simp;omega,by simp [CellD.cells] at e;omega,by simpa using hk⟩
/-- A slice held against nil. -/
theorem nil_no {T e:TypeId} (h:Tryz.prog.underlying T=some (.slice e)) (ad:Addr) (n c:Nat) (w:World):(Go.binOp .eql T (.slice (some ad) n c) (.slice none 0 0)).run Tryz.prog w=.ok (.bool false) w:=Go.run_eql_slice_nil w T e (some ad) n c h
theorem nil_yes {T e:TypeId} (h:Tryz.prog.underlying T=some (.slice e)) (n c:Nat) (w:World):(Go.binOp .eql T (.slice none n c) (.slice none 0 0)).run Tryz.prog w=.ok (.bool true) w:=Go.run_eql_slice_nil w T e none n c h
/-- An empty slice literal. -/
theorem own_empty (w:World) (t:TypeId) (sz:Nat):(w.alloc (.cells #[] t)).ownsRow w.heap.size t sz (.slice (some ⟨w.heap.size,0,none⟩) 0 0) 0 [] :=
 ⟨by simp,.inr ⟨w.heap.size,0,#[],rfl,Nat.le_refl _,heap_alloc_new w _,Nat.le_refl _,by simp,by simp,by simp⟩⟩
theorem Tryz.infoCell:(Tryz.prog.info? 103).map (fun i=>(i.zero,i.size,i.bytes))=some (some (.agg #[.int .i64 0,.int .i64 0,.string ByteArray.empty,.int .i64 0]),4,40):=by kernel_rfl
theorem Tryz.infoVal:(Tryz.prog.info? 96).map (fun i=>(i.zero,i.size,i.bytes))=some (some (.slice none 0 0),1,24):=by kernel_rfl
attribute [local go_sem] cell_alloc_is
set_option maxHeartbeats 1000000 in
theorem clone_any (l:ValD) (v:Value) (w:World) (h:ValV w v l) :
  Calls Tryz.prog 198 #[v] w fun e w'=>∃ v',e=.returned v'∧OVal w' w.heap.size v' l∧Below w.heap.size w w':=by
 obtain ⟨i0,hi,hz0,hz1,hz2⟩:=info_parts Tryz.infoCell
 obtain ⟨A,cap,rfl,hca,hma,hsa⟩:=h.at
 clear h
 cases A with
 | none =>
  have hl:l=[]:=by
   cases l with
   | nil=>rfl
   | cons c r=>obtain ⟨b,off,hb,_⟩:=hsa.ptr (n:=0) (by simp);cases hb
  subst hl
  go_enter Tryz.func198,Tryz.ntmps198
  have hnil:=fun w=>nil_yes Tryz.underlying96 0 cap w
  go_wp2
  go_ret
  exact ⟨_,rfl,World.ownsRow_nil _ _ _ _,Below.refl _ _⟩
 | some ad =>
  have HS:=Lib.hid hsa
  clear hsa
  go_enter Tryz.func198,Tryz.ntmps198
  have hnil:=fun w=>nil_no Tryz.underlying96 ad l.length cap w
  have HCL:=Lib.hid (cells_len l)
  have HAT:Hid (∀ j u,(l.flatMap CellD.cells)[j]? = some u→(w.alloc (.cells #[] 103)).cell? (ad.add j)=some u):=Lib.hid (fun j u hj=>by
   obtain ⟨n,k,hn,rfl,hk⟩:=cells_at l j u hj
   obtain ⟨b,off,e,_⟩:=HS.out.ptr hn
   cases e
   rw [addr_add,← Nat.add_assoc]
   exact (HS.out.alloc _).cell hn hk)
  have hm40:l.length * 40≤140737488355328:=by omega
  have hmm:l.length≤maxLen:=by unfold maxLen;omega
  go_wp2_with (first
   | (at_builtin;refine wpList_append_own _ rfl (.tmp 5) (.tmp 6) 96 rfl w.heap.size 103 i0 _ 4 40 Tryz.underlying96 hi hz0 hz1 hz2 rfl (by omega) _ 0 [] rfl (own_empty w _ 4) ad l.length cap (l.flatMap CellD.cells) rfl HCL.out HAT.out (cells_one l) (by simpa using hmm) (by simpa using hm40) (by simp) ?_;intro v' w1 hown hgrow _))
  go_ret
  refine ⟨_,rfl,by simpa [OVal] using hown,?_⟩
  exact (below_new w _).grown hgrow (by simp) (fun k hk=>by have h2:some w.heap.size=some k:=hk;injection h2 with h2;omega)
end
section
open Go.RowKit
set_option maxRecDepth 100000
/-- Only blocks of cells of element type t have turned, and blocks have been made. -/
def KT (t:TypeId) (w w':World):Prop:=w.heap.size≤w'.heap.size∧∀ (g:Nat) (o:Obj),w.heap[g]? = some o→(∀ cs fr,o≠Obj.cells cs t fr)→w'.heap[g]? = some o
theorem KT.set {t:TypeId} {w:World} {g:Nat} {cs:Array Value} (h:Blk w g t cs) (i:Nat) (u:Value):KT t w (w.setCell ⟨g,i,none⟩ u) :=
 ⟨by simp,fun k o hk ho=>by
  rw [Below.heap_setCell w ⟨g,i,none⟩ u k ?_]
  ·exact hk
  ·rintro rfl
   unfold Blk at h
   rw [h] at hk
   injection hk with hk
   exact ho _ _ hk.symm⟩
theorem KT.own {t e:TypeId} {w w':World} (k:KT t w w') (hne:e≠t) {base size n:Nat} {v:Value} {xs:List Value} (h:w.ownsRow base e size v n xs):w'.ownsRow base e size v n xs:=by
 obtain ⟨h1,h2⟩:=h
 refine ⟨h1,h2.imp id (fun ⟨g,cap,cur,e1,e2,e3,e4⟩=>⟨g,cap,cur,e1,e2,k.2 g _ e3 (fun cs fr hh=>?_),e4⟩)⟩
 injection hh with _ hh
 exact hne hh
theorem KT.blk {t e:TypeId} {w w':World} (k:KT t w w') (hne:e≠t) {g:Nat} {cs:Array Value} (h:Blk w g e cs):Blk w' g e cs:=by
 unfold Blk at h ⊢
 exact k.2 g _ h (fun cs fr hh=>by injection hh with _ hh;exact hne hh)
/-- The blocks of the values of frames. -/
def blocks (ps:List (Value × Value)):List Nat:=ps.flatMap fun p=>p.1.ownBlock.toList ++ p.2.ownBlock.toList
end
section
open Go.RowKit
set_option maxRecDepth 100000
theorem mb (i:Nat) (h:i<(⟨#[109,97,105,110]⟩:ByteArray).size):(wrap32 (((⟨#[109,97,105,110]⟩:ByteArray)[i]'h).toNat:Int))=if i=0 then 109 else if i=1 then 97 else if i=2 then 105 else 110:=by
 have h4:i<4:=h
 have:i=0∨i=1∨i=2∨i=3:=by omega
 rcases this with rfl | rfl | rfl | rfl
 ·rw [show ((⟨#[109,97,105,110]⟩:ByteArray)[0]'h)=(109:UInt8) from rfl];decide +kernel
 ·rw [show ((⟨#[109,97,105,110]⟩:ByteArray)[1]'h)=(97:UInt8) from rfl];decide +kernel
 ·rw [show ((⟨#[109,97,105,110]⟩:ByteArray)[2]'h)=(105:UInt8) from rfl];decide +kernel
 ·rw [show ((⟨#[109,97,105,110]⟩:ByteArray)[3]'h)=(110:UInt8) from rfl];decide +kernel
attribute [local go_sem] mb
attribute [local go_sem] cell_alloc_is
theorem Tryz.infoTok:(Tryz.prog.info? 184).map (fun i=>(i.zero,i.size,i.bytes))=some (some (.agg #[.int .i64 0,.string ByteArray.empty,.int .i64 0,.int .i64 0]),4,40):=by kernel_rfl
theorem one_own {w:World} {base:Nat} {t:TypeId} {v a b c d:Value} (h:w.ownsRow base t 4 v 1 [a,b,c,d]):∃ g cap,v=.slice (some ⟨g,0,none⟩) 1 cap∧1≤cap∧w.cell? ⟨g,0,none⟩=some a∧w.cell? ⟨g,1,none⟩=some b:=by
 have h0:=h
 rcases h.2 with ⟨_,h1⟩ | ⟨g,cap,cur,rfl,_,_,h3,_⟩
 ·cases h1
 ·have hs:SlAt w (some ⟨g,0,none⟩) 4 (fun _:Unit=>[a,b,c,d]) [()]:=SlAt.of_own h0 rfl (fun _=>rfl) (by omega)
  refine ⟨g,cap,rfl,h3,?_,?_⟩
  ·have:=hs.cell (n:=0) (by simp) (j:=0) (v:=a) rfl;simpa using this
  ·have:=hs.cell (n:=0) (by simp) (j:=1) (v:=b) rfl;simpa using this
end
section
open Go.RowKit
set_option maxRecDepth 100000
theorem blk5 {w:World} {g:Nat} {t:TypeId} {v0 v1 v2 v3 v4:Value} (h:Blk w g t #[v0,v1,v2,v3,v4]):w.cell? ⟨g,0,none⟩=some v0∧w.cell? ⟨g,1,none⟩=some v1∧w.cell? ⟨g,2,none⟩=some v2∧w.cell? ⟨g,3,none⟩=some v3∧w.cell? ⟨g,4,none⟩=some v4 :=
 ⟨h.cell 0 _ rfl,h.cell 1 _ rfl,h.cell 2 _ rfl,h.cell 3 _ rfl,h.cell 4 _ rfl⟩
attribute [local go_sem] cell_alloc_is
end
section
open Go.RowKit
set_option maxRecDepth 100000
def shapeCells:List Value:=[
 .string ⟨#[]⟩,.bool false,.bool false,.bool false,.int .i64 0,.int .i64 0,
 .string ⟨#[110,117,108,108]⟩,.bool false,.bool false,.bool false,.int .i64 0,.int .i64 1,
 .string ⟨#[98,111,111,108]⟩,.bool true,.bool false,.bool false,.int .i64 0,.int .i64 1,
 .string ⟨#[105,110,116]⟩,.bool true,.bool false,.bool false,.int .i64 0,.int .i64 1,
 .string ⟨#[115,116,114]⟩,.bool false,.bool true,.bool false,.int .i64 0,.int .i64 1,
 .string ⟨#[108,111,97,100]⟩,.bool true,.bool false,.bool false,.int .i64 0,.int .i64 1,
 .string ⟨#[115,116,111,114,101]⟩,.bool true,.bool false,.bool false,.int .i64 1,.int .i64 0,
 .string ⟨#[112,111,112]⟩,.bool false,.bool false,.bool false,.int .i64 1,.int .i64 0,
 .string ⟨#[117,110,97,114,121]⟩,.bool false,.bool true,.bool false,.int .i64 1,.int .i64 1,
 .string ⟨#[98,105,110,97,114,121]⟩,.bool false,.bool true,.bool false,.int .i64 2,.int .i64 1,
 .string ⟨#[105,110,100,101,120]⟩,.bool false,.bool false,.bool false,.int .i64 2,.int .i64 1,
 .string ⟨#[108,105,115,116]⟩,.bool true,.bool false,.bool false,.int .i64 (-1),.int .i64 1,
 .string ⟨#[109,97,112]⟩,.bool true,.bool false,.bool true,.int .i64 (-1),.int .i64 1,
 .string ⟨#[106,117,109,112]⟩,.bool true,.bool false,.bool false,.int .i64 0,.int .i64 0,
 .string ⟨#[102,97,108,115,101]⟩,.bool true,.bool false,.bool false,.int .i64 1,.int .i64 0,
 .string ⟨#[116,101,115,116]⟩,.bool false,.bool false,.bool false,.int .i64 1,.int .i64 1,
 .string ⟨#[100,117,112]⟩,.bool false,.bool false,.bool false,.int .i64 1,.int .i64 2,
 .string ⟨#[99,97,108,108]⟩,.bool true,.bool false,.bool false,.int .i64 (-1),.int .i64 1,
 .string ⟨#[98,117,105,108,116]⟩,.bool true,.bool true,.bool false,.int .i64 (-1),.int .i64 1,
 .string ⟨#[104,111,115,116]⟩,.bool true,.bool true,.bool false,.int .i64 (-1),.int .i64 1,
 .string ⟨#[114,101,116,117,114,110]⟩,.bool false,.bool false,.bool false,.int .i64 1,.int .i64 0]
/-- The table of the operations' shapes stands. -/
def Shaped (w:World):Prop:=∀ (i:Nat) (v:Value),shapeCells[i]? = some v→w.cell? ⟨0,i,none⟩=some v
theorem Shaped.below {w w':World} (h:Shaped w) (hb:Below w.heap.size w w'):Shaped w':=fun i v hv=>by
 have:=h i v hv
 rw [hb.cell (p:=⟨_,i,none⟩) (World.block_lt_of_cell? w _ (by rw [this]))]
 exact this
attribute [local go_sem] cell_alloc_is
end
section
open Go.RowKit
set_option maxRecDepth 100000
attribute [local go_sem] cell_alloc_is
theorem Tryz.infoBool:(Tryz.prog.info? 4).map (fun i=>(i.zero,i.size,i.bytes))=some (some (.bool false),1,1):=by kernel_rfl
theorem Tryz.infoInt:(Tryz.prog.info? 3).map (fun i=>(i.zero,i.size,i.bytes))=some (some (.int .i64 0),1,8):=by kernel_rfl
theorem Blk.third (w:World) (o1 o2:Obj) (t:TypeId) (cs:Array Value):Blk (((w.alloc o1).alloc o2).alloc (.cells cs t)) (w.heap.size+1+1) t cs:=by
 have:=Blk.new ((w.alloc o1).alloc o2) t cs
 simpa using this
end
section
open Go.RowKit
set_option maxRecDepth 100000
attribute [local go_sem] cell_alloc_is
end
section
open Go.RowKit
set_option maxRecDepth 100000
attribute [local go_sem] cell_alloc_is
end
end Go.Proofs.YthiimbhjpdphpaaGreatDoor
