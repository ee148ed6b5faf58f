/- GD13, GD16 -/
import Derived.Test.YtmljohbialacfaaGreatDoorPD7
import Derived.Test.YtmljohbialacfaaGreatDoorPGC6
import Derived.Deep.AppendLies
import Derived.Laws.EntriesVeiled
set_option linter.unusedVariables false
set_option linter.unusedSimpArgs false
namespace Go.Proofs.YtmljohbialacfaaGreatDoor
section
open Go.RowKit
set_option maxRecDepth 100000
/-- The cells of an executor of the law's code. -/
def exC (gF gI:Nat) (st er:Int) (vv fv qv:Value) (ls lm sp pk:Int):Array Value :=
 #[.slice (some ⟨gF,0,none⟩) 1 1,.slice (some ⟨gI,0,none⟩) 2 2,.int .i64 st,.int .i64 er,vv,fv,qv,.int .i64 ls,.int .i64 lm,.int .i64 sp,.int .i64 pk]
theorem blkE {w:World} {gE gF gI:Nat} {t:TypeId} {st er ls lm sp pk:Int} {vv fv qv:Value} (h:Blk w gE t (exC gF gI st er vv fv qv ls lm sp pk)) :
  w.cell? ⟨gE,0,none⟩=some (.slice (some ⟨gF,0,none⟩) 1 1)∧w.cell? ⟨gE,1,none⟩=some (.slice (some ⟨gI,0,none⟩) 2 2)∧w.cell? ⟨gE,2,none⟩=some (.int .i64 st)∧w.cell? ⟨gE,3,none⟩=some (.int .i64 er) ∧
  w.cell? ⟨gE,4,none⟩=some vv∧w.cell? ⟨gE,5,none⟩=some fv∧w.cell? ⟨gE,6,none⟩=some qv∧w.cell? ⟨gE,7,none⟩=some (.int .i64 ls)∧w.cell? ⟨gE,8,none⟩=some (.int .i64 lm)∧w.cell? ⟨gE,9,none⟩=some (.int .i64 sp)∧w.cell? ⟨gE,10,none⟩=some (.int .i64 pk) :=
 ⟨h.cell 0 _ rfl,h.cell 1 _ rfl,h.cell 2 _ rfl,h.cell 3 _ rfl,h.cell 4 _ rfl,h.cell 5 _ rfl,h.cell 6 _ rfl,h.cell 7 _ rfl,h.cell 8 _ rfl,h.cell 9 _ rfl,h.cell 10 _ rfl⟩
attribute [local go_sem] cell_alloc_is
set_option maxHeartbeats 4000000 in
theorem enter_ok (gF gI gE:Nat) (lm:Int) (A:Option Addr) (k:Nat) (w:World) (h:CodeAt w gF gI) (hE:Blk w gE 69 (exC gF gI 1 0 (.slice none 0 0) (.slice none 0 0) (.slice none 0 0) 10 lm 0 0)) :
  Calls Tryz.prog 25 #[.pointer (some ⟨gE,0,none⟩),.int .i64 0,.slice A 1 k] w fun e w'=>e=.returned (.tuple #[])∧∃ g' k',Blk w' gE 69 (exC gF gI 1 0 (.slice none 0 0) (.slice (some ⟨g',0,none⟩) 1 k') (.slice none 0 0) 10 lm 0 0) ∧
   w'.ownsRow w.heap.size 74 4 (.slice (some ⟨g',0,none⟩) 1 k') 1 [.int .i64 0,.int .i64 0,.slice A 1 k,.slice none 0 0]∧w.grownBy w' (some gE)∧KT 69 w w':=by
 obtain ⟨i0,hi,hz0,hz1,hz2⟩:=info_parts Tryz.infoFrame
 have hlt:gE<w.heap.size:=lt_of_block hE
 have HE:=Lib.hid hE
 have HC:=Lib.hid h
 have f0:=h.f
 have e0:=blkE hE
 have z0:=hE.frozen 5
 clear h hE
 go_enter Tryz.func25,Tryz.ntmps25
 go_wp2_with (fail)
 refine wp_loop_rounds 1 ?_
 rw [rounds_succ]
 go_wp2_with (fail)
 obtain ⟨W1,hW1⟩:∃ W1,w.alloc (.cells #[.string ⟨#[109,97,105,110]⟩,.int .i64 1,.int .i64 1,.int .i64 0,.int .i64 2] 55)=W1:=⟨_,rfl⟩
 obtain ⟨g1,hg1⟩:∃ g,w.heap.size=g:=⟨_,rfl⟩
 have HE1:Hid (Blk W1 gE 69 (exC gF gI 1 0 (.slice none 0 0) (.slice none 0 0) (.slice none 0 0) 10 lm 0 0)):=Lib.hid (by rw [← hW1];exact HE.out.alloc _)
 have HF1:Hid (Blk W1 g1 55 #[.string ⟨#[109,97,105,110]⟩,.int .i64 1,.int .i64 1,.int .i64 0,.int .i64 2]):=Lib.hid (by rw [← hW1,← hg1];exact Blk.new w _ _)
 have HB1:Hid (Below w.heap.size w W1):=Lib.hid (by rw [← hW1];exact below_new w _)
 rw [hW1]
 rw [hg1] at hlt ⊢
 have HG1:=Lib.hid hg1
 clear hW1 hg1 f0 e0 z0
 have hsz:g1≤(W1.drew.alloc (.cells #[.int .i64 0,.int .i64 0,.slice A 1 k,.slice none 0 0] 74)).heap.size:=by
  have:=HB1.out.size;rw [HG1.out] at this;exact Nat.le_trans this (by simp)
 have e1:=blkE HE1.out
 have z1:=HE1.out.frozen 5
 have f1:=blk5 HF1.out
 have HEa:=Lib.hid (HE1.out.drew.alloc (.cells #[.int .i64 0,.int .i64 0,.slice A 1 k,.slice none 0 0] 74))
 go_region_law (first
  | (rw [if_pos (by rfl)];refine wp_append_lies _ (.tmp 31) (.tmp 37) 34 rfl g1 74 i0 _ 4 64 Tryz.underlying34 hi hz0 hz1 hz2 rfl ?k1 (.slice none 0 0) 0 [] rfl (World.ownsRow_nil _ _ _ _) ⟨W1.heap.size,0,none⟩ 1 1 [.int .i64 0,.int .i64 0,.slice A 1 k,.slice none 0 0] rfl rfl (cells_new W1.drew _ 74) ?k2 ?k3 ?k4 ?k5 ?k6 _ rfl ?_;(case k1=>decide);(case k2=>simp [Value.oneCell']);(case k3=>decide);(case k4=>(unfold maxLen;omega));(case k5=>omega);(case k6=>exact hsz);intro g6 cap6 w6 hown6 hgr6 _ hlt6;have HE6:=Lib.hid (HEa.out.grown hgr6 (by simp [Value.ownBlock]));have e6:=blkE HE6.out;have z6:=HE6.out.frozen 5;have HO6:=Lib.hid hown6;have HG6:Hid ((W1.drew.alloc (.cells #[.int .i64 0,.int .i64 0,.slice A 1 k,.slice none 0 0] 74)).grownBy w6 none):=Lib.hid hgr6;clear hown6 hgr6))
 all_goals
  go_wp2_with (fail)
  go_returns
  have hne:g6≠gE:=by
   intro he
   rcases HO6.out.2 with ⟨h,_⟩ | ⟨g',c',cur',h,hb,_⟩
   ·cases h
   ·injection h with h1 _ _
    injection h1 with h1
    injection h1 with h1
    omega
  have KE:KT 69 w6 (w6.setCell ⟨gE,5,none⟩ (.slice (some ⟨g6,0,none⟩) 1 cap6)):=KT.set HE6.out 5 _
  have hb:Below w.heap.size w w6:=((HB1.out.drew.alloc HB1.out.size _).grown HG6.out (by rw [HG1.out];exact hsz) (fun _ h=>by cases h))
  refine ⟨rfl,g6,cap6,HE6.out.set_ 5 _,?_,?_,(KT.of_below hb).trans KE⟩
  ·rw [HG1.out];exact KE.own (by decide) HO6.out
  ·exact ⟨hb.os,hb.tape,hb.output,by simpa using hb.size,fun j hj hne'=>(Below.heap_setCell _ _ _ _ (fun e=>hne' (by rw [e]))).trans (hb.block j hj)⟩
end
section
open Go.RowKit
set_option maxRecDepth 100000
attribute [local go_sem] cell_alloc_is
set_option maxHeartbeats 4000000 in
theorem count_ok (m:MachD) (gF gI gE:Nat) (vv fv qv:Value) (w:World) (hst:m.status=1) (hE:Blk w gE 69 (exC gF gI m.status m.err vv fv qv m.lsteps m.lmem m.steps m.peak))
  (hv:ValV w vv m.value) (hf:FramesV w fv m.frames) (hq:ReqsV w qv m.requests) (hs:SmallF m.frames) (hn:(memN m.frames:Int)≤m.lmem) :
  Calls Tryz.prog 27 #[.pointer (some ⟨gE,0,none⟩)] w fun e w'=>e=.returned (.tuple #[])∧Blk w' gE 69 (exC gF gI m.status m.err vv fv qv m.lsteps m.lmem m.steps (max m.peak (memN m.frames)))∧w.grownBy w' (some gE)∧KT 69 w w':=by
 have HM:=Lib.hid (memory_any m _ w ⟨vv,fv,qv,rfl,hv,hf,hq⟩ hs)
 obtain ⟨A1,n1,k1,rfl⟩:=hv.shape
 obtain ⟨A2,n2,k2,rfl⟩:=hf.shape
 obtain ⟨A3,n3,k3,rfl⟩:=hq.shape
 obtain ⟨N,hN⟩:∃ N:Int,(memN m.frames:Int)=N:=⟨_,rfl⟩
 rw [hN] at HM hn ⊢
 rw [hst] at hE HM ⊢
 obtain ⟨st,er,va,fr,rq,ls,lm,sp,pk⟩:=m
 dsimp only at HM hE hn ⊢
 have HE:=Lib.hid hE
 have hlt:gE<w.heap.size:=lt_of_block hE
 have hno:¬ lm<N:=by omega
 clear hE hv hf hq hs hN hst hn
 have e0:=blkE HE.out
 go_enter Tryz.func27,Tryz.ntmps27
 go_wp2_with (first
  | (go_at_call 16;with_reducible refine HM.out.mono ?_;rintro e W1 ⟨rfl,hb1⟩;have HE1:=Lib.hid (HE.out.below hb1);have e1:=blkE HE1.out;have z1:=HE1.out.frozen 10;have HB1:=Lib.hid hb1;clear hb1))
 all_goals
  go_returns
  refine ⟨rfl,?_,?_,(KT.of_below HB1.out).trans (KT.set HE1.out 10 _)⟩
  ·first
    | (rw [show max pk N=N by omega];exact HE1.out.set_ 10 (.int .i64 N))
    | (rw [show max pk N=pk by omega];exact HE1.out.set_ 10 (.int .i64 pk))
  ·exact ⟨HB1.out.os,HB1.out.tape,HB1.out.output,by simpa using HB1.out.size,fun j hj hne'=>(Below.heap_setCell _ _ _ _ (fun e=>hne' (by rw [e]))).trans (HB1.out.block j hj)⟩
end
section
open Go.RowKit
set_option maxRecDepth 100000
def c7:CellD:=⟨3,7,⟨#[]⟩,0⟩
/-- The machine that has been started. -/
def m0 (lm:Int):MachD:=⟨1,0,[],[⟨0,0,[[c7]],[]⟩],[],10,lm,0,0⟩
def m1 (lm:Int):MachD:=⟨1,0,[],[⟨0,0,[[c7]],[]⟩],[],10,lm,0,1⟩
theorem valOne {w:World} {gV:Nat} (h:Blk w gV 62 #[.int .i64 3,.int .i64 7,.string ⟨#[]⟩,.int .i64 0]):ValV w (.slice (some ⟨gV,0,none⟩) 1 1) [c7]:=by
 refine ⟨_,1,[c7.cells],rfl,by simp,by simp,?_,rfl,fun i hi hi'=>?_⟩
 ·intro i row hr
  have hi:i=0:=by
   by_cases h0:i=0
   ·exact h0
   ·rw [List.getElem?_eq_none (by simp;omega)] at hr;cases hr
  subst hi
  simp at hr
  subst hr
  refine ⟨gV,0,rfl,lt_of_block h,fun j v hv=>?_⟩
  have:=h.cell j v (by rw [← hv,← Array.getElem?_toList];rfl)
  simpa using this
 ·have:i=0:=by simp at hi;omega
  subst this
  rfl
theorem OVal.one {w:World} {base:Nat} {v:Value} {c:CellD} (h:OVal w base v [c]):∃ A k,v=.slice A 1 k:=by
 obtain ⟨A,k,e⟩:=own_shape (show w.ownsRow base 62 4 v 1 _ from h);exact ⟨A,k,e⟩
/-- A list of one value in a block of one cell. -/
theorem valsOne {w:World} {g:Nat} {t:TypeId} {v:Value} {l:ValD} (h:Blk w g t #[v]) (hv:ValV w v l):ValsV w (.slice (some ⟨g,0,none⟩) 1 1) [l]:=by
 refine ⟨_,1,[[v]],rfl,by simp,by simp,?_,rfl,fun i hi hi'=>?_⟩
 ·intro i row hr
  have hi:i=0:=by
   by_cases h0:i=0
   ·exact h0
   ·rw [List.getElem?_eq_none (by simp;omega)] at hr;cases hr
  subst hi
  simp at hr
  subst hr
  refine ⟨g,0,rfl,lt_of_block h,fun j u hv=>?_⟩
  have:=h.cell j u (by rw [← hv,← Array.getElem?_toList])
  simpa using this
 ·have:i=0:=by simp at hi;omega
  subst this
  exact ⟨v,rfl,hv⟩
/-- One frame in an own row. -/
theorem framesOne {w:World} {base g k:Nat} {a b:Int} {lv sv:Value} {L S:List ValD} (h:w.ownsRow base 74 4 (.slice (some ⟨g,0,none⟩) 1 k) 1 [.int .i64 a,.int .i64 b,lv,sv]) (hl:ValsV w lv L) (hs:ValsV w sv S):FramesV w (.slice (some ⟨g,0,none⟩) 1 k) [⟨a,b,L,S⟩]:=by
 have hk:1≤k:=by
  rcases h.2 with ⟨_,h1⟩ | ⟨g',c',cur,e,_,_,h3,_⟩
  ·cases h1
  ·injection e with _ _ e;omega
 have hsl:SlAt w (some ⟨g,0,none⟩) 4 (fun _:Unit=>[.int .i64 a,.int .i64 b,lv,sv]) [()]:=SlAt.of_own h rfl (fun _=>rfl) (by omega)
 refine ⟨_,k,[[.int .i64 a,.int .i64 b,lv,sv]],rfl,hk,by simp,hsl,rfl,fun i hi hi'=>?_⟩
 have:i=0:=by simp at hi;omega
 subst this
 exact ⟨lv,sv,rfl,hl,hs⟩
attribute [local go_sem] cell_alloc_is
set_option maxHeartbeats 8000000 in
theorem start_ok (gF gI gV:Nat) (lm:Int) (w:World) (h:CodeAt w gF gI) (hs:Shaped w) (hV:Blk w gV 62 #[.int .i64 3,.int .i64 7,.string ⟨#[]⟩,.int .i64 0]) (h1:1≤lm) (h2:lm≤4000) :
  Calls Tryz.prog 10 #[.agg #[.slice (some ⟨gF,0,none⟩) 1 1,.slice (some ⟨gI,0,none⟩) 2 2],.slice (some ⟨gV,0,none⟩) 1 1,.agg #[.int .i64 10,.int .i64 lm]] w
   fun e w'=>∃ x,e=.returned (.tuple #[x,.int .i64 0])∧MachV w' x (m1 lm)∧Below w.heap.size w w':=by
 have hn1:¬ lm<1:=by omega
 have hn2:¬ 4000<lm:=by omega
 have HB0:=Lib.hid (below_3 w (.cells #[.slice (some ⟨gF,0,none⟩) 1 1,.slice (some ⟨gI,0,none⟩) 2 2] 25) (.cells #[.int .i64 10,.int .i64 lm] 28) (.cells #[.int .i64 0,.int .i64 0,.slice none 0 0,.slice none 0 0,.slice none 0 0,.int .i64 0,.int .i64 0,.int .i64 0,.int .i64 0] 37))
 have HX0:=Lib.hid ((((Blk.new w 25 #[.slice (some ⟨gF,0,none⟩) 1 1,.slice (some ⟨gI,0,none⟩) 2 2]).alloc (.cells #[.int .i64 10,.int .i64 lm] 28)).alloc (.cells #[.int .i64 0,.int .i64 0,.slice none 0 0,.slice none 0 0,.slice none 0 0,.int .i64 0,.int .i64 0,.int .i64 0,.int .i64 0] 37)))
 have HY0:=Lib.hid ((Blk.second w (.cells #[.slice (some ⟨gF,0,none⟩) 1 1,.slice (some ⟨gI,0,none⟩) 2 2] 25) 28 #[.int .i64 10,.int .i64 lm]).alloc (.cells #[.int .i64 0,.int .i64 0,.slice none 0 0,.slice none 0 0,.slice none 0 0,.int .i64 0,.int .i64 0,.int .i64 0,.int .i64 0] 37))
 have HZ0:=Lib.hid (Blk.third w (.cells #[.slice (some ⟨gF,0,none⟩) 1 1,.slice (some ⟨gI,0,none⟩) 2 2] 25) (.cells #[.int .i64 10,.int .i64 lm] 28) 37 #[.int .i64 0,.int .i64 0,.slice none 0 0,.slice none 0 0,.slice none 0 0,.int .i64 0,.int .i64 0,.int .i64 0,.int .i64 0])
 have HC0:=Lib.hid (h.below HB0.out)
 have HS0:=Lib.hid (hs.below HB0.out)
 have HV0:=Lib.hid (hV.below HB0.out)
 clear h hs hV h1 h2
 go_enter Tryz.func10,Tryz.ntmps10
 go_upto_region 14 with (first
  | (go_at_call 22;with_reducible refine (check_ok gF gI _ HC0.out HS0.out).mono ?_;rintro e W1 ⟨rfl,hb1⟩;have HC1:=Lib.hid (HC0.out.below hb1);have HV1:=Lib.hid (HV0.out.below hb1);have HX1:=Lib.hid (HX0.out.below hb1);have HY1:=Lib.hid (HY0.out.below hb1);have HZ1:=Lib.hid (HZ0.out.below hb1);have HB1:=Lib.hid (below_call hb1 HB0.out);have x1:=blk2 HX1.out;clear hb1)
  | (go_at_call 23;with_reducible refine (find_main gF gI _ HC1.out).mono ?_;rintro e W2 ⟨rfl,hb2⟩;have HC2:=Lib.hid (HC1.out.below hb2);have HV2:=Lib.hid (HV1.out.below hb2);have HX2:=Lib.hid (HX1.out.below hb2);have HY2:=Lib.hid (HY1.out.below hb2);have HZ2:=Lib.hid (HZ1.out.below hb2);have HB2:=Lib.hid (below_call hb2 HB1.out);have x2:=blk2 HX2.out;have f2:=HC2.out.f;clear hb2 x1)
  | (go_at_call 24;with_reducible refine (vcheck_7 gV _ HV2.out).mono ?_;rintro e W3 ⟨rfl,hb3⟩;have HC3:=Lib.hid (HC2.out.below hb3);have HV3:=Lib.hid (HV2.out.below hb3);have HX3:=Lib.hid (HX2.out.below hb3);have HY3:=Lib.hid (HY2.out.below hb3);have HZ3:=Lib.hid (HZ2.out.below hb3);have HB3:=Lib.hid (below_call hb3 HB2.out);have x3:=blk2 HX3.out;have y3':=blk2 HY3.out;clear hb3 x2 f2))
 go_upto_region 15 with fail
 obtain ⟨gE,hgE⟩:∃ g,W3.heap.size=g:=⟨_,rfl⟩
 obtain ⟨W4,hW4⟩:∃ W4,W3.alloc (.cells #[.slice (some ⟨gF,0,none⟩) 1 1,.slice (some ⟨gI,0,none⟩) 2 2,.int .i64 1,.int .i64 0,.slice none 0 0,.slice none 0 0,.slice none 0 0,.int .i64 10,.int .i64 lm,.int .i64 0,.int .i64 0] 69)=W4:=⟨_,rfl⟩
 have HE4:Hid (Blk W4 gE 69 (exC gF gI 1 0 (.slice none 0 0) (.slice none 0 0) (.slice none 0 0) 10 lm 0 0)):=Lib.hid (by rw [← hW4,← hgE];exact Blk.new W3 _ _)
 have HC4:Hid (CodeAt W4 gF gI):=Lib.hid (by rw [← hW4];exact HC3.out.below (below_new _ _))
 have HV4:Hid (Blk W4 gV 62 _):=Lib.hid (by rw [← hW4];exact HV3.out.below (below_new _ _))
 have HZ4:Hid (Blk W4 (w.heap.size+1+1) 37 _):=Lib.hid (by rw [← hW4];exact HZ3.out.below (below_new _ _))
 have HB4:Hid (Below w.heap.size w W4):=Lib.hid (by rw [← hW4];exact HB3.out.alloc HB3.out.size _)
 have hle:w.heap.size≤gE:=by rw [← hgE];exact HB3.out.size
 have HLZ:Hid (w.heap.size+1+1<gE):=Lib.hid (by rw [← hgE];exact lt_of_block HZ3.out)
 rw [hgE,hW4]
 clear hW4 hgE x3 y3'
 go_wp2_with (first
  | (go_at_call 26;with_reducible refine (clone_any [c7] _ _ (valOne HV4.out)).mono ?_;rintro e W5 ⟨v5,rfl,ho5,hb5⟩;have HE5:=Lib.hid (HE4.out.below hb5);have HC5:=Lib.hid (HC4.out.below hb5);have HZ5:=Lib.hid (HZ4.out.below hb5);have HB5:=Lib.hid (below_call hb5 HB4.out);have HO5:=Lib.hid ho5;obtain ⟨A5,k5,rfl⟩:=OVal.one ho5;have HE5':=Lib.hid (HE5.out.alloc (.cells #[.slice A5 1 k5] 26));have HL5':=Lib.hid (Blk.new W5 26 #[.slice A5 1 k5]);have HC5':=Lib.hid (HC5.out.below (below_new W5 (.cells #[.slice A5 1 k5] 26)));clear ho5 hb5)
  | (go_at_call 25;with_reducible refine (enter_ok gF gI gE lm _ _ _ HC5'.out HE5'.out).mono ?_;rintro e W6 ⟨rfl,g6,k6,hE6,hO6,hg6,hk6⟩;have HE6:=Lib.hid hE6;have HO6:=Lib.hid hO6;have HG6:=Lib.hid hg6;have HK6:=Lib.hid hk6;clear hE6 hO6 hg6 hk6))
 have hf6:FramesV W6 (.slice (some ⟨g6,0,none⟩) 1 k6) [⟨0,0,[[c7]],[]⟩] :=
  framesOne HO6.out (valsOne (HK6.out.blk (by decide) HL5'.out) ((HK6.out.oval (by decide) (HO5.out.below (below_new W5 _))).val (by simp))) (RowsV.nil none 0)
 have HF6:=Lib.hid hf6
 clear hf6
 refine (count_ok (m0 lm) gF gI gE _ _ _ W6 rfl HE6.out (RowsV.nil none 0) HF6.out (RowsV.nil none 0) ⟨by simp [m0],by simp [m0]⟩ (by simp [m0,memN,cellsN];omega)).mono ?_
 rintro e W7 ⟨rfl,hE7,hg7,hk7⟩
 have HE7:Hid (Blk W7 gE 69 (exC gF gI 1 0 (.slice none 0 0) (.slice (some ⟨g6,0,none⟩) 1 k6) (.slice none 0 0) 10 lm 0 1)):=Lib.hid hE7
 have HG7:=Lib.hid hg7
 have HK7:=Lib.hid hk7
 clear hE7 hg7 hk7
 have e7:=blkE HE7.out
 have HZ7:=Lib.hid (HK7.out.blk (by decide) (HK6.out.blk (by decide) (HZ5.out.alloc (.cells #[.slice A5 1 k5] 26))))
 have HB6:Hid (Below w.heap.size w W6):=Lib.hid ((HB5.out.alloc HB5.out.size _).grown HG6.out (Nat.le_trans HB5.out.size (by simp)) (fun j hj=>by injection hj with hj;omega))
 have HB7:Hid (Below w.heap.size w W7):=Lib.hid (HB6.out.grown HG7.out HB6.out.size (fun j hj=>by injection hj with hj;omega))
 have K8:=Lib.hid (KT.row HZ7.out #[.int .i64 1,.int .i64 0,.slice none 0 0,.slice (some ⟨g6,0,none⟩) 1 k6,.slice none 0 0,.int .i64 10,.int .i64 lm,.int .i64 0,.int .i64 1])
 have HZ8:=Lib.hid (HZ7.out.setRow (cs':=#[.int .i64 1,.int .i64 0,.slice none 0 0,.slice (some ⟨g6,0,none⟩) 1 k6,.slice none 0 0,.int .i64 10,.int .i64 lm,.int .i64 0,.int .i64 1]))
 have HB8:=Lib.hid (below_setRow HB7.out (show w.heap.size≤w.heap.size+1+1 by omega) #[.int .i64 1,.int .i64 0,.slice none 0 0,.slice (some ⟨g6,0,none⟩) 1 k6,.slice none 0 0,.int .i64 10,.int .i64 lm,.int .i64 0,.int .i64 1])
 go_wp2_with (first
  | (refine wpList_store_row rfl 37 (.tmp 6) (.tmp 73) rfl (w.heap.size+1+1) #[.int .i64 1,.int .i64 0,.slice none 0 0,.slice (some ⟨g6,0,none⟩) 1 k6,.slice none 0 0,.int .i64 10,.int .i64 lm,.int .i64 0,.int .i64 1] rfl rfl 37 _ HZ7.out (by kernel_rfl) rfl (by simp [Value.oneCell']) ?_))
 obtain ⟨WZ,hWZ⟩:∃ WZ,W7.setRow (w.heap.size+1+1) #[.int .i64 1,.int .i64 0,.slice none 0 0,.slice (some ⟨g6,0,none⟩) 1 k6,.slice none 0 0,.int .i64 10,.int .i64 lm,.int .i64 0,.int .i64 1]=WZ:=⟨_,rfl⟩
 rw [hWZ] at K8 HZ8 HB8
 try rw [hWZ]
 clear hWZ e7
 have gz:=blk9 HZ8.out
 refine bodyPost_ret (v:=.tuple #[.agg #[.int .i64 1,.int .i64 0,.slice none 0 0,.slice (some ⟨g6,0,none⟩) 1 k6,.slice none 0 0,.int .i64 10,.int .i64 lm,.int .i64 0,.int .i64 1],.int .i64 0]) (by simp [results,Tryz.results10,go_sem,gz]) rfl ?_
 refine ⟨_,rfl,⟨_,_,_,rfl,RowsV.nil none 0,?_,RowsV.nil none 0⟩,HB8.out⟩
 have KK:=(HK7.out.own (by decide) HO6.out)
 exact framesOne (K8.out.own (by decide) KK) (valsOne (K8.out.blk (by decide) (HK7.out.blk (by decide) (HK6.out.blk (by decide) HL5'.out))) ((K8.out.oval (by decide) (HK7.out.oval (by decide) (HK6.out.oval (by decide) (HO5.out.below (below_new W5 _))))).val (by simp))) (RowsV.nil none 0)
end
section
open Go.RowKit
set_option maxRecDepth 100000
attribute [local go_sem] cell_alloc_is
end
section
open Go.RowKit
set_option maxRecDepth 100000
theorem blk_ne {w:World} {g g':Nat} {t t':TypeId} {cs cs':Array Value} (h:Blk w g t cs) (h':Blk w g' t' cs') (hne:t≠t'):g≠g':=by
 rintro rfl
 unfold Blk at h h'
 rw [h] at h'
 injection h' with h'
 injection h' with _ e
 exact hne e
attribute [local go_sem] cell_alloc_is
end
section
open Go.RowKit
set_option maxRecDepth 100000
attribute [local go_sem] cell_alloc_is
end
section
open Go.RowKit
set_option maxRecDepth 100000
def actFn (i:Nat):Value:=.func (.func i) #[] #[]
/-- Operation and function of each row of the table. -/
def actL:List (Nat × Nat):=[(1,62),(2,62),(3,62),(4,62),(5,63),(6,64),(7,65),(16,66),(8,67),(9,67),(10,67),(18,67),(11,68),(12,68),(13,69),(14,69),(15,70),(17,71),(19,72),(20,73)]
def actRow (p:Nat × Nat):List Value:=[.int .i64 p.1,.func (.func p.2) #[] #[]]
theorem act_lt:∀ p∈actL,p.1<21:=by decide
theorem Tryz.infoAct:(Tryz.prog.info? 110).map (fun i=>(i.zero,i.size,i.bytes))=some (some .nilFunc,1,8):=by kernel_rfl
def noActs:Array Value:=Array.replicate 21 .nilFunc
/-- The table after k rows. -/
def actsN:Nat→Array Value
 | 0=>noActs
 | k+1=>(actsN k).setIfInBounds (actL.getD k (0,0)).1 (actFn (actL.getD k (0,0)).2)
theorem actsN_size (k:Nat):(actsN k).size=21:=by
 induction k with
 | zero=>rfl
 | succ k ih=>simp [actsN,ih]
theorem mc_a:madeCells (Value.nilFunc).cells (21 * 1)=noActs:=by kernel_rfl
theorem mk_acts (w:World):(Instr.makeSlice 79 (.int .i64 21) (.int .i64 21)).run Tryz.prog w=.ok (.slice (some ⟨w.heap.size,0,none⟩) 21 21) (w.alloc (.cells noActs 110)):=by
 obtain ⟨i0,hi,hz0,hz1,hz2⟩:=info_parts Tryz.infoAct
 have h:=run_makeSlice (P:=Tryz.prog) w 79 110 i0 _ Tryz.underlying79 hi hz0 .i64 .i64 21 21 (by omega) (by omega) (by rw [hz1];decide) (by rw [hz2];decide) (by omega)
 rw [hz1] at h
 rw [h]
 congr 3
 exact mc_a
attribute [local go_sem] cell_alloc_is
set_option maxHeartbeats 4000000 in
theorem actions_ok (w:World) :
  Calls Tryz.prog 36 #[] w fun e w'=>∃ g,e=.returned (.slice (some ⟨g,0,none⟩) 21 21)∧Blk w' g 110 (actsN 20)∧Below w.heap.size w w':=by
 have hmk:=mk_acts
 go_enter Tryz.func36,Tryz.ntmps36
 go_upto_region 2 with fail
 clear hmk
 go_upto_region 3 with fail
 have HA0:=Lib.hid ((Blk.new w 110 noActs).alloc (.cells (actL.flatMap actRow).toArray 113))
 have HB0:=Lib.hid (rows_new (g:=w.heap.size+1) (w:=w.alloc (.cells noActs 110)) (sz:=2) (c:=actRow) (by simp) (actL.flatMap actRow).toArray 113 actL rfl (fun _=>rfl) (by omega) (by decide))
 have HC0:=Lib.hid (below_2 w (.cells noActs 110) (.cells (actL.flatMap actRow).toArray 113))
 go_loopw [27] (fun i wr=>∃ k:Nat,k≤20∧i=.int .i64 k∧Blk wr w.heap.size 110 (actsN k)∧SlAt wr (some ⟨w.heap.size+1,0,none⟩) 2 actRow actL∧Below w.heap.size w wr) (fun i _=>20 - (intOf i).toNat)
 case atStart=>exact ⟨0,by omega,rfl,HA0.out,HB0.out,HC0.out⟩
 case round =>
  obtain ⟨k,hk,rfl,hba,hsb,hbel⟩:=hrel
  have HA:=Lib.hid hba
  have HS:=Lib.hid hsb
  have HB:=Lib.hid hbel
  clear hba hsb hbel HA0 HB0 HC0
  by_cases hlt:k<20
  ·have hna:k<actL.length:=hlt
   have hlt':(k:Int)<20:=by omega
   have hk0:(0:Int)≤(k:Int):=by omega
   obtain ⟨o,f,hof⟩:∃ o f,actL[k]=(o,f):=⟨_,_,rfl⟩
   have ho:o<21:=act_lt (o,f) (hof ▸ List.getElem_mem hna)
   have ho1:(o:Int)<21:=by omega
   have ho0:(0:Int)≤(o:Int):=by omega
   have c0:=HS.out.cell0 hna (v:=.int .i64 o) (by rw [hof];rfl)
   have c1:=HS.out.cell hna (j:=1) (v:=.func (.func f) #[] #[]) (by rw [hof];rfl)
   simp only [Nat.zero_add] at c0 c1
   have z0:=HA.out.frozen o
   have q0:=HA.out.cell o ((actsN k)[o]'(by rw [actsN_size];exact ho)) (Array.getElem?_eq_getElem _)
   have HN:Hid (actsN (k+1)=(actsN k).setIfInBounds o (actFn f)):=Lib.hid (by simp [actsN,List.getD_eq_getElem?_getD,List.getElem?_eq_getElem hna,hof])
   have hlt2:=HA.out.lt
   have HO:=Lib.hid hof
   clear hof
   go_wp2_with (fail)
   refine ⟨⟨k+1,by omega,by simp,?_,?_,?_⟩,by simp [intOf];omega⟩
   ·rw [HN.out]
    exact (HA.out.set_ o _).alloc _
   ·refine SlAt.alloc (fun i row hi=>?_) _
    obtain ⟨b,off,h1,h2,h3⟩:=HS.out i row hi
    injection h1 with h1
    injection h1 with h1 h4
    subst h1
    subst h4
    exact ⟨_,_,rfl,by simpa using h2,fun j v hv=>by rw [World.cell?_setCell_far _ _ _ _ (by simp)];exact h3 j v hv⟩
   ·exact (HB.out.setCell (p:=⟨w.heap.size,o,none⟩) (Nat.le_refl _) _).alloc (by simpa using HB.out.size) _
  ·have e:k=20:=by omega
   subst e
   go_wp2
   go_ret
   exact ⟨w.heap.size,rfl,HA.out,HB.out⟩
end
section
open Go.RowKit
set_option maxRecDepth 100000
attribute [local go_sem] cell_alloc_is
end
section
open Go.RowKit
set_option maxRecDepth 100000
attribute [local go_sem] cell_alloc_is
end
end Go.Proofs.YtmljohbialacfaaGreatDoor
