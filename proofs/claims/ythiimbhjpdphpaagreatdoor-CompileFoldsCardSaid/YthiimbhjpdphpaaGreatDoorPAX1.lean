/- GD6, AX1 -/
import Derived.Test.YthiimbhjpdphpaaGreatDoorPGC10
import Derived.Handy
set_option linter.unusedVariables false
set_option linter.unusedSimpArgs false
namespace Go.Proofs.YthiimbhjpdphpaaGreatDoor
open Go.RowKit
set_option maxRecDepth 100000
set_option maxHeartbeats 8000000
open Go.Proofs.Tryz
section
theorem zbnY (c:Int) (w:World) (h:97≤c) (h2:c≤122) :
  Calls prog 208 #[.int .i32 c] w fun e w'=>e=.returned (.int .i64 2)∧w'=w:=by
 have h3:(c == 32)=false:=by simp;omega
 have h4:(c == 9)=false:=by simp;omega
 have h5:(c == 10)=false:=by simp;omega
 go_enter func208,ntmps208
 go_wp2
 go_ret;exact ⟨rfl,rfl⟩
theorem mb (i:Nat) (h:i<(⟨#[109,97,105,110]⟩:ByteArray).size):(wrap32 (((⟨#[109,97,105,110]⟩:ByteArray)[i]'h).toNat:Int))=if i=0 then 109 else if i=1 then 97 else if i=2 then 105 else 110:=by
 have h4:i<4:=h
 have:i=0∨i=1∨i=2∨i=3:=by omega
 rcases this with rfl | rfl | rfl | rfl
 ·rw [show ((⟨#[109,97,105,110]⟩:ByteArray)[0]'h)=(109:UInt8) from rfl];decide +kernel
 ·rw [show ((⟨#[109,97,105,110]⟩:ByteArray)[1]'h)=(97:UInt8) from rfl];decide +kernel
 ·rw [show ((⟨#[109,97,105,110]⟩:ByteArray)[2]'h)=(105:UInt8) from rfl];decide +kernel
 ·rw [show ((⟨#[109,97,105,110]⟩:ByteArray)[3]'h)=(110:UInt8) from rfl];decide +kernel
theorem mx:(((⟨#[109,97,105,110]⟩:ByteArray).extract 0 2).toList == [47,47])=false:=by kernel_rfl
attribute [local go_sem] mb mx
theorem has_main (w:World):Calls prog 209 #[.string ⟨#[109,97,105,110]⟩,.string ⟨#[47,47]⟩] w fun e w'=>e=.returned (.bool false)∧w'=w:=by
 go_enter func209,ntmps209
 go_wp2_with (fail)
 have h:Calls prog 229 #[.string ⟨#[109,97,105,110]⟩,.string ⟨#[47,47]⟩] w fun e w'=>e=.returned (.bool false)∧w'=w:=by
  go_enter func229,ntmps229
  go_wp2
  go_ret;exact ⟨rfl,rfl⟩
 refine h.mono ?_
 rintro e w' ⟨rfl,rfl⟩;go_wp2
 go_ret;exact ⟨rfl,rfl⟩
theorem keyword_main (w:World):Calls prog 174 #[.string ⟨#[109,97,105,110]⟩] w fun e w'=>e=.returned (.bool false)∧w'=w:=by
 go_enter func174,ntmps174
 go_wp2
 go_ret;exact ⟨rfl,rfl⟩
theorem skip_main (w:World):Calls prog 179 #[.string ⟨#[109,97,105,110]⟩] w fun e w'=>e=.returned (.int .i64 0)∧w'=w:=by
 go_enter func179,ntmps179
 go_wp2_with (fail)
 refine wp_loop_rounds 1 ?_
 rw [rounds_succ]
 go_wp2_with (first
  | (go_at_call 208;with_reducible refine (zbnY _ _ (by decide) (by decide)).mono ?_;rintro e w1 ⟨rfl,rfl⟩)
  | (go_at_call 209;refine (has_main _).mono ?_;rintro e w1 ⟨rfl,rfl⟩))
 go_ret;exact ⟨rfl,rfl⟩
theorem skip_empty (b:ByteArray) (w:World) (hb:b.size=0):Calls prog 179 #[.string b] w fun e w'=>e=.returned (.int .i64 0)∧w'=w:=by
 go_enter func179,ntmps179
 go_wp2_with (fail)
 refine wp_loop_rounds 1 ?_
 rw [rounds_succ];go_wp2
 go_ret;exact ⟨rfl,rfl⟩
theorem run_main (w:World):Calls prog 211 #[.string ⟨#[109,97,105,110]⟩] w fun e w'=>e=.returned (.int .i64 4)∧w'=w:=by
 go_enter func211,ntmps211
 go_wp2_with (fail)
 refine wp_loop_rounds 5 ?_
 rw [rounds_succ]
 go_wp2_with (first
  | (go_at_call 208;with_reducible refine (zbnY _ _ (by decide) (by decide)).mono ?_;rintro e w1 ⟨rfl,rfl⟩))
 rw [rounds_succ]
 go_wp2_with (first
  | (go_at_call 208;with_reducible refine (zbnY _ _ (by decide) (by decide)).mono ?_;rintro e w1 ⟨rfl,rfl⟩))
 rw [rounds_succ]
 go_wp2_with (first
  | (go_at_call 208;with_reducible refine (zbnY _ _ (by decide) (by decide)).mono ?_;rintro e w1 ⟨rfl,rfl⟩))
 rw [rounds_succ]
 go_wp2_with (first
  | (go_at_call 208;with_reducible refine (zbnY _ _ (by decide) (by decide)).mono ?_;rintro e w1 ⟨rfl,rfl⟩))
 rw [rounds_succ];go_wp2
 go_ret;exact ⟨rfl,rfl⟩
attribute [local go_sem] zacZ
theorem mf:(⟨#[109,97,105,110]⟩:ByteArray).extract 0 4=⟨#[109,97,105,110]⟩:=by decide +kernel
attribute [local go_sem] mf
set_option maxHeartbeats 2000000 in
theorem token_main (w:World):Calls prog 180 #[.string ⟨#[109,97,105,110]⟩] w fun e w'=>e=.returned (.tuple #[.agg #[.int .i64 1,.string ⟨#[109,97,105,110]⟩,.int .i64 0,.int .i64 0],.int .i64 4,.int .i64 0])∧Below w.heap.size w w':=by
 go_enter func180,ntmps180
 go_wp2_with (first
  | (go_at_call 208;with_reducible refine (zbnY _ _ (by decide) (by decide)).mono ?_;rintro e w1 ⟨rfl,hw1⟩;subst hw1)
  | (go_at_call 211;with_reducible refine (run_main _).mono ?_;rintro e w1 ⟨rfl,hw2⟩;subst hw2)
  | (go_at_call 174;with_reducible refine (keyword_main _).mono ?_;rintro e w1 ⟨rfl,hw3⟩;subst hw3))
 go_returns;exact ⟨rfl,by go_grown⟩
theorem Tryz.infoTok:(prog.info? 184).map (fun i=>(i.zero,i.size,i.bytes))=some (some (.agg #[.int .i64 0,.string ByteArray.empty,.int .i64 0,.int .i64 0]),4,40):=by kernel_rfl
def TokPost (w:World) (e:Ending) (w':World):Prop :=
 ∃ g cap,e=.returned (.tuple #[.slice (some ⟨g,0,none⟩) 1 cap,.int .i64 0,.int .i64 0])∧w'.cell? ⟨g,0,none⟩=some (.int .i64 1)∧w'.cell? ⟨g,1,none⟩=some (.string ⟨#[109,97,105,110]⟩)∧1≤cap∧Below w.heap.size w w'
theorem one_own {w:World} {base:Nat} {t:TypeId} {v a b c d:Value} (h:w.ownsRow base t 4 v 1 [a,b,c,d]):∃ g cap,v=.slice (some ⟨g,0,none⟩) 1 cap∧1≤cap∧w.cell? ⟨g,0,none⟩=some a∧w.cell? ⟨g,1,none⟩=some b:=by
 have h0:=h;rcases h.2 with ⟨_,h1⟩ | ⟨g,cap,cur,rfl,_,_,h3,_⟩
 ·cases h1
 ·have hs:SlAt w (some ⟨g,0,none⟩) 4 (fun _:Unit=>[a,b,c,d]) [()]:=SlAt.of_own h0 rfl (fun _=>rfl) (by omega)
  refine ⟨g,cap,rfl,h3,?_,?_⟩
  ·have:=hs.cell (n:=0) (by simp) (j:=0) (v:=a) rfl;simpa using this
  ·have:=hs.cell (n:=0) (by simp) (j:=1) (v:=b) rfl;simpa using this
set_option maxHeartbeats 2000000 in
theorem tokens_main (w:World):Calls prog 141 #[.string ⟨#[109,97,105,110]⟩] w (TokPost w):=by
 obtain ⟨i0,hi,hz0,hz1,hz2⟩:=info_parts Tryz.infoTok;obtain ⟨P,hP⟩:∃ P,TokPost w=P:=⟨_,rfl⟩
 rw [hP];have HP:=hZz hP;clear hP;go_enter func141,ntmps141
 go_wp2_with (first
  | (go_at_call 179;with_reducible refine (skip_main _).mono ?_;rintro e w1 ⟨rfl,hw1⟩;rw [hw1];clear hw1 w1))
 refine wp_loop_rounds 2 ?_
 rw [rounds_succ]
 go_wp2_with (first
  | (go_at_call 180;with_reducible refine (token_main _).mono ?_;rintro e w2 ⟨rfl,hb2⟩;have HB2:=hZz hb2;have hsz:w.heap.size≤(w2.alloc (.cells #[.int .i64 1,.string ⟨#[109,97,105,110]⟩,.int .i64 0,.int .i64 0] 184)).heap.size:=Nat.le_trans hb2.size (by simp);clear hb2)
  | (at_builtin;refine za6Y rfl (.tmp 45) (.tmp 47) 179 rfl i0 _ 40 underlying179 hi hz0 hz1 hz2 rfl (by omega) rfl (World.ownsRow_nil _ w.heap.size _ _) [.int .i64 1,.string ⟨#[109,97,105,110]⟩,.int .i64 0,.int .i64 0] (by simp [go_sem]) rfl (by simp [Value.oneCell']) (by omega) (by omega) hsz ?_;intro v' w3 hown3 hb3 hs3 hg3;obtain ⟨g3,k3,rfl,hk3,hc0,hc1⟩:=one_own hown3;have HO3:=hZz (And.intro hc0 (And.intro hc1 hk3));clear hc0 hc1 hk3;have HB3:=hZz hb3;clear hown3 hb3 hs3 hg3)
  | (go_at_call 179;with_reducible refine (skip_empty _ _ (by decide)).mono ?_;rintro e w4 ⟨rfl,hw4⟩;rw [hw4];clear hw4 w4))
 rw [rounds_succ];go_wp2
 rw [← HP.out];exact ⟨g3,k3,rfl,HO3.out.1,HO3.out.2.1,HO3.out.2.2,(HB2.out.alloc HB2.out.size _).trans HB3.out⟩
set_option maxHeartbeats 2000000 in
theorem name_main (w:World):Calls prog 93 #[.string ⟨#[109,97,105,110]⟩] w fun e w'=>e=.returned (.bool true)∧Below w.heap.size w w':=by
 go_enter func93,ntmps93
 go_wp2_with (fail)
 refine (tokens_main _).mono ?_
 rintro e w1 ⟨g,cap,rfl,h0,h1,h2,hb⟩;have HB:=hZz hb;clear hb;go_wp2
 go_returns;exact ⟨rfl,HB.out⟩
end
section
theorem blk5 {w:World} {g:Nat} {t:TypeId} {v0 v1 v2 v3 v4:Value} (h:Blk w g t #[v0,v1,v2,v3,v4]):w.cell? ⟨g,0,none⟩=some v0∧w.cell? ⟨g,1,none⟩=some v1∧w.cell? ⟨g,2,none⟩=some v2∧w.cell? ⟨g,3,none⟩=some v3∧w.cell? ⟨g,4,none⟩=some v4 :=
 ⟨h.cell 0 _ rfl,h.cell 1 _ rfl,h.cell 2 _ rfl,h.cell 3 _ rfl,h.cell 4 _ rfl⟩
attribute [local go_sem] zacZ
end
section
def shapeCells:List Value:=[
 .string ⟨#[]⟩,.bool false,.bool false,.bool false,.int .i64 0,.int .i64 0,
 .string ⟨#[110,117,108,108]⟩,.bool false,.bool false,.bool false,.int .i64 0,.int .i64 1,
 .string ⟨#[98,111,111,108]⟩,.bool true,.bool false,.bool false,.int .i64 0,.int .i64 1,
 .string ⟨#[105,110,116]⟩,.bool true,.bool false,.bool false,.int .i64 0,.int .i64 1,
 .string ⟨#[115,116,114]⟩,.bool false,.bool true,.bool false,.int .i64 0,.int .i64 1,
 .string ⟨#[108,111,97,100]⟩,.bool true,.bool false,.bool false,.int .i64 0,.int .i64 1,
 .string ⟨#[115,116,111,114,101]⟩,.bool true,.bool false,.bool false,.int .i64 1,.int .i64 0,
 .string ⟨#[112,111,112]⟩,.bool false,.bool false,.bool false,.int .i64 1,.int .i64 0,
 .string ⟨#[117,110,97,114,121]⟩,.bool false,.bool true,.bool false,.int .i64 1,.int .i64 1,
 .string ⟨#[98,105,110,97,114,121]⟩,.bool false,.bool true,.bool false,.int .i64 2,.int .i64 1,
 .string ⟨#[105,110,100,101,120]⟩,.bool false,.bool false,.bool false,.int .i64 2,.int .i64 1,
 .string ⟨#[108,105,115,116]⟩,.bool true,.bool false,.bool false,.int .i64 (-1),.int .i64 1,
 .string ⟨#[109,97,112]⟩,.bool true,.bool false,.bool true,.int .i64 (-1),.int .i64 1,
 .string ⟨#[106,117,109,112]⟩,.bool true,.bool false,.bool false,.int .i64 0,.int .i64 0,
 .string ⟨#[102,97,108,115,101]⟩,.bool true,.bool false,.bool false,.int .i64 1,.int .i64 0,
 .string ⟨#[116,101,115,116]⟩,.bool false,.bool false,.bool false,.int .i64 1,.int .i64 1,
 .string ⟨#[100,117,112]⟩,.bool false,.bool false,.bool false,.int .i64 1,.int .i64 2,
 .string ⟨#[99,97,108,108]⟩,.bool true,.bool false,.bool false,.int .i64 (-1),.int .i64 1,
 .string ⟨#[98,117,105,108,116]⟩,.bool true,.bool true,.bool false,.int .i64 (-1),.int .i64 1,
 .string ⟨#[104,111,115,116]⟩,.bool true,.bool true,.bool false,.int .i64 (-1),.int .i64 1,
 .string ⟨#[114,101,116,117,114,110]⟩,.bool false,.bool false,.bool false,.int .i64 1,.int .i64 0]
def Shaped (w:World):Prop:=∀ (i:Nat) (v:Value),shapeCells[i]? = some v→w.cell? ⟨0,i,none⟩=some v
theorem Shaped.below {w w':World} (h:Shaped w) (hb:Below w.heap.size w w'):Shaped w':=fun i v hv=>by
 have:=h i v hv
 rw [hb.cell (p:=⟨_,i,none⟩) (World.block_lt_of_cell? w _ (by rw [this]))];exact this
theorem Shaped.s5 {w:World} (h:Shaped w):w.cell? ⟨0,30,none⟩=some (.string ⟨#[108,111,97,100]⟩)∧w.cell? ⟨0,31,none⟩=some (.bool true)∧w.cell? ⟨0,32,none⟩=some (.bool false)∧w.cell? ⟨0,33,none⟩=some (.bool false)∧w.cell? ⟨0,34,none⟩=some (.int .i64 0)∧w.cell? ⟨0,35,none⟩=some (.int .i64 1):=⟨h 30 _ rfl,h 31 _ rfl,h 32 _ rfl,h 33 _ rfl,h 34 _ rfl,h 35 _ rfl⟩
theorem Shaped.s20 {w:World} (h:Shaped w):w.cell? ⟨0,120,none⟩=some (.string ⟨#[114,101,116,117,114,110]⟩)∧w.cell? ⟨0,121,none⟩=some (.bool false)∧w.cell? ⟨0,122,none⟩=some (.bool false)∧w.cell? ⟨0,123,none⟩=some (.bool false)∧w.cell? ⟨0,124,none⟩=some (.int .i64 1)∧w.cell? ⟨0,125,none⟩=some (.int .i64 0):=⟨h 120 _ rfl,h 121 _ rfl,h 122 _ rfl,h 123 _ rfl,h 124 _ rfl,h 125 _ rfl⟩
attribute [local go_sem] zacZ
end
section
attribute [local go_sem] zacZ
set_option maxHeartbeats 2000000 in
theorem succ_load (w:World) :
  Calls prog 99 #[.agg #[.int .i64 5,.int .i64 0,.string ⟨#[]⟩,.slice none 0 0],.int .i64 0] w fun e w'=>∃ g,e=.returned (.slice (some ⟨g,0,none⟩) 1 1)∧w'.cell? ⟨g,0,none⟩=some (.int .i64 1)∧w.heap.size≤g∧Below w.heap.size w w':=by
 go_enter func99,ntmps99
 go_wp2
 go_returns;refine ⟨_,rfl,?_,?_,by go_grown⟩
 ·simp [go_sem]
 ·simp
set_option maxHeartbeats 2000000 in
theorem succ_ret (w:World) :
  Calls prog 99 #[.agg #[.int .i64 20,.int .i64 0,.string ⟨#[]⟩,.slice none 0 0],.int .i64 1] w fun e w'=>e=.returned (.slice none 0 0)∧Below w.heap.size w w':=by
 go_enter func99,ntmps99
 go_wp2
 go_returns;exact ⟨rfl,by go_grown⟩
theorem Tryz.infoBool:(prog.info? 4).map (fun i=>(i.zero,i.size,i.bytes))=some (some (.bool false),1,1):=by kernel_rfl
theorem Tryz.infoInt:(prog.info? 3).map (fun i=>(i.zero,i.size,i.bytes))=some (some (.int .i64 0),1,8):=by kernel_rfl
theorem Blk.third (w:World) (o1 o2:Obj) (t:TypeId) (cs:Array Value):Blk (((w.alloc o1).alloc o2).alloc (.cells cs t)) (w.heap.size+1+1) t cs:=by
 have:=Blk.new ((w.alloc o1).alloc o2) t cs
 simpa using this
theorem Shaped.far {W:World} (h:Shaped W) {p:Addr} (hp:0≠p.block) (u:Value):Shaped (W.setCell p u):=fun i v hv=>by
 rw [World.cell?_setCell_far _ _ _ _ (fun e=>hp e.symm)];exact h i v hv
end
section
attribute [local go_sem] zacZ
end
section
attribute [local go_sem] zacZ
end
section
def RowE (w:World) (g:Nat) (l:List Value):Prop:=∀ (i:Nat) (v:Value),l[i]? = some v→w.cell? ⟨g,i,none⟩=some v
section
variable {w w':World} {g:Nat} {l:List Value} {v:Value}
theorem RowE.lt (h:RowE w g l) (i:Nat) (hv:l[i]? = some v):g<w.heap.size:=World.block_lt_of_cell? w ⟨g,i,none⟩ (by rw [h i v hv])
theorem RowE.below (h:RowE w g l) (hb:Below w.heap.size w w'):RowE w' g l:=fun i v hv=>by
 rw [hb.cell (p:=⟨_,i,none⟩) (h.lt i hv)];exact h i v hv
theorem RowE.far (h:RowE w g l) {p:Addr} (hp:g≠p.block) (u:Value):RowE (w.setCell p u) g l:=fun i v hv=>by
 rw [World.cell?_setCell_far _ _ _ _ (fun e=>hp e.symm)];exact h i v hv
end
def cF4:List Value:=[.string ⟨#[109,97,105,110]⟩,.int .i64 1,.int .i64 1,.int .i64 0,.int .i64 4]
def cI4:List Value:=[.int .i64 5,.int .i64 0,.string ⟨#[]⟩,.slice none 0 0,.int .i64 20,.int .i64 0,.string ⟨#[]⟩,.slice none 0 0,.int .i64 1,.int .i64 0,.string ⟨#[]⟩,.slice none 0 0,.int .i64 20,.int .i64 0,.string ⟨#[]⟩,.slice none 0 0]
structure Code4 (w:World) (gF gI:Nat):Prop where
 fs:RowE w gF cF4
 is:RowE w gI cI4
section
variable {w w':World} {gF gI:Nat}
theorem Code4.below (h:Code4 w gF gI) (hb:Below w.heap.size w w'):Code4 w' gF gI:=⟨h.1.below hb,h.2.below hb⟩
theorem Code4.far (h:Code4 w gF gI) {p:Addr} (hp:gF≠p.block) (hp2:gI≠p.block) (u:Value):Code4 (w.setCell p u) gF gI:=⟨h.1.far hp u,h.2.far hp2 u⟩
theorem Code4.f (h:Code4 w gF gI) :
  w.cell? ⟨gF,0,none⟩=some (.string ⟨#[109,97,105,110]⟩)∧w.cell? ⟨gF,1,none⟩=some (.int .i64 1)∧w.cell? ⟨gF,2,none⟩=some (.int .i64 1)∧w.cell? ⟨gF,3,none⟩=some (.int .i64 0)∧w.cell? ⟨gF,4,none⟩=some (.int .i64 4) :=
 ⟨h.1 0 _ rfl,h.1 1 _ rfl,h.1 2 _ rfl,h.1 3 _ rfl,h.1 4 _ rfl⟩
theorem Code4.i0 (h:Code4 w gF gI) :
  w.cell? ⟨gI,0,none⟩=some (.int .i64 5)∧w.cell? ⟨gI,1,none⟩=some (.int .i64 0)∧w.cell? ⟨gI,2,none⟩=some (.string ⟨#[]⟩)∧w.cell? ⟨gI,3,none⟩=some (.slice none 0 0)∧w.cell? ⟨gI,4,none⟩=some (.int .i64 20)∧w.cell? ⟨gI,5,none⟩=some (.int .i64 0)∧w.cell? ⟨gI,6,none⟩=some (.string ⟨#[]⟩)∧w.cell? ⟨gI,7,none⟩=some (.slice none 0 0)∧w.cell? ⟨gI,8,none⟩=some (.int .i64 1)∧w.cell? ⟨gI,9,none⟩=some (.int .i64 0)∧w.cell? ⟨gI,10,none⟩=some (.string ⟨#[]⟩)∧w.cell? ⟨gI,11,none⟩=some (.slice none 0 0)∧w.cell? ⟨gI,12,none⟩=some (.int .i64 20)∧w.cell? ⟨gI,13,none⟩=some (.int .i64 0)∧w.cell? ⟨gI,14,none⟩=some (.string ⟨#[]⟩)∧w.cell? ⟨gI,15,none⟩=some (.slice none 0 0) :=
 ⟨h.2 0 _ rfl,h.2 1 _ rfl,h.2 2 _ rfl,h.2 3 _ rfl,h.2 4 _ rfl,h.2 5 _ rfl,h.2 6 _ rfl,h.2 7 _ rfl,h.2 8 _ rfl,h.2 9 _ rfl,h.2 10 _ rfl,h.2 11 _ rfl,h.2 12 _ rfl,h.2 13 _ rfl,h.2 14 _ rfl,h.2 15 _ rfl⟩
end
attribute [local go_sem] zacZ
set_option maxHeartbeats 2000000 in
theorem find_main4 (gF gI fc ic:Nat) (w:World) (h:Code4 w gF gI) :
  Calls prog 94 #[.agg #[.slice (some ⟨gF,0,none⟩) 1 fc,.slice (some ⟨gI,0,none⟩) 4 ic],.string ⟨#[109,97,105,110]⟩] w fun e w'=>e=.returned (.int .i64 0)∧Below w.heap.size w w':=by
 have hf:=h.f;have HC:=hZz h;clear h;go_enter func94,ntmps94
 go_wp2_with (fail)
 go_enter func142,ntmps142
 go_wp2_with (fail)
 refine wp_loop_rounds 1 ?_
 rw [rounds_succ]
 go_wp2_with (first
  | (go_at_call 143;go_enter func143,ntmps143))
 go_returns;exact ⟨rfl,by go_grown⟩
set_option maxHeartbeats 2000000 in
theorem functions_ok4 (gF gI fc ic:Nat) (w:World) (h:Code4 w gF gI) :
  Calls prog 60 #[.agg #[.slice (some ⟨gF,0,none⟩) 1 fc,.slice (some ⟨gI,0,none⟩) 4 ic]] w fun e w'=>e=.returned (.tuple #[.int .i64 0,.int .i64 0])∧Below w.heap.size w w':=by
 have hf:=h.f;have HC:=hZz h;clear h;go_enter func60,ntmps60
 go_wp2_with (fail)
 have HX:=hZz ((Blk.new w 31 #[.slice (some ⟨gF,0,none⟩) 1 fc,.slice (some ⟨gI,0,none⟩) 4 ic]).alloc (.cells #[.string ⟨#[109,97,105,110]⟩,.int .i64 1,.int .i64 1,.int .i64 0,.int .i64 4] 50));have HY:=hZz (Blk.second w (.cells #[.slice (some ⟨gF,0,none⟩) 1 fc,.slice (some ⟨gI,0,none⟩) 4 ic] 31) 50 #[.string ⟨#[109,97,105,110]⟩,.int .i64 1,.int .i64 1,.int .i64 0,.int .i64 4]);refine wp_loop_rounds 2 ?_
 rw [rounds_succ]
 go_wp2_with (first
  | (go_at_call 93;with_reducible refine (name_main _).mono ?_;rintro e w1 ⟨rfl,hb1⟩;have HB1:=hZz (zafZ hb1 (zaxY w _ _));have HC1:=hZz (HC.out.below HB1.out);have hf1:=HC1.out.f;have HX1:=hZz (HX.out.below hb1);have HY1:=hZz (HY.out.below hb1);have gx1:=blk2 HX1.out;have gy1:=blk5 HY1.out;clear hb1)
  | (go_at_call 94;with_reducible refine (find_main4 _ _ _ _ _ HC1.out).mono ?_;rintro e w2 ⟨rfl,hb2⟩;have HB2:=hZz (zafZ hb2 HB1.out);have HC2:=hZz (HC.out.below HB2.out);have hf2:=HC2.out.f;have HX2:=hZz (HX1.out.below hb2);have HY2:=hZz (HY1.out.below hb2);have gx2:=blk2 HX2.out;have gy2:=blk5 HY2.out;clear hb2)
  | (go_at_call 95;go_enter func95,ntmps95))
 rw [rounds_succ];go_wp2
 go_returns;exact ⟨rfl,HB2.out⟩
theorem Shaped.s1 {w:World} (h:Shaped w):w.cell? ⟨0,6,none⟩=some (.string ⟨#[110,117,108,108]⟩)∧w.cell? ⟨0,7,none⟩=some (.bool false)∧w.cell? ⟨0,8,none⟩=some (.bool false)∧w.cell? ⟨0,9,none⟩=some (.bool false)∧w.cell? ⟨0,10,none⟩=some (.int .i64 0)∧w.cell? ⟨0,11,none⟩=some (.int .i64 1):=⟨h 6 _ rfl,h 7 _ rfl,h 8 _ rfl,h 9 _ rfl,h 10 _ rfl,h 11 _ rfl⟩
set_option maxHeartbeats 2000000 in
theorem formed_load4 (gF gI fc ic:Nat) (w:World) (h:Shaped w) :
  Calls prog 61 #[.agg #[.slice (some ⟨gF,0,none⟩) 1 fc,.slice (some ⟨gI,0,none⟩) 4 ic],.agg #[.string ⟨#[109,97,105,110]⟩,.int .i64 1,.int .i64 1,.int .i64 0,.int .i64 4],.agg #[.int .i64 5,.int .i64 0,.string ⟨#[]⟩,.slice none 0 0]] w fun e w'=>e=.returned (.bool true)∧Below w.heap.size w w':=by
 have hs:=h.s5;have HS:=hZz h;clear h;go_enter func61,ntmps61
 go_wp2_with (first
  | (go_at_call 96;go_enter func96,ntmps96)
  | (go_at_call 97;go_enter func97,ntmps97)
  | (go_at_call 95;go_enter func95,ntmps95))
 go_returns;exact ⟨rfl,by go_grown⟩
set_option maxHeartbeats 2000000 in
theorem formed_ret4 (gF gI fc ic:Nat) (w:World) (h:Shaped w) :
  Calls prog 61 #[.agg #[.slice (some ⟨gF,0,none⟩) 1 fc,.slice (some ⟨gI,0,none⟩) 4 ic],.agg #[.string ⟨#[109,97,105,110]⟩,.int .i64 1,.int .i64 1,.int .i64 0,.int .i64 4],.agg #[.int .i64 20,.int .i64 0,.string ⟨#[]⟩,.slice none 0 0]] w fun e w'=>e=.returned (.bool true)∧Below w.heap.size w w':=by
 have hs:=h.s20;have HS:=hZz h;clear h;go_enter func61,ntmps61
 go_wp2_with (first
  | (go_at_call 96;go_enter func96,ntmps96)
  | (go_at_call 97;go_enter func97,ntmps97))
 go_returns;exact ⟨rfl,by go_grown⟩
set_option maxHeartbeats 2000000 in
theorem formed_null4 (gF gI fc ic:Nat) (w:World) (h:Shaped w) :
  Calls prog 61 #[.agg #[.slice (some ⟨gF,0,none⟩) 1 fc,.slice (some ⟨gI,0,none⟩) 4 ic],.agg #[.string ⟨#[109,97,105,110]⟩,.int .i64 1,.int .i64 1,.int .i64 0,.int .i64 4],.agg #[.int .i64 1,.int .i64 0,.string ⟨#[]⟩,.slice none 0 0]] w fun e w'=>e=.returned (.bool true)∧Below w.heap.size w w':=by
 have hs:=h.s1;have HS:=hZz h;clear h;go_enter func61,ntmps61
 go_wp2_with (first
  | (go_at_call 96;go_enter func96,ntmps96)
  | (go_at_call 97;go_enter func97,ntmps97))
 go_returns;exact ⟨rfl,by go_grown⟩
set_option maxHeartbeats 2000000 in
theorem pops_load4 (gF gI fc ic:Nat) (w:World) (h:Shaped w) :
  Calls prog 98 #[.agg #[.slice (some ⟨gF,0,none⟩) 1 fc,.slice (some ⟨gI,0,none⟩) 4 ic],.agg #[.int .i64 5,.int .i64 0,.string ⟨#[]⟩,.slice none 0 0]] w fun e w'=>e=.returned (.int .i64 0)∧Below w.heap.size w w':=by
 have hs:=h.s5;have HS:=hZz h;clear h;go_enter func98,ntmps98
 go_wp2
 go_returns;exact ⟨rfl,by go_grown⟩
set_option maxHeartbeats 2000000 in
theorem pops_ret4 (gF gI fc ic:Nat) (w:World) (h:Shaped w) :
  Calls prog 98 #[.agg #[.slice (some ⟨gF,0,none⟩) 1 fc,.slice (some ⟨gI,0,none⟩) 4 ic],.agg #[.int .i64 20,.int .i64 0,.string ⟨#[]⟩,.slice none 0 0]] w fun e w'=>e=.returned (.int .i64 1)∧Below w.heap.size w w':=by
 have hs:=h.s20;have HS:=hZz h;clear h;go_enter func98,ntmps98
 go_wp2
 go_returns;exact ⟨rfl,by go_grown⟩
theorem mc_b4:madeCells (Value.bool false).cells (4 * 1)=#[.bool false,.bool false,.bool false,.bool false]:=by kernel_rfl
theorem mc_i4:madeCells (Value.int .i64 0).cells (4 * 1)=#[.int .i64 0,.int .i64 0,.int .i64 0,.int .i64 0]:=by kernel_rfl
theorem mk_bools4 (w:World):(Instr.makeSlice 146 (.int .i64 4) (.int .i64 4)).run prog w=.ok (.slice (some ⟨w.heap.size,0,none⟩) 4 4) (w.alloc (.cells #[.bool false,.bool false,.bool false,.bool false] 4)):=by
 obtain ⟨i0,hi,hz0,hz1,hz2⟩:=info_parts Tryz.infoBool;have h:=run_makeSlice (P:=prog) w 146 4 i0 _ underlying146 hi hz0 .i64 .i64 4 4 (by omega) (by omega) (by rw [hz1];decide) (by rw [hz2];decide) (by omega);rw [hz1] at h;rw [h];congr 3
 exact mc_b4
theorem mk_ints4 (w:World):(Instr.makeSlice 56 (.int .i64 4) (.int .i64 4)).run prog w=.ok (.slice (some ⟨w.heap.size,0,none⟩) 4 4) (w.alloc (.cells #[.int .i64 0,.int .i64 0,.int .i64 0,.int .i64 0] 3)):=by
 obtain ⟨i0,hi,hz0,hz1,hz2⟩:=info_parts Tryz.infoInt;have h:=run_makeSlice (P:=prog) w 56 3 i0 _ underlying56 hi hz0 .i64 .i64 4 4 (by omega) (by omega) (by rw [hz1];decide) (by rw [hz2];decide) (by omega);rw [hz1] at h;rw [h];congr 3
 exact mc_i4
structure DS4 (w W:World) (gF gI fc ic gD g1:Nat) (d0 d1 s0 s1:Value):Prop where
 hd:Blk W gD 3 #[d0,d1,.int .i64 (-1),.int .i64 (-1)]
 hs:Blk W (g1+1+1) 4 #[s0,s1,.bool false,.bool false]
 hc:Blk W g1 31 #[.slice (some ⟨gF,0,none⟩) 1 fc,.slice (some ⟨gI,0,none⟩) 4 ic]
 hf:Blk W (g1+1) 50 #[.string ⟨#[109,97,105,110]⟩,.int .i64 1,.int .i64 1,.int .i64 0,.int .i64 4]
 hC:Code4 W gF gI
 hS:Shaped W
 hg:w.grownBy W (some gD)
theorem DS4.below {w W W':World} {gF gI fc ic gD g1:Nat} {d0 d1 s0 s1:Value} (h:DS4 w W gF gI fc ic gD g1 d0 d1 s0 s1) (hb:Below W.heap.size W W'):DS4 w W' gF gI fc ic gD g1 d0 d1 s0 s1 :=
 ⟨h.hd.below hb,h.hs.below hb,h.hc.below hb,h.hf.below hb,h.hC.below hb,h.hS.below hb,
  ⟨hb.os.trans h.hg.os,hb.tape.trans h.hg.tape,hb.output.trans h.hg.output,Nat.le_trans h.hg.size hb.size,fun k hk hne=>(hb.block k (Nat.lt_of_lt_of_le hk h.hg.size)).trans (h.hg.block k hk hne)⟩⟩
theorem DS4.setD {w W:World} {gF gI fc ic gD g1:Nat} {d0 d1 s0 s1:Value} (h:DS4 w W gF gI fc ic gD g1 d0 d1 s0 s1) (h1:gF≠gD) (h2:gI≠gD) (h3:0≠gD) (h4:gD<g1) (j:Nat) (u:Value) (d0' d1':Value) (he:(#[d0,d1,.int .i64 (-1),.int .i64 (-1)]:Array Value).setIfInBounds j u=#[d0',d1',.int .i64 (-1),.int .i64 (-1)]) :
  DS4 w (W.setCell ⟨gD,j,none⟩ u) gF gI fc ic gD g1 d0' d1' s0 s1 :=
 ⟨by rw [← he];exact h.hd.set_ j u,h.hs.far (p:=⟨gD,j,none⟩) (by simp;omega) u,h.hc.far (p:=⟨gD,j,none⟩) (by simp;omega) u,h.hf.far (p:=⟨gD,j,none⟩) (by simp;omega) u,
  h.hC.far (p:=⟨gD,j,none⟩) h1 h2 u,h.hS.far (p:=⟨gD,j,none⟩) h3 u,
  ⟨h.hg.os,h.hg.tape,h.hg.output,by simpa using h.hg.size,fun k hk hne=>(Below.heap_setCell _ _ _ _ (fun e=>hne (by rw [e]))).trans (h.hg.block k hk hne)⟩⟩
theorem DS4.setS {w W:World} {gF gI fc ic gD g1:Nat} {d0 d1 s0 s1:Value} (h:DS4 w W gF gI fc ic gD g1 d0 d1 s0 s1) (h1:gF<g1) (h2:gI<g1) (h3:0<g1) (h4:gD<g1) (h5:w.heap.size=g1) (j:Nat) (u:Value) (s0' s1':Value) (he:(#[s0,s1,.bool false,.bool false]:Array Value).setIfInBounds j u=#[s0',s1',.bool false,.bool false]) :
  DS4 w (W.setCell ⟨g1+1+1,j,none⟩ u) gF gI fc ic gD g1 d0 d1 s0' s1' :=
 ⟨h.hd.far (p:=⟨g1+1+1,j,none⟩) (by simp;omega) u,by rw [← he];exact h.hs.set_ j u,h.hc.far (p:=⟨g1+1+1,j,none⟩) (by simp;omega) u,h.hf.far (p:=⟨g1+1+1,j,none⟩) (by simp) u,
  h.hC.far (p:=⟨g1+1+1,j,none⟩) (by simp;omega) (by simp;omega) u,h.hS.far (p:=⟨g1+1+1,j,none⟩) (by simp) u,
  ⟨h.hg.os,h.hg.tape,h.hg.output,by simpa using h.hg.size,fun k hk hne=>(Below.heap_setCell _ _ _ _ (by simp;omega)).trans (h.hg.block k hk hne)⟩⟩
theorem DS4.facts {w W:World} {gF gI fc ic gD g1:Nat} {d0 d1 s0 s1:Value} (h:DS4 w W gF gI fc ic gD g1 d0 d1 s0 s1) :
  (W.cell? ⟨gD,0,none⟩=some d0∧W.cell? ⟨gD,1,none⟩=some d1∧W.cell? ⟨gD,2,none⟩=some (.int .i64 (-1))∧W.cell? ⟨gD,3,none⟩=some (.int .i64 (-1)))∧(W.cell? ⟨g1+1+1,0,none⟩=some s0∧W.cell? ⟨g1+1+1,1,none⟩=some s1) ∧
  (W.frozen? ⟨gD,0,none⟩=false∧W.frozen? ⟨gD,1,none⟩=false∧W.frozen? ⟨g1+1+1,0,none⟩=false∧W.frozen? ⟨g1+1+1,1,none⟩=false) ∧
  (W.cell? ⟨g1,0,none⟩=some (.slice (some ⟨gF,0,none⟩) 1 fc)∧W.cell? ⟨g1,1,none⟩=some (.slice (some ⟨gI,0,none⟩) 4 ic)) :=
 ⟨blk4 h.hd,⟨h.hs.cell 0 _ rfl,h.hs.cell 1 _ rfl⟩,⟨h.hd.frozen 0,h.hd.frozen 1,h.hs.frozen 0,h.hs.frozen 1⟩,blk2 h.hc⟩
theorem depths_ok4 (gF gI fc ic gD:Nat) (w:World) (h:Code4 w gF gI) (hs:Shaped w) (hd:Blk w gD 3 #[.int .i64 (-1),.int .i64 (-1),.int .i64 (-1),.int .i64 (-1)]) (hgf:gF≠gD) (hgi:gI≠gD) (hg0:0≠gD) :
  Calls prog 62 #[.agg #[.slice (some ⟨gF,0,none⟩) 1 fc,.slice (some ⟨gI,0,none⟩) 4 ic],.agg #[.string ⟨#[109,97,105,110]⟩,.int .i64 1,.int .i64 1,.int .i64 0,.int .i64 4],.slice (some ⟨gD,0,none⟩) 4 4] w fun e w'=>e=.returned (.int .i64 (-1))∧Blk w' gD 3 #[.int .i64 0,.int .i64 1,.int .i64 (-1),.int .i64 (-1)]∧w.grownBy w' (some gD):=by
 have hmk:=mk_bools4;have hlt:gD<w.heap.size:=lt_of_block hd;have hlt2:gI<w.heap.size:=h.2.lt 0 rfl;have hlt3:gF<w.heap.size:=h.1.lt 0 rfl;have hlt4:0<w.heap.size:=by omega
 have HB:=hZz (below_3 w (.cells #[.slice (some ⟨gF,0,none⟩) 1 fc,.slice (some ⟨gI,0,none⟩) 4 ic] 31) (.cells #[.string ⟨#[109,97,105,110]⟩,.int .i64 1,.int .i64 1,.int .i64 0,.int .i64 4] 50) (.cells #[.bool false,.bool false,.bool false,.bool false] 4))
 have HD0:Hid (DS4 w (((w.alloc (.cells #[.slice (some ⟨gF,0,none⟩) 1 fc,.slice (some ⟨gI,0,none⟩) 4 ic] 31)).alloc (.cells #[.string ⟨#[109,97,105,110]⟩,.int .i64 1,.int .i64 1,.int .i64 0,.int .i64 4] 50)).alloc (.cells #[.bool false,.bool false,.bool false,.bool false] 4)) gF gI fc ic gD w.heap.size (.int .i64 (-1)) (.int .i64 (-1)) (.bool false) (.bool false)):=hZz
  ⟨hd.below HB.out,Blk.third w _ _ _ _,(((Blk.new w 31 #[.slice (some ⟨gF,0,none⟩) 1 fc,.slice (some ⟨gI,0,none⟩) 4 ic]).alloc _).alloc _),(Blk.second w _ 50 #[.string ⟨#[109,97,105,110]⟩,.int .i64 1,.int .i64 1,.int .i64 0,.int .i64 4]).alloc _,h.below HB.out,hs.below HB.out,⟨rfl,rfl,rfl,HB.out.size,fun k hk _=>HB.out.block k hk⟩⟩
 clear h hs hd;obtain ⟨P,hP⟩:∃ P:Ending→World→Prop,(fun e w'=>e=.returned (.int .i64 (-1))∧Blk w' gD 3 #[.int .i64 0,.int .i64 1,.int .i64 (-1),.int .i64 (-1)]∧w.grownBy w' (some gD))=P:=⟨_,rfl⟩
 rw [hP];have HP:=hZz hP;clear hP;go_enter func62,ntmps62
 go_upto_region 2 with fail
 obtain ⟨W,hW⟩:∃ W,((w.alloc (.cells #[.slice (some ⟨gF,0,none⟩) 1 fc,.slice (some ⟨gI,0,none⟩) 4 ic] 31)).alloc (.cells #[.string ⟨#[109,97,105,110]⟩,.int .i64 1,.int .i64 1,.int .i64 0,.int .i64 4] 50)).alloc (.cells #[.bool false,.bool false,.bool false,.bool false] 4)=W:=⟨_,rfl⟩
 rw [hW] at HD0 ⊢;clear hW hmk HB;obtain ⟨g1,hg1⟩:∃ g,w.heap.size=g:=⟨_,rfl⟩
 rw [hg1] at HD0 hlt hlt2 hlt3 hlt4 ⊢;have HG1:=hZz hg1;clear hg1;have f0:=HD0.out.facts;have b0:=blk5 HD0.out.hf;go_upto_region 3 with fail
 obtain ⟨W1,hW1⟩:∃ W1,W.setCell ⟨gD,0,none⟩ (.int .i64 0)=W1:=⟨_,rfl⟩
 have HD1:=hZz (HD0.out.setD hgf hgi hg0 hlt 0 (.int .i64 0) (.int .i64 0) (.int .i64 (-1)) rfl);rw [hW1] at HD1 ⊢;clear hW1 f0 b0 HD0;have f0:=HD1.out.facts;have b0:=blk5 HD1.out.hf;go_wp2_with (fail)
 refine wp_loop_rounds 5 ?_
 rw [rounds_succ];go_upto_region 8 with fail
 obtain ⟨W2,hW2⟩:∃ W2,W1.setCell ⟨g1+1+1,0,none⟩ (.bool true)=W2:=⟨_,rfl⟩
 have HD2:=hZz (HD1.out.setS hlt3 hlt2 hlt4 hlt HG1.out 0 (.bool true) (.bool true) (.bool false) rfl);rw [hW2] at HD2 ⊢;clear hW2 f0 b0 HD1;have f0:=HD2.out.facts;have b0:=blk5 HD2.out.hf;have i0:=HD2.out.hC.i0;have HI:=hZz (Blk.new W2 53 #[.int .i64 5,.int .i64 0,.string ⟨#[]⟩,.slice none 0 0]);have HD3:=hZz (HD2.out.below (zabZ W2 (.cells #[.int .i64 5,.int .i64 0,.string ⟨#[]⟩,.slice none 0 0] 53)))
 go_upto_region 10 with (first
  | (go_at_call 98;with_reducible refine (pops_load4 gF gI fc ic _ HD3.out.hS).mono ?_;rintro e W4 ⟨rfl,hb4⟩;have HD4:=hZz (HD3.out.below hb4);have HI4:=hZz (HI.out.below hb4);have f4:=HD4.out.facts;have b4:=blk5 HD4.out.hf;have s5:=HD4.out.hS.s5;have i4:=blk4 HI4.out;clear hb4 f0 b0 i0))
 go_quiet (fail);have HDq:=hZz (HD4.out.below (zaiZ (Below.refl _ W4) nq));have HIq:=hZz (HI4.out.drewN nq);have fq:=HDq.out.facts;have iq:=blk4 HIq.out
 go_wp2_with (first
  | (go_at_call 99;with_reducible refine (succ_load _).mono ?_;rintro e W5 ⟨g5,rfl,hc5,hg5,hb5⟩;have HD5:=hZz (HDq.out.below hb5);have HC5:=hZz hc5;have f5:=HD5.out.facts;clear hb5 hg5))
 refine wp_loop_rounds 2 ?_
 rw [rounds_succ];go_upto_region 20 with fail
 obtain ⟨W6,hW6⟩:∃ W6,W5.setCell ⟨gD,1,none⟩ (.int .i64 1)=W6:=⟨_,rfl⟩
 have HD6:=hZz (HD5.out.setD hgf hgi hg0 hlt 1 (.int .i64 1) (.int .i64 0) (.int .i64 1) rfl);rw [hW6] at HD6 ⊢;clear hW6 f5 fq iq f4 b4 s5 i4 HD5 HDq HIq HD4 HI4 HC5;have f6:=HD6.out.facts;have b6:=blk5 HD6.out.hf;go_wp2_with (fail)
 rw [rounds_succ];go_wp2_with (fail)
 rw [rounds_succ];go_upto_region 8 with fail
 obtain ⟨W7,hW7⟩:∃ W7,W6.setCell ⟨g1+1+1,1,none⟩ (.bool true)=W7:=⟨_,rfl⟩
 have HD7:=hZz (HD6.out.setS hlt3 hlt2 hlt4 hlt HG1.out 1 (.bool true) (.bool true) (.bool true) rfl);rw [hW7] at HD7 ⊢;clear hW7 f6 b6 HD6;have f7:=HD7.out.facts;have b7:=blk5 HD7.out.hf;have i7:=HD7.out.hC.i0;have HI7:=hZz (Blk.new W7 53 #[.int .i64 20,.int .i64 0,.string ⟨#[]⟩,.slice none 0 0]);have HD8:=hZz (HD7.out.below (zabZ W7 (.cells #[.int .i64 20,.int .i64 0,.string ⟨#[]⟩,.slice none 0 0] 53)))
 go_upto_region 10 with (first
  | (go_at_call 98;with_reducible refine (pops_ret4 gF gI fc ic _ HD8.out.hS).mono ?_;rintro e W9 ⟨rfl,hb9⟩;have HD9:=hZz (HD8.out.below hb9);have HI9:=hZz (HI7.out.below hb9);have f9:=HD9.out.facts;have b9:=blk5 HD9.out.hf;have s9:=HD9.out.hS.s20;have i9:=blk4 HI9.out;clear hb9 f7 b7 i7))
 go_quiet (fail);have HDr:=hZz (HD9.out.below (zaiZ (Below.refl _ W9) nq));have HIr:=hZz (HI9.out.drewN nq);have fr:=HDr.out.facts;have ir:=blk4 HIr.out
 go_wp2_with (first
  | (go_at_call 99;with_reducible refine (succ_ret _).mono ?_;rintro e W10 ⟨rfl,hb10⟩;have HD10:=hZz (HDr.out.below hb10);have f10:=HD10.out.facts;have b10:=blk5 HD10.out.hf;clear hb10))
 refine wp_loop_rounds 1 ?_
 rw [rounds_succ];go_wp2_with (fail)
 rw [rounds_succ];go_wp2_with (fail)
 rw [rounds_succ];go_wp2_with (fail)
 rw [rounds_succ];go_wp2_with (fail)
 rw [← HP.out];exact ⟨rfl,HD10.out.hd,HD10.out.hg⟩
structure VS4 (w W:World) (gF gI fc ic g0 g8:Nat):Prop where
 hc:Blk W g0 31 #[.slice (some ⟨gF,0,none⟩) 1 fc,.slice (some ⟨gI,0,none⟩) 4 ic]
 hf:Blk W g8 50 #[.string ⟨#[109,97,105,110]⟩,.int .i64 1,.int .i64 1,.int .i64 0,.int .i64 4]
 hC:Code4 W gF gI
 hS:Shaped W
 hB:Below w.heap.size w W
theorem VS4.below {w W W':World} {gF gI fc ic g0 g8:Nat} (h:VS4 w W gF gI fc ic g0 g8) (hb:Below W.heap.size W W'):VS4 w W' gF gI fc ic g0 g8 :=
 ⟨h.hc.below hb,h.hf.below hb,h.hC.below hb,h.hS.below hb,zafZ hb h.hB⟩
theorem VS4.set {w W:World} {gF gI fc ic g0 g8 gD:Nat} (h:VS4 w W gF gI fc ic g0 g8) (h0:g0<gD) (h8:g8<gD) (hF:gF<gD) (hI:gI<gD) (hB:w.heap.size≤gD) (h00:0<gD) (j:Nat) (u:Value):VS4 w (W.setCell ⟨gD,j,none⟩ u) gF gI fc ic g0 g8 :=
 ⟨h.hc.far (p:=⟨gD,j,none⟩) (by simp;omega) u,h.hf.far (p:=⟨gD,j,none⟩) (by simp;omega) u,h.hC.far (p:=⟨gD,j,none⟩) (by simp;omega) (by simp;omega) u,h.hS.far (p:=⟨gD,j,none⟩) (by simp;omega) u,h.hB.setCell (p:=⟨gD,j,none⟩) hB u⟩
theorem VS4.grown {w W W':World} {gF gI fc ic g0 g8 gD:Nat} (h:VS4 w W gF gI fc ic g0 g8) (hg:W.grownBy W' (some gD)) (h0:g0<gD) (h8:g8<gD) (hF:gF<gD) (hI:gI<gD) (hB:w.heap.size≤gD) (h00:0<gD):VS4 w W' gF gI fc ic g0 g8 :=
 ⟨h.hc.grown hg (by simp;omega),h.hf.grown hg (by simp;omega),⟨fun i v hv=>hg.cell (h.hC.1 i v hv) (by simp;omega),fun i v hv=>hg.cell (h.hC.2 i v hv) (by simp;omega)⟩,fun i v hv=>hg.cell (h.hS i v hv) (by simp;omega),
  h.hB.grown hg h.hB.size (fun k hk=>by injection hk with hk;omega)⟩
theorem verify_ok4 (gF gI fc ic:Nat) (w:World) (h:Code4 w gF gI) (hs:Shaped w) :
  Calls prog 39 #[.agg #[.slice (some ⟨gF,0,none⟩) 1 fc,.slice (some ⟨gI,0,none⟩) 4 ic]] w fun e w'=>∃ v,e=.returned (.tuple #[v,.int .i64 0,.int .i64 0])∧Below w.heap.size w w':=by
 have HC0:=hZz (h.below (zabZ w (.cells #[.slice (some ⟨gF,0,none⟩) 1 fc,.slice (some ⟨gI,0,none⟩) 4 ic] 31)));have HS0:=hZz (hs.below (zabZ w (.cells #[.slice (some ⟨gF,0,none⟩) 1 fc,.slice (some ⟨gI,0,none⟩) 4 ic] 31)));have HX0:=hZz (Blk.new w 31 #[.slice (some ⟨gF,0,none⟩) 1 fc,.slice (some ⟨gI,0,none⟩) 4 ic]);have HB0:=hZz (zabZ w (.cells #[.slice (some ⟨gF,0,none⟩) 1 fc,.slice (some ⟨gI,0,none⟩) 4 ic] 31));clear h hs;obtain ⟨P,hP⟩:∃ P:Ending→World→Prop,(fun e w'=>∃ v,e=.returned (.tuple #[v,.int .i64 0,.int .i64 0])∧Below w.heap.size w w')=P:=⟨_,rfl⟩
 rw [hP];have HP:=hZz hP;clear hP;go_enter func39,ntmps39
 go_wp2_with (first
  | (go_at_call 60;with_reducible refine (functions_ok4 gF gI fc ic _ HC0.out).mono ?_;rintro e W1 ⟨rfl,hb1⟩;have HC1:=hZz (HC0.out.below hb1);have HS1:=hZz (HS0.out.below hb1);have HX1:=hZz (HX0.out.below hb1);have HB1:=hZz (zafZ hb1 HB0.out);have x1:=blk2 HX1.out;have f1:=HC1.out.f;clear hb1))
 refine wp_loop_rounds 2 ?_
 rw [rounds_succ];go_wp2_with (fail)
 obtain ⟨g0,hg0⟩:∃ g,w.heap.size=g:=⟨_,rfl⟩
 obtain ⟨g8,hg8⟩:∃ g,W1.heap.size=g:=⟨_,rfl⟩
 obtain ⟨W2,hW2⟩:∃ W2,W1.alloc (.cells #[.string ⟨#[109,97,105,110]⟩,.int .i64 1,.int .i64 1,.int .i64 0,.int .i64 4] 50)=W2:=⟨_,rfl⟩
 have HV2:Hid (VS4 w W2 gF gI fc ic g0 g8):=hZz (by
  rw [← hW2,← hg0,← hg8];exact ⟨HX1.out.alloc _,Blk.new W1 _ _,HC1.out.below (zabZ _ _),HS1.out.below (zabZ _ _),zafZ (zabZ _ _) HB1.out⟩)
 rw [hg0] at x1 ⊢;rw [hg8,hW2];clear hW2 hg8 HX1 HC1 HS1 HB1 HX0 HC0 HS0 HB0 x1 f1;have HG0:=hZz hg0;clear hg0;refine wp_loop_rounds 5 ?_
 rw [rounds_succ];have c2:=blk2 HV2.out.hc;have d2:=blk5 HV2.out.hf;have i2:=HV2.out.hC.i0;have HV2':=hZz (HV2.out.below (zabZ W2 (.cells #[.int .i64 5,.int .i64 0,.string ⟨#[]⟩,.slice none 0 0] 53)));have HI2:=hZz (Blk.new W2 53 #[.int .i64 5,.int .i64 0,.string ⟨#[]⟩,.slice none 0 0])
 go_wp2_with (first
  | (go_at_call 61;with_reducible refine (formed_load4 gF gI fc ic _ HV2'.out.hS).mono ?_;rintro e W3 ⟨rfl,hb3⟩;have HV3:=hZz (HV2'.out.below hb3);have HI3:=hZz (HI2.out.below hb3);have c3':=blk2 HV3.out.hc;have d3':=blk5 HV3.out.hf;have i3':=blk4 HI3.out;clear hb3 c2 d2 i2))
 clear c3' d3' i3' HI3 HV2' HI2;rw [rounds_succ];have c3:=blk2 HV3.out.hc;have d3:=blk5 HV3.out.hf;have i3:=HV3.out.hC.i0;have HV3':=hZz (HV3.out.below (zabZ W3 (.cells #[.int .i64 20,.int .i64 0,.string ⟨#[]⟩,.slice none 0 0] 53)));have HI3:=hZz (Blk.new W3 53 #[.int .i64 20,.int .i64 0,.string ⟨#[]⟩,.slice none 0 0])
 go_wp2_with (first
  | (go_at_call 61;with_reducible refine (formed_ret4 gF gI fc ic _ HV3'.out.hS).mono ?_;rintro e W4 ⟨rfl,hb4⟩;have HV4:=hZz (HV3'.out.below hb4);have HI4:=hZz (HI3.out.below hb4);have c4':=blk2 HV4.out.hc;have d4':=blk5 HV4.out.hf;have i4':=blk4 HI4.out;clear hb4 c3 d3 i3))
 clear c4' d4' i4' HI4 HV3' HI3;rw [rounds_succ];have c4:=blk2 HV4.out.hc;have d4:=blk5 HV4.out.hf;have i4:=HV4.out.hC.i0;have HV4':=hZz (HV4.out.below (zabZ W4 (.cells #[.int .i64 1,.int .i64 0,.string ⟨#[]⟩,.slice none 0 0] 53)));have HI4:=hZz (Blk.new W4 53 #[.int .i64 1,.int .i64 0,.string ⟨#[]⟩,.slice none 0 0])
 go_wp2_with (first
  | (go_at_call 61;with_reducible refine (formed_null4 gF gI fc ic _ HV4'.out.hS).mono ?_;rintro e W5 ⟨rfl,hb5⟩;have HV5:=hZz (HV4'.out.below hb5);have HI5:=hZz (HI4.out.below hb5);have c5':=blk2 HV5.out.hc;have d5':=blk5 HV5.out.hf;have i5':=blk4 HI5.out;clear hb5 c4 d4 i4))
 clear c5' d5' i5' HI5 HV4' HI4;rw [rounds_succ];have c5:=blk2 HV5.out.hc;have d5:=blk5 HV5.out.hf;have i5:=HV5.out.hC.i0;have HV5':=hZz (HV5.out.below (zabZ W5 (.cells #[.int .i64 20,.int .i64 0,.string ⟨#[]⟩,.slice none 0 0] 53)));have HI5:=hZz (Blk.new W5 53 #[.int .i64 20,.int .i64 0,.string ⟨#[]⟩,.slice none 0 0])
 go_wp2_with (first
  | (go_at_call 61;with_reducible refine (formed_ret4 gF gI fc ic _ HV5'.out.hS).mono ?_;rintro e W6 ⟨rfl,hb6⟩;have HV6:=hZz (HV5'.out.below hb6);have HI6:=hZz (HI5.out.below hb6);have c6':=blk2 HV6.out.hc;have d6':=blk5 HV6.out.hf;have i6':=blk4 HI6.out;clear hb6 c5 d5 i5))
 clear c6' d6' i6' HI6 HV5' HI5;rw [rounds_succ];have c6:=blk2 HV6.out.hc;have d6:=blk5 HV6.out.hf;go_wp2_with (fail)
 have hmk:=mk_ints4;rw [rounds_succ];go_upto_region 19 with fail
 have l0:g0<W6.heap.size:=lt_of_block HV6.out.hc;have l8:g8<W6.heap.size:=lt_of_block HV6.out.hf;have lF:gF<W6.heap.size:=HV6.out.hC.1.lt 0 rfl;have lI:gI<W6.heap.size:=HV6.out.hC.2.lt 0 rfl;have lB:w.heap.size≤W6.heap.size:=HV6.out.hB.size;have lZ:0<W6.heap.size:=by omega
 obtain ⟨X5,hX5⟩:∃ X,W6.alloc (.cells #[.int .i64 0,.int .i64 0,.int .i64 0,.int .i64 0] 3)=X:=⟨_,rfl⟩
 obtain ⟨gD,hgD⟩:∃ g,W6.heap.size=g:=⟨_,rfl⟩
 have HU5:Hid (VS4 w X5 gF gI fc ic g0 g8):=hZz (by rw [← hX5];exact HV6.out.below (zabZ _ _));have HD5:Hid (Blk X5 gD 3 #[.int .i64 0,.int .i64 0,.int .i64 0,.int .i64 0]):=hZz (by rw [← hX5,← hgD];exact Blk.new W6 _ _);rw [hgD] at l0 l8 lF lI lB lZ ⊢;rw [hX5];clear hmk hX5 hgD c6 d6 HV2 HV3 HV4 HV5;have HL:=hZz (And.intro l0 (And.intro l8 (And.intro lF (And.intro lI (And.intro lB lZ)))));obtain ⟨W7,hW7⟩:∃ W7,(((X5.setCell ⟨gD,0,none⟩ (.int .i64 (-1))).setCell ⟨gD,1,none⟩ (.int .i64 (-1))).setCell ⟨gD,2,none⟩ (.int .i64 (-1))).setCell ⟨gD,3,none⟩ (.int .i64 (-1))=W7:=⟨_,rfl⟩
 have HD7:Hid (Blk W7 gD 3 #[.int .i64 (-1),.int .i64 (-1),.int .i64 (-1),.int .i64 (-1)]):=hZz (by rw [← hW7];exact (((HD5.out.set_ 0 _).set_ 1 _).set_ 2 _).set_ 3 _);have HV7:Hid (VS4 w W7 gF gI fc ic g0 g8):=hZz (by rw [← hW7];exact (((HU5.out.set l0 l8 lF lI lB lZ 0 _).set l0 l8 lF lI lB lZ 1 _).set l0 l8 lF lI lB lZ 2 _).set l0 l8 lF lI lB lZ 3 _);have c5:=blk4 HD5.out;have z5:=HD5.out.frozen 0;have z51:=HD5.out.frozen 1;have z52:=HD5.out.frozen 2;have z53:=HD5.out.frozen 3;go_wp2_with (fail)
 refine wp_loop_rounds 5 ?_
 rw [rounds_succ];go_wp2_with (fail)
 rw [rounds_succ];go_wp2_with (fail)
 rw [rounds_succ];go_wp2_with (fail)
 rw [rounds_succ];go_wp2_with (fail)
 rw [rounds_succ]
 try rw [hW7]
 clear hW7 c5 z5 z51 z52 z53 HD5 HU5;have c7:=blk2 HV7.out.hc;have d7:=HV7.out.hC.f;go_wp2_with (fail)
 refine wp_loop_rounds 2 ?_
 rw [rounds_succ];have HV8:=hZz (HV7.out.below (zabZ W7 (.cells #[.string ⟨#[109,97,105,110]⟩,.int .i64 1,.int .i64 1,.int .i64 0,.int .i64 4] 50)));have HD7b:Hid (Blk W7 gD 3 #[.int .i64 (-1),.int .i64 (-1),.int .i64 (-1),.int .i64 (-1)]):=hZz HD7.out;have HD8:=hZz (HD7b.out.alloc (.cells #[.string ⟨#[109,97,105,110]⟩,.int .i64 1,.int .i64 1,.int .i64 0,.int .i64 4] 50))
 go_wp2_with (first
  | (go_at_call 62;with_reducible refine (depths_ok4 gF gI fc ic gD _ HV8.out.hC HV8.out.hS HD8.out (Nat.ne_of_lt lF) (Nat.ne_of_lt lI) (Nat.ne_of_lt lZ)).mono ?_;rintro e W9 ⟨rfl,_,hg9⟩;have HV9:=hZz (HV8.out.grown hg9 l0 l8 lF lI lB lZ);have c9:=blk2 HV9.out.hc;clear hg9))
 rw [rounds_succ];go_wp2_with (fail)
 rw [← HP.out];exact ⟨_,rfl,HV9.out.hB⟩
theorem check_ok4 (gF gI fc ic:Nat) (w:World) (h:Code4 w gF gI) (hs:Shaped w) :
  Calls prog 23 #[.agg #[.slice (some ⟨gF,0,none⟩) 1 fc,.slice (some ⟨gI,0,none⟩) 4 ic]] w fun e w'=>e=.returned (.tuple #[.int .i64 0,.int .i64 0])∧Below w.heap.size w w':=by
 have HC:=hZz (h.below (zabZ w (.cells #[.slice (some ⟨gF,0,none⟩) 1 fc,.slice (some ⟨gI,0,none⟩) 4 ic] 31)));have HS:=hZz (hs.below (zabZ w (.cells #[.slice (some ⟨gF,0,none⟩) 1 fc,.slice (some ⟨gI,0,none⟩) 4 ic] 31)));clear h hs;go_enter func23,ntmps23
 go_wp2_with (first
  | (go_at_call 39;with_reducible refine (verify_ok4 gF gI fc ic _ HC.out HS.out).mono ?_;rintro e W1 ⟨v,rfl,hb1⟩;have HB1:=hZz (zafZ hb1 (zabZ _ _));clear hb1))
 go_returns;exact ⟨rfl,HB1.out⟩
end
end Go.Proofs.YthiimbhjpdphpaaGreatDoor
