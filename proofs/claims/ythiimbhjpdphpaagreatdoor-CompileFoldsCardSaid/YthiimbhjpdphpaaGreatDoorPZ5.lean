/- Z4, Z5 -/
import Derived.Test.YthiimbhjpdphpaaGreatDoorPZ2
import Derived.Test.YthiimbhjpdphpaaGreatDoorPFB5
set_option linter.unusedVariables false
set_option linter.unusedSimpArgs false
namespace Go.Proofs.YthiimbhjpdphpaaGreatDoor
open Go.RowKit
set_option maxRecDepth 100000
attribute [local go_sem] zacZ
open Go.Proofs.Tryz
theorem FtSt.push {w0 w W w6:World} {S:ProgS} {gF g6 cap:Nat} {nv:Value} {L:List NodeX} (h:FtSt w0 w S gF nv L) (hb:Below w.heap.size w W) (q:NodeX) (hk:KeysV w0 q.2.1 q.1.keys) (hi:W.ownsRow w0.heap.size 3 1 q.2.2 q.1.kids.length (q.1.kids.map (Value.int .i64))) (hg:W.grownBy w6 nv.ownBlock)
  (ho:w6.ownsRow w0.heap.size 58 5 (.slice (some ⟨g6,0,none⟩) (L.length+1) cap) (L.length+1) (L.flatMap nodeRow ++ nodeRow q)) (ha:nv.ownBlock=some g6∨W.heap.size≤g6) :
  FtSt w0 (w6.setCell ⟨gF,2,none⟩ (.slice (some ⟨g6,0,none⟩) (L.length+1) cap)) S gF (.slice (some ⟨g6,0,none⟩) (L.length+1) cap) (L ++ [q])∧KF gF nv.ownBlock (some g6) w (w6.setCell ⟨gF,2,none⟩ (.slice (some ⟨g6,0,none⟩) (L.length+1) cap)):=by
 have hW:=h.below hb;have hF6:Blk w6 gF 76 _:=hW.fo.grown hg (zaeZ hW.row hW.fo (by decide));have hK:KF gF nv.ownBlock (some g6) w w6:=(KF.of_below hb gF nv.ownBlock).grown (v:=nv) (v':=nv) hg (ha.imp (fun e=>e.symm) (fun e=>⟨g6,rfl,e⟩))
 have hset:∀ (v:Value) (n:Nat) (xs:List Value) (e:TypeId) (sz:Nat),e≠76→w6.ownsRow w0.heap.size e sz v n xs→(w6.setCell ⟨gF,2,none⟩ (.slice (some ⟨g6,0,none⟩) (L.length+1) cap)).ownsRow w0.heap.size e sz v n xs:=fun v n xs e sz hne hr =>
  ((GL.refl [gF] w6).setCell (by simp) 2 _).own hr (fun g hg hm=>by
   have:g=gF:=by simpa using hm
   subst this;exact zaeZ hr hF6 hne hg.symm)
 refine ⟨⟨hF6.set_ 2 _,?_,fun p hp=>?_,fun p hp=>?_,?_,h.bF⟩,hK.setF 2 _⟩
 ·rw [List.length_append,List.flatMap_append]
  have:=hset _ _ _ _ _ (by decide) ho
  simpa using this
 ·rcases List.mem_append.1 hp with hp | hp
  ·exact h.keys p hp
  ·rw [List.mem_singleton.1 hp];exact hk
 ·have hr:W.ownsRow w0.heap.size 3 1 p.2.2 p.1.kids.length (p.1.kids.map (Value.int .i64)):=by
   rcases List.mem_append.1 hp with hp | hp
   ·exact hW.kids p hp
   ·rw [List.mem_singleton.1 hp];exact hi
  exact hset _ _ _ _ _ (by decide) (zagY hr hg (zafY hr hW.row (by decide)))
 ·have h1:=hW.bl.grown hg hW.bl.size (fun k hk=>(hW.row.lt k hk).1)
  exact h1.grown (zacY w6 gF 2 _) h1.size (fun k hk=>by injection hk with hk;have:=h.bF;omega)
def WriteP (w0 w:World) (S:ProgS) (gF:Nat) (nv:Value) (L:List NodeX) (M:List NodeD) (r:Ending) (w':World):Prop:=∃ nv' N,r=.returned (.int .i64 (((L ++ N).length:Int) - 1))∧N.map Prod.fst=M∧FtSt w0 w' S gF nv' (L ++ N)∧KF gF nv.ownBlock nv'.ownBlock w w'∧∀ p∈N,∀ g,p.2.2.ownBlock=some g→w.heap.size≤g
def nilN:Value:=.slice none 0 0
theorem zbgY {w:World} {b sz:Nat} {e:TypeId}:w.ownsRow b e sz nilN 0 []:=⟨by simp,.inl ⟨rfl,rfl⟩⟩
theorem zboY (w:World):KeysV w nilN []:=⟨none,0,rfl,Nat.le_refl _,by intro i row h;simp at h⟩
set_option maxHeartbeats 16000000 in
theorem write1_s (w0 w:World) (S:ProgS) (gF:Nat) (nv:Value) (L:List NodeX) (ci:Int) (cs:ByteArray) (cn:Int) (h:FtSt w0 w S gF nv L) (hl:L.length≤100000) :
  Calls prog 56 #[.pointer (some ⟨gF,0,none⟩),cV ⟨1,ci,cs,cn⟩] w (WriteP w0 w S gF nv L [leafN 1 ⟨#[]⟩ 0]):=by
 obtain ⟨P,hP⟩:∃ P:Ending→World→Prop,WriteP w0 w S gF nv L [leafN 1 ⟨#[]⟩ 0]=P:=⟨_,rfl⟩
 rw [hP];have HP:Hid (∀ nv' N (x:Int) w',x=((L ++ N).length:Int) - 1→N.map Prod.fst=[leafN 1 ⟨#[]⟩ 0]→FtSt w0 w' S gF nv' (L ++ N)→KF gF nv.ownBlock nv'.ownBlock w w'→(∀ p∈N,∀ g,p.2.2.ownBlock=some g→w.heap.size≤g)→P (.returned (.int .i64 x)) w'):=hZz (fun nv' N x w' h0 h1 h2 h3 h4=>by rw [← hP,h0];exact ⟨nv',N,rfl,h1,h2,h3,h4⟩);obtain ⟨i0,hi0,hz0,hz1,hz2⟩:=info_parts Tryz.infoNode;unfold cV;dsimp only;have HH:=hZz h;obtain ⟨A,cap,rfl⟩:=zahZ h.row;obtain ⟨n,hn⟩:∃ n,L.length=n:=⟨_,rfl⟩
 have HN:=hZz hn;rw [hn] at h HH HP hl;have hwr:IntKind.i64.wrap (((n+1:Nat):Int) - 1)=(n:Int):=by rw [show ((n+1:Nat):Int) - 1=(n:Int) by omega];exact IntWalk.i64_in _ (by omega)
 have hwr2:IntKind.i64.wrap ((n:Int)+1 - 1)=(n:Int):=by rw [show (n:Int)+1 - 1=(n:Int) by omega];exact IntWalk.i64_in _ (by omega)
 obtain ⟨gx,hgx⟩:∃ g,w.heap.size=g:=⟨_,rfl⟩
 obtain ⟨W1,hW1⟩:∃ W,w.alloc (.cells #[.int .i64 1,.int .i64 ci,.string cs,.int .i64 cn] 103)=W:=⟨_,rfl⟩
 have hb1:Below w.heap.size w W1:=by rw [← hW1];exact zabZ _ _
 have hX1:Blk W1 gx 103 #[.int .i64 1,.int .i64 ci,.string cs,.int .i64 cn]:=by rw [← hW1,← hgx];exact Blk.new _ _ _
 have HB1:=hZz hb1;have HX1:=hZz hX1;have HW1:=hZz hW1;have HGX:=hZz hgx;have HSZ0:Hid (w0.heap.size≤w.heap.size):=hZz h.bl.size;have hb2:Below W1.heap.size W1 (W1.alloc (.cells #[.int .i64 1,.string ⟨#[]⟩,.int .i64 0,.slice none 0 0,.slice none 0 0] 58)):=zabZ _ _;have hbw:Below w.heap.size w (W1.alloc (.cells #[.int .i64 1,.string ⟨#[]⟩,.int .i64 0,.slice none 0 0,.slice none 0 0] 58)):=zaaZ hb2 hb1 hb1.size;have HSA:=hZz (zagZ (zagZ h.row hb1) hb2);have HBA:=hZz ((h.fo.below hb1).below hb2);have HBW:=hZz hbw;have HSZ:Hid (w0.heap.size≤(W1.alloc (.cells #[.int .i64 1,.string ⟨#[]⟩,.int .i64 0,.slice none 0 0,.slice none 0 0] 58)).heap.size):=hZz (Nat.le_trans h.bl.size hbw.size);have v2:=(h.fo.below hb1).cell 2 _ rfl;have c2:=((h.fo.below hb1).below (zadZ W1)).cell 2 _ rfl;obtain ⟨x0,x1,x2,x3⟩:=blk4z hX1;obtain ⟨y0,y1,y2,y3⟩:=blk4z (hX1.below (zadZ W1));have hnew:=zadY W1 [.int .i64 1,.string ⟨#[]⟩,.int .i64 0,.slice none 0 0,.slice none 0 0] 58;rw [hn] at HSA;clear hP h hn hW1 hgx hb1 hX1 hb2 hbw;go_enter func56,ntmps56
 go_upto_region 3 with fail
 rw [HGX.out,HW1.out];go_upto_region 13 with (at_builtin;refine wpList_append_lies _ rfl (.tmp 13) (.tmp 15) 22  rfl w0.heap.size 58 i0 _ 5 80 underlying22 hi0 hz0 hz1 hz2 rfl ?k1 _ n _ rfl HSA.out ⟨W1.heap.size,0,none⟩ 1 1 [.int .i64 1,.string ⟨#[]⟩,.int .i64 0,.slice none 0 0,.slice none 0 0] rfl rfl hnew ?k2 ?k3 ?k4 ?k5 ?k6 _ rfl ?_;(case k1=>decide);(case k2=>simp [Value.oneCell']);(case k3=>decide);(case k4=>(unfold maxLen;omega));(case k5=>omega);(case k6=>exact HSZ.out);intro g6 cap6 w6 hown6 hgr6 hat6 _;have HB6:=hZz (HBA.out.grown hgr6 (zaeZ HSA.out HBA.out (by decide)));have z6:=HB6.out.frozen 2;have o6:=HB6.out.cell 2 _ rfl;have HO6:=hZz hown6;have HGR:=hZz hgr6;have HAT:=hZz hat6;clear hown6 hgr6 hat6)
 have hb7:=HB6.out.set_ 2 (.slice (some ⟨g6,0,none⟩) (n+1) cap6);have q7:=hb7.cell 2 _ rfl;clear hb7;go_wp2_with (fail)
 have hpu:=HH.out.push HBW.out ((leafN 1 ⟨#[]⟩ 0,nilN,nilN):NodeX) (zboY w0) zbgY HGR.out (by have:=HO6.out;rw [← HN.out] at this;rw [HN.out] at this ⊢;exact this) (HAT.out.imp id (fun e=>by rw [e];exact Nat.le_refl _));rw [HN.out] at hpu;exact HP.out _ [(leafN 1 ⟨#[]⟩ 0,nilN,nilN)] _ _ (by rw [List.length_append,HN.out];simp) rfl hpu.1 hpu.2 (fun p hp g hg=>by rw [List.mem_singleton.1 hp] at hg;cases hg)
set_option maxHeartbeats 16000000 in
theorem write2_s (w0 w:World) (S:ProgS) (gF:Nat) (nv:Value) (L:List NodeX) (ci:Int) (cs:ByteArray) (cn:Int) (h:FtSt w0 w S gF nv L) (hl:L.length≤100000) :
  Calls prog 56 #[.pointer (some ⟨gF,0,none⟩),cV ⟨2,ci,cs,cn⟩] w (WriteP w0 w S gF nv L [leafN 2 ⟨#[]⟩ ci]):=by
 obtain ⟨P,hP⟩:∃ P:Ending→World→Prop,WriteP w0 w S gF nv L [leafN 2 ⟨#[]⟩ ci]=P:=⟨_,rfl⟩
 rw [hP];have HP:Hid (∀ nv' N (x:Int) w',x=((L ++ N).length:Int) - 1→N.map Prod.fst=[leafN 2 ⟨#[]⟩ ci]→FtSt w0 w' S gF nv' (L ++ N)→KF gF nv.ownBlock nv'.ownBlock w w'→(∀ p∈N,∀ g,p.2.2.ownBlock=some g→w.heap.size≤g)→P (.returned (.int .i64 x)) w'):=hZz (fun nv' N x w' h0 h1 h2 h3 h4=>by rw [← hP,h0];exact ⟨nv',N,rfl,h1,h2,h3,h4⟩);obtain ⟨i0,hi0,hz0,hz1,hz2⟩:=info_parts Tryz.infoNode;unfold cV;dsimp only;have HH:=hZz h;obtain ⟨A,cap,rfl⟩:=zahZ h.row;obtain ⟨n,hn⟩:∃ n,L.length=n:=⟨_,rfl⟩
 have HN:=hZz hn;rw [hn] at h HH HP hl;have hwr:IntKind.i64.wrap (((n+1:Nat):Int) - 1)=(n:Int):=by rw [show ((n+1:Nat):Int) - 1=(n:Int) by omega];exact IntWalk.i64_in _ (by omega)
 have hwr2:IntKind.i64.wrap ((n:Int)+1 - 1)=(n:Int):=by rw [show (n:Int)+1 - 1=(n:Int) by omega];exact IntWalk.i64_in _ (by omega)
 obtain ⟨gx,hgx⟩:∃ g,w.heap.size=g:=⟨_,rfl⟩
 obtain ⟨W1,hW1⟩:∃ W,w.alloc (.cells #[.int .i64 2,.int .i64 ci,.string cs,.int .i64 cn] 103)=W:=⟨_,rfl⟩
 have hb1:Below w.heap.size w W1:=by rw [← hW1];exact zabZ _ _
 have hX1:Blk W1 gx 103 #[.int .i64 2,.int .i64 ci,.string cs,.int .i64 cn]:=by rw [← hW1,← hgx];exact Blk.new _ _ _
 have HB1:=hZz hb1;have HX1:=hZz hX1;have HW1:=hZz hW1;have HGX:=hZz hgx;have HSZ0:Hid (w0.heap.size≤w.heap.size):=hZz h.bl.size;have hb2:Below W1.heap.size W1 (W1.drew.alloc (.cells #[.int .i64 2,.string ⟨#[]⟩,.int .i64 ci,.slice none 0 0,.slice none 0 0] 58)):=(zadZ W1).trans ((zabZ W1.drew (.cells #[.int .i64 2,.string ⟨#[]⟩,.int .i64 ci,.slice none 0 0,.slice none 0 0] 58)).mono (by simp));have hbw:Below w.heap.size w (W1.drew.alloc (.cells #[.int .i64 2,.string ⟨#[]⟩,.int .i64 ci,.slice none 0 0,.slice none 0 0] 58)):=zaaZ hb2 hb1 hb1.size;have HSA:=hZz (zagZ (zagZ h.row hb1) hb2);have HBA:=hZz ((h.fo.below hb1).below hb2);have HBW:=hZz hbw;have HSZ:Hid (w0.heap.size≤(W1.drew.alloc (.cells #[.int .i64 2,.string ⟨#[]⟩,.int .i64 ci,.slice none 0 0,.slice none 0 0] 58)).heap.size):=hZz (Nat.le_trans h.bl.size hbw.size);have v2:=(h.fo.below hb1).cell 2 _ rfl;have c2:=((h.fo.below hb1).below (zadZ W1)).cell 2 _ rfl;obtain ⟨x0,x1,x2,x3⟩:=blk4z hX1;obtain ⟨y0,y1,y2,y3⟩:=blk4z (hX1.below (zadZ W1));have hnew:=zadY W1.drew [.int .i64 2,.string ⟨#[]⟩,.int .i64 ci,.slice none 0 0,.slice none 0 0] 58;rw [hn] at HSA;clear hP h hn hW1 hgx hb1 hX1 hb2 hbw;go_enter func56,ntmps56
 go_upto_region 5 with fail
 rw [HGX.out,HW1.out];go_region_law (rw [if_pos (by rfl)];refine wp_append_lies _ (.tmp 25) (.tmp 29) 22 rfl w0.heap.size 58 i0 _ 5 80 underlying22 hi0 hz0 hz1 hz2 rfl ?k1 _ n _ rfl HSA.out ⟨W1.drew.heap.size,0,none⟩ 1 1 [.int .i64 2,.string ⟨#[]⟩,.int .i64 ci,.slice none 0 0,.slice none 0 0] rfl rfl hnew ?k2 ?k3 ?k4 ?k5 ?k6 _ rfl ?_;(case k1=>decide);(case k2=>simp [Value.oneCell']);(case k3=>decide);(case k4=>(unfold maxLen;omega));(case k5=>omega);(case k6=>exact HSZ.out);intro g6 cap6 w6 hown6 hgr6 hat6 _;have HB6:=hZz (HBA.out.grown hgr6 (zaeZ HSA.out HBA.out (by decide)));have z6:=HB6.out.frozen 2;have o6:=HB6.out.cell 2 _ rfl;have HO6:=hZz hown6;have HGR:=hZz hgr6;have HAT:=hZz hat6;clear hown6 hgr6 hat6)
 all_goals
  have hb7:=HB6.out.set_ 2 (.slice (some ⟨g6,0,none⟩) (n+1) cap6);have q7:=hb7.cell 2 _ rfl;clear hb7;go_wp2_with (fail)
  have hpu:=HH.out.push HBW.out ((leafN 2 ⟨#[]⟩ ci,nilN,nilN):NodeX) (zboY w0) zbgY HGR.out (by have:=HO6.out;rw [← HN.out] at this;rw [HN.out] at this ⊢;exact this) (HAT.out.imp id (fun e=>by rw [e];exact Nat.le_refl _));rw [HN.out] at hpu;exact HP.out _ [(leafN 2 ⟨#[]⟩ ci,nilN,nilN)] _ _ (by rw [List.length_append,HN.out];simp) rfl hpu.1 hpu.2 (fun p hp g hg=>by rw [List.mem_singleton.1 hp] at hg;cases hg)
set_option maxHeartbeats 16000000 in
theorem write4_s (w0 w:World) (S:ProgS) (gF:Nat) (nv:Value) (L:List NodeX) (ci:Int) (cs:ByteArray) (cn:Int) (h:FtSt w0 w S gF nv L) (hl:L.length≤100000) :
  Calls prog 56 #[.pointer (some ⟨gF,0,none⟩),cV ⟨4,ci,cs,cn⟩] w (WriteP w0 w S gF nv L [leafN 4 cs 0]):=by
 obtain ⟨P,hP⟩:∃ P:Ending→World→Prop,WriteP w0 w S gF nv L [leafN 4 cs 0]=P:=⟨_,rfl⟩
 rw [hP];have HP:Hid (∀ nv' N (x:Int) w',x=((L ++ N).length:Int) - 1→N.map Prod.fst=[leafN 4 cs 0]→FtSt w0 w' S gF nv' (L ++ N)→KF gF nv.ownBlock nv'.ownBlock w w'→(∀ p∈N,∀ g,p.2.2.ownBlock=some g→w.heap.size≤g)→P (.returned (.int .i64 x)) w'):=hZz (fun nv' N x w' h0 h1 h2 h3 h4=>by rw [← hP,h0];exact ⟨nv',N,rfl,h1,h2,h3,h4⟩);obtain ⟨i0,hi0,hz0,hz1,hz2⟩:=info_parts Tryz.infoNode;unfold cV;dsimp only;have HH:=hZz h;obtain ⟨A,cap,rfl⟩:=zahZ h.row;obtain ⟨n,hn⟩:∃ n,L.length=n:=⟨_,rfl⟩
 have HN:=hZz hn;rw [hn] at h HH HP hl;have hwr:IntKind.i64.wrap (((n+1:Nat):Int) - 1)=(n:Int):=by rw [show ((n+1:Nat):Int) - 1=(n:Int) by omega];exact IntWalk.i64_in _ (by omega)
 have hwr2:IntKind.i64.wrap ((n:Int)+1 - 1)=(n:Int):=by rw [show (n:Int)+1 - 1=(n:Int) by omega];exact IntWalk.i64_in _ (by omega)
 obtain ⟨gx,hgx⟩:∃ g,w.heap.size=g:=⟨_,rfl⟩
 obtain ⟨W1,hW1⟩:∃ W,w.alloc (.cells #[.int .i64 4,.int .i64 ci,.string cs,.int .i64 cn] 103)=W:=⟨_,rfl⟩
 have hb1:Below w.heap.size w W1:=by rw [← hW1];exact zabZ _ _
 have hX1:Blk W1 gx 103 #[.int .i64 4,.int .i64 ci,.string cs,.int .i64 cn]:=by rw [← hW1,← hgx];exact Blk.new _ _ _
 have HB1:=hZz hb1;have HX1:=hZz hX1;have HW1:=hZz hW1;have HGX:=hZz hgx;have HSZ0:Hid (w0.heap.size≤w.heap.size):=hZz h.bl.size;have hb2:Below W1.heap.size W1 (W1.drew.alloc (.cells #[.int .i64 4,.string cs,.int .i64 0,.slice none 0 0,.slice none 0 0] 58)):=(zadZ W1).trans ((zabZ W1.drew (.cells #[.int .i64 4,.string cs,.int .i64 0,.slice none 0 0,.slice none 0 0] 58)).mono (by simp));have hbw:Below w.heap.size w (W1.drew.alloc (.cells #[.int .i64 4,.string cs,.int .i64 0,.slice none 0 0,.slice none 0 0] 58)):=zaaZ hb2 hb1 hb1.size;have HSA:=hZz (zagZ (zagZ h.row hb1) hb2);have HBA:=hZz ((h.fo.below hb1).below hb2);have HBW:=hZz hbw;have HSZ:Hid (w0.heap.size≤(W1.drew.alloc (.cells #[.int .i64 4,.string cs,.int .i64 0,.slice none 0 0,.slice none 0 0] 58)).heap.size):=hZz (Nat.le_trans h.bl.size hbw.size);have v2:=(h.fo.below hb1).cell 2 _ rfl;have c2:=((h.fo.below hb1).below (zadZ W1)).cell 2 _ rfl;obtain ⟨x0,x1,x2,x3⟩:=blk4z hX1;obtain ⟨y0,y1,y2,y3⟩:=blk4z (hX1.below (zadZ W1));have hnew:=zadY W1.drew [.int .i64 4,.string cs,.int .i64 0,.slice none 0 0,.slice none 0 0] 58;rw [hn] at HSA;clear hP h hn hW1 hgx hb1 hX1 hb2 hbw;go_enter func56,ntmps56
 go_upto_region 7 with fail
 rw [HGX.out,HW1.out];go_region_law (rw [if_pos (by rfl)];refine wp_append_lies _ (.tmp 39) (.tmp 43) 22 rfl w0.heap.size 58 i0 _ 5 80 underlying22 hi0 hz0 hz1 hz2 rfl ?k1 _ n _ rfl HSA.out ⟨W1.drew.heap.size,0,none⟩ 1 1 [.int .i64 4,.string cs,.int .i64 0,.slice none 0 0,.slice none 0 0] rfl rfl hnew ?k2 ?k3 ?k4 ?k5 ?k6 _ rfl ?_;(case k1=>decide);(case k2=>simp [Value.oneCell']);(case k3=>decide);(case k4=>(unfold maxLen;omega));(case k5=>omega);(case k6=>exact HSZ.out);intro g6 cap6 w6 hown6 hgr6 hat6 _;have HB6:=hZz (HBA.out.grown hgr6 (zaeZ HSA.out HBA.out (by decide)));have z6:=HB6.out.frozen 2;have o6:=HB6.out.cell 2 _ rfl;have HO6:=hZz hown6;have HGR:=hZz hgr6;have HAT:=hZz hat6;clear hown6 hgr6 hat6)
 all_goals
  have hb7:=HB6.out.set_ 2 (.slice (some ⟨g6,0,none⟩) (n+1) cap6);have q7:=hb7.cell 2 _ rfl;clear hb7;go_wp2_with (fail)
  have hpu:=HH.out.push HBW.out ((leafN 4 cs 0,nilN,nilN):NodeX) (zboY w0) zbgY HGR.out (by have:=HO6.out;rw [← HN.out] at this;rw [HN.out] at this ⊢;exact this) (HAT.out.imp id (fun e=>by rw [e];exact Nat.le_refl _));rw [HN.out] at hpu;exact HP.out _ [(leafN 4 cs 0,nilN,nilN)] _ _ (by rw [List.length_append,HN.out];simp) rfl hpu.1 hpu.2 (fun p hp g hg=>by rw [List.mem_singleton.1 hp] at hg;cases hg)
set_option maxHeartbeats 16000000 in
theorem write3_s (w0 w:World) (S:ProgS) (gF:Nat) (nv:Value) (L:List NodeX) (ci:Int) (cs:ByteArray) (cn:Int) (h:FtSt w0 w S gF nv L) (hl:L.length≤100000) (h0:0≤ci) :
  Calls prog 56 #[.pointer (some ⟨gF,0,none⟩),cV ⟨3,ci,cs,cn⟩] w (WriteP w0 w S gF nv L [leafN 3 ⟨#[]⟩ ci]):=by
 obtain ⟨P,hP⟩:∃ P:Ending→World→Prop,WriteP w0 w S gF nv L [leafN 3 ⟨#[]⟩ ci]=P:=⟨_,rfl⟩
 rw [hP];have HP:Hid (∀ nv' N (x:Int) w',x=((L ++ N).length:Int) - 1→N.map Prod.fst=[leafN 3 ⟨#[]⟩ ci]→FtSt w0 w' S gF nv' (L ++ N)→KF gF nv.ownBlock nv'.ownBlock w w'→(∀ p∈N,∀ g,p.2.2.ownBlock=some g→w.heap.size≤g)→P (.returned (.int .i64 x)) w'):=hZz (fun nv' N x w' h0 h1 h2 h3 h4=>by rw [← hP,h0];exact ⟨nv',N,rfl,h1,h2,h3,h4⟩);obtain ⟨i0,hi0,hz0,hz1,hz2⟩:=info_parts Tryz.infoNode;unfold cV;dsimp only;have HH:=hZz h;obtain ⟨A,cap,rfl⟩:=zahZ h.row;obtain ⟨n,hn⟩:∃ n,L.length=n:=⟨_,rfl⟩
 have HN:=hZz hn;rw [hn] at h HH HP hl;have hwr:IntKind.i64.wrap (((n+1:Nat):Int) - 1)=(n:Int):=by rw [show ((n+1:Nat):Int) - 1=(n:Int) by omega];exact IntWalk.i64_in _ (by omega)
 have hwr2:IntKind.i64.wrap ((n:Int)+1 - 1)=(n:Int):=by rw [show (n:Int)+1 - 1=(n:Int) by omega];exact IntWalk.i64_in _ (by omega)
 obtain ⟨gx,hgx⟩:∃ g,w.heap.size=g:=⟨_,rfl⟩
 obtain ⟨W1,hW1⟩:∃ W,w.alloc (.cells #[.int .i64 3,.int .i64 ci,.string cs,.int .i64 cn] 103)=W:=⟨_,rfl⟩
 have hb1:Below w.heap.size w W1:=by rw [← hW1];exact zabZ _ _
 have hX1:Blk W1 gx 103 #[.int .i64 3,.int .i64 ci,.string cs,.int .i64 cn]:=by rw [← hW1,← hgx];exact Blk.new _ _ _
 have HB1:=hZz hb1;have HX1:=hZz hX1;have HW1:=hZz hW1;have HGX:=hZz hgx;have HSZ0:Hid (w0.heap.size≤w.heap.size):=hZz h.bl.size;have hb2:Below W1.heap.size W1 (W1.drew.alloc (.cells #[.int .i64 3,.string ⟨#[]⟩,.int .i64 ci,.slice none 0 0,.slice none 0 0] 58)):=(zadZ W1).trans ((zabZ W1.drew (.cells #[.int .i64 3,.string ⟨#[]⟩,.int .i64 ci,.slice none 0 0,.slice none 0 0] 58)).mono (by simp));have hbw:Below w.heap.size w (W1.drew.alloc (.cells #[.int .i64 3,.string ⟨#[]⟩,.int .i64 ci,.slice none 0 0,.slice none 0 0] 58)):=zaaZ hb2 hb1 hb1.size;have HSA:=hZz (zagZ (zagZ h.row hb1) hb2);have HBA:=hZz ((h.fo.below hb1).below hb2);have HBW:=hZz hbw;have HSZ:Hid (w0.heap.size≤(W1.drew.alloc (.cells #[.int .i64 3,.string ⟨#[]⟩,.int .i64 ci,.slice none 0 0,.slice none 0 0] 58)).heap.size):=hZz (Nat.le_trans h.bl.size hbw.size);have v2:=(h.fo.below hb1).cell 2 _ rfl;have c2:=((h.fo.below hb1).below (zadZ W1)).cell 2 _ rfl;obtain ⟨x0,x1,x2,x3⟩:=blk4z hX1;obtain ⟨y0,y1,y2,y3⟩:=blk4z (hX1.below (zadZ W1));have hnew:=zadY W1.drew [.int .i64 3,.string ⟨#[]⟩,.int .i64 ci,.slice none 0 0,.slice none 0 0] 58;rw [hn] at HSA;clear hP h hn hW1 hgx hb1 hX1 hb2 hbw;go_enter func56,ntmps56
 go_upto_region 10 with fail
 rw [HGX.out,HW1.out];go_region_law (rw [if_pos (by rfl)];refine wp_append_lies _ (.tmp 56) (.tmp 60) 22 rfl w0.heap.size 58 i0 _ 5 80 underlying22 hi0 hz0 hz1 hz2 rfl ?k1 _ n _ rfl HSA.out ⟨W1.drew.heap.size,0,none⟩ 1 1 [.int .i64 3,.string ⟨#[]⟩,.int .i64 ci,.slice none 0 0,.slice none 0 0] rfl rfl hnew ?k2 ?k3 ?k4 ?k5 ?k6 _ rfl ?_;(case k1=>decide);(case k2=>simp [Value.oneCell']);(case k3=>decide);(case k4=>(unfold maxLen;omega));(case k5=>omega);(case k6=>exact HSZ.out);intro g6 cap6 w6 hown6 hgr6 hat6 _;have HB6:=hZz (HBA.out.grown hgr6 (zaeZ HSA.out HBA.out (by decide)));have z6:=HB6.out.frozen 2;have o6:=HB6.out.cell 2 _ rfl;have HO6:=hZz hown6;have HGR:=hZz hgr6;have HAT:=hZz hat6;clear hown6 hgr6 hat6)
 all_goals
  have hb7:=HB6.out.set_ 2 (.slice (some ⟨g6,0,none⟩) (n+1) cap6);have q7:=hb7.cell 2 _ rfl;clear hb7;go_wp2_with (fail)
  have hpu:=HH.out.push HBW.out ((leafN 3 ⟨#[]⟩ ci,nilN,nilN):NodeX) (zboY w0) zbgY HGR.out (by have:=HO6.out;rw [← HN.out] at this;rw [HN.out] at this ⊢;exact this) (HAT.out.imp id (fun e=>by rw [e];exact Nat.le_refl _));rw [HN.out] at hpu;exact HP.out _ [(leafN 3 ⟨#[]⟩ ci,nilN,nilN)] _ _ (by rw [List.length_append,HN.out];simp) rfl hpu.1 hpu.2 (fun p hp g hg=>by rw [List.mem_singleton.1 hp] at hg;cases hg)
theorem own_one {w:World} {g base:Nat} {e:TypeId} {v:Value} (h:Blk w g e #[v]) (hb:base≤g):w.ownsRow base e 1 (.slice (some ⟨g,0,none⟩) 1 1) 1 [v]:=⟨rfl,.inr ⟨g,1,#[v],rfl,hb,h,Nat.le_refl _,by decide,rfl,rfl⟩⟩
set_option maxHeartbeats 16000000 in
theorem writeN_s (w0 w:World) (S:ProgS) (gF:Nat) (nv:Value) (L:List NodeX) (ci:Int) (cs:ByteArray) (cn:Int) (h:FtSt w0 w S gF nv L) (hl:L.length≤100000) (h0:ci<0) (h1 : -1000000000000≤ci) :
  Calls prog 56 #[.pointer (some ⟨gF,0,none⟩),cV ⟨3,ci,cs,cn⟩] w (WriteP w0 w S gF nv L [leafN 3 ⟨#[]⟩ (-ci),⟨8,minS,0,[],[(L.length:Int)]⟩]):=by
 obtain ⟨P,hP⟩:∃ P:Ending→World→Prop,WriteP w0 w S gF nv L [leafN 3 ⟨#[]⟩ (-ci),⟨8,minS,0,[],[(L.length:Int)]⟩]=P:=⟨_,rfl⟩
 rw [hP];have HP:Hid (∀ nv' N (x:Int) w',x=((L ++ N).length:Int) - 1→N.map Prod.fst=[leafN 3 ⟨#[]⟩ (-ci),⟨8,minS,0,[],[(L.length:Int)]⟩]→FtSt w0 w' S gF nv' (L ++ N)→KF gF nv.ownBlock nv'.ownBlock w w'→(∀ p∈N,∀ g,p.2.2.ownBlock=some g→w.heap.size≤g)→P (.returned (.int .i64 x)) w'):=hZz (fun nv' N x w' h0 h1 h2 h3 h4=>by rw [← hP,h0];exact ⟨nv',N,rfl,h1,h2,h3,h4⟩);obtain ⟨i0,hi0,hz0,hz1,hz2⟩:=info_parts Tryz.infoNode;unfold cV;dsimp only;have HH:=hZz h;obtain ⟨A,cap,rfl⟩:=zahZ h.row;obtain ⟨n,hn⟩:∃ n,L.length=n:=⟨_,rfl⟩
 have HN:=hZz hn;rw [hn] at h HH HP hl;have hwr:IntKind.i64.wrap (((n+1:Nat):Int) - 1)=(n:Int):=by rw [show ((n+1:Nat):Int) - 1=(n:Int) by omega];exact IntWalk.i64_in _ (by omega)
 have hwr2:IntKind.i64.wrap ((n:Int)+1 - 1)=(n:Int):=by rw [show (n:Int)+1 - 1=(n:Int) by omega];exact IntWalk.i64_in _ (by omega)
 obtain ⟨gx,hgx⟩:∃ g,w.heap.size=g:=⟨_,rfl⟩
 obtain ⟨W1,hW1⟩:∃ W,w.alloc (.cells #[.int .i64 3,.int .i64 ci,.string cs,.int .i64 cn] 103)=W:=⟨_,rfl⟩
 have hb1:Below w.heap.size w W1:=by rw [← hW1];exact zabZ _ _
 have hX1:Blk W1 gx 103 #[.int .i64 3,.int .i64 ci,.string cs,.int .i64 cn]:=by rw [← hW1,← hgx];exact Blk.new _ _ _
 have HB1:=hZz hb1;have HX1:=hZz hX1;have HW1:=hZz hW1;have HGX:=hZz hgx;have HSZ0:Hid (w0.heap.size≤w.heap.size):=hZz h.bl.size;have hneg:IntKind.i64.wrap (-ci)=-ci:=IntWalk.i64_in _ (by omega);have hb2:Below W1.heap.size W1 (W1.drew.alloc (.cells #[.int .i64 3,.string ⟨#[]⟩,.int .i64 (-ci),.slice none 0 0,.slice none 0 0] 58)):=(zadZ W1).trans ((zabZ W1.drew (.cells #[.int .i64 3,.string ⟨#[]⟩,.int .i64 (-ci),.slice none 0 0,.slice none 0 0] 58)).mono (by simp));have hbw:Below w.heap.size w (W1.drew.alloc (.cells #[.int .i64 3,.string ⟨#[]⟩,.int .i64 (-ci),.slice none 0 0,.slice none 0 0] 58)):=zaaZ hb2 hb1 hb1.size;have HSA:=hZz (zagZ (zagZ h.row hb1) hb2);have HBA:=hZz ((h.fo.below hb1).below hb2);have HBW:=hZz hbw;have HSZ:Hid (w0.heap.size≤(W1.drew.alloc (.cells #[.int .i64 3,.string ⟨#[]⟩,.int .i64 (-ci),.slice none 0 0,.slice none 0 0] 58)).heap.size):=hZz (Nat.le_trans h.bl.size hbw.size);have v2:=(h.fo.below hb1).cell 2 _ rfl;have c2:=((h.fo.below hb1).below (zadZ W1)).cell 2 _ rfl;obtain ⟨x0,x1,x2,x3⟩:=blk4z hX1;obtain ⟨y0,y1,y2,y3⟩:=blk4z (hX1.below (zadZ W1));have hnew:=zadY W1.drew [.int .i64 3,.string ⟨#[]⟩,.int .i64 (-ci),.slice none 0 0,.slice none 0 0] 58;rw [hn] at HSA;have hn0:¬ 0≤ci:=by omega
 have HN0:=hZz h0;clear hP h hn hW1 hgx hb1 hX1 hb2 hbw h0 h1;go_enter func56,ntmps56
 go_upto_region 11 with fail
 rw [HGX.out,HW1.out];go_cut [] from 64 to 76 (fun wx=>∃ g6 cap6,FtSt w0 wx S gF (.slice (some ⟨g6,0,none⟩) (n+1) cap6) (L ++ [(leafN 3 ⟨#[]⟩ (-ci),nilN,nilN)])∧KF gF (Value.slice A n cap).ownBlock (some g6) w wx)
 case first =>
  go_region_law (rw [if_pos (by rfl)];refine wp_append_lies _ (.tmp 68) (.tmp 73) 22 rfl w0.heap.size 58 i0 _ 5 80 underlying22 hi0 hz0 hz1 hz2 rfl ?k1 _ n _ rfl HSA.out ⟨W1.drew.heap.size,0,none⟩ 1 1 [.int .i64 3,.string ⟨#[]⟩,.int .i64 (-ci),.slice none 0 0,.slice none 0 0] rfl rfl hnew ?k2 ?k3 ?k4 ?k5 ?k6 _ rfl ?_;(case k1=>decide);(case k2=>simp [Value.oneCell']);(case k3=>decide);(case k4=>(unfold maxLen;omega));(case k5=>omega);(case k6=>exact HSZ.out);intro g6 cap6 w6 hown6 hgr6 hat6 _;have HB6:=hZz (HBA.out.grown hgr6 (zaeZ HSA.out HBA.out (by decide)));have z6:=HB6.out.frozen 2;have o6:=HB6.out.cell 2 _ rfl;have HO6:=hZz hown6;have HGR:=hZz hgr6;have HAT:=hZz hat6;clear hown6 hgr6 hat6)
  all_goals
   go_wp2_with (fail)
   go_meet
   have hpu:=HH.out.push HBW.out ((leafN 3 ⟨#[]⟩ (-ci),nilN,nilN):NodeX) (zboY w0) zbgY HGR.out (by have:=HO6.out;rw [← HN.out] at this;rw [HN.out] at this ⊢;exact this) (HAT.out.imp id (fun e=>by rw [e];exact Nat.le_refl _));rw [HN.out] at hpu;exact ⟨_,_,hpu.1,hpu.2⟩
 case rest =>
  obtain ⟨g6,cap6,hs6,hk6⟩:=hcut;have HS6:=hZz hs6;have HK6:=hZz hk6;clear v2 c2 x0 x1 x2 x3 y0 y1 y2 y3 hnew HSA HBA HBW HSZ
  rename World=>V
  have hl1:(L ++ [((leafN 3 ⟨#[]⟩ (-ci),nilN,nilN):NodeX)]).length=n+1:=by rw [List.length_append,HN.out];rfl
  have HL1:=hZz hl1;have hbI:Below V.heap.size V (V.drew.alloc (.cells #[.int .i64 n] 3)):=(zadZ V).trans ((zabZ V.drew (.cells #[.int .i64 n] 3)).mono (by simp));obtain ⟨V1,hV1⟩:∃ W,V.drew.alloc (.cells #[.int .i64 n] 3)=W:=⟨_,rfl⟩
  have hblk:Blk V1 V.heap.size 3 #[.int .i64 n]:=by rw [← hV1];exact Blk.new V.drew _ _
  rw [hV1] at hbI;have hbN:=zabZ V1 (.cells #[.int .i64 8,.string ⟨#[45]⟩,.int .i64 0,.slice none 0 0,.slice (some ⟨V.heap.size,0,none⟩) 1 1] 58);have hb2:Below V.heap.size V (V1.alloc (.cells #[.int .i64 8,.string ⟨#[45]⟩,.int .i64 0,.slice none 0 0,.slice (some ⟨V.heap.size,0,none⟩) 1 1] 58)):=zaaZ hbN hbI hbI.size;have HSA:=hZz (zagZ hs6.row hb2);have HBA:=hZz (hs6.fo.below hb2);have HBW:=hZz hb2;have HIB:=hZz (own_one (base:=w0.heap.size) (hblk.below hbN) hs6.bl.size);have HSZ:Hid (w0.heap.size≤(V1.alloc (.cells #[.int .i64 8,.string ⟨#[45]⟩,.int .i64 0,.slice none 0 0,.slice (some ⟨V.heap.size,0,none⟩) 1 1] 58)).heap.size):=hZz (Nat.le_trans hs6.bl.size hb2.size);have v2:=hs6.fo.cell 2 _ rfl;have c2:=(hs6.fo.below (zadZ V)).cell 2 _ rfl;have e2:=(hs6.fo.below hbI).cell 2 _ rfl;have hnew:=zadY V1 [.int .i64 8,.string ⟨#[45]⟩,.int .i64 0,.slice none 0 0,.slice (some ⟨V.heap.size,0,none⟩) 1 1] 58;rw [hl1] at HSA;have hs1:V1.heap.size=V.heap.size+1:=by rw [← hV1];simp
  rw [hs1] at hnew;have hwr5:IntKind.i64.wrap (n:Int)=(n:Int):=IntWalk.i64_in _ (by omega);subst hV1;have hwr3:IntKind.i64.wrap (((n+1+1:Nat):Int) - 1)=((n+1:Nat):Int):=by rw [show ((n+1+1:Nat):Int) - 1=((n+1:Nat):Int) by omega];exact IntWalk.i64_in _ (by omega)
  have hwr4:IntKind.i64.wrap ((n:Int)+1+1 - 1)=(n:Int)+1:=by rw [show (n:Int)+1+1 - 1=(n:Int)+1 by omega];exact IntWalk.i64_in _ (by omega)
  clear hs6 hk6 hl1 hbI hblk hbN hb2 hs1;go_upto_region 12 with fail
  go_region_law (rw [if_pos (by rfl)];refine wp_append_lies _ (.tmp 81) (.tmp 90) 22 rfl w0.heap.size 58 i0 _ 5 80 underlying22 hi0 hz0 hz1 hz2 rfl ?k1 _ (n+1) _ rfl HSA.out ⟨V.heap.size+1,0,none⟩ 1 1 [.int .i64 8,.string ⟨#[45]⟩,.int .i64 0,.slice none 0 0,.slice (some ⟨V.heap.size,0,none⟩) 1 1] rfl rfl hnew ?k2 ?k3 ?k4 ?k5 ?k6 _ rfl ?_;(case k1=>decide);(case k2=>simp [Value.oneCell']);(case k3=>decide);(case k4=>(unfold maxLen;omega));(case k5=>omega);(case k6=>exact HSZ.out);intro g7 cap7 w7 hown7 hgr7 hat7 _;have HB7:=hZz (HBA.out.grown hgr7 (zaeZ HSA.out HBA.out (by decide)));have z7:=HB7.out.frozen 2;have o7:=HB7.out.cell 2 _ rfl;have HO7:=hZz hown7;have HGR:=hZz hgr7;have HAT:=hZz hat7;clear hown7 hgr7 hat7)
  all_goals
   have hb7:=HB7.out.set_ 2 (.slice (some ⟨g7,0,none⟩) (n+1+1) cap7);have q7:=hb7.cell 2 _ rfl;clear hb7;go_wp2_with (fail)
   have hpu:=HS6.out.push HBW.out ((⟨8,minS,0,[],[(n:Int)]⟩,nilN,.slice (some ⟨V.heap.size,0,none⟩) 1 1):NodeX) (zboY w0) HIB.out HGR.out (by have:=HO7.out;rw [← HL1.out] at this;rw [HL1.out] at this ⊢;exact this) (HAT.out.imp id (fun e=>by rw [e];exact Nat.le_refl _));rw [HL1.out,List.append_assoc] at hpu
   exact HP.out _ [((leafN 3 ⟨#[]⟩ (-ci),nilN,nilN):NodeX),(⟨8,minS,0,[],[(n:Int)]⟩,nilN,.slice (some ⟨V.heap.size,0,none⟩) 1 1)] _ _ (by rw [List.length_append,HN.out];simp;try omega) rfl hpu.1 (HK6.out.trans hpu.2) (fun p hp g hg=>by
    rcases List.mem_cons.1 hp with rfl | hp
    ·cases hg
    ·rw [List.mem_singleton.1 hp] at hg
     injection hg with hg
     rw [← hg];exact HK6.out.size)
end Go.Proofs.YthiimbhjpdphpaaGreatDoor
