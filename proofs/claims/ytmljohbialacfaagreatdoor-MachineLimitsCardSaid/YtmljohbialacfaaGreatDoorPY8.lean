/- Y3, Y4, Y5, Y6, Y7, Y8 -/
import Derived.Test.YtmljohbialacfaaGreatDoorPE45
import Derived.Test.YtmljohbialacfaaGreatDoorPX5
import Derived.Test.YtmljohbialacfaaGreatDoorPE18
import Derived.StillTailTactics
set_option linter.unusedVariables false
set_option linter.unusedSimpArgs false
namespace Go.Proofs.YtmljohbialacfaaGreatDoor
section
open Go.RowKit
set_option maxRecDepth 100000
/-- The top frame of an executor's machine, opened; its locals and its stack are told apart. -/
structure TopF (w0:World) (C:CodeS) (gE:Nat) (w:World) (m:MachD) (vv qv:Value) (LS0:List (Value × Value)) (avs:List Value) (fs:List FrameD) (fu pc:Int) (gF cap:Nat) (lv sv:Value):Prop where
 p:XP w0 C gE w m vv (.slice (some ⟨gF,0,none⟩) (fs.length+1) cap) qv LS0 fs avs
 row:w.ownsRow w0.heap.size 74 4 (.slice (some ⟨gF,0,none⟩) (fs.length+1) cap) (fs.length+1) (rowsF LS0 fs ++ [.int .i64 fu,.int .i64 pc,lv,sv])
 nd:(blocksF LS0 ++ (lv.ownBlock.toList ++ sv.ownBlock.toList) ++ blocksQ avs).Nodup
section
variable {w0 w w':World} {C:CodeS} {gE:Nat} {m:MachD} {vv fv qv:Value} {LS LS0:List (Value × Value)} {fs:List FrameD} {avs:List Value} {f:FrameD} {gF cap:Nat} {lv sv:Value} {fu pc:Int}
theorem XM.top (h:XM w0 C gE w m vv fv qv LS avs) (hm:m.frames=fs ++ [f]):∃ LS0 lv sv gF cap,LS=LS0 ++ [(lv,sv)]∧fv=.slice (some ⟨gF,0,none⟩) (fs.length+1) cap∧TopF w0 C gE w m vv qv LS0 avs fs f.func f.pc gF cap lv sv∧ValsO w w0.heap.size lv f.locals∧ValsO w w0.heap.size sv f.stack:=by
 obtain ⟨LS0,lv,sv,rfl,hp,hl,hs,hlen,hnd⟩:=h.open_ hm
 have hr:=h.frow
 rw [hm,rowsF_snoc hlen] at hr
 have hn:(fs ++ [f]).length=fs.length+1:=by simp
 rw [hn] at hr
 obtain ⟨gF,cap,rfl,_,_⟩:=hr.form (by omega)
 exact ⟨LS0,lv,sv,gF,cap,rfl,rfl,⟨hp,hr,hnd⟩,hl,hs⟩
theorem TopF.len (h:TopF w0 C gE w m vv qv LS0 avs fs fu pc gF cap lv sv):(rowsF LS0 fs).length=fs.length * 4:=rowsF_len h.p.fr.len
theorem TopF.xm (h:TopF w0 C gE w m vv qv LS0 avs fs fu pc gF cap lv sv) (h1:f.func=fu) (h2:f.pc=pc) (hm:m.frames=fs ++ [f]) (hl:ValsO w w0.heap.size lv f.locals) (hs:ValsO w w0.heap.size sv f.stack):XM w0 C gE w m vv (.slice (some ⟨gF,0,none⟩) (fs.length+1) cap) qv (LS0 ++ [(lv,sv)]) avs :=
 XM.close h.p hm hl hs (by subst h1 h2;exact h.row) h.nd
theorem TopF.cellAt (h:TopF w0 C gE w m vv qv LS0 avs fs fu pc gF cap lv sv) (j:Nat) (u:Value) (hj:[Value.int .i64 fu,.int .i64 pc,lv,sv][j]? = some u):w.cell? ⟨gF,fs.length * 4+j,none⟩=some u:=by
 have:=h.row.cells (g:=gF) rfl (fs.length * 4+j) u (by rw [List.getElem?_append_right (by rw [h.len];omega),h.len];rw [show fs.length * 4+j - fs.length * 4=j by omega];exact hj)
 rwa [addr_add,Nat.zero_add] at this
theorem TopF.blk (h:TopF w0 C gE w m vv qv LS0 avs fs fu pc gF cap lv sv):w0.heap.size≤gF∧∃ cs,Blk w gF 74 cs:=own_blk h.row (g:=gF) rfl
theorem TopF.facts (h:TopF w0 C gE w m vv qv LS0 avs fs fu pc gF cap lv sv) :
  w.cell? ⟨gF,fs.length * 4,none⟩=some (.int .i64 fu)∧w.cell? ⟨gF,fs.length * 4+1,none⟩=some (.int .i64 pc)∧w.cell? ⟨gF,fs.length * 4+2,none⟩=some lv∧w.cell? ⟨gF,fs.length * 4+3,none⟩=some sv ∧
  w.frozen? ⟨gF,fs.length * 4+1,none⟩=false∧w.frozen? ⟨gF,fs.length * 4+2,none⟩=false∧w.frozen? ⟨gF,fs.length * 4+3,none⟩=false:=by
 obtain ⟨_,cs,hb⟩:=h.blk
 exact ⟨h.cellAt 0 _ rfl,h.cellAt 1 _ rfl,h.cellAt 2 _ rfl,h.cellAt 3 _ rfl,hb.frozen _,hb.frozen _,hb.frozen _⟩
theorem TopF.below (h:TopF w0 C gE w m vv qv LS0 avs fs fu pc gF cap lv sv) (hb:Below w.heap.size w w'):TopF w0 C gE w' m vv qv LS0 avs fs fu pc gF cap lv sv:=⟨h.p.below hb,own_below h.row hb,h.nd⟩
/-- A cell of the top frame is set. -/
theorem TopF.set (h:TopF w0 C gE w m vv qv LS0 avs fs fu pc gF cap lv sv) {j:Nat} (hj:j<4) {u:Value} {fu' pc':Int} {lv' sv':Value} (he:[Value.int .i64 fu,.int .i64 pc,lv,sv].set j u=[.int .i64 fu',.int .i64 pc',lv',sv']) (hnd:(blocksF LS0 ++ (lv'.ownBlock.toList ++ sv'.ownBlock.toList) ++ blocksQ avs).Nodup) :
  TopF w0 C gE (w.setCell ⟨gF,fs.length * 4+j,none⟩ u) m vv qv LS0 avs fs fu' pc' gF cap lv' sv'∧CK w (w.setCell ⟨gF,fs.length * 4+j,none⟩ u)∧(∀ {v:Value} {l:List ValD},ValsO w w0.heap.size v l→ValsO (w.setCell ⟨gF,fs.length * 4+j,none⟩ u) w0.heap.size v l):=by
 have hg:=grown_setc w gF (fs.length * 4+j) u
 have hck:CK w (w.setCell ⟨gF,fs.length * 4+j,none⟩ u):=CK.own h.row (by decide) hg
 obtain ⟨hb,cs,hB⟩:=h.blk
 refine ⟨⟨h.p.turnF h.row hg,?_,hnd⟩,hck,fun {v l} hv=>hv.keep hck (fun g hgv=>?_)⟩
 ·have:=own_set h.row (fs.length * 4+j) u
  rw [List.set_append_right _ _ (by rw [h.len];omega),h.len,show fs.length * 4+j - fs.length * 4=j by omega,he] at this
  exact this
 ·obtain ⟨vs,h1,_⟩:=hv
  obtain ⟨_,cs',hb'⟩:=own_blk h1 hgv
  exact hg.block g (lt_of_block hb') (fun e=>blk_ne hb' hB (by decide) (by simpa using e))
/-- A row of values has turned that is none of the parked ones. -/
theorem TopF.turnV (h:TopF w0 C gE w m vv qv LS0 avs fs fu pc gF cap lv sv) {v:Value} {n:Nat} {vs:List Value} (hr:w.ownsRow w0.heap.size 26 1 v n vs) (hd:∀ g,v.ownBlock=some g→g ∉ blocksF LS0 ++ blocksQ avs) (hg:w.grownBy w' v.ownBlock):TopF w0 C gE w' m vv qv LS0 avs fs fu pc gF cap lv sv:=by
 refine ⟨h.p.turn hg (fun g e=>?_),h.row.kept hg ?_,h.nd⟩
 ·obtain ⟨h1,cs,h2⟩:=own_blk hr e
  exact ⟨h1,_,cs,h2,by decide,by decide,by decide,by decide,fun _=>hd g e⟩
 ·by_cases e:v.ownBlock=none
  ·rw [e]
   exact .inr (by simp [Value.ownBlock])
  ·obtain ⟨g,hgg⟩:=Option.ne_none_iff_exists'.1 e
   obtain ⟨_,cs,h2⟩:=own_blk hr hgg
   rw [hgg]
   exact .inr (fun e=>own_ne_blk h.row h2 (by decide) e.symm)
theorem TopF.sp (h:TopF w0 C gE w m vv qv LS0 avs fs fu pc gF cap lv sv):∀ g,sv.ownBlock=some g→g ∉ blocksF LS0 ++ blocksQ avs∧lv.ownBlock≠some g:=by
 intro g hg
 have hnd:=h.nd
 rw [hg] at hnd
 simp only [List.nodup_append,List.mem_append,Option.toList_some,List.mem_singleton,Option.mem_toList] at hnd
 refine ⟨fun hm=>?_,fun e=>?_⟩
 ·rcases List.mem_append.1 hm with hm | hm
  ·exact hnd.1.2.2 g hm g (.inr rfl) rfl
  ·exact hnd.2.2 g (.inr (.inr rfl)) g hm rfl
 ·exact hnd.1.2.1.2.2 g (by simpa using e) g rfl rfl
theorem TopF.lp (h:TopF w0 C gE w m vv qv LS0 avs fs fu pc gF cap lv sv):∀ g,lv.ownBlock=some g→g ∉ blocksF LS0 ++ blocksQ avs∧sv.ownBlock≠some g:=by
 intro g hg
 have hnd:=h.nd
 rw [hg] at hnd
 simp only [List.nodup_append,List.mem_append,Option.toList_some,List.mem_singleton,Option.mem_toList] at hnd
 refine ⟨fun hm=>?_,fun e=>?_⟩
 ·rcases List.mem_append.1 hm with hm | hm
  ·exact hnd.1.2.2 g hm g (.inl rfl) rfl
  ·exact hnd.2.2 g (.inr (.inl rfl)) g hm rfl
 ·exact hnd.1.2.1.2.2 g rfl g (by simpa using e) rfl
/-- Another machine with the same outer fields. -/
theorem TopF.mach (h:TopF w0 C gE w m vv qv LS0 avs fs fu pc gF cap lv sv) {m':MachD} (h1:m'.status=m.status) (h2:m'.err=m.err) (h3:m'.value=m.value) (h4:m'.requests=m.requests) (h5:m'.lsteps=m.lsteps) (h6:m'.lmem=m.lmem) (h7:m'.steps=m.steps) (h8:m'.peak=m.peak):TopF w0 C gE w m' vv qv LS0 avs fs fu pc gF cap lv sv:=by
 refine ⟨⟨h.p.bel,h.p.hE,?_,h3 ▸ h.p.val,h.p.fr,h4 ▸ h.p.rq,h4 ▸ h.p.qrow,h.p.nd,h.p.tb⟩,h.row,h.nd⟩
 have:=h.p.ex
 unfold exA at this ⊢
 rw [h1,h2,h5,h6,h7,h8]
 exact this
end
/-- What an action of the machine answers. -/
def ActP (w0:World) (C:CodeS) (gE:Nat) (r:MachD × Int) (e:Ending) (w':World):Prop:=e=.returned (.int .i64 r.2)∧∃ vv fv qv LS avs,XM w0 C gE w' r.1 vv fv qv LS avs
end
section
open Go.RowKit
set_option maxRecDepth 100000
/-- What a step of the executor leaves of everything that is not its own. -/
structure Kp (w w':World) (LS LS':List (Value × Value)):Prop where
 ck:CK w w'
 blk:∀ g t cs,Blk w g t cs→t≠74→t≠69→t≠86→g ∉ blocksF LS→Blk w' g t cs
 ls:∀ g∈blocksF LS',g∈blocksF LS∨w.heap.size≤g
theorem Kp.trans {w w1 w':World} {LS LS1 LS':List (Value × Value)} (h:Kp w w1 LS LS1) (k:Kp w1 w' LS1 LS'):Kp w w' LS LS':=by
 refine ⟨h.ck.trans k.ck,fun g t cs hb h1 h2 h3 h4=>k.blk g t cs (h.blk g t cs hb h1 h2 h3 h4) h1 h2 h3 (fun hm=>?_),fun g hg=>?_⟩
 ·rcases h.ls g hm with hm | hm
  ·exact h4 hm
  ·have:=lt_of_block hb;omega
 ·rcases k.ls g hg with hg | hg
  ·exact h.ls g hg
  ·exact .inr (Nat.le_trans h.ck.1 hg)
theorem Kp.of_below {w w':World} {LS:List (Value × Value)} (hb:Below w.heap.size w w'):Kp w w' LS LS:=⟨CK.of_below hb,fun g t cs h _ _ _ _=>h.below hb,fun g hg=>.inl hg⟩
theorem Kp.vals {w w':World} {LS LS':List (Value × Value)} (h:Kp w w' LS LS') {base:Nat} {v:Value} {l:List ValD} (hv:ValsO w base v l) (hn:∀ g,v.ownBlock=some g→g ∉ blocksF LS):ValsO w' base v l∧∀ g,v.ownBlock=some g→g ∉ blocksF LS':=by
 have hb:∀ g,v.ownBlock=some g→∃ cs,Blk w g 26 cs:=fun g hg=>by
  obtain ⟨vs,h1,_⟩:=hv
  exact (own_blk h1 hg).2
 refine ⟨hv.keep h.ck (fun g hg=>?_),fun g hg hm=>?_⟩
 ·obtain ⟨cs,hB⟩:=hb g hg
  exact (h.blk g _ cs hB (by decide) (by decide) (by decide) (hn g hg)).trans hB.symm
 ·obtain ⟨cs,hB⟩:=hb g hg
  rcases h.ls g hm with hm | hm
  ·exact hn g hg hm
  ·have:=lt_of_block hB;omega
attribute [local go_sem] cell_alloc_is
set_option maxHeartbeats 2000000 in
theorem frame_any (gE gF n cap:Nat) (w:World) (h:w.cell? ⟨gE,5,none⟩=some (.slice (some ⟨gF,0,none⟩) (n+1) cap)) (hn:n≤1000) :
  Calls Tryz.prog 74 #[.pointer (some ⟨gE,0,none⟩)] w fun e w'=>e=.returned (.pointer (some ⟨gF,n * 4,none⟩))∧∃ q,w'=w.drewN q:=by
 have h0:(0:Int)≤(n:Int):=by omega
 have h9:(n:Int)≤1000:=by omega
 go_enter Tryz.func74,Tryz.ntmps74
 go_wp2_with (fail)
 go_quiet (fail)
 go_wp2_with (fail)
 go_returns
 exact ⟨by simp,_,rfl⟩
section
variable {w0 w w':World} {C:CodeS} {gE:Nat} {m:MachD} {vv fv qv:Value} {LS LS0:List (Value × Value)} {fs:List FrameD} {avs:List Value} {f:FrameD} {gF cap:Nat} {lv sv:Value} {fu pc:Int}
theorem TopF.five (h:TopF w0 C gE w m vv qv LS0 avs fs fu pc gF cap lv sv):w.cell? ⟨gE,5,none⟩=some (.slice (some ⟨gF,0,none⟩) (fs.length+1) cap):=(blkX h.p.ex).2.2.2.2.2.1
theorem blocksF_snoc (LS0:List (Value × Value)) (lv sv:Value) (g:Nat):g∈blocksF (LS0 ++ [(lv,sv)])↔g∈blocksF LS0∨lv.ownBlock=some g∨sv.ownBlock=some g:=by
 simp [blocksF]
/-- The top frame's stack is another one, stored in its cell: what holds then. -/
theorem TopF.stack (h:TopF w0 C gE w m vv qv LS0 avs fs fu pc gF cap lv sv) (hm:m.frames=fs ++ [f]) (h1:f.func=fu) (h2:f.pc=pc) {sv':Value} {st':List ValD} (hl:ValsO w w0.heap.size lv f.locals) (hs:ValsO w w0.heap.size sv' st') (hn:∀ g,sv'.ownBlock=some g→sv.ownBlock=some g∨g ∉ blocksF LS0 ++ blocksQ avs∧lv.ownBlock≠some g) :
  XM w0 C gE (w.setCell ⟨gF,fs.length * 4+3,none⟩ sv') (topM m fs { f with stack:=st' }) vv (.slice (some ⟨gF,0,none⟩) (fs.length+1) cap) qv (LS0 ++ [(lv,sv')]) avs:=by
 have hnd:(blocksF LS0 ++ (lv.ownBlock.toList ++ sv'.ownBlock.toList) ++ blocksQ avs).Nodup:=by
  have hnd:=h.nd
  cases hs':sv'.ownBlock with
  | none =>
   refine hnd.sublist ?_
   exact ((List.Sublist.refl _).append ((List.Sublist.refl _).append (List.nil_sublist _))).append (List.Sublist.refl _)
  | some g =>
   have hg1:g ∉ blocksF LS0∧g ∉ blocksQ avs∧lv.ownBlock≠some g:=by
    rcases hn g hs' with e | e
    ·have:=h.sp g e
     simp only [List.mem_append,not_or] at this
     exact ⟨this.1.1,this.1.2,this.2⟩
    ·simp only [List.mem_append,not_or] at e
     exact ⟨e.1.1,e.1.2,e.2⟩
   simp only [List.nodup_append,List.mem_append,Option.toList_some,List.mem_singleton,Option.mem_toList] at hnd ⊢
   refine ⟨⟨hnd.1.1,⟨?_,by simp,?_⟩,?_⟩,hnd.2.1,?_⟩
   ·cases lv.ownBlock <;> simp
   ·intro a ha b hb e
    exact hg1.2.2 (by rw [ha,e,hb])
   ·intro a ha b hb e
    rcases hb with hb | hb
    ·exact hnd.1.2.2 a ha b (.inl hb) e
    ·exact hg1.1 (by rw [← hb,← e];exact ha)
   ·intro a ha b hb e
    rcases ha with ha | ha | ha
    ·exact hnd.2.2 a (.inl ha) b hb e
    ·exact hnd.2.2 a (.inr (.inl ha)) b hb e
    ·exact hg1.2.1 (by rw [← ha,e];exact hb)
 obtain ⟨hT,hck,hval⟩:=h.set (j:=3) (by omega) (u:=sv') (fu':=fu) (pc':=pc) (lv':=lv) (sv':=sv') rfl hnd
 have hT':TopF w0 C gE (w.setCell ⟨gF,fs.length * 4+3,none⟩ sv') (topM m fs { f with stack:=st' }) vv qv LS0 avs fs fu pc gF cap lv sv':=hT.mach rfl rfl rfl rfl rfl rfl rfl rfl
 exact hT'.xm (f:={ f with stack:=st' }) h1 h2 rfl (hval hl) (hval hs)
theorem TopF.kp (h:TopF w0 C gE w m vv qv LS0 avs fs fu pc gF cap lv sv) (k:Nat) (u:Value):Kp w (w.setCell ⟨gF,k,none⟩ u) LS LS:=by
 obtain ⟨_,cs',hB'⟩:=h.blk
 have hg:=grown_setc w gF k u
 exact ⟨CK.blk hB' (by decide) hg,fun g t cs hB h1 h2 h3 h4=>hB.grown hg (by simpa using blk_ne hB hB' h1),fun g hg=>.inl hg⟩
theorem Kp.to {LS1 LS':List (Value × Value)} (h:Kp w w' LS LS1) (hl:∀ g∈blocksF LS',g∈blocksF LS∨w.heap.size≤g):Kp w w' LS LS':=⟨h.ck,h.blk,hl⟩
theorem Kp.turn {v:Value} {n:Nat} {base:Nat} {vs:List Value} (hr:w.ownsRow base 26 1 v n vs) (hv:∀ g,v.ownBlock=some g→g∈blocksF LS) (hg:w.grownBy w' v.ownBlock):Kp w w' LS LS :=
 ⟨CK.own hr (by decide) hg,fun g t cs hB h1 h2 h3 h4=>hB.grown hg (fun e=>h4 (hv g e.symm)),fun g hg=>.inl hg⟩
end
set_option maxHeartbeats 8000000 in
theorem push_x {w0 w:World} {C:CodeS} {gE:Nat} {m:MachD} {vv fv qv:Value} {LS:List (Value × Value)} {avs:List Value} {fs:List FrameD} {f:FrameD} (h:XM w0 C gE w m vv fv qv LS avs) (hm:m.frames=fs ++ [f]) (x:Value) (v:ValD) (hx:ValT w x v) (hfs:fs.length≤100) (hst:f.stack.length≤100000) :
  Calls Tryz.prog 40 #[.pointer (some ⟨gE,0,none⟩),x] w fun e w'=>e=.returned (.tuple #[])∧∃ LS',XM w0 C gE w' (topM m fs (pushFr f v)) vv fv qv LS' avs∧Kp w w' LS LS':=by
 obtain ⟨i1,hj,hy0,hy1,hy2⟩:=info_parts Tryz.infoVal
 obtain ⟨LS0,lv,sv,gF,cap,rfl,rfl,hT,hl,hs⟩:=h.top hm
 obtain ⟨P,hP⟩:∃ P:Ending→World→Prop,(fun e w'=>e=.returned (.tuple #[])∧∃ LS',XM w0 C gE w' (topM m fs (pushFr f v)) vv (.slice (some ⟨gF,0,none⟩) (fs.length+1) cap) qv LS' avs∧Kp w w' (LS0 ++ [(lv,sv)]) LS')=P:=⟨_,rfl⟩
 rw [hP]
 have HP:=Lib.hid hP
 have HM:=Lib.hid hm
 obtain ⟨xA,xn,xc,rfl⟩:=hx.shape
 obtain ⟨vs,ho,hvl,hvt⟩:=hs
 obtain ⟨sA,sc,rfl⟩:=own_shape ho
 have HX:=Lib.hid hx
 have HT:=Lib.hid hT
 have HL:=Lib.hid hl
 have HO:=Lib.hid ho
 have HVT:=Lib.hid hvt
 have HVL:=Lib.hid hvl
 have HFS:=Lib.hid hfs
 have HST:=Lib.hid hst
 have h5:=hT.five
 obtain ⟨n,hn⟩:∃ n,fs.length=n:=⟨_,rfl⟩
 obtain ⟨N,hN⟩:∃ N,f.stack.length=N:=⟨_,rfl⟩
 have HN:=Lib.hid hN
 have HNN:=Lib.hid hn
 rw [hN] at HT HO hst
 rw [hn] at h5 hfs
 have HFR:=Lib.hid (frame_any gE gF n cap w h5 (by omega))
 clear h hm hx hT hl ho hvt hvl hP h5 hn hN
 have hn0:(0:Int)≤(n:Int):=by omega
 go_enter Tryz.func40,Tryz.ntmps40
 go_wp2_with (first
  | (go_at_call 74;(with_reducible refine HFR.out.mono ?_);rintro e w1 ⟨rfl,q,hq⟩;have hb1:Below w.heap.size w w1:=(by rw [hq];exact below_drewN (Below.refl _ _) _);have HB1:=Lib.hid hb1;have HT1:=Lib.hid (HT.out.below hb1);have f1:=HT1.out.facts;rw [HNN.out] at f1;have HO2:=Lib.hid (own_below HO.out (below_call (below_new w1 (.cells #[.slice xA xn xc] 26)) hb1));have HT2:=Lib.hid (HT1.out.below (below_new w1 (.cells #[.slice xA xn xc] 26)));have hsz:w0.heap.size≤(w1.alloc (.cells #[.slice xA xn xc] 26)).heap.size:=HT2.out.p.bel.size;clear hq hb1)
  | (at_builtin;refine wpList_append_lies _ rfl (.tmp 11) (.tmp 13) 72 rfl w0.heap.size 26 i1 _ 1 24 Tryz.underlying72 hj hy0 hy1 hy2 rfl (by omega) _ N _ rfl HO2.out ⟨w1.heap.size,0,none⟩ 1 1 [.slice xA xn xc] rfl rfl (cells_new w1 _ _) (by simp [Value.oneCell']) (by omega) (by unfold maxLen;omega) (by omega) hsz _ rfl ?_;intro g6 cap6 w6 hown6 hgr6 hat6 hlt6;have HO6:=Lib.hid hown6;have HG6:=Lib.hid hgr6;have HT6:=Lib.hid (HT2.out.turnV HO2.out (fun g hg=>(HT2.out.sp g hg).1) hgr6);have f6:=HT6.out.facts;rw [HNN.out] at f6;have HA6:Hid ((Value.slice sA N sc).ownBlock=some g6∨g6=(w1.alloc (.cells #[.slice xA xn xc] 26)).heap.size):=Lib.hid hat6;clear hown6 hgr6 hat6))
 go_returns
 rw [← HP.out]
 have hb2:Below w.heap.size w (w1.alloc (.cells #[.slice xA xn xc] 26)):=below_call (below_new w1 _) HB1.out
 have hck6:CK (w1.alloc (.cells #[.slice xA xn xc] 26)) w6:=CK.own HO2.out (by decide) HG6.out
 have hck:CK w w6:=(CK.of_below hb2).trans hck6
 have hx6:ValT w6 (.slice xA xn xc) v:=HX.out.keep hck
 have hs6:ValsO w6 w0.heap.size (.slice (some ⟨g6,0,none⟩) (N+1) cap6) (f.stack ++ [v]) :=
  valsO_snoc HN.out HO6.out (HVL.out.trans HN.out) (fun i a b=>(HVT.out i a b).keep hck) hx6
 have hl6:ValsO w6 w0.heap.size lv f.locals:=(HL.out.below hb2).keep hck6 (fun g hg=>by
  obtain ⟨ws,h1,_⟩:=HL.out.below hb2
  obtain ⟨_,cs,hB⟩:=own_blk h1 hg
  exact HG6.out.block g (lt_of_block hB) (fun e=>(HT2.out.lp g hg).2 e.symm))
 have hlt:∀ g,lv.ownBlock=some g→g<(w1.alloc (.cells #[.slice xA xn xc] 26)).heap.size:=fun g hg=>((HL.out.below hb2).lt hg).2
 have hfr:∀ g,(Value.slice (some ⟨g6,0,none⟩) (N+1) cap6).ownBlock=some g→(Value.slice sA N sc).ownBlock=some g∨(w1.alloc (.cells #[.slice xA xn xc] 26)).heap.size≤g:=fun g hg=>by
  have e:g6=g:=by simpa [Value.ownBlock] using hg
  subst e
  exact HA6.out.imp id (fun e=>Nat.le_of_eq e.symm)
 have hT6:=HT6.out
 rw [show n=fs.length from HNN.out.symm]
 refine ⟨rfl,_,hT6.stack HM.out rfl rfl hl6 hs6 (fun g hg=>?_),?_⟩
 ·rcases hfr g hg with e | e
  ·exact .inl e
  ·refine .inr ⟨fun hm=>?_,fun e2=>by have:=hlt g e2;omega⟩
   rcases List.mem_append.1 hm with hm | hm
   ·have:=(HT2.out.p.fr.mem g hm).2.1;omega
   ·have:=(HT2.out.p.rq.mem g hm).2.1;omega
 ·have k1:Kp w (w1.alloc (.cells #[.slice xA xn xc] 26)) (LS0 ++ [(lv,.slice sA f.stack.length sc)]) (LS0 ++ [(lv,.slice sA f.stack.length sc)]):=Kp.of_below hb2
  have k2:Kp (w1.alloc (.cells #[.slice xA xn xc] 26)) w6 (LS0 ++ [(lv,.slice sA f.stack.length sc)]) (LS0 ++ [(lv,.slice sA f.stack.length sc)]) :=
   Kp.turn HO2.out (fun g hg=>(blocksF_snoc _ _ _ g).2 (.inr (.inr (by rw [HN.out];exact hg)))) HG6.out
  have k3:Kp w6 (w6.setCell ⟨gF,fs.length * 4+3,none⟩ (.slice (some ⟨g6,0,none⟩) (N+1) cap6)) (LS0 ++ [(lv,.slice sA f.stack.length sc)]) (LS0 ++ [(lv,.slice sA f.stack.length sc)]):=hT6.kp _ _
  refine ((k1.trans k2).trans k3).to (fun g hg=>?_)
  rw [blocksF_snoc] at hg
  rcases hg with hg | hg | hg
  ·exact .inl ((blocksF_snoc _ _ _ g).2 (.inl hg))
  ·exact .inl ((blocksF_snoc _ _ _ g).2 (.inr (.inl hg)))
  ·rcases hfr g hg with e | e
   ·exact .inl ((blocksF_snoc _ _ _ g).2 (.inr (.inr (by rw [HN.out];exact e))))
   ·exact .inr (Nat.le_trans hb2.size e)
end
section
open Go.RowKit
set_option maxRecDepth 100000
theorem own_take {w:World} {base size n cap:Nat} {e:TypeId} {A:Option Addr} {xs:List Value} (h:w.ownsRow base e size (.slice A n cap) n xs) {k:Nat} (hk:k≤n):w.ownsRow base e size (.slice A k cap) k (xs.take (k * size)):=by
 obtain ⟨h1,h2⟩:=h
 refine ⟨by rw [List.length_take,h1];exact Nat.min_eq_left (Nat.mul_le_mul_right _ hk),?_⟩
 rcases h2 with ⟨e,h0⟩ | ⟨g,cap',cur,e,hb,hh,hc1,hc2,hc3,hc4⟩
 ·injection e with e1 e2 e3
  subst e1 e3 h0
  obtain rfl:k=0:=by omega
  exact .inl ⟨rfl,rfl⟩
 ·injection e with e1 e2 e3
  subst e1 e3
  exact .inr ⟨g,cap,cur,rfl,hb,hh,by omega,hc2,hc3,by rw [← hc4,List.take_take,Nat.min_eq_left (Nat.mul_le_mul_right _ hk)]⟩
theorem ValsO.take {w:World} {base n cap:Nat} {A:Option Addr} {l:List ValD} (h:ValsO w base (.slice A n cap) l) (hn:l.length=n) {k:Nat} (hk:k≤n):ValsO w base (.slice A k cap) (l.take k):=by
 obtain ⟨vs,h1,h2,h3⟩:=h
 rw [hn] at h1
 have h4:=own_take h1 hk
 rw [Nat.mul_one] at h4
 have hl:(l.take k).length=k:=by rw [List.length_take];omega
 refine ⟨vs.take k,by rw [hl];exact h4,by rw [hl,List.length_take];omega,fun i a b=>?_⟩
 rw [List.getElem_take,List.getElem_take]
 exact h3 i (by rw [List.length_take] at a;omega) (by rw [List.length_take] at b;omega)
attribute [local go_sem] cell_alloc_is
set_option maxHeartbeats 2000000 in
theorem clonev_any (vs:List Value) (A:Option Addr) (cap:Nat) (w:World) (hs:A=none→vs=[]) (hat:∀ ad,A=some ad→∀ j u,vs[j]? = some u→w.cell? (ad.add j)=some u) (h1:∀ u∈vs,u.oneCell'=true) (hm:vs.length≤1000000) :
  Calls Tryz.prog 137 #[.slice A vs.length cap] w fun e w'=>∃ v',e=.returned v'∧w'.ownsRow w.heap.size 26 1 v' vs.length vs∧Below w.heap.size w w':=by
 obtain ⟨i0,hi,hz0,hz1,hz2⟩:=info_parts Tryz.infoVal
 cases A with
 | none =>
  obtain rfl:=hs rfl
  go_enter Tryz.func137,Tryz.ntmps137
  have hnil:=fun w=>nil_yes Tryz.underlying72 0 cap w
  go_wp2
  go_ret
  exact ⟨_,rfl,World.ownsRow_nil _ _ _ _,Below.refl _ _⟩
 | some ad =>
  have HAT:Hid (∀ j u,vs[j]? = some u→(w.alloc (.cells #[] 26)).cell? (ad.add j)=some u):=Lib.hid fun j u hj=>by
   have:=hat ad rfl j u hj
   exact ((below_new w (.cells #[] 26)).cell (World.block_lt_of_cell? _ _ this)).trans this
  clear hat hs
  obtain ⟨n,hn⟩:∃ n,vs.length=n:=⟨_,rfl⟩
  have HN:=Lib.hid hn
  rw [hn] at hm ⊢
  have H1:=Lib.hid h1
  clear hn h1
  go_enter Tryz.func137,Tryz.ntmps137
  have hnil:=fun w=>nil_no Tryz.underlying72 ad n cap w
  go_wp2_with (first
   | (at_builtin;refine wpList_append_own _ rfl (.tmp 5) (.tmp 6) 72 rfl w.heap.size 26 i0 _ 1 24 Tryz.underlying72 hi hz0 hz1 hz2 rfl (by omega) _ 0 [] rfl (own_empty w _ 1) ad n cap vs rfl (by rw [HN.out];omega) HAT.out H1.out (by unfold maxLen;omega) (by omega) (by simp) ?_;intro v' w1 hown hgrow _))
  go_ret
  refine ⟨_,rfl,by simpa using hown,?_⟩
  exact (below_new w _).grown hgrow (by simp) (fun k hk=>by have h2:some w.heap.size=some k:=hk;injection h2 with h2;omega)
theorem one_cells {w:World} {vs:List Value} {l:List ValD} (hvl:vs.length=l.length) (hv:∀ i (h:i<vs.length) (h':i<l.length),ValT w vs[i] l[i]):∀ u∈vs,u.oneCell'=true:=by
 intro u hu
 obtain ⟨i,hi,rfl⟩:=List.getElem_of_mem hu
 obtain ⟨A,n,c,e⟩:=(hv i hi (by omega)).shape
 rw [e]
 rfl
set_option maxHeartbeats 8000000 in
theorem pop_none {w0 w:World} {C:CodeS} {gE:Nat} {m:MachD} {vv fv qv:Value} {LS:List (Value × Value)} {avs:List Value} {fs:List FrameD} {f:FrameD} (h:XM w0 C gE w m vv fv qv LS avs) (hm:m.frames=fs ++ [f]) (n:Nat) (hn:n≤100000) (hfs:fs.length≤100) (hst:f.stack.length≤100000) (hlt:f.stack.length<n) :
  Calls Tryz.prog 98 #[.pointer (some ⟨gE,0,none⟩),.int .i64 n] w fun e w'=>e=.returned (.tuple #[.slice none 0 0,.int .i64 21])∧Below w.heap.size w w':=by
 obtain ⟨LS0,lv,sv,gF,cap,rfl,rfl,hT,hl,hs⟩:=h.top hm
 obtain ⟨sA,sc,rfl⟩:=hs.shape
 have HT:=Lib.hid hT
 have h5:=hT.five
 obtain ⟨k,hk⟩:∃ k,fs.length=k:=⟨_,rfl⟩
 obtain ⟨N,hN⟩:∃ N,f.stack.length=N:=⟨_,rfl⟩
 have HNN:=Lib.hid hk
 rw [hN] at HT hst hlt
 rw [hk] at h5 hfs
 have HFR:=Lib.hid (frame_any gE gF k cap w h5 (by omega))
 clear h hm hT hl hs h5 hk hN
 have hk0:(0:Int)≤(k:Int):=by omega
 have h1:(N:Int) - (n:Int)<0:=by omega
 have h2:(0:Int)≤(n:Int):=by omega
 have h3 : -9223372036854775808≤(N:Int) - (n:Int):=by omega
 clear hlt
 go_enter Tryz.func98,Tryz.ntmps98
 go_wp2_with (first
  | (go_at_call 74;(with_reducible refine HFR.out.mono ?_);rintro e w1 ⟨rfl,q,hq⟩;have hb1:Below w.heap.size w w1:=(by rw [hq];exact below_drewN (Below.refl _ _) _);have HB1:=Lib.hid hb1;have HT1:=Lib.hid (HT.out.below hb1);have f1:=HT1.out.facts;rw [HNN.out] at f1;clear hq hb1))
 go_returns
 exact ⟨rfl,HB1.out⟩
theorem own_cut (A:Option Addr) (n k c:Nat):(Value.slice A k c).ownBlock=(Value.slice A n c).ownBlock:=by
 cases A with
 | none=>rfl
 | some a=>rfl
theorem pop_fin {w0 w w1:World} {C:CodeS} {gE:Nat} {m:MachD} {vv qv:Value} {LS0:List (Value × Value)} {avs:List Value} {fs:List FrameD} {f:FrameD} {gF cap N sc K:Nat} {sA:Option Addr} {lv:Value} (hT:TopF w0 C gE w1 m vv qv LS0 avs fs f.func f.pc gF cap lv (.slice sA N sc)) (hm:m.frames=fs ++ [f]) (hl:ValsO w1 w0.heap.size lv f.locals) (hs:ValsO w1 w0.heap.size (.slice sA N sc) f.stack) (hN:f.stack.length=N) (hK:K≤N) (hk:Kp w w1 (LS0 ++ [(lv,.slice sA N sc)]) (LS0 ++ [(lv,.slice sA N sc)])) :
  XM w0 C gE (w1.setCell ⟨gF,fs.length * 4+3,none⟩ (.slice sA K sc)) (topM m fs { f with stack:=f.stack.take K }) vv (.slice (some ⟨gF,0,none⟩) (fs.length+1) cap) qv (LS0 ++ [(lv,.slice sA K sc)]) avs∧Kp w (w1.setCell ⟨gF,fs.length * 4+3,none⟩ (.slice sA K sc)) (LS0 ++ [(lv,.slice sA N sc)]) (LS0 ++ [(lv,.slice sA K sc)]):=by
 refine ⟨hT.stack hm rfl rfl hl (hs.take hN hK) (fun g hg=>.inl (by rw [own_cut sA N K sc] at hg;exact hg)),(hk.trans (hT.kp _ _)).to (fun g hg=>.inl ?_)⟩
 rw [blocksF_snoc] at hg ⊢
 rw [own_cut sA N K sc] at hg
 exact hg
set_option maxHeartbeats 16000000 in
theorem pop_some {w0 w:World} {C:CodeS} {gE:Nat} {m:MachD} {vv fv qv:Value} {LS:List (Value × Value)} {avs:List Value} {fs:List FrameD} {f:FrameD} (h:XM w0 C gE w m vv fv qv LS avs) (hm:m.frames=fs ++ [f]) (n:Nat) (hfs:fs.length≤100) (hst:f.stack.length≤100000) (hlt:¬ f.stack.length<n) :
  Calls Tryz.prog 98 #[.pointer (some ⟨gE,0,none⟩),.int .i64 n] w fun e w'=>∃ lv LS',e=.returned (.tuple #[lv,.int .i64 0])∧XM w0 C gE w' (topM m fs (popFr f n)) vv fv qv LS' avs∧Kp w w' LS LS'∧ValsO w' w0.heap.size lv (popL f n)∧(∀ g,lv.ownBlock=some g→w.heap.size≤g∧g ∉ blocksF LS' ++ blocksQ avs):=by
 obtain ⟨LS0,lv,sv,gF,cap,rfl,rfl,hT,hl,hs⟩:=h.top hm
 obtain ⟨P,hP⟩:∃ P:Ending→World→Prop,(fun e w'=>∃ lv' LS',e=.returned (.tuple #[lv',.int .i64 0])∧XM w0 C gE w' (topM m fs (popFr f n)) vv (.slice (some ⟨gF,0,none⟩) (fs.length+1) cap) qv LS' avs∧Kp w w' (LS0 ++ [(lv,sv)]) LS'∧ValsO w' w0.heap.size lv' (popL f n)∧(∀ g,lv'.ownBlock=some g→w.heap.size≤g∧g ∉ blocksF LS' ++ blocksQ avs))=P:=⟨_,rfl⟩
 rw [hP]
 have HP:=Lib.hid hP
 obtain ⟨sA,sc,rfl⟩:=hs.shape
 have HM:=Lib.hid hm
 have HT:=Lib.hid hT
 have HL:=Lib.hid hl
 have HS:=Lib.hid hs
 have h5:=hT.five
 have HNQ:Hid (∀ g,g∈blocksQ avs→g<w.heap.size):=Lib.hid (fun g hg=>(h.p.rq.mem g hg).2.1)
 have HND:Hid (∀ g,g∈blocksF (LS0 ++ [(lv,.slice sA f.stack.length sc)])→g<w.heap.size):=Lib.hid (fun g hg=>(h.p.fr.mem g hg).2.1)
 obtain ⟨k,hk⟩:∃ k,fs.length=k:=⟨_,rfl⟩
 obtain ⟨N,hN⟩:∃ N,f.stack.length=N:=⟨_,rfl⟩
 have HNN:=Lib.hid hk
 have HN:=Lib.hid hN
 obtain ⟨K,hK⟩:∃ K,f.stack.length - n=K:=⟨_,rfl⟩
 have HPF:Hid (popFr f n={ f with stack:=f.stack.take K }∧popL f n=f.stack.drop K):=Lib.hid (by unfold popFr popL;rw [hK];exact ⟨rfl,rfl⟩)
 obtain ⟨vs,ho,hvl,hvt⟩:=hs
 rw [hN] at HT HS ho HND
 rw [hk] at h5 hfs
 have HFR:=Lib.hid (frame_any gE gF k cap w h5 (by omega))
 have hKN:N - K=n:=by omega
 have hnc:N≤sc:=own_le ho
 have HVT:=Lib.hid hvt
 have HVL:=Lib.hid hvl
 have HO:=Lib.hid ho
 have hone:=one_cells hvl hvt
 have hdl:(vs.drop K).length=n:=by rw [List.length_drop,hvl];omega
 have hK0:(0:Int)≤(K:Int):=by omega
 have hKe:(N:Int) - (n:Int)=(K:Int):=by omega
 have hK1:(K:Int)≤(N:Int):=by omega
 have hK2:(K:Int)≤(sc:Int):=by omega
 have hK3:(K:Int)≤100000:=by omega
 have hN9:(N:Int)≤100000:=by omega
 have hnc':(N:Int)≤(sc:Int):=by omega
 have hn0:(0:Int)≤(n:Int):=by omega
 have hk0:(0:Int)≤(k:Int):=by omega
 have HKL:Hid (K≤N):=Lib.hid (by omega)
 have HFIN:Hid (∀ w1 v',Below w.heap.size w w1→w1.ownsRow w.heap.size 26 1 v' n (vs.drop K)→P (.returned (.tuple #[v',.int .i64 0])) (w1.setCell ⟨gF,k * 4+3,none⟩ (.slice sA K sc))):=Lib.hid fun w1 v' hb hv=>by
  have hT1:=HT.out.below hb
  have hs1:=HS.out.below hb
  have hl1:=HL.out.below hb
  obtain ⟨hx,hkp⟩:=pop_fin (w:=w) hT1 HM.out hl1 hs1 HN.out HKL.out (Kp.of_below hb)
  rw [← HP.out,← HNN.out]
  refine ⟨v',_,rfl,by rw [HPF.out.1];exact hx,by rw [HN.out];exact hkp,?_,fun g hg=>⟨(hv.lt g hg).1,fun hm=>?_⟩⟩
  case refine_2 =>
   have hge:=(hv.lt g hg).1
   rcases List.mem_append.1 hm with hm | hm
   ·have:=HND.out g (by
     rw [blocksF_snoc] at hm ⊢
     rw [own_cut sA N K sc] at hm
     exact hm)
    omega
   ·have:=HNQ.out g hm;omega
  have hv1:ValsO w1 w0.heap.size v' (f.stack.drop K):=by
   refine ⟨vs.drop K,?_,by rw [List.length_drop,List.length_drop,HVL.out],fun i a b=>?_⟩
   ·have:(f.stack.drop K).length=n:=by rw [List.length_drop,HN.out];exact hKN
    rw [this]
    exact own_base hv HT.out.p.bel.size
   ·rw [List.getElem_drop,List.getElem_drop]
    exact (HVT.out _ _ _).below hb
  rw [HPF.out.2]
  have hkc:Kp w1 (w1.setCell ⟨gF,fs.length * 4+3,none⟩ (.slice sA K sc)) (LS0 ++ [(lv,.slice sA N sc)]) (LS0 ++ [(lv,.slice sA N sc)]):=hT1.kp _ _
  exact (hkc.vals hv1 (fun g hg hm=>by have:=(hv.lt g hg).1;have:=HND.out g hm;omega)).1
 clear h hm hT hl hvt hvl hP h5 hk hN hlt hK
 by_cases hA:sA=none
 ·subst hA
  obtain ⟨rfl,rfl⟩:N=0∧sc=0:=by
   rcases ho.2 with ⟨e,h0⟩ | ⟨g,_,_,e,_⟩
   ·injection e with _ e1 e2
    exact ⟨h0,e2⟩
   ·cases e
  obtain rfl:vs=[]:=List.eq_nil_of_length_eq_zero (by rw [HVL.out,HN.out])
  obtain rfl:n=0:=by simpa using hdl.symm
  obtain rfl:K=0:=by omega
  have HCL:Hid (∀ wx,Calls Tryz.prog 137 #[.slice none 0 0] wx fun e w'=>∃ v',e=.returned v'∧w'.ownsRow wx.heap.size 26 1 v' 0 []∧Below wx.heap.size wx w'):=Lib.hid fun wx=>by
   simpa using clonev_any [] none 0 wx (fun _=>rfl) (fun ad e=>by cases e) (by simp) (by simp)
  clear hone hdl hKN hnc ho hKe hK1 hK2 hK3 hnc'
  go_enter Tryz.func98,Tryz.ntmps98
  go_wp2_with (first
   | (go_at_call 74;(with_reducible refine HFR.out.mono ?_);rintro e w1 ⟨rfl,q,hq⟩;have hb1:Below w.heap.size w w1:=(by rw [hq];exact below_drewN (Below.refl _ _) _);have HB1:=Lib.hid hb1;have HT1:=Lib.hid (HT.out.below hb1);have f1:=HT1.out.facts;rw [HNN.out] at f1;clear hq hb1)
   | (go_at_call 137;(with_reducible refine (HCL.out _).mono ?_);rintro e w2 ⟨v2,rfl,ho2,hb2⟩;have HB2:=Lib.hid (below_call hb2 HB1.out);have HT2:=Lib.hid (HT.out.below HB2.out);have f2:=HT2.out.facts;rw [HNN.out] at f2;have HF2:=Lib.hid (HFIN.out w2 v2 HB2.out (own_base ho2 HB1.out.size));clear ho2 hb2))
  exact HF2.out
 ·obtain ⟨gS,rfl⟩:∃ gS,sA=some ⟨gS,0,none⟩:=by
   rcases ho.2 with ⟨e,_⟩ | ⟨g,_,_,e,_⟩
   ·injection e with e1 _ _;exact absurd e1 hA
   ·injection e with e1 _ _;exact ⟨g,e1⟩
  have HCL:Hid (∀ wx,Below w.heap.size w wx→Calls Tryz.prog 137 #[.slice (if sc=K then some ⟨gS,0,none⟩ else some ⟨gS,K,none⟩) (N - K) (sc - K)] wx fun e w'=>∃ v',e=.returned v'∧w'.ownsRow wx.heap.size 26 1 v' n (vs.drop K)∧Below wx.heap.size wx w'):=Lib.hid fun wx hb=>by
   by_cases hsc:sc=K
   ·rw [if_pos hsc]
    have hn0:n=0:=by omega
    have hd:vs.drop K=[]:=List.eq_nil_of_length_eq_zero (by omega)
    have h0:=clonev_any [] (some ⟨gS,0,none⟩) (sc - K) wx (fun e=>by cases e) (fun ad' e j u hj=>by simp at hj) (by simp) (by simp)
    rw [hd,hn0,show N - K=0 by omega]
    simpa using h0
   rw [if_neg hsc]
   have:=clonev_any (vs.drop K) (some ⟨gS,K,none⟩) (sc - K) wx (fun e=>by cases e) (fun ad' e j u hj=>by
    injection e with e
    subst e
    rw [List.getElem?_drop] at hj
    have hc:=(own_below HO.out hb).cells (g:=gS) rfl (K+j) u hj
    rw [addr_add,Nat.zero_add] at hc
    rw [addr_add]
    exact hc) (fun u hu=>hone u (List.mem_of_mem_drop hu)) (by rw [hdl];omega)
   rw [hdl] at this
   rwa [hKN]
  clear hone hdl hKN hnc ho hA
  go_enter Tryz.func98,Tryz.ntmps98
  go_wp2_with (first
   | (go_at_call 74;(with_reducible refine HFR.out.mono ?_);rintro e w1 ⟨rfl,q,hq⟩;have hb1:Below w.heap.size w w1:=(by rw [hq];exact below_drewN (Below.refl _ _) _);have HB1:=Lib.hid hb1;have HT1:=Lib.hid (HT.out.below hb1);have f1:=HT1.out.facts;rw [HNN.out] at f1;clear hq hb1)
   | (go_at_call 137;(with_reducible refine (HCL.out _ HB1.out).mono ?_);rintro e w2 ⟨v2,rfl,ho2,hb2⟩;have HB2:=Lib.hid (below_call hb2 HB1.out);have HT2:=Lib.hid (HT.out.below HB2.out);have f2:=HT2.out.facts;rw [HNN.out] at f2;have HF2:=Lib.hid (HFIN.out w2 v2 HB2.out (own_base ho2 HB1.out.size));clear ho2 hb2))
  all_goals first
   | exact HF2.out
   | (rename_i h;have h9:=HF2.out;rw [h] at h9;exact h9)
/-- An error, or a value to be pushed. -/
theorem result_err (gE:Nat) (v:Value) (x:Int) (w:World) (hx:x≠0):Calls Tryz.prog 94 #[.pointer (some ⟨gE,0,none⟩),v,.int .i64 x] w fun e w'=>e=.returned (.int .i64 x)∧w'=w:=by
 have h1:(x == 0)=false:=by simpa using hx
 clear hx
 go_enter Tryz.func94,Tryz.ntmps94
 go_wp2_with (fail)
 go_returns
 exact ⟨rfl,rfl⟩
set_option maxHeartbeats 4000000 in
theorem result_ok {w0 w:World} {C:CodeS} {gE:Nat} {m:MachD} {vv fv qv:Value} {LS:List (Value × Value)} {avs:List Value} {fs:List FrameD} {f:FrameD} (h:XM w0 C gE w m vv fv qv LS avs) (hm:m.frames=fs ++ [f]) (x:Value) (v:ValD) (hx:ValT w x v) (hfs:fs.length≤100) (hst:f.stack.length≤100000) :
  Calls Tryz.prog 94 #[.pointer (some ⟨gE,0,none⟩),x,.int .i64 0] w fun e w'=>e=.returned (.int .i64 0)∧∃ LS',XM w0 C gE w' (topM m fs (pushFr f v)) vv fv qv LS' avs:=by
 have HPU:=Lib.hid (push_x h hm x v hx hfs hst)
 obtain ⟨xA,xn,xc,rfl⟩:=hx.shape
 clear h hm hx
 go_enter Tryz.func94,Tryz.ntmps94
 go_wp2_with (first
  | (go_at_call 40;(with_reducible refine HPU.out.mono ?_);rintro e w1 ⟨rfl,LS1,hx1,hk1⟩;have HX1:=Lib.hid hx1;clear hx1 hk1))
 go_returns
 exact ⟨rfl,_,HX1.out⟩
end
section
open Go.RowKit
set_option maxRecDepth 100000
theorem topM_self {m:MachD} {fs:List FrameD} {f:FrameD} (hm:m.frames=fs ++ [f]):topM m fs f=m:=by
 obtain ⟨a,b,c,d,e,g,h,i,j⟩:=m
 dsimp only at hm
 subst hm
 rfl
attribute [local go_sem] cell_alloc_is
set_option maxHeartbeats 2000000 in
theorem mboolean_any (l:ValD) (v:Value) (w:World) (h:ValV w v l):Calls Tryz.prog 105 #[v] w fun e w'=>e=.returned (.tuple #[.bool (booleanR l).1,.int .i64 (booleanR l).2])∧Below w.heap.size w w':=by
 cases l with
 | nil =>
  obtain ⟨A,cap,rfl,_⟩:=h.at
  clear h
  simp only [List.length_nil]
  go_enter Tryz.func105,Tryz.ntmps105
  go_wp2_with (fail)
  go_returns
  exact ⟨rfl,Below.refl _ _⟩
 | cons c r =>
  obtain ⟨b,off,n,cap,rfl,hn,p0,p1,p2,p3⟩:=head_cell h
  have hpos:(0:Int)<(n:Int):=by omega
  have h0:((n:Int) == 0)=false:=by simp;omega
  have HB:Hid (booleanR (c :: r)=if c.kind=2 then (decide (c.int≠0),0) else (false,7)):=Lib.hid rfl
  obtain ⟨k,i,s,N⟩:=c
  dsimp only at p0 p1 p2 p3 HB
  clear h hn
  by_cases hk:k=2
  ·subst hk
   rw [if_pos rfl] at HB
   go_enter Tryz.func105,Tryz.ntmps105
   go_wp2_with (fail)
   go_returns
   rw [HB.out]
   refine ⟨?_,Below.refl _ _⟩
   have e:(i == 0)=decide (i=0):=by by_cases h:i=0 <;> simp [h]
   simp [bne,e]
  ·have hk':(k != 2)=true:=by simpa using hk
   rw [if_neg hk] at HB
   clear hk
   go_enter Tryz.func105,Tryz.ntmps105
   go_wp2_with (fail)
   go_returns
   rw [HB.out]
   exact ⟨rfl,Below.refl _ _⟩
/-- What the actions start from. -/
structure ActH (w0:World) (C:CodeS) (gE:Nat) (w:World) (m:MachD) (fs:List FrameD) (f:FrameD):Prop where
 x:∃ vv fv qv LS avs,XM w0 C gE w m vv fv qv LS avs
 hm:m.frames=fs ++ [f]
 nf:fs.length≤100
 ns:f.stack.length≤100000
 nl:f.locals.length≤1000
/-- An action that changes nothing but makes memory and answers an error. -/
theorem ActP.same {w0 w w':World} {C:CodeS} {gE:Nat} {m:MachD} {vv fv qv:Value} {LS:List (Value × Value)} {avs:List Value} {fs:List FrameD} {f:FrameD} (h:XM w0 C gE w m vv fv qv LS avs) (hm:m.frames=fs ++ [f]) (hb:Below w.heap.size w w') (x:Int):ActP w0 C gE (topM m fs f,x) (.returned (.int .i64 x)) w':=by
 rw [topM_self hm]
 exact ⟨rfl,_,_,_,_,_,h.below hb⟩
theorem ValsO.at0 {w:World} {base:Nat} {v:Value} {l:List ValD} (h:ValsO w base v l) (k:Nat) (hk:k<l.length):∃ g cap x,v=.slice (some ⟨g,0,none⟩) l.length cap∧w.cell? ⟨g,k,none⟩=some x∧ValT w x (l.getD k []):=by
 obtain ⟨vs,h1,h2,h3⟩:=h
 obtain ⟨g,cap,rfl,_,_⟩:=h1.form (by omega)
 have hkv:k<vs.length:=by omega
 refine ⟨g,cap,vs[k],rfl,?_,?_⟩
 ·have:=h1.cells (g:=g) rfl k vs[k] (by rw [List.getElem?_eq_getElem hkv])
  rwa [addr_add,Nat.zero_add] at this
 ·rw [List.getD_eq_getElem?_getD,List.getElem?_eq_getElem hk,Option.getD_some]
  exact h3 k hkv hk
set_option maxHeartbeats 8000000 in
theorem act_drop {w0 w:World} {C:CodeS} {gE:Nat} {m:MachD} {fs:List FrameD} {f:FrameD} (h:ActH w0 C gE w m fs f) (op a:Int) (s:ByteArray) (kv:Value) :
  Calls Tryz.prog 65 #[.pointer (some ⟨gE,0,none⟩),.agg #[.int .i64 op,.int .i64 a,.string s,kv]] w (ActP w0 C gE (if f.stack.length<1 then (topM m fs f,21) else (topM m fs (popFr f 1),0))):=by
 obtain ⟨⟨vv,fv,qv,LS,avs,hx⟩,hm,hnf,hns,_⟩:=h
 have HX:=Lib.hid (hx.below (below_new w (.cells #[.int .i64 op,.int .i64 a,.string s,kv] 59)))
 have HX0:=Lib.hid hx
 have HM:=Lib.hid hm
 have HNW:=Lib.hid (below_new w (.cells #[.int .i64 op,.int .i64 a,.string s,kv] 59))
 by_cases hlt:f.stack.length<1
 ·rw [if_pos hlt]
  have HPO:=Lib.hid (pop_none HX.out hm 1 (by omega) hnf hns hlt)
  clear hx hm hlt
  go_enter Tryz.func65,Tryz.ntmps65
  go_wp2_with (first
   | (go_at_call 98;(refine HPO.out.mono ?_);rintro e w1 ⟨rfl,hb1⟩;have HB1:=Lib.hid (below_call hb1 HNW.out);clear hb1))
  go_returns
  exact ActP.same HX0.out HM.out HB1.out 21
 ·rw [if_neg hlt]
  have HPO:=Lib.hid (pop_some HX.out hm 1 hnf hns hlt)
  clear hx hm hlt
  go_enter Tryz.func65,Tryz.ntmps65
  go_wp2_with (first
   | (go_at_call 98;(refine HPO.out.mono ?_);rintro e w1 ⟨lv,LS1,rfl,hx1,hk1,hv1,_⟩;have HX1:=Lib.hid hx1;clear hx1 hk1 hv1))
  go_returns
  exact ⟨rfl,_,_,_,_,_,HX1.out⟩
/-- A cell of a popped row stays. -/
theorem pop_cell {w w':World} {LS LS':List (Value × Value)} {base g n c k:Nat} {l:List ValD} {x:Value} (hv:ValsO w base (.slice (some ⟨g,0,none⟩) n c) l) (hk:Kp w w' LS LS') (hn:g ∉ blocksF LS) (hc:w.cell? ⟨g,k,none⟩=some x):w'.cell? ⟨g,k,none⟩=some x:=by
 obtain ⟨vs,h1,_⟩:=hv
 obtain ⟨_,cs,hB⟩:=own_blk h1 (g:=g) rfl
 have hB':=hk.blk g _ cs hB (by decide) (by decide) (by decide) hn
 rw [← hc]
 exact World.cell?_of_block (hB'.trans hB.symm)
set_option maxHeartbeats 8000000 in
theorem act_dup {w0 w:World} {C:CodeS} {gE:Nat} {m:MachD} {fs:List FrameD} {f:FrameD} (h:ActH w0 C gE w m fs f) (op a:Int) (s:ByteArray) (kv:Value) :
  Calls Tryz.prog 66 #[.pointer (some ⟨gE,0,none⟩),.agg #[.int .i64 op,.int .i64 a,.string s,kv]] w (ActP w0 C gE (if f.stack.length<1 then (topM m fs f,21) else (topM m fs (pushFr (pushFr (popFr f 1) ((popL f 1).getD 0 [])) ((popL f 1).getD 0 [])),0))):=by
 obtain ⟨⟨vv,fv,qv,LS,avs,hx⟩,hm,hnf,hns,_⟩:=h
 have HX:=Lib.hid (hx.below (below_new w (.cells #[.int .i64 op,.int .i64 a,.string s,kv] 59)))
 have HX0:=Lib.hid hx
 have HM:=Lib.hid hm
 have HNW:=Lib.hid (below_new w (.cells #[.int .i64 op,.int .i64 a,.string s,kv] 59))
 have HNF:=Lib.hid hnf
 have HNS:Hid ((popFr f 1).stack.length≤99999):=Lib.hid (by show (f.stack.take (f.stack.length - 1)).length≤99999;rw [List.length_take];omega)
 have hlw:∀ g,g∈blocksF LS→g<w.heap.size:=fun g hg=>(hx.p.fr.mem g hg).2.1
 by_cases hlt:f.stack.length<1
 ·rw [if_pos hlt]
  have HPO:=Lib.hid (pop_none HX.out hm 1 (by omega) hnf hns hlt)
  clear hx hm hlt hlw
  go_enter Tryz.func66,Tryz.ntmps66
  go_wp2_with (first
   | (go_at_call 98;(refine HPO.out.mono ?_);rintro e w1 ⟨rfl,hb1⟩;have HB1:=Lib.hid (below_call hb1 HNW.out);clear hb1))
  go_returns
  exact ActP.same HX0.out HM.out HB1.out 21
 ·rw [if_neg hlt]
  have HPO:=Lib.hid (pop_some HX.out hm 1 hnf hns hlt)
  have HPL:Hid ((popL f 1).length=1):=Lib.hid (popL_len hlt)
  obtain ⟨v0,hv0⟩:∃ v,(popL f 1).getD 0 []=v:=⟨_,rfl⟩
  have HV0:=Lib.hid hv0
  rw [hv0]
  clear hx hm hlt hlw hv0
  go_enter Tryz.func66,Tryz.ntmps66
  go_wp2_with (first
   | (go_at_call 98;(refine HPO.out.mono ?_);rintro e w1 ⟨lv,LS1,rfl,hx1,hk1,hv1,hf1⟩;obtain ⟨g1,c1,x1,rfl,hc1,ht1⟩:=hv1.at0 0 (by rw [HPL.out];omega);rw [HPL.out,HV0.out] at *;obtain ⟨xA,xn,xc,rfl⟩:=ht1.shape;have HX1:=Lib.hid hx1;have HK1:=Lib.hid hk1;have HV1:=Lib.hid hv1;have HF1:=Lib.hid hf1;have HT1:=Lib.hid ht1;have HP1:=Lib.hid (push_x hx1 rfl _ _ ht1 HNF.out (by have:=HNS.out;omega));clear hx1 hk1 hv1 hf1 ht1)
   | (go_at_call 40;first
    | ((refine HP1.out.mono ?_);rintro e w2 ⟨rfl,LS2,hx2,hk2⟩;have HX2:=Lib.hid hx2;have c2:=pop_cell HV1.out hk2 (fun hm=>(HF1.out g1 rfl).2 (List.mem_append_left _ hm)) hc1;have HT2:=Lib.hid (HT1.out.keep hk2.ck);have HP2:=Lib.hid (push_x hx2 rfl _ _ HT2.out HNF.out (by have:=HNS.out;simp [pushFr];omega));clear hx2 hk2 HP1)
    | ((refine HP2.out.mono ?_);rintro e w3 ⟨rfl,LS3,hx3,hk3⟩;have HX3:=Lib.hid hx3;clear hx3 hk3)))
  go_returns
  exact ⟨rfl,_,_,_,_,_,HX3.out⟩
end
section
open Go.RowKit
set_option maxRecDepth 100000
attribute [local go_sem] cell_alloc_is
set_option maxHeartbeats 8000000 in
theorem act_test {w0 w:World} {C:CodeS} {gE:Nat} {m:MachD} {fs:List FrameD} {f:FrameD} (h:ActH w0 C gE w m fs f) (op a:Int) (s:ByteArray) (kv:Value) :
  Calls Tryz.prog 70 #[.pointer (some ⟨gE,0,none⟩),.agg #[.int .i64 op,.int .i64 a,.string s,kv]] w (ActP w0 C gE (if f.stack.length<1 then (topM m fs f,21) else (topM m fs (pushFr (popFr f 1) ((popL f 1).getD 0 [])),(booleanR ((popL f 1).getD 0 [])).2))):=by
 obtain ⟨⟨vv,fv,qv,LS,avs,hx⟩,hm,hnf,hns,_⟩:=h
 have HX:=Lib.hid (hx.below (below_new w (.cells #[.int .i64 op,.int .i64 a,.string s,kv] 59)))
 have HX0:=Lib.hid hx
 have HM:=Lib.hid hm
 have HNW:=Lib.hid (below_new w (.cells #[.int .i64 op,.int .i64 a,.string s,kv] 59))
 have HNF:=Lib.hid hnf
 have HNS:Hid ((popFr f 1).stack.length≤99999):=Lib.hid (by show (f.stack.take (f.stack.length - 1)).length≤99999;rw [List.length_take];omega)
 by_cases hlt:f.stack.length<1
 ·rw [if_pos hlt]
  have HPO:=Lib.hid (pop_none HX.out hm 1 (by omega) hnf hns hlt)
  clear hx hm hlt
  go_enter Tryz.func70,Tryz.ntmps70
  go_wp2_with (first
   | (go_at_call 98;(refine HPO.out.mono ?_);rintro e w1 ⟨rfl,hb1⟩;have HB1:=Lib.hid (below_call hb1 HNW.out);clear hb1))
  go_returns
  exact ActP.same HX0.out HM.out HB1.out 21
 ·rw [if_neg hlt]
  have HPO:=Lib.hid (pop_some HX.out hm 1 hnf hns hlt)
  have HPL:Hid ((popL f 1).length=1):=Lib.hid (popL_len hlt)
  obtain ⟨v0,hv0⟩:∃ v,(popL f 1).getD 0 []=v:=⟨_,rfl⟩
  have HV0:=Lib.hid hv0
  rw [hv0]
  clear hx hm hlt hv0
  go_enter Tryz.func70,Tryz.ntmps70
  go_wp2_with (first
   | (go_at_call 98;(refine HPO.out.mono ?_);rintro e w1 ⟨lv,LS1,rfl,hx1,hk1,hv1,hf1⟩;obtain ⟨g1,c1,x1,rfl,hc1,ht1⟩:=hv1.at0 0 (by rw [HPL.out];omega);rw [HPL.out] at *;rw [HV0.out] at ht1;obtain ⟨xA,xn,xc,rfl⟩:=ht1.shape;have HX1:=Lib.hid hx1;have HV1:=Lib.hid hv1;have HF1:=Lib.hid hf1;have HT1:=Lib.hid ht1;have HP1:=Lib.hid (push_x hx1 rfl _ _ ht1 HNF.out (by have:=HNS.out;omega));clear hx1 hk1 hv1 hf1 ht1)
   | (go_at_call 40;((refine HP1.out.mono ?_);rintro e w2 ⟨rfl,LS2,hx2,hk2⟩;have HX2:=Lib.hid hx2;have c2:=pop_cell HV1.out hk2 (fun hm=>(HF1.out g1 rfl).2 (List.mem_append_left _ hm)) hc1;have HT2:=Lib.hid (HT1.out.keep hk2.ck);have HBO:=Lib.hid (mboolean_any _ _ w2 HT2.out.1);clear hx2 hk2 HP1))
   | (go_at_call 105;((refine HBO.out.mono ?_);rintro e w3 ⟨rfl,hb3⟩;have HX3:=Lib.hid (HX2.out.below hb3);clear hb3)))
  go_returns
  exact ⟨rfl,_,_,_,_,_,HX3.out⟩
theorem TopF.pcS {w0 w:World} {C:CodeS} {gE:Nat} {m:MachD} {vv qv:Value} {LS0:List (Value × Value)} {fs:List FrameD} {avs:List Value} {f:FrameD} {gF cap:Nat} {lv sv:Value} (h:TopF w0 C gE w m vv qv LS0 avs fs f.func f.pc gF cap lv sv) (hm:m.frames=fs ++ [f]) (hl:ValsO w w0.heap.size lv f.locals) (hs:ValsO w w0.heap.size sv f.stack) (p:Int) :
  XM w0 C gE (w.setCell ⟨gF,fs.length * 4+1,none⟩ (.int .i64 p)) (topM m fs { f with pc:=p }) vv (.slice (some ⟨gF,0,none⟩) (fs.length+1) cap) qv (LS0 ++ [(lv,sv)]) avs:=by
 obtain ⟨hT,hck,hval⟩:=h.set (j:=1) (by omega) (u:=.int .i64 p) (fu':=f.func) (pc':=p) (lv':=lv) (sv':=sv) rfl h.nd
 have hT':TopF w0 C gE (w.setCell ⟨gF,fs.length * 4+1,none⟩ (.int .i64 p)) (topM m fs { f with pc:=p }) vv qv LS0 avs fs f.func p gF cap lv sv:=hT.mach rfl rfl rfl rfl rfl rfl rfl rfl
 exact hT'.xm (f:={ f with pc:=p }) rfl rfl rfl (hval hl) (hval hs)
/-- jump at a world: the store of the target. -/
theorem jump_set {w0 w:World} {C:CodeS} {gE:Nat} {m:MachD} {vv fv qv:Value} {LS:List (Value × Value)} {avs:List Value} {fs:List FrameD} {f:FrameD} (h:XM w0 C gE w m vv fv qv LS avs) (hm:m.frames=fs ++ [f]):∃ gF cap,w.cell? ⟨gE,5,none⟩=some (.slice (some ⟨gF,0,none⟩) (fs.length+1) cap)∧(∀ w1,Below w.heap.size w w1→w1.frozen? ⟨gF,fs.length * 4+1,none⟩=false∧(∃ p,w1.cell? ⟨gF,fs.length * 4+1,none⟩=some (.int .i64 p))∧∀ p,∃ LS',XM w0 C gE (w1.setCell ⟨gF,fs.length * 4+1,none⟩ (.int .i64 p)) (topM m fs { f with pc:=p }) vv fv qv LS' avs):=by
 obtain ⟨LS0,lv,sv,gF,cap,rfl,rfl,hT,hl,hs⟩:=h.top hm
 refine ⟨gF,cap,hT.five,fun w1 hb=>?_⟩
 have hT1:=hT.below hb
 exact ⟨hT1.facts.2.2.2.2.1,⟨_,hT1.facts.2.1⟩,fun p=>⟨_,hT1.pcS hm (hl.below hb) (hs.below hb) p⟩⟩
set_option maxHeartbeats 16000000 in
theorem act_jump {w0 w:World} {C:CodeS} {gE:Nat} {m:MachD} {fs:List FrameD} {f:FrameD} (h:ActH w0 C gE w m fs f) (a:Int) (s:ByteArray) (kv:Value) :
  Calls Tryz.prog 69 #[.pointer (some ⟨gE,0,none⟩),.agg #[.int .i64 13,.int .i64 a,.string s,kv]] w (ActP w0 C gE (topM m fs { f with pc:=a },0)):=by
 obtain ⟨⟨vv,fv,qv,LS,avs,hx⟩,hm,hnf,hns,_⟩:=h
 obtain ⟨gF,cap,h5,hJ⟩:=jump_set hx hm
 have HJ:=Lib.hid hJ
 obtain ⟨n,hn⟩:∃ n,fs.length=n:=⟨_,rfl⟩
 rw [hn] at h5 HJ hnf
 have HFR:Hid (∀ wx,Below w.heap.size w wx→Calls Tryz.prog 74 #[.pointer (some ⟨gE,0,none⟩)] wx fun e w'=>e=.returned (.pointer (some ⟨gF,n * 4,none⟩))∧∃ q,w'=wx.drewN q):=Lib.hid fun wx hb=>frame_any gE gF n cap wx ((hb.cell (p:=⟨gE,5,none⟩) (World.block_lt_of_cell? _ _ h5)).trans h5) (by omega)
 have HNW:=Lib.hid (below_new w (.cells #[.int .i64 13,.int .i64 a,.string s,kv] 59))
 have HI:=Lib.hid (Blk.new w 59 #[.int .i64 13,.int .i64 a,.string s,kv])
 clear hx hm hJ h5 hns hn
 go_enter Tryz.func69,Tryz.ntmps69
 go_upto_region 8 with fail
 go_region_with (first
  | (go_at_call 74;(with_reducible refine (HFR.out _ (by first | exact HNW.out | exact HNW.out.drew)).mono ?_);rintro e w1 ⟨rfl,q,hq⟩;have hb1:Below w.heap.size w w1:=(by rw [hq];exact below_drewN (by first | exact HNW.out | exact HNW.out.drew) _);have i1:w1.cell? ⟨w.heap.size,1,none⟩=some (.int .i64 a):=(by rw [hq];exact HI.out.cell 1 _ rfl);obtain ⟨z1,⟨p1,y1⟩,hs1⟩:=HJ.out w1 hb1;have HS1:=Lib.hid hs1;clear hq hs1 hb1))
 all_goals
  go_wp2_with (fail)
  go_returns
  obtain ⟨LS',hx'⟩:=HS1.out a
  exact ⟨rfl,_,_,_,_,_,hx'⟩
end
section
open Go.RowKit
set_option maxRecDepth 100000
attribute [local go_sem] cell_alloc_is
set_option maxHeartbeats 16000000 in
theorem act_false {w0 w:World} {C:CodeS} {gE:Nat} {m:MachD} {fs:List FrameD} {f:FrameD} (h:ActH w0 C gE w m fs f) (a:Int) (s:ByteArray) (kv:Value) :
  Calls Tryz.prog 69 #[.pointer (some ⟨gE,0,none⟩),.agg #[.int .i64 14,.int .i64 a,.string s,kv]] w (ActP w0 C gE (if f.stack.length<1 then (topM m fs f,21) else if (booleanR ((popL f 1).getD 0 [])).2≠0 then (topM m fs (popFr f 1),(booleanR ((popL f 1).getD 0 [])).2) else if (booleanR ((popL f 1).getD 0 [])).1=true then (topM m fs (popFr f 1),0) else (topM m fs { popFr f 1 with pc:=a },0))):=by
 obtain ⟨⟨vv,fv,qv,LS,avs,hx⟩,hm,hnf,hns,_⟩:=h
 have HX:=Lib.hid (hx.below (below_new w (.cells #[.int .i64 14,.int .i64 a,.string s,kv] 59)))
 have HX0:=Lib.hid hx
 have HM:=Lib.hid hm
 have HNW:=Lib.hid (below_new w (.cells #[.int .i64 14,.int .i64 a,.string s,kv] 59))
 have HNF:=Lib.hid hnf
 have HI:=Lib.hid (Blk.new w 59 #[.int .i64 14,.int .i64 a,.string s,kv])
 have HIF:Hid (w.heap.size ∉ blocksF LS):=Lib.hid (fun hm=>by have:=(hx.p.fr.mem _ hm).2.1;omega)
 by_cases hlt:f.stack.length<1
 ·rw [if_pos hlt]
  have HPO:=Lib.hid (pop_none HX.out hm 1 (by omega) hnf hns hlt)
  clear hx hm hlt
  go_enter Tryz.func69,Tryz.ntmps69
  go_wp2_with (first
   | (go_at_call 98;(refine HPO.out.mono ?_);rintro e w1 ⟨rfl,hb1⟩;have HB1:=Lib.hid (below_call hb1 HNW.out);clear hb1))
  go_returns
  exact ActP.same HX0.out HM.out HB1.out 21
 ·rw [if_neg hlt]
  have HPO:=Lib.hid (pop_some HX.out hm 1 hnf hns hlt)
  have HPL:Hid ((popL f 1).length=1):=Lib.hid (popL_len hlt)
  obtain ⟨v0,hv0⟩:∃ v,(popL f 1).getD 0 []=v:=⟨_,rfl⟩
  have HV0:=Lib.hid hv0
  rw [hv0]
  obtain ⟨⟨bb,be⟩,hbr⟩:∃ t,booleanR v0=t:=⟨_,rfl⟩
  have HBR:=Lib.hid hbr
  rw [hbr]
  dsimp only
  clear hx hm hlt hv0 hbr
  by_cases he:be=0
  ·subst he
   rw [if_neg (by simp)]
   cases bb
   ·rw [if_neg (by simp)]
    go_enter Tryz.func69,Tryz.ntmps69
    go_upto_region 8 with (first
     | (go_at_call 98;(refine HPO.out.mono ?_);rintro e w1 ⟨lv,LS1,rfl,hx1,hk1,hv1,hf1⟩;obtain ⟨g1,c1,x1,rfl,hc1,ht1⟩:=hv1.at0 0 (by rw [HPL.out];omega);rw [HPL.out] at *;rw [HV0.out] at ht1;obtain ⟨xA,xn,xc,rfl⟩:=ht1.shape;have HX1:=Lib.hid hx1;have HI1:=Lib.hid (hk1.blk _ _ _ HI.out (by decide) (by decide) (by decide) HIF.out);have i1:=HI1.out.cell 1 _ rfl;have HBO:=Lib.hid (mboolean_any _ _ w1 ht1.1);rw [HBR.out] at HBO;clear hx1 hk1 hv1 hf1 ht1)
     | (go_at_call 105;((refine HBO.out.mono ?_);rintro e w3 ⟨rfl,hb3⟩;have HX3:=Lib.hid (HX1.out.below hb3);have HI3:=Lib.hid (HI1.out.below hb3);have i3:=HI3.out.cell 1 _ rfl;clear hb3)))
    obtain ⟨gF,cap,h5,hJ⟩:=jump_set HX3.out rfl
    have HJ:=Lib.hid hJ
    obtain ⟨n,hn⟩:∃ n,fs.length=n:=⟨_,rfl⟩
    rw [hn] at h5 HJ
    have hnf:=HNF.out
    rw [hn] at hnf
    have HFR:Hid (∀ wx,Below w3.heap.size w3 wx→Calls Tryz.prog 74 #[.pointer (some ⟨gE,0,none⟩)] wx fun e w'=>e=.returned (.pointer (some ⟨gF,n * 4,none⟩))∧∃ q,w'=wx.drewN q):=Lib.hid fun wx hb=>frame_any gE gF n cap wx ((hb.cell (p:=⟨gE,5,none⟩) (World.block_lt_of_cell? _ _ h5)).trans h5) (by omega)
    clear hJ h5 hn hc1 i1
    go_region_with (first
     | (go_at_call 74;(with_reducible refine (HFR.out _ (by first | exact Below.refl _ _ | exact (Below.refl _ _).drew)).mono ?_);rintro e w4 ⟨rfl,q,hq⟩;have hb1:Below w3.heap.size w3 w4:=(by rw [hq];exact below_drewN (by first | exact Below.refl _ _ | exact (Below.refl _ _).drew) _);have i4:w4.cell? ⟨w.heap.size,1,none⟩=some (.int .i64 a):=(by rw [hq];exact HI3.out.cell 1 _ rfl);obtain ⟨z1,⟨p1,y1⟩,hs1⟩:=HJ.out w4 hb1;have HS1:=Lib.hid hs1;clear hq hs1 hb1))
    all_goals
     go_wp2_with (fail)
     go_returns
     obtain ⟨LS',hx'⟩:=HS1.out a
     exact ⟨rfl,_,_,_,_,_,hx'⟩
   ·rw [if_pos rfl]
    go_enter Tryz.func69,Tryz.ntmps69
    go_wp2_with (first
     | (go_at_call 98;(refine HPO.out.mono ?_);rintro e w1 ⟨lv,LS1,rfl,hx1,hk1,hv1,hf1⟩;obtain ⟨g1,c1,x1,rfl,hc1,ht1⟩:=hv1.at0 0 (by rw [HPL.out];omega);rw [HPL.out] at *;rw [HV0.out] at ht1;obtain ⟨xA,xn,xc,rfl⟩:=ht1.shape;have HX1:=Lib.hid hx1;have HBO:=Lib.hid (mboolean_any _ _ w1 ht1.1);rw [HBR.out] at HBO;clear hx1 hk1 hv1 hf1 ht1)
     | (go_at_call 105;((refine HBO.out.mono ?_);rintro e w3 ⟨rfl,hb3⟩;have HX3:=Lib.hid (HX1.out.below hb3);clear hb3)))
    go_returns
    exact ⟨rfl,_,_,_,_,_,HX3.out⟩
  ·rw [if_pos he]
   have he':(be != 0)=true:=by simpa using he
   clear he
   go_enter Tryz.func69,Tryz.ntmps69
   go_wp2_with (first
    | (go_at_call 98;(refine HPO.out.mono ?_);rintro e w1 ⟨lv,LS1,rfl,hx1,hk1,hv1,hf1⟩;obtain ⟨g1,c1,x1,rfl,hc1,ht1⟩:=hv1.at0 0 (by rw [HPL.out];omega);rw [HPL.out] at *;rw [HV0.out] at ht1;obtain ⟨xA,xn,xc,rfl⟩:=ht1.shape;have HX1:=Lib.hid hx1;have HBO:=Lib.hid (mboolean_any _ _ w1 ht1.1);rw [HBR.out] at HBO;clear hx1 hk1 hv1 hf1 ht1)
    | (go_at_call 105;((refine HBO.out.mono ?_);rintro e w3 ⟨rfl,hb3⟩;have HX3:=Lib.hid (HX1.out.below hb3);clear hb3)))
   go_returns
   exact ⟨rfl,_,_,_,_,_,HX3.out⟩
set_option maxHeartbeats 16000000 in
theorem act_load {w0 w:World} {C:CodeS} {gE:Nat} {m:MachD} {fs:List FrameD} {f:FrameD} (h:ActH w0 C gE w m fs f) (op a:Int) (s:ByteArray) (kv:Value) :
  Calls Tryz.prog 63 #[.pointer (some ⟨gE,0,none⟩),.agg #[.int .i64 op,.int .i64 a,.string s,kv]] w (ActP w0 C gE (if a<0∨(f.locals.length:Int)≤a then (topM m fs f,13) else (topM m fs (pushFr f (f.locals.getD a.toNat [])),0))):=by
 obtain ⟨⟨vv,fv,qv,LS,avs,hx⟩,hm,hnf,hns,hnl⟩:=h
 obtain ⟨P,hP⟩:∃ P:Ending→World→Prop,ActP w0 C gE (if a<0∨(f.locals.length:Int)≤a then (topM m fs f,13) else (topM m fs (pushFr f (f.locals.getD a.toNat [])),0))=P:=⟨_,rfl⟩
 rw [hP]
 have HP:=Lib.hid hP
 obtain ⟨LS0,lv,sv,gF,cap,rfl,rfl,hT,hl,hs⟩:=hx.top hm
 have HX0:=Lib.hid hx
 have HM:=Lib.hid hm
 have HT:=Lib.hid hT
 have HL:=Lib.hid hl
 have hnw:=below_new w (.cells #[.int .i64 op,.int .i64 a,.string s,kv] 59)
 have HNW:=Lib.hid hnw
 have HI:=Lib.hid (Blk.new w 59 #[.int .i64 op,.int .i64 a,.string s,kv])
 have h5:=(hT.below hnw).five
 obtain ⟨n,hn⟩:∃ n,fs.length=n:=⟨_,rfl⟩
 have HNN:=Lib.hid hn
 rw [hn] at h5
 have HNF:=Lib.hid hnf
 have HNS:=Lib.hid hns
 rw [hn] at hnf
 have HFR:=Lib.hid (frame_any gE gF n cap _ h5 (by omega))
 obtain ⟨lA,lc,hlv⟩:=hl.shape
 obtain ⟨N,hN⟩:∃ N,f.locals.length=N:=⟨_,rfl⟩
 have HN:=Lib.hid hN
 rw [hN] at hlv hnl
 subst hlv
 have hN0:(0:Int)≤(N:Int):=by omega
 have hN9:(N:Int)≤1000:=by omega
 clear hx hm hT hl hs hP hn hnw h5
 by_cases ha:a<0∨(N:Int)≤a
 ·have HR:Hid (P=ActP w0 C gE (topM m fs f,13)):=Lib.hid (by rw [← HP.out,HN.out,if_pos ha])
  have hcase:(decide (a<0)=true)∨(decide (a<0)=false∧decide ((N:Int)≤a)=true):=by
   by_cases h1:a<0
   ·exact .inl (decide_eq_true h1)
   ·exact .inr ⟨decide_eq_false h1,decide_eq_true (ha.resolve_left h1)⟩
  clear ha hN
  rcases hcase with d1 | ⟨d1,d2⟩
  all_goals
   go_enter Tryz.func63,Tryz.ntmps63
   go_upto_region 2 with (first
    | (go_at_call 74;(with_reducible refine HFR.out.mono ?_);rintro e w1 ⟨rfl,q,hq⟩;have hb1:Below w.heap.size w w1:=(by rw [hq];exact below_drewN HNW.out _);have HB1:=Lib.hid hb1;have HI1:Hid (Blk w1 w.heap.size 59 #[.int .i64 op,.int .i64 a,.string s,kv]):=Lib.hid (by rw [hq];exact HI.out.drewN _);have HT1:=Lib.hid (HT.out.below hb1);have f1:=HT1.out.facts;rw [HNN.out] at f1;have i1:=HI1.out.cell 1 _ rfl;clear hq hb1))
   go_quiet (fail)
   go_wp2_with (fail)
   rw [HR.out]
   exact ActP.same HX0.out HM.out (below_drewN HB1.out _) 13
 ·have HR:Hid (P=ActP w0 C gE (topM m fs (pushFr f (f.locals.getD a.toNat [])),0)):=Lib.hid (by rw [← HP.out,HN.out,if_neg ha])
  have h1:0≤a:=by omega
  have h2:a<(N:Int):=by omega
  have d1:decide (a<0)=false:=decide_eq_false (by omega)
  have d2:decide ((N:Int)≤a)=false:=decide_eq_false (by omega)
  obtain ⟨k,hk⟩:∃ k:Nat,a=k:=⟨a.toNat,by omega⟩
  subst hk
  rw [Int.toNat_natCast] at HR
  have HAT:=Lib.hid (HL.out.at0 k (by rw [hN];omega))
  obtain ⟨g,c,x,hge,hcx,htx⟩:=HAT.out
  rw [hN] at hge
  injection hge with e1 e2 e3
  subst e1 e3
  obtain ⟨xA,xn,xc,rfl⟩:=htx.shape
  have HCX:=Lib.hid hcx
  have HPU:Hid (∀ W,Below w.heap.size w W→Calls Tryz.prog 40 #[.pointer (some ⟨gE,0,none⟩),.slice xA xn xc] W fun e w'=>e=.returned (.tuple #[])∧∃ LS',XM w0 C gE w' (topM m fs (pushFr f (f.locals.getD k []))) vv (.slice (some ⟨gF,0,none⟩) (fs.length+1) cap) qv LS' avs):=Lib.hid fun W hb=>(push_x (HX0.out.below hb) HM.out _ _ (htx.below hb) HNF.out HNS.out).mono fun _ _ ⟨a,LS',b,_⟩=>⟨a,LS',b⟩
  have hk0:(0:Int)≤(k:Int):=by omega
  have hkN:(k:Int)<(N:Int):=by omega
  have hkc:(k:Int)<(lc:Int):=by
   have:N≤lc:=by
    obtain ⟨vs,h1,_⟩:=HL.out
    rw [hN] at h1
    exact own_le h1
   omega
  clear ha h1 h2 HAT hcx htx hN
  go_enter Tryz.func63,Tryz.ntmps63
  go_upto_region 2 with (first
   | (go_at_call 74;(with_reducible refine HFR.out.mono ?_);rintro e w1 ⟨rfl,q,hq⟩;have hb1:Below w.heap.size w w1:=(by rw [hq];exact below_drewN HNW.out _);have HB1:=Lib.hid hb1;have HI1:Hid (Blk w1 w.heap.size 59 #[.int .i64 op,.int .i64 k,.string s,kv]):=Lib.hid (by rw [hq];exact HI.out.drewN _);have HT1:=Lib.hid (HT.out.below hb1);have f1:=HT1.out.facts;rw [HNN.out] at f1;have i1:=HI1.out.cell 1 _ rfl;have c1:=(hb1.cell (World.block_lt_of_cell? _ _ HCX.out)).trans HCX.out;clear hq hb1))
  go_quiet (fail)
  go_upto_region 4 with fail
  obtain ⟨wq,hwq⟩:∃ wq,w1.drewN nq=wq:=⟨_,rfl⟩
  rw [hwq]
  have hbq:Below w.heap.size w wq:=by rw [← hwq];exact below_drewN HB1.out _
  have HBQ:=Lib.hid hbq
  have HIQ:Hid (Blk wq w.heap.size 59 #[.int .i64 op,.int .i64 k,.string s,kv]):=Lib.hid (by rw [← hwq];exact HI1.out.drewN _)
  have fq:=(HT.out.below hbq).facts
  rw [HNN.out] at fq
  have iq:=HIQ.out.cell 1 _ rfl
  have cq:=(hbq.cell (World.block_lt_of_cell? _ _ HCX.out)).trans HCX.out
  clear f1 i1 c1 hwq hbq
  go_still_tail 9,(by kernel_rfl)
  change wpList _ _ _ _ _ wq.drew
  go_wp2_with (first
   | (go_at_call 40;((refine (HPU.out _ HBQ.out.drew).mono ?_);rintro e w2 ⟨rfl,LS2,hx2⟩;have HX2:=Lib.hid hx2;clear hx2)))
  rw [HR.out]
  exact ⟨rfl,_,_,_,_,_,HX2.out⟩
end
end Go.Proofs.YtmljohbialacfaaGreatDoor
