/- T0, T1, T2 -/
import Derived.Test.YthiimbhjpdphpaaGreatDoorPJA
import Derived.Test.YthiimbhjpdphpaaGreatDoorPRE
set_option linter.unusedVariables false
set_option linter.unusedSimpArgs false
namespace Go.Proofs.YthiimbhjpdphpaaGreatDoor
open Go.RowKit
set_option maxRecDepth 100000
open Go.Proofs.Tryz
section
theorem set_cells {α:Type} (f:α→Value) (l:List α) (i:Nat) (v:α):((l.map f).toArray).setIfInBounds i (f v)=((l.set i v).map f).toArray:=by
 apply Array.ext'
 simp [List.map_set]
def intC (n:Int):Value:=.int .i64 n
structure ScSt (w:World) (S:ProgS) (gS gm gs ge:Nat) (D:ScD):Prop where
 sc:Blk w gS 116 #[.slice S.A S.p.nodes.length S.ncap,.slice S.B S.p.funcs.length S.fcap,.map (some gm),.int .i64 D.next,.slice (some ⟨gs,0,none⟩) S.p.nodes.length S.p.nodes.length,.slice (some ⟨ge,0,none⟩) S.p.nodes.length S.p.nodes.length]
 mp:MapAt w gm Value.string (Value.int .i64) D.vis
 sl:Blk w gs 3 (D.slots.map intC).toArray
 er:Blk w ge 32 (D.errs.map intC).toArray
 sll:D.slots.length=S.p.nodes.length
 erl:D.errs.length=S.p.nodes.length
abbrev L4 (gS gm gs ge:Nat):List Nat:=[gS,gm,gs,ge]
theorem za8Y {w:World} {g g':Nat} {t t':TypeId} {cs cs':Array Value} (h:Blk w g t cs) (h':Blk w g' t' cs') (hne:t≠t'):g≠g':=by
 rintro rfl;unfold Blk at h h';rw [h] at h';injection h' with h'
 injection h' with _ e
 exact hne e
section
variable {w w':World} {S:ProgS} {gS gm gs ge:Nat} {D:ScD}
theorem ScSt.below (h:ScSt w S gS gm gs ge D) (hb:Below w.heap.size w w'):ScSt w' S gS gm gs ge D:=⟨h.sc.below hb,h.mp.below' hb,h.sl.below hb,h.er.below hb,h.sll,h.erl⟩
theorem ScSt.n1 (h:ScSt w S gS gm gs ge D):gS≠gs:=za8Y h.sc h.sl (by decide)
theorem ScSt.n2 (h:ScSt w S gS gm gs ge D):gS≠ge:=za8Y h.sc h.er (by decide)
theorem ScSt.n3 (h:ScSt w S gS gm gs ge D):gs≠ge:=za8Y h.sl h.er (by decide)
theorem ScSt.m1 (h:ScSt w S gS gm gs ge D):gS≠gm:=fun e=>h.sc.ne_map h.mp (by rw [e])
theorem ScSt.m2 (h:ScSt w S gS gm gs ge D):gs≠gm:=fun e=>h.sl.ne_map h.mp (by rw [e])
theorem ScSt.m3 (h:ScSt w S gS gm gs ge D):ge≠gm:=fun e=>h.er.ne_map h.mp (by rw [e])
theorem ScSt.setNext (h:ScSt w S gS gm gs ge D) (n:Int):ScSt (w.setCell ⟨gS,3,none⟩ (.int .i64 n)) S gS gm gs ge ⟨D.vis,n,D.slots,D.errs⟩ :=
 ⟨h.sc.set_ 3 _,h.mp.setCell _ _ h.m1,h.sl.far (fun e=>h.n1 e.symm) _,h.er.far (fun e=>h.n2 e.symm) _,h.sll,h.erl⟩
theorem ScSt.setSlot (h:ScSt w S gS gm gs ge D) (i:Nat) (n:Int):ScSt (w.setCell ⟨gs,i,none⟩ (.int .i64 n)) S gS gm gs ge ⟨D.vis,D.next,D.slots.set i n,D.errs⟩ :=
 ⟨h.sc.far h.n1 _,h.mp.setCell _ _ h.m2,by rw [← set_cells];exact h.sl.set_ i _,h.er.far (fun e=>h.n3 e.symm) _,by simpa using h.sll,h.erl⟩
theorem ScSt.setErr (h:ScSt w S gS gm gs ge D) (i:Nat) (n:Int):ScSt (w.setCell ⟨ge,i,none⟩ (.int .i64 n)) S gS gm gs ge ⟨D.vis,D.next,D.slots,D.errs.set i n⟩ :=
 ⟨h.sc.far h.n2 _,h.mp.setCell _ _ h.m3,h.sl.far h.n3 _,by rw [← set_cells];exact h.er.set_ i _,h.sll,by simpa using h.erl⟩
theorem ScSt.setVis {v:List (ByteArray × Int)} (h:ScSt w S gS gm gs ge D) (hm:MapAt w' gm Value.string (Value.int .i64) v) (hg:w.grownBy w' (some gm)):ScSt w' S gS gm gs ge ⟨v,D.next,D.slots,D.errs⟩ :=
 ⟨h.sc.grown hg (fun e=>h.m1 (by injection e)),hm,h.sl.grown hg (fun e=>h.m2 (by injection e)),h.er.grown hg (fun e=>h.m3 (by injection e)),h.sll,h.erl⟩
theorem blk6 {g:Nat} {t:TypeId} {v0 v1 v2 v3 v4 v5:Value} (h:Blk w g t #[v0,v1,v2,v3,v4,v5]):w.cell? ⟨g,0,none⟩=some v0∧w.cell? ⟨g,1,none⟩=some v1∧w.cell? ⟨g,2,none⟩=some v2∧w.cell? ⟨g,3,none⟩=some v3∧w.cell? ⟨g,4,none⟩=some v4∧w.cell? ⟨g,5,none⟩=some v5 :=
 ⟨h.cell 0 _ rfl,h.cell 1 _ rfl,h.cell 2 _ rfl,h.cell 3 _ rfl,h.cell 4 _ rfl,h.cell 5 _ rfl⟩
theorem ScSt.cells (h:ScSt w S gS gm gs ge D):w.cell? ⟨gS,0,none⟩=some (.slice S.A S.p.nodes.length S.ncap)∧w.cell? ⟨gS,1,none⟩=some (.slice S.B S.p.funcs.length S.fcap)∧w.cell? ⟨gS,2,none⟩=some (.map (some gm))∧w.cell? ⟨gS,3,none⟩=some (.int .i64 D.next)∧w.cell? ⟨gS,4,none⟩=some (.slice (some ⟨gs,0,none⟩) S.p.nodes.length S.p.nodes.length)∧w.cell? ⟨gS,5,none⟩=some (.slice (some ⟨ge,0,none⟩) S.p.nodes.length S.p.nodes.length):=blk6 h.sc
theorem ScSt.slot (h:ScSt w S gS gm gs ge D) {i:Nat} (hi:i<S.p.nodes.length):w.cell? ⟨gs,i,none⟩=some (.int .i64 (D.slots.getD i 0)):=by
 have hi':i<D.slots.length:=by rw [h.sll];exact hi
 refine h.sl.cell i _ ?_
 rw [zaiZ hi'];simp [hi',intC]
theorem ScSt.err (h:ScSt w S gS gm gs ge D) {i:Nat} (hi:i<S.p.nodes.length):w.cell? ⟨ge,i,none⟩=some (.int .i64 (D.errs.getD i 0)):=by
 have hi':i<D.errs.length:=by rw [h.erl];exact hi
 refine h.er.cell i _ ?_
 rw [zaiZ hi'];simp [hi',intC]
theorem ScSt.gl_below {w0:World} (hg:GL (L4 gS gm gs ge) w w') (hb:Below w0.heap.size w0 w) (h1:w0.heap.size≤gS) (h2:w0.heap.size≤gm) (h3:w0.heap.size≤gs) (h4:w0.heap.size≤ge):Below w0.heap.size w0 w' :=
 hg.bel hb hb.size (by intro g h;simp only [List.mem_cons,List.not_mem_nil,or_false] at h;omega)
end
attribute [local go_sem] zabZ
set_option maxHeartbeats 16000000 in
theorem let_s (S:ProgS) (gS gm gs ge:Nat) (D:ScD) (w:World) (i:Nat) (s:ByteArray) (h:ScSt w S gS gm gs ge D) (hi:i<S.p.nodes.length) (hnl:S.p.nodes.length≤1000) (hn:0≤D.next∧D.next≤100000):Calls prog 90 #[.pointer (some ⟨gS,0,none⟩),.int .i64 i,.string s] w fun e w'=>e=.returned (.tuple #[])∧ScSt w' S gS gm gs ge (letF D i s)∧GL (L4 gS gm gs ge) w w':=by
 obtain ⟨R,hR⟩:∃ R,letF D i s=R:=⟨_,rfl⟩
 rw [hR];obtain ⟨P,hP⟩:∃ P:Ending→World→Prop,(fun e w'=>e=.returned (.tuple #[])∧ScSt w' S gS gm gs ge R∧GL (L4 gS gm gs ge) w w')=P:=⟨_,rfl⟩
 rw [hP];have HP:Hid (∀ w',ScSt w' S gS gm gs ge R→GL (L4 gS gm gs ge) w w'→P (.returned (.tuple #[])) w'):=hZz (fun w' h1 h2=>by rw [← hP];exact ⟨rfl,h1,h2⟩);obtain ⟨nx,hnx⟩:∃ n,D.next=n:=⟨_,rfl⟩
 obtain ⟨r,hr⟩:∃ r,alGet D.vis s=r:=⟨_,rfl⟩
 have HR:Hid (R=if r.isSome=true then ⟨D.vis,nx+1,D.slots.set i nx,D.errs.set i 6⟩ else if nx=32 then ⟨D.vis,nx+1,D.slots.set i nx,D.errs.set i 3⟩ else ⟨alSet D.vis s nx,nx+1,D.slots.set i nx,D.errs⟩):=hZz (by rw [← hR];unfold letF;rw [hr,hnx]);have HH:=hZz h;have HI:=hZz hi;have HRR:=hZz hr;obtain ⟨c0,c1,c2,c3,c4,c5⟩:=h.cells;rw [hnx] at c3 hn;have z3:=h.sc.frozen 3;obtain ⟨nn,hnn⟩:∃ n,S.p.nodes.length=n:=⟨_,rfl⟩
 rw [hnn] at hi hnl c0 c4 c5;have HNN:=hZz hnn;have hi':(i:Int)<(nn:Int):=by omega
 have hi0:(0:Int)≤(i:Int):=by omega
 clear hR hP h hr hnn hnx;go_enter func90,ntmps90
 go_upto_region 2 with fail
 obtain ⟨W1,hW1⟩:∃ W,w.setCell ⟨gS,3,none⟩ (.int .i64 (nx+1))=W:=⟨_,rfl⟩
 have HS1:=hZz (HH.out.setNext (nx+1));have HG1:Hid (GL (L4 gS gm gs ge) w W1):=hZz (by rw [← hW1];exact (GL.refl _ _).setCell (by simp) _ _);rw [hW1] at HS1 ⊢;clear hW1 c0 c1 c2 c3 c4 c5 z3;obtain ⟨c0,c1,c2,c3,c4,c5⟩:=HS1.out.cells;rw [HNN.out] at c0 c4 c5;have z1:=HS1.out.sl.frozen i;have d1:=HS1.out.slot HI.out;go_upto_region 3 with fail
 obtain ⟨W2,hW2⟩:∃ W,W1.setCell ⟨gs,i,none⟩ (.int .i64 nx)=W:=⟨_,rfl⟩
 have HS2:=hZz (HS1.out.setSlot i nx);have HG2:Hid (GL (L4 gS gm gs ge) w W2):=hZz (by rw [← hW2];exact HG1.out.setCell (by simp) _ _);rw [hW2] at HS2 ⊢;clear hW2 c0 c1 c2 c3 c4 c5 z1 d1;obtain ⟨c0,c1,c2,c3,c4,c5⟩:=HS2.out.cells;rw [HNN.out] at c0 c4 c5;have z1:=HS2.out.er.frozen i;have d1:=HS2.out.err HI.out;cases r with
 | some x =>
  go_wp2_with (first
   | (at_lookup;refine zarY rfl (.tmp 31) (.tmp 32) rfl Tryz.kStr underlying114 0 (Tryz.zeroInt _) rfl s rfl HS2.out.mp (some x) HRR.out (.int .i64 x) rfl true rfl ?_))
  go_end0
  refine HP.out _ ?_ ?_
  ·rw [HR.out];exact HS2.out.setErr i 6
  ·exact HG2.out.setCell (by simp) _ _
 | none =>
  by_cases h32:nx=32
  ·have e32:(nx == 32)=true:=by simp [h32]
   go_wp2_with (first
    | (at_lookup;refine zarY rfl (.tmp 31) (.tmp 32) rfl Tryz.kStr underlying114 0 (Tryz.zeroInt _) rfl s rfl HS2.out.mp none HRR.out (.int .i64 0) rfl false rfl ?_))
   go_end0
   refine HP.out _ ?_ ?_
   ·rw [HR.out,if_neg (by simp),if_pos h32];exact HS2.out.setErr i 3
   ·exact HG2.out.setCell (by simp) _ _
  ·have e32:(nx == 32)=false:=by simp [h32]
   have HN32:=hZz h32
   go_wp2_with (first
    | (at_lookup;refine zarY rfl (.tmp 31) (.tmp 32) rfl Tryz.kStr underlying114 0 (Tryz.zeroInt _) rfl s rfl HS2.out.mp none HRR.out (.int .i64 0) rfl false rfl ?_)
    | (refine zb5Y rfl (.tmp 54) (.tmp 55) (.tmp 56) rfl Tryz.kStr underlying114 rfl s rfl nx rfl HS2.out.mp ?_;intro w3 hm3 hg3 hs3;have HM3:=hZz hm3;have HG3:=hZz hg3;clear hm3 hg3 hs3))
   go_end0
   refine HP.out _ ?_ ?_
   ·rw [HR.out]
    have:=HS2.out.setVis HM3.out HG3.out
    rw [if_neg (by simp),if_neg HN32.out];exact this
   ·exact HG2.out.grown HG3.out (by simp)
end
section
theorem findF_lt {p:ProgD} {s:ByteArray} (h:0≤findF p s):(findF p s).toNat<p.funcs.length:=by
 unfold findF at h ⊢;split at h
 ·rename_i i hi
  have:=List.findIdx?_eq_some_iff_getElem.1 hi
  simpa using this.1
 ·omega
attribute [local go_sem] zabZ
set_option maxHeartbeats 16000000 in
theorem call_s (S:ProgS) (gS gm gs ge:Nat) (D:ScD) (w:World) (n:NodeD) (kA iA:Option Addr) (kc ic:Nat) (h:ScSt w S gS gm gs ge D) (hS:ProgV w S) (hfl:S.p.funcs.length≤1000) (hm:n.kids.length≤1000) (hpl:∀ f∈S.p.funcs,f.params.length≤10000):Calls prog 91 #[.pointer (some ⟨gS,0,none⟩),.agg (nodeC n kA kc iA ic)] w fun e w'=>e=.returned (.int .i64 (errW (wantF S.p n.text) n.kids.length))∧Below w.heap.size w w':=by
 obtain ⟨R,hR⟩:∃ R,errW (wantF S.p n.text) n.kids.length=R:=⟨_,rfl⟩
 rw [hR];obtain ⟨P,hP⟩:∃ P:Ending→World→Prop,(fun e w'=>e=.returned (.int .i64 R)∧Below w.heap.size w w')=P:=⟨_,rfl⟩
 rw [hP];have HP:Hid (∀ (b:Int) w',b=R→Below w.heap.size w w'→P (.returned (.int .i64 b)) w'):=hZz (fun b w' h1 h2=>by rw [← hP];exact ⟨by rw [h1],h2⟩);obtain ⟨r,hr⟩:∃ r,lookL builtL n.text=r:=⟨_,rfl⟩
 obtain ⟨f,hf⟩:∃ f,findF S.p n.text=f:=⟨_,rfl⟩
 have hfb:f<1000:=by
  by_cases h0:0≤f
  ·have:=findF_lt (p:=S.p) (s:=n.text) (by rw [hf];exact h0)
   rw [hf] at this;omega
  ·omega
 have HR:Hid (R=errW (if 0≤f then some ((S.p.funcs.getD f.toNat noFunc).params.length:Int) else r) n.kids.length):=hZz (by rw [← hR];unfold wantF;rw [hf,hr]);have HFL:Hid (0≤f→f.toNat<S.p.funcs.length):=hZz (fun h0=>by rw [← hf];exact findF_lt (by rw [hf];exact h0));have HBU:Hid (∀ wx,Calls prog 86 #[.string n.text] wx fun e w'=>e=.returned (.tuple #[.int .i64 (r.getD 0),.bool r.isSome])∧Below wx.heap.size wx w'):=hZz (fun wx=>by rw [← hr];exact built_any n.text wx);have HFI:Hid (∀ wx,Below w.heap.size w wx→Calls prog 87 #[.agg #[.slice S.A S.p.nodes.length S.ncap,.slice S.B S.p.funcs.length S.fcap],.string n.text] wx fun e w'=>e=.returned (.int .i64 f)∧Below wx.heap.size wx w'):=hZz (fun wx hb=>by rw [← hf];exact find_s S n.text wx (hS.below hb) (by omega));have HH:=hZz h;have HF:=hZz hS.funcs;have HPL:=hZz hpl;obtain ⟨m,hme⟩:∃ m,n.kids.length=m:=⟨_,rfl⟩
 rw [hme] at HR hm;unfold nodeC;rw [hme];generalize n.kind=nk;generalize n.text=nt at HBU HFI ⊢;generalize n.int=ni;generalize n.keys.length=q;obtain ⟨g,hg⟩:∃ g,w.heap.size=g:=⟨_,rfl⟩
 obtain ⟨W1,hW1⟩:∃ W,w.alloc (.cells #[.int .i64 nk,.string nt,.int .i64 ni,.slice kA q kc,.slice iA m ic] 58)=W:=⟨_,rfl⟩
 have HX1:Hid (Blk W1 g 58 #[.int .i64 nk,.string nt,.int .i64 ni,.slice kA q kc,.slice iA m ic]):=hZz (by rw [← hW1,← hg];exact Blk.new _ _ _);have HB1:Hid (Below w.heap.size w W1):=hZz (by rw [← hW1];exact zacZ _ _);have HW1:=hZz hW1;have HG:=hZz hg;clear hR hP hr hf h hS hpl hme hg hW1 hfl;go_enter func91,ntmps91
 go_upto_region 1 with fail
 rw [HG.out,HW1.out];clear HG HW1;have x1:=blk5n HX1.out
 go_upto_region 2 with (first
  | (go_at_call 86;(with_reducible refine (HBU.out _).mono ?_);rintro e w2 ⟨rfl,hb2⟩;have HB2:=hZz (zaaZ hb2 HB1.out HB1.out.size);have HX2:=hZz (HX1.out.below hb2);clear hb2 x1))
 have FACT:Hid (∀ wx,Below w2.heap.size w2 wx→(wx.cell? ⟨gS,0,none⟩=some (.slice S.A S.p.nodes.length S.ncap)∧wx.cell? ⟨gS,1,none⟩=some (.slice S.B S.p.funcs.length S.fcap))∧wx.cell? ⟨g,1,none⟩=some (.string nt)):=hZz (fun wx hb=>by
  have h3:=(HH.out.below (zaaZ hb HB2.out HB2.out.size)).cells;exact ⟨⟨h3.1,h3.2.1⟩,(HX2.out.below hb).cell 1 _ rfl⟩)
 have f0:=FACT.out _ (Below.refl _ _);have fd:=FACT.out _ (zadZ w2)
 go_region_held3 (fun w'=>(w'.cell? ⟨gS,0,none⟩=some (.slice S.A S.p.nodes.length S.ncap)∧w'.cell? ⟨gS,1,none⟩=some (.slice S.B S.p.funcs.length S.fcap))∧w'.cell? ⟨g,1,none⟩=some (.string nt)) (first | with_reducible exact f0 | with_reducible exact fd | with_reducible exact f3) (first
  | (go_at_call 87;(with_reducible refine (HFI.out _ (zaaZ (zadZ w2) HB2.out HB2.out.size)).mono ?_);rintro e w3 ⟨rfl,hb3⟩;have HB23:=hZz (zahZ hb3 (zadZ w2));have f3:=FACT.out _ HB23.out;clear hb3))
 all_goals
  clear f0 fd f3;have HX3:=hZz (HX2.out.below HB23.out);have HB3:=hZz (zaaZ HB23.out HB2.out HB2.out.size);have x3:=blk5n HX3.out;by_cases h0:0≤f
  ·have hkl:=HFL.out h0
   obtain ⟨b,off,kA',kc',hBe,_,_,c1,_,hdead⟩:=zakY (FuncsV.below HF.out HB3.out) hkl;clear hdead;have hlen:=HPL.out _ (List.getElem_mem hkl);have HR2:Hid (R=errW (some ((S.p.funcs[f.toNat]'hkl).params.length:Int)) m):=hZz (by rw [HR.out,if_pos h0,zaiZ hkl]);have y3:=(HH.out.below HB3.out).cells;rw [hBe] at y3;obtain ⟨fn,rfl⟩:∃ k:Nat,f=(k:Int):=⟨f.toNat,by omega⟩
   simp only [Int.toNat_natCast] at hkl c1 hlen HR2;have hkl':(fn:Int)<(S.p.funcs.length:Int):=by omega
   generalize (S.p.funcs[fn]'hkl).params.length=pl at c1 hlen HR2;obtain ⟨y0,y1,_,_,_,_⟩:=y3;by_cases e1:pl=m
   ·have e1':((pl:Int) != (m:Int))=false:=by simp [e1]
    go_wp2_with (fail)
    exact HP.out _ _ (by rw [HR2.out];simp [errW,e1]) HB3.out
   ·have e1':((pl:Int) != (m:Int))=true:=by simp;omega
    go_wp2_with (fail)
    exact HP.out _ _ (by rw [HR2.out];simp [errW];omega) HB3.out
  ·have HR2:Hid (R=errW r m):=hZz (by rw [HR.out,if_neg h0])
   cases r with
   | none =>
    go_wp2_with (fail)
    exact HP.out _ _ (by rw [HR2.out];rfl) HB3.out
   | some x =>
    by_cases e1:x=(m:Int)
    ·have e1':(x != (m:Int))=false:=by simp [e1]
     go_wp2_with (fail)
     exact HP.out _ _ (by rw [HR2.out];simp [errW,e1]) HB3.out
    ·have e1':(x != (m:Int))=true:=by simp [e1]
     go_wp2_with (fail)
     exact HP.out _ _ (by rw [HR2.out];simp [errW,e1]) HB3.out
end
section
structure SW (w0 w:World) (S:ProgS) (gS gm gs ge:Nat) (D:ScD):Prop where
 st:ScSt w S gS gm gs ge D
 bl:Below w0.heap.size w0 w
 b1:w0.heap.size≤gS
 b2:w0.heap.size≤gm
 b3:w0.heap.size≤gs
 b4:w0.heap.size≤ge
theorem SW.gl {w0 w w':World} {S:ProgS} {gS gm gs ge:Nat} {D D':ScD} (h:SW w0 w S gS gm gs ge D) (h1:ScSt w' S gS gm gs ge D') (h2:GL (L4 gS gm gs ge) w w'):SW w0 w' S gS gm gs ge D' :=
 ⟨h1,ScSt.gl_below h2 h.bl h.b1 h.b2 h.b3 h.b4,h.b1,h.b2,h.b3,h.b4⟩
theorem SW.below {w0 w w':World} {S:ProgS} {gS gm gs ge:Nat} {D:ScD} (h:SW w0 w S gS gm gs ge D) (hb:Below w.heap.size w w'):SW w0 w' S gS gm gs ge D:=h.gl (h.st.below hb) (GL.of_below hb)
theorem SW.fresh {w0 w:World} {S:ProgS} {gS gm gs ge:Nat} {D:ScD} (h:SW w0 w S gS gm gs ge D):w.heap.size ∉ L4 gS gm gs ge:=by
 have h1:=h.st.sc.lt;have h2:=h.st.mp.lt;have h3:=h.st.sl.lt;have h4:=h.st.er.lt;intro hm;simp only [List.mem_cons,List.not_mem_nil,or_false] at hm;omega
def NxB (D:ScD) (c:Nat):Prop:=0≤D.next∧D.next+c≤100000
theorem NxB.inv {D D':ScD} {a b c:Nat} (h:NxB D c) (hi:WInv a D D') (hc:a+b≤c):NxB D' b:=by
 have h1:=hi.lo;have h2:=hi.hi;unfold NxB at h ⊢;omega
def blkR (p:ProgD) (f:Nat) (l:List Int) (D:ScD):ScD:=⟨(blockF p (walkF p f) l D []).2.foldl alDel (blockF p (walkF p f) l D []).1.vis,(blockF p (walkF p f) l D []).1.next,(blockF p (walkF p f) l D []).1.slots,(blockF p (walkF p f) l D []).1.errs⟩
def WalkH (w0:World) (S:ProgS) (gS gm gs ge:Nat) (f:Nat):Prop:=∀ i s D w,firstF S.p.nodes f i=some s→i<S.p.nodes.length→SW w0 w S gS gm gs ge D→NxB D (i+1 - s) →
 Calls prog 59 #[.pointer (some ⟨gS,0,none⟩),.int .i64 i] w fun e w'=>e=.returned (.tuple #[])∧SW w0 w' S gS gm gs ge (walkF S.p f i D)∧GL (L4 gS gm gs ge) w w'
def BlockH (w0:World) (S:ProgS) (gS gm gs ge:Nat) (f:Nat):Prop:=∀ (n:NodeD) kA kc iA ic s e D w,Cover S.p.nodes f n.kids s e→e≤S.p.nodes.length→n.kids.length≤1000→IntsV w0 (.slice iA n.kids.length ic) n.kids→SW w0 w S gS gm gs ge D→NxB D (e - s) →
 Calls prog 89 #[.pointer (some ⟨gS,0,none⟩),.agg (nodeC n kA kc iA ic)] w fun r w'=>r=.returned (.tuple #[])∧SW w0 w' S gS gm gs ge (blkR S.p f n.kids D)∧GL (L4 gS gm gs ge) w w'
def varR:Option Int→Nat→ScD→ScD
 | some k,i,D=>⟨D.vis,D.next,D.slots.set i k,D.errs⟩
 | none,i,D=>⟨D.vis,D.next,D.slots,D.errs.set i 4⟩
theorem endF_var (p:ProgD) (n:NodeD) (i:Nat) (D:ScD) (h:n.kind=5∨n.kind=14):endF p n i D=varR (alGet D.vis n.text) i D:=by
 unfold endF;rw [if_pos h];cases alGet D.vis n.text <;> rfl
attribute [local go_sem] zabZ
set_option maxHeartbeats 16000000 in
theorem walk_s (w0:World) (S:ProgS) (gS gm gs ge:Nat) (hS:ProgV w0 S) (hok:ProgOk S.p) (f:Nat) (hw:WalkH w0 S gS gm gs ge f) (hb:BlockH w0 S gS gm gs ge f):WalkH w0 S gS gm gs ge (f+1):=by
 intro i s D w hf hil hSW hnx;have T:=zadY hf;have hsi:=zaaY hf;obtain ⟨R,hR⟩:∃ R,walkF S.p (f+1) i D=R:=⟨_,rfl⟩
 rw [hR];obtain ⟨P,hP⟩:∃ P:Ending→World→Prop,(fun e w'=>e=.returned (.tuple #[])∧SW w0 w' S gS gm gs ge R∧GL (L4 gS gm gs ge) w w')=P:=⟨_,rfl⟩
 rw [hP];have HP:Hid (∀ w',SW w0 w' S gS gm gs ge R→GL (L4 gS gm gs ge) w w'→P (.returned (.tuple #[])) w'):=hZz (fun w' h1 h2=>by rw [← hP];exact ⟨rfl,h1,h2⟩);obtain ⟨bN,offN,kA,kc,iA,ic,hA,hbN,c0,c1,c2,c3,c4,hk,hi⟩:=zalY hS.nodes hil
 replace c0:=(hSW.bl.cell hbN).trans c0
 replace c1:=(hSW.bl.cell hbN).trans c1
 replace c2:=(hSW.bl.cell hbN).trans c2
 replace c3:=(hSW.bl.cell hbN).trans c3
 replace c4:=(hSW.bl.cell hbN).trans c4
 obtain ⟨n,hn⟩:∃ n,S.p.nodes[i]=n:=⟨_,rfl⟩
 have hgd:S.p.nodes.getD i noNode=n:=by rw [zaiZ hil,hn]
 have hat:S.p.at_ i=n:=hgd;have hcv:=T.cover;rw [hgd] at hcv;rw [hn] at c0 c1 c2 c3 c4 hk hi;have hmem:n∈S.p.nodes:=by rw [← hn];exact List.getElem_mem hil
 have hm:=(hok.nodes.kids n hmem).1;have hlen:=hok.nodes.len
 have hRR:R=if n.kind=19 then blkR S.p f n.kids D else endF S.p n i (n.kids.foldl (fun D k=>walkF S.p f k.toNat D) D):=by
  rw [← hR];simp only [walkF];rw [hat];rfl
 have HRR:=hZz hRR;have HH:=hZz hSW;have HI:=hZz hi;have HBH:Hid (∀ wx,Below w.heap.size w wx→Calls prog 89 #[.pointer (some ⟨gS,0,none⟩),.agg (nodeC n kA kc iA ic)] wx fun r w'=>r=.returned (.tuple #[])∧SW w0 w' S gS gm gs ge (blkR S.p f n.kids D)∧GL (L4 gS gm gs ge) wx w'):=hZz (fun wx hbx=>hb n kA kc iA ic s i D wx hcv (by omega) hm hi (hSW.below hbx) (by unfold NxB at hnx ⊢;omega));have HW:=hZz hw;have HCV:=hZz hcv;have HNX:=hZz hnx;have HS:=hZz hS;have HOK:=hZz hok;have HIL:=hZz hil;have HSI:=hZz hsi;obtain ⟨m,hme⟩:∃ m,n.kids.length=m:=⟨_,rfl⟩
 have HM:=hZz hme;obtain ⟨q,hqe⟩:∃ q,n.keys.length=q:=⟨_,rfl⟩
 have HQ:=hZz hqe;obtain ⟨nk,hnk⟩:∃ x,n.kind=x:=⟨_,rfl⟩
 have HNK:=hZz hnk;obtain ⟨nt,hnt⟩:∃ x,n.text=x:=⟨_,rfl⟩
 have HNT:=hZz hnt;obtain ⟨ni,hni⟩:∃ x,n.int=x:=⟨_,rfl⟩
 have HNI:=hZz hni;rw [hme] at c4 HI hm;rw [hqe] at c3;rw [hnk] at c0;rw [hnt] at c1;rw [hni] at c2;unfold nodeC at HBH;rw [hme,hqe,hnk,hnt,hni] at HBH;obtain ⟨s0,s1,s2,s3,s4,s5⟩:=hSW.st.cells;rw [hA] at s0;obtain ⟨N,hN⟩:∃ N,S.p.nodes.length=N:=⟨_,rfl⟩
 have HN:=hZz hN;rw [hN] at s0 s4 s5 hil hlen;have hiN:(i:Int)<(N:Int):=by omega
 have hi0:(0:Int)≤(i:Int):=by omega
 obtain ⟨gn,hgn⟩:∃ g,w.heap.size=g:=⟨_,rfl⟩
 obtain ⟨W1,hW1⟩:∃ W,w.alloc (.cells #[.int .i64 nk,.string nt,.int .i64 ni,.slice kA q kc,.slice iA m ic] 58)=W:=⟨_,rfl⟩
 have HB1:Hid (Below w.heap.size w W1):=hZz (by rw [← hW1];exact zacZ _ _);have HX1:Hid (Blk W1 gn 58 #[.int .i64 nk,.string nt,.int .i64 ni,.slice kA q kc,.slice iA m ic]):=hZz (by rw [← hW1,← hgn];exact Blk.new _ _ _);have HFR:Hid (gn ∉ L4 gS gm gs ge):=hZz (by rw [← hgn];exact hSW.fresh);have HS1:=hZz (hSW.below HB1.out);have HGN:=hZz hgn;have HW1:=hZz hW1;clear hR hP hA hbN hk hi hn hgd hat hcv hmem hRR hSW hw hb hnx hS hok hme hqe hnk hnt hni hN hgn hW1 hf T hsi;go_enter func59,ntmps59
 go_upto_region 1 with fail
 rw [HGN.out,HW1.out];clear HGN HW1 c0 c1 c2 c3 c4 s0 s1 s2 s3 s4 s5;have x1:=blk5n HX1.out;by_cases h19:nk=19
 ·subst h19
  go_wp2_with (first
   | (go_at_call 89;(with_reducible refine (HBH.out _ HB1.out).mono ?_);rintro e w2 ⟨rfl,hs2,hg2⟩;have HS2:=hZz hs2;have HG2:=hZz hg2;clear hs2 hg2))
  go_end0
  exact HP.out _ (by rw [HRR.out,HNK.out,if_pos rfl];exact HS2.out) ((GL.of_below HB1.out).trans HG2.out)
 have d19:(nk == 19)=false:=by simp [h19]
 have H19:=hZz h19;clear h19;obtain ⟨FIN,hFIN⟩:∃ F,n.kids.foldl (fun D k=>walkF S.p f k.toNat D) D=F:=⟨_,rfl⟩
 have HR2:Hid (R=endF S.p n i FIN):=hZz (by rw [HRR.out,HNK.out,if_neg H19.out,hFIN]);have HFIN:=hZz hFIN;clear hFIN HRR HBH;go_wp2_with (fail)
 clear x1 d19;go_loopw [6,28] (fun _ kv wr=>∃ (j:Nat) (Dj:ScD) (sj:Nat),j≤m∧kv=.int .i64 j∧Hid (Cover S.p.nodes f (n.kids.drop j) sj i)∧Hid ((n.kids.drop j).foldl (fun D k=>walkF S.p f k.toNat D) Dj=FIN)∧Hid (SW w0 wr S gS gm gs ge Dj)∧Hid (GL (L4 gS gm gs ge) w wr)∧Hid (Blk wr gn 58 #[.int .i64 nk,.string nt,.int .i64 ni,.slice kA q kc,.slice iA m ic])∧Hid (NxB Dj (i+1 - sj))) (fun _ kv _=>m - (intOf kv).toNat)
 case atStart=>exact ⟨0,D,s,Nat.zero_le _,rfl,hZz (by rw [List.drop_zero];exact HCV.out),hZz (by rw [List.drop_zero];exact HFIN.out),HS1,hZz (GL.of_below HB1.out),HX1,HNX⟩
 case round =>
  obtain ⟨j,Dj,sj,hj,rfl,HC,HE,HSj,HGj,HX,HNj⟩:=hrel;have hj0:(0:Int)≤(j:Int):=by omega
  by_cases hlt:j<m
  ·have hlt':(j:Int)<(m:Int):=by omega
   have hkl:j<n.kids.length:=by rw [HM.out];exact hlt
   obtain ⟨bI,offI,rfl,hbI,ck⟩:=HI.out.cell hkl;have hbw0:Below w0.heap.size w0 wr:=HSj.out.bl
   replace ck:=(hbw0.cell hbI).trans ck
   have hcv:=HC.out;have hfl:=HE.out;rw [List.drop_eq_getElem_cons hkl] at hcv hfl;obtain ⟨x,hx⟩:∃ x,n.kids[j]=x:=⟨_,rfl⟩
   rw [hx] at hcv hfl ck;cases hcv with
   | cons _ _ mk _ hf1 hc2 =>
    simp only [List.foldl_cons,Int.toNat_natCast] at hfl;have q1:=zaaY hf1;have q2:=hc2.le';have hmN:mk<S.p.nodes.length:=by have:=HIL.out;omega
    have HCW:=hZz (HW.out mk sj Dj wr hf1 hmN HSj.out (by have:=HNj.out;unfold NxB at this ⊢;omega));obtain ⟨Dk,hDk⟩:∃ D,walkF S.p f mk Dj=D:=⟨_,rfl⟩
    have HNK2:Hid (NxB Dk (i+1 - (mk+1))):=hZz (by rw [← hDk];exact HNj.out.inv (zbbY S.p f mk sj Dj hf1) (by omega));rw [hDk] at HCW hfl;have HC2:=hZz hc2;have HE2:=hZz hfl;clear hfl hx hf1 hc2 hbI hmN hDk hbw0
    go_wp2_with (first
     | (go_at_call 59;(with_reducible refine HCW.out.mono ?_);rintro r2 w2 ⟨rfl,hs2,hg2⟩;have HS2:=hZz hs2;have HG2:=hZz (HGj.out.trans hg2);have HX2:=hZz (hg2.blk HX.out HFR.out);clear hs2 hg2))
    exact ⟨⟨j+1,Dk,mk+1,by omega,by simp,HC2,HE2,HS2,HG2,HX2,HNK2⟩,by simp [intOf];omega⟩
  ·have e:m=j:=by omega
   subst e;have HF2:Hid (FIN=Dj):=hZz (by rw [← HE.out,← HM.out,List.drop_length];rfl);have HSF:Hid (SW w0 wr S gS gm gs ge FIN):=hZz (by rw [HF2.out];exact HSj.out);have x1:=blk5n HX.out;clear HE HC HSj HNj HF2;obtain ⟨nx,hnx⟩:∃ x,FIN.next=x:=⟨_,rfl⟩
   obtain ⟨y0,y1,y2,y3,y4,y5⟩:=HSF.out.st.cells;rw [HN.out] at y0 y4 y5;have HI2:Hid (i<S.p.nodes.length):=hZz (by rw [HN.out];omega);have z1:=HSF.out.st.sl.frozen i;have z2:=HSF.out.st.er.frozen i;have d1:=HSF.out.st.slot HI2.out;have d2:=HSF.out.st.err HI2.out;have hk:nk=5∨nk=14∨nk=13∨nk=11∨nk=12∨(nk≠5∧nk≠14∧nk≠13∧nk≠11∧nk≠12):=by omega
   rcases hk with rfl | rfl | rfl | rfl | rfl | ⟨k1,k2,k3,k4,k5⟩
   ·-- a variable
    obtain ⟨r,hr⟩:∃ r,alGet FIN.vis nt=r:=⟨_,rfl⟩
    have HRF:Hid (R=varR r i FIN):=hZz (by rw [HR2.out,endF_var S.p n i FIN (by rw [HNK.out];omega),HNT.out,hr])
    have HLK:Hid (∀ q,(Instr.lookup 114 (.map (some gm)) (.string nt) true).run prog (wr.drewN q)=.ok (.tuple #[.int .i64 (r.getD 0),.bool r.isSome]) (wr.drewN q)):=hZz (fun q=>by
     have:=(HSF.out.st.mp.drewN q).look_ok (T:=114) Tryz.kStr underlying114 (0:Int) (Tryz.zeroInt _) nt
     rw [hr] at this;exact this)
    have hlk:=HLK.out;clear hr;go_upto_region 11 with fail
    go_quiet (fail);clear hlk;have HSd:Hid (SW w0 (wr.drewN nq) S gS gm gs ge FIN):=hZz (HSF.out.below (zaeZ (Below.refl _ _) _));have HGd:Hid (GL (L4 gS gm gs ge) w (wr.drewN nq)):=hZz (HGj.out.below_tr (zaeZ (Below.refl _ _) _));obtain ⟨wq,hwq⟩:∃ W,wr.drewN nq=W:=⟨_,rfl⟩
    rw [hwq] at HSd HGd ⊢;clear hwq y0 y1 y2 y3 y4 y5 z1 z2 d1 d2 HLK;obtain ⟨y0,y1,y2,y3,y4,y5⟩:=HSd.out.st.cells;rw [HN.out] at y0 y4 y5;have z1:=HSd.out.st.sl.frozen i;have z2:=HSd.out.st.er.frozen i;have d1:=HSd.out.st.slot HI2.out;have d2:=HSd.out.st.err HI2.out;cases r with
    | none =>
     go_wp2_with (fail)
     go_end0
     exact HP.out _ (by rw [HRF.out];exact HSd.out.gl (HSd.out.st.setErr i 4) ((GL.refl _ _).setCell (by simp) _ _)) (HGd.out.setCell (by simp) _ _)
    | some k =>
     go_wp2_with (fail)
     go_end0
     exact HP.out _ (by rw [HRF.out];exact HSd.out.gl (HSd.out.st.setSlot i k) ((GL.refl _ _).setCell (by simp) _ _)) (HGd.out.setCell (by simp) _ _)
   ·-- a variable
    obtain ⟨r,hr⟩:∃ r,alGet FIN.vis nt=r:=⟨_,rfl⟩
    have HRF:Hid (R=varR r i FIN):=hZz (by rw [HR2.out,endF_var S.p n i FIN (by rw [HNK.out];omega),HNT.out,hr])
    have HLK:Hid (∀ q,(Instr.lookup 114 (.map (some gm)) (.string nt) true).run prog (wr.drewN q)=.ok (.tuple #[.int .i64 (r.getD 0),.bool r.isSome]) (wr.drewN q)):=hZz (fun q=>by
     have:=(HSF.out.st.mp.drewN q).look_ok (T:=114) Tryz.kStr underlying114 (0:Int) (Tryz.zeroInt _) nt
     rw [hr] at this;exact this)
    have hlk:=HLK.out;clear hr;go_upto_region 11 with fail
    go_quiet (fail);clear hlk;have HSd:Hid (SW w0 (wr.drewN nq) S gS gm gs ge FIN):=hZz (HSF.out.below (zaeZ (Below.refl _ _) _));have HGd:Hid (GL (L4 gS gm gs ge) w (wr.drewN nq)):=hZz (HGj.out.below_tr (zaeZ (Below.refl _ _) _));obtain ⟨wq,hwq⟩:∃ W,wr.drewN nq=W:=⟨_,rfl⟩
    rw [hwq] at HSd HGd ⊢;clear hwq y0 y1 y2 y3 y4 y5 z1 z2 d1 d2 HLK;obtain ⟨y0,y1,y2,y3,y4,y5⟩:=HSd.out.st.cells;rw [HN.out] at y0 y4 y5;have z1:=HSd.out.st.sl.frozen i;have z2:=HSd.out.st.er.frozen i;have d1:=HSd.out.st.slot HI2.out;have d2:=HSd.out.st.err HI2.out;cases r with
    | none =>
     go_wp2_with (fail)
     go_end0
     exact HP.out _ (by rw [HRF.out];exact HSd.out.gl (HSd.out.st.setErr i 4) ((GL.refl _ _).setCell (by simp) _ _)) (HGd.out.setCell (by simp) _ _)
    | some k =>
     go_wp2_with (fail)
     go_end0
     exact HP.out _ (by rw [HRF.out];exact HSd.out.gl (HSd.out.st.setSlot i k) ((GL.refl _ _).setCell (by simp) _ _)) (HGd.out.setCell (by simp) _ _)
   ·have HRF:Hid (R=letF FIN i nt):=hZz (by rw [HR2.out];unfold endF;rw [HNK.out,if_neg (by omega),if_pos rfl,HNT.out])
    have HNF:Hid (0≤FIN.next∧FIN.next≤100000):=hZz (by have:=HNX.out;have h2:=zb4Y (zbbY S.p f) HCV.out D;rw [HFIN.out] at h2;have h3:=h2.lo;have h4:=h2.hi;have:=HSI.out;unfold NxB at *;omega);have HLC:=hZz (let_s S gS gm gs ge FIN wr i nt HSF.out.st HI2.out (by rw [HN.out];omega) HNF.out)
    go_wp2_with (first
     | (go_at_call 90;(with_reducible refine HLC.out.mono ?_);rintro e w2 ⟨rfl,hs2,hg2⟩;have HS2:=hZz (HSF.out.gl hs2 hg2);have HG2:=hZz (HGj.out.trans hg2);clear hs2 hg2))
    go_end0
    exact HP.out _ (by rw [HRF.out];exact HS2.out) HG2.out
   ·-- a call
    have HRF:Hid (R=⟨FIN.vis,FIN.next,FIN.slots,FIN.errs.set i (errW (wantF S.p nt) m)⟩):=hZz (by rw [HR2.out];unfold endF;rw [HNK.out,if_neg (by omega),if_neg (by omega),if_pos rfl,HNT.out,HM.out]);obtain ⟨er,her⟩:∃ x,errW (wantF S.p nt) m=x:=⟨_,rfl⟩
    have HCL:Hid (∀ wx,SW w0 wx S gS gm gs ge FIN→Calls prog 91 #[.pointer (some ⟨gS,0,none⟩),.agg #[.int .i64 11,.string nt,.int .i64 ni,.slice kA q kc,.slice iA m ic]] wx fun e w'=>e=.returned (.int .i64 er)∧Below wx.heap.size wx w'):=hZz (fun wx hs=>by
     have:=call_s S gS gm gs ge FIN wx n kA iA kc ic hs.st (HS.out.below hs.bl) HOK.out.funcs (by rw [HM.out];exact hm) (fun f hf=>(HOK.out.fn f hf).2.1)
     unfold nodeC at this;rw [HM.out,HQ.out,HNK.out,HNT.out,HNI.out,her] at this;exact this)
    rw [her] at HRF;clear her;go_upto_region 18 with fail
    have HSd:Hid (SW w0 wr.drew S gS gm gs ge FIN):=hZz (HSF.out.below (zadZ wr))
    have FACT:Hid (∀ wx,Below wr.heap.size wr wx→(wx.cell? ⟨gn,0,none⟩=some (.int .i64 11)∧wx.cell? ⟨gn,1,none⟩=some (.string nt)∧wx.cell? ⟨gn,2,none⟩=some (.int .i64 ni)∧wx.cell? ⟨gn,3,none⟩=some (.slice kA q kc)∧wx.cell? ⟨gn,4,none⟩=some (.slice iA m ic))∧wx.cell? ⟨gS,5,none⟩=some (.slice (some ⟨ge,0,none⟩) N N)):=hZz (fun wx hb=>by
     refine ⟨blk5n (HX.out.below hb),?_⟩
     have h5:=(HSF.out.below hb).st.cells.2.2.2.2.2
     rwa [HN.out] at h5)
    have F4:Hid (∀ wx,Below wr.heap.size wr wx→∀ x,((wx.setCell ⟨ge,i,none⟩ (.int .i64 x)).cell? ⟨gn,0,none⟩=some (.int .i64 11)∧(wx.setCell ⟨ge,i,none⟩ (.int .i64 x)).cell? ⟨gn,1,none⟩=some (.string nt)∧(wx.setCell ⟨ge,i,none⟩ (.int .i64 x)).cell? ⟨gn,2,none⟩=some (.int .i64 ni)∧(wx.setCell ⟨ge,i,none⟩ (.int .i64 x)).cell? ⟨gn,3,none⟩=some (.slice kA q kc)∧(wx.setCell ⟨ge,i,none⟩ (.int .i64 x)).cell? ⟨gn,4,none⟩=some (.slice iA m ic))∧(wx.setCell ⟨ge,i,none⟩ (.int .i64 x)).cell? ⟨gS,5,none⟩=some (.slice (some ⟨ge,0,none⟩) N N)):=hZz (fun wx hb x=>by
     refine ⟨blk5n ((HX.out.below hb).far (p:=⟨ge,i,none⟩) (fun e=>HFR.out (by subst e;simp)) _),?_⟩
     have h5:=((HSF.out.below hb).st.setErr i x).cells.2.2.2.2.2
     rwa [HN.out] at h5)
    have f0:=FACT.out _ (Below.refl _ _);have fd:=FACT.out _ (zadZ wr);clear y0 y1 y2 y3 y4 y5 z1 z2 d1 d2
    go_region_held3 (fun w'=>(w'.cell? ⟨gn,0,none⟩=some (.int .i64 11)∧w'.cell? ⟨gn,1,none⟩=some (.string nt)∧w'.cell? ⟨gn,2,none⟩=some (.int .i64 ni)∧w'.cell? ⟨gn,3,none⟩=some (.slice kA q kc)∧w'.cell? ⟨gn,4,none⟩=some (.slice iA m ic))∧w'.cell? ⟨gS,5,none⟩=some (.slice (some ⟨ge,0,none⟩) N N)) (first | with_reducible exact f0 | with_reducible exact fd | with_reducible exact f3 | with_reducible exact f4 _) (first
     | (go_at_call 91;(with_reducible refine (HCL.out _ HSd.out).mono ?_);rintro e w3 ⟨rfl,hb3⟩;have HB23:=hZz (zahZ hb3 (zadZ wr));have HS3:=hZz (HSd.out.below hb3);have f3:=FACT.out _ HB23.out;have z3:=HS3.out.st.er.frozen i;have d3:=HS3.out.st.err HI2.out;have f4:=F4.out w3 HB23.out;clear hb3))
    all_goals
     go_simp;go_end0
     exact HP.out _ (by rw [HRF.out];exact HS3.out.gl (HS3.out.st.setErr i er) ((GL.refl _ _).setCell (by simp) _ _)) ((HGj.out.below_tr HB23.out).setCell (by simp) _ _)
   ·-- a host operation
    obtain ⟨r,hr⟩:∃ r,lookL hostL nt=r:=⟨_,rfl⟩
    have HRF:Hid (R=if errW r m=0 then FIN else ⟨FIN.vis,FIN.next,FIN.slots,FIN.errs.set i (errW r m)⟩):=hZz (by rw [HR2.out];unfold endF;rw [HNK.out,if_neg (by omega),if_neg (by omega),if_neg (by omega),if_pos rfl,HNT.out,HM.out,hr]);have HHO:Hid (∀ wx,Calls prog 92 #[.string nt] wx fun e w'=>e=.returned (.tuple #[.int .i64 (r.getD 0),.bool r.isSome])∧Below wx.heap.size wx w'):=hZz (fun wx=>by rw [← hr];exact host_any nt wx);clear hr y0 y1 y2 y3 y4 y5 z1 z2 d1 d2;cases r with
    | none =>
     go_wp2_with (first
      | (go_at_call 92;(with_reducible refine (HHO.out _).mono ?_);rintro e w2 ⟨rfl,hb2⟩;have HS2:=hZz (HSF.out.below hb2);have HG2:=hZz (HGj.out.below_tr hb2);obtain ⟨y0,y1,y2,y3,y4,y5⟩:=HS2.out.st.cells;rw [HN.out] at y5;have z2:=HS2.out.st.er.frozen i;have d2:=HS2.out.st.err HI2.out;clear hb2 x1))
     go_end0
     exact HP.out _ (by rw [HRF.out];exact HS2.out.gl (HS2.out.st.setErr i 4) ((GL.refl _ _).setCell (by simp) _ _)) (HG2.out.setCell (by simp) _ _)
    | some k =>
     by_cases hkm:k=(m:Int)
     ·have e1:(k != (m:Int))=false:=by simp [hkm]
      have HRG:Hid (R=FIN):=hZz (by rw [HRF.out,if_pos (by simp [errW,hkm])]);clear hkm
      go_wp2_with (first
       | (go_at_call 92;(with_reducible refine (HHO.out _).mono ?_);rintro e w2 ⟨rfl,hb2⟩;have HS2:=hZz (HSF.out.below hb2);have HG2:=hZz (HGj.out.below_tr hb2);have HX2:=hZz (HX.out.below hb2);have x2:=blk5n HX2.out;clear hb2 x1))
      go_end0
      exact HP.out _ (by rw [HRG.out];exact HS2.out) HG2.out
     ·have e1:(k != (m:Int))=true:=by simp [hkm]
      have HRG:Hid (R=⟨FIN.vis,FIN.next,FIN.slots,FIN.errs.set i 7⟩):=hZz (by rw [HRF.out];simp [errW,hkm]);clear hkm
      go_wp2_with (first
       | (go_at_call 92;(with_reducible refine (HHO.out _).mono ?_);rintro e w2 ⟨rfl,hb2⟩;have HS2:=hZz (HSF.out.below hb2);have HG2:=hZz (HGj.out.below_tr hb2);have HX2:=hZz (HX.out.below hb2);have x2:=blk5n HX2.out;obtain ⟨y0,y1,y2,y3,y4,y5⟩:=HS2.out.st.cells;rw [HN.out] at y5;have z2:=HS2.out.st.er.frozen i;have d2:=HS2.out.st.err HI2.out;clear hb2 x1))
      go_end0
      exact HP.out _ (by rw [HRG.out];exact HS2.out.gl (HS2.out.st.setErr i 7) ((GL.refl _ _).setCell (by simp) _ _)) (HG2.out.setCell (by simp) _ _)
   ·have e1:(nk == 5)=false:=by simp [k1]
    have e2:(nk == 14)=false:=by simp [k2]
    have e3:(nk == 13)=false:=by simp [k3]
    have e4:(nk == 11)=false:=by simp [k4]
    have e5:(nk == 12)=false:=by simp [k5]
    have HRF:Hid (R=FIN):=hZz (by rw [HR2.out];unfold endF;rw [HNK.out,if_neg (by omega),if_neg k3,if_neg k4,if_neg k5]);clear k1 k2 k3 k4 k5;go_wp2_with (fail)
    go_end0
    exact HP.out _ (by rw [HRF.out];exact HSF.out) HGj.out
end
end Go.Proofs.YthiimbhjpdphpaaGreatDoor
