/- W5, W6, W7, W8 -/
import Derived.Test.YthiimbhjpdphpaaGreatDoorPW4
set_option linter.unusedVariables false
set_option linter.unusedSimpArgs false
namespace Go.Proofs.YthiimbhjpdphpaaGreatDoor
open Go.RowKit
set_option maxRecDepth 100000
set_option maxHeartbeats 8000000
open Go.Proofs.Tryz
section
theorem run_append_zero {P:Program} (w:World) (t ty e:TypeId) (i:TypeInfo) (size:Nat) (ht:P.underlying t=some (.slice e)) (hi:P.info? e=some i) (hsize:i.size=size)
  (A B:Option Addr) (n c c2:Nat) (h:n≤c):(Builtin.append_ #[t,t] ty #[.slice A n c,.slice B 0 c2]).run P w=.ok (.slice A n c) w:=by
 cases A <;> cases B <;> simp [Builtin.append_,run_underlying ht,sizeOf,typeInfo,hi,Builtin.lenOf,Builtin.firstCells,loadCells,loadCellsFrom,h,storeCells]
theorem zazY {P:Program} {w:World} {o:Oper} {a:Act} {K:Act→World→Prop} {Q:Exit→Act→World→Prop} (s x:Operand) (t:TypeId)
  (ho:o.op=.call { callee:=.builtin .append,args:=#[s,x],argTypes:=#[t,t] }) (e:TypeId) (i:TypeInfo) (size:Nat) (ht:P.underlying t=some (.slice e)) (hi:P.info? e=some i) (hsize:i.size=size)
  (A B:Option Addr) (n c c2:Nat) (hs:a.eval s=.slice A n c) (hx:a.eval x=.slice B 0 c2) (h:n≤c) (hK:K (a.put o.dst (.slice A n c)) w):o.wp P a w K Q:=by
 unfold Oper.wp execOp;simp only [ho,resolve,invoke,builtin,Sem.run_bind,Sem.run_pure,Result.andThen_ok,List.map_toArray,List.map_cons,List.map_nil,hs,hx,run_append_zero w t o.type e i size ht hi hsize A B n c c2 h];exact hK
theorem zaxY {w:World} {base:Nat} {e t:TypeId} {size n g:Nat} {v:Value} {xs:List Value} {cs:Array Value} (h:w.ownsRow base e size v n xs) (hb:Blk w g t cs) (hne:e≠t) (j:Nat) (u:Value):(w.setCell ⟨g,j,none⟩ u).ownsRow base e size v n xs:=by
 have hn:=zafZ h hb hne;obtain ⟨h1,h2⟩:=h;refine ⟨h1,h2.imp id (fun ⟨g',cap,cur,ev,eg,eh,e4⟩=>⟨g',cap,cur,ev,eg,?_,e4⟩)⟩
 subst ev;exact (Below.heap_setCell w _ u g' (fun e'=>hn (by show some g=some g';rw [show g'=g from e']))).trans eh
attribute [local go_sem] zabZ
set_option maxHeartbeats 16000000 in
theorem last7_s (w0:World) (S:ProgS) (sA:Option Addr) (sc gW:Nat) (e0:Int) (L:List (InsD × Value)) (w:World) (n:NodeD) (i:Nat) (sl:List Int) (kA iA:Option Addr) (kc ic:Nat) (h:WrSt w0 w S sA sl.length sc gW e0 L) (hS:ProgV w0 S) (hfl:S.p.funcs.length≤1000) (hsl:SlAt w0 sA 1 intS sl) (hi:i<sl.length) (hk7:n.kind=7) (hK:KeysV w0 (.slice kA n.keys.length kc) n.keys) (hkl:n.keys.length≤10000) :
  Calls prog 66 #[.pointer (some ⟨gW,0,none⟩),.agg (nodeC n kA kc iA ic),.int .i64 i] w fun e w'=>∃ R b,e=.returned (.tuple #[.agg R,.bool b])∧LastQ w0.heap.size w' (lastF S.p sl n i) R b∧Below w.heap.size w w':=by
 rw [last_G];obtain ⟨P,hP⟩:∃ P:Ending→World→Prop,(fun e w'=>∃ R b,e=.returned (.tuple #[.agg R,.bool b])∧LastQ w0.heap.size w' (lastG n.kind n.int n.text n.keys n.kids.length (sl.getD i 0) (callI S.p n)) R b∧Below w.heap.size w w')=P:=⟨_,rfl⟩
 rw [hP];have HP:Hid (∀ R b w',LastQ w0.heap.size w' (lastG n.kind n.int n.text n.keys n.kids.length (sl.getD i 0) (callI S.p n)) R b→Below w.heap.size w w'→P (.returned (.tuple #[.agg R,.bool b])) w'):=hZz (fun R b w' h1 h2=>by rw [← hP];exact ⟨R,b,rfl,h1,h2⟩);obtain ⟨i1,hj,hy0,hy1,hy2⟩:=info_parts Tryz.infoStrS;have hkk:∃ A cap,Value.slice kA n.keys.length kc=.slice A n.keys.length cap∧n.keys.length≤cap∧SlAt w0 A 1 strCs n.keys:=hK
 obtain ⟨_,_,hke,_,hks0⟩:=hkk;injection hke with e1 e2 e3
 subst e1;clear e2 e3;have HKS:Hid (∀ wx,Below w.heap.size w wx→SlAt wx kA 1 strCs n.keys):=hZz (fun wx hb=>hks0.below (zaaZ hb h.bl h.bl.size));clear hks0;have hsz0:=h.bl.size;obtain ⟨B,off,rfl,_⟩:=hsl.ptr hi
 have HS:Hid (∀ wx,Below w.heap.size w wx→wx.cell? ⟨B,off+i,none⟩=some (.int .i64 (sl.getD i 0))):=hZz (fun wx hb=>by
  have hcell:=(hsl.below (zaaZ hb h.bl h.bl.size)).cell0 hi (v:=.int .i64 (sl[i])) rfl;rw [zaiZ hi];simpa using hcell)
 obtain ⟨⟨iv,h1,_⟩,_,_,_⟩:=h;have HW:=hZz h1;have hiI:(i:Int)<(sl.length:Int):=by omega
 have hi0:(0:Int)≤(i:Int):=by omega
 unfold nodeC;obtain ⟨m,hme⟩:∃ m,n.kids.length=m:=⟨_,rfl⟩
 rw [hme] at HP ⊢;generalize callI S.p n=x at HP;generalize sl.getD i 0=sv at HS HP;obtain ⟨N,hN⟩:∃ N,sl.length=N:=⟨_,rfl⟩
 rw [hN] at HW hi hiI;obtain ⟨ks,hks⟩:∃ ks,n.keys=ks:=⟨_,rfl⟩
 rw [hks] at HP HKS hkl ⊢;obtain ⟨q,hq⟩:∃ q,ks.length=q:=⟨_,rfl⟩
 rw [hq] at hkl ⊢;rw [hk7] at HP ⊢;generalize n.text=nt at HP ⊢;generalize n.int=ni at HP ⊢;obtain ⟨g,hg⟩:∃ g,w.heap.size=g:=⟨_,rfl⟩
 obtain ⟨W1,hW1⟩:∃ W,w.alloc (.cells #[.int .i64 7,.string nt,.int .i64 ni,.slice kA q kc,.slice iA m ic] 58)=W:=⟨_,rfl⟩
 obtain ⟨g2,hg2⟩:∃ g,W1.heap.size=g:=⟨_,rfl⟩
 obtain ⟨W2,hW2⟩:∃ W,W1.alloc (.cells #[.int .i64 0,.int .i64 0,.string ⟨#[]⟩,.slice none 0 0] 53)=W:=⟨_,rfl⟩
 have hx1:Blk W1 g 58 #[.int .i64 7,.string nt,.int .i64 ni,.slice kA q kc,.slice iA m ic]:=by rw [← hW1,← hg];exact Blk.new _ _ _
 have HX1:Hid (Blk W2 g 58 #[.int .i64 7,.string nt,.int .i64 ni,.slice kA q kc,.slice iA m ic]):=hZz (by rw [← hW2];exact hx1.alloc _);have HY1:Hid (Blk W2 g2 53 #[.int .i64 0,.int .i64 0,.string ⟨#[]⟩,.slice none 0 0]):=hZz (by rw [← hW2,← hg2];exact Blk.new _ _ _);have hb2:Below w.heap.size w W2:=by rw [← hW2,← hW1];exact zauY _ _ _
 have HB1:=hZz hb2;have s2:W2.cell? ⟨B,off+i,none⟩=some (.int .i64 sv):=HS.out _ hb2;have ww:=blkW (HW.out.below hb2);have hle:w.heap.size≤g2:=by rw [← hg2,← hW1];simp
 have HLE:=hZz hle;have HW1:=hZz hW1;have HW2:=hZz hW2;have HG:=hZz hg;have HG2:Hid (g+1=g2):=hZz (by rw [← hg2,← hW1,← hg];simp);clear hP h1 hk7 hK hme hN hks hg hW1 hW2 hg2 hx1 hle hb2 hsl HS;go_enter func66,ntmps66
 go_upto_region 1 with fail
 rw [HG.out,HW1.out]
 try rw [HG2.out]
 rw [HW2.out];clear HG HW1 HW2 HG2;have x1:=blk5n HX1.out;have z3:=(fun i=>HY1.out.frozen i:∀ i,W2.frozen? ⟨g2,i,none⟩=false)
 have x1':W2.cell? ⟨g,3,none⟩=some (.slice kA q kc):=x1.2.2.2.1;obtain ⟨WA,hWA⟩:∃ WA,W2.drew.alloc (.cells #[] 9)=WA:=⟨_,rfl⟩
 have hbA:Below W2.heap.size W2 WA:=by rw [← hWA];exact (Below.refl _ _).drew.alloc (Nat.le_refl _) _
 have HBA:Hid (Below w.heap.size w WA):=hZz (zaaZ hbA HB1.out HB1.out.size)
 have HOA:Hid (WA.ownsRow w0.heap.size 9 1 (.slice (some ⟨W2.heap.size,0,none⟩) 0 0) 0 []):=hZz (by
  rw [← hWA]
  have:=World.ownsRow_lit (base:=w0.heap.size) (size:=1) (e:=9) W2.drew #[] 0 (by have:=HB1.out.size;show w0.heap.size≤W2.heap.size;omega) (by decide) rfl
  exact this)
 have HYA:Hid (Blk WA g2 53 #[.int .i64 0,.int .i64 0,.string ⟨#[]⟩,.slice none 0 0]):=hZz (HY1.out.below hbA);have HXA:Hid (Blk WA g 58 #[.int .i64 7,.string nt,.int .i64 ni,.slice kA q kc,.slice iA m ic]):=hZz (HX1.out.below hbA);have HWA:=hZz hWA;clear hWA hbA;have xa:=blk5n HXA.out;obtain ⟨ya0,ya1,ya2,ya3⟩:=blk4n HYA.out;have za:=(fun i=>HYA.out.frozen i:∀ i,WA.frozen? ⟨g2,i,none⟩=false)
 have HAL:=hZz (HWA.out);go_upto_region 15 with fail
 by_cases q0:q=0
 ·subst q0
  have hks0:ks=[]:=List.length_eq_zero_iff.1 hq;have hwa:=HWA.out
  go_region_law (first
   | (rw [if_pos (by rfl)];refine zazY (.tmp 49) (.tmp 51) 40 rfl 9 i1 1 underlying40 hj hy1 _ _ 0 0 _ rfl rfl (Nat.le_refl _) ?_))
  all_goals
   clear hwa;obtain ⟨W4,hW4⟩:∃ W,(((WA.setCell ⟨g2,0,none⟩ (.int .i64 12)).setCell ⟨g2,1,none⟩ (.int .i64 m)).setCell ⟨g2,2,none⟩ (.string ⟨#[]⟩)).setCell ⟨g2,3,none⟩ (.slice (some ⟨W2.heap.size,0,none⟩) 0 0)=W:=⟨_,rfl⟩
   have HY4:Hid (Blk W4 g2 53 #[.int .i64 12,.int .i64 m,.string ⟨#[]⟩,.slice (some ⟨W2.heap.size,0,none⟩) 0 0]):=hZz (by rw [← hW4];exact (((HYA.out.set_ 0 _).set_ 1 _).set_ 2 _).set_ 3 _);have HB4:Hid (Below w.heap.size w W4):=hZz (by rw [← hW4];exact (((HBA.out.setCell (p:=⟨g2,0,none⟩) HLE.out _).setCell (p:=⟨g2,1,none⟩) HLE.out _).setCell (p:=⟨g2,2,none⟩) HLE.out _).setCell (p:=⟨g2,3,none⟩) HLE.out _)
   have HO4:Hid (W4.ownsRow w0.heap.size 9 1 (.slice (some ⟨W2.heap.size,0,none⟩) 0 0) 0 []):=hZz (by
    rw [← hW4];have hne:=fun (W:World) (hW:W.ownsRow w0.heap.size 9 1 (.slice (some ⟨W2.heap.size,0,none⟩) 0 0) 0 []) (hB:∃ cs,Blk W g2 53 cs) (j:Nat) (u:Value)=>zaxY hW hB.choose_spec (by decide) j u
    exact hne _ (hne _ (hne _ (hne _ HOA.out ⟨_,HYA.out⟩ 0 _) ⟨_,HYA.out.set_ 0 _⟩ 1 _) ⟨_,(HYA.out.set_ 0 _).set_ 1 _⟩ 2 _) ⟨_,((HYA.out.set_ 0 _).set_ 1 _).set_ 2 _⟩ 3 _)
   have HW4:=hZz hW4;clear hW4;go_wp2_with (fail)
   try rw [HW4.out]
   clear ya0 ya1 ya2 ya3;obtain ⟨y0,y1,y2,y3⟩:=blk4n HY4.out;refine bodyPost_ret (by simp [results,Tryz.results66,y0,y1,y2,y3,go_sem];try rfl) rfl ?_
   exact HP.out _ _ _ (.inl ⟨_,.slice (some ⟨W2.heap.size,0,none⟩) 0 0,rfl,rfl,rfl,by unfold OKeys;rw [hks0];exact HO4.out⟩) HB4.out
 ·have hq0:0<q:=by omega
  obtain ⟨kb,ko,rfl,_⟩:=(HKS.out w (Below.refl _ _)).ptr (n:=0) (by omega)
  have HNW:Hid (∀ j u,(ks.map Value.string)[j]? = some u→WA.cell? ((⟨kb,ko,none⟩:Addr).add j)=some u):=hZz (fun j u hj=>by
   rw [List.getElem?_map] at hj;cases hl:ks[j]? with
   | none=>rw [hl] at hj;cases hj
   | some k =>
    rw [hl] at hj;injection hj with hj
    subst hj;obtain ⟨hjl,hje⟩:=List.getElem?_eq_some_iff.1 hl
    have:=(HKS.out WA HBA.out).cell0 hjl (v:=.string ks[j]) rfl
    rw [hje] at this;rw [za6Y];simpa using this)
  have HLQ:Hid ((ks.map Value.string).length=q * 1):=hZz (by rw [List.length_map,hq];omega)
  have HON:Hid (∀ u∈ks.map Value.string,u.oneCell'=true):=hZz (fun u hu=>by
   obtain ⟨k,_,rfl⟩:=List.mem_map.1 hu;rfl)
  have HSZ:Hid (w0.heap.size≤WA.heap.size):=hZz (by have:=HBA.out.size;omega);have hwa:=HWA.out
  go_region_law (first
   | (rw [if_pos (by rfl)];refine wp_append_lies _ (.tmp 49) (.tmp 51) 40 rfl w0.heap.size 9 i1 _ 1 16 underlying40 hj hy0 hy1 hy2 rfl ?k1 _ 0 _ rfl HOA.out ⟨kb,ko,none⟩ q kc (ks.map Value.string) rfl HLQ.out HNW.out HON.out ?k3 ?k4 ?k5 HSZ.out _ rfl ?_;(case k1=>decide);(case k3=>exact hq0);(case k4=>(unfold maxLen;omega));(case k5=>omega);intro g6 cap6 w6 hown6 hgr6 hat6 hlt6;have HY6:=hZz (HYA.out.grown hgr6 (zafZ HOA.out HYA.out (by decide)));have HX6:=hZz (HXA.out.grown hgr6 (zafZ HOA.out HXA.out (by decide)));have x6:=blk5n HX6.out;have y6:=blk4n HY6.out;have z6:=(fun i=>HY6.out.frozen i:∀ i,w6.frozen? ⟨g2,i,none⟩=false);have HO6:=hZz hown6;have HG6:Hid (WA.grownBy w6 (some W2.heap.size)):=hZz hgr6;clear hown6 hgr6 hat6))
  all_goals
   clear hwa;have HB6:Hid (Below w.heap.size w w6):=hZz (HBA.out.grown HG6.out HBA.out.size (fun b hb=>Nat.le_trans HB1.out.size (Nat.le_of_eq (Option.some.inj hb))));obtain ⟨W4,hW4⟩:∃ W,(((w6.setCell ⟨g2,0,none⟩ (.int .i64 12)).setCell ⟨g2,1,none⟩ (.int .i64 m)).setCell ⟨g2,2,none⟩ (.string ⟨#[]⟩)).setCell ⟨g2,3,none⟩ (.slice (some ⟨g6,0,none⟩) (0+q) cap6)=W:=⟨_,rfl⟩
   have HY4:Hid (Blk W4 g2 53 #[.int .i64 12,.int .i64 m,.string ⟨#[]⟩,.slice (some ⟨g6,0,none⟩) (0+q) cap6]):=hZz (by rw [← hW4];exact (((HY6.out.set_ 0 _).set_ 1 _).set_ 2 _).set_ 3 _);have HB4:Hid (Below w.heap.size w W4):=hZz (by rw [← hW4];exact (((HB6.out.setCell (p:=⟨g2,0,none⟩) HLE.out _).setCell (p:=⟨g2,1,none⟩) HLE.out _).setCell (p:=⟨g2,2,none⟩) HLE.out _).setCell (p:=⟨g2,3,none⟩) HLE.out _)
   have HO4:Hid (W4.ownsRow w0.heap.size 9 1 (.slice (some ⟨g6,0,none⟩) (0+q) cap6) ks.length (ks.map Value.string)):=hZz (by
    rw [← hW4];have hne:=fun (W:World) (hW:W.ownsRow w0.heap.size 9 1 (.slice (some ⟨g6,0,none⟩) (0+q) cap6) (0+q) ([] ++ ks.map Value.string)) (hB:∃ cs,Blk W g2 53 cs) (j:Nat) (u:Value)=>zaxY hW hB.choose_spec (by decide) j u
    have h9:=hne _ (hne _ (hne _ (hne _ HO6.out ⟨_,HY6.out⟩ 0 (.int .i64 12)) ⟨_,HY6.out.set_ 0 _⟩ 1 (.int .i64 m)) ⟨_,(HY6.out.set_ 0 _).set_ 1 _⟩ 2 (.string ⟨#[]⟩)) ⟨_,((HY6.out.set_ 0 _).set_ 1 _).set_ 2 _⟩ 3 (.slice (some ⟨g6,0,none⟩) (0+q) cap6);rw [hq];have h10:0+q=q:=by omega
    simp only [h10,List.nil_append] at h9 ⊢;exact h9)
   have HW4:=hZz hW4;clear hW4;have h10:0+q=q:=by omega
   rw [h10] at HW4 HY4 HO4;go_wp2_with (fail)
   try rw [HW4.out]
   clear y6 ya0 ya1 ya2 ya3;obtain ⟨y0,y1,y2,y3⟩:=blk4n HY4.out;refine bodyPost_ret (by simp [results,Tryz.results66,y0,y1,y2,y3,go_sem];try rfl) rfl ?_
   exact HP.out _ _ _ (.inl ⟨_,.slice (some ⟨g6,0,none⟩) q cap6,rfl,rfl,rfl,HO4.out⟩) HB4.out
end
section
def Wrote (w0:World) (S:ProgS) (sA:Option Addr) (sn sc gW:Nat) (e0:Int) (L:List (InsD × Value)) (I:List InsD) (w w':World):Prop :=
 ∃ N:List (InsD × Value),N.map Prod.fst=I∧WrSt w0 w' S sA sn sc gW e0 (L ++ N)∧KW w0.heap.size gW w w'
def NodeH (w0:World) (S:ProgS) (sA:Option Addr) (sc gW:Nat) (e0:Int) (sl:List Int) (f:Nat):Prop:=∀ i s L w,firstF S.p.nodes f i=some s→i<S.p.nodes.length→WrSt w0 w S sA sl.length sc gW e0 L→L.length+6 * (i+1 - s)≤90000 →
 Calls prog 41 #[.pointer (some ⟨gW,0,none⟩),.int .i64 i] w fun e w'=>e=.returned (.tuple #[])∧Wrote w0 S sA sl.length sc gW e0 L (segF S.p sl f i (e0+L.length)) w w'
def nodeFn (gW:Nat):Value:=.func (.func 41) #[.pointer (some ⟨gW,0,none⟩)] #[]
attribute [local go_sem] zabZ
theorem all_s (w0:World) (S:ProgS) (sA:Option Addr) (sc gW:Nat) (e0:Int) (sl:List Int) (f:Nat) (hw:NodeH w0 S sA sc gW e0 sl f) (hN:S.p.nodes.length≤10000) (l:List Int) (iA:Option Addr) (ic s e:Nat) (L:List (InsD × Value)) (w:World)
  (hc:Cover S.p.nodes f l s e) (he:e≤S.p.nodes.length) (hl:l.length≤10000) (hi:IntsV w0 (.slice iA l.length ic) l) (h:WrSt w0 w S sA sl.length sc gW e0 L) (hL:L.length+6 * (e - s)≤90000) :
  Calls prog 65 #[.slice iA l.length ic,nodeFn gW] w fun r w'=>r=.returned (.tuple #[])∧Wrote w0 S sA sl.length sc gW e0 L (seqF (segF S.p sl f) l (e0+L.length)) w w':=by
 obtain ⟨R,hR⟩:∃ R,seqF (segF S.p sl f) l (e0+L.length)=R:=⟨_,rfl⟩
 rw [hR];obtain ⟨P,hP⟩:∃ P:Ending→World→Prop,(fun r w'=>r=.returned (.tuple #[])∧Wrote w0 S sA sl.length sc gW e0 L R w w')=P:=⟨_,rfl⟩
 rw [hP];have HP:Hid (∀ w',Wrote w0 S sA sl.length sc gW e0 L R w w'→P (.returned (.tuple #[])) w'):=hZz (fun w' h1=>by rw [← hP];exact ⟨rfl,h1⟩);have HI:=hZz hi;have HW:=hZz hw;have HC:=hZz hc;have HE:=hZz he;have HR:=hZz hR;have HL:=hZz hL;have HH:=hZz h;obtain ⟨m,hme⟩:∃ m,l.length=m:=⟨_,rfl⟩
 have HM:=hZz hme;rw [hme] at hl HI ⊢;unfold nodeFn;have hent:∀ args w,(callFunc 41 args).run prog w=.ok (.enter 41 args) w:=enters_of func41 (by kernel_rfl) rfl
 clear hP hR hi hw hc he hL h hme;go_enter func65,ntmps65
 go_wp2_with (fail)
 go_loopw [5,8,11,12,13,14] (fun _ kv _ _ _ _ wr=>∃ (j:Nat) (N:List (InsD × Value)) (sj:Nat),j≤m∧kv=.int .i64 j∧Hid (Cover S.p.nodes f (l.drop j) sj e)∧Hid (N.map Prod.fst ++ seqF (segF S.p sl f) (l.drop j) (e0+(L ++ N).length)=R)∧Hid (WrSt w0 wr S sA sl.length sc gW e0 (L ++ N))∧Hid (KW w0.heap.size gW w wr)∧Hid ((L ++ N).length+6 * (e - sj)≤90000)) (fun _ kv _ _ _ _ _=>m - (intOf kv).toNat)
 case atStart=>exact ⟨0,[],s,Nat.zero_le _,rfl,HC,hZz (by rw [List.append_nil];exact HR.out),hZz (by rw [List.append_nil];exact HH.out),hZz (KW.refl _ _ _),hZz (by rw [List.append_nil];exact HL.out)⟩
 case round =>
  obtain ⟨j,N,sj,hj,rfl,HCj,HEj,HSj,HKj,HLj⟩:=hrel;have hj0:(0:Int)≤(j:Int):=by omega
  by_cases hlt:j<m
  ·have hlt':(j:Int)<(m:Int):=by omega
   have hkl:j<l.length:=by rw [HM.out];exact hlt
   obtain ⟨bI,offI,rfl,hbI,ck⟩:=HI.out.cell hkl
   replace ck:=(HSj.out.bl.cell hbI).trans ck
   have hcv:=HCj.out;have hfl:=HEj.out;rw [List.drop_eq_getElem_cons hkl] at hcv hfl;obtain ⟨x,hx⟩:∃ x,l[j]=x:=⟨_,rfl⟩
   rw [hx] at hcv hfl ck;cases hcv with
   | cons _ _ mk _ hf1 hc2 =>
    simp only [seqF,Int.toNat_natCast] at hfl;have q1:=zaaY hf1;have q2:=hc2.le';have hmN:mk<S.p.nodes.length:=by have:=HE.out;omega
    have q3:=zaqY S.p sl f mk sj (e0+(L ++ N).length) hf1;have HCW:=hZz (HW.out mk sj (L ++ N) wr hf1 hmN HSj.out (by have:=HLj.out;omega));have HX:=hZz hfl;have HC2:=hZz hc2;have HQ3:=hZz q3;clear hfl hx hf1 hc2 hbI hmN q3
    go_wp2_with (first
     | (go_at_fn 41;(with_reducible refine HCW.out.mono ?_);rintro r2 w2 ⟨rfl,hw2⟩;obtain ⟨N2,hn2,hs2,hk2⟩:=hw2;have HN2:=hZz hn2;have HS2:=hZz hs2;have HK2:=hZz (HKj.out.trans hk2);clear hn2 hs2 hk2))
    have hl2:=congrArg List.length HN2.out;rw [List.length_map] at hl2;have hq3:=HQ3.out;have hlj:=HLj.out;refine ⟨⟨j+1,N ++ N2,mk+1,by omega,by simp,HC2,hZz ?_,hZz (by rw [← List.append_assoc];exact HS2.out),HK2,hZz (by rw [← List.append_assoc,List.length_append];omega)⟩,by simp [intOf];omega⟩
    rw [← HX.out,List.map_append,HN2.out,← List.append_assoc,List.append_assoc];congr 2
    have e8:(L ++ (N ++ N2)).length=(L ++ N).length+N2.length:=by rw [← List.append_assoc,List.length_append]
    have e7:(L ++ N ++ N2).length=(L ++ N).length+N2.length:=List.length_append;have e6:e0+(((L ++ N).length+N2.length:Nat):Int)=e0+((L ++ N).length:Int)+(N2.length:Int):=by omega
    rw [← hl2,← e6,← e7]
  ·have e9:m=j:=by omega
   subst e9;have hfin:=HEj.out;rw [← HM.out,List.drop_length] at hfin;simp only [seqF,List.append_nil] at hfin;have HF:=hZz hfin;clear hfin;go_wp2_with (fail)
   first | go_end0 | skip
   exact HP.out _ ⟨N,HF.out,HSj.out,HKj.out⟩
end
theorem set_mid {α:Type} (A B:List α) (x y:α):(A ++ x :: B).set A.length y=A ++ y :: B:=by
 induction A with
 | nil=>rfl
 | cons a r ih =>
  show a :: ((r ++ x :: B).set r.length y)=_;rw [ih];rfl
theorem get_mid {α:Type} (A B:List α) (x:α) (h:A.length<(A ++ x :: B).length):(A ++ x :: B)[A.length]=x:=by
 simp
theorem endAt_s (w0:World) (S:ProgS) (sA:Option Addr) (sn sc gW:Nat) (e0:Int) (A B:List (InsD × Value)) (op:Int) (w:World) (gb ga:Nat) (h:WrSt w0 w S sA sn sc gW e0 (A ++ (insO op 0,nilK) :: B)) (hL:A.length+B.length≤99000) (he:0≤e0∧e0≤4000) (hF:FwdAt w gW gb ga A.length) :
  Calls prog 147 #[.pointer (some ⟨gb,0,none⟩),.pointer (some ⟨ga,0,none⟩)] w fun e w'=>e=.returned (.tuple #[])∧WrSt w0 w' S sA sn sc gW e0 (A ++ (insO op (e0+((A.length+B.length+1:Nat):Int)),nilK) :: B)∧KW w0.heap.size gW w w':=by
 have hlen:(A ++ (insO op 0,nilK) :: B).length=A.length+B.length+1:=by rw [List.length_append,List.length_cons];omega
 have hk:A.length<(A ++ (insO op 0,nilK) :: B).length:=by omega
 have:=end_s w0 S sA sn sc gW e0 (A ++ (insO op 0,nilK) :: B) w gb ga A.length h (by omega) he hF hk
 rw [get_mid,set_mid,hlen] at this;exact this
theorem Wrote.st {w0:World} {S:ProgS} {sA:Option Addr} {sn sc gW:Nat} {e0:Int} {L:List (InsD × Value)} {I:List InsD} {w w':World} (h:Wrote w0 S sA sn sc gW e0 L I w w'):∃ N:List (InsD × Value),N.map Prod.fst=I∧N.length=I.length∧WrSt w0 w' S sA sn sc gW e0 (L ++ N)∧KW w0.heap.size gW w w':=by
 obtain ⟨N,h1,h2,h3⟩:=h;exact ⟨N,h1,by rw [← h1,List.length_map],h2,h3⟩
def ctlF (rec:Nat→Int→List InsD) (k:Int) (l:List Int) (b:Int):List InsD :=
 let s0:=rec (l.getD 0 0).toNat b
 let b1:=b+s0.length+1
 let s1:=rec (l.getD 1 0).toNat b1
 let b2:=b1+s1.length
 if k=16 then s0 ++ [insO 14 (b2+1)] ++ s1 ++ [insO 13 b]
 else if 2<l.length then
  let s2:=rec (l.getD 2 0).toNat (b2+1)
  s0 ++ [insO 14 (b2+1)] ++ s1 ++ [insO 13 (b2+1+s2.length)] ++ s2
 else s0 ++ [insO 14 b2] ++ s1
def shoF (rec:Nat→Int→List InsD) (o:Bool) (l:List Int) (b:Int):List InsD :=
 let s0:=rec (l.getD 0 0).toNat b
 let m:=[insO 15 0,insO 16 0] ++ (if o then [insT 8 notS] else [])
 let b1:=b+s0.length+m.length+2
 let s1:=rec (l.getD 1 0).toNat b1
 s0 ++ m ++ [insO 14 (b1+s1.length+1),insO 7 0] ++ s1 ++ [insO 15 0]
theorem seg_ctl (p:ProgD) (sl:List Int) (f i:Nat) (b:Int) (h:(p.at_ i).kind=15∨(p.at_ i).kind=16):segF p sl (f+1) i b=ctlF (segF p sl f) (p.at_ i).kind (p.at_ i).kids b:=by
 simp only [segF];rw [if_pos h];rfl
theorem seg_sho (p:ProgD) (sl:List Int) (f i:Nat) (b:Int) (h:(p.at_ i).kind=9) (h2:(isAnd (p.at_ i) || isOr (p.at_ i))=true):segF p sl (f+1) i b=shoF (segF p sl f) (isOr (p.at_ i)) (p.at_ i).kids b:=by
 simp only [segF];rw [if_neg (by omega),if_pos h,if_pos h2];rfl
theorem seg_bin (p:ProgD) (sl:List Int) (f i:Nat) (b:Int) (h:(p.at_ i).kind=9) (h2:(isAnd (p.at_ i) || isOr (p.at_ i))=false):segF p sl (f+1) i b=seqF (segF p sl f) (p.at_ i).kids b ++ [insT 9 (p.at_ i).text]:=by
 simp only [segF];rw [if_neg (by omega),if_pos h,if_neg (by rw [h2];decide)]
def optL:Option InsD→List InsD
 | some x=>[x]
 | none=>[]
theorem seg_oth (p:ProgD) (sl:List Int) (f i:Nat) (b:Int) (h:¬ ((p.at_ i).kind=15∨(p.at_ i).kind=16)) (h2:(p.at_ i).kind≠9):segF p sl (f+1) i b=seqF (segF p sl f) (p.at_ i).kids b ++ optL (lastF p sl (p.at_ i) i):=by
 simp only [segF];rw [if_neg h,if_neg h2];unfold optL;rfl
section
theorem Cover.two' {l:List NodeD} {f:Nat} {a b:Int} {s e:Nat} (h:Cover l f [a,b] s e):∃ m k:Nat,a=m∧b=k∧e=k+1∧m+1≤k∧firstF l f m=some s∧firstF l f k=some (m+1):=by
 obtain ⟨m,h1,h2,h3,h4,h5,h6⟩:=h.two
 have:=zaaY h6
 exact ⟨m,e - 1,h1,by omega,by omega,by omega,h5,h6⟩
theorem Cover.three' {l:List NodeD} {f:Nat} {a b c:Int} {s e:Nat} (h:Cover l f [a,b,c] s e):∃ m k j:Nat,a=m∧b=k∧c=j∧e=j+1∧m+1≤k∧k+1≤j∧firstF l f m=some s∧firstF l f k=some (m+1)∧firstF l f j=some (k+1):=by
 obtain ⟨m,k,h1,h2,h3,h4,h5,h6,h7,h8,h9⟩:=h.three
 have:=zaaY h9
 have:=zaaY h8
 exact ⟨m,k,e - 1,h1,h2,by omega,by omega,by omega,by omega,h7,h8,h9⟩
theorem IntsV.cells2 {w:World} {A:Option Addr} {n cap:Nat} {a b:Int} (h:IntsV w (.slice A n cap) [a,b]):∃ B off,A=some ⟨B,off,none⟩∧B<w.heap.size∧w.cell? ⟨B,off,none⟩=some (.int .i64 a)∧w.cell? ⟨B,off+1,none⟩=some (.int .i64 b):=by
 obtain ⟨B,off,rfl,hb,c0⟩:=h.cell (i:=0) (by simp);obtain ⟨B',off',e,_,c1⟩:=h.cell (i:=1) (by simp);injection e with e
 injection e with e1 e2
 subst e1 e2;exact ⟨B,off,rfl,hb,c0,c1⟩
theorem IntsV.cells3 {w:World} {A:Option Addr} {n cap:Nat} {a b c:Int} (h:IntsV w (.slice A n cap) [a,b,c]):∃ B off,A=some ⟨B,off,none⟩∧B<w.heap.size∧w.cell? ⟨B,off,none⟩=some (.int .i64 a)∧w.cell? ⟨B,off+1,none⟩=some (.int .i64 b)∧w.cell? ⟨B,off+2,none⟩=some (.int .i64 c):=by
 obtain ⟨B,off,rfl,hb,c0⟩:=h.cell (i:=0) (by simp);obtain ⟨B',off',e,_,c1⟩:=h.cell (i:=1) (by simp);injection e with e
 injection e with e1 e2
 subst e1 e2;obtain ⟨B',off',e,_,c2⟩:=h.cell (i:=2) (by simp);injection e with e
 injection e with e1 e2
 subst e1 e2;exact ⟨B,off,rfl,hb,c0,c1,c2⟩
theorem addP_s (w0:World) (S:ProgS) (sA:Option Addr) (sn sc gW:Nat) (e0:Int) (L:List (InsD × Value)) (w:World) (op a:Int) (s:ByteArray) (h:WrSt w0 w S sA sn sc gW e0 L) (hL:L.length≤100000) :
  Calls prog 42 #[.pointer (some ⟨gW,0,none⟩),.slice (some ⟨w.heap.size,0,none⟩) 1 1] (w.alloc (.cells #[.int .i64 op,.int .i64 a,.string s,.slice none 0 0] 53)) fun e w'=>e=.returned (.tuple #[])∧WrSt w0 w' S sA sn sc gW e0 (L ++ [(⟨op,a,s,[]⟩,nilK)])∧KW w0.heap.size gW w w' :=
 add1_s w0 S sA sn sc gW e0 L w op a s [] (.slice none 0 0) h hL (zbjY _ _ ⟨op,a,s,[]⟩ rfl) rfl
attribute [local go_sem] zabZ
set_option maxHeartbeats 16000000 in
theorem ctl16_s (w0:World) (S:ProgS) (sA:Option Addr) (sc gW:Nat) (e0:Int) (sl:List Int) (f:Nat) (hw:NodeH w0 S sA sc gW e0 sl f) (n:NodeD) (kA iA:Option Addr) (kc ic s i:Nat) (L:List (InsD × Value)) (w:World) (a b:Int)
  (hk:n.kind=16) (hks:n.kids=[a,b]) (hc:Cover S.p.nodes f n.kids s i) (hil:i≤S.p.nodes.length) (hi:IntsV w0 (.slice iA n.kids.length ic) n.kids) (h:WrSt w0 w S sA sl.length sc gW e0 L) (hL:L.length+6 * (i+1 - s)≤90000) (he:0≤e0∧e0≤4000) :
  Calls prog 63 #[.pointer (some ⟨gW,0,none⟩),.agg (nodeC n kA kc iA ic)] w fun r w'=>r=.returned (.tuple #[])∧Wrote w0 S sA sl.length sc gW e0 L (ctlF (segF S.p sl f) n.kind n.kids (e0+L.length)) w w':=by
 obtain ⟨R,hR⟩:∃ R,ctlF (segF S.p sl f) n.kind n.kids (e0+L.length)=R:=⟨_,rfl⟩
 rw [hR];obtain ⟨P,hP⟩:∃ P:Ending→World→Prop,(fun r w'=>r=.returned (.tuple #[])∧Wrote w0 S sA sl.length sc gW e0 L R w w')=P:=⟨_,rfl⟩
 rw [hP];have HP:Hid (∀ w',Wrote w0 S sA sl.length sc gW e0 L R w w'→P (.returned (.tuple #[])) w'):=hZz (fun w' h1=>by rw [← hP];exact ⟨rfl,h1⟩);unfold nodeC;rw [hks] at hc hi hR ⊢;rw [hk] at hR ⊢;obtain ⟨m,k,rfl,rfl,hik,hmk,f0,f1⟩:=hc.two';obtain ⟨bI,offI,rfl,hbI,ck0,ck1⟩:=hi.cells2;have HKC:Hid (∀ wx,Below w0.heap.size w0 wx→wx.cell? ⟨bI,offI,none⟩=some (.int .i64 m)∧wx.cell? ⟨bI,offI+1,none⟩=some (.int .i64 k)):=hZz (fun wx hb=>⟨(hb.cell hbI).trans ck0,(hb.cell hbI).trans ck1⟩);have g0:=zaaY f0;have hl0:=fun b=>zaqY S.p sl f m s b f0
 have hl1:=fun b=>zaqY S.p sl f k (m+1) b f1
 have HF0:=hZz f0;have HF1:=hZz f1;have HL0:=hZz hl0;have HL1:=hZz hl1;have HR:=hZz hR;have HW:=hZz hw;have HE:=hZz he;have HB:Hid ((s≤m∧m+1≤k)∧k+1≤S.p.nodes.length∧L.length+6 * (k+2 - s)≤90000):=hZz (by omega);have HH:=hZz h;have hentN:∀ args w,(callFunc 147 args).run prog w=.ok (.enter 147 args) w:=enters_of func147 (by kernel_rfl) rfl
 generalize n.text=nt;generalize n.int=ni;generalize n.keys.length=q;show Calls _ _ #[_,.agg #[.int .i64 16,.string nt,.int .i64 ni,.slice kA q kc,.slice (some ⟨bI,offI,none⟩) 2 ic]] w P;obtain ⟨g,hg⟩:∃ g,w.heap.size=g:=⟨_,rfl⟩
 obtain ⟨W1,hW1⟩:∃ W,w.alloc (.cells #[.int .i64 16,.string nt,.int .i64 ni,.slice kA q kc,.slice (some ⟨bI,offI,none⟩) 2 ic] 58)=W:=⟨_,rfl⟩
 have hlt:gW<w.heap.size:=by obtain ⟨iv,q,_⟩:=h.wr;exact q.lt
 have HNE:Hid (g≠gW):=hZz (by omega);have HX1:Hid (Blk W1 g 58 #[.int .i64 16,.string nt,.int .i64 ni,.slice kA q kc,.slice (some ⟨bI,offI,none⟩) 2 ic]):=hZz (by rw [← hW1,← hg];exact Blk.new _ _ _);have HB1:Hid (Below w.heap.size w W1):=hZz (by rw [← hW1];exact zacZ _ _);have HS1:=hZz (h.below HB1.out);have HK1:=hZz (h.kw HB1.out);have HC1:=hZz (here_s w0 S sA sl.length sc gW e0 L W1 HS1.out he (by omega));have HG:=hZz hg;have HW1:=hZz hW1;clear hR hP hw he h hg hW1 hlt hc hi hk hks hil hL hik hbI ck0 ck1 f0 f1 g0 hl0 hl1 hmk;go_enter func63,ntmps63
 go_upto_region 1 with fail
 rw [HG.out,HW1.out];clear HG HW1
 go_upto_region 2 with (first
  | (go_at_call 27;(with_reducible refine HC1.out.mono ?_);rintro e w2 ⟨rfl,hq⟩;have HQ:=hZz hq;clear hq))
 have HB2:Hid (Below W1.heap.size W1 w2):=hZz (by obtain ⟨q,rfl⟩:=HQ.out;exact zaeZ (Below.refl _ _) _);have HS2:=hZz (HS1.out.below HB2.out);have HK2:=hZz (HK1.out.trans (HS1.out.kw HB2.out));have HX2:=hZz (HX1.out.below HB2.out);have x2:=blk5n HX2.out;have y2:=HKC.out _ HS2.out.bl;have HC2:=hZz (HW.out m s L w2 HF0.out (by have:=HB.out;omega) HS2.out (by have:=HB.out;omega))
 go_upto_region 3 with (first
  | (go_at_call 41;(with_reducible refine HC2.out.mono ?_);rintro e w3 ⟨rfl,hw3⟩;have HW3:=hZz hw3;clear hw3))
 obtain ⟨N0,n0,l0,s3,k3⟩:=HW3.out.st;have HN0:=hZz n0;have b0:=HL0.out (e0+L.length);rw [← l0] at b0;have HS3:=hZz s3;have HK3:=hZz (HK2.out.trans k3);have HX3:=hZz (k3.blk HX2.out HNE.out (by decide));have HL0':=hZz l0;have HB0:=hZz b0;clear n0 l0 s3 k3 b0 x2 y2;have HC3:=hZz (za7Y w0 S sA sl.length sc gW e0 (L ++ N0) w3 14 HS3.out (by have:=HB.out;have:=HB0.out;rw [List.length_append];omega))
 go_upto_region 4 with (first
  | (go_at_call 100;(with_reducible refine HC3.out.mono ?_);rintro e w4 ⟨gb,ga,rfl,hf4,hs4,hk4⟩;have HF4:=hZz hf4;have HS4:=hZz hs4;have HK4:=hZz (HK3.out.trans hk4);have HX4:=hZz (hk4.blk HX3.out HNE.out (by decide));clear hf4 hs4 hk4))
 have x4:=blk5n HX4.out;have y4:=HKC.out _ HS4.out.bl;have HC4:=hZz (HW.out k (m+1) (L ++ N0 ++ [(insO 14 0,nilK)]) w4 HF1.out (by have:=HB.out;omega) HS4.out (by have:=HB.out;have:=HB0.out;simp only [List.length_append,List.length_cons,List.length_nil];omega))
 go_upto_region 6 with (first
  | (go_at_call 41;(with_reducible refine HC4.out.mono ?_);rintro e w5 ⟨rfl,hw5⟩;have HW5:=hZz hw5;clear hw5))
 obtain ⟨N1,n1,l1,s5,k5⟩:=HW5.out.st;have HN1:=hZz n1;have b1:=HL1.out (e0+(L ++ N0 ++ [(insO 14 0,nilK)]).length);rw [← l1] at b1;have HS5:=hZz s5;have HK5:=hZz (HK4.out.trans k5);have HX5:=hZz (k5.blk HX4.out HNE.out (by decide));have HF5:=hZz (HF4.out.kw k5);have HL1':=hZz l1;have HB1':=hZz b1;clear n1 l1 s5 k5 b1 x4 y4;have x5:=blk5n HX5.out;have y5:=HKC.out _ HS5.out.bl;have HC5:=hZz (addP_s w0 S sA sl.length sc gW e0 (L ++ N0 ++ [(insO 14 0,nilK)] ++ N1) w5 13 (e0+L.length) ⟨#[]⟩ HS5.out (by have:=HB.out;have:=HB0.out;have:=HB1'.out;simp only [List.length_append,List.length_cons,List.length_nil];omega))
 go_upto_region 8 with (first
  | (go_at_call 42;(with_reducible refine HC5.out.mono ?_);rintro e w6 ⟨rfl,hs6,hk6⟩;have HS6:=hZz hs6;have HK6:=hZz (HK5.out.trans hk6);have HF6:=hZz (HF5.out.kw hk6);clear hs6 hk6))
 have e6:L ++ N0 ++ [(insO 14 0,nilK)] ++ N1 ++ [(⟨13,e0+L.length,⟨#[]⟩,[]⟩,nilK)]=(L ++ N0) ++ (insO 14 0,nilK) :: (N1 ++ [(insO 13 (e0+L.length),nilK)]):=by simp [insO]
 have HS7:Hid (WrSt w0 w6 S sA sl.length sc gW e0 ((L ++ N0) ++ (insO 14 0,nilK) :: (N1 ++ [(insO 13 (e0+L.length),nilK)]))):=hZz (by rw [← e6];exact HS6.out);clear e6 x5 y5;have HC6:=hZz (endAt_s w0 S sA sl.length sc gW e0 (L ++ N0) (N1 ++ [(insO 13 (e0+L.length),nilK)]) 14 w6 gb ga HS7.out (by have:=HB.out;have:=HB0.out;have:=HB1'.out;simp only [List.length_append,List.length_cons,List.length_nil];omega) HE.out HF6.out)
 go_wp2_with (first
  | (go_at_fn 147;(with_reducible refine HC6.out.mono ?_);rintro e w7 ⟨rfl,hs7,hk7⟩;have HS8:=hZz hs7;have HK8:=hZz (HK6.out.trans hk7);clear hs7 hk7))
 try go_end0
 refine HP.out _ ⟨N0 ++ (insO 14 _,nilK) :: (N1 ++ [(insO 13 (e0+L.length),nilK)]),?_,by rw [← List.append_assoc];exact HS8.out,HK8.out⟩
 rw [← HR.out];have q0:=HN0.out;have q1:=HN1.out;have q2:=HL0'.out;have q3:=HL1'.out;simp only [List.length_append,List.length_cons,List.length_nil] at q1 q3;simp only [ctlF,List.map_append,List.map_cons,List.map_nil,List.getD_cons_zero,List.getD_cons_succ,Int.toNat_natCast,if_pos];have e1:e0+((L.length+N0.length+(0+1):Nat):Int)=e0+(L.length:Int)+((segF S.p sl f m (e0+(L.length:Int))).length:Int)+1:=by rw [← q2];omega
 rw [e1] at q1 q3
 have e2:∀ x:InsD × Value,e0+(((L ++ N0).length+(N1 ++ [x]).length+1:Nat):Int)=e0+(L.length:Int)+((segF S.p sl f m (e0+(L.length:Int))).length:Int)+1+((segF S.p sl f k (e0+(L.length:Int)+((segF S.p sl f m (e0+(L.length:Int))).length:Int)+1)).length:Int)+1:=by
  intro x;rw [← q3,← q2,List.length_append,List.length_append,List.length_singleton];omega
 rw [q0,q1,e2];simp only [List.append_assoc,List.cons_append,List.nil_append,List.singleton_append]
set_option maxHeartbeats 16000000 in
theorem ctl2_s (w0:World) (S:ProgS) (sA:Option Addr) (sc gW:Nat) (e0:Int) (sl:List Int) (f:Nat) (hw:NodeH w0 S sA sc gW e0 sl f) (n:NodeD) (kA iA:Option Addr) (kc ic s i:Nat) (L:List (InsD × Value)) (w:World) (a b:Int)
  (hk:n.kind=15) (hks:n.kids=[a,b]) (hc:Cover S.p.nodes f n.kids s i) (hil:i≤S.p.nodes.length) (hi:IntsV w0 (.slice iA n.kids.length ic) n.kids) (h:WrSt w0 w S sA sl.length sc gW e0 L) (hL:L.length+6 * (i+1 - s)≤90000) (he:0≤e0∧e0≤4000) :
  Calls prog 63 #[.pointer (some ⟨gW,0,none⟩),.agg (nodeC n kA kc iA ic)] w fun r w'=>r=.returned (.tuple #[])∧Wrote w0 S sA sl.length sc gW e0 L (ctlF (segF S.p sl f) n.kind n.kids (e0+L.length)) w w':=by
 obtain ⟨R,hR⟩:∃ R,ctlF (segF S.p sl f) n.kind n.kids (e0+L.length)=R:=⟨_,rfl⟩
 rw [hR];obtain ⟨P,hP⟩:∃ P:Ending→World→Prop,(fun r w'=>r=.returned (.tuple #[])∧Wrote w0 S sA sl.length sc gW e0 L R w w')=P:=⟨_,rfl⟩
 rw [hP];have HP:Hid (∀ w',Wrote w0 S sA sl.length sc gW e0 L R w w'→P (.returned (.tuple #[])) w'):=hZz (fun w' h1=>by rw [← hP];exact ⟨rfl,h1⟩);unfold nodeC;rw [hks] at hc hi hR ⊢;rw [hk] at hR ⊢;obtain ⟨m,k,rfl,rfl,hik,hmk,f0,f1⟩:=hc.two';obtain ⟨bI,offI,rfl,hbI,ck0,ck1⟩:=hi.cells2;have HKC:Hid (∀ wx,Below w0.heap.size w0 wx→wx.cell? ⟨bI,offI,none⟩=some (.int .i64 m)∧wx.cell? ⟨bI,offI+1,none⟩=some (.int .i64 k)):=hZz (fun wx hb=>⟨(hb.cell hbI).trans ck0,(hb.cell hbI).trans ck1⟩);have g0:=zaaY f0;have hl0:=fun b=>zaqY S.p sl f m s b f0
 have hl1:=fun b=>zaqY S.p sl f k (m+1) b f1
 have HF0:=hZz f0;have HF1:=hZz f1;have HL0:=hZz hl0;have HL1:=hZz hl1;have HR:=hZz hR;have HW:=hZz hw;have HE:=hZz he;have HB:Hid ((s≤m∧m+1≤k)∧k+1≤S.p.nodes.length∧L.length+6 * (k+2 - s)≤90000):=hZz (by omega);have HH:=hZz h;have hentN:∀ args w,(callFunc 147 args).run prog w=.ok (.enter 147 args) w:=enters_of func147 (by kernel_rfl) rfl
 generalize n.text=nt;generalize n.int=ni;generalize n.keys.length=q;show Calls _ _ #[_,.agg #[.int .i64 15,.string nt,.int .i64 ni,.slice kA q kc,.slice (some ⟨bI,offI,none⟩) 2 ic]] w P;obtain ⟨g,hg⟩:∃ g,w.heap.size=g:=⟨_,rfl⟩
 obtain ⟨W1,hW1⟩:∃ W,w.alloc (.cells #[.int .i64 15,.string nt,.int .i64 ni,.slice kA q kc,.slice (some ⟨bI,offI,none⟩) 2 ic] 58)=W:=⟨_,rfl⟩
 have hlt:gW<w.heap.size:=by obtain ⟨iv,q,_⟩:=h.wr;exact q.lt
 have HNE:Hid (g≠gW):=hZz (by omega);have HX1:Hid (Blk W1 g 58 #[.int .i64 15,.string nt,.int .i64 ni,.slice kA q kc,.slice (some ⟨bI,offI,none⟩) 2 ic]):=hZz (by rw [← hW1,← hg];exact Blk.new _ _ _);have HB1:Hid (Below w.heap.size w W1):=hZz (by rw [← hW1];exact zacZ _ _);have HS1:=hZz (h.below HB1.out);have HK1:=hZz (h.kw HB1.out);have HC1:=hZz (here_s w0 S sA sl.length sc gW e0 L W1 HS1.out he (by omega));have HG:=hZz hg;have HW1:=hZz hW1;clear hR hP hw he h hg hW1 hlt hc hi hk hks hil hL hik hbI ck0 ck1 f0 f1 g0 hl0 hl1 hmk;go_enter func63,ntmps63
 go_upto_region 1 with fail
 rw [HG.out,HW1.out];clear HG HW1
 go_upto_region 2 with (first
  | (go_at_call 27;(with_reducible refine HC1.out.mono ?_);rintro e w2 ⟨rfl,hq⟩;have HQ:=hZz hq;clear hq))
 have HB2:Hid (Below W1.heap.size W1 w2):=hZz (by obtain ⟨q,rfl⟩:=HQ.out;exact zaeZ (Below.refl _ _) _);have HS2:=hZz (HS1.out.below HB2.out);have HK2:=hZz (HK1.out.trans (HS1.out.kw HB2.out));have HX2:=hZz (HX1.out.below HB2.out);have x2:=blk5n HX2.out;have y2:=HKC.out _ HS2.out.bl;have HC2:=hZz (HW.out m s L w2 HF0.out (by have:=HB.out;omega) HS2.out (by have:=HB.out;omega))
 go_upto_region 3 with (first
  | (go_at_call 41;(with_reducible refine HC2.out.mono ?_);rintro e w3 ⟨rfl,hw3⟩;have HW3:=hZz hw3;clear hw3))
 obtain ⟨N0,n0,l0,s3,k3⟩:=HW3.out.st;have HN0:=hZz n0;have b0:=HL0.out (e0+L.length);rw [← l0] at b0;have HS3:=hZz s3;have HK3:=hZz (HK2.out.trans k3);have HX3:=hZz (k3.blk HX2.out HNE.out (by decide));have HL0':=hZz l0;have HB0:=hZz b0;clear n0 l0 s3 k3 b0 x2 y2;have HC3:=hZz (za7Y w0 S sA sl.length sc gW e0 (L ++ N0) w3 14 HS3.out (by have:=HB.out;have:=HB0.out;rw [List.length_append];omega))
 go_upto_region 4 with (first
  | (go_at_call 100;(with_reducible refine HC3.out.mono ?_);rintro e w4 ⟨gb,ga,rfl,hf4,hs4,hk4⟩;have HF4:=hZz hf4;have HS4:=hZz hs4;have HK4:=hZz (HK3.out.trans hk4);have HX4:=hZz (hk4.blk HX3.out HNE.out (by decide));clear hf4 hs4 hk4))
 have x4:=blk5n HX4.out;have y4:=HKC.out _ HS4.out.bl;have HC4:=hZz (HW.out k (m+1) (L ++ N0 ++ [(insO 14 0,nilK)]) w4 HF1.out (by have:=HB.out;omega) HS4.out (by have:=HB.out;have:=HB0.out;simp only [List.length_append,List.length_cons,List.length_nil];omega))
 go_upto_region 6 with (first
  | (go_at_call 41;(with_reducible refine HC4.out.mono ?_);rintro e w5 ⟨rfl,hw5⟩;have HW5:=hZz hw5;clear hw5))
 obtain ⟨N1,n1,l1,s5,k5⟩:=HW5.out.st;have HN1:=hZz n1;have b1:=HL1.out (e0+(L ++ N0 ++ [(insO 14 0,nilK)]).length);rw [← l1] at b1;have HS5:=hZz s5;have HK5:=hZz (HK4.out.trans k5);have HX5:=hZz (k5.blk HX4.out HNE.out (by decide));have HF5:=hZz (HF4.out.kw k5);have HL1':=hZz l1;have HB1':=hZz b1;clear n1 l1 s5 k5 b1 x4 y4;have x5:=blk5n HX5.out;have y5:=HKC.out _ HS5.out.bl;have e6:L ++ N0 ++ [(insO 14 0,nilK)] ++ N1=(L ++ N0) ++ (insO 14 0,nilK) :: N1:=by simp
 have HS7:Hid (WrSt w0 w5 S sA sl.length sc gW e0 ((L ++ N0) ++ (insO 14 0,nilK) :: N1)):=hZz (by rw [← e6];exact HS5.out);clear e6 y5;have HC6:=hZz (endAt_s w0 S sA sl.length sc gW e0 (L ++ N0) N1 14 w5 gb ga HS7.out (by have:=HB.out;have:=HB0.out;have:=HB1'.out;simp only [List.length_append];omega) HE.out HF5.out)
 go_wp2_with (first
  | (go_at_fn 147;(with_reducible refine HC6.out.mono ?_);rintro e w7 ⟨rfl,hs7,hk7⟩;have HS8:=hZz hs7;have HK8:=hZz (HK5.out.trans hk7);clear hs7 hk7))
 try go_end0
 refine HP.out _ ⟨N0 ++ (insO 14 _,nilK) :: N1,?_,by rw [← List.append_assoc];exact HS8.out,HK8.out⟩
 rw [← HR.out];have q0:=HN0.out;have q1:=HN1.out;have q2:=HL0'.out;have q3:=HL1'.out;simp only [List.length_append,List.length_cons,List.length_nil] at q1 q3;have e1:e0+((L.length+N0.length+(0+1):Nat):Int)=e0+(L.length:Int)+((segF S.p sl f m (e0+(L.length:Int))).length:Int)+1:=by rw [← q2];omega
 rw [e1] at q1 q3
 have e2:e0+(((L ++ N0).length+N1.length+1:Nat):Int)=e0+(L.length:Int)+((segF S.p sl f m (e0+(L.length:Int))).length:Int)+1+((segF S.p sl f k (e0+(L.length:Int)+((segF S.p sl f m (e0+(L.length:Int))).length:Int)+1)).length:Int):=by
  rw [← q3,← q2,List.length_append];omega
 simp only [ctlF,List.map_append,List.map_cons,List.map_nil,List.getD_cons_zero,List.getD_cons_succ,Int.toNat_natCast,List.length_cons,List.length_nil];rw [if_neg (by decide),if_neg (by decide),q0,q1,e2];simp only [List.append_assoc,List.cons_append,List.nil_append,List.singleton_append]
set_option maxHeartbeats 16000000 in
theorem ctl3_s (w0:World) (S:ProgS) (sA:Option Addr) (sc gW:Nat) (e0:Int) (sl:List Int) (f:Nat) (hw:NodeH w0 S sA sc gW e0 sl f) (n:NodeD) (kA iA:Option Addr) (kc ic s i:Nat) (L:List (InsD × Value)) (w:World) (a b c:Int)
  (hk:n.kind=15) (hks:n.kids=[a,b,c]) (hc:Cover S.p.nodes f n.kids s i) (hil:i≤S.p.nodes.length) (hi:IntsV w0 (.slice iA n.kids.length ic) n.kids) (h:WrSt w0 w S sA sl.length sc gW e0 L) (hL:L.length+6 * (i+1 - s)≤90000) (he:0≤e0∧e0≤4000) :
  Calls prog 63 #[.pointer (some ⟨gW,0,none⟩),.agg (nodeC n kA kc iA ic)] w fun r w'=>r=.returned (.tuple #[])∧Wrote w0 S sA sl.length sc gW e0 L (ctlF (segF S.p sl f) n.kind n.kids (e0+L.length)) w w':=by
 obtain ⟨R,hR⟩:∃ R,ctlF (segF S.p sl f) n.kind n.kids (e0+L.length)=R:=⟨_,rfl⟩
 rw [hR];obtain ⟨P,hP⟩:∃ P:Ending→World→Prop,(fun r w'=>r=.returned (.tuple #[])∧Wrote w0 S sA sl.length sc gW e0 L R w w')=P:=⟨_,rfl⟩
 rw [hP];have HP:Hid (∀ w',Wrote w0 S sA sl.length sc gW e0 L R w w'→P (.returned (.tuple #[])) w'):=hZz (fun w' h1=>by rw [← hP];exact ⟨rfl,h1⟩);unfold nodeC;rw [hks] at hc hi hR ⊢;rw [hk] at hR ⊢;obtain ⟨m,k,j,rfl,rfl,rfl,hik,hmk,hkj,f0,f1,f2⟩:=hc.three';obtain ⟨bI,offI,rfl,hbI,ck0,ck1,ck2⟩:=hi.cells3;have HKC:Hid (∀ wx,Below w0.heap.size w0 wx→wx.cell? ⟨bI,offI,none⟩=some (.int .i64 m)∧wx.cell? ⟨bI,offI+1,none⟩=some (.int .i64 k)∧wx.cell? ⟨bI,offI+2,none⟩=some (.int .i64 j)):=hZz (fun wx hb=>⟨(hb.cell hbI).trans ck0,(hb.cell hbI).trans ck1,(hb.cell hbI).trans ck2⟩);have hl2:=fun b=>zaqY S.p sl f j (k+1) b f2
 have HF2:=hZz f2;have HL2:=hZz hl2;have g0:=zaaY f0;have hl0:=fun b=>zaqY S.p sl f m s b f0
 have hl1:=fun b=>zaqY S.p sl f k (m+1) b f1
 have HF0:=hZz f0;have HF1:=hZz f1;have HL0:=hZz hl0;have HL1:=hZz hl1;have HR:=hZz hR;have HW:=hZz hw;have HE:=hZz he;have HB:Hid ((s≤m∧m+1≤k∧k+1≤j)∧j+1≤S.p.nodes.length∧L.length+6 * (j+2 - s)≤90000):=hZz (by omega);have HH:=hZz h;have hentN:∀ args w,(callFunc 147 args).run prog w=.ok (.enter 147 args) w:=enters_of func147 (by kernel_rfl) rfl
 generalize n.text=nt;generalize n.int=ni;generalize n.keys.length=q;show Calls _ _ #[_,.agg #[.int .i64 15,.string nt,.int .i64 ni,.slice kA q kc,.slice (some ⟨bI,offI,none⟩) 3 ic]] w P;obtain ⟨g,hg⟩:∃ g,w.heap.size=g:=⟨_,rfl⟩
 obtain ⟨W1,hW1⟩:∃ W,w.alloc (.cells #[.int .i64 15,.string nt,.int .i64 ni,.slice kA q kc,.slice (some ⟨bI,offI,none⟩) 3 ic] 58)=W:=⟨_,rfl⟩
 have hlt:gW<w.heap.size:=by obtain ⟨iv,q,_⟩:=h.wr;exact q.lt
 have HNE:Hid (g≠gW):=hZz (by omega);have HX1:Hid (Blk W1 g 58 #[.int .i64 15,.string nt,.int .i64 ni,.slice kA q kc,.slice (some ⟨bI,offI,none⟩) 3 ic]):=hZz (by rw [← hW1,← hg];exact Blk.new _ _ _);have HB1:Hid (Below w.heap.size w W1):=hZz (by rw [← hW1];exact zacZ _ _);have HS1:=hZz (h.below HB1.out);have HK1:=hZz (h.kw HB1.out);have HC1:=hZz (here_s w0 S sA sl.length sc gW e0 L W1 HS1.out he (by omega));have HG:=hZz hg;have HW1:=hZz hW1;clear hR hP hw he h hg hW1 hlt hc hi hk hks hil hL hik hbI ck0 ck1 f0 f1 g0 hl0 hl1 ck2 f2 hl2 hkj hmk;go_enter func63,ntmps63
 go_upto_region 1 with fail
 rw [HG.out,HW1.out];clear HG HW1
 go_upto_region 2 with (first
  | (go_at_call 27;(with_reducible refine HC1.out.mono ?_);rintro e w2 ⟨rfl,hq⟩;have HQ:=hZz hq;clear hq))
 have HB2:Hid (Below W1.heap.size W1 w2):=hZz (by obtain ⟨q,rfl⟩:=HQ.out;exact zaeZ (Below.refl _ _) _);have HS2:=hZz (HS1.out.below HB2.out);have HK2:=hZz (HK1.out.trans (HS1.out.kw HB2.out));have HX2:=hZz (HX1.out.below HB2.out);have x2:=blk5n HX2.out;have y2:=HKC.out _ HS2.out.bl;have HC2:=hZz (HW.out m s L w2 HF0.out (by have:=HB.out;omega) HS2.out (by have:=HB.out;omega))
 go_upto_region 3 with (first
  | (go_at_call 41;(with_reducible refine HC2.out.mono ?_);rintro e w3 ⟨rfl,hw3⟩;have HW3:=hZz hw3;clear hw3))
 obtain ⟨N0,n0,l0,s3,k3⟩:=HW3.out.st;have HN0:=hZz n0;have b0:=HL0.out (e0+L.length);rw [← l0] at b0;have HS3:=hZz s3;have HK3:=hZz (HK2.out.trans k3);have HX3:=hZz (k3.blk HX2.out HNE.out (by decide));have HL0':=hZz l0;have HB0:=hZz b0;clear n0 l0 s3 k3 b0 x2 y2;have HC3:=hZz (za7Y w0 S sA sl.length sc gW e0 (L ++ N0) w3 14 HS3.out (by have:=HB.out;have:=HB0.out;rw [List.length_append];omega))
 go_upto_region 4 with (first
  | (go_at_call 100;(with_reducible refine HC3.out.mono ?_);rintro e w4 ⟨gb,ga,rfl,hf4,hs4,hk4⟩;have HF4:=hZz hf4;have HS4:=hZz hs4;have HK4:=hZz (HK3.out.trans hk4);have HX4:=hZz (hk4.blk HX3.out HNE.out (by decide));clear hf4 hs4 hk4))
 have x4:=blk5n HX4.out;have y4:=HKC.out _ HS4.out.bl;have HC4:=hZz (HW.out k (m+1) (L ++ N0 ++ [(insO 14 0,nilK)]) w4 HF1.out (by have:=HB.out;omega) HS4.out (by have:=HB.out;have:=HB0.out;simp only [List.length_append,List.length_cons,List.length_nil];omega))
 go_upto_region 6 with (first
  | (go_at_call 41;(with_reducible refine HC4.out.mono ?_);rintro e w5 ⟨rfl,hw5⟩;have HW5:=hZz hw5;clear hw5))
 obtain ⟨N1,n1,l1,s5,k5⟩:=HW5.out.st;have HN1:=hZz n1;have b1:=HL1.out (e0+(L ++ N0 ++ [(insO 14 0,nilK)]).length);rw [← l1] at b1;have HS5:=hZz s5;have HK5:=hZz (HK4.out.trans k5);have HX5:=hZz (k5.blk HX4.out HNE.out (by decide));have HF5:=hZz (HF4.out.kw k5);have HL1':=hZz l1;have HB1':=hZz b1;clear n1 l1 s5 k5 b1 x4 y4;have x5:=blk5n HX5.out;have y5:=HKC.out _ HS5.out.bl;have e5:L ++ N0 ++ [(insO 14 0,nilK)] ++ N1=L ++ (N0 ++ (insO 14 0,nilK) :: N1):=by simp
 have HS6:Hid (WrSt w0 w5 S sA sl.length sc gW e0 (L ++ (N0 ++ (insO 14 0,nilK) :: N1))):=hZz (by rw [← e5];exact HS5.out);clear e5 y5;have HC6:=hZz (za7Y w0 S sA sl.length sc gW e0 (L ++ (N0 ++ (insO 14 0,nilK) :: N1)) w5 13 HS6.out (by have:=HB.out;have:=HB0.out;have:=HB1'.out;simp only [List.length_append,List.length_cons];omega))
 go_upto_region 11 with (first
  | (go_at_call 100;(with_reducible refine HC6.out.mono ?_);rintro e w6 ⟨gc,gd,rfl,hf6,hs6,hk6⟩;have HT6:=hZz hf6;have HS7:=hZz hs6;have HF6:=hZz (HF5.out.kw hk6);have HK6:=hZz (HK5.out.trans hk6);have HX6:=hZz (hk6.blk HX5.out HNE.out (by decide));clear hf6 hs6 hk6))
 have e6:L ++ (N0 ++ (insO 14 0,nilK) :: N1) ++ [(insO 13 0,nilK)]=(L ++ N0) ++ (insO 14 0,nilK) :: (N1 ++ [(insO 13 0,nilK)]):=by simp
 have HS8:Hid (WrSt w0 w6 S sA sl.length sc gW e0 ((L ++ N0) ++ (insO 14 0,nilK) :: (N1 ++ [(insO 13 0,nilK)]))):=hZz (by rw [← e6];exact HS7.out);clear e6 x5;have HC7:=hZz (endAt_s w0 S sA sl.length sc gW e0 (L ++ N0) (N1 ++ [(insO 13 0,nilK)]) 14 w6 gb ga HS8.out (by have:=HB.out;have:=HB0.out;have:=HB1'.out;simp only [List.length_append,List.length_cons,List.length_nil];omega) HE.out HF6.out)
 go_upto_region 12 with (first
  | (go_at_fn 147;(with_reducible refine HC7.out.mono ?_);rintro e w7 ⟨rfl,hs7,hk7⟩;have HS9:=hZz hs7;have HT7:=hZz (HT6.out.kw hk7);have HK7:=hZz (HK6.out.trans hk7);have HX7:=hZz (hk7.blk HX6.out HNE.out (by decide));clear hs7 hk7))
 obtain ⟨v1,hv1⟩:∃ v,e0+(((L ++ N0).length+(N1 ++ [(insO 13 0,nilK)]).length+1:Nat):Int)=v:=⟨_,rfl⟩
 rw [hv1] at HS9;have HV1:=hZz hv1;clear hv1;have e7:(L ++ N0) ++ (insO 14 v1,nilK) :: (N1 ++ [(insO 13 0,nilK)])=(L ++ (N0 ++ (insO 14 v1,nilK) :: N1)) ++ [(insO 13 0,nilK)]:=by simp
 have HS10:Hid (WrSt w0 w7 S sA sl.length sc gW e0 ((L ++ (N0 ++ (insO 14 v1,nilK) :: N1)) ++ [(insO 13 0,nilK)])):=hZz (by rw [← e7];exact HS9.out);clear e7;have x7:=blk5n HX7.out;have y7:=HKC.out _ HS10.out.bl;have HC8:=hZz (HW.out j (k+1) ((L ++ (N0 ++ (insO 14 v1,nilK) :: N1)) ++ [(insO 13 0,nilK)]) w7 HF2.out (by have:=HB.out;omega) HS10.out (by have:=HB.out;have:=HB0.out;have:=HB1'.out;simp only [List.length_append,List.length_cons,List.length_nil];omega))
 go_upto_region 13 with (first
  | (go_at_call 41;(with_reducible refine HC8.out.mono ?_);rintro e w8 ⟨rfl,hw8⟩;have HW8:=hZz hw8;clear hw8))
 obtain ⟨N2,n2,l2,s8,k8⟩:=HW8.out.st;have HN2:=hZz n2;have b2:=HL2.out (e0+((L ++ (N0 ++ (insO 14 v1,nilK) :: N1)) ++ [(insO 13 0,nilK)]).length);rw [← l2] at b2;have e8:L ++ (N0 ++ (insO 14 v1,nilK) :: N1) ++ [(insO 13 0,nilK)] ++ N2=(L ++ (N0 ++ (insO 14 v1,nilK) :: N1)) ++ (insO 13 0,nilK) :: N2:=by simp
 have HS11:Hid (WrSt w0 w8 S sA sl.length sc gW e0 ((L ++ (N0 ++ (insO 14 v1,nilK) :: N1)) ++ (insO 13 0,nilK) :: N2)):=hZz (by rw [← e8];exact s8);have HK9:=hZz (HK7.out.trans k8)
 have HT9:Hid (FwdAt w8 gW gc gd (L ++ (N0 ++ (insO 14 v1,nilK) :: N1)).length):=hZz (by
  have:=HT7.out.kw k8
  have e:(L ++ (N0 ++ (insO 14 v1,nilK) :: N1)).length=(L ++ (N0 ++ (insO 14 0,nilK) :: N1)).length:=by simp
  rw [e];exact this)
 have HL2':=hZz l2;have HB2':=hZz b2;clear n2 l2 s8 k8 b2 e8 x7 y7;have HC9:=hZz (endAt_s w0 S sA sl.length sc gW e0 (L ++ (N0 ++ (insO 14 v1,nilK) :: N1)) N2 13 w8 gc gd HS11.out (by have:=HB.out;have:=HB0.out;have:=HB1'.out;have:=HB2'.out;simp only [List.length_append,List.length_cons,List.length_nil];omega) HE.out HT9.out)
 go_wp2_with (first
  | (go_at_fn 147;(with_reducible refine HC9.out.mono ?_);rintro e w9 ⟨rfl,hs9,hk9⟩;have HS12:=hZz hs9;have HK10:=hZz (HK9.out.trans hk9);clear hs9 hk9))
 try go_end0
 refine HP.out _ ⟨(N0 ++ (insO 14 v1,nilK) :: N1) ++ (insO 13 _,nilK) :: N2,?_,by rw [← List.append_assoc];exact HS12.out,HK10.out⟩
 rw [← HR.out];have q0:=HN0.out;have q1:=HN1.out;have q2:=HL0'.out;have q3:=HL1'.out;have q4:=HN2.out;have q5:=HL2'.out;have q6:=HV1.out;simp only [List.length_append,List.length_cons,List.length_nil] at q1 q3 q4 q5 q6;have e1:e0+((L.length+N0.length+(0+1):Nat):Int)=e0+(L.length:Int)+((segF S.p sl f m (e0+(L.length:Int))).length:Int)+1:=by rw [← q2];omega
 rw [e1] at q1 q3
 have e2:v1=e0+(L.length:Int)+((segF S.p sl f m (e0+(L.length:Int))).length:Int)+1+((segF S.p sl f k (e0+(L.length:Int)+((segF S.p sl f m (e0+(L.length:Int))).length:Int)+1)).length:Int)+1:=by
  rw [← q3,← q2];omega
 have e3:e0+((L.length+(N0.length+(N1.length+1))+(0+1):Nat):Int)=e0+(L.length:Int)+((segF S.p sl f m (e0+(L.length:Int))).length:Int)+1+((segF S.p sl f k (e0+(L.length:Int)+((segF S.p sl f m (e0+(L.length:Int))).length:Int)+1)).length:Int)+1:=by
  rw [← q3,← q2];omega
 rw [e3] at q4 q5
 have e4:e0+(((L ++ (N0 ++ (insO 14 v1,nilK) :: N1)).length+N2.length+1:Nat):Int)=e0+(L.length:Int)+((segF S.p sl f m (e0+(L.length:Int))).length:Int)+1+((segF S.p sl f k (e0+(L.length:Int)+((segF S.p sl f m (e0+(L.length:Int))).length:Int)+1)).length:Int)+1+((segF S.p sl f j (e0+(L.length:Int)+((segF S.p sl f m (e0+(L.length:Int))).length:Int)+1+((segF S.p sl f k (e0+(L.length:Int)+((segF S.p sl f m (e0+(L.length:Int))).length:Int)+1)).length:Int)+1)).length:Int):=by
  rw [← q5,← q3,← q2];simp only [List.length_append,List.length_cons];omega
 simp only [ctlF,List.map_append,List.map_cons,List.map_nil,List.getD_cons_zero,List.getD_cons_succ,Int.toNat_natCast,List.length_cons,List.length_nil];rw [if_neg (by decide),if_pos (by decide),q0,q1,q4,e4,← e2];simp only [List.append_assoc,List.cons_append,List.nil_append,List.singleton_append]
end
end Go.Proofs.YthiimbhjpdphpaaGreatDoor
