/- W11, W12, W13, W14, FD1, FD2, JD, W15, W17 -/
import Derived.Test.YthiimbhjpdphpaaGreatDoorPW10
import Derived.Test.YthiimbhjpdphpaaGreatDoorPFA1
import Derived.Test.YthiimbhjpdphpaaGreatDoorPFB0
import Derived.Test.YthiimbhjpdphpaaGreatDoorPJA
import Derived.Test.YthiimbhjpdphpaaGreatDoorPPA
import Derived.Test.YthiimbhjpdphpaaGreatDoorPW16
import Derived.StillTailTactics
set_option linter.unusedVariables false
set_option linter.unusedSimpArgs false
namespace Go.Proofs.YthiimbhjpdphpaaGreatDoor
section
open Go.RowKit
set_option maxRecDepth 100000
/-- What the writer's walks lean on. -/
structure WrCtx (w0:World) (S:ProgS) (sA:Option Addr) (sl:List Int):Prop where
 prog:ProgV w0 S
 ok:ProgOk S.p
 syn:SynOk S.p
 slots:SlAt w0 sA 1 intS sl
 len:sl.length=S.p.nodes.length
theorem node_all (w0:World) (S:ProgS) (sA:Option Addr) (sc gW:Nat) (e0:Int) (sl:List Int) (hC:WrCtx w0 S sA sl) (he:0≤e0∧e0≤4000):∀ f,NodeH w0 S sA sc gW e0 sl f:=by
 intro f
 induction f with
 | zero=>intro i s L w hf;cases hf
 | succ f ih=>exact node_s w0 S sA sc gW e0 sl hC.prog hC.ok (by have:=hC.ok.funcs;omega) hC.slots hC.len he f ih
attribute [local go_sem] cell_alloc_is
set_option maxHeartbeats 8000000 in
theorem wfunc_s (w0:World) (S:ProgS) (sA:Option Addr) (sc gW:Nat) (e0:Int) (sl:List Int) (hC:WrCtx w0 S sA sl) (he:0≤e0∧e0≤4000) (k:Nat) (hk:k<S.p.funcs.length) (L:List (InsD × Value)) (w:World) (h:WrSt w0 w S sA sl.length sc gW e0 L) (hL:L.length≤20000) :
  Calls Tryz.prog 28 #[.pointer (some ⟨gW,0,none⟩),.int .i64 k] w fun e w'=>e=.returned (.tuple #[])∧Wrote w0 S sA sl.length sc gW e0 L (funcSeg S.p sl k (e0+L.length)) w w':=by
 obtain ⟨R,hR⟩:∃ R,funcSeg S.p sl k (e0+L.length)=R:=⟨_,rfl⟩
 rw [hR]
 obtain ⟨P,hP⟩:∃ P:Ending→World→Prop,(fun e w'=>e=.returned (.tuple #[])∧Wrote w0 S sA sl.length sc gW e0 L R w w')=P:=⟨_,rfl⟩
 rw [hP]
 have HP:Hid (∀ w',Wrote w0 S sA sl.length sc gW e0 L R w w'→P (.returned (.tuple #[])) w'):=Lib.hid (fun w' h1=>by rw [← hP];exact ⟨rfl,h1⟩)
 obtain ⟨b,hfo,_,_⟩:=hC.syn.func hk
 obtain ⟨bF,offF,kA,kc,hA,hbF,_,_,c2,_⟩:=func_at hC.prog.funcs hk
 replace c2:=(h.bl.cell hbF).trans c2
 have hbo:=hfo.body
 rw [hbo] at c2
 have hgd:(S.p.funcs.getD k noFunc)=S.p.funcs[k]:=getD_at hk _
 unfold funcSeg at hR
 rw [hgd,hbo,Int.toNat_natCast] at hR
 have hN:=hC.syn.nodes
 have HC2:=Lib.hid (node_all w0 S sA sc gW e0 sl hC he 600 b _ L w hfo.first hfo.lt h (by have:=first_le hfo.first;have:=hfo.lt;omega))
 have HSG:=Lib.hid (seg_bd S.p sl 600 b _ (e0+L.length) hfo.first)
 have HSL:Hid ((segF S.p sl 600 b (e0+L.length)).length≤6000):=Lib.hid (by have:=HSG.out;have:=hfo.lt;omega)
 have HR:=Lib.hid hR
 have HLL:=Lib.hid hL
 obtain ⟨⟨iv,hb0,_⟩,_,_,_⟩:=h
 obtain ⟨s0,s1,s2,s3,s4⟩:=blkW hb0
 rw [hA] at s1
 obtain ⟨N,hNe⟩:∃ N,S.p.funcs.length=N:=⟨_,rfl⟩
 rw [hNe] at s1 hk
 have hkN:(k:Int)<(N:Int):=by omega
 have hk0:(0:Int)≤(k:Int):=by omega
 clear hR hP hA hbF hbo hgd hfo hC he hL hb0 hNe hN HSG
 go_enter Tryz.func28,Tryz.ntmps28
 go_upto_region 1 with (first
  | (go_at_call 41;(with_reducible refine HC2.out.mono ?_);rintro e w2 ⟨rfl,hw2⟩;have HW2:=Lib.hid hw2;clear hw2))
 obtain ⟨N0,n0,l0,s2',k2⟩:=HW2.out.st
 have HN0:=Lib.hid n0
 have HS2:=Lib.hid s2'
 have HK2:=Lib.hid k2
 have HC3:=Lib.hid (add2_s w0 S sA sl.length sc gW e0 (L ++ N0) w2 1 20 HS2.out (by have:=HLL.out;have:=HSL.out;rw [List.length_append];omega))
 clear n0 l0 s2' k2 s0 s1 s2 s3 s4 c2
 go_wp2_with (first
  | (go_at_call 42;(refine HC3.out.mono ?_);rintro e w3 ⟨rfl,hs3,hk3⟩;have HS3:=Lib.hid hs3;have HK3:=Lib.hid hk3;clear hs3 hk3))
 go_end0
 exact HP.out _ ⟨N0 ++ [(insO 1 0,nilK),(insO 20 0,nilK)],by rw [List.map_append,HN0.out,← HR.out];rfl,by rw [← List.append_assoc];exact HS3.out,HK2.out.trans HK3.out⟩
end
section
open Go.RowKit
set_option maxRecDepth 100000
theorem slots_len {p:ProgD} (h:(studyF p).err=0):(studyF p).slots.length=p.nodes.length:=by
 obtain ⟨h1,h2,_⟩:=study_ok h
 rw [h2]
 exact (h1.step _ (Nat.le_refl _)).1
/-- What start hands back. -/
def StartP (S:ProgS) (w:World) (e0:Int) (r:Ending) (w':World):Prop :=
 ((studyF S.p).err≠0∧r=.returned (.tuple #[.pointer none,.int .i64 (studyF S.p).err])∧Below w.heap.size w w') ∨
 ((studyF S.p).err=0∧∃ w0 sA sc gW,Below w.heap.size w w0∧WrCtx w0 S sA (studyF S.p).slots∧WrSt w0 w' S sA (studyF S.p).slots.length sc gW e0 []∧r=.returned (.tuple #[.pointer (some ⟨gW,0,none⟩),.int .i64 0]))
attribute [local go_sem] cell_alloc_is
set_option maxHeartbeats 4000000 in
theorem start_s (S:ProgS) (e0:Int) (w:World) (hS:ProgV w S) (hp:Pow w) (hok:ProgOk S.p):Calls Tryz.prog 26 #[S.val,.int .i64 e0] w (StartP S w e0):=by
 obtain ⟨P,hP⟩:∃ P:Ending→World→Prop,StartP S w e0=P:=⟨_,rfl⟩
 rw [hP]
 have HP1:Hid (∀ w',(studyF S.p).err≠0→Below w.heap.size w w'→P (.returned (.tuple #[.pointer none,.int .i64 (studyF S.p).err])) w'):=Lib.hid (fun w' h h2=>by rw [← hP];exact .inl ⟨h,rfl,h2⟩)
 have HP2:Hid (∀ w0 w' sA sc gW,(studyF S.p).err=0→Below w.heap.size w w0→WrCtx w0 S sA (studyF S.p).slots→WrSt w0 w' S sA (studyF S.p).slots.length sc gW e0 []→P (.returned (.tuple #[.pointer (some ⟨gW,0,none⟩),.int .i64 0])) w'):=Lib.hid (fun w0 w' sA sc gW h h2 h3 h4=>by rw [← hP];exact .inr ⟨h,w0,sA,sc,gW,h2,h3,h4,rfl⟩)
 have HS:=Lib.hid hS
 have HOK:=Lib.hid hok
 obtain ⟨W1,hW1⟩:∃ W,w.alloc (.cells #[.slice S.A S.p.nodes.length S.ncap,.slice S.B S.p.funcs.length S.fcap] 25)=W:=⟨_,rfl⟩
 obtain ⟨g,hg⟩:∃ g,w.heap.size=g:=⟨_,rfl⟩
 have hb1:Below w.heap.size w W1:=by rw [← hW1];exact below_new _ _
 have HB1:=Lib.hid hb1
 have HX1:Hid (Blk W1 g 25 #[.slice S.A S.p.nodes.length S.ncap,.slice S.B S.p.funcs.length S.fcap]):=Lib.hid (by rw [← hW1,← hg];exact Blk.new _ _ _)
 have HC:Hid (Calls Tryz.prog 40 #[S.val] W1 (SlotsP S.p W1)):=Lib.hid (slots_s S W1 (hS.below hb1) (hp.below hb1) hok)
 unfold ProgS.val at HC ⊢
 have HG:=Lib.hid hg
 have HW1:=Lib.hid hW1
 clear hP hS hp hok hg hW1 hb1
 go_enter Tryz.func26,Tryz.ntmps26
 go_upto_region 1 with fail
 rw [HG.out,HW1.out]
 clear HG HW1
 have x1:=blk2 HX1.out
 go_upto_region 2 with (first
  | (go_at_call 40;(with_reducible refine HC.out.mono ?_);rintro e w2 ⟨hq,hb2⟩;have HB12:=Lib.hid hb2;have HB2:=Lib.hid (below_call' hb2 HB1.out HB1.out.size);clear hb2;rcases hq with ⟨h0,rfl⟩ | ⟨h0,A,c,rfl,h1⟩))
 ·have H0:=Lib.hid h0
  obtain ⟨er,her⟩:∃ x,(studyF S.p).err=x:=⟨_,rfl⟩
  rw [her] at h0 HP1 ⊢
  have e0:(er != 0)=true:=by simp [h0]
  have HER:=Lib.hid her
  clear h0 her
  go_wp2_with (fail)
  exact HP1.out _ (by rw [← HER.out];exact H0.out) HB2.out
 ·have H0:=Lib.hid h0
  have H1:=Lib.hid h1
  have HX2:=Lib.hid (HX1.out.below HB12.out)
  obtain ⟨sn,hsn⟩:∃ n,(studyF S.p).slots.length=n:=⟨_,rfl⟩
  have HSN:=Lib.hid hsn
  rw [hsn] at HP2 ⊢
  clear h0 h1 x1 hsn
  have x2:=blk2 HX2.out
  go_wp2_with (fail)
  refine HP2.out w2 _ A c _ H0.out HB2.out ⟨HS.out.below HB2.out,HOK.out,(study_ok H0.out).1,H1.out,slots_len H0.out⟩ ?_
  have hlt:w2.heap.size≤w2.heap.size:=Nat.le_refl _
  refine ⟨⟨.slice none 0 0,Blk.new _ _ _,⟨rfl,.inl ⟨rfl,rfl⟩⟩⟩,fun p hp=>absurd hp (by simp),below_new _ _,Nat.le_refl _⟩
end
section
open Go.RowKit
set_option maxRecDepth 100000
theorem own_baseW {w:World} {a b n size:Nat} {v:Value} {xs:List Value} {e:TypeId} (h:w.ownsRow b e size v n xs) (hab:a≤b):w.ownsRow a e size v n xs:=by
 obtain ⟨h1,h2⟩:=h
 refine ⟨h1,h2.imp id (fun ⟨g,cap,cur,ev,eg,r⟩=>⟨g,cap,cur,ev,Nat.le_trans hab eg,r⟩)⟩
/-- A list of instructions that lies in memory of its own. -/
def InsO (n0:Nat) (w:World) (v:Value) (is:List InsD):Prop:=∃ N:List (InsD × Value),N.map Prod.fst=is∧w.ownsRow n0 53 4 v N.length (N.flatMap insRow)∧∀ p∈N,OKeys n0 w p
theorem InsO.nil (n0:Nat) (w:World):InsO n0 w (.slice none 0 0) []:=⟨[],rfl,⟨rfl,.inl ⟨rfl,rfl⟩⟩,fun p hp=>by cases hp⟩
theorem InsO.below {n0:Nat} {w w':World} {v:Value} {is:List InsD} (h:InsO n0 w v is) (hb:Below w.heap.size w w'):InsO n0 w' v is:=by
 obtain ⟨N,h1,h2,h3⟩:=h
 exact ⟨N,h1,own_below h2 hb,fun p hp=>own_below (h3 p hp) hb⟩
theorem WrSt.insO {w0 w:World} {S:ProgS} {sA:Option Addr} {sn sc gW a:Nat} {e0:Int} {L:List (InsD × Value)} (h:WrSt w0 w S sA sn sc gW e0 L) (ha:a≤w0.heap.size):∃ iA ic,Blk w gW 67 #[.slice S.A S.p.nodes.length S.ncap,.slice S.B S.p.funcs.length S.fcap,.slice sA sn sc,.int .i64 e0,.slice iA L.length ic]∧InsO a w (.slice iA L.length ic) (L.map Prod.fst):=by
 obtain ⟨⟨iv,h1,h2⟩,h3,_,_⟩:=h
 obtain ⟨iA,ic,rfl⟩:=own_shape h2
 exact ⟨iA,ic,h1,L,rfl,own_baseW h2 ha,fun p hp=>own_baseW (h3 p hp) ha⟩
attribute [local go_sem] cell_alloc_is
end
section
open Go.RowKit
set_option maxRecDepth 100000
attribute [local go_sem] cell_alloc_is
set_option maxHeartbeats 8000000 in
theorem clength_s (S:ProgS) (w:World) (hS:ProgV w S) (hp:Pow w) (hok:ProgOk S.p):Calls Tryz.prog 21 #[S.val] w fun r w'=>r=.returned (.tuple #[.int .i64 (lengthF S.p).1,.int .i64 (lengthF S.p).2])∧Below w.heap.size w w':=by
 obtain ⟨R,hR⟩:∃ R,lengthF S.p=R:=⟨_,rfl⟩
 rw [hR]
 obtain ⟨P,hP⟩:∃ P:Ending→World→Prop,(fun r w'=>r=.returned (.tuple #[.int .i64 R.1,.int .i64 R.2])∧Below w.heap.size w w')=P:=⟨_,rfl⟩
 rw [hP]
 have HP:Hid (∀ w' a b,R=(a,b)→Below w.heap.size w w'→P (.returned (.tuple #[.int .i64 a,.int .i64 b])) w'):=Lib.hid (fun w' a b h h2=>by rw [← hP];exact ⟨by rw [h],h2⟩)
 have HR:Hid (R=if (studyF S.p).err≠0 then (0,(studyF S.p).err) else (((allSeg S.p (studyF S.p).slots S.p.funcs.length).length:Int),0)):=Lib.hid hR.symm
 obtain ⟨W1,hW1⟩:∃ W,w.alloc (.cells #[.slice S.A S.p.nodes.length S.ncap,.slice S.B S.p.funcs.length S.fcap] 25)=W:=⟨_,rfl⟩
 obtain ⟨g,hg⟩:∃ g,w.heap.size=g:=⟨_,rfl⟩
 have hb1:Below w.heap.size w W1:=by rw [← hW1];exact below_new _ _
 have HB1:=Lib.hid hb1
 have HX1:Hid (Blk W1 g 25 #[.slice S.A S.p.nodes.length S.ncap,.slice S.B S.p.funcs.length S.fcap]):=Lib.hid (by rw [← hW1,← hg];exact Blk.new _ _ _)
 have HC:Hid (Calls Tryz.prog 26 #[S.val,.int .i64 0] W1 (StartP S W1 0)):=Lib.hid (start_s S 0 W1 (hS.below hb1) (hp.below hb1) hok)
 unfold ProgS.val at HC ⊢
 have HG:=Lib.hid hg
 have HW1:=Lib.hid hW1
 clear hP hR hS hp hok hg hW1 hb1
 go_enter Tryz.func21,Tryz.ntmps21
 go_upto_region 1 with fail
 rw [HG.out,HW1.out]
 clear HG HW1
 have x1:=blk2 HX1.out
 go_upto_region 2 with (first
  | (go_at_call 26;(with_reducible refine HC.out.mono ?_);rintro r w2 hq;rcases hq with ⟨h0,rfl,hb2⟩ | ⟨h0,w0,sA,sc,gW,hb0,hcx,hst,rfl⟩))
 ·have HB2:=Lib.hid (below_call' hb2 HB1.out HB1.out.size)
  obtain ⟨er,her⟩:∃ x,(studyF S.p).err=x:=⟨_,rfl⟩
  rw [her] at h0 HR ⊢
  have e0:(er != 0)=true:=by simp [h0]
  have H0:=Lib.hid h0
  clear h0 her hb2
  go_wp2_with (fail)
  exact HP.out _ _ _ (by rw [HR.out,if_pos H0.out]) HB2.out
 ·have HCX:=Lib.hid hcx
  have HST:=Lib.hid hst
  have HB0:=Lib.hid (below_call' hb0 HB1.out HB1.out.size)
  have HB2:Hid (Below W1.heap.size W1 w2):=Lib.hid (below_call' hst.bl hb0 hb0.size)
  have HR2:Hid (R=(((allSeg S.p (studyF S.p).slots S.p.funcs.length).length:Int),0)):=Lib.hid (by rw [HR.out,if_neg (by rw [h0];simp)])
  have HX2:=Lib.hid (HX1.out.below HB2.out)
  have hN:=hcx.syn.funcs
  generalize (studyF S.p).slots=sl at HCX HST HR2
  clear h0 hb0 hcx hst x1 HR HC
  have x2:=blk2 HX2.out
  obtain ⟨nf,hnf⟩:∃ n,S.p.funcs.length=n:=⟨_,rfl⟩
  have HNF:=Lib.hid hnf
  rw [hnf] at x2 HR2 hN
  clear hnf
  go_upto_region 4 with (fail)
  go_wp2_with (fail)
  go_loopw [6,18,19,20,21,22,23,24] (fun _ kv _ _ _ _ _ _ wr=>∃ (k:Nat) (L:List (InsD × Value)),k≤nf∧kv=.int .i64 k∧Hid (L.map Prod.fst=allSeg S.p sl k)∧Hid (WrSt w0 wr S sA sl.length sc gW 0 L)) (fun _ kv _ _ _ _ _ _ _=>nf - (intOf kv).toNat)
  case atStart=>exact ⟨0,[],Nat.zero_le _,rfl,Lib.hid rfl,HST⟩
  case round =>
   obtain ⟨k,L,hk,rfl,HL,HS⟩:=hrel
   have hk0:(0:Int)≤(k:Int):=by omega
   have hlen:L.length≤3632:=by
    have:=congrArg List.length HL.out
    rw [List.length_map] at this
    rw [this]
    exact HCX.out.syn.all_le sl (by rw [HNF.out];exact hk)
   have hlL:(allSeg S.p sl k).length=L.length:=by rw [← HL.out,List.length_map]
   have HLL:=Lib.hid hlL
   have HLE:=Lib.hid hlen
   clear hlL hlen
   by_cases hlt:k<nf
   ·have hlt':(k:Int)<(nf:Int):=by omega
    have HC2:=Lib.hid (wfunc_s w0 S sA sc gW 0 sl HCX.out (by omega) k (by rw [HNF.out];exact hlt) L wr HS.out (by have:=HLE.out;omega))
    go_wp2_with (first
     | (go_at_call 28;(with_reducible refine HC2.out.mono ?_);rintro r w3 ⟨rfl,hw3⟩;have HW3:=Lib.hid hw3;clear hw3))
    obtain ⟨N0,n0,_,s3,k3⟩:=HW3.out.st
    refine ⟨⟨k+1,L ++ N0,by omega,by simp,Lib.hid ?_,Lib.hid s3⟩,by simp [intOf];omega⟩
    rw [List.map_append,HL.out,n0]
    simp only [allSeg]
    rw [HLL.out]
    congr 2
    omega
   ·have e9:nf=k:=by omega
    subst e9
    obtain ⟨iA,ic,hbk,hio⟩:=HS.out.insO (a:=w.heap.size) HB0.out.size
    have HB3:=Lib.hid (below_call' HS.out.bl HB0.out HB0.out.size)
    have y:=blkW hbk
    have HR3:Hid (R=((L.length:Int),0)):=Lib.hid (by rw [HR2.out,HLL.out])
    clear hbk hio x2
    generalize L.length=ln at y HR3
    go_wp2_with (fail)
    exact HP.out _ _ _ HR3.out HB3.out
end
section
open Go.RowKit
set_option maxRecDepth 100000
attribute [local go_sem] cell_alloc_is
set_option maxHeartbeats 4000000 in
theorem strings8_s (l:List ByteArray) (A B:Option Addr) (c d:Nat) (w:World) (hA:SlAt w A 1 strCs l) (hB:SlAt w B 1 strCs l) (hl:l.length≤100000):Calls Tryz.prog 37 #[.slice A l.length c,.slice B l.length d] w fun e w'=>e=.returned (.bool true)∧∃ q,w'=w.drewN q:=by
 obtain ⟨P,hP⟩:∃ P:Ending→World→Prop,(fun e w'=>e=.returned (.bool true)∧∃ q,w'=w.drewN q)=P:=⟨_,rfl⟩
 rw [hP]
 have HP:Hid (∀ q,P (.returned (.bool true)) (w.drewN q)):=Lib.hid (fun q=>by rw [← hP];exact ⟨rfl,q,rfl⟩)
 have HA:=Lib.hid hA
 have HB:=Lib.hid hB
 obtain ⟨n,hn⟩:∃ n,l.length=n:=⟨_,rfl⟩
 have HN:=Lib.hid hn
 rw [hn] at hl ⊢
 have hnn:((n:Int) != (n:Int))=false:=by simp
 clear hP hA hB hn
 go_enter Tryz.func37,Tryz.ntmps37
 go_wp2_with (fail)
 clear hnn
 go_loopw [5] (fun kv wr=>∃ k q:Nat,k≤n∧kv=.int .i64 k∧wr=w.drewN q) (fun kv _=>n - (intOf kv).toNat)
 case atStart=>exact ⟨0,0,Nat.zero_le _,rfl,rfl⟩
 case round =>
  obtain ⟨k,q,hk,rfl,rfl⟩:=hrel
  have hk0:(0:Int)≤(k:Int):=by omega
  by_cases hlt:k<n
  ·have hlt':(k:Int)<(n:Int):=by omega
   have hkl:k<l.length:=by rw [HN.out];exact hlt
   obtain ⟨b1,o1,rfl,_⟩:=HA.out.ptr hkl
   obtain ⟨b2,o2,rfl,_⟩:=HB.out.ptr hkl
   have c0:=HA.out.cell0 hkl (v:=.string l[k]) rfl
   have d0:=HB.out.cell0 hkl (v:=.string l[k]) rfl
   rw [Nat.mul_one] at c0 d0
   obtain ⟨x,hx⟩:∃ x,l[k]=x:=⟨_,rfl⟩
   rw [hx] at c0 d0
   have hxx:(x.toList != x.toList)=false:=by simp
   clear hx hkl
   go_wp2_with (fail)
   go_quiet (fail)
   go_wp2_with (fail)
   refine ⟨⟨k+1,_,by omega,by simp,(by first | rfl | exact World.drewN_drewN _ _ _)⟩,by simp [intOf];omega⟩
  ·have e9:k=n:=by omega
   subst e9
   go_wp2_with (fail)
   first | exact HP.out _ | (rw [show w.drewN q=w.drewN q from rfl];exact HP.out _)
end
section
open Go.RowKit
set_option maxRecDepth 100000
attribute [local go_sem] cell_alloc_is
set_option maxHeartbeats 16000000 in
theorem same8_s (p:ProgD) (A1 B1 A2 B2:Option Addr) (n1 f1 n2 f2:Nat) (w:World) (hN1:NodesV w (.slice A1 p.nodes.length n1) p.nodes) (hF1:FuncsV w (.slice B1 p.funcs.length f1) p.funcs) (hN2:NodesV w (.slice A2 p.nodes.length n2) p.nodes) (hF2:FuncsV w (.slice B2 p.funcs.length f2) p.funcs) (hok:ProgOk p) :
  Calls Tryz.prog 17 #[.agg #[.slice A1 p.nodes.length n1,.slice B1 p.funcs.length f1],.agg #[.slice A2 p.nodes.length n2,.slice B2 p.funcs.length f2]] w fun e w'=>e=.returned (.bool true)∧Below w.heap.size w w':=by
 obtain ⟨P,hP⟩:∃ P:Ending→World→Prop,(fun e w'=>e=.returned (.bool true)∧Below w.heap.size w w')=P:=⟨_,rfl⟩
 rw [hP]
 have HP:Hid (∀ w',Below w.heap.size w w'→P (.returned (.bool true)) w'):=Lib.hid (fun w' h2=>by rw [← hP];exact ⟨rfl,h2⟩)
 have HN1:=Lib.hid hN1
 have HN2:=Lib.hid hN2
 have HF1:=Lib.hid hF1
 have HF2:=Lib.hid hF2
 have HOK:=Lib.hid hok
 have hnn:p.nodes.length≤1000:=hok.nodes.len
 have hff:p.funcs.length≤1000:=hok.funcs
 obtain ⟨nn,hn⟩:∃ n,p.nodes.length=n:=⟨_,rfl⟩
 obtain ⟨nf,hf⟩:∃ n,p.funcs.length=n:=⟨_,rfl⟩
 have HNN:=Lib.hid hn
 have HNF:=Lib.hid hf
 rw [hn] at hnn
 rw [hf] at hff
 rw [hn,hf]
 obtain ⟨g1,hg1⟩:∃ g,w.heap.size=g:=⟨_,rfl⟩
 obtain ⟨W1,hW1⟩:∃ W,w.alloc (.cells #[.slice A1 nn n1,.slice B1 nf f1] 25)=W:=⟨_,rfl⟩
 obtain ⟨g2,hg2⟩:∃ g,W1.heap.size=g:=⟨_,rfl⟩
 obtain ⟨W2,hW2⟩:∃ W,W1.alloc (.cells #[.slice A2 nn n2,.slice B2 nf f2] 25)=W:=⟨_,rfl⟩
 have hb2:Below w.heap.size w W2:=by rw [← hW2,← hW1];exact below_2 _ _ _
 have HB2:=Lib.hid hb2
 have hx1:Blk W1 g1 25 #[.slice A1 nn n1,.slice B1 nf f1]:=by rw [← hW1,← hg1];exact Blk.new _ _ _
 have HX1:Hid (Blk W2 g1 25 #[.slice A1 nn n1,.slice B1 nf f1]):=Lib.hid (by rw [← hW2];exact hx1.alloc _)
 have HX2:Hid (Blk W2 g2 25 #[.slice A2 nn n2,.slice B2 nf f2]):=Lib.hid (by rw [← hW2,← hg2];exact Blk.new _ _ _)
 have HG1:=Lib.hid hg1
 have HG2:=Lib.hid hg2
 have HW1:=Lib.hid hW1
 have HW2:=Lib.hid hW2
 have HGG:Hid (g1+1=g2):=Lib.hid (by rw [← hg2,← hW1,← hg1];simp)
 have e1:((nn:Int) != (nn:Int))=false:=by simp
 have e2:((nf:Int) != (nf:Int))=false:=by simp
 clear hP hN1 hN2 hF1 hF2 hok hn hf hg1 hg2 hW1 hW2 hb2 hx1
 go_enter Tryz.func17,Tryz.ntmps17
 go_upto_region 1 with fail
 rw [HG1.out,HW1.out]
 try rw [HGG.out]
 rw [HW2.out]
 clear HG1 HG2 HW1 HW2 HGG
 have x1:=blk2 HX1.out
 have x2:=blk2 HX2.out
 go_upto_region 4 with (fail)
 try go_wp2_with (fail)
 clear x1 x2
 go_loopw [5,6,7,8] (fun kv _ _ _ wr=>∃ k:Nat,k≤nn∧kv=.int .i64 k∧Hid (Below W2.heap.size W2 wr)) (fun kv _ _ _ _=>nn - (intOf kv).toNat)
 case atStart=>exact ⟨0,Nat.zero_le _,rfl,Lib.hid (Below.refl _ _)⟩
 case round =>
  obtain ⟨k,hk,rfl,HBr⟩:=hrel
  have hk0:(0:Int)≤(k:Int):=by omega
  have HBw:Hid (Below w.heap.size w wr):=Lib.hid (below_call' HBr.out HB2.out HB2.out.size)
  by_cases hlt:k<nn
  ·have hlt':(k:Int)<(nn:Int):=by omega
   have hkl:k<p.nodes.length:=by rw [HNN.out];exact hlt
   obtain ⟨b1,o1,kA,kc,iA,ic,rfl,_,c0,c1,c2,c3,c4,hk1,hi1⟩:=node_at (stays_rows stays_node _ _ _ _ HN1.out HBw.out) hkl
   obtain ⟨b2,o2,kB,kd,iB,id,rfl,_,d0,d1,d2,d3,d4,hk2,hi2⟩:=node_at (stays_rows stays_node _ _ _ _ HN2.out HBw.out) hkl
   have hkk:=HOK.out.nodes.kids _ (List.getElem_mem hkl)
   obtain ⟨nk,hnk⟩:∃ x,(p.nodes[k]).kind=x:=⟨_,rfl⟩
   obtain ⟨nt,hnt⟩:∃ x,(p.nodes[k]).text=x:=⟨_,rfl⟩
   obtain ⟨ni,hni⟩:∃ x,(p.nodes[k]).int=x:=⟨_,rfl⟩
   obtain ⟨ks,hks⟩:∃ x,(p.nodes[k]).keys=x:=⟨_,rfl⟩
   obtain ⟨is,his⟩:∃ x,(p.nodes[k]).kids=x:=⟨_,rfl⟩
   rw [hnk] at c0 d0
   rw [hnt] at c1 d1
   rw [hni] at c2 d2
   rw [hks] at c3 d3 hk1 hk2 hkk
   rw [his] at c4 d4 hi1 hi2 hkk
   obtain ⟨kn,hkn⟩:∃ x,ks.length=x:=⟨_,rfl⟩
   obtain ⟨im,him⟩:∃ x,is.length=x:=⟨_,rfl⟩
   have hkn':=hkk.2
   have him':=hkk.1
   rw [hkn] at c3 d3 hkn'
   rw [him] at c4 d4 him'
   obtain ⟨_,_,q1,_,hs1⟩:=hk1
   injection q1 with q1 _ r1
   subst q1 r1
   obtain ⟨_,_,q2,_,hs2⟩:=hk2
   injection q2 with q2 _ r2
   subst q2 r2
   obtain ⟨_,_,q3,_,ht1⟩:=hi1.at
   injection q3 with q3 _ r3
   subst q3 r3
   obtain ⟨_,_,q4,_,ht2⟩:=hi2.at
   injection q4 with q4 _ r4
   subst q4 r4
   obtain ⟨ga,hga⟩:∃ g,wr.heap.size=g:=⟨_,rfl⟩
   obtain ⟨V1,hV1⟩:∃ W,wr.alloc (.cells #[.int .i64 nk,.string nt,.int .i64 ni,.slice kA kn kc,.slice iA im ic] 58)=W:=⟨_,rfl⟩
   obtain ⟨gb,hgb⟩:∃ g,V1.heap.size=g:=⟨_,rfl⟩
   obtain ⟨V2,hV2⟩:∃ W,V1.alloc (.cells #[.int .i64 nk,.string nt,.int .i64 ni,.slice kB kn kd,.slice iB im id] 58)=W:=⟨_,rfl⟩
   have hv1:Below wr.heap.size wr V1:=by rw [← hV1];exact below_new _ _
   have hv2:Below wr.heap.size wr V2:=by rw [← hV2,← hV1];exact below_2 _ _ _
   have HV1:=Lib.hid hv1
   have HV2:=Lib.hid hv2
   have hy1:Blk V1 ga 58 #[.int .i64 nk,.string nt,.int .i64 ni,.slice kA kn kc,.slice iA im ic]:=by rw [← hV1,← hga];exact Blk.new _ _ _
   have HY1:Hid (Blk V2 ga 58 #[.int .i64 nk,.string nt,.int .i64 ni,.slice kA kn kc,.slice iA im ic]):=Lib.hid (by rw [← hV2];exact hy1.alloc _)
   have HY2:Hid (Blk V2 gb 58 #[.int .i64 nk,.string nt,.int .i64 ni,.slice kB kn kd,.slice iB im id]):=Lib.hid (by rw [← hV2,← hgb];exact Blk.new _ _ _)
   have HS:=Lib.hid (strings8_s ks kA kB kc kd V2 (hs1.below hv2) (hs2.below hv2) (by omega))
   rw [hkn] at HS
   have HT1:=Lib.hid (ht1.below hv2)
   have HT2:=Lib.hid (ht2.below hv2)
   have HIM:=Lib.hid him
   have HGA:=Lib.hid hga
   have HGB:=Lib.hid hgb
   have HVV1:=Lib.hid hV1
   have HVV2:=Lib.hid hV2
   have HGG:Hid (ga+1=gb):=Lib.hid (by rw [← hgb,← hV1,← hga];simp)
   have HDR:Hid (∃ d:Unit,V1.cell? ⟨b2,o2+k * 5,none⟩=some (.int .i64 nk)∧V1.cell? ⟨b2,o2+k * 5+1,none⟩=some (.string nt)∧V1.cell? ⟨b2,o2+k * 5+2,none⟩=some (.int .i64 ni)∧V1.cell? ⟨b2,o2+k * 5+3,none⟩=some (.slice kB kn kd)∧V1.cell? ⟨b2,o2+k * 5+4,none⟩=some (.slice iB im id)):=Lib.hid ⟨(),(hv1.cell (World.block_lt_of_cell? _ _ d0)).trans d0,(hv1.cell (World.block_lt_of_cell? _ _ d1)).trans d1,(hv1.cell (World.block_lt_of_cell? _ _ d2)).trans d2,(hv1.cell (World.block_lt_of_cell? _ _ d3)).trans d3,(hv1.cell (World.block_lt_of_cell? _ _ d4)).trans d4⟩
   have x1:=blk2 (HX1.out.below HBr.out)
   clear hnk hnt hni hks his hkn him hkk hga hgb hV1 hV2 hv1 hv2 hy1 hs1 hs2 ht1 ht2 hi1 hi2 d0 d1 d2 d3 d4 hkl
   go_upto_region 7 with (fail)
   rw [HGA.out,HVV1.out]
   clear x1 c0 c1 c2 c3 c4
   obtain ⟨_,d0,d1,d2,d3,d4⟩:=HDR.out
   have x2:=blk2 (HX2.out.below (below_call' HV1.out HBr.out HBr.out.size))
   go_upto_region 8 with (fail)
   rw [HGB.out,HVV2.out]
   clear x2 d0 d1 d2 d3 d4
   have y1:=blk5n HY1.out
   have y2:=blk5n HY2.out
   have m1:(nk != nk)=false:=by simp
   have m2:(nt.toList != nt.toList)=false:=by simp
   have m3:(ni != ni)=false:=by simp
   have m4:((im:Int) != (im:Int))=false:=by simp
   go_upto_region 10 with (first
    | (go_at_call 37;((with_reducible refine HS.out.mono ?_);rintro r w3 ⟨rfl,q3,hq3⟩;have HB3:Hid (Below V2.heap.size V2 w3):=Lib.hid (by rw [hq3];exact below_drewN (Below.refl _ _) _);have z1:=blk5n (HY1.out.below HB3.out);have z2:=blk5n (HY2.out.below HB3.out);clear hq3)))
   try go_wp2_with (fail)
   clear y1 y2 z1 z2 m1 m2 m3 m4
   go_loopw [8] (fun jv wr2=>∃ j:Nat,j≤im∧jv=.int .i64 j∧Hid (Below V2.heap.size V2 wr2)) (fun jv _=>im - (intOf jv).toNat)
   case atStart=>exact ⟨0,Nat.zero_le _,rfl,HB3⟩
   case round =>
    obtain ⟨j,hj,rfl,HBj⟩:=hrel
    have hj0:(0:Int)≤(j:Int):=by omega
    have y1:=blk5n (HY1.out.below HBj.out)
    have y2:=blk5n (HY2.out.below HBj.out)
    by_cases hjt:j<im
    ·have hjt':(j:Int)<(im:Int):=by omega
     have hjl:j<is.length:=by rw [HIM.out];exact hjt
     have t1:=HT1.out.below HBj.out
     have t2:=HT2.out.below HBj.out
     obtain ⟨ba,oa,rfl,_⟩:=t1.ptr hjl
     obtain ⟨bb,ob,rfl,_⟩:=t2.ptr hjl
     have c0:=t1.cell0 hjl (v:=.int .i64 is[j]) rfl
     have d0:=t2.cell0 hjl (v:=.int .i64 is[j]) rfl
     rw [Nat.mul_one] at c0 d0
     obtain ⟨x,hx⟩:∃ x,is[j]=x:=⟨_,rfl⟩
     rw [hx] at c0 d0
     have hxx:(x != x)=false:=by simp
     clear hx hjl t1 t2
     go_wp2_with (fail)
     go_quiet (fail)
     go_wp2_with (fail)
     exact ⟨⟨j+1,by omega,by simp,Lib.hid (by first | exact HBj.out.drew | exact below_drewN HBj.out _ | exact HBj.out)⟩,by simp [intOf];omega⟩
    ·have e9:j=im:=by omega
     subst e9
     go_wp2_with (fail)
     exact ⟨⟨k+1,by omega,by simp,Lib.hid (below_call' (below_call' HBj.out HV2.out HV2.out.size) HBr.out HBr.out.size)⟩,by simp [intOf];omega⟩
  ·have e9:k=nn:=by omega
   subst e9
   have x1:=blk2 (HX1.out.below HBr.out)
   go_upto_region 16 with (fail)
   try go_wp2_with (fail)
   clear x1
   go_loopw [9] (fun kv wr=>∃ k:Nat,k≤nf∧kv=.int .i64 k∧Hid (Below W2.heap.size W2 wr)) (fun kv _=>nf - (intOf kv).toNat)
   case atStart=>exact ⟨0,Nat.zero_le _,rfl,HBr⟩
   case round =>
    obtain ⟨k,hk,rfl,HBf⟩:=hrel
    have hk0:(0:Int)≤(k:Int):=by omega
    have HBw:=Lib.hid (below_call' HBf.out HB2.out HB2.out.size)
    have x1:=blk2 (HX1.out.below HBf.out)
    have x2:=blk2 (HX2.out.below HBf.out)
    by_cases hlt:k<nf
    ·have hlt':(k:Int)<(nf:Int):=by omega
     have hkl:k<p.funcs.length:=by rw [HNF.out];exact hlt
     obtain ⟨b1,o1,kA,kc,rfl,_,c0,c1,c2,hk1⟩:=func_at (stays_rows stays_func _ _ _ _ HF1.out HBw.out) hkl
     obtain ⟨b2,o2,kB,kd,rfl,_,d0,d1,d2,hk2⟩:=func_at (stays_rows stays_func _ _ _ _ HF2.out HBw.out) hkl
     have hkk:=(HOK.out.fn _ (List.getElem_mem hkl)).2.1
     obtain ⟨nm,hnm⟩:∃ x,(p.funcs[k]).name=x:=⟨_,rfl⟩
     obtain ⟨bo,hbo⟩:∃ x,(p.funcs[k]).body=x:=⟨_,rfl⟩
     obtain ⟨ps,hps⟩:∃ x,(p.funcs[k]).params=x:=⟨_,rfl⟩
     rw [hnm] at c0 d0
     rw [hbo] at c2 d2
     rw [hps] at c1 d1 hk1 hk2 hkk
     obtain ⟨_,_,q1,_,hs1⟩:=hk1
     injection q1 with q1 _ r1
     subst q1 r1
     obtain ⟨_,_,q2,_,hs2⟩:=hk2
     injection q2 with q2 _ r2
     subst q2 r2
     obtain ⟨pn,hpn⟩:∃ x,ps.length=x:=⟨_,rfl⟩
     rw [hpn] at c1 d1 hkk
     have HS:Hid (Calls Tryz.prog 37 #[.slice kA pn kc,.slice kB pn kd] wr.drew fun e w'=>e=.returned (.bool true)∧∃ q',w'=wr.drew.drewN q'):=Lib.hid (by
      have:=strings8_s ps kA kB kc kd wr.drew hs1.drew hs2.drew (by omega)
      rw [hpn] at this
      exact this)
     have m1:(nm.toList != nm.toList)=false:=by simp
     have m2:(bo != bo)=false:=by simp
     clear hnm hbo hps hpn hkk hs1 hs2 hkl
     go_upto_region 18 with (fail)
     go_still_tail 41,(by kernel_rfl)
     change wpList _ _ _ _ _ wr.drew
     clear x1 x2 c0 c1 c2 d0 d1 d2
     go_wp2_with (first
      | (go_at_call 37;((refine HS.out.mono ?_);rintro e w3 ⟨rfl,q,hq3⟩;have HB3:Hid (Below W2.heap.size W2 w3):=Lib.hid (by rw [hq3];exact below_drewN HBf.out.drew _);clear hq3)))
     exact ⟨⟨k+1,by omega,by simp,HB3⟩,by simp [intOf];omega⟩
    ·have e9:k=nf:=by omega
     subst e9
     go_wp2_with (fail)
     exact HP.out _ HBw.out
end
section
open Go.RowKit
set_option maxRecDepth 100000
structure TextsOk (p:ProgD):Prop where
 node:∀ n∈p.nodes,n.text.size≤140737488351232∧∀ k∈n.keys,k.size≤140737488351232
 fn:∀ f∈p.funcs,f.name.size≤140737488351232∧∀ s∈f.params,s.size≤140737488351232
theorem SmallPr.ok {p:ProgD} (h:SmallPr p) (ht:TextsOk p):ProgOk p:=by
 refine ⟨⟨by have:=h.nodes;omega,fun n hn=>?_,ht.node⟩,by have:=h.funcs;omega,fun f hf=>?_⟩
 ·obtain ⟨i,hi,rfl⟩:=List.getElem_of_mem hn
  have:=h.node i hi
  omega
 ·obtain ⟨i,hi,rfl⟩:=List.getElem_of_mem hf
  have:=h.fn i hi
  exact ⟨(ht.fn _ hf).1,by omega,(ht.fn _ hf).2⟩
theorem keys_sl {w:World} {n0:Nat} {x:InsD} {kv:Value} (h:OKeys n0 w (x,kv)):∃ A cap,kv=.slice A x.keys.length cap∧SlAt w A 1 strCs x.keys:=by
 obtain ⟨A,cap,rfl⟩:∃ A cap,kv=.slice A x.keys.length cap:=own_shape h
 exact ⟨A,cap,rfl,SlAt.of_own h (map_strCs x.keys) (fun _=>rfl) (by decide)⟩
theorem InsO.at {n0:Nat} {w:World} {A:Option Addr} {m c:Nat} {is:List InsD} (h:InsO n0 w (.slice A m c) is) {k:Nat} (hk:k<is.length):∃ b off kA kc,A=some ⟨b,off,none⟩∧b<w.heap.size ∧
  w.cell? ⟨b,off+k * 4,none⟩=some (.int .i64 (is[k]).op)∧w.cell? ⟨b,off+k * 4+1,none⟩=some (.int .i64 (is[k]).a)∧w.cell? ⟨b,off+k * 4+2,none⟩=some (.string (is[k]).s)∧w.cell? ⟨b,off+k * 4+3,none⟩=some (.slice kA (is[k]).keys.length kc)∧SlAt w kA 1 strCs (is[k]).keys:=by
 obtain ⟨N,rfl,h2,h3⟩:=h
 obtain ⟨A',c',e⟩:=own_shape h2
 injection e with e1 e2 e3
 subst e1 e2 e3
 have hkN:k<N.length:=by simpa using hk
 have hs:=SlAt.of_own (c:=insRow) (l:=N) h2 rfl (fun _=>rfl) (by decide)
 obtain ⟨kA,kc,hkv,hks⟩:=keys_sl (h3 (N[k]) (List.getElem_mem hkN))
 have hkv:(N[k]).2=.slice kA (N[k]).1.keys.length kc:=hkv
 obtain ⟨b,off,rfl,hb⟩:=hs.ptr hkN
 have c0:=hs.cell0 hkN (v:=.int .i64 (N[k]).1.op) rfl
 have c1:=hs.cell hkN (j:=1) (v:=.int .i64 (N[k]).1.a) rfl
 have c2:=hs.cell hkN (j:=2) (v:=.string (N[k]).1.s) rfl
 have c3:=hs.cell hkN (j:=3) (v:=(N[k]).2) rfl
 rw [hkv] at c3
 refine ⟨b,off,kA,kc,rfl,hb,?_⟩
 simp only [List.getElem_map]
 exact ⟨c0,c1,c2,c3,hks⟩
attribute [local go_sem] cell_alloc_is
end
section
open Go.RowKit
set_option maxRecDepth 100000
theorem keys_own {w:World} {n0:Nat} {x:InsD} {kv:Value} (h:OKeys n0 w (x,kv)):KeysV w kv x.keys:=by
 obtain ⟨A,cap,rfl⟩:∃ A cap,kv=.slice A x.keys.length cap:=own_shape h
 refine ⟨A,cap,rfl,?_,SlAt.of_own h (map_strCs x.keys) (fun _=>rfl) (by decide)⟩
 rcases h.2 with ⟨e,e2⟩ | ⟨g,c,cur,e,_,_,hc,_⟩
 ·injection e with _ e3 e4
  have:x.keys.length=0:=e2
  omega
 ·injection e with _ _ e4
  have:x.keys.length≤c:=hc
  omega
theorem InsO.insV {n0:Nat} {w:World} {B:Option Addr} {n cap:Nat} {is:List InsD} (h:InsO n0 w (.slice B n cap) is):n=is.length∧InsV w B is:=by
 obtain ⟨N,rfl,h2,h3⟩:=h
 obtain ⟨A,c,e⟩:=own_shape h2
 injection e with e1 e2 e3
 subst e1 e2 e3
 refine ⟨by rw [List.length_map],N.map insRow,?_,by simp,?_⟩
 ·have hs:=SlAt.of_own (c:=insRow) (l:=N) h2 rfl (fun _=>rfl) (by decide)
  unfold SlAt at hs ⊢
  rw [List.map_id']
  exact hs
 ·intro k hk hk'
  have hkN:k<N.length:=by simpa using hk
  refine ⟨(N[k]).2,by simp [insRow],?_⟩
  have:=keys_own (h3 (N[k]) (List.getElem_mem hkN))
  simpa using this
end
section
open Go.RowKit
set_option maxRecDepth 100000
/-- Only blocks of the code's functions and the code's block may be turned, and nothing that lay before. -/
structure KC (n0 gC:Nat) (w w':World):Prop where
 os:w'.os=w.os
 tape:w'.tape=w.tape
 output:w'.output=w.output
 size:w.heap.size≤w'.heap.size
 low:∀ j,j<n0→w'.heap[j]? = w.heap[j]?
 typ:∀ (g:Nat) (o:Obj),w.heap[g]? = some o→g≠gC→(∀ cs fr,o≠Obj.cells cs 50 fr)→w'.heap[g]? = some o
theorem KC.blk {n0 gC g:Nat} {t:TypeId} {cs:Array Value} {w w':World} (h:KC n0 gC w w') (hB:Blk w g t cs) (hg:g≠gC) (ht:t≠50):Blk w' g t cs :=
 h.typ g _ hB hg (fun cs' fr e=>by injection e with _ e _;exact ht e)
theorem KC.own {n0 gC base n size:Nat} {v:Value} {xs:List Value} {e t:TypeId} {cs:Array Value} {w w':World} (h:KC n0 gC w w') (hC:Blk w gC t cs) (het:t≠e) (he:e≠50) (ho:w.ownsRow base e size v n xs):w'.ownsRow base e size v n xs:=by
 obtain ⟨e1,e2⟩:=ho
 refine ⟨e1,e2.imp id (fun ⟨g,cap,cur,ev,eg,eh,e4⟩=>⟨g,cap,cur,ev,eg,?_,e4⟩)⟩
 refine h.typ g _ eh (fun e9=>?_) (fun cs' fr e9=>by injection e9 with _ e9 _;exact he e9)
 subst e9
 unfold Blk at hC
 rw [hC] at eh
 injection eh with eh
 injection eh with _ e9 _
 exact het e9
/-- The writer stays when the code's functions grow. -/
theorem WrSt.kc {w0 w w':World} {S:ProgS} {sA:Option Addr} {sn sc gW gC:Nat} {e0:Int} {L:List (InsD × Value)} {cs:Array Value} (h:WrSt w0 w S sA sn sc gW e0 L) (hk:KC w0.heap.size gC w w') (hC:Blk w gC 31 cs) (hne:gW≠gC):WrSt w0 w' S sA sn sc gW e0 L:=by
 obtain ⟨⟨iv,h1,h2⟩,h3,h4,h5⟩:=h
 refine ⟨⟨iv,hk.blk h1 hne (by decide),hk.own hC (by decide) (by decide) h2⟩,fun p hp=>hk.own hC (by decide) (by decide) (h3 p hp),?_,h5⟩
 exact ⟨hk.os.trans h4.os,hk.tape.trans h4.tape,hk.output.trans h4.output,Nat.le_trans h4.size hk.size,fun j hj=>(hk.low j hj).trans (h4.block j hj)⟩
theorem KC.refl (n0 gC:Nat) (w:World):KC n0 gC w w:=⟨rfl,rfl,rfl,Nat.le_refl _,fun _ _=>rfl,fun _ _ h _ _=>h⟩
theorem KC.trans {n0 gC:Nat} {a b c:World} (h:KC n0 gC a b) (k:KC n0 gC b c):KC n0 gC a c :=
 ⟨k.os.trans h.os,k.tape.trans h.tape,k.output.trans h.output,Nat.le_trans h.size k.size,fun j hj=>(k.low j hj).trans (h.low j hj),fun g o h1 h2 h3=>k.typ g o (h.typ g o h1 h2 h3) h2 h3⟩
theorem KC.setC {n0 gC:Nat} {a b:World} (h:KC n0 gC a b) (hn:n0≤gC) (i:Nat) (u:Value):KC n0 gC a (b.setCell ⟨gC,i,none⟩ u) :=
 h.trans ⟨rfl,rfl,rfl,by simp,fun j hj=>Below.heap_setCell b _ u j (by show j≠gC;omega),fun g o h1 h2 _=>(Below.heap_setCell b _ u g h2).trans h1⟩
theorem KC.grown {n0 gC base n:Nat} {v:Value} {xs:List Value} {a b c:World} (h:KC n0 gC a b) (ho:b.ownsRow base 50 5 v n xs) (hn:n0≤base) (hs:n0≤b.heap.size) (hg:b.grownBy c v.ownBlock):KC n0 gC a c:=by
 refine h.trans ⟨hg.os,hg.tape,hg.output,hg.size,fun j hj=>?_,fun q o h1 h2 h3=>?_⟩
 ·exact hg.block j (by omega) (fun e=>by have:=(ho.lt j e.symm).1;omega)
 ·refine (hg.block q (lt_of_block h1) (fun e=>?_)).trans h1
  obtain ⟨_,h4⟩:=ho
  rcases h4 with ⟨rfl,_⟩ | ⟨g',cap',cur,rfl,eb,eh,_⟩
  ·cases e
  ·injection e with e
   subst e
   rw [eh] at h1
   injection h1 with h1
   exact h3 _ _ h1.symm
/-- Another owned row stays while the writer writes. -/
theorem KW.ownR {n0 gW base n size:Nat} {v:Value} {xs:List Value} {e t:TypeId} {cs:Array Value} {w w':World} (h:KW n0 gW w w') (hW:Blk w gW t cs) (ht:t≠e) (he:e≠53) (ho:w.ownsRow base e size v n xs):w'.ownsRow base e size v n xs:=by
 obtain ⟨e1,e2⟩:=ho
 refine ⟨e1,e2.imp id (fun ⟨g,cap,cur,ev,eg,eh,e4⟩=>⟨g,cap,cur,ev,eg,?_,e4⟩)⟩
 refine h.typ g _ eh (fun e9=>?_) (fun cs' fr e9=>by injection e9 with _ e9 _;exact he e9)
 subst e9
 unfold Blk at hW
 rw [hW] at eh
 injection eh with eh
 injection eh with _ e9 _
 exact ht e9
end
end Go.Proofs.YthiimbhjpdphpaaGreatDoor
