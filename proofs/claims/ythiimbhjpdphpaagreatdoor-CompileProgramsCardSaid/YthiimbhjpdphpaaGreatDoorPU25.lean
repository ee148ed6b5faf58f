/- U16, U17, U18, U25 -/
import Derived.Test.YthiimbhjpdphpaaGreatDoorPU15
import Derived.Test.YthiimbhjpdphpaaGreatDoorPW8
set_option linter.unusedVariables false
set_option linter.unusedSimpArgs false
namespace Go.Proofs.YthiimbhjpdphpaaGreatDoor
open Go.RowKit
set_option maxRecDepth 100000
set_option maxHeartbeats 8000000
open Go.Proofs.Tryz
section
theorem strEq {s:ByteArray} {l:List UInt8} (h:s.toList=l):(s.toList == l)=true:=by rw [h];simp
theorem strNe {s:ByteArray} {l:List UInt8} (h:¬ s.toList=l):(s.toList == l)=false:=by simpa using h
attribute [local go_sem] zabZ
set_option maxHeartbeats 4000000 in
theorem wbuiltin_s (s:ByteArray) (w:World):Calls prog 52 #[.string s] w fun e w'=>e=.returned (.tuple #[.int .i64 ((lookL builtL s).getD 0),.bool (lookL builtL s).isSome])∧w'=w:=by
 by_cases h0:s.toList=[108,101,110]
 ·have HT:Hid (lookL builtL s=some 1):=hZz (by unfold lookL;rw [h0];decide)
  have e0:=strEq h0;clear h0;go_enter func52,ntmps52
  go_wp2_with (fail)
  go_returns;exact ⟨by rw [HT.out];rfl,rfl⟩
 by_cases h1:s.toList=[115,116,114]
 ·have HT:Hid (lookL builtL s=some 1):=hZz (by unfold lookL;rw [h1];decide)
  have e0:=strNe h0;have e1:=strEq h1;clear h0 h1;go_enter func52,ntmps52
  go_wp2_with (fail)
  go_returns;exact ⟨by rw [HT.out];rfl,rfl⟩
 by_cases h2:s.toList=[105,110,116]
 ·have HT:Hid (lookL builtL s=some 1):=hZz (by unfold lookL;rw [h2];decide)
  have e0:=strNe h0;have e1:=strNe h1;have e2:=strEq h2;clear h0 h1 h2;go_enter func52,ntmps52
  go_wp2_with (fail)
  go_returns;exact ⟨by rw [HT.out];rfl,rfl⟩
 by_cases h3:s.toList=[107,101,121,115]
 ·have HT:Hid (lookL builtL s=some 1):=hZz (by unfold lookL;rw [h3];decide)
  have e0:=strNe h0;have e1:=strNe h1;have e2:=strNe h2;have e3:=strEq h3;clear h0 h1 h2 h3;go_enter func52,ntmps52
  go_wp2_with (fail)
  go_returns;exact ⟨by rw [HT.out];rfl,rfl⟩
 by_cases h4:s.toList=[102,97,105,108]
 ·have HT:Hid (lookL builtL s=some 1):=hZz (by unfold lookL;rw [h4];decide)
  have e0:=strNe h0;have e1:=strNe h1;have e2:=strNe h2;have e3:=strNe h3;have e4:=strEq h4;clear h0 h1 h2 h3 h4;go_enter func52,ntmps52
  go_wp2_with (fail)
  go_returns;exact ⟨by rw [HT.out];rfl,rfl⟩
 by_cases h5:s.toList=[112,117,115,104]
 ·have HT:Hid (lookL builtL s=some 2):=hZz (by unfold lookL;rw [h5];decide)
  have e0:=strNe h0;have e1:=strNe h1;have e2:=strNe h2;have e3:=strNe h3;have e4:=strNe h4;have e5:=strEq h5;clear h0 h1 h2 h3 h4 h5;go_enter func52,ntmps52
  go_wp2_with (fail)
  go_returns;exact ⟨by rw [HT.out];rfl,rfl⟩
 by_cases h6:s.toList=[104,97,115]
 ·have HT:Hid (lookL builtL s=some 2):=hZz (by unfold lookL;rw [h6];decide)
  have e0:=strNe h0;have e1:=strNe h1;have e2:=strNe h2;have e3:=strNe h3;have e4:=strNe h4;have e5:=strNe h5;have e6:=strEq h6;clear h0 h1 h2 h3 h4 h5 h6;go_enter func52,ntmps52
  go_wp2_with (fail)
  go_returns;exact ⟨by rw [HT.out];rfl,rfl⟩
 by_cases h7:s.toList=[112,117,116]
 ·have HT:Hid (lookL builtL s=some 3):=hZz (by unfold lookL;rw [h7];decide)
  have e0:=strNe h0;have e1:=strNe h1;have e2:=strNe h2;have e3:=strNe h3;have e4:=strNe h4;have e5:=strNe h5;have e6:=strNe h6;have e7:=strEq h7;clear h0 h1 h2 h3 h4 h5 h6 h7;go_enter func52,ntmps52
  go_wp2_with (fail)
  go_returns;exact ⟨by rw [HT.out];rfl,rfl⟩
 have HT:Hid (lookL builtL s=none):=hZz (by
  unfold lookL builtL;simp only [List.lookup];simp [h0,h1,h2,h3,h4,h5,h6,h7,beq_eq_false_iff_ne.2 h0,beq_eq_false_iff_ne.2 h1,beq_eq_false_iff_ne.2 h2,beq_eq_false_iff_ne.2 h3,beq_eq_false_iff_ne.2 h4,beq_eq_false_iff_ne.2 h5,beq_eq_false_iff_ne.2 h6,beq_eq_false_iff_ne.2 h7])
 have e0:=strNe h0;have e1:=strNe h1;have e2:=strNe h2;have e3:=strNe h3;have e4:=strNe h4;have e5:=strNe h5;have e6:=strNe h6;have e7:=strNe h7;clear h0 h1 h2 h3 h4 h5 h6 h7;go_enter func52,ntmps52
 go_wp2_with (fail)
 go_returns;exact ⟨by rw [HT.out];rfl,rfl⟩
set_option maxHeartbeats 4000000 in
theorem whost_s (s:ByteArray) (w:World):Calls prog 148 #[.string s] w fun e w'=>e=.returned (.tuple #[.int .i64 ((lookL hostL s).getD 0),.bool (lookL hostL s).isSome])∧w'=w:=by
 by_cases h0:s.toList=[110,111,119]
 ·have HT:Hid (lookL hostL s=some 0):=hZz (by unfold lookL;rw [h0];decide)
  have e0:=strEq h0;clear h0;go_enter func148,ntmps148
  go_wp2_with (fail)
  go_returns;exact ⟨by rw [HT.out];rfl,rfl⟩
 by_cases h1:s.toList=[103,101,116]
 ·have HT:Hid (lookL hostL s=some 1):=hZz (by unfold lookL;rw [h1];decide)
  have e0:=strNe h0;have e1:=strEq h1;clear h0 h1;go_enter func148,ntmps148
  go_wp2_with (fail)
  go_returns;exact ⟨by rw [HT.out];rfl,rfl⟩
 by_cases h2:s.toList=[100,101,108,101,116,101]
 ·have HT:Hid (lookL hostL s=some 1):=hZz (by unfold lookL;rw [h2];decide)
  have e0:=strNe h0;have e1:=strNe h1;have e2:=strEq h2;clear h0 h1 h2;go_enter func148,ntmps148
  go_wp2_with (fail)
  go_returns;exact ⟨by rw [HT.out];rfl,rfl⟩
 by_cases h3:s.toList=[115,101,99,114,101,116]
 ·have HT:Hid (lookL hostL s=some 1):=hZz (by unfold lookL;rw [h3];decide)
  have e0:=strNe h0;have e1:=strNe h1;have e2:=strNe h2;have e3:=strEq h3;clear h0 h1 h2 h3;go_enter func148,ntmps148
  go_wp2_with (fail)
  go_returns;exact ⟨by rw [HT.out];rfl,rfl⟩
 by_cases h4:s.toList=[108,111,103]
 ·have HT:Hid (lookL hostL s=some 1):=hZz (by unfold lookL;rw [h4];decide)
  have e0:=strNe h0;have e1:=strNe h1;have e2:=strNe h2;have e3:=strNe h3;have e4:=strEq h4;clear h0 h1 h2 h3 h4;go_enter func148,ntmps148
  go_wp2_with (fail)
  go_returns;exact ⟨by rw [HT.out];rfl,rfl⟩
 by_cases h5:s.toList=[112,117,116]
 ·have HT:Hid (lookL hostL s=some 2):=hZz (by unfold lookL;rw [h5];decide)
  have e0:=strNe h0;have e1:=strNe h1;have e2:=strNe h2;have e3:=strNe h3;have e4:=strNe h4;have e5:=strEq h5;clear h0 h1 h2 h3 h4 h5;go_enter func148,ntmps148
  go_wp2_with (fail)
  go_returns;exact ⟨by rw [HT.out];rfl,rfl⟩
 by_cases h6:s.toList=[115,101,110,100]
 ·have HT:Hid (lookL hostL s=some 2):=hZz (by unfold lookL;rw [h6];decide)
  have e0:=strNe h0;have e1:=strNe h1;have e2:=strNe h2;have e3:=strNe h3;have e4:=strNe h4;have e5:=strNe h5;have e6:=strEq h6;clear h0 h1 h2 h3 h4 h5 h6;go_enter func148,ntmps148
  go_wp2_with (fail)
  go_returns;exact ⟨by rw [HT.out];rfl,rfl⟩
 by_cases h7:s.toList=[115,105,103,110,97,108]
 ·have HT:Hid (lookL hostL s=some 2):=hZz (by unfold lookL;rw [h7];decide)
  have e0:=strNe h0;have e1:=strNe h1;have e2:=strNe h2;have e3:=strNe h3;have e4:=strNe h4;have e5:=strNe h5;have e6:=strNe h6;have e7:=strEq h7;clear h0 h1 h2 h3 h4 h5 h6 h7;go_enter func148,ntmps148
  go_wp2_with (fail)
  go_returns;exact ⟨by rw [HT.out];rfl,rfl⟩
 by_cases h8:s.toList=[102,101,116,99,104]
 ·have HT:Hid (lookL hostL s=some 2):=hZz (by unfold lookL;rw [h8];decide)
  have e0:=strNe h0;have e1:=strNe h1;have e2:=strNe h2;have e3:=strNe h3;have e4:=strNe h4;have e5:=strNe h5;have e6:=strNe h6;have e7:=strNe h7;have e8:=strEq h8;clear h0 h1 h2 h3 h4 h5 h6 h7 h8;go_enter func148,ntmps148
  go_wp2_with (fail)
  go_returns;exact ⟨by rw [HT.out];rfl,rfl⟩
 by_cases h9:s.toList=[116,105,109,101,114]
 ·have HT:Hid (lookL hostL s=some 3):=hZz (by unfold lookL;rw [h9];decide)
  have e0:=strNe h0;have e1:=strNe h1;have e2:=strNe h2;have e3:=strNe h3;have e4:=strNe h4;have e5:=strNe h5;have e6:=strNe h6;have e7:=strNe h7;have e8:=strNe h8;have e9:=strEq h9;clear h0 h1 h2 h3 h4 h5 h6 h7 h8 h9;go_enter func148,ntmps148
  go_wp2_with (fail)
  go_returns;exact ⟨by rw [HT.out];rfl,rfl⟩
 have HT:Hid (lookL hostL s=none):=hZz (by
  unfold lookL hostL;simp only [List.lookup];simp [h0,h1,h2,h3,h4,h5,h6,h7,h8,h9,beq_eq_false_iff_ne.2 h0,beq_eq_false_iff_ne.2 h1,beq_eq_false_iff_ne.2 h2,beq_eq_false_iff_ne.2 h3,beq_eq_false_iff_ne.2 h4,beq_eq_false_iff_ne.2 h5,beq_eq_false_iff_ne.2 h6,beq_eq_false_iff_ne.2 h7,beq_eq_false_iff_ne.2 h8,beq_eq_false_iff_ne.2 h9])
 have e0:=strNe h0;have e1:=strNe h1;have e2:=strNe h2;have e3:=strNe h3;have e4:=strNe h4;have e5:=strNe h5;have e6:=strNe h6;have e7:=strNe h7;have e8:=strNe h8;have e9:=strNe h9;clear h0 h1 h2 h3 h4 h5 h6 h7 h8 h9;go_enter func148,ntmps148
 go_wp2_with (fail)
 go_returns;exact ⟨by rw [HT.out];rfl,rfl⟩
theorem findF_at {p:ProgD} {s:ByteArray} {k:Nat} (hk:k<p.funcs.length) (h:∀ j (hj:j<p.funcs.length),j<k→p.funcs[j].name≠s) (he:p.funcs[k].name=s):findF p s=k:=by
 unfold findF
 have:p.funcs.findIdx? (fun f=>decide (f.name=s))=some k:=by
  rw [List.findIdx?_eq_some_iff_getElem];exact ⟨hk,decide_eq_true he,fun j hj=>by simpa using h j (by omega) hj⟩
 rw [this]
theorem findF_not {p:ProgD} {s:ByteArray} (h:∀ j (hj:j<p.funcs.length),p.funcs[j].name≠s):findF p s=-1:=by
 unfold findF
 have:p.funcs.findIdx? (fun f=>decide (f.name=s))=none:=by
  rw [List.findIdx?_eq_none_iff];intro f hf;obtain ⟨j,hj,rfl⟩:=List.mem_iff_getElem.1 hf;simpa using h j hj
 rw [this]
theorem wfunction_s (S:ProgS) (s:ByteArray) (w:World) (hS:ProgV w S) (hf:S.p.funcs.length≤10000):Calls prog 53 #[S.val,.string s] w fun e w'=>e=.returned (.int .i64 (findF S.p s))∧Below w.heap.size w w':=by
 obtain ⟨R,hR⟩:∃ t,findF S.p s=t:=⟨_,rfl⟩
 rw [hR];have HR:=hZz hR;obtain ⟨W0,hW0⟩:∃ W,w.alloc (.cells #[.slice S.A S.p.nodes.length S.ncap,.slice S.B S.p.funcs.length S.fcap] 25)=W:=⟨_,rfl⟩
 obtain ⟨gp,hgp⟩:∃ g,w.heap.size=g:=⟨_,rfl⟩
 have hb0:Below w.heap.size w W0:=by rw [← hW0];exact zacZ _ _
 have HX0:Hid (Blk W0 gp 25 #[.slice S.A S.p.nodes.length S.ncap,.slice S.B S.p.funcs.length S.fcap]):=hZz (by rw [← hW0,← hgp];exact Blk.new _ _ _);have HB0:=hZz hb0;have HW0:=hZz hW0;have HGP:=hZz hgp;have HFV:=hZz (hS.below hb0).funcs;obtain ⟨N,hN⟩:∃ t,S.p.funcs.length=t:=⟨_,rfl⟩
 have HN:=hZz hN;obtain ⟨BB,hBB⟩:∃ t,S.B=t:=⟨_,rfl⟩
 unfold ProgS.val;rw [hBB] at HX0 HW0 HFV ⊢;rw [hN] at HX0 HW0 hf ⊢;clear hR hW0 hgp hb0 hS hN hBB;go_enter func53,ntmps53
 go_upto_region 1 with fail
 rw [HGP.out,HW0.out];clear HW0;have x0:=blk2 HX0.out;go_wp2_with (fail)
 go_loopw [5] (fun iv wr=>∃ k:Nat,k≤N∧iv=.int .i64 k∧Hid (∀ j (hj:j<S.p.funcs.length),j<k→S.p.funcs[j].name≠s)∧wr=W0) (fun iv _=>N - (intOf iv).toNat)
 case atStart=>exact ⟨0,Nat.zero_le _,rfl,hZz (fun j hj h=>by omega),rfl⟩
 case round =>
  obtain ⟨k,hk,rfl,HQ,rfl⟩:=hrel;have hk0:(0:Int)≤(k:Int):=by omega
  by_cases hlt:k<N
  case neg =>
   have e:k=N:=by omega
   subst e;have HRR:Hid (-1=R):=hZz (by rw [← HR.out,findF_not (fun j hj=>HQ.out j hj (by rw [← HN.out];exact hj))]);have hlt':¬ (k:Int)<(k:Int):=by omega
   clear hlt HQ;go_wp2_with (fail)
   go_returns;exact ⟨by rw [← HRR.out];rfl,HB0.out⟩
  have hlt':(k:Int)<(N:Int):=by omega
  have hkl:k<S.p.funcs.length:=by rw [HN.out];exact hlt
  obtain ⟨bF,oF,kA,kc,hBe,_,f0,f1,f2,hkv⟩:=zakY HFV.out hkl;subst hBe;have hbe:=za1Y (S.p.funcs[k]).name s;by_cases he:(S.p.funcs[k]).name=s
  ·have HRR:Hid ((k:Int)=R):=hZz (by rw [← HR.out,findF_at hkl HQ.out he])
   rw [decide_eq_true he] at hbe;obtain ⟨a,ha⟩:∃ t,(S.p.funcs[k]).name=t:=⟨_,rfl⟩
   rw [ha] at f0 hbe;clear he ha hkv f1 f2 hkl;go_wp2_with (fail)
   go_returns;exact ⟨by rw [← HRR.out];rfl,HB0.out⟩
  ·have HQ2:Hid (∀ j (hj:j<S.p.funcs.length),j<k+1→S.p.funcs[j].name≠s):=hZz (fun j hj hjk=>by
    by_cases e:j=k
    ·subst e;exact he
    ·exact HQ.out j hj (by omega))
   rw [decide_eq_false he] at hbe;obtain ⟨a,ha⟩:∃ t,(S.p.funcs[k]).name=t:=⟨_,rfl⟩
   rw [ha] at f0 hbe;clear he ha hkv f1 f2 hkl;go_wp2_with (fail)
   exact ⟨⟨k+1,hlt,by simp,HQ2,by trivial⟩,by simp [intOf];omega⟩
end
section
def callW (p:ProgD) (n:NodeD) (i:Nat) (x:WkD):WkD:=if callE p n=0 then x else failW x i (callE p n)
theorem findF_ltN {p:ProgD} {s:ByteArray} {f:Nat} (h:findF p s=f):f<p.funcs.length:=by
 unfold findF at h;cases hf:p.funcs.findIdx? (fun f=>decide (f.name=s)) with
 | none=>rw [hf] at h;simp only at h;omega
 | some i =>
  rw [hf] at h;obtain ⟨hi,_⟩:=List.findIdx?_eq_some_iff_getElem.1 hf;simp only at h;omega
attribute [local go_sem] zabZ
set_option maxHeartbeats 16000000 in
theorem kcall_s (S:ProgS) (w0:World) (g gl:Nat) (x:WkD) (i:Nat) (w:World) (hS:ProgV w0 S) (h:WkS S w0 g gl x w) (hi:i<S.p.nodes.length) (hl:S.p.nodes.length≤1000) (hf:S.p.funcs.length≤1000) :
  Calls prog 105 #[.pointer (some ⟨g,0,none⟩),.int .i64 i] w fun r w'=>r=.returned (.tuple #[])∧WkS S w0 g gl (callW S.p (S.p.at_ i) i x) w'∧KV w w':=by
 obtain ⟨n,hn⟩:∃ t,S.p.at_ i=t:=⟨_,rfl⟩
 rw [hn];obtain ⟨P,hP⟩:∃ P:Ending→World→Prop,(fun r w'=>r=.returned (.tuple #[])∧WkS S w0 g gl (callW S.p n i x) w'∧KV w w')=P:=⟨_,rfl⟩
 rw [hP]
 have HOKW:Hid (callE S.p n=0→∀ w',WkS S w0 g gl x w'→KV w w'→P (.returned (.tuple #[])) w'):=hZz (fun h0 w' h1 h2=>by
  rw [← hP];refine ⟨rfl,?_,h2⟩
  unfold callW;rw [if_pos h0];exact h1)
 have HBADW:Hid (∀ e,callE S.p n=e→e≠0→∀ w',WkS S w0 g gl (failW x i e) w'→KV w w'→P (.returned (.tuple #[])) w'):=hZz (fun e he h0 w' h1 h2=>by
  rw [← hP];refine ⟨rfl,?_,h2⟩
  unfold callW;rw [he,if_neg h0];exact h1)
 have hnl:S.p.nodes[i]=n:=by rw [← hn];exact (zaiZ hi _).symm
 obtain ⟨nv,sv,hm⟩:=h;have HW:=hZz hm;obtain ⟨b,off,kA,kc,iA,ic,hA,hbA,c0,c1,c2,c3,c4,hkv,hiv⟩:=zalY hS.nodes hi;rw [hnl] at c0 c1 c2 c3 c4;have hbe:=hm.bel;have d0:=cellK c0 hbe;have d1:=cellK c1 hbe;have d2:=cellK c2 hbe;have d3:=cellK c3 hbe;have d4:=cellK c4 hbe;have b0:=hm.b.cell 0 _ rfl;rw [hA] at b0;obtain ⟨V,hV⟩:∃ W,w.alloc (.cells #[.int .i64 n.kind,.string n.text,.int .i64 n.int,.slice kA n.keys.length kc,.slice iA n.kids.length ic] 58)=W:=⟨_,rfl⟩
 obtain ⟨gn,hgn⟩:∃ g,w.heap.size=g:=⟨_,rfl⟩
 have hbV:Below w.heap.size w V:=by rw [← hV];exact zacZ _ _
 have HXV:Hid (Blk V gn 58 #[.int .i64 n.kind,.string n.text,.int .i64 n.int,.slice kA n.keys.length kc,.slice iA n.kids.length ic]):=hZz (by rw [← hV,← hgn];exact Blk.new _ _ _);have HBV:=hZz hbV;have HV:=hZz hV;have HGN:=hZz hgn;have HBU:=hZz (wbuiltin_s n.text);have HHO:=hZz (whost_s n.text);have HFN:Hid (∀ wx,Below w0.heap.size w0 wx→Calls prog 53 #[S.val,.string n.text] wx fun e w'=>e=.returned (.int .i64 (findF S.p n.text))∧Below wx.heap.size wx w'):=hZz (fun wx hb=>wfunction_s S n.text wx (hS.below hb) (by omega));have HFA:Hid (∀ e w3,WkS S w0 g gl x w3→Calls prog 104 #[.pointer (some ⟨g,0,none⟩),.int .i64 i,.int .i64 e] w3 fun r w'=>r=.returned (.tuple #[])∧WkS S w0 g gl (failW x i e) w'∧KV w3 w'):=hZz (fun e w3 h=>wfail_s S w0 g gl x i e w3 h);have HFS:=hZz hS.funcs;have hE:callE S.p n=errW (if n.kind=12 then lookL hostL n.text else wantF S.p n.text) n.kids.length:=rfl;have hWN:wantF S.p n.text=if 0≤findF S.p n.text then some ((S.p.funcs.getD (findF S.p n.text).toNat noFunc).params.length:Int) else lookL builtL n.text:=rfl
 rw [hWN] at hE;have HFL:Hid (∀ f:Nat,findF S.p n.text=f→f<S.p.funcs.length):=hZz (fun f hf=>findF_ltN hf);have HE:=hZz hE;have HWM:Hid (∀ wx,Below w.heap.size w wx→WkS S w0 g gl x wx):=hZz (fun wx hb=>⟨nv,sv,hm.below hb⟩);have HBW:Hid (∀ wx,Below w.heap.size w wx→Below w0.heap.size w0 wx):=hZz (fun wx hb=>zaaZ hb hbe hbe.size);unfold ProgS.val at HFN;rw [hA] at HFN;obtain ⟨nk,hnk⟩:∃ x,n.kind=x:=⟨_,rfl⟩
 obtain ⟨nt,hnt⟩:∃ x,n.text=x:=⟨_,rfl⟩
 obtain ⟨ni,hni⟩:∃ x,n.int=x:=⟨_,rfl⟩
 obtain ⟨nq,hnq⟩:∃ x,n.keys.length=x:=⟨_,rfl⟩
 obtain ⟨m,hmm⟩:∃ x,n.kids.length=x:=⟨_,rfl⟩
 rw [hnk,hnt,hni,hnq,hmm] at HXV HV;rw [hnk] at d0;rw [hnt] at d1 HBU HHO HFN HFL;rw [hni] at d2;rw [hnq] at d3;rw [hmm] at d4;rw [hnk,hnt,hmm] at HE;obtain ⟨fi,hfi⟩:∃ x,findF S.p nt=x:=⟨_,rfl⟩
 rw [hfi] at HFN HE HFL;obtain ⟨lb,hlb⟩:∃ x,lookL builtL nt=x:=⟨_,rfl⟩
 rw [hlb] at HBU HE;obtain ⟨lh,hlh⟩:∃ x,lookL hostL nt=x:=⟨_,rfl⟩
 rw [hlh] at HHO HE;have hiI:(i:Int)<(S.p.nodes.length:Int):=by omega
 have hi0:(0:Int)≤(i:Int):=by omega
 obtain ⟨nn,hnn⟩:∃ x,S.p.nodes.length=x:=⟨_,rfl⟩
 obtain ⟨nf,hnf⟩:∃ x,S.p.funcs.length=x:=⟨_,rfl⟩
 rw [hnn] at hiI b0;rw [hnf] at HFL;have HNF:=hZz hnf;have HBK:Hid (∀ wx,Below w.heap.size w wx→Blk wx g 86 #[.slice S.A nn S.ncap,.slice S.B nf S.fcap,nv,sv,.int .i64 x.next,.slice (some ⟨gl,0,none⟩) x.slot.length x.slot.length,.int .i64 x.node,.int .i64 x.err]):=hZz (fun wx hb=>by rw [← hnn,← hnf];exact hm.b.below hb);rw [hnn,hnf] at HFN;clear hP hn hnl hm c0 c1 c2 c3 c4 hkv hiv hbe hV hgn hbV hS hE hWN hnk hnt hni hnq hmm hfi hlb hlh hi hl hf hnn hnf;go_enter func105,ntmps105
 go_upto_region 1 with fail
 rw [HGN.out,HV.out];clear HV HGN d0 d1 d2 d3 d4 b0;have v1:=blk5n HXV.out;go_upto_region 2 with (go_at_call 52;(with_reducible refine (HBU.out _).mono ?_);rintro e w1 ⟨rfl,hw1⟩;rw [hw1];clear hw1 w1)
 have HVD:=hZz (HXV.out.below (zadZ V));have y1:=blk5n HVD.out;have z0:=(HBK.out _ HBV.out).cell 0 _ rfl;have z1:=(HBK.out _ HBV.out).cell 1 _ rfl;have HBVD:Hid (Below w.heap.size w V.drew):=hZz (zahZ (zadZ V) HBV.out);have y2:=(HBK.out _ HBVD.out).cell 0 _ rfl;have y3:=(HBK.out _ HBVD.out).cell 1 _ rfl;go_region_law (go_simp;go_at_call 53;((refine (HFN.out _ (HBW.out _ HBVD.out)).mono ?_);rintro e w3 ⟨rfl,hb3⟩;have HB3:=hZz (zahZ hb3 HBVD.out);have HX3:=hZz (HVD.out.below hb3);clear hb3))
 all_goals
  clear v1 y1 z0 z1 y2 y3;have v3:=blk5n HX3.out;have z3:=(HBK.out _ HB3.out).cell 1 _ rfl;have HK3:Hid (KV w w3):=hZz (KV.of_below HB3.out);have HM3:=hZz (HWM.out _ HB3.out);have HF4:=hZz (HFA.out 4 w3 HM3.out);have HF7:=hZz (HFA.out 7 w3 HM3.out);by_cases hk12:nk=12
  ·subst hk12
   rw [if_pos rfl] at HE
   have hff:fi<0∨∃ f:Nat,fi=(f:Int):=by
    rcases Int.lt_or_le fi 0 with h | h
    ·exact .inl h
    ·exact .inr ⟨fi.toNat,by omega⟩
   rcases hff with hneg | ⟨f,rfl⟩
   ·have hge:¬ 0≤fi:=by omega
    cases lh with
    | none =>
     have HE0:Hid (callE S.p n=4):=hZz (by rw [HE.out];rfl)
     go_wp2_with (first
      | (go_at_call 148;(with_reducible refine (HHO.out _).mono ?_);rintro e w4 ⟨rfl,hw4⟩;rw [hw4];clear hw4 w4)
      | (go_at_call 104;(with_reducible refine HF4.out.mono ?_);rintro e w5 ⟨rfl,hs5,hk5⟩;have HS5:=hZz hs5;have HK5:=hZz (HK3.out.trans hk5);clear hs5 hk5))
     go_returns;exact HBADW.out 4 HE0.out (by decide) _ HS5.out HK5.out
    | some k =>
     by_cases hq:k=(m:Int)
     ·have HE0:Hid (callE S.p n=0):=hZz (by rw [HE.out];unfold errW;simp only;rw [if_neg (not_not_intro hq)])
      have hqb:((m:Int) != k)=false:=by rw [hq];simp
      clear hq
      go_wp2_with (first
       | (go_at_call 148;(with_reducible refine (HHO.out _).mono ?_);rintro e w4 ⟨rfl,hw4⟩;rw [hw4];clear hw4 w4))
      go_returns;exact HOKW.out HE0.out _ HM3.out HK3.out
     ·have HE0:Hid (callE S.p n=7):=hZz (by rw [HE.out];unfold errW;simp only;rw [if_pos hq])
      have hqb:((m:Int) != k)=true:=by simp;exact fun h=>hq h.symm
      clear hq
      go_wp2_with (first
       | (go_at_call 148;(with_reducible refine (HHO.out _).mono ?_);rintro e w4 ⟨rfl,hw4⟩;rw [hw4];clear hw4 w4)
       | (go_at_call 104;(with_reducible refine HF7.out.mono ?_);rintro e w5 ⟨rfl,hs5,hk5⟩;have HS5:=hZz hs5;have HK5:=hZz (HK3.out.trans hk5);clear hs5 hk5))
      go_returns;exact HBADW.out 7 HE0.out (by decide) _ HS5.out HK5.out
   ·have hge:(0:Int)≤(f:Int):=by omega
    have hfl:=HFL.out f rfl;have hfI:(f:Int)<(nf:Int):=by omega
    obtain ⟨bF,oF,kF,kfc,hBe,_,f0,f1,f2,hkf⟩:=zakY HFS.out (i:=f) (by rw [HNF.out];exact hfl);have f1:=cellK f1 (HBW.out _ HB3.out);rw [hBe] at z3;generalize (S.p.funcs[f]'(by rw [HNF.out];exact hfl)).params.length=np at f1;clear f0 f2 hkf;cases lh with
    | none =>
     have HE0:Hid (callE S.p n=4):=hZz (by rw [HE.out];rfl)
     go_wp2_with (first
      | (go_at_call 148;(with_reducible refine (HHO.out _).mono ?_);rintro e w4 ⟨rfl,hw4⟩;rw [hw4];clear hw4 w4)
      | (go_at_call 104;(with_reducible refine HF4.out.mono ?_);rintro e w5 ⟨rfl,hs5,hk5⟩;have HS5:=hZz hs5;have HK5:=hZz (HK3.out.trans hk5);clear hs5 hk5))
     go_returns;exact HBADW.out 4 HE0.out (by decide) _ HS5.out HK5.out
    | some k =>
     by_cases hq:k=(m:Int)
     ·have HE0:Hid (callE S.p n=0):=hZz (by rw [HE.out];unfold errW;simp only;rw [if_neg (not_not_intro hq)])
      have hqb:((m:Int) != k)=false:=by rw [hq];simp
      clear hq
      go_wp2_with (first
       | (go_at_call 148;(with_reducible refine (HHO.out _).mono ?_);rintro e w4 ⟨rfl,hw4⟩;rw [hw4];clear hw4 w4))
      go_returns;exact HOKW.out HE0.out _ HM3.out HK3.out
     ·have HE0:Hid (callE S.p n=7):=hZz (by rw [HE.out];unfold errW;simp only;rw [if_pos hq])
      have hqb:((m:Int) != k)=true:=by simp;exact fun h=>hq h.symm
      clear hq
      go_wp2_with (first
       | (go_at_call 148;(with_reducible refine (HHO.out _).mono ?_);rintro e w4 ⟨rfl,hw4⟩;rw [hw4];clear hw4 w4)
       | (go_at_call 104;(with_reducible refine HF7.out.mono ?_);rintro e w5 ⟨rfl,hs5,hk5⟩;have HS5:=hZz hs5;have HK5:=hZz (HK3.out.trans hk5);clear hs5 hk5))
      go_returns;exact HBADW.out 7 HE0.out (by decide) _ HS5.out HK5.out
  ·have hk12':(nk == 12)=false:=by simpa using hk12
   rw [if_neg hk12] at HE;clear hk12
   have hff:fi<0∨∃ f:Nat,fi=(f:Int):=by
    rcases Int.lt_or_le fi 0 with h | h
    ·exact .inl h
    ·exact .inr ⟨fi.toNat,by omega⟩
   rcases hff with hneg | ⟨f,rfl⟩
   ·have hge:¬ 0≤fi:=by omega
    rw [if_neg hge] at HE;cases lb with
    | none =>
     have HE0:Hid (callE S.p n=4):=hZz (by rw [HE.out];rfl)
     go_wp2_with (first
      | (go_at_call 104;(with_reducible refine HF4.out.mono ?_);rintro e w5 ⟨rfl,hs5,hk5⟩;have HS5:=hZz hs5;have HK5:=hZz (HK3.out.trans hk5);clear hs5 hk5))
     go_returns;exact HBADW.out 4 HE0.out (by decide) _ HS5.out HK5.out
    | some k =>
     by_cases hq:k=(m:Int)
     ·have HE0:Hid (callE S.p n=0):=hZz (by rw [HE.out];unfold errW;simp only;rw [if_neg (not_not_intro hq)])
      have hqb:((m:Int) != k)=false:=by rw [hq];simp
      clear hq;go_wp2_with (fail)
      go_returns;exact HOKW.out HE0.out _ HM3.out HK3.out
     ·have HE0:Hid (callE S.p n=7):=hZz (by rw [HE.out];unfold errW;simp only;rw [if_pos hq])
      have hqb:((m:Int) != k)=true:=by simp;exact fun h=>hq h.symm
      clear hq
      go_wp2_with (first
       | (go_at_call 104;(with_reducible refine HF7.out.mono ?_);rintro e w5 ⟨rfl,hs5,hk5⟩;have HS5:=hZz hs5;have HK5:=hZz (HK3.out.trans hk5);clear hs5 hk5))
      go_returns;exact HBADW.out 7 HE0.out (by decide) _ HS5.out HK5.out
   ·have hge:(0:Int)≤(f:Int):=by omega
    have hfl:=HFL.out f rfl;have hfI:(f:Int)<(nf:Int):=by omega
    obtain ⟨bF,oF,kF,kfc,hBe,_,f0,f1,f2,hkf⟩:=zakY HFS.out (i:=f) (by rw [HNF.out];exact hfl);have f1:=cellK f1 (HBW.out _ HB3.out);rw [hBe] at z3;have hgd:S.p.funcs.getD f noFunc=S.p.funcs[f]'(by rw [HNF.out];exact hfl):=zaiZ (by rw [HNF.out];exact hfl) _;rw [if_pos hge,Int.toNat_natCast,hgd] at HE;generalize (S.p.funcs[f]'(by rw [HNF.out];exact hfl)).params.length=np at f1 HE;clear f0 f2 hkf hgd;by_cases hq:(np:Int)=(m:Int)
    ·have HE0:Hid (callE S.p n=0):=hZz (by rw [HE.out];unfold errW;simp only;rw [if_neg (not_not_intro hq)])
     have hqb:((m:Int) != (np:Int))=false:=by rw [hq];simp
     clear hq;go_wp2_with (fail)
     go_returns;exact HOKW.out HE0.out _ HM3.out HK3.out
    ·have HE0:Hid (callE S.p n=7):=hZz (by rw [HE.out];unfold errW;simp only;rw [if_pos hq])
     have hqb:((m:Int) != (np:Int))=true:=by simp;exact fun h=>hq h.symm
     clear hq
     go_wp2_with (first
      | (go_at_call 104;(with_reducible refine HF7.out.mono ?_);rintro e w5 ⟨rfl,hs5,hk5⟩;have HS5:=hZz hs5;have HK5:=hZz (HK3.out.trans hk5);clear hs5 hk5))
     go_returns;exact HBADW.out 7 HE0.out (by decide) _ HS5.out HK5.out
end
def BdW (x:WkD) (d N:Nat):Prop:=x.vis.length+d≤10000∧0≤x.next∧x.next+d≤10000∧x.slot.length=N
theorem BdW.sub {x:WkD} {d e N:Nat} (h:BdW x d N) (hd:e≤d):BdW x e N:=by
 unfold BdW at h ⊢;omega
theorem zbuY {x:WkD} {i e:Int} {d N:Nat} (h:BdW x d N):BdW (failW x i e) d N∧(failW x i e).vis.length=x.vis.length:=by
 obtain ⟨h1,h2,h3⟩:=za4Y x i e;unfold BdW at h ⊢;rw [h1,h2,h3];exact ⟨h,rfl⟩
theorem setW_bd {x:WkD} {i:Nat} {v:Int} {d N:Nat} (h:BdW x d N):BdW (setW x i v) d N∧(setW x i v).vis.length=x.vis.length:=by
 unfold BdW at h ⊢;simp only [setW,List.length_set];exact ⟨h,trivial⟩
theorem declW_bd {x:WkD} {s:ByteArray} {d N:Nat} (h:BdW x (d+1) N):BdW (declW x s) d N∧(declW x s).vis.length=x.vis.length+1:=by
 unfold BdW at h ⊢;simp only [declW,List.length_append,List.length_cons,List.length_nil];refine ⟨?_,trivial⟩
 omega
theorem letC_bd {x:WkD} {i:Nat} {s:ByteArray} {d N:Nat} (h:BdW x d N):BdW (letC x i s) d N∧(letC x i s).vis.length=x.vis.length:=by
 unfold letC;split
 ·exact zbuY h
 split
 ·exact zbuY h
 ·exact ⟨h,rfl⟩
theorem endW_bd {p:ProgD} {n:NodeD} {i m:Nat} {x:WkD} {d N:Nat} (h:BdW x (d+1) N) (hm:m≤x.vis.length):BdW (endW p n i m x) d N∧m≤(endW p n i m x).vis.length:=by
 have h0:=h.sub (Nat.le_succ d);unfold endW;split
 ·refine ⟨?_,by simp only [List.length_take];omega⟩
  unfold BdW at h0 ⊢;simp only [List.length_take];omega
 split
 ·unfold varW
  split
  ·have h1:=setW_bd (i:=i) (v:=visW x.vis n.text) h0
   have h2:=zbuY (i:=(i:Int)) (e:=4) h1.1;exact ⟨h2.1,by rw [h2.2,h1.2];exact hm⟩
  ·have h1:=setW_bd (i:=i) (v:=visW x.vis n.text) h0
   exact ⟨h1.1,by rw [h1.2];exact hm⟩
 split
 ·unfold letW
  have h1:=letC_bd (i:=i) (s:=n.text) h;have h2:=declW_bd (s:=n.text) h1.1;have h3:=setW_bd (i:=i) (v:=(letC x i n.text).next) h2.1;exact ⟨h3.1,by rw [h3.2,h2.2,h1.2];omega⟩
 split
 ·split
  ·exact ⟨h0,hm⟩
  ·have h2:=zbuY (i:=(i:Int)) (e:=callE p n) h0
   exact ⟨h2.1,by rw [h2.2];exact hm⟩
 ·exact ⟨h0,hm⟩
theorem seqW_bd {p:ProgD} {f N:Nat} (hr:∀ i s x d,firstF p.nodes f i=some s→BdW x (d+(i+1 - s)) N→BdW (visitW p f i x) d N∧x.vis.length≤(visitW p f i x).vis.length) {r:List Int} {s e:Nat} (h:Cover p.nodes f r s e):∀ x d,BdW x (d+(e - s)) N→BdW (r.foldl (fun y k=>visitW p f k.toNat y) x) d N∧x.vis.length≤(r.foldl (fun y k=>visitW p f k.toNat y) x).vis.length:=by
 induction h with
 | nil s=>intro x d h;exact ⟨h.sub (by omega),Nat.le_refl _⟩
 | cons r s m e h1 h2 ih =>
  intro x d h;have q1:=zaaY h1;have q2:=h2.le';obtain ⟨g1,g2⟩:=hr m s x (d+(e - (m+1))) h1 (h.sub (by omega));obtain ⟨g3,g4⟩:=ih _ d g1;simp only [List.foldl_cons,Int.toNat_natCast];exact ⟨g3,Nat.le_trans g2 g4⟩
theorem visitW_bd (p:ProgD) (N:Nat):∀ f i s x d,firstF p.nodes f i=some s→BdW x (d+(i+1 - s)) N→BdW (visitW p f i x) d N∧x.vis.length≤(visitW p f i x).vis.length:=by
 intro f;induction f with
 | zero=>intro i s x d h;cases h
 | succ f ih =>
  intro i s x d h hb;have T:=zadY h;have hs:=zaaY h;have hcv:=T.cover;rw [show p.nodes.getD i noNode=p.at_ i from rfl] at hcv;obtain ⟨g1,g2⟩:=seqW_bd ih hcv x (d+1) (hb.sub (by omega));simp only [visitW];exact endW_bd g1 g2
theorem Cover.len {l:List NodeD} {f:Nat} {r:List Int} {s e:Nat} (h:Cover l f r s e):r.length≤e - s:=by
 induction h with
 | nil s=>simp
 | cons r s m e h1 h2 ih =>
  have:=zaaY h1
  have:=h2.le'
  simp only [List.length_cons];omega
theorem own_prefixU {w:World} {base n m cap size:Nat} {A:Option Addr} {xs:List Value} {e:TypeId} (h:w.ownsRow base e size (.slice A n cap) n xs) (hm:m≤n):w.ownsRow base e size (.slice A m cap) m (xs.take (m * size)):=by
 have hle:m * size≤n * size:=Nat.mul_le_mul_right _ hm;refine ⟨by rw [List.length_take,h.1];omega,?_⟩
 rcases h.2 with ⟨e1,e2⟩ | ⟨g,c,cur,e1,e2,e3,e4,e5,e6,e7⟩
 ·injection e1 with e1 e3 e4
  have:m=0:=by omega
  subst e1 this e4;exact .inl ⟨rfl,rfl⟩
 ·injection e1 with e1 e8 e9
  subst e1 e9;refine .inr ⟨g,cap,cur,rfl,e2,e3,by omega,e5,e6,?_⟩
  rw [← e7,List.take_take];congr 1
  omega
theorem own_capU {w:World} {base n cap size:Nat} {A:Option Addr} {xs:List Value} {e:TypeId} (h:w.ownsRow base e size (.slice A n cap) n xs):n≤cap:=by
 rcases h.2 with ⟨e1,e2⟩ | ⟨g,c,cur,e1,_,_,hc,_⟩
 ·omega
 ·injection e1 with _ _ e4
  omega
theorem WkM.cut {S:ProgS} {w0 w:World} {g gl:Nat} {x:WkD} {A A':Option Addr} {c c':Nat} (h:WkM S w0 g x w (.slice A x.vis.length c) (.slice A' x.vis.length c') gl) {m:Nat} (hm:m≤x.vis.length) :
  WkS S w0 g gl { x with vis:=x.vis.take m } ((w.setCell ⟨g,2,none⟩ (.slice A m c)).setCell ⟨g,3,none⟩ (.slice A' m c'))∧KV w ((w.setCell ⟨g,2,none⟩ (.slice A m c)).setCell ⟨g,3,none⟩ (.slice A' m c')):=by
 have k1:=KT.set h.b 2 (.slice A m c);have b1:=h.b.set_ 2 (.slice A m c);have k2:=KT.set b1 3 (.slice A' m c');have hl:(x.vis.take m).length=m:=by rw [List.length_take];omega
 have hb1:=h.bel.grown (zaeY w g 2 (.slice A m c)) h.bel.size (fun k hk=>by injection hk with hk;have:=h.gb;omega);refine ⟨⟨.slice A m c,.slice A' m c',b1.set_ 3 (.slice A' m c'),?_,?_,k2.blk (by decide) (k1.blk (by decide) h.l),(fun k hk=>h.ap k (by cases A' <;> exact hk)),hb1.grown (zaeY _ g 3 (.slice A' m c')) hb1.size (fun k hk=>by injection hk with hk;have:=h.gb;omega),h.gb,h.gc⟩,(KV.wlk k1).trans (KV.wlk k2)⟩
 ·have:=own_prefixU (k2.own (by decide) (k1.own (by decide) h.n)) hm
  rw [Nat.mul_one,← List.map_take] at this;rw [hl];exact this
 ·have:=own_prefixU (k2.own (by decide) (k1.own (by decide) h.s)) hm
  rw [Nat.mul_one,← List.map_take] at this;rw [hl];exact this
theorem WkS.slot {S:ProgS} {w0 w:World} {g gl:Nat} {x:WkD} (h:WkS S w0 g gl x w) (i:Nat) (v:Int):WkS S w0 g gl (setW x i v) (w.setCell ⟨gl,i,none⟩ (.int .i64 v))∧KV w (w.setCell ⟨gl,i,none⟩ (.int .i64 v)):=by
 obtain ⟨nv,sv,h⟩:=h;have k:=KT.set h.l i (.int .i64 v);have hg:=zaeY w gl i (.int .i64 v);refine ⟨⟨nv,sv,?_,k.own (by decide) h.n,own_grown h.s hg (fun k hk hk2=>h.ap k hk2.symm (by injection hk with hk;exact hk.symm)),?_,h.ap,h.bel.grown hg h.bel.size (fun k hk=>by injection hk with hk;have:=h.gc;omega),h.gb,h.gc⟩,KV.int k⟩
 ·have:=k.blk (by decide) h.b
  simp only [setW,List.length_set];exact this
 ·have:=h.l.set_ i (.int .i64 v)
  simp only [setW]
  rwa [show (x.slot.map (Value.int .i64)).toArray.setIfInBounds i (.int .i64 v)=((x.slot.set i v).map (Value.int .i64)).toArray by simp [List.map_set]] at this
def VisH (S:ProgS) (w0:World) (g gl:Nat) (f:Nat):Prop:=∀ (i s:Nat) (x:WkD) (w:World),firstF S.p.nodes f i=some s→i<S.p.nodes.length→WkS S w0 g gl x w→BdW x (i+1 - s) S.p.nodes.length →
 Calls prog 72 #[.pointer (some ⟨g,0,none⟩),.int .i64 i] w fun r w'=>r=.returned (.tuple #[])∧WkS S w0 g gl (visitW S.p f i x) w'∧KV w w'
section
def KeysB (S:ProgS) (w0:World) (kv:Value) (ks:List ByteArray):Prop:=∀ wk,Below wk.heap.size wk w0→ProgV wk S→KeysV wk kv ks
structure TrSt (w0 w:World) (S:ProgS) (sA:Option Addr) (sn sc gW:Nat) (e0:Int) (L:List (InsD × Value)):Prop where
 wr:∃ iv,Blk w gW 89 #[.slice S.A S.p.nodes.length S.ncap,.slice S.B S.p.funcs.length S.fcap,.slice sA sn sc,iv,.int .i64 e0]∧w.ownsRow w0.heap.size 53 4 iv L.length (L.flatMap insRow)
 keys:∀ p∈L,KeysB S w0 p.2 p.1.keys
 bl:Below w0.heap.size w0 w
 bW:w0.heap.size≤gW
section
variable {w0 w w':World} {S:ProgS} {sA:Option Addr} {sn sc gW:Nat} {e0:Int} {L:List (InsD × Value)}
theorem TrSt.below (h:TrSt w0 w S sA sn sc gW e0 L) (hb:Below w.heap.size w w'):TrSt w0 w' S sA sn sc gW e0 L:=by
 obtain ⟨⟨iv,h1,h2⟩,h3,h4,h5⟩:=h;exact ⟨⟨iv,h1.below hb,zagZ h2 hb⟩,h3,zaaZ hb h4 h4.size,h5⟩
theorem TrSt.kw (h:TrSt w0 w S sA sn sc gW e0 L) (hb:Below w.heap.size w w'):KW w0.heap.size gW w w':=KW.of_below hb h.bl.size
end
attribute [local go_sem] zabZ
set_option maxHeartbeats 4000000 in
theorem zb7Y (w0:World) (S:ProgS) (sA:Option Addr) (sn sc gW:Nat) (e0:Int) (L:List (InsD × Value)) (w:World) (h:TrSt w0 w S sA sn sc gW e0 L) (he:0≤e0∧e0≤4000) (hL:L.length≤100000):Calls prog 102 #[.pointer (some ⟨gW,0,none⟩)] w fun e w'=>e=.returned (.int .i64 (e0+(L.length:Nat)))∧∃ q,w'=w.drewN q:=by
 obtain ⟨⟨iv,h1,h2⟩,_,_,_⟩:=h;obtain ⟨iA,ic,rfl⟩:=zajZ h2;obtain ⟨c0,c1,c2,c3,c4⟩:=blkW h1;generalize L.length=n at hL c3 ⊢;have hw:IntKind.i64.wrap (e0+(n:Int))=e0+(n:Int):=IntWalk.i64_in _ (by omega);clear h1 h2 c0 c1 c2;go_enter func102,ntmps102
 go_wp2
 go_quiet (fail);go_wp2
 go_returns;exact ⟨by first | rfl | (rw [hw]),_,rfl⟩
set_option maxHeartbeats 16000000 in
theorem tadd_s (w0:World) (S:ProgS) (sA:Option Addr) (sn sc gW:Nat) (e0:Int) (L:List (InsD × Value)) (w:World) (op a:Int) (s:ByteArray) (ks:List ByteArray) (kA:Option Addr) (kc:Nat) (h:TrSt w0 w S sA sn sc gW e0 L) (hL:L.length≤100000) (hk:KeysB S w0 (.slice kA ks.length kc) ks) :
  Calls prog 45 #[.pointer (some ⟨gW,0,none⟩),.agg #[.int .i64 op,.int .i64 a,.string s,.slice kA ks.length kc]] w fun e w'=>e=.returned (.int .i64 (L.length:Nat))∧TrSt w0 w' S sA sn sc gW e0 (L ++ [(⟨op,a,s,ks⟩,.slice kA ks.length kc)])∧KW w0.heap.size gW w w':=by
 obtain ⟨P,hP⟩:∃ P:Ending→World→Prop,(fun e w'=>e=.returned (.int .i64 (L.length:Nat))∧TrSt w0 w' S sA sn sc gW e0 (L ++ [(⟨op,a,s,ks⟩,.slice kA ks.length kc)])∧KW w0.heap.size gW w w')=P:=⟨_,rfl⟩
 rw [hP];have HP:Hid (∀ (x:Int) w',x=(L.length:Nat)→TrSt w0 w' S sA sn sc gW e0 (L ++ [(⟨op,a,s,ks⟩,.slice kA ks.length kc)])→KW w0.heap.size gW w w'→P (.returned (.int .i64 x)) w'):=hZz (fun x w' h0 h1 h2=>by rw [← hP,h0];exact ⟨rfl,h1,h2⟩);obtain ⟨i0,hi,hz0,hz1,hz2⟩:=info_parts Tryz.infoIns;obtain ⟨⟨iv,h1,h2⟩,h3,h4,h5⟩:=h;obtain ⟨iA,ic,rfl⟩:=zajZ h2;have H1:=hZz h1;have H3:=hZz h3;have H4:=hZz h4;have H5:=hZz h5;have HK:=hZz hk;obtain ⟨kq,hkq⟩:∃ t,ks.length=t:=⟨_,rfl⟩
 have HKQ:=hZz hkq;rw [hkq] at HP HK ⊢;obtain ⟨n,hn⟩:∃ n,L.length=n:=⟨_,rfl⟩
 have HN:=hZz hn;rw [hn] at hL h1 h2 HP H1;have hwr:IntKind.i64.wrap (((n+1:Nat):Int) - 1)=(n:Int):=by rw [show ((n+1:Nat):Int) - 1=(n:Int) by omega];exact IntWalk.i64_in _ (by omega)
 have hwr2:IntKind.i64.wrap ((n:Int)+1 - 1)=(n:Int):=by rw [show (n:Int)+1 - 1=(n:Int) by omega];exact IntWalk.i64_in _ (by omega)
 obtain ⟨W1,hW1⟩:∃ W,w.alloc (.cells #[.int .i64 op,.int .i64 a,.string s,.slice kA kq kc] 53)=W:=⟨_,rfl⟩
 obtain ⟨gx,hgx⟩:∃ g,w.heap.size=g:=⟨_,rfl⟩
 have hb1:Below w.heap.size w W1:=by rw [← hW1];exact zacZ _ _
 have hX1:Blk W1 gx 53 #[.int .i64 op,.int .i64 a,.string s,.slice kA kq kc]:=by rw [← hW1,← hgx];exact Blk.new _ _ _
 have hb2:Below W1.heap.size W1 (W1.drew.alloc (.cells #[.int .i64 op,.int .i64 a,.string s,.slice kA kq kc] 53)):=(zadZ W1).trans ((zacZ W1.drew (.cells #[.int .i64 op,.int .i64 a,.string s,.slice kA kq kc] 53)).mono (by simp));have hbw:Below w.heap.size w (W1.drew.alloc (.cells #[.int .i64 op,.int .i64 a,.string s,.slice kA kq kc] 53)):=zaaZ hb2 hb1 hb1.size;have HSA:=hZz (zagZ (zagZ h2 hb1) hb2);have HBA:=hZz ((h1.below hb1).below hb2);have HBW:=hZz hbw;have HSZ:Hid (w0.heap.size≤(W1.drew.alloc (.cells #[.int .i64 op,.int .i64 a,.string s,.slice kA kq kc] 53)).heap.size):=hZz (Nat.le_trans h4.size hbw.size);have v3:=(h1.below hb1).cell 3 _ rfl;have c3:=((h1.below hb1).below (zadZ W1)).cell 3 _ rfl;obtain ⟨x0,x1,x2,x3⟩:=blk4n hX1;obtain ⟨y0,y1,y2,y3⟩:=blk4n (hX1.below (zadZ W1));have hnew:=zapY W1.drew [.int .i64 op,.int .i64 a,.string s,.slice kA kq kc] 53;have HW1:=hZz hW1;have HGX:=hZz hgx;clear hP h1 h2 h3 h4 h5 hk hkq hn hW1 hgx hb1 hX1 hb2 hbw;go_enter func45,ntmps45
 go_upto_region 1 with fail
 rw [HGX.out,HW1.out];go_region_law (rw [if_pos (by rfl)];refine wp_append_lies _ (.tmp 9) (.tmp 11) 29 rfl w0.heap.size 53 i0 _ 4 56 underlying29 hi hz0 hz1 hz2 rfl ?k1 _ n _ rfl HSA.out ⟨W1.drew.heap.size,0,none⟩ 1 1 [.int .i64 op,.int .i64 a,.string s,.slice kA kq kc] rfl rfl hnew ?k2 ?k3 ?k4 ?k5 ?k6 _ rfl ?_;(case k1=>decide);(case k2=>simp [Value.oneCell']);(case k3=>decide);(case k4=>(unfold maxLen;omega));(case k5=>omega);(case k6=>exact HSZ.out);intro g6 cap6 w6 hown6 hgr6 hat6 _;have HB6:=hZz (HBA.out.grown hgr6 (zafZ HSA.out HBA.out (by decide)));have z6:=HB6.out.frozen 3;have o6:=HB6.out.cell 3 _ rfl;have HO6:=hZz hown6;have HGR:=hZz hgr6;clear hown6 hgr6 hat6)
 all_goals
  have hb7:=HB6.out.set_ 3 (.slice (some ⟨g6,0,none⟩) (n+1) cap6);have y7:=hb7.cell 3 _ rfl;have HB7:=hZz hb7;clear hb7;go_wp2_with (fail)
  have HK6:Hid (KW w0.heap.size gW w w6):=hZz (((KW.refl _ _ w).trans (KW.of_below HBW.out H4.out.size)).grown HSA.out (Nat.le_refl _) HSZ.out HGR.out);have HKX:=hZz (HK6.out.setW H5.out 3 (.slice (some ⟨g6,0,none⟩) (n+1) cap6));refine HP.out _ _ (by first | rfl | exact hwr | exact hwr2) ⟨⟨_,HB7.out,?_⟩,?_,HKX.out.bel H4.out,H5.out⟩ HKX.out
  ·rw [List.length_append,HN.out,List.flatMap_append]
   exact ((GL.refl [gW] w6).setCell (by simp) 3 _).own HO6.out (fun g hg hm=>by
    have:g=gW:=by simpa using hm
    subst this;exact zafZ HO6.out HB6.out (by decide) hg.symm)
  ·intro p hp
   rcases List.mem_append.1 hp with hp | hp
   ·exact H3.out p hp
   ·rw [List.mem_singleton.1 hp]
    show KeysB S w0 (.slice kA kq kc) ks;exact HK.out
theorem keysV_nil (w:World):KeysV w nilK []:=⟨none,0,rfl,Nat.le_refl _,by intro i row h;simp at h⟩
theorem zacY (w0:World) (S:ProgS) (sA:Option Addr) (sn sc gW:Nat) (e0:Int) (L:List (InsD × Value)) (w:World) (op a:Int) (s:ByteArray) (h:TrSt w0 w S sA sn sc gW e0 L) (hL:L.length≤100000) :
  Calls prog 45 #[.pointer (some ⟨gW,0,none⟩),.agg #[.int .i64 op,.int .i64 a,.string s,.slice none 0 0]] w fun e w'=>e=.returned (.int .i64 (L.length:Nat))∧TrSt w0 w' S sA sn sc gW e0 (L ++ [(⟨op,a,s,[]⟩,nilK)])∧KW w0.heap.size gW w w' :=
 tadd_s w0 S sA sn sc gW e0 L w op a s [] none 0 h hL (fun wk _ _=>keysV_nil wk)
theorem TrSt.jump {w0 w:World} {S:ProgS} {sA:Option Addr} {sn sc gW:Nat} {e0:Int} {A B:List (InsD × Value)} {op:Int} (h:TrSt w0 w S sA sn sc gW e0 (A ++ (insO op 0,nilK) :: B)):∃ gi ic,w.cell? ⟨gW,3,none⟩=some (.slice (some ⟨gi,0,none⟩) (A.length+B.length+1) ic)∧w.cell? ⟨gi,A.length * 4+1,none⟩=some (.int .i64 0)∧w.frozen? ⟨gi,A.length * 4+1,none⟩=false ∧
  ∀ wx,Below w.heap.size w wx→∀ v,TrSt w0 (wx.setCell ⟨gi,A.length * 4+1,none⟩ (.int .i64 v)) S sA sn sc gW e0 (A ++ (insO op v,nilK) :: B)∧KW w0.heap.size gW w (wx.setCell ⟨gi,A.length * 4+1,none⟩ (.int .i64 v))∧(wx.setCell ⟨gi,A.length * 4+1,none⟩ (.int .i64 v)).cell? ⟨gW,3,none⟩=some (.slice (some ⟨gi,0,none⟩) (A.length+B.length+1) ic):=by
 have hlen:(A ++ (insO op 0,nilK) :: B).length=A.length+B.length+1:=by rw [List.length_append,List.length_cons];omega
 have hk:A.length<(A ++ (insO op 0,nilK) :: B).length:=by omega
 have h':=h;obtain ⟨⟨iv,hw,ho⟩,hks,hbl,hbw⟩:=h;obtain ⟨gi,ic,rfl⟩:=own_ptr ho (by omega);obtain ⟨cur,hcur,hget⟩:=own_blkG ho;have hq:=hget _ _ (flat_get _ A.length hk);rw [get_mid] at hq;rw [hlen] at hw;have n3:gi≠gW:=za8Y hcur hw (by decide);refine ⟨gi,ic,hw.cell 3 _ rfl,hcur.cell _ _ hq,hcur.frozen _,fun wx hb v=>?_⟩
 have hK:KW w0.heap.size gW w (wx.setCell ⟨gi,A.length * 4+1,none⟩ (.int .i64 v)):=(h'.kw hb).setI (zagZ ho hb) (Nat.le_refl _) _ _;have hl2:(A ++ (insO op v,nilK) :: B).length=(A ++ (insO op 0,nilK) :: B).length:=by rw [hlen,List.length_append,List.length_cons];omega
 have hfar:=(hw.below hb).far (p:=⟨gi,A.length * 4+1,none⟩) (fun e=>n3 e.symm) (.int .i64 v);refine ⟨⟨⟨.slice (some ⟨gi,0,none⟩) (A.length+B.length+1) ic,?_,?_⟩,?_,hK.bel hbl,hbw⟩,hK,hfar.cell 3 _ rfl⟩
 ·exact hfar
 ·have:=ownSet (zagZ ho hb) (A.length * 4+1) (.int .i64 v)
  rw [flat_set _ A.length hk v,get_mid,set_mid] at this;rw [hlen] at this;rw [hl2,hlen];exact this
 ·intro p hp
  rcases List.mem_append.1 hp with hp | hp
  ·exact hks p (List.mem_append_left _ hp)
  ·rcases List.mem_cons.1 hp with rfl | hp
   ·exact fun wk _ _=>keysV_nil wk
   ·exact hks p (List.mem_append_right _ (List.mem_cons_of_mem _ hp))
theorem tfunction_s (S:ProgS) (s:ByteArray) (w:World) (hS:ProgV w S) (hf:S.p.funcs.length≤10000):Calls prog 70 #[S.val,.string s] w fun e w'=>e=.returned (.int .i64 (findF S.p s))∧Below w.heap.size w w':=by
 obtain ⟨R,hR⟩:∃ t,findF S.p s=t:=⟨_,rfl⟩
 rw [hR];have HR:=hZz hR;obtain ⟨W0,hW0⟩:∃ W,w.alloc (.cells #[.slice S.A S.p.nodes.length S.ncap,.slice S.B S.p.funcs.length S.fcap] 25)=W:=⟨_,rfl⟩
 obtain ⟨gp,hgp⟩:∃ g,w.heap.size=g:=⟨_,rfl⟩
 have hb0:Below w.heap.size w W0:=by rw [← hW0];exact zacZ _ _
 have HX0:Hid (Blk W0 gp 25 #[.slice S.A S.p.nodes.length S.ncap,.slice S.B S.p.funcs.length S.fcap]):=hZz (by rw [← hW0,← hgp];exact Blk.new _ _ _);have HB0:=hZz hb0;have HW0:=hZz hW0;have HGP:=hZz hgp;have HFV:=hZz (hS.below hb0).funcs;obtain ⟨N,hN⟩:∃ t,S.p.funcs.length=t:=⟨_,rfl⟩
 have HN:=hZz hN;obtain ⟨BB,hBB⟩:∃ t,S.B=t:=⟨_,rfl⟩
 unfold ProgS.val;rw [hBB] at HX0 HW0 HFV ⊢;rw [hN] at HX0 HW0 hf ⊢;clear hR hW0 hgp hb0 hS hN hBB;go_enter func70,ntmps70
 go_upto_region 1 with fail
 rw [HGP.out,HW0.out];clear HW0;have x0:=blk2 HX0.out;go_wp2_with (fail)
 go_loopw [5] (fun iv wr=>∃ k:Nat,k≤N∧iv=.int .i64 k∧Hid (∀ j (hj:j<S.p.funcs.length),j<k→S.p.funcs[j].name≠s)∧wr=W0) (fun iv _=>N - (intOf iv).toNat)
 case atStart=>exact ⟨0,Nat.zero_le _,rfl,hZz (fun j hj h=>by omega),rfl⟩
 case round =>
  obtain ⟨k,hk,rfl,HQ,rfl⟩:=hrel;have hk0:(0:Int)≤(k:Int):=by omega
  by_cases hlt:k<N
  case neg =>
   have e:k=N:=by omega
   subst e;have HRR:Hid (-1=R):=hZz (by rw [← HR.out,findF_not (fun j hj=>HQ.out j hj (by rw [← HN.out];exact hj))]);have hlt':¬ (k:Int)<(k:Int):=by omega
   clear hlt HQ;go_wp2_with (fail)
   go_returns;exact ⟨by rw [← HRR.out];rfl,HB0.out⟩
  have hlt':(k:Int)<(N:Int):=by omega
  have hkl:k<S.p.funcs.length:=by rw [HN.out];exact hlt
  obtain ⟨bF,oF,kA,kc,hBe,_,f0,f1,f2,hkv⟩:=zakY HFV.out hkl;subst hBe;have hbe:=za1Y (S.p.funcs[k]).name s;by_cases he:(S.p.funcs[k]).name=s
  ·have HRR:Hid ((k:Int)=R):=hZz (by rw [← HR.out,findF_at hkl HQ.out he])
   rw [decide_eq_true he] at hbe;obtain ⟨a,ha⟩:∃ t,(S.p.funcs[k]).name=t:=⟨_,rfl⟩
   rw [ha] at f0 hbe;clear he ha hkv f1 f2 hkl;go_wp2_with (fail)
   go_returns;exact ⟨by rw [← HRR.out];rfl,HB0.out⟩
  ·have HQ2:Hid (∀ j (hj:j<S.p.funcs.length),j<k+1→S.p.funcs[j].name≠s):=hZz (fun j hj hjk=>by
    by_cases e:j=k
    ·subst e;exact he
    ·exact HQ.out j hj (by omega))
   rw [decide_eq_false he] at hbe;obtain ⟨a,ha⟩:∃ t,(S.p.funcs[k]).name=t:=⟨_,rfl⟩
   rw [ha] at f0 hbe;clear he ha hkv f1 f2 hkl;go_wp2_with (fail)
   exact ⟨⟨k+1,hlt,by simp,HQ2,by trivial⟩,by simp [intOf];omega⟩
end
end Go.Proofs.YthiimbhjpdphpaaGreatDoor
