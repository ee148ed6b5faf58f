/- S5, S6, S7, S8, S9, JA -/
import Derived.Test.YthiimbhjpdphpaaGreatDoorPS4
set_option linter.unusedVariables false
set_option linter.unusedSimpArgs false
namespace Go.Proofs.YthiimbhjpdphpaaGreatDoor
open Go.RowKit
set_option maxRecDepth 100000
set_option maxHeartbeats 8000000
open Go.Proofs.Tryz
section
def idxI:Option Nat→Int
 | none=>-1
 | some k=>k
theorem zbdY {α:Type} {l:List α} {Q:α→Bool} (h:∀ j (hj:j<l.length),Q l[j]=false):l.findIdx? Q=none:=by
 rw [List.findIdx?_eq_none_iff];intro x hx;obtain ⟨j,hj,rfl⟩:=List.getElem_of_mem hx;exact h j hj
theorem zbcY {α:Type} {l:List α} {Q:α→Bool} {k:Nat} (hk:k<l.length) (hq:Q l[k]=true) (h:∀ j (hj:j<l.length),j<k→Q l[j]=false):l.findIdx? Q=some k:=by
 rw [List.findIdx?_eq_some_iff_getElem];exact ⟨hk,hq,fun j hj=>by rw [h j (by omega) hj];simp⟩
theorem FuncsV.below {w w':World} {v:Value} {l:List FuncD} (h:FuncsV w v l) (hb:Below w.heap.size w w'):FuncsV w' v l:=zahY stays_func _ _ _ _ h hb
theorem zakY {w:World} {A:Option Addr} {cap:Nat} {l:List FuncD} (h:FuncsV w (.slice A l.length cap) l) {i:Nat} (hi:i<l.length):∃ b off kA kc,A=some ⟨b,off,none⟩∧b<w.heap.size ∧
  w.cell? ⟨b,off+i * 3,none⟩=some (.string (l[i]).name)∧w.cell? ⟨b,off+i * 3+1,none⟩=some (.slice kA (l[i]).params.length kc)∧w.cell? ⟨b,off+i * 3+2,none⟩=some (.int .i64 (l[i]).body)∧KeysV w (.slice kA (l[i]).params.length kc) (l[i]).params:=by
 obtain ⟨_,_,b,off,kv,hA,hb,c0,c1,c2,hk⟩:=func_cells h hi;obtain ⟨kA,kc,rfl⟩:=hk.shape;exact ⟨b,off,kA,kc,hA,hb,c0,c1,c2,hk⟩
attribute [local go_sem] zabZ
theorem indexF_any (l:List FuncD) (A:Option Addr) (cap:Nat) (fid:FuncId) (caps:Array Value) (Q:FuncD→Bool) (w0 w:World) (hV:FuncsV w0 (.slice A l.length cap) l) (hw:Below w0.heap.size w0 w) (hl:l.length≤10000) (hent:∀ args w,(callFunc fid args).run prog w=.ok (.enter fid args) w)
  (hy:∀ k (hk:k<l.length) wx kA kc,Below w.heap.size w wx→Calls prog fid (#[.agg #[.string (l[k]).name,.slice kA (l[k]).params.length kc,.int .i64 (l[k]).body]] ++ caps) wx fun e w'=>e=.returned (.bool (Q l[k]))∧Below wx.heap.size wx w') :
  Calls prog 136 #[.slice A l.length cap,.func (.func fid) #[] caps] w fun e w'=>e=.returned (.int .i64 (idxI (l.findIdx? Q)))∧Below w.heap.size w w':=by
 obtain ⟨R,hR⟩:∃ R,l.findIdx? Q=R:=⟨_,rfl⟩
 rw [hR];obtain ⟨P,hP⟩:∃ P:Ending→World→Prop,(fun e w'=>e=.returned (.int .i64 (idxI R))∧Below w.heap.size w w')=P:=⟨_,rfl⟩
 rw [hP];have HP:=hZz hP;have HR:=hZz hR;have HV:=hZz hV;have HW:=hZz hw;have HY:=hZz hy;obtain ⟨N,hN⟩:∃ N,l.length=N:=⟨_,rfl⟩
 have HN:=hZz hN;rw [hN] at hl ⊢;clear hP hR hV hw hy hN;go_enter func136,ntmps136
 go_wp2_with (fail)
 go_loopw [5,8] (fun _ iv wr=>∃ k:Nat,k≤N∧iv=.int .i64 k∧Hid (∀ j (h:j<l.length),j<k→Q l[j]=false)∧Hid (Below w.heap.size w wr)) (fun _ iv _=>N - (intOf iv).toNat)
 case atStart=>exact ⟨0,Nat.zero_le _,rfl,hZz (fun j h h2=>by omega),hZz (Below.refl _ _)⟩
 case round =>
  obtain ⟨k,hk,rfl,HQ,HB⟩:=hrel;have hk0:(0:Int)≤(k:Int):=by omega
  by_cases hlt:k<N
  ·have hlt':(k:Int)<(N:Int):=by omega
   have hkl:k<l.length:=by rw [HN.out];exact hlt
   obtain ⟨b,off,kA,kc,rfl,_,c0,c1,c2,hdead⟩:=zakY (HV.out.below (HW.out.trans (HB.out.mono HW.out.size))) hkl;obtain ⟨y,hyq⟩:∃ y,Q l[k]=y:=⟨_,rfl⟩
   have HYK:Hid (∀ wx,Below w.heap.size w wx→Calls prog fid (#[.agg #[.string (l[k]).name,.slice kA (l[k]).params.length kc,.int .i64 (l[k]).body]] ++ caps) wx fun e w'=>e=.returned (.bool y)∧Below wx.heap.size wx w'):=hZz (fun wx hb=>by rw [← hyq];exact HY.out k hkl wx kA kc hb);have HYQ:=hZz hyq;have HKL:=hZz hkl;generalize (l[k]).name=x0 at c0 HYK;generalize (l[k]).params.length=x1 at c1 HYK;generalize (l[k]).body=x2 at c2 HYK;clear hyq
   try clear hdead
   cases y with
   | true =>
    go_wp2_with (first
     | (go_at_fn fid;((with_reducible refine (HYK.out _ HB.out).mono ?_);rintro e w4 ⟨rfl,hb4⟩;have HB4:=hZz (zaaZ hb4 HB.out HB.out.size);clear hb4)))
    rw [← HP.out];exact ⟨by rw [← HR.out,zbcY HKL.out HYQ.out HQ.out];rfl,HB4.out⟩
   | false =>
    go_wp2_with (first
     | (go_at_fn fid;((with_reducible refine (HYK.out _ HB.out).mono ?_);rintro e w4 ⟨rfl,hb4⟩;have HB4:=hZz (zaaZ hb4 HB.out HB.out.size);clear hb4)))
    exact ⟨⟨k+1,by omega,by simp,hZz (fun j h h2=>by
     by_cases e:j=k
     ·subst e;exact HYQ.out
     ·exact HQ.out j h (by omega)),HB4⟩,by simp [intOf];omega⟩
  ·have e:k=N:=by omega
   subst e;go_wp2_with (fail)
   rw [← HP.out];exact ⟨by rw [← HR.out,zbdY (fun j h=>HQ.out j h (by have:=HN.out;omega))];rfl,HB.out⟩
theorem indexS_any (l:List ByteArray) (A:Option Addr) (cap:Nat) (fid:FuncId) (caps:Array Value) (Q:ByteArray→Bool) (w0 w:World) (hV:KeysV w0 (.slice A l.length cap) l) (hw:Below w0.heap.size w0 w) (hl:l.length≤10000) (hent:∀ args w,(callFunc fid args).run prog w=.ok (.enter fid args) w)
  (hy:∀ k (hk:k<l.length) wx,Below w.heap.size w wx→Calls prog fid (#[.string l[k]] ++ caps) wx fun e w'=>e=.returned (.bool (Q l[k]))∧Below wx.heap.size wx w') :
  Calls prog 175 #[.slice A l.length cap,.func (.func fid) #[] caps] w fun e w'=>e=.returned (.int .i64 (idxI (l.findIdx? Q)))∧Below w.heap.size w w':=by
 obtain ⟨R,hR⟩:∃ R,l.findIdx? Q=R:=⟨_,rfl⟩
 rw [hR];obtain ⟨P,hP⟩:∃ P:Ending→World→Prop,(fun e w'=>e=.returned (.int .i64 (idxI R))∧Below w.heap.size w w')=P:=⟨_,rfl⟩
 rw [hP];have HP:=hZz hP;have HR:=hZz hR;have HV:=hZz hV;have HW:=hZz hw;have HY:=hZz hy;obtain ⟨N,hN⟩:∃ N,l.length=N:=⟨_,rfl⟩
 have HN:=hZz hN;rw [hN] at hl ⊢;clear hP hR hV hw hy hN;go_enter func175,ntmps175
 go_wp2_with (fail)
 go_loopw [5,8] (fun _ iv wr=>∃ k:Nat,k≤N∧iv=.int .i64 k∧Hid (∀ j (h:j<l.length),j<k→Q l[j]=false)∧Hid (Below w.heap.size w wr)) (fun _ iv _=>N - (intOf iv).toNat)
 case atStart=>exact ⟨0,Nat.zero_le _,rfl,hZz (fun j h h2=>by omega),hZz (Below.refl _ _)⟩
 case round =>
  obtain ⟨k,hk,rfl,HQ,HB⟩:=hrel;have hk0:(0:Int)≤(k:Int):=by omega
  by_cases hlt:k<N
  ·have hlt':(k:Int)<(N:Int):=by omega
   have hkl:k<l.length:=by rw [HN.out];exact hlt
   obtain ⟨A',cap',hA,_,hsl⟩:=HV.out.below (HW.out.trans (HB.out.mono HW.out.size));injection hA with e1 e2 e3
   subst e1 e3;obtain ⟨b,off,rfl,_⟩:=hsl.ptr hkl;have c0:=hsl.cell0 hkl (v:=.string l[k]) rfl;simp only [Nat.mul_one] at c0;obtain ⟨y,hyq⟩:∃ y,Q l[k]=y:=⟨_,rfl⟩
   have HYK:Hid (∀ wx,Below w.heap.size w wx→Calls prog fid (#[.string l[k]] ++ caps) wx fun e w'=>e=.returned (.bool y)∧Below wx.heap.size wx w'):=hZz (fun wx hb=>by rw [← hyq];exact HY.out k hkl wx hb);have HYQ:=hZz hyq;have HKL:=hZz hkl;clear hsl;generalize l[k]=x0 at c0 HYK;clear hyq
   try clear hdead
   cases y with
   | true =>
    go_wp2_with (first
     | (go_at_fn fid;((with_reducible refine (HYK.out _ HB.out).mono ?_);rintro e w4 ⟨rfl,hb4⟩;have HB4:=hZz (zaaZ hb4 HB.out HB.out.size);clear hb4)))
    rw [← HP.out];exact ⟨by rw [← HR.out,zbcY HKL.out HYQ.out HQ.out];rfl,HB4.out⟩
   | false =>
    go_wp2_with (first
     | (go_at_fn fid;((with_reducible refine (HYK.out _ HB.out).mono ?_);rintro e w4 ⟨rfl,hb4⟩;have HB4:=hZz (zaaZ hb4 HB.out HB.out.size);clear hb4)))
    exact ⟨⟨k+1,by omega,by simp,hZz (fun j h h2=>by
     by_cases e:j=k
     ·subst e;exact HYQ.out
     ·exact HQ.out j h (by omega)),HB4⟩,by simp [intOf];omega⟩
  ·have e:k=N:=by omega
   subst e;go_wp2_with (fail)
   rw [← HP.out];exact ⟨by rw [← HR.out,zbdY (fun j h=>HQ.out j h (by have:=HN.out;omega))];rfl,HB.out⟩
end
section
theorem beq_bytes (a b:ByteArray):(a.toList == b.toList)=decide (a=b):=by
 rw [Bool.eq_iff_iff,za1Y]
attribute [local go_sem] zabZ
theorem find1_s (n s:ByteArray) (kA:Option Addr) (m kc:Nat) (body:Int) (g:Nat) (w:World) (h:Blk w g 9 #[.string s]):Calls prog 139 #[.agg #[.string n,.slice kA m kc,.int .i64 body],.pointer (some ⟨g,0,none⟩)] w fun e w'=>e=.returned (.bool (decide (n=s)))∧Below w.heap.size w w':=by
 rw [← beq_bytes];have HB:=hZz (zacZ w (.cells #[.string n,.slice kA m kc,.int .i64 body] 42));have c0:=h.cell 0 (.string s) rfl;clear h;go_enter func139,ntmps139
 go_wp2
 all_goals (go_returns;exact ⟨by first | rfl | simp_all,HB.out⟩)
theorem find_s (S:ProgS) (s:ByteArray) (w:World) (hS:ProgV w S) (hl:S.p.funcs.length≤10000):Calls prog 87 #[S.val,.string s] w fun e w'=>e=.returned (.int .i64 (findF S.p s))∧Below w.heap.size w w':=by
 have he:findF S.p s=idxI (S.p.funcs.findIdx? fun f=>decide (f.name=s)):=by
  unfold findF idxI;cases S.p.funcs.findIdx? fun f=>decide (f.name=s) <;> rfl
 rw [he];obtain ⟨W2,hW2⟩:∃ W2,(w.alloc (.cells #[.slice S.A S.p.nodes.length S.ncap,.slice S.B S.p.funcs.length S.fcap] 25)).alloc (.cells #[.string s] 9)=W2:=⟨_,rfl⟩
 have hb2:=zauY w (.cells #[.slice S.A S.p.nodes.length S.ncap,.slice S.B S.p.funcs.length S.fcap] 25) (.cells #[.string s] 9);have hX:=Blk.second w (.cells #[.slice S.A S.p.nodes.length S.ncap,.slice S.B S.p.funcs.length S.fcap] 25) 9 #[.string s];rw [hW2] at hb2 hX;have hent:∀ args w,(callFunc 139 args).run prog w=.ok (.enter 139 args) w:=enters_of func139 (by kernel_rfl) rfl
 have HC:Hid (Calls prog 136 #[.slice S.B S.p.funcs.length S.fcap,.func (.func 139) #[] #[.pointer (some ⟨w.heap.size+1,0,none⟩)]] W2 fun e w'=>e=.returned (.int .i64 (idxI (S.p.funcs.findIdx? fun f=>decide (f.name=s))))∧Below W2.heap.size W2 w'):=hZz (indexF_any S.p.funcs S.B S.fcap 139 _ _ w W2 hS.funcs hb2 hl hent (fun k hk wx kA kc hb=>find1_s _ s kA _ kc _ _ wx (hX.below hb)));have HB2:=hZz hb2;have HW2:=hZz hW2;generalize idxI (S.p.funcs.findIdx? fun f=>decide (f.name=s))=r at HC ⊢;unfold ProgS.val;generalize S.p.nodes.length=x1 at HW2 ⊢;generalize S.p.funcs.length=x2 at HC HW2 ⊢;clear hb2 hX hW2 hent he hS hl;go_enter func87,ntmps87
 go_wp2_with (first
  | (rw [HW2.out];go_at_call 136;(with_reducible refine HC.out.mono ?_);rintro e w4 ⟨rfl,hb4⟩;have HB4:=hZz (zahZ hb4 HB2.out);clear hb4))
 go_returns;exact ⟨rfl,HB4.out⟩
theorem foldl_le {g:Int→Nat} {N:Nat}:∀ (l:List Int) (a:Nat),a≤N→(∀ k∈l,g k≤N)→l.foldl (fun m k=>max m (g k)) a≤N:=by
 intro l;induction l with
 | nil=>intro a h _;exact h
 | cons k r ih=>intro a h hk;exact ih _ (Nat.max_le.2 ⟨h,hk k (List.mem_cons_self ..)⟩) (fun x hx=>hk x (List.mem_cons_of_mem _ hx))
theorem nest_le (l:List NodeD):∀ f i,nestF l f i≤f:=by
 intro f;induction f with
 | zero=>intro i;exact Nat.le_refl _
 | succ f ih =>
  intro i;simp only [nestF];exact Nat.succ_le_succ (foldl_le _ _ (Nat.zero_le _) (fun k _=>ih _))
theorem maxI (a b:Nat):max (a:Int) (b:Int)=((max a b:Nat):Int):=by omega
theorem nest_s (l:List NodeD) (hl:NodesOk l) (A:Option Addr) (cap:Nat) (w:World) (hV:NodesV w (.slice A l.length cap) l):∀ f i s,f≤1000→firstF l f i=some s→i<l.length→Calls prog 137 #[.slice A l.length cap,.int .i64 i] w fun e w'=>e=.returned (.int .i64 (nestF l f i:Nat))∧w'=w:=by
 intro f;induction f with
 | zero=>intro i s _ h;cases h
 | succ f ih =>
  intro i s hf h hil;have T:=zadY h;obtain ⟨R,hR⟩:∃ R,nestF l (f+1) i=R:=⟨_,rfl⟩
  rw [hR];obtain ⟨P,hP⟩:∃ P:Ending→World→Prop,(fun e w'=>e=.returned (.int .i64 (R:Nat))∧w'=w)=P:=⟨_,rfl⟩
  rw [hP];have HP:=hZz hP;have HR:Hid ((l.getD i noNode).kids.foldl (fun m k=>max m (nestF l f k.toNat)) 0+1=R):=hZz (by rw [← hR];rfl);rw [zaiZ hil] at HR;have hcv:=T.cover;rw [zaiZ hil] at hcv;obtain ⟨n,hn⟩:∃ n,l[i]=n:=⟨_,rfl⟩
  rw [hn] at hcv HR
  have HIH:Hid (∀ k∈n.kids,Calls prog 137 #[.slice A l.length cap,.int .i64 k] w fun e w'=>e=.returned (.int .i64 (nestF l f k.toNat:Nat))∧w'=w):=hZz (fun k hk=>by
   obtain ⟨m,s',rfl,h1,_,h3⟩:=hcv.mem k hk
   have:=ih m s' (by omega) h3 (by omega)
   simpa using this)
  obtain ⟨bN,offN,kA,kc,iA,ic,rfl,hbN,c0,c1,c2,c3,c4,hk,hi⟩:=zalY hV hil;rw [hn] at c4 hi;have hmem:n∈l:=by rw [← hn];exact List.getElem_mem hil
  have hm:=(hl.kids n hmem).1;have hlen:=hl.len;obtain ⟨m,hme⟩:∃ m,n.kids.length=m:=⟨_,rfl⟩
  have HM:=hZz hme;have HI:=hZz hi;rw [hme] at c4 hm HI;obtain ⟨N,hN⟩:∃ N,l.length=N:=⟨_,rfl⟩
  rw [hN] at hil HIH hlen ⊢;have hiN:(i:Int)<(N:Int):=by omega
  have hi0:(0:Int)≤(i:Int):=by omega
  clear hR hP hV hcv hn hmem hme hN hk hi ih T h c0 c1 c2 c3;go_enter func137,ntmps137
  go_wp2_with (fail)
  clear c4;go_loopw [5,7,14] (fun mv _ kv wr=>∃ j:Nat,j≤m∧kv=.int .i64 j∧wr=w∧mv=.int .i64 (((n.kids.take j).foldl (fun m k=>max m (nestF l f k.toNat)) 0:Nat):Int)) (fun _ _ kv _=>m - (intOf kv).toNat)
  case atStart=>exact ⟨0,Nat.zero_le _,rfl,rfl,rfl⟩
  case round =>
   obtain ⟨j,hj,rfl,hwr,rfl⟩:=hrel;subst hwr;have hj0:(0:Int)≤(j:Int):=by omega
   have hbd:(n.kids.take j).foldl (fun m k=>max m (nestF l f k.toNat)) 0≤1000:=foldl_le _ _ (Nat.zero_le _) (fun k _=>Nat.le_trans (nest_le l f _) (by omega));obtain ⟨a,ha⟩:∃ a,(n.kids.take j).foldl (fun m k=>max m (nestF l f k.toNat)) 0=a:=⟨_,rfl⟩
   rw [ha] at hbd ⊢;have HA:=hZz ha;clear ha;by_cases hlt:j<m
   ·have hlt':(j:Int)<(m:Int):=by omega
    have hkl:j<n.kids.length:=by rw [HM.out];exact hlt
    obtain ⟨bI,offI,rfl,hbI,ck⟩:=HI.out.cell hkl;have HCA:=hZz (HIH.out n.kids[j] (List.getElem_mem hkl));have HTK:Hid ((n.kids.take (j+1)).foldl (fun m k=>max m (nestF l f k.toNat)) 0=max a (nestF l f (n.kids[j]).toNat)):=hZz (by rw [List.take_succ_eq_append_getElem hkl,List.foldl_append,HA.out];rfl);generalize n.kids[j]=x at ck HCA HTK;generalize nestF l f x.toNat=y at HCA HTK
    go_wp2_with (first
     | (go_at_call 137;(with_reducible refine HCA.out.mono ?_);rintro e w4 ⟨rfl,hw4⟩;rw [hw4];clear hw4 w4))
    exact ⟨⟨j+1,by omega,by simp,by trivial,by rw [HTK.out,maxI]⟩,by simp [intOf];omega⟩
   ·have e:j=m:=by omega
    subst e;go_wp2_with (fail)
    rw [← HP.out];refine ⟨?_,rfl⟩
    rw [← HR.out,← HA.out,← HM.out,List.take_length];rfl
end
section
theorem foldF_le {g:FuncD→Nat} {N:Nat} (hg:∀ f,g f≤N):∀ (l:List FuncD) (a:Nat),a≤N→l.foldl (fun m f=>max m (g f)) a≤N:=by
 intro l;induction l with
 | nil=>intro a h;exact h
 | cons k r ih=>intro a h;exact ih _ (Nat.max_le.2 ⟨h,hg k⟩)
attribute [local go_sem] zabZ
theorem deep_s (S:ProgS) (w:World) (hS:ProgV w S) (hok:NodesOk S.p.nodes) (h:∀ k,(h:k<S.p.funcs.length)→∃ b s:Nat,(S.p.funcs[k]).body=(b:Int)∧b<S.p.nodes.length∧firstF S.p.nodes 600 b=some s) (hfl:S.p.funcs.length≤1000):Calls prog 85 #[S.val] w fun e w'=>e=.returned (.int .i64 (deepF S.p:Nat))∧Below w.heap.size w w':=by
 obtain ⟨A,B,ncap,fcap,p⟩:=S;unfold ProgS.val;dsimp only at hok h hfl ⊢;obtain ⟨R,hR⟩:∃ R,deepF p=R:=⟨_,rfl⟩
 rw [hR];obtain ⟨P,hP⟩:∃ P:Ending→World→Prop,(fun e w'=>e=.returned (.int .i64 (R:Nat))∧Below w.heap.size w w')=P:=⟨_,rfl⟩
 rw [hP];have HP:=hZz hP;have HR:Hid (p.funcs.foldl (fun m f=>max m (nestF p.nodes 600 f.body.toNat)) 0=R):=hZz hR;have HF:=hZz hS.funcs;have HN:=hZz hS.nodes
 have HC:Hid (∀ k (hk:k<p.funcs.length) wx,Below w.heap.size w wx→Calls prog 137 #[.slice A p.nodes.length ncap,.int .i64 (p.funcs[k]).body] wx fun e w'=>e=.returned (.int .i64 (nestF p.nodes 600 (p.funcs[k]).body.toNat:Nat))∧w'=wx):=hZz (fun k hk wx hb=>by
  obtain ⟨b,s,h1,h2,h3⟩:=h k hk;rw [h1];exact nest_s p.nodes hok A ncap wx (NodesV.below hS.nodes hb) 600 b s (by omega) h3 h2)
 have hB1:Below w.heap.size w (w.alloc (.cells #[.slice A p.nodes.length ncap,.slice B p.funcs.length fcap] 25)):=zacZ _ _;have hX1:=Blk.new w 25 #[.slice A p.nodes.length ncap,.slice B p.funcs.length fcap];dsimp only at HF HN;generalize p.nodes.length=nn at HN HC hB1 hX1 ⊢;obtain ⟨N,hNl⟩:∃ N,p.funcs.length=N:=⟨_,rfl⟩
 have HNL:=hZz hNl;rw [hNl] at hfl hB1 hX1 ⊢;obtain ⟨g,hg⟩:∃ g,w.heap.size=g:=⟨_,rfl⟩
 obtain ⟨W1,hW1⟩:∃ W,w.alloc (.cells #[.slice A nn ncap,.slice B N fcap] 25)=W:=⟨_,rfl⟩
 rw [hW1] at hB1 hX1;rw [hg] at hX1;have HB1:=hZz hB1;have HX1:=hZz hX1;have HW1:=hZz hW1;have HG:=hZz hg;clear hR hP hS hok h hNl hg hW1 hB1 hX1;go_enter func85,ntmps85
 go_upto_region 1 with fail
 rw [HG.out,HW1.out];clear HG HW1;have x1:=blk2 HX1.out;go_wp2_with (fail)
 clear x1;go_loopw [3,5,9] (fun mv _ kv wr=>∃ j:Nat,j≤N∧kv=.int .i64 j∧mv=.int .i64 (((p.funcs.take j).foldl (fun m f=>max m (nestF p.nodes 600 f.body.toNat)) 0:Nat):Int)∧Hid (Below w.heap.size w wr)∧Hid (Blk wr g 25 #[.slice A nn ncap,.slice B N fcap])) (fun _ _ kv _=>N - (intOf kv).toNat)
 case atStart=>exact ⟨0,Nat.zero_le _,rfl,rfl,HB1,HX1⟩
 case round =>
  obtain ⟨j,hj,rfl,rfl,HB,HX⟩:=hrel;have hj0:(0:Int)≤(j:Int):=by omega
  have hbd:(p.funcs.take j).foldl (fun m f=>max m (nestF p.nodes 600 f.body.toNat)) 0≤600:=foldF_le (fun f=>nest_le _ _ _) _ _ (Nat.zero_le _);obtain ⟨a,ha⟩:∃ a,(p.funcs.take j).foldl (fun m f=>max m (nestF p.nodes 600 f.body.toNat)) 0=a:=⟨_,rfl⟩
  rw [ha] at hbd ⊢;have HA:=hZz ha;clear ha;by_cases hlt:j<N
  ·have hlt':(j:Int)<(N:Int):=by omega
   have hkl:j<p.funcs.length:=by rw [HNL.out];exact hlt
   have hF2:=HF.out.below HB.out;obtain ⟨b,off,kA,kc,rfl,hbk,c0,c1,c2,hdead⟩:=zakY hF2 hkl;have HTK:Hid ((p.funcs.take (j+1)).foldl (fun m f=>max m (nestF p.nodes 600 f.body.toNat)) 0=max a (nestF p.nodes 600 (p.funcs[j]).body.toNat)):=hZz (by rw [List.take_succ_eq_append_getElem hkl,List.foldl_append,HA.out];rfl);have HCA:Hid (∀ wx,Below w.heap.size w wx→Calls prog 137 #[.slice A nn ncap,.int .i64 (p.funcs[j]).body] wx fun e w'=>e=.returned (.int .i64 (nestF p.nodes 600 (p.funcs[j]).body.toNat:Nat))∧w'=wx):=hZz (HC.out j hkl);clear hF2 hdead;generalize (p.funcs[j]).name=x0 at c0;generalize (p.funcs[j]).params.length=x1 at c1;generalize (p.funcs[j]).body=x2 at c2 HCA HTK;generalize nestF p.nodes 600 x2.toNat=y at HCA HTK;have HB2:Hid (∀ o,Below w.heap.size w (wr.alloc o)):=hZz (fun o=>HB.out.alloc HB.out.size o);have HX2:Hid (∀ o,Blk (wr.alloc o) g 25 #[.slice A nn ncap,.slice (some ⟨b,off,none⟩) N fcap]):=hZz (fun o=>HX.out.alloc o);have x1':=blk2 HX.out
   go_wp2_with (first
    | (go_at_call 137;(with_reducible refine (HCA.out _ (HB2.out _)).mono ?_);rintro e w4 ⟨rfl,hw4⟩;rw [hw4];clear hw4 w4))
   exact ⟨⟨j+1,by omega,by simp,by rw [HTK.out,maxI],hZz (HB2.out _),hZz (HX2.out _)⟩,by simp [intOf];omega⟩
  ·have e:j=N:=by omega
   subst e;go_wp2_with (fail)
   rw [← HP.out];refine ⟨?_,HB.out⟩
   rw [← HR.out,← HA.out,← HNL.out,List.take_length];rfl
end
section
theorem idx_any {α:Type} (l:List α) (Q:α→Bool):decide (0≤idxI (l.findIdx? Q))=l.any Q:=by
 rw [Bool.eq_iff_iff,decide_eq_true_iff,List.any_eq_true];cases h:l.findIdx? Q with
 | none =>
  rw [List.findIdx?_eq_none_iff] at h;simp only [idxI];constructor
  ·intro h0;omega
  ·rintro ⟨x,hx,hq⟩
   rw [h x hx] at hq;cases hq
 | some k =>
  rw [List.findIdx?_eq_some_iff_getElem] at h;obtain ⟨h1,h2,_⟩:=h;simp only [idxI];exact ⟨fun _=>⟨_,List.getElem_mem h1,h2⟩,fun _=>by omega⟩
attribute [local go_sem] zabZ
set_option maxHeartbeats 4000000 in
theorem ordered1_s (s:ByteArray) (w:World) (hs:s.size≤140737488351232):Calls prog 134 #[.string s] w fun e w'=>e=.returned (.bool (!nameB s))∧w'=w:=by
 have HN:=hZz (name_s s w hs);generalize nameB s=n at HN ⊢;go_enter func134,ntmps134
 go_wp2_with (first
  | (go_at_call 132;(with_reducible refine HN.out.mono ?_);rintro e w1 ⟨rfl,hw1⟩;rw [hw1];clear hw1 w1))
 go_returns;exact ⟨rfl,rfl⟩
def badNames (l:List ByteArray):Bool:=l.any fun s=>!nameB s
theorem all_bad (l:List ByteArray):l.all nameB=!badNames l:=by
 unfold badNames;induction l with
 | nil=>rfl
 | cons a r ih=>simp only [List.all_cons,List.any_cons,ih,Bool.not_or,Bool.not_not]
theorem containsS_s (l:List ByteArray) (A:Option Addr) (cap:Nat) (w:World) (hV:KeysV w (.slice A l.length cap) l) (hl:l.length≤10000) (hs:∀ s∈l,s.size≤140737488351232):Calls prog 133 #[.slice A l.length cap,.func (.func 134) #[] #[]] w fun e w'=>e=.returned (.bool (badNames l))∧Below w.heap.size w w':=by
 have hent:∀ args w,(callFunc 134 args).run prog w=.ok (.enter 134 args) w:=enters_of func134 (by kernel_rfl) rfl
 have HC:=hZz (indexS_any l A cap 134 #[] (fun s=>!nameB s) w w hV (Below.refl _ _) hl hent (fun k hk wx hb=>(ordered1_s l[k] wx (hs _ (List.getElem_mem hk))).mono (by rintro e w' ⟨rfl,rfl⟩;exact ⟨rfl,Below.refl _ _⟩)));unfold badNames;rw [← idx_any];generalize idxI (l.findIdx? fun s=>!nameB s)=r at HC ⊢;clear hV hs hent;go_enter func133,ntmps133
 go_wp2_with (first
  | (go_at_call 175;(with_reducible refine HC.out.mono ?_);rintro e w1 ⟨rfl,hb1⟩;have HB1:=hZz hb1;clear hb1))
 go_returns;exact ⟨rfl,HB1.out⟩
set_option maxHeartbeats 16000000 in
theorem ordered_s (S:ProgS) (w:World) (hS:ProgV w S) (hp:Pow w) (hok:NodesOk S.p.nodes) (hnl:S.p.nodes.length≤600) (hfl:S.p.funcs.length≤1000) (hfn:∀ f∈S.p.funcs,f.name.size≤140737488351232∧f.params.length≤10000∧∀ s∈f.params,s.size≤140737488351232):Calls prog 82 #[S.val] w fun e w'=>e=.returned (.bool (orderedB S.p))∧Below w.heap.size w w':=by
 obtain ⟨A,B,ncap,fcap,p⟩:=S;unfold ProgS.val;dsimp only at hok hnl hfl hfn ⊢;obtain ⟨O,hO⟩:∃ O,orderedF p.nodes p.funcs 0=O:=⟨_,rfl⟩
 have hob:orderedB p=decide (O=some p.nodes.length):=by unfold orderedB;rw [hO]
 rw [hob];obtain ⟨P,hP⟩:∃ P:Ending→World→Prop,(fun e w'=>e=.returned (.bool (decide (O=some p.nodes.length)))∧Below w.heap.size w w')=P:=⟨_,rfl⟩
 rw [hP];have HP:Hid (∀ (b:Bool) w',b=decide (O=some p.nodes.length)→Below w.heap.size w w'→P (.returned (.bool b)) w'):=hZz (fun b w' h1 h2=>by rw [← hP];exact ⟨by rw [h1],h2⟩);have HF:=hZz hS.funcs;have HV:=hZz hS.nodes;have HFN:=hZz hfn;have HFI:Hid (∀ b wx,b<p.nodes.length→Below w.heap.size w wx→Calls prog 135 #[.slice A p.nodes.length ncap,.int .i64 b] wx fun e w'=>e=.returned (.int .i64 (shO (firstF p.nodes 600 b)))∧Below wx.heap.size wx w'):=hZz (fun b wx h1 hb=>first_s p.nodes hok A ncap 600 b wx (by omega) h1 (NodesV.below hS.nodes hb) (hp.below hb));have HO:=hZz hO;have hB1:Below w.heap.size w (w.alloc (.cells #[.slice A p.nodes.length ncap,.slice B p.funcs.length fcap] 25)):=zacZ _ _;have hX1:=Blk.new w 25 #[.slice A p.nodes.length ncap,.slice B p.funcs.length fcap];dsimp only at HF HV;obtain ⟨nn,hnn⟩:∃ n,p.nodes.length=n:=⟨_,rfl⟩
 have HNN:=hZz hnn;obtain ⟨N,hNl⟩:∃ N,p.funcs.length=N:=⟨_,rfl⟩
 have HNL:=hZz hNl;rw [hnn] at hnl HFI hB1 hX1 HP ⊢;rw [hNl] at hfl hB1 hX1 ⊢;obtain ⟨g,hg⟩:∃ g,w.heap.size=g:=⟨_,rfl⟩
 obtain ⟨W1,hW1⟩:∃ W,w.alloc (.cells #[.slice A nn ncap,.slice B N fcap] 25)=W:=⟨_,rfl⟩
 rw [hW1] at hB1 hX1;rw [hg] at hX1;have HB1:=hZz hB1;have HX1:=hZz hX1;have HW1:=hZz hW1;have HG:=hZz hg;clear hO hob hP hS hp hok hfn hnn hNl hg hW1 hB1 hX1;go_enter func82,ntmps82
 go_upto_region 2 with fail
 rw [HG.out,HW1.out];clear HG HW1;have x1:=blk2 HX1.out;go_wp2_with (fail)
 clear x1;go_loopw [3,5,9] (fun sv _ kv wr=>∃ j s:Nat,j≤N∧s≤nn∧kv=.int .i64 j∧sv=.int .i64 s∧Hid (O=orderedF p.nodes (p.funcs.drop j) s)∧Hid (Below w.heap.size w wr)∧Hid (Blk wr g 25 #[.slice A nn ncap,.slice B N fcap])) (fun _ _ kv _=>N - (intOf kv).toNat)
 case atStart=>exact ⟨0,0,Nat.zero_le _,Nat.zero_le _,rfl,rfl,hZz (by rw [← HO.out,List.drop_zero]),HB1,HX1⟩
 case round =>
  obtain ⟨j,s,hj,hs,rfl,rfl,HJ,HB,HX⟩:=hrel;have hj0:(0:Int)≤(j:Int):=by omega
  by_cases hlt:j<N
  ·have hlt':(j:Int)<(N:Int):=by omega
   have hkl:j<p.funcs.length:=by rw [HNL.out];exact hlt
   have hF2:=HF.out.below HB.out;obtain ⟨b,off,kA,kc,rfl,hbk,c0,c1,c2,hkv⟩:=zakY hF2 hkl;obtain ⟨f,hf⟩:∃ f,p.funcs[j]=f:=⟨_,rfl⟩
   have hm:=HFN.out _ (List.getElem_mem hkl)
   have hjo:O=if funcB p.nodes f s then orderedF p.nodes (p.funcs.drop (j+1)) (f.body.toNat+1) else none:=by
    rw [HJ.out,List.drop_eq_getElem_cons hkl,hf];rfl
   rw [hf] at c0 c1 c2 hkv hm;have HJO:=hZz hjo;have HCN:Hid (∀ wx,Calls prog 132 #[.string f.name] wx fun e w'=>e=.returned (.bool (nameB f.name))∧w'=wx):=hZz (fun wx=>name_s f.name wx hm.1);have HCP:Hid (∀ wx,Below wr.heap.size wr wx→Calls prog 133 #[.slice kA f.params.length kc,.func (.func 134) #[] #[]] wx fun e w'=>e=.returned (.bool (badNames f.params))∧Below wx.heap.size wx w'):=hZz (fun wx hb=>containsS_s f.params kA kc wx (hkv.below hb) hm.2.1 hm.2.2)
   have hfB:funcB p.nodes f s=((nameB f.name && !badNames f.params) && (decide ((s:Int)≤f.body) && (decide (f.body<nn) && (decide ((p.nodes.getD f.body.toNat noNode).kind=19) && decide (firstF p.nodes 600 f.body.toNat=some s))))):=by
    unfold funcB;rw [HNN.out,all_bad]
   have HFB:=hZz hfB;generalize nameB f.name=nb at HCN HFB;generalize badNames f.params=cb at HCP HFB;generalize f.name=x0 at c0 HCN;generalize f.params.length=x1 at c1 HCP;obtain ⟨x2,hx2⟩:∃ x,f.body=x:=⟨_,rfl⟩
   rw [hx2] at c2 HFB HJO;clear hF2 hjo hkv hm hf hfB hx2;have HB2:Hid (∀ o,Below w.heap.size w (wr.alloc o)):=hZz (fun o=>HB.out.alloc HB.out.size o);obtain ⟨gf,hgf⟩:∃ g,wr.heap.size=g:=⟨_,rfl⟩
   obtain ⟨W2,hW2⟩:∃ W,wr.alloc (.cells #[.string x0,.slice kA x1 kc,.int .i64 x2] 42)=W:=⟨_,rfl⟩
   have HBR:Hid (Below wr.heap.size wr W2):=hZz (by rw [← hW2];exact zacZ _ _);have HBW:=hZz (zaaZ HBR.out HB.out HB.out.size);have HX2:=hZz (HX.out.below HBR.out);have HY2:Hid (Blk W2 gf 42 #[.string x0,.slice kA x1 kc,.int .i64 x2]):=hZz (by rw [← hW2,← hgf];exact Blk.new _ _ _);have HW2:=hZz hW2;have HGF:=hZz hgf;clear hW2 hgf;have c3:=blk2 HX.out;go_upto_region 5 with fail
   rw [HGF.out,HW2.out];clear HGF HW2 c0 c1 c2 c3;have y0:=HY2.out.cell 0 _ rfl;have y1:=HY2.out.cell 1 _ rfl;cases nb with
   | false =>
    go_wp2_with (first
     | (go_at_call 132;(with_reducible refine (HCN.out _).mono ?_);rintro e w4 ⟨rfl,hw4⟩;rw [hw4];clear hw4 w4))
    exact HP.out _ _ (by rw [HJO.out,HFB.out];simp) HBW.out
   | true =>
    cases cb with
    | true =>
     go_wp2_with (first
      | (go_at_call 132;(with_reducible refine (HCN.out _).mono ?_);rintro e w4 ⟨rfl,hw4⟩;rw [hw4];clear hw4 w4)
      | (go_at_call 133;(with_reducible refine (HCP.out _ HBR.out).mono ?_);rintro e w5 ⟨rfl,hb5⟩;have HB5:=hZz (zaaZ hb5 HBW.out HBW.out.size);clear hb5))
     exact HP.out _ _ (by rw [HJO.out,HFB.out];simp) HB5.out
    | false =>
     go_upto_region 7 with (first
      | (go_at_call 132;(with_reducible refine (HCN.out _).mono ?_);rintro e w4 ⟨rfl,hw4⟩;rw [hw4];clear hw4 w4)
      | (go_at_call 133;(with_reducible refine (HCP.out _ HBR.out).mono ?_);rintro e w5 ⟨rfl,hb5⟩;have HB5:=hZz (zaaZ hb5 HBW.out HBW.out.size);have HX5:=hZz (HX2.out.below hb5);have HY5:=hZz (HY2.out.below hb5);clear hb5))
     clear y0 y1;have z0:=HX5.out.cell 0 _ rfl;have z2:=HY5.out.cell 2 _ rfl;by_cases e1:x2<(s:Int)
     ·go_wp2_with (fail)
      exact HP.out _ _ (by rw [HJO.out,HFB.out];simp;omega) HB5.out
     by_cases e2:(nn:Int)≤x2
     ·go_wp2_with (fail)
      exact HP.out _ _ (by rw [HJO.out,HFB.out];simp;omega) HB5.out
     obtain ⟨q,rfl⟩:∃ q:Nat,x2=(q:Int):=⟨x2.toNat,by omega⟩
     have hql:q<p.nodes.length:=by rw [HNN.out];omega
     have hV2:=HV.out.below HB5.out;obtain ⟨bN,offN,_,_,_,_,rfl,hbN2,d0,hdead⟩:=zalY hV2 hql;have hql':(q:Int)<(nn:Int):=by omega
     have hq0:(0:Int)≤(q:Int):=by omega
     have HKK:Hid ((p.nodes.getD ((q:Int)).toNat noNode).kind=(p.nodes[q]).kind):=hZz (by rw [Int.toNat_natCast,zaiZ hql]);clear hdead hV2;generalize (p.nodes[q]).kind=kk at d0 HKK;by_cases e3:kk=19
     rotate_left
     ·have e3':(kk != 19)=true:=by simp [e3]
      go_wp2_with (fail)
      exact HP.out _ _ (by rw [HJO.out,HFB.out,HKK.out];simp [e3]) HB5.out
     subst e3;obtain ⟨R,hR⟩:∃ R,firstF p.nodes 600 q=R:=⟨_,rfl⟩
     have HCF:Hid (∀ wx,Below w.heap.size w wx→Calls prog 135 #[.slice (some ⟨bN,offN,none⟩) nn ncap,.int .i64 q] wx fun e w'=>e=.returned (.int .i64 (shO R))∧Below wx.heap.size wx w'):=hZz (fun wx hb=>by rw [← hR];exact HFI.out q wx (by omega) hb)
     have HRR:Hid (funcB p.nodes f s=decide (R=some s)):=hZz (by
      rw [HFB.out,HKK.out,Int.toNat_natCast,hR,decide_eq_true (show (s:Int)≤q by omega),decide_eq_true (show (q:Int)<nn by omega)];simp)
     clear hR;by_cases e4:R=some s
     ·subst e4
      simp only [shO] at HCF
      go_wp2_with (first
       | (go_at_call 135;(with_reducible refine (HCF.out _ HB5.out).mono ?_);rintro e w6 ⟨rfl,hb6⟩;have HB6:=hZz (zaaZ hb6 HB5.out HB5.out.size);have HX6:=hZz (HX5.out.below hb6);have z6:=HY5.out.below hb6;have z7:=z6.cell 2 _ rfl;clear hb6 z6))
      exact ⟨⟨j+1,q+1,by omega,by omega,by simp,by simp,hZz (by rw [HJO.out,HRR.out];simp),HB6,HX6⟩,by simp [intOf];omega⟩
     ·have hne:(shO R != (s:Int))=true:=by
       cases R with
       | none=>first | (simp [shO];done) | (simp [shO];omega)
       | some r =>
        have:r≠s:=fun h=>e4 (by rw [h])
        first | (simp [shO];done) | (simp [shO];omega)
      have HE4:=hZz e4;generalize shO R=rr at HCF hne
      go_wp2_with (first
       | (go_at_call 135;(with_reducible refine (HCF.out _ HB5.out).mono ?_);rintro e w6 ⟨rfl,hb6⟩;have HB6:=hZz (zaaZ hb6 HB5.out HB5.out.size);clear hb6))
      exact HP.out _ _ (by rw [HJO.out,HRR.out];simp [HE4.out]) HB6.out
  ·have e:j=N:=by omega
   subst e;have x1:=blk2 HX.out;go_wp2_with (fail)
   refine HP.out _ _ ?_ HB.out
   rw [HJ.out,← HNL.out,List.drop_length];simp only [orderedF];rw [Bool.eq_iff_iff];simp
   try omega
end
section
structure ProgOk (p:ProgD):Prop where
 nodes:NodesOk p.nodes
 funcs:p.funcs.length≤1000
 fn:∀ f∈p.funcs,f.name.size≤140737488351232∧f.params.length≤10000∧∀ s∈f.params,s.size≤140737488351232
attribute [local go_sem] zabZ
theorem check1_s (n:ByteArray) (kA:Option Addr) (m kc:Nat) (body:Int) (w:World):Calls prog 84 #[.agg #[.string n,.slice kA m kc,.int .i64 body]] w fun e w'=>e=.returned (.bool (decide (8<m)))∧Below w.heap.size w w':=by
 have HB:=hZz (zacZ w (.cells #[.string n,.slice kA m kc,.int .i64 body] 42));have HD:Hid (decide ((8:Int)<(m:Int))=decide (8<m)):=hZz (by rw [Bool.eq_iff_iff];simp;omega);rw [← HD.out];clear HD;go_enter func84,ntmps84
 go_wp2
 go_returns;exact ⟨by rfl,HB.out⟩
def manyP (l:List FuncD):Bool:=l.any fun f=>decide (8<f.params.length)
theorem containsF_s (l:List FuncD) (A:Option Addr) (cap:Nat) (w:World) (hV:FuncsV w (.slice A l.length cap) l) (hl:l.length≤10000):Calls prog 83 #[.slice A l.length cap,.func (.func 84) #[] #[]] w fun e w'=>e=.returned (.bool (manyP l))∧Below w.heap.size w w':=by
 have hent:∀ args w,(callFunc 84 args).run prog w=.ok (.enter 84 args) w:=enters_of func84 (by kernel_rfl) rfl
 have HC:=hZz (indexF_any l A cap 84 #[] (fun f=>decide (8<f.params.length)) w w hV (Below.refl _ _) hl hent (fun k hk wx kA kc hb=>check1_s _ kA _ kc _ wx));unfold manyP;rw [← idx_any];generalize idxI (l.findIdx? fun f=>decide (8<f.params.length))=r at HC ⊢;clear hV hent;go_enter func83,ntmps83
 go_wp2_with (first
  | (go_at_call 136;(with_reducible refine HC.out.mono ?_);rintro e w1 ⟨rfl,hb1⟩;have HB1:=hZz hb1;clear hb1))
 go_returns;exact ⟨rfl,HB1.out⟩
theorem check_s (S:ProgS) (w:World) (hS:ProgV w S) (hp:Pow w) (hok:ProgOk S.p):Calls prog 57 #[S.val] w fun e w'=>e=.returned (.int .i64 (synF S.p))∧Below w.heap.size w w':=by
 obtain ⟨R,hR⟩:∃ R,synF S.p=R:=⟨_,rfl⟩
 rw [hR];obtain ⟨P,hP⟩:∃ P:Ending→World→Prop,(fun e w'=>e=.returned (.int .i64 R)∧Below w.heap.size w w')=P:=⟨_,rfl⟩
 rw [hP];have HP:Hid (∀ (b:Int) w',b=R→Below w.heap.size w w'→P (.returned (.int .i64 b)) w'):=hZz (fun b w' h1 h2=>by rw [← hP];exact ⟨by rw [h1],h2⟩);have HR:Hid (R=if 600<S.p.nodes.length∨16<S.p.funcs.length then 3 else if orderedB S.p=false then 1 else if manyP S.p.funcs=true∨32<deepF S.p then 3 else 0):=hZz hR.symm;have HOR:Hid (S.p.nodes.length≤600→∀ wx,Below w.heap.size w wx→Calls prog 82 #[S.val] wx fun e w'=>e=.returned (.bool (orderedB S.p))∧Below wx.heap.size wx w'):=hZz (fun h wx hb=>ordered_s S wx (hS.below hb) (hp.below hb) hok.nodes h hok.funcs hok.fn);have HCF:Hid (∀ wx,Below w.heap.size w wx→Calls prog 83 #[.slice S.B S.p.funcs.length S.fcap,.func (.func 84) #[] #[]] wx fun e w'=>e=.returned (.bool (manyP S.p.funcs))∧Below wx.heap.size wx w'):=hZz (fun wx hb=>containsF_s S.p.funcs S.B S.fcap wx (FuncsV.below hS.funcs hb) (by have:=hok.funcs;omega))
 have HDP:Hid (orderedB S.p=true→∀ wx,Below w.heap.size w wx→Calls prog 85 #[S.val] wx fun e w'=>e=.returned (.int .i64 (deepF S.p:Nat))∧Below wx.heap.size wx w'):=hZz (fun ho wx hb=>deep_s S wx (hS.below hb) hok.nodes (fun k hk=>by
  have h5:=(orderedF_at _ _ _ (of_decide_eq_true ho)).1 k hk;obtain ⟨b,hb⟩:=funcB_ok h5;exact ⟨b,_,hb.body,hb.lt,hb.first⟩) hok.funcs)
 unfold ProgS.val at HOR HDP ⊢;have HBN:Hid (∀ o,Below w.heap.size w (w.alloc o)):=hZz (fun o=>zacZ w o);have HXN:Hid (∀ c0 c1,(w.alloc (.cells #[c0,c1] 25)).cell? ⟨w.heap.size,0,none⟩=some c0∧(w.alloc (.cells #[c0,c1] 25)).cell? ⟨w.heap.size,1,none⟩=some c1):=hZz (fun c0 c1=>blk2 (Blk.new w _ _));generalize S.p.nodes.length=nn at HR HOR HDP ⊢;generalize S.p.funcs.length=nf at HR HOR HCF HDP ⊢;generalize orderedB S.p=ob at HR HOR HDP;generalize manyP S.p.funcs=mb at HR HCF;generalize deepF S.p=dn at HR HDP;clear hR hP hS hp hok;go_enter func57,ntmps57
 obtain ⟨g,hg⟩:∃ g,w.heap.size=g:=⟨_,rfl⟩
 obtain ⟨W1,hW1⟩:∃ W,w.alloc (.cells #[.slice S.A nn S.ncap,.slice S.B nf S.fcap] 25)=W:=⟨_,rfl⟩
 have HX1:Hid (Blk W1 g 25 #[.slice S.A nn S.ncap,.slice S.B nf S.fcap]):=hZz (by rw [← hW1,← hg];exact Blk.new _ _ _);have HB1:Hid (Below w.heap.size w W1):=hZz (by rw [← hW1];exact zacZ _ _);have HW1:=hZz hW1;have HG:=hZz hg;clear HBN HXN hW1 hg;go_upto_region 1 with fail
 rw [HG.out,HW1.out];clear HG HW1;have x1:=blk2 HX1.out;by_cases e1:(600:Int)<(nn:Int)
 ·go_wp2_with (fail)
  exact HP.out _ _ (by rw [HR.out,if_pos (.inl (by omega))]) HB1.out
 by_cases e2:(16:Int)<(nf:Int)
 ·go_wp2_with (fail)
  exact HP.out _ _ (by rw [HR.out,if_pos (.inr (by omega))]) HB1.out
 have HR2:Hid (R=if ob=false then 1 else if mb=true∨32<dn then 3 else 0):=hZz (by rw [HR.out,if_neg (by omega)]);have HOR2:=hZz (HOR.out (by omega) W1 HB1.out);clear HR HOR;cases ob with
 | false =>
  go_wp2_with (first
   | (go_at_call 82;(with_reducible refine HOR2.out.mono ?_);rintro e w2 ⟨rfl,hb2⟩;have HB2:=hZz (zaaZ hb2 HB1.out HB1.out.size);clear hb2))
  exact HP.out _ _ (by rw [HR2.out];rfl) HB2.out
 | true =>
  have HDP2:=hZz (HDP.out rfl);clear HDP;have HR3:Hid (R=if mb=true∨32<dn then 3 else 0):=hZz (by rw [HR2.out];rfl);clear HR2;cases mb with
  | true =>
   go_wp2_with (first
    | (go_at_call 82;(with_reducible refine HOR2.out.mono ?_);rintro e w2 ⟨rfl,hb2⟩;have HB2:=hZz (zaaZ hb2 HB1.out HB1.out.size);have HX2:=hZz (HX1.out.below hb2);have x2:=blk2 HX2.out;clear hb2 x1)
    | (go_at_call 83;(with_reducible refine (HCF.out _ HB2.out).mono ?_);rintro e w3 ⟨rfl,hb3⟩;have HB3:=hZz (zaaZ hb3 HB2.out HB2.out.size);have HX3:=hZz (HX2.out.below hb3);have x3:=blk2 HX3.out;clear hb3 x2))
   exact HP.out _ _ (by rw [HR3.out];rfl) HB3.out
  | false =>
   by_cases e3:(32:Int)<(dn:Int)
   all_goals
    go_wp2_with (first
     | (go_at_call 82;(with_reducible refine HOR2.out.mono ?_);rintro e w2 ⟨rfl,hb2⟩;have HB2:=hZz (zaaZ hb2 HB1.out HB1.out.size);have HX2:=hZz (HX1.out.below hb2);have x2:=blk2 HX2.out;clear hb2 x1)
     | (go_at_call 83;(with_reducible refine (HCF.out _ HB2.out).mono ?_);rintro e w3 ⟨rfl,hb3⟩;have HB3:=hZz (zaaZ hb3 HB2.out HB2.out.size);have HX3:=hZz (HX2.out.below hb3);have x3:=blk2 HX3.out;clear hb3 x2)
     | (go_at_call 85;(with_reducible refine (HDP2.out _ HB3.out).mono ?_);rintro e w4 ⟨rfl,hb4⟩;have HB4:=hZz (zaaZ hb4 HB3.out HB3.out.size);clear hb4))
    exact HP.out _ _ (by rw [HR3.out];first | rw [if_pos (.inr (by omega))] | rw [if_neg (by rintro (h | h);cases h;omega)]) HB4.out
end
section
structure SmallPr (p:ProgD):Prop where
 nodes:p.nodes.length≤200
 funcs:p.funcs.length≤20
 node:∀ i (h:i<p.nodes.length),(p.nodes[i]).kids.length≤100∧(p.nodes[i]).keys.length≤100
 fn:∀ i (h:i<p.funcs.length),(p.funcs[i]).params.length≤20
attribute [local go_sem] zabZ
theorem small_s (S:ProgS) (w:World) (hS:ProgV w S):Calls prog 9 #[S.val] w fun e w'=>(∃ b,e=.returned (.bool b)∧(b=true→SmallPr S.p))∧Below w.heap.size w w':=by
 obtain ⟨P,hP⟩:∃ P:Ending→World→Prop,(fun e w'=>(∃ b,e=.returned (.bool b)∧(b=true→SmallPr S.p))∧Below w.heap.size w w')=P:=⟨_,rfl⟩
 rw [hP];have HP0:Hid (∀ w',Below w.heap.size w w'→P (.returned (.bool false)) w'):=hZz (fun w' h2=>by rw [← hP];exact ⟨⟨false,rfl,fun h=>by cases h⟩,h2⟩);have HP1:Hid (∀ w',SmallPr S.p→Below w.heap.size w w'→P (.returned (.bool true)) w'):=hZz (fun w' h h2=>by rw [← hP];exact ⟨⟨true,rfl,fun _=>h⟩,h2⟩);obtain ⟨W1,hW1⟩:∃ W,w.alloc (.cells #[.slice S.A S.p.nodes.length S.ncap,.slice S.B S.p.funcs.length S.fcap] 25)=W:=⟨_,rfl⟩
 obtain ⟨g,hg⟩:∃ g,w.heap.size=g:=⟨_,rfl⟩
 have hb1:Below w.heap.size w W1:=by rw [← hW1];exact zacZ _ _
 have HB1:=hZz hb1;have HX1:Hid (Blk W1 g 25 #[.slice S.A S.p.nodes.length S.ncap,.slice S.B S.p.funcs.length S.fcap]):=hZz (by rw [← hW1,← hg];exact Blk.new _ _ _);have HS1:=hZz (hS.below hb1);unfold ProgS.val;obtain ⟨nn,hnn⟩:∃ n,S.p.nodes.length=n:=⟨_,rfl⟩
 obtain ⟨nf,hnf⟩:∃ n,S.p.funcs.length=n:=⟨_,rfl⟩
 have HNN:=hZz hnn;have HNF:=hZz hnf;rw [hnn,hnf] at hW1 HX1 ⊢;have HG:=hZz hg;have HW1:=hZz hW1;clear hP hS hg hW1 hb1 hnn hnf;go_enter func9,ntmps9
 go_upto_region 1 with fail
 rw [HG.out,HW1.out];clear HG HW1;have x1:=blk2 HX1.out;by_cases e1:200<nn
 ·go_wp2_with (fail)
  exact HP0.out _ HB1.out
 by_cases e2:20<nf
 ·go_wp2_with (fail)
  exact HP0.out _ HB1.out
 go_upto_region 3 with (fail)
 go_upto_region 4 with (fail)
 go_loopw [3,18] (fun _ kv wr=>∃ k:Nat,k≤nn∧kv=.int .i64 k∧wr=W1∧Hid (∀ i (h:i<S.p.nodes.length),i<k→(S.p.nodes[i]).kids.length≤100∧(S.p.nodes[i]).keys.length≤100)) (fun _ kv _=>nn - (intOf kv).toNat)
 case atStart=>exact ⟨0,Nat.zero_le _,rfl,rfl,hZz (fun i h h2=>by omega)⟩
 case round =>
  obtain ⟨k,hk,rfl,rfl,HR⟩:=hrel;have hk0:(0:Int)≤(k:Int):=by omega
  by_cases hlt:k<nn
  ·have hlt':(k:Int)<(nn:Int):=by omega
   have hkl:k<S.p.nodes.length:=by rw [HNN.out];exact hlt
   obtain ⟨bN,offN,kA,kc,iA,ic,hA,hbN,c0,c1,c2,c3,c4,z1,z2⟩:=zalY HS1.out.nodes hkl;rw [hA] at x1
   have HM:Hid ((S.p.nodes[k]).kids.length≤100→(S.p.nodes[k]).keys.length≤100→∀ i (h:i<S.p.nodes.length),i<k+1→(S.p.nodes[i]).kids.length≤100∧(S.p.nodes[i]).keys.length≤100):=hZz (fun h1 h2 i h h3=>by
    by_cases e:i=k
    ·subst e;exact ⟨h1,h2⟩
    ·exact HR.out i h (by omega))
   generalize (S.p.nodes[k]).kids.length=a at c4 HM;generalize (S.p.nodes[k]).keys.length=b at c3 HM;clear z1 z2 c0 c1 c2 hA hbN hkl HR;by_cases h1:100<a
   ·go_wp2_with (fail)
    exact HP0.out _ HB1.out
   by_cases h2:100<b
   ·go_wp2_with (fail)
    exact HP0.out _ HB1.out
   go_wp2_with (fail)
   exact ⟨⟨k+1,by omega,by simp,by simp,hZz (HM.out (by omega) (by omega))⟩,by simp [intOf];omega⟩
  ·have e9:nn=k:=by omega
   subst e9;have HN1:Hid (∀ i (h:i<S.p.nodes.length),(S.p.nodes[i]).kids.length≤100∧(S.p.nodes[i]).keys.length≤100):=hZz (fun i h=>HR.out i h (by have:=HNN.out;omega));clear HR;go_upto_region 10 with (fail)
   go_loopw [4,43] (fun _ kv wq=>∃ k:Nat,k≤nf∧kv=.int .i64 k∧wq=wr∧Hid (∀ i (h:i<S.p.funcs.length),i<k→(S.p.funcs[i]).params.length≤20)) (fun _ kv _=>nf - (intOf kv).toNat)
   case atStart=>exact ⟨0,Nat.zero_le _,rfl,rfl,hZz (fun i h h2=>by omega)⟩
   case round =>
    obtain ⟨k,hk,rfl,rfl,HR⟩:=hrel;have hk0:(0:Int)≤(k:Int):=by omega
    by_cases hlt:k<nf
    ·have hlt':(k:Int)<(nf:Int):=by omega
     have hkl:k<S.p.funcs.length:=by rw [HNF.out];exact hlt
     obtain ⟨bF,offF,kA,kc,hA,hbF,c0,c1,c2,z1⟩:=zakY HS1.out.funcs hkl;rw [hA] at x1
     have HM:Hid ((S.p.funcs[k]).params.length≤20→∀ i (h:i<S.p.funcs.length),i<k+1→(S.p.funcs[i]).params.length≤20):=hZz (fun h1 i h h3=>by
      by_cases e:i=k
      ·subst e;exact h1
      ·exact HR.out i h (by omega))
     generalize (S.p.funcs[k]).params.length=a at c1 HM;clear z1 c0 c2 hA hbF hkl HR;by_cases h1:20<a
     ·go_wp2_with (fail)
      exact HP0.out _ HB1.out
     go_wp2_with (fail)
     exact ⟨⟨k+1,by omega,by simp,by simp,hZz (HM.out (by omega))⟩,by simp [intOf];omega⟩
    ·have e9:nf=k:=by omega
     subst e9;have HN2:Hid (∀ i (h:i<S.p.funcs.length),(S.p.funcs[i]).params.length≤20):=hZz (fun i h=>HR.out i h (by have:=HNF.out;omega));go_wp2_with (fail)
     exact HP1.out _ ⟨by rw [HNN.out];omega,by rw [HNF.out];omega,HN1.out,HN2.out⟩ HB1.out
end
end Go.Proofs.YthiimbhjpdphpaaGreatDoor
