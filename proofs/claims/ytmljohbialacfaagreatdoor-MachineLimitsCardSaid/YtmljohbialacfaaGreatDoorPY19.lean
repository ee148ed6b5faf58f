/- Y18, Y19 -/
import Derived.Test.YtmljohbialacfaaGreatDoorPY17
import Derived.Test.YtmljohbialacfaaGreatDoorPGC15
import Derived.Test.YtmljohbialacfaaGreatDoorPGD24
set_option linter.unusedVariables false
set_option linter.unusedSimpArgs false
namespace Go.Proofs.YtmljohbialacfaaGreatDoor
section
open Go.RowKit
set_option maxRecDepth 100000
theorem rowsF_own:∀ {ps:List (Value × Value)} {fs:List FrameD},ps.length=fs.length→(List.zipWith frameRow fs ps).flatten=rowsF ps fs
 | [],[],_=>rfl
 | p :: ps,f :: fs,h=>by
  have:=rowsF_own (ps:=ps) (fs:=fs) (by simpa using h)
  simp only [List.zipWith_cons_cons,List.flatten_cons,this]
  rfl
 | [],_ :: _,h=>by simp at h
 | _ :: _,[],h=>by simp at h
theorem rowsQ_own:∀ {vs:List Value} {rs:List ReqD},vs.length=rs.length→(List.zipWith reqRow rs vs).flatten=rowsQ vs rs
 | [],[],_=>rfl
 | p :: ps,f :: fs,h=>by
  have:=rowsQ_own (vs:=ps) (rs:=fs) (by simpa using h)
  simp only [List.zipWith_cons_cons,List.flatten_cons,this]
  rfl
 | [],_ :: _,h=>by simp at h
 | _ :: _,[],h=>by simp at h
theorem OVals.valsO {w:World} {base:Nat} {v:Value} {l:List ValD} (h:OVals w base v l) (hs:∀ x∈l,x.length≤3518437208780):ValsO w base v l:=by
 obtain ⟨vs,h1,h2,h3⟩:=h
 exact ⟨vs,h1,h2,fun i a b=>(h3 i a b).valT (hs _ (List.getElem_mem b))⟩
theorem parkedO_of {w:World} {base:Nat}:∀ {ps:List (Value × Value)} {fs:List FrameD},ps.length=fs.length→(∀ i (h:i<ps.length) (h':i<fs.length),ValsO w base ps[i].1 fs[i].locals∧ValsO w base ps[i].2 fs[i].stack)→ParkedO w base ps fs
 | [],[],_,_=>trivial
 | p :: ps,f :: fs,hl,h=>⟨h 0 (by simp) (by simp),parkedO_of (by simpa using hl) (fun i a b=>h (i+1) (by simpa using a) (by simpa using b))⟩
 | [],_ :: _,h,_=>by simp at h
 | _ :: _,[],h,_=>by simp at h
theorem reqsO_of {w:World} {base:Nat}:∀ {vs:List Value} {rs:List ReqD},vs.length=rs.length→(∀ i (h:i<vs.length) (h':i<rs.length),ValsO w base vs[i] rs[i].args)→ReqsO w base vs rs
 | [],[],_,_=>trivial
 | p :: ps,f :: fs,hl,h=>⟨h 0 (by simp) (by simp),reqsO_of (by simpa using hl) (fun i a b=>h (i+1) (by simpa using a) (by simpa using b))⟩
 | [],_ :: _,h,_=>by simp at h
 | _ :: _,[],h,_=>by simp at h
theorem check_len {x:ValD} (h:checkF x=0):x.length≤3518437208780:=by have:=len200 h;omega
/-- A machine in memory of its own, in an executor. -/
theorem XM.ofOwn {W w4 w5:World} {C:CodeS} {gE K:Nat} {v:Value} {m:MachD} (h:OMach2 w4 W.heap.size v m) (hk:KT 69 w4 w5) (hb:Below W.heap.size W w5) (hE:W.heap.size≤gE) (hg:GoodM K m) (hT:C.T=none) :
  ∃ A1 n1 k1 A2 n2 k2 A3 n3 k3,v=.agg #[.int .i64 m.status,.int .i64 m.err,.slice A1 n1 k1,.slice A2 n2 k2,.slice A3 n3 k3,.int .i64 m.lsteps,.int .i64 m.lmem,.int .i64 m.steps,.int .i64 m.peak] ∧
   (Blk w5 gE 69 (exA C m (.slice A1 n1 k1) (.slice A2 n2 k2) (.slice A3 n3 k3))→∃ LS avs,XM W C gE w5 m (.slice A1 n1 k1) (.slice A2 n2 k2) (.slice A3 n3 k3) LS avs):=by
 obtain ⟨Q,vv,fv,qv,ps,hQ,rfl,h1,h2,h3,h4⟩:=h
 have h1':=hk.oval (by decide) h1
 have h2':=hk.oframes (by decide) (by decide) (by decide) h2
 obtain ⟨vs,q1,q2,q3,q4⟩:=hk.oreqs2 (by decide) (by decide) (by decide) h4
 obtain ⟨A1,k1,rfl⟩:=own_shape h1
 obtain ⟨A2,k2,rfl⟩:=own_shape h2.2.1
 obtain ⟨A3,k3,rfl⟩:=own_shape q2
 refine ⟨A1,_,k1,A2,_,k2,A3,_,k3,rfl,fun hx=>⟨ps,vs,⟨hb,hE,hx,?_,?_,?_,?_,?_,fun g cs e=>by rw [hT] at e;cases e⟩,?_⟩⟩
 ·refine OVal.valT h1' ?_
  rcases hg.va with e | e
  ·rw [e];simp
  ·exact check_len e
 ·exact parkedO_of h2'.1 (fun i a b=>⟨(h2'.2.2.2 i a b).1.valsO (fun x hx=>check_len ((hg.fr _ (List.getElem_mem b)).cl x hx)),(h2'.2.2.2 i a b).2.valsO (fun x hx=>check_len ((hg.fr _ (List.getElem_mem b)).cs x hx))⟩)
 ·exact reqsO_of q1 (fun i a b=>((q3 i a b).base hQ).valsO (fun x hx=>check_len ((hg.rq _ (List.getElem_mem b)).2 x hx)))
 ·rw [← rowsQ_own q1]
  exact own_base q2 hQ
 ·rw [List.nodup_append]
  refine ⟨h2'.2.2.1,q4,fun x hx y hy=>?_⟩
  have hx1:=h3 x hx
  obtain ⟨a,ha,hya⟩:=List.mem_flatMap.1 hy
  obtain ⟨i,hi,rfl⟩:=List.getElem_of_mem ha
  have:=((q3 i hi (by omega)).lt (g:=y) (by simpa using hya)).1
  omega
 ·rw [← rowsF_own h2'.1]
  exact h2'.2.1
/-- The table of actions is known from now on. -/
theorem XM.setT {w0 w:World} {C:CodeS} {gE g:Nat} {cs:Array Value} {m:MachD} {vv fv qv:Value} {LS:List (Value × Value)} {avs:List Value} (h:XM w0 C gE w m vv fv qv LS avs) (hB:Blk w g 110 cs):XM w0 { C with T:=some (g,cs) } gE w m vv fv qv LS avs :=
 ⟨⟨h.p.bel,h.p.hE,h.p.ex,h.p.val,h.p.fr,h.p.rq,h.p.qrow,h.p.nd,fun g' cs' e=>by
  injection e with e
  injection e with e1 e2
  subst e1 e2
  exact hB⟩,h.frow⟩
structure Keeps (m m':MachD):Prop where
 steps:m'.steps=m.steps
 ls:m'.lsteps=m.lsteps
 lm:m'.lmem=m.lmem
 pk:m'.peak=m.peak
 er:m'.err=m.err
theorem keep_ite {m:MachD} {p:Prop} [Decidable p] {a b:MachD × Int} (h1:Keeps m a.1) (h2:Keeps m b.1):Keeps m (if p then a else b).1:=by
 by_cases h:p
 ·rw [if_pos h];exact h1
 ·rw [if_neg h];exact h2
theorem keep_top (m:MachD) (fs:List FrameD) (f:FrameD):Keeps m (topM m fs f):=⟨rfl,rfl,rfl,rfl,rfl⟩
theorem keep_res (m:MachD) (fs:List FrameD) (f:FrameD) (r:ResD):Keeps m (resM m fs f r).1:=by
 unfold resM
 exact keep_ite (keep_top _ _ _) (keep_top _ _ _)
theorem keep_back (m:MachD) (fs:List FrameD) (v:ValD):Keeps m (backM m fs v):=by
 unfold backM
 split <;> exact ⟨rfl,rfl,rfl,rfl,rfl⟩
theorem keep_act (c:CodeD) (i:InsD) (m:MachD) (fs:List FrameD) (f:FrameD):Keeps m (actF c i m fs f).1:=by
 have t:=keep_top m fs
 unfold actF
 refine keep_ite (keep_res _ _ _ _) (keep_ite (keep_ite (t _) (t _)) (keep_ite (t _) (keep_ite (keep_ite (t _) (keep_res _ _ _ _)) (keep_ite (keep_ite (t _) (keep_res _ _ _ _)) (keep_ite ?_ (keep_ite (keep_ite (t _) (keep_ite (t _) ⟨rfl,rfl,rfl,rfl,rfl⟩)) (keep_ite (t _) ?_)))))))
 ·split
  ·exact t _
  ·exact keep_ite (t _) (keep_ite (t _) ⟨rfl,rfl,rfl,rfl,rfl⟩)
 ·unfold act1F
  exact keep_ite (keep_ite (t _) (t _)) (keep_ite (t _) (keep_ite (t _) (keep_ite (keep_ite (t _) (keep_ite (t _) (t _))) (keep_ite (t _) (keep_back _ _ _)))))
theorem count_steps (m:MachD):(countF m).steps=m.steps:=by
 unfold countF
 split
 ·split <;> rfl
 ·rfl
theorem step_steps (c:CodeD) (m:MachD):m.steps≤(stepF c m).steps∧(stepF c m).steps≤m.steps+1:=by
 unfold stepF
 split
 ·exact ⟨Int.le_refl _,by show m.steps≤m.steps+1;omega⟩
 split
 ·exact ⟨Int.le_refl _,by show m.steps≤m.steps+1;omega⟩
 rename_i f hf
 split
 ·exact ⟨Int.le_refl _,by show m.steps≤m.steps+1;omega⟩
 split
 ·exact ⟨Int.le_refl _,by show m.steps≤m.steps+1;omega⟩
 rename_i i hi
 have:=(keep_act c i { m with steps:=m.steps+1 } m.frames.dropLast { f with pc:=f.pc+1 }).steps
 dsimp only at this ⊢
 rw [count_steps]
 split
 ·show m.steps≤(actF c i { m with steps:=m.steps+1 } m.frames.dropLast { f with pc:=f.pc+1 }).1.steps∧_≤_
  constructor
  ·omega
  ·show (actF c i { m with steps:=m.steps+1 } m.frames.dropLast { f with pc:=f.pc+1 }).1.steps≤m.steps+1
   omega
 ·constructor <;> omega
theorem run_steps (c:CodeD):∀ (n:Nat) (m:MachD),m.steps≤(runF c n m).steps∧(runF c n m).steps≤m.steps+n
 | 0,m=>⟨Int.le_refl _,by simp [runF]⟩
 | n+1,m=>by
  simp only [runF]
  split
  ·have h1:=step_steps c m
   have h2:=run_steps c n (stepF c m)
   constructor <;> omega
  ·constructor <;> omega
end
section
open Go.RowKit
set_option maxRecDepth 100000
/-- Behind the statement that makes the executor. -/
def RunC (W:World) (C:CodeS) (m:MachD) (u:Value) (wx:World):Prop:=∃ gE vv fv qv LS avs,u=.pointer (some ⟨gE,0,none⟩)∧XM W C gE wx m vv fv qv LS avs
theorem OMach2.base2 {w:World} {base base':Nat} {v:Value} {m:MachD} (h:OMach2 w base v m) (hb:base'≤base):OMach2 w base' v m:=by
 obtain ⟨Q,vv,fv,qv,ps,hQ,e,h1,⟨f1,f2,f3,f4⟩,h3,h4⟩:=h
 exact ⟨Q,vv,fv,qv,ps,Nat.le_trans hb hQ,e,h1.base hb,⟨f1,own_base f2 hb,f3,fun i a b=>⟨(f4 i a b).1.base hb,(f4 i a b).2.base hb⟩⟩,h3,h4⟩
theorem run_cut {W w4 w5:World} {C:CodeS} {gE K:Nat} {m:MachD} {st er ls lm sp pk:Int} {a b B1 B2 B3:Value} (h:OMach2 w4 W.heap.size (.agg #[.int .i64 st,.int .i64 er,B1,B2,B3,.int .i64 ls,.int .i64 lm,.int .i64 sp,.int .i64 pk]) m) (hk:KT 69 w4 w5) (hb:Below W.heap.size W w5) (hE:W.heap.size≤gE) (hg:GoodM K m) (hT:C.T=none)
  (he:∀ x y z,exA C m x y z=#[a,b,.int .i64 st,.int .i64 er,x,y,z,.int .i64 ls,.int .i64 lm,.int .i64 sp,.int .i64 pk]) (h1:m.status=st) (h2:m.err=er) (h3:m.lsteps=ls) (h4:m.lmem=lm) (h5:m.steps=sp) (h6:m.peak=pk)
  (hB:Blk w5 gE 69 #[a,b,.int .i64 st,.int .i64 er,B1,B2,B3,.int .i64 ls,.int .i64 lm,.int .i64 sp,.int .i64 pk]):RunC W C m (.pointer (some ⟨gE,0,none⟩)) w5:=by
 obtain ⟨A1,n1,k1,A2,n2,k2,A3,n3,k3,e,hx⟩:=XM.ofOwn h hk hb hE hg hT
 injection e with e
 have e1:B1=.slice A1 n1 k1∧B2=.slice A2 n2 k2∧B3=.slice A3 n3 k3:=by simpa [h1,h2,h3,h4,h5,h6] using e
 obtain ⟨rfl,rfl,rfl⟩:=e1
 obtain ⟨LS,avs,hxm⟩:=hx (by rw [he];exact hB)
 exact ⟨gE,_,_,_,LS,avs,rfl,hxm⟩
attribute [local go_sem] cell_alloc_is
set_option maxHeartbeats 16000000 in
theorem mrun_any (C:CodeS) (hT:C.T=none) (m:MachD) (v:Value) (n:Int) (w:World) (K:Nat) (hC:CodeV w C) (hgc:GoodC C.c) (hm:MachV w v m) (hg:GoodM K m) (hK:K+2 * n.toNat≤8800) (hp:Pow w) (hse:Sent w) (hml:MaxL w) (hst:0≤m.steps∧m.steps≤100000) (hn : -9223372036854775808≤n∧n≤9000) :
  Calls Tryz.prog 13 #[.agg #[.slice C.A C.c.fns.length C.ncap,.slice C.B C.c.ins.length C.icap],v,.int .i64 n] w fun e w'=>∃ x,e=.returned x∧OMach w' w.heap.size x (runF C.c n.toNat m)∧Below w.heap.size w w':=by
 have HM:=Lib.hid hm
 have HC:=Lib.hid hC
 have HGC:=Lib.hid hgc
 have HG:=Lib.hid hg
 have HT:=Lib.hid hT
 have HPW:=Lib.hid hp
 have HSE:=Lib.hid hse
 have HML:=Lib.hid hml
 have HST:=Lib.hid hst
 obtain ⟨P,hP⟩:∃ P:Ending→World→Prop,(fun e w'=>∃ x,e=.returned x∧OMach w' w.heap.size x (runF C.c n.toNat m)∧Below w.heap.size w w')=P:=⟨_,rfl⟩
 rw [hP]
 have HP:=Lib.hid hP
 obtain ⟨vv,fv,qv,rfl,hv,hf,hq⟩:=hm
 obtain ⟨A1,n1,k1,rfl⟩:=hv.shape
 obtain ⟨A2,n2,k2,rfl⟩:=hf.shape
 obtain ⟨A3,n3,k3,rfl⟩:=hq.shape
 obtain ⟨st,hst0⟩:∃ x,m.status=x:=⟨_,rfl⟩
 obtain ⟨er,her0⟩:∃ x,m.err=x:=⟨_,rfl⟩
 obtain ⟨ls,hls0⟩:∃ x,m.lsteps=x:=⟨_,rfl⟩
 obtain ⟨lm,hlm0⟩:∃ x,m.lmem=x:=⟨_,rfl⟩
 obtain ⟨sp,hsp0⟩:∃ x,m.steps=x:=⟨_,rfl⟩
 obtain ⟨pk,hpk0⟩:∃ x,m.peak=x:=⟨_,rfl⟩
 have HSTA:=Lib.hid hst0
 have HERR:=Lib.hid her0
 have HLST:=Lib.hid hls0
 have HLMM:=Lib.hid hlm0
 have HSTP:=Lib.hid hsp0
 have HPEK:=Lib.hid hpk0
 rw [hst0,her0,hls0,hlm0,hsp0,hpk0] at HM ⊢
 obtain ⟨cA,hcA⟩:∃ x,Value.slice C.A C.c.fns.length C.ncap=x:=⟨_,rfl⟩
 obtain ⟨cB,hcB⟩:∃ x,Value.slice C.B C.c.ins.length C.icap=x:=⟨_,rfl⟩
 have HCAE:=Lib.hid hcA
 have HCBE:=Lib.hid hcB
 clear hv hf hq hC hgc hg hT hp hse hml hst hP hst0 her0 hls0 hlm0 hsp0 hpk0 hcA hcB
 go_enter Tryz.func13,Tryz.ntmps13
 go_upto_region 1 with fail
 have HB:=Lib.hid (below_3 w (.cells #[.slice C.A C.c.fns.length C.ncap,.slice C.B C.c.ins.length C.icap] 25) (.cells #[.int .i64 st,.int .i64 er,.slice A1 n1 k1,.slice A2 n2 k2,.slice A3 n3 k3,.int .i64 ls,.int .i64 lm,.int .i64 sp,.int .i64 pk] 37) (.cells #[.int .i64 0,.int .i64 0,.slice none 0 0,.slice none 0 0,.slice none 0 0,.int .i64 0,.int .i64 0,.int .i64 0,.int .i64 0] 37))
 have HGC1:=Lib.hid (((Blk.new w 25 #[.slice C.A C.c.fns.length C.ncap,.slice C.B C.c.ins.length C.icap]).alloc (.cells #[.int .i64 st,.int .i64 er,.slice A1 n1 k1,.slice A2 n2 k2,.slice A3 n3 k3,.int .i64 ls,.int .i64 lm,.int .i64 sp,.int .i64 pk] 37)).alloc (.cells #[.int .i64 0,.int .i64 0,.slice none 0 0,.slice none 0 0,.slice none 0 0,.int .i64 0,.int .i64 0,.int .i64 0,.int .i64 0] 37))
 have HGM:=Lib.hid ((Blk.second w (.cells #[.slice C.A C.c.fns.length C.ncap,.slice C.B C.c.ins.length C.icap] 25) 37 #[.int .i64 st,.int .i64 er,.slice A1 n1 k1,.slice A2 n2 k2,.slice A3 n3 k3,.int .i64 ls,.int .i64 lm,.int .i64 sp,.int .i64 pk]).alloc (.cells #[.int .i64 0,.int .i64 0,.slice none 0 0,.slice none 0 0,.slice none 0 0,.int .i64 0,.int .i64 0,.int .i64 0,.int .i64 0] 37))
 have HGZ:=Lib.hid (Blk.third w (.cells #[.slice C.A C.c.fns.length C.ncap,.slice C.B C.c.ins.length C.icap] 25) (.cells #[.int .i64 st,.int .i64 er,.slice A1 n1 k1,.slice A2 n2 k2,.slice A3 n3 k3,.int .i64 ls,.int .i64 lm,.int .i64 sp,.int .i64 pk] 37) 37 #[.int .i64 0,.int .i64 0,.slice none 0 0,.slice none 0 0,.slice none 0 0,.int .i64 0,.int .i64 0,.int .i64 0,.int .i64 0])
 obtain ⟨W,hW⟩:∃ W,((w.alloc (.cells #[.slice C.A C.c.fns.length C.ncap,.slice C.B C.c.ins.length C.icap] 25)).alloc (.cells #[.int .i64 st,.int .i64 er,.slice A1 n1 k1,.slice A2 n2 k2,.slice A3 n3 k3,.int .i64 ls,.int .i64 lm,.int .i64 sp,.int .i64 pk] 37)).alloc (.cells #[.int .i64 0,.int .i64 0,.slice none 0 0,.slice none 0 0,.slice none 0 0,.int .i64 0,.int .i64 0,.int .i64 0,.int .i64 0] 37)=W:=⟨_,rfl⟩
 rw [hW] at HB HGC1 HGM HGZ ⊢
 obtain ⟨gC,hgC⟩:∃ g,w.heap.size=g:=⟨_,rfl⟩
 obtain ⟨gM,hgM⟩:∃ g,w.heap.size+1=g:=⟨_,rfl⟩
 obtain ⟨gZ,hgZ⟩:∃ g,w.heap.size+1+1=g:=⟨_,rfl⟩
 have HCC:Hid (Blk W gC 25 #[.slice C.A C.c.fns.length C.ncap,.slice C.B C.c.ins.length C.icap]):=Lib.hid (by rw [← hgC];exact HGC1.out)
 have HMM:Hid (Blk W gM 37 #[.int .i64 st,.int .i64 er,.slice A1 n1 k1,.slice A2 n2 k2,.slice A3 n3 k3,.int .i64 ls,.int .i64 lm,.int .i64 sp,.int .i64 pk]):=Lib.hid (by rw [← hgM];exact HGM.out)
 have HZZ:Hid (Blk W gZ 37 #[.int .i64 0,.int .i64 0,.slice none 0 0,.slice none 0 0,.slice none 0 0,.int .i64 0,.int .i64 0,.int .i64 0,.int .i64 0]):=Lib.hid (by rw [← hgZ];exact HGZ.out)
 have HLZ:Hid (w.heap.size≤gZ):=Lib.hid (by rw [← hgZ];omega)
 have HLZ2:Hid (gZ<W.heap.size):=Lib.hid HZZ.out.lt
 rw [hgZ,hgM,hgC]
 have HCW:=Lib.hid (HC.out.below HB.out)
 have HMW:=Lib.hid (HM.out.below HB.out)
 clear hW hgC hgM hgZ HGC1 HGM HGZ
 have hnfr:m.frames.length≤1000:=by have:=HG.out.nf;omega
 have hnrq:m.requests.length≤1000:=by have:=HG.out.nr;omega
 have HO1:Hid (Calls Tryz.prog 35 #[.agg #[.int .i64 st,.int .i64 er,.slice A1 n1 k1,.slice A2 n2 k2,.slice A3 n3 k3,.int .i64 ls,.int .i64 lm,.int .i64 sp,.int .i64 pk]] W.drew fun e w'=>∃ v',e=.returned v'∧OMach2 w' W.heap.size v' m∧Below W.heap.size W w') :=
  Lib.hid ((own2_any _ _ W.drew HMW.out hnfr hnrq).mono fun e w' ⟨v',he,ho,hb⟩=>⟨v',he,ho,below_call hb (below_drew W)⟩)
 have HO2:Hid (Calls Tryz.prog 35 #[.agg #[.int .i64 st,.int .i64 er,.slice A1 n1 k1,.slice A2 n2 k2,.slice A3 n3 k3,.int .i64 ls,.int .i64 lm,.int .i64 sp,.int .i64 pk]] (W.alloc (.cells #[.slice none 0 0,.slice none 0 0,.int .i64 0,.int .i64 0,.slice none 0 0,.slice none 0 0,.slice none 0 0,.int .i64 0,.int .i64 0,.int .i64 0,.int .i64 0] 69)).drew fun e w'=>∃ v',e=.returned v'∧OMach2 w' W.heap.size v' m∧Below W.heap.size W w'∧Blk w' W.heap.size 69 #[.slice none 0 0,.slice none 0 0,.int .i64 0,.int .i64 0,.slice none 0 0,.slice none 0 0,.slice none 0 0,.int .i64 0,.int .i64 0,.int .i64 0,.int .i64 0]) :=
  Lib.hid ((own2_any _ _ (W.alloc (.cells #[.slice none 0 0,.slice none 0 0,.int .i64 0,.int .i64 0,.slice none 0 0,.slice none 0 0,.slice none 0 0,.int .i64 0,.int .i64 0,.int .i64 0,.int .i64 0] 69)).drew (HMW.out.below (below_new W _).drew) hnfr hnrq).mono fun e w' ⟨v',he,ho,hb⟩=>⟨v',he,ho.base2 (by simp),below_call hb (below_new W _).drew,(Blk.new W 69 #[.slice none 0 0,.slice none 0 0,.int .i64 0,.int .i64 0,.slice none 0 0,.slice none 0 0,.slice none 0 0,.int .i64 0,.int .i64 0,.int .i64 0,.int .i64 0]).drew.below hb⟩)
 clear hnfr hnrq
 rw [show (Value.slice C.A C.c.fns.length C.ncap)=cA from HCAE.out,show (Value.slice C.B C.c.ins.length C.icap)=cB from HCBE.out] at HCC
 have HEXA:Hid (∀ a b c,exA C m a b c=#[cA,cB,.int .i64 st,.int .i64 er,a,b,c,.int .i64 ls,.int .i64 lm,.int .i64 sp,.int .i64 pk]):=Lib.hid fun a b c=>by
  unfold exA
  rw [HCAE.out,HCBE.out,HSTA.out,HERR.out,HLST.out,HLMM.out,HSTP.out,HPEK.out]
 obtain ⟨nF,hnF⟩:∃ x,C.c.fns.length=x:=⟨_,rfl⟩
 obtain ⟨nI,hnI⟩:∃ x,C.c.ins.length=x:=⟨_,rfl⟩
 have hcA:cA=.slice C.A nF C.ncap:=by rw [← hnF];exact HCAE.out.symm
 have hcB:cB=.slice C.B nI C.icap:=by rw [← hnI];exact HCBE.out.symm
 clear hnF hnI
 subst hcA hcB
 have gx:=blkCM HCC.out HMM.out
 have gxc:=gx
 obtain ⟨x0,x1,y0,y1',y2',y3,y4,y5,y6,y7,y8⟩:=gxc
 clear gx
 go_cut [7] from 9 to 12 (fun u wx=>RunC W C m u wx)
 case first =>
  refine wp_region_held_drew (S:=fun w'=>w'.cell? ⟨gC,0,none⟩=some (.slice C.A nF C.ncap)∧w'.cell? ⟨gC,1,none⟩=some (.slice C.B nI C.icap)∧w'.cell? ⟨gM,0,none⟩=some (.int .i64 st)∧w'.cell? ⟨gM,1,none⟩=some (.int .i64 er)∧w'.cell? ⟨gM,2,none⟩=some (.slice A1 n1 k1)∧w'.cell? ⟨gM,3,none⟩=some (.slice A2 n2 k2)∧w'.cell? ⟨gM,4,none⟩=some (.slice A3 n3 k3)∧w'.cell? ⟨gM,5,none⟩=some (.int .i64 ls)∧w'.cell? ⟨gM,6,none⟩=some (.int .i64 lm)∧w'.cell? ⟨gM,7,none⟩=some (.int .i64 sp)∧w'.cell? ⟨gM,8,none⟩=some (.int .i64 pk)) (by kernel_rfl) ⟨x0,x1,y0,y1',y2',y3,y4,y5,y6,y7,y8⟩ (fun hHeld=>?_)
  refine wpAnyH_take (i:=0) (oi:=_) (v:=.agg #[.slice C.A nF C.ncap,.slice C.B nI C.icap]) rfl (by kernel_rfl) (by kernel_rfl) (by kernel_rfl) (fun _ _ _ h=>h) (Or.inl ⟨by rfl,by intro w hSw;(try dsimp only at hSw);go_simp⟩) (by assumption) ?_
  simp only [Act.put,List.setIfInBounds_toArray,List.set_cons_zero,List.set_cons_succ]
  refine wpAnyH_take (i:=1) (oi:=_) (v:=.agg #[.int .i64 st,.int .i64 er,.slice A1 n1 k1,.slice A2 n2 k2,.slice A3 n3 k3,.int .i64 ls,.int .i64 lm,.int .i64 sp,.int .i64 pk]) rfl (by kernel_rfl) (by kernel_rfl) (by kernel_rfl) (fun _ _ _ h=>h) (Or.inl ⟨by rfl,by intro w hSw;(try dsimp only at hSw);go_simp⟩) (by assumption) ?_
  simp only [Act.put,List.setIfInBounds_toArray,List.set_cons_zero,List.set_cons_succ]
  refine wpAnyH_ready (rs:=[2,4]) (by kernel_rfl) (by simp) ?_
  refine AllReadyH.cons (o:=_) rfl (fun K hK=>?_) ?_
  ·go_simp
   with_reducible refine HO1.out.mono ?_
   rintro e w4 ⟨v4,rfl,hom,hb4⟩
   have HOM:=Lib.hid hom
   obtain ⟨B1,l1,y1,B2,l2,y2,B3,l3,y3,hv5⟩:=HOM.out.mach.shape
   rw [HSTA.out,HERR.out,HLST.out,HLMM.out,HSTP.out,HPEK.out] at hv5
   subst hv5
   have HC4:=Lib.hid (HCC.out.below hb4)
   have HM4:=Lib.hid (HMM.out.below hb4)
   have HB4:=Lib.hid hb4
   clear hom hb4
   go_wp2_with fail
   refine hK.out _ _ (blkCM HC4.out HM4.out) (fun hHeld=>?_)
   clear hK K
   try simp only [Act.put,List.setIfInBounds_toArray,List.set_cons_zero,List.set_cons_succ]
   refine wpAnyH_take (i:=3) (oi:=_) (v:=.agg #[.slice C.A nF C.ncap,.slice C.B nI C.icap,.int .i64 st,.int .i64 er,.slice B1 l1 y1,.slice B2 l2 y2,.slice B3 l3 y3,.int .i64 ls,.int .i64 lm,.int .i64 sp,.int .i64 pk]) rfl (by kernel_rfl) (by kernel_rfl) (by kernel_rfl) (fun _ _ _ h=>h) (Or.inl ⟨by rfl,by intro w hSw;(try dsimp only at hSw);go_simp⟩) (by assumption) ?_
   simp only [Act.put,List.setIfInBounds_toArray,List.set_cons_zero,List.set_cons_succ]
   refine wpAnyH_ready (rs:=[4]) (by kernel_rfl) (by simp) ?_
   refine AllReadyH.cons (o:=_) rfl (fun K hK=>?_) AllReadyH.nil
   go_simp
   have HC5:=Lib.hid (HC4.out.alloc (.cells #[.slice none 0 0,.slice none 0 0,.int .i64 0,.int .i64 0,.slice none 0 0,.slice none 0 0,.slice none 0 0,.int .i64 0,.int .i64 0,.int .i64 0,.int .i64 0] 69))
   have HM5:=Lib.hid (HM4.out.alloc (.cells #[.slice none 0 0,.slice none 0 0,.int .i64 0,.int .i64 0,.slice none 0 0,.slice none 0 0,.slice none 0 0,.int .i64 0,.int .i64 0,.int .i64 0,.int .i64 0] 69))
   refine hK.out _ _ (blkCM HC5.out HM5.out) (fun hHeld=>?_)
   clear hK K
   try simp only [Act.put,List.setIfInBounds_toArray,List.set_cons_zero,List.set_cons_succ]
   refine wpAnyH_ready (rs:=[5]) (by kernel_rfl) (by simp) ?_
   refine AllReadyH.cons (o:=_) rfl (fun K hK=>?_) AllReadyH.nil
   rw [if_pos (by rfl)]
   refine wp_store_row _ _ _ rfl w4.heap.size #[.slice C.A nF C.ncap,.slice C.B nI C.icap,.int .i64 st,.int .i64 er,.slice B1 l1 y1,.slice B2 l2 y2,.slice B3 l3 y3,.int .i64 ls,.int .i64 lm,.int .i64 sp,.int .i64 pk] rfl rfl 69 _ (Blk.new w4 69 _) (by kernel_rfl) rfl (by simp [Value.oneCell']) ?_
   have HC6:=Lib.hid (HC5.out.row_far (cs':=#[.slice C.A nF C.ncap,.slice C.B nI C.icap,.int .i64 st,.int .i64 er,.slice B1 l1 y1,.slice B2 l2 y2,.slice B3 l3 y3,.int .i64 ls,.int .i64 lm,.int .i64 sp,.int .i64 pk]) (Nat.ne_of_lt HC4.out.lt))
   have HM6:=Lib.hid (HM5.out.row_far (cs':=#[.slice C.A nF C.ncap,.slice C.B nI C.icap,.int .i64 st,.int .i64 er,.slice B1 l1 y1,.slice B2 l2 y2,.slice B3 l3 y3,.int .i64 ls,.int .i64 lm,.int .i64 sp,.int .i64 pk]) (Nat.ne_of_lt HM4.out.lt))
   refine hK.out _ _ (blkCM HC6.out HM6.out) (fun hHeld=>?_)
   refine wpAnyH_done (by kernel_rfl) ?_ _
   dsimp only [List.getElem_toArray,List.getElem_cons_succ,List.getElem_cons_zero,Act.put]
   go_wp2_with fail
   go_meet
   have hk5:=(KT.of_below (t:=69) (below_new w4 (.cells #[.slice none 0 0,.slice none 0 0,.int .i64 0,.int .i64 0,.slice none 0 0,.slice none 0 0,.slice none 0 0,.int .i64 0,.int .i64 0,.int .i64 0,.int .i64 0] 69))).trans (KT.row (Blk.new w4 69 _) #[.slice C.A nF C.ncap,.slice C.B nI C.icap,.int .i64 st,.int .i64 er,.slice B1 l1 y1,.slice B2 l2 y2,.slice B3 l3 y3,.int .i64 ls,.int .i64 lm,.int .i64 sp,.int .i64 pk])
   exact run_cut HOM.out hk5 (below_setRow (HB4.out.alloc HB4.out.size _) HB4.out.size _) HB4.out.size HG.out HT.out HEXA.out HSTA.out HERR.out HLST.out HLMM.out HSTP.out HPEK.out (Blk.new w4 69 _).setRow
  ·refine AllReadyH.cons (o:=_) rfl (fun K hK=>?_) AllReadyH.nil
   go_simp
   have HC3:=Lib.hid (HCC.out.alloc (.cells #[.slice none 0 0,.slice none 0 0,.int .i64 0,.int .i64 0,.slice none 0 0,.slice none 0 0,.slice none 0 0,.int .i64 0,.int .i64 0,.int .i64 0,.int .i64 0] 69))
   have HM3:=Lib.hid (HMM.out.alloc (.cells #[.slice none 0 0,.slice none 0 0,.int .i64 0,.int .i64 0,.slice none 0 0,.slice none 0 0,.slice none 0 0,.int .i64 0,.int .i64 0,.int .i64 0,.int .i64 0] 69))
   refine hK.out _ _ (blkCM HC3.out HM3.out) (fun hHeld=>?_)
   clear hK K
   try simp only [Act.put,List.setIfInBounds_toArray,List.set_cons_zero,List.set_cons_succ]
   refine wpAnyH_ready (rs:=[2]) (by kernel_rfl) (by simp) ?_
   refine AllReadyH.cons (o:=_) rfl (fun K hK=>?_) AllReadyH.nil
   go_simp
   with_reducible refine HO2.out.mono ?_
   rintro e w4 ⟨v4,rfl,hom,hb4,BZ⟩
   have HOM:=Lib.hid hom
   obtain ⟨B1,l1,y1,B2,l2,y2,B3,l3,y3,hv5⟩:=HOM.out.mach.shape
   rw [HSTA.out,HERR.out,HLST.out,HLMM.out,HSTP.out,HPEK.out] at hv5
   subst hv5
   have HC4:=Lib.hid (HCC.out.below hb4)
   have HM4:=Lib.hid (HMM.out.below hb4)
   have HB4:=Lib.hid hb4
   have HBZ:=Lib.hid BZ
   clear hom hb4 BZ
   go_wp2_with fail
   refine hK.out _ _ (blkCM HC4.out HM4.out) (fun hHeld=>?_)
   clear hK K
   try simp only [Act.put,List.setIfInBounds_toArray,List.set_cons_zero,List.set_cons_succ]
   refine wpAnyH_take (i:=3) (oi:=_) (v:=.agg #[.slice C.A nF C.ncap,.slice C.B nI C.icap,.int .i64 st,.int .i64 er,.slice B1 l1 y1,.slice B2 l2 y2,.slice B3 l3 y3,.int .i64 ls,.int .i64 lm,.int .i64 sp,.int .i64 pk]) rfl (by kernel_rfl) (by kernel_rfl) (by kernel_rfl) (fun _ _ _ h=>h) (Or.inl ⟨by rfl,by intro w hSw;(try dsimp only at hSw);go_simp⟩) (by assumption) ?_
   simp only [Act.put,List.setIfInBounds_toArray,List.set_cons_zero,List.set_cons_succ]
   refine wpAnyH_ready (rs:=[5]) (by kernel_rfl) (by simp) ?_
   refine AllReadyH.cons (o:=_) rfl (fun K hK=>?_) AllReadyH.nil
   rw [if_pos (by rfl)]
   refine wp_store_row _ _ _ rfl W.heap.size #[.slice C.A nF C.ncap,.slice C.B nI C.icap,.int .i64 st,.int .i64 er,.slice B1 l1 y1,.slice B2 l2 y2,.slice B3 l3 y3,.int .i64 ls,.int .i64 lm,.int .i64 sp,.int .i64 pk] rfl rfl 69 _ HBZ.out (by kernel_rfl) rfl (by simp [Value.oneCell']) ?_
   have HC6:=Lib.hid (HC4.out.row_far (cs':=#[.slice C.A nF C.ncap,.slice C.B nI C.icap,.int .i64 st,.int .i64 er,.slice B1 l1 y1,.slice B2 l2 y2,.slice B3 l3 y3,.int .i64 ls,.int .i64 lm,.int .i64 sp,.int .i64 pk]) (Nat.ne_of_lt HCC.out.lt))
   have HM6:=Lib.hid (HM4.out.row_far (cs':=#[.slice C.A nF C.ncap,.slice C.B nI C.icap,.int .i64 st,.int .i64 er,.slice B1 l1 y1,.slice B2 l2 y2,.slice B3 l3 y3,.int .i64 ls,.int .i64 lm,.int .i64 sp,.int .i64 pk]) (Nat.ne_of_lt HMM.out.lt))
   refine hK.out _ _ (blkCM HC6.out HM6.out) (fun hHeld=>?_)
   refine wpAnyH_done (by kernel_rfl) ?_ _
   dsimp only [List.getElem_toArray,List.getElem_cons_succ,List.getElem_cons_zero,Act.put]
   go_wp2_with fail
   go_meet
   exact run_cut HOM.out (KT.row HBZ.out #[.slice C.A nF C.ncap,.slice C.B nI C.icap,.int .i64 st,.int .i64 er,.slice B1 l1 y1,.slice B2 l2 y2,.slice B3 l3 y3,.int .i64 ls,.int .i64 lm,.int .i64 sp,.int .i64 pk]) (below_setRow HB4.out (Nat.le_refl _) _) (Nat.le_refl _) HG.out HT.out HEXA.out HSTA.out HERR.out HLST.out HLMM.out HSTP.out HPEK.out HBZ.out.setRow
 case rest =>
  obtain ⟨gE,vv,fv,qv,LS,avs,rfl,hx⟩:=hcut
  have HX:=Lib.hid hx
  clear hx x0 x1 y0 y1' y2' y3 y4 y5 y6 y7 y8
  have HBX:=Lib.hid HX.out.p.bel
  have HZx:=Lib.hid (HZZ.out.below HX.out.p.bel)
  have HCP:Hid (CodeV W { C with T:=none }):=Lib.hid ⟨HCW.out.fns,HCW.out.ins⟩
  have HPW1:=Lib.hid (HPW.out.below HB.out)
  have HSE1:=Lib.hid (HSE.out.below HB.out)
  have HML1:=Lib.hid (HML.out.below HB.out)
  go_upto_region 3 with (first
   | (go_at_call 36;(refine (actions_ok _).mono ?_);rintro e w2 ⟨gT,rfl,hT2,hb2⟩;have HX2:Hid (XM W { C with T:=some (gT,actsN 20) } gE w2 m vv fv qv LS avs):=Lib.hid ((HX.out.below hb2).setT hT2);clear hT2 hb2))
  have HKK:Hid (K+2 * n.toNat≤8800):=Lib.hid hK
  clear hK
  go_loopw [2] (fun s wr=>∃ j:Nat,(j:Int)≤max n 0∧s=.int .i64 (n - j)∧∃ vv fv qv LS avs,XM W { C with T:=some (gT,actsN 20) } gE wr (runF C.c j m) vv fv qv LS avs) (fun s _=>(intOf s).toNat)
  case atStart=>exact ⟨0,by omega,by simp,_,_,_,_,_,HX2.out⟩
  case round =>
   obtain ⟨j,hj,rfl,vv',fv',qv',LS',avs',hxr⟩:=hrel
   have HXR:=Lib.hid hxr
   have HJ:=Lib.hid hj
   have hjn:j≤n.toNat:=by omega
   have HGM:Hid (GoodM (K+2 * j) (runF C.c j m)):=Lib.hid (GoodM.run HGC.out j K m HG.out)
   have HSTP2:Hid (0≤(runF C.c j m).steps∧(runF C.c j m).steps≤1000000):=Lib.hid (by
    have h1:=run_steps C.c j m
    have h2:=HST.out
    omega)
   have e0:=blkX hxr.p.ex
   obtain ⟨D1,t1,u1,rfl⟩:=hxr.p.val.shape
   obtain ⟨D2,t2,u2,rfl⟩:=hxr.fshape
   obtain ⟨D3,u3,rfl⟩:=hxr.qshape
   obtain ⟨M,hM⟩:∃ M,runF C.c j m=M:=⟨_,rfl⟩
   have HMM2:=Lib.hid hM
   rw [hM] at HXR HGM HSTP2 e0
   obtain ⟨tq,htq⟩:∃ x,M.requests.length=x:=⟨_,rfl⟩
   rw [htq] at HXR
   rw [htq] at e0
   obtain ⟨sj,hsj⟩:∃ x,n - (j:Int)=x:=⟨_,rfl⟩
   have HSJ:=Lib.hid hsj
   have hj2:=hj
   rw [hsj]
   by_cases hgo:0<sj∧M.status=1
   ·obtain ⟨hpos,hs1⟩:=hgo
    have e2:=e0.2.2.1
    rw [hs1] at e2
    have d1:decide (0<sj)=true:=decide_eq_true hpos
    have hsb:sj≤9000:=by omega
    have hsl : -9223372036854775808≤sj - 1:=by omega
    have HSTEP:=Lib.hid (step_any (K:=K+2 * j) HXR.out HGM.out (by have:=HKK.out;omega) (C:={ C with T:=some (gT,actsN 20) }) ⟨HCW.out.fns,HCW.out.ins⟩ HGC.out HPW1.out HSE1.out HML1.out rfl HSTP2.out)
    have HNX:Hid (runF C.c (j+1) m=stepF C.c M):=Lib.hid (by
     rw [← runF_add C.c j 1 m,HMM2.out]
     simp only [runF]
     rw [if_pos hs1])
    have HJ2:Hid (((j+1:Nat):Int)≤max n 0):=Lib.hid (by omega)
    clear e0 hM htq hsj hj hj2 hxr hs1 hjn
    go_wp2_with (first
     | (go_at_call 37;((refine HSTEP.out.mono ?_);rintro e w3 ⟨rfl,hx3⟩;have HX3:=Lib.hid hx3;clear hx3)))
    obtain ⟨a1,a2,a3,a4,a5,hx3⟩:=HX3.out
    refine ⟨⟨j+1,HJ2.out,?_,a1,a2,a3,a4,a5,by rw [HNX.out];exact hx3⟩,?_⟩
    ·have:=HSJ.out
     congr 1
     omega
    ·simp [intOf];omega
   ·have HFN:Hid (runF C.c n.toNat m=M):=Lib.hid (by
     have h1:=runF_add C.c j (n.toNat - j) m
     rw [show j+(n.toNat - j)=n.toNat by omega,HMM2.out] at h1
     rw [← h1]
     by_cases hpos:0<sj
     ·exact runF_stop _ _ (fun h=>hgo ⟨hpos,h⟩)
     ·rw [show n.toNat - j=0 by omega]
      rfl)
    have HMV:=Lib.hid (HXR.out.mach (HGM.out.small (by have:=HKK.out;omega)))
    unfold machA at HMV
    have HOW:Hid (Calls Tryz.prog 35 #[.agg #[.int .i64 M.status,.int .i64 M.err,.slice D1 t1 u1,.slice D2 t2 u2,.slice D3 tq u3,.int .i64 M.lsteps,.int .i64 M.lmem,.int .i64 M.steps,.int .i64 M.peak]] wr fun e w'=>∃ v',e=.returned v'∧OMach w' wr.heap.size v' M∧Below wr.heap.size wr w'):=Lib.hid (own_any M _ wr HMV.out (by have:=HGM.out.nf;omega) (by have:=HGM.out.nr;omega))
    have HZr:Hid (Blk wr gZ 37 #[.int .i64 0,.int .i64 0,.slice none 0 0,.slice none 0 0,.slice none 0 0,.int .i64 0,.int .i64 0,.int .i64 0,.int .i64 0]):=Lib.hid (HZZ.out.below HXR.out.p.bel)
    have HWr:Hid (Below w.heap.size w wr):=Lib.hid (below_call HXR.out.p.bel HB.out)
    obtain ⟨st',hst'⟩:∃ x,M.status=x:=⟨_,rfl⟩
    obtain ⟨er',her'⟩:∃ x,M.err=x:=⟨_,rfl⟩
    obtain ⟨ls',hls'⟩:∃ x,M.lsteps=x:=⟨_,rfl⟩
    obtain ⟨lm',hlm'⟩:∃ x,M.lmem=x:=⟨_,rfl⟩
    obtain ⟨sp',hsp'⟩:∃ x,M.steps=x:=⟨_,rfl⟩
    obtain ⟨pk',hpk'⟩:∃ x,M.peak=x:=⟨_,rfl⟩
    rw [hst',her',hls',hlm',hsp',hpk'] at HOW e0
    have HEQS:=Lib.hid (show M.status=st'∧M.err=er'∧M.lsteps=ls'∧M.lmem=lm'∧M.steps=sp'∧M.peak=pk' from ⟨hst',her',hls',hlm',hsp',hpk'⟩)
    have hcase:(decide (0<sj)=false)∨(decide (0<sj)=true∧(st' == 1)=false):=by
     by_cases hpos:0<sj
     ·exact .inr ⟨decide_eq_true hpos,by rw [← hst'];simpa using fun h=>hgo ⟨hpos,h⟩⟩
     ·exact .inl (decide_eq_false hpos)
    clear hM htq hsj hj hj2 hxr hjn hgo hst' her' hls' hlm' hsp' hpk'
    rcases hcase with d1 | ⟨d1,d2⟩
    all_goals
     go_wp2_with (first
      | (go_at_call 35;(with_reducible refine HOW.out.mono ?_);rintro e w4 ⟨v4,rfl,ho4,hb4⟩;obtain ⟨E1,i1,z1,E2,i2,z2,E3,i3,z3,hv4⟩:=ho4.shape;have HO4:=Lib.hid ho4;rw [HEQS.out.1,HEQS.out.2.1,HEQS.out.2.2.1,HEQS.out.2.2.2.1,HEQS.out.2.2.2.2.1,HEQS.out.2.2.2.2.2] at hv4;subst hv4;have HZ4:=Lib.hid (HZr.out.below hb4);have HW4:=Lib.hid (below_call hb4 HWr.out);clear ho4 hb4)
      | (refine wpList_store_row rfl 37 (.tmp 6) (.tmp 28) rfl gZ #[.int .i64 st',.int .i64 er',.slice E1 i1 z1,.slice E2 i2 z2,.slice E3 i3 z3,.int .i64 ls',.int .i64 lm',.int .i64 sp',.int .i64 pk'] rfl rfl 37 _ HZ4.out (by kernel_rfl) rfl (by simp [Value.oneCell']) ?_))
     have HZ5:=Lib.hid (HZ4.out.setRow (cs':=#[.int .i64 st',.int .i64 er',.slice E1 i1 z1,.slice E2 i2 z2,.slice E3 i3 z3,.int .i64 ls',.int .i64 lm',.int .i64 sp',.int .i64 pk']))
     have HO5:=Lib.hid (HO4.out.kt (KT.row HZ4.out #[.int .i64 st',.int .i64 er',.slice E1 i1 z1,.slice E2 i2 z2,.slice E3 i3 z3,.int .i64 ls',.int .i64 lm',.int .i64 sp',.int .i64 pk']))
     have HW5:=Lib.hid (below_setRow HW4.out HLZ.out #[.int .i64 st',.int .i64 er',.slice E1 i1 z1,.slice E2 i2 z2,.slice E3 i3 z3,.int .i64 ls',.int .i64 lm',.int .i64 sp',.int .i64 pk'])
     obtain ⟨w5,hw5⟩:∃ w5,w4.setRow gZ #[.int .i64 st',.int .i64 er',.slice E1 i1 z1,.slice E2 i2 z2,.slice E3 i3 z3,.int .i64 ls',.int .i64 lm',.int .i64 sp',.int .i64 pk']=w5:=⟨_,rfl⟩
     rw [hw5] at HZ5 HO5 HW5
     try rw [hw5]
     clear hw5
     have gz:=blk9 HZ5.out
     refine bodyPost_ret (v:=.agg #[.int .i64 st',.int .i64 er',.slice E1 i1 z1,.slice E2 i2 z2,.slice E3 i3 z3,.int .i64 ls',.int .i64 lm',.int .i64 sp',.int .i64 pk']) (by simp [results,Tryz.results13,go_sem,gz]) rfl ?_
     rw [← HP.out,HFN.out]
     exact ⟨_,rfl,HO5.out.base HWr.out.size,HW5.out⟩
end
end Go.Proofs.YtmljohbialacfaaGreatDoor
