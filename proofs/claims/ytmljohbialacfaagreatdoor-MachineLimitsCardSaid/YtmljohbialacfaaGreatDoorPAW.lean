/- Y20, Y23, Y24, Y25, Y21, AW -/
import Derived.Test.YtmljohbialacfaaGreatDoorPY19
import Derived.Test.YtmljohbialacfaaGreatDoorPGC6
import Derived.Test.YtmljohbialacfaaGreatDoorPGD16
set_option linter.unusedVariables false
set_option linter.unusedSimpArgs false
namespace Go.Proofs.YtmljohbialacfaaGreatDoor
section
open Go.RowKit
set_option maxRecDepth 100000
theorem fns_tile {c:CodeD}:∀ (n k:Nat) (e:Int),k+n=c.fns.length→(fnsF c (c.fns.drop k) k e).2=0→∀ j:Nat,e≤j→j<c.ins.length→∃ f∈c.fns,f.entry≤j∧(j:Int)<f.fin
 | 0,k,e,hn,hf,j,h1,h2=>by
  have hd:c.fns.drop k=[]:=List.drop_eq_nil_of_le (by omega)
  rw [hd] at hf
  have:=fns_end hf
  omega
 | n+1,k,e,hn,hf,j,h1,h2=>by
  obtain ⟨g1,g2,g3,_,_,g6⟩:=fns_step (by omega) hf
  by_cases hj:(j:Int)<c.fns[k].fin
  ·exact ⟨_,List.getElem_mem _,by omega,hj⟩
  ·exact fns_tile n (k+1) _ (by omega) g6 j (by omega) h2
theorem good_code {c:CodeD} {R:Int × Int} (h:CodeR c R) (h0:R.2=0) (hi:∀ i∈c.ins,InsOk i):GoodC c:=by
 obtain ⟨hb,h1,h2,_⟩:=h.okk h0
 unfold Big at hb
 have hL:c.ins.length≤4000:=by omega
 have hg:=good_all hL h1 h2
 refine ⟨by omega,hL,fun f hf=>(hg f hf).1,fun i him=>⟨?_,hi i him⟩⟩
 obtain ⟨j,hj,rfl⟩:=List.getElem_of_mem him
 obtain ⟨f,hf,h3,h4⟩:=fns_tile c.fns.length 0 0 (by omega) (by simpa using h1) j (by omega) hj
 obtain ⟨hs,_,hk⟩:=hg f hf
 have he:=hs.2.2
 obtain ⟨i,hi2,hfm,_⟩:=hk j (by omega) (by omega)
 rw [List.getElem?_eq_getElem hj] at hi2
 injection hi2 with hi2
 rw [hi2]
 exact ⟨f,hs,hfm⟩
/-- What holds of a machine that was started. -/
theorem start_good {c:CodeD} {l:ValD} {ls lm:Int} {R:Int × Int} {r:Int} (hR:CodeR c R) (hi:∀ i∈c.ins,InsOk i) (h:(startO c l ls lm R r).2=0) :
  GoodC c∧GoodM 0 (startO c l ls lm R r).1∧(∃ f:FnD,(startO c l ls lm R r).1=startM f r l ls lm)∧LimOk ls lm:=by
 unfold startO at h ⊢
 by_cases h1:R.2≠0
 ·rw [if_pos h1] at h;exact absurd h h1
 rw [if_neg h1] at h ⊢
 have hgc:=good_code hR (by simpa using h1) hi
 by_cases h2:r<0
 ·rw [if_pos h2] at h;simp at h
 rw [if_neg h2] at h ⊢
 cases hf:c.fns[r.toNat]? with
 | none=>rw [hf] at h;simp at h
 | some f =>
  rw [hf] at h
  simp only at h ⊢
  by_cases h3:f.params≠1
  ·rw [if_pos h3] at h;simp at h
  rw [if_neg h3] at h ⊢
  by_cases h4:checkF l≠0
  ·rw [if_pos h4] at h;exact absurd h h4
  rw [if_neg h4] at h ⊢
  by_cases h5:¬ LimOk ls lm
  ·rw [if_pos h5] at h;simp at h
  rw [if_neg h5] at h ⊢
  have hs:=hgc.fn f (List.mem_of_getElem? hf)
  refine ⟨hgc,?_,⟨f,rfl⟩,Classical.not_not.1 h5⟩
  show GoodM 0 (startM f r l ls lm)
  unfold startM
  refine GoodM.count ?_
  have hs2:=hs.2.1
  unfold enterF
  refine ⟨by simp,fun x hx=>?_,by simp,by simp,.inl rfl⟩
  have e:x=⟨r,f.entry,[l] ++ List.replicate (f.locals.toNat - [l].length) [nulC],[]⟩:=by simpa using hx
  subst e
  refine ⟨?_,by simp,fun v hv=>?_,by simp⟩
  ·simp only [List.length_append,List.length_replicate,List.length_singleton]
   omega
  ·rcases List.mem_append.1 hv with hv | hv
   ·have:v=l:=by simpa using hv
    rw [this];exact Classical.not_not.1 h4
   ·rw [List.eq_of_mem_replicate hv];exact check_nul
attribute [local go_sem] cell_alloc_is
set_option maxHeartbeats 4000000 in
/-- Step. -/
theorem mstep_any (C:CodeS) (hT:C.T=none) (m:MachD) (v:Value) (w:World) (K:Nat) (hC:CodeV w C) (hgc:GoodC C.c) (hm:MachV w v m) (hg:GoodM K m) (hK:K+2≤8800) (hp:Pow w) (hse:Sent w) (hml:MaxL w) (hst:0≤m.steps∧m.steps≤100000) :
  Calls Tryz.prog 14 #[.agg #[.slice C.A C.c.fns.length C.ncap,.slice C.B C.c.ins.length C.icap],v] w fun e w'=>∃ x,e=.returned x∧OMach w' w.heap.size x (runF C.c 1 m)∧Below w.heap.size w w':=by
 obtain ⟨P,hP⟩:∃ P:Ending→World→Prop,(fun e w'=>∃ x,e=.returned x∧OMach w' w.heap.size x (runF C.c 1 m)∧Below w.heap.size w w')=P:=⟨_,rfl⟩
 rw [hP]
 have HP:=Lib.hid hP
 have HR:Hid (∀ W,Below w.heap.size w W→Calls Tryz.prog 13 #[.agg #[.slice C.A C.c.fns.length C.ncap,.slice C.B C.c.ins.length C.icap],v,.int .i64 1] W fun e w'=>∃ x,e=.returned x∧OMach w' W.heap.size x (runF C.c 1 m)∧Below W.heap.size W w'):=Lib.hid fun W hb =>
  mrun_any C hT m v 1 W K (hC.below hb) hgc (hm.below hb) hg (by omega) (hp.below hb) (hse.below hb) (hml.below hb) hst (by omega)
 obtain ⟨vv,fv,qv,rfl,hv,hf,hq⟩:=hm
 obtain ⟨A1,n1,k1,rfl⟩:=hv.shape
 obtain ⟨A2,n2,k2,rfl⟩:=hf.shape
 obtain ⟨A3,n3,k3,rfl⟩:=hq.shape
 obtain ⟨nF,hnF⟩:∃ x,C.c.fns.length=x:=⟨_,rfl⟩
 obtain ⟨nI,hnI⟩:∃ x,C.c.ins.length=x:=⟨_,rfl⟩
 rw [hnF,hnI] at HR ⊢
 have HB0:=Lib.hid (below_3 w (.cells #[.slice C.A nF C.ncap,.slice C.B nI C.icap] 25) (.cells #[.int .i64 m.status,.int .i64 m.err,.slice A1 n1 k1,.slice A2 n2 k2,.slice A3 n3 k3,.int .i64 m.lsteps,.int .i64 m.lmem,.int .i64 m.steps,.int .i64 m.peak] 37) (.cells #[.int .i64 0,.int .i64 0,.slice none 0 0,.slice none 0 0,.slice none 0 0,.int .i64 0,.int .i64 0,.int .i64 0,.int .i64 0] 37))
 have HZ0:=Lib.hid (Blk.third w (.cells #[.slice C.A nF C.ncap,.slice C.B nI C.icap] 25) (.cells #[.int .i64 m.status,.int .i64 m.err,.slice A1 n1 k1,.slice A2 n2 k2,.slice A3 n3 k3,.int .i64 m.lsteps,.int .i64 m.lmem,.int .i64 m.steps,.int .i64 m.peak] 37) 37 #[.int .i64 0,.int .i64 0,.slice none 0 0,.slice none 0 0,.slice none 0 0,.int .i64 0,.int .i64 0,.int .i64 0,.int .i64 0])
 obtain ⟨M,hM⟩:∃ M,runF C.c 1 m=M:=⟨_,rfl⟩
 rw [hM] at HR HP
 obtain ⟨st,hst0⟩:∃ x,m.status=x:=⟨_,rfl⟩
 obtain ⟨er,her0⟩:∃ x,m.err=x:=⟨_,rfl⟩
 obtain ⟨ls,hls0⟩:∃ x,m.lsteps=x:=⟨_,rfl⟩
 obtain ⟨lm,hlm0⟩:∃ x,m.lmem=x:=⟨_,rfl⟩
 obtain ⟨sp,hsp0⟩:∃ x,m.steps=x:=⟨_,rfl⟩
 obtain ⟨pk,hpk0⟩:∃ x,m.peak=x:=⟨_,rfl⟩
 rw [hst0,her0,hls0,hlm0,hsp0,hpk0] at HB0 HZ0 HR ⊢
 clear hC hgc hg hp hse hml hst hv hf hq hP hnF hnI hM hst0 her0 hls0 hlm0 hsp0 hpk0
 go_enter Tryz.func14,Tryz.ntmps14
 go_wp2_with (first
  | (go_at_call 13;((refine (HR.out _ HB0.out).mono ?_);rintro e w4 ⟨v4,rfl,ho4,hb4⟩;obtain ⟨E1,i1,z1,E2,i2,z2,E3,i3,z3,hv4⟩:=ho4.shape;subst hv4;have HO4:=Lib.hid ho4;have HZ4:=Lib.hid (HZ0.out.below hb4);have HW4:=Lib.hid (below_call hb4 HB0.out);clear ho4 hb4))
  | (refine wpList_store_row rfl 37 (.tmp 4) (.tmp 7) rfl (w.heap.size+1+1) #[.int .i64 M.status,.int .i64 M.err,.slice E1 i1 z1,.slice E2 i2 z2,.slice E3 i3 z3,.int .i64 M.lsteps,.int .i64 M.lmem,.int .i64 M.steps,.int .i64 M.peak] rfl rfl 37 _ HZ4.out (by kernel_rfl) rfl (by simp [Value.oneCell']) ?_))
 have HZ5:=Lib.hid (HZ4.out.setRow (cs':=#[.int .i64 M.status,.int .i64 M.err,.slice E1 i1 z1,.slice E2 i2 z2,.slice E3 i3 z3,.int .i64 M.lsteps,.int .i64 M.lmem,.int .i64 M.steps,.int .i64 M.peak]))
 have HO5:=Lib.hid (HO4.out.kt (KT.row HZ4.out #[.int .i64 M.status,.int .i64 M.err,.slice E1 i1 z1,.slice E2 i2 z2,.slice E3 i3 z3,.int .i64 M.lsteps,.int .i64 M.lmem,.int .i64 M.steps,.int .i64 M.peak]))
 have HW5:=Lib.hid (below_setRow HW4.out (show w.heap.size≤w.heap.size+1+1 by omega) #[.int .i64 M.status,.int .i64 M.err,.slice E1 i1 z1,.slice E2 i2 z2,.slice E3 i3 z3,.int .i64 M.lsteps,.int .i64 M.lmem,.int .i64 M.steps,.int .i64 M.peak])
 obtain ⟨w5,hw5⟩:∃ w5,w4.setRow (w.heap.size+1+1) #[.int .i64 M.status,.int .i64 M.err,.slice E1 i1 z1,.slice E2 i2 z2,.slice E3 i3 z3,.int .i64 M.lsteps,.int .i64 M.lmem,.int .i64 M.steps,.int .i64 M.peak]=w5:=⟨_,rfl⟩
 rw [hw5] at HZ5 HO5 HW5
 try rw [hw5]
 clear hw5
 have gz:=blk9 HZ5.out
 refine bodyPost_ret (v:=.agg #[.int .i64 M.status,.int .i64 M.err,.slice E1 i1 z1,.slice E2 i2 z2,.slice E3 i3 z3,.int .i64 M.lsteps,.int .i64 M.lmem,.int .i64 M.steps,.int .i64 M.peak]) (by simp [results,Tryz.results14,go_sem,gz]) rfl ?_
 rw [← HP.out]
 exact ⟨_,rfl,HO5.out.base HB0.out.size,HW5.out⟩
end
section
open Go.RowKit
set_option maxRecDepth 100000
/-- What an action leaves of status and frames. -/
def ActS (m m':MachD):Prop:=(m'.status=m.status∨m'.status=2)∧m'.frames≠[]∨m'.status=3∧m'.frames=[]
theorem acts_ite {m:MachD} {p:Prop} [Decidable p] {a b:MachD × Int} (h1:ActS m a.1) (h2:ActS m b.1):ActS m (if p then a else b).1:=by
 by_cases h:p
 ·rw [if_pos h];exact h1
 ·rw [if_neg h];exact h2
theorem acts_top (m:MachD) (fs:List FrameD) (f:FrameD):ActS m (topM m fs f):=.inl ⟨.inl rfl,by simp [topM]⟩
theorem acts_res (m:MachD) (fs:List FrameD) (f:FrameD) (r:ResD):ActS m (resM m fs f r).1:=by
 unfold resM
 exact acts_ite (acts_top _ _ _) (acts_top _ _ _)
theorem acts_back (m:MachD) (fs:List FrameD) (v:ValD):ActS m (backM m fs v):=by
 unfold backM
 split
 ·exact .inr ⟨rfl,rfl⟩
 ·exact acts_top _ _ _
theorem acts_act (c:CodeD) (i:InsD) (m:MachD) (fs:List FrameD) (f:FrameD):ActS m (actF c i m fs f).1:=by
 have t:=acts_top m fs
 unfold actF
 refine acts_ite (acts_res _ _ _ _) (acts_ite (acts_ite (t _) (t _)) (acts_ite (t _) (acts_ite (acts_ite (t _) (acts_res _ _ _ _)) (acts_ite (acts_ite (t _) (acts_res _ _ _ _)) (acts_ite ?_ (acts_ite (acts_ite (t _) (acts_ite (t _) (.inl ⟨.inr rfl,by simp [topM]⟩))) (acts_ite (t _) ?_)))))))
 ·split
  ·exact t _
  ·exact acts_ite (t _) (acts_ite (t _) (.inl ⟨.inl rfl,by simp [enterF,topM]⟩))
 ·unfold act1F
  exact acts_ite (acts_ite (t _) (t _)) (acts_ite (t _) (acts_ite (t _) (acts_ite (acts_ite (t _) (acts_ite (t _) (t _))) (acts_ite (t _) (acts_back _ _ _)))))
/-- What holds of a machine within its limits. -/
structure LimM (ls lm:Int) (m:MachD):Prop where
 els:m.lsteps=ls
 elm:m.lmem=lm
 st:0≤m.steps∧m.steps≤ls
 pk:0≤m.peak
 ss:(m.status=1∨m.status=2)∧m.frames≠[]∧m.err=0∧m.peak≤lm∧(memN m.frames:Int)≤m.peak∨m.status=3∧m.frames=[]∧m.err=0∨m.status=4∧m.frames=[]
theorem LimM.fail {ls lm:Int} {m:MachD} (h1:m.lsteps=ls) (h2:m.lmem=lm) (h3:0≤m.steps∧m.steps≤ls) (h4:0≤m.peak) (e:Int):LimM ls lm (failF m e):=⟨h1,h2,h3,h4,.inr (.inr ⟨rfl,rfl⟩)⟩
theorem count_peak (m:MachD):m.peak≤(countF m).peak:=by
 unfold countF
 split
 ·split
  ·show m.peak≤max m.peak (memN m.frames);omega
  ·show m.peak≤max m.peak (memN m.frames);omega
 ·exact Int.le_refl _
theorem LimM.count {ls lm:Int} {m:MachD} (h1:m.lsteps=ls) (h2:m.lmem=lm) (h3:0≤m.steps∧m.steps≤ls) (h4:0≤m.peak)
  (h5:(m.status=1∨m.status=2)∧m.frames≠[]∧m.err=0∧m.peak≤lm∨m.status=3∧m.frames=[]∧m.err=0∨m.status=4∧m.frames=[]):LimM ls lm (countF m):=by
 unfold countF
 rcases h5 with ⟨a,b,c,d⟩ | ⟨a,b,c⟩ | ⟨a,b⟩
 ·rw [if_pos a]
  split
  ·exact LimM.fail (m:={ m with peak:=max m.peak (memN m.frames) }) h1 h2 h3 (by show 0≤max m.peak (memN m.frames);omega) 16
  ·rename_i hn
   exact ⟨h1,h2,h3,by show 0≤max m.peak (memN m.frames);omega,.inl ⟨a,b,c,by show max m.peak (memN m.frames)≤lm;omega,by show (memN m.frames:Int)≤max m.peak (memN m.frames);omega⟩⟩
 ·rw [if_neg (by omega)]
  exact ⟨h1,h2,h3,h4,.inr (.inl ⟨a,b,c⟩)⟩
 ·rw [if_neg (by omega)]
  exact ⟨h1,h2,h3,h4,.inr (.inr ⟨a,b⟩)⟩
theorem LimM.step {ls lm:Int} {m:MachD} (c:CodeD) (h:LimM ls lm m) (hs:m.status=1):LimM ls lm (stepF c m)∧m.peak≤(stepF c m).peak:=by
 have h3:=h.st
 have hl:=h.els
 obtain ⟨hpk,her⟩:m.peak≤lm∧m.err=0:=by
  rcases h.ss with ⟨_,_,c,d,_⟩ | ⟨a,_⟩ | ⟨a,_⟩
  ·exact ⟨d,c⟩
  ·omega
  ·omega
 have hf:=fun e=>LimM.fail h.els h.elm h.st h.pk e
 unfold stepF
 split
 ·exact ⟨hf _,Int.le_refl _⟩
 rename_i hst
 split
 ·exact ⟨hf _,Int.le_refl _⟩
 rename_i f hfr
 split
 ·exact ⟨hf _,Int.le_refl _⟩
 split
 ·exact ⟨hf _,Int.le_refl _⟩
 rename_i i hi
 obtain ⟨k1,k2,k3,k4,k5⟩:=keep_act c i { m with steps:=m.steps+1 } m.frames.dropLast { f with pc:=f.pc+1 }
 have hs:=acts_act c i { m with steps:=m.steps+1 } m.frames.dropLast { f with pc:=f.pc+1 }
 obtain ⟨r,hr⟩:∃ r,actF c i { m with steps:=m.steps+1 } m.frames.dropLast { f with pc:=f.pc+1 }=r:=⟨_,rfl⟩
 rw [hr] at k1 k2 k3 k4 k5 hs ⊢
 dsimp only at k1 k2 k3 k4 k5 hs ⊢
 have q1:r.1.lsteps=ls:=k2.trans h.els
 have q2:r.1.lmem=lm:=k3.trans h.elm
 have q3:0≤r.1.steps∧r.1.steps≤ls:=by omega
 have q4:0≤r.1.peak:=by have:=h.pk;omega
 constructor
 ·by_cases he:r.2≠0
  ·rw [if_pos he]
   exact LimM.count q1 q2 q3 q4 (.inr (.inr ⟨rfl,rfl⟩))
  ·rw [if_neg he]
   refine LimM.count q1 q2 q3 q4 ?_
   rcases hs with ⟨a,b⟩ | ⟨a,b⟩
   ·refine .inl ⟨?_,b,by omega,by omega⟩
    have:m.status=1:=‹m.status=1›
    rcases a with a | a
    ·exact .inl (a.trans this)
    ·exact .inr a
   ·exact .inr (.inl ⟨a,b,by omega⟩)
 ·refine Int.le_trans ?_ (count_peak _)
  by_cases he:r.2≠0
  ·rw [if_pos he];show m.peak≤r.1.peak;omega
  ·rw [if_neg he];omega
theorem LimM.run {ls lm:Int} (c:CodeD):∀ (n:Nat) {m:MachD},LimM ls lm m→LimM ls lm (runF c n m)∧m.peak≤(runF c n m).peak
 | 0,m,h=>⟨h,Int.le_refl _⟩
 | n+1,m,h=>by
  simp only [runF]
  split
  ·rename_i hs
   obtain ⟨h1,h2⟩:=h.step c hs
   obtain ⟨h3,h4⟩:=LimM.run c n h1
   exact ⟨h3,Int.le_trans h2 h4⟩
  ·exact ⟨h,Int.le_refl _⟩
theorem LimM.start {ls lm:Int} (h:LimOk ls lm) (f:FnD) (r:Int) (l:ValD):LimM ls lm (startM f r l ls lm):=by
 unfold startM
 obtain ⟨⟨h1,h2⟩,h3,h4⟩:=h
 exact LimM.count rfl rfl ⟨Int.le_refl _,by show 0≤ls;omega⟩ (Int.le_refl _) (.inl ⟨.inl rfl,by simp [enterF],rfl,by show 0≤lm;omega⟩)
/-- What Answer answers. -/
def answerM (m:MachD) (e:Int) (v:ValD):MachD :=
 if e≠0 then failF m e else if checkF v≠0 then failF m 13 else match m.frames.getLast? with
 | none=>failF m 21
 | some f=>countF (topM { m with status:=1 } m.frames.dropLast (pushFr f v))
def answerF (m:MachD) (e:Int) (v:ValD):MachD × Int:=if m.status≠2 then (zeroM,10) else (answerM m e v,0)
theorem GoodM.answer {K:Nat} {m:MachD} (h:GoodM K m) (e:Int) (v:ValD):GoodM (K+1) (answerM m e v):=by
 have hK:=h.mono (Nat.le_add_right K 1)
 unfold answerM
 split
 ·exact hK.fail _
 split
 ·exact hK.fail _
 rename_i hv
 split
 ·exact hK.fail _
 rename_i f hf
 have hm:=last_app hf
 have hv0:checkF v=0:=Classical.not_not.1 hv
 exact GoodM.count (hK.top (m':=topM { m with status:=1 } m.frames.dropLast (pushFr f v)) hm rfl ((h.last hm).push hv0) rfl rfl)
theorem LimM.answer {ls lm:Int} {m:MachD} (h:LimM ls lm m) (hs:m.status=2) (e:Int) (v:ValD):LimM ls lm (answerM m e v)∧m.peak≤(answerM m e v).peak:=by
 obtain ⟨hpk,her⟩:m.peak≤lm∧m.err=0:=by
  rcases h.ss with ⟨_,_,c,d,_⟩ | ⟨a,_⟩ | ⟨a,_⟩
  ·exact ⟨d,c⟩
  ·omega
  ·omega
 have hf:=fun e=>LimM.fail h.els h.elm h.st h.pk e
 unfold answerM
 split
 ·exact ⟨hf _,Int.le_refl _⟩
 split
 ·exact ⟨hf _,Int.le_refl _⟩
 split
 ·exact ⟨hf _,Int.le_refl _⟩
 rename_i f hfr
 exact ⟨LimM.count h.els h.elm h.st h.pk (.inl ⟨.inl rfl,by simp [topM],her,hpk⟩),count_peak _⟩
end
section
open Go.RowKit
set_option maxRecDepth 100000
/-- No code. -/
def noC:CodeS:=⟨none,none,0,0,⟨[],[]⟩,none⟩
/-- A machine in memory of its own: an executor's. -/
def OwnM (w w':World) (x:Value) (M:MachD):Prop:=∃ gE vv fv qv LS avs,x=machA M vv fv qv∧XM w noC gE w' M vv fv qv LS avs∧SmallM M
def AnsPost (R:MachD × Int) (w:World) (r:Ending) (w':World):Prop:=∃ x,r=.returned (.tuple #[x,.int .i64 R.2])∧MachV w' x R.1∧Below w.heap.size w w'∧(R.2=0→OwnM w w' x R.1)
attribute [local go_sem] cell_alloc_is
set_option maxHeartbeats 8000000 in
theorem manswer_any (m:MachD) (v:Value) (e:Int) (av:Value) (l:ValD) (w:World) (K:Nat) (hm:MachV w v m) (hg:GoodM K m) (hK:K≤8900) (hv:ValV w av l) (ho:OkV l) (hp:Pow w) :
  Calls Tryz.prog 17 #[v,.agg #[.int .i64 e,av]] w (AnsPost (answerF m e l) w):=by
 obtain ⟨P,hP⟩:∃ P:Ending→World→Prop,AnsPost (answerF m e l) w=P:=⟨_,rfl⟩
 rw [hP]
 have HP:=Lib.hid hP
 have HM:=Lib.hid hm
 have HG:=Lib.hid hg
 have HKK:=Lib.hid hK
 have HOK:=Lib.hid ho
 have HPW:=Lib.hid hp
 have HV:=Lib.hid hv
 obtain ⟨A1,n1,k1,A2,n2,k2,A3,n3,k3,rfl⟩:∃ A1 n1 k1 A2 n2 k2 A3 n3 k3,v=.agg #[.int .i64 m.status,.int .i64 m.err,.slice A1 n1 k1,.slice A2 n2 k2,.slice A3 n3 k3,.int .i64 m.lsteps,.int .i64 m.lmem,.int .i64 m.steps,.int .i64 m.peak]:=by
  obtain ⟨va,fa,qa,rfl,h31,h32,h33⟩:=hm
  obtain ⟨A1,n1,k1,rfl⟩:=h31.shape
  obtain ⟨A2,n2,k2,rfl⟩:=h32.shape
  obtain ⟨A3,n3,k3,rfl⟩:=h33.shape
  exact ⟨_,_,_,_,_,_,_,_,_,rfl⟩
 obtain ⟨lA,ln,lc,rfl⟩:=hv.shape
 have HB:=Lib.hid (below_3 w (.cells #[.int .i64 m.status,.int .i64 m.err,.slice A1 n1 k1,.slice A2 n2 k2,.slice A3 n3 k3,.int .i64 m.lsteps,.int .i64 m.lmem,.int .i64 m.steps,.int .i64 m.peak] 37) (.cells #[.int .i64 e,.slice lA ln lc] 48) (.cells #[.int .i64 0,.int .i64 0,.slice none 0 0,.slice none 0 0,.slice none 0 0,.int .i64 0,.int .i64 0,.int .i64 0,.int .i64 0] 37))
 have HMM0:=Lib.hid (((Blk.new w 37 #[.int .i64 m.status,.int .i64 m.err,.slice A1 n1 k1,.slice A2 n2 k2,.slice A3 n3 k3,.int .i64 m.lsteps,.int .i64 m.lmem,.int .i64 m.steps,.int .i64 m.peak]).alloc (.cells #[.int .i64 e,.slice lA ln lc] 48)).alloc (.cells #[.int .i64 0,.int .i64 0,.slice none 0 0,.slice none 0 0,.slice none 0 0,.int .i64 0,.int .i64 0,.int .i64 0,.int .i64 0] 37))
 have HAA0:=Lib.hid ((Blk.second w (.cells #[.int .i64 m.status,.int .i64 m.err,.slice A1 n1 k1,.slice A2 n2 k2,.slice A3 n3 k3,.int .i64 m.lsteps,.int .i64 m.lmem,.int .i64 m.steps,.int .i64 m.peak] 37) 48 #[.int .i64 e,.slice lA ln lc]).alloc (.cells #[.int .i64 0,.int .i64 0,.slice none 0 0,.slice none 0 0,.slice none 0 0,.int .i64 0,.int .i64 0,.int .i64 0,.int .i64 0] 37))
 have HZZ0:=Lib.hid (Blk.third w (.cells #[.int .i64 m.status,.int .i64 m.err,.slice A1 n1 k1,.slice A2 n2 k2,.slice A3 n3 k3,.int .i64 m.lsteps,.int .i64 m.lmem,.int .i64 m.steps,.int .i64 m.peak] 37) (.cells #[.int .i64 e,.slice lA ln lc] 48) 37 #[.int .i64 0,.int .i64 0,.slice none 0 0,.slice none 0 0,.slice none 0 0,.int .i64 0,.int .i64 0,.int .i64 0,.int .i64 0])
 clear hm hg hv ho hp hP hK
 go_enter Tryz.func17,Tryz.ntmps17
 go_upto_region 1 with fail
 obtain ⟨W,hW⟩:∃ W,((w.alloc (.cells #[.int .i64 m.status,.int .i64 m.err,.slice A1 n1 k1,.slice A2 n2 k2,.slice A3 n3 k3,.int .i64 m.lsteps,.int .i64 m.lmem,.int .i64 m.steps,.int .i64 m.peak] 37)).alloc (.cells #[.int .i64 e,.slice lA ln lc] 48)).alloc (.cells #[.int .i64 0,.int .i64 0,.slice none 0 0,.slice none 0 0,.slice none 0 0,.int .i64 0,.int .i64 0,.int .i64 0,.int .i64 0] 37)=W:=⟨_,rfl⟩
 rw [hW] at HB HMM0 HAA0 HZZ0 ⊢
 obtain ⟨gM,hgM⟩:∃ g,w.heap.size=g:=⟨_,rfl⟩
 obtain ⟨gA,hgA⟩:∃ g,w.heap.size+1=g:=⟨_,rfl⟩
 obtain ⟨gZ,hgZ⟩:∃ g,w.heap.size+1+1=g:=⟨_,rfl⟩
 have HMM:Hid (Blk W gM 37 #[.int .i64 m.status,.int .i64 m.err,.slice A1 n1 k1,.slice A2 n2 k2,.slice A3 n3 k3,.int .i64 m.lsteps,.int .i64 m.lmem,.int .i64 m.steps,.int .i64 m.peak]):=Lib.hid (by rw [← hgM];exact HMM0.out)
 have HAA:Hid (Blk W gA 48 #[.int .i64 e,.slice lA ln lc]):=Lib.hid (by rw [← hgA];exact HAA0.out)
 have HZZ:Hid (Blk W gZ 37 #[.int .i64 0,.int .i64 0,.slice none 0 0,.slice none 0 0,.slice none 0 0,.int .i64 0,.int .i64 0,.int .i64 0,.int .i64 0]):=Lib.hid (by rw [← hgZ];exact HZZ0.out)
 have HLZ:Hid (w.heap.size≤gZ):=Lib.hid (by rw [← hgZ];omega)
 rw [hgZ,hgA,hgM]
 have HMW:=Lib.hid (HM.out.below HB.out)
 have HVW:=Lib.hid (HV.out.below HB.out)
 have HPWW:=Lib.hid (HPW.out.below HB.out)
 clear hW hgM hgA hgZ HMM0 HAA0 HZZ0
 have m0:=blk9 HMM.out
 by_cases hs:m.status=2
 rotate_left
 ·have d1:(m.status != 2)=true:=by simpa using hs
  have d2:(m.status == 2)=false:=by simpa using hs
  have HR:Hid (P=AnsPost (zeroM,10) w):=Lib.hid (by rw [← HP.out];unfold answerF;rw [if_pos hs])
  have HZe:=Lib.hid (HZZ.out.setRow (cs':=#[.int .i64 0,.int .i64 0,.slice none 0 0,.slice none 0 0,.slice none 0 0,.int .i64 0,.int .i64 0,.int .i64 0,.int .i64 0]))
  have HBe:=Lib.hid (below_setRow HB.out HLZ.out #[.int .i64 0,.int .i64 0,.slice none 0 0,.slice none 0 0,.slice none 0 0,.int .i64 0,.int .i64 0,.int .i64 0,.int .i64 0])
  clear hs
  go_wp2_with (first
   | (refine wpList_store_row rfl 37 (.tmp 4) (.tmp 10) rfl gZ #[.int .i64 0,.int .i64 0,.slice none 0 0,.slice none 0 0,.slice none 0 0,.int .i64 0,.int .i64 0,.int .i64 0,.int .i64 0] rfl rfl 37 _ HZZ.out (by kernel_rfl) rfl (by simp [Value.oneCell']) ?_))
  have gz:=blk9 HZe.out
  refine bodyPost_ret (v:=.tuple #[.agg #[.int .i64 0,.int .i64 0,.slice none 0 0,.slice none 0 0,.slice none 0 0,.int .i64 0,.int .i64 0,.int .i64 0,.int .i64 0],.int .i64 10]) (by simp [results,Tryz.results17,go_sem,gz]) rfl ?_
  rw [HR.out]
  exact ⟨_,rfl,machV_zero _,HBe.out,fun h=>by cases h⟩
 have HS:=Lib.hid hs
 have d1:(m.status != 2)=false:=by rw [hs];rfl
 have d2:(m.status == 2)=true:=by rw [hs];rfl
 have HRA:Hid (P=AnsPost (answerM m e l,0) w):=Lib.hid (by rw [← HP.out];unfold answerF;rw [if_neg (by rw [hs];simp)])
 clear hs
 go_upto_region 7 with (first
  | (go_at_call 35;((with_reducible refine (own2_any m _ W HMW.out (by have:=HG.out.nf;omega) (by have:=HG.out.nr;omega)).mono ?_);rintro e1 w1 ⟨v1,rfl,ho1,hb1⟩;obtain ⟨B1,i1,z1,B2,i2,z2,B3,i3,z3,hv1⟩:=ho1.mach.shape;subst hv1;have HO1:=Lib.hid ho1;have HB1:=Lib.hid hb1;clear ho1 hb1 m0)))
 have hrc:=run_cut (W:=W) (C:=noC) (m:=m) (a:=.slice none 0 0) (b:=.slice none 0 0) HO1.out (KT.of_below (below_new w1 _)) (below_call (below_new w1 _) HB1.out) HB1.out.size HG.out rfl (fun _ _ _=>rfl) rfl rfl rfl rfl rfl rfl (Blk.new w1 _ _)
 obtain ⟨wE,hwE⟩:∃ wE,w1.alloc (.cells #[.slice none 0 0,.slice none 0 0,.int .i64 m.status,.int .i64 m.err,.slice B1 i1 z1,.slice B2 i2 z2,.slice B3 i3 z3,.int .i64 m.lsteps,.int .i64 m.lmem,.int .i64 m.steps,.int .i64 m.peak] 69)=wE:=⟨_,rfl⟩
 obtain ⟨gE,hgE⟩:∃ g,w1.heap.size=g:=⟨_,rfl⟩
 rw [hwE,hgE] at hrc
 rw [hwE,hgE]
 clear hwE hgE HO1 HB1 d1 d2
 obtain ⟨gE',vv,fv,qv,LS,avs,hu,hx⟩:=hrc
 injection hu with hu
 injection hu with hu
 injection hu with hu
 subst hu
 obtain ⟨vA,vn,vk,rfl⟩:=hx.p.val.shape
 obtain ⟨qA,qk,rfl⟩:=hx.qshape
 obtain ⟨fA,fk,hfv⟩:=own_shape hx.frow
 obtain ⟨N,hN⟩:∃ N,m.frames.length=N:=⟨_,rfl⟩
 obtain ⟨Nq,hNq⟩:∃ N,m.requests.length=N:=⟨_,rfl⟩
 rw [hN] at hfv
 rw [hNq] at hx
 subst hfv
 have HN:=Lib.hid hN
 have HX:=Lib.hid hx
 have a0:=blk2 (HAA.out.below hx.p.bel)
 have e0:=blkX hx.p.ex
 clear hx hN hNq
 by_cases he:e=0
 rotate_left
 ·have d3:(e != 0)=true:=by simpa using he
  have d4:(e == 0)=false:=by simpa using he
  have HE:=Lib.hid he
  clear he
  obtain ⟨M,hM⟩:∃ M,failF m e=M:=⟨_,rfl⟩
  have HMQ:=Lib.hid hM
  have HR:Hid (P=AnsPost (M,0) w):=Lib.hid (by rw [HRA.out,← hM];unfold answerM;rw [if_pos HE.out])
  have HSM:Hid (SmallM M):=Lib.hid (by rw [← hM];exact (HG.out.fail e).small (by have:=HKK.out;omega))
  clear hM
  go_wp2_with (first
   | (go_at_call 39;((refine (fail_any HX.out e).mono ?_);rintro r9 w9 ⟨rfl,h9⟩;rw [HMQ.out] at h9;have HX9:=Lib.hid h9;have HZ9:=Lib.hid (HZZ.out.below h9.p.bel);have e9:=blkX h9.p.ex;clear h9))
   | (refine wpList_store_row rfl 37 (.tmp 4) (.tmp 42) rfl gZ #[.int .i64 M.status,.int .i64 M.err,.slice none 0 0,.slice none 0 0,.slice qA Nq qk,.int .i64 M.lsteps,.int .i64 M.lmem,.int .i64 M.steps,.int .i64 M.peak] rfl rfl 37 _ HZ9.out (by kernel_rfl) rfl (by simp [Value.oneCell']) ?_))
  have HXF:=Lib.hid ((HX9.out.rebase HB.out).turnT HZ9.out (grown_setRow w9 gZ #[.int .i64 M.status,.int .i64 M.err,.slice none 0 0,.slice none 0 0,.slice qA Nq qk,.int .i64 M.lsteps,.int .i64 M.lmem,.int .i64 M.steps,.int .i64 M.peak]) HLZ.out (by decide) (by decide) (by decide) (by decide) (by decide))
  have HZF:=Lib.hid (HZ9.out.setRow (cs':=#[.int .i64 M.status,.int .i64 M.err,.slice none 0 0,.slice none 0 0,.slice qA Nq qk,.int .i64 M.lsteps,.int .i64 M.lmem,.int .i64 M.steps,.int .i64 M.peak]))
  have gz:=blk9 HZF.out
  refine bodyPost_ret (v:=.tuple #[machA M (.slice none 0 0) (.slice none 0 0) (.slice qA Nq qk),.int .i64 0]) (by unfold machA;simp [results,Tryz.results17,go_sem,gz]) rfl ?_
  rw [HR.out]
  exact ⟨_,rfl,HXF.out.mach HSM.out,HXF.out.p.bel,fun _=>⟨_,_,_,_,_,_,rfl,HXF.out,HSM.out⟩⟩
 subst he
 obtain ⟨ck,hck⟩:∃ c,checkF l=c:=⟨_,rfl⟩
 have HCK:=Lib.hid hck
 have HCV:Hid (Calls Tryz.prog 24 #[.slice lA ln lc] wE fun r w'=>r=.returned (.int .i64 ck)∧Below wE.heap.size wE w'):=Lib.hid (by rw [← hck];exact checkV_any l _ wE (HVW.out.below HX.out.p.bel) (HPWW.out.below HX.out.p.bel) HOK.out)
 clear hck
 by_cases hc:ck=0
 rotate_left
 ·have d3:(ck != 0)=true:=by simpa using hc
  have d4:(ck == 0)=false:=by simpa using hc
  have HE:=Lib.hid hc
  clear hc
  obtain ⟨M,hM⟩:∃ M,failF m 13=M:=⟨_,rfl⟩
  have HMQ:=Lib.hid hM
  have HR:Hid (P=AnsPost (M,0) w):=Lib.hid (by rw [HRA.out,← hM];unfold answerM;rw [if_neg (by simp),if_pos (by rw [HCK.out];exact HE.out)])
  have HSM:Hid (SmallM M):=Lib.hid (by rw [← hM];exact (HG.out.fail 13).small (by have:=HKK.out;omega))
  clear hM
  go_wp2_with (first
   | (go_at_call 24;((with_reducible refine HCV.out.mono ?_);rintro r2 w2 ⟨rfl,hb2⟩;have HX2:=Lib.hid (HX.out.below hb2);have e2:=blkX HX2.out.p.ex;have a2:=blk2 (HAA.out.below HX2.out.p.bel);have y2:=HX2.out.p.ex.frozen 2;clear hb2 e0 a0))
   | (go_at_call 39;((refine (fail_any HX2.out 13).mono ?_);rintro r9 w9 ⟨rfl,h9⟩;rw [HMQ.out] at h9;have HX9:=Lib.hid h9;have HZ9:=Lib.hid (HZZ.out.below h9.p.bel);have e9:=blkX h9.p.ex;clear h9))
   | (refine wpList_store_row rfl 37 (.tmp 4) (.tmp 42) rfl gZ #[.int .i64 M.status,.int .i64 M.err,.slice none 0 0,.slice none 0 0,.slice qA Nq qk,.int .i64 M.lsteps,.int .i64 M.lmem,.int .i64 M.steps,.int .i64 M.peak] rfl rfl 37 _ HZ9.out (by kernel_rfl) rfl (by simp [Value.oneCell']) ?_))
  have HXF:=Lib.hid ((HX9.out.rebase HB.out).turnT HZ9.out (grown_setRow w9 gZ #[.int .i64 M.status,.int .i64 M.err,.slice none 0 0,.slice none 0 0,.slice qA Nq qk,.int .i64 M.lsteps,.int .i64 M.lmem,.int .i64 M.steps,.int .i64 M.peak]) HLZ.out (by decide) (by decide) (by decide) (by decide) (by decide))
  have HZF:=Lib.hid (HZ9.out.setRow (cs':=#[.int .i64 M.status,.int .i64 M.err,.slice none 0 0,.slice none 0 0,.slice qA Nq qk,.int .i64 M.lsteps,.int .i64 M.lmem,.int .i64 M.steps,.int .i64 M.peak]))
  have gz:=blk9 HZF.out
  refine bodyPost_ret (v:=.tuple #[machA M (.slice none 0 0) (.slice none 0 0) (.slice qA Nq qk),.int .i64 0]) (by unfold machA;simp [results,Tryz.results17,go_sem,gz]) rfl ?_
  rw [HR.out]
  exact ⟨_,rfl,HXF.out.mach HSM.out,HXF.out.p.bel,fun _=>⟨_,_,_,_,_,_,rfl,HXF.out,HSM.out⟩⟩
 subst hc
 cases hfl:m.frames.getLast? with
 | none =>
  have hnil:m.frames=[]:=List.getLast?_eq_none_iff.1 hfl
  have hN0:N=0:=by rw [← HN.out,hnil];rfl
  subst hN0
  have HFL:=Lib.hid hfl
  clear hfl hnil
  obtain ⟨M,hM⟩:∃ M,failF m 21=M:=⟨_,rfl⟩
  have HMQ:=Lib.hid hM
  have HR:Hid (P=AnsPost (M,0) w):=Lib.hid (by rw [HRA.out,← hM];unfold answerM;rw [if_neg (by simp),if_neg (by rw [HCK.out];simp),HFL.out])
  have HSM:Hid (SmallM M):=Lib.hid (by rw [← hM];exact (HG.out.fail 21).small (by have:=HKK.out;omega))
  clear hM
  go_wp2_with (first
   | (go_at_call 24;((with_reducible refine HCV.out.mono ?_);rintro r2 w2 ⟨rfl,hb2⟩;have HX2:=Lib.hid (HX.out.below hb2);have e2:=blkX HX2.out.p.ex;have a2:=blk2 (HAA.out.below HX2.out.p.bel);have y2:=HX2.out.p.ex.frozen 2;clear hb2 e0 a0))
   | (go_at_call 39;((refine (fail_any HX2.out 21).mono ?_);rintro r9 w9 ⟨rfl,h9⟩;rw [HMQ.out] at h9;have HX9:=Lib.hid h9;have HZ9:=Lib.hid (HZZ.out.below h9.p.bel);have e9:=blkX h9.p.ex;clear h9))
   | (refine wpList_store_row rfl 37 (.tmp 4) (.tmp 42) rfl gZ #[.int .i64 M.status,.int .i64 M.err,.slice none 0 0,.slice none 0 0,.slice qA Nq qk,.int .i64 M.lsteps,.int .i64 M.lmem,.int .i64 M.steps,.int .i64 M.peak] rfl rfl 37 _ HZ9.out (by kernel_rfl) rfl (by simp [Value.oneCell']) ?_))
  have HXF:=Lib.hid ((HX9.out.rebase HB.out).turnT HZ9.out (grown_setRow w9 gZ #[.int .i64 M.status,.int .i64 M.err,.slice none 0 0,.slice none 0 0,.slice qA Nq qk,.int .i64 M.lsteps,.int .i64 M.lmem,.int .i64 M.steps,.int .i64 M.peak]) HLZ.out (by decide) (by decide) (by decide) (by decide) (by decide))
  have HZF:=Lib.hid (HZ9.out.setRow (cs':=#[.int .i64 M.status,.int .i64 M.err,.slice none 0 0,.slice none 0 0,.slice qA Nq qk,.int .i64 M.lsteps,.int .i64 M.lmem,.int .i64 M.steps,.int .i64 M.peak]))
  have gz:=blk9 HZF.out
  refine bodyPost_ret (v:=.tuple #[machA M (.slice none 0 0) (.slice none 0 0) (.slice qA Nq qk),.int .i64 0]) (by unfold machA;simp [results,Tryz.results17,go_sem,gz]) rfl ?_
  rw [HR.out]
  exact ⟨_,rfl,HXF.out.mach HSM.out,HXF.out.p.bel,fun _=>⟨_,_,_,_,_,_,rfl,HXF.out,HSM.out⟩⟩
 | some f =>
  have hmf:=last_app hfl
  obtain ⟨fs,hfs⟩:∃ fs,m.frames.dropLast=fs:=⟨_,rfl⟩
  rw [hfs] at hmf
  have hNf:N=fs.length+1:=by rw [← HN.out,hmf];simp
  obtain ⟨n,hn⟩:∃ n,fs.length=n:=⟨_,rfl⟩
  rw [hn] at hNf
  subst hNf
  obtain ⟨M,hM⟩:∃ M,countF (topM { m with status:=1 } fs (pushFr f l))=M:=⟨_,rfl⟩
  have HMQ:=Lib.hid hM
  have HMF:=Lib.hid hmf
  have HR:Hid (P=AnsPost (M,0) w):=Lib.hid (by rw [HRA.out,← hM,← hfs];unfold answerM;rw [if_neg (by simp),if_neg (by rw [HCK.out];simp),hfl])
  have hgt:GoodM (K+1) (topM { m with status:=1 } fs (pushFr f l)):=(HG.out.mono (Nat.le_add_right K 1)).top hmf rfl ((HG.out.last hmf).push HCK.out) rfl rfl
  have HST:Hid (SmallM (topM { m with status:=1 } fs (pushFr f l))):=Lib.hid (hgt.small (by have:=HKK.out;omega))
  have HSM:Hid (SmallM M):=Lib.hid (by rw [← hM];exact hgt.count.small (by have:=HKK.out;omega))
  have HFN:Hid (fs.length≤100∧f.stack.length≤100000):=Lib.hid (by
   have h1:=HG.out.nf
   have h2:=(HG.out.last hmf).ns
   have h3:=HKK.out
   rw [hmf] at h1
   simp only [List.length_append,List.length_singleton] at h1
   exact ⟨by omega,by omega⟩)
  have hn0:((n:Int)+1 == 0)=false:=by simp;omega
  have hn1:((n:Int)+1=0)=False:=by simp;omega
  have hn2:decide ((n:Int)+1=0)=false:=by simp;omega
  clear hfl hmf hfs hn hM hgt
  go_upto_region 5 with (first
   | (go_at_call 24;((with_reducible refine HCV.out.mono ?_);rintro r2 w2 ⟨rfl,hb2⟩;have HX2:=Lib.hid (HX.out.below hb2);have e2:=blkX HX2.out.p.ex;have a2:=blk2 (HAA.out.below HX2.out.p.bel);have y2:=HX2.out.p.ex.frozen 2;clear hb2 e0 a0)))
  obtain ⟨w3,hw3⟩:∃ w3,w2.setCell ⟨gE,2,none⟩ (.int .i64 1)=w3:=⟨_,rfl⟩
  have HX3:Hid (XM W noC gE w3 { m with status:=1 } (.slice vA vn vk) (.slice fA (n+1) fk) (.slice qA Nq qk) LS avs):=Lib.hid (by
   rw [← hw3]
   exact HX2.out.setE 2 (.int .i64 1) { m with status:=1 } _ rfl (fun wx ck=>HX2.out.p.val.keep ck) rfl rfl)
  rw [hw3]
  clear hw3 e2 a2 y2
  have a3:=blk2 (HAA.out.below HX3.out.p.bel)
  have HVL:Hid (l.length≤3518437208780):=Lib.hid (check_len HCK.out)
  go_wp2_with (first
   | (go_at_call 26;((with_reducible refine (clone_any l _ w3 (HVW.out.below HX3.out.p.bel)).mono ?_);rintro r4 w4 ⟨v4,rfl,ho4,hb4⟩;have HX4:=Lib.hid (HX3.out.below hb4);have HT4:=Lib.hid (OVal.valT ho4 HVL.out);clear ho4 hb4 a3))
   | (go_at_call 40;((refine (push_x HX4.out (show ({ m with status:=1 }:MachD).frames=fs ++ [f] from HMF.out) _ l HT4.out HFN.out.1 HFN.out.2).mono ?_);rintro r5 w5 ⟨rfl,LS5,h5,_⟩;have HX5:=Lib.hid h5;clear h5))
   | (go_at_call 27;((refine (count_any HX5.out HST.out).mono ?_);rintro r9 w9 ⟨rfl,vv9,fv9,LS9,h9⟩;rw [HMQ.out] at h9;obtain ⟨V9,vn9,vk9,rfl⟩:=h9.p.val.shape;obtain ⟨F9,fn9,fk9,rfl⟩:=XM.fshape h9;have HX9:=Lib.hid h9;have HZ9:=Lib.hid (HZZ.out.below h9.p.bel);have e9:=blkX h9.p.ex;clear h9))
   | (refine wpList_store_row rfl 37 (.tmp 4) (.tmp 42) rfl gZ #[.int .i64 M.status,.int .i64 M.err,.slice V9 vn9 vk9,.slice F9 fn9 fk9,.slice qA Nq qk,.int .i64 M.lsteps,.int .i64 M.lmem,.int .i64 M.steps,.int .i64 M.peak] rfl rfl 37 _ HZ9.out (by kernel_rfl) rfl (by simp [Value.oneCell']) ?_))
  have HXF:=Lib.hid ((HX9.out.rebase HB.out).turnT HZ9.out (grown_setRow w9 gZ #[.int .i64 M.status,.int .i64 M.err,.slice V9 vn9 vk9,.slice F9 fn9 fk9,.slice qA Nq qk,.int .i64 M.lsteps,.int .i64 M.lmem,.int .i64 M.steps,.int .i64 M.peak]) HLZ.out (by decide) (by decide) (by decide) (by decide) (by decide))
  have HZF:=Lib.hid (HZ9.out.setRow (cs':=#[.int .i64 M.status,.int .i64 M.err,.slice V9 vn9 vk9,.slice F9 fn9 fk9,.slice qA Nq qk,.int .i64 M.lsteps,.int .i64 M.lmem,.int .i64 M.steps,.int .i64 M.peak]))
  have gz:=blk9 HZF.out
  refine bodyPost_ret (v:=.tuple #[machA M (.slice V9 vn9 vk9) (.slice F9 fn9 fk9) (.slice qA Nq qk),.int .i64 0]) (by unfold machA;simp [results,Tryz.results17,go_sem,gz]) rfl ?_
  rw [HR.out]
  exact ⟨_,rfl,HXF.out.mach HSM.out,HXF.out.p.bel,fun _=>⟨_,_,_,_,_,_,rfl,HXF.out,HSM.out⟩⟩
end
section
open Go.RowKit
set_option maxRecDepth 100000
structure TurnD where
 steps:Int
 err:Int
 val:ValD
def turnR (w:World) (row:List Value) (t:TurnD):Prop:=∃ v,row=[.int .i64 t.steps,.int .i64 t.err,v]∧ValV w v t.val
theorem stays_turnR:Stays2 turnR:=fun _ _ _ _ ⟨v,h1,h2⟩ hb=>⟨v,h1,h2.below hb⟩
def TurnsV:=RowsV 3518437208780 3 turnR
theorem TurnsV.below {w w':World} {v:Value} {l:List TurnD} (h:TurnsV w v l) (hb:Below w.heap.size w w'):TurnsV w' v l:=stays_rows stays_turnR _ _ _ _ h hb
/-- How many steps some turns ask for. -/
def sumT:List TurnD→Int
 | []=>0
 | t :: r=>max t.steps 0+sumT r
theorem sumT_snoc:∀ (l:List TurnD) (t:TurnD),sumT (l ++ [t])=sumT l+max t.steps 0
 | [],t=>by simp [sumT]
 | a :: r,t=>by
  simp only [List.cons_append,sumT,sumT_snoc r t]
  omega
theorem sumT_nonneg:∀ l:List TurnD,0≤sumT l
 | []=>Int.le_refl _
 | t :: r=>by have:=sumT_nonneg r;simp only [sumT];omega
def FewP (ts:List TurnD):Prop:=ts.length≤40∧(∀ t∈ts,t.steps≤3000∧smallB t.val=true)∧sumT ts≤3000
set_option maxHeartbeats 4000000 in
theorem few_any (ts:List TurnD) (v:Value) (w:World) (h:TurnsV w v ts) (hs:∀ t∈ts,∀ c∈t.val,c.str.size≤140737488351232) :
  Calls Tryz.prog 15 #[v] w fun e w'=>(∃ b,e=.returned (.bool b)∧(b=true→FewP ts))∧w'=w:=by
 obtain ⟨P,hP⟩:∃ P:Ending→World→Prop,(fun e w'=>(∃ b,e=.returned (.bool b)∧(b=true→FewP ts))∧w'=w)=P:=⟨_,rfl⟩
 rw [hP]
 have HP:=Lib.hid hP
 obtain ⟨A,cap,rows,rfl,hca,hma,hsa,hlr,hrv⟩:=h
 obtain ⟨N,hN⟩:∃ N,ts.length=N:=⟨_,rfl⟩
 have HN:=Lib.hid hN
 have HSA:=Lib.hid hsa
 have HRV:=Lib.hid hrv
 have HSS:=Lib.hid hs
 have HLR:Hid (rows.length=N):=Lib.hid (hlr.trans hN)
 rw [hN] at hma hca ⊢
 clear hsa hrv hs hP hN hlr
 go_enter Tryz.func15,Tryz.ntmps15
 go_wp2
 go_loop [3,4,7] (fun s _ i=>∃ n:Nat,n≤N∧i=.int .i64 n∧s=.int .i64 (sumT (ts.take n))∧(0<n→N≤40)∧Hid (∀ t∈ts.take n,t.steps≤3000∧smallB t.val=true)∧Hid (0≤sumT (ts.take n)∧sumT (ts.take n)≤3000 * n)) (fun _ _ i=>N - (intOf i).toNat)
 case atStart=>exact ⟨0,Nat.zero_le _,rfl,rfl,fun h=>absurd h (by omega),Lib.hid (by simp),Lib.hid (by simp [sumT])⟩
 case round =>
  obtain ⟨n,hn,rfl,rfl,hc,HT,HSM⟩:=hrel
  obtain ⟨S,hS⟩:∃ S,sumT (ts.take n)=S:=⟨_,rfl⟩
  have HSE:=Lib.hid hS
  rw [hS] at HSM ⊢
  have HC:=Lib.hid hc
  clear hS hc
  by_cases hlt:n<N
  ·have hlt':(n:Int)<(N:Int):=by omega
   have hn0:(0:Int)≤(n:Int):=by omega
   have hna:n<rows.length:=by rw [HLR.out];exact hlt
   have HNA:Hid (n<ts.length):=Lib.hid (by rw [HN.out];exact hlt)
   have hsa:=HSA.out
   obtain ⟨b,off,rfl,_⟩:=hsa.ptr hna
   obtain ⟨tv,hrow,htv⟩:=HRV.out n hna HNA.out
   obtain ⟨lA,ln,lc,rfl⟩:=htv.shape
   obtain ⟨k,hk⟩:∃ k,(ts[n]'HNA.out).steps=k:=⟨_,rfl⟩
   obtain ⟨er,her⟩:∃ k,(ts[n]'HNA.out).err=k:=⟨_,rfl⟩
   rw [hk,her] at hrow
   have c0:=hsa.cell0 hna (v:=.int .i64 k) (by rw [hrow];rfl)
   have c2:=hsa.cell hna (j:=2) (v:=.slice lA ln lc) (by rw [hrow];rfl)
   obtain ⟨sb,hsb⟩:∃ b,smallB (ts[n]'HNA.out).val=b:=⟨_,rfl⟩
   have HSV:Hid (Calls Tryz.prog 8 #[.slice lA ln lc] w fun e w'=>e=.returned (.bool sb)∧w'=w):=Lib.hid (by rw [← hsb];exact small_any _ _ w htv (HSS.out _ (List.getElem_mem HNA.out)))
   have HK:=Lib.hid hk
   have HSB:=Lib.hid hsb
   clear hsa hrow htv hk her hsb hna
   by_cases h1:3000<k
   ·have h1':decide (3000<k)=true:=decide_eq_true h1
    go_wp2
    rw [← HP.out]
    exact ⟨⟨false,rfl,fun h=>by cases h⟩,rfl⟩
   have h1':decide (3000<k)=false:=decide_eq_false h1
   by_cases h2:40<N
   ·have h2':((40:Int)<(N:Int)):=by omega
    go_wp2
    rw [← HP.out]
    exact ⟨⟨false,rfl,fun h=>by cases h⟩,rfl⟩
   have h2':¬ ((40:Int)<(N:Int)):=by omega
   cases sb with
   | false =>
    go_wp2_with (first
     | (go_at_call 8;(with_reducible refine HSV.out.mono ?_);rintro e2 W2 ⟨rfl,hw2⟩;rw [hw2];clear hw2 W2))
    rw [← HP.out]
    exact ⟨⟨false,rfl,fun h=>by cases h⟩,rfl⟩
   | true =>
    have HKB:Hid (k≤3000∧N≤40∧n<N∧(n:Int)≤40):=Lib.hid (by omega)
    have hw:IntKind.i64.wrap (S+max k 0)=S+max k 0:=IntWalk.i64_in _ (by have:=HSM.out;have:=HKB.out;omega)
    have hw1:IntKind.i64.wrap ((n:Int)+1)=(n:Int)+1:=IntWalk.i64_in _ (by have:=HKB.out;omega)
    have HS2:Hid (sumT (ts.take (n+1))=S+max k 0):=Lib.hid (by
     rw [List.take_succ_eq_append_getElem HNA.out,sumT_snoc,HSE.out,HK.out])
    have HT2:Hid (∀ t∈ts.take (n+1),t.steps≤3000∧smallB t.val=true):=Lib.hid (by
     rw [List.take_succ_eq_append_getElem HNA.out]
     intro t ht
     rcases List.mem_append.1 ht with ht | ht
     ·exact HT.out t ht
     ·have:t=ts[n]'HNA.out:=by simpa using ht
      subst this
      exact ⟨by rw [HK.out];exact HKB.out.1,HSB.out⟩)
    clear h1 h2
    go_wp2_with (first
     | (go_at_call 8;(with_reducible refine HSV.out.mono ?_);rintro e2 W2 ⟨rfl,hw2⟩;rw [hw2];clear hw2 W2))
    refine ⟨⟨n+1,by have:=HKB.out;omega,by simp,by rw [HS2.out],fun _=>HKB.out.2.1,HT2,Lib.hid (by rw [HS2.out];have:=HSM.out;have:=HKB.out;omega)⟩,by simp [intOf];omega⟩
  ·have e:n=N:=by omega
   subst e
   have HTA:Hid (ts.take n=ts):=Lib.hid (List.take_of_length_le (by rw [HN.out];exact Nat.le_refl _))
   obtain ⟨r,hr⟩:∃ r,decide (S≤3000)=r:=⟨_,rfl⟩
   have HRD:=Lib.hid hr
   go_wp2
   rw [← HP.out]
   refine ⟨⟨r,rfl,fun h=>⟨?_,?_,?_⟩⟩,rfl⟩
   ·by_cases h0:0<n
    ·rw [HN.out];exact HC.out h0
    ·rw [HN.out];omega
   ·have:=HT.out;rwa [HTA.out] at this
   ·have:=HSE.out
    rw [HTA.out] at this
    rw [this]
    exact of_decide_eq_true (HRD.out.trans h)
end
section
open Go.RowKit
set_option maxRecDepth 100000
theorem OFrames.frames {w:World} {base:Nat} {v:Value} {l:List FrameD} {ps:List (Value × Value)} (h:OFrames w base v l ps) (hm:l.length≤2199023255488)
  (hs:∀ f∈l,(f.locals.length≤5864062014634∧∀ x∈f.locals,x.length≤3518437208780)∧(f.stack.length≤5864062014634∧∀ x∈f.stack,x.length≤3518437208780)):FramesV w v l:=by
 obtain ⟨h1,h2,_,h3⟩:=h
 obtain ⟨A,cap,rfl⟩:=own_shape h2
 have hc:l.length≤cap:=by
  rcases h2.2 with ⟨e,hn⟩ | ⟨g,cap',cur,e,_,_,h3,_⟩
  ·omega
  ·injection e with _ _ e;omega
 have hsl:SlAt w A 4 (fun x:FrameD × (Value × Value)=>frameRow x.1 x.2) (l.zip ps):=SlAt.of_own h2 (zip_flat frameRow l ps) (fun _=>rfl) (by omega)
 refine ⟨A,cap,List.zipWith frameRow l ps,rfl,hc,hm,?_,by simp [h1],fun i hi hi'=>?_⟩
 ·rw [← zip_rows frameRow l ps]
  unfold SlAt at hsl ⊢
  rwa [List.map_map]
 ·have hv:i<ps.length:=by omega
  obtain ⟨g1,g2⟩:=hs _ (List.getElem_mem hi')
  exact ⟨ps[i].1,ps[i].2,by simp [frameRow],(h3 i hv hi').1.vals g1.1 g1.2,(h3 i hv hi').2.vals g2.1 g2.2⟩
theorem OMach.machV {w:World} {base K:Nat} {v:Value} {m:MachD} (h:OMach w base v m) (hg:GoodM K m) (hK:K≤9000):MachV w v m:=by
 obtain ⟨vv,fv,qv,ps,rfl,h1,h2,h3⟩:=h
 refine ⟨vv,fv,qv,rfl,h1.val ?_,h2.frames (by have:=hg.nf;omega) (fun f hf=>?_),h3.reqs (by have:=hg.nr;omega) (fun r hr=>?_)⟩
 ·rcases hg.va with e | e
  ·rw [e];simp
  ·exact check_len e
 ·have hf':=hg.fr f hf
  exact ⟨⟨by have:=hf'.nl;omega,fun x hx=>check_len (hf'.cl x hx)⟩,⟨by have:=hf'.ns;omega,fun x hx=>check_len (hf'.cs x hx)⟩⟩
 ·obtain ⟨a,b⟩:=hg.rq r hr
  exact ⟨by omega,fun x hx=>check_len (b x hx)⟩
/-- What a run hands on. -/
def RunPost (M:MachD) (w:World) (e:Ending) (w':World):Prop:=∃ x,e=.returned x∧MachV w' x M∧Below w.heap.size w w'
theorem run_post (C:CodeS) (hT:C.T=none) (m:MachD) (v:Value) (n:Int) (w:World) (K:Nat) (hC:CodeV w C) (hgc:GoodC C.c) (hm:MachV w v m) (hg:GoodM K m) (hK:K+2 * n.toNat≤8800) (hp:Pow w) (hse:Sent w) (hml:MaxL w) (hst:0≤m.steps∧m.steps≤100000) (hn : -9223372036854775808≤n∧n≤9000) :
  Calls Tryz.prog 13 #[.agg #[.slice C.A C.c.fns.length C.ncap,.slice C.B C.c.ins.length C.icap],v,.int .i64 n] w (RunPost (runF C.c n.toNat m) w) :=
 (mrun_any C hT m v n w K hC hgc hm hg hK hp hse hml hst hn).mono fun e w' ⟨x,he,ho,hb⟩=>⟨x,he,ho.machV (GoodM.run hgc n.toNat K m hg) (by omega),hb⟩
theorem step_post (C:CodeS) (hT:C.T=none) (m:MachD) (v:Value) (w:World) (K:Nat) (hC:CodeV w C) (hgc:GoodC C.c) (hm:MachV w v m) (hg:GoodM K m) (hK:K+2≤8800) (hp:Pow w) (hse:Sent w) (hml:MaxL w) (hst:0≤m.steps∧m.steps≤100000) :
  Calls Tryz.prog 14 #[.agg #[.slice C.A C.c.fns.length C.ncap,.slice C.B C.c.ins.length C.icap],v] w (RunPost (runF C.c 1 m) w) :=
 (mstep_any C hT m v w K hC hgc hm hg hK hp hse hml hst).mono fun e w' ⟨x,he,ho,hb⟩=>⟨x,he,ho.machV (GoodM.run hgc 1 K m hg) (by omega),hb⟩
theorem MachV.lit {w:World} {v:Value} {m:MachD} (h:MachV w v m):∃ A1 n1 k1 A2 n2 k2 A3 n3 k3,v=.agg #[.int .i64 m.status,.int .i64 m.err,.slice A1 n1 k1,.slice A2 n2 k2,.slice A3 n3 k3,.int .i64 m.lsteps,.int .i64 m.lmem,.int .i64 m.steps,.int .i64 m.peak]:=by
 obtain ⟨va,fa,qa,rfl,h31,h32,h33⟩:=h
 obtain ⟨A1,n1,k1,rfl⟩:=h31.shape
 obtain ⟨A2,n2,k2,rfl⟩:=h32.shape
 obtain ⟨A3,n3,k3,rfl⟩:=h33.shape
 exact ⟨_,_,_,_,_,_,_,_,_,rfl⟩
theorem smalls_ok {l:ValD} (h:smallB l=true):l.length≤300∧∀ c∈l,c.str.size≤5000:=by
 unfold smallB at h
 rw [Bool.and_eq_true] at h
 refine ⟨of_decide_eq_true h.1,fun c hc=>?_⟩
 have:=List.all_eq_true.1 h.2 c hc
 simpa using this
end
section
open Go.RowKit
set_option maxRecDepth 100000
/-- The code that awake runs. -/
def awF:FnD:=⟨⟨#[109,97,105,110]⟩,1,1,0,2⟩
def awC:CodeD:=⟨[awF],[⟨5,0,⟨#[]⟩,[]⟩,⟨20,0,⟨#[]⟩,[]⟩]⟩
theorem aw_ins (op:Int) (h:op=5∨op=20):(∃ f:FnD,FnSmall f∧FormedP ((1:Nat):Int) f ⟨op,0,⟨#[]⟩,[]⟩)∧InsOk ⟨op,0,⟨#[]⟩,[]⟩:=by
 refine ⟨⟨awF,by unfold FnSmall awF;simp,?_⟩,?_⟩
 · rcases h with rfl | rfl <;> (unfold FormedP OperandP StrP KeysP awF;simp [bareB];try rfl)
 · exact ⟨Nat.zero_le _,Nat.zero_le _,by simp⟩
theorem aw_good:GoodC awC:=by
 refine ⟨by simp [awC],by simp [awC],fun f hf=>?_,fun i hi=>?_⟩
 · have:f=awF:=by simpa [awC] using hf
   subst this
   unfold FnSmall awF
   simp
 · have:i=⟨5,0,⟨#[]⟩,[]⟩∨i=⟨20,0,⟨#[]⟩,[]⟩:=by simpa [awC] using hi
   rcases this with rfl | rfl
   · exact aw_ins 5 (.inl rfl)
   · exact aw_ins 20 (.inr rfl)
theorem keys_nil (w:World):KeysV w (.slice none 0 0) []:=⟨none,0,rfl,Nat.le_refl _,SlAt.nil⟩
theorem aw_code {w:World} {gF gI:Nat} (h:CodeAt w gF gI):CodeV w ⟨some ⟨gF,0,none⟩,some ⟨gI,0,none⟩,1,2,awC,none⟩:=by
 refine ⟨?_,?_⟩
 · intro i row hr
   have hi:i=0:=by
    by_cases h0:i=0
    · exact h0
    · rw [List.getElem?_eq_none (by simp [awC];omega)] at hr;cases hr
   subst hi
   simp [awC] at hr
   subst hr
   refine ⟨gF,0,rfl,lt_of_block h.1,fun j v hv=>?_⟩
   have:=h.1.cell j v (by rw [← hv,← Array.getElem?_toList];rfl)
   simpa using this
 · refine ⟨[[.int .i64 5,.int .i64 0,.string ⟨#[]⟩,.slice none 0 0],[.int .i64 20,.int .i64 0,.string ⟨#[]⟩,.slice none 0 0]],?_,rfl,fun k hk hk'=>?_⟩
   · intro i row hr
     have hi:i=0∨i=1:=by
      by_cases h0:i<2
      · omega
      · rw [List.getElem?_eq_none (by simp;omega)] at hr;cases hr
     refine ⟨gI,0,rfl,lt_of_block h.2,fun j v hv=>?_⟩
     rcases hi with rfl | rfl
     · simp at hr
       subst hr
       have hj:j<4:=(List.getElem?_eq_some_iff.1 hv).1
       have:=h.2.cell j v (by
        rw [← hv]
        match j,hj with
        | 0,_=>rfl
        | 1,_=>rfl
        | 2,_=>rfl
        | 3,_=>rfl)
       simpa using this
     · simp at hr
       subst hr
       have hj:j<4:=(List.getElem?_eq_some_iff.1 hv).1
       have:=h.2.cell (4+j) v (by
        rw [← hv]
        match j,hj with
        | 0,_=>rfl
        | 1,_=>rfl
        | 2,_=>rfl
        | 3,_=>rfl)
       simpa using this
   · have hk2:k=0∨k=1:=by simp at hk;omega
     rcases hk2 with rfl | rfl
     · exact ⟨_,rfl,keys_nil w⟩
     · exact ⟨_,rfl,keys_nil w⟩
theorem m1_good (lm:Int):GoodM 0 (m1 lm):=by
 unfold m1
 refine ⟨by simp,fun f hf=>?_,by simp,by simp,.inl rfl⟩
 have e:f=⟨0,0,[[c7]],[]⟩:=by simpa using hf
 subst e
 exact ⟨by simp,by simp,fun v hv=>by rw [show v=[c7] by simpa using hv];decide +kernel,by simp⟩
theorem aw_run (gF gI:Nat) (m M:MachD) (v:Value) (n:Int) (w:World) (h:CodeAt w gF gI) (hp:Pow w) (hse:Sent w) (hml:MaxL w) (hm:MachV w v m) (hg:GoodM 0 m) (hst:0≤m.steps∧m.steps≤100000) (hn:0≤n∧n≤100) (he:runF awC n.toNat m=M) :
  Calls Tryz.prog 13 #[.agg #[.slice (some ⟨gF,0,none⟩) 1 1,.slice (some ⟨gI,0,none⟩) 2 2],v,.int .i64 n] w fun e w'=>∃ x,e=.returned x∧MachV w' x M∧Below w.heap.size w w':=by
 have:=run_post ⟨some ⟨gF,0,none⟩,some ⟨gI,0,none⟩,1,2,awC,none⟩ rfl m v n w 0 (aw_code h) aw_good hm hg (by omega) hp hse hml hst (by omega)
 rw [← he]
 exact this
theorem aw_step (gF gI:Nat) (m M:MachD) (v:Value) (w:World) (h:CodeAt w gF gI) (hp:Pow w) (hse:Sent w) (hml:MaxL w) (hm:MachV w v m) (hg:GoodM 0 m) (hst:0≤m.steps∧m.steps≤100000) (he:runF awC 1 m=M) :
  Calls Tryz.prog 14 #[.agg #[.slice (some ⟨gF,0,none⟩) 1 1,.slice (some ⟨gI,0,none⟩) 2 2],v] w fun e w'=>∃ x,e=.returned x∧MachV w' x M∧Below w.heap.size w w':=by
 have:=step_post ⟨some ⟨gF,0,none⟩,some ⟨gI,0,none⟩,1,2,awC,none⟩ rfl m v w 0 (aw_code h) aw_good hm hg (by omega) hp hse hml hst
 rw [← he]
 exact this
/-- What awake holds in memory. -/
structure AwSt2 (w W:World) (gF gI gC gV:Nat):Prop where
 hC:CodeAt W gF gI
 hB:Blk W gC 25 #[.slice (some ⟨gF,0,none⟩) 1 1,.slice (some ⟨gI,0,none⟩) 2 2]
 hV:Blk W gV 62 #[.int .i64 3,.int .i64 7,.string ⟨#[]⟩,.int .i64 0]
 hS:Shaped W
 hp:Pow W
 hse:Sent W
 hml:MaxL W
 hW:Below w.heap.size w W
theorem AwSt2.below {w W W':World} {gF gI gC gV:Nat} (h:AwSt2 w W gF gI gC gV) (hb:Below W.heap.size W W'):AwSt2 w W' gF gI gC gV :=
 ⟨h.hC.below hb,h.hB.below hb,h.hV.below hb,h.hS.below hb,h.hp.below hb,h.hse.below hb,h.hml.below hb,below_call hb h.hW⟩
theorem Blk.nth2 (w:World) (o1 o2 o3:Obj) (t:TypeId) (cs:Array Value):Blk ((((w.alloc o1).alloc o2).alloc o3).alloc (.cells cs t)) (w.heap.size+1+1+1) t cs:=by
 have:=Blk.new (((w.alloc o1).alloc o2).alloc o3) t cs
 simpa using this
theorem MachV.val2 {w:World} {a b A B C c d e f:Value} {m:MachD} (h:MachV w (.agg #[a,b,A,B,C,c,d,e,f]) m):ValV w A m.value:=by
 obtain ⟨vv,fv,qv,e,h1,_⟩:=h
 injection e with e
 simp at e
 rw [e.2.2.1]
 exact h1
attribute [local go_sem] cell_alloc_is
set_option maxHeartbeats 8000000 in
theorem awake_ok2 (w:World) (hs:Shaped w) (hpw:Pow w) (hse:Sent w) (hml:MaxL w):Calls Tryz.prog 9 #[] w fun e w'=>e=.returned (.bool true)∧Below w.heap.size w w':=by
 have HS:=Lib.hid hs
 have HPW:=Lib.hid hpw
 have HSE:=Lib.hid hse
 have HML:=Lib.hid hml
 clear hs hpw hse hml
 go_enter Tryz.func9,Tryz.ntmps9
 go_upto_region 3 with fail
 obtain ⟨W,hW⟩:∃ W,(((w.alloc (.cells #[.string ⟨#[109,97,105,110]⟩,.int .i64 1,.int .i64 1,.int .i64 0,.int .i64 2] 55)).alloc (.cells #[.int .i64 5,.int .i64 0,.string ⟨#[]⟩,.slice none 0 0,.int .i64 20,.int .i64 0,.string ⟨#[]⟩,.slice none 0 0] 59)).alloc (.cells #[.slice (some ⟨w.heap.size,0,none⟩) 1 1,.slice (some ⟨w.heap.size+1,0,none⟩) 2 2] 25)).alloc (.cells #[.int .i64 3,.int .i64 7,.string ⟨#[]⟩,.int .i64 0] 62)=W:=⟨_,rfl⟩
 have hbw:Below w.heap.size w W:=by rw [← hW];exact (below_3 w _ _ _).alloc (by simp;omega) _
 have HC0:Hid (CodeAt W w.heap.size (w.heap.size+1)):=Lib.hid (by rw [← hW];exact ⟨(((Blk.new w _ _).alloc _).alloc _).alloc _,((Blk.second w _ _ _).alloc _).alloc _⟩)
 have HB0:Hid (Blk W (w.heap.size+1+1) 25 #[.slice (some ⟨w.heap.size,0,none⟩) 1 1,.slice (some ⟨w.heap.size+1,0,none⟩) 2 2]):=Lib.hid (by rw [← hW];exact (Blk.third w _ _ _ _).alloc _)
 have HV0:Hid (Blk W (w.heap.size+1+1+1) 62 #[.int .i64 3,.int .i64 7,.string ⟨#[]⟩,.int .i64 0]):=Lib.hid (by rw [← hW];exact Blk.nth2 w _ _ _ _ _)
 obtain ⟨gV,hgV⟩:∃ g,w.heap.size+1+1+1=g:=⟨_,rfl⟩
 obtain ⟨gC,hgC⟩:∃ g,w.heap.size+1+1=g:=⟨_,rfl⟩
 obtain ⟨gI,hgI⟩:∃ g,w.heap.size+1=g:=⟨_,rfl⟩
 obtain ⟨gF,hgF⟩:∃ g,w.heap.size=g:=⟨_,rfl⟩
 have HA:Hid (AwSt2 w W gF gI gC gV):=Lib.hid ⟨by rw [← hgF,← hgI];exact HC0.out,by rw [← hgF,← hgI,← hgC];exact HB0.out,by rw [← hgV];exact HV0.out,HS.out.below hbw,HPW.out.below hbw,HSE.out.below hbw,HML.out.below hbw,hbw⟩
 rw [hW,hgV,hgC,hgI,hgF]
 have HGF:=Lib.hid hgF
 clear hW hgV hgC hgI hgF hbw HC0 HB0 HV0 HS HPW HSE HML
 have HT3:=Lib.hid (start_ok gF gI gV 10 W HA.out.hC HA.out.hS HA.out.hV (by omega) (by omega))
 have b0:=blk2 HA.out.hB
 go_upto_region 4 with (first
  | (go_at_call 10;(with_reducible refine HT3.out.mono ?_);rintro e w3 ⟨x3,rfl,hm3,hb3⟩;obtain ⟨aa1,aan1,aak1,aa2,aan2,aak2,aa3,aan3,aak3,rfl⟩:=hm3.lit;have HM3:Hid (MachV w3 (.agg #[.int .i64 1,.int .i64 0,.slice aa1 aan1 aak1,.slice aa2 aan2 aak2,.slice aa3 aan3 aak3,.int .i64 10,.int .i64 10,.int .i64 0,.int .i64 1]) (m1 10)):=Lib.hid hm3;have HA3:=Lib.hid (HA.out.below hb3);clear hm3 hb3 b0))
 dsimp only [m1]
 obtain ⟨X3,hX3⟩:∃ X,w3.alloc (.cells #[.int .i64 1,.int .i64 0,.slice aa1 aan1 aak1,.slice aa2 aan2 aak2,.slice aa3 aan3 aak3,.int .i64 10,.int .i64 10,.int .i64 0,.int .i64 1] 37)=X:=⟨_,rfl⟩
 obtain ⟨g3,hg3⟩:∃ g,w3.heap.size=g:=⟨_,rfl⟩
 rw [hX3,hg3]
 have hbx3:Below w3.heap.size w3 X3:=by rw [← hX3];exact below_new _ _
 have HN3:Hid (Blk X3 g3 37 #[.int .i64 1,.int .i64 0,.slice aa1 aan1 aak1,.slice aa2 aan2 aak2,.slice aa3 aan3 aak3,.int .i64 10,.int .i64 10,.int .i64 0,.int .i64 1]):=Lib.hid (by rw [← hX3,← hg3];exact Blk.new _ _ _)
 have HL3:Hid (MachV X3 (.agg #[.int .i64 1,.int .i64 0,.slice aa1 aan1 aak1,.slice aa2 aan2 aak2,.slice aa3 aan3 aak3,.int .i64 10,.int .i64 10,.int .i64 0,.int .i64 1]) (m1 10)):=Lib.hid (HM3.out.below hbx3)
 have HQ3:=Lib.hid (HA3.out.below hbx3)
 clear hX3 hg3 hbx3
 have b3:=blk2 HQ3.out.hB
 have n3:=blk9 HN3.out
 have HT4:=Lib.hid (aw_run gF gI (m1 10) ⟨1,0,[],[⟨0,1,[[c7]],[[c7]]⟩],[],10,10,1,2⟩ _ 1 X3 HQ3.out.hC HQ3.out.hp HQ3.out.hse HQ3.out.hml HL3.out (m1_good 10) ⟨by decide,by decide⟩ ⟨by decide,by decide⟩ rfl)
 go_upto_region 5 with (first
  | (go_at_call 13;(with_reducible refine HT4.out.mono ?_);rintro e w4 ⟨x4,rfl,hm4,hb4⟩;obtain ⟨bb1,bbn1,bbk1,bb2,bbn2,bbk2,bb3,bbn3,bbk3,rfl⟩:=hm4.lit;have HM4:Hid (MachV w4 (.agg #[.int .i64 1,.int .i64 0,.slice bb1 bbn1 bbk1,.slice bb2 bbn2 bbk2,.slice bb3 bbn3 bbk3,.int .i64 10,.int .i64 10,.int .i64 1,.int .i64 2]) ⟨1,0,[],[⟨0,1,[[c7]],[[c7]]⟩],[],10,10,1,2⟩):=Lib.hid hm4;have HY4:=Lib.hid hb4;have HA4:=Lib.hid (HQ3.out.below hb4);clear hm4 hb4 b3))
 obtain ⟨X4,hX4⟩:∃ X,w4.alloc (.cells #[.int .i64 1,.int .i64 0,.slice bb1 bbn1 bbk1,.slice bb2 bbn2 bbk2,.slice bb3 bbn3 bbk3,.int .i64 10,.int .i64 10,.int .i64 1,.int .i64 2] 37)=X:=⟨_,rfl⟩
 obtain ⟨g4,hg4⟩:∃ g,w4.heap.size=g:=⟨_,rfl⟩
 rw [hX4,hg4]
 have hbx4:Below w4.heap.size w4 X4:=by rw [← hX4];exact below_new _ _
 have HN4:Hid (Blk X4 g4 37 #[.int .i64 1,.int .i64 0,.slice bb1 bbn1 bbk1,.slice bb2 bbn2 bbk2,.slice bb3 bbn3 bbk3,.int .i64 10,.int .i64 10,.int .i64 1,.int .i64 2]):=Lib.hid (by rw [← hX4,← hg4];exact Blk.new _ _ _)
 have HL4:Hid (MachV X4 (.agg #[.int .i64 1,.int .i64 0,.slice bb1 bbn1 bbk1,.slice bb2 bbn2 bbk2,.slice bb3 bbn3 bbk3,.int .i64 10,.int .i64 10,.int .i64 1,.int .i64 2]) ⟨1,0,[],[⟨0,1,[[c7]],[[c7]]⟩],[],10,10,1,2⟩):=Lib.hid (HM4.out.below hbx4)
 have HQ4:=Lib.hid (HA4.out.below hbx4)
 have HN34:=Lib.hid (HN3.out.below (below_call hbx4 HY4.out))
 have HL34:=Lib.hid (HL3.out.below (below_call hbx4 HY4.out))
 clear hX4 hg4 hbx4
 have b4:=blk2 HQ4.out.hB
 have n34:=blk9 HN34.out
 have n4:=blk9 HN4.out
 have HT5:=Lib.hid (aw_run gF gI (m1 10) ⟨3,0,[c7],[],[],10,10,2,2⟩ _ 5 X4 HQ4.out.hC HQ4.out.hp HQ4.out.hse HQ4.out.hml HL34.out (m1_good 10) ⟨by decide,by decide⟩ ⟨by decide,by decide⟩ rfl)
 go_upto_region 6 with (first
  | (go_at_call 13;(with_reducible refine HT5.out.mono ?_);rintro e w5 ⟨x5,rfl,hm5,hb5⟩;obtain ⟨cc1,ccn1,cck1,cc2,ccn2,cck2,cc3,ccn3,cck3,rfl⟩:=hm5.lit;have HM5:Hid (MachV w5 (.agg #[.int .i64 3,.int .i64 0,.slice cc1 ccn1 cck1,.slice cc2 ccn2 cck2,.slice cc3 ccn3 cck3,.int .i64 10,.int .i64 10,.int .i64 2,.int .i64 2]) ⟨3,0,[c7],[],[],10,10,2,2⟩):=Lib.hid hm5;have HY5:=Lib.hid hb5;have HA5:=Lib.hid (HQ4.out.below hb5);clear hm5 hb5 b4))
 obtain ⟨X5,hX5⟩:∃ X,w5.alloc (.cells #[.int .i64 3,.int .i64 0,.slice cc1 ccn1 cck1,.slice cc2 ccn2 cck2,.slice cc3 ccn3 cck3,.int .i64 10,.int .i64 10,.int .i64 2,.int .i64 2] 37)=X:=⟨_,rfl⟩
 obtain ⟨g5,hg5⟩:∃ g,w5.heap.size=g:=⟨_,rfl⟩
 rw [hX5,hg5]
 have hbx5:Below w5.heap.size w5 X5:=by rw [← hX5];exact below_new _ _
 have HN5:Hid (Blk X5 g5 37 #[.int .i64 3,.int .i64 0,.slice cc1 ccn1 cck1,.slice cc2 ccn2 cck2,.slice cc3 ccn3 cck3,.int .i64 10,.int .i64 10,.int .i64 2,.int .i64 2]):=Lib.hid (by rw [← hX5,← hg5];exact Blk.new _ _ _)
 have HL5:Hid (MachV X5 (.agg #[.int .i64 3,.int .i64 0,.slice cc1 ccn1 cck1,.slice cc2 ccn2 cck2,.slice cc3 ccn3 cck3,.int .i64 10,.int .i64 10,.int .i64 2,.int .i64 2]) ⟨3,0,[c7],[],[],10,10,2,2⟩):=Lib.hid (HM5.out.below hbx5)
 have HQ5:=Lib.hid (HA5.out.below hbx5)
 have HN35:=Lib.hid (HN34.out.below (below_call hbx5 HY5.out))
 have HL35:=Lib.hid (HL34.out.below (below_call hbx5 HY5.out))
 have HN45:=Lib.hid (HN4.out.below (below_call hbx5 HY5.out))
 have HL45:=Lib.hid (HL4.out.below (below_call hbx5 HY5.out))
 clear hX5 hg5 hbx5
 have b5:=blk2 HQ5.out.hB
 have n35:=blk9 HN35.out
 have n45:=blk9 HN45.out
 have n5:=blk9 HN5.out
 have HT6:=Lib.hid (start_ok gF gI gV 1 X5 HQ5.out.hC HQ5.out.hS HQ5.out.hV (by omega) (by omega))
 go_upto_region 7 with (first
  | (go_at_call 10;(with_reducible refine HT6.out.mono ?_);rintro e w6 ⟨x6,rfl,hm6,hb6⟩;obtain ⟨dd1,ddn1,ddk1,dd2,ddn2,ddk2,dd3,ddn3,ddk3,rfl⟩:=hm6.lit;have HM6:Hid (MachV w6 (.agg #[.int .i64 1,.int .i64 0,.slice dd1 ddn1 ddk1,.slice dd2 ddn2 ddk2,.slice dd3 ddn3 ddk3,.int .i64 10,.int .i64 1,.int .i64 0,.int .i64 1]) (m1 1)):=Lib.hid hm6;have HY6:=Lib.hid hb6;have HA6:=Lib.hid (HQ5.out.below hb6);clear hm6 hb6 b5))
 dsimp only [m1]
 obtain ⟨X6,hX6⟩:∃ X,w6.alloc (.cells #[.int .i64 1,.int .i64 0,.slice dd1 ddn1 ddk1,.slice dd2 ddn2 ddk2,.slice dd3 ddn3 ddk3,.int .i64 10,.int .i64 1,.int .i64 0,.int .i64 1] 37)=X:=⟨_,rfl⟩
 obtain ⟨g6,hg6⟩:∃ g,w6.heap.size=g:=⟨_,rfl⟩
 rw [hX6,hg6]
 have hbx6:Below w6.heap.size w6 X6:=by rw [← hX6];exact below_new _ _
 have HN6:Hid (Blk X6 g6 37 #[.int .i64 1,.int .i64 0,.slice dd1 ddn1 ddk1,.slice dd2 ddn2 ddk2,.slice dd3 ddn3 ddk3,.int .i64 10,.int .i64 1,.int .i64 0,.int .i64 1]):=Lib.hid (by rw [← hX6,← hg6];exact Blk.new _ _ _)
 have HL6:Hid (MachV X6 (.agg #[.int .i64 1,.int .i64 0,.slice dd1 ddn1 ddk1,.slice dd2 ddn2 ddk2,.slice dd3 ddn3 ddk3,.int .i64 10,.int .i64 1,.int .i64 0,.int .i64 1]) (m1 1)):=Lib.hid (HM6.out.below hbx6)
 have HQ6:=Lib.hid (HA6.out.below hbx6)
 have HN36:=Lib.hid (HN35.out.below (below_call hbx6 HY6.out))
 have HL36:=Lib.hid (HL35.out.below (below_call hbx6 HY6.out))
 have HN46:=Lib.hid (HN45.out.below (below_call hbx6 HY6.out))
 have HL46:=Lib.hid (HL45.out.below (below_call hbx6 HY6.out))
 have HN56:=Lib.hid (HN5.out.below (below_call hbx6 HY6.out))
 have HL56:=Lib.hid (HL5.out.below (below_call hbx6 HY6.out))
 clear hX6 hg6 hbx6
 have b6:=blk2 HQ6.out.hB
 have n36:=blk9 HN36.out
 have n46:=blk9 HN46.out
 have n56:=blk9 HN56.out
 have n6:=blk9 HN6.out
 have HT7:=Lib.hid (aw_step gF gI (m1 1) ⟨4,16,[],[],[],10,1,1,2⟩ _ X6 HQ6.out.hC HQ6.out.hp HQ6.out.hse HQ6.out.hml HL6.out (m1_good 1) ⟨by decide,by decide⟩ rfl)
 go_upto_region 8 with (first
  | (go_at_call 14;(with_reducible refine HT7.out.mono ?_);rintro e w7 ⟨x7,rfl,hm7,hb7⟩;obtain ⟨ee1,een1,eek1,ee2,een2,eek2,ee3,een3,eek3,rfl⟩:=hm7.lit;have HM7:Hid (MachV w7 (.agg #[.int .i64 4,.int .i64 16,.slice ee1 een1 eek1,.slice ee2 een2 eek2,.slice ee3 een3 eek3,.int .i64 10,.int .i64 1,.int .i64 1,.int .i64 2]) ⟨4,16,[],[],[],10,1,1,2⟩):=Lib.hid hm7;have HY7:=Lib.hid hb7;have HA7:=Lib.hid (HQ6.out.below hb7);clear hm7 hb7 b6))
 obtain ⟨X7,hX7⟩:∃ X,w7.alloc (.cells #[.int .i64 4,.int .i64 16,.slice ee1 een1 eek1,.slice ee2 een2 eek2,.slice ee3 een3 eek3,.int .i64 10,.int .i64 1,.int .i64 1,.int .i64 2] 37)=X:=⟨_,rfl⟩
 obtain ⟨g7,hg7⟩:∃ g,w7.heap.size=g:=⟨_,rfl⟩
 rw [hX7,hg7]
 have hbx7:Below w7.heap.size w7 X7:=by rw [← hX7];exact below_new _ _
 have HN7:Hid (Blk X7 g7 37 #[.int .i64 4,.int .i64 16,.slice ee1 een1 eek1,.slice ee2 een2 eek2,.slice ee3 een3 eek3,.int .i64 10,.int .i64 1,.int .i64 1,.int .i64 2]):=Lib.hid (by rw [← hX7,← hg7];exact Blk.new _ _ _)
 have HL7:Hid (MachV X7 (.agg #[.int .i64 4,.int .i64 16,.slice ee1 een1 eek1,.slice ee2 een2 eek2,.slice ee3 een3 eek3,.int .i64 10,.int .i64 1,.int .i64 1,.int .i64 2]) ⟨4,16,[],[],[],10,1,1,2⟩):=Lib.hid (HM7.out.below hbx7)
 have HQ7:=Lib.hid (HA7.out.below hbx7)
 have HN37:=Lib.hid (HN36.out.below (below_call hbx7 HY7.out))
 have HL37:=Lib.hid (HL36.out.below (below_call hbx7 HY7.out))
 have HN47:=Lib.hid (HN46.out.below (below_call hbx7 HY7.out))
 have HL47:=Lib.hid (HL46.out.below (below_call hbx7 HY7.out))
 have HN57:=Lib.hid (HN56.out.below (below_call hbx7 HY7.out))
 have HL57:=Lib.hid (HL56.out.below (below_call hbx7 HY7.out))
 have HN67:=Lib.hid (HN6.out.below (below_call hbx7 HY7.out))
 have HL67:=Lib.hid (HL6.out.below (below_call hbx7 HY7.out))
 clear hX7 hg7 hbx7
 have b7:=blk2 HQ7.out.hB
 have n37:=blk9 HN37.out
 have n47:=blk9 HN47.out
 have n57:=blk9 HN57.out
 have n67:=blk9 HN67.out
 have n7:=blk9 HN7.out
 have HT8:Hid (Calls Tryz.prog 16 #[.agg #[.int .i64 1,.int .i64 0,.slice aa1 aan1 aak1,.slice aa2 aan2 aak2,.slice aa3 aan3 aak3,.int .i64 10,.int .i64 10,.int .i64 0,.int .i64 1]] X7 fun e w'=>e=.returned (.int .i64 1)∧Below X7.heap.size X7 w'):=Lib.hid (memory_any (m1 10) _ X7 HL37.out ⟨by simp [m1],by simp [m1]⟩)
 have HT9:Hid (∀ wx,Below X7.heap.size X7 wx→Calls Tryz.prog 16 #[.agg #[.int .i64 1,.int .i64 0,.slice bb1 bbn1 bbk1,.slice bb2 bbn2 bbk2,.slice bb3 bbn3 bbk3,.int .i64 10,.int .i64 10,.int .i64 1,.int .i64 2]] wx fun e w'=>e=.returned (.int .i64 2)∧Below wx.heap.size wx w'):=Lib.hid (fun wx hx=>memory_any ⟨1,0,[],[⟨0,1,[[c7]],[[c7]]⟩],[],10,10,1,2⟩ _ wx (HL47.out.below hx) ⟨by simp,by simp⟩)
 have HTC:Hid (∀ wx,Below X7.heap.size X7 wx→Calls Tryz.prog 21 #[.slice cc1 ccn1 cck1,.slice (some ⟨gV,0,none⟩) 1 1] wx fun e w'=>e=.returned (.bool true)∧∃ q,w'=wx.drewN q):=Lib.hid (fun wx hx=>cells_any [c7] [c7] _ _ wx (HL57.out.val2.below hx) ((valOne HQ7.out.hV).below hx))
 go_wp2_with (first
  | (go_at_call 16;(with_reducible refine HT8.out.mono ?_);rintro e w8 ⟨rfl,hb8⟩;have HY8:=Lib.hid hb8;have n8:=blk9 (HN47.out.below hb8);clear hb8)
  | (go_at_call 16;(with_reducible refine (HT9.out _ HY8.out).mono ?_);rintro e w9 ⟨rfl,hb9⟩;have hy9:=below_call hb9 HY8.out;have HY9:=Lib.hid hy9;have n9:=blk9 (HN57.out.below hy9);have m9:=blk9 (HN7.out.below hy9);clear hb9 hy9)
  | (go_at_call 21;(with_reducible refine (HTC.out _ HY9.out).mono ?_);rintro e w10 ⟨rfl,q,rfl⟩))
 go_returns
 exact ⟨rfl,below_drewN (below_call HY9.out HQ7.out.hW) q⟩
end
end Go.Proofs.YtmljohbialacfaaGreatDoor
