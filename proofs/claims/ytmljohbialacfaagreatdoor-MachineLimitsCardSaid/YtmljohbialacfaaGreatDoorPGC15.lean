/- GC15 -/
import Derived.Test.YtmljohbialacfaaGreatDoorPGC10
import Derived.Test.YtmljohbialacfaaGreatDoorPGC6
import Derived.Deep.AppendLies
import Derived.Deep.RegionLaw
import Derived.Deep.RegionWith
set_option linter.unusedVariables false
set_option linter.unusedSimpArgs false
namespace Go.Proofs.YtmljohbialacfaaGreatDoor
section
open Go.RowKit
set_option maxRecDepth 100000
/-- Requests of the call's own, in rows of their own. -/
def OReqs2 (w:World) (base:Nat) (v:Value) (l:List ReqD):Prop :=
 ∃ vs:List Value,vs.length=l.length∧w.ownsRow base 86 2 v l.length ((List.zipWith reqRow l vs).flatten) ∧
 (∀ i (h:i<vs.length) (h':i<l.length),OVals w base vs[i] l[i].args)∧(vs.flatMap fun a=>a.ownBlock.toList).Nodup
theorem OReqs2.nil (w:World) (base:Nat):OReqs2 w base (.slice none 0 0) []:=⟨[],rfl,World.ownsRow_nil _ _ _ _,fun i h=>absurd h (by simp),List.nodup_nil⟩
theorem KT.oreqs2 {t:TypeId} {w w':World} (k:KT t w w') (h1:62≠t) (h2:26≠t) (h3:86≠t) {base:Nat} {v:Value} {l:List ReqD} (h:OReqs2 w base v l):OReqs2 w' base v l:=by
 obtain ⟨vs,e1,e2,e3,e4⟩:=h
 exact ⟨vs,e1,k.own h3 e2,fun i a b=>k.ovals h1 h2 (e3 i a b),e4⟩
theorem OReqs2.snoc {w w6:World} {base base0:Nat} {v' lv:Value} {vs:List Value} {R:List ReqD} {r:ReqD} (hvl:vs.length=R.length) (hold:∀ i (h:i<vs.length) (h':i<R.length),OVals w6 base vs[i] R[i].args)
  (hown:w6.ownsRow base 86 2 v' (R.length+1) ((List.zipWith reqRow R vs).flatten ++ reqRow r lv)) (h1:OVals w6 base lv r.args) (hnd:(vs.flatMap fun a=>a.ownBlock.toList).Nodup)
  (hlt:∀ i (h:i<vs.length) (h':i<R.length),OVals w base0 vs[i] R[i].args) (hge:∀ g,lv.ownBlock=some g→w.heap.size≤g):OReqs2 w6 base v' (R ++ [r]):=by
 obtain ⟨vs',e1,e2,e3⟩:=OReqs.snoc hvl hold hown h1
 refine ⟨vs ++ [lv],by simp [hvl],?_,fun i hi hi'=>?_,?_⟩
 ·rw [zip_snoc reqRow R vs r lv hvl,List.length_append]
  exact hown
 ·by_cases hl:i<R.length
  ·have hlp:i<vs.length:=by omega
   simp only [List.getElem_append_left hlp,List.getElem_append_left hl]
   exact hold i hlp hl
  ·have e:i=R.length:=by simp at hi';omega
   subst e
   simp only [List.getElem_append_right (Nat.le_refl _),List.getElem_append_right (show vs.length≤R.length by omega),hvl,Nat.sub_self,List.getElem_cons_zero]
   exact h1
 ·rw [List.flatMap_append,List.nodup_append]
  refine ⟨hnd,?_,?_⟩
  ·simp only [List.flatMap_cons,List.flatMap_nil,List.append_nil]
   cases lv.ownBlock <;> simp
  ·intro x hx y hy
   obtain ⟨a,ha,hxa⟩:=List.mem_flatMap.1 hx
   obtain ⟨i,hi,rfl⟩:=List.getElem_of_mem ha
   have h2:=((hlt i hi (by omega)).lt (g:=x) (by simpa using hxa)).2
   have h3:=hge y (by simpa using hy)
   omega
/-- What own holds while it copies the requests. -/
def OwnAt (w:World) (S Q:Nat) (st er ls lm sp pk:Int) (vv fv qv:Value) (va:ValD) (fr:List FrameD) (ps:List (Value × Value)) (rq:List ReqD):Prop :=
 Blk w S 37 #[.int .i64 st,.int .i64 er,vv,fv,qv,.int .i64 ls,.int .i64 lm,.int .i64 sp,.int .i64 pk]∧Blk w (S+1) 37 #[.int .i64 0,.int .i64 0,.slice none 0 0,.slice none 0 0,.slice none 0 0,.int .i64 0,.int .i64 0,.int .i64 0,.int .i64 0]∧OVal w S vv va∧OFrames w S fv fr ps∧OReqs2 w Q qv rq
/-- A machine in memory of its own, the requests' blocks behind the frames'. -/
def OMach2 (w:World) (base:Nat) (v:Value) (m:MachD):Prop :=
 ∃ Q vv fv qv ps,base≤Q∧v=.agg #[.int .i64 m.status,.int .i64 m.err,vv,fv,qv,.int .i64 m.lsteps,.int .i64 m.lmem,.int .i64 m.steps,.int .i64 m.peak]∧OVal w base vv m.value∧OFrames w base fv m.frames ps∧(∀ g∈blocks ps,g<Q)∧OReqs2 w Q qv m.requests
theorem OMach2.mach {w:World} {base:Nat} {v:Value} {m:MachD} (h:OMach2 w base v m):OMach w base v m:=by
 obtain ⟨Q,vv,fv,qv,ps,hb,e,h1,h2,_,vs,h3,h4,h5,_⟩:=h
 exact ⟨vv,fv,qv,ps,e,h1,h2,vs,h3,own_base h4 hb,fun i a b=>(h5 i a b).base hb⟩
attribute [local go_sem] cell_alloc_is
set_option maxHeartbeats 4000000 in
theorem own2_any (m:MachD) (v:Value) (w:World) (h:MachV w v m) (hf:m.frames.length≤1000) (hq:m.requests.length≤1000) :
  Calls Tryz.prog 35 #[v] w fun e w'=>∃ v',e=.returned v'∧OMach2 w' w.heap.size v' m∧Below w.heap.size w w':=by
 obtain ⟨i0,hi,hz0,hz1,hz2⟩:=info_parts Tryz.infoFrame
 obtain ⟨j0,hj,hy0,hy1,hy2⟩:=info_parts Tryz.infoReq
 obtain ⟨vv,fv,qv,rfl,hvv,hfv,hqv⟩:=h
 have HVV:=Lib.hid hvv
 obtain ⟨A1,n1,k1,rfl⟩:=hvv.shape
 obtain ⟨A2,kf,rows,rfl,hcf,hmf,hsf,hlf,hvf⟩:=hfv
 obtain ⟨A3,kq,rowq,rfl,hcq,hmq,hsq,hlq,hvq⟩:=hqv
 have HSF:=Lib.hid hsf
 have HLF:=Lib.hid hlf
 have HVF:=Lib.hid hvf
 have HSQ:=Lib.hid hsq
 have HLQ:=Lib.hid hlq
 have HVQ:=Lib.hid hvq
 clear hvv hsf hlf hvf hsq hlq hvq
 obtain ⟨st,er,va,fr,rq,ls,lm,sp,pk⟩:=m
 dsimp only at hf hq hcf hmf hcq hmq HVV HLF HVF HLQ HVQ ⊢
 go_enter Tryz.func35,Tryz.ntmps35
 go_wp2_with (fail)
 go_quiet (fail)
 go_wp2_with (fail)
 refine (clone_any va _ _ ((HVV.out.below (below_2 w _ _)).drewN _)).mono ?_
 rintro e w1 ⟨v1,rfl,ho1,hb1⟩
 obtain ⟨A4,k4,rfl⟩:=own_shape ho1
 have HX1:=Lib.hid ((((Blk.new w 37 #[.int .i64 st,.int .i64 er,.slice A1 n1 k1,.slice A2 fr.length kf,.slice A3 rq.length kq,.int .i64 ls,.int .i64 lm,.int .i64 sp,.int .i64 pk]).alloc _).drewN _).below hb1)
 have HR1:=Lib.hid (((Blk.second w _ 37 #[.int .i64 0,.int .i64 0,.slice none 0 0,.slice none 0 0,.slice none 0 0,.int .i64 0,.int .i64 0,.int .i64 0,.int .i64 0]).drewN _).below hb1)
 have HO1:=Lib.hid (ho1.base (base':=w.heap.size) (by simp;omega))
 have HB1:=Lib.hid (below_call hb1 (below_drewN (below_2 w _ _) _))
 clear ho1 hb1
 have cx:=blk9 HX1.out
 have z2:=HX1.out.frozen 2
 have z3:=HX1.out.frozen 3
 have z4:=HX1.out.frozen 4
 go_wp2_with (fail)
 clear cx z2 z3 z4
 obtain ⟨nv,hnv⟩:∃ nv,va.length=nv:=⟨_,rfl⟩
 go_loopw [21] (fun i wr=>∃ (k:Nat) (fv:Value) (ps:List (Value × Value)),k≤fr.length∧i=.int .i64 k∧Blk wr w.heap.size 37 #[.int .i64 st,.int .i64 er,.slice A4 va.length k4,fv,.slice none 0 0,.int .i64 ls,.int .i64 lm,.int .i64 sp,.int .i64 pk]∧Blk wr (w.heap.size+1) 37 #[.int .i64 0,.int .i64 0,.slice none 0 0,.slice none 0 0,.slice none 0 0,.int .i64 0,.int .i64 0,.int .i64 0,.int .i64 0]∧OVal wr w.heap.size (.slice A4 va.length k4) va∧OFrames wr w.heap.size fv (fr.take k) ps∧Below w.heap.size w wr) (fun i _=>fr.length - (intOf i).toNat)
 case atStart =>
  have b1:=HX1.out.set_ 2 (.slice A4 va.length k4)
  have b2:=b1.set_ 3 (.slice none 0 0)
  have b3:=b2.set_ 4 (.slice none 0 0)
  have K:=(KT.set HX1.out 2 (.slice A4 va.length k4)).trans ((KT.set b1 3 (.slice none 0 0)).trans (KT.set b2 4 (.slice none 0 0)))
  exact ⟨0,_,[],Nat.zero_le _,rfl,b3,((HR1.out.far (p:=⟨w.heap.size,2,none⟩) (by simp) _).far (p:=⟨w.heap.size,3,none⟩) (by simp) _).far (p:=⟨w.heap.size,4,none⟩) (by simp) _,K.oval (by decide) HO1.out,OFrames.nil _ _,((HB1.out.setCell (p:=⟨w.heap.size,2,none⟩) (Nat.le_refl _) _).setCell (p:=⟨w.heap.size,3,none⟩) (Nat.le_refl _) _).setCell (p:=⟨w.heap.size,4,none⟩) (Nat.le_refl _) _⟩
 case round =>
  obtain ⟨k,fv,ps,hk,rfl,hbx,hbr,hov,hof,hbel⟩:=hrel
  obtain ⟨L,hL⟩:∃ L,fr.take k=L:=⟨_,rfl⟩
  rw [hL] at hof
  obtain ⟨A5,k5,rfl⟩:=own_shape hof.2.1
  have HLL:=Lib.hid hL
  have HTL:Hid (L.length=k):=Lib.hid (by rw [← hL];simp;omega)
  have hLk:L.length≤1000:=by have:=HTL.out;omega
  have HBX:=Lib.hid hbx
  have HBR:=Lib.hid hbr
  have HOV:=Lib.hid hov
  have HOF:=Lib.hid hof
  have HB:=Lib.hid hbel
  clear hbx hbr hov hof hbel hnv hL
  by_cases hlt:k<fr.length
  ·have hna:k<rows.length:=by rw [HLF.out];exact hlt
   have hlt':(k:Int)<(fr.length:Int):=by omega
   have hk0:(0:Int)≤(k:Int):=by omega
   have hsa:=HSF.out.below HB.out
   obtain ⟨bA,off,rfl,_⟩:=hsa.ptr hna
   obtain ⟨lv,sv,hrow,hlv,hsv⟩:=HVF.out k hna hlt
   obtain ⟨B1,z1,y1,rfl⟩:=hlv.shape
   obtain ⟨B2,z2,y2,rfl⟩:=hsv.shape
   obtain ⟨f1,hf1⟩:∃ x,fr[k].func=x:=⟨_,rfl⟩
   obtain ⟨c1,hc1⟩:∃ x,fr[k].pc=x:=⟨_,rfl⟩
   rw [hf1,hc1] at hrow
   have c0:=hsa.cell0 hna (v:=.int .i64 f1) (by rw [hrow];rfl)
   have c1':=hsa.cell hna (j:=1) (v:=.int .i64 c1) (by rw [hrow];rfl)
   have c2:=hsa.cell hna (j:=2) (v:=.slice B1 z1 y1) (by rw [hrow];rfl)
   have c3:=hsa.cell hna (j:=3) (v:=.slice B2 z2 y2) (by rw [hrow];rfl)
   have HL:Hid (∀ wx,Below wr.heap.size wr wx→Calls Tryz.prog 61 #[.slice B1 z1 y1] wx fun e w'=>∃ v',e=.returned v'∧OVals w' wx.heap.size v' fr[k].locals∧Below wx.heap.size wx w'):=Lib.hid (fun wx hx=>mvalues_any _ _ wx ((hlv.below HB.out).below hx))
   have HS:Hid (∀ wx,Below wr.heap.size wr wx→Calls Tryz.prog 61 #[.slice B2 z2 y2] wx fun e w'=>∃ v',e=.returned v'∧OVals w' wx.heap.size v' fr[k].stack∧Below wx.heap.size wx w'):=Lib.hid (fun wx hx=>mvalues_any _ _ wx ((hsv.below HB.out).below hx))
   have HF1:=Lib.hid hf1
   have HC1:=Lib.hid hc1
   clear hsa hrow hlv hsv hf1 hc1
   go_upto_region 6 with fail
   go_cut [] from 25 to 32 (fun wx=>FrameCut wr wr.heap.size fr[k] wx)
   case first =>
    have HG0:=Lib.hid ((Blk.new wr 74 #[.int .i64 f1,.int .i64 c1,.slice B1 z1 y1,.slice B2 z2 y2]).drew)
    go_region_with (first
     | (go_at_call 61;with_reducible refine (HL.out _ (below_new _ _).drew).mono ?_;rintro e w3 ⟨v3,rfl,ho3,hb3⟩;have HG3:=Lib.hid (HG0.out.below hb3);have g2:=HG3.out.cell 2 (.slice B1 z1 y1) rfl;have g3:=HG3.out.cell 3 (.slice B2 z2 y2) rfl;have HO3:=Lib.hid ho3;have HB3:=Lib.hid (below_call hb3 (below_new _ _).drew);have HQ3:=Lib.hid hb3;clear ho3 hb3)
     | (go_at_call 61;with_reducible refine (HS.out _ HB3.out).mono ?_;rintro e w4 ⟨v4,rfl,ho4,hb4⟩;have HG4:=Lib.hid (HG3.out.below hb4);have g2:=HG4.out.cell 2 (.slice B1 z1 y1) rfl;have g3:=HG4.out.cell 3 (.slice B2 z2 y2) rfl;have y2':=HG4.out.frozen 2;have y3':=HG4.out.frozen 3;obtain ⟨A6,k6,rfl⟩:=HO3.out.shape;obtain ⟨A7,k7,rfl⟩:=ho4.shape;have HO4:=Lib.hid ho4;have HB4:=Lib.hid (below_call hb4 HB3.out);have HQ4:=Lib.hid hb4;clear ho4 hb4))
    all_goals
     go_wp2_with fail
     go_meet
     exact frameCut_mk HG4.out HF1.out HC1.out HO3.out (by simp) HQ4.out HO4.out HB4.out HB3.out.size
   case rest =>
    obtain ⟨lv,sv,hbg,hol,hos,hnd,hbw⟩:=hcut
    have HLO:=Lib.hid (fun g hg=>(hol.lt (g:=g) hg).1)
    have HSO:=Lib.hid (fun g hg=>(hos.lt (g:=g) hg).1)
    have hwb:w.heap.size≤wr.heap.size:=HB.out.size
    have HOL:=Lib.hid (hol.base hwb)
    have HOS:=Lib.hid (hos.base hwb)
    obtain ⟨A6,k6,rfl⟩:=hol.shape
    obtain ⟨A7,k7,rfl⟩:=hos.shape
    rw [HF1.out,HC1.out] at hbg
    have HG:=Lib.hid hbg
    have HBW:=Lib.hid hbw
    have HND:=Lib.hid hnd
    have HXc:=Lib.hid (HBX.out.below hbw)
    have HRc:=Lib.hid (HBR.out.below hbw)
    have HOc:=Lib.hid (own_below HOF.out.2.1 hbw)
    have hsz:w.heap.size≤wc.heap.size:=Nat.le_trans hwb hbw.size
    clear hbg hol hos hnd hbw c0 c1' c2 c3
    have g6:=blk4 HG.out
    have gx:=blk9 HXc.out
    go_wp2_with (first
     | (at_builtin;refine wpList_app1 rfl (.tmp 34) (.tmp 36) 34 rfl i0 _ 64 Tryz.underlying34 hi hz0 hz1 hz2 rfl (by omega) rfl HOc.out [.int .i64 f1,.int .i64 c1,.slice A6 fr[k].locals.length k6,.slice A7 fr[k].stack.length k7] rfl rfl (by simp [Value.oneCell']) (by omega) (by omega) hsz ?_;intro v' w5 hown5 hb5 hs5 hg5;obtain ⟨A8,k8,rfl⟩:=own_shape hown5;have K5:=Lib.hid (KT.grown HOc.out hg5);have HX5:=Lib.hid (K5.out.blk (by decide) HXc.out);have gx5:=blk9 HX5.out;have z3:=HX5.out.frozen 3;have HO5:=Lib.hid hown5;have HB5:=Lib.hid hb5;clear hown5 hb5 hg5 gx))
    have K6:=Lib.hid (KT.set HX5.out 3 (.slice A8 (L.length+1) k8))
    refine ⟨⟨k+1,_,ps ++ [(.slice A6 fr[k].locals.length k6,.slice A7 fr[k].stack.length k7)],by omega,by simp,HX5.out.set_ 3 _,(K5.out.blk (by decide) HRc.out).far (p:=⟨w.heap.size,3,none⟩) (by simp) _,K6.out.oval (by decide) (K5.out.oval (by decide) (HOV.out.below HBW.out)),?_,?_⟩,by simp [intOf];omega⟩
    ·rw [List.take_succ_eq_append_getElem hlt,HLL.out]
     refine OFrames.snoc HOF.out (fun ho=>K6.out.ovals (by decide) (by decide) (K5.out.ovals (by decide) (by decide) (ho.below HBW.out))) ?_ (K6.out.ovals (by decide) (by decide) (K5.out.ovals (by decide) (by decide) HOL.out)) (K6.out.ovals (by decide) (by decide) (K5.out.ovals (by decide) (by decide) HOS.out)) HND.out (fun g hg=>hg.elim (HLO.out g) (HSO.out g))
     have h:=K6.out.own (by decide) HO5.out
     unfold frameRow
     rw [HF1.out,HC1.out]
     exact h
    ·exact ((below_call' HBW.out HB.out HB.out.size).trans HB5.out).setCell (p:=⟨w.heap.size,3,none⟩) (Nat.le_refl _) _
  ·have e:k=fr.length:=by omega
   subst e
   have HOFF:Hid (OFrames wr w.heap.size (.slice A5 L.length k5) fr ps):=Lib.hid (by
    have h1:=HLL.out
    rw [List.take_length] at h1
    have h2:=HOF.out
    rw [← h1] at h2 ⊢
    exact h2)
   have gx:=blk9 HBX.out
   go_wp2_with (fail)
   clear gx
   obtain ⟨Q,hQ⟩:∃ Q,wr.heap.size=Q:=⟨_,rfl⟩
   have HQB:Hid (w.heap.size≤Q):=Lib.hid (by rw [← hQ];exact HB.out.size)
   have HPS:Hid (∀ g∈blocks ps,g<Q):=Lib.hid (by
    rw [← hQ]
    intro g hg
    unfold blocks at hg
    obtain ⟨p,hp,hgp⟩:=List.mem_flatMap.1 hg
    obtain ⟨i,hi,rfl⟩:=List.getElem_of_mem hp
    have:=HOFF.out.2.2.2 i hi (by rw [← HOFF.out.1];exact hi)
    rcases List.mem_append.1 hgp with h | h
    ·exact (this.1.lt (by simpa using h)).2
    ·exact (this.2.lt (by simpa using h)).2)
   have HQQ:Hid (Q≤wr.heap.size):=Lib.hid (by rw [← hQ];exact Nat.le_refl _)
   clear hQ
   go_loopw [42] (fun i wr=>∃ (k:Nat) (qv:Value),k≤rq.length∧i=.int .i64 k∧Q≤wr.heap.size∧OwnAt wr w.heap.size Q st er ls lm sp pk (.slice A4 va.length k4) (.slice A5 L.length k5) qv va fr ps (rq.take k)∧Below w.heap.size w wr) (fun i _=>rq.length - (intOf i).toNat)
   case atStart=>exact ⟨0,_,Nat.zero_le _,rfl,HQQ.out,⟨HBX.out,HBR.out,HOV.out,HOFF.out,OReqs2.nil _ _⟩,HB.out⟩
   case round =>
    obtain ⟨k,qv,hk,rfl,hqq,⟨hbx,hbr,hov,hof,hoq⟩,hbel⟩:=hrel
    have HQ2:=Lib.hid hqq
    clear hqq HQQ
    obtain ⟨R,hR⟩:∃ R,rq.take k=R:=⟨_,rfl⟩
    rw [hR] at hoq
    obtain ⟨vs,hvl,hqo,hqa,hqn⟩:=hoq
    have HQN:=Lib.hid hqn
    clear hqn
    obtain ⟨A8,k8,rfl⟩:=own_shape hqo
    have HRR:=Lib.hid hR
    have HTR:Hid (R.length=k):=Lib.hid (by rw [← hR];simp;omega)
    have hRk:R.length≤1000:=by have:=HTR.out;omega
    have HBX2:=Lib.hid hbx
    have HBR2:=Lib.hid hbr
    have HOV2:=Lib.hid hov
    have HOF2:=Lib.hid hof
    have HQO:=Lib.hid hqo
    have HQA:=Lib.hid hqa
    have HVL:=Lib.hid hvl
    have HB2:=Lib.hid hbel
    clear hbx hbr hov hof hqo hqa hvl hbel hR
    by_cases hlt2:k<rq.length
    ·have hna:k<rowq.length:=by rw [HLQ.out];exact hlt2
     have hlt':(k:Int)<(rq.length:Int):=by omega
     have hk0:(0:Int)≤(k:Int):=by omega
     have hsa:=HSQ.out.below HB2.out
     obtain ⟨bA,off,rfl,_⟩:=hsa.ptr hna
     obtain ⟨lv,hrow,hlv⟩:=HVQ.out k hna hlt2
     obtain ⟨B1,z1,y1,rfl⟩:=hlv.shape
     obtain ⟨op,hop⟩:∃ x,rq[k].op=x:=⟨_,rfl⟩
     rw [hop] at hrow
     have c0:=hsa.cell0 hna (v:=.string op) (by rw [hrow];rfl)
     have c1':=hsa.cell hna (j:=1) (v:=.slice B1 z1 y1) (by rw [hrow];rfl)
     have HL:Hid (∀ wx,Below wr.heap.size wr wx→Calls Tryz.prog 61 #[.slice B1 z1 y1] wx fun e w'=>∃ v',e=.returned v'∧OVals w' wx.heap.size v' rq[k].args∧Below wx.heap.size wx w'):=Lib.hid (fun wx hx=>mvalues_any _ _ wx ((hlv.below HB2.out).below hx))
     have HOP:=Lib.hid hop
     have gx:=HBX2.out.cell 4 (.slice A8 R.length k8) rfl
     clear hsa hrow hlv hop
     go_upto_region 12 with fail
     have HG0:=Lib.hid ((Blk.new wr 86 #[.string op,.slice B1 z1 y1]).drew)
     go_region_law (first
      | (go_simp;go_at_call 61;with_reducible refine (HL.out _ (below_new _ _).drew).mono ?_;rintro e w3 ⟨v3,rfl,ho3,hb3⟩;have HG3:=Lib.hid (HG0.out.below hb3);have g2:=HG3.out.cell 0 (.string op) rfl;have HB3:=Lib.hid (below_call hb3 (below_new _ _).drew);have HX3:=Lib.hid (HBX2.out.below HB3.out);have gx3:=HX3.out.cell 4 (.slice A8 R.length k8) rfl;obtain ⟨A9,k9,rfl⟩:=ho3.shape;have HN3:=Lib.hid (show ∀ g,(Value.slice A9 rq[k].args.length k9).ownBlock=some g→wr.heap.size≤g from fun g hg=>Nat.le_trans (by simp) (ho3.lt hg).1);have HO3:=Lib.hid (ho3.base (base':=Q) (Nat.le_trans HQ2.out (by simp)));have hsz3:Q≤w3.heap.size:=Nat.le_trans HQ2.out HB3.out.size;have HQ3:=Lib.hid (own_below (own_below HQO.out HB3.out) (below_new w3 (.cells #[.string op,.slice A9 rq[k].args.length k9] 86)));clear ho3 hb3)
      | (rw [if_pos (by rfl)];refine wp_append_lies _ (.tmp 47) (.tmp 54) 35 rfl Q 86 j0 _ 2 40 Tryz.underlying35 hj hy0 hy1 hy2 rfl ?k1 _ R.length _ rfl HQ3.out ⟨w3.heap.size,0,none⟩ 1 1 [.string op,.slice A9 rq[k].args.length k9] rfl rfl (cells_new w3 _ 86) ?k2 ?k3 ?k4 ?k5 ?k6 _ rfl ?_;(case k1=>decide);(case k2=>simp [Value.oneCell']);(case k3=>decide);(case k4=>(unfold maxLen;omega));(case k5=>omega);(case k6=>exact Nat.le_trans hsz3 (by simp));intro g6 cap6 w6 hown6 hgr6 _ hlt6;have K6:=Lib.hid (KT.grown HQ3.out hgr6);have HX6:=Lib.hid (K6.out.blk (by decide) (HX3.out.alloc (.cells #[.string op,.slice A9 rq[k].args.length k9] 86)));have gx6:=HX6.out.cell 4 (.slice A8 R.length k8) rfl;have z6:=HX6.out.frozen 4;have HO6:=Lib.hid hown6;have HG6:=Lib.hid hgr6;clear hown6 hgr6))
     all_goals
      go_wp2_with fail
      have K3:KT 37 wr (w3.alloc (.cells #[.string op,.slice A9 rq[k].args.length k9] 86)):=KT.of_below (below_call (below_new w3 _) HB3.out)
      have K7:=KT.set HX6.out 4 (.slice (some ⟨g6,0,none⟩) (R.length+1) cap6)
      refine ⟨⟨k+1,_,by omega,by simp,(by have:=HG6.out.size;have:=hsz3;simp at *;omega),⟨HX6.out.set_ 4 _,(K6.out.blk (by decide) ((HBR2.out.below HB3.out).alloc _)).far (p:=⟨w.heap.size,4,none⟩) (by simp) _,K7.oval (by decide) (K6.out.oval (by decide) (K3.oval (by decide) HOV2.out)),K7.oframes (by decide) (by decide) (by decide) (K6.out.oframes (by decide) (by decide) (by decide) (K3.oframes (by decide) (by decide) (by decide) HOF2.out)),?_⟩,?_⟩,by simp [intOf];omega⟩
      ·rw [List.take_succ_eq_append_getElem hlt2,HRR.out]
       refine OReqs2.snoc (w:=wr) (base0:=Q) HVL.out (fun i a b=>K7.ovals (by decide) (by decide) (K6.out.ovals (by decide) (by decide) (K3.ovals (by decide) (by decide) (HQA.out i a b)))) ?_ (K7.ovals (by decide) (by decide) (K6.out.ovals (by decide) (by decide) (HO3.out.below (below_new w3 _)))) HQN.out HQA.out HN3.out
       have h:=K7.own (by decide) HO6.out
       unfold reqRow
       rw [HOP.out]
       exact h
      ·exact ((((below_call' HB3.out HB2.out HB2.out.size).alloc (Nat.le_trans HB2.out.size HB3.out.size) _).grown HG6.out (Nat.le_trans (Nat.le_trans HB2.out.size HB3.out.size) (by simp)) (fun g hg=>Nat.le_trans HQB.out (HQ3.out.lt g hg).1))).setCell (p:=⟨w.heap.size,4,none⟩) (Nat.le_refl _) _
    ·have e:k=rq.length:=by omega
     subst e
     have HQF:Hid (OReqs2 wr Q (.slice A8 R.length k8) rq):=Lib.hid (by
      have h1:=HRR.out
      rw [List.take_length] at h1
      subst h1
      exact ⟨vs,HVL.out,HQO.out,HQA.out,HQN.out⟩)
     have gx:=blk9 HBX2.out
     clear hf hq
     go_wp2_with (refine wpList_store_row rfl 37 (.tmp 2) (.tmp 58) rfl (w.heap.size+1) #[.int .i64 st,.int .i64 er,.slice A4 va.length k4,.slice A5 L.length k5,.slice A8 R.length k8,.int .i64 ls,.int .i64 lm,.int .i64 sp,.int .i64 pk] rfl rfl 37 _ HBR2.out (by kernel_rfl) rfl (by simp [Value.oneCell']) ?_)
     have HZ:=Lib.hid (HBR2.out.setRow (cs':=#[.int .i64 st,.int .i64 er,.slice A4 va.length k4,.slice A5 L.length k5,.slice A8 R.length k8,.int .i64 ls,.int .i64 lm,.int .i64 sp,.int .i64 pk]))
     have KZ:KT 37 wr (wr.setRow (w.heap.size+1) #[.int .i64 st,.int .i64 er,.slice A4 va.length k4,.slice A5 L.length k5,.slice A8 R.length k8,.int .i64 ls,.int .i64 lm,.int .i64 sp,.int .i64 pk]):=KT.row HBR2.out _
     have HKZ:=Lib.hid KZ
     have hBZ:=below_setRow HB2.out (Nat.le_succ _) #[.int .i64 st,.int .i64 er,.slice A4 va.length k4,.slice A5 L.length k5,.slice A8 R.length k8,.int .i64 ls,.int .i64 lm,.int .i64 sp,.int .i64 pk]
     have HBZ:=Lib.hid hBZ
     clear KZ hBZ gx
     obtain ⟨wz,hwz⟩:∃ wz,wr.setRow (w.heap.size+1) #[.int .i64 st,.int .i64 er,.slice A4 va.length k4,.slice A5 L.length k5,.slice A8 R.length k8,.int .i64 ls,.int .i64 lm,.int .i64 sp,.int .i64 pk]=wz:=⟨_,rfl⟩
     rw [hwz] at HZ HKZ HBZ ⊢
     clear hwz
     have gz:=blk9 HZ.out
     refine bodyPost_ret (v:=.agg #[.int .i64 st,.int .i64 er,.slice A4 va.length k4,.slice A5 L.length k5,.slice A8 R.length k8,.int .i64 ls,.int .i64 lm,.int .i64 sp,.int .i64 pk]) (by simp [results,Tryz.results35,go_sem,gz]) rfl ⟨_,rfl,⟨Q,_,_,_,ps,HQB.out,rfl,HKZ.out.oval (by decide) HOV2.out,HKZ.out.oframes (by decide) (by decide) (by decide) HOF2.out,HPS.out,HKZ.out.oreqs2 (by decide) (by decide) (by decide) HQF.out⟩,HBZ.out⟩
theorem own_any (m:MachD) (v:Value) (w:World) (h:MachV w v m) (hf:m.frames.length≤1000) (hq:m.requests.length≤1000) :
  Calls Tryz.prog 35 #[v] w fun e w'=>∃ v',e=.returned v'∧OMach w' w.heap.size v' m∧Below w.heap.size w w' :=
 (own2_any m v w h hf hq).mono fun _ _ ⟨v',a,b,c⟩=>⟨v',a,b.mach,c⟩
end
section
open Go.RowKit
set_option maxRecDepth 100000
attribute [local go_sem] cell_alloc_is
theorem zip_flat {α β γ:Type} (f:α→β→List γ) (l:List α) (ps:List β):(List.zipWith f l ps).flatten=(l.zip ps).flatMap (fun p=>f p.1 p.2):=by
 induction l generalizing ps with
 | nil=>simp
 | cons a r ih =>
  cases ps with
  | nil=>simp
  | cons b s=>simp [ih]
theorem zip_rows {α β γ:Type} (f:α→β→List γ) (l:List α) (ps:List β):(l.zip ps).map (fun p=>f p.1 p.2)=List.zipWith f l ps:=by
 induction l generalizing ps with
 | nil=>simp
 | cons a r ih =>
  cases ps with
  | nil=>simp
  | cons b s=>simp [ih]
theorem OReqs.reqs {w:World} {base:Nat} {v:Value} {l:List ReqD} (h:OReqs w base v l) (hm:l.length≤3518437208780) (hs:∀ r∈l,r.args.length≤5864062014634∧∀ x∈r.args,x.length≤3518437208780):ReqsV w v l:=by
 obtain ⟨vs,h1,h2,h3⟩:=h
 obtain ⟨A,cap,rfl⟩:=own_shape h2
 have hc:l.length≤cap:=by
  rcases h2.2 with ⟨e,hn⟩ | ⟨g,cap',cur,e,_,_,h3,_⟩
  ·omega
  ·injection e with _ _ e;omega
 have hsl:SlAt w A 2 (fun x:ReqD × Value=>reqRow x.1 x.2) (l.zip vs):=SlAt.of_own h2 (zip_flat reqRow l vs) (fun _=>rfl) (by omega)
 refine ⟨A,cap,List.zipWith reqRow l vs,rfl,hc,hm,?_,by simp [h1],fun i hi hi'=>?_⟩
 ·rw [← zip_rows reqRow l vs]
  unfold SlAt at hsl ⊢
  rwa [List.map_map]
 ·have hv:i<vs.length:=by omega
  refine ⟨vs[i],by simp [reqRow],(h3 i hv hi').vals ?_ ?_⟩
  ·exact (hs _ (List.getElem_mem hi')).1
  ·exact (hs _ (List.getElem_mem hi')).2
end
end Go.Proofs.YtmljohbialacfaaGreatDoor
