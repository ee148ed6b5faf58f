/- GQ8 -/
import Derived.Test.YtmljohbialacfaaGreatDoorPK7
import Derived.Test.YtmljohbialacfaaGreatDoorPGD6
import Derived.Deep.AppendLies
import Derived.StillTailTactics
set_option linter.unusedVariables false
set_option linter.unusedSimpArgs false
namespace Go.Proofs.YtmljohbialacfaaGreatDoor
section
open Go.RowKit
set_option maxRecDepth 100000
theorem rowsF_zip:∀ {LS:List (Value × Value)} {fs:List FrameD},LS.length=fs.length→rowsF LS fs=(LS.zip fs).flatMap fun x=>rowF x.1 x.2
 | [],[],_=>rfl
 | _ :: _,_ :: _,h=>by simp only [rowsF,List.zip_cons_cons,List.flatMap_cons];rw [rowsF_zip (by simpa using h)]
 | [],_ :: _,h=>by simp at h
 | _ :: _,[],h=>by simp at h
theorem rowsQ_zip:∀ {LS:List Value} {fs:List ReqD},LS.length=fs.length→rowsQ LS fs=(LS.zip fs).flatMap fun x=>rowQ x.1 x.2
 | [],[],_=>rfl
 | _ :: _,_ :: _,h=>by simp only [rowsQ,List.zip_cons_cons,List.flatMap_cons];rw [rowsQ_zip (by simpa using h)]
 | [],_ :: _,h=>by simp at h
 | _ :: _,[],h=>by simp at h
theorem ParkedO.at_ {w:World} {base:Nat}:∀ {LS:List (Value × Value)} {fs:List FrameD},ParkedO w base LS fs→∀ i (h:i<LS.length) (h':i<fs.length),ValsO w base LS[i].1 fs[i].locals∧ValsO w base LS[i].2 fs[i].stack
 | [],[],_,i,h,_=>absurd h (by simp)
 | _ :: _,_ :: _,hp,0,_,_=>hp.1
 | _ :: _,_ :: _,hp,i+1,h,h'=>hp.2.at_ i (by simpa using h) (by simpa using h')
 | [],_ :: _,h,_,_,_=>h.elim
 | _ :: _,[],h,_,_,_=>h.elim
theorem ReqsO.at_ {w:World} {base:Nat}:∀ {LS:List Value} {fs:List ReqD},ReqsO w base LS fs→∀ i (h:i<LS.length) (h':i<fs.length),ValsO w base LS[i] fs[i].args
 | [],[],_,i,h,_=>absurd h (by simp)
 | _ :: _,_ :: _,hp,0,_,_=>hp.1
 | _ :: _,_ :: _,hp,i+1,h,h'=>hp.2.at_ i (by simpa using h) (by simpa using h')
 | [],_ :: _,h,_,_,_=>h.elim
 | _ :: _,[],h,_,_,_=>h.elim
theorem own_le {w:World} {base n size:Nat} {e:TypeId} {A:Option Addr} {k cap:Nat} {xs:List Value} (h:w.ownsRow base e size (.slice A k cap) n xs):n≤cap:=by
 rcases h.2 with ⟨e,hn⟩ | ⟨g,cap',cur,e,_,_,h3,_⟩
 ·omega
 ·injection e with _ _ e;omega
/-- A machine small enough to be gone through. -/
def SmallM (m:MachD):Prop:=SmallF m.frames∧m.requests.length≤1000∧∀ r∈m.requests,r.args.length≤1000
section
variable {w0 w w':World} {C:CodeS} {gE:Nat} {m:MachD} {vv fv qv:Value} {LS:List (Value × Value)} {fs:List FrameD} {avs:List Value}
theorem framesV_of {base:Nat} (hp:ParkedO w base LS fs) (hr:w.ownsRow base 74 4 fv fs.length (rowsF LS fs)) (hs:SmallF fs):FramesV w fv fs:=by
 obtain ⟨A,cap,rfl⟩:=own_shape hr
 have hz:=rowsF_zip hp.len
 have hl:=hp.len
 have hsl:SlAt w A 4 (fun x=>rowF x.1 x.2) (LS.zip fs):=SlAt.of_own hr hz (fun _=>rfl) (by omega)
 refine ⟨A,cap,(LS.zip fs).map (fun x=>rowF x.1 x.2),rfl,own_le hr,by have:=hs.1;omega,?_,by simp [hl],fun i h h'=>?_⟩
 ·unfold SlAt at hsl ⊢
  rw [List.map_map]
  exact hsl
 ·have hi:i<LS.length:=by omega
  have:=hp.at_ i hi h'
  have hm:=hs.2 _ (List.getElem_mem h')
  rw [List.getElem_map,List.getElem_zip]
  exact ⟨_,_,rfl,this.1.vals (by omega),this.2.vals (by omega)⟩
theorem reqsV_of {base:Nat} {rs:List ReqD} (hp:ReqsO w base avs rs) (hr:w.ownsRow base 86 2 qv rs.length (rowsQ avs rs)) (hs:rs.length≤1000) (hs2:∀ r∈rs,r.args.length≤1000):ReqsV w qv rs:=by
 obtain ⟨A,cap,rfl⟩:=own_shape hr
 have hz:=rowsQ_zip hp.len
 have hl:=hp.len
 have hsl:SlAt w A 2 (fun x=>rowQ x.1 x.2) (avs.zip rs):=SlAt.of_own hr hz (fun _=>rfl) (by omega)
 refine ⟨A,cap,(avs.zip rs).map (fun x=>rowQ x.1 x.2),rfl,own_le hr,by omega,?_,by simp [hl],fun i h h'=>?_⟩
 ·unfold SlAt at hsl ⊢
  rw [List.map_map]
  exact hsl
 ·have hi:i<avs.length:=by omega
  have:=hp.at_ i hi h'
  have hm:=hs2 _ (List.getElem_mem h')
  rw [List.getElem_map,List.getElem_zip]
  exact ⟨_,rfl,this.vals (by omega)⟩
/-- The machine of an executor, read. -/
def machA (m:MachD) (vv fv qv:Value):Value:=.agg #[.int .i64 m.status,.int .i64 m.err,vv,fv,qv,.int .i64 m.lsteps,.int .i64 m.lmem,.int .i64 m.steps,.int .i64 m.peak]
theorem XM.mach (h:XM w0 C gE w m vv fv qv LS avs) (hs:SmallM m):MachV w (machA m vv fv qv) m :=
 ⟨vv,fv,qv,rfl,h.p.val.1,framesV_of h.p.fr h.frow hs.1,reqsV_of h.p.rq h.p.qrow hs.2.1 hs.2.2⟩
theorem blkX (h:Blk w gE 69 (exA C m vv fv qv)) :
  w.cell? ⟨gE,0,none⟩=some (.slice C.A C.c.fns.length C.ncap)∧w.cell? ⟨gE,1,none⟩=some (.slice C.B C.c.ins.length C.icap)∧w.cell? ⟨gE,2,none⟩=some (.int .i64 m.status)∧w.cell? ⟨gE,3,none⟩=some (.int .i64 m.err) ∧
  w.cell? ⟨gE,4,none⟩=some vv∧w.cell? ⟨gE,5,none⟩=some fv∧w.cell? ⟨gE,6,none⟩=some qv∧w.cell? ⟨gE,7,none⟩=some (.int .i64 m.lsteps)∧w.cell? ⟨gE,8,none⟩=some (.int .i64 m.lmem)∧w.cell? ⟨gE,9,none⟩=some (.int .i64 m.steps)∧w.cell? ⟨gE,10,none⟩=some (.int .i64 m.peak) :=
 ⟨h.cell 0 _ rfl,h.cell 1 _ rfl,h.cell 2 _ rfl,h.cell 3 _ rfl,h.cell 4 _ rfl,h.cell 5 _ rfl,h.cell 6 _ rfl,h.cell 7 _ rfl,h.cell 8 _ rfl,h.cell 9 _ rfl,h.cell 10 _ rfl⟩
theorem XP.none (h:XP w0 C gE w m vv fv qv LS fs avs):XP w0 C gE w m vv fv qv [] [] avs :=
 ⟨h.bel,h.hE,h.ex,h.val,trivial,h.rq,h.qrow,by have:=h.nd;rw [List.nodup_append] at this;simpa [blocksF] using this.2.1,h.tb⟩
end
def failF (m:MachD) (e:Int):MachD:={ m with status:=4,err:=e,value:=[],frames:=[] }
attribute [local go_sem] cell_alloc_is
set_option maxHeartbeats 4000000 in
theorem fail_any {w0 w:World} {C:CodeS} {gE:Nat} {m:MachD} {vv fv qv:Value} {LS:List (Value × Value)} {avs:List Value} (h:XM w0 C gE w m vv fv qv LS avs) (e:Int) :
  Calls Tryz.prog 39 #[.pointer (some ⟨gE,0,none⟩),.int .i64 e] w fun r w'=>r=.returned (.tuple #[])∧XM w0 C gE w' (failF m e) (.slice none 0 0) (.slice none 0 0) qv [] avs:=by
 have HH:=Lib.hid h
 have HX:=Lib.hid h.p.ex
 have c2:=h.p.ex.cell 2 _ rfl
 have c3:=h.p.ex.cell 3 _ rfl
 have c4:=h.p.ex.cell 4 _ rfl
 have c5:=h.p.ex.cell 5 _ rfl
 have z2:=h.p.ex.frozen 2
 have z3:=h.p.ex.frozen 3
 have z4:=h.p.ex.frozen 4
 have z5:=h.p.ex.frozen 5
 obtain ⟨A1,n1,k1,rfl⟩:=h.p.val.shape
 obtain ⟨A2,k2,rfl⟩:=own_shape h.frow
 clear h
 go_enter Tryz.func39,Tryz.ntmps39
 go_wp2_with (fail)
 go_returns
 refine ⟨rfl,?_,World.ownsRow_nil _ _ _ _⟩
 refine HH.out.p.none.turnE (m':=failF m e) ?_ ?_ (ValT.none _) rfl
 ·exact (((grown_setc w gE 2 _).trans (grown_setc _ gE 3 _)).trans (grown_setc _ gE 4 _)).trans (grown_setc _ gE 5 _)
 ·exact ((((HX.out.set_ 2 _).set_ 3 _).set_ 4 _).set_ 5 _)
/-- A machine behind the count. -/
def countF (m:MachD):MachD :=
 if m.status=1∨m.status=2 then
  if m.lmem<(memN m.frames:Int) then failF { m with peak:=max m.peak (memN m.frames) } 16 else { m with peak:=max m.peak (memN m.frames) }
 else m
end
section
open Go.RowKit
set_option maxRecDepth 100000
attribute [local go_sem] cell_alloc_is
set_option maxHeartbeats 8000000 in
theorem count_any {w0 w:World} {C:CodeS} {gE:Nat} {m:MachD} {vv fv qv:Value} {LS:List (Value × Value)} {avs:List Value} (h:XM w0 C gE w m vv fv qv LS avs) (hs:SmallM m) :
  Calls Tryz.prog 27 #[.pointer (some ⟨gE,0,none⟩)] w fun r w'=>r=.returned (.tuple #[])∧∃ vv' fv' LS',XM w0 C gE w' (countF m) vv' fv' qv LS' avs:=by
 obtain ⟨P,hP⟩:∃ P:Ending→World→Prop,(fun r w'=>r=.returned (.tuple #[])∧∃ vv' fv' LS',XM w0 C gE w' (countF m) vv' fv' qv LS' avs)=P:=⟨_,rfl⟩
 rw [hP]
 have HP:=Lib.hid hP
 have HM:=Lib.hid (memory_any m _ w (h.mach hs) hs.1)
 have HH:=Lib.hid h
 have e0:=blkX h.p.ex
 obtain ⟨A1,n1,k1,rfl⟩:=h.p.val.shape
 obtain ⟨A2,n2,k2,rfl⟩:∃ A n k,fv=.slice A n k:=by obtain ⟨A,k,e⟩:=own_shape h.frow;exact ⟨A,_,k,e⟩
 obtain ⟨A3,n3,k3,rfl⟩:∃ A n k,qv=.slice A n k:=by obtain ⟨A,k,e⟩:=own_shape h.p.qrow;exact ⟨A,_,k,e⟩
 obtain ⟨N,hN⟩:∃ N:Int,(memN m.frames:Int)=N:=⟨_,rfl⟩
 rw [hN] at HM
 have HC:Hid (countF m=if m.status=1∨m.status=2 then (if m.lmem<N then failF { m with peak:=max m.peak N } 16 else { m with peak:=max m.peak N }) else m):=Lib.hid (by unfold countF;rw [hN])
 have HE1:Hid (∀ (q:Int) (wx:World),Below w.heap.size w wx→XM w0 C gE (wx.setCell ⟨gE,10,none⟩ (.int .i64 q)) { m with peak:=q } (.slice A1 n1 k1) (.slice A2 n2 k2) (.slice A3 n3 k3) LS avs):=Lib.hid (fun q wx hb=>(HH.out.below hb).setE 10 _ { m with peak:=q } _ rfl (fun wy hk=>(HH.out.below hb).p.val.keep hk) rfl rfl)
 clear h hP hN hs
 obtain ⟨st,er,va,fr,rq,ls,lm,sp,pk⟩:=m
 unfold machA at HM
 dsimp only at HM e0 HC HE1
 by_cases hrun:st=1∨st=2
 ·have HC1:=Lib.hid (HC.out.trans (if_pos hrun))
  have ht:((st != 1)=false)∨((st != 1)=true∧(st != 2)=false):=by
   rcases hrun with rfl | rfl
   ·exact .inl rfl
   ·exact .inr ⟨rfl,rfl⟩
  clear hrun HC
  by_cases hlt:lm<N
  ·have HC2:=Lib.hid (HC1.out.trans (if_pos hlt))
   rcases ht with h1 | ⟨h1,h2⟩
   all_goals
    go_enter Tryz.func27,Tryz.ntmps27
    go_wp2_with (first
     | (go_at_call 16;(with_reducible refine HM.out.mono ?_);rintro e W1 ⟨rfl,hb1⟩;have HX1:=Lib.hid (HH.out.below hb1).p.ex;have e1:=blkX HX1.out;have z1:=HX1.out.frozen 10;have HB1:=Lib.hid hb1;clear hb1)
     | (go_at_call 39;(with_reducible refine (fail_any (HE1.out _ _ HB1.out) 16).mono ?_);rintro e W2 ⟨rfl,h2⟩;have HF2:=Lib.hid h2;clear h2))
    rw [← HP.out]
    go_returns
    refine ⟨rfl,?_⟩
    rw [HC2.out]
    exact ⟨_,_,_,HF2.out⟩
  ·have HC2:=Lib.hid (HC1.out.trans (if_neg hlt))
   rcases ht with h1 | ⟨h1,h2⟩
   all_goals
    go_enter Tryz.func27,Tryz.ntmps27
    go_wp2_with (first
     | (go_at_call 16;(with_reducible refine HM.out.mono ?_);rintro e W1 ⟨rfl,hb1⟩;have HX1:=Lib.hid (HH.out.below hb1).p.ex;have e1:=blkX HX1.out;have z1:=HX1.out.frozen 10;have HB1:=Lib.hid hb1;clear hb1))
    rw [← HP.out]
    go_returns
    refine ⟨rfl,?_⟩
    rw [HC2.out]
    exact ⟨_,_,_,HE1.out _ _ HB1.out⟩
 ·have HC1:=Lib.hid (HC.out.trans (if_neg hrun))
  have h1:(st != 1)=true:=by simp;omega
  have h2:(st != 2)=true:=by simp;omega
  clear hrun
  go_enter Tryz.func27,Tryz.ntmps27
  go_wp2_with (fail)
  rw [← HP.out]
  go_returns
  refine ⟨rfl,?_⟩
  rw [HC1.out]
  exact ⟨_,_,_,HH.out⟩
def nulC:CellD:=⟨1,0,⟨#[]⟩,0⟩
set_option maxHeartbeats 4000000 in
theorem cnull_any (w:World):Calls Tryz.prog 55 #[] w fun e w'=>e=.returned (.slice (some ⟨w.heap.size,0,none⟩) 1 1)∧w'=w.alloc (.cells #[.int .i64 1,.int .i64 0,.string ⟨#[]⟩,.int .i64 0] 62):=by
 go_enter Tryz.func55,Tryz.ntmps55
 go_wp2_with (fail)
 go_ret
 exact ⟨rfl,rfl⟩
theorem oval_blk {w:World} {g base:Nat} {l:ValD} {cs:Array Value} (h:Blk w g 62 cs) (hb:base≤g) (e:cs.toList=l.flatMap CellD.cells) (hm:l.length≤3518437208780):OVal w base (.slice (some ⟨g,0,none⟩) l.length l.length) l:=by
 have hlen:cs.size=l.length * 4:=by
  rw [← Array.length_toList,e,cells_len]
 exact ⟨by rw [cells_len],.inr ⟨g,l.length,cs,rfl,hb,h,Nat.le_refl _,by unfold maxLen;omega,hlen,by rw [e];exact List.take_of_length_le (by rw [cells_len];exact Nat.le_refl _)⟩⟩
theorem valT_null (w:World):ValT (w.alloc (.cells #[.int .i64 1,.int .i64 0,.string ⟨#[]⟩,.int .i64 0] 62)) (.slice (some ⟨w.heap.size,0,none⟩) 1 1) [nulC] :=
 OVal.valT (base:=0) (oval_blk (l:=[nulC]) (Blk.new w _ _) (Nat.zero_le _) rfl (by simp)) (by simp)
end
section
open Go.RowKit
set_option maxRecDepth 100000
/-- The length of a slice. -/
def lenV:Value→Nat
 | .slice _ n _=>n
 | _=>0
/-- A row of values of the call's own, with its length named. -/
def RowN (w:World) (base:Nat) (v:Value) (l:List ValD) (n:Nat):Prop:=ValsO w base v l∧l.length=n
theorem nd_add {a b:List Nat} {o:Option Nat} (h:(a ++ b).Nodup) (ho:∀ g,o=some g→g ∉ a ++ b):(a ++ (o.toList ++ (Value.slice none 0 0).ownBlock.toList) ++ b).Nodup:=by
 have e:(Value.slice none 0 0).ownBlock.toList=[]:=rfl
 rw [e,List.append_nil]
 cases o with
 | none=>simpa using h
 | some g =>
  have hg:=ho g rfl
  rw [List.mem_append] at hg
  rw [List.nodup_append] at h ⊢
  obtain ⟨h1,h2,h3⟩:=h
  refine ⟨?_,h2,?_⟩
  ·rw [List.nodup_append]
   refine ⟨h1,by simp,?_⟩
   intro x hx y hy e
   have hh:y=g:=by simpa using hy
   exact hg (.inl (by rw [← hh,← e];exact hx))
  ·intro x hx y hy
   rw [List.mem_append] at hx
   rcases hx with hx | hx
   ·exact h3 x hx y hy
   ·have:x=g:=by simpa using hx
    exact fun e=>hg (.inr (by rw [← this,e];exact hy))
/-- Appending a value to a row of values. -/
theorem valsO_snoc {w:World} {base n:Nat} {v':Value} {l:List ValD} {vs:List Value} {x:Value} {lx:ValD} (hl:l.length=n) (h:w.ownsRow base 26 1 v' (n+1) (vs ++ [x])) (hvl:vs.length=n) (hv:∀ i (h:i<vs.length) (h':i<l.length),ValT w vs[i] l[i]) (hx:ValT w x lx):ValsO w base v' (l ++ [lx]):=by
 refine ⟨vs ++ [x],by rw [List.length_append,hl];exact h,by simp [hvl,hl],fun i h1 h2=>?_⟩
 by_cases hi:i<n
 ·rw [List.getElem_append_left (by omega),List.getElem_append_left (by omega)]
  exact hv i (by omega) (by omega)
 ·have e:i=n:=by simp at h1;omega
  subst e
  rw [List.getElem_append_right (by omega),List.getElem_append_right (by omega)]
  simpa [hvl,hl] using hx
/-- A row of values that is none of the machine's has turned. -/
theorem XM.turnV {w0 w w':World} {C:CodeS} {gE:Nat} {m:MachD} {vv fv qv:Value} {LS:List (Value × Value)} {avs:List Value} (h:XM w0 C gE w m vv fv qv LS avs) {v:Value} {n:Nat} {vs:List Value} (hr:w.ownsRow w0.heap.size 26 1 v n vs) (hd:∀ g,v.ownBlock=some g→g ∉ blocksF LS ++ blocksQ avs) (hg:w.grownBy w' v.ownBlock):XM w0 C gE w' m vv fv qv LS avs:=by
 refine ⟨h.p.turn hg (fun g e=>?_),h.frow.kept hg ?_⟩
 ·obtain ⟨h1,cs,h2⟩:=own_blk hr e
  exact ⟨h1,_,cs,h2,by decide,by decide,by decide,by decide,fun _=>hd g e⟩
 ·by_cases e:v.ownBlock=none
  ·rw [e]
   by_cases e2:fv.ownBlock=none
   ·exact .inl e2
   ·exact .inr e2
  ·obtain ⟨g,hgg⟩:=Option.ne_none_iff_exists'.1 e
   obtain ⟨_,cs,h2⟩:=own_blk hr hgg
   rw [hgg]
   exact .inr (fun e=>own_ne_blk h.frow h2 (by decide) e.symm)
theorem XM.fresh {w0 w:World} {C:CodeS} {gE:Nat} {m:MachD} {vv fv qv:Value} {LS:List (Value × Value)} {avs:List Value} (h:XM w0 C gE w m vv fv qv LS avs) {g:Nat} (hg:w.heap.size≤g):g ∉ blocksF LS ++ blocksQ avs:=by
 intro hm
 rw [List.mem_append] at hm
 rcases hm with hm | hm
 ·have:=(h.p.fr.mem g hm).2.1;omega
 ·have:=(h.p.rq.mem g hm).2.1;omega
/-- The machine with one more frame. -/
def enterF (m:MachD) (k:Int) (f:FnD) (args:List ValD):MachD:={ m with frames:=m.frames ++ [⟨k,f.entry,args ++ List.replicate (f.locals.toNat - args.length) [nulC],[]⟩] }
attribute [local go_sem] cell_alloc_is
set_option maxHeartbeats 16000000 in
theorem enter_any {w0 w:World} {C:CodeS} {gE:Nat} {m:MachD} {vv fv qv:Value} {LS:List (Value × Value)} {avs:List Value} (h:XM w0 C gE w m vv fv qv LS avs) (hc:CodeV w0 C) (k:Nat) (f:FnD) (hk:C.c.fns[k]? = some f) (hlo:0≤f.locals∧f.locals≤32) (hfn:C.c.fns.length≤40) (av:Value) (args:List ValD) (ha:ValsO w w0.heap.size av args) (hal:args.length≤32) (hfr:m.frames.length≤100) (hnd:∀ g,av.ownBlock=some g→g ∉ blocksF LS ++ blocksQ avs) :
  Calls Tryz.prog 25 #[.pointer (some ⟨gE,0,none⟩),.int .i64 k,av] w fun r w'=>r=.returned (.tuple #[])∧∃ fv' LS',XM w0 C gE w' (enterF m k f args) vv fv' qv LS' avs:=by
 obtain ⟨P,hP⟩:∃ P:Ending→World→Prop,(fun r w'=>r=.returned (.tuple #[])∧∃ fv' LS',XM w0 C gE w' (enterF m k f args) vv fv' qv LS' avs)=P:=⟨_,rfl⟩
 rw [hP]
 have HP:=Lib.hid hP
 obtain ⟨i0,hi,hz0,hz1,hz2⟩:=info_parts Tryz.infoFrame
 obtain ⟨i1,hj,hy0,hy1,hy2⟩:=info_parts Tryz.infoVal
 have HF0:=Lib.hid hc.fns
 have HH:=Lib.hid h
 have HX:=Lib.hid h.p.ex
 have hkl:k<C.c.fns.length:=(List.getElem?_eq_some_iff.1 hk).1
 have hke:C.c.fns[k]=f:=(List.getElem?_eq_some_iff.1 hk).2
 have hsa:=hc.fns.below h.p.bel
 obtain ⟨bF,oF,hAe,_⟩:=hsa.ptr hkl
 rw [hAe] at hsa
 have c0:=hsa.cell0 hkl (v:=.string f.name) (by rw [hke];rfl)
 have c1:=hsa.cell hkl (j:=1) (v:=.int .i64 f.params) (by rw [hke];rfl)
 have c2:=hsa.cell hkl (j:=2) (v:=.int .i64 f.locals) (by rw [hke];rfl)
 have c3:=hsa.cell hkl (j:=3) (v:=.int .i64 f.entry) (by rw [hke];rfl)
 have c4:=hsa.cell hkl (j:=4) (v:=.int .i64 f.fin) (by rw [hke];rfl)
 have hkl':(k:Int)<(C.c.fns.length:Int):=by omega
 have hk0:(0:Int)≤(k:Int):=by omega
 have hk9:(k:Int)≤40:=by omega
 have e0:=h.p.ex.cell 0 (.slice C.A C.c.fns.length C.ncap) rfl
 rw [hAe] at e0
 obtain ⟨name,params,locals,entry,fin⟩:=f
 dsimp only at c0 c1 c2 c3 c4 hlo
 obtain ⟨L,hL⟩:∃ L:Nat,locals=L:=⟨locals.toNat,by omega⟩
 subst hL
 have HEF:Hid (enterF m k ⟨name,params,L,entry,fin⟩ args={ m with frames:=m.frames ++ [⟨k,entry,args ++ List.replicate (L - args.length) [nulC],[]⟩] }):=Lib.hid (by unfold enterF;simp)
 have hL9:(L:Int)≤32:=by omega
 have hL0:(0:Int)≤(L:Int):=by omega
 obtain ⟨fA,fn,fc,hfve⟩:∃ A n k,fv=.slice A n k:=by obtain ⟨A,k,e⟩:=own_shape h.frow;exact ⟨A,_,k,e⟩
 obtain ⟨vA,vn,vc,hvve⟩:=h.p.val.shape
 obtain ⟨n0,hn0⟩:∃ n,args.length=n:=⟨_,rfl⟩
 have HN0:=Lib.hid hn0
 have HFR:=Lib.hid hfr
 have HND:=Lib.hid hnd
 have HA:Hid (ValsO w w0.heap.size av args):=Lib.hid ha
 subst hfve hvve
 have hlt:=h.lt
 have HBB:=below_new w (.cells #[.string name,.int .i64 params,.int .i64 L,.int .i64 entry,.int .i64 fin] 55)
 have HB:=Lib.hid HBB
 have HH1:=Lib.hid (h.below HBB)
 have HA1:=Lib.hid (ha.below HBB)
 have HBF:=Lib.hid (Blk.new w 55 #[.string name,.int .i64 params,.int .i64 L,.int .i64 entry,.int .i64 fin])
 obtain ⟨aA,ac,hav⟩:=ha.shape
 rw [hn0] at hal hav
 subst hav
 have hn9:(n0:Int)≤32:=by omega
 clear h hc hP hsa hke hkl hk ha hn0 hnd hfr HBB
 go_enter Tryz.func25,Tryz.ntmps25
 go_wp2_with (fail)
 obtain ⟨g1,hg1⟩:∃ g,w.heap.size=g:=⟨_,rfl⟩
 obtain ⟨W1,hW1⟩:∃ W1,w.alloc (.cells #[.string name,.int .i64 params,.int .i64 L,.int .i64 entry,.int .i64 fin] 55)=W1:=⟨_,rfl⟩
 rw [hW1] at HH1 HA1 HBF ⊢
 rw [hg1] at HBF ⊢
 have HG1:=Lib.hid hg1
 clear hg1 hW1 c0 c1 c2 c3 c4 e0
 go_loopw [7] (fun v7 wr=>∃ (j n:Nat),n=n0+j∧(j=0∨n≤L)∧n≤32∧(∃ A c,v7=.slice A n c)∧Hid (RowN wr w0.heap.size v7 (args ++ List.replicate j [nulC]) n)∧Hid (∀ g,v7.ownBlock=some g→g ∉ blocksF LS ++ blocksQ avs)∧Hid (Blk wr g1 55 #[.string name,.int .i64 params,.int .i64 L,.int .i64 entry,.int .i64 fin])∧Hid (XM w0 C gE wr m (.slice vA vn vc) (.slice fA fn fc) qv LS avs)) (fun v7 _=>L - lenV v7)
 case atStart=>exact ⟨0,n0,rfl,.inl rfl,by omega,⟨_,_,rfl⟩,Lib.hid ⟨by simpa using HA1.out,by simp [HN0.out]⟩,HND,HBF,HH1⟩
 case round =>
  obtain ⟨j,n,hn,hjn,hn32,⟨A7,c7,rfl⟩,HR7,HD7,HBf,HXr⟩:=hrel
  have b0:=blk5 HBf.out
  have hnn0:(0:Int)≤(n:Int):=by omega
  have hnn9:(n:Int)≤32:=by omega
  have HNJ:=Lib.hid hn
  have HJN:=Lib.hid hjn
  clear hn hjn
  by_cases hlt7:n<L
  ·have hlt7':(n:Int)<(L:Int):=by omega
   obtain ⟨⟨vs,ho,hvl,hvt⟩,hln⟩:=HR7.out
   have hvl':=hvl.trans hln
   rw [hln] at ho
   have hbn:=below_new wr (.cells #[.int .i64 1,.int .i64 0,.string ⟨#[]⟩,.int .i64 0] 62)
   have HVT:=Lib.hid (valT_null wr)
   obtain ⟨gN,hgN⟩:∃ g,wr.heap.size=g:=⟨_,rfl⟩
   obtain ⟨W2,hW2⟩:∃ W2,wr.alloc (.cells #[.int .i64 1,.int .i64 0,.string ⟨#[]⟩,.int .i64 0] 62)=W2:=⟨_,rfl⟩
   have HGN:=Lib.hid hgN
   have HW2:=Lib.hid hW2
   rw [hgN] at HVT
   rw [hW2] at hbn HVT
   have HO2:=Lib.hid ((own_below ho hbn).alloc (.cells #[.slice (some ⟨gN,0,none⟩) 1 1] 26))
   have HX2:=Lib.hid ((HXr.out.below hbn).below (below_new W2 (.cells #[.slice (some ⟨gN,0,none⟩) 1 1] 26)))
   have HB2:=Lib.hid ((HBf.out.below hbn).alloc (.cells #[.slice (some ⟨gN,0,none⟩) 1 1] 26))
   have HVT2:=Lib.hid (HVT.out.below (below_new W2 (.cells #[.slice (some ⟨gN,0,none⟩) 1 1] 26)))
   have HVS2:=Lib.hid (show ∀ i (h:i<vs.length) (h':i<(args ++ List.replicate j [nulC]).length),ValT (W2.alloc (.cells #[.slice (some ⟨gN,0,none⟩) 1 1] 26)) vs[i] (args ++ List.replicate j [nulC])[i] from fun i a b=>((hvt i a b).below hbn).below (below_new _ _))
   have HVL:=Lib.hid hvl'
   have HLN:=Lib.hid hln
   have hsz:w0.heap.size≤(W2.alloc (.cells #[.slice (some ⟨gN,0,none⟩) 1 1] 26)).heap.size:=HX2.out.p.bel.size
   have HSZ:=Lib.hid hsz
   clear ho hvl hvt hln hvl' hbn hgN hW2 hsz
   go_wp2_with (first
    | (go_at_call 55;(with_reducible refine (cnull_any _).mono ?_);rintro e1 w1 ⟨rfl,hw1⟩;rw [hw1,HW2.out,HGN.out];clear hw1 w1)
    | (at_builtin;refine wpList_append_lies _ rfl (.tmp 22) (.tmp 24) 72 rfl w0.heap.size 26 i1 _ 1 24 Tryz.underlying72 hj hy0 hy1 hy2 rfl (by omega) _ n _ rfl HO2.out ⟨W2.heap.size,0,none⟩ 1 1 [.slice (some ⟨gN,0,none⟩) 1 1] rfl rfl (cells_new W2 _ _) (by simp [Value.oneCell']) (by omega) (by unfold maxLen;omega) (by omega) HSZ.out _ rfl ?_;intro g6 cap6 w6 hown6 hgr6 hat6 hlt6;have HO6:=Lib.hid hown6;have HG6:=Lib.hid hgr6;have HT6:=Lib.hid hat6;clear hown6 hgr6 hat6))
   have HX6:=Lib.hid (HX2.out.turnV HO2.out HD7.out HG6.out)
   have HCK:=Lib.hid (CK.own HO2.out (by decide) HG6.out)
   refine ⟨⟨j+1,n+1,?_,.inr (by omega),by omega,⟨_,_,rfl⟩,Lib.hid ⟨?_,?_⟩,Lib.hid ?_,Lib.hid ?_,HX6⟩,?_⟩
   ·have:=HNJ.out;omega
   ·rw [List.replicate_succ',← List.append_assoc]
    exact valsO_snoc HLN.out HO6.out HVL.out (fun i a b=>(HVS2.out i a b).keep HCK.out) (HVT2.out.keep HCK.out)
   ·rw [List.replicate_succ',← List.append_assoc,List.length_append,HLN.out];rfl
   ·intro g hg
    have hg':g6=g:=by simpa [Value.ownBlock] using hg
    subst hg'
    rcases HT6.out with h6 | h6
    ·exact HD7.out _ h6
    ·exact HX2.out.fresh (by omega)
   ·exact HB2.out.grown HG6.out (own_ne_blk HO2.out HB2.out (by decide))
   ·simp [lenV];omega
  ·have hnlt:¬ (n:Int)<(L:Int):=by omega
   have HEJ:Hid (enterF m k ⟨name,params,L,entry,fin⟩ args={ m with frames:=m.frames ++ [⟨k,entry,args ++ List.replicate j [nulC],[]⟩] }):=Lib.hid (by
    rw [HEF.out]
    have e:L - args.length=j:=by
     have h1:=HNJ.out
     have h2:=HN0.out
     rcases HJN.out with h | h <;> omega
    rw [e])
   obtain ⟨args',hargs⟩:∃ a,args ++ List.replicate j [nulC]=a:=⟨_,rfl⟩
   rw [hargs] at HEJ HR7
   clear hargs
   have HXc:=Lib.hid HXr.out.p.ex
   have e1:=blkX HXc.out
   have z5:=HXc.out.frozen 5
   obtain ⟨WA,hWA⟩:∃ WA,wr.drew.alloc (.cells #[.int .i64 k,.int .i64 entry,.slice A7 n c7,.slice none 0 0] 74)=WA:=⟨_,rfl⟩
   have hbA:Below wr.heap.size wr WA:=by rw [← hWA];exact (Below.refl _ _).drew.alloc (Nat.le_refl _) _
   have HXA:=Lib.hid (HXr.out.below hbA)
   have HRA:Hid (RowN WA w0.heap.size (.slice A7 n c7) args' n):=Lib.hid ⟨HR7.out.1.below hbA,HR7.out.2⟩
   have HOA:=Lib.hid HXA.out.frow
   have HSZ:=Lib.hid HXA.out.p.bel.size
   have HNW:Hid (∀ j u,[Value.int .i64 k,.int .i64 entry,.slice A7 n c7,.slice none 0 0][j]? = some u→WA.cell? ((⟨wr.heap.size,0,none⟩:Addr).add j)=some u):=Lib.hid (by rw [← hWA];exact cells_new wr.drew _ 74)
   have eA:=blkX HXA.out.p.ex
   go_upto_region 4 with fail
   go_region_law (first
    | (rw [if_pos (by rfl)];refine wp_append_lies _ (.tmp 31) (.tmp 37) 34 rfl w0.heap.size 74 i0 _ 4 64 Tryz.underlying34 hi hz0 hz1 hz2 rfl ?k1 _ m.frames.length _ rfl HOA.out ⟨wr.heap.size,0,none⟩ 1 1 [.int .i64 k,.int .i64 entry,.slice A7 n c7,.slice none 0 0] rfl rfl HNW.out ?k2 ?k3 ?k4 ?k5 ?k6 _ rfl ?_;(case k1=>decide);(case k2=>simp [Value.oneCell']);(case k3=>decide);(case k4=>(have:=HFR.out;unfold maxLen;omega));(case k5=>(have:=HFR.out;omega));(case k6=>exact HSZ.out);intro g6 cap6 w6 hown6 hgr6 hat6 hlt6;have HE6:=Lib.hid (HXA.out.p.ex.grown hgr6 (own_ne_blk HOA.out HXA.out.p.ex (by decide)));have e6:=blkX HE6.out;have z6:=HE6.out.frozen 5;have HO6:=Lib.hid hown6;have HG6:=Lib.hid hgr6;clear hown6 hgr6 hat6))
   all_goals
    go_wp2_with (fail)
    rw [← HP.out]
    go_returns
    refine ⟨rfl,?_⟩
    rw [HEJ.out]
    have hnd7:=HD7.out
    have hX:=HXA.out.p.turnF HOA.out HG6.out
    obtain ⟨h1,h2⟩:=hX.setF (fv':=.slice (some ⟨g6,0,none⟩) (m.frames.length+1) cap6) (fs':=m.frames ++ [⟨k,entry,args',[]⟩]) HO6.out
    have hck:CK WA w6:=CK.own HOA.out (by decide) HG6.out
    have hkb:∀ g,(Value.slice A7 n c7).ownBlock=some g→w6.heap[g]? = WA.heap[g]?:=fun g hg=>by
     obtain ⟨vs,hv,_⟩:=HRA.out.1
     obtain ⟨_,cs,hb⟩:=own_blk hv hg
     exact HG6.out.block g (lt_of_block hb) (own_ne_blk HOA.out hb (by decide))
    have hl6:ValsO w6 w0.heap.size (.slice A7 n c7) args':=HRA.out.1.keep hck hkb
    have hl7:=hl6.keep (XM.ck hX 5 (.slice (some ⟨g6,0,none⟩) (m.frames.length+1) cap6)) (fun g hg=>by
     obtain ⟨vs,hv,_⟩:=hl6
     obtain ⟨_,cs,hb⟩:=own_blk hv hg
     exact (grown_setc w6 gE 5 _).block g (lt_of_block hb) (fun e=>blk_ne hb hX.ex (by decide) (by simpa using e)))
    exact ⟨_,_,XM.close h1 rfl hl7 (ValsO.nil _ _) h2 (nd_add hX.nd hnd7)⟩
end
section
open Go.RowKit
set_option maxRecDepth 100000
attribute [local go_sem] cell_alloc_is
end
end Go.Proofs.YtmljohbialacfaaGreatDoor
