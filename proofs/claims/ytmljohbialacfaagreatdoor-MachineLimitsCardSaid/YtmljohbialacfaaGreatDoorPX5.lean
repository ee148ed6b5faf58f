/- GQ9, X5 -/
import Derived.Test.YtmljohbialacfaaGreatDoorPGQ8
import Derived.Test.YtmljohbialacfaaGreatDoorPGK11
import Derived.Test.YtmljohbialacfaaGreatDoorPE5
set_option linter.unusedVariables false
set_option linter.unusedSimpArgs false
namespace Go.Proofs.YtmljohbialacfaaGreatDoor
section
open Go.RowKit
set_option maxRecDepth 100000
def sMain:ByteArray:=⟨#[109,97,105,110]⟩
def zeroM:MachD:=⟨0,0,[],[],[],0,0,0,0⟩
/-- The machine that is started at the function f, of index r. -/
def startM (f:FnD) (r:Int) (ev:ValD) (ls lm:Int):MachD:=countF (enterF ⟨1,0,[],[],[],ls,lm,0,0⟩ r f [ev])
def LimOk (ls lm:Int):Prop:=(1≤ls∧ls≤20000)∧(1≤lm∧lm≤4000)
instance (ls lm:Int):Decidable (LimOk ls lm):=by unfold LimOk;infer_instance
/-- What Start answers: R is what the check of the code found, r where main is. -/
def startO (c:CodeD) (ev:ValD) (ls lm:Int) (R:Int × Int) (r:Int):MachD × Int :=
 if R.2≠0 then (zeroM,R.2) else
 if r<0 then (zeroM,5) else
 match c.fns[r.toNat]? with
 | none=>(zeroM,5)
 | some f =>
  if f.params≠1 then (zeroM,7) else
  if checkF ev≠0 then (zeroM,checkF ev) else
  if ¬ LimOk ls lm then (zeroM,2) else (startM f r ev ls lm,0)
theorem FindP.ex (l:List FnD) (s:ByteArray):∃ r,FindP l s r:=by
 induction l with
 | nil=>exact ⟨-1,.inl ⟨rfl,fun j h=>absurd h (by simp)⟩⟩
 | cons f t ih =>
  by_cases h:f.name=s
  ·exact ⟨0,.inr ⟨0,by simp,rfl,by simpa using h,fun j hj=>absurd hj (by omega)⟩⟩
  ·obtain ⟨r,hr⟩:=ih
   rcases hr with ⟨rfl,h1⟩ | ⟨k,hk,rfl,h1,h2⟩
   ·refine ⟨-1,.inl ⟨rfl,fun j hj=>?_⟩⟩
    cases j with
    | zero=>simpa using h
    | succ j=>simpa using h1 j (by simpa using hj)
   ·refine ⟨((k+1:Nat):Int),.inr ⟨k+1,by simpa using hk,rfl,by simpa using h1,fun j hj=>?_⟩⟩
    cases j with
    | zero=>simpa using h
    | succ j=>simpa using h2 j (by omega)
section
variable {w0 u w w':World} {C:CodeS} {gE:Nat} {m:MachD} {vv fv qv:Value} {LS:List (Value × Value)} {fs:List FrameD} {avs:List Value}
theorem ParkedO.rebase {base base':Nat} (hb:base'≤base):∀ {LS:List (Value × Value)} {fs:List FrameD},ParkedO w base LS fs→ParkedO w base' LS fs
 | [],[],_=>trivial
 | _ :: _,_ :: _,h=>⟨⟨h.1.1.rebase hb,h.1.2.rebase hb⟩,h.2.rebase hb⟩
 | [],_ :: _,h=>h.elim
 | _ :: _,[],h=>h.elim
theorem ReqsO.rebase {base base':Nat} (hb:base'≤base):∀ {LS:List Value} {fs:List ReqD},ReqsO w base LS fs→ReqsO w base' LS fs
 | [],[],_=>trivial
 | _ :: _,_ :: _,h=>⟨h.1.rebase hb,h.2.rebase hb⟩
 | [],_ :: _,h=>h.elim
 | _ :: _,[],h=>h.elim
theorem XM.rebase (h:XM w0 C gE w m vv fv qv LS avs) (hb:Below u.heap.size u w0):XM u C gE w m vv fv qv LS avs :=
 ⟨⟨below_call' h.p.bel hb hb.size,Nat.le_trans hb.size h.p.hE,h.p.ex,h.p.val,h.p.fr.rebase hb.size,h.p.rq.rebase hb.size,own_base h.p.qrow hb.size,h.p.nd,h.p.tb⟩,own_base h.frow hb.size⟩
/-- A block of some other type has turned. -/
theorem XM.turnT (h:XM w0 C gE w m vv fv qv LS avs) {g:Nat} {t:TypeId} {cs:Array Value} (hb:Blk w g t cs) (hg:w.grownBy w' (some g)) (hbase:w0.heap.size≤g) (h1:t≠62) (h2:t≠69) (h3:t≠86) (h4:t≠74) (h5:t≠26) (h6:t≠110:=by decide):XM w0 C gE w' m vv fv qv LS avs:=by
 refine ⟨h.p.turn hg (fun g' e=>?_),h.frow.kept hg ?_⟩
 ·injection e with e
  subst e
  exact ⟨hbase,t,cs,hb,h1,h2,h3,h6,fun e=>absurd e h5⟩
 ·exact .inr (fun e=>own_ne_blk h.frow hb (fun e=>h4 e.symm) e.symm)
/-- An executor that has been made. -/
theorem XM.new_ {W:World} {ls lm:Int} (hb:Below w0.heap.size w0 W) (C:CodeS) (hT:C.T=none:=by rfl):XM w0 C W.heap.size (W.alloc (.cells (exA C ⟨1,0,[],[],[],ls,lm,0,0⟩ (.slice none 0 0) (.slice none 0 0) (.slice none 0 0)) 69)) ⟨1,0,[],[],[],ls,lm,0,0⟩ (.slice none 0 0) (.slice none 0 0) (.slice none 0 0) [] [] :=
 ⟨⟨hb.alloc hb.size _,hb.size,Blk.new W _ _,ValT.none _,trivial,trivial,World.ownsRow_nil _ _ _ _,by simp [blocksF,blocksQ],fun g cs e=>by rw [hT] at e;cases e⟩,World.ownsRow_nil _ _ _ _⟩
end
theorem grown_setRow (w:World) (g:Nat) (cs:Array Value):w.grownBy (w.setRow g cs) (some g) :=
 ⟨rfl,rfl,rfl,by simp,fun k _ hk=>setRow_other w g k _ (fun e=>hk (by simp [e]))⟩
/-- One value in a row of values that has just been laid. -/
theorem valsO_one {W:World} {v:Value} {l:ValD} (h:ValT W v l) (base:Nat) (hb:base≤W.heap.size):ValsO (W.alloc (.cells #[v] 26)) base (.slice (some ⟨W.heap.size,0,none⟩) 1 1) [l]:=by
 refine ⟨[v],own_base (World.ownsRow_lit (base:=W.heap.size) W #[v] 1 (Nat.le_refl _) (by unfold maxLen;omega) rfl) hb,rfl,fun i h1 h2=>?_⟩
 have:i=0:=by simp at h1;omega
 subst this
 exact h.below (below_new _ _)
end
section
open Go.RowKit
set_option maxRecDepth 100000
def SmallCd (c:CodeD):Prop:=c.fns.length≤40∧c.ins.length≤4100∧(∀ f∈c.fns,f.name.size≤1000)∧(∀ i∈c.ins,InsOk i)
attribute [local go_sem] cell_alloc_is
set_option maxHeartbeats 16000000 in
theorem scode_any (C:CodeS) (w:World) (hC:CodeV w C) :
  Calls Tryz.prog 7 #[.agg #[.slice C.A C.c.fns.length C.ncap,.slice C.B C.c.ins.length C.icap]] w fun e w'=>(∃ b,e=.returned (.bool b)∧(b=true→SmallCd C.c))∧Below w.heap.size w w':=by
 obtain ⟨P,hP⟩:∃ P:Ending→World→Prop,(fun e w'=>(∃ b,e=.returned (.bool b)∧(b=true→SmallCd C.c))∧Below w.heap.size w w')=P:=⟨_,rfl⟩
 rw [hP]
 have HP:=Lib.hid hP
 obtain ⟨A,B,ncap,icap,c⟩:=C
 dsimp only at HP ⊢
 have hF:=hC.fns
 have hI:=hC.ins
 dsimp only at hF hI
 obtain ⟨nF,hnF⟩:∃ n,c.fns.length=n:=⟨_,rfl⟩
 obtain ⟨nI,hnI⟩:∃ n,c.ins.length=n:=⟨_,rfl⟩
 rw [hnF,hnI]
 have HNF:=Lib.hid hnF
 have HNI:=Lib.hid hnI
 have HB:=Lib.hid (below_new w (.cells #[.slice A nF ncap,.slice B nI icap] 25))
 have HX:=Lib.hid (Blk.new w 25 #[.slice A nF ncap,.slice B nI icap])
 obtain ⟨W1,hW1⟩:∃ W1,w.alloc (.cells #[.slice A nF ncap,.slice B nI icap] 25)=W1:=⟨_,rfl⟩
 rw [hW1] at HB HX
 have HF:=Lib.hid (hF.below HB.out)
 have HI:=Lib.hid (hI.below HB.out)
 have HW1:=Lib.hid hW1
 clear hP hC hF hI hnF hnI hW1
 have x0:=blk2 HX.out
 by_cases h40:40<nF
 ·have h40':(40:Int)<(nF:Int):=by omega
  go_enter Tryz.func7,Tryz.ntmps7
  go_wp2_with (fail)
  rw [← HP.out]
  exact ⟨⟨false,rfl,fun h=>by cases h⟩,by rw [HW1.out];exact HB.out⟩
 by_cases h41:4100<nI
 ·have h40':¬ (40:Int)<(nF:Int):=by omega
  have h41':(4100:Int)<(nI:Int):=by omega
  go_enter Tryz.func7,Tryz.ntmps7
  go_wp2_with (fail)
  rw [← HP.out]
  exact ⟨⟨false,rfl,fun h=>by cases h⟩,by rw [HW1.out];exact HB.out⟩
 have h40':¬ (40:Int)<(nF:Int):=by omega
 have h41':¬ (4100:Int)<(nI:Int):=by omega
 go_enter Tryz.func7,Tryz.ntmps7
 go_upto_region 3 with fail
 rw [HW1.out]
 go_wp2_with (fail)
 go_loop [19] (fun iv=>∃ k:Nat,k≤nF∧iv=.int .i64 k∧Hid (∀ j (h:j<c.fns.length),j<k→c.fns[j].name.size≤1000)) (fun iv=>nF - (intOf iv).toNat)
 case atStart=>exact ⟨0,Nat.zero_le _,rfl,Lib.hid (fun j _ h=>absurd h (by omega))⟩
 case round =>
  obtain ⟨k,hk,rfl,HK⟩:=hrel
  have hk0:(0:Int)≤(k:Int):=by omega
  by_cases hlt:k<nF
  ·have hlt':(k:Int)<(nF:Int):=by omega
   have hk9:(k:Int)≤40:=by omega
   have hkl:k<c.fns.length:=by rw [HNF.out];exact hlt
   have hsa:=HF.out
   obtain ⟨b,off,hAe,_⟩:=hsa.ptr hkl
   subst hAe
   obtain ⟨s,hs⟩:∃ s,c.fns[k].name=s:=⟨_,rfl⟩
   have c0:=hsa.cell0 hkl (v:=.string s) (by rw [← hs];rfl)
   have HSN:=Lib.hid hs
   clear hsa hs
   by_cases h5:s.size≤1000
   ·have HK2:Hid (∀ j (h:j<c.fns.length),j<k+1→c.fns[j].name.size≤1000):=Lib.hid (fun j h hj=>by
     by_cases e:j=k
     ·subst e;rw [HSN.out];exact h5
     ·exact HK.out j h (by omega))
    have h5':¬ (1000:Int)<(s.size:Int):=by omega
    clear HSN hkl
    go_wp2_with (fail)
    exact ⟨⟨k+1,by omega,by simp,HK2⟩,by simp [intOf];omega⟩
   ·have h5':(1000:Int)<(s.size:Int):=by omega
    clear HSN hkl
    go_wp2_with (fail)
    rw [← HP.out]
    exact ⟨⟨false,rfl,fun h=>by cases h⟩,HB.out⟩
  ·have HN:Hid (∀ f∈c.fns,f.name.size≤1000):=Lib.hid (fun f hf=>by
    obtain ⟨j,hj,rfl⟩:=List.getElem_of_mem hf
    exact HK.out j hj (by have:=HNF.out;omega))
   have hnl:¬ (k:Int)<(nF:Int):=by omega
   go_wp2_with (fail)
   go_loop [34] (fun iv=>∃ k:Nat,k≤nI∧iv=.int .i64 k∧Hid (∀ j (h:j<c.ins.length),j<k→InsOk c.ins[j])) (fun iv=>nI - (intOf iv).toNat)
   case atStart=>exact ⟨0,Nat.zero_le _,rfl,Lib.hid (fun j _ h=>absurd h (by omega))⟩
   case round =>
    obtain ⟨i,hi,rfl,HKI⟩:=hrel
    have hi0:(0:Int)≤(i:Int):=by omega
    by_cases hlti:i<nI
    ·have hlti':(i:Int)<(nI:Int):=by omega
     have hi9:(i:Int)≤4100:=by omega
     have hil:i<c.ins.length:=by rw [HNI.out];exact hlti
     obtain ⟨bI,offI,kv,hBe,_,q0,q1,q2,q3,kA,kc,hkve,hkc,hks⟩:=HI.out.at hil
     subst hBe hkve
     obtain ⟨x,hx⟩:∃ x,c.ins[i]'hil=x:=⟨_,rfl⟩
     rw [hx] at q2 q3 hks
     have HXE:=Lib.hid hx
     have HKS:=Lib.hid hks
     clear hx hks q0 q1 hkc
     obtain ⟨op,a,s,keys⟩:=x
     dsimp only at q2
     have q3':W1.cell? ⟨bI,offI+i * 4+3,none⟩=some (.slice kA keys.length kc):=q3
     have HKS2:Hid (SlAt W1 kA 1 strCs keys):=HKS
     clear q3 HKS
     obtain ⟨kn,hkn⟩:∃ n,keys.length=n:=⟨_,rfl⟩
     rw [hkn] at q3'
     have HKN:=Lib.hid hkn
     clear hkn
     by_cases h5:s.size≤1000
     ·have h5':¬ (1000:Int)<(s.size:Int):=by omega
      by_cases h3:kn≤300
      ·have h3':¬ (300:Int)<(kn:Int):=by omega
       go_wp2_with (fail)
       go_loop [62] (fun iv=>∃ t:Nat,t≤kn∧iv=.int .i64 t∧Hid (∀ j (h:j<keys.length),j<t→keys[j].size≤1000)) (fun iv=>kn - (intOf iv).toNat)
       case atStart=>exact ⟨0,Nat.zero_le _,rfl,Lib.hid (fun j _ h=>absurd h (by omega))⟩
       case round =>
        obtain ⟨t,ht,rfl,HKT⟩:=hrel
        have ht0:(0:Int)≤(t:Int):=by omega
        by_cases hltt:t<kn
        ·have hltt':(t:Int)<(kn:Int):=by omega
         have ht9:(t:Int)≤300:=by omega
         have htl:t<keys.length:=by rw [HKN.out];exact hltt
         have hsk:=HKS2.out
         obtain ⟨bK,oK,hKe,_⟩:=hsk.ptr htl
         subst hKe
         obtain ⟨u,hu⟩:∃ u,keys[t]=u:=⟨_,rfl⟩
         have ck:=hsk.cell0 htl (v:=.string u) (by rw [← hu];rfl)
         have ck':W1.cell? ⟨bK,oK+t,none⟩=some (.string u):=by simpa using ck
         have HU:=Lib.hid hu
         clear hsk hu ck
         by_cases h6:u.size≤1000
         ·have HK2:Hid (∀ j (h:j<keys.length),j<t+1→keys[j].size≤1000):=Lib.hid (fun j h hj=>by
           by_cases e:j=t
           ·subst e;rw [HU.out];exact h6
           ·exact HKT.out j h (by omega))
          have h6':¬ (1000:Int)<(u.size:Int):=by omega
          clear HU htl
          go_wp2_with (fail)
          exact ⟨⟨t+1,by omega,by simp,HK2⟩,by simp [intOf];omega⟩
         ·have h6':(1000:Int)<(u.size:Int):=by omega
          clear HU htl
          go_wp2_with (fail)
          rw [← HP.out]
          exact ⟨⟨false,rfl,fun h=>by cases h⟩,HB.out⟩
        ·have HIO:Hid (InsOk ⟨op,a,s,keys⟩):=Lib.hid ⟨h5,by dsimp only;rw [HKN.out];exact h3,fun y hy=>by
          obtain ⟨j,hj,rfl⟩:=List.getElem_of_mem hy
          exact HKT.out j hj (by have:=HKN.out;dsimp only at hj;omega)⟩
         have HK2:Hid (∀ j (h:j<c.ins.length),j<i+1→InsOk c.ins[j]):=Lib.hid (fun j h hj=>by
          by_cases e:j=i
          ·subst e;rw [HXE.out];exact HIO.out
          ·exact HKI.out j h (by omega))
         have hnt:¬ (t:Int)<(kn:Int):=by omega
         clear HXE hil
         go_wp2_with (fail)
         exact ⟨⟨i+1,by omega,by simp,HK2⟩,by simp [intOf];omega⟩
      ·have h3':(300:Int)<(kn:Int):=by omega
       clear HXE hil
       go_wp2_with (fail)
       rw [← HP.out]
       exact ⟨⟨false,rfl,fun h=>by cases h⟩,HB.out⟩
     ·have h5':(1000:Int)<(s.size:Int):=by omega
      clear HXE hil
      go_wp2_with (fail)
      rw [← HP.out]
      exact ⟨⟨false,rfl,fun h=>by cases h⟩,HB.out⟩
    ·have HII:Hid (∀ x∈c.ins,InsOk x):=Lib.hid (fun x hx=>by
      obtain ⟨j,hj,rfl⟩:=List.getElem_of_mem hx
      exact HKI.out j hj (by have:=HNI.out;omega))
     have hni:¬ (i:Int)<(nI:Int):=by omega
     go_wp2_with (fail)
     rw [← HP.out]
     exact ⟨⟨true,rfl,fun _=>⟨by rw [HNF.out];omega,by rw [HNI.out];omega,HN.out,HII.out⟩⟩,HB.out⟩
end
section
open Go.RowKit
set_option maxRecDepth 100000
attribute [local go_sem] cell_alloc_is
end
section
open Go.RowKit
set_option maxRecDepth 100000
theorem machV_zero (w:World):MachV w (.agg #[.int .i64 0,.int .i64 0,.slice none 0 0,.slice none 0 0,.slice none 0 0,.int .i64 0,.int .i64 0,.int .i64 0,.int .i64 0]) zeroM :=
 ⟨_,_,_,rfl,RowsV.nil none 0,RowsV.nil none 0,RowsV.nil none 0⟩
theorem OVal.shape3 {w:World} {base:Nat} {v:Value} {l:ValD} (h:OVal w base v l):∃ A n k,v=.slice A n k:=by
 obtain ⟨A,k,e⟩:=own_shape (show w.ownsRow base 62 4 v l.length _ from h)
 exact ⟨A,_,k,e⟩
theorem own_fresh {g n k:Nat} {l:List Nat} (h:g ∉ l):∀ g',(Value.slice (some ⟨g,0,none⟩) n k).ownBlock=some g'→g' ∉ l:=by
 intro g' e
 have:g=g':=by simpa [Value.ownBlock] using e
 exact this ▸ h
theorem small_enter {m:MachD} {k:Int} {f:FnD} {args:List ValD} (hlo:0≤f.locals∧f.locals≤32) (hm:m.frames=[]) (hr:m.requests=[]) (ha:args.length≤100:=by simp):SmallM (enterF m k f args):=by
 refine ⟨⟨by simp [enterF,hm],fun f' hf=>?_⟩,by simp [enterF,hr],fun r hr'=>by simp [enterF,hr] at hr'⟩
 have:f'=⟨k,f.entry,args ++ List.replicate (f.locals.toNat - args.length) [nulC],[]⟩:=by simpa [enterF,hm] using hf
 subst this
 exact ⟨by simp;omega,by simp⟩
theorem SmallM.count {m:MachD} (h:SmallM m):SmallM (countF m):=by
 unfold countF
 split
 ·split
  ·exact ⟨⟨by simp [failF],fun f hf=>by simp [failF] at hf⟩,h.2⟩
  ·exact h
 ·exact h
theorem insF_ne {c:CodeD} {f:FnD}:∀ (n k:Nat) (R:Int × Int),insF c f n k=some R→R.2≠0
 | 0,k,R,h=>by cases h
 | n+1,k,R,h=>by
  unfold insF at h
  split at h
  ·cases h
  ·split at h
   ·injection h with h;subst h;simp
   split at h
   ·injection h with h;subst h;simp
   ·exact insF_ne n (k+1) R h
theorem insAll_ne {c:CodeD}:∀ (l:List FnD) (R:Int × Int),insAll c l=some R→R.2≠0
 | [],R,h=>by cases h
 | f :: r,R,h=>by
  unfold insAll at h
  split at h
  ·rename_i h'
   injection h with h
   subst h
   exact insF_ne _ _ _ h'
  ·exact insAll_ne r R h
theorem CodeR.okk {c:CodeD} {R:Int × Int} (h:CodeR c R) (h0:R.2=0):¬ Big c∧(fnsF c c.fns 0 0).2=0∧insAll c c.fns=none∧∃ d',AllR c c.fns (List.replicate c.ins.length (-1)) (-1,d'):=by
 cases h with
 | big=>simp at h0
 | fn _ _ _ h2=>exact absurd h0 h2
 | ins _ _ _ h2=>exact absurd h0 (insAll_ne _ _ h2)
 | stack=>simp at h0
 | ok d' h1 h2 h3 h4=>exact ⟨h1,h2,h3,d',h4⟩
theorem CodeR.small {c:CodeD} {R:Int × Int} (h:CodeR c R) (h0:R.2=0):∀ f∈c.fns,FnSmall f:=by
 obtain ⟨h1,h2,_⟩:=h.okk h0
 exact fun f hf=>(fns_all (by unfold Big at h1;omega) h2 f hf).1
theorem XM.fshape {w0 w:World} {C:CodeS} {gE:Nat} {m:MachD} {vv fv qv:Value} {LS:List (Value × Value)} {avs:List Value} (h:XM w0 C gE w m vv fv qv LS avs):∃ A n k,fv=.slice A n k:=by
 obtain ⟨A,k,e⟩:=own_shape h.frow
 exact ⟨A,_,k,e⟩
attribute [local go_sem] cell_alloc_is
set_option maxHeartbeats 16000000 in
theorem cstart_any0 (C:CodeS) (hT:C.T=none) (v:Value) (l:ValD) (ls lm:Int) (w:World) (hC:CodeV w C) (hl:C.c.fns.length≤40) (hL:C.c.ins.length≤4100) (hn:∀ f∈C.c.fns,f.name.size≤1000) (hok:∀ i∈C.c.ins,InsOk i) (hv:Sent w) (hp:Pow w) (hS:Shaped w) (hV:ValV w v l) (hvl:l.length≤1000000) (hvo:∀ c∈l,okC c) :
  Calls Tryz.prog 10 #[.agg #[.slice C.A C.c.fns.length C.ncap,.slice C.B C.c.ins.length C.icap],v,.agg #[.int .i64 ls,.int .i64 lm]] w fun e w'=>∃ x R r,e=.returned (.tuple #[x,.int .i64 (startO C.c l ls lm R r).2])∧CodeR C.c R∧FindP C.c.fns sMain r∧MachV w' x (startO C.c l ls lm R r).1∧Below w.heap.size w w':=by
 obtain ⟨P,hP⟩:∃ P:Ending→World→Prop,(fun e w'=>∃ x R r,e=.returned (.tuple #[x,.int .i64 (startO C.c l ls lm R r).2])∧CodeR C.c R∧FindP C.c.fns sMain r∧MachV w' x (startO C.c l ls lm R r).1∧Below w.heap.size w w')=P:=⟨_,rfl⟩
 rw [hP]
 have HP:=Lib.hid hP
 obtain ⟨vA,vcap,rfl,hvc,hvm,hvs⟩:=hV.at
 have HCC:Hid (∀ wx,Below w.heap.size w wx→Calls Tryz.prog 22 #[.agg #[.slice C.A C.c.fns.length C.ncap,.slice C.B C.c.ins.length C.icap]] wx fun e w'=>∃ R,e=.returned (.tuple #[.int .i64 R.1,.int .i64 R.2])∧CodeR C.c R∧Below wx.heap.size wx w'):=Lib.hid (fun wx hb=>ccheck_any C.c C.A C.B C.ncap C.icap wx hl hL hn hok (hv.below hb) (hp.below hb) (hS.below hb) (hC.fns.below hb) (hC.ins.below hb))
 have HCF:Hid (∀ wx,Below w.heap.size w wx→Calls Tryz.prog 23 #[.agg #[.slice C.A C.c.fns.length C.ncap,.slice C.B C.c.ins.length C.icap],.string ⟨#[109,97,105,110]⟩] wx fun e w'=>(∃ r,e=.returned (.int .i64 r)∧FindP C.c.fns sMain r)∧Below wx.heap.size wx w'):=Lib.hid (fun wx hb=>cfind_any C.c.fns C.A C.B C.ncap C.c.ins.length C.icap sMain wx hl (hC.fns.below hb))
 obtain ⟨n,hln⟩:∃ n,l.length=n:=⟨_,rfl⟩
 have HCV:Hid (∀ wx,Below w.heap.size w wx→Calls Tryz.prog 24 #[.slice vA n vcap] wx fun e w'=>e=.returned (.int .i64 (checkF l))∧Below wx.heap.size wx w'):=Lib.hid (fun wx hb=>by rw [← hln];exact vcheck_any l vA vcap wx (hvs.below hb) (hp.below hb) hvl hvc hvo)
 have HVV:Hid (∀ wx,Below w.heap.size w wx→ValV wx (.slice vA n vcap) l):=Lib.hid (fun wx hb=>by rw [← hln];exact hV.below hb)
 rw [hln]
 have HLN:=Lib.hid hln
 have HCO:=Lib.hid hC
 have HFL:=Lib.hid hl
 have HIL:=Lib.hid hL
 have HVL:=Lib.hid hvl
 obtain ⟨cn,hcn⟩:∃ n,C.c.ins.length=n:=⟨_,rfl⟩
 obtain ⟨ck,hck⟩:∃ n,checkF l=n:=⟨_,rfl⟩
 rw [hcn] at HCC HCF ⊢
 rw [hck] at HCV
 have HCN:=Lib.hid hcn
 have HCK:=Lib.hid hck
 have HB0:=Lib.hid (below_3 w (.cells #[.slice C.A C.c.fns.length C.ncap,.slice C.B cn C.icap] 25) (.cells #[.int .i64 ls,.int .i64 lm] 28) (.cells #[.int .i64 0,.int .i64 0,.slice none 0 0,.slice none 0 0,.slice none 0 0,.int .i64 0,.int .i64 0,.int .i64 0,.int .i64 0] 37))
 have HX0:=Lib.hid ((((Blk.new w 25 #[.slice C.A C.c.fns.length C.ncap,.slice C.B cn C.icap]).alloc (.cells #[.int .i64 ls,.int .i64 lm] 28)).alloc (.cells #[.int .i64 0,.int .i64 0,.slice none 0 0,.slice none 0 0,.slice none 0 0,.int .i64 0,.int .i64 0,.int .i64 0,.int .i64 0] 37)))
 have HY0:=Lib.hid ((Blk.second w (.cells #[.slice C.A C.c.fns.length C.ncap,.slice C.B cn C.icap] 25) 28 #[.int .i64 ls,.int .i64 lm]).alloc (.cells #[.int .i64 0,.int .i64 0,.slice none 0 0,.slice none 0 0,.slice none 0 0,.int .i64 0,.int .i64 0,.int .i64 0,.int .i64 0] 37))
 have HZ0:=Lib.hid (Blk.third w (.cells #[.slice C.A C.c.fns.length C.ncap,.slice C.B cn C.icap] 25) (.cells #[.int .i64 ls,.int .i64 lm] 28) 37 #[.int .i64 0,.int .i64 0,.slice none 0 0,.slice none 0 0,.slice none 0 0,.int .i64 0,.int .i64 0,.int .i64 0,.int .i64 0])
 clear hC hn hok hv hp hS hV hvs hvo hvc hvm hln hcn hck hP hl hL hvl
 go_enter Tryz.func10,Tryz.ntmps10
 go_upto_region 2 with (first
  | (go_at_call 22;(with_reducible refine (HCC.out _ HB0.out).mono ?_);rintro e W1 ⟨R,rfl,hcr,hb1⟩;have HCR:=Lib.hid hcr;have HX1:=Lib.hid (HX0.out.below hb1);have HY1:=Lib.hid (HY0.out.below hb1);have HZ1:=Lib.hid (HZ0.out.below hb1);have HB1:=Lib.hid (below_call hb1 HB0.out);have x1:=blk2 HX1.out;clear hb1 hcr))
 obtain ⟨r1,r2⟩:=R
 by_cases hr2:r2=0
 ·subst hr2
  go_upto_region 5 with (first
   | (go_at_call 23;(with_reducible refine (HCF.out _ HB1.out).mono ?_);rintro e W2 ⟨⟨rr,rfl,hfp⟩,hb2⟩;have HFP:=Lib.hid hfp;have HX2:=Lib.hid (HX1.out.below hb2);have HY2:=Lib.hid (HY1.out.below hb2);have HZ2:=Lib.hid (HZ1.out.below hb2);have HB2:=Lib.hid (below_call hb2 HB1.out);have x2:=blk2 HX2.out;clear hb2 hfp x1))
  by_cases hr0:rr<0
  ·obtain ⟨r2,hr2⟩:∃ r2:Int,r2=0:=⟨0,rfl⟩
   rw [← hr2] at HCR
   have HR2:=Lib.hid hr2
   clear hr2
   have HRR:Hid (startO C.c l ls lm (r1,r2) rr=(zeroM,5)):=Lib.hid (by unfold startO;rw [if_neg (by simp [HR2.out]),if_pos hr0])
   have HZe:=Lib.hid (HZ2.out.setRow (cs':=#[.int .i64 0,.int .i64 0,.slice none 0 0,.slice none 0 0,.slice none 0 0,.int .i64 0,.int .i64 0,.int .i64 0,.int .i64 0]))
   have HBe:=Lib.hid (below_setRow HB2.out (show w.heap.size≤w.heap.size+1+1 by omega) #[.int .i64 0,.int .i64 0,.slice none 0 0,.slice none 0 0,.slice none 0 0,.int .i64 0,.int .i64 0,.int .i64 0,.int .i64 0])
   go_wp2_with (first
    | (refine wpList_store_row rfl 37 (.tmp 6) (.tmp 27) rfl (w.heap.size+1+1) #[.int .i64 0,.int .i64 0,.slice none 0 0,.slice none 0 0,.slice none 0 0,.int .i64 0,.int .i64 0,.int .i64 0,.int .i64 0] rfl rfl 37 _ HZ2.out (by kernel_rfl) rfl (by simp [Value.oneCell']) ?_))
   have gz:=blk9 HZe.out
   refine bodyPost_ret (v:=.tuple #[.agg #[.int .i64 0,.int .i64 0,.slice none 0 0,.slice none 0 0,.slice none 0 0,.int .i64 0,.int .i64 0,.int .i64 0,.int .i64 0],.int .i64 5]) (by simp [results,Tryz.results10,go_sem,gz]) rfl ?_
   rw [← HP.out]
   exact ⟨_,(r1,r2),rr,by rw [HRR.out],HCR.out,HFP.out,by rw [HRR.out];exact machV_zero _,HBe.out⟩
  ·have HFC:Hid (∃ k:Nat,∃ h:k<C.c.fns.length,rr=k∧C.c.fns[k].name=sMain):=Lib.hid (by
    rcases HFP.out with ⟨h,_⟩ | ⟨k,hk,h,h1,_⟩
    ·omega
    ·exact ⟨k,hk,h,h1⟩)
   obtain ⟨k,hkl,hrk,hnm⟩:=HFC.out
   clear hnm HFC
   subst hrk
   obtain ⟨f,hf⟩:∃ f,C.c.fns[k]=f:=⟨_,rfl⟩
   have hkl':(k:Int)<(C.c.fns.length:Int):=by omega
   have hk0:(0:Int)≤(k:Int):=by omega
   have hk9:(k:Int)≤40:=by have:=HFL.out;omega
   have hsa:=HCO.out.fns.below HB2.out
   obtain ⟨bF,oF,hAe,_⟩:=hsa.ptr hkl
   rw [hAe] at hsa x2
   have c1:=hsa.cell hkl (j:=1) (v:=.int .i64 f.params) (by rw [hf];rfl)
   have HKF:Hid (C.c.fns[k]? = some f):=Lib.hid (by rw [List.getElem?_eq_getElem hkl,hf])
   obtain ⟨fp,hfp⟩:∃ p,f.params=p:=⟨_,rfl⟩
   rw [hfp] at c1
   have HFPP:=Lib.hid hfp
   have HO2:Hid (∀ ev a b,startO C.c ev a b (r1,0) (k:Int)=(if f.params≠1 then (zeroM,(7:Int)) else if checkF ev≠0 then (zeroM,checkF ev) else if ¬ LimOk a b then (zeroM,2) else (startM f k ev a b,0))):=Lib.hid (fun ev a b=>by
    unfold startO
    rw [if_neg (by simp),if_neg (by omega),Int.toNat_natCast,HKF.out])
   have HAE:=Lib.hid hAe
   clear hsa hf hfp hkl hr0 hAe
   by_cases hp1:fp=1
   ·subst hp1
    go_upto_region 10 with (first
     | (go_at_call 24;(with_reducible refine (HCV.out _ HB2.out).mono ?_);rintro e W3 ⟨rfl,hb3⟩;have HX3:=Lib.hid (HX2.out.below hb3);have HY3:=Lib.hid (HY2.out.below hb3);have HZ3:=Lib.hid (HZ2.out.below hb3);have HB3:=Lib.hid (below_call hb3 HB2.out);have x3:=blk2 HX3.out;have y3':=blk2 HY3.out;clear hb3 x2 c1))
    by_cases hck:ck=0
    ·have HO3:Hid (startO C.c l ls lm (r1,0) (k:Int)=if ¬ LimOk ls lm then (zeroM,2) else (startM f k l ls lm,0)):=Lib.hid (by rw [HO2.out,if_neg (by simp [HFPP.out]),if_neg (by simp [HCK.out,hck])])
     subst hck
     by_cases hlim:LimOk ls lm
     ·have HO4:=Lib.hid (HO3.out.trans (if_neg (fun h=>h hlim)))
      obtain ⟨⟨l1,l2⟩,l3,l4⟩:=hlim
      have n1:¬ ls<1:=by omega
      have n2:¬ 20000<ls:=by omega
      have n3:¬ lm<1:=by omega
      have n4:¬ 4000<lm:=by omega
      clear l1 l2 l3 l4
      have HSF:Hid (FnSmall f):=Lib.hid (HCR.out.small rfl f (List.mem_of_getElem? HKF.out))
      obtain ⟨M,hM⟩:∃ M,countF (enterF ⟨1,0,[],[],[],ls,lm,0,0⟩ k f [l])=M:=⟨_,rfl⟩
      have HMM:=Lib.hid hM
      have HSM:Hid (SmallM M):=Lib.hid (by rw [← hM];exact (small_enter HSF.out.2.1 rfl rfl).count)
      have HO5:Hid (startO C.c l ls lm (r1,0) (k:Int)=(M,0)):=Lib.hid (by rw [HO4.out,← hM];rfl)
      clear hM
      go_upto_region 15 with fail
      obtain ⟨gE,hgE⟩:∃ g,W3.heap.size=g:=⟨_,rfl⟩
      have HXN:=Lib.hid (XM.new_ (ls:=ls) (lm:=lm) (Below.refl W3.heap.size W3) C hT)
      unfold exA at HXN
      rw [HCN.out] at HXN
      have HC3:=Lib.hid (HCO.out.below HB3.out)
      have HGE:=Lib.hid hgE
      obtain ⟨W4,hW4⟩:∃ W4,W3.alloc (.cells #[.slice C.A C.c.fns.length C.ncap,.slice C.B cn C.icap,.int .i64 1,.int .i64 0,.slice none 0 0,.slice none 0 0,.slice none 0 0,.int .i64 ls,.int .i64 lm,.int .i64 0,.int .i64 0] 69)=W4:=⟨_,rfl⟩
      have HB4:Hid (Below w.heap.size w W4):=Lib.hid (by rw [← hW4];exact HB3.out.alloc HB3.out.size _)
      dsimp only at HXN
      rw [hW4,hgE] at HXN
      rw [hW4,hgE]
      have HXM4:Hid (XM W3 C gE W4 ⟨1,0,[],[],[],ls,lm,0,0⟩ (.slice none 0 0) (.slice none 0 0) (.slice none 0 0) [] []):=HXN
      clear hgE hW4 HXN x3 y3' n1 n2 n3 n4
      go_wp2_with (first
       | (go_at_call 26;(with_reducible refine (clone_any l _ _ (HVV.out _ HB4.out)).mono ?_);rintro e W5 ⟨v5,rfl,ho5,hb5⟩;obtain ⟨A5,n5,k5,rfl⟩:=OVal.shape3 ho5;have HXM5:=Lib.hid ((HXM4.out.below hb5).below (below_new W5 (.cells #[.slice A5 n5 k5] 26)));have HVO5:=Lib.hid (valsO_one (OVal.valT ho5 (by have:=HVL.out;omega)) W3.heap.size (HXM4.out.below hb5).p.bel.size);have HFR5:=Lib.hid ((HXM4.out.below hb5).fresh (Nat.le_refl W5.heap.size));clear ho5 hb5)
       | (go_at_call 25;(refine (enter_any HXM5.out HC3.out k f HKF.out HSF.out.2.1 HFL.out _ [l] HVO5.out (by simp) (by simp) (own_fresh HFR5.out)).mono ?_);rintro e W6 ⟨rfl,fv6,LS6,h6⟩;have HXM6:=Lib.hid h6;clear h6)
       | (go_at_call 27;(refine (count_any HXM6.out (small_enter HSF.out.2.1 rfl rfl)).mono ?_);rintro e W7 ⟨rfl,vv7,fv7,LS7,h7⟩;rw [HMM.out] at h7;obtain ⟨A7,n7,k7,rfl⟩:=h7.p.val.shape;obtain ⟨B7,m7,j7,rfl⟩:=XM.fshape h7;have HXM7:=Lib.hid h7;have HZ7:=Lib.hid (HZ3.out.below h7.p.bel);have e7:=blkX h7.p.ex;clear h7)
       | (refine wpList_store_row rfl 37 (.tmp 6) (.tmp 73) rfl (w.heap.size+1+1) #[.int .i64 M.status,.int .i64 M.err,.slice A7 n7 k7,.slice B7 m7 j7,.slice none 0 0,.int .i64 M.lsteps,.int .i64 M.lmem,.int .i64 M.steps,.int .i64 M.peak] rfl rfl 37 _ HZ7.out (by kernel_rfl) rfl (by simp [Value.oneCell']) ?_))
      have HX8:=Lib.hid ((HXM7.out.rebase HB3.out).turnT HZ7.out (grown_setRow W7 (w.heap.size+1+1) #[.int .i64 M.status,.int .i64 M.err,.slice A7 n7 k7,.slice B7 m7 j7,.slice none 0 0,.int .i64 M.lsteps,.int .i64 M.lmem,.int .i64 M.steps,.int .i64 M.peak]) (by omega) (by decide) (by decide) (by decide) (by decide) (by decide))
      have HZ8:=Lib.hid (HZ7.out.setRow (cs':=#[.int .i64 M.status,.int .i64 M.err,.slice A7 n7 k7,.slice B7 m7 j7,.slice none 0 0,.int .i64 M.lsteps,.int .i64 M.lmem,.int .i64 M.steps,.int .i64 M.peak]))
      have gz:=blk9 HZ8.out
      refine bodyPost_ret (v:=.tuple #[machA M (.slice A7 n7 k7) (.slice B7 m7 j7) (.slice none 0 0),.int .i64 0]) (by unfold machA;simp [results,Tryz.results10,go_sem,gz]) rfl ?_
      rw [← HP.out]
      exact ⟨_,(r1,0),k,by rw [HO5.out],HCR.out,HFP.out,by rw [HO5.out];exact HX8.out.mach HSM.out,HX8.out.p.bel⟩
     ·have hor:ls<1∨(1≤ls∧20000<ls)∨(1≤ls∧ls≤20000∧lm<1)∨(1≤ls∧ls≤20000∧1≤lm∧4000<lm):=by unfold LimOk at hlim;omega
      obtain ⟨r2,hr2⟩:∃ r2:Int,r2=0:=⟨0,rfl⟩
      obtain ⟨rr,hrr⟩:∃ rr:Int,rr=(k:Int):=⟨_,rfl⟩
      rw [← hr2] at HCR
      rw [← hrr] at HFP
      have HRR:Hid (startO C.c l ls lm (r1,r2) rr=(zeroM,2)):=Lib.hid (by rw [hr2,hrr,HO3.out,if_pos hlim])
      clear hlim hr2 hrr
      rcases hor with h1 | ⟨h1,h2⟩ | ⟨h1,h2,h3⟩ | ⟨h1,h2,h3,h4⟩
      all_goals
       skip
       have HZe:=Lib.hid (HZ3.out.setRow (cs':=#[.int .i64 0,.int .i64 0,.slice none 0 0,.slice none 0 0,.slice none 0 0,.int .i64 0,.int .i64 0,.int .i64 0,.int .i64 0]))
       have HBe:=Lib.hid (below_setRow HB3.out (show w.heap.size≤w.heap.size+1+1 by omega) #[.int .i64 0,.int .i64 0,.slice none 0 0,.slice none 0 0,.slice none 0 0,.int .i64 0,.int .i64 0,.int .i64 0,.int .i64 0])
       go_wp2_with (first
        | (refine wpList_store_row rfl 37 (.tmp 6) (.tmp 61) rfl (w.heap.size+1+1) #[.int .i64 0,.int .i64 0,.slice none 0 0,.slice none 0 0,.slice none 0 0,.int .i64 0,.int .i64 0,.int .i64 0,.int .i64 0] rfl rfl 37 _ HZ3.out (by kernel_rfl) rfl (by simp [Value.oneCell']) ?_))
       have gz:=blk9 HZe.out
       refine bodyPost_ret (v:=.tuple #[.agg #[.int .i64 0,.int .i64 0,.slice none 0 0,.slice none 0 0,.slice none 0 0,.int .i64 0,.int .i64 0,.int .i64 0,.int .i64 0],.int .i64 2]) (by simp [results,Tryz.results10,go_sem,gz]) rfl ?_
       rw [← HP.out]
       exact ⟨_,(r1,r2),rr,by rw [HRR.out],HCR.out,HFP.out,by rw [HRR.out];exact machV_zero _,HBe.out⟩
    ·obtain ⟨r2,hr2⟩:∃ r2:Int,r2=0:=⟨0,rfl⟩
     obtain ⟨rr,hrr⟩:∃ rr:Int,rr=(k:Int):=⟨_,rfl⟩
     rw [← hr2] at HCR
     rw [← hrr] at HFP
     have hcb:(ck != 0)=true:=by simpa using hck
     have HRR:Hid (startO C.c l ls lm (r1,r2) rr=(zeroM,ck)):=Lib.hid (by rw [hr2,hrr,HO2.out,if_neg (by simp [HFPP.out]),if_pos (by rw [HCK.out];exact hck),HCK.out])
     clear hck hr2 hrr
     skip
     have HZe:=Lib.hid (HZ3.out.setRow (cs':=#[.int .i64 0,.int .i64 0,.slice none 0 0,.slice none 0 0,.slice none 0 0,.int .i64 0,.int .i64 0,.int .i64 0,.int .i64 0]))
     have HBe:=Lib.hid (below_setRow HB3.out (show w.heap.size≤w.heap.size+1+1 by omega) #[.int .i64 0,.int .i64 0,.slice none 0 0,.slice none 0 0,.slice none 0 0,.int .i64 0,.int .i64 0,.int .i64 0,.int .i64 0])
     go_wp2_with (first
      | (refine wpList_store_row rfl 37 (.tmp 6) (.tmp 41) rfl (w.heap.size+1+1) #[.int .i64 0,.int .i64 0,.slice none 0 0,.slice none 0 0,.slice none 0 0,.int .i64 0,.int .i64 0,.int .i64 0,.int .i64 0] rfl rfl 37 _ HZ3.out (by kernel_rfl) rfl (by simp [Value.oneCell']) ?_))
     have gz:=blk9 HZe.out
     refine bodyPost_ret (v:=.tuple #[.agg #[.int .i64 0,.int .i64 0,.slice none 0 0,.slice none 0 0,.slice none 0 0,.int .i64 0,.int .i64 0,.int .i64 0,.int .i64 0],.int .i64 ck]) (by simp [results,Tryz.results10,go_sem,gz]) rfl ?_
     rw [← HP.out]
     exact ⟨_,(r1,r2),rr,by rw [HRR.out],HCR.out,HFP.out,by rw [HRR.out];exact machV_zero _,HBe.out⟩
   ·obtain ⟨r2,hr2⟩:∃ r2:Int,r2=0:=⟨0,rfl⟩
    obtain ⟨rr,hrr⟩:∃ rr:Int,rr=(k:Int):=⟨_,rfl⟩
    rw [← hr2] at HCR
    rw [← hrr] at HFP
    have hcb:(fp != 1)=true:=by simpa using hp1
    have HRR:Hid (startO C.c l ls lm (r1,r2) rr=(zeroM,7)):=Lib.hid (by rw [hr2,hrr,HO2.out,if_pos (by rw [HFPP.out];exact hp1)])
    clear hp1 hr2 hrr
    skip
    have HZe:=Lib.hid (HZ2.out.setRow (cs':=#[.int .i64 0,.int .i64 0,.slice none 0 0,.slice none 0 0,.slice none 0 0,.int .i64 0,.int .i64 0,.int .i64 0,.int .i64 0]))
    have HBe:=Lib.hid (below_setRow HB2.out (show w.heap.size≤w.heap.size+1+1 by omega) #[.int .i64 0,.int .i64 0,.slice none 0 0,.slice none 0 0,.slice none 0 0,.int .i64 0,.int .i64 0,.int .i64 0,.int .i64 0])
    go_wp2_with (first
     | (refine wpList_store_row rfl 37 (.tmp 6) (.tmp 36) rfl (w.heap.size+1+1) #[.int .i64 0,.int .i64 0,.slice none 0 0,.slice none 0 0,.slice none 0 0,.int .i64 0,.int .i64 0,.int .i64 0,.int .i64 0] rfl rfl 37 _ HZ2.out (by kernel_rfl) rfl (by simp [Value.oneCell']) ?_))
    have gz:=blk9 HZe.out
    refine bodyPost_ret (v:=.tuple #[.agg #[.int .i64 0,.int .i64 0,.slice none 0 0,.slice none 0 0,.slice none 0 0,.int .i64 0,.int .i64 0,.int .i64 0,.int .i64 0],.int .i64 7]) (by simp [results,Tryz.results10,go_sem,gz]) rfl ?_
    rw [← HP.out]
    exact ⟨_,(r1,r2),rr,by rw [HRR.out],HCR.out,HFP.out,by rw [HRR.out];exact machV_zero _,HBe.out⟩
 ·obtain ⟨rr,hfp⟩:=FindP.ex C.c.fns sMain
  have HFP:=Lib.hid hfp
  have hrb:(r2 != 0)=true:=by simpa using hr2
  have HRZ:=Lib.hid hr2
  clear hfp hr2
  have HRR:Hid (startO C.c l ls lm (r1,r2) rr=(zeroM,r2)):=Lib.hid (by unfold startO;rw [if_pos HRZ.out])
  have HZe:=Lib.hid (HZ1.out.setRow (cs':=#[.int .i64 0,.int .i64 0,.slice none 0 0,.slice none 0 0,.slice none 0 0,.int .i64 0,.int .i64 0,.int .i64 0,.int .i64 0]))
  have HBe:=Lib.hid (below_setRow HB1.out (show w.heap.size≤w.heap.size+1+1 by omega) #[.int .i64 0,.int .i64 0,.slice none 0 0,.slice none 0 0,.slice none 0 0,.int .i64 0,.int .i64 0,.int .i64 0,.int .i64 0])
  go_wp2_with (first
   | (refine wpList_store_row rfl 37 (.tmp 6) (.tmp 20) rfl (w.heap.size+1+1) #[.int .i64 0,.int .i64 0,.slice none 0 0,.slice none 0 0,.slice none 0 0,.int .i64 0,.int .i64 0,.int .i64 0,.int .i64 0] rfl rfl 37 _ HZ1.out (by kernel_rfl) rfl (by simp [Value.oneCell']) ?_))
  have gz:=blk9 HZe.out
  refine bodyPost_ret (v:=.tuple #[.agg #[.int .i64 0,.int .i64 0,.slice none 0 0,.slice none 0 0,.slice none 0 0,.int .i64 0,.int .i64 0,.int .i64 0,.int .i64 0],.int .i64 r2]) (by simp [results,Tryz.results10,go_sem,gz]) rfl ?_
  rw [← HP.out]
  exact ⟨_,(r1,r2),rr,by rw [HRR.out],HCR.out,HFP.out,by rw [HRR.out];exact machV_zero _,HBe.out⟩
theorem cstart_any (C:CodeS) (v:Value) (l:ValD) (ls lm:Int) (w:World) (hC:CodeV w C) (hl:C.c.fns.length≤40) (hL:C.c.ins.length≤4100) (hn:∀ f∈C.c.fns,f.name.size≤1000) (hok:∀ i∈C.c.ins,InsOk i) (hv:Sent w) (hp:Pow w) (hS:Shaped w) (hV:ValV w v l) (hvl:l.length≤1000000) (hvo:∀ c∈l,okC c) :
  Calls Tryz.prog 10 #[.agg #[.slice C.A C.c.fns.length C.ncap,.slice C.B C.c.ins.length C.icap],v,.agg #[.int .i64 ls,.int .i64 lm]] w fun e w'=>∃ x R r,e=.returned (.tuple #[x,.int .i64 (startO C.c l ls lm R r).2])∧CodeR C.c R∧FindP C.c.fns sMain r∧MachV w' x (startO C.c l ls lm R r).1∧Below w.heap.size w w' :=
 cstart_any0 { C with T:=none } rfl v l ls lm w ⟨hC.fns,hC.ins⟩ hl hL hn hok hv hp hS hV hvl hvo
end
end Go.Proofs.YtmljohbialacfaaGreatDoor
