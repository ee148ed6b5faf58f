/- AK0, AK1, AK2, AK5, AK6 -/
import Derived.Test.YtekdhlfapejijaaGreatDoorPXS
import Derived.Test.YtekdhlfapejijaaGreatDoorPH21
set_option linter.unusedVariables false
set_option linter.unusedSimpArgs false
namespace Go.Proofs.YtekdhlfapejijaaGreatDoor
open Go.RowKit
set_option maxRecDepth 100000
section
def okA:Option OutD × Int→Bool
 | (some o,e)=>decide (e=0) && (!o.done) && decide (o.requests=[⟨ "get".toUTF8,[[sCel "k".toUTF8]]⟩])
 | _=>false
def okB:Option OutD × Int→Bool
 | (some o,e)=>decide (e=0) && o.done && decide (o.err=0) && decide (o.value=[iCel 5])
 | _=>false
theorem run10a:okA (runE P10 [iCel 0] [] 100)=true:=by decide +kernel
theorem run10b:okB (runE P10 [iCel 0] [⟨0,[iCel 4]⟩] 100)=true:=by decide +kernel
theorem okA_of {r:Option OutD × Int} (h:okA r=true) {o:OutD} (ho:r.1=some o):r.2=0∧o.done=false∧o.requests=[⟨ "get".toUTF8,[[sCel "k".toUTF8]]⟩]:=by
 obtain ⟨r1,e⟩:=r
 subst ho
 simpa [okA,and_assoc] using h
theorem okB_of {r:Option OutD × Int} (h:okB r=true) {o:OutD} (ho:r.1=some o):r.2=0∧o.done=true∧o.err=0∧o.value=[iCel 5]:=by
 obtain ⟨r1,e⟩:=r
 subst ho
 simpa [okB,and_assoc] using h
theorem RowsV.prefix_ {α:Type} {lim sz:Nat} {R:World→List Value→α→Prop} {w:World} {A:Option Addr} {n cap:Nat} {l:List α} (h:RowsV lim sz R w (.slice A n cap) l) (k:Nat) (hk:k≤l.length):RowsV lim sz R w (.slice A k cap) (l.take k):=by
 obtain ⟨A',cap',rows,h1,h2,h3,h4,h5,h6⟩:=h
 injection h1 with e1 e2 e3
 subst e1 e2 e3
 have hl:(l.take k).length=k:=by rw [List.length_take];omega
 exact ⟨A,cap,rows.take k,by rw [hl],by omega,by omega,h4.take k,by rw [List.length_take,hl];omega,fun i hi hi'=>by
  rw [List.getElem_take,List.getElem_take]
  exact h6 i _ _⟩
theorem RowsV.len {α:Type} {lim sz:Nat} {R:World→List Value→α→Prop} {w:World} {A:Option Addr} {n cap:Nat} {l:List α} (h:RowsV lim sz R w (.slice A n cap) l):n=l.length:=by
 obtain ⟨A',cap',rows,h1,h2,h3,h4,h5,h6⟩:=h
 injection h1 with e1 e2 e3
theorem smallB_ok {l:ValD} (h:smallB l=true):l.length≤300∧∀ c∈l,c.str.size≤5000:=by
 unfold smallB at h
 simp only [Bool.and_eq_true,decide_eq_true_eq,List.all_eq_true] at h
 exact h
def IntOk (c:CellD):Prop:=(-9223372036854775808≤c.int∧c.int≤9223372036854775807)∧c.n≤9223372036854775807
theorem okV_small {l:ValD} (h:smallB l=true) (hi:∀ c∈l,IntOk c):OkV l:=by
 obtain ⟨h1,h2⟩:=smallB_ok h
 exact ⟨by omega,fun c hc=>⟨by have:=h2 c hc;omega,(hi c hc).1,(hi c hc).2⟩⟩
attribute [local go_sem] cell_alloc_is
set_option maxHeartbeats 4000000 in
theorem integer_h (n:Int) (w:World):Calls Tryz.prog 28 #[.int .i64 n] w fun e w'=>∃ g,e=.returned (.slice (some ⟨g,0,none⟩) 1 1)∧ValV w' (.slice (some ⟨g,0,none⟩) 1 1) [iCel n]∧Below w.heap.size w w':=by
 obtain ⟨P,hP⟩:∃ P:Ending→World→Prop,(fun e w'=>∃ g,e=.returned (.slice (some ⟨g,0,none⟩) 1 1)∧ValV w' (.slice (some ⟨g,0,none⟩) 1 1) [iCel n]∧Below w.heap.size w w')=P:=⟨_,rfl⟩
 rw [hP]
 have HP:=hZz hP
 clear hP
 go_enter Tryz.func28,Tryz.ntmps28
 go_wp2_with (fail)
 rw [← HP.out]
 first
 | exact ⟨_,rfl,val_blk1 (c:=iCel n) (Blk.new _ _ _),below_new _ _⟩
 | exact ⟨_,rfl,val_blk1 (c:=iCel n) (Blk.second _ _ _ _),below_2 _ _ _⟩
end
section
structure TextsOk (p:ProgD):Prop where
 node:∀ n∈p.nodes,n.text.size≤140737488351232∧∀ k∈n.keys,k.size≤140737488351232
 fn:∀ f∈p.funcs,f.name.size≤140737488351232∧∀ s∈f.params,s.size≤140737488351232
theorem KeysV.key {w:World} {A:Option Addr} {n cap:Nat} {l:List ByteArray} (h:KeysV w (.slice A n cap) l) {i:Nat} (hi:i<l.length):∃ b off,A=some ⟨b,off,none⟩∧w.cell? ⟨b,off+i,none⟩=some (.string l[i]):=by
 obtain ⟨A',cap',h1,h2,h3⟩:=h
 injection h1 with e1 e2 e3
 subst e1
 obtain ⟨b,off,rfl,_⟩:=h3.ptr hi
 have:=h3.cell0 hi (v:=.string l[i]) rfl
 rw [Nat.mul_one] at this
 exact ⟨b,off,rfl,this⟩
def NodeSm (n:NodeD):Prop:=n.kids.length≤100∧n.keys.length≤100∧n.text.size≤1000∧∀ k∈n.keys,k.size≤1000
def FuncSm (f:FuncD):Prop:=f.params.length≤100∧f.name.size≤1000∧∀ k∈f.params,k.size≤1000
attribute [local go_sem] cell_alloc_is
set_option maxHeartbeats 8000000 in
theorem smallprog_h (S:ProgS) (w:World) (hS:ProgV w S) (hT:TextsOk S.p):Calls Tryz.prog 22 #[S.val] w fun e w'=>(∃ b,e=.returned (.bool b)∧(b=true→SmallEv S.p))∧Below w.heap.size w w':=by
 obtain ⟨P,hP⟩:∃ P:Ending→World→Prop,(fun e w'=>(∃ b,e=.returned (.bool b)∧(b=true→SmallEv S.p))∧Below w.heap.size w w')=P:=⟨_,rfl⟩
 rw [hP]
 have HP0:Hid (∀ w',Below w.heap.size w w'→P (.returned (.bool false)) w'):=hZz (fun w' h2=>by rw [← hP];exact ⟨⟨false,rfl,fun h=>by cases h⟩,h2⟩)
 have HP1:Hid (∀ w',SmallEv S.p→Below w.heap.size w w'→P (.returned (.bool true)) w'):=hZz (fun w' h h2=>by rw [← hP];exact ⟨⟨true,rfl,fun _=>h⟩,h2⟩)
 obtain ⟨W1,hW1⟩:∃ W,w.alloc (.cells #[.slice S.A S.p.nodes.length S.ncap,.slice S.B S.p.funcs.length S.fcap] 38)=W:=⟨_,rfl⟩
 obtain ⟨g,hg⟩:∃ g,w.heap.size=g:=⟨_,rfl⟩
 have hb1:Below w.heap.size w W1:=by rw [← hW1];exact below_new _ _
 have HB1:=hZz hb1
 have HX1:Hid (Blk W1 g 38 #[.slice S.A S.p.nodes.length S.ncap,.slice S.B S.p.funcs.length S.fcap]):=hZz (by rw [← hW1,← hg];exact Blk.new _ _ _)
 have HS1:=hZz (hS.below hb1)
 have HT:=hZz hT
 unfold ProgS.val
 obtain ⟨nn,hnn⟩:∃ n,S.p.nodes.length=n:=⟨_,rfl⟩
 obtain ⟨nf,hnf⟩:∃ n,S.p.funcs.length=n:=⟨_,rfl⟩
 have HNN:=hZz hnn
 have HNF:=hZz hnf
 rw [hnn,hnf] at hW1 HX1 ⊢
 have HG:=hZz hg
 have HW1:=hZz hW1
 clear hP hS hT hg hW1 hb1 hnn hnf
 go_enter Tryz.func22,Tryz.ntmps22
 go_upto_region 1 with fail
 rw [HG.out,HW1.out]
 clear HG HW1
 have x1:=blk2 HX1.out
 by_cases e1:700<nn
 ·go_wp2_with (fail)
  exact HP0.out _ HB1.out
 by_cases e2:40<nf
 ·go_wp2_with (fail)
  exact HP0.out _ HB1.out
 go_upto_region 3 with (fail)
 go_upto_region 4 with (fail)
 go_loopw [3,4,20] (fun _ _ kv wr=>∃ k:Nat,k≤nn∧kv=.int .i64 k∧wr=W1∧Hid (∀ i (h:i<S.p.nodes.length),i<k→NodeSm S.p.nodes[i])) (fun _ _ kv _=>nn - (intOf kv).toNat)
 case atStart=>exact ⟨0,Nat.zero_le _,rfl,rfl,hZz (fun i h h2=>by omega)⟩
 case round =>
  obtain ⟨k,hk,rfl,rfl,HR⟩:=hrel
  have hk0:(0:Int)≤(k:Int):=by omega
  by_cases hlt:k<nn
  ·have hlt':(k:Int)<(nn:Int):=by omega
   have hkl:k<S.p.nodes.length:=by rw [HNN.out];exact hlt
   obtain ⟨bN,offN,kA,kc,iA,ic,hA,hbN,c0,c1,c2,c3,c4,z1,z2⟩:=node_at HS1.out.nodes hkl
   rw [hA] at x1
   have HM:Hid (NodeSm (S.p.nodes[k])→∀ i (h:i<S.p.nodes.length),i<k+1→NodeSm S.p.nodes[i]):=hZz (fun h1 i h h3=>by
    by_cases e:i=k
    ·subst e;exact h1
    ·exact HR.out i h (by omega))
   have htx:=HT.out.node _ (List.getElem_mem hkl)
   generalize S.p.nodes[k]=nd at c1 c3 c4 z1 HM htx
   obtain ⟨nk,nt,ni,nks,nkd⟩:=nd
   dsimp only at c1 c3 c4 z1 HM htx
   obtain ⟨a,ha⟩:∃ a,nkd.length=a:=⟨_,rfl⟩
   obtain ⟨b,hb⟩:∃ a,nks.length=a:=⟨_,rfl⟩
   have hts:nt.size≤140737488351232:=htx.1
   have HTK:=hZz htx.2
   have HLA:=hZz ha
   have HLB:=hZz hb
   rw [ha] at c4
   rw [hb] at c3 z1
   have HZ:=hZz z1
   clear z1 z2 c0 c2 hA hbN hkl HR ha hb htx
   by_cases h1:100<a
   ·go_wp2_with (fail)
    exact HP0.out _ HB1.out
   by_cases h2:100<b
   ·go_wp2_with (fail)
    exact HP0.out _ HB1.out
   by_cases h3:1000<nt.size
   ·go_wp2_with (fail)
    exact HP0.out _ HB1.out
   have HN:Hid (nkd.length≤100∧nks.length≤100∧nt.size≤1000):=hZz (by rw [HLA.out,HLB.out];omega)
   go_upto_region 8 with (fail)
   go_upto_region 9 with (fail)
   go_loopw [4,58] (fun _ jv wq=>∃ j:Nat,j≤b∧jv=.int .i64 j∧wq=wr∧Hid (∀ s∈nks.take j,s.size≤1000)) (fun _ jv _=>b - (intOf jv).toNat)
   case atStart=>exact ⟨0,Nat.zero_le _,rfl,rfl,hZz (by simp)⟩
   case round =>
    obtain ⟨j,hj,rfl,rfl,HQ⟩:=hrel
    have hj0:(0:Int)≤(j:Int):=by omega
    by_cases hjb:j<b
    ·have hjb':(j:Int)<(b:Int):=by omega
     have hjl:j<nks.length:=by rw [HLB.out];exact hjb
     obtain ⟨bK,oK,hKA,cK⟩:=HZ.out.key hjl
     subst hKA
     have hsz:(nks[j]).size≤140737488351232:=HTK.out _ (List.getElem_mem hjl)
     have HM2:Hid ((nks[j]).size≤1000→∀ s∈nks.take (j+1),s.size≤1000):=hZz (fun h s hs=>by
      rw [List.take_succ_eq_append_getElem hjl] at hs
      rcases List.mem_append.1 hs with hs | hs
      ·exact HQ.out s hs
      ·simp at hs;subst hs;exact h)
     generalize nks[j]=s at cK hsz HM2
     clear hjl
     by_cases h5:1000<s.size
     ·go_wp2_with (fail)
      exact HP0.out _ HB1.out
     go_wp2_with (fail)
     exact ⟨⟨j+1,by omega,by simp,by simp,hZz (HM2.out (by omega))⟩,by simp [intOf];omega⟩
    ·have e9:j=b:=by omega
     subst e9
     have HFN:Hid (∀ s∈nks,s.size≤1000):=hZz (by
      have:=HQ.out
      rw [← HLB.out,List.take_length] at this
      exact this)
     go_wp2_with (fail)
     exact ⟨⟨k+1,by omega,by simp,by simp,hZz (HM.out ⟨HN.out.1,HN.out.2.1,HN.out.2.2,HFN.out⟩)⟩,by simp [intOf];omega⟩
  ·have e9:nn=k:=by omega
   subst e9
   have HN1:Hid (∀ i (h:i<S.p.nodes.length),NodeSm S.p.nodes[i]):=hZz (fun i h=>HR.out i h (by have:=HNN.out;omega))
   clear HR
   go_upto_region 15 with (fail)
   go_upto_region 16 with (fail)
   go_loopw [5,6,77] (fun _ _ kv wq=>∃ k:Nat,k≤nf∧kv=.int .i64 k∧wq=wr∧Hid (∀ i (h:i<S.p.funcs.length),i<k→FuncSm S.p.funcs[i])) (fun _ _ kv _=>nf - (intOf kv).toNat)
   case atStart=>exact ⟨0,Nat.zero_le _,rfl,rfl,hZz (fun i h h2=>by omega)⟩
   case round =>
    obtain ⟨k,hk,rfl,rfl,HR⟩:=hrel
    have hk0:(0:Int)≤(k:Int):=by omega
    by_cases hlt:k<nf
    ·have hlt':(k:Int)<(nf:Int):=by omega
     have hkl:k<S.p.funcs.length:=by rw [HNF.out];exact hlt
     obtain ⟨bF,offF,kA,kc,hA,hbF,c0,c1,c2,z1⟩:=func_at HS1.out.funcs hkl
     rw [hA] at x1
     have HM:Hid (FuncSm (S.p.funcs[k])→∀ i (h:i<S.p.funcs.length),i<k+1→FuncSm S.p.funcs[i]):=hZz (fun h1 i h h3=>by
      by_cases e:i=k
      ·subst e;exact h1
      ·exact HR.out i h (by omega))
     have htx:=HT.out.fn _ (List.getElem_mem hkl)
     generalize S.p.funcs[k]=fd at c0 c1 z1 HM htx
     obtain ⟨fnm,fps,fb⟩:=fd
     dsimp only at c0 c1 z1 HM htx
     obtain ⟨b,hb⟩:∃ a,fps.length=a:=⟨_,rfl⟩
     have hts:fnm.size≤140737488351232:=htx.1
     have HTK:=hZz htx.2
     have HLB:=hZz hb
     rw [hb] at c1 z1
     have HZ:=hZz z1
     clear z1 c2 hA hbF hkl HR hb htx
     by_cases h1:100<b
     ·go_wp2_with (fail)
      exact HP0.out _ HB1.out
     by_cases h2:1000<fnm.size
     ·go_wp2_with (fail)
      exact HP0.out _ HB1.out
     have HN:Hid (fps.length≤100∧fnm.size≤1000):=hZz (by rw [HLB.out];omega)
     go_upto_region 20 with (fail)
     go_upto_region 21 with (fail)
     go_loopw [6,105] (fun _ jv wq=>∃ j:Nat,j≤b∧jv=.int .i64 j∧wq=wr∧Hid (∀ s∈fps.take j,s.size≤1000)) (fun _ jv _=>b - (intOf jv).toNat)
     case atStart=>exact ⟨0,Nat.zero_le _,rfl,rfl,hZz (by simp)⟩
     case round =>
      obtain ⟨j,hj,rfl,rfl,HQ⟩:=hrel
      have hj0:(0:Int)≤(j:Int):=by omega
      by_cases hjb:j<b
      ·have hjb':(j:Int)<(b:Int):=by omega
       have hjl:j<fps.length:=by rw [HLB.out];exact hjb
       obtain ⟨bK,oK,hKA,cK⟩:=HZ.out.key hjl
       subst hKA
       have hsz:(fps[j]).size≤140737488351232:=HTK.out _ (List.getElem_mem hjl)
       have HM2:Hid ((fps[j]).size≤1000→∀ s∈fps.take (j+1),s.size≤1000):=hZz (fun h s hs=>by
        rw [List.take_succ_eq_append_getElem hjl] at hs
        rcases List.mem_append.1 hs with hs | hs
        ·exact HQ.out s hs
        ·simp at hs;subst hs;exact h)
       generalize fps[j]=s at cK hsz HM2
       clear hjl
       by_cases h5:1000<s.size
       ·go_wp2_with (fail)
        exact HP0.out _ HB1.out
       go_wp2_with (fail)
       exact ⟨⟨j+1,by omega,by simp,by simp,hZz (HM2.out (by omega))⟩,by simp [intOf];omega⟩
      ·have e9:j=b:=by omega
       subst e9
       have HFN:Hid (∀ s∈fps,s.size≤1000):=hZz (by
        have:=HQ.out
        rw [← HLB.out,List.take_length] at this
        exact this)
       go_wp2_with (fail)
       exact ⟨⟨k+1,by omega,by simp,by simp,hZz (HM.out ⟨HN.out.1,HN.out.2,HFN.out⟩)⟩,by simp [intOf];omega⟩
    ·have e9:nf=k:=by omega
     subst e9
     have HN2:Hid (∀ i (h:i<S.p.funcs.length),FuncSm S.p.funcs[i]):=hZz (fun i h=>HR.out i h (by have:=HNF.out;omega))
     go_wp2_with (fail)
     exact HP1.out _ ⟨by rw [HNN.out];omega,by rw [HNF.out];omega,fun n hn=>by obtain ⟨i,hi,rfl⟩:=List.getElem_of_mem hn;exact HN1.out i hi,fun f hf=>by obtain ⟨i,hi,rfl⟩:=List.getElem_of_mem hf;exact HN2.out i hi⟩ HB1.out
def smallA (l:List AnsD):Bool:=decide (l.length≤40) && l.all (fun a=>smallB a.value)
set_option maxHeartbeats 4000000 in
theorem smallans_h (l:List AnsD) (A:Option Addr) (n cap:Nat) (w:World) (h:AnsV w (.slice A n cap) l) (hs:∀ a∈l,∀ c∈a.value,c.str.size≤140737488351232) :
  Calls Tryz.prog 23 #[.slice A n cap] w fun e w'=>e=.returned (.bool (smallA l))∧w'=w:=by
 obtain ⟨P,hP⟩:∃ P:Ending→World→Prop,(fun e w'=>e=.returned (.bool (smallA l))∧w'=w)=P:=⟨_,rfl⟩
 rw [hP]
 have HP0:Hid (smallA l=false→P (.returned (.bool false)) w):=hZz (fun h=>by rw [← hP,h];exact ⟨rfl,rfl⟩)
 have HP1:Hid (smallA l=true→P (.returned (.bool true)) w):=hZz (fun h=>by rw [← hP,h];exact ⟨rfl,rfl⟩)
 have hn:n=l.length:=RowsV.len h
 subst hn
 obtain ⟨n,hn⟩:∃ n,l.length=n:=⟨_,rfl⟩
 have HN:=hZz hn
 have HV:=hZz h
 have HS:=hZz hs
 rw [hn]
 clear hP h hs hn
 go_enter Tryz.func23,Tryz.ntmps23
 by_cases e1:40<n
 ·go_wp2_with (fail)
  exact HP0.out (by unfold smallA;simp [HN.out];omega)
 go_upto_region 3 with (fail)
 go_upto_region 4 with (fail)
 go_loop [3,9] (fun _ kv=>∃ k:Nat,k≤n∧kv=.int .i64 k∧Hid (∀ a∈l.take k,smallB a.value=true)) (fun _ kv=>n - (intOf kv).toNat)
 case atStart=>exact ⟨0,Nat.zero_le _,rfl,hZz (by simp)⟩
 case round =>
  obtain ⟨k,hk,rfl,HR⟩:=hrel
  have hk0:(0:Int)≤(k:Int):=by omega
  by_cases hlt:k<n
  ·have hlt':(k:Int)<(n:Int):=by omega
   have hkl:k<l.length:=by rw [HN.out];exact hlt
   obtain ⟨_,_,b,off,v,hA,hb,c0,c1,hv⟩:=ans_cells HV.out hkl
   subst hA
   obtain ⟨sb,hsb⟩:∃ b,smallB (l[k]).value=b:=⟨_,rfl⟩
   have HC:Hid (Calls Tryz.prog 9 #[v] w fun e w'=>e=.returned (.bool sb)∧w'=w):=hZz (by rw [← hsb];exact small_any _ v w hv (HS.out _ (List.getElem_mem hkl)))
   have HSB:=hZz hsb
   have HKL:=hZz hkl
   clear hsb hv hb c0
   cases sb
   ·have HF:Hid (smallA l=false):=hZz (by
     unfold smallA
     rw [Bool.and_eq_false_iff]
     right
     rw [List.all_eq_false]
     exact ⟨l[k]'HKL.out,List.getElem_mem HKL.out,by rw [HSB.out];simp⟩)
    go_wp2_with (go_at_call 9;(with_reducible refine HC.out.mono ?_);rintro e w1 ⟨rfl,hw1⟩;rw [hw1];clear hw1 w1)
    exact HP0.out HF.out
   ·have HM:Hid (∀ a∈l.take (k+1),smallB a.value=true):=hZz (by
     rw [List.take_succ_eq_append_getElem HKL.out]
     intro a ha
     rcases List.mem_append.1 ha with ha | ha
     ·exact HR.out a ha
     ·simp at ha;subst ha;exact HSB.out)
    go_wp2_with (go_at_call 9;(with_reducible refine HC.out.mono ?_);rintro e w1 ⟨rfl,hw1⟩;rw [hw1];clear hw1 w1)
    exact ⟨⟨k+1,by omega,by simp,HM⟩,by simp [intOf];omega⟩
  ·have e9:k=n:=by omega
   subst e9
   have HF:Hid (smallA l=true):=hZz (by
    have:=HR.out
    rw [← HN.out,List.take_length] at this
    unfold smallA
    simp only [Bool.and_eq_true,decide_eq_true_eq,List.all_eq_true]
    exact ⟨by rw [HN.out];omega,this⟩)
   go_wp2_with (fail)
   exact HP1.out HF.out
end
section
def StrAt (w:World) (b off:Nat) (s:ByteArray):Prop:=w.cell? ⟨b,off,none⟩=some (.string s)
theorem StrAt.below {w w':World} {b off:Nat} {s:ByteArray} (h:StrAt w b off s) (hb:Below w.heap.size w w'):StrAt w' b off s:=(hb.cell (World.block_lt_of_cell? w _ h)).trans h
theorem StrAt.ne {w:World} {b off g:Nat} {s:ByteArray} (h:StrAt w b off s) (hB:Blk w g 44 #[.bool false,.int .i64 0,.slice none 0 0,.slice none 0 0]):b≠g:=by
 rintro rfl
 unfold StrAt World.cell? at h
 unfold Blk at hB
 rw [hB] at h
 simp only at h
 match off,h with
 | 0,h=>simp at h
 | 1,h=>simp at h
 | 2,h=>simp at h
 | 3,h=>simp at h
 | n+4,h=>simp at h
theorem StrAt.setRow {w:World} {b off g:Nat} {s:ByteArray} {cs:Array Value} (h:StrAt w b off s) (hB:Blk w g 44 #[.bool false,.int .i64 0,.slice none 0 0,.slice none 0 0]):StrAt (w.setRow g cs) b off s:=by
 have hne:=h.ne hB
 unfold StrAt World.cell? at h ⊢
 rw [setRow_other w g b cs hne]
 exact h
def One (w:World) (b off:Nat) (c:CellD):Prop:=w.cell? ⟨b,off,none⟩=some (.int .i64 c.kind)∧w.cell? ⟨b,off+1,none⟩=some (.int .i64 c.int)∧StrAt w b (off+2) c.str∧w.cell? ⟨b,off+3,none⟩=some (.int .i64 c.n)
theorem One.below {w w':World} {b off:Nat} {c:CellD} (h:One w b off c) (hb:Below w.heap.size w w'):One w' b off c :=
 ⟨(hb.cell (World.block_lt_of_cell? w _ h.1)).trans h.1,(hb.cell (World.block_lt_of_cell? w _ h.2.1)).trans h.2.1,h.2.2.1.below hb,(hb.cell (World.block_lt_of_cell? w _ h.2.2.2)).trans h.2.2.2⟩
theorem One.setRow {w:World} {b off g:Nat} {c:CellD} {cs:Array Value} (h:One w b off c) (hB:Blk w g 44 #[.bool false,.int .i64 0,.slice none 0 0,.slice none 0 0]):One (w.setRow g cs) b off c:=by
 have hne:=h.2.2.1.ne hB
 have e:∀ k,(w.setRow g cs).cell? ⟨b,k,none⟩=w.cell? ⟨b,k,none⟩:=fun k=>by unfold World.cell?;rw [setRow_other w g b cs hne]
 exact ⟨(e _).trans h.1,(e _).trans h.2.1,h.2.2.1.setRow hB,(e _).trans h.2.2.2⟩
theorem One.of {w:World} {A:Option Addr} {n cap:Nat} {c:CellD} (h:ValV w (.slice A n cap) [c]):∃ b off,A=some ⟨b,off,none⟩∧n=1∧1≤cap∧One w b off c:=by
 obtain ⟨A',cap',e,h1,_,hs⟩:=h.at
 injection e with e1 e2 e3
 subst e1 e2 e3
 obtain ⟨b,off,rfl,_⟩:=hs.ptr (n:=0) (by simp)
 have c0:=hs.cell0 (n:=0) (by simp) (v:=.int .i64 c.kind) rfl
 have c1:=hs.cell (n:=0) (by simp) (j:=1) (v:=.int .i64 c.int) rfl
 have c2:=hs.cell (n:=0) (by simp) (j:=2) (v:=.string c.str) rfl
 have c3:=hs.cell (n:=0) (by simp) (j:=3) (v:=.int .i64 c.n) rfl
 simp only [Nat.zero_mul,Nat.add_zero] at c0 c1 c2 c3
 exact ⟨b,off,rfl,rfl,by simpa using h1,c0,c1,c2,c3⟩
theorem One.val {w:World} {b off cap:Nat} {c:CellD} (h:One w b off c) (hc:1≤cap):ValV w (.slice (some ⟨b,off,none⟩) 1 cap) [c]:=by
 refine ⟨_,cap,[c.cells],rfl,by simpa using hc,by simp,?_,rfl,?_⟩
 ·intro i row hi
  have hlt:=World.block_lt_of_cell? w _ h.1
  match i,hi with
  | 0,hi =>
   simp at hi
   subst hi
   refine ⟨b,off,rfl,hlt,fun j v hv=>?_⟩
   match j,hv with
   | 0,hv=>simp [CellD.cells] at hv;subst hv;simpa using h.1
   | 1,hv=>simp [CellD.cells] at hv;subst hv;simpa using h.2.1
   | 2,hv=>simp [CellD.cells] at hv;subst hv;simpa [StrAt] using h.2.2.1
   | 3,hv=>simp [CellD.cells] at hv;subst hv;simpa using h.2.2.2
   | n+4,hv=>simp [CellD.cells] at hv
  | n+1,hi=>simp at hi
 ·intro i hi hi'
  match i,hi,hi' with
  | 0,hi,hi'=>rfl
  | n+1,hi,hi'=>simp at hi
theorem ret1 {w w':World} {r:ResD} {e:Ending} (h:RetR w [] r e w'):∃ A c,e=.returned (.tuple #[.slice A r.1.length c,.int .i64 r.2])∧ValV w' (.slice A r.1.length c) r.1∧Below w.heap.size w w':=by
 obtain ⟨u,rfl,hv,_,hb⟩:=h
 obtain ⟨A,c,rfl,_⟩:=hv.at
 exact ⟨A,c,rfl,hv,hb⟩
theorem okV1 {c:CellD} (h:okC c):OkV [c]:=⟨by simp,fun x hx=>by simp at hx;subst hx;exact h⟩
theorem ans1 {w:World} {g:Nat} {t:TypeId} {e:Int} {v:Value} {l:ValD} (h:Blk w g t #[.int .i64 e,v]) (hv:ValV w v l):AnsV w (.slice (some ⟨g,0,none⟩) 1 1) [⟨e,l⟩]:=by
 refine ⟨_,1,[[.int .i64 e,v]],rfl,by simp,by simp,?_,rfl,?_⟩
 ·intro i row hi
  match i,hi with
  | 0,hi =>
   simp at hi
   subst hi
   refine ⟨g,0,rfl,h.lt,fun j u hu=>?_⟩
   match j,hu with
   | 0,hu=>simp at hu;subst hu;exact h.cell 0 _ rfl
   | 1,hu=>simp at hu;subst hu;exact h.cell 1 _ rfl
   | n+2,hu=>simp at hu
  | n+1,hi=>simp at hi
 ·intro i hi hi'
  match i,hi,hi' with
  | 0,hi,hi'=>exact ⟨v,rfl,hv⟩
  | n+1,hi,hi'=>simp at hi
theorem prog10_small:SmallEv P10:=⟨by decide,by decide,by decide +kernel,by decide +kernel⟩
theorem run_a (w:World) (hp:Pow w) (hm:MaxL w) (hs:Sent w) (A:Option Addr) (nc:Nat) (B:Option Addr) (fc:Nat) (ev:Value) (hP:ProgV w ⟨A,B,nc,fc,P10⟩) (hv:ValV w ev [iCel 0]) :
  Calls Tryz.prog 24 #[.agg #[.slice A 8 nc,.slice B 1 fc],ev,.slice none 0 0,.int .i64 100] w fun e w'=>∃ er vA vn vc b off qc,e=.returned (.tuple #[.agg #[.bool false,.int .i64 er,.slice vA vn vc,.slice (some ⟨b,off,none⟩) 1 qc],.int .i64 0])∧StrAt w' b off ⟨#[103,101,116]⟩∧Below w.heap.size w w':=by
 have h:=run_h ⟨A,B,nc,fc,P10⟩ [iCel 0] ev [] none 0 100 w ⟨hP,hv,RowsV.nil none 0,hp,hm,hs,prog10_small,okV1 ⟨by decide,by decide,by decide⟩,fun a ha=>(by cases ha),by decide⟩
 refine h.mono ?_
 rintro e w' ⟨oo,ov,h1,rfl,⟨vv,qv,rfl,h3,h4⟩,h5,_⟩
 obtain ⟨e2,e3,e4⟩:=okA_of run10a h1
 obtain ⟨vA,vn,vc,rfl⟩:=h3.shape
 obtain ⟨qA,qc,rows,rfl,q1,q2,q3,q4,q5⟩:=h4
 rw [e4] at q4 q5
 have hl:0<rows.length:=by rw [q4];decide
 obtain ⟨b,off,rfl,_⟩:=q3.ptr hl
 obtain ⟨av,hr,_⟩:=q5 0 hl (by decide)
 have c0:=q3.cell0 hl (v:=.string ⟨#[103,101,116]⟩) (by rw [hr];show some (Value.string "get".toUTF8)=_;rw [show "get".toUTF8=(⟨#[103,101,116]⟩:ByteArray) by decide +kernel])
 rw [Nat.zero_mul,Nat.add_zero] at c0
 refine ⟨oo.err,vA,vn,vc,b,off,qc,?_,c0,h5⟩
 rw [e2,e3,e4]
 rfl
theorem run_b (w:World) (hp:Pow w) (hm:MaxL w) (hs:Sent w) (A:Option Addr) (nc:Nat) (B:Option Addr) (fc:Nat) (ev:Value) (g:Nat) (hP:ProgV w ⟨A,B,nc,fc,P10⟩) (hv:ValV w ev [iCel 0]) (ha:AnsV w (.slice (some ⟨g,0,none⟩) 1 1) [⟨0,[iCel 4]⟩]) :
  Calls Tryz.prog 24 #[.agg #[.slice A 8 nc,.slice B 1 fc],ev,.slice (some ⟨g,0,none⟩) 1 1,.int .i64 100] w fun e w'=>∃ b off vc qA qn qc,e=.returned (.tuple #[.agg #[.bool true,.int .i64 0,.slice (some ⟨b,off,none⟩) 1 vc,.slice qA qn qc],.int .i64 0])∧1≤vc∧One w' b off (iCel 5)∧Below w.heap.size w w':=by
 have h:=run_h ⟨A,B,nc,fc,P10⟩ [iCel 0] ev [⟨0,[iCel 4]⟩] (some ⟨g,0,none⟩) 1 100 w ⟨hP,hv,ha,hp,hm,hs,prog10_small,okV1 ⟨by decide,by decide,by decide⟩,fun a ha=>(by simp at ha;subst ha;exact okV1 ⟨by decide,by decide,by decide⟩),by decide⟩
 refine h.mono ?_
 rintro e w' ⟨oo,ov,h1,rfl,⟨vv,qv,rfl,h3,h4⟩,h5,_⟩
 obtain ⟨e2,e3,e4,e5⟩:=okB_of run10b h1
 rw [e5] at h3
 obtain ⟨vA,vn,vc,rfl⟩:=h3.shape
 obtain ⟨b,off,rfl,rfl,hc,ho⟩:=One.of h3
 obtain ⟨qA,qc,rows,rfl,q1,q2,q3,q4,q5⟩:=h4
 refine ⟨b,off,vc,qA,oo.requests.length,qc,?_,hc,ho,h5⟩
 rw [e2,e3,e4]
end
section
theorem ReqsV.prefix_ {w:World} {A:Option Addr} {n cap:Nat} {l:List ReqD} (h:ReqsV w (.slice A n cap) l) (k:Nat) (hk:k≤l.length):ReqsV w (.slice A k cap) (l.take k):=RowsV.prefix_ h k hk
theorem ReqsV.len {w:World} {A:Option Addr} {n cap:Nat} {l:List ReqD} (h:ReqsV w (.slice A n cap) l):n=l.length:=RowsV.len h
attribute [local go_sem] cell_alloc_is
end
section
def OutK (w:World) (o:OutD) (vA:Option Addr) (vn vc:Nat) (qA:Option Addr) (qc:Nat):Prop:=∀ w2,KO w w2→ValV w2 (.slice vA vn vc) o.value∧ReqsV w2 (.slice qA o.requests.length qc) o.requests
theorem OutK.below {w w1:World} {o:OutD} {vA:Option Addr} {vn vc:Nat} {qA:Option Addr} {qc:Nat} (h:OutK w o vA vn vc qA qc) (hb:Below w.heap.size w w1):OutK w1 o vA vn vc qA qc:=fun w2 hk=>h w2 ((KO.of_below hb).trans hk)
theorem OutK.setRow {w:World} {o:OutD} {vA:Option Addr} {vn vc:Nat} {qA:Option Addr} {qc g:Nat} {cs cs':Array Value} (h:OutK w o vA vn vc qA qc) (hB:Blk w g 44 cs):OutK (w.setRow g cs') o vA vn vc qA qc:=fun w2 hk=>h w2 ((KO.row hB cs').trans hk)
def RunK (p:ProgD) (event:ValD) (answers:List AnsD) (fuel:Int) (w:World) (e:Ending) (w':World):Prop :=
 ∃ o vA vn vc qA qc,(runE p event answers fuel).1=some o∧e=.returned (.tuple #[.agg #[.bool o.done,.int .i64 o.err,.slice vA vn vc,.slice qA o.requests.length qc],.int .i64 (runE p event answers fuel).2])∧OutK w' o vA vn vc qA qc∧Below w.heap.size w w'
theorem RunK.of {p:ProgD} {event:ValD} {answers:List AnsD} {fuel:Int} {w w':World} {e:Ending} (h:RunP p event answers fuel w e w'):RunK p event answers fuel w e w':=by
 obtain ⟨o,ov,h1,rfl,⟨vv,qv,rfl,h2,h3⟩,h4,h5⟩:=h
 obtain ⟨vA,vn,vc,rfl⟩:=h2.shape
 obtain ⟨qA,qn,qc,rfl⟩:=h3.shape
 have e:=h3.len
 subst e
 refine ⟨o,vA,vn,vc,qA,qc,h1,rfl,fun w2 hk=>?_,h4⟩
 obtain ⟨vv,qv,e,h6,h7⟩:=h5 w2 hk
 injection e with e
 injection e with e
 injection e with e1 e
 injection e with e2 e
 injection e with e3 e
 injection e with e4 e
 subst e3 e4
 exact ⟨h6,h7⟩
theorem follow_two {p:ProgD} {event:ValD} {answers:List AnsD} {k:Nat} {fuel:Int} (hk:k≤answers.length) (h1:1≤fuel) (h2:fuel≤5000) {a b:OutD} (ha:(runE p event (answers.take k) fuel).1=some a) (hb:(runE p event answers fuel).1=some b) :
  (runE p event (answers.take k) fuel).2=(runE p event answers fuel).2∧((runE p event (answers.take k) fuel).2=0→(a.done=true→a=b)∧(a.done=false→a.requests.length=k+1∧a.requests <+: b.requests∧(b.done=false→b.requests.length=answers.length+1))):=by
 unfold runE at ha hb ⊢
 have f1:¬ (fuel<1∨200000<fuel):=by omega
 by_cases he:(studyF p).err=0
 ·by_cases hv:checkF event=0
  ·simp only [he,hv,f1,ne_eq,not_true_eq_false,if_false] at ha hb ⊢
   exact ⟨trivial,fun _=>answers_law he hv answers hk _ ha hb⟩
  ·simp only [he,hv,ne_eq,not_true_eq_false,not_false_eq_true,if_false,if_true] at ha hb ⊢
   exact ⟨trivial,fun h=>h.elim⟩
 ·simp only [he,ne_eq,not_false_eq_true,if_true] at ha hb ⊢
  exact ⟨trivial,fun h=>h.elim⟩
attribute [local go_sem] cell_alloc_is
set_option maxHeartbeats 16000000 in
theorem follow_h (S:ProgS) (event:ValD) (vA:Option Addr) (vn vc:Nat) (answers:List AnsD) (aA:Option Addr) (ac:Nat) (fuel kk:Int) (w:World) (hS:ProgV w S) (hev:ValV w (.slice vA vn vc) event) (han:AnsV w (.slice aA answers.length ac) answers) (hp:Pow w) (hm:MaxL w) (hs:Sent w) (hT:TextsOk S.p)
  (hes:∀ c∈event,c.str.size≤140737488351232) (hei:∀ c∈event,IntOk c) (has:∀ a∈answers,∀ c∈a.value,c.str.size≤140737488351232) (hai:∀ a∈answers,∀ c∈a.value,IntOk c)
  (hA:∀ wx,Below w.heap.size w wx→Calls Tryz.prog 10 #[] wx fun r w'=>r=.returned (.bool true)∧Below wx.heap.size wx w') :
  Calls Tryz.prog 7 #[S.val,.slice vA vn vc,.slice aA answers.length ac,.int .i64 fuel,.int .i64 kk] w fun r w'=>r=.returned (.bool true)∧Below w.heap.size w w':=by
 obtain ⟨P,hP⟩:∃ P:Ending→World→Prop,(fun r w'=>r=.returned (.bool true)∧Below w.heap.size w w')=P:=⟨_,rfl⟩
 rw [hP]
 have HP:Hid (∀ w',Below w.heap.size w w'→P (.returned (.bool true)) w'):=hZz (fun w' h2=>by rw [← hP];exact ⟨rfl,h2⟩)
 obtain ⟨W1,hW1⟩:∃ W,w.alloc (.cells #[.slice S.A S.p.nodes.length S.ncap,.slice S.B S.p.funcs.length S.fcap] 38)=W:=⟨_,rfl⟩
 obtain ⟨g,hg⟩:∃ g,w.heap.size=g:=⟨_,rfl⟩
 have hb1:Below w.heap.size w W1:=by rw [← hW1];exact below_new _ _
 have HB1:=hZz hb1
 have HX1:Hid (Blk W1 g 38 #[.slice S.A S.p.nodes.length S.ncap,.slice S.B S.p.funcs.length S.fcap]):=hZz (by rw [← hW1,← hg];exact Blk.new _ _ _)
 obtain ⟨tv,htv⟩:∃ t,smallB event=t:=⟨_,rfl⟩
 obtain ⟨ta,hta⟩:∃ t,smallA answers=t:=⟨_,rfl⟩
 have HCAP:Hid (answers.length≤ac):=hZz (by
  obtain ⟨_,c,_,e,hc,_⟩:=han
  injection e with _ _ e
  subst e
  exact hc)
 have HSP:Hid (∀ wx,Below w.heap.size w wx→Calls Tryz.prog 22 #[S.val] wx fun e w'=>(∃ b,e=.returned (.bool b)∧(b=true→SmallEv S.p))∧Below wx.heap.size wx w'):=hZz (fun wx hb=>smallprog_h S wx (hS.below hb) hT)
 have HSV:Hid (∀ wx,Below w.heap.size w wx→Calls Tryz.prog 9 #[.slice vA vn vc] wx fun e w'=>e=.returned (.bool tv)∧w'=wx):=hZz (fun wx hb=>by rw [← htv];exact small_any event _ wx (hev.below hb) hes)
 have HSA:Hid (∀ wx,Below w.heap.size w wx→Calls Tryz.prog 23 #[.slice aA answers.length ac] wx fun e w'=>e=.returned (.bool ta)∧w'=wx):=hZz (fun wx hb=>by rw [← hta];exact smallans_h answers _ _ _ wx (han.below hb) has)
 have HRN:Hid (SmallEv S.p→tv=true→ta=true→∀ (k:Nat) wx,k≤answers.length→Below w.heap.size w wx→Calls Tryz.prog 24 #[S.val,.slice vA vn vc,.slice aA k ac,.int .i64 fuel] wx (RunK S.p event (answers.take k) fuel wx)):=hZz (fun h1 h2 h3 k wx hk hb=>by
  have ha:=hta.trans h3
  unfold smallA at ha
  simp only [Bool.and_eq_true,decide_eq_true_eq,List.all_eq_true] at ha
  have hl:(answers.take k).length=k:=by rw [List.length_take];omega
  have hpre:AnsV wx (.slice aA k ac) (answers.take k):=RowsV.prefix_ (han.below hb) k hk
  have:=run_h S event (.slice vA vn vc) (answers.take k) aA ac fuel wx ⟨hS.below hb,hev.below hb,by rw [hl];exact hpre,hp.below hb,hm.below hb,hs.below hb,h1,okV_small (htv.trans h2) hei,fun a hm=>okV_small (ha.2 a (List.mem_of_mem_take hm)) (hai a (List.mem_of_mem_take hm)),by rw [hl];omega⟩
  rw [hl] at this
  exact this.mono fun e w' h=>RunK.of h)
 have HNB0:Hid (ta=true→answers.length≤40):=hZz (fun h=>by
  have ha:=hta.trans h
  unfold smallA at ha
  simp only [Bool.and_eq_true,decide_eq_true_eq] at ha
  exact ha.1)
 have HA:=hZz hA
 unfold ProgS.val at HSP HRN ⊢
 obtain ⟨SA,SB,nc,fc,p⟩:=S
 dsimp only at HSP HRN HX1 hW1 ⊢
 obtain ⟨nn,hnn⟩:∃ n,p.nodes.length=n:=⟨_,rfl⟩
 obtain ⟨nf,hnf⟩:∃ n,p.funcs.length=n:=⟨_,rfl⟩
 obtain ⟨na,hna⟩:∃ n,answers.length=n:=⟨_,rfl⟩
 rw [hnn,hnf] at HSP HRN HX1 hW1 ⊢
 rw [hna] at HSA HRN HCAP HNB0 ⊢
 have HNA:=hZz hna
 have HG:=hZz hg
 have HW1:=hZz hW1
 clear hP hS hev han hp hm hs hT hes hei has hai hA hg hW1 hb1 htv hta hnn hnf hna
 go_enter Tryz.func7,Tryz.ntmps7
 go_upto_region 1 with fail
 rw [HG.out,HW1.out]
 clear HG HW1
 have x1:=blk2 HX1.out
 by_cases c1:fuel<1∨5000<fuel∨kk<0∨(na:Int)<kk
 ·have cc:(decide (fuel<1)=true)∨(decide (fuel<1)=false∧decide (5000<fuel)=true)∨(decide (fuel<1)=false∧decide (5000<fuel)=false∧decide (kk<0)=true)∨(decide (fuel<1)=false∧decide (5000<fuel)=false∧decide (kk<0)=false∧decide ((na:Int)<kk)=true):=by
   by_cases h1:fuel<1
   ·exact .inl (decide_eq_true h1)
   ·by_cases h2:5000<fuel
    ·exact .inr (.inl ⟨decide_eq_false h1,decide_eq_true h2⟩)
    ·by_cases h3:kk<0
     ·exact .inr (.inr (.inl ⟨decide_eq_false h1,decide_eq_false h2,decide_eq_true h3⟩))
     ·exact .inr (.inr (.inr ⟨decide_eq_false h1,decide_eq_false h2,decide_eq_false h3,decide_eq_true (by omega)⟩))
  clear c1
  rcases cc with d1 | ⟨d1,d2⟩ | ⟨d1,d2,d3⟩ | ⟨d1,d2,d3,d4⟩
  all_goals
   cases tv <;> cases ta
   all_goals
    go_wp2_with (first
     | (go_at_call 22;(with_reducible refine (HSP.out _ HB1.out).mono ?_);rintro r w2 ⟨⟨b,rfl,hb⟩,hb2⟩;have HB12:=hZz hb2;have HB2:=hZz (below_call' hb2 HB1.out HB1.out.size);have HSM:=hZz hb;clear hb2 hb;cases b)
     | (go_at_call 9;(with_reducible refine (HSV.out _ HB2.out).mono ?_);rintro r w3 ⟨rfl,hw3⟩;rw [hw3];clear hw3 w3)
     | (go_at_call 23;(with_reducible refine (HSA.out _ HB2.out).mono ?_);rintro r w3 ⟨rfl,hw3⟩;rw [hw3];clear hw3 w3)
     | (go_at_call 10;(with_reducible refine (HA.out _ HB2.out).mono ?_);rintro r w9 ⟨rfl,hb9⟩;have HB9:=hZz (below_call' hb9 HB2.out HB2.out.size);clear hb9))
    all_goals exact HP.out _ HB9.out
 have d1:decide (fuel<1)=false:=decide_eq_false (by omega)
 have d2:decide (5000<fuel)=false:=decide_eq_false (by omega)
 obtain ⟨k,rfl⟩:∃ k:Nat,kk=(k:Int):=⟨kk.toNat,by omega⟩
 have hk0:(0:Int)≤(k:Int):=by omega
 have hkn:(k:Int)≤(na:Int):=by omega
 have d3:decide ((k:Int)<0)=false:=decide_eq_false (by omega)
 have d4:decide (na<k)=false:=decide_eq_false (by omega)
 have d5:decide ((na:Int)<(k:Int))=false:=decide_eq_false (by omega)
 have HC:Hid (k≤na∧1≤fuel∧fuel≤5000):=hZz (by omega)
 clear c1
 cases tv with
 | false =>
  go_wp2_with (first
   | (go_at_call 22;(with_reducible refine (HSP.out _ HB1.out).mono ?_);rintro r w2 ⟨⟨b,rfl,hb⟩,hb2⟩;have HB12:=hZz hb2;have HB2:=hZz (below_call' hb2 HB1.out HB1.out.size);have HSM:=hZz hb;clear hb2 hb;cases b)
   | (go_at_call 9;(with_reducible refine (HSV.out _ HB2.out).mono ?_);rintro r w3 ⟨rfl,hw3⟩;rw [hw3];clear hw3 w3)
   | (go_at_call 23;(with_reducible refine (HSA.out _ HB2.out).mono ?_);rintro r w3 ⟨rfl,hw3⟩;rw [hw3];clear hw3 w3)
   | (go_at_call 10;(with_reducible refine (HA.out _ HB2.out).mono ?_);rintro r w9 ⟨rfl,hb9⟩;have HB9:=hZz (below_call' hb9 HB2.out HB2.out.size);clear hb9))
  all_goals exact HP.out _ HB9.out
 | true =>
  cases ta with
  | false =>
   go_wp2_with (first
    | (go_at_call 22;(with_reducible refine (HSP.out _ HB1.out).mono ?_);rintro r w2 ⟨⟨b,rfl,hb⟩,hb2⟩;have HB12:=hZz hb2;have HB2:=hZz (below_call' hb2 HB1.out HB1.out.size);have HSM:=hZz hb;clear hb2 hb;cases b)
    | (go_at_call 9;(with_reducible refine (HSV.out _ HB2.out).mono ?_);rintro r w3 ⟨rfl,hw3⟩;rw [hw3];clear hw3 w3)
    | (go_at_call 23;(with_reducible refine (HSA.out _ HB2.out).mono ?_);rintro r w3 ⟨rfl,hw3⟩;rw [hw3];clear hw3 w3)
    | (go_at_call 10;(with_reducible refine (HA.out _ HB2.out).mono ?_);rintro r w9 ⟨rfl,hb9⟩;have HB9:=hZz (below_call' hb9 HB2.out HB2.out.size);clear hb9))
   all_goals exact HP.out _ HB9.out
  | true =>
   go_upto_region 3 with (first
    | (go_at_call 22;(with_reducible refine (HSP.out _ HB1.out).mono ?_);rintro r w2 ⟨⟨b,rfl,hb⟩,hb2⟩;have HB12:=hZz hb2;have HB2:=hZz (below_call' hb2 HB1.out HB1.out.size);have HSM:=hZz hb;clear hb2 hb;cases b)
    | (go_at_call 9;(with_reducible refine (HSV.out _ HB2.out).mono ?_);rintro r w3 ⟨rfl,hw3⟩;rw [hw3];clear hw3 w3)
    | (go_at_call 23;(with_reducible refine (HSA.out _ HB2.out).mono ?_);rintro r w3 ⟨rfl,hw3⟩;rw [hw3];clear hw3 w3)
    | (go_at_call 10;(with_reducible refine (HA.out _ HB2.out).mono ?_);rintro r w9 ⟨rfl,hb9⟩;have HB9:=hZz (below_call' hb9 HB2.out HB2.out.size);clear hb9))
   ·try go_wp2_with (fail)
    exact HP.out _ HB9.out
   have HRR:=hZz (HRN.out (HSM.out (by trivial)) (by trivial) (by trivial))
   have HNB:=hZz (HNB0.out (by trivial))
   have HX2:=hZz (HX1.out.below HB12.out)
   obtain ⟨e1,he1⟩:∃ e,(runE p event (answers.take k) fuel).2=e:=⟨_,rfl⟩
   have HR1:Hid (∀ wx,Below w.heap.size w wx→Calls Tryz.prog 24 #[.agg #[.slice SA nn nc,.slice SB nf fc],.slice vA vn vc,.slice aA k ac,.int .i64 fuel] wx fun e w'=>∃ o vA vn vc qA qc,(runE p event (answers.take k) fuel).1=some o∧e=.returned (.tuple #[.agg #[.bool o.done,.int .i64 o.err,.slice vA vn vc,.slice qA o.requests.length qc],.int .i64 e1])∧OutK w' o vA vn vc qA qc∧Below wx.heap.size wx w'):=hZz (fun wx hb=>by
    have:=HRR.out k wx HC.out.1 hb
    unfold RunK at this
    rw [he1] at this
    exact this)
   have HE1:=hZz he1
   have hkc:k≤ac:=by have:=HC.out.1;have:=HCAP.out;omega
   have hkc':(k:Int)≤(ac:Int):=by omega
   clear x1 he1
   have HSPC:Hid (∀ w',Below w2.heap.size w2 w'→w'.cell? ⟨g,0,none⟩=some (.slice SA nn nc)∧w'.cell? ⟨g,1,none⟩=some (.slice SB nf fc)):=hZz (fun w' hb=>blk2 (HX2.out.below hb))
   have HB_0:=hZz (below_drew w2)
   go_cut [11,12] from 49 to 57 (fun u v wx=>∃ g o4 zA4 zn4 zc4 yA4 yc4,u=.pointer (some ⟨g,0,none⟩)∧v=.int .i64 e1∧Below w2.heap.size w2 wx∧Blk wx g 44 #[.bool o4.done,.int .i64 o4.err,.slice zA4 zn4 zc4,.slice yA4 o4.requests.length yc4]∧(runE p event (answers.take k) fuel).1=some o4∧OutK wx o4 zA4 zn4 zc4 yA4 yc4)
   case first =>
    refine wp_region_held_drew (S:=fun w'=>w'.cell? ⟨g,0,none⟩=some (.slice SA nn nc)∧w'.cell? ⟨g,1,none⟩=some (.slice SB nf fc)) (by kernel_rfl) (HSPC.out _ HB_0.out) (fun hHeld=>?_)
    obtain ⟨WD,hWD⟩:∃ W,w2.drew=W:=⟨_,rfl⟩
    rw [hWD] at HB_0 hHeld ⊢
    clear hWD
    refine wpAnyH_take (i:=0) (oi:=_) (v:=.agg #[.slice SA nn nc,.slice SB nf fc]) rfl (by kernel_rfl) (by kernel_rfl) (by kernel_rfl) (fun _ _ _ h=>h) (Or.inl ⟨by rfl,by intro w hSw;(try dsimp only at hSw);go_simp⟩) (by assumption) ?_
    simp only [List.getElem_toArray,List.getElem_cons_succ,List.getElem_cons_zero,Act.put,List.setIfInBounds_toArray,List.set_cons_zero,List.set_cons_succ]
    refine wpAnyH_take (i:=1) (oi:=_) (v:=.slice vA vn vc) rfl (by kernel_rfl) (by kernel_rfl) (by kernel_rfl) (fun _ _ _ h=>h) (Or.inl ⟨by rfl,by intro w hSw;(try dsimp only at hSw);go_simp⟩) (by assumption) ?_
    simp only [List.getElem_toArray,List.getElem_cons_succ,List.getElem_cons_zero,Act.put,List.setIfInBounds_toArray,List.set_cons_zero,List.set_cons_succ]
    refine wpAnyH_take (i:=2) (oi:=_) (v:=.slice aA na ac) rfl (by kernel_rfl) (by kernel_rfl) (by kernel_rfl) (fun _ _ _ h=>h) (Or.inl ⟨by rfl,by intro w hSw;(try dsimp only at hSw);go_simp⟩) (by assumption) ?_
    simp only [List.getElem_toArray,List.getElem_cons_succ,List.getElem_cons_zero,Act.put,List.setIfInBounds_toArray,List.set_cons_zero,List.set_cons_succ]
    refine wpAnyH_take (i:=3) (oi:=_) (v:=.int .i64 (k:Int)) rfl (by kernel_rfl) (by kernel_rfl) (by kernel_rfl) (fun _ _ _ h=>h) (Or.inl ⟨by rfl,by intro w hSw;(try dsimp only at hSw);go_simp⟩) (by assumption) ?_
    simp only [List.getElem_toArray,List.getElem_cons_succ,List.getElem_cons_zero,Act.put,List.setIfInBounds_toArray,List.set_cons_zero,List.set_cons_succ]
    refine wpAnyH_take (i:=4) (oi:=_) (v:=.slice aA k ac) rfl (by kernel_rfl) (by kernel_rfl) (by kernel_rfl) (fun _ _ _ h=>h) (Or.inl ⟨by rfl,by intro w hSw;(try dsimp only at hSw);go_simp⟩) (by assumption) ?_
    simp only [List.getElem_toArray,List.getElem_cons_succ,List.getElem_cons_zero,Act.put,List.setIfInBounds_toArray,List.set_cons_zero,List.set_cons_succ]
    refine wpAnyH_take (i:=5) (oi:=_) (v:=.int .i64 fuel) rfl (by kernel_rfl) (by kernel_rfl) (by kernel_rfl) (fun _ _ _ h=>h) (Or.inl ⟨by rfl,by intro w hSw;(try dsimp only at hSw);go_simp⟩) (by assumption) ?_
    simp only [List.getElem_toArray,List.getElem_cons_succ,List.getElem_cons_zero,Act.put,List.setIfInBounds_toArray,List.set_cons_zero,List.set_cons_succ]
    refine wpAnyH_ready (rs:=[6,10]) (by kernel_rfl) (by simp) ?_
    refine AllReadyH.cons (o:=_) rfl (fun K hK=>?_) ?_
    ·go_simp
     refine (HR1.out _ (below_call' HB_0.out HB2.out HB2.out.size)).mono ?_
     rintro r9 Wq2 ⟨o4,zA4,zn4,zc4,yA4,yc4,ho9,rfl,hq9,hb9⟩
     have HO4:=hZz ho9
     have HB_rq1:=hZz (below_call' hb9 HB_0.out HB_0.out.size)
     have HQ_rq1:=hZz hq9
     clear hq9 hb9 ho9
     go_wp2_with fail
     refine hK.out _ _ (HSPC.out _ HB_rq1.out) (fun hHeld=>?_)
     clear hK K
     try simp only [List.getElem_toArray,List.getElem_cons_succ,List.getElem_cons_zero,Act.put,List.setIfInBounds_toArray,List.set_cons_zero,List.set_cons_succ]
     refine wpAnyH_take (i:=7) (oi:=_) (v:=.tuple #[.agg #[.bool o4.done,.int .i64 o4.err,.slice zA4 zn4 zc4,.slice yA4 o4.requests.length yc4],.int .i64 e1]) rfl (by kernel_rfl) (by kernel_rfl) (by kernel_rfl) (fun _ _ _ h=>h) (Or.inl ⟨by rfl,by intro w hSw;(try dsimp only at hSw);go_simp⟩) (by assumption) ?_
     simp only [List.getElem_toArray,List.getElem_cons_succ,List.getElem_cons_zero,Act.put,List.setIfInBounds_toArray,List.set_cons_zero,List.set_cons_succ]
     refine wpAnyH_take (i:=8) (oi:=_) (v:=.agg #[.bool o4.done,.int .i64 o4.err,.slice zA4 zn4 zc4,.slice yA4 o4.requests.length yc4]) rfl (by kernel_rfl) (by kernel_rfl) (by kernel_rfl) (fun _ _ _ h=>h) (Or.inl ⟨by rfl,by intro w hSw;(try dsimp only at hSw);go_simp⟩) (by assumption) ?_
     simp only [List.getElem_toArray,List.getElem_cons_succ,List.getElem_cons_zero,Act.put,List.setIfInBounds_toArray,List.set_cons_zero,List.set_cons_succ]
     refine wpAnyH_take (i:=9) (oi:=_) (v:=.int .i64 e1) rfl (by kernel_rfl) (by kernel_rfl) (by kernel_rfl) (fun _ _ _ h=>h) (Or.inl ⟨by rfl,by intro w hSw;(try dsimp only at hSw);go_simp⟩) (by assumption) ?_
     simp only [List.getElem_toArray,List.getElem_cons_succ,List.getElem_cons_zero,Act.put,List.setIfInBounds_toArray,List.set_cons_zero,List.set_cons_succ]
     refine wpAnyH_ready (rs:=[10]) (by kernel_rfl) (by simp) ?_
     refine AllReadyH.cons (o:=_) rfl (fun K hK=>?_) AllReadyH.nil
     go_simp
     have HB_aq3:=hZz (HB_rq1.out.alloc HB_rq1.out.size (.cells #[.bool false,.int .i64 0,.slice none 0 0,.slice none 0 0] 44))
     have HQ_aq3:=hZz (HQ_rq1.out.below (below_new Wq2 (.cells #[.bool false,.int .i64 0,.slice none 0 0,.slice none 0 0] 44)))
     have HM_aq3:=hZz (Blk.new Wq2 44 #[.bool false,.int .i64 0,.slice none 0 0,.slice none 0 0])
     refine hK.out _ _ (HSPC.out _ HB_aq3.out) (fun hHeld=>?_)
     clear hK K
     try simp only [List.getElem_toArray,List.getElem_cons_succ,List.getElem_cons_zero,Act.put,List.setIfInBounds_toArray,List.set_cons_zero,List.set_cons_succ]
     obtain ⟨gq4,hgq4⟩:∃ g,Wq2.heap.size=g:=⟨_,rfl⟩
     have Hgq4:=hZz hgq4
     have HGE_gq4:Hid (w2.heap.size≤gq4):=hZz (by rw [← Hgq4.out];exact HB_rq1.out.size)
     obtain ⟨Wq5,hWq5⟩:∃ W,Wq2.alloc (.cells #[.bool false,.int .i64 0,.slice none 0 0,.slice none 0 0] 44)=W:=⟨_,rfl⟩
     rw [hWq5] at HB_aq3 HQ_aq3 HM_aq3 hHeld ⊢
     rw [hgq4] at HM_aq3
     try rw [hgq4]
     have hhgq4:=HB_aq3.out.size
     clear hWq5 hgq4 hhgq4
     refine wpAnyH_ready (rs:=[11]) (by kernel_rfl) (by simp) ?_
     refine AllReadyH.cons (o:=_) rfl (fun K hK=>?_) AllReadyH.nil
     rw [if_pos (by rfl)]
     refine wp_store_row _ _ _ rfl gq4 #[.bool o4.done,.int .i64 o4.err,.slice zA4 zn4 zc4,.slice yA4 o4.requests.length yc4] rfl rfl 44 _ HM_aq3.out (by kernel_rfl) rfl (by simp [Value.oneCell']) ?_
     have HB_sq6:=hZz (below_setRow HB_aq3.out HGE_gq4.out #[.bool o4.done,.int .i64 o4.err,.slice zA4 zn4 zc4,.slice yA4 o4.requests.length yc4])
     have HM_sq6:=hZz (HM_aq3.out.setRow (cs':=#[.bool o4.done,.int .i64 o4.err,.slice zA4 zn4 zc4,.slice yA4 o4.requests.length yc4]))
     have HQ_sq6:=hZz (HQ_aq3.out.setRow (cs':=#[.bool o4.done,.int .i64 o4.err,.slice zA4 zn4 zc4,.slice yA4 o4.requests.length yc4]) HM_aq3.out)
     refine hK.out _ _ (HSPC.out _ HB_sq6.out) (fun hHeld=>?_)
     clear hK K
     try simp only [List.getElem_toArray,List.getElem_cons_succ,List.getElem_cons_zero,Act.put,List.setIfInBounds_toArray,List.set_cons_zero,List.set_cons_succ]
     refine wpAnyH_take (i:=12) (oi:=_) (v:=.int .i64 e1) rfl (by kernel_rfl) (by kernel_rfl) (by kernel_rfl) (fun _ _ _ h=>h) (Or.inl ⟨by rfl,by intro w hSw;(try dsimp only at hSw);go_simp⟩) (by assumption) ?_
     simp only [List.getElem_toArray,List.getElem_cons_succ,List.getElem_cons_zero,Act.put,List.setIfInBounds_toArray,List.set_cons_zero,List.set_cons_succ]
     refine wpAnyH_done (by kernel_rfl) ?_ _
     try dsimp only [List.getElem_toArray,List.getElem_cons_succ,List.getElem_cons_zero,Act.put]
     go_wp2_with fail
     go_meet
     exact ⟨gq4,o4,zA4,zn4,zc4,yA4,yc4,rfl,rfl,HB_sq6.out,HM_sq6.out,HO4.out,HQ_sq6.out⟩
    refine AllReadyH.cons (o:=_) rfl (fun K hK=>?_) AllReadyH.nil
    go_simp
    have HB_aq7:=hZz (HB_0.out.alloc HB_0.out.size (.cells #[.bool false,.int .i64 0,.slice none 0 0,.slice none 0 0] 44))
    have HM_aq7:=hZz (Blk.new WD 44 #[.bool false,.int .i64 0,.slice none 0 0,.slice none 0 0])
    refine hK.out _ _ (HSPC.out _ HB_aq7.out) (fun hHeld=>?_)
    clear hK K
    try simp only [List.getElem_toArray,List.getElem_cons_succ,List.getElem_cons_zero,Act.put,List.setIfInBounds_toArray,List.set_cons_zero,List.set_cons_succ]
    obtain ⟨gq8,hgq8⟩:∃ g,WD.heap.size=g:=⟨_,rfl⟩
    have Hgq8:=hZz hgq8
    have HGE_gq8:Hid (w2.heap.size≤gq8):=hZz (by rw [← Hgq8.out];exact HB_0.out.size)
    obtain ⟨Wq9,hWq9⟩:∃ W,WD.alloc (.cells #[.bool false,.int .i64 0,.slice none 0 0,.slice none 0 0] 44)=W:=⟨_,rfl⟩
    rw [hWq9] at HB_aq7 HM_aq7 hHeld ⊢
    rw [hgq8] at HM_aq7
    try rw [hgq8]
    have hhgq8:=HB_aq7.out.size
    clear hWq9 hgq8 hhgq8
    refine wpAnyH_ready (rs:=[6]) (by kernel_rfl) (by simp) ?_
    refine AllReadyH.cons (o:=_) rfl (fun K hK=>?_) AllReadyH.nil
    go_simp
    refine (HR1.out _ (below_call' HB_aq7.out HB2.out HB2.out.size)).mono ?_
    rintro r9 Wq11 ⟨o4,zA4,zn4,zc4,yA4,yc4,ho9,rfl,hq9,hb9⟩
    have HO4:=hZz ho9
    have HB_rq10:=hZz (below_call' hb9 HB_aq7.out HB_aq7.out.size)
    have HM_rq10:=hZz (HM_aq7.out.below hb9)
    have HQ_rq10:=hZz hq9
    clear hq9 hb9 ho9
    go_wp2_with fail
    refine hK.out _ _ (HSPC.out _ HB_rq10.out) (fun hHeld=>?_)
    clear hK K
    try simp only [List.getElem_toArray,List.getElem_cons_succ,List.getElem_cons_zero,Act.put,List.setIfInBounds_toArray,List.set_cons_zero,List.set_cons_succ]
    refine wpAnyH_take (i:=7) (oi:=_) (v:=.tuple #[.agg #[.bool o4.done,.int .i64 o4.err,.slice zA4 zn4 zc4,.slice yA4 o4.requests.length yc4],.int .i64 e1]) rfl (by kernel_rfl) (by kernel_rfl) (by kernel_rfl) (fun _ _ _ h=>h) (Or.inl ⟨by rfl,by intro w hSw;(try dsimp only at hSw);go_simp⟩) (by assumption) ?_
    simp only [List.getElem_toArray,List.getElem_cons_succ,List.getElem_cons_zero,Act.put,List.setIfInBounds_toArray,List.set_cons_zero,List.set_cons_succ]
    refine wpAnyH_take (i:=8) (oi:=_) (v:=.agg #[.bool o4.done,.int .i64 o4.err,.slice zA4 zn4 zc4,.slice yA4 o4.requests.length yc4]) rfl (by kernel_rfl) (by kernel_rfl) (by kernel_rfl) (fun _ _ _ h=>h) (Or.inl ⟨by rfl,by intro w hSw;(try dsimp only at hSw);go_simp⟩) (by assumption) ?_
    simp only [List.getElem_toArray,List.getElem_cons_succ,List.getElem_cons_zero,Act.put,List.setIfInBounds_toArray,List.set_cons_zero,List.set_cons_succ]
    refine wpAnyH_take (i:=9) (oi:=_) (v:=.int .i64 e1) rfl (by kernel_rfl) (by kernel_rfl) (by kernel_rfl) (fun _ _ _ h=>h) (Or.inl ⟨by rfl,by intro w hSw;(try dsimp only at hSw);go_simp⟩) (by assumption) ?_
    simp only [List.getElem_toArray,List.getElem_cons_succ,List.getElem_cons_zero,Act.put,List.setIfInBounds_toArray,List.set_cons_zero,List.set_cons_succ]
    refine wpAnyH_ready (rs:=[11]) (by kernel_rfl) (by simp) ?_
    refine AllReadyH.cons (o:=_) rfl (fun K hK=>?_) AllReadyH.nil
    rw [if_pos (by rfl)]
    refine wp_store_row _ _ _ rfl gq8 #[.bool o4.done,.int .i64 o4.err,.slice zA4 zn4 zc4,.slice yA4 o4.requests.length yc4] rfl rfl 44 _ HM_rq10.out (by kernel_rfl) rfl (by simp [Value.oneCell']) ?_
    have HB_sq12:=hZz (below_setRow HB_rq10.out HGE_gq8.out #[.bool o4.done,.int .i64 o4.err,.slice zA4 zn4 zc4,.slice yA4 o4.requests.length yc4])
    have HM_sq12:=hZz (HM_rq10.out.setRow (cs':=#[.bool o4.done,.int .i64 o4.err,.slice zA4 zn4 zc4,.slice yA4 o4.requests.length yc4]))
    have HQ_sq12:=hZz (HQ_rq10.out.setRow (cs':=#[.bool o4.done,.int .i64 o4.err,.slice zA4 zn4 zc4,.slice yA4 o4.requests.length yc4]) HM_rq10.out)
    refine hK.out _ _ (HSPC.out _ HB_sq12.out) (fun hHeld=>?_)
    clear hK K
    try simp only [List.getElem_toArray,List.getElem_cons_succ,List.getElem_cons_zero,Act.put,List.setIfInBounds_toArray,List.set_cons_zero,List.set_cons_succ]
    refine wpAnyH_take (i:=12) (oi:=_) (v:=.int .i64 e1) rfl (by kernel_rfl) (by kernel_rfl) (by kernel_rfl) (fun _ _ _ h=>h) (Or.inl ⟨by rfl,by intro w hSw;(try dsimp only at hSw);go_simp⟩) (by assumption) ?_
    simp only [List.getElem_toArray,List.getElem_cons_succ,List.getElem_cons_zero,Act.put,List.setIfInBounds_toArray,List.set_cons_zero,List.set_cons_succ]
    refine wpAnyH_done (by kernel_rfl) ?_ _
    try dsimp only [List.getElem_toArray,List.getElem_cons_succ,List.getElem_cons_zero,Act.put]
    go_wp2_with fail
    go_meet
    exact ⟨gq8,o4,zA4,zn4,zc4,yA4,yc4,rfl,rfl,HB_sq12.out,HM_sq12.out,HO4.out,HQ_sq12.out⟩
   case rest =>
    obtain ⟨gA,o4,zA4,zn4,zc4,yA4,yc4,rfl,rfl,hb5,hy4,ho4,hk4⟩:=hcut
    obtain ⟨W5,hW5⟩:∃ W,wc=W:=⟨_,rfl⟩
    have HY4:=hZz hy4
    have HO4:=hZz ho4
    have HK4:=hZz hk4
    have HS5:=hZz hb5
    have HW5:=hZz (below_call' hb5 HB2.out HB2.out.size)
    have HX5:=hZz (HX2.out.below hb5)
    rw [hW5] at HY4 HK4 HS5 HW5 HX5 ⊢
    clear hb5 hy4 ho4 hk4 hW5
    have x5:=blk2 HX5.out
    obtain ⟨e2,he2⟩:∃ e,(runE p event answers fuel).2=e:=⟨_,rfl⟩
    have HE2:=hZz he2
    have HR2:Hid (Calls Tryz.prog 24 #[.agg #[.slice SA nn nc,.slice SB nf fc],.slice vA vn vc,.slice aA na ac,.int .i64 fuel] W5 fun e w'=>∃ o vA vn vc qA qc,(runE p event answers fuel).1=some o∧e=.returned (.tuple #[.agg #[.bool o.done,.int .i64 o.err,.slice vA vn vc,.slice qA o.requests.length qc],.int .i64 e2])∧OutK w' o vA vn vc qA qc∧Below W5.heap.size W5 w'):=hZz (by
     have:=HRR.out na W5 (Nat.le_refl _) HW5.out
     rw [List.take_of_length_le (Nat.le_of_eq HNA.out)] at this
     unfold RunK at this
     rw [he2] at this
     exact this)
    clear he2
    go_upto_region 5 with (first
     | (go_at_call 24;(with_reducible refine HR2.out.mono ?_);rintro r w6 ⟨o6,zA6,zn6,zc6,yA6,yc6,ho6,rfl,hk6,hb6⟩;have HO6:=hZz ho6;have HK6:=hZz hk6;have HS6:=hZz hb6;have HB6:=hZz (below_call' hb6 HW5.out HW5.out.size);clear ho6 hk6 hb6))
    obtain ⟨gB,hgB⟩:∃ g,w6.heap.size=g:=⟨_,rfl⟩
    obtain ⟨W7,hW7⟩:∃ W,w6.alloc (.cells #[.bool o6.done,.int .i64 o6.err,.slice zA6 zn6 zc6,.slice yA6 o6.requests.length yc6] 44)=W:=⟨_,rfl⟩
    have hb7:Below w6.heap.size w6 W7:=by rw [← hW7];exact below_new _ _
    have HW7:=hZz (below_call' hb7 HB6.out HB6.out.size)
    have HY6:Hid (Blk W7 gB 44 #[.bool o6.done,.int .i64 o6.err,.slice zA6 zn6 zc6,.slice yA6 o6.requests.length yc6]):=hZz (by rw [← hW7,← hgB];exact Blk.new _ _ _)
    have HY47:=hZz ((HY4.out.below HS6.out).below hb7)
    have HV6:=hZz (((HK6.out.below hb7) W7 (KO.refl _)))
    have HV4:=hZz ((((HK4.out.below HS6.out).below hb7) W7 (KO.refl _)))
    rw [hgB,hW7]
    clear hgB hW7 hb7 x5
    obtain ⟨ee,hlaw⟩:=follow_two (by rw [HNA.out];exact HC.out.1) HC.out.2.1 HC.out.2.2 HO4.out HO6.out
    rw [HE1.out,HE2.out] at ee
    subst ee
    rw [HE1.out,HNA.out] at hlaw
    have HLW:=hZz hlaw
    clear hlaw
    by_cases h0:e1=0
    rotate_left
    ·have h0':(e1 != 0)=true:=by simpa using h0
     have he:(e1 != e1)=false:=by simp
     go_wp2_with (first
      | (go_at_call 10;(with_reducible refine (HA.out _ HW7.out).mono ?_);rintro r w9 ⟨rfl,hb9⟩;have HB9:=hZz (below_call' hb9 HW7.out HW7.out.size);clear hb9))
     exact HP.out _ HB9.out
    obtain ⟨h1,h2⟩:=HLW.out h0
    subst h0
    have HL1:=hZz h1
    have HL2:=hZz h2
    clear h1 h2 HLW
    obtain ⟨d4,er4,v4,q4⟩:=o4
    obtain ⟨d6,er6,v6,q6⟩:=o6
    dsimp only at HY4 HY6 HY47 HV4 HV6 HL1 HL2 ⊢
    have y4:=blk4 HY47.out
    have y6:=blk4 HY6.out
    cases d4 with
    | true =>
     have hEQ:=HL1.out rfl
     have HSM2:Hid (∀ wx,Below W7.heap.size W7 wx→Calls Tryz.prog 26 #[.agg #[.bool true,.int .i64 er4,.slice zA4 zn4 zc4,.slice yA4 q4.length yc4],.agg #[.bool d6,.int .i64 er6,.slice zA6 zn6 zc6,.slice yA6 q6.length yc6]] wx fun e w'=>e=.returned (.bool true)∧Below wx.heap.size wx w'):=hZz (fun wx hb=>by
      injection hEQ with e1 e2 e3 e4
      subst e1 e2 e3 e4
      exact osame_any ⟨true,er4,v4,q4⟩ _ _ wx ⟨_,_,rfl,HV4.out.1.below hb,HV4.out.2.below hb⟩ ⟨_,_,rfl,HV6.out.1.below hb,HV6.out.2.below hb⟩)
     have HBZ:=hZz (Below.refl W7.heap.size W7)
     clear hEQ HL1 HL2
     go_wp2_with (first
      | (go_at_call 26;(with_reducible refine (HSM2.out _ HBZ.out).mono ?_);rintro r w8 ⟨rfl,hb8⟩;have HB8:=hZz (below_call' hb8 HW7.out HW7.out.size);clear hb8)
      | (go_at_call 10;(with_reducible refine (HA.out _ HB8.out).mono ?_);rintro r w9 ⟨rfl,hb9⟩;have HB9:=hZz (below_call' hb9 HB8.out HB8.out.size);clear hb9))
     exact HP.out _ HB9.out
    | false =>
     obtain ⟨hl4,hpre,hb9⟩:=HL2.out rfl
     have hle:=hpre.length_le
     have htk:q6.take q4.length=q4:=(List.prefix_iff_eq_take.1 hpre).symm
     have HPQ:Hid (∀ wx,Below W7.heap.size W7 wx→Calls Tryz.prog 27 #[.slice yA4 q4.length yc4,.slice yA6 q4.length yc6] wx fun e w'=>e=.returned (.bool true)∧∃ q,w'=wx.drewN q):=hZz (fun wx hb=>by
      have h2:=HV6.out.2.prefix_ q4.length hle
      rw [htk] at h2
      have:=sreq_any q4 q4 _ _ wx (HV4.out.2.below hb) (h2.below hb)
      rw [show eqQs q4 q4=true by simp [eqQs]] at this
      exact this)
     obtain ⟨_,c6,rows6,e6,hcap,_⟩:=HV6.out.2
     have hcap6:q4.length≤yc6:=by injection e6 with _ _ e6;subst e6;omega
     have HL6':Hid (d6=true∨(d6=false∧((q6.length:Nat):Int)=(na:Int)+1)):=hZz (by
      cases d6
      ·exact .inr ⟨rfl,by have:=hb9 rfl;omega⟩
      ·exact .inl rfl)
     obtain ⟨l4,hl4'⟩:∃ n,q4.length=n:=⟨_,rfl⟩
     obtain ⟨l6,hl6⟩:∃ n,q6.length=n:=⟨_,rfl⟩
     have HLA:=hZz hl4'
     have HLB:=hZz hl6
     rw [hl4',hl6] at hle
     rw [hl4'] at y4 hcap6 HPQ hl4
     rw [hl6] at y6 HL6'
     have hle':(l4:Int)≤(l6:Int):=by omega
     have hna40:IntKind.i64.wrap ((na:Int)+1)=(na:Int)+1:=by
      have:=HNB.out
      exact IntWalk.i64_in _ (by omega)
     have hw1:IntKind.i64.wrap ((k:Int)+1)=(k:Int)+1:=by
      have:=HNB.out
      exact IntWalk.i64_in _ (by omega)
     have hd1:((l4:Int) != (k:Int)+1)=false:=by simp;omega
     have hd2:decide ((l6:Int)<(l4:Int))=false:=decide_eq_false (by omega)
     have hd3:decide (l6<l4)=false:=decide_eq_false (by omega)
     have HSQ:Hid (∀ w',Below W7.heap.size W7 w'→w'.cell? ⟨gA,3,none⟩=some (.slice yA4 l4 yc4)∧w'.cell? ⟨gB,3,none⟩=some (.slice yA6 l6 yc6)):=hZz (fun w' hb=>by
      have a:=(blk4 (HY47.out.below hb)).2.2.2
      have b:=(blk4 (HY6.out.below hb)).2.2.2
      rw [HLA.out] at a
      rw [HLB.out] at b
      exact ⟨a,b⟩)
     clear hpre htk hl4 hl4' hl6 e6 hcap hb9 HL1 HL2
     go_upto_region 12 with (fail)
     have HD0:=hZz (below_drew W7)
     clear y4 y6
     go_region_held3 (fun w'=>w'.cell? ⟨gA,3,none⟩=some (.slice yA4 l4 yc4)∧w'.cell? ⟨gB,3,none⟩=some (.slice yA6 l6 yc6)) (first | with_reducible exact HSQ.out _ HD0.out | with_reducible exact HSQ.out _ HB8.out) (first
      | (go_at_call 27;(with_reducible refine (HPQ.out _ HD0.out).mono ?_);rintro r w8 ⟨rfl,q8,hw8⟩;have HB8:=hZz (show Below W7.heap.size W7 w8 by rw [hw8];exact below_drewN (below_drew W7) _);clear hw8))
     have y6:=blk4 (HY6.out.below HB8.out)
     rw [HLB.out] at y6
     have HBW8:=hZz (below_call' HB8.out HW7.out HW7.out.size)
     rcases HL6'.out with h9 | ⟨h9,h10⟩
     ·subst h9
      go_wp2_with (first
       | (go_at_call 10;(with_reducible refine (HA.out _ HBW8.out).mono ?_);rintro r w9 ⟨rfl,hb9⟩;have HB9:=hZz (below_call' hb9 HBW8.out HBW8.out.size);clear hb9))
      exact HP.out _ HB9.out
     ·subst h9
      have h11:((l6:Int) == (na:Int)+1)=true:=by simp;omega
      go_wp2_with (first
       | (go_at_call 10;(with_reducible refine (HA.out _ HBW8.out).mono ?_);rintro r w9 ⟨rfl,hb9⟩;have HB9:=hZz (below_call' hb9 HBW8.out HBW8.out.size);clear hb9))
      exact HP.out _ HB9.out
end
end Go.Proofs.YtekdhlfapejijaaGreatDoor
