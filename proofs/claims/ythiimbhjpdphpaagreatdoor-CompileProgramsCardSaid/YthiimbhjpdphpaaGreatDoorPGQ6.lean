/- GQ6 -/
import Derived.Test.YthiimbhjpdphpaaGreatDoorPGK8
import Derived.Test.YthiimbhjpdphpaaGreatDoorPL7
set_option linter.unusedVariables false
set_option linter.unusedSimpArgs false
namespace Go.Proofs.YthiimbhjpdphpaaGreatDoor
open Go.RowKit
set_option maxRecDepth 100000
open Go.Proofs.Tryz
section
theorem fnsF_drop (c:CodeD) (k:Nat) (e:Int) (h:k<c.fns.length):open Classical in fnsF c (c.fns.drop k) k e =
  if ¬ NameOk c.fns[k].name∨(∃ j,j<k∧(c.fns[j]?.map FnD.name)=some c.fns[k].name) then (((k:Nat):Int),(4:Int))
  else if ¬ ((0≤c.fns[k].params∧c.fns[k].params≤8)∧(c.fns[k].params≤c.fns[k].locals∧c.fns[k].locals≤32)) then (((k:Nat):Int),(2:Int))
  else if c.fns[k].entry≠e∨c.fns[k].fin≤c.fns[k].entry∨(c.ins.length:Nat)<c.fns[k].fin then (((k:Nat):Int),(11:Int))
  else fnsF c (c.fns.drop (k+1)) (k+1) c.fns[k].fin:=by
 rw [List.drop_eq_getElem_cons h];rfl
theorem find_lt {l:List FnD} {k:Nat} (hk:k<l.length) {r:Int} (h:FindP l l[k].name r):r<k↔∃ j,j<k∧(l[j]?.map FnD.name)=some l[k].name:=by
 rcases h with ⟨rfl,h1⟩ | ⟨m,hm,rfl,h1,h2⟩
 ·exact absurd rfl (h1 k hk)
 ·constructor
  ·intro hlt
   have hmk:m<k:=by omega
   exact ⟨m,hmk,by rw [List.getElem?_eq_getElem hm];simp [h1]⟩
  ·rintro ⟨j,hj,e⟩
   have hjl:j<l.length:=by omega
   rw [List.getElem?_eq_getElem hjl] at e;simp at e
   by_cases hc:j<m
   ·exact absurd e (h2 j hc)
   ·omega
theorem in_dec (n lo hi:Int) (w:World):Calls prog 95 #[.int .i64 n,.int .i64 lo,.int .i64 hi] w fun e w'=>e=.returned (.bool (decide (lo≤n∧n≤hi)))∧w'=w:=by
 refine (in_any n lo hi w).mono ?_
 rintro e w' ⟨⟨b,rfl,hb⟩,hw⟩;refine ⟨?_,hw⟩
 have:b=decide (lo≤n∧n≤hi):=by rw [Bool.eq_iff_iff,hb];simp
 rw [this]
attribute [local go_sem] zabZ
set_option maxHeartbeats 16000000 in
theorem functions_any (c:CodeD) (A B:Option Addr) (ncap icap:Nat) (w:World) (hl:c.fns.length≤40) (hL:c.ins.length≤4100) (hn:∀ f∈c.fns,f.name.size≤1000) (hv:Sent w) (hF:SlAt w A 5 FnD.cells c.fns) :
  Calls prog 60 #[.agg #[.slice A c.fns.length ncap,.slice B c.ins.length icap]] w fun e w'=>e=.returned (.tuple #[.int .i64 (fnsF c c.fns 0 0).1,.int .i64 (fnsF c c.fns 0 0).2])∧Below w.heap.size w w':=by
 obtain ⟨R,hR⟩:∃ R,fnsF c c.fns 0 0=R:=⟨_,rfl⟩
 rw [hR];have HR:=hZz hR;obtain ⟨P,hP⟩:∃ P:Ending→World→Prop,(fun e w'=>e=.returned (.tuple #[.int .i64 R.1,.int .i64 R.2])∧Below w.heap.size w w')=P:=⟨_,rfl⟩
 rw [hP];have HP:=hZz hP;have HF:=hZz hF;have HV:=hZz hv;have HNS:=hZz hn;obtain ⟨L,hLe⟩:∃ L,c.ins.length=L:=⟨_,rfl⟩
 have HLE:=hZz hLe;rw [hLe] at hL ⊢;have hL0:(0:Int)≤(L:Int):=by omega
 have hL9:(L:Int)≤4100:=by omega
 have HX:=hZz (Blk.new w 31 #[.slice A c.fns.length ncap,.slice B L icap]);have HB0:=hZz (zacZ w (.cells #[.slice A c.fns.length ncap,.slice B L icap] 31));clear hR hP hF hv hn hLe;go_enter func60,ntmps60
 go_wp2_with (fail)
 go_loopw [4,10] (fun ev iv wr=>∃ (k:Nat) (e:Int),k≤c.fns.length∧iv=.int .i64 k∧ev=.int .i64 e∧Hid (fnsF c (c.fns.drop k) k e=R)∧Hid (Blk wr w.heap.size 31 #[.slice A c.fns.length ncap,.slice B L icap])∧Hid (Below w.heap.size w wr)) (fun _ iv _=>c.fns.length - (intOf iv).toNat)
 case atStart=>exact ⟨0,0,Nat.zero_le _,rfl,rfl,hZz HR.out,HX,HB0⟩
 case round =>
  obtain ⟨k,e,hk,rfl,rfl,HE,HXR,HB⟩:=hrel;have hk0:(0:Int)≤(k:Int):=by omega
  have b0:=blk2 HXR.out;by_cases hlt:k<c.fns.length
  ·have hlt':(k:Int)<(c.fns.length:Int):=by omega
   have hk9:(k:Int)≤40:=by omega
   have HE2:=hZz ((fnsF_drop c k e hlt).symm.trans HE.out);have hsa:=HF.out.below HB.out;obtain ⟨b,off,rfl,_⟩:=hsa.ptr hlt;obtain ⟨f,hf⟩:∃ f,c.fns[k]=f:=⟨_,rfl⟩
   have c0:=hsa.cell0 hlt (v:=.string f.name) (by rw [hf];rfl);have c1:=hsa.cell hlt (j:=1) (v:=.int .i64 f.params) (by rw [hf];rfl);have c2:=hsa.cell hlt (j:=2) (v:=.int .i64 f.locals) (by rw [hf];rfl);have c3:=hsa.cell hlt (j:=3) (v:=.int .i64 f.entry) (by rw [hf];rfl);have c4:=hsa.cell hlt (j:=4) (v:=.int .i64 f.fin) (by rw [hf];rfl);have HFL:Hid (∀ r,FindP c.fns f.name r→(r<k↔∃ j,j<k∧(c.fns[j]?.map FnD.name)=some f.name)):=hZz (fun r hr=>by rw [← hf] at hr ⊢;exact find_lt hlt hr);have HNZ:=hZz (HNS.out f (hf ▸ List.getElem_mem hlt));rw [hf] at HE2;obtain ⟨name,params,locals,entry,fin⟩:=f;dsimp only at c0 c1 c2 c3 c4 HE2 HFL HNZ;have HY:=hZz (Blk.new wr 50 #[.string name,.int .i64 params,.int .i64 locals,.int .i64 entry,.int .i64 fin]);have HB1:=hZz (HB.out.alloc HB.out.size (.cells #[.string name,.int .i64 params,.int .i64 locals,.int .i64 entry,.int .i64 fin] 50));have HX1:=hZz (HXR.out.alloc (.cells #[.string name,.int .i64 params,.int .i64 locals,.int .i64 entry,.int .i64 fin] 50));obtain ⟨p1,hp1⟩:∃ p,decide (0≤params∧params≤8)=p:=⟨_,rfl⟩
   obtain ⟨p2,hp2⟩:∃ p,decide (params≤locals∧locals≤32)=p:=⟨_,rfl⟩
   have HI1:Hid (∀ wx,Calls prog 95 #[.int .i64 params,.int .i64 0,.int .i64 8] wx fun e w'=>e=.returned (.bool p1)∧w'=wx):=hZz (fun wx=>by rw [← hp1];exact in_dec _ _ _ wx);have HI2:Hid (∀ wx,Calls prog 95 #[.int .i64 locals,.int .i64 params,.int .i64 32] wx fun e w'=>e=.returned (.bool p2)∧w'=wx):=hZz (fun wx=>by rw [← hp2];exact in_dec _ _ _ wx);have HP1:=hZz hp1;have HP2:=hZz hp2;clear hsa hf hp1 hp2
   go_upto_region 7 with (first
    | (go_at_call 93;(with_reducible refine (name_any _ _ (by have:=HNZ.out;omega) (HV.out.below HB1.out)).mono ?_);rintro e1 w1 ⟨⟨b1,rfl,hb⟩,hb1⟩;have HQ1:=hZz hb;have HB2:=hZz (zaaZ hb1 HB1.out HB1.out.size);have HX2:=hZz (HX1.out.below hb1);have HY2:=hZz (HY.out.below hb1);have y2:=blk5 HY2.out;have x2:=blk2 HX2.out;clear hb hb1;cases b1)
    | (go_at_call 94;(with_reducible refine (cfind_any c.fns _ B ncap L icap name _ hl (HF.out.below HB2.out)).mono ?_);rintro e2 w2 ⟨⟨r,rfl,hr⟩,hb2⟩;have HQ2:=hZz (HFL.out r hr);have HB3:=hZz (zaaZ hb2 HB2.out HB2.out.size);have HX3:=hZz (HX2.out.below hb2);have HY3:=hZz (HY2.out.below hb2);clear y2 x2;have y3:=blk5 HY3.out;have x3:=blk2 HX3.out;clear hr hb2))
   ·have HRR:Hid (R=(((k:Nat):Int),(4:Int))):=hZz (by rw [← HE2.out,if_pos (.inl (fun h=>by have:=HQ1.out.2 h;cases this))])
    go_wp2_with (fail)
    rw [← HP.out];exact ⟨by rw [HRR.out];rfl,HB2.out⟩
   ·have HRR:Hid (R=(((k:Nat):Int),(4:Int))):=hZz (by rw [← HE2.out,if_pos (.inr (HQ2.out.1 (by assumption)))])
    try go_wp2_with (fail)
    rw [← HP.out];exact ⟨by rw [HRR.out];rfl,HB3.out⟩
   ·have hnr:¬ r<(k:Int):=by omega
    have HE3:=hZz ((if_neg (fun h=>by
     rcases h with h | h
     ·exact h (HQ1.out.1 (by trivial))
     ·exact hnr (HQ2.out.2 h))).symm.trans HE2.out)
    clear HE2 hnr
    have HG:Hid (p1=true→p2=true→(if entry≠e∨fin≤entry∨(c.ins.length:Nat)<fin then (((k:Nat):Int),(11:Int)) else fnsF c (c.fns.drop (k+1)) (k+1) fin)=R):=hZz (fun h1 h2=>by
     rw [h1] at HP1;rw [h2] at HP2;exact (if_neg (fun h=>h ⟨of_decide_eq_true HP1.out,of_decide_eq_true HP2.out⟩)).symm.trans HE3.out)
    have HN:Hid (p1=false∨p2=false→R=(((k:Nat):Int),(2:Int))):=hZz (fun h=>by
     rw [← HE3.out,if_pos];rintro ⟨h1,h2⟩;rcases h with h | h
     ·rw [h] at HP1;exact absurd h1 (of_decide_eq_false HP1.out)
     ·rw [h] at HP2;exact absurd h2 (of_decide_eq_false HP2.out))
    clear HE3 HP1 HP2;by_cases hp:p1=true∧p2=true
    ·obtain ⟨rfl,rfl⟩:=hp
     have HG2:=hZz (HG.out rfl rfl);clear HG HN;by_cases g1:entry=e
     ·by_cases g2:fin≤entry
      ·have HRR:Hid (R=(((k:Nat):Int),(11:Int))):=hZz (by rw [← HG2.out,if_pos (.inr (.inl g2))])
       have g1':(entry != e)=false:=by simpa using g1
       clear g1
       go_wp2_with (first
        | (go_at_call 95;(with_reducible refine (HI1.out _).mono ?_);rintro e3 w3 ⟨rfl,hw3⟩;rw [hw3];clear hw3 w3)
        | (go_at_call 95;(with_reducible refine (HI2.out _).mono ?_);rintro e3 w3 ⟨rfl,hw3⟩;rw [hw3];clear hw3 w3))
       rw [← HP.out];exact ⟨by rw [HRR.out];rfl,HB3.out⟩
      ·by_cases g3:(L:Int)<fin
       ·have HRR:Hid (R=(((k:Nat):Int),(11:Int))):=hZz (by rw [← HG2.out,if_pos (.inr (.inr (by rw [HLE.out];exact g3)))])
        have g1':(entry != e)=false:=by simpa using g1
        clear g1
        go_wp2_with (first
         | (go_at_call 95;(with_reducible refine (HI1.out _).mono ?_);rintro e3 w3 ⟨rfl,hw3⟩;rw [hw3];clear hw3 w3)
         | (go_at_call 95;(with_reducible refine (HI2.out _).mono ?_);rintro e3 w3 ⟨rfl,hw3⟩;rw [hw3];clear hw3 w3))
        rw [← HP.out];exact ⟨by rw [HRR.out];rfl,HB3.out⟩
       ·have HNX:Hid (fnsF c (c.fns.drop (k+1)) (k+1) fin=R):=hZz (by rw [← HG2.out,if_neg (by rw [HLE.out];rintro (h | h | h);exact h g1;exact g2 h;exact g3 h)])
        have g1':(entry != e)=false:=by simpa using g1
        clear g1
        go_wp2_with (first
         | (go_at_call 95;(with_reducible refine (HI1.out _).mono ?_);rintro e3 w3 ⟨rfl,hw3⟩;rw [hw3];clear hw3 w3)
         | (go_at_call 95;(with_reducible refine (HI2.out _).mono ?_);rintro e3 w3 ⟨rfl,hw3⟩;rw [hw3];clear hw3 w3))
        exact ⟨⟨k+1,fin,by omega,by simp,rfl,HNX,HX3,HB3⟩,by simp [intOf];omega⟩
     ·have HRR:Hid (R=(((k:Nat):Int),(11:Int))):=hZz (by rw [← HG2.out,if_pos (.inl g1)])
      have g1':(entry != e)=true:=by simpa using g1
      clear g1
      go_wp2_with (first
       | (go_at_call 95;(with_reducible refine (HI1.out _).mono ?_);rintro e3 w3 ⟨rfl,hw3⟩;rw [hw3];clear hw3 w3)
       | (go_at_call 95;(with_reducible refine (HI2.out _).mono ?_);rintro e3 w3 ⟨rfl,hw3⟩;rw [hw3];clear hw3 w3))
      rw [← HP.out];exact ⟨by rw [HRR.out];rfl,HB3.out⟩
    ·cases p1 with
     | false =>
      have HRR:Hid (R=(((k:Nat):Int),(2:Int))):=hZz (HN.out (.inl rfl));clear hp HN HG
      go_wp2_with (first
       | (go_at_call 95;(with_reducible refine (HI1.out _).mono ?_);rintro e3 w3 ⟨rfl,hw3⟩;rw [hw3];clear hw3 w3)
       | (go_at_call 95;(with_reducible refine (HI2.out _).mono ?_);rintro e3 w3 ⟨rfl,hw3⟩;rw [hw3];clear hw3 w3))
      rw [← HP.out];exact ⟨by rw [HRR.out];rfl,HB3.out⟩
     | true =>
      cases p2 with
      | false =>
       have HRR:Hid (R=(((k:Nat):Int),(2:Int))):=hZz (HN.out (.inr rfl));clear hp HN HG
       go_wp2_with (first
        | (go_at_call 95;(with_reducible refine (HI1.out _).mono ?_);rintro e3 w3 ⟨rfl,hw3⟩;rw [hw3];clear hw3 w3)
        | (go_at_call 95;(with_reducible refine (HI2.out _).mono ?_);rintro e3 w3 ⟨rfl,hw3⟩;rw [hw3];clear hw3 w3))
       rw [← HP.out];exact ⟨by rw [HRR.out];rfl,HB3.out⟩
      | true=>exact absurd ⟨rfl,rfl⟩ hp
  ·have ek:k=c.fns.length:=by omega
   subst ek;have HE2:Hid ((if e≠(L:Nat) then (((c.fns.length:Nat):Int),(11:Int)) else (0,0))=R):=hZz (by have:=HE.out;rw [List.drop_length] at this;rw [← this,← HLE.out];rfl);by_cases hee:e=(L:Int)
   ·have hee':(e != (L:Int))=false:=by simpa using hee
    have HRR:Hid (R=(0,0)):=hZz (by rw [← HE2.out,if_neg (by simpa using hee)]);clear hee;go_wp2_with (fail)
    rw [← HP.out];exact ⟨by rw [HRR.out];rfl,HB.out⟩
   ·have hee':(e != (L:Int))=true:=by simpa using hee
    have HRR:Hid (R=(((c.fns.length:Nat):Int),(11:Int))):=hZz (by rw [← HE2.out,if_pos (by simpa using hee)]);clear hee;go_wp2_with (fail)
    rw [← HP.out];exact ⟨by rw [HRR.out];rfl,HB.out⟩
end
section
attribute [local go_sem] zabZ
set_option maxHeartbeats 16000000 in
theorem rfunctions_any (c:CodeD) (A B:Option Addr) (ncap icap:Nat) (w:World) (hl:c.fns.length≤40) (hL:c.ins.length≤4100) (hn:∀ f∈c.fns,f.name.size≤1000) (hF:SlAt w A 5 FnD.cells c.fns) :
  Calls prog 73 #[.agg #[.slice A c.fns.length ncap,.slice B c.ins.length icap]] w fun e w'=>e=.returned (.tuple #[.int .i64 (fnsF c c.fns 0 0).1,.int .i64 (fnsF c c.fns 0 0).2])∧Below w.heap.size w w':=by
 obtain ⟨R,hR⟩:∃ R,fnsF c c.fns 0 0=R:=⟨_,rfl⟩
 rw [hR];have HR:=hZz hR;obtain ⟨P,hP⟩:∃ P:Ending→World→Prop,(fun e w'=>e=.returned (.tuple #[.int .i64 R.1,.int .i64 R.2])∧Below w.heap.size w w')=P:=⟨_,rfl⟩
 rw [hP];have HP:=hZz hP;have HF:=hZz hF;have HNS:=hZz hn;obtain ⟨L,hLe⟩:∃ L,c.ins.length=L:=⟨_,rfl⟩
 have HLE:=hZz hLe;rw [hLe] at hL ⊢;have hL0:(0:Int)≤(L:Int):=by omega
 have hL9:(L:Int)≤4100:=by omega
 have HX:=hZz (Blk.new w 31 #[.slice A c.fns.length ncap,.slice B L icap]);have HB0:=hZz (zacZ w (.cells #[.slice A c.fns.length ncap,.slice B L icap] 31));clear hR hP hF hn hLe;go_enter func73,ntmps73
 go_wp2_with (fail)
 go_loopw [4,5] (fun ev iv wr=>∃ (k:Nat) (e:Int),k≤c.fns.length∧iv=.int .i64 k∧ev=.int .i64 e∧Hid (fnsF c (c.fns.drop k) k e=R)∧Hid (Blk wr w.heap.size 31 #[.slice A c.fns.length ncap,.slice B L icap])∧Hid (Below w.heap.size w wr)) (fun _ iv _=>c.fns.length - (intOf iv).toNat)
 case atStart=>exact ⟨0,0,Nat.zero_le _,rfl,rfl,hZz HR.out,HX,HB0⟩
 case round =>
  obtain ⟨k,e,hk,rfl,rfl,HE,HXR,HB⟩:=hrel;have hk0:(0:Int)≤(k:Int):=by omega
  have b0:=blk2 HXR.out;by_cases hlt:k<c.fns.length
  ·have hlt':(k:Int)<(c.fns.length:Int):=by omega
   have hk9:(k:Int)≤40:=by omega
   have HE2:=hZz ((fnsF_drop c k e hlt).symm.trans HE.out);have hsa:=HF.out.below HB.out;obtain ⟨b,off,rfl,_⟩:=hsa.ptr hlt;obtain ⟨f,hf⟩:∃ f,c.fns[k]=f:=⟨_,rfl⟩
   have c0:=hsa.cell0 hlt (v:=.string f.name) (by rw [hf];rfl);have c1:=hsa.cell hlt (j:=1) (v:=.int .i64 f.params) (by rw [hf];rfl);have c2:=hsa.cell hlt (j:=2) (v:=.int .i64 f.locals) (by rw [hf];rfl);have c3:=hsa.cell hlt (j:=3) (v:=.int .i64 f.entry) (by rw [hf];rfl);have c4:=hsa.cell hlt (j:=4) (v:=.int .i64 f.fin) (by rw [hf];rfl);have HFL:Hid (∀ r,FindP c.fns f.name r→(r<k↔∃ j,j<k∧(c.fns[j]?.map FnD.name)=some f.name)):=hZz (fun r hr=>by rw [← hf] at hr ⊢;exact find_lt hlt hr);have HNZ:=hZz (HNS.out f (hf ▸ List.getElem_mem hlt));rw [hf] at HE2;obtain ⟨name,params,locals,entry,fin⟩:=f;dsimp only at c0 c1 c2 c3 c4 HE2 HFL HNZ;have HY:=hZz (Blk.new wr 50 #[.string name,.int .i64 params,.int .i64 locals,.int .i64 entry,.int .i64 fin]);have HB1:=hZz (HB.out.alloc HB.out.size (.cells #[.string name,.int .i64 params,.int .i64 locals,.int .i64 entry,.int .i64 fin] 50));have HX1:=hZz (HXR.out.alloc (.cells #[.string name,.int .i64 params,.int .i64 locals,.int .i64 entry,.int .i64 fin] 50));obtain ⟨p1,hp1⟩:∃ p,decide (0≤params∧params≤8)=p:=⟨_,rfl⟩
   obtain ⟨p2,hp2⟩:∃ p,decide (params≤locals∧locals≤32)=p:=⟨_,rfl⟩
   have HP1:=hZz hp1;have HP2:=hZz hp2;clear hsa hf hp1 hp2
   go_upto_region 8 with (first
    | (go_at_call 106;(with_reducible refine (rname_any _ _ (by have:=HNZ.out;omega)).mono ?_);rintro e1 w1 ⟨⟨b1,rfl,hb⟩,hb1⟩;have HQ1:=hZz hb;have HB2:=hZz (zaaZ hb1 HB1.out HB1.out.size);have HX2:=hZz (HX1.out.below hb1);have HY2:=hZz (HY.out.below hb1);have y2:=blk5 HY2.out;have x2:=blk2 HX2.out;clear hb hb1;cases b1)
    | (go_at_call 107;(with_reducible refine (rfind_any c.fns _ B ncap L icap name _ hl (HF.out.below HB2.out)).mono ?_);rintro e2 w2 ⟨⟨r,rfl,hr⟩,hb2⟩;have HQ2:=hZz (HFL.out r hr);have HB3:=hZz (zaaZ hb2 HB2.out HB2.out.size);have HX3:=hZz (HX2.out.below hb2);have HY3:=hZz (HY2.out.below hb2);clear y2 x2;have y3:=blk5 HY3.out;have x3:=blk2 HX3.out;clear hr hb2))
   ·have HRR:Hid (R=(((k:Nat):Int),(4:Int))):=hZz (by rw [← HE2.out,if_pos (.inl (fun h=>by have:=HQ1.out.2 h;cases this))])
    go_wp2_with (fail)
    rw [← HP.out];exact ⟨by first | (rw [HRR.out];done) | (rw [HRR.out];rfl),HB2.out⟩
   ·have HRR:Hid (R=(((k:Nat):Int),(4:Int))):=hZz (by rw [← HE2.out,if_pos (.inr (HQ2.out.1 (by assumption)))])
    try go_wp2_with (fail)
    rw [← HP.out];exact ⟨by first | (rw [HRR.out];done) | (rw [HRR.out];rfl),HB3.out⟩
   ·have hnr:¬ r<(k:Int):=by omega
    have HE3:=hZz ((if_neg (fun h=>by
     rcases h with h | h
     ·exact h (HQ1.out.1 (by trivial))
     ·exact hnr (HQ2.out.2 h))).symm.trans HE2.out)
    clear HE2 hnr
    have HG:Hid (p1=true→p2=true→(if entry≠e∨fin≤entry∨(c.ins.length:Nat)<fin then (((k:Nat):Int),(11:Int)) else fnsF c (c.fns.drop (k+1)) (k+1) fin)=R):=hZz (fun h1 h2=>by
     rw [h1] at HP1;rw [h2] at HP2;exact (if_neg (fun h=>h ⟨of_decide_eq_true HP1.out,of_decide_eq_true HP2.out⟩)).symm.trans HE3.out)
    have HN:Hid (p1=false∨p2=false→R=(((k:Nat):Int),(2:Int))):=hZz (fun h=>by
     rw [← HE3.out,if_pos];rintro ⟨h1,h2⟩;rcases h with h | h
     ·rw [h] at HP1;exact absurd h1 (of_decide_eq_false HP1.out)
     ·rw [h] at HP2;exact absurd h2 (of_decide_eq_false HP2.out))
    have HPA:=HP1;have HPC:=HP2;clear HE3 HP1 HP2;by_cases hp:p1=true∧p2=true
    ·obtain ⟨rfl,rfl⟩:=hp
     have HG2:=hZz (HG.out rfl rfl);clear HG HN;have r1:¬ params<0:=by have:=of_decide_eq_true HPA.out;omega
     have r2:¬ 8<params:=by have:=of_decide_eq_true HPA.out;omega
     have r3:¬ locals<params:=by have:=of_decide_eq_true HPC.out;omega
     have r4:¬ 32<locals:=by have:=of_decide_eq_true HPC.out;omega
     by_cases g1:entry=e
     ·by_cases g2:fin≤entry
      ·have HRR:Hid (R=(((k:Nat):Int),(11:Int))):=hZz (by rw [← HG2.out,if_pos (.inr (.inl g2))])
       have g1':(entry != e)=false:=by simpa using g1
       clear g1;go_wp2_with (fail)
       rw [← HP.out];exact ⟨by first | (rw [HRR.out];done) | (rw [HRR.out];rfl),HB3.out⟩
      ·by_cases g3:(L:Int)<fin
       ·have HRR:Hid (R=(((k:Nat):Int),(11:Int))):=hZz (by rw [← HG2.out,if_pos (.inr (.inr (by rw [HLE.out];exact g3)))])
        have g1':(entry != e)=false:=by simpa using g1
        clear g1;go_wp2_with (fail)
        rw [← HP.out];exact ⟨by first | (rw [HRR.out];done) | (rw [HRR.out];rfl),HB3.out⟩
       ·have HNX:Hid (fnsF c (c.fns.drop (k+1)) (k+1) fin=R):=hZz (by rw [← HG2.out,if_neg (by rw [HLE.out];rintro (h | h | h);exact h g1;exact g2 h;exact g3 h)])
        have g1':(entry != e)=false:=by simpa using g1
        clear g1;go_wp2_with (fail)
        exact ⟨⟨k+1,fin,by omega,by simp,rfl,HNX,HX3,HB3⟩,by simp [intOf];omega⟩
     ·have HRR:Hid (R=(((k:Nat):Int),(11:Int))):=hZz (by rw [← HG2.out,if_pos (.inl g1)])
      have g1':(entry != e)=true:=by simpa using g1
      clear g1;go_wp2_with (fail)
      rw [← HP.out];exact ⟨by first | (rw [HRR.out];done) | (rw [HRR.out];rfl),HB3.out⟩
    ·cases p1 with
     | false =>
      have HRR:Hid (R=(((k:Nat):Int),(2:Int))):=hZz (HN.out (.inl rfl));clear hp HN HG;have q1:=of_decide_eq_false HPA.out;by_cases r1:params<0
      ·go_wp2_with (fail)
       rw [← HP.out];exact ⟨by first | (rw [HRR.out];done) | (rw [HRR.out];rfl),HB3.out⟩
      ·have r2:8<params:=by omega
       clear q1;go_wp2_with (fail)
       rw [← HP.out];exact ⟨by first | (rw [HRR.out];done) | (rw [HRR.out];rfl),HB3.out⟩
     | true =>
      cases p2 with
      | false =>
       have HRR:Hid (R=(((k:Nat):Int),(2:Int))):=hZz (HN.out (.inr rfl));clear hp HN HG;have q1:=of_decide_eq_true HPA.out;have q2:=of_decide_eq_false HPC.out;have r1:¬ params<0:=by omega
       have r2:¬ 8<params:=by omega
       by_cases r3:locals<params
       ·clear q1 q2
        go_wp2_with (fail)
        rw [← HP.out];exact ⟨by first | (rw [HRR.out];done) | (rw [HRR.out];rfl),HB3.out⟩
       ·have r4:32<locals:=by omega
        clear q1 q2;go_wp2_with (fail)
        rw [← HP.out];exact ⟨by first | (rw [HRR.out];done) | (rw [HRR.out];rfl),HB3.out⟩
      | true=>exact absurd ⟨rfl,rfl⟩ hp
  ·have ek:k=c.fns.length:=by omega
   subst ek;have HE2:Hid ((if e≠(L:Nat) then (((c.fns.length:Nat):Int),(11:Int)) else (0,0))=R):=hZz (by have:=HE.out;rw [List.drop_length] at this;rw [← this,← HLE.out];rfl);by_cases hee:e=(L:Int)
   ·have hee':(e != (L:Int))=false:=by simpa using hee
    have HRR:Hid (R=(0,0)):=hZz (by rw [← HE2.out,if_neg (by simpa using hee)]);clear hee;go_wp2_with (fail)
    rw [← HP.out];exact ⟨by first | (rw [HRR.out];done) | (rw [HRR.out];rfl),HB.out⟩
   ·have hee':(e != (L:Int))=true:=by simpa using hee
    have HRR:Hid (R=(((c.fns.length:Nat):Int),(11:Int))):=hZz (by rw [← HE2.out,if_pos (by simpa using hee)]);clear hee;go_wp2_with (fail)
    rw [← HP.out];exact ⟨by first | (rw [HRR.out];done) | (rw [HRR.out];rfl),HB.out⟩
end
end Go.Proofs.YthiimbhjpdphpaaGreatDoor
