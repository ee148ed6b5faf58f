/- GK11 -/
import Derived.Test.YthiimbhjpdphpaaGreatDoorPK7
import Derived.Test.YthiimbhjpdphpaaGreatDoorPGQ6
set_option linter.unusedVariables false
set_option linter.unusedSimpArgs false
namespace Go.Proofs.YthiimbhjpdphpaaGreatDoor
open Go.RowKit
set_option maxRecDepth 100000
open Go.Proofs.Tryz
theorem fns_step {c:CodeD} {k:Nat} {e:Int} (h:k<c.fns.length) (hf:(fnsF c (c.fns.drop k) k e).2=0) :
  c.fns[k].entry=e∧e<c.fns[k].fin∧c.fns[k].fin≤(c.ins.length:Nat)∧(0≤c.fns[k].params∧c.fns[k].params≤8)∧(c.fns[k].params≤c.fns[k].locals∧c.fns[k].locals≤32)∧(fnsF c (c.fns.drop (k+1)) (k+1) c.fns[k].fin).2=0:=by
 rw [fnsF_drop c k e h] at hf;split at hf
 ·simp at hf
 split at hf
 ·simp at hf
 split at hf
 ·simp at hf
 rename_i h1 h2 h3;have h2':=Classical.not_not.1 h2;have e1:c.fns[k].entry=e:=Classical.not_not.1 (fun h=>h3 (.inl h));have e2:¬ c.fns[k].fin≤c.fns[k].entry:=fun h=>h3 (.inr (.inl h))
 have e3:¬ ((c.ins.length:Nat):Int)<c.fns[k].fin:=fun h=>h3 (.inr (.inr h))
 exact ⟨e1,by omega,by omega,h2'.1,h2'.2,hf⟩
theorem fns_end {c:CodeD} {k:Nat} {e:Int} (hf:(fnsF c [] k e).2=0):e=(c.ins.length:Nat):=by
 unfold fnsF at hf;split at hf
 ·simp at hf
 ·rename_i h;exact Classical.not_not.1 h
theorem fns_small {c:CodeD} (hL:c.ins.length≤4000):∀ (n k:Nat) (e:Int),k+n=c.fns.length→0≤e→(fnsF c (c.fns.drop k) k e).2=0→∀ j (hj:j<c.fns.length),k≤j→FnSmall c.fns[j]∧c.fns[j].fin.toNat≤c.ins.length
 | 0,k,e,hn,_,_,j,hj,hk=>by omega
 | n+1,k,e,hn,he,hf,j,hj,hk=>by
  obtain ⟨h1,h2,h3,h4,h5,h6⟩:=fns_step (by omega) hf;by_cases ejk:j=k
  ·subst ejk
   exact ⟨⟨h4,⟨by omega,by omega⟩,by omega,by omega,by omega⟩,by omega⟩
  ·exact fns_small hL n (k+1) _ (by omega) (by omega) h6 j hj (by omega)
theorem fns_all {c:CodeD} (hL:c.ins.length≤4000) (h:(fnsF c c.fns 0 0).2=0):∀ f∈c.fns,FnSmall f∧f.fin.toNat≤c.ins.length:=by
 intro f hf;obtain ⟨j,hj,rfl⟩:=List.getElem_of_mem hf;exact fns_small hL c.fns.length 0 0 (by omega) (by omega) (by simpa using h) j hj (by omega)
theorem insF_succ (c:CodeD) (f:FnD) (n k:Nat) (h:k<c.ins.length):open Classical in insF c f (n+1) k =
  if ¬ FormedP (c.fns.length:Nat) f c.ins[k] then some (((k:Nat):Int),1)
  else if n=0∧c.ins[k].op≠20∧c.ins[k].op≠13 then some (((k:Nat):Int),10)
  else insF c f n (k+1):=by
 simp only [insF];rw [List.getElem?_eq_getElem h]
theorem insF_none {c:CodeD} {f:FnD}:∀ (n k:Nat),insF c f n k=none→k+n≤c.ins.length→∀ j,k≤j→j<k+n→∃ i,c.ins[j]? = some i∧FormedP (c.fns.length:Nat) f i∧(j+1=k+n→i.op=20∨i.op=13)
 | 0,k,_,_,j,h1,h2=>by omega
 | n+1,k,h,hl,j,h1,h2=>by
  have hk:k<c.ins.length:=by omega
  rw [insF_succ c f n k hk] at h;split at h
  ·cases h
  split at h
  ·cases h
  rename_i g1 g2;by_cases e:j=k
  ·subst e
   refine ⟨_,List.getElem?_eq_getElem hk,Classical.not_not.1 g1,fun e2=>?_⟩
   have:n=0:=by omega
   by_cases a:c.ins[j].op=20
   ·exact .inl a
   ·by_cases b:c.ins[j].op=13
    ·exact .inr b
    ·exact absurd ⟨this,a,b⟩ g2
  ·obtain ⟨i,a,b,d⟩:=insF_none n (k+1) h (by omega) j (by omega) (by omega)
   exact ⟨i,a,b,fun e=>d (by omega)⟩
theorem insAll_none {c:CodeD} {l:List FnD} (h:insAll c l=none) {f:FnD} (hf:f∈l):insF c f (f.fin - f.entry).toNat f.entry.toNat=none:=by
 induction l with
 | nil=>cases hf
 | cons g r ih =>
  unfold insAll at h;split at h
  ·cases h
  ·rename_i hg
   rcases List.mem_cons.1 hf with rfl | hf
   ·exact hg
   ·exact ih h hf
theorem good_all {c:CodeD} (hL:c.ins.length≤4000) (h1:(fnsF c c.fns 0 0).2=0) (h2:insAll c c.fns=none):∀ f∈c.fns,GoodF c f:=by
 intro f hf;obtain ⟨hs,hl⟩:=fns_all hL h1 f hf;refine ⟨hs,hl,fun k hk hk2=>?_⟩
 have he:=hs.2.2;obtain ⟨i,a,b,d⟩:=insF_none _ _ (insAll_none h2 hf) (by omega) k hk (by omega);exact ⟨i,a,b,fun e=>d (by omega)⟩
noncomputable def insFrom (c:CodeD) (f:FnD) (rest:List FnD) (k:Nat):Option (Int × Int):=match insF c f (f.fin.toNat - k) k with
 | some R=>some R
 | none=>insAll c rest
theorem insAll_drop (c:CodeD) (k:Nat) (h:k<c.fns.length) (hs:FnSmall c.fns[k]):insAll c (c.fns.drop k)=insFrom c c.fns[k] (c.fns.drop (k+1)) c.fns[k].entry.toNat:=by
 rw [List.drop_eq_getElem_cons h];unfold insFrom;have he:=hs.2.2;have e:(c.fns[k].fin - c.fns[k].entry).toNat=c.fns[k].fin.toNat - c.fns[k].entry.toNat:=by omega
 rw [← e];rfl
theorem insFrom_end (c:CodeD) (f:FnD) (rest:List FnD) (k:Nat) (h:f.fin.toNat≤k):insFrom c f rest k=insAll c rest:=by
 unfold insFrom;rw [show f.fin.toNat - k=0 by omega];rfl
theorem zchY (c:CodeD) (f:FnD) (rest:List FnD) (k:Nat) (h:k<f.fin.toNat) (hl:k<c.ins.length):open Classical in insFrom c f rest k =
  if ¬ FormedP (c.fns.length:Nat) f c.ins[k] then some (((k:Nat):Int),1)
  else if k+1=f.fin.toNat∧c.ins[k].op≠20∧c.ins[k].op≠13 then some (((k:Nat):Int),10)
  else insFrom c f rest (k+1):=by
 unfold insFrom;rw [show f.fin.toNat - k=(f.fin.toNat - (k+1))+1 by omega,insF_succ c f _ k hl];by_cases h1:FormedP (c.fns.length:Nat) f c.ins[k]
 ·have hn:¬ ¬ FormedP (c.fns.length:Nat) f c.ins[k]:=fun g=>g h1
  rw [if_neg hn,if_neg hn];by_cases h2:k+1=f.fin.toNat∧c.ins[k].op≠20∧c.ins[k].op≠13
  ·have h3:f.fin.toNat - (k+1)=0∧c.ins[k].op≠20∧c.ins[k].op≠13:=⟨by omega,h2.2⟩
   rw [if_pos h2,if_pos h3]
  ·have h3:¬ (f.fin.toNat - (k+1)=0∧c.ins[k].op≠20∧c.ins[k].op≠13):=fun g=>h2 ⟨by omega,g.2⟩
   rw [if_neg h2,if_neg h3]
 ·rw [if_pos h1,if_pos h1]
section
theorem FollowR.neg {c:CodeD} {e b:Nat} {done:List Bool} {d:List Int} {R:Int × List Int} (h:FollowR c e b done d R):R.1=-1∨0≤R.1:=by
 induction h with
 | stop=>exact .inl rfl
 | bad=>exact .inr (by simp)
 | two=>exact .inr (by simp)
 | go _ _ _ _ _ _ _ _ _ _ _ _ ih=>exact ih
theorem mk_intsL (n:Nat) (hn:n≤4100) (w:World):(Instr.makeSlice 56 (.int .i64 n) (.int .i64 n)).run prog w=.ok (.slice (some ⟨w.heap.size,0,none⟩) n n) (w.alloc (.cells ((List.replicate n (0:Int)).map (Value.int .i64)).toArray 3)):=by
 obtain ⟨i0,hi,hz0,hz1,hz2⟩:=info_parts Tryz.infoInt;have h:=run_makeSlice (P:=prog) w 56 3 i0 _ underlying56 hi hz0 .i64 .i64 n n (by omega) (by omega) (by rw [hz1];omega) (by rw [hz2];omega) (by omega);rw [hz1] at h;rw [Int.toNat_natCast] at h
 have e:madeCells (Value.int .i64 0).cells (n * 1)=((List.replicate n (0:Int)).map (Value.int .i64)).toArray:=by
  rw [Nat.mul_one]
  have:=made_rep (.int .i64 0) n
  simpa [Value.cells] using this
 rw [e] at h;simpa using h
def dInit (L j:Nat):List Int:=List.replicate j (-1) ++ List.replicate (L - j) 0
theorem dInit_len (L j:Nat) (h:j≤L):(dInit L j).length=L:=by unfold dInit;simp;omega
theorem dInit_set (L j:Nat) (h:j<L):(dInit L j).set j (-1)=dInit L (j+1):=by
 unfold dInit;rw [List.set_append_right _ _ (by simp)];obtain ⟨m,hm⟩:∃ m,L - j=m+1:=⟨L - j - 1,by omega⟩
 rw [hm,List.replicate_succ,List.length_replicate,Nat.sub_self,List.set_cons_zero,List.replicate_succ',List.append_assoc,show L - (j+1)=m by omega];rfl
theorem dInit_end (L:Nat):dInit L L=List.replicate L (-1):=by unfold dInit;simp
theorem DBd.init (L:Nat):DBd (List.replicate L (-1)):=by
 intro j;unfold getD;rw [List.getD_eq_getElem?_getD,List.getElem?_replicate];split <;> simp
theorem dep_of_blk {w:World} {b:Nat} {d:List Int} (h:Blk w b 3 (d.map (Value.int .i64)).toArray):DepAt w b d:=⟨_,h,fun i hi=>by simp [hi]⟩
attribute [local go_sem] zabZ
set_option maxHeartbeats 32000000 in
theorem verify_any (c:CodeD) (A B:Option Addr) (ncap icap:Nat) (w:World) (hl:c.fns.length≤40) (hL:c.ins.length≤4100) (hn:∀ f∈c.fns,f.name.size≤1000) (hok:∀ i∈c.ins,InsOk i) (hv:Sent w) (hp:Pow w) (hS:Shaped w) (hF:SlAt w A 5 FnD.cells c.fns) (hI:InsV w B c.ins) :
  Calls prog 39 #[.agg #[.slice A c.fns.length ncap,.slice B c.ins.length icap]] w fun e w'=>∃ v R,e=.returned (.tuple #[v,.int .i64 R.1,.int .i64 R.2])∧CodeR c R∧Below w.heap.size w w':=by
 obtain ⟨P,hP⟩:∃ P:Ending→World→Prop,(fun e w'=>∃ v R,e=.returned (.tuple #[v,.int .i64 R.1,.int .i64 R.2])∧CodeR c R∧Below w.heap.size w w')=P:=⟨_,rfl⟩
 rw [hP];have HP:=hZz hP;have HFN:Hid (∀ wx,Sent wx→SlAt wx A 5 FnD.cells c.fns→Calls prog 60 #[.agg #[.slice A c.fns.length ncap,.slice B c.ins.length icap]] wx fun e w'=>e=.returned (.tuple #[.int .i64 (fnsF c c.fns 0 0).1,.int .i64 (fnsF c c.fns 0 0).2])∧Below wx.heap.size wx w'):=hZz (fun wx h1 h2=>functions_any c A B ncap icap wx hl hL hn h1 h2);have HF:=hZz hF;have HI:=hZz hI;have HV:=hZz hv;have HPW:=hZz hp;have HS:=hZz hS;have HOK:=hZz hok;have HNF:=hZz hl;have HX0:=hZz (Blk.new w 31 #[.slice A c.fns.length ncap,.slice B c.ins.length icap]);have HB0:=hZz (zacZ w (.cells #[.slice A c.fns.length ncap,.slice B c.ins.length icap] 31));obtain ⟨L,hLe⟩:∃ L,c.ins.length=L:=⟨_,rfl⟩
 have HLE:=hZz hLe;rw [hLe] at hL HFN HX0 HB0;rw [hLe];have hL0:(0:Int)≤(L:Int):=by omega
 clear hP hF hI hv hp hS hok hn;by_cases hbig:Big c
 ·have HR:=hZz (CodeR.big hbig)
  have hbig2:(16:Int)<(c.fns.length:Int)∨(4000:Int)<(L:Int):=by unfold Big at hbig;omega
  clear hbig hLe;by_cases h16:(16:Int)<(c.fns.length:Int)
  ·go_enter func39,ntmps39
   go_wp2_with (fail)
   rw [← HP.out];exact ⟨_,(0,3),rfl,HR.out,HB0.out⟩
  ·have h4:(4000:Int)<(L:Int):=by omega
   go_enter func39,ntmps39
   go_wp2_with (fail)
   rw [← HP.out];exact ⟨_,(0,3),rfl,HR.out,HB0.out⟩
 ·have HBIG:=hZz hbig
  have h16:¬ (16:Int)<(c.fns.length:Int):=by unfold Big at hbig;omega
  have h4:¬ (4000:Int)<(L:Int):=by unfold Big at hbig;omega
  have h4n:L≤4000:=by omega
  obtain ⟨rf,hrf⟩:∃ rf,fnsF c c.fns 0 0=rf:=⟨_,rfl⟩
  have HRF:=hZz hrf;rw [hrf] at HFN;obtain ⟨r1,r2⟩:=rf;dsimp only at HFN;clear hrf hbig hLe;go_enter func39,ntmps39
  by_cases hr2:r2=0
  ·subst hr2
   have HX0':=hZz (blk2 HX0.out);have x0:=HX0'.out
   go_upto_region 6 with (first
    | (go_at_call 60;(with_reducible refine (HFN.out _ (HV.out.below HB0.out) (HF.out.below HB0.out)).mono ?_);rintro e1 w1 ⟨rfl,hb1⟩;have HX1:=hZz (HX0.out.below hb1);have HB1:=hZz (zaaZ hb1 HB0.out HB0.out.size);clear hb1 x0))
   have HSM:Hid (∀ f∈c.fns,FnSmall f∧f.fin.toNat≤L):=hZz (by rw [← HLE.out];exact fns_all (by rw [HLE.out];exact h4n) (by rw [HRF.out]));obtain ⟨X,hX⟩:∃ X,insAll c c.fns=X:=⟨_,rfl⟩
   have HXX:=hZz hX;have HRI:Hid (∀ R,X=some R→CodeR c R):=hZz (fun R h=>CodeR.ins R HBIG.out (by rw [HRF.out]) (by rw [HXX.out,h]));clear hX;have x1:=blk2 HX1.out;go_wp2_with (fail)
   clear x1;go_loopw [38] (fun iv wr=>∃ k:Nat,k≤c.fns.length∧iv=.int .i64 k∧Hid (insAll c (c.fns.drop k)=X)∧Hid (Blk wr w.heap.size 31 #[.slice A c.fns.length ncap,.slice B L icap])∧Hid (Below w.heap.size w wr)) (fun iv _=>c.fns.length - (intOf iv).toNat)
   case atStart=>exact ⟨0,Nat.zero_le _,rfl,hZz HXX.out,HX1,HB1⟩
   case round =>
    obtain ⟨k,hk,rfl,HE,HXR,HB⟩:=hrel;have hk0:(0:Int)≤(k:Int):=by omega
    have b0':=blk2 HXR.out;by_cases hlt:k<c.fns.length
    ·have hlt':(k:Int)<(c.fns.length:Int):=by omega
     have hk9:(k:Int)≤40:=by omega
     have hsa:=HF.out.below HB.out;obtain ⟨b,off,hAe,_⟩:=hsa.ptr hlt;subst hAe;obtain ⟨f,hf⟩:∃ f,c.fns[k]=f:=⟨_,rfl⟩
     have HSF:=hZz (HSM.out f (hf ▸ List.getElem_mem hlt));have HE2:Hid (insFrom c f (c.fns.drop (k+1)) f.entry.toNat=X):=hZz (by rw [← HE.out,insAll_drop c k hlt (by rw [hf];exact HSF.out.1),hf]);have c0:=hsa.cell0 hlt (v:=.string f.name) (by rw [hf];rfl);have c1:=hsa.cell hlt (j:=1) (v:=.int .i64 f.params) (by rw [hf];rfl);have c2:=hsa.cell hlt (j:=2) (v:=.int .i64 f.locals) (by rw [hf];rfl);have c3:=hsa.cell hlt (j:=3) (v:=.int .i64 f.entry) (by rw [hf];rfl);have c4:=hsa.cell hlt (j:=4) (v:=.int .i64 f.fin) (by rw [hf];rfl);have HCF:Hid (∀ (i:InsD) (kv:Value) (wx:World),InsOk i→Pow wx→Shaped wx→KeysV wx kv i.keys→Calls prog 61 #[.agg #[.slice (some ⟨b,off,none⟩) c.fns.length ncap,.slice B L icap],.agg #[.string f.name,.int .i64 f.params,.int .i64 f.locals,.int .i64 f.entry,.int .i64 f.fin],.agg #[.int .i64 i.op,.int .i64 i.a,.string i.s,kv]] wx fun e w'=>(∃ b,e=.returned (.bool b)∧(b=true↔FormedP (c.fns.length:Nat) f i))∧Below wx.heap.size wx w'):=hZz (fun i kv wx h1 h2 h3 h4=>cformed_any c.fns.length ncap (some ⟨b,off,none⟩) B f i kv wx HNF.out HSF.out.1 h1 h2 h3 h4 L icap);obtain ⟨name,params,locals,entry,fin⟩:=f;dsimp only at c0 c1 c2 c3 c4 HCF HE2;obtain ⟨e0,he0⟩:∃ e0:Nat,entry=e0:=⟨entry.toNat,by have:=HSF.out.1.2.2;dsimp only at this;omega⟩
     obtain ⟨b0,hb0⟩:∃ b0:Nat,fin=b0:=⟨fin.toNat,by have:=HSF.out.1.2.2;dsimp only at this;omega⟩
     subst he0 hb0;have hbL:b0≤L:=by have:=HSF.out.2;dsimp only at this;omega
     have heb:e0<b0:=by have:=HSF.out.1.2.2;dsimp only at this;omega
     have HE3:Hid (insFrom c ⟨name,params,locals,e0,b0⟩ (c.fns.drop (k+1)) e0=X):=hZz (by have:=HE2.out;simpa using this);clear HE2 hsa hf;obtain ⟨g1,hg1⟩:∃ g,wr.heap.size=g:=⟨_,rfl⟩
     have HG1:=hZz hg1;have HY:=hZz (Blk.new' (w:=wr) (t:=50) (cs:=#[.string name,.int .i64 params,.int .i64 locals,.int .i64 e0,.int .i64 b0]) hg1.symm);have HB1':=hZz (HB.out.alloc HB.out.size (.cells #[.string name,.int .i64 params,.int .i64 locals,.int .i64 e0,.int .i64 b0] 50));have HXa:=hZz (HXR.out.alloc (.cells #[.string name,.int .i64 params,.int .i64 locals,.int .i64 e0,.int .i64 b0] 50));clear hg1;go_wp2_with (fail)
     rw [HG1.out];clear c0 c1 c2 c3 c4 b0';go_loopw [9] (fun iv wi=>∃ i:Nat,e0≤i∧i≤b0∧iv=.int .i64 i∧Hid (insFrom c ⟨name,params,locals,e0,b0⟩ (c.fns.drop (k+1)) i=X)∧Hid (Blk wi w.heap.size 31 #[.slice (some ⟨b,off,none⟩) c.fns.length ncap,.slice B L icap])∧Hid (Blk wi g1 50 #[.string name,.int .i64 params,.int .i64 locals,.int .i64 e0,.int .i64 b0])∧Hid (Below w.heap.size w wi)) (fun iv _=>b0 - (intOf iv).toNat)
     case atStart=>exact ⟨e0,Nat.le_refl _,by omega,rfl,HE3,HXa,HY,HB1'⟩
     case round =>
      obtain ⟨i,hi0,hi1,rfl,HEI,HXI,HYI,HBI⟩:=hrel;have hiz:(0:Int)≤(i:Int):=by omega
      have x0:=blk2 HXI.out;have y0:=blk5 HYI.out;by_cases hlti:i<b0
      ·have hlti':(i:Int)<(b0:Int):=by omega
       have hiL:(i:Int)<(L:Int):=by omega
       have hki:i<c.ins.length:=by rw [HLE.out];omega
       obtain ⟨bI,offI,kv,hB,_,q0,q1,q2,q3,hkv⟩:=(HI.out.below HBI.out).at hki;subst hB;have HKV:=hZz hkv;have HST:=hZz (zchY c ⟨name,params,locals,e0,b0⟩ (c.fns.drop (k+1)) i (by simpa using hlti) hki);have HOX:=hZz (HOK.out _ (List.getElem_mem hki));obtain ⟨x,hx⟩:∃ x,c.ins[i]'hki=x:=⟨_,rfl⟩
       rw [hx] at q0 q1 q2 HKV HST HOX;clear hkv hx hki;obtain ⟨op,a,s,keys⟩:=x;dsimp only at q0 q1 q2 HKV HST HOX;obtain ⟨kA,kc,hkve,_⟩:=HKV.out;subst hkve;obtain ⟨kn,hkn⟩:∃ n,keys.length=n:=⟨_,rfl⟩
       rw [hkn] at q3 HKV;clear hkn;have HST2:=hZz (HST.out.symm.trans HEI.out);clear HST HEI;have HXb:=hZz (HXI.out.alloc (.cells #[.int .i64 op,.int .i64 a,.string s,.slice kA kn kc] 53));have HYb:=hZz (HYI.out.alloc (.cells #[.int .i64 op,.int .i64 a,.string s,.slice kA kn kc] 53));have HZb:=hZz (Blk.new wr 53 #[.int .i64 op,.int .i64 a,.string s,.slice kA kn kc]);have HBb:=hZz (HBI.out.alloc HBI.out.size (.cells #[.int .i64 op,.int .i64 a,.string s,.slice kA kn kc] 53));have HKb:=hZz (HKV.out.below (zacZ wr (.cells #[.int .i64 op,.int .i64 a,.string s,.slice kA kn kc] 53)));have hib:(i:Int)+1≤9223372036854775807:=by omega
       go_upto_region 15 with (first
        | (go_at_call 61;(with_reducible refine (HCF.out ⟨op,a,s,keys⟩ _ _ HOX.out (HPW.out.below HBb.out) (HS.out.below HBb.out) HKb.out).mono ?_);rintro e3 w3 ⟨⟨bb,rfl,hbb⟩,hb3⟩;have HQ:=hZz hbb;have HX3:=hZz (HXb.out.below hb3);have HY3:=hZz (HYb.out.below hb3);have HZ3:=hZz (HZb.out.below hb3);have HB3:=hZz (zaaZ hb3 HBb.out HBb.out.size);clear hbb hb3 q0 q1 q2 q3 x0 y0;cases bb))
       ·have HR:Hid (CodeR c ((i:Nat),1)):=hZz (HRI.out _ (by rw [← HST2.out,if_pos (fun h=>by have:=HQ.out.2 h;cases this)]))
        go_wp2_with (fail)
        rw [← HP.out];exact ⟨_,(((i:Nat):Int),1),rfl,HR.out,HB3.out⟩
       ·have HST3:=hZz ((if_neg (fun h=>h (HQ.out.1 (by trivial)))).symm.trans HST2.out)
        have y3:=blk5 HY3.out;have z3:=blk4 HZ3.out;have b0':=blk2 HX3.out;clear HST2 HQ;by_cases hend:i+1=b0
        ·have hend':((i:Int) == (b0:Int) - 1)=true:=by simp;omega
         by_cases ho:op≠20∧op≠13
         ·have ho1:(op != 20)=true:=by simpa using ho.1
          have ho2:(op != 13)=true:=by simpa using ho.2
          have HR:Hid (CodeR c ((i:Nat),10)):=hZz (HRI.out _ (by rw [← HST3.out,if_pos ⟨by simpa using hend,ho.1,ho.2⟩]));clear ho hend;go_wp2_with (fail)
          rw [← HP.out];exact ⟨_,(((i:Nat):Int),10),rfl,HR.out,HB3.out⟩
         ·have HN:Hid (insFrom c ⟨name,params,locals,e0,b0⟩ (c.fns.drop (k+1)) (i+1)=X):=hZz (by rw [← HST3.out,if_neg (fun h=>ho h.2)])
          by_cases h20:op=20
          ·have ho1:(op != 20)=false:=by simpa using h20
           clear ho h20;go_wp2_with (fail)
           exact ⟨⟨i+1,by omega,by omega,by simp,HN,HX3,HY3,HB3⟩,by simp [intOf];omega⟩
          ·have ho1:(op != 20)=true:=by simpa using h20
           have ho2:(op != 13)=false:=by simp;omega
           clear ho h20;go_wp2_with (fail)
           exact ⟨⟨i+1,by omega,by omega,by simp,HN,HX3,HY3,HB3⟩,by simp [intOf];omega⟩
        ·have hend':((i:Int) == (b0:Int) - 1)=false:=by simp;omega
         have HN:Hid (insFrom c ⟨name,params,locals,e0,b0⟩ (c.fns.drop (k+1)) (i+1)=X):=hZz (by rw [← HST3.out,if_neg (fun h=>hend (by simpa using h.1))]);go_wp2_with (fail)
         exact ⟨⟨i+1,by omega,by omega,by simp,HN,HX3,HY3,HB3⟩,by simp [intOf];omega⟩
      ·have hib0:i=b0:=by omega
       have HN:Hid (insAll c (c.fns.drop (k+1))=X):=hZz (by rw [← HEI.out];exact (insFrom_end c _ _ i (by simp;omega)).symm);have hnl:¬ (i:Int)<(b0:Int):=by omega
       clear hib0;go_wp2_with (fail)
       exact ⟨⟨k+1,by omega,by simp,HN,HXI,HBI⟩,by simp [intOf];omega⟩
    ·have ek:k=c.fns.length:=by omega
     have HXN:Hid (X=none):=hZz (by rw [← HE.out,ek,List.drop_length];rfl);have HGD:Hid (∀ f∈c.fns,GoodF c f):=hZz (good_all (by rw [HLE.out];exact h4n) (by rw [HRF.out]) (by rw [HXX.out,HXN.out]));have hnl:¬ (k:Int)<(c.fns.length:Int):=by omega
     clear ek HE;have hmk:=mk_intsL L (by omega);obtain ⟨gd,hgd⟩:∃ g,wr.heap.size=g:=⟨_,rfl⟩
     have HGD0:Hid (w.heap.size<gd):=hZz (by rw [← hgd];exact lt_of_block HXR.out);obtain ⟨W3,hW3⟩:∃ W3,wr.alloc (.cells (Array.replicate L (.int .i64 0)) 3)=W3:=⟨_,rfl⟩
     have HD3:Hid (DepAt W3 gd (dInit L 0)):=hZz (by
      refine dep_of_blk ?_
      have e:((dInit L 0).map (Value.int .i64)).toArray=Array.replicate L (Value.int .i64 0):=by unfold dInit;simp
      rw [e,← hW3];exact Blk.new' hgd.symm)
     have HX3:Hid (Blk W3 w.heap.size 31 #[.slice A c.fns.length ncap,.slice B L icap]):=hZz (by rw [← hW3];exact HXR.out.alloc _);have HB3:Hid (Below w.heap.size w W3):=hZz (by rw [← hW3];exact HB.out.alloc HB.out.size _);have HZ3:Hid (gd<W3.heap.size):=hZz (by rw [← hW3,← hgd];simp);have HGE:=hZz hgd;have HW3:=hZz hW3;clear hgd hW3;go_upto_region 19 with fail
     rw [HGE.out,HW3.out];clear b0' hmk;go_wp2_with (fail)
     go_loopw [84] (fun iv w3=>∃ j:Nat,j≤L∧iv=.int .i64 j∧Hid (DepAt w3 gd (dInit L j))∧Hid (Blk w3 w.heap.size 31 #[.slice A c.fns.length ncap,.slice B L icap])∧Hid (Below w.heap.size w w3)∧Hid (gd<w3.heap.size)) (fun iv _=>L - (intOf iv).toNat)
     case atStart=>exact ⟨0,Nat.zero_le _,rfl,HD3,HX3,HB3,HZ3⟩
     case round =>
      obtain ⟨j,hj,rfl,HD,HXJ,HBJ,HZJ⟩:=hrel;have hj0:(0:Int)≤(j:Int):=by omega
      by_cases hlt:j<L
      ·have hlt':(j:Int)<(L:Int):=by omega
       have hj9:(j:Int)+1≤9223372036854775807:=by omega
       have cd:=HD.out.cell (k:=j) (by rw [dInit_len L j hj];exact hlt);obtain ⟨y,hy⟩:∃ y,(dInit L j)[j]'(by rw [dInit_len L j hj];exact hlt)=y:=⟨_,rfl⟩
       rw [hy] at cd;clear hy;have z:=HD.out.frozen j;have HD2:Hid (DepAt (wr.setCell ⟨gd,j,none⟩ (.int .i64 (-1))) gd (dInit L (j+1))):=hZz (by rw [← dInit_set L j hlt];exact HD.out.set j (-1));have HX2:=hZz (HXJ.out.far (p:=⟨gd,j,none⟩) (Nat.ne_of_lt HGD0.out) (.int .i64 (-1)));have HB2:=hZz (HBJ.out.setCell (p:=⟨gd,j,none⟩) (Nat.le_of_lt HGD0.out) (.int .i64 (-1)));go_wp2_with (fail)
       exact ⟨⟨j+1,by omega,by simp,HD2,HX2,HB2,hZz (by simpa using HZJ.out)⟩,by simp [intOf];omega⟩
      ·have ej:j=L:=by omega
       have HD2:Hid (DepAt wr gd (List.replicate L (-1))):=hZz (by rw [← dInit_end L];have:=HD.out;rw [ej] at this;exact this);have hnl2:¬ (j:Int)<(L:Int):=by omega
       have x2:=blk2 HXJ.out;clear ej
       have HCD:Hid (∀ (name:ByteArray) (params locals:Int) (e0 b0:Nat) (wx:World) (d:List Int),GoodF c ⟨name,params,locals,e0,b0⟩→d.length=L→DBd d→DepAt wx gd d→Below w.heap.size w wx→gd<wx.heap.size →
         Calls prog 62 #[.agg #[.slice A c.fns.length ncap,.slice B L icap],.agg #[.string name,.int .i64 params,.int .i64 locals,.int .i64 e0,.int .i64 b0],.slice (some ⟨gd,0,none⟩) L L] wx fun e w'=>∃ k d',e=.returned (.int .i64 k)∧FollowR c e0 b0 (List.replicate c.ins.length false) (d.set e0 0) (k,d')∧DepAt w' gd d'∧d'.length=L∧DBd d'∧wx.grownBy w' (some gd)):=hZz (fun name params locals e0 b0 wx d h1 h2 h3 h4 h5 h6=>by
        have:=depths_any c name params locals e0 b0 A B ncap icap L w wx gd d (by rw [HLE.out];exact h4n) HNF.out HS.out HF.out HI.out h5 (Nat.le_of_lt HGD0.out) h6 h4 (by rw [h2,HLE.out]) h3 (fun f hf=>(HSM.out f hf).1) h1
        rw [h2,HLE.out] at this;rw [HLE.out];exact this)
       go_wp2_with (fail)
       clear x2;go_loopw [94] (fun iv w4=>∃ (k:Nat) (d:List Int),k≤c.fns.length∧iv=.int .i64 k∧d.length=L∧Hid (DBd d)∧Hid (∀ R,AllR c (c.fns.drop k) d R→AllR c c.fns (List.replicate c.ins.length (-1)) R)∧Hid (DepAt w4 gd d)∧Hid (Blk w4 w.heap.size 31 #[.slice A c.fns.length ncap,.slice B L icap])∧Hid (Below w.heap.size w w4)∧Hid (gd<w4.heap.size)) (fun iv _=>c.fns.length - (intOf iv).toNat)
       case atStart=>exact ⟨0,List.replicate L (-1),Nat.zero_le _,rfl,by simp,hZz (DBd.init L),hZz (fun R h=>by rw [HLE.out];exact h),HD2,HXJ,HBJ,HZJ⟩
       case round =>
        obtain ⟨k2,d,hk2,rfl,hdl,HDB,HAC,HDA,HX4,HB4,HZ4⟩:=hrel;have hk20:(0:Int)≤(k2:Int):=by omega
        have x4:=blk2 HX4.out;by_cases hlt4:k2<c.fns.length
        ·have hlt4':(k2:Int)<(c.fns.length:Int):=by omega
         have hk9:(k2:Int)≤40:=by omega
         have hsa:=HF.out.below HB4.out;obtain ⟨b,off,hAe,_⟩:=hsa.ptr hlt4;subst hAe;obtain ⟨f,hf⟩:∃ f,c.fns[k2]=f:=⟨_,rfl⟩
         have HGF:=hZz (HGD.out f (hf ▸ List.getElem_mem hlt4));have HDR:Hid (c.fns.drop k2=f :: c.fns.drop (k2+1)):=hZz (by rw [← hf];exact List.drop_eq_getElem_cons hlt4);have c0:=hsa.cell0 hlt4 (v:=.string f.name) (by rw [hf];rfl);have c1:=hsa.cell hlt4 (j:=1) (v:=.int .i64 f.params) (by rw [hf];rfl);have c2:=hsa.cell hlt4 (j:=2) (v:=.int .i64 f.locals) (by rw [hf];rfl);have c3:=hsa.cell hlt4 (j:=3) (v:=.int .i64 f.entry) (by rw [hf];rfl);have c4:=hsa.cell hlt4 (j:=4) (v:=.int .i64 f.fin) (by rw [hf];rfl);obtain ⟨name,params,locals,entry,fin⟩:=f;dsimp only at c0 c1 c2 c3 c4;obtain ⟨e0,he0⟩:∃ e0:Nat,entry=e0:=⟨entry.toNat,by have:=HGF.out.1.2.2;dsimp only at this;omega⟩
         obtain ⟨b0,hb0⟩:∃ b0:Nat,fin=b0:=⟨fin.toNat,by have:=HGF.out.1.2.2;dsimp only at this;omega⟩
         subst he0 hb0;clear hsa hf;have HBa:=hZz (HB4.out.alloc HB4.out.size (.cells #[.string name,.int .i64 params,.int .i64 locals,.int .i64 e0,.int .i64 b0] 50));have HXa:=hZz (HX4.out.alloc (.cells #[.string name,.int .i64 params,.int .i64 locals,.int .i64 e0,.int .i64 b0] 50));have HDa:=hZz (HDA.out.below (zacZ wr (.cells #[.string name,.int .i64 params,.int .i64 locals,.int .i64 e0,.int .i64 b0] 50)));have HZa:Hid (gd<(wr.alloc (.cells #[.string name,.int .i64 params,.int .i64 locals,.int .i64 e0,.int .i64 b0] 50)).heap.size):=hZz (by have:=HZ4.out;simp;omega)
         go_upto_region 28 with (first
          | (go_at_call 62;(with_reducible refine (HCD.out name params locals e0 b0 _ d HGF.out hdl HDB.out HDa.out HBa.out HZa.out).mono ?_);rintro e5 w5 ⟨r,d',rfl,hfr,hda5,hdl5,hdb5,hg5⟩;have HFR:=hZz hfr;have HD5:=hZz hda5;have HDB5:=hZz hdb5;have HX5:=hZz (HXa.out.grown hg5 (by have:=HGD0.out;simp;omega));have HB5:=hZz (HBa.out.grown hg5 HBa.out.size (fun kk hkk=>by injection hkk with hkk;have:=HGD0.out;omega));have HZ5:=hZz (Nat.lt_of_lt_of_le HZa.out hg5.size);clear hfr hda5 hdb5 hg5 c0 c1 c2 c3 c4 x4))
         have HNG:=hZz HFR.out.neg;by_cases hr:0≤r
         ·have HR:Hid (CodeR c (r,21)):=hZz (CodeR.stack r d' HBIG.out (by rw [HRF.out]) (by rw [HXX.out,HXN.out]) (HAC.out _ (by rw [HDR.out];exact AllR.bad _ _ _ _ _ (by simpa using HFR.out) hr)) hr)
          go_wp2_with (fail)
          rw [← HP.out];exact ⟨_,(r,21),rfl,HR.out,HB5.out⟩
         ·have hr1:r=-1:=by have:=HNG.out;dsimp only at this;omega
          subst hr1;have HAC2:Hid (∀ R,AllR c (c.fns.drop (k2+1)) d' R→AllR c c.fns (List.replicate c.ins.length (-1)) R):=hZz (fun R h=>HAC.out R (by rw [HDR.out];exact AllR.go _ _ _ _ _ (by simpa using HFR.out) h));clear hr;go_wp2_with (fail)
          exact ⟨⟨k2+1,d',by omega,by simp,hdl5,HDB5,HAC2,HD5,HX5,HB5,HZ5⟩,by simp [intOf];omega⟩
        ·have hnl4:¬ (k2:Int)<(c.fns.length:Int):=by omega
         have HR:Hid (CodeR c (0,0)):=hZz (CodeR.ok d HBIG.out (by rw [HRF.out]) (by rw [HXX.out,HXN.out]) (HAC.out _ (by rw [show k2=c.fns.length by omega,List.drop_length];exact AllR.nil d)));go_wp2_with (fail)
         rw [← HP.out];exact ⟨_,(0,0),rfl,HR.out,HB4.out⟩
  ·have HR:Hid (CodeR c (r1,r2)):=hZz (CodeR.fn _ HBIG.out HRF.out hr2)
   have hne:(r2 != 0)=true:=by simpa using hr2
   have HX0':=hZz (blk2 HX0.out);have x0:=HX0'.out;clear hr2
   go_wp2_with (first
    | (go_at_call 60;(with_reducible refine (HFN.out _ (HV.out.below HB0.out) (HF.out.below HB0.out)).mono ?_);rintro e1 w1 ⟨rfl,hb1⟩;have HX1:=hZz (HX0.out.below hb1);have HB1:=hZz (zaaZ hb1 HB0.out HB0.out.size);clear hb1 x0))
   rw [← HP.out];exact ⟨_,(r1,r2),rfl,HR.out,HB1.out⟩
set_option maxHeartbeats 4000000 in
theorem ccheck_any (c:CodeD) (A B:Option Addr) (ncap icap:Nat) (w:World) (hl:c.fns.length≤40) (hL:c.ins.length≤4100) (hn:∀ f∈c.fns,f.name.size≤1000) (hok:∀ i∈c.ins,InsOk i) (hv:Sent w) (hp:Pow w) (hS:Shaped w) (hF:SlAt w A 5 FnD.cells c.fns) (hI:InsV w B c.ins) :
  Calls prog 23 #[.agg #[.slice A c.fns.length ncap,.slice B c.ins.length icap]] w fun e w'=>∃ R,e=.returned (.tuple #[.int .i64 R.1,.int .i64 R.2])∧CodeR c R∧Below w.heap.size w w':=by
 have HB0:=zacZ w (.cells #[.slice A c.fns.length ncap,.slice B c.ins.length icap] 31);have HC:=hZz (verify_any c A B ncap icap _ hl hL hn hok (hv.below HB0) (hp.below HB0) (hS.below HB0) (hF.below HB0) (hI.below HB0));have HX:=hZz (Blk.new w 31 #[.slice A c.fns.length ncap,.slice B c.ins.length icap]);have HB:=hZz HB0;obtain ⟨P,hP⟩:∃ P:Ending→World→Prop,(fun e w'=>∃ R,e=.returned (.tuple #[.int .i64 R.1,.int .i64 R.2])∧CodeR c R∧Below w.heap.size w w')=P:=⟨_,rfl⟩
 rw [hP];have HP:=hZz hP;have x0:=blk2 HX.out;clear HB0 hP hl hL hn hok hv hp hS hF hI;go_enter func23,ntmps23
 go_wp2_with (first
  | (go_at_call 39;(with_reducible refine HC.out.mono ?_);rintro e1 w1 ⟨v,R,rfl,hr,hb1⟩;have HR:=hZz hr;have HB1:=hZz (zaaZ hb1 HB.out HB.out.size);clear hr hb1))
 rw [← HP.out];exact ⟨R,rfl,HR.out,HB1.out⟩
end
end Go.Proofs.YthiimbhjpdphpaaGreatDoor
