/- Q7 -/
import Derived.Test.YthiimbhjpdphpaaGreatDoorPQ5
import Derived.Test.YthiimbhjpdphpaaGreatDoorPGK11
import Derived.StillTailTactics
set_option linter.unusedVariables false
set_option linter.unusedSimpArgs false
namespace Go.Proofs.YthiimbhjpdphpaaGreatDoor
open Go.RowKit
set_option maxRecDepth 100000
open Go.Proofs.Tryz
theorem InsV.op {w:World} {b off:Nat} {l:List InsD} (h:InsV w (some ⟨b,off,none⟩) l) {k:Nat} {x:InsD} (hx:l[k]? = some x):w.cell? ⟨b,off+k * 4,none⟩=some (.int .i64 x.op):=by
 obtain ⟨hk,rfl⟩:=List.getElem?_eq_some_iff.1 hx;obtain ⟨b',off',kv,e,_,h0,_⟩:=h.at hk;injection e with e
 injection e with e1 e2
 subst e1 e2;exact h0
def DepOwn (w:World) (base:Nat) (v:Value) (n:Nat):Prop:=w.ownsRow base 3 1 v n (List.replicate n (.int .i64 (-1)))
theorem DepOwn.own {w:World} {base n:Nat} {v:Value} (h:DepOwn w base v n):w.ownsRow base 3 1 v n (List.replicate n (.int .i64 (-1))):=h
theorem DepOwn.open_ {w:World} {base n g0:Nat} {v:Value} {cs:Array Value} (h:DepOwn w base v n) (hx:Blk w g0 31 cs):∃ (gd:Nat) (A:Option Addr) (cap:Nat),v=.slice A n cap∧(0<n→A=some ⟨gd,0,none⟩∧base≤gd∧gd≠g0∧gd<w.heap.size∧DepAt w gd (List.replicate n (-1))):=by
 have hne:=zafZ h hx (by decide);rcases h.2 with ⟨hv,hn⟩ | ⟨g,cap,cur,hv,hb,hg,_,_,hsz,hcur⟩
 ·subst hn
  exact ⟨0,none,0,hv,fun h=>absurd h (by omega)⟩
 ·refine ⟨g,some ⟨g,0,none⟩,cap,hv,fun hn=>⟨rfl,hb,?_,lt_of_block hg,cur,hg,fun i hi=>?_⟩⟩
  ·rintro rfl
   apply hne
   rw [hv];rfl
  ·have hi':i<n:=by simpa using hi
   have hl:cur.toList[i]? = some (Value.int .i64 (-1)):=by
    have h1:(cur.toList.take (n * 1))[i]? = (List.replicate n (Value.int .i64 (-1)))[i]?:=by rw [hcur]
    rw [List.getElem?_take,if_pos (by omega),List.getElem?_replicate,if_pos hi'] at h1;exact h1
   rw [← Array.getElem?_toList,hl];simp
theorem dep_snoc {w:World} {base n:Nat} {v:Value} (h:w.ownsRow base 3 1 v (n+1) (List.replicate n (.int .i64 (-1)) ++ [.int .i64 (-1)])):DepOwn w base v (n+1):=by
 unfold DepOwn;rw [List.replicate_succ'];exact h
attribute [local go_sem] zabZ
set_option maxHeartbeats 32000000 in
theorem checked_any (c:CodeD) (A B:Option Addr) (ncap icap:Nat) (w:World) (hl:c.fns.length≤40) (hL:c.ins.length≤4100) (hn:∀ f∈c.fns,f.name.size≤1000) (hok:∀ i∈c.ins,InsOk i) (hF:SlAt w A 5 FnD.cells c.fns) (hI:InsV w B c.ins) :
  Calls prog 47 #[.agg #[.slice A c.fns.length ncap,.slice B c.ins.length icap]] w fun e w'=>∃ v R,e=.returned (.tuple #[v,.int .i64 R.1,.int .i64 R.2])∧CodeR c R∧Below w.heap.size w w':=by
 obtain ⟨P,hP⟩:∃ P:Ending→World→Prop,(fun e w'=>∃ v R,e=.returned (.tuple #[v,.int .i64 R.1,.int .i64 R.2])∧CodeR c R∧Below w.heap.size w w')=P:=⟨_,rfl⟩
 rw [hP];have HP:=hZz hP;have HFN:Hid (∀ wx,SlAt wx A 5 FnD.cells c.fns→Calls prog 73 #[.agg #[.slice A c.fns.length ncap,.slice B c.ins.length icap]] wx fun e w'=>e=.returned (.tuple #[.int .i64 (fnsF c c.fns 0 0).1,.int .i64 (fnsF c c.fns 0 0).2])∧Below wx.heap.size wx w'):=hZz (fun wx h2=>rfunctions_any c A B ncap icap wx hl hL hn h2);have HF:=hZz hF;have HI:=hZz hI;have HOK:=hZz hok;have HNF:=hZz hl;have HX0:=hZz (Blk.new w 31 #[.slice A c.fns.length ncap,.slice B c.ins.length icap]);have HB0:=hZz (zacZ w (.cells #[.slice A c.fns.length ncap,.slice B c.ins.length icap] 31));obtain ⟨L,hLe⟩:∃ L,c.ins.length=L:=⟨_,rfl⟩
 have HLE:=hZz hLe;rw [hLe] at hL HFN HX0 HB0;rw [hLe];have hL0:(0:Int)≤(L:Int):=by omega
 clear hP hF hI hok hn;by_cases hbig:Big c
 ·have HR:=hZz (CodeR.big hbig)
  have hbig2:(16:Int)<(c.fns.length:Int)∨(4000:Int)<(L:Int):=by unfold Big at hbig;omega
  clear hbig hLe;by_cases h16:(16:Int)<(c.fns.length:Int)
  ·go_enter func47,ntmps47
   go_wp2_with (fail)
   rw [← HP.out];exact ⟨_,(0,3),rfl,HR.out,HB0.out⟩
  ·have h4:(4000:Int)<(L:Int):=by omega
   go_enter func47,ntmps47
   go_wp2_with (fail)
   rw [← HP.out];exact ⟨_,(0,3),rfl,HR.out,HB0.out⟩
 ·have HBIG:=hZz hbig
  have h16:¬ (16:Int)<(c.fns.length:Int):=by unfold Big at hbig;omega
  have h4:¬ (4000:Int)<(L:Int):=by unfold Big at hbig;omega
  have h4n:L≤4000:=by omega
  obtain ⟨rf,hrf⟩:∃ rf,fnsF c c.fns 0 0=rf:=⟨_,rfl⟩
  have HRF:=hZz hrf;rw [hrf] at HFN;obtain ⟨r1,r2⟩:=rf;dsimp only at HFN;clear hrf hbig hLe;go_enter func47,ntmps47
  by_cases hr2:r2=0
  ·subst hr2
   have HX0':=hZz (blk2 HX0.out);have x0:=HX0'.out
   go_upto_region 6 with (first
    | (go_at_call 73;(with_reducible refine (HFN.out _ (HF.out.below HB0.out)).mono ?_);rintro e1 w1 ⟨rfl,hb1⟩;have HX1:=hZz (HX0.out.below hb1);have HB1:=hZz (zaaZ hb1 HB0.out HB0.out.size);clear hb1 x0))
   have HSM:Hid (∀ f∈c.fns,FnSmall f∧f.fin.toNat≤L):=hZz (by rw [← HLE.out];exact fns_all (by rw [HLE.out];exact h4n) (by rw [HRF.out]));obtain ⟨X,hX⟩:∃ X,insAll c c.fns=X:=⟨_,rfl⟩
   have HXX:=hZz hX;have HRI:Hid (∀ R,X=some R→CodeR c R):=hZz (fun R h=>CodeR.ins R HBIG.out (by rw [HRF.out]) (by rw [HXX.out,h]));clear hX;have x1:=blk2 HX1.out;obtain ⟨i0,hi,hz0,hz1,hz2⟩:=info_parts Tryz.infoInt;have HO0:Hid (DepOwn (w1.alloc (.cells #[] 3)) w.heap.size (.slice (some ⟨w1.heap.size,0,none⟩) 0 0) 0):=hZz (own_base (own_empty w1 3 1) HB1.out.size);have HX1':=hZz (HX1.out.alloc (.cells #[] 3));have HB1':=hZz (HB1.out.alloc HB1.out.size (.cells #[] 3));go_wp2_with (fail)
   clear x1;go_loopw [7,8] (fun dv iv wr=>∃ (k:Nat) (e:Nat),k≤c.fns.length∧iv=.int .i64 k∧e≤L∧Hid ((fnsF c (c.fns.drop k) k e).2=0)∧Hid (insAll c (c.fns.drop k)=X)∧Hid (DepOwn wr w.heap.size dv e)∧Hid (Blk wr w.heap.size 31 #[.slice A c.fns.length ncap,.slice B L icap])∧Hid (Below w.heap.size w wr)) (fun _ iv _=>c.fns.length - (intOf iv).toNat)
   case atStart=>exact ⟨0,0,Nat.zero_le _,rfl,Nat.zero_le _,hZz (by rw [List.drop_zero,Int.natCast_zero,HRF.out]),hZz HXX.out,HO0,HX1',HB1'⟩
   case round =>
    obtain ⟨k,e,hk,rfl,heL,HFE,HE,HOR,HXR,HB⟩:=hrel;have hk0:(0:Int)≤(k:Int):=by omega
    have b0':=blk2 HXR.out;by_cases hlt:k<c.fns.length
    ·have hlt':(k:Int)<(c.fns.length:Int):=by omega
     have hk9:(k:Int)≤40:=by omega
     have hsa:=HF.out.below HB.out;obtain ⟨b,off,hAe,_⟩:=hsa.ptr hlt;subst hAe;obtain ⟨f,hf⟩:∃ f,c.fns[k]=f:=⟨_,rfl⟩
     have HSF:=hZz (HSM.out f (hf ▸ List.getElem_mem hlt));have HFS:Hid (f.entry=(e:Int)∧(fnsF c (c.fns.drop (k+1)) (k+1) f.fin).2=0):=hZz (by have:=fns_step hlt HFE.out;rw [hf] at this;exact ⟨this.1,this.2.2.2.2.2⟩);have HE2:Hid (insFrom c f (c.fns.drop (k+1)) f.entry.toNat=X):=hZz (by rw [← HE.out,insAll_drop c k hlt (by rw [hf];exact HSF.out.1),hf]);have c0:=hsa.cell0 hlt (v:=.string f.name) (by rw [hf];rfl);have c1:=hsa.cell hlt (j:=1) (v:=.int .i64 f.params) (by rw [hf];rfl);have c2:=hsa.cell hlt (j:=2) (v:=.int .i64 f.locals) (by rw [hf];rfl);have c3:=hsa.cell hlt (j:=3) (v:=.int .i64 f.entry) (by rw [hf];rfl);have c4:=hsa.cell hlt (j:=4) (v:=.int .i64 f.fin) (by rw [hf];rfl);have HCF:Hid (∀ (i:InsD) (kv:Value) (wx:World),InsOk i→KeysV wx kv i.keys→Calls prog 74 #[.agg #[.slice (some ⟨b,off,none⟩) c.fns.length ncap,.slice B L icap],.agg #[.string f.name,.int .i64 f.params,.int .i64 f.locals,.int .i64 f.entry,.int .i64 f.fin],.agg #[.int .i64 i.op,.int .i64 i.a,.string i.s,kv]] wx fun e w'=>(∃ b,e=.returned (.bool b)∧(b=true↔FormedP (c.fns.length:Nat) f i))∧Below wx.heap.size wx w'):=hZz (fun i kv wx h1 h4=>rformed_any c.fns.length ncap (some ⟨b,off,none⟩) B f i kv wx HNF.out HSF.out.1 h1 h4 L icap);obtain ⟨name,params,locals,entry,fin⟩:=f;dsimp only at c0 c1 c2 c3 c4 HCF HE2 HFS;obtain ⟨e0,he0⟩:∃ e0:Nat,entry=e0:=⟨entry.toNat,by have:=HSF.out.1.2.2;dsimp only at this;omega⟩
     obtain ⟨b0,hb0⟩:∃ b0:Nat,fin=b0:=⟨fin.toNat,by have:=HSF.out.1.2.2;dsimp only at this;omega⟩
     subst he0 hb0;have hee:e=e0:=by have:=HFS.out.1;omega
     obtain rfl:e0=e:=hee.symm;clear hee;have HFE2:=hZz HFS.out.2;clear HFS HFE;have hbL:b0≤L:=by have:=HSF.out.2;dsimp only at this;omega
     have heb:e0<b0:=by have:=HSF.out.1.2.2;dsimp only at this;omega
     have HE3:Hid (insFrom c ⟨name,params,locals,e0,b0⟩ (c.fns.drop (k+1)) e0=X):=hZz (by have:=HE2.out;simpa using this);clear HE2 hsa hf;obtain ⟨g1,hg1⟩:∃ g,wr.heap.size=g:=⟨_,rfl⟩
     have HG1:=hZz hg1;have HY:=hZz (Blk.new' (w:=wr) (t:=50) (cs:=#[.string name,.int .i64 params,.int .i64 locals,.int .i64 e0,.int .i64 b0]) hg1.symm);have HORa:Hid (DepOwn (wr.alloc (.cells #[.string name,.int .i64 params,.int .i64 locals,.int .i64 e0,.int .i64 b0] 50)) w.heap.size _ e0):=hZz (zagZ HOR.out (zacZ wr _));have HBf:=hZz (HB.out.alloc HB.out.size (.cells #[.string name,.int .i64 params,.int .i64 locals,.int .i64 e0,.int .i64 b0] 50));have HXa:=hZz (HXR.out.alloc (.cells #[.string name,.int .i64 params,.int .i64 locals,.int .i64 e0,.int .i64 b0] 50));clear hg1;go_wp2_with (fail)
     rw [HG1.out];clear c0 c1 c2 c3 c4 b0';go_loopw [7,10] (fun dv iv wi=>∃ i:Nat,e0≤i∧i≤b0∧iv=.int .i64 i∧Hid (insFrom c ⟨name,params,locals,e0,b0⟩ (c.fns.drop (k+1)) i=X)∧Hid (DepOwn wi w.heap.size dv i)∧Hid (Blk wi w.heap.size 31 #[.slice (some ⟨b,off,none⟩) c.fns.length ncap,.slice B L icap])∧Hid (Blk wi g1 50 #[.string name,.int .i64 params,.int .i64 locals,.int .i64 e0,.int .i64 b0])∧Hid (Below w.heap.size w wi)) (fun _ iv _=>b0 - (intOf iv).toNat)
     case atStart=>exact ⟨e0,Nat.le_refl _,by omega,rfl,HE3,HORa,HXa,HY,HBf⟩
     case round =>
      obtain ⟨i,hi0,hi1,rfl,HEI,HOI,HXI,HYI,HBI⟩:=hrel;have hiz:(0:Int)≤(i:Int):=by omega
      have x0:=blk2 HXI.out;have y0:=blk5 HYI.out;by_cases hlti:i<b0
      ·have hlti':(i:Int)<(b0:Int):=by omega
       have hiL:(i:Int)<(L:Int):=by omega
       have hki:i<c.ins.length:=by rw [HLE.out];omega
       obtain ⟨bI,offI,kv,hB,_,q0,q1,q2,q3,hkv⟩:=(HI.out.below HBI.out).at hki;subst hB;have HKV:=hZz hkv;have HST:=hZz (zchY c ⟨name,params,locals,e0,b0⟩ (c.fns.drop (k+1)) i (by simpa using hlti) hki);have HOX:=hZz (HOK.out _ (List.getElem_mem hki));obtain ⟨x,hx⟩:∃ x,c.ins[i]'hki=x:=⟨_,rfl⟩
       rw [hx] at q0 q1 q2 HKV HST HOX;have HXE:Hid (c.ins[i]? = some x):=hZz (by rw [List.getElem?_eq_getElem hki,hx]);clear hkv hx;obtain ⟨op,a,s,keys⟩:=x;dsimp only at q0 q1 q2 HKV HST HOX;have HST2:=hZz (HST.out.symm.trans HEI.out);clear HST HEI;have hib:(i:Int)≤4000:=by omega
       clear hki;go_upto_region 14 with fail
       go_still_tail 7,(by kernel_rfl)
       change wpList _ _ _ _ _ wr.drew
       have HXd:=hZz HXI.out.drew;have HYd:=hZz HYI.out.drew;have HOd:Hid (DepOwn wr.drew w.heap.size _ i):=hZz HOI.out;have HBd:=hZz HBI.out.drew;have HKd:Hid (KeysV wr.drew kv keys):=hZz HKV.out;obtain ⟨wd,hwd⟩:∃ wd,wr.drew=wd:=⟨_,rfl⟩
       rw [hwd] at HXd HYd HOd HBd HKd ⊢;clear hwd
       go_upto_region 16 with (first
        | (go_at_call 74;(with_reducible refine (HCF.out ⟨op,a,s,keys⟩ _ _ HOX.out HKd.out).mono ?_);rintro e3 w3 ⟨⟨bb,rfl,hbb⟩,hb3⟩;have HQ:=hZz hbb;have HX3:=hZz (HXd.out.below hb3);have HY3:=hZz (HYd.out.below hb3);have HO3:Hid (DepOwn w3 w.heap.size _ i):=hZz (zagZ HOd.out hb3);have HB3:=hZz (zaaZ hb3 HBd.out HBd.out.size);have HQO:=hZz ((HI.out.below HB3.out).op HXE.out);clear hbb hb3 q0 q1 q2 q3 x0 y0;cases bb))
       ·have HR:Hid (CodeR c ((i:Nat),1)):=hZz (HRI.out _ (by rw [← HST2.out,if_pos (fun h=>by have:=HQ.out.2 h;cases this)]))
        go_wp2_with (fail)
        rw [← HP.out];exact ⟨_,(((i:Nat):Int),1),rfl,HR.out,HB3.out⟩
       ·have HST3:=hZz ((if_neg (fun h=>h (HQ.out.1 (by trivial)))).symm.trans HST2.out)
        have y3:=blk5 HY3.out;have b0':=blk2 HX3.out;have qo:w3.cell? ⟨bI,offI+i * 4,none⟩=some (.int .i64 op):=HQO.out;clear HST2 HQ;by_cases hend:i+1=b0
        ·have hend':((i:Int) == (b0:Int) - 1)=true:=by simp;omega
         by_cases ho:op≠20∧op≠13
         ·have ho1:(op != 20)=true:=by simpa using ho.1
          have ho2:(op != 13)=true:=by simpa using ho.2
          have HR:Hid (CodeR c ((i:Nat),10)):=hZz (HRI.out _ (by rw [← HST3.out,if_pos ⟨by simpa using hend,ho.1,ho.2⟩]));clear ho hend;go_wp2_with (fail)
          rw [← HP.out];exact ⟨_,(((i:Nat):Int),10),rfl,HR.out,HB3.out⟩
         ·have HN:Hid (insFrom c ⟨name,params,locals,e0,b0⟩ (c.fns.drop (k+1)) (i+1)=X):=hZz (by rw [← HST3.out,if_neg (fun h=>ho h.2)])
          by_cases h20:op=20
          ·have ho1:(op != 20)=false:=by simpa using h20
           clear ho h20
           go_wp2_with (first
            | (at_builtin;refine zafY rfl (.tmp 87) (.tmp 88) 56 rfl i0 _ 8 underlying56 hi hz0 hz1 hz2 rfl (by omega) rfl HO3.out.own [.int .i64 (-1)] rfl rfl (by simp [Value.oneCell']) (by omega) (by omega) (by have:=HB3.out.size;omega) ?_;intro v' w6 hown6 hb6 hs6 hg6;have HO6:=hZz (dep_snoc hown6);have HX6:=hZz (HX3.out.grown hg6 (zafZ HO3.out.own HX3.out (by decide)));have HY6:=hZz (HY3.out.grown hg6 (zafZ HO3.out.own HY3.out (by decide)));have HB6:=hZz (HB3.out.trans hb6);clear hown6 hb6 hs6 hg6))
           exact ⟨⟨i+1,by omega,by omega,by simp,HN,HO6,HX6,HY6,HB6⟩,by simp [intOf];omega⟩
          ·have ho1:(op != 20)=true:=by simpa using h20
           have ho2:(op != 13)=false:=by simp;omega
           clear ho h20
           go_wp2_with (first
            | (at_builtin;refine zafY rfl (.tmp 87) (.tmp 88) 56 rfl i0 _ 8 underlying56 hi hz0 hz1 hz2 rfl (by omega) rfl HO3.out.own [.int .i64 (-1)] rfl rfl (by simp [Value.oneCell']) (by omega) (by omega) (by have:=HB3.out.size;omega) ?_;intro v' w6 hown6 hb6 hs6 hg6;have HO6:=hZz (dep_snoc hown6);have HX6:=hZz (HX3.out.grown hg6 (zafZ HO3.out.own HX3.out (by decide)));have HY6:=hZz (HY3.out.grown hg6 (zafZ HO3.out.own HY3.out (by decide)));have HB6:=hZz (HB3.out.trans hb6);clear hown6 hb6 hs6 hg6))
           exact ⟨⟨i+1,by omega,by omega,by simp,HN,HO6,HX6,HY6,HB6⟩,by simp [intOf];omega⟩
        ·have hend':((i:Int) == (b0:Int) - 1)=false:=by simp;omega
         have HN:Hid (insFrom c ⟨name,params,locals,e0,b0⟩ (c.fns.drop (k+1)) (i+1)=X):=hZz (by rw [← HST3.out,if_neg (fun h=>hend (by simpa using h.1))])
         go_wp2_with (first
            | (at_builtin;refine zafY rfl (.tmp 87) (.tmp 88) 56 rfl i0 _ 8 underlying56 hi hz0 hz1 hz2 rfl (by omega) rfl HO3.out.own [.int .i64 (-1)] rfl rfl (by simp [Value.oneCell']) (by omega) (by omega) (by have:=HB3.out.size;omega) ?_;intro v' w6 hown6 hb6 hs6 hg6;have HO6:=hZz (dep_snoc hown6);have HX6:=hZz (HX3.out.grown hg6 (zafZ HO3.out.own HX3.out (by decide)));have HY6:=hZz (HY3.out.grown hg6 (zafZ HO3.out.own HY3.out (by decide)));have HB6:=hZz (HB3.out.trans hb6);clear hown6 hb6 hs6 hg6))
         exact ⟨⟨i+1,by omega,by omega,by simp,HN,HO6,HX6,HY6,HB6⟩,by simp [intOf];omega⟩
      ·have hib0:i=b0:=by omega
       have HN:Hid (insAll c (c.fns.drop (k+1))=X):=hZz (by rw [← HEI.out];exact (insFrom_end c _ _ i (by simp;omega)).symm);have hnl:¬ (i:Int)<(b0:Int):=by omega
       have HOB:Hid (DepOwn wr w.heap.size _ b0):=hZz (hib0 ▸ HOI.out);clear hib0;go_wp2_with (fail)
       exact ⟨⟨k+1,b0,by omega,by simp,hbL,HFE2,HN,HOB,HXI,HBI⟩,by simp [intOf];omega⟩
    ·have ek:k=c.fns.length:=by omega
     have HXN:Hid (X=none):=hZz (by rw [← HE.out,ek,List.drop_length];rfl);have HGD:Hid (∀ f∈c.fns,GoodF c f):=hZz (good_all (by rw [HLE.out];exact h4n) (by rw [HRF.out]) (by rw [HXX.out,HXN.out]))
     have heL':e=L:=by
      have:=HFE.out
      rw [ek,List.drop_length] at this
      have:=fns_end this
      rw [HLE.out] at this;omega
     subst heL';obtain ⟨gd,A5,cap5,rfl,hdep⟩:=HOR.out.open_ HXR.out;have HDP:=hZz hdep;have hnl:¬ (k:Int)<(c.fns.length:Int):=by omega
     clear ek HE hdep;go_wp2_with (fail)
     clear b0'
     have HCD:Hid (∀ (name:ByteArray) (params locals:Int) (e0 b0:Nat) (wx:World) (d:List Int),w.heap.size≤gd→GoodF c ⟨name,params,locals,e0,b0⟩→d.length=e→DBd d→DepAt wx gd d→Below w.heap.size w wx→gd<wx.heap.size →
       Calls prog 75 #[.agg #[.slice A c.fns.length ncap,.slice B e icap],.agg #[.string name,.int .i64 params,.int .i64 locals,.int .i64 e0,.int .i64 b0],.slice (some ⟨gd,0,none⟩) e cap5] wx fun e' w'=>∃ k d',e'=.returned (.int .i64 k)∧FollowR c e0 b0 (List.replicate c.ins.length false) (d.set e0 0) (k,d')∧DepAt w' gd d'∧d'.length=e∧DBd d'∧wx.grownBy w' (some gd)):=hZz (fun name params locals e0 b0 wx d h0 h1 h2 h3 h4 h5 h6=>by
      have:=follow_any c name params locals e0 b0 A B ncap icap cap5 w wx gd d (by rw [HLE.out];exact h4n) HNF.out HF.out HI.out h5 h0 h6 h4 (by rw [h2,HLE.out]) h3 (fun f hf=>(HSM.out f hf).1) h1
      rw [h2,HLE.out] at this;rw [HLE.out];exact this)
     go_loopw [11] (fun iv w4=>∃ (k:Nat) (d:List Int),k≤c.fns.length∧iv=.int .i64 k∧d.length=e∧Hid (DBd d)∧Hid (∀ R,AllR c (c.fns.drop k) d R→AllR c c.fns (List.replicate c.ins.length (-1)) R)∧Hid (0<e→A5=some ⟨gd,0,none⟩∧w.heap.size≤gd∧gd≠w.heap.size∧gd<w4.heap.size∧DepAt w4 gd d)∧Hid (Blk w4 w.heap.size 31 #[.slice A c.fns.length ncap,.slice B e icap])∧Hid (Below w.heap.size w w4)) (fun iv _=>c.fns.length - (intOf iv).toNat)
     case atStart=>exact ⟨0,List.replicate e (-1),Nat.zero_le _,rfl,by simp,hZz (DBd.init e),hZz (fun R h=>by rw [HLE.out];exact h),HDP,HXR,HB⟩
     case round =>
      obtain ⟨k2,d,hk2,rfl,hdl,HDB,HAC,HDA,HX4,HB4⟩:=hrel;have hk20:(0:Int)≤(k2:Int):=by omega
      have x4:=blk2 HX4.out;by_cases hlt4:k2<c.fns.length
      ·have hlt4':(k2:Int)<(c.fns.length:Int):=by omega
       have hk9:(k2:Int)≤40:=by omega
       have hsa:=HF.out.below HB4.out;obtain ⟨b,off,hAe,_⟩:=hsa.ptr hlt4;subst hAe;obtain ⟨f,hf⟩:∃ f,c.fns[k2]=f:=⟨_,rfl⟩
       have HGF:=hZz (HGD.out f (hf ▸ List.getElem_mem hlt4));have HDR:Hid (c.fns.drop k2=f :: c.fns.drop (k2+1)):=hZz (by rw [← hf];exact List.drop_eq_getElem_cons hlt4);have c0:=hsa.cell0 hlt4 (v:=.string f.name) (by rw [hf];rfl);have c1:=hsa.cell hlt4 (j:=1) (v:=.int .i64 f.params) (by rw [hf];rfl);have c2:=hsa.cell hlt4 (j:=2) (v:=.int .i64 f.locals) (by rw [hf];rfl);have c3:=hsa.cell hlt4 (j:=3) (v:=.int .i64 f.entry) (by rw [hf];rfl);have c4:=hsa.cell hlt4 (j:=4) (v:=.int .i64 f.fin) (by rw [hf];rfl);have he0:0<e:=by have h1:=HGF.out.1.2.2;have h2:=HGF.out.2.1;rw [HLE.out] at h2;omega
       obtain ⟨hA5,hg1,hg2,hg3,hda⟩:=HDA.out he0;subst hA5;have HDX:=hZz hda;have HG1:=hZz hg1;have HG2:=hZz hg2;have HG3:=hZz hg3;obtain ⟨name,params,locals,entry,fin⟩:=f;dsimp only at c0 c1 c2 c3 c4;obtain ⟨e0,he0⟩:∃ e0:Nat,entry=e0:=⟨entry.toNat,by have:=HGF.out.1.2.2;dsimp only at this;omega⟩
       obtain ⟨b0,hb0⟩:∃ b0:Nat,fin=b0:=⟨fin.toNat,by have:=HGF.out.1.2.2;dsimp only at this;omega⟩
       subst he0 hb0;clear hsa hf hda hg1 hg2 hg3;go_upto_region 22 with fail
       go_still_tail 7,(by kernel_rfl)
       change wpList _ _ _ _ _ wr.drew
       have HXd:=hZz HX4.out.drew;have HDd:Hid (DepAt wr.drew gd d):=hZz HDX.out;have HBd:=hZz HB4.out.drew;have HGd:Hid (gd<wr.drew.heap.size):=hZz HG3.out;obtain ⟨wd,hwd⟩:∃ wd,wr.drew=wd:=⟨_,rfl⟩
       rw [hwd] at HXd HDd HBd HGd ⊢;clear hwd
       go_upto_region 23 with (first
        | (go_at_call 75;(with_reducible refine (HCD.out name params locals e0 b0 _ d HG1.out HGF.out hdl HDB.out HDd.out HBd.out HGd.out).mono ?_);rintro e5 w5 ⟨r,d',rfl,hfr,hda5,hdl5,hdb5,hg5⟩;have HFR:=hZz hfr;have HD5:=hZz hda5;have HDB5:=hZz hdb5;have HX5:=hZz (HXd.out.grown hg5 (fun hh=>by injection hh with hh;exact HG2.out hh.symm));have HB5:=hZz (HBd.out.grown hg5 HBd.out.size (fun kk hkk=>by injection hkk with hkk;have:=HG1.out;omega));have HZ5:=hZz (Nat.lt_of_lt_of_le HGd.out hg5.size);clear hfr hda5 hdb5 hg5 c0 c1 c2 c3 c4 x4))
       have HNG:=hZz HFR.out.neg;by_cases hr:0≤r
       ·have HR:Hid (CodeR c (r,21)):=hZz (CodeR.stack r d' HBIG.out (by rw [HRF.out]) (by rw [HXX.out,HXN.out]) (HAC.out _ (by rw [HDR.out];exact AllR.bad _ _ _ _ _ (by simpa using HFR.out) hr)) hr)
        go_wp2_with (fail)
        rw [← HP.out];exact ⟨_,(r,21),rfl,HR.out,HB5.out⟩
       ·have hr1:r=-1:=by have:=HNG.out;dsimp only at this;omega
        subst hr1;have HAC2:Hid (∀ R,AllR c (c.fns.drop (k2+1)) d' R→AllR c c.fns (List.replicate c.ins.length (-1)) R):=hZz (fun R h=>HAC.out R (by rw [HDR.out];exact AllR.go _ _ _ _ _ (by simpa using HFR.out) h));clear hr;go_wp2_with (fail)
        exact ⟨⟨k2+1,d',by omega,by simp,hdl5,HDB5,HAC2,hZz (fun _=>⟨by trivial,HG1.out,HG2.out,HZ5.out,HD5.out⟩),HX5,HB5⟩,by simp [intOf];omega⟩
      ·have hnl4:¬ (k2:Int)<(c.fns.length:Int):=by omega
       have HR:Hid (CodeR c (0,0)):=hZz (CodeR.ok d HBIG.out (by rw [HRF.out]) (by rw [HXX.out,HXN.out]) (HAC.out _ (by rw [show k2=c.fns.length by omega,List.drop_length];exact AllR.nil d)));go_wp2_with (fail)
       rw [← HP.out];exact ⟨_,(0,0),rfl,HR.out,HB4.out⟩
  ·have HR:Hid (CodeR c (r1,r2)):=hZz (CodeR.fn _ HBIG.out HRF.out hr2)
   have hne:(r2 != 0)=true:=by simpa using hr2
   have HX0':=hZz (blk2 HX0.out);have x0:=HX0'.out;clear hr2
   go_wp2_with (first
    | (go_at_call 73;(with_reducible refine (HFN.out _ (HF.out.below HB0.out)).mono ?_);rintro e1 w1 ⟨rfl,hb1⟩;have HX1:=hZz (HX0.out.below hb1);have HB1:=hZz (zaaZ hb1 HB0.out HB0.out.size);clear hb1 x0))
   rw [← HP.out];exact ⟨_,(r1,r2),rfl,HR.out,HB1.out⟩
set_option maxHeartbeats 4000000 in
theorem rcheck11_any (c:CodeD) (A B:Option Addr) (ncap icap:Nat) (w:World) (hl:c.fns.length≤40) (hL:c.ins.length≤4100) (hn:∀ f∈c.fns,f.name.size≤1000) (hok:∀ i∈c.ins,InsOk i) (hF:SlAt w A 5 FnD.cells c.fns) (hI:InsV w B c.ins) :
  Calls prog 33 #[.agg #[.slice A c.fns.length ncap,.slice B c.ins.length icap]] w fun e w'=>∃ R,e=.returned (.tuple #[.int .i64 R.1,.int .i64 R.2])∧CodeR c R∧Below w.heap.size w w':=by
 have HB0:=zacZ w (.cells #[.slice A c.fns.length ncap,.slice B c.ins.length icap] 31);have HC:=hZz (checked_any c A B ncap icap _ hl hL hn hok (hF.below HB0) (hI.below HB0));have HX:=hZz (Blk.new w 31 #[.slice A c.fns.length ncap,.slice B c.ins.length icap]);have HB:=hZz HB0;obtain ⟨P,hP⟩:∃ P:Ending→World→Prop,(fun e w'=>∃ R,e=.returned (.tuple #[.int .i64 R.1,.int .i64 R.2])∧CodeR c R∧Below w.heap.size w w')=P:=⟨_,rfl⟩
 rw [hP];have HP:=hZz hP;have x0:=blk2 HX.out;clear HB0 hP hl hL hn hok hF hI;go_enter func33,ntmps33
 go_wp2_with (first
  | (go_at_call 47;(with_reducible refine HC.out.mono ?_);rintro e1 w1 ⟨v,R,rfl,hr,hb1⟩;have HR:=hZz hr;have HB1:=hZz (zaaZ hb1 HB.out HB.out.size);clear hr hb1))
 rw [← HP.out];exact ⟨R,rfl,HR.out,HB1.out⟩
end Go.Proofs.YthiimbhjpdphpaaGreatDoor
