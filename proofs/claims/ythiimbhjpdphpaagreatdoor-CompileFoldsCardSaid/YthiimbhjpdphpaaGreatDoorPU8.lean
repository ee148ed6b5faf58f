/- U3, U4, U7, U8 -/
import Derived.Test.YthiimbhjpdphpaaGreatDoorPU2
set_option linter.unusedVariables false
set_option linter.unusedSimpArgs false
namespace Go.Proofs.YthiimbhjpdphpaaGreatDoor
open Go.RowKit
set_option maxRecDepth 100000
open Go.Proofs.Tryz
section
def fitsAt (l:List NodeD) (n:NodeD) (j:Nat):Bool:=fitsB n.kind j (l.getD (n.kids.getD j (-1)).toNat noNode).kind
def partsB (l:List NodeD) (n:NodeD):Bool:=countB n && (List.range n.kids.length).all (fitsAt l n)
attribute [local go_sem] zacZ
set_option maxHeartbeats 4000000 in
theorem statement8_s (k:Int) (t:ByteArray) (j:Int) (kA iA:Option Addr) (q kc m ic:Nat) (w:World):Calls prog 167 #[.agg #[.int .i64 k,.string t,.int .i64 j,.slice kA q kc,.slice iA m ic]] w fun e w'=>e=.returned (.bool (decide (13≤k) && decide (k≤18)))∧Below w.heap.size w w':=by
 have HB:=hZz (zabZ w (.cells #[.int .i64 k,.string t,.int .i64 j,.slice kA q kc,.slice iA m ic] 58));go_enter func167,ntmps167
 go_wp2
 all_goals (go_returns;exact ⟨by first | (simp_all;done) | (simp_all;omega),HB.out⟩)
set_option maxHeartbeats 4000000 in
theorem zarY (k:Int) (t:ByteArray) (j:Int) (kA iA:Option Addr) (q kc m ic:Nat) (w:World):Calls prog 168 #[.agg #[.int .i64 k,.string t,.int .i64 j,.slice kA q kc,.slice iA m ic]] w fun e w'=>e=.returned (.bool (decide (1≤k) && decide (k≤12)))∧Below w.heap.size w w':=by
 have HB:=hZz (zabZ w (.cells #[.int .i64 k,.string t,.int .i64 j,.slice kA q kc,.slice iA m ic] 58));go_enter func168,ntmps168
 go_wp2
 all_goals (go_returns;exact ⟨by first | (simp_all;done) | (simp_all;omega),HB.out⟩)
set_option maxHeartbeats 16000000 in
theorem parts8S_s (l:List NodeD) (A:Option Addr) (cap:Nat) (k:Int) (t:ByteArray) (j0:Int) (ks:List ByteArray) (is:List Int) (kA iA:Option Addr) (kc ic:Nat) (w:World) (hN:NodesV w (.slice A l.length cap) l) (hi:SlAt w iA 1 (fun x=>[Value.int .i64 x]) is) (hkid:∀ x∈is,0≤x∧x<l.length) (hm:is.length≤1000) (hl:l.length≤1000) (hk:k=19):Calls prog 127 #[.slice A l.length cap,.agg #[.int .i64 k,.string t,.int .i64 j0,.slice kA ks.length kc,.slice iA is.length ic]] w fun e w'=>e=.returned (.bool (partsB l ⟨k,t,j0,ks,is⟩))∧Below w.heap.size w w':=by
 obtain ⟨nd,hnd⟩:∃ nd,(⟨k,t,j0,ks,is⟩:NodeD)=nd:=⟨_,rfl⟩
 have HKI:Hid (nd.kids=is):=hZz (by rw [← hnd]);have HKK:Hid (nd.kind=k):=hZz (by rw [← hnd]);rw [hnd];obtain ⟨P,hP⟩:∃ P:Ending→World→Prop,(fun e w'=>e=.returned (.bool (partsB l nd))∧Below w.heap.size w w')=P:=⟨_,rfl⟩
 rw [hP]
 have HPF:Hid (∀ j,j<is.length→fitsAt l nd j=false→∀ w',Below w.heap.size w w'→P (.returned (.bool false)) w'):=hZz (fun j hj hf w' h2=>by
  rw [← hP];refine ⟨?_,h2⟩
  have:(List.range is.length).all (fitsAt l nd)=false:=by
   rw [List.all_eq_false];exact ⟨j,by simpa using hj,by rw [hf];simp⟩
  unfold partsB;rw [HKI.out,this,Bool.and_false])
 have HPT:Hid (countB nd=true→(∀ j,j<is.length→fitsAt l nd j=true)→∀ w',Below w.heap.size w w'→P (.returned (.bool true)) w'):=hZz (fun hc hf w' h2=>by
  rw [← hP];refine ⟨?_,h2⟩
  have:(List.range is.length).all (fitsAt l nd)=true:=by
   rw [List.all_eq_true];exact fun j hj=>hf j (by simpa using hj)
  unfold partsB;rw [HKI.out,this,hc];rfl)
 obtain ⟨m,hmm⟩:∃ m,is.length=m:=⟨_,rfl⟩
 obtain ⟨q,hq⟩:∃ m,ks.length=m:=⟨_,rfl⟩
 obtain ⟨nl,hnl⟩:∃ m,l.length=m:=⟨_,rfl⟩
 have HPC:Hid (countB nd=cntK k m):=hZz (by rw [zcbY,HKK.out,HKI.out,hmm]);have HN:=hZz hN;have HI:=hZz hi;have HKD:=hZz hkid;have HM:=hZz hmm;have HL:=hZz hnl;rw [hmm] at hm;rw [hnl] at hl;rw [hmm,hq,hnl];obtain ⟨W1,hW1⟩:∃ W,w.alloc (.cells #[.int .i64 k,.string t,.int .i64 j0,.slice kA q kc,.slice iA m ic] 58)=W:=⟨_,rfl⟩
 obtain ⟨g,hg⟩:∃ g,w.heap.size=g:=⟨_,rfl⟩
 have hb1:Below w.heap.size w W1:=by rw [← hW1];exact zabZ _ _
 have HB1:=hZz hb1;have HX1:Hid (Blk W1 g 58 #[.int .i64 k,.string t,.int .i64 j0,.slice kA q kc,.slice iA m ic]):=hZz (by rw [← hW1,← hg];exact Blk.new _ _ _);have HG:=hZz hg;have HW1:=hZz hW1;clear hP hnd hN hi hkid hmm hq hnl hg hW1 hb1;subst hk
 all_goals
  go_enter func127,ntmps127
  go_upto_region 1 with fail
  rw [HG.out,HW1.out];clear HG HW1;have x1:=zalZ HX1.out;go_upto_region 8 with (fail)
  try go_wp2_with (fail)
  clear x1
  try clear e1
  try clear e2
  go_loopw [7,8] (fun jv _ wr=>∃ j:Nat,j≤m∧jv=.int .i64 j∧Hid (∀ i,i<j→fitsAt l nd i=true)∧Hid (Below W1.heap.size W1 wr)) (fun jv _ _=>m - (intOf jv).toNat)
  case atStart=>exact ⟨0,Nat.zero_le _,rfl,hZz (fun i h=>by omega),hZz (Below.refl _ _)⟩
  case round =>
   obtain ⟨j,hj,rfl,HR,HBr⟩:=hrel;have hj0:(0:Int)≤(j:Int):=by omega
   have HBw:=hZz (zaaZ HBr.out HB1.out HB1.out.size);have x1:=zalZ (HX1.out.below HBr.out);by_cases hlt:j<m
   ·have hlt':(j:Int)<(m:Int):=by omega
    have hjl:j<is.length:=by rw [HM.out];exact hlt
    have hkd:=HKD.out _ (List.getElem_mem hjl);obtain ⟨y,hy⟩:∃ y:Nat,is[j]=(y:Int):=⟨(is[j]).toNat,by omega⟩
    have hs:=HI.out.below HBw.out;obtain ⟨bA,off,rfl,_⟩:=hs.ptr hjl;have c0:=hs.cell0 hjl (v:=.int .i64 (y:Nat)) (by rw [hy];rfl);rw [Nat.mul_one] at c0;rw [hy] at hkd;have hyl:y<l.length:=by omega
    obtain ⟨b1,o1,kB,kd,iB,id,hA,_,d0,d1,d2,d3,d4,hz1,hz2⟩:=zalY (zaeY zajY _ _ _ _ HN.out HBw.out) hyl;subst hA;obtain ⟨kk,hkk⟩:∃ x,(l[y]).kind=x:=⟨_,rfl⟩
    obtain ⟨kt,hkt⟩:∃ x,(l[y]).text=x:=⟨_,rfl⟩
    obtain ⟨kj,hkj⟩:∃ x,(l[y]).int=x:=⟨_,rfl⟩
    obtain ⟨kq,hkq⟩:∃ x,(l[y]).keys.length=x:=⟨_,rfl⟩
    obtain ⟨km,hkm⟩:∃ x,(l[y]).kids.length=x:=⟨_,rfl⟩
    have hft:fitsAt l nd j=fitsB nd.kind j kk:=by
     unfold fitsAt;rw [HKI.out,zakZ hjl,hy,Int.toNat_natCast,zakZ hyl,hkk]
    have HFT:=hZz hft;have HJL:=hZz hjl;rw [hkk] at d0;rw [hkt] at d1;rw [hkj] at d2;rw [hkq] at d3;rw [hkm] at d4;have hy0:(0:Int)≤(y:Int):=by omega
    have hy1:(y:Int)<(nl:Int):=by have:=HL.out;omega
    obtain ⟨V1,hV1⟩:∃ W,wr.alloc (.cells #[.int .i64 kk,.string kt,.int .i64 kj,.slice kB kq kd,.slice iB km id] 58)=W:=⟨_,rfl⟩
    obtain ⟨gv,hgv⟩:∃ g,wr.heap.size=g:=⟨_,rfl⟩
    have hv1:Below wr.heap.size wr V1:=by rw [← hV1];exact zabZ _ _
    have HV1:=hZz (zaaZ hv1 HBr.out HBr.out.size);have HY1:Hid (Blk V1 gv 58 #[.int .i64 kk,.string kt,.int .i64 kj,.slice kB kq kd,.slice iB km id]):=hZz (by rw [← hV1,← hgv];exact Blk.new _ _ _);have HVG:=hZz hgv;have HVV:=hZz hV1;clear hz1 hz2;clear hs hkk hkt hkj hkq hkm hft hgv hV1 hv1 hkd hy hyl hjl;go_upto_region 11 with (fail)
    rw [HVG.out,HVV.out];clear x1 c0 d0 d1 d2 d3 d4;have y1:=zalZ HY1.out;obtain ⟨b1,hb1⟩:∃ b,(decide (13≤kk) && decide (kk≤18))=b:=⟨_,rfl⟩
    have HC:=hZz (statement8_s kk kt kj kB iB kq kd km id V1);rw [hb1] at HC;have HB9:Hid (fitsAt l nd j=b1):=hZz (by rw [HFT.out,HKK.out,← hb1];unfold fitsB;simp);clear hb1;cases b1 with
    | false =>
     go_wp2_with (first
      | (go_at_call 167;((with_reducible refine HC.out.mono ?_);rintro e w3 ⟨rfl,hb3⟩;have HB3:=hZz (zaaZ hb3 HV1.out HV1.out.size);clear hb3)))
     exact HPF.out j HJL.out HB9.out _ (zaaZ HB3.out HB1.out HB1.out.size)
    | true =>
     go_wp2_with (first
      | (go_at_call 167;((with_reducible refine HC.out.mono ?_);rintro e w3 ⟨rfl,hb3⟩;have HB3:=hZz (zaaZ hb3 HV1.out HV1.out.size);clear hb3)))
     exact ⟨⟨j+1,by omega,by simp,hZz (fun i h=>by
      by_cases e:i=j
      ·subst e;exact HB9.out
      ·exact HR.out i (by omega)),HB3⟩,by simp [intOf];omega⟩
   ·have e9:j=m:=by omega
    subst e9;go_wp2_with (fail)
    exact HPT.out (by rw [HPC.out];first | rfl | (unfold cntK;simp;done) | (unfold cntK;simp [*];done) | (unfold cntK;simp;omega)) (fun i h=>HR.out i (by have:=HM.out;omega)) _ HBw.out
set_option maxHeartbeats 16000000 in
theorem parts8E_s (l:List NodeD) (A:Option Addr) (cap:Nat) (k:Int) (t:ByteArray) (j0:Int) (ks:List ByteArray) (is:List Int) (kA iA:Option Addr) (kc ic:Nat) (w:World) (hN:NodesV w (.slice A l.length cap) l) (hi:SlAt w iA 1 (fun x=>[Value.int .i64 x]) is) (hkid:∀ x∈is,0≤x∧x<l.length) (hm:is.length≤1000) (hl:l.length≤1000) (hk:k=6∨k=7∨k=11∨k=12):Calls prog 127 #[.slice A l.length cap,.agg #[.int .i64 k,.string t,.int .i64 j0,.slice kA ks.length kc,.slice iA is.length ic]] w fun e w'=>e=.returned (.bool (partsB l ⟨k,t,j0,ks,is⟩))∧Below w.heap.size w w':=by
 obtain ⟨nd,hnd⟩:∃ nd,(⟨k,t,j0,ks,is⟩:NodeD)=nd:=⟨_,rfl⟩
 have HKI:Hid (nd.kids=is):=hZz (by rw [← hnd]);have HKK:Hid (nd.kind=k):=hZz (by rw [← hnd]);rw [hnd];obtain ⟨P,hP⟩:∃ P:Ending→World→Prop,(fun e w'=>e=.returned (.bool (partsB l nd))∧Below w.heap.size w w')=P:=⟨_,rfl⟩
 rw [hP]
 have HPF:Hid (∀ j,j<is.length→fitsAt l nd j=false→∀ w',Below w.heap.size w w'→P (.returned (.bool false)) w'):=hZz (fun j hj hf w' h2=>by
  rw [← hP];refine ⟨?_,h2⟩
  have:(List.range is.length).all (fitsAt l nd)=false:=by
   rw [List.all_eq_false];exact ⟨j,by simpa using hj,by rw [hf];simp⟩
  unfold partsB;rw [HKI.out,this,Bool.and_false])
 have HPT:Hid (countB nd=true→(∀ j,j<is.length→fitsAt l nd j=true)→∀ w',Below w.heap.size w w'→P (.returned (.bool true)) w'):=hZz (fun hc hf w' h2=>by
  rw [← hP];refine ⟨?_,h2⟩
  have:(List.range is.length).all (fitsAt l nd)=true:=by
   rw [List.all_eq_true];exact fun j hj=>hf j (by simpa using hj)
  unfold partsB;rw [HKI.out,this,hc];rfl)
 obtain ⟨m,hmm⟩:∃ m,is.length=m:=⟨_,rfl⟩
 obtain ⟨q,hq⟩:∃ m,ks.length=m:=⟨_,rfl⟩
 obtain ⟨nl,hnl⟩:∃ m,l.length=m:=⟨_,rfl⟩
 have HPC:Hid (countB nd=cntK k m):=hZz (by rw [zcbY,HKK.out,HKI.out,hmm]);have HN:=hZz hN;have HI:=hZz hi;have HKD:=hZz hkid;have HM:=hZz hmm;have HL:=hZz hnl;rw [hmm] at hm;rw [hnl] at hl;rw [hmm,hq,hnl];obtain ⟨W1,hW1⟩:∃ W,w.alloc (.cells #[.int .i64 k,.string t,.int .i64 j0,.slice kA q kc,.slice iA m ic] 58)=W:=⟨_,rfl⟩
 obtain ⟨g,hg⟩:∃ g,w.heap.size=g:=⟨_,rfl⟩
 have hb1:Below w.heap.size w W1:=by rw [← hW1];exact zabZ _ _
 have HB1:=hZz hb1;have HX1:Hid (Blk W1 g 58 #[.int .i64 k,.string t,.int .i64 j0,.slice kA q kc,.slice iA m ic]):=hZz (by rw [← hW1,← hg];exact Blk.new _ _ _);have HG:=hZz hg;have HW1:=hZz hW1;clear hP hnd hN hi hkid hmm hq hnl hg hW1 hb1;rcases hk with hk | hk | hk | hk
 all_goals subst hk
 all_goals
  go_enter func127,ntmps127
  go_upto_region 1 with fail
  rw [HG.out,HW1.out];clear HG HW1;have x1:=zalZ HX1.out;go_upto_region 8 with (fail)
  try go_wp2_with (fail)
  clear x1
  try clear e1
  try clear e2
  go_loopw [7,8] (fun jv _ wr=>∃ j:Nat,j≤m∧jv=.int .i64 j∧Hid (∀ i,i<j→fitsAt l nd i=true)∧Hid (Below W1.heap.size W1 wr)) (fun jv _ _=>m - (intOf jv).toNat)
  case atStart=>exact ⟨0,Nat.zero_le _,rfl,hZz (fun i h=>by omega),hZz (Below.refl _ _)⟩
  case round =>
   obtain ⟨j,hj,rfl,HR,HBr⟩:=hrel;have hj0:(0:Int)≤(j:Int):=by omega
   have HBw:=hZz (zaaZ HBr.out HB1.out HB1.out.size);have x1:=zalZ (HX1.out.below HBr.out);by_cases hlt:j<m
   ·have hlt':(j:Int)<(m:Int):=by omega
    have hjl:j<is.length:=by rw [HM.out];exact hlt
    have hkd:=HKD.out _ (List.getElem_mem hjl);obtain ⟨y,hy⟩:∃ y:Nat,is[j]=(y:Int):=⟨(is[j]).toNat,by omega⟩
    have hs:=HI.out.below HBw.out;obtain ⟨bA,off,rfl,_⟩:=hs.ptr hjl;have c0:=hs.cell0 hjl (v:=.int .i64 (y:Nat)) (by rw [hy];rfl);rw [Nat.mul_one] at c0;rw [hy] at hkd;have hyl:y<l.length:=by omega
    obtain ⟨b1,o1,kB,kd,iB,id,hA,_,d0,d1,d2,d3,d4,hz1,hz2⟩:=zalY (zaeY zajY _ _ _ _ HN.out HBw.out) hyl;subst hA;obtain ⟨kk,hkk⟩:∃ x,(l[y]).kind=x:=⟨_,rfl⟩
    obtain ⟨kt,hkt⟩:∃ x,(l[y]).text=x:=⟨_,rfl⟩
    obtain ⟨kj,hkj⟩:∃ x,(l[y]).int=x:=⟨_,rfl⟩
    obtain ⟨kq,hkq⟩:∃ x,(l[y]).keys.length=x:=⟨_,rfl⟩
    obtain ⟨km,hkm⟩:∃ x,(l[y]).kids.length=x:=⟨_,rfl⟩
    have hft:fitsAt l nd j=fitsB nd.kind j kk:=by
     unfold fitsAt;rw [HKI.out,zakZ hjl,hy,Int.toNat_natCast,zakZ hyl,hkk]
    have HFT:=hZz hft;have HJL:=hZz hjl;rw [hkk] at d0;rw [hkt] at d1;rw [hkj] at d2;rw [hkq] at d3;rw [hkm] at d4;have hy0:(0:Int)≤(y:Int):=by omega
    have hy1:(y:Int)<(nl:Int):=by have:=HL.out;omega
    obtain ⟨V1,hV1⟩:∃ W,wr.alloc (.cells #[.int .i64 kk,.string kt,.int .i64 kj,.slice kB kq kd,.slice iB km id] 58)=W:=⟨_,rfl⟩
    obtain ⟨gv,hgv⟩:∃ g,wr.heap.size=g:=⟨_,rfl⟩
    have hv1:Below wr.heap.size wr V1:=by rw [← hV1];exact zabZ _ _
    have HV1:=hZz (zaaZ hv1 HBr.out HBr.out.size);have HY1:Hid (Blk V1 gv 58 #[.int .i64 kk,.string kt,.int .i64 kj,.slice kB kq kd,.slice iB km id]):=hZz (by rw [← hV1,← hgv];exact Blk.new _ _ _);have HVG:=hZz hgv;have HVV:=hZz hV1;clear hz1 hz2;clear hs hkk hkt hkj hkq hkm hft hgv hV1 hv1 hkd hy hyl hjl;go_upto_region 11 with (fail)
    rw [HVG.out,HVV.out];clear x1 c0 d0 d1 d2 d3 d4;have y1:=zalZ HY1.out;obtain ⟨b1,hb1⟩:∃ b,(decide (1≤kk) && decide (kk≤12))=b:=⟨_,rfl⟩
    have HC:=hZz (zarY kk kt kj kB iB kq kd km id V1);rw [hb1] at HC;have HB9:Hid (fitsAt l nd j=b1):=hZz (by rw [HFT.out,HKK.out,← hb1];unfold fitsB;simp);clear hb1;cases b1 with
    | false =>
     go_wp2_with (first
      | (go_at_call 168;((with_reducible refine HC.out.mono ?_);rintro e w3 ⟨rfl,hb3⟩;have HB3:=hZz (zaaZ hb3 HV1.out HV1.out.size);clear hb3)))
     exact HPF.out j HJL.out HB9.out _ (zaaZ HB3.out HB1.out HB1.out.size)
    | true =>
     go_wp2_with (first
      | (go_at_call 168;((with_reducible refine HC.out.mono ?_);rintro e w3 ⟨rfl,hb3⟩;have HB3:=hZz (zaaZ hb3 HV1.out HV1.out.size);clear hb3)))
     exact ⟨⟨j+1,by omega,by simp,hZz (fun i h=>by
      by_cases e:i=j
      ·subst e;exact HB9.out
      ·exact HR.out i (by omega)),HB3⟩,by simp [intOf];omega⟩
   ·have e9:j=m:=by omega
    subst e9;go_wp2_with (fail)
    exact HPT.out (by rw [HPC.out];first | rfl | (unfold cntK;simp;done) | (unfold cntK;simp [*];done) | (unfold cntK;simp;omega)) (fun i h=>HR.out i (by have:=HM.out;omega)) _ HBw.out
set_option maxHeartbeats 16000000 in
theorem parts8E0_s (l:List NodeD) (A:Option Addr) (cap:Nat) (k:Int) (t:ByteArray) (j0:Int) (ks:List ByteArray) (is:List Int) (kA iA:Option Addr) (kc ic:Nat) (w:World) (hN:NodesV w (.slice A l.length cap) l) (hi:SlAt w iA 1 (fun x=>[Value.int .i64 x]) is) (hkid:∀ x∈is,0≤x∧x<l.length) (hm:is.length≤1000) (hl:l.length≤1000) (hk:k=1∨k=2∨k=3∨k=4∨k=5) (hc:is.length=0):Calls prog 127 #[.slice A l.length cap,.agg #[.int .i64 k,.string t,.int .i64 j0,.slice kA ks.length kc,.slice iA is.length ic]] w fun e w'=>e=.returned (.bool (partsB l ⟨k,t,j0,ks,is⟩))∧Below w.heap.size w w':=by
 obtain ⟨nd,hnd⟩:∃ nd,(⟨k,t,j0,ks,is⟩:NodeD)=nd:=⟨_,rfl⟩
 have HKI:Hid (nd.kids=is):=hZz (by rw [← hnd]);have HKK:Hid (nd.kind=k):=hZz (by rw [← hnd]);rw [hnd];obtain ⟨P,hP⟩:∃ P:Ending→World→Prop,(fun e w'=>e=.returned (.bool (partsB l nd))∧Below w.heap.size w w')=P:=⟨_,rfl⟩
 rw [hP]
 have HPF:Hid (∀ j,j<is.length→fitsAt l nd j=false→∀ w',Below w.heap.size w w'→P (.returned (.bool false)) w'):=hZz (fun j hj hf w' h2=>by
  rw [← hP];refine ⟨?_,h2⟩
  have:(List.range is.length).all (fitsAt l nd)=false:=by
   rw [List.all_eq_false];exact ⟨j,by simpa using hj,by rw [hf];simp⟩
  unfold partsB;rw [HKI.out,this,Bool.and_false])
 have HPT:Hid (countB nd=true→(∀ j,j<is.length→fitsAt l nd j=true)→∀ w',Below w.heap.size w w'→P (.returned (.bool true)) w'):=hZz (fun hc hf w' h2=>by
  rw [← hP];refine ⟨?_,h2⟩
  have:(List.range is.length).all (fitsAt l nd)=true:=by
   rw [List.all_eq_true];exact fun j hj=>hf j (by simpa using hj)
  unfold partsB;rw [HKI.out,this,hc];rfl)
 obtain ⟨m,hmm⟩:∃ m,is.length=m:=⟨_,rfl⟩
 obtain ⟨q,hq⟩:∃ m,ks.length=m:=⟨_,rfl⟩
 obtain ⟨nl,hnl⟩:∃ m,l.length=m:=⟨_,rfl⟩
 have HPC:Hid (countB nd=cntK k m):=hZz (by rw [zcbY,HKK.out,HKI.out,hmm]);have HN:=hZz hN;have HI:=hZz hi;have HKD:=hZz hkid;have HM:=hZz hmm;have HL:=hZz hnl;rw [hmm] at hm;rw [hnl] at hl;rw [hmm,hq,hnl];obtain ⟨W1,hW1⟩:∃ W,w.alloc (.cells #[.int .i64 k,.string t,.int .i64 j0,.slice kA q kc,.slice iA m ic] 58)=W:=⟨_,rfl⟩
 obtain ⟨g,hg⟩:∃ g,w.heap.size=g:=⟨_,rfl⟩
 have hb1:Below w.heap.size w W1:=by rw [← hW1];exact zabZ _ _
 have HB1:=hZz hb1;have HX1:Hid (Blk W1 g 58 #[.int .i64 k,.string t,.int .i64 j0,.slice kA q kc,.slice iA m ic]):=hZz (by rw [← hW1,← hg];exact Blk.new _ _ _);have HG:=hZz hg;have HW1:=hZz hW1;clear hP hnd hN hi hkid hmm hq hnl hg hW1 hb1;rw [HM.out] at hc;have HCM:=hZz hc;have e1:((m:Int) != 0)=false:=by rw [hc];rfl
 clear hc;rcases hk with hk | hk | hk | hk | hk
 all_goals subst hk
 all_goals
  go_enter func127,ntmps127
  go_upto_region 1 with fail
  rw [HG.out,HW1.out];clear HG HW1;have x1:=zalZ HX1.out;go_upto_region 8 with (fail)
  try go_wp2_with (fail)
  clear x1
  try clear e1
  try clear e2
  go_loopw [7,8] (fun jv _ wr=>∃ j:Nat,j≤m∧jv=.int .i64 j∧Hid (∀ i,i<j→fitsAt l nd i=true)∧Hid (Below W1.heap.size W1 wr)) (fun jv _ _=>m - (intOf jv).toNat)
  case atStart=>exact ⟨0,Nat.zero_le _,rfl,hZz (fun i h=>by omega),hZz (Below.refl _ _)⟩
  case round =>
   obtain ⟨j,hj,rfl,HR,HBr⟩:=hrel;have hj0:(0:Int)≤(j:Int):=by omega
   have HBw:=hZz (zaaZ HBr.out HB1.out HB1.out.size);have x1:=zalZ (HX1.out.below HBr.out);by_cases hlt:j<m
   ·have hlt':(j:Int)<(m:Int):=by omega
    have hjl:j<is.length:=by rw [HM.out];exact hlt
    have hkd:=HKD.out _ (List.getElem_mem hjl);obtain ⟨y,hy⟩:∃ y:Nat,is[j]=(y:Int):=⟨(is[j]).toNat,by omega⟩
    have hs:=HI.out.below HBw.out;obtain ⟨bA,off,rfl,_⟩:=hs.ptr hjl;have c0:=hs.cell0 hjl (v:=.int .i64 (y:Nat)) (by rw [hy];rfl);rw [Nat.mul_one] at c0;rw [hy] at hkd;have hyl:y<l.length:=by omega
    obtain ⟨b1,o1,kB,kd,iB,id,hA,_,d0,d1,d2,d3,d4,hz1,hz2⟩:=zalY (zaeY zajY _ _ _ _ HN.out HBw.out) hyl;subst hA;obtain ⟨kk,hkk⟩:∃ x,(l[y]).kind=x:=⟨_,rfl⟩
    obtain ⟨kt,hkt⟩:∃ x,(l[y]).text=x:=⟨_,rfl⟩
    obtain ⟨kj,hkj⟩:∃ x,(l[y]).int=x:=⟨_,rfl⟩
    obtain ⟨kq,hkq⟩:∃ x,(l[y]).keys.length=x:=⟨_,rfl⟩
    obtain ⟨km,hkm⟩:∃ x,(l[y]).kids.length=x:=⟨_,rfl⟩
    have hft:fitsAt l nd j=fitsB nd.kind j kk:=by
     unfold fitsAt;rw [HKI.out,zakZ hjl,hy,Int.toNat_natCast,zakZ hyl,hkk]
    have HFT:=hZz hft;have HJL:=hZz hjl;rw [hkk] at d0;rw [hkt] at d1;rw [hkj] at d2;rw [hkq] at d3;rw [hkm] at d4;have hy0:(0:Int)≤(y:Int):=by omega
    have hy1:(y:Int)<(nl:Int):=by have:=HL.out;omega
    obtain ⟨V1,hV1⟩:∃ W,wr.alloc (.cells #[.int .i64 kk,.string kt,.int .i64 kj,.slice kB kq kd,.slice iB km id] 58)=W:=⟨_,rfl⟩
    obtain ⟨gv,hgv⟩:∃ g,wr.heap.size=g:=⟨_,rfl⟩
    have hv1:Below wr.heap.size wr V1:=by rw [← hV1];exact zabZ _ _
    have HV1:=hZz (zaaZ hv1 HBr.out HBr.out.size);have HY1:Hid (Blk V1 gv 58 #[.int .i64 kk,.string kt,.int .i64 kj,.slice kB kq kd,.slice iB km id]):=hZz (by rw [← hV1,← hgv];exact Blk.new _ _ _);have HVG:=hZz hgv;have HVV:=hZz hV1;clear hz1 hz2;clear hs hkk hkt hkj hkq hkm hft hgv hV1 hv1 hkd hy hyl hjl;go_upto_region 11 with (fail)
    rw [HVG.out,HVV.out];clear x1 c0 d0 d1 d2 d3 d4;have y1:=zalZ HY1.out;obtain ⟨b1,hb1⟩:∃ b,(decide (1≤kk) && decide (kk≤12))=b:=⟨_,rfl⟩
    have HC:=hZz (zarY kk kt kj kB iB kq kd km id V1);rw [hb1] at HC;have HB9:Hid (fitsAt l nd j=b1):=hZz (by rw [HFT.out,HKK.out,← hb1];unfold fitsB;simp);clear hb1;cases b1 with
    | false =>
     go_wp2_with (first
      | (go_at_call 168;((with_reducible refine HC.out.mono ?_);rintro e w3 ⟨rfl,hb3⟩;have HB3:=hZz (zaaZ hb3 HV1.out HV1.out.size);clear hb3)))
     exact HPF.out j HJL.out HB9.out _ (zaaZ HB3.out HB1.out HB1.out.size)
    | true =>
     go_wp2_with (first
      | (go_at_call 168;((with_reducible refine HC.out.mono ?_);rintro e w3 ⟨rfl,hb3⟩;have HB3:=hZz (zaaZ hb3 HV1.out HV1.out.size);clear hb3)))
     exact ⟨⟨j+1,by omega,by simp,hZz (fun i h=>by
      by_cases e:i=j
      ·subst e;exact HB9.out
      ·exact HR.out i (by omega)),HB3⟩,by simp [intOf];omega⟩
   ·have e9:j=m:=by omega
    subst e9;go_wp2_with (fail)
    exact HPT.out (by rw [HPC.out];rw [HCM.out];rfl) (fun i h=>HR.out i (by have:=HM.out;omega)) _ HBw.out
set_option maxHeartbeats 16000000 in
theorem parts8E1_s (l:List NodeD) (A:Option Addr) (cap:Nat) (k:Int) (t:ByteArray) (j0:Int) (ks:List ByteArray) (is:List Int) (kA iA:Option Addr) (kc ic:Nat) (w:World) (hN:NodesV w (.slice A l.length cap) l) (hi:SlAt w iA 1 (fun x=>[Value.int .i64 x]) is) (hkid:∀ x∈is,0≤x∧x<l.length) (hm:is.length≤1000) (hl:l.length≤1000) (hk:k=8∨k=13∨k=14∨k=17∨k=18) (hc:is.length=1):Calls prog 127 #[.slice A l.length cap,.agg #[.int .i64 k,.string t,.int .i64 j0,.slice kA ks.length kc,.slice iA is.length ic]] w fun e w'=>e=.returned (.bool (partsB l ⟨k,t,j0,ks,is⟩))∧Below w.heap.size w w':=by
 obtain ⟨nd,hnd⟩:∃ nd,(⟨k,t,j0,ks,is⟩:NodeD)=nd:=⟨_,rfl⟩
 have HKI:Hid (nd.kids=is):=hZz (by rw [← hnd]);have HKK:Hid (nd.kind=k):=hZz (by rw [← hnd]);rw [hnd];obtain ⟨P,hP⟩:∃ P:Ending→World→Prop,(fun e w'=>e=.returned (.bool (partsB l nd))∧Below w.heap.size w w')=P:=⟨_,rfl⟩
 rw [hP]
 have HPF:Hid (∀ j,j<is.length→fitsAt l nd j=false→∀ w',Below w.heap.size w w'→P (.returned (.bool false)) w'):=hZz (fun j hj hf w' h2=>by
  rw [← hP];refine ⟨?_,h2⟩
  have:(List.range is.length).all (fitsAt l nd)=false:=by
   rw [List.all_eq_false];exact ⟨j,by simpa using hj,by rw [hf];simp⟩
  unfold partsB;rw [HKI.out,this,Bool.and_false])
 have HPT:Hid (countB nd=true→(∀ j,j<is.length→fitsAt l nd j=true)→∀ w',Below w.heap.size w w'→P (.returned (.bool true)) w'):=hZz (fun hc hf w' h2=>by
  rw [← hP];refine ⟨?_,h2⟩
  have:(List.range is.length).all (fitsAt l nd)=true:=by
   rw [List.all_eq_true];exact fun j hj=>hf j (by simpa using hj)
  unfold partsB;rw [HKI.out,this,hc];rfl)
 obtain ⟨m,hmm⟩:∃ m,is.length=m:=⟨_,rfl⟩
 obtain ⟨q,hq⟩:∃ m,ks.length=m:=⟨_,rfl⟩
 obtain ⟨nl,hnl⟩:∃ m,l.length=m:=⟨_,rfl⟩
 have HPC:Hid (countB nd=cntK k m):=hZz (by rw [zcbY,HKK.out,HKI.out,hmm]);have HN:=hZz hN;have HI:=hZz hi;have HKD:=hZz hkid;have HM:=hZz hmm;have HL:=hZz hnl;rw [hmm] at hm;rw [hnl] at hl;rw [hmm,hq,hnl];obtain ⟨W1,hW1⟩:∃ W,w.alloc (.cells #[.int .i64 k,.string t,.int .i64 j0,.slice kA q kc,.slice iA m ic] 58)=W:=⟨_,rfl⟩
 obtain ⟨g,hg⟩:∃ g,w.heap.size=g:=⟨_,rfl⟩
 have hb1:Below w.heap.size w W1:=by rw [← hW1];exact zabZ _ _
 have HB1:=hZz hb1;have HX1:Hid (Blk W1 g 58 #[.int .i64 k,.string t,.int .i64 j0,.slice kA q kc,.slice iA m ic]):=hZz (by rw [← hW1,← hg];exact Blk.new _ _ _);have HG:=hZz hg;have HW1:=hZz hW1;clear hP hnd hN hi hkid hmm hq hnl hg hW1 hb1;rw [HM.out] at hc;have HCM:=hZz hc;have e1:((m:Int) != 1)=false:=by rw [hc];rfl
 clear hc;rcases hk with hk | hk | hk | hk | hk
 all_goals subst hk
 all_goals
  go_enter func127,ntmps127
  go_upto_region 1 with fail
  rw [HG.out,HW1.out];clear HG HW1;have x1:=zalZ HX1.out;go_upto_region 8 with (fail)
  try go_wp2_with (fail)
  clear x1
  try clear e1
  try clear e2
  go_loopw [7,8] (fun jv _ wr=>∃ j:Nat,j≤m∧jv=.int .i64 j∧Hid (∀ i,i<j→fitsAt l nd i=true)∧Hid (Below W1.heap.size W1 wr)) (fun jv _ _=>m - (intOf jv).toNat)
  case atStart=>exact ⟨0,Nat.zero_le _,rfl,hZz (fun i h=>by omega),hZz (Below.refl _ _)⟩
  case round =>
   obtain ⟨j,hj,rfl,HR,HBr⟩:=hrel;have hj0:(0:Int)≤(j:Int):=by omega
   have HBw:=hZz (zaaZ HBr.out HB1.out HB1.out.size);have x1:=zalZ (HX1.out.below HBr.out);by_cases hlt:j<m
   ·have hlt':(j:Int)<(m:Int):=by omega
    have hjl:j<is.length:=by rw [HM.out];exact hlt
    have hkd:=HKD.out _ (List.getElem_mem hjl);obtain ⟨y,hy⟩:∃ y:Nat,is[j]=(y:Int):=⟨(is[j]).toNat,by omega⟩
    have hs:=HI.out.below HBw.out;obtain ⟨bA,off,rfl,_⟩:=hs.ptr hjl;have c0:=hs.cell0 hjl (v:=.int .i64 (y:Nat)) (by rw [hy];rfl);rw [Nat.mul_one] at c0;rw [hy] at hkd;have hyl:y<l.length:=by omega
    obtain ⟨b1,o1,kB,kd,iB,id,hA,_,d0,d1,d2,d3,d4,hz1,hz2⟩:=zalY (zaeY zajY _ _ _ _ HN.out HBw.out) hyl;subst hA;obtain ⟨kk,hkk⟩:∃ x,(l[y]).kind=x:=⟨_,rfl⟩
    obtain ⟨kt,hkt⟩:∃ x,(l[y]).text=x:=⟨_,rfl⟩
    obtain ⟨kj,hkj⟩:∃ x,(l[y]).int=x:=⟨_,rfl⟩
    obtain ⟨kq,hkq⟩:∃ x,(l[y]).keys.length=x:=⟨_,rfl⟩
    obtain ⟨km,hkm⟩:∃ x,(l[y]).kids.length=x:=⟨_,rfl⟩
    have hft:fitsAt l nd j=fitsB nd.kind j kk:=by
     unfold fitsAt;rw [HKI.out,zakZ hjl,hy,Int.toNat_natCast,zakZ hyl,hkk]
    have HFT:=hZz hft;have HJL:=hZz hjl;rw [hkk] at d0;rw [hkt] at d1;rw [hkj] at d2;rw [hkq] at d3;rw [hkm] at d4;have hy0:(0:Int)≤(y:Int):=by omega
    have hy1:(y:Int)<(nl:Int):=by have:=HL.out;omega
    obtain ⟨V1,hV1⟩:∃ W,wr.alloc (.cells #[.int .i64 kk,.string kt,.int .i64 kj,.slice kB kq kd,.slice iB km id] 58)=W:=⟨_,rfl⟩
    obtain ⟨gv,hgv⟩:∃ g,wr.heap.size=g:=⟨_,rfl⟩
    have hv1:Below wr.heap.size wr V1:=by rw [← hV1];exact zabZ _ _
    have HV1:=hZz (zaaZ hv1 HBr.out HBr.out.size);have HY1:Hid (Blk V1 gv 58 #[.int .i64 kk,.string kt,.int .i64 kj,.slice kB kq kd,.slice iB km id]):=hZz (by rw [← hV1,← hgv];exact Blk.new _ _ _);have HVG:=hZz hgv;have HVV:=hZz hV1;clear hz1 hz2;clear hs hkk hkt hkj hkq hkm hft hgv hV1 hv1 hkd hy hyl hjl;go_upto_region 11 with (fail)
    rw [HVG.out,HVV.out];clear x1 c0 d0 d1 d2 d3 d4;have y1:=zalZ HY1.out;obtain ⟨b1,hb1⟩:∃ b,(decide (1≤kk) && decide (kk≤12))=b:=⟨_,rfl⟩
    have HC:=hZz (zarY kk kt kj kB iB kq kd km id V1);rw [hb1] at HC;have HB9:Hid (fitsAt l nd j=b1):=hZz (by rw [HFT.out,HKK.out,← hb1];unfold fitsB;simp);clear hb1;cases b1 with
    | false =>
     go_wp2_with (first
      | (go_at_call 168;((with_reducible refine HC.out.mono ?_);rintro e w3 ⟨rfl,hb3⟩;have HB3:=hZz (zaaZ hb3 HV1.out HV1.out.size);clear hb3)))
     exact HPF.out j HJL.out HB9.out _ (zaaZ HB3.out HB1.out HB1.out.size)
    | true =>
     go_wp2_with (first
      | (go_at_call 168;((with_reducible refine HC.out.mono ?_);rintro e w3 ⟨rfl,hb3⟩;have HB3:=hZz (zaaZ hb3 HV1.out HV1.out.size);clear hb3)))
     exact ⟨⟨j+1,by omega,by simp,hZz (fun i h=>by
      by_cases e:i=j
      ·subst e;exact HB9.out
      ·exact HR.out i (by omega)),HB3⟩,by simp [intOf];omega⟩
   ·have e9:j=m:=by omega
    subst e9;go_wp2_with (fail)
    exact HPT.out (by rw [HPC.out];rw [HCM.out];rfl) (fun i h=>HR.out i (by have:=HM.out;omega)) _ HBw.out
set_option maxHeartbeats 16000000 in
theorem parts8E2_s (l:List NodeD) (A:Option Addr) (cap:Nat) (k:Int) (t:ByteArray) (j0:Int) (ks:List ByteArray) (is:List Int) (kA iA:Option Addr) (kc ic:Nat) (w:World) (hN:NodesV w (.slice A l.length cap) l) (hi:SlAt w iA 1 (fun x=>[Value.int .i64 x]) is) (hkid:∀ x∈is,0≤x∧x<l.length) (hm:is.length≤1000) (hl:l.length≤1000) (hk:k=9∨k=10) (hc:is.length=2):Calls prog 127 #[.slice A l.length cap,.agg #[.int .i64 k,.string t,.int .i64 j0,.slice kA ks.length kc,.slice iA is.length ic]] w fun e w'=>e=.returned (.bool (partsB l ⟨k,t,j0,ks,is⟩))∧Below w.heap.size w w':=by
 obtain ⟨nd,hnd⟩:∃ nd,(⟨k,t,j0,ks,is⟩:NodeD)=nd:=⟨_,rfl⟩
 have HKI:Hid (nd.kids=is):=hZz (by rw [← hnd]);have HKK:Hid (nd.kind=k):=hZz (by rw [← hnd]);rw [hnd];obtain ⟨P,hP⟩:∃ P:Ending→World→Prop,(fun e w'=>e=.returned (.bool (partsB l nd))∧Below w.heap.size w w')=P:=⟨_,rfl⟩
 rw [hP]
 have HPF:Hid (∀ j,j<is.length→fitsAt l nd j=false→∀ w',Below w.heap.size w w'→P (.returned (.bool false)) w'):=hZz (fun j hj hf w' h2=>by
  rw [← hP];refine ⟨?_,h2⟩
  have:(List.range is.length).all (fitsAt l nd)=false:=by
   rw [List.all_eq_false];exact ⟨j,by simpa using hj,by rw [hf];simp⟩
  unfold partsB;rw [HKI.out,this,Bool.and_false])
 have HPT:Hid (countB nd=true→(∀ j,j<is.length→fitsAt l nd j=true)→∀ w',Below w.heap.size w w'→P (.returned (.bool true)) w'):=hZz (fun hc hf w' h2=>by
  rw [← hP];refine ⟨?_,h2⟩
  have:(List.range is.length).all (fitsAt l nd)=true:=by
   rw [List.all_eq_true];exact fun j hj=>hf j (by simpa using hj)
  unfold partsB;rw [HKI.out,this,hc];rfl)
 obtain ⟨m,hmm⟩:∃ m,is.length=m:=⟨_,rfl⟩
 obtain ⟨q,hq⟩:∃ m,ks.length=m:=⟨_,rfl⟩
 obtain ⟨nl,hnl⟩:∃ m,l.length=m:=⟨_,rfl⟩
 have HPC:Hid (countB nd=cntK k m):=hZz (by rw [zcbY,HKK.out,HKI.out,hmm]);have HN:=hZz hN;have HI:=hZz hi;have HKD:=hZz hkid;have HM:=hZz hmm;have HL:=hZz hnl;rw [hmm] at hm;rw [hnl] at hl;rw [hmm,hq,hnl];obtain ⟨W1,hW1⟩:∃ W,w.alloc (.cells #[.int .i64 k,.string t,.int .i64 j0,.slice kA q kc,.slice iA m ic] 58)=W:=⟨_,rfl⟩
 obtain ⟨g,hg⟩:∃ g,w.heap.size=g:=⟨_,rfl⟩
 have hb1:Below w.heap.size w W1:=by rw [← hW1];exact zabZ _ _
 have HB1:=hZz hb1;have HX1:Hid (Blk W1 g 58 #[.int .i64 k,.string t,.int .i64 j0,.slice kA q kc,.slice iA m ic]):=hZz (by rw [← hW1,← hg];exact Blk.new _ _ _);have HG:=hZz hg;have HW1:=hZz hW1;clear hP hnd hN hi hkid hmm hq hnl hg hW1 hb1;rw [HM.out] at hc;have HCM:=hZz hc;have e1:((m:Int) != 2)=false:=by rw [hc];rfl
 clear hc;rcases hk with hk | hk
 all_goals subst hk
 all_goals
  go_enter func127,ntmps127
  go_upto_region 1 with fail
  rw [HG.out,HW1.out];clear HG HW1;have x1:=zalZ HX1.out;go_upto_region 8 with (fail)
  try go_wp2_with (fail)
  clear x1
  try clear e1
  try clear e2
  go_loopw [7,8] (fun jv _ wr=>∃ j:Nat,j≤m∧jv=.int .i64 j∧Hid (∀ i,i<j→fitsAt l nd i=true)∧Hid (Below W1.heap.size W1 wr)) (fun jv _ _=>m - (intOf jv).toNat)
  case atStart=>exact ⟨0,Nat.zero_le _,rfl,hZz (fun i h=>by omega),hZz (Below.refl _ _)⟩
  case round =>
   obtain ⟨j,hj,rfl,HR,HBr⟩:=hrel;have hj0:(0:Int)≤(j:Int):=by omega
   have HBw:=hZz (zaaZ HBr.out HB1.out HB1.out.size);have x1:=zalZ (HX1.out.below HBr.out);by_cases hlt:j<m
   ·have hlt':(j:Int)<(m:Int):=by omega
    have hjl:j<is.length:=by rw [HM.out];exact hlt
    have hkd:=HKD.out _ (List.getElem_mem hjl);obtain ⟨y,hy⟩:∃ y:Nat,is[j]=(y:Int):=⟨(is[j]).toNat,by omega⟩
    have hs:=HI.out.below HBw.out;obtain ⟨bA,off,rfl,_⟩:=hs.ptr hjl;have c0:=hs.cell0 hjl (v:=.int .i64 (y:Nat)) (by rw [hy];rfl);rw [Nat.mul_one] at c0;rw [hy] at hkd;have hyl:y<l.length:=by omega
    obtain ⟨b1,o1,kB,kd,iB,id,hA,_,d0,d1,d2,d3,d4,hz1,hz2⟩:=zalY (zaeY zajY _ _ _ _ HN.out HBw.out) hyl;subst hA;obtain ⟨kk,hkk⟩:∃ x,(l[y]).kind=x:=⟨_,rfl⟩
    obtain ⟨kt,hkt⟩:∃ x,(l[y]).text=x:=⟨_,rfl⟩
    obtain ⟨kj,hkj⟩:∃ x,(l[y]).int=x:=⟨_,rfl⟩
    obtain ⟨kq,hkq⟩:∃ x,(l[y]).keys.length=x:=⟨_,rfl⟩
    obtain ⟨km,hkm⟩:∃ x,(l[y]).kids.length=x:=⟨_,rfl⟩
    have hft:fitsAt l nd j=fitsB nd.kind j kk:=by
     unfold fitsAt;rw [HKI.out,zakZ hjl,hy,Int.toNat_natCast,zakZ hyl,hkk]
    have HFT:=hZz hft;have HJL:=hZz hjl;rw [hkk] at d0;rw [hkt] at d1;rw [hkj] at d2;rw [hkq] at d3;rw [hkm] at d4;have hy0:(0:Int)≤(y:Int):=by omega
    have hy1:(y:Int)<(nl:Int):=by have:=HL.out;omega
    obtain ⟨V1,hV1⟩:∃ W,wr.alloc (.cells #[.int .i64 kk,.string kt,.int .i64 kj,.slice kB kq kd,.slice iB km id] 58)=W:=⟨_,rfl⟩
    obtain ⟨gv,hgv⟩:∃ g,wr.heap.size=g:=⟨_,rfl⟩
    have hv1:Below wr.heap.size wr V1:=by rw [← hV1];exact zabZ _ _
    have HV1:=hZz (zaaZ hv1 HBr.out HBr.out.size);have HY1:Hid (Blk V1 gv 58 #[.int .i64 kk,.string kt,.int .i64 kj,.slice kB kq kd,.slice iB km id]):=hZz (by rw [← hV1,← hgv];exact Blk.new _ _ _);have HVG:=hZz hgv;have HVV:=hZz hV1;clear hz1 hz2;clear hs hkk hkt hkj hkq hkm hft hgv hV1 hv1 hkd hy hyl hjl;go_upto_region 11 with (fail)
    rw [HVG.out,HVV.out];clear x1 c0 d0 d1 d2 d3 d4;have y1:=zalZ HY1.out;obtain ⟨b1,hb1⟩:∃ b,(decide (1≤kk) && decide (kk≤12))=b:=⟨_,rfl⟩
    have HC:=hZz (zarY kk kt kj kB iB kq kd km id V1);rw [hb1] at HC;have HB9:Hid (fitsAt l nd j=b1):=hZz (by rw [HFT.out,HKK.out,← hb1];unfold fitsB;simp);clear hb1;cases b1 with
    | false =>
     go_wp2_with (first
      | (go_at_call 168;((with_reducible refine HC.out.mono ?_);rintro e w3 ⟨rfl,hb3⟩;have HB3:=hZz (zaaZ hb3 HV1.out HV1.out.size);clear hb3)))
     exact HPF.out j HJL.out HB9.out _ (zaaZ HB3.out HB1.out HB1.out.size)
    | true =>
     go_wp2_with (first
      | (go_at_call 168;((with_reducible refine HC.out.mono ?_);rintro e w3 ⟨rfl,hb3⟩;have HB3:=hZz (zaaZ hb3 HV1.out HV1.out.size);clear hb3)))
     exact ⟨⟨j+1,by omega,by simp,hZz (fun i h=>by
      by_cases e:i=j
      ·subst e;exact HB9.out
      ·exact HR.out i (by omega)),HB3⟩,by simp [intOf];omega⟩
   ·have e9:j=m:=by omega
    subst e9;go_wp2_with (fail)
    exact HPT.out (by rw [HPC.out];rw [HCM.out];rfl) (fun i h=>HR.out i (by have:=HM.out;omega)) _ HBw.out
set_option maxHeartbeats 16000000 in
theorem parts8X2_s (l:List NodeD) (A:Option Addr) (cap:Nat) (k:Int) (t:ByteArray) (j0:Int) (ks:List ByteArray) (is:List Int) (kA iA:Option Addr) (kc ic:Nat) (w:World) (hN:NodesV w (.slice A l.length cap) l) (hi:SlAt w iA 1 (fun x=>[Value.int .i64 x]) is) (hkid:∀ x∈is,0≤x∧x<l.length) (hm:is.length≤1000) (hl:l.length≤1000) (hk:k=15∨k=16) (hc:is.length=2):Calls prog 127 #[.slice A l.length cap,.agg #[.int .i64 k,.string t,.int .i64 j0,.slice kA ks.length kc,.slice iA is.length ic]] w fun e w'=>e=.returned (.bool (partsB l ⟨k,t,j0,ks,is⟩))∧Below w.heap.size w w':=by
 obtain ⟨nd,hnd⟩:∃ nd,(⟨k,t,j0,ks,is⟩:NodeD)=nd:=⟨_,rfl⟩
 have HKI:Hid (nd.kids=is):=hZz (by rw [← hnd]);have HKK:Hid (nd.kind=k):=hZz (by rw [← hnd]);rw [hnd];obtain ⟨P,hP⟩:∃ P:Ending→World→Prop,(fun e w'=>e=.returned (.bool (partsB l nd))∧Below w.heap.size w w')=P:=⟨_,rfl⟩
 rw [hP]
 have HPF:Hid (∀ j,j<is.length→fitsAt l nd j=false→∀ w',Below w.heap.size w w'→P (.returned (.bool false)) w'):=hZz (fun j hj hf w' h2=>by
  rw [← hP];refine ⟨?_,h2⟩
  have:(List.range is.length).all (fitsAt l nd)=false:=by
   rw [List.all_eq_false];exact ⟨j,by simpa using hj,by rw [hf];simp⟩
  unfold partsB;rw [HKI.out,this,Bool.and_false])
 have HPT:Hid (countB nd=true→(∀ j,j<is.length→fitsAt l nd j=true)→∀ w',Below w.heap.size w w'→P (.returned (.bool true)) w'):=hZz (fun hc hf w' h2=>by
  rw [← hP];refine ⟨?_,h2⟩
  have:(List.range is.length).all (fitsAt l nd)=true:=by
   rw [List.all_eq_true];exact fun j hj=>hf j (by simpa using hj)
  unfold partsB;rw [HKI.out,this,hc];rfl)
 obtain ⟨m,hmm⟩:∃ m,is.length=m:=⟨_,rfl⟩
 obtain ⟨q,hq⟩:∃ m,ks.length=m:=⟨_,rfl⟩
 obtain ⟨nl,hnl⟩:∃ m,l.length=m:=⟨_,rfl⟩
 have HPC:Hid (countB nd=cntK k m):=hZz (by rw [zcbY,HKK.out,HKI.out,hmm]);have HN:=hZz hN;have HI:=hZz hi;have HKD:=hZz hkid;have HM:=hZz hmm;have HL:=hZz hnl;rw [hmm] at hm;rw [hnl] at hl;rw [hmm,hq,hnl];obtain ⟨W1,hW1⟩:∃ W,w.alloc (.cells #[.int .i64 k,.string t,.int .i64 j0,.slice kA q kc,.slice iA m ic] 58)=W:=⟨_,rfl⟩
 obtain ⟨g,hg⟩:∃ g,w.heap.size=g:=⟨_,rfl⟩
 have hb1:Below w.heap.size w W1:=by rw [← hW1];exact zabZ _ _
 have HB1:=hZz hb1;have HX1:Hid (Blk W1 g 58 #[.int .i64 k,.string t,.int .i64 j0,.slice kA q kc,.slice iA m ic]):=hZz (by rw [← hW1,← hg];exact Blk.new _ _ _);have HG:=hZz hg;have HW1:=hZz hW1;clear hP hnd hN hi hkid hmm hq hnl hg hW1 hb1;rw [HM.out] at hc;have HCM:=hZz hc;have e1:((m:Int) != 2)=false:=by rw [hc];rfl
 clear hc;rcases hk with hk | hk
 all_goals subst hk
 all_goals
  go_enter func127,ntmps127
  go_upto_region 1 with fail
  rw [HG.out,HW1.out];clear HG HW1;have x1:=zalZ HX1.out;go_upto_region 8 with (fail)
  try go_wp2_with (fail)
  clear x1
  try clear e1
  try clear e2
  go_loopw [7,8] (fun jv _ wr=>∃ j:Nat,j≤m∧jv=.int .i64 j∧Hid (∀ i,i<j→fitsAt l nd i=true)∧Hid (Below W1.heap.size W1 wr)) (fun jv _ _=>m - (intOf jv).toNat)
  case atStart=>exact ⟨0,Nat.zero_le _,rfl,hZz (fun i h=>by omega),hZz (Below.refl _ _)⟩
  case round =>
   obtain ⟨j,hj,rfl,HR,HBr⟩:=hrel;have hj0:(0:Int)≤(j:Int):=by omega
   have HBw:=hZz (zaaZ HBr.out HB1.out HB1.out.size);have x1:=zalZ (HX1.out.below HBr.out);by_cases hlt:j<m
   ·have hlt':(j:Int)<(m:Int):=by omega
    have hjl:j<is.length:=by rw [HM.out];exact hlt
    have hkd:=HKD.out _ (List.getElem_mem hjl);obtain ⟨y,hy⟩:∃ y:Nat,is[j]=(y:Int):=⟨(is[j]).toNat,by omega⟩
    have hs:=HI.out.below HBw.out;obtain ⟨bA,off,rfl,_⟩:=hs.ptr hjl;have c0:=hs.cell0 hjl (v:=.int .i64 (y:Nat)) (by rw [hy];rfl);rw [Nat.mul_one] at c0;rw [hy] at hkd;have hyl:y<l.length:=by omega
    obtain ⟨b1,o1,kB,kd,iB,id,hA,_,d0,d1,d2,d3,d4,hz1,hz2⟩:=zalY (zaeY zajY _ _ _ _ HN.out HBw.out) hyl;subst hA;obtain ⟨kk,hkk⟩:∃ x,(l[y]).kind=x:=⟨_,rfl⟩
    obtain ⟨kt,hkt⟩:∃ x,(l[y]).text=x:=⟨_,rfl⟩
    obtain ⟨kj,hkj⟩:∃ x,(l[y]).int=x:=⟨_,rfl⟩
    obtain ⟨kq,hkq⟩:∃ x,(l[y]).keys.length=x:=⟨_,rfl⟩
    obtain ⟨km,hkm⟩:∃ x,(l[y]).kids.length=x:=⟨_,rfl⟩
    have hft:fitsAt l nd j=fitsB nd.kind j kk:=by
     unfold fitsAt;rw [HKI.out,zakZ hjl,hy,Int.toNat_natCast,zakZ hyl,hkk]
    have HFT:=hZz hft;have HJL:=hZz hjl;rw [hkk] at d0;rw [hkt] at d1;rw [hkj] at d2;rw [hkq] at d3;rw [hkm] at d4;have hy0:(0:Int)≤(y:Int):=by omega
    have hy1:(y:Int)<(nl:Int):=by have:=HL.out;omega
    obtain ⟨V1,hV1⟩:∃ W,wr.alloc (.cells #[.int .i64 kk,.string kt,.int .i64 kj,.slice kB kq kd,.slice iB km id] 58)=W:=⟨_,rfl⟩
    obtain ⟨gv,hgv⟩:∃ g,wr.heap.size=g:=⟨_,rfl⟩
    have hv1:Below wr.heap.size wr V1:=by rw [← hV1];exact zabZ _ _
    have HV1:=hZz (zaaZ hv1 HBr.out HBr.out.size);have HY1:Hid (Blk V1 gv 58 #[.int .i64 kk,.string kt,.int .i64 kj,.slice kB kq kd,.slice iB km id]):=hZz (by rw [← hV1,← hgv];exact Blk.new _ _ _);have HVG:=hZz hgv;have HVV:=hZz hV1;clear hz1 hz2;clear hs hkk hkt hkj hkq hkm hft hgv hV1 hv1 hkd hy hyl hjl;go_upto_region 11 with (fail)
    rw [HVG.out,HVV.out];clear x1 c0 d0 d1 d2 d3 d4;have y1:=zalZ HY1.out;by_cases hp:0<j
    ·have hp':(0:Int)<(j:Int):=by omega
     obtain ⟨b1,hb1⟩:∃ b,(kk != 19)=b:=⟨_,rfl⟩
     have HB9:Hid (fitsAt l nd j=!b1):=hZz (by rw [HFT.out,HKK.out,← hb1];unfold fitsB;simp [hp];(by_cases h19:kk=19 <;> simp [h19]));cases b1 with
     | true =>
      go_wp2_with (fail)
      exact HPF.out j HJL.out HB9.out _ (zaaZ HV1.out HB1.out HB1.out.size)
     | false =>
      go_wp2_with (fail)
      exact ⟨⟨j+1,by omega,by simp,hZz (fun i h=>by
       by_cases e:i=j
       ·subst e;exact HB9.out
       ·exact HR.out i (by omega)),HV1⟩,by simp [intOf];omega⟩
    ·have hp':¬ (0:Int)<(j:Int):=by omega
     obtain ⟨b1,hb1⟩:∃ b,(decide (1≤kk) && decide (kk≤12))=b:=⟨_,rfl⟩
     have HC:=hZz (zarY kk kt kj kB iB kq kd km id V1);rw [hb1] at HC;have HB9:Hid (fitsAt l nd j=b1):=hZz (by rw [HFT.out,HKK.out,← hb1];unfold fitsB;simp [hp]);clear hb1;cases b1 with
     | false =>
      go_wp2_with (first
       | (go_at_call 168;((with_reducible refine HC.out.mono ?_);rintro e w3 ⟨rfl,hb3⟩;have HB3:=hZz (zaaZ hb3 HV1.out HV1.out.size);clear hb3)))
      exact HPF.out j HJL.out HB9.out _ (zaaZ HB3.out HB1.out HB1.out.size)
     | true =>
      go_wp2_with (first
       | (go_at_call 168;((with_reducible refine HC.out.mono ?_);rintro e w3 ⟨rfl,hb3⟩;have HB3:=hZz (zaaZ hb3 HV1.out HV1.out.size);clear hb3)))
      exact ⟨⟨j+1,by omega,by simp,hZz (fun i h=>by
       by_cases e:i=j
       ·subst e;exact HB9.out
       ·exact HR.out i (by omega)),HB3⟩,by simp [intOf];omega⟩
   ·have e9:j=m:=by omega
    subst e9;go_wp2_with (fail)
    exact HPT.out (by rw [HPC.out];rw [HCM.out];rfl) (fun i h=>HR.out i (by have:=HM.out;omega)) _ HBw.out
set_option maxHeartbeats 16000000 in
theorem parts8X3_s (l:List NodeD) (A:Option Addr) (cap:Nat) (k:Int) (t:ByteArray) (j0:Int) (ks:List ByteArray) (is:List Int) (kA iA:Option Addr) (kc ic:Nat) (w:World) (hN:NodesV w (.slice A l.length cap) l) (hi:SlAt w iA 1 (fun x=>[Value.int .i64 x]) is) (hkid:∀ x∈is,0≤x∧x<l.length) (hm:is.length≤1000) (hl:l.length≤1000) (hk:k=15) (hc:is.length=3):Calls prog 127 #[.slice A l.length cap,.agg #[.int .i64 k,.string t,.int .i64 j0,.slice kA ks.length kc,.slice iA is.length ic]] w fun e w'=>e=.returned (.bool (partsB l ⟨k,t,j0,ks,is⟩))∧Below w.heap.size w w':=by
 obtain ⟨nd,hnd⟩:∃ nd,(⟨k,t,j0,ks,is⟩:NodeD)=nd:=⟨_,rfl⟩
 have HKI:Hid (nd.kids=is):=hZz (by rw [← hnd]);have HKK:Hid (nd.kind=k):=hZz (by rw [← hnd]);rw [hnd];obtain ⟨P,hP⟩:∃ P:Ending→World→Prop,(fun e w'=>e=.returned (.bool (partsB l nd))∧Below w.heap.size w w')=P:=⟨_,rfl⟩
 rw [hP]
 have HPF:Hid (∀ j,j<is.length→fitsAt l nd j=false→∀ w',Below w.heap.size w w'→P (.returned (.bool false)) w'):=hZz (fun j hj hf w' h2=>by
  rw [← hP];refine ⟨?_,h2⟩
  have:(List.range is.length).all (fitsAt l nd)=false:=by
   rw [List.all_eq_false];exact ⟨j,by simpa using hj,by rw [hf];simp⟩
  unfold partsB;rw [HKI.out,this,Bool.and_false])
 have HPT:Hid (countB nd=true→(∀ j,j<is.length→fitsAt l nd j=true)→∀ w',Below w.heap.size w w'→P (.returned (.bool true)) w'):=hZz (fun hc hf w' h2=>by
  rw [← hP];refine ⟨?_,h2⟩
  have:(List.range is.length).all (fitsAt l nd)=true:=by
   rw [List.all_eq_true];exact fun j hj=>hf j (by simpa using hj)
  unfold partsB;rw [HKI.out,this,hc];rfl)
 obtain ⟨m,hmm⟩:∃ m,is.length=m:=⟨_,rfl⟩
 obtain ⟨q,hq⟩:∃ m,ks.length=m:=⟨_,rfl⟩
 obtain ⟨nl,hnl⟩:∃ m,l.length=m:=⟨_,rfl⟩
 have HPC:Hid (countB nd=cntK k m):=hZz (by rw [zcbY,HKK.out,HKI.out,hmm]);have HN:=hZz hN;have HI:=hZz hi;have HKD:=hZz hkid;have HM:=hZz hmm;have HL:=hZz hnl;rw [hmm] at hm;rw [hnl] at hl;rw [hmm,hq,hnl];obtain ⟨W1,hW1⟩:∃ W,w.alloc (.cells #[.int .i64 k,.string t,.int .i64 j0,.slice kA q kc,.slice iA m ic] 58)=W:=⟨_,rfl⟩
 obtain ⟨g,hg⟩:∃ g,w.heap.size=g:=⟨_,rfl⟩
 have hb1:Below w.heap.size w W1:=by rw [← hW1];exact zabZ _ _
 have HB1:=hZz hb1;have HX1:Hid (Blk W1 g 58 #[.int .i64 k,.string t,.int .i64 j0,.slice kA q kc,.slice iA m ic]):=hZz (by rw [← hW1,← hg];exact Blk.new _ _ _);have HG:=hZz hg;have HW1:=hZz hW1;clear hP hnd hN hi hkid hmm hq hnl hg hW1 hb1;rw [HM.out] at hc;have HCM:=hZz hc;have e1:((m:Int) != 2)=true:=by rw [hc];rfl
 have e2:((m:Int) != 3)=false:=by rw [hc];rfl
 clear hc;subst hk
 all_goals
  go_enter func127,ntmps127
  go_upto_region 1 with fail
  rw [HG.out,HW1.out];clear HG HW1;have x1:=zalZ HX1.out;go_upto_region 8 with (fail)
  try go_wp2_with (fail)
  clear x1
  try clear e1
  try clear e2
  go_loopw [7,8] (fun jv _ wr=>∃ j:Nat,j≤m∧jv=.int .i64 j∧Hid (∀ i,i<j→fitsAt l nd i=true)∧Hid (Below W1.heap.size W1 wr)) (fun jv _ _=>m - (intOf jv).toNat)
  case atStart=>exact ⟨0,Nat.zero_le _,rfl,hZz (fun i h=>by omega),hZz (Below.refl _ _)⟩
  case round =>
   obtain ⟨j,hj,rfl,HR,HBr⟩:=hrel;have hj0:(0:Int)≤(j:Int):=by omega
   have HBw:=hZz (zaaZ HBr.out HB1.out HB1.out.size);have x1:=zalZ (HX1.out.below HBr.out);by_cases hlt:j<m
   ·have hlt':(j:Int)<(m:Int):=by omega
    have hjl:j<is.length:=by rw [HM.out];exact hlt
    have hkd:=HKD.out _ (List.getElem_mem hjl);obtain ⟨y,hy⟩:∃ y:Nat,is[j]=(y:Int):=⟨(is[j]).toNat,by omega⟩
    have hs:=HI.out.below HBw.out;obtain ⟨bA,off,rfl,_⟩:=hs.ptr hjl;have c0:=hs.cell0 hjl (v:=.int .i64 (y:Nat)) (by rw [hy];rfl);rw [Nat.mul_one] at c0;rw [hy] at hkd;have hyl:y<l.length:=by omega
    obtain ⟨b1,o1,kB,kd,iB,id,hA,_,d0,d1,d2,d3,d4,hz1,hz2⟩:=zalY (zaeY zajY _ _ _ _ HN.out HBw.out) hyl;subst hA;obtain ⟨kk,hkk⟩:∃ x,(l[y]).kind=x:=⟨_,rfl⟩
    obtain ⟨kt,hkt⟩:∃ x,(l[y]).text=x:=⟨_,rfl⟩
    obtain ⟨kj,hkj⟩:∃ x,(l[y]).int=x:=⟨_,rfl⟩
    obtain ⟨kq,hkq⟩:∃ x,(l[y]).keys.length=x:=⟨_,rfl⟩
    obtain ⟨km,hkm⟩:∃ x,(l[y]).kids.length=x:=⟨_,rfl⟩
    have hft:fitsAt l nd j=fitsB nd.kind j kk:=by
     unfold fitsAt;rw [HKI.out,zakZ hjl,hy,Int.toNat_natCast,zakZ hyl,hkk]
    have HFT:=hZz hft;have HJL:=hZz hjl;rw [hkk] at d0;rw [hkt] at d1;rw [hkj] at d2;rw [hkq] at d3;rw [hkm] at d4;have hy0:(0:Int)≤(y:Int):=by omega
    have hy1:(y:Int)<(nl:Int):=by have:=HL.out;omega
    obtain ⟨V1,hV1⟩:∃ W,wr.alloc (.cells #[.int .i64 kk,.string kt,.int .i64 kj,.slice kB kq kd,.slice iB km id] 58)=W:=⟨_,rfl⟩
    obtain ⟨gv,hgv⟩:∃ g,wr.heap.size=g:=⟨_,rfl⟩
    have hv1:Below wr.heap.size wr V1:=by rw [← hV1];exact zabZ _ _
    have HV1:=hZz (zaaZ hv1 HBr.out HBr.out.size);have HY1:Hid (Blk V1 gv 58 #[.int .i64 kk,.string kt,.int .i64 kj,.slice kB kq kd,.slice iB km id]):=hZz (by rw [← hV1,← hgv];exact Blk.new _ _ _);have HVG:=hZz hgv;have HVV:=hZz hV1;clear hz1 hz2;clear hs hkk hkt hkj hkq hkm hft hgv hV1 hv1 hkd hy hyl hjl;go_upto_region 11 with (fail)
    rw [HVG.out,HVV.out];clear x1 c0 d0 d1 d2 d3 d4;have y1:=zalZ HY1.out;by_cases hp:0<j
    ·have hp':(0:Int)<(j:Int):=by omega
     obtain ⟨b1,hb1⟩:∃ b,(kk != 19)=b:=⟨_,rfl⟩
     have HB9:Hid (fitsAt l nd j=!b1):=hZz (by rw [HFT.out,HKK.out,← hb1];unfold fitsB;simp [hp];(by_cases h19:kk=19 <;> simp [h19]));cases b1 with
     | true =>
      go_wp2_with (fail)
      exact HPF.out j HJL.out HB9.out _ (zaaZ HV1.out HB1.out HB1.out.size)
     | false =>
      go_wp2_with (fail)
      exact ⟨⟨j+1,by omega,by simp,hZz (fun i h=>by
       by_cases e:i=j
       ·subst e;exact HB9.out
       ·exact HR.out i (by omega)),HV1⟩,by simp [intOf];omega⟩
    ·have hp':¬ (0:Int)<(j:Int):=by omega
     obtain ⟨b1,hb1⟩:∃ b,(decide (1≤kk) && decide (kk≤12))=b:=⟨_,rfl⟩
     have HC:=hZz (zarY kk kt kj kB iB kq kd km id V1);rw [hb1] at HC;have HB9:Hid (fitsAt l nd j=b1):=hZz (by rw [HFT.out,HKK.out,← hb1];unfold fitsB;simp [hp]);clear hb1;cases b1 with
     | false =>
      go_wp2_with (first
       | (go_at_call 168;((with_reducible refine HC.out.mono ?_);rintro e w3 ⟨rfl,hb3⟩;have HB3:=hZz (zaaZ hb3 HV1.out HV1.out.size);clear hb3)))
      exact HPF.out j HJL.out HB9.out _ (zaaZ HB3.out HB1.out HB1.out.size)
     | true =>
      go_wp2_with (first
       | (go_at_call 168;((with_reducible refine HC.out.mono ?_);rintro e w3 ⟨rfl,hb3⟩;have HB3:=hZz (zaaZ hb3 HV1.out HV1.out.size);clear hb3)))
      exact ⟨⟨j+1,by omega,by simp,hZz (fun i h=>by
       by_cases e:i=j
       ·subst e;exact HB9.out
       ·exact HR.out i (by omega)),HB3⟩,by simp [intOf];omega⟩
   ·have e9:j=m:=by omega
    subst e9;go_wp2_with (fail)
    exact HPT.out (by rw [HPC.out];rw [HCM.out];rfl) (fun i h=>HR.out i (by have:=HM.out;omega)) _ HBw.out
end
section
attribute [local go_sem] zacZ
theorem cnt_false {k:Int} {m:Nat} (h:cntK k m=false):k<1∨19<k∨(k≤5∧1≤k∧m≠0)∨((k=8∨k=13∨k=14∨k=17∨k=18)∧m≠1)∨((k=9∨k=10∨k=16)∧m≠2)∨(k=15∧m≠2∧m≠3):=by
 unfold cntK at h;split at h
 ·have:=of_decide_eq_false h;omega
 split at h
 ·have:=of_decide_eq_false h;omega
 split at h
 ·have:=of_decide_eq_false h;omega
 split at h
 ·simp only [Bool.or_eq_false_iff,decide_eq_false_iff_not] at h;omega
 ·have:=of_decide_eq_false h;omega
theorem cnt_true {k:Int} {m:Nat} (h:cntK k m=true):((k=1∨k=2∨k=3∨k=4∨k=5)∧m=0)∨((k=8∨k=13∨k=14∨k=17∨k=18)∧m=1)∨((k=9∨k=10)∧m=2)∨((k=15∨k=16)∧m=2)∨(k=15∧m=3)∨(k=6∨k=7∨k=11∨k=12)∨k=19:=by
 unfold cntK at h;split at h
 ·have:=of_decide_eq_true h;omega
 split at h
 ·have:=of_decide_eq_true h;omega
 split at h
 ·have:=of_decide_eq_true h;omega
 split at h
 ·simp only [Bool.or_eq_true,decide_eq_true_eq] at h;omega
 ·have:=of_decide_eq_true h;omega
set_option maxHeartbeats 16000000 in
theorem parts8N_s (A:Option Addr) (nl cap:Nat) (k:Int) (t:ByteArray) (j0:Int) (q m:Nat) (kA iA:Option Addr) (kc ic:Nat) (w:World) (hc:cntK k m=false):Calls prog 127 #[.slice A nl cap,.agg #[.int .i64 k,.string t,.int .i64 j0,.slice kA q kc,.slice iA m ic]] w fun e w'=>e=.returned (.bool false)∧Below w.heap.size w w':=by
 obtain ⟨P,hP⟩:∃ P:Ending→World→Prop,(fun e w'=>e=.returned (.bool false)∧Below w.heap.size w w')=P:=⟨_,rfl⟩
 rw [hP];have HP:Hid (∀ w',Below w.heap.size w w'→P (.returned (.bool false)) w'):=hZz (fun w' h2=>by rw [← hP];exact ⟨rfl,h2⟩);have HB:=hZz (zabZ w (.cells #[.int .i64 k,.string t,.int .i64 j0,.slice kA q kc,.slice iA m ic] 58));have hd:=cnt_false hc;clear hP hc;rcases hd with h | h | ⟨h1,h2,h3⟩ | ⟨rfl | rfl | rfl | rfl | rfl,h3⟩ | ⟨rfl | rfl | rfl,h3⟩ | ⟨rfl,h3,h4⟩
 ·go_enter func127,ntmps127
  go_wp2_with (fail)
  exact HP.out _ HB.out
 ·have h':¬ k<1:=by omega
  go_enter func127,ntmps127
  go_wp2_with (fail)
  exact HP.out _ HB.out
 ·have h':¬ k<1:=by omega
  have h'':¬ 19<k:=by omega
  have e1:((m:Int) != 0)=true:=by simp;omega
  clear h2 h3;go_enter func127,ntmps127
  go_wp2_with (fail)
  exact HP.out _ HB.out
 iterate 5
  ·have e1:((m:Int) != 1)=true:=by simp;omega
   clear h3;go_enter func127,ntmps127
   go_wp2_with (fail)
   exact HP.out _ HB.out
 iterate 3
  ·have e1:((m:Int) != 2)=true:=by simp;omega
   clear h3;go_enter func127,ntmps127
   go_wp2_with (fail)
   exact HP.out _ HB.out
 ·have e1:((m:Int) != 2)=true:=by simp;omega
  have e2:((m:Int) != 3)=true:=by simp;omega
  clear h3 h4;go_enter func127,ntmps127
  go_wp2_with (fail)
  exact HP.out _ HB.out
theorem parts8_s (l:List NodeD) (A:Option Addr) (cap:Nat) (n:NodeD) (kA iA:Option Addr) (kc ic:Nat) (w:World) (hN:NodesV w (.slice A l.length cap) l) (hi:SlAt w iA 1 (fun x=>[Value.int .i64 x]) n.kids) (hkid:∀ x∈n.kids,0≤x∧x<l.length) (hm:n.kids.length≤1000) (hl:l.length≤1000):Calls prog 127 #[.slice A l.length cap,.agg (nodeC n kA kc iA ic)] w fun e w'=>e=.returned (.bool (partsB l n))∧Below w.heap.size w w':=by
 obtain ⟨k,t,j0,ks,is⟩:=n;cases hc:cntK k is.length with
 | false =>
  have e:partsB l ⟨k,t,j0,ks,is⟩=false:=by
   unfold partsB;rw [zcbY];show (cntK k is.length && _)=false;rw [hc];rfl
  rw [e];exact parts8N_s A l.length cap k t j0 ks.length is.length kA iA kc ic w hc
 | true =>
  rcases cnt_true hc with ⟨h,hz⟩ | ⟨h,hz⟩ | ⟨h,hz⟩ | ⟨h,hz⟩ | ⟨h,hz⟩ | h | h
  ·exact parts8E0_s l A cap k t j0 ks is kA iA kc ic w hN hi hkid hm hl h hz
  ·exact parts8E1_s l A cap k t j0 ks is kA iA kc ic w hN hi hkid hm hl h hz
  ·exact parts8E2_s l A cap k t j0 ks is kA iA kc ic w hN hi hkid hm hl h hz
  ·exact parts8X2_s l A cap k t j0 ks is kA iA kc ic w hN hi hkid hm hl h hz
  ·exact parts8X3_s l A cap k t j0 ks is kA iA kc ic w hN hi hkid hm hl h hz
  ·exact parts8E_s l A cap k t j0 ks is kA iA kc ic w hN hi hkid hm hl h
  ·exact parts8S_s l A cap k t j0 ks is kA iA kc ic w hN hi hkid hm hl h
end
theorem kidsF_upto {l:List NodeD} {r1 r2:Nat→Option Nat} {n:NodeD} {i:Nat} (h:∀ q s,q<i→r1 q=some s→r2 q=some s) (hle:∀ q s,r1 q=some s→s≤q):∀ k a s,a≤i→kidsF l r1 n k a=some s→kidsF l r2 n k a=some s:=by
 intro k;induction k with
 | zero=>intro a s _ hk;exact hk
 | succ k ih =>
  intro a s ha hk;simp only [kidsF] at hk ⊢;split at hk
  ·cases hk
  ·rename_i hc
   rw [if_neg hc];cases h1:r1 (a - 1) with
   | none=>rw [h1] at hk;cases hk
   | some b =>
    rw [h1] at hk;have hb:=hle _ _ h1;rw [h _ _ (by omega) h1];exact ih _ _ (by omega) hk
theorem firstF_fuel {l:List NodeD}:∀ g i f s,i<g→firstF l f i=some s→firstF l g i=some s:=by
 intro g;induction g with
 | zero=>intro i f s h;omega
 | succ g ih =>
  intro i f s hi h;cases f with
  | zero=>cases h
  | succ f =>
   rw [firstF] at h ⊢;split at h
   ·rename_i hc
    rw [if_pos hc];exact kidsF_upto (fun q s hq hs=>ih q f s (by omega) hs) (fun q s hs=>zaaY hs) _ _ _ (Nat.le_refl _) h
   ·cases h
def nodeM (l:List NodeD) (low:Nat) (sz:Nat→Nat) (i:Nat):Option Nat :=
 if fieldsB (l.getD i noNode)=true∧partsB l (l.getD i noNode)=true then kidsM (l.getD i noNode) low sz (l.getD i noNode).kids.length i else none
theorem nodeM_iff {l:List NodeD} {low i:Nat} {sz:Nat→Nat} (hi:i<600) (hlow:low≤i) (hsz:∀ q,low≤q→q<i→firstF l 600 q=some (q+1 - sz q)∧low+sz q≤q+1∧1≤sz q) (s:Nat):nodeM l low sz i=some s↔(firstF l 600 i=some s∧low≤s):=by
 have h1:firstF l 600 i=some s↔firstF l 601 i=some s:=⟨fun h=>firstF_succ _ _ _ h,fun h=>firstF_fuel _ _ _ _ hi h⟩
 rw [h1,firstF];have h2:=kidsM_iff (n:=l.getD i noNode) hsz (l.getD i noNode).kids.length i hlow (Nat.le_refl _) s
 have h3:partsB l (l.getD i noNode)=true↔countB (l.getD i noNode)=true∧∀ j,j<(l.getD i noNode).kids.length→fitsB (l.getD i noNode).kind j (l.getD ((l.getD i noNode).kids.getD j (-1)).toNat noNode).kind=true:=by
  unfold partsB;rw [Bool.and_eq_true,List.all_eq_true];refine and_congr Iff.rfl ⟨fun h j hj=>h j (by simpa using hj),fun h j hj=>h j (by simpa using hj)⟩
 unfold nodeM;by_cases hf:fieldsB (l.getD i noNode)=true
 ·by_cases hc:countB (l.getD i noNode)=true
  ·have e:(fieldsB (l.getD i noNode) && countB (l.getD i noNode))=true:=by rw [hf,hc];rfl
   rw [if_pos e,← h2];constructor
   ·intro h
    split at h
    ·rename_i hp
     exact ⟨h,(h3.1 hp.2).2⟩
    ·cases h
   ·rintro ⟨a,b⟩
    rw [if_pos ⟨hf,h3.2 ⟨hc,b⟩⟩];exact a
  ·have e:¬ (fieldsB (l.getD i noNode) && countB (l.getD i noNode))=true:=by rw [Bool.and_eq_true];exact fun h=>hc h.2
   rw [if_neg e,if_neg (fun h=>hc (h3.1 h.2).1)];constructor
   ·intro h;cases h
   ·rintro ⟨h,_⟩;cases h
 ·have e:¬ (fieldsB (l.getD i noNode) && countB (l.getD i noNode))=true:=by rw [Bool.and_eq_true];exact fun h=>hf h.1
  rw [if_neg e,if_neg (fun h=>hf h.1)];constructor
  ·intro h;cases h
  ·rintro ⟨h,_⟩;cases h
def sz0 (l:List NodeD) (q:Nat):Nat:=q+1 - (firstF l 600 q).getD 0
def okM (l:List NodeD) (low q:Nat):Prop:=∃ s,firstF l 600 q=some s∧low≤s
theorem okM.sz {l:List NodeD} {low q:Nat} (h:okM l low q):firstF l 600 q=some (q+1 - sz0 l q)∧low+sz0 l q≤q+1∧1≤sz0 l q:=by
 obtain ⟨s,h1,h2⟩:=h;have h3:=zaaY h1;unfold sz0;rw [h1];simp only [Option.getD_some];refine ⟨?_,by omega,by omega⟩
 congr 1
 omega
theorem okM_iff {l:List NodeD} {low i:Nat} (hi:i<600) (hlow:low≤i) (h:∀ q,low≤q→q<i→okM l low q):okM l low i↔∃ s,nodeM l low (sz0 l) i=some s:=by
 unfold okM;exact ⟨fun ⟨s,h1,h2⟩=>⟨s,(nodeM_iff hi hlow (fun q a b=>(h q a b).sz) s).2 ⟨h1,h2⟩⟩,fun ⟨s,h1⟩=>⟨s,(nodeM_iff hi hlow (fun q a b=>(h q a b).sz) s).1 h1⟩⟩
theorem nodeM_sz {l:List NodeD} {low i s:Nat} (hi:i<600) (hlow:low≤i) (h:∀ q,low≤q→q<i→okM l low q) (hs:nodeM l low (sz0 l) i=some s):sz0 l i=i+1 - s∧low≤s∧s≤i:=by
 obtain ⟨h1,h2⟩:=(nodeM_iff hi hlow (fun q a b=>(h q a b).sz) s).1 hs;have h3:=zaaY h1;unfold sz0;rw [h1];exact ⟨rfl,h2,h3⟩
theorem range_iff {l:List NodeD} {low body:Nat} (hlow:low≤body):firstF l 600 body=some low↔((∀ q,low≤q→q≤body→okM l low q)∧sz0 l body=body - low+1):=by
 constructor
 ·intro h
  refine ⟨fun q h1 h2=>firstF_all _ _ _ h q h1 h2,?_⟩
  unfold sz0;rw [h];simp only [Option.getD_some];omega
 ·rintro ⟨h1,h2⟩
  have h3:=(h1 body hlow (Nat.le_refl _)).sz.1;rw [h3,h2];congr 1
  omega
theorem foldl_max_congr {g1 g2:Int→Nat}:∀ (r:List Int) (a:Nat),(∀ k∈r,g1 k=g2 k)→r.foldl (fun m k=>max m (g1 k)) a=r.foldl (fun m k=>max m (g2 k)) a:=by
 intro r;induction r with
 | nil=>intro a _;rfl
 | cons k r ih =>
  intro a h;simp only [List.foldl_cons];rw [h k (List.mem_cons_self ..)];exact ih _ (fun k hk=>h k (List.mem_cons_of_mem _ hk))
theorem nest_eq {l:List NodeD}:∀ f g i s d,i<f→i<g→firstF l d i=some s→nestF l f i=nestF l g i:=by
 intro f;induction f with
 | zero=>intro g i s d h;omega
 | succ f ih =>
  intro g i s d hi hg h;cases g with
  | zero=>omega
  | succ g =>
   cases d with
   | zero=>cases h
   | succ d =>
    simp only [nestF];congr 1
    refine foldl_max_congr _ _ (fun k hk=>?_)
    obtain ⟨m,s',rfl,h1,h2,h3⟩:=(zabY h).cover.mem k hk;rw [Int.toNat_natCast];exact ih g m s' d (by omega) (by omega) h3
end Go.Proofs.YthiimbhjpdphpaaGreatDoor
