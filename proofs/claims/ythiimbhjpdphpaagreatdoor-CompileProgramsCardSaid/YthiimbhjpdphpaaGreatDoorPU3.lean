/- U3 -/
import Derived.Test.YthiimbhjpdphpaaGreatDoorPU2
set_option linter.unusedVariables false
set_option linter.unusedSimpArgs false
namespace Go.Proofs.YthiimbhjpdphpaaGreatDoor
open Go.RowKit
set_option maxRecDepth 100000
open Go.Proofs.Tryz
def fitsAt (l:List NodeD) (n:NodeD) (j:Nat):Bool:=fitsB n.kind j (l.getD (n.kids.getD j (-1)).toNat noNode).kind
def partsB (l:List NodeD) (n:NodeD):Bool:=countB n && (List.range n.kids.length).all (fitsAt l n)
attribute [local go_sem] zabZ
set_option maxHeartbeats 4000000 in
theorem statement8_s (k:Int) (t:ByteArray) (j:Int) (kA iA:Option Addr) (q kc m ic:Nat) (w:World):Calls prog 167 #[.agg #[.int .i64 k,.string t,.int .i64 j,.slice kA q kc,.slice iA m ic]] w fun e w'=>e=.returned (.bool (decide (13≤k) && decide (k≤18)))∧Below w.heap.size w w':=by
 have HB:=hZz (zacZ w (.cells #[.int .i64 k,.string t,.int .i64 j,.slice kA q kc,.slice iA m ic] 58));go_enter func167,ntmps167
 go_wp2
 all_goals (go_returns;exact ⟨by first | (simp_all;done) | (simp_all;omega),HB.out⟩)
set_option maxHeartbeats 4000000 in
theorem zanY (k:Int) (t:ByteArray) (j:Int) (kA iA:Option Addr) (q kc m ic:Nat) (w:World):Calls prog 168 #[.agg #[.int .i64 k,.string t,.int .i64 j,.slice kA q kc,.slice iA m ic]] w fun e w'=>e=.returned (.bool (decide (1≤k) && decide (k≤12)))∧Below w.heap.size w w':=by
 have HB:=hZz (zacZ w (.cells #[.int .i64 k,.string t,.int .i64 j,.slice kA q kc,.slice iA m ic] 58));go_enter func168,ntmps168
 go_wp2
 all_goals (go_returns;exact ⟨by first | (simp_all;done) | (simp_all;omega),HB.out⟩)
set_option maxHeartbeats 16000000 in
theorem parts8S_s (l:List NodeD) (A:Option Addr) (cap:Nat) (k:Int) (t:ByteArray) (j0:Int) (ks:List ByteArray) (is:List Int) (kA iA:Option Addr) (kc ic:Nat) (w:World) (hN:NodesV w (.slice A l.length cap) l) (hi:SlAt w iA 1 (fun x=>[Value.int .i64 x]) is) (hkid:∀ x∈is,0≤x∧x<l.length) (hm:is.length≤1000) (hl:l.length≤1000) (hk:k=19):Calls prog 127 #[.slice A l.length cap,.agg #[.int .i64 k,.string t,.int .i64 j0,.slice kA ks.length kc,.slice iA is.length ic]] w fun e w'=>e=.returned (.bool (partsB l ⟨k,t,j0,ks,is⟩))∧Below w.heap.size w w':=by
 obtain ⟨nd,hnd⟩:∃ nd,(⟨k,t,j0,ks,is⟩:NodeD)=nd:=⟨_,rfl⟩
 have HKI:Hid (nd.kids=is):=hZz (by rw [← hnd]);have HKK:Hid (nd.kind=k):=hZz (by rw [← hnd]);rw [hnd];obtain ⟨P,hP⟩:∃ P:Ending→World→Prop,(fun e w'=>e=.returned (.bool (partsB l nd))∧Below w.heap.size w w')=P:=⟨_,rfl⟩
 rw [hP]
 have HPF:Hid (∀ j,j<is.length→fitsAt l nd j=false→∀ w',Below w.heap.size w w'→P (.returned (.bool false)) w'):=hZz (fun j hj hf w' h2=>by
  rw [← hP];refine ⟨?_,h2⟩
  have:(List.range is.length).all (fitsAt l nd)=false:=by
   rw [List.all_eq_false];exact ⟨j,by simpa using hj,by rw [hf];simp⟩
  unfold partsB;rw [HKI.out,this,Bool.and_false])
 have HPT:Hid (countB nd=true→(∀ j,j<is.length→fitsAt l nd j=true)→∀ w',Below w.heap.size w w'→P (.returned (.bool true)) w'):=hZz (fun hc hf w' h2=>by
  rw [← hP];refine ⟨?_,h2⟩
  have:(List.range is.length).all (fitsAt l nd)=true:=by
   rw [List.all_eq_true];exact fun j hj=>hf j (by simpa using hj)
  unfold partsB;rw [HKI.out,this,hc];rfl)
 obtain ⟨m,hmm⟩:∃ m,is.length=m:=⟨_,rfl⟩
 obtain ⟨q,hq⟩:∃ m,ks.length=m:=⟨_,rfl⟩
 obtain ⟨nl,hnl⟩:∃ m,l.length=m:=⟨_,rfl⟩
 have HPC:Hid (countB nd=cntK k m):=hZz (by rw [zbnY,HKK.out,HKI.out,hmm]);have HN:=hZz hN;have HI:=hZz hi;have HKD:=hZz hkid;have HM:=hZz hmm;have HL:=hZz hnl;rw [hmm] at hm;rw [hnl] at hl;rw [hmm,hq,hnl];obtain ⟨W1,hW1⟩:∃ W,w.alloc (.cells #[.int .i64 k,.string t,.int .i64 j0,.slice kA q kc,.slice iA m ic] 58)=W:=⟨_,rfl⟩
 obtain ⟨g,hg⟩:∃ g,w.heap.size=g:=⟨_,rfl⟩
 have hb1:Below w.heap.size w W1:=by rw [← hW1];exact zacZ _ _
 have HB1:=hZz hb1;have HX1:Hid (Blk W1 g 58 #[.int .i64 k,.string t,.int .i64 j0,.slice kA q kc,.slice iA m ic]):=hZz (by rw [← hW1,← hg];exact Blk.new _ _ _);have HG:=hZz hg;have HW1:=hZz hW1;clear hP hnd hN hi hkid hmm hq hnl hg hW1 hb1;subst hk
 all_goals
  go_enter func127,ntmps127
  go_upto_region 1 with fail
  rw [HG.out,HW1.out];clear HG HW1;have x1:=blk5n HX1.out;go_upto_region 8 with (fail)
  try go_wp2_with (fail)
  clear x1
  try clear e1
  try clear e2
  go_loopw [7,8] (fun jv _ wr=>∃ j:Nat,j≤m∧jv=.int .i64 j∧Hid (∀ i,i<j→fitsAt l nd i=true)∧Hid (Below W1.heap.size W1 wr)) (fun jv _ _=>m - (intOf jv).toNat)
  case atStart=>exact ⟨0,Nat.zero_le _,rfl,hZz (fun i h=>by omega),hZz (Below.refl _ _)⟩
  case round =>
   obtain ⟨j,hj,rfl,HR,HBr⟩:=hrel;have hj0:(0:Int)≤(j:Int):=by omega
   have HBw:=hZz (zaaZ HBr.out HB1.out HB1.out.size);have x1:=blk5n (HX1.out.below HBr.out);by_cases hlt:j<m
   ·have hlt':(j:Int)<(m:Int):=by omega
    have hjl:j<is.length:=by rw [HM.out];exact hlt
    have hkd:=HKD.out _ (List.getElem_mem hjl);obtain ⟨y,hy⟩:∃ y:Nat,is[j]=(y:Int):=⟨(is[j]).toNat,by omega⟩
    have hs:=HI.out.below HBw.out;obtain ⟨bA,off,rfl,_⟩:=hs.ptr hjl;have c0:=hs.cell0 hjl (v:=.int .i64 (y:Nat)) (by rw [hy];rfl);rw [Nat.mul_one] at c0;rw [hy] at hkd;have hyl:y<l.length:=by omega
    obtain ⟨b1,o1,kB,kd,iB,id,hA,_,d0,d1,d2,d3,d4,hz1,hz2⟩:=zalY (zahY zaoY _ _ _ _ HN.out HBw.out) hyl;subst hA;obtain ⟨kk,hkk⟩:∃ x,(l[y]).kind=x:=⟨_,rfl⟩
    obtain ⟨kt,hkt⟩:∃ x,(l[y]).text=x:=⟨_,rfl⟩
    obtain ⟨kj,hkj⟩:∃ x,(l[y]).int=x:=⟨_,rfl⟩
    obtain ⟨kq,hkq⟩:∃ x,(l[y]).keys.length=x:=⟨_,rfl⟩
    obtain ⟨km,hkm⟩:∃ x,(l[y]).kids.length=x:=⟨_,rfl⟩
    have hft:fitsAt l nd j=fitsB nd.kind j kk:=by
     unfold fitsAt;rw [HKI.out,zaiZ hjl,hy,Int.toNat_natCast,zaiZ hyl,hkk]
    have HFT:=hZz hft;have HJL:=hZz hjl;rw [hkk] at d0;rw [hkt] at d1;rw [hkj] at d2;rw [hkq] at d3;rw [hkm] at d4;have hy0:(0:Int)≤(y:Int):=by omega
    have hy1:(y:Int)<(nl:Int):=by have:=HL.out;omega
    obtain ⟨V1,hV1⟩:∃ W,wr.alloc (.cells #[.int .i64 kk,.string kt,.int .i64 kj,.slice kB kq kd,.slice iB km id] 58)=W:=⟨_,rfl⟩
    obtain ⟨gv,hgv⟩:∃ g,wr.heap.size=g:=⟨_,rfl⟩
    have hv1:Below wr.heap.size wr V1:=by rw [← hV1];exact zacZ _ _
    have HV1:=hZz (zaaZ hv1 HBr.out HBr.out.size);have HY1:Hid (Blk V1 gv 58 #[.int .i64 kk,.string kt,.int .i64 kj,.slice kB kq kd,.slice iB km id]):=hZz (by rw [← hV1,← hgv];exact Blk.new _ _ _);have HVG:=hZz hgv;have HVV:=hZz hV1;clear hz1 hz2;clear hs hkk hkt hkj hkq hkm hft hgv hV1 hv1 hkd hy hyl hjl;go_upto_region 11 with (fail)
    rw [HVG.out,HVV.out];clear x1 c0 d0 d1 d2 d3 d4;have y1:=blk5n HY1.out;obtain ⟨b1,hb1⟩:∃ b,(decide (13≤kk) && decide (kk≤18))=b:=⟨_,rfl⟩
    have HC:=hZz (statement8_s kk kt kj kB iB kq kd km id V1);rw [hb1] at HC;have HB9:Hid (fitsAt l nd j=b1):=hZz (by rw [HFT.out,HKK.out,← hb1];unfold fitsB;simp);clear hb1;cases b1 with
    | false =>
     go_wp2_with (first
      | (go_at_call 167;((with_reducible refine HC.out.mono ?_);rintro e w3 ⟨rfl,hb3⟩;have HB3:=hZz (zaaZ hb3 HV1.out HV1.out.size);clear hb3)))
     exact HPF.out j HJL.out HB9.out _ (zaaZ HB3.out HB1.out HB1.out.size)
    | true =>
     go_wp2_with (first
      | (go_at_call 167;((with_reducible refine HC.out.mono ?_);rintro e w3 ⟨rfl,hb3⟩;have HB3:=hZz (zaaZ hb3 HV1.out HV1.out.size);clear hb3)))
     exact ⟨⟨j+1,by omega,by simp,hZz (fun i h=>by
      by_cases e:i=j
      ·subst e;exact HB9.out
      ·exact HR.out i (by omega)),HB3⟩,by simp [intOf];omega⟩
   ·have e9:j=m:=by omega
    subst e9;go_wp2_with (fail)
    exact HPT.out (by rw [HPC.out];first | rfl | (unfold cntK;simp;done) | (unfold cntK;simp [*];done) | (unfold cntK;simp;omega)) (fun i h=>HR.out i (by have:=HM.out;omega)) _ HBw.out
set_option maxHeartbeats 16000000 in
theorem parts8E_s (l:List NodeD) (A:Option Addr) (cap:Nat) (k:Int) (t:ByteArray) (j0:Int) (ks:List ByteArray) (is:List Int) (kA iA:Option Addr) (kc ic:Nat) (w:World) (hN:NodesV w (.slice A l.length cap) l) (hi:SlAt w iA 1 (fun x=>[Value.int .i64 x]) is) (hkid:∀ x∈is,0≤x∧x<l.length) (hm:is.length≤1000) (hl:l.length≤1000) (hk:k=6∨k=7∨k=11∨k=12):Calls prog 127 #[.slice A l.length cap,.agg #[.int .i64 k,.string t,.int .i64 j0,.slice kA ks.length kc,.slice iA is.length ic]] w fun e w'=>e=.returned (.bool (partsB l ⟨k,t,j0,ks,is⟩))∧Below w.heap.size w w':=by
 obtain ⟨nd,hnd⟩:∃ nd,(⟨k,t,j0,ks,is⟩:NodeD)=nd:=⟨_,rfl⟩
 have HKI:Hid (nd.kids=is):=hZz (by rw [← hnd]);have HKK:Hid (nd.kind=k):=hZz (by rw [← hnd]);rw [hnd];obtain ⟨P,hP⟩:∃ P:Ending→World→Prop,(fun e w'=>e=.returned (.bool (partsB l nd))∧Below w.heap.size w w')=P:=⟨_,rfl⟩
 rw [hP]
 have HPF:Hid (∀ j,j<is.length→fitsAt l nd j=false→∀ w',Below w.heap.size w w'→P (.returned (.bool false)) w'):=hZz (fun j hj hf w' h2=>by
  rw [← hP];refine ⟨?_,h2⟩
  have:(List.range is.length).all (fitsAt l nd)=false:=by
   rw [List.all_eq_false];exact ⟨j,by simpa using hj,by rw [hf];simp⟩
  unfold partsB;rw [HKI.out,this,Bool.and_false])
 have HPT:Hid (countB nd=true→(∀ j,j<is.length→fitsAt l nd j=true)→∀ w',Below w.heap.size w w'→P (.returned (.bool true)) w'):=hZz (fun hc hf w' h2=>by
  rw [← hP];refine ⟨?_,h2⟩
  have:(List.range is.length).all (fitsAt l nd)=true:=by
   rw [List.all_eq_true];exact fun j hj=>hf j (by simpa using hj)
  unfold partsB;rw [HKI.out,this,hc];rfl)
 obtain ⟨m,hmm⟩:∃ m,is.length=m:=⟨_,rfl⟩
 obtain ⟨q,hq⟩:∃ m,ks.length=m:=⟨_,rfl⟩
 obtain ⟨nl,hnl⟩:∃ m,l.length=m:=⟨_,rfl⟩
 have HPC:Hid (countB nd=cntK k m):=hZz (by rw [zbnY,HKK.out,HKI.out,hmm]);have HN:=hZz hN;have HI:=hZz hi;have HKD:=hZz hkid;have HM:=hZz hmm;have HL:=hZz hnl;rw [hmm] at hm;rw [hnl] at hl;rw [hmm,hq,hnl];obtain ⟨W1,hW1⟩:∃ W,w.alloc (.cells #[.int .i64 k,.string t,.int .i64 j0,.slice kA q kc,.slice iA m ic] 58)=W:=⟨_,rfl⟩
 obtain ⟨g,hg⟩:∃ g,w.heap.size=g:=⟨_,rfl⟩
 have hb1:Below w.heap.size w W1:=by rw [← hW1];exact zacZ _ _
 have HB1:=hZz hb1;have HX1:Hid (Blk W1 g 58 #[.int .i64 k,.string t,.int .i64 j0,.slice kA q kc,.slice iA m ic]):=hZz (by rw [← hW1,← hg];exact Blk.new _ _ _);have HG:=hZz hg;have HW1:=hZz hW1;clear hP hnd hN hi hkid hmm hq hnl hg hW1 hb1;rcases hk with hk | hk | hk | hk
 all_goals subst hk
 all_goals
  go_enter func127,ntmps127
  go_upto_region 1 with fail
  rw [HG.out,HW1.out];clear HG HW1;have x1:=blk5n HX1.out;go_upto_region 8 with (fail)
  try go_wp2_with (fail)
  clear x1
  try clear e1
  try clear e2
  go_loopw [7,8] (fun jv _ wr=>∃ j:Nat,j≤m∧jv=.int .i64 j∧Hid (∀ i,i<j→fitsAt l nd i=true)∧Hid (Below W1.heap.size W1 wr)) (fun jv _ _=>m - (intOf jv).toNat)
  case atStart=>exact ⟨0,Nat.zero_le _,rfl,hZz (fun i h=>by omega),hZz (Below.refl _ _)⟩
  case round =>
   obtain ⟨j,hj,rfl,HR,HBr⟩:=hrel;have hj0:(0:Int)≤(j:Int):=by omega
   have HBw:=hZz (zaaZ HBr.out HB1.out HB1.out.size);have x1:=blk5n (HX1.out.below HBr.out);by_cases hlt:j<m
   ·have hlt':(j:Int)<(m:Int):=by omega
    have hjl:j<is.length:=by rw [HM.out];exact hlt
    have hkd:=HKD.out _ (List.getElem_mem hjl);obtain ⟨y,hy⟩:∃ y:Nat,is[j]=(y:Int):=⟨(is[j]).toNat,by omega⟩
    have hs:=HI.out.below HBw.out;obtain ⟨bA,off,rfl,_⟩:=hs.ptr hjl;have c0:=hs.cell0 hjl (v:=.int .i64 (y:Nat)) (by rw [hy];rfl);rw [Nat.mul_one] at c0;rw [hy] at hkd;have hyl:y<l.length:=by omega
    obtain ⟨b1,o1,kB,kd,iB,id,hA,_,d0,d1,d2,d3,d4,hz1,hz2⟩:=zalY (zahY zaoY _ _ _ _ HN.out HBw.out) hyl;subst hA;obtain ⟨kk,hkk⟩:∃ x,(l[y]).kind=x:=⟨_,rfl⟩
    obtain ⟨kt,hkt⟩:∃ x,(l[y]).text=x:=⟨_,rfl⟩
    obtain ⟨kj,hkj⟩:∃ x,(l[y]).int=x:=⟨_,rfl⟩
    obtain ⟨kq,hkq⟩:∃ x,(l[y]).keys.length=x:=⟨_,rfl⟩
    obtain ⟨km,hkm⟩:∃ x,(l[y]).kids.length=x:=⟨_,rfl⟩
    have hft:fitsAt l nd j=fitsB nd.kind j kk:=by
     unfold fitsAt;rw [HKI.out,zaiZ hjl,hy,Int.toNat_natCast,zaiZ hyl,hkk]
    have HFT:=hZz hft;have HJL:=hZz hjl;rw [hkk] at d0;rw [hkt] at d1;rw [hkj] at d2;rw [hkq] at d3;rw [hkm] at d4;have hy0:(0:Int)≤(y:Int):=by omega
    have hy1:(y:Int)<(nl:Int):=by have:=HL.out;omega
    obtain ⟨V1,hV1⟩:∃ W,wr.alloc (.cells #[.int .i64 kk,.string kt,.int .i64 kj,.slice kB kq kd,.slice iB km id] 58)=W:=⟨_,rfl⟩
    obtain ⟨gv,hgv⟩:∃ g,wr.heap.size=g:=⟨_,rfl⟩
    have hv1:Below wr.heap.size wr V1:=by rw [← hV1];exact zacZ _ _
    have HV1:=hZz (zaaZ hv1 HBr.out HBr.out.size);have HY1:Hid (Blk V1 gv 58 #[.int .i64 kk,.string kt,.int .i64 kj,.slice kB kq kd,.slice iB km id]):=hZz (by rw [← hV1,← hgv];exact Blk.new _ _ _);have HVG:=hZz hgv;have HVV:=hZz hV1;clear hz1 hz2;clear hs hkk hkt hkj hkq hkm hft hgv hV1 hv1 hkd hy hyl hjl;go_upto_region 11 with (fail)
    rw [HVG.out,HVV.out];clear x1 c0 d0 d1 d2 d3 d4;have y1:=blk5n HY1.out;obtain ⟨b1,hb1⟩:∃ b,(decide (1≤kk) && decide (kk≤12))=b:=⟨_,rfl⟩
    have HC:=hZz (zanY kk kt kj kB iB kq kd km id V1);rw [hb1] at HC;have HB9:Hid (fitsAt l nd j=b1):=hZz (by rw [HFT.out,HKK.out,← hb1];unfold fitsB;simp);clear hb1;cases b1 with
    | false =>
     go_wp2_with (first
      | (go_at_call 168;((with_reducible refine HC.out.mono ?_);rintro e w3 ⟨rfl,hb3⟩;have HB3:=hZz (zaaZ hb3 HV1.out HV1.out.size);clear hb3)))
     exact HPF.out j HJL.out HB9.out _ (zaaZ HB3.out HB1.out HB1.out.size)
    | true =>
     go_wp2_with (first
      | (go_at_call 168;((with_reducible refine HC.out.mono ?_);rintro e w3 ⟨rfl,hb3⟩;have HB3:=hZz (zaaZ hb3 HV1.out HV1.out.size);clear hb3)))
     exact ⟨⟨j+1,by omega,by simp,hZz (fun i h=>by
      by_cases e:i=j
      ·subst e;exact HB9.out
      ·exact HR.out i (by omega)),HB3⟩,by simp [intOf];omega⟩
   ·have e9:j=m:=by omega
    subst e9;go_wp2_with (fail)
    exact HPT.out (by rw [HPC.out];first | rfl | (unfold cntK;simp;done) | (unfold cntK;simp [*];done) | (unfold cntK;simp;omega)) (fun i h=>HR.out i (by have:=HM.out;omega)) _ HBw.out
set_option maxHeartbeats 16000000 in
theorem parts8E0_s (l:List NodeD) (A:Option Addr) (cap:Nat) (k:Int) (t:ByteArray) (j0:Int) (ks:List ByteArray) (is:List Int) (kA iA:Option Addr) (kc ic:Nat) (w:World) (hN:NodesV w (.slice A l.length cap) l) (hi:SlAt w iA 1 (fun x=>[Value.int .i64 x]) is) (hkid:∀ x∈is,0≤x∧x<l.length) (hm:is.length≤1000) (hl:l.length≤1000) (hk:k=1∨k=2∨k=3∨k=4∨k=5) (hc:is.length=0):Calls prog 127 #[.slice A l.length cap,.agg #[.int .i64 k,.string t,.int .i64 j0,.slice kA ks.length kc,.slice iA is.length ic]] w fun e w'=>e=.returned (.bool (partsB l ⟨k,t,j0,ks,is⟩))∧Below w.heap.size w w':=by
 obtain ⟨nd,hnd⟩:∃ nd,(⟨k,t,j0,ks,is⟩:NodeD)=nd:=⟨_,rfl⟩
 have HKI:Hid (nd.kids=is):=hZz (by rw [← hnd]);have HKK:Hid (nd.kind=k):=hZz (by rw [← hnd]);rw [hnd];obtain ⟨P,hP⟩:∃ P:Ending→World→Prop,(fun e w'=>e=.returned (.bool (partsB l nd))∧Below w.heap.size w w')=P:=⟨_,rfl⟩
 rw [hP]
 have HPF:Hid (∀ j,j<is.length→fitsAt l nd j=false→∀ w',Below w.heap.size w w'→P (.returned (.bool false)) w'):=hZz (fun j hj hf w' h2=>by
  rw [← hP];refine ⟨?_,h2⟩
  have:(List.range is.length).all (fitsAt l nd)=false:=by
   rw [List.all_eq_false];exact ⟨j,by simpa using hj,by rw [hf];simp⟩
  unfold partsB;rw [HKI.out,this,Bool.and_false])
 have HPT:Hid (countB nd=true→(∀ j,j<is.length→fitsAt l nd j=true)→∀ w',Below w.heap.size w w'→P (.returned (.bool true)) w'):=hZz (fun hc hf w' h2=>by
  rw [← hP];refine ⟨?_,h2⟩
  have:(List.range is.length).all (fitsAt l nd)=true:=by
   rw [List.all_eq_true];exact fun j hj=>hf j (by simpa using hj)
  unfold partsB;rw [HKI.out,this,hc];rfl)
 obtain ⟨m,hmm⟩:∃ m,is.length=m:=⟨_,rfl⟩
 obtain ⟨q,hq⟩:∃ m,ks.length=m:=⟨_,rfl⟩
 obtain ⟨nl,hnl⟩:∃ m,l.length=m:=⟨_,rfl⟩
 have HPC:Hid (countB nd=cntK k m):=hZz (by rw [zbnY,HKK.out,HKI.out,hmm]);have HN:=hZz hN;have HI:=hZz hi;have HKD:=hZz hkid;have HM:=hZz hmm;have HL:=hZz hnl;rw [hmm] at hm;rw [hnl] at hl;rw [hmm,hq,hnl];obtain ⟨W1,hW1⟩:∃ W,w.alloc (.cells #[.int .i64 k,.string t,.int .i64 j0,.slice kA q kc,.slice iA m ic] 58)=W:=⟨_,rfl⟩
 obtain ⟨g,hg⟩:∃ g,w.heap.size=g:=⟨_,rfl⟩
 have hb1:Below w.heap.size w W1:=by rw [← hW1];exact zacZ _ _
 have HB1:=hZz hb1;have HX1:Hid (Blk W1 g 58 #[.int .i64 k,.string t,.int .i64 j0,.slice kA q kc,.slice iA m ic]):=hZz (by rw [← hW1,← hg];exact Blk.new _ _ _);have HG:=hZz hg;have HW1:=hZz hW1;clear hP hnd hN hi hkid hmm hq hnl hg hW1 hb1;rw [HM.out] at hc;have HCM:=hZz hc;have e1:((m:Int) != 0)=false:=by rw [hc];rfl
 clear hc;rcases hk with hk | hk | hk | hk | hk
 all_goals subst hk
 all_goals
  go_enter func127,ntmps127
  go_upto_region 1 with fail
  rw [HG.out,HW1.out];clear HG HW1;have x1:=blk5n HX1.out;go_upto_region 8 with (fail)
  try go_wp2_with (fail)
  clear x1
  try clear e1
  try clear e2
  go_loopw [7,8] (fun jv _ wr=>∃ j:Nat,j≤m∧jv=.int .i64 j∧Hid (∀ i,i<j→fitsAt l nd i=true)∧Hid (Below W1.heap.size W1 wr)) (fun jv _ _=>m - (intOf jv).toNat)
  case atStart=>exact ⟨0,Nat.zero_le _,rfl,hZz (fun i h=>by omega),hZz (Below.refl _ _)⟩
  case round =>
   obtain ⟨j,hj,rfl,HR,HBr⟩:=hrel;have hj0:(0:Int)≤(j:Int):=by omega
   have HBw:=hZz (zaaZ HBr.out HB1.out HB1.out.size);have x1:=blk5n (HX1.out.below HBr.out);by_cases hlt:j<m
   ·have hlt':(j:Int)<(m:Int):=by omega
    have hjl:j<is.length:=by rw [HM.out];exact hlt
    have hkd:=HKD.out _ (List.getElem_mem hjl);obtain ⟨y,hy⟩:∃ y:Nat,is[j]=(y:Int):=⟨(is[j]).toNat,by omega⟩
    have hs:=HI.out.below HBw.out;obtain ⟨bA,off,rfl,_⟩:=hs.ptr hjl;have c0:=hs.cell0 hjl (v:=.int .i64 (y:Nat)) (by rw [hy];rfl);rw [Nat.mul_one] at c0;rw [hy] at hkd;have hyl:y<l.length:=by omega
    obtain ⟨b1,o1,kB,kd,iB,id,hA,_,d0,d1,d2,d3,d4,hz1,hz2⟩:=zalY (zahY zaoY _ _ _ _ HN.out HBw.out) hyl;subst hA;obtain ⟨kk,hkk⟩:∃ x,(l[y]).kind=x:=⟨_,rfl⟩
    obtain ⟨kt,hkt⟩:∃ x,(l[y]).text=x:=⟨_,rfl⟩
    obtain ⟨kj,hkj⟩:∃ x,(l[y]).int=x:=⟨_,rfl⟩
    obtain ⟨kq,hkq⟩:∃ x,(l[y]).keys.length=x:=⟨_,rfl⟩
    obtain ⟨km,hkm⟩:∃ x,(l[y]).kids.length=x:=⟨_,rfl⟩
    have hft:fitsAt l nd j=fitsB nd.kind j kk:=by
     unfold fitsAt;rw [HKI.out,zaiZ hjl,hy,Int.toNat_natCast,zaiZ hyl,hkk]
    have HFT:=hZz hft;have HJL:=hZz hjl;rw [hkk] at d0;rw [hkt] at d1;rw [hkj] at d2;rw [hkq] at d3;rw [hkm] at d4;have hy0:(0:Int)≤(y:Int):=by omega
    have hy1:(y:Int)<(nl:Int):=by have:=HL.out;omega
    obtain ⟨V1,hV1⟩:∃ W,wr.alloc (.cells #[.int .i64 kk,.string kt,.int .i64 kj,.slice kB kq kd,.slice iB km id] 58)=W:=⟨_,rfl⟩
    obtain ⟨gv,hgv⟩:∃ g,wr.heap.size=g:=⟨_,rfl⟩
    have hv1:Below wr.heap.size wr V1:=by rw [← hV1];exact zacZ _ _
    have HV1:=hZz (zaaZ hv1 HBr.out HBr.out.size);have HY1:Hid (Blk V1 gv 58 #[.int .i64 kk,.string kt,.int .i64 kj,.slice kB kq kd,.slice iB km id]):=hZz (by rw [← hV1,← hgv];exact Blk.new _ _ _);have HVG:=hZz hgv;have HVV:=hZz hV1;clear hz1 hz2;clear hs hkk hkt hkj hkq hkm hft hgv hV1 hv1 hkd hy hyl hjl;go_upto_region 11 with (fail)
    rw [HVG.out,HVV.out];clear x1 c0 d0 d1 d2 d3 d4;have y1:=blk5n HY1.out;obtain ⟨b1,hb1⟩:∃ b,(decide (1≤kk) && decide (kk≤12))=b:=⟨_,rfl⟩
    have HC:=hZz (zanY kk kt kj kB iB kq kd km id V1);rw [hb1] at HC;have HB9:Hid (fitsAt l nd j=b1):=hZz (by rw [HFT.out,HKK.out,← hb1];unfold fitsB;simp);clear hb1;cases b1 with
    | false =>
     go_wp2_with (first
      | (go_at_call 168;((with_reducible refine HC.out.mono ?_);rintro e w3 ⟨rfl,hb3⟩;have HB3:=hZz (zaaZ hb3 HV1.out HV1.out.size);clear hb3)))
     exact HPF.out j HJL.out HB9.out _ (zaaZ HB3.out HB1.out HB1.out.size)
    | true =>
     go_wp2_with (first
      | (go_at_call 168;((with_reducible refine HC.out.mono ?_);rintro e w3 ⟨rfl,hb3⟩;have HB3:=hZz (zaaZ hb3 HV1.out HV1.out.size);clear hb3)))
     exact ⟨⟨j+1,by omega,by simp,hZz (fun i h=>by
      by_cases e:i=j
      ·subst e;exact HB9.out
      ·exact HR.out i (by omega)),HB3⟩,by simp [intOf];omega⟩
   ·have e9:j=m:=by omega
    subst e9;go_wp2_with (fail)
    exact HPT.out (by rw [HPC.out];rw [HCM.out];rfl) (fun i h=>HR.out i (by have:=HM.out;omega)) _ HBw.out
set_option maxHeartbeats 16000000 in
theorem parts8E1_s (l:List NodeD) (A:Option Addr) (cap:Nat) (k:Int) (t:ByteArray) (j0:Int) (ks:List ByteArray) (is:List Int) (kA iA:Option Addr) (kc ic:Nat) (w:World) (hN:NodesV w (.slice A l.length cap) l) (hi:SlAt w iA 1 (fun x=>[Value.int .i64 x]) is) (hkid:∀ x∈is,0≤x∧x<l.length) (hm:is.length≤1000) (hl:l.length≤1000) (hk:k=8∨k=13∨k=14∨k=17∨k=18) (hc:is.length=1):Calls prog 127 #[.slice A l.length cap,.agg #[.int .i64 k,.string t,.int .i64 j0,.slice kA ks.length kc,.slice iA is.length ic]] w fun e w'=>e=.returned (.bool (partsB l ⟨k,t,j0,ks,is⟩))∧Below w.heap.size w w':=by
 obtain ⟨nd,hnd⟩:∃ nd,(⟨k,t,j0,ks,is⟩:NodeD)=nd:=⟨_,rfl⟩
 have HKI:Hid (nd.kids=is):=hZz (by rw [← hnd]);have HKK:Hid (nd.kind=k):=hZz (by rw [← hnd]);rw [hnd];obtain ⟨P,hP⟩:∃ P:Ending→World→Prop,(fun e w'=>e=.returned (.bool (partsB l nd))∧Below w.heap.size w w')=P:=⟨_,rfl⟩
 rw [hP]
 have HPF:Hid (∀ j,j<is.length→fitsAt l nd j=false→∀ w',Below w.heap.size w w'→P (.returned (.bool false)) w'):=hZz (fun j hj hf w' h2=>by
  rw [← hP];refine ⟨?_,h2⟩
  have:(List.range is.length).all (fitsAt l nd)=false:=by
   rw [List.all_eq_false];exact ⟨j,by simpa using hj,by rw [hf];simp⟩
  unfold partsB;rw [HKI.out,this,Bool.and_false])
 have HPT:Hid (countB nd=true→(∀ j,j<is.length→fitsAt l nd j=true)→∀ w',Below w.heap.size w w'→P (.returned (.bool true)) w'):=hZz (fun hc hf w' h2=>by
  rw [← hP];refine ⟨?_,h2⟩
  have:(List.range is.length).all (fitsAt l nd)=true:=by
   rw [List.all_eq_true];exact fun j hj=>hf j (by simpa using hj)
  unfold partsB;rw [HKI.out,this,hc];rfl)
 obtain ⟨m,hmm⟩:∃ m,is.length=m:=⟨_,rfl⟩
 obtain ⟨q,hq⟩:∃ m,ks.length=m:=⟨_,rfl⟩
 obtain ⟨nl,hnl⟩:∃ m,l.length=m:=⟨_,rfl⟩
 have HPC:Hid (countB nd=cntK k m):=hZz (by rw [zbnY,HKK.out,HKI.out,hmm]);have HN:=hZz hN;have HI:=hZz hi;have HKD:=hZz hkid;have HM:=hZz hmm;have HL:=hZz hnl;rw [hmm] at hm;rw [hnl] at hl;rw [hmm,hq,hnl];obtain ⟨W1,hW1⟩:∃ W,w.alloc (.cells #[.int .i64 k,.string t,.int .i64 j0,.slice kA q kc,.slice iA m ic] 58)=W:=⟨_,rfl⟩
 obtain ⟨g,hg⟩:∃ g,w.heap.size=g:=⟨_,rfl⟩
 have hb1:Below w.heap.size w W1:=by rw [← hW1];exact zacZ _ _
 have HB1:=hZz hb1;have HX1:Hid (Blk W1 g 58 #[.int .i64 k,.string t,.int .i64 j0,.slice kA q kc,.slice iA m ic]):=hZz (by rw [← hW1,← hg];exact Blk.new _ _ _);have HG:=hZz hg;have HW1:=hZz hW1;clear hP hnd hN hi hkid hmm hq hnl hg hW1 hb1;rw [HM.out] at hc;have HCM:=hZz hc;have e1:((m:Int) != 1)=false:=by rw [hc];rfl
 clear hc;rcases hk with hk | hk | hk | hk | hk
 all_goals subst hk
 all_goals
  go_enter func127,ntmps127
  go_upto_region 1 with fail
  rw [HG.out,HW1.out];clear HG HW1;have x1:=blk5n HX1.out;go_upto_region 8 with (fail)
  try go_wp2_with (fail)
  clear x1
  try clear e1
  try clear e2
  go_loopw [7,8] (fun jv _ wr=>∃ j:Nat,j≤m∧jv=.int .i64 j∧Hid (∀ i,i<j→fitsAt l nd i=true)∧Hid (Below W1.heap.size W1 wr)) (fun jv _ _=>m - (intOf jv).toNat)
  case atStart=>exact ⟨0,Nat.zero_le _,rfl,hZz (fun i h=>by omega),hZz (Below.refl _ _)⟩
  case round =>
   obtain ⟨j,hj,rfl,HR,HBr⟩:=hrel;have hj0:(0:Int)≤(j:Int):=by omega
   have HBw:=hZz (zaaZ HBr.out HB1.out HB1.out.size);have x1:=blk5n (HX1.out.below HBr.out);by_cases hlt:j<m
   ·have hlt':(j:Int)<(m:Int):=by omega
    have hjl:j<is.length:=by rw [HM.out];exact hlt
    have hkd:=HKD.out _ (List.getElem_mem hjl);obtain ⟨y,hy⟩:∃ y:Nat,is[j]=(y:Int):=⟨(is[j]).toNat,by omega⟩
    have hs:=HI.out.below HBw.out;obtain ⟨bA,off,rfl,_⟩:=hs.ptr hjl;have c0:=hs.cell0 hjl (v:=.int .i64 (y:Nat)) (by rw [hy];rfl);rw [Nat.mul_one] at c0;rw [hy] at hkd;have hyl:y<l.length:=by omega
    obtain ⟨b1,o1,kB,kd,iB,id,hA,_,d0,d1,d2,d3,d4,hz1,hz2⟩:=zalY (zahY zaoY _ _ _ _ HN.out HBw.out) hyl;subst hA;obtain ⟨kk,hkk⟩:∃ x,(l[y]).kind=x:=⟨_,rfl⟩
    obtain ⟨kt,hkt⟩:∃ x,(l[y]).text=x:=⟨_,rfl⟩
    obtain ⟨kj,hkj⟩:∃ x,(l[y]).int=x:=⟨_,rfl⟩
    obtain ⟨kq,hkq⟩:∃ x,(l[y]).keys.length=x:=⟨_,rfl⟩
    obtain ⟨km,hkm⟩:∃ x,(l[y]).kids.length=x:=⟨_,rfl⟩
    have hft:fitsAt l nd j=fitsB nd.kind j kk:=by
     unfold fitsAt;rw [HKI.out,zaiZ hjl,hy,Int.toNat_natCast,zaiZ hyl,hkk]
    have HFT:=hZz hft;have HJL:=hZz hjl;rw [hkk] at d0;rw [hkt] at d1;rw [hkj] at d2;rw [hkq] at d3;rw [hkm] at d4;have hy0:(0:Int)≤(y:Int):=by omega
    have hy1:(y:Int)<(nl:Int):=by have:=HL.out;omega
    obtain ⟨V1,hV1⟩:∃ W,wr.alloc (.cells #[.int .i64 kk,.string kt,.int .i64 kj,.slice kB kq kd,.slice iB km id] 58)=W:=⟨_,rfl⟩
    obtain ⟨gv,hgv⟩:∃ g,wr.heap.size=g:=⟨_,rfl⟩
    have hv1:Below wr.heap.size wr V1:=by rw [← hV1];exact zacZ _ _
    have HV1:=hZz (zaaZ hv1 HBr.out HBr.out.size);have HY1:Hid (Blk V1 gv 58 #[.int .i64 kk,.string kt,.int .i64 kj,.slice kB kq kd,.slice iB km id]):=hZz (by rw [← hV1,← hgv];exact Blk.new _ _ _);have HVG:=hZz hgv;have HVV:=hZz hV1;clear hz1 hz2;clear hs hkk hkt hkj hkq hkm hft hgv hV1 hv1 hkd hy hyl hjl;go_upto_region 11 with (fail)
    rw [HVG.out,HVV.out];clear x1 c0 d0 d1 d2 d3 d4;have y1:=blk5n HY1.out;obtain ⟨b1,hb1⟩:∃ b,(decide (1≤kk) && decide (kk≤12))=b:=⟨_,rfl⟩
    have HC:=hZz (zanY kk kt kj kB iB kq kd km id V1);rw [hb1] at HC;have HB9:Hid (fitsAt l nd j=b1):=hZz (by rw [HFT.out,HKK.out,← hb1];unfold fitsB;simp);clear hb1;cases b1 with
    | false =>
     go_wp2_with (first
      | (go_at_call 168;((with_reducible refine HC.out.mono ?_);rintro e w3 ⟨rfl,hb3⟩;have HB3:=hZz (zaaZ hb3 HV1.out HV1.out.size);clear hb3)))
     exact HPF.out j HJL.out HB9.out _ (zaaZ HB3.out HB1.out HB1.out.size)
    | true =>
     go_wp2_with (first
      | (go_at_call 168;((with_reducible refine HC.out.mono ?_);rintro e w3 ⟨rfl,hb3⟩;have HB3:=hZz (zaaZ hb3 HV1.out HV1.out.size);clear hb3)))
     exact ⟨⟨j+1,by omega,by simp,hZz (fun i h=>by
      by_cases e:i=j
      ·subst e;exact HB9.out
      ·exact HR.out i (by omega)),HB3⟩,by simp [intOf];omega⟩
   ·have e9:j=m:=by omega
    subst e9;go_wp2_with (fail)
    exact HPT.out (by rw [HPC.out];rw [HCM.out];rfl) (fun i h=>HR.out i (by have:=HM.out;omega)) _ HBw.out
set_option maxHeartbeats 16000000 in
theorem parts8E2_s (l:List NodeD) (A:Option Addr) (cap:Nat) (k:Int) (t:ByteArray) (j0:Int) (ks:List ByteArray) (is:List Int) (kA iA:Option Addr) (kc ic:Nat) (w:World) (hN:NodesV w (.slice A l.length cap) l) (hi:SlAt w iA 1 (fun x=>[Value.int .i64 x]) is) (hkid:∀ x∈is,0≤x∧x<l.length) (hm:is.length≤1000) (hl:l.length≤1000) (hk:k=9∨k=10) (hc:is.length=2):Calls prog 127 #[.slice A l.length cap,.agg #[.int .i64 k,.string t,.int .i64 j0,.slice kA ks.length kc,.slice iA is.length ic]] w fun e w'=>e=.returned (.bool (partsB l ⟨k,t,j0,ks,is⟩))∧Below w.heap.size w w':=by
 obtain ⟨nd,hnd⟩:∃ nd,(⟨k,t,j0,ks,is⟩:NodeD)=nd:=⟨_,rfl⟩
 have HKI:Hid (nd.kids=is):=hZz (by rw [← hnd]);have HKK:Hid (nd.kind=k):=hZz (by rw [← hnd]);rw [hnd];obtain ⟨P,hP⟩:∃ P:Ending→World→Prop,(fun e w'=>e=.returned (.bool (partsB l nd))∧Below w.heap.size w w')=P:=⟨_,rfl⟩
 rw [hP]
 have HPF:Hid (∀ j,j<is.length→fitsAt l nd j=false→∀ w',Below w.heap.size w w'→P (.returned (.bool false)) w'):=hZz (fun j hj hf w' h2=>by
  rw [← hP];refine ⟨?_,h2⟩
  have:(List.range is.length).all (fitsAt l nd)=false:=by
   rw [List.all_eq_false];exact ⟨j,by simpa using hj,by rw [hf];simp⟩
  unfold partsB;rw [HKI.out,this,Bool.and_false])
 have HPT:Hid (countB nd=true→(∀ j,j<is.length→fitsAt l nd j=true)→∀ w',Below w.heap.size w w'→P (.returned (.bool true)) w'):=hZz (fun hc hf w' h2=>by
  rw [← hP];refine ⟨?_,h2⟩
  have:(List.range is.length).all (fitsAt l nd)=true:=by
   rw [List.all_eq_true];exact fun j hj=>hf j (by simpa using hj)
  unfold partsB;rw [HKI.out,this,hc];rfl)
 obtain ⟨m,hmm⟩:∃ m,is.length=m:=⟨_,rfl⟩
 obtain ⟨q,hq⟩:∃ m,ks.length=m:=⟨_,rfl⟩
 obtain ⟨nl,hnl⟩:∃ m,l.length=m:=⟨_,rfl⟩
 have HPC:Hid (countB nd=cntK k m):=hZz (by rw [zbnY,HKK.out,HKI.out,hmm]);have HN:=hZz hN;have HI:=hZz hi;have HKD:=hZz hkid;have HM:=hZz hmm;have HL:=hZz hnl;rw [hmm] at hm;rw [hnl] at hl;rw [hmm,hq,hnl];obtain ⟨W1,hW1⟩:∃ W,w.alloc (.cells #[.int .i64 k,.string t,.int .i64 j0,.slice kA q kc,.slice iA m ic] 58)=W:=⟨_,rfl⟩
 obtain ⟨g,hg⟩:∃ g,w.heap.size=g:=⟨_,rfl⟩
 have hb1:Below w.heap.size w W1:=by rw [← hW1];exact zacZ _ _
 have HB1:=hZz hb1;have HX1:Hid (Blk W1 g 58 #[.int .i64 k,.string t,.int .i64 j0,.slice kA q kc,.slice iA m ic]):=hZz (by rw [← hW1,← hg];exact Blk.new _ _ _);have HG:=hZz hg;have HW1:=hZz hW1;clear hP hnd hN hi hkid hmm hq hnl hg hW1 hb1;rw [HM.out] at hc;have HCM:=hZz hc;have e1:((m:Int) != 2)=false:=by rw [hc];rfl
 clear hc;rcases hk with hk | hk
 all_goals subst hk
 all_goals
  go_enter func127,ntmps127
  go_upto_region 1 with fail
  rw [HG.out,HW1.out];clear HG HW1;have x1:=blk5n HX1.out;go_upto_region 8 with (fail)
  try go_wp2_with (fail)
  clear x1
  try clear e1
  try clear e2
  go_loopw [7,8] (fun jv _ wr=>∃ j:Nat,j≤m∧jv=.int .i64 j∧Hid (∀ i,i<j→fitsAt l nd i=true)∧Hid (Below W1.heap.size W1 wr)) (fun jv _ _=>m - (intOf jv).toNat)
  case atStart=>exact ⟨0,Nat.zero_le _,rfl,hZz (fun i h=>by omega),hZz (Below.refl _ _)⟩
  case round =>
   obtain ⟨j,hj,rfl,HR,HBr⟩:=hrel;have hj0:(0:Int)≤(j:Int):=by omega
   have HBw:=hZz (zaaZ HBr.out HB1.out HB1.out.size);have x1:=blk5n (HX1.out.below HBr.out);by_cases hlt:j<m
   ·have hlt':(j:Int)<(m:Int):=by omega
    have hjl:j<is.length:=by rw [HM.out];exact hlt
    have hkd:=HKD.out _ (List.getElem_mem hjl);obtain ⟨y,hy⟩:∃ y:Nat,is[j]=(y:Int):=⟨(is[j]).toNat,by omega⟩
    have hs:=HI.out.below HBw.out;obtain ⟨bA,off,rfl,_⟩:=hs.ptr hjl;have c0:=hs.cell0 hjl (v:=.int .i64 (y:Nat)) (by rw [hy];rfl);rw [Nat.mul_one] at c0;rw [hy] at hkd;have hyl:y<l.length:=by omega
    obtain ⟨b1,o1,kB,kd,iB,id,hA,_,d0,d1,d2,d3,d4,hz1,hz2⟩:=zalY (zahY zaoY _ _ _ _ HN.out HBw.out) hyl;subst hA;obtain ⟨kk,hkk⟩:∃ x,(l[y]).kind=x:=⟨_,rfl⟩
    obtain ⟨kt,hkt⟩:∃ x,(l[y]).text=x:=⟨_,rfl⟩
    obtain ⟨kj,hkj⟩:∃ x,(l[y]).int=x:=⟨_,rfl⟩
    obtain ⟨kq,hkq⟩:∃ x,(l[y]).keys.length=x:=⟨_,rfl⟩
    obtain ⟨km,hkm⟩:∃ x,(l[y]).kids.length=x:=⟨_,rfl⟩
    have hft:fitsAt l nd j=fitsB nd.kind j kk:=by
     unfold fitsAt;rw [HKI.out,zaiZ hjl,hy,Int.toNat_natCast,zaiZ hyl,hkk]
    have HFT:=hZz hft;have HJL:=hZz hjl;rw [hkk] at d0;rw [hkt] at d1;rw [hkj] at d2;rw [hkq] at d3;rw [hkm] at d4;have hy0:(0:Int)≤(y:Int):=by omega
    have hy1:(y:Int)<(nl:Int):=by have:=HL.out;omega
    obtain ⟨V1,hV1⟩:∃ W,wr.alloc (.cells #[.int .i64 kk,.string kt,.int .i64 kj,.slice kB kq kd,.slice iB km id] 58)=W:=⟨_,rfl⟩
    obtain ⟨gv,hgv⟩:∃ g,wr.heap.size=g:=⟨_,rfl⟩
    have hv1:Below wr.heap.size wr V1:=by rw [← hV1];exact zacZ _ _
    have HV1:=hZz (zaaZ hv1 HBr.out HBr.out.size);have HY1:Hid (Blk V1 gv 58 #[.int .i64 kk,.string kt,.int .i64 kj,.slice kB kq kd,.slice iB km id]):=hZz (by rw [← hV1,← hgv];exact Blk.new _ _ _);have HVG:=hZz hgv;have HVV:=hZz hV1;clear hz1 hz2;clear hs hkk hkt hkj hkq hkm hft hgv hV1 hv1 hkd hy hyl hjl;go_upto_region 11 with (fail)
    rw [HVG.out,HVV.out];clear x1 c0 d0 d1 d2 d3 d4;have y1:=blk5n HY1.out;obtain ⟨b1,hb1⟩:∃ b,(decide (1≤kk) && decide (kk≤12))=b:=⟨_,rfl⟩
    have HC:=hZz (zanY kk kt kj kB iB kq kd km id V1);rw [hb1] at HC;have HB9:Hid (fitsAt l nd j=b1):=hZz (by rw [HFT.out,HKK.out,← hb1];unfold fitsB;simp);clear hb1;cases b1 with
    | false =>
     go_wp2_with (first
      | (go_at_call 168;((with_reducible refine HC.out.mono ?_);rintro e w3 ⟨rfl,hb3⟩;have HB3:=hZz (zaaZ hb3 HV1.out HV1.out.size);clear hb3)))
     exact HPF.out j HJL.out HB9.out _ (zaaZ HB3.out HB1.out HB1.out.size)
    | true =>
     go_wp2_with (first
      | (go_at_call 168;((with_reducible refine HC.out.mono ?_);rintro e w3 ⟨rfl,hb3⟩;have HB3:=hZz (zaaZ hb3 HV1.out HV1.out.size);clear hb3)))
     exact ⟨⟨j+1,by omega,by simp,hZz (fun i h=>by
      by_cases e:i=j
      ·subst e;exact HB9.out
      ·exact HR.out i (by omega)),HB3⟩,by simp [intOf];omega⟩
   ·have e9:j=m:=by omega
    subst e9;go_wp2_with (fail)
    exact HPT.out (by rw [HPC.out];rw [HCM.out];rfl) (fun i h=>HR.out i (by have:=HM.out;omega)) _ HBw.out
set_option maxHeartbeats 16000000 in
theorem parts8X2_s (l:List NodeD) (A:Option Addr) (cap:Nat) (k:Int) (t:ByteArray) (j0:Int) (ks:List ByteArray) (is:List Int) (kA iA:Option Addr) (kc ic:Nat) (w:World) (hN:NodesV w (.slice A l.length cap) l) (hi:SlAt w iA 1 (fun x=>[Value.int .i64 x]) is) (hkid:∀ x∈is,0≤x∧x<l.length) (hm:is.length≤1000) (hl:l.length≤1000) (hk:k=15∨k=16) (hc:is.length=2):Calls prog 127 #[.slice A l.length cap,.agg #[.int .i64 k,.string t,.int .i64 j0,.slice kA ks.length kc,.slice iA is.length ic]] w fun e w'=>e=.returned (.bool (partsB l ⟨k,t,j0,ks,is⟩))∧Below w.heap.size w w':=by
 obtain ⟨nd,hnd⟩:∃ nd,(⟨k,t,j0,ks,is⟩:NodeD)=nd:=⟨_,rfl⟩
 have HKI:Hid (nd.kids=is):=hZz (by rw [← hnd]);have HKK:Hid (nd.kind=k):=hZz (by rw [← hnd]);rw [hnd];obtain ⟨P,hP⟩:∃ P:Ending→World→Prop,(fun e w'=>e=.returned (.bool (partsB l nd))∧Below w.heap.size w w')=P:=⟨_,rfl⟩
 rw [hP]
 have HPF:Hid (∀ j,j<is.length→fitsAt l nd j=false→∀ w',Below w.heap.size w w'→P (.returned (.bool false)) w'):=hZz (fun j hj hf w' h2=>by
  rw [← hP];refine ⟨?_,h2⟩
  have:(List.range is.length).all (fitsAt l nd)=false:=by
   rw [List.all_eq_false];exact ⟨j,by simpa using hj,by rw [hf];simp⟩
  unfold partsB;rw [HKI.out,this,Bool.and_false])
 have HPT:Hid (countB nd=true→(∀ j,j<is.length→fitsAt l nd j=true)→∀ w',Below w.heap.size w w'→P (.returned (.bool true)) w'):=hZz (fun hc hf w' h2=>by
  rw [← hP];refine ⟨?_,h2⟩
  have:(List.range is.length).all (fitsAt l nd)=true:=by
   rw [List.all_eq_true];exact fun j hj=>hf j (by simpa using hj)
  unfold partsB;rw [HKI.out,this,hc];rfl)
 obtain ⟨m,hmm⟩:∃ m,is.length=m:=⟨_,rfl⟩
 obtain ⟨q,hq⟩:∃ m,ks.length=m:=⟨_,rfl⟩
 obtain ⟨nl,hnl⟩:∃ m,l.length=m:=⟨_,rfl⟩
 have HPC:Hid (countB nd=cntK k m):=hZz (by rw [zbnY,HKK.out,HKI.out,hmm]);have HN:=hZz hN;have HI:=hZz hi;have HKD:=hZz hkid;have HM:=hZz hmm;have HL:=hZz hnl;rw [hmm] at hm;rw [hnl] at hl;rw [hmm,hq,hnl];obtain ⟨W1,hW1⟩:∃ W,w.alloc (.cells #[.int .i64 k,.string t,.int .i64 j0,.slice kA q kc,.slice iA m ic] 58)=W:=⟨_,rfl⟩
 obtain ⟨g,hg⟩:∃ g,w.heap.size=g:=⟨_,rfl⟩
 have hb1:Below w.heap.size w W1:=by rw [← hW1];exact zacZ _ _
 have HB1:=hZz hb1;have HX1:Hid (Blk W1 g 58 #[.int .i64 k,.string t,.int .i64 j0,.slice kA q kc,.slice iA m ic]):=hZz (by rw [← hW1,← hg];exact Blk.new _ _ _);have HG:=hZz hg;have HW1:=hZz hW1;clear hP hnd hN hi hkid hmm hq hnl hg hW1 hb1;rw [HM.out] at hc;have HCM:=hZz hc;have e1:((m:Int) != 2)=false:=by rw [hc];rfl
 clear hc;rcases hk with hk | hk
 all_goals subst hk
 all_goals
  go_enter func127,ntmps127
  go_upto_region 1 with fail
  rw [HG.out,HW1.out];clear HG HW1;have x1:=blk5n HX1.out;go_upto_region 8 with (fail)
  try go_wp2_with (fail)
  clear x1
  try clear e1
  try clear e2
  go_loopw [7,8] (fun jv _ wr=>∃ j:Nat,j≤m∧jv=.int .i64 j∧Hid (∀ i,i<j→fitsAt l nd i=true)∧Hid (Below W1.heap.size W1 wr)) (fun jv _ _=>m - (intOf jv).toNat)
  case atStart=>exact ⟨0,Nat.zero_le _,rfl,hZz (fun i h=>by omega),hZz (Below.refl _ _)⟩
  case round =>
   obtain ⟨j,hj,rfl,HR,HBr⟩:=hrel;have hj0:(0:Int)≤(j:Int):=by omega
   have HBw:=hZz (zaaZ HBr.out HB1.out HB1.out.size);have x1:=blk5n (HX1.out.below HBr.out);by_cases hlt:j<m
   ·have hlt':(j:Int)<(m:Int):=by omega
    have hjl:j<is.length:=by rw [HM.out];exact hlt
    have hkd:=HKD.out _ (List.getElem_mem hjl);obtain ⟨y,hy⟩:∃ y:Nat,is[j]=(y:Int):=⟨(is[j]).toNat,by omega⟩
    have hs:=HI.out.below HBw.out;obtain ⟨bA,off,rfl,_⟩:=hs.ptr hjl;have c0:=hs.cell0 hjl (v:=.int .i64 (y:Nat)) (by rw [hy];rfl);rw [Nat.mul_one] at c0;rw [hy] at hkd;have hyl:y<l.length:=by omega
    obtain ⟨b1,o1,kB,kd,iB,id,hA,_,d0,d1,d2,d3,d4,hz1,hz2⟩:=zalY (zahY zaoY _ _ _ _ HN.out HBw.out) hyl;subst hA;obtain ⟨kk,hkk⟩:∃ x,(l[y]).kind=x:=⟨_,rfl⟩
    obtain ⟨kt,hkt⟩:∃ x,(l[y]).text=x:=⟨_,rfl⟩
    obtain ⟨kj,hkj⟩:∃ x,(l[y]).int=x:=⟨_,rfl⟩
    obtain ⟨kq,hkq⟩:∃ x,(l[y]).keys.length=x:=⟨_,rfl⟩
    obtain ⟨km,hkm⟩:∃ x,(l[y]).kids.length=x:=⟨_,rfl⟩
    have hft:fitsAt l nd j=fitsB nd.kind j kk:=by
     unfold fitsAt;rw [HKI.out,zaiZ hjl,hy,Int.toNat_natCast,zaiZ hyl,hkk]
    have HFT:=hZz hft;have HJL:=hZz hjl;rw [hkk] at d0;rw [hkt] at d1;rw [hkj] at d2;rw [hkq] at d3;rw [hkm] at d4;have hy0:(0:Int)≤(y:Int):=by omega
    have hy1:(y:Int)<(nl:Int):=by have:=HL.out;omega
    obtain ⟨V1,hV1⟩:∃ W,wr.alloc (.cells #[.int .i64 kk,.string kt,.int .i64 kj,.slice kB kq kd,.slice iB km id] 58)=W:=⟨_,rfl⟩
    obtain ⟨gv,hgv⟩:∃ g,wr.heap.size=g:=⟨_,rfl⟩
    have hv1:Below wr.heap.size wr V1:=by rw [← hV1];exact zacZ _ _
    have HV1:=hZz (zaaZ hv1 HBr.out HBr.out.size);have HY1:Hid (Blk V1 gv 58 #[.int .i64 kk,.string kt,.int .i64 kj,.slice kB kq kd,.slice iB km id]):=hZz (by rw [← hV1,← hgv];exact Blk.new _ _ _);have HVG:=hZz hgv;have HVV:=hZz hV1;clear hz1 hz2;clear hs hkk hkt hkj hkq hkm hft hgv hV1 hv1 hkd hy hyl hjl;go_upto_region 11 with (fail)
    rw [HVG.out,HVV.out];clear x1 c0 d0 d1 d2 d3 d4;have y1:=blk5n HY1.out;by_cases hp:0<j
    ·have hp':(0:Int)<(j:Int):=by omega
     obtain ⟨b1,hb1⟩:∃ b,(kk != 19)=b:=⟨_,rfl⟩
     have HB9:Hid (fitsAt l nd j=!b1):=hZz (by rw [HFT.out,HKK.out,← hb1];unfold fitsB;simp [hp];(by_cases h19:kk=19 <;> simp [h19]));cases b1 with
     | true =>
      go_wp2_with (fail)
      exact HPF.out j HJL.out HB9.out _ (zaaZ HV1.out HB1.out HB1.out.size)
     | false =>
      go_wp2_with (fail)
      exact ⟨⟨j+1,by omega,by simp,hZz (fun i h=>by
       by_cases e:i=j
       ·subst e;exact HB9.out
       ·exact HR.out i (by omega)),HV1⟩,by simp [intOf];omega⟩
    ·have hp':¬ (0:Int)<(j:Int):=by omega
     obtain ⟨b1,hb1⟩:∃ b,(decide (1≤kk) && decide (kk≤12))=b:=⟨_,rfl⟩
     have HC:=hZz (zanY kk kt kj kB iB kq kd km id V1);rw [hb1] at HC;have HB9:Hid (fitsAt l nd j=b1):=hZz (by rw [HFT.out,HKK.out,← hb1];unfold fitsB;simp [hp]);clear hb1;cases b1 with
     | false =>
      go_wp2_with (first
       | (go_at_call 168;((with_reducible refine HC.out.mono ?_);rintro e w3 ⟨rfl,hb3⟩;have HB3:=hZz (zaaZ hb3 HV1.out HV1.out.size);clear hb3)))
      exact HPF.out j HJL.out HB9.out _ (zaaZ HB3.out HB1.out HB1.out.size)
     | true =>
      go_wp2_with (first
       | (go_at_call 168;((with_reducible refine HC.out.mono ?_);rintro e w3 ⟨rfl,hb3⟩;have HB3:=hZz (zaaZ hb3 HV1.out HV1.out.size);clear hb3)))
      exact ⟨⟨j+1,by omega,by simp,hZz (fun i h=>by
       by_cases e:i=j
       ·subst e;exact HB9.out
       ·exact HR.out i (by omega)),HB3⟩,by simp [intOf];omega⟩
   ·have e9:j=m:=by omega
    subst e9;go_wp2_with (fail)
    exact HPT.out (by rw [HPC.out];rw [HCM.out];rfl) (fun i h=>HR.out i (by have:=HM.out;omega)) _ HBw.out
set_option maxHeartbeats 16000000 in
theorem parts8X3_s (l:List NodeD) (A:Option Addr) (cap:Nat) (k:Int) (t:ByteArray) (j0:Int) (ks:List ByteArray) (is:List Int) (kA iA:Option Addr) (kc ic:Nat) (w:World) (hN:NodesV w (.slice A l.length cap) l) (hi:SlAt w iA 1 (fun x=>[Value.int .i64 x]) is) (hkid:∀ x∈is,0≤x∧x<l.length) (hm:is.length≤1000) (hl:l.length≤1000) (hk:k=15) (hc:is.length=3):Calls prog 127 #[.slice A l.length cap,.agg #[.int .i64 k,.string t,.int .i64 j0,.slice kA ks.length kc,.slice iA is.length ic]] w fun e w'=>e=.returned (.bool (partsB l ⟨k,t,j0,ks,is⟩))∧Below w.heap.size w w':=by
 obtain ⟨nd,hnd⟩:∃ nd,(⟨k,t,j0,ks,is⟩:NodeD)=nd:=⟨_,rfl⟩
 have HKI:Hid (nd.kids=is):=hZz (by rw [← hnd]);have HKK:Hid (nd.kind=k):=hZz (by rw [← hnd]);rw [hnd];obtain ⟨P,hP⟩:∃ P:Ending→World→Prop,(fun e w'=>e=.returned (.bool (partsB l nd))∧Below w.heap.size w w')=P:=⟨_,rfl⟩
 rw [hP]
 have HPF:Hid (∀ j,j<is.length→fitsAt l nd j=false→∀ w',Below w.heap.size w w'→P (.returned (.bool false)) w'):=hZz (fun j hj hf w' h2=>by
  rw [← hP];refine ⟨?_,h2⟩
  have:(List.range is.length).all (fitsAt l nd)=false:=by
   rw [List.all_eq_false];exact ⟨j,by simpa using hj,by rw [hf];simp⟩
  unfold partsB;rw [HKI.out,this,Bool.and_false])
 have HPT:Hid (countB nd=true→(∀ j,j<is.length→fitsAt l nd j=true)→∀ w',Below w.heap.size w w'→P (.returned (.bool true)) w'):=hZz (fun hc hf w' h2=>by
  rw [← hP];refine ⟨?_,h2⟩
  have:(List.range is.length).all (fitsAt l nd)=true:=by
   rw [List.all_eq_true];exact fun j hj=>hf j (by simpa using hj)
  unfold partsB;rw [HKI.out,this,hc];rfl)
 obtain ⟨m,hmm⟩:∃ m,is.length=m:=⟨_,rfl⟩
 obtain ⟨q,hq⟩:∃ m,ks.length=m:=⟨_,rfl⟩
 obtain ⟨nl,hnl⟩:∃ m,l.length=m:=⟨_,rfl⟩
 have HPC:Hid (countB nd=cntK k m):=hZz (by rw [zbnY,HKK.out,HKI.out,hmm]);have HN:=hZz hN;have HI:=hZz hi;have HKD:=hZz hkid;have HM:=hZz hmm;have HL:=hZz hnl;rw [hmm] at hm;rw [hnl] at hl;rw [hmm,hq,hnl];obtain ⟨W1,hW1⟩:∃ W,w.alloc (.cells #[.int .i64 k,.string t,.int .i64 j0,.slice kA q kc,.slice iA m ic] 58)=W:=⟨_,rfl⟩
 obtain ⟨g,hg⟩:∃ g,w.heap.size=g:=⟨_,rfl⟩
 have hb1:Below w.heap.size w W1:=by rw [← hW1];exact zacZ _ _
 have HB1:=hZz hb1;have HX1:Hid (Blk W1 g 58 #[.int .i64 k,.string t,.int .i64 j0,.slice kA q kc,.slice iA m ic]):=hZz (by rw [← hW1,← hg];exact Blk.new _ _ _);have HG:=hZz hg;have HW1:=hZz hW1;clear hP hnd hN hi hkid hmm hq hnl hg hW1 hb1;rw [HM.out] at hc;have HCM:=hZz hc;have e1:((m:Int) != 2)=true:=by rw [hc];rfl
 have e2:((m:Int) != 3)=false:=by rw [hc];rfl
 clear hc;subst hk
 all_goals
  go_enter func127,ntmps127
  go_upto_region 1 with fail
  rw [HG.out,HW1.out];clear HG HW1;have x1:=blk5n HX1.out;go_upto_region 8 with (fail)
  try go_wp2_with (fail)
  clear x1
  try clear e1
  try clear e2
  go_loopw [7,8] (fun jv _ wr=>∃ j:Nat,j≤m∧jv=.int .i64 j∧Hid (∀ i,i<j→fitsAt l nd i=true)∧Hid (Below W1.heap.size W1 wr)) (fun jv _ _=>m - (intOf jv).toNat)
  case atStart=>exact ⟨0,Nat.zero_le _,rfl,hZz (fun i h=>by omega),hZz (Below.refl _ _)⟩
  case round =>
   obtain ⟨j,hj,rfl,HR,HBr⟩:=hrel;have hj0:(0:Int)≤(j:Int):=by omega
   have HBw:=hZz (zaaZ HBr.out HB1.out HB1.out.size);have x1:=blk5n (HX1.out.below HBr.out);by_cases hlt:j<m
   ·have hlt':(j:Int)<(m:Int):=by omega
    have hjl:j<is.length:=by rw [HM.out];exact hlt
    have hkd:=HKD.out _ (List.getElem_mem hjl);obtain ⟨y,hy⟩:∃ y:Nat,is[j]=(y:Int):=⟨(is[j]).toNat,by omega⟩
    have hs:=HI.out.below HBw.out;obtain ⟨bA,off,rfl,_⟩:=hs.ptr hjl;have c0:=hs.cell0 hjl (v:=.int .i64 (y:Nat)) (by rw [hy];rfl);rw [Nat.mul_one] at c0;rw [hy] at hkd;have hyl:y<l.length:=by omega
    obtain ⟨b1,o1,kB,kd,iB,id,hA,_,d0,d1,d2,d3,d4,hz1,hz2⟩:=zalY (zahY zaoY _ _ _ _ HN.out HBw.out) hyl;subst hA;obtain ⟨kk,hkk⟩:∃ x,(l[y]).kind=x:=⟨_,rfl⟩
    obtain ⟨kt,hkt⟩:∃ x,(l[y]).text=x:=⟨_,rfl⟩
    obtain ⟨kj,hkj⟩:∃ x,(l[y]).int=x:=⟨_,rfl⟩
    obtain ⟨kq,hkq⟩:∃ x,(l[y]).keys.length=x:=⟨_,rfl⟩
    obtain ⟨km,hkm⟩:∃ x,(l[y]).kids.length=x:=⟨_,rfl⟩
    have hft:fitsAt l nd j=fitsB nd.kind j kk:=by
     unfold fitsAt;rw [HKI.out,zaiZ hjl,hy,Int.toNat_natCast,zaiZ hyl,hkk]
    have HFT:=hZz hft;have HJL:=hZz hjl;rw [hkk] at d0;rw [hkt] at d1;rw [hkj] at d2;rw [hkq] at d3;rw [hkm] at d4;have hy0:(0:Int)≤(y:Int):=by omega
    have hy1:(y:Int)<(nl:Int):=by have:=HL.out;omega
    obtain ⟨V1,hV1⟩:∃ W,wr.alloc (.cells #[.int .i64 kk,.string kt,.int .i64 kj,.slice kB kq kd,.slice iB km id] 58)=W:=⟨_,rfl⟩
    obtain ⟨gv,hgv⟩:∃ g,wr.heap.size=g:=⟨_,rfl⟩
    have hv1:Below wr.heap.size wr V1:=by rw [← hV1];exact zacZ _ _
    have HV1:=hZz (zaaZ hv1 HBr.out HBr.out.size);have HY1:Hid (Blk V1 gv 58 #[.int .i64 kk,.string kt,.int .i64 kj,.slice kB kq kd,.slice iB km id]):=hZz (by rw [← hV1,← hgv];exact Blk.new _ _ _);have HVG:=hZz hgv;have HVV:=hZz hV1;clear hz1 hz2;clear hs hkk hkt hkj hkq hkm hft hgv hV1 hv1 hkd hy hyl hjl;go_upto_region 11 with (fail)
    rw [HVG.out,HVV.out];clear x1 c0 d0 d1 d2 d3 d4;have y1:=blk5n HY1.out;by_cases hp:0<j
    ·have hp':(0:Int)<(j:Int):=by omega
     obtain ⟨b1,hb1⟩:∃ b,(kk != 19)=b:=⟨_,rfl⟩
     have HB9:Hid (fitsAt l nd j=!b1):=hZz (by rw [HFT.out,HKK.out,← hb1];unfold fitsB;simp [hp];(by_cases h19:kk=19 <;> simp [h19]));cases b1 with
     | true =>
      go_wp2_with (fail)
      exact HPF.out j HJL.out HB9.out _ (zaaZ HV1.out HB1.out HB1.out.size)
     | false =>
      go_wp2_with (fail)
      exact ⟨⟨j+1,by omega,by simp,hZz (fun i h=>by
       by_cases e:i=j
       ·subst e;exact HB9.out
       ·exact HR.out i (by omega)),HV1⟩,by simp [intOf];omega⟩
    ·have hp':¬ (0:Int)<(j:Int):=by omega
     obtain ⟨b1,hb1⟩:∃ b,(decide (1≤kk) && decide (kk≤12))=b:=⟨_,rfl⟩
     have HC:=hZz (zanY kk kt kj kB iB kq kd km id V1);rw [hb1] at HC;have HB9:Hid (fitsAt l nd j=b1):=hZz (by rw [HFT.out,HKK.out,← hb1];unfold fitsB;simp [hp]);clear hb1;cases b1 with
     | false =>
      go_wp2_with (first
       | (go_at_call 168;((with_reducible refine HC.out.mono ?_);rintro e w3 ⟨rfl,hb3⟩;have HB3:=hZz (zaaZ hb3 HV1.out HV1.out.size);clear hb3)))
      exact HPF.out j HJL.out HB9.out _ (zaaZ HB3.out HB1.out HB1.out.size)
     | true =>
      go_wp2_with (first
       | (go_at_call 168;((with_reducible refine HC.out.mono ?_);rintro e w3 ⟨rfl,hb3⟩;have HB3:=hZz (zaaZ hb3 HV1.out HV1.out.size);clear hb3)))
      exact ⟨⟨j+1,by omega,by simp,hZz (fun i h=>by
       by_cases e:i=j
       ·subst e;exact HB9.out
       ·exact HR.out i (by omega)),HB3⟩,by simp [intOf];omega⟩
   ·have e9:j=m:=by omega
    subst e9;go_wp2_with (fail)
    exact HPT.out (by rw [HPC.out];rw [HCM.out];rfl) (fun i h=>HR.out i (by have:=HM.out;omega)) _ HBw.out
end Go.Proofs.YthiimbhjpdphpaaGreatDoor
