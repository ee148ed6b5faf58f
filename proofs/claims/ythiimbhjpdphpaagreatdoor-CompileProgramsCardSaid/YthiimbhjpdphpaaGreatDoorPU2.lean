/- U1, U2 -/
import Derived.Test.YthiimbhjpdphpaaGreatDoorPS4
import Derived.StillTailTactics
set_option linter.unusedVariables false
set_option linter.unusedSimpArgs false
namespace Go.Proofs.YthiimbhjpdphpaaGreatDoor
open Go.RowKit
set_option maxRecDepth 100000
open Go.Proofs.Tryz
section
attribute [local go_sem] zabZ
set_option maxHeartbeats 16000000 in
theorem fields8a_s (n:NodeD) (kA iA:Option Addr) (kc ic:Nat) (w:World) (h7:n.kind≠7) (ht:n.text.size≤140737488351232):Calls prog 126 #[.agg (nodeC n kA kc iA ic)] w fun e w'=>e=.returned (.bool (fieldsB n))∧Below w.heap.size w w':=by
 obtain ⟨P,hP⟩:∃ P:Ending→World→Prop,(fun e w'=>e=.returned (.bool (fieldsB n))∧Below w.heap.size w w')=P:=⟨_,rfl⟩
 rw [hP];have hB:∀ o,Below w.heap.size w (w.alloc o):=fun o=>zacZ w o
 have HB0:=hZz hB;obtain ⟨F,hF⟩:∃ F,fieldsB n=F:=⟨_,rfl⟩
 obtain ⟨b1,h1⟩:∃ b,strB n.text=b:=⟨_,rfl⟩
 obtain ⟨b2,h2⟩:∃ b,nameB n.text=b:=⟨_,rfl⟩
 obtain ⟨b3,h3⟩:∃ b,runB n.text=b:=⟨_,rfl⟩
 obtain ⟨b4,h4⟩:∃ b,keysB n.keys=b:=⟨_,rfl⟩
 obtain ⟨b5,h5⟩:∃ b,decide (0<lvlF n.text)=b:=⟨_,rfl⟩
 have H1:Hid (∀ o,Calls prog 165 #[.string n.text] (w.alloc o) fun e w'=>e=.returned (.bool b1)∧Below w.heap.size w w'):=hZz (fun o=>(str8_s n.text _ ht).mono (by
  rintro e w' ⟨rfl,hbel⟩;exact ⟨by rw [h1],zahZ hbel (hB o)⟩))
 have H2:Hid (∀ o,Calls prog 125 #[.string n.text] (w.alloc o) fun e w'=>e=.returned (.bool b2)∧Below w.heap.size w w'):=hZz (fun o=>(name8_s n.text _ ht).mono (by
  rintro e w' ⟨rfl,hbel⟩;exact ⟨by rw [h2],zahZ hbel (hB o)⟩))
 have H3:Hid (∀ o,Calls prog 149 #[.agg #[.int .i64 6,.string n.text,.int .i64 0,.int .i64 0]] (w.alloc o) fun e w'=>(∃ t k,e=.returned (.tuple #[.string t,.int .i64 k])∧(k == 0)=b3)∧Below w.heap.size w w'):=hZz (fun o=>(rtext_host n.text _ ht).mono (by
  rintro e w' ⟨⟨t,k,rfl,hk⟩,hbel⟩;refine ⟨⟨t,k,rfl,?_⟩,zahZ hbel (hB o)⟩
  rw [← h3,Bool.eq_iff_iff,← hk];simp))
 have H5:Hid (∀ o,Calls prog 166 #[.string n.text] (w.alloc o) fun e w'=>e=.returned (.bool b5)∧Below w.heap.size w w'):=hZz (fun o=>(binary8_s n.text _).mono (by
  rintro e w' ⟨rfl,rfl⟩;exact ⟨by rw [h5],hB o⟩))
 have HF:Hid (F=fieldsK n.kind n.text n.int n.keys.length n.kids.length b1 b2 b3 b4 b5):=hZz (by rw [← hF,← h1,← h2,← h3,← h4,← h5];exact fields_K n);rw [hF] at hP;have HP:=hZz hP;clear hP hF h1 h2 h3 h4 h5 hB ht;unfold nodeC;generalize n.kind=k at HF h7 ⊢;generalize n.kids.length=m at HF ⊢;generalize n.keys.length=q at HF ⊢;generalize n.text=t at HF H1 H2 H3 H5 ⊢;generalize n.int=j at HF ⊢;have hk:k=2∨k=3∨k=4∨k=5∨k=11∨k=13∨k=14∨k=12∨k=8∨k=9∨(k≠2∧k≠3∧k≠4∧k≠5∧k≠11∧k≠13∧k≠14∧k≠12∧k≠8∧k≠9):=by omega
 go_enter func126,ntmps126
 rcases hk with rfl | rfl | rfl | rfl | rfl | rfl | rfl | rfl | rfl | rfl | ⟨g1,g2,g3,g4,g5,g6,g7,g8,g10,g11⟩
 all_goals
  go_wp2_with (first
   | (go_at_call 165;(with_reducible refine (H1.out _).mono ?_);rintro e w1 ⟨rfl,hb1⟩;have HB1:=hZz hb1;clear hb1)
   | (go_at_call 125;(with_reducible refine (H2.out _).mono ?_);rintro e w1 ⟨rfl,hb1⟩;have HB1:=hZz hb1;clear hb1)
   | (go_at_call 149;(with_reducible refine (H3.out _).mono ?_);rintro e w1 ⟨⟨t9,k9,rfl,hk9⟩,hb1⟩;have HB1:=hZz hb1;clear hb1)
   | (go_at_call 166;(with_reducible refine (H5.out _).mono ?_);rintro e w1 ⟨rfl,hb1⟩;have HB1:=hZz hb1;clear hb1))
 all_goals
  rw [← HP.out];refine ⟨?_,by first | exact HB1.out | exact HB0.out _⟩
  rw [HF.out];clear HF H1 H2 H3 H5 HB0 HP
  first
   | (simp_all [fieldsK,ib,nb0];done)
   | (simp_all [fieldsK,ib,nb0,isE,lbe];done)
   | (simp_all [fieldsK,ib,nb0];omega)
   | (simp_all [fieldsK,ib,nb0];intros;omega)
   | (simp_all [fieldsK,ib,nb0,isE,lbe];intros;omega)
end
section
attribute [local go_sem] zabZ
theorem fieldsM (t:ByteArray) (j:Int) (ks:List ByteArray) (kd:List Int):fieldsB ⟨7,t,j,ks,kd⟩=(decide (j=0) && (decide (t.toList=[]) && (decide (ks.length=kd.length) && keysB ks))):=by
 unfold fieldsB;by_cases h:j=0
 ·subst h;simp
 ·simp [h]
theorem not_keys {l:List ByteArray} (h:¬ AscOk l):keysB l=false:=by
 cases hk:keysB l with
 | false=>rfl
 | true=>exact absurd ((keys_iff l).2 hk) h
set_option maxHeartbeats 16000000 in
theorem fields8b_s (t:ByteArray) (j:Int) (ks:List ByteArray) (kd:List Int) (kA iA:Option Addr) (kc ic:Nat) (w:World) (hs:SlAt w kA 1 strCs ks) (hq:ks.length≤10000) (hks:∀ k∈ks,k.size≤140737488351232):Calls prog 126 #[.agg #[.int .i64 7,.string t,.int .i64 j,.slice kA ks.length kc,.slice iA kd.length ic]] w fun e w'=>e=.returned (.bool (fieldsB ⟨7,t,j,ks,kd⟩))∧Below w.heap.size w w':=by
 obtain ⟨P,hP⟩:∃ P:Ending→World→Prop,(fun e w'=>e=.returned (.bool (fieldsB ⟨7,t,j,ks,kd⟩))∧Below w.heap.size w w')=P:=⟨_,rfl⟩
 rw [hP];have HF:=hZz (fieldsM t j ks kd);have HP:Hid (∀ b w',b=fieldsB ⟨7,t,j,ks,kd⟩→Below w.heap.size w w'→P (.returned (.bool b)) w'):=hZz (fun b w' h1 h2=>by rw [← hP,h1];exact ⟨rfl,h2⟩);obtain ⟨q,hqn⟩:∃ q,ks.length=q:=⟨_,rfl⟩
 obtain ⟨m,hm⟩:∃ q,kd.length=q:=⟨_,rfl⟩
 have HQ:=hZz hqn;have HM:=hZz hm;obtain ⟨W1,hW1⟩:∃ W,w.alloc (.cells #[.int .i64 7,.string t,.int .i64 j,.slice kA q kc,.slice iA m ic] 58)=W:=⟨_,rfl⟩
 obtain ⟨g,hg⟩:∃ g,w.heap.size=g:=⟨_,rfl⟩
 have hb1:Below w.heap.size w W1:=by rw [← hW1];exact zacZ _ _
 have HB1:=hZz hb1;have HX1:Hid (Blk W1 g 58 #[.int .i64 7,.string t,.int .i64 j,.slice kA q kc,.slice iA m ic]):=hZz (by rw [← hW1,← hg];exact Blk.new _ _ _);have HS:=hZz (hs.below hb1);have HK:=hZz hks;have HG:=hZz hg;have HW1:=hZz hW1;rw [hqn] at hq;rw [hqn,hm];clear hP hs hks hqn hm hg hW1 hb1;by_cases hj:j=0
 case neg =>
  have hj':(j != 0)=true:=by simpa using hj
  have HR:Hid (false=fieldsB ⟨7,t,j,ks,kd⟩):=hZz (by rw [HF.out,decide_eq_false hj];rfl);clear hj;go_enter func126,ntmps126
  go_upto_region 1 with fail
  rw [HG.out,HW1.out];have x1:=blk5n HX1.out;go_wp2_with (fail)
  exact HP.out _ _ HR.out HB1.out
 subst hj;by_cases ht:t.toList=[]
 case neg =>
  have ht':t.toList.isEmpty=false:=by simpa using ht
  have HR:Hid (false=fieldsB ⟨7,t,0,ks,kd⟩):=hZz (by rw [HF.out,decide_eq_false ht];rfl);go_enter func126,ntmps126
  go_upto_region 1 with fail
  rw [HG.out,HW1.out];have x1:=blk5n HX1.out;go_wp2_with (fail)
  exact HP.out _ _ HR.out HB1.out
 have ht':t.toList.isEmpty=true:=by rw [ht];rfl
 have HF2:Hid (fieldsB ⟨7,t,0,ks,kd⟩=(decide (q=m) && keysB ks)):=hZz (by rw [HF.out,decide_eq_true ht,HQ.out,HM.out];rfl);clear HF ht;go_enter func126,ntmps126
 go_upto_region 1 with fail
 rw [HG.out,HW1.out];clear HG HW1;have x1:=blk5n HX1.out;go_upto_region 23 with (fail)
 try go_wp2_with (fail)
 clear x1 ht';go_loopw [5] (fun kv wr=>∃ k:Nat,k≤q∧kv=.int .i64 k∧Hid (∀ i (h:i<ks.length),i<k→AscAt ks i h)∧Hid (Below W1.heap.size W1 wr)) (fun kv _=>q - (intOf kv).toNat)
 case atStart=>exact ⟨0,Nat.zero_le _,rfl,hZz (fun i h h2=>by omega),hZz (Below.refl _ _)⟩
 case round =>
  obtain ⟨k,hk,rfl,HR,HBr⟩:=hrel;have hk0:(0:Int)≤(k:Int):=by omega
  have HBw:=hZz (zaaZ HBr.out HB1.out HB1.out.size);have x1:=blk5n (HX1.out.below HBr.out);by_cases hlt:k<q
  ·have hlt':(k:Int)<(q:Int):=by omega
   have hkl:k<ks.length:=by rw [HQ.out];exact hlt
   obtain ⟨bA,off,rfl,_⟩:=HS.out.ptr hkl;obtain ⟨x,hx⟩:∃ x,ks[k]=x:=⟨_,rfl⟩
   have HC0:Hid (∀ wx,Below W1.heap.size W1 wx→wx.cell? ⟨bA,off+k,none⟩=some (.string x)):=hZz (fun wx hb=>by
    have:=(HS.out.below hb).cell0 hkl (v:=.string x) (by rw [hx];rfl)
    simpa only [Nat.mul_one] using this)
   have hsx:x.size≤140737488351232:=by rw [← hx];exact HK.out _ (List.getElem_mem hkl)
   obtain ⟨bx,hbx⟩:∃ b,strB x=b:=⟨_,rfl⟩
   have HC:=hZz (str8_s x wr.drew hsx);rw [hbx] at HC;have HX:=hZz hx;have HBX:=hZz hbx;have HKL:=hZz hkl;have c0:=HC0.out wr HBr.out;clear hx hsx hbx;by_cases hp0:0<k
   ·have hp0':(0:Int)<(k:Int):=by omega
    have hk1:(0:Int)≤(k:Int) - 1:=by omega
    have hlt1:k - 1<ks.length:=by have:=HKL.out;omega
    have hlt1':(k:Int) - 1<(q:Int):=by omega
    obtain ⟨y,hy⟩:∃ y,ks[k - 1]=y:=⟨_,rfl⟩
    have HY:=hZz hy
    have HC1:Hid (∀ wx,Below W1.heap.size W1 wx→wx.cell? ⟨bA,off+(k - 1),none⟩=some (.string y)):=hZz (fun wx hb=>by
     have:=(HS.out.below hb).cell0 hlt1 (v:=.string y) (by rw [hy];rfl)
     simpa only [Nat.mul_one] using this)
    have htn:((k:Int) - 1).toNat=k - 1:=by omega
    obtain ⟨le,hle⟩:∃ b,sleB x y=b:=⟨_,rfl⟩
    have h5:(Op.bytesLess x.toList y.toList || x.toList == y.toList)=le:=hle;have HLE:=hZz hle
    have HNO:Hid (bx=false∨le=true→false=fieldsB ⟨7,t,0,ks,kd⟩):=hZz (fun h=>by
     have hno:¬ AscOk ks:=fun ha=>by
      have h3:=ha k HKL.out;rcases h with h | h
      ·have h4:=(zb9Y _).2 h3.1
       rw [HX.out,HBX.out,h] at h4;cases h4
      ·have h4:=h3.2 hp0
       rw [HX.out,HY.out,HLE.out,h] at h4;cases h4
     rw [HF2.out,not_keys hno,Bool.and_false])
    have HOK:Hid (bx=true→le=false→∀ i (h:i<ks.length),i<k+1→AscAt ks i h):=hZz (fun h1 h2 i h hi=>by
     by_cases e:i=k
     ·subst e
      refine ⟨by rw [HX.out];exact (zb9Y _).1 (by rw [HBX.out,h1]),fun _=>by rw [HX.out,HY.out,HLE.out,h2]⟩
     ·exact HR.out i h (by omega))
    clear hy hle;have hwr:IntKind.i64.wrap ((k:Int) - 1)=(k:Int) - 1:=IntWalk.i64_in _ (by omega);have hk1n:¬ (k:Int)<1:=by omega
    have HSS:Hid (∀ wx,Below W1.heap.size W1 wx→wx.cell? ⟨g,3,none⟩=some (.slice (some ⟨bA,off,none⟩) q kc)∧wx.cell? ⟨bA,off+k,none⟩=some (.string x)∧wx.cell? ⟨bA,off+(k - 1),none⟩=some (.string y)):=hZz (fun wx hb=>⟨(blk5n (HX1.out.below hb)).2.2.2.1,HC0.out wx hb,HC1.out wx hb⟩);go_upto_region 25 with (fail)
    clear x1 c0;cases bx with
    | false =>
     clear h5;refine wp_region_held_drew (S:=(fun w'=>w'.cell? ⟨g,3,none⟩=some (.slice (some ⟨bA,off,none⟩) q kc)∧w'.cell? ⟨bA,off+k,none⟩=some (.string x)∧w'.cell? ⟨bA,off+(k - 1),none⟩=some (.string y))) (by kernel_rfl) (by (first | exact HSS.out _ HBr.out.drew | exact HSS.out _ HB3.out)) (fun hHeld=>?_)
     refine tkZ (i:=0) (v:=.pointer (some ⟨g,3,none⟩)) rfl ?_
     simp only [nz,Act.put];refine tkZ (i:=1) (v:=.slice (some ⟨bA,off,none⟩) q kc) rfl ?_
     simp only [nz,Act.put];refine tkZ (i:=2) (v:=.int .i64 (k:Nat)) rfl ?_
     simp only [nz,Act.put];refine tkZ (i:=3) (v:=.pointer (some ⟨bA,off+k,none⟩)) rfl ?_
     simp only [nz,Act.put];refine tkZ (i:=4) (v:=.string x) rfl ?_
     simp only [nz,Act.put];refine wpAnyH_ready (rs:=[5]) (by kernel_rfl) (by simp) ?_
     refine AllReadyH.cons (o:=_) rfl (fun K hK=>?_) AllReadyH.nil
     go_simp
     (go_at_call 165;((with_reducible refine HC.out.mono ?_);rintro e w3 ⟨rfl,hb3⟩;have HB3:=hZz (zaaZ hb3 HBr.out.drew HBr.out.size);clear hb3))
     refine hK.out _ _ (by (try dsimp only);(first | exact HSS.out _ HBr.out.drew | exact HSS.out _ HB3.out)) (fun hHeld=>?_)
     clear hK K
     try simp only [nz,Act.put]
     refine tkZ (i:=6) (v:=.bool true) rfl ?_
     simp only [nz,Act.put];refine tkZ (i:=7) (v:=.bool true) rfl ?_
     simp only [nz,Act.put];refine tsZ (i:=8) rfl ?_
     simp only [nz,Act.put];refine tsZ (i:=9) rfl ?_
     simp only [nz,Act.put];refine tsZ (i:=10) rfl ?_
     simp only [nz,Act.put];refine tsZ (i:=11) rfl ?_
     simp only [nz,Act.put];refine tsZ (i:=12) rfl ?_
     simp only [nz,Act.put];refine tsZ (i:=13) rfl ?_
     simp only [nz,Act.put];refine tsZ (i:=14) rfl ?_
     simp only [nz,Act.put];refine tsZ (i:=15) rfl ?_
     simp only [nz,Act.put];refine tsZ (i:=16) rfl ?_
     simp only [nz,Act.put];refine tsZ (i:=17) rfl ?_
     simp only [nz,Act.put];refine tsZ (i:=18) rfl ?_
     simp only [nz,Act.put];refine tsZ (i:=19) rfl ?_
     simp only [nz,Act.put];refine tsZ (i:=20) rfl ?_
     simp only [nz,Act.put];refine tsZ (i:=21) rfl ?_
     simp only [nz,Act.put];refine tsZ (i:=22) rfl ?_
     simp only [nz,Act.put];refine tsZ (i:=23) rfl ?_
     simp only [nz,Act.put];refine tkZ (i:=24) (v:=.bool true) rfl ?_
     simp only [nz,Act.put];refine wpAnyH_done (by kernel_rfl) ?_ _
     try dsimp only [List.getElem_toArray,List.getElem_cons_succ,List.getElem_cons_zero,Act.put]
     try go_wp2_with (fail)
     exact HP.out _ _ (HNO.out (.inl (by first | rfl | trivial))) (zaaZ HB3.out HB1.out HB1.out.size)
    | true =>
     cases le with
     | true =>
      refine wp_region_held_drew (S:=(fun w'=>w'.cell? ⟨g,3,none⟩=some (.slice (some ⟨bA,off,none⟩) q kc)∧w'.cell? ⟨bA,off+k,none⟩=some (.string x)∧w'.cell? ⟨bA,off+(k - 1),none⟩=some (.string y))) (by kernel_rfl) (by (first | exact HSS.out _ HBr.out.drew | exact HSS.out _ HB3.out)) (fun hHeld=>?_)
      refine tkZ (i:=0) (v:=.pointer (some ⟨g,3,none⟩)) rfl ?_
      simp only [nz,Act.put];refine tkZ (i:=1) (v:=.slice (some ⟨bA,off,none⟩) q kc) rfl ?_
      simp only [nz,Act.put];refine tkZ (i:=2) (v:=.int .i64 (k:Nat)) rfl ?_
      simp only [nz,Act.put];refine tkZ (i:=3) (v:=.pointer (some ⟨bA,off+k,none⟩)) rfl ?_
      simp only [nz,Act.put];refine tkZ (i:=4) (v:=.string x) rfl ?_
      simp only [nz,Act.put];refine wpAnyH_ready (rs:=[5]) (by kernel_rfl) (by simp) ?_
      refine AllReadyH.cons (o:=_) rfl (fun K hK=>?_) AllReadyH.nil
      go_simp
      (go_at_call 165;((with_reducible refine HC.out.mono ?_);rintro e w3 ⟨rfl,hb3⟩;have HB3:=hZz (zaaZ hb3 HBr.out.drew HBr.out.size);clear hb3))
      refine hK.out _ _ (by (try dsimp only);(first | exact HSS.out _ HBr.out.drew | exact HSS.out _ HB3.out)) (fun hHeld=>?_)
      clear hK K
      try simp only [nz,Act.put]
      refine tkZ (i:=6) (v:=.bool false) rfl ?_
      simp only [nz,Act.put];refine tkZ (i:=7) (v:=.bool false) rfl ?_
      simp only [nz,Act.put];refine tkZ (i:=8) (v:=.int .i64 (k:Nat)) rfl ?_
      simp only [nz,Act.put];refine tkZ (i:=9) (v:=.bool true) rfl ?_
      simp only [nz,Act.put];refine tkZ (i:=10) (v:=.bool true) rfl ?_
      simp only [nz,Act.put];refine tkZ (i:=11) (v:=.pointer (some ⟨g,3,none⟩)) rfl ?_
      simp only [nz,Act.put];refine tkZ (i:=12) (v:=.slice (some ⟨bA,off,none⟩) q kc) rfl ?_
      simp only [nz,Act.put];refine tkZ (i:=13) (v:=.int .i64 (k:Nat)) rfl ?_
      simp only [nz,Act.put];refine tkZ (i:=14) (v:=.pointer (some ⟨bA,off+k,none⟩)) rfl ?_
      simp only [nz,Act.put];refine tkZ (i:=15) (v:=.string x) rfl ?_
      simp only [nz,Act.put];refine tkZ (i:=16) (v:=.pointer (some ⟨g,3,none⟩)) rfl ?_
      simp only [nz,Act.put];refine tkZ (i:=17) (v:=.slice (some ⟨bA,off,none⟩) q kc) rfl ?_
      simp only [nz,Act.put];refine tkZ (i:=18) (v:=.int .i64 (k:Nat)) rfl ?_
      simp only [nz,Act.put];refine tkZ (i:=19) (v:=.int .i64 ((k:Int) - 1)) rfl ?_
      simp only [nz,Act.put];refine tkZ (i:=20) (v:=.pointer (some ⟨bA,off+(k - 1),none⟩)) rfl ?_
      simp only [nz,Act.put];refine tkZ (i:=21) (v:=.string y) rfl ?_
      simp only [nz,Act.put];refine tkZ (i:=22) (v:=.bool true) rfl ?_
      simp only [nz,Act.put];refine tkZ (i:=23) (v:=.bool true) rfl ?_
      simp only [nz,Act.put];refine tkZ (i:=24) (v:=.bool true) rfl ?_
      simp only [nz,Act.put];refine wpAnyH_done (by kernel_rfl) ?_ _
      try dsimp only [List.getElem_toArray,List.getElem_cons_succ,List.getElem_cons_zero,Act.put]
      try go_wp2_with (fail)
      exact HP.out _ _ (HNO.out (.inr (by first | rfl | trivial))) (zaaZ HB3.out HB1.out HB1.out.size)
     | false =>
      refine wp_region_held_drew (S:=(fun w'=>w'.cell? ⟨g,3,none⟩=some (.slice (some ⟨bA,off,none⟩) q kc)∧w'.cell? ⟨bA,off+k,none⟩=some (.string x)∧w'.cell? ⟨bA,off+(k - 1),none⟩=some (.string y))) (by kernel_rfl) (by (first | exact HSS.out _ HBr.out.drew | exact HSS.out _ HB3.out)) (fun hHeld=>?_)
      refine tkZ (i:=0) (v:=.pointer (some ⟨g,3,none⟩)) rfl ?_
      simp only [nz,Act.put];refine tkZ (i:=1) (v:=.slice (some ⟨bA,off,none⟩) q kc) rfl ?_
      simp only [nz,Act.put];refine tkZ (i:=2) (v:=.int .i64 (k:Nat)) rfl ?_
      simp only [nz,Act.put];refine tkZ (i:=3) (v:=.pointer (some ⟨bA,off+k,none⟩)) rfl ?_
      simp only [nz,Act.put];refine tkZ (i:=4) (v:=.string x) rfl ?_
      simp only [nz,Act.put];refine wpAnyH_ready (rs:=[5]) (by kernel_rfl) (by simp) ?_
      refine AllReadyH.cons (o:=_) rfl (fun K hK=>?_) AllReadyH.nil
      go_simp
      (go_at_call 165;((with_reducible refine HC.out.mono ?_);rintro e w3 ⟨rfl,hb3⟩;have HB3:=hZz (zaaZ hb3 HBr.out.drew HBr.out.size);clear hb3))
      refine hK.out _ _ (by (try dsimp only);(first | exact HSS.out _ HBr.out.drew | exact HSS.out _ HB3.out)) (fun hHeld=>?_)
      clear hK K
      try simp only [nz,Act.put]
      refine tkZ (i:=6) (v:=.bool false) rfl ?_
      simp only [nz,Act.put];refine tkZ (i:=7) (v:=.bool false) rfl ?_
      simp only [nz,Act.put];refine tkZ (i:=8) (v:=.int .i64 (k:Nat)) rfl ?_
      simp only [nz,Act.put];refine tkZ (i:=9) (v:=.bool true) rfl ?_
      simp only [nz,Act.put];refine tkZ (i:=10) (v:=.bool true) rfl ?_
      simp only [nz,Act.put];refine tkZ (i:=11) (v:=.pointer (some ⟨g,3,none⟩)) rfl ?_
      simp only [nz,Act.put];refine tkZ (i:=12) (v:=.slice (some ⟨bA,off,none⟩) q kc) rfl ?_
      simp only [nz,Act.put];refine tkZ (i:=13) (v:=.int .i64 (k:Nat)) rfl ?_
      simp only [nz,Act.put];refine tkZ (i:=14) (v:=.pointer (some ⟨bA,off+k,none⟩)) rfl ?_
      simp only [nz,Act.put];refine tkZ (i:=15) (v:=.string x) rfl ?_
      simp only [nz,Act.put];refine tkZ (i:=16) (v:=.pointer (some ⟨g,3,none⟩)) rfl ?_
      simp only [nz,Act.put];refine tkZ (i:=17) (v:=.slice (some ⟨bA,off,none⟩) q kc) rfl ?_
      simp only [nz,Act.put];refine tkZ (i:=18) (v:=.int .i64 (k:Nat)) rfl ?_
      simp only [nz,Act.put];refine tkZ (i:=19) (v:=.int .i64 ((k:Int) - 1)) rfl ?_
      simp only [nz,Act.put];refine tkZ (i:=20) (v:=.pointer (some ⟨bA,off+(k - 1),none⟩)) rfl ?_
      simp only [nz,Act.put];refine tkZ (i:=21) (v:=.string y) rfl ?_
      simp only [nz,Act.put];refine tkZ (i:=22) (v:=.bool false) rfl ?_
      simp only [nz,Act.put];refine tkZ (i:=23) (v:=.bool false) rfl ?_
      simp only [nz,Act.put];refine tkZ (i:=24) (v:=.bool false) rfl ?_
      simp only [nz,Act.put];refine wpAnyH_done (by kernel_rfl) ?_ _
      try dsimp only [List.getElem_toArray,List.getElem_cons_succ,List.getElem_cons_zero,Act.put]
      try go_wp2_with (fail)
      exact ⟨⟨k+1,by omega,by simp,hZz (HOK.out (by first | rfl | trivial) (by first | rfl | trivial)),HB3⟩,by simp [intOf];omega⟩
   ·have hp0':¬ (0:Int)<(k:Int):=by omega
    have HNO:Hid (bx=false→false=fieldsB ⟨7,t,0,ks,kd⟩):=hZz (fun h=>by
     have hno:¬ AscOk ks:=fun ha=>by
      have h4:=(zb9Y _).2 (ha k HKL.out).1;rw [HX.out,HBX.out,h] at h4;cases h4
     rw [HF2.out,not_keys hno,Bool.and_false])
    have HOK:Hid (bx=true→∀ i (h:i<ks.length),i<k+1→AscAt ks i h):=hZz (fun h1 i h hi=>by
     by_cases e:i=k
     ·subst e
      exact ⟨by rw [HX.out];exact (zb9Y _).1 (by rw [HBX.out,h1]),fun h=>absurd h hp0⟩
     ·exact HR.out i h (by omega))
    have HSS:Hid (∀ wx,Below W1.heap.size W1 wx→wx.cell? ⟨g,3,none⟩=some (.slice (some ⟨bA,off,none⟩) q kc)∧wx.cell? ⟨bA,off+k,none⟩=some (.string x)):=hZz (fun wx hb=>⟨(blk5n (HX1.out.below hb)).2.2.2.1,HC0.out wx hb⟩);go_upto_region 25 with (fail)
    clear x1 c0;cases bx with
    | false =>
     refine wp_region_held_drew (S:=(fun w'=>w'.cell? ⟨g,3,none⟩=some (.slice (some ⟨bA,off,none⟩) q kc)∧w'.cell? ⟨bA,off+k,none⟩=some (.string x))) (by kernel_rfl) (by (first | exact HSS.out _ HBr.out.drew | exact HSS.out _ HB3.out)) (fun hHeld=>?_)
     refine tkZ (i:=0) (v:=.pointer (some ⟨g,3,none⟩)) rfl ?_
     simp only [nz,Act.put];refine tkZ (i:=1) (v:=.slice (some ⟨bA,off,none⟩) q kc) rfl ?_
     simp only [nz,Act.put];refine tkZ (i:=2) (v:=.int .i64 (k:Nat)) rfl ?_
     simp only [nz,Act.put];refine tkZ (i:=3) (v:=.pointer (some ⟨bA,off+k,none⟩)) rfl ?_
     simp only [nz,Act.put];refine tkZ (i:=4) (v:=.string x) rfl ?_
     simp only [nz,Act.put];refine wpAnyH_ready (rs:=[5]) (by kernel_rfl) (by simp) ?_
     refine AllReadyH.cons (o:=_) rfl (fun K hK=>?_) AllReadyH.nil
     go_simp
     (go_at_call 165;((with_reducible refine HC.out.mono ?_);rintro e w3 ⟨rfl,hb3⟩;have HB3:=hZz (zaaZ hb3 HBr.out.drew HBr.out.size);clear hb3))
     refine hK.out _ _ (by (try dsimp only);(first | exact HSS.out _ HBr.out.drew | exact HSS.out _ HB3.out)) (fun hHeld=>?_)
     clear hK K
     try simp only [nz,Act.put]
     refine tkZ (i:=6) (v:=.bool true) rfl ?_
     simp only [nz,Act.put];refine tkZ (i:=7) (v:=.bool true) rfl ?_
     simp only [nz,Act.put];refine tsZ (i:=8) rfl ?_
     simp only [nz,Act.put];refine tsZ (i:=9) rfl ?_
     simp only [nz,Act.put];refine tsZ (i:=10) rfl ?_
     simp only [nz,Act.put];refine tsZ (i:=11) rfl ?_
     simp only [nz,Act.put];refine tsZ (i:=12) rfl ?_
     simp only [nz,Act.put];refine tsZ (i:=13) rfl ?_
     simp only [nz,Act.put];refine tsZ (i:=14) rfl ?_
     simp only [nz,Act.put];refine tsZ (i:=15) rfl ?_
     simp only [nz,Act.put];refine tsZ (i:=16) rfl ?_
     simp only [nz,Act.put];refine tsZ (i:=17) rfl ?_
     simp only [nz,Act.put];refine tsZ (i:=18) rfl ?_
     simp only [nz,Act.put];refine tsZ (i:=19) rfl ?_
     simp only [nz,Act.put];refine tsZ (i:=20) rfl ?_
     simp only [nz,Act.put];refine tsZ (i:=21) rfl ?_
     simp only [nz,Act.put];refine tsZ (i:=22) rfl ?_
     simp only [nz,Act.put];refine tsZ (i:=23) rfl ?_
     simp only [nz,Act.put];refine tkZ (i:=24) (v:=.bool true) rfl ?_
     simp only [nz,Act.put];refine wpAnyH_done (by kernel_rfl) ?_ _
     try dsimp only [List.getElem_toArray,List.getElem_cons_succ,List.getElem_cons_zero,Act.put]
     try go_wp2_with (fail)
     exact HP.out _ _ (HNO.out (by first | rfl | trivial)) (zaaZ HB3.out HB1.out HB1.out.size)
    | true =>
     refine wp_region_held_drew (S:=(fun w'=>w'.cell? ⟨g,3,none⟩=some (.slice (some ⟨bA,off,none⟩) q kc)∧w'.cell? ⟨bA,off+k,none⟩=some (.string x))) (by kernel_rfl) (by (first | exact HSS.out _ HBr.out.drew | exact HSS.out _ HB3.out)) (fun hHeld=>?_)
     refine tkZ (i:=0) (v:=.pointer (some ⟨g,3,none⟩)) rfl ?_
     simp only [nz,Act.put];refine tkZ (i:=1) (v:=.slice (some ⟨bA,off,none⟩) q kc) rfl ?_
     simp only [nz,Act.put];refine tkZ (i:=2) (v:=.int .i64 (k:Nat)) rfl ?_
     simp only [nz,Act.put];refine tkZ (i:=3) (v:=.pointer (some ⟨bA,off+k,none⟩)) rfl ?_
     simp only [nz,Act.put];refine tkZ (i:=4) (v:=.string x) rfl ?_
     simp only [nz,Act.put];refine wpAnyH_ready (rs:=[5]) (by kernel_rfl) (by simp) ?_
     refine AllReadyH.cons (o:=_) rfl (fun K hK=>?_) AllReadyH.nil
     go_simp
     (go_at_call 165;((with_reducible refine HC.out.mono ?_);rintro e w3 ⟨rfl,hb3⟩;have HB3:=hZz (zaaZ hb3 HBr.out.drew HBr.out.size);clear hb3))
     refine hK.out _ _ (by (try dsimp only);(first | exact HSS.out _ HBr.out.drew | exact HSS.out _ HB3.out)) (fun hHeld=>?_)
     clear hK K
     try simp only [nz,Act.put]
     refine tkZ (i:=6) (v:=.bool false) rfl ?_
     simp only [nz,Act.put];refine tkZ (i:=7) (v:=.bool false) rfl ?_
     simp only [nz,Act.put];refine tkZ (i:=8) (v:=.int .i64 (k:Nat)) rfl ?_
     simp only [nz,Act.put];refine tkZ (i:=9) (v:=.bool false) rfl ?_
     simp only [nz,Act.put];refine tkZ (i:=10) (v:=.bool false) rfl ?_
     simp only [nz,Act.put];refine tsZ (i:=11) rfl ?_
     simp only [nz,Act.put];refine tsZ (i:=12) rfl ?_
     simp only [nz,Act.put];refine tsZ (i:=13) rfl ?_
     simp only [nz,Act.put];refine tsZ (i:=14) rfl ?_
     simp only [nz,Act.put];refine tsZ (i:=15) rfl ?_
     simp only [nz,Act.put];refine tsZ (i:=16) rfl ?_
     simp only [nz,Act.put];refine tsZ (i:=17) rfl ?_
     simp only [nz,Act.put];refine tsZ (i:=18) rfl ?_
     simp only [nz,Act.put];refine tsZ (i:=19) rfl ?_
     simp only [nz,Act.put];refine tsZ (i:=20) rfl ?_
     simp only [nz,Act.put];refine tsZ (i:=21) rfl ?_
     simp only [nz,Act.put];refine tsZ (i:=22) rfl ?_
     simp only [nz,Act.put];refine tkZ (i:=23) (v:=.bool false) rfl ?_
     simp only [nz,Act.put];refine tkZ (i:=24) (v:=.bool false) rfl ?_
     simp only [nz,Act.put];refine wpAnyH_done (by kernel_rfl) ?_ _
     try dsimp only [List.getElem_toArray,List.getElem_cons_succ,List.getElem_cons_zero,Act.put]
     try go_wp2_with (fail)
     exact ⟨⟨k+1,by omega,by simp,hZz (HOK.out (by first | rfl | trivial)),HB3⟩,by simp [intOf];omega⟩
  ·have e9:k=q:=by omega
   subst e9;have HT:Hid (keysB ks=true):=hZz ((keys_iff ks).1 (fun i h=>HR.out i h (by have:=HQ.out;omega)));go_wp2_with (fail)
   exact HP.out _ _ (by rw [HF2.out,HT.out,Bool.and_true,Bool.eq_iff_iff];simp;try omega) HBw.out
theorem fields8_s (n:NodeD) (kA iA:Option Addr) (kc ic:Nat) (w:World) (hk:KeysV w (.slice kA n.keys.length kc) n.keys) (ht:n.text.size≤140737488351232) (hq:n.keys.length≤10000) (hks:∀ k∈n.keys,k.size≤140737488351232):Calls prog 126 #[.agg (nodeC n kA kc iA ic)] w fun e w'=>e=.returned (.bool (fieldsB n))∧Below w.heap.size w w':=by
 by_cases h7:n.kind=7
 ·obtain ⟨nk,nt,ni,ks,kd⟩:=n
  simp only at h7;subst h7;obtain ⟨_,_,e,_,hs⟩:=hk;injection e with e1 _ _
  subst e1;exact fields8b_s nt ni ks kd kA iA kc ic w hs hq hks
 ·exact fields8a_s n kA iA kc ic w h7 ht
end
end Go.Proofs.YthiimbhjpdphpaaGreatDoor
