/- GL6 -/
import Derived.Test.YthiimbhjpdphpaaGreatDoorPGL4
import Derived.Laws.BytesArg
import Derived.OwnWalk
set_option linter.unusedVariables false
set_option linter.unusedSimpArgs false
namespace Go.Proofs.YthiimbhjpdphpaaGreatDoor
open Go.RowKit
set_option maxRecDepth 100000
set_option maxHeartbeats 8000000
open Go.Proofs.Tryz
section
theorem Tryz.infoU8:(prog.info? 5).map (fun i=>(i.zero,i.size,i.bytes))=some (some (.int .u8 0),1,1):=by kernel_rfl
theorem own_str {w:World} {base n:Nat} {v:Value} {ys:List Int} (h:w.ownsRow base 5 1 v n (ys.map (Value.int .u8))):∃ t,(convert 247 9 v).run prog w=.ok (.string t) w:=by
 have h0:=h;rcases h.2 with ⟨rfl,_⟩ | ⟨g,cap,cur,rfl,_,_,h3,_⟩
 ·exact ⟨_,run_convert_bytes_nil _ _ _ underlying247 underlying5 0 0 _ underlying9⟩
 ·have hs:SlAt w (some ⟨g,0,none⟩) 1 (fun y:Int=>[Value.int .u8 y]) ys:=SlAt.of_own h0 (by rw [List.map_eq_flatMap]) (fun _=>rfl) (by omega)
  have hn:ys.length=n:=by have:=h0.1;simpa using this
  refine ⟨_,run_convert_bytes_arg _ _ _ underlying247 underlying5 g 0 n cap ys hn (fun i hi=>?_) _ underlying9⟩
  have hi':i<ys.length:=by omega
  have:=hs.cell (n:=i) hi' (j:=0) (v:=.int .u8 ys[i]) rfl
  simpa [List.getD_eq_getElem?_getD,hi'] using this
attribute [local go_sem] zabZ zavY
def LTextP (s:ByteArray) (e:Ending):Prop:=∃ (t:ByteArray) (n:Nat) (k:Int),e=.returned (.tuple #[.string t,.int .i64 n,.int .i64 k])∧n≤s.size∧(k=0→0<n)
theorem ltext_any (s:ByteArray) (w:World) (hs:s.size≤140737488351232) (h0:0<s.size):Calls prog 214 #[.string s] w fun e w'=>LTextP s e∧Below w.heap.size w w':=by
 obtain ⟨i0,hi,hz0,hz1,hz2⟩:=info_parts Tryz.infoU8;obtain ⟨P,hP⟩:∃ P:Ending→World→Prop,(fun e w'=>LTextP s e∧Below w.heap.size w w')=P:=⟨_,rfl⟩
 rw [hP];have HP:=hZz hP;clear hP;go_enter func214,ntmps214
 go_wp2_with (fail)
 go_loopw [5,6] (fun ov iv wr=>∃ (k n:Nat) (ys:List Int),1≤k∧k≤s.size∧n≤200∧iv=.int .i64 k∧Hid (wr.ownsRow w.heap.size 5 1 ov n (ys.map (Value.int .u8)))∧Below w.heap.size w wr) (fun _ iv _=>s.size - (intOf iv).toNat)
 case atStart=>exact ⟨1,0,[],Nat.le_refl _,h0,Nat.zero_le _,rfl,hZz (World.ownsRow_nil _ _ _ _),Below.refl _ _⟩
 case round =>
  obtain ⟨k,n,ys,hk1,hk,hn,rfl,HO,hbel⟩:=hrel;have HB:=hZz hbel;clear hbel;obtain ⟨tt,hconv⟩:=own_str HO.out;obtain ⟨oA,ocap,hov⟩:=zajZ HO.out;subst hov;have hk0:(0:Int)≤(k:Int):=by omega
  have hn0:(0:Int)≤(n:Int):=by omega
  have hs9:(s.size:Int)≤140737488351232:=by omega
  by_cases hlt:k<s.size
  ·have hlt':(k:Int)<(s.size:Int):=by omega
   have hk9:(k:Int)+1≤140737488351232:=by omega
   by_cases hlo:(s[k].toNat:Int)<32
   ·go_wp2_with (fail)
    rw [← HP.out];exact ⟨⟨_,k,1,rfl,by omega,fun h=>by omega⟩,HB.out⟩
   by_cases hhi:(126:Int)<(s[k].toNat:Int)
   ·go_wp2_with (fail)
    rw [← HP.out];exact ⟨⟨_,k,1,rfl,by omega,fun h=>by omega⟩,HB.out⟩
   by_cases hq:(s[k].toNat:Int)=34
   ·have hq':((s[k].toNat:Int) == 34)=true:=by simpa using hq
    go_wp2_with (fail)
    rw [← HP.out];exact ⟨⟨_,k+1,0,by push_cast;rfl,by omega,fun h=>by omega⟩,HB.out⟩
   have hq':((s[k].toNat:Int) == 34)=false:=by simpa using hq
   by_cases hb:(s[k].toNat:Int)=92
   ·have hb':((s[k].toNat:Int) == 92)=true:=by simpa using hb
    by_cases he:k+1=s.size
    ·have he':((k:Int)+1 == (s.size:Int))=true:=by simp;omega
     go_wp2_with (fail)
     rw [← HP.out];exact ⟨⟨_,k,1,rfl,by omega,fun h=>by omega⟩,HB.out⟩
    ·have he':((k:Int)+1 == (s.size:Int))=false:=by simp;omega
     have hlt2:k+1<s.size:=by omega
     have hlt2':(k:Int)+1<(s.size:Int):=by omega
     clear hq hb he;clear hk9;have hk10:(0:Int)≤(k:Int)+1:=by omega
     by_cases h34:(s[k+1].toNat:Int)=34
     ·have h34':((s[k+1].toNat:Int) != 34)=false:=by simpa using h34
      have h34'':((s[k+1].toNat:Int) == 34)=true:=by simpa using h34
      clear h34;by_cases hf:n=200
      ·subst hf
       go_wp2_with (fail)
       rw [← HP.out];exact ⟨⟨_,0,3,rfl,by omega,fun h=>by omega⟩,HB.out⟩
      ·have hf':((n:Int) == 200)=false:=by simp;omega
       go_wp2_with (first
        | (at_builtin;refine zafY rfl (.tmp 62) (.tmp 66) 247 rfl i0 _ 1 underlying247 hi hz0 hz1 hz2 rfl (by omega) rfl HO.out [.int .u8 ((s[k+1]).toNat)] (by simp [go_sem]) rfl (by simp [Value.oneCell']) (by omega) (by omega) HB.out.size ?_;intro v' w3 hown3 hb3 hs3 hg3;have HO3:=hZz hown3;have HB3:=hZz hb3;clear hown3 hb3 hs3 hg3))
       exact ⟨⟨k+1+1,n+1,ys ++ [((s[k+1]).toNat:Int)],by omega,by omega,by omega,by simp,hZz (by simpa using HO3.out),HB.out.trans HB3.out⟩,by simp [intOf];omega⟩
     ·have h34':((s[k+1].toNat:Int) != 34)=true:=by simpa using h34
      have h34'':((s[k+1].toNat:Int) == 34)=false:=by simpa using h34
      clear h34;by_cases h92:(s[k+1].toNat:Int)=92
      ·have h92':((s[k+1].toNat:Int) != 92)=false:=by simpa using h92
       have h92'':((s[k+1].toNat:Int) == 92)=true:=by simpa using h92
       clear h92;by_cases hf:n=200
       ·subst hf
        go_wp2_with (fail)
        rw [← HP.out];exact ⟨⟨_,0,3,rfl,by omega,fun h=>by omega⟩,HB.out⟩
       ·have hf':((n:Int) == 200)=false:=by simp;omega
        go_wp2_with (first
         | (at_builtin;refine zafY rfl (.tmp 62) (.tmp 66) 247 rfl i0 _ 1 underlying247 hi hz0 hz1 hz2 rfl (by omega) rfl HO.out [.int .u8 ((s[k+1]).toNat)] (by simp [go_sem]) rfl (by simp [Value.oneCell']) (by omega) (by omega) HB.out.size ?_;intro v' w3 hown3 hb3 hs3 hg3;have HO3:=hZz hown3;have HB3:=hZz hb3;clear hown3 hb3 hs3 hg3))
        exact ⟨⟨k+1+1,n+1,ys ++ [((s[k+1]).toNat:Int)],by omega,by omega,by omega,by simp,hZz (by simpa using HO3.out),HB.out.trans HB3.out⟩,by simp [intOf];omega⟩
      ·have h92':((s[k+1].toNat:Int) != 92)=true:=by simpa using h92
       have h92'':((s[k+1].toNat:Int) == 92)=false:=by simpa using h92
       clear h92;go_wp2_with (fail)
       rw [← HP.out];exact ⟨⟨_,k,1,rfl,by omega,fun h=>by omega⟩,HB.out⟩
   ·have hb':((s[k].toNat:Int) == 92)=false:=by simpa using hb
    clear hq hb;by_cases hf:n=200
    ·subst hf
     go_wp2_with (fail)
     rw [← HP.out];exact ⟨⟨_,0,3,rfl,by omega,fun h=>by omega⟩,HB.out⟩
    ·have hf':((n:Int) == 200)=false:=by simp;omega
     go_wp2_with (first
      | (at_builtin;refine zafY rfl (.tmp 62) (.tmp 66) 247 rfl i0 _ 1 underlying247 hi hz0 hz1 hz2 rfl (by omega) rfl HO.out [.int .u8 ((s[k]).toNat)] (by simp [go_sem]) rfl (by simp [Value.oneCell']) (by omega) (by omega) HB.out.size ?_;intro v' w3 hown3 hb3 hs3 hg3;have HO3:=hZz hown3;have HB3:=hZz hb3;clear hown3 hb3 hs3 hg3))
     exact ⟨⟨k+1,n+1,ys ++ [((s[k]).toNat:Int)],by omega,by omega,by omega,by simp,hZz (by simpa using HO3.out),HB.out.trans HB3.out⟩,by simp [intOf];omega⟩
  ·have e:k=s.size:=by omega
   subst e;go_wp2_with (fail)
   rw [← HP.out];exact ⟨⟨_,0,1,rfl,by omega,fun h=>by omega⟩,HB.out⟩
end
section
structure TkSt (w W:World) (g2 g5:Nat):Prop where
 b2:Blk W g2 184 #[.int .i64 0,.string ⟨#[]⟩,.int .i64 0,.int .i64 0]
 b5:Blk W g5 184 #[.int .i64 0,.string ⟨#[]⟩,.int .i64 0,.int .i64 0]
 hB:Below w.heap.size w W
theorem TkSt.below {w W W':World} {g2 g5:Nat} (h:TkSt w W g2 g5) (hb:Below W.heap.size W W'):TkSt w W' g2 g5:=⟨h.b2.below hb,h.b5.below hb,zahZ hb h.hB⟩
def TokP (s:ByteArray) (e:Ending):Prop:=∃ (kind:Int) (t:ByteArray) (i:Int) (n:Nat) (k:Int),e=.returned (.tuple #[.agg #[.int .i64 kind,.string t,.int .i64 i,.int .i64 0],.int .i64 n,.int .i64 k])∧n≤s.size∧(k=0→0<n∧(kind=1→t=s.extract 0 n∧RunAt s n∧n≤24∧kwB t=false))∧(NameOk s→k=0∧kind=1∧t=s∧n=s.size)
theorem zawY (s:ByteArray):s.extract 0 s.size=s:=by simp
attribute [local go_sem] zabZ zavY
theorem st4 {w W:World} {g:Nat} (h:Below w.heap.size w W) (hg:w.heap.size≤g) (a b c d:Value):Below w.heap.size w ((((W.setCell ⟨g,0,none⟩ a).setCell ⟨g,1,none⟩ b).setCell ⟨g,2,none⟩ c).setCell ⟨g,3,none⟩ d) :=
 (((h.setCell (p:=⟨g,0,none⟩) hg a).setCell (p:=⟨g,1,none⟩) hg b).setCell (p:=⟨g,2,none⟩) hg c).setCell (p:=⟨g,3,none⟩) hg d
theorem of_oth (b:UInt8) (w:World) (hl:letB b=false) (hd:digB b=false) :
  Calls prog 208 #[.int .i32 b.toNat] w fun e w'=>(e=.returned (.int .i64 4)∨e=.returned (.int .i64 5)∨∃ k,e=.returned (.int .i64 k)∧(k == 2)=false∧(k == 3)=false∧(k == 4)=false∧(k == 5)=false)∧Below w.heap.size w w':=by
 refine (of_not b w).mono ?_
 rintro e w' ⟨⟨k,rfl,h2,h3,_,_,_⟩,hb⟩;refine ⟨?_,hb⟩
 by_cases h4:k=4
 ·subst h4;exact .inl rfl
 by_cases h5:k=5
 ·subst h5;exact .inr (.inl rfl)
 exact .inr (.inr ⟨k,rfl,h2 hl,h3 hd,by simpa using h4,by simpa using h5⟩)
set_option maxHeartbeats 16000000 in
theorem token_any (s:ByteArray) (w:World) (hs:s.size≤140737488351232) (h0:0<s.size) (hv:Sent w):Calls prog 180 #[.string s] w fun e w'=>TokP s e∧Below w.heap.size w w':=by
 have h0':(0:Int)<(s.size:Int):=by omega
 have hs9:(s.size:Int)≤140737488351232:=by omega
 obtain ⟨P,hP⟩:∃ P:Ending→World→Prop,(fun e w'=>TokP s e∧Below w.heap.size w w')=P:=⟨_,rfl⟩
 rw [hP];have HP:=hZz hP;have HV:=hZz hv;clear hP hv;go_enter func180,ntmps180
 go_upto_region 2 with fail
 obtain ⟨g2,hg2⟩:∃ g,w.heap.size=g:=⟨_,rfl⟩
 obtain ⟨g5,hg5⟩:∃ g,g2+1=g:=⟨_,rfl⟩
 obtain ⟨W,hW⟩:∃ W,(w.alloc (.cells #[.int .i64 0,.string ⟨#[]⟩,.int .i64 0,.int .i64 0] 184)).alloc (.cells #[.int .i64 0,.string ⟨#[]⟩,.int .i64 0,.int .i64 0] 184)=W:=⟨_,rfl⟩
 have HT:Hid (TkSt w W g2 g5):=hZz (by
  rw [← hW,← hg5,← hg2];exact ⟨(Blk.new w _ _).alloc _,Blk.second _ _ _ _,zauY _ _ _⟩)
 rw [hW,hg2,hg5];have HG:Hid (w.heap.size≤g2):=hZz (by omega);have HVW:Hid (Sent W):=hZz (HV.out.below HT.out.hB);clear hW;have HG2:=hZz hg2;have HG5:Hid (g2≠g5):=hZz (by omega);have hne:g2≠g5:=HG5.out;clear hg2 hg5;obtain ⟨lb,hlb⟩:∃ lb,letB s[0]=lb:=⟨_,rfl⟩
 obtain ⟨db,hdb⟩:∃ db,digB s[0]=db:=⟨_,rfl⟩
 have HL:=hZz hlb;have HD:=hZz hdb;clear hlb hdb;cases lb with
 | true =>
  go_wp2_with (first
   | (go_at_call 208;(with_reducible refine (of_let _ _ HL.out).mono ?_);rintro e w1 ⟨rfl,hb1⟩;have HT1:=hZz (HT.out.below hb1);clear hb1)
   | (go_at_call 211;(with_reducible refine (run_any _ _ hs).mono ?_);rintro e w2 ⟨⟨n,rfl,hr⟩,hb2⟩;have HT2:=hZz (HT1.out.below hb2);have p2:=blk4 HT2.out.b2;have p5:=blk4 HT2.out.b5;have z0:=HT2.out.b2.frozen 0;have z1:=HT2.out.b2.frozen 1;have z2:=HT2.out.b2.frozen 2;have z3:=HT2.out.b2.frozen 3;have HR:=hZz hr;have HN1:Hid (0<n):=hZz (by have:=HL.out;by_cases e:n=0;(subst e;rw [RunAt.zero hr h0] at this;cases this);omega);have hn2:n≤s.size:=hr.1;have hn3:(n:Int)≤(s.size:Int):=(by omega);have hn0:(0:Int)≤(n:Int):=(by omega);clear hb2 hr)
   | (go_at_call 174;(with_reducible refine (keyword_any _ _).mono ?_);rintro e w3 ⟨rfl,hw3⟩;rw [hw3];clear hw3 w3))
  all_goals (refine bodyPost_ret (by simp [results,Tryz.results180,go_sem,p2];try rfl) rfl ?_)
  all_goals rw [← HP.out]
  ·have hgt:24<(n:Int):=by assumption
   exact ⟨⟨0,_,0,0,3,rfl,Nat.zero_le _,fun h=>by omega,fun hN=>absurd ((HR.out.whole h0).2 hN.1) (by have:=hN.2.1;omega)⟩,st4 HT2.out.hB HG.out _ _ _ _⟩
  ·have hkw:kwB (s.extract 0 n)=true:=by assumption
   exact ⟨⟨2,_,0,n,0,rfl,hn2,fun _=>⟨HN1.out,fun h=>by omega⟩,fun hN=>by
    have e:=(HR.out.whole h0).2 hN.1;rw [e,zawY,hN.2.2] at hkw;cases hkw⟩,st4 HT2.out.hB HG.out _ _ _ _⟩
  ·have hle:(n:Int)≤24:=by assumption
   have hkw:kwB (s.extract 0 n)=false:=by assumption
   exact ⟨⟨1,_,0,n,0,rfl,hn2,fun _=>⟨HN1.out,fun _=>⟨rfl,HR.out,by omega,hkw⟩⟩,fun hN=>by
    have e:=(HR.out.whole h0).2 hN.1;exact ⟨rfl,rfl,by rw [e,zawY],e⟩⟩,st4 HT2.out.hB HG.out _ _ _ _⟩
 | false =>
  have HNO:Hid (¬ NameOk s):=hZz (fun h=>by have:=h.1.2.1 h0;rw [HL.out] at this;cases this);cases db with
  | true =>
   go_wp2_with (first
    | (go_at_call 208;(with_reducible refine (of_dig _ _ HD.out).mono ?_);rintro e w1 ⟨rfl,hb1⟩;have HT1:=hZz (HT.out.below hb1);have HV1:=hZz (HVW.out.below hb1);clear hb1)
    | (go_at_call 212;(with_reducible refine (digits_any _ _ hs).mono ?_);rintro e w2 ⟨⟨n,rfl,hn2,hn1⟩,hb2⟩;have HT2:=hZz (HT1.out.below hb2);have HV2:=hZz (HV1.out.below hb2);have HN1:Hid (0<n):=hZz (hn1 h0 HD.out);have hn3:(n:Int)≤(s.size:Int):=(by omega);have hn0:(0:Int)≤(n:Int):=(by omega);clear hb2 hn1)
    | (go_at_call 213;(with_reducible refine (parse_any _ _ (by simp;omega) HV2.out).mono ?_);rintro e w3 ⟨⟨v,k,rfl⟩,hb3⟩;have HT3:=hZz (HT2.out.below hb3);have p2:=blk4 HT3.out.b2;have p5:=blk4 HT3.out.b5;have z0:=HT3.out.b2.frozen 0;have z1:=HT3.out.b2.frozen 1;have z2:=HT3.out.b2.frozen 2;have z3:=HT3.out.b2.frozen 3;clear hb3))
   all_goals (refine bodyPost_ret (by simp [results,Tryz.results180,go_sem,p2];try rfl) rfl ?_)
   all_goals rw [← HP.out]
   ·have hk:¬ k=0:=by simp_all
    exact ⟨⟨0,_,0,0,k,rfl,Nat.zero_le _,fun h=>absurd h hk,fun hN=>absurd hN HNO.out⟩,st4 HT3.out.hB HG.out _ _ _ _⟩
   ·exact ⟨⟨3,_,v,n,0,rfl,hn2,fun _=>⟨HN1.out,fun h=>by omega⟩,fun hN=>absurd hN HNO.out⟩,st4 HT3.out.hB HG.out _ _ _ _⟩
  | false =>
   go_upto_region 3 with (first
    | (go_at_call 208;(with_reducible refine (of_oth _ _ HL.out HD.out).mono ?_);rintro e w1 ⟨he,hb1⟩;have HT1:=hZz (HT.out.below hb1);have p2:=blk4 HT1.out.b2;have p5:=blk4 HT1.out.b5;have z0:=HT1.out.b2.frozen 0;have z1:=HT1.out.b2.frozen 1;have z2:=HT1.out.b2.frozen 2;have z3:=HT1.out.b2.frozen 3;clear hb1;rcases he with rfl | rfl | ⟨k,rfl,k2,k3,k4,k5⟩))
   ·go_wp2_with (first
     | (go_at_call 214;(with_reducible refine (ltext_any _ _ hs h0).mono ?_);rintro e w2 ⟨⟨t,n,k,rfl,hn2,hn1⟩,hb2⟩;clear p2 p5 z0 z1 z2 z3;have HT2:=hZz (HT1.out.below hb2);have p2:=blk4 HT2.out.b2;have p5:=blk4 HT2.out.b5;have z0:=HT2.out.b2.frozen 0;have z1:=HT2.out.b2.frozen 1;have z2:=HT2.out.b2.frozen 2;have z3:=HT2.out.b2.frozen 3;have HN1:=hZz hn1;clear hb2 hn1))
    all_goals (refine bodyPost_ret (by simp [results,Tryz.results180,go_sem,p2];try rfl) rfl ?_)
    all_goals rw [← HP.out]
    ·have hk:¬ k=0:=by simp_all
     exact ⟨⟨0,_,0,n,k,rfl,hn2,fun h=>absurd h hk,fun hN=>absurd hN HNO.out⟩,st4 HT2.out.hB HG.out _ _ _ _⟩
    ·have hk:k=0:=by simp_all
     exact ⟨⟨4,_,0,n,0,rfl,hn2,fun _=>⟨HN1.out hk,fun h=>by omega⟩,fun hN=>absurd hN HNO.out⟩,st4 HT2.out.hB HG.out _ _ _ _⟩
   ·have h1s:(1:Int)≤(s.size:Int):=by omega
    go_wp2_with (first
     | (go_at_call 211;(with_reducible refine (run_any _ _ (by simp;omega)).mono ?_);rintro e w2 ⟨⟨n,rfl,hr⟩,hb2⟩;clear p2 p5 z0 z1 z2 z3;have HT2:=hZz (HT1.out.below hb2);have p2:=blk4 HT2.out.b2;have p5:=blk4 HT2.out.b5;have z0:=HT2.out.b2.frozen 0;have z1:=HT2.out.b2.frozen 1;have z2:=HT2.out.b2.frozen 2;have z3:=HT2.out.b2.frozen 3;have hn2:n+1≤s.size:=(by have:=hr.1;simp at this;omega);have hn3:(n:Int)+1≤(s.size:Int):=(by omega);have hn0:(0:Int)≤(n:Int):=(by omega);have hn4:(1:Int)≤(n:Int)+1:=(by omega);clear hb2 hr))
    all_goals (refine bodyPost_ret (by simp [results,Tryz.results180,go_sem,p2];try rfl) rfl ?_)
    all_goals rw [← HP.out]
    ·exact ⟨⟨0,_,0,0,1,rfl,Nat.zero_le _,fun h=>by omega,fun hN=>absurd hN HNO.out⟩,st4 HT2.out.hB HG.out _ _ _ _⟩
    ·exact ⟨⟨0,_,0,0,3,rfl,Nat.zero_le _,fun h=>by omega,fun hN=>absurd hN HNO.out⟩,st4 HT2.out.hB HG.out _ _ _ _⟩
    ·exact ⟨⟨6,_,0,n+1,0,rfl,hn2,fun _=>⟨by omega,fun h=>by omega⟩,fun hN=>absurd hN HNO.out⟩,st4 HT2.out.hB HG.out _ _ _ _⟩
   ·clear p2 p5 z0 z1 z2 z3
    go_wp2_with (fail)
    go_loopw [14] (fun nv wr=>∃ m:Nat,m≤s.size∧nv=.int .i64 m∧Hid (TkSt w wr g2 g5)) (fun nv _=>(intOf nv).toNat)
    case atStart=>exact ⟨min 2 s.size,Nat.min_le_right _ _,by simp;omega,hZz HT1.out⟩
    case round =>
     obtain ⟨m,hm,rfl,HTR⟩:=hrel;have hm0:(0:Int)≤(m:Int):=by omega
     have hm3:(m:Int)≤(s.size:Int):=by omega
     by_cases hp:(0:Int)<(m:Int)
     ·go_wp2_with (first
       | (go_at_call 215;(with_reducible refine (symbol_any _ _ (by simp;omega)).mono ?_);rintro e w2 ⟨⟨v,rfl⟩,hb2⟩;have HT2:=hZz (HTR.out.below hb2);have p2:=blk4 HT2.out.b2;have p5:=blk4 HT2.out.b5;have z0:=HT2.out.b2.frozen 0;have z1:=HT2.out.b2.frozen 1;have z2:=HT2.out.b2.frozen 2;have z3:=HT2.out.b2.frozen 3;clear hb2;cases v))
      ·exact ⟨⟨m - 1,by omega,by simp;omega,HT2⟩,by simp [intOf];omega⟩
      ·(refine bodyPost_ret (by simp [results,Tryz.results180,go_sem,p2];try rfl) rfl ?_)
       rw [← HP.out];exact ⟨⟨5,_,0,m,0,rfl,hm,fun _=>⟨by omega,fun h=>by omega⟩,fun hN=>absurd hN HNO.out⟩,st4 HT2.out.hB HG.out _ _ _ _⟩
     ·have p2:=blk4 HTR.out.b2
      have p5:=blk4 HTR.out.b5;have z0:=HTR.out.b2.frozen 0;have z1:=HTR.out.b2.frozen 1;have z2:=HTR.out.b2.frozen 2;have z3:=HTR.out.b2.frozen 3;go_wp2_with (fail)
      (refine bodyPost_ret (by simp [results,Tryz.results180,go_sem,p2];try rfl) rfl ?_)
      rw [← HP.out];exact ⟨⟨0,_,0,0,1,rfl,Nat.zero_le _,fun h=>by omega,fun hN=>absurd hN HNO.out⟩,st4 HTR.out.hB HG.out _ _ _ _⟩
end
end Go.Proofs.YthiimbhjpdphpaaGreatDoor
