/- GL6, L7 -/
import Derived.Test.YthiimbhjpdphpaaGreatDoorPGL4
import Derived.Laws.BytesArg
import Derived.OwnWalk
set_option linter.unusedVariables false
set_option linter.unusedSimpArgs false
namespace Go.Proofs.YthiimbhjpdphpaaGreatDoor
open Go.RowKit
set_option maxRecDepth 100000
set_option maxHeartbeats 8000000
open Go.Proofs.Tryz
section
theorem Tryz.infoU8:(prog.info? 5).map (fun i=>(i.zero,i.size,i.bytes))=some (some (.int .u8 0),1,1):=by kernel_rfl
theorem own_str {w:World} {base n:Nat} {v:Value} {ys:List Int} (h:w.ownsRow base 5 1 v n (ys.map (Value.int .u8))):∃ t,(convert 247 9 v).run prog w=.ok (.string t) w:=by
 have h0:=h;rcases h.2 with ⟨rfl,_⟩ | ⟨g,cap,cur,rfl,_,_,h3,_⟩
 ·exact ⟨_,run_convert_bytes_nil _ _ _ underlying247 underlying5 0 0 _ underlying9⟩
 ·have hs:SlAt w (some ⟨g,0,none⟩) 1 (fun y:Int=>[Value.int .u8 y]) ys:=SlAt.of_own h0 (by rw [List.map_eq_flatMap]) (fun _=>rfl) (by omega)
  have hn:ys.length=n:=by have:=h0.1;simpa using this
  refine ⟨_,run_convert_bytes_arg _ _ _ underlying247 underlying5 g 0 n cap ys hn (fun i hi=>?_) _ underlying9⟩
  have hi':i<ys.length:=by omega
  have:=hs.cell (n:=i) hi' (j:=0) (v:=.int .u8 ys[i]) rfl
  simpa [List.getD_eq_getElem?_getD,hi'] using this
attribute [local go_sem] zabZ za0Y
def LTextP (s:ByteArray) (e:Ending):Prop:=∃ (t:ByteArray) (n:Nat) (k:Int),e=.returned (.tuple #[.string t,.int .i64 n,.int .i64 k])∧n≤s.size∧(k=0→0<n)
theorem ltext_any (s:ByteArray) (w:World) (hs:s.size≤140737488351232) (h0:0<s.size):Calls prog 214 #[.string s] w fun e w'=>LTextP s e∧Below w.heap.size w w':=by
 obtain ⟨i0,hi,hz0,hz1,hz2⟩:=info_parts Tryz.infoU8;obtain ⟨P,hP⟩:∃ P:Ending→World→Prop,(fun e w'=>LTextP s e∧Below w.heap.size w w')=P:=⟨_,rfl⟩
 rw [hP];have HP:=hZz hP;clear hP;go_enter func214,ntmps214
 go_wp2_with (fail)
 go_loopw [5,6] (fun ov iv wr=>∃ (k n:Nat) (ys:List Int),1≤k∧k≤s.size∧n≤200∧iv=.int .i64 k∧Hid (wr.ownsRow w.heap.size 5 1 ov n (ys.map (Value.int .u8)))∧Below w.heap.size w wr) (fun _ iv _=>s.size - (intOf iv).toNat)
 case atStart=>exact ⟨1,0,[],Nat.le_refl _,h0,Nat.zero_le _,rfl,hZz (World.ownsRow_nil _ _ _ _),Below.refl _ _⟩
 case round =>
  obtain ⟨k,n,ys,hk1,hk,hn,rfl,HO,hbel⟩:=hrel;have HB:=hZz hbel;clear hbel;obtain ⟨tt,hconv⟩:=own_str HO.out;obtain ⟨oA,ocap,hov⟩:=zaiZ HO.out;subst hov;have hk0:(0:Int)≤(k:Int):=by omega
  have hn0:(0:Int)≤(n:Int):=by omega
  have hs9:(s.size:Int)≤140737488351232:=by omega
  by_cases hlt:k<s.size
  ·have hlt':(k:Int)<(s.size:Int):=by omega
   have hk9:(k:Int)+1≤140737488351232:=by omega
   by_cases hlo:(s[k].toNat:Int)<32
   ·go_wp2_with (fail)
    rw [← HP.out];exact ⟨⟨_,k,1,rfl,by omega,fun h=>by omega⟩,HB.out⟩
   by_cases hhi:(126:Int)<(s[k].toNat:Int)
   ·go_wp2_with (fail)
    rw [← HP.out];exact ⟨⟨_,k,1,rfl,by omega,fun h=>by omega⟩,HB.out⟩
   by_cases hq:(s[k].toNat:Int)=34
   ·have hq':((s[k].toNat:Int) == 34)=true:=by simpa using hq
    go_wp2_with (fail)
    rw [← HP.out];exact ⟨⟨_,k+1,0,by push_cast;rfl,by omega,fun h=>by omega⟩,HB.out⟩
   have hq':((s[k].toNat:Int) == 34)=false:=by simpa using hq
   by_cases hb:(s[k].toNat:Int)=92
   ·have hb':((s[k].toNat:Int) == 92)=true:=by simpa using hb
    by_cases he:k+1=s.size
    ·have he':((k:Int)+1 == (s.size:Int))=true:=by simp;omega
     go_wp2_with (fail)
     rw [← HP.out];exact ⟨⟨_,k,1,rfl,by omega,fun h=>by omega⟩,HB.out⟩
    ·have he':((k:Int)+1 == (s.size:Int))=false:=by simp;omega
     have hlt2:k+1<s.size:=by omega
     have hlt2':(k:Int)+1<(s.size:Int):=by omega
     clear hq hb he;clear hk9;have hk10:(0:Int)≤(k:Int)+1:=by omega
     by_cases h34:(s[k+1].toNat:Int)=34
     ·have h34':((s[k+1].toNat:Int) != 34)=false:=by simpa using h34
      have h34'':((s[k+1].toNat:Int) == 34)=true:=by simpa using h34
      clear h34;by_cases hf:n=200
      ·subst hf
       go_wp2_with (fail)
       rw [← HP.out];exact ⟨⟨_,0,3,rfl,by omega,fun h=>by omega⟩,HB.out⟩
      ·have hf':((n:Int) == 200)=false:=by simp;omega
       go_wp2_with (first
        | (at_builtin;refine zanY rfl (.tmp 62) (.tmp 66) 247 rfl i0 _ 1 underlying247 hi hz0 hz1 hz2 rfl (by omega) rfl HO.out [.int .u8 ((s[k+1]).toNat)] (by simp [go_sem]) rfl (by simp [Value.oneCell']) (by omega) (by omega) HB.out.size ?_;intro v' w3 hown3 hb3 hs3 hg3;have HO3:=hZz hown3;have HB3:=hZz hb3;clear hown3 hb3 hs3 hg3))
       exact ⟨⟨k+1+1,n+1,ys ++ [((s[k+1]).toNat:Int)],by omega,by omega,by omega,by simp,hZz (by simpa using HO3.out),HB.out.trans HB3.out⟩,by simp [intOf];omega⟩
     ·have h34':((s[k+1].toNat:Int) != 34)=true:=by simpa using h34
      have h34'':((s[k+1].toNat:Int) == 34)=false:=by simpa using h34
      clear h34;by_cases h92:(s[k+1].toNat:Int)=92
      ·have h92':((s[k+1].toNat:Int) != 92)=false:=by simpa using h92
       have h92'':((s[k+1].toNat:Int) == 92)=true:=by simpa using h92
       clear h92;by_cases hf:n=200
       ·subst hf
        go_wp2_with (fail)
        rw [← HP.out];exact ⟨⟨_,0,3,rfl,by omega,fun h=>by omega⟩,HB.out⟩
       ·have hf':((n:Int) == 200)=false:=by simp;omega
        go_wp2_with (first
         | (at_builtin;refine zanY rfl (.tmp 62) (.tmp 66) 247 rfl i0 _ 1 underlying247 hi hz0 hz1 hz2 rfl (by omega) rfl HO.out [.int .u8 ((s[k+1]).toNat)] (by simp [go_sem]) rfl (by simp [Value.oneCell']) (by omega) (by omega) HB.out.size ?_;intro v' w3 hown3 hb3 hs3 hg3;have HO3:=hZz hown3;have HB3:=hZz hb3;clear hown3 hb3 hs3 hg3))
        exact ⟨⟨k+1+1,n+1,ys ++ [((s[k+1]).toNat:Int)],by omega,by omega,by omega,by simp,hZz (by simpa using HO3.out),HB.out.trans HB3.out⟩,by simp [intOf];omega⟩
      ·have h92':((s[k+1].toNat:Int) != 92)=true:=by simpa using h92
       have h92'':((s[k+1].toNat:Int) == 92)=false:=by simpa using h92
       clear h92;go_wp2_with (fail)
       rw [← HP.out];exact ⟨⟨_,k,1,rfl,by omega,fun h=>by omega⟩,HB.out⟩
   ·have hb':((s[k].toNat:Int) == 92)=false:=by simpa using hb
    clear hq hb;by_cases hf:n=200
    ·subst hf
     go_wp2_with (fail)
     rw [← HP.out];exact ⟨⟨_,0,3,rfl,by omega,fun h=>by omega⟩,HB.out⟩
    ·have hf':((n:Int) == 200)=false:=by simp;omega
     go_wp2_with (first
      | (at_builtin;refine zanY rfl (.tmp 62) (.tmp 66) 247 rfl i0 _ 1 underlying247 hi hz0 hz1 hz2 rfl (by omega) rfl HO.out [.int .u8 ((s[k]).toNat)] (by simp [go_sem]) rfl (by simp [Value.oneCell']) (by omega) (by omega) HB.out.size ?_;intro v' w3 hown3 hb3 hs3 hg3;have HO3:=hZz hown3;have HB3:=hZz hb3;clear hown3 hb3 hs3 hg3))
     exact ⟨⟨k+1,n+1,ys ++ [((s[k]).toNat:Int)],by omega,by omega,by omega,by simp,hZz (by simpa using HO3.out),HB.out.trans HB3.out⟩,by simp [intOf];omega⟩
  ·have e:k=s.size:=by omega
   subst e;go_wp2_with (fail)
   rw [← HP.out];exact ⟨⟨_,0,1,rfl,by omega,fun h=>by omega⟩,HB.out⟩
end
section
structure TkSt (w W:World) (g2 g5:Nat):Prop where
 b2:Blk W g2 184 #[.int .i64 0,.string ⟨#[]⟩,.int .i64 0,.int .i64 0]
 b5:Blk W g5 184 #[.int .i64 0,.string ⟨#[]⟩,.int .i64 0,.int .i64 0]
 hB:Below w.heap.size w W
theorem TkSt.below {w W W':World} {g2 g5:Nat} (h:TkSt w W g2 g5) (hb:Below W.heap.size W W'):TkSt w W' g2 g5:=⟨h.b2.below hb,h.b5.below hb,zaeZ hb h.hB⟩
def TokP (s:ByteArray) (e:Ending):Prop:=∃ (kind:Int) (t:ByteArray) (i:Int) (n:Nat) (k:Int),e=.returned (.tuple #[.agg #[.int .i64 kind,.string t,.int .i64 i,.int .i64 0],.int .i64 n,.int .i64 k])∧n≤s.size∧(k=0→0<n∧(kind=1→t=s.extract 0 n∧RunAt s n∧n≤24∧kwB t=false))∧(NameOk s→k=0∧kind=1∧t=s∧n=s.size)
theorem za1Y (s:ByteArray):s.extract 0 s.size=s:=by simp
attribute [local go_sem] zabZ za0Y
theorem st4 {w W:World} {g:Nat} (h:Below w.heap.size w W) (hg:w.heap.size≤g) (a b c d:Value):Below w.heap.size w ((((W.setCell ⟨g,0,none⟩ a).setCell ⟨g,1,none⟩ b).setCell ⟨g,2,none⟩ c).setCell ⟨g,3,none⟩ d) :=
 (((h.setCell (p:=⟨g,0,none⟩) hg a).setCell (p:=⟨g,1,none⟩) hg b).setCell (p:=⟨g,2,none⟩) hg c).setCell (p:=⟨g,3,none⟩) hg d
theorem of_oth (b:UInt8) (w:World) (hl:letB b=false) (hd:digB b=false) :
  Calls prog 208 #[.int .i32 b.toNat] w fun e w'=>(e=.returned (.int .i64 4)∨e=.returned (.int .i64 5)∨∃ k,e=.returned (.int .i64 k)∧(k == 2)=false∧(k == 3)=false∧(k == 4)=false∧(k == 5)=false)∧Below w.heap.size w w':=by
 refine (of_not b w).mono ?_
 rintro e w' ⟨⟨k,rfl,h2,h3,_,_,_⟩,hb⟩;refine ⟨?_,hb⟩
 by_cases h4:k=4
 ·subst h4;exact .inl rfl
 by_cases h5:k=5
 ·subst h5;exact .inr (.inl rfl)
 exact .inr (.inr ⟨k,rfl,h2 hl,h3 hd,by simpa using h4,by simpa using h5⟩)
set_option maxHeartbeats 16000000 in
theorem token_any (s:ByteArray) (w:World) (hs:s.size≤140737488351232) (h0:0<s.size) (hv:Sent w):Calls prog 180 #[.string s] w fun e w'=>TokP s e∧Below w.heap.size w w':=by
 have h0':(0:Int)<(s.size:Int):=by omega
 have hs9:(s.size:Int)≤140737488351232:=by omega
 obtain ⟨P,hP⟩:∃ P:Ending→World→Prop,(fun e w'=>TokP s e∧Below w.heap.size w w')=P:=⟨_,rfl⟩
 rw [hP];have HP:=hZz hP;have HV:=hZz hv;clear hP hv;go_enter func180,ntmps180
 go_upto_region 2 with fail
 obtain ⟨g2,hg2⟩:∃ g,w.heap.size=g:=⟨_,rfl⟩
 obtain ⟨g5,hg5⟩:∃ g,g2+1=g:=⟨_,rfl⟩
 obtain ⟨W,hW⟩:∃ W,(w.alloc (.cells #[.int .i64 0,.string ⟨#[]⟩,.int .i64 0,.int .i64 0] 184)).alloc (.cells #[.int .i64 0,.string ⟨#[]⟩,.int .i64 0,.int .i64 0] 184)=W:=⟨_,rfl⟩
 have HT:Hid (TkSt w W g2 g5):=hZz (by
  rw [← hW,← hg5,← hg2];exact ⟨(Blk.new w _ _).alloc _,Blk.second _ _ _ _,za4Y _ _ _⟩)
 rw [hW,hg2,hg5];have HG:Hid (w.heap.size≤g2):=hZz (by omega);have HVW:Hid (Sent W):=hZz (HV.out.below HT.out.hB);clear hW;have HG2:=hZz hg2;have HG5:Hid (g2≠g5):=hZz (by omega);have hne:g2≠g5:=HG5.out;clear hg2 hg5;obtain ⟨lb,hlb⟩:∃ lb,letB s[0]=lb:=⟨_,rfl⟩
 obtain ⟨db,hdb⟩:∃ db,digB s[0]=db:=⟨_,rfl⟩
 have HL:=hZz hlb;have HD:=hZz hdb;clear hlb hdb;cases lb with
 | true =>
  go_wp2_with (first
   | (go_at_call 208;(with_reducible refine (of_let _ _ HL.out).mono ?_);rintro e w1 ⟨rfl,hb1⟩;have HT1:=hZz (HT.out.below hb1);clear hb1)
   | (go_at_call 211;(with_reducible refine (run_any _ _ hs).mono ?_);rintro e w2 ⟨⟨n,rfl,hr⟩,hb2⟩;have HT2:=hZz (HT1.out.below hb2);have p2:=blk4 HT2.out.b2;have p5:=blk4 HT2.out.b5;have z0:=HT2.out.b2.frozen 0;have z1:=HT2.out.b2.frozen 1;have z2:=HT2.out.b2.frozen 2;have z3:=HT2.out.b2.frozen 3;have HR:=hZz hr;have HN1:Hid (0<n):=hZz (by have:=HL.out;by_cases e:n=0;(subst e;rw [RunAt.zero hr h0] at this;cases this);omega);have hn2:n≤s.size:=hr.1;have hn3:(n:Int)≤(s.size:Int):=(by omega);have hn0:(0:Int)≤(n:Int):=(by omega);clear hb2 hr)
   | (go_at_call 174;(with_reducible refine (keyword_any _ _).mono ?_);rintro e w3 ⟨rfl,hw3⟩;rw [hw3];clear hw3 w3))
  all_goals (refine bodyPost_ret (by simp [results,Tryz.results180,go_sem,p2];try rfl) rfl ?_)
  all_goals rw [← HP.out]
  ·have hgt:24<(n:Int):=by assumption
   exact ⟨⟨0,_,0,0,3,rfl,Nat.zero_le _,fun h=>by omega,fun hN=>absurd ((HR.out.whole h0).2 hN.1) (by have:=hN.2.1;omega)⟩,st4 HT2.out.hB HG.out _ _ _ _⟩
  ·have hkw:kwB (s.extract 0 n)=true:=by assumption
   exact ⟨⟨2,_,0,n,0,rfl,hn2,fun _=>⟨HN1.out,fun h=>by omega⟩,fun hN=>by
    have e:=(HR.out.whole h0).2 hN.1;rw [e,za1Y,hN.2.2] at hkw;cases hkw⟩,st4 HT2.out.hB HG.out _ _ _ _⟩
  ·have hle:(n:Int)≤24:=by assumption
   have hkw:kwB (s.extract 0 n)=false:=by assumption
   exact ⟨⟨1,_,0,n,0,rfl,hn2,fun _=>⟨HN1.out,fun _=>⟨rfl,HR.out,by omega,hkw⟩⟩,fun hN=>by
    have e:=(HR.out.whole h0).2 hN.1;exact ⟨rfl,rfl,by rw [e,za1Y],e⟩⟩,st4 HT2.out.hB HG.out _ _ _ _⟩
 | false =>
  have HNO:Hid (¬ NameOk s):=hZz (fun h=>by have:=h.1.2.1 h0;rw [HL.out] at this;cases this);cases db with
  | true =>
   go_wp2_with (first
    | (go_at_call 208;(with_reducible refine (of_dig _ _ HD.out).mono ?_);rintro e w1 ⟨rfl,hb1⟩;have HT1:=hZz (HT.out.below hb1);have HV1:=hZz (HVW.out.below hb1);clear hb1)
    | (go_at_call 212;(with_reducible refine (digits_any _ _ hs).mono ?_);rintro e w2 ⟨⟨n,rfl,hn2,hn1⟩,hb2⟩;have HT2:=hZz (HT1.out.below hb2);have HV2:=hZz (HV1.out.below hb2);have HN1:Hid (0<n):=hZz (hn1 h0 HD.out);have hn3:(n:Int)≤(s.size:Int):=(by omega);have hn0:(0:Int)≤(n:Int):=(by omega);clear hb2 hn1)
    | (go_at_call 213;(with_reducible refine (parse_any _ _ (by simp;omega) HV2.out).mono ?_);rintro e w3 ⟨⟨v,k,rfl⟩,hb3⟩;have HT3:=hZz (HT2.out.below hb3);have p2:=blk4 HT3.out.b2;have p5:=blk4 HT3.out.b5;have z0:=HT3.out.b2.frozen 0;have z1:=HT3.out.b2.frozen 1;have z2:=HT3.out.b2.frozen 2;have z3:=HT3.out.b2.frozen 3;clear hb3))
   all_goals (refine bodyPost_ret (by simp [results,Tryz.results180,go_sem,p2];try rfl) rfl ?_)
   all_goals rw [← HP.out]
   ·have hk:¬ k=0:=by simp_all
    exact ⟨⟨0,_,0,0,k,rfl,Nat.zero_le _,fun h=>absurd h hk,fun hN=>absurd hN HNO.out⟩,st4 HT3.out.hB HG.out _ _ _ _⟩
   ·exact ⟨⟨3,_,v,n,0,rfl,hn2,fun _=>⟨HN1.out,fun h=>by omega⟩,fun hN=>absurd hN HNO.out⟩,st4 HT3.out.hB HG.out _ _ _ _⟩
  | false =>
   go_upto_region 3 with (first
    | (go_at_call 208;(with_reducible refine (of_oth _ _ HL.out HD.out).mono ?_);rintro e w1 ⟨he,hb1⟩;have HT1:=hZz (HT.out.below hb1);have p2:=blk4 HT1.out.b2;have p5:=blk4 HT1.out.b5;have z0:=HT1.out.b2.frozen 0;have z1:=HT1.out.b2.frozen 1;have z2:=HT1.out.b2.frozen 2;have z3:=HT1.out.b2.frozen 3;clear hb1;rcases he with rfl | rfl | ⟨k,rfl,k2,k3,k4,k5⟩))
   ·go_wp2_with (first
     | (go_at_call 214;(with_reducible refine (ltext_any _ _ hs h0).mono ?_);rintro e w2 ⟨⟨t,n,k,rfl,hn2,hn1⟩,hb2⟩;clear p2 p5 z0 z1 z2 z3;have HT2:=hZz (HT1.out.below hb2);have p2:=blk4 HT2.out.b2;have p5:=blk4 HT2.out.b5;have z0:=HT2.out.b2.frozen 0;have z1:=HT2.out.b2.frozen 1;have z2:=HT2.out.b2.frozen 2;have z3:=HT2.out.b2.frozen 3;have HN1:=hZz hn1;clear hb2 hn1))
    all_goals (refine bodyPost_ret (by simp [results,Tryz.results180,go_sem,p2];try rfl) rfl ?_)
    all_goals rw [← HP.out]
    ·have hk:¬ k=0:=by simp_all
     exact ⟨⟨0,_,0,n,k,rfl,hn2,fun h=>absurd h hk,fun hN=>absurd hN HNO.out⟩,st4 HT2.out.hB HG.out _ _ _ _⟩
    ·have hk:k=0:=by simp_all
     exact ⟨⟨4,_,0,n,0,rfl,hn2,fun _=>⟨HN1.out hk,fun h=>by omega⟩,fun hN=>absurd hN HNO.out⟩,st4 HT2.out.hB HG.out _ _ _ _⟩
   ·have h1s:(1:Int)≤(s.size:Int):=by omega
    go_wp2_with (first
     | (go_at_call 211;(with_reducible refine (run_any _ _ (by simp;omega)).mono ?_);rintro e w2 ⟨⟨n,rfl,hr⟩,hb2⟩;clear p2 p5 z0 z1 z2 z3;have HT2:=hZz (HT1.out.below hb2);have p2:=blk4 HT2.out.b2;have p5:=blk4 HT2.out.b5;have z0:=HT2.out.b2.frozen 0;have z1:=HT2.out.b2.frozen 1;have z2:=HT2.out.b2.frozen 2;have z3:=HT2.out.b2.frozen 3;have hn2:n+1≤s.size:=(by have:=hr.1;simp at this;omega);have hn3:(n:Int)+1≤(s.size:Int):=(by omega);have hn0:(0:Int)≤(n:Int):=(by omega);have hn4:(1:Int)≤(n:Int)+1:=(by omega);clear hb2 hr))
    all_goals (refine bodyPost_ret (by simp [results,Tryz.results180,go_sem,p2];try rfl) rfl ?_)
    all_goals rw [← HP.out]
    ·exact ⟨⟨0,_,0,0,1,rfl,Nat.zero_le _,fun h=>by omega,fun hN=>absurd hN HNO.out⟩,st4 HT2.out.hB HG.out _ _ _ _⟩
    ·exact ⟨⟨0,_,0,0,3,rfl,Nat.zero_le _,fun h=>by omega,fun hN=>absurd hN HNO.out⟩,st4 HT2.out.hB HG.out _ _ _ _⟩
    ·exact ⟨⟨6,_,0,n+1,0,rfl,hn2,fun _=>⟨by omega,fun h=>by omega⟩,fun hN=>absurd hN HNO.out⟩,st4 HT2.out.hB HG.out _ _ _ _⟩
   ·clear p2 p5 z0 z1 z2 z3
    go_wp2_with (fail)
    go_loopw [14] (fun nv wr=>∃ m:Nat,m≤s.size∧nv=.int .i64 m∧Hid (TkSt w wr g2 g5)) (fun nv _=>(intOf nv).toNat)
    case atStart=>exact ⟨min 2 s.size,Nat.min_le_right _ _,by simp;omega,hZz HT1.out⟩
    case round =>
     obtain ⟨m,hm,rfl,HTR⟩:=hrel;have hm0:(0:Int)≤(m:Int):=by omega
     have hm3:(m:Int)≤(s.size:Int):=by omega
     by_cases hp:(0:Int)<(m:Int)
     ·go_wp2_with (first
       | (go_at_call 215;(with_reducible refine (symbol_any _ _ (by simp;omega)).mono ?_);rintro e w2 ⟨⟨v,rfl⟩,hb2⟩;have HT2:=hZz (HTR.out.below hb2);have p2:=blk4 HT2.out.b2;have p5:=blk4 HT2.out.b5;have z0:=HT2.out.b2.frozen 0;have z1:=HT2.out.b2.frozen 1;have z2:=HT2.out.b2.frozen 2;have z3:=HT2.out.b2.frozen 3;clear hb2;cases v))
      ·exact ⟨⟨m - 1,by omega,by simp;omega,HT2⟩,by simp [intOf];omega⟩
      ·(refine bodyPost_ret (by simp [results,Tryz.results180,go_sem,p2];try rfl) rfl ?_)
       rw [← HP.out];exact ⟨⟨5,_,0,m,0,rfl,hm,fun _=>⟨by omega,fun h=>by omega⟩,fun hN=>absurd hN HNO.out⟩,st4 HT2.out.hB HG.out _ _ _ _⟩
     ·have p2:=blk4 HTR.out.b2
      have p5:=blk4 HTR.out.b5;have z0:=HTR.out.b2.frozen 0;have z1:=HTR.out.b2.frozen 1;have z2:=HTR.out.b2.frozen 2;have z3:=HTR.out.b2.frozen 3;go_wp2_with (fail)
      (refine bodyPost_ret (by simp [results,Tryz.results180,go_sem,p2];try rfl) rfl ?_)
      rw [← HP.out];exact ⟨⟨0,_,0,0,1,rfl,Nat.zero_le _,fun h=>by omega,fun hN=>absurd hN HNO.out⟩,st4 HTR.out.hB HG.out _ _ _ _⟩
end
section
attribute [local go_sem] zabZ za0Y
def TokOk (s:ByteArray) (cs:List Value):Prop:=∃ (k:Int) (t:ByteArray) (i a:Int),cs=[.int .i64 k,.string t,.int .i64 i,.int .i64 a]∧(k=1→t=s→NameOk s)∧(NameOk s→k=1∧t=s)
def TokensP (s:ByteArray) (w':World) (e:Ending):Prop:=∃ (v:Value) (A:Option Addr) (n cap:Nat) (a k:Int),e=.returned (.tuple #[v,.int .i64 a,.int .i64 k])∧v=.slice A n cap∧(k=0→n=1→∃ g c0 c1 c2 c3,A=some ⟨g,0,none⟩∧w'.cell? ⟨g,0,none⟩=some c0∧w'.cell? ⟨g,1,none⟩=some c1∧TokOk s [c0,c1,c2,c3])∧(NameOk s→k=0∧n=1)
theorem tok_ok {s t:ByteArray} {at_ n:Nat} (h0:0<s.size) (ha:at_<s.size) (hn:n≤s.size - at_) (ht:t=(s.extract at_ s.size).extract 0 n) (hr:RunAt (s.extract at_ s.size) n) (h24:n≤24) (hk:kwB t=false) (e:t=s):NameOk s:=by
 have hs:t.size=n:=by rw [ht];simp;omega
 rw [e] at hs;have ha0:at_=0:=by omega
 subst ha0;rw [za1Y] at hr;exact ⟨(hr.whole h0).1 hs.symm,by omega,by rw [← e];exact hk⟩
theorem own_tok {w:World} {base n cap:Nat} {s:ByteArray} {A:Option Addr} {cs:List Value} (h:w.ownsRow base 184 4 (.slice A n cap) n cs) (hn:n=1) (hc:TokOk s cs):∃ g c0 c1 c2 c3,A=some ⟨g,0,none⟩∧w.cell? ⟨g,0,none⟩=some c0∧w.cell? ⟨g,1,none⟩=some c1∧TokOk s [c0,c1,c2,c3]:=by
 subst hn;obtain ⟨k,t,i,a,rfl,h1,h2⟩:=hc;obtain ⟨g,cap',e,_,q0,q1⟩:=one_own h;injection e with e1 _ _
 exact ⟨g,_,_,.int .i64 i,.int .i64 a,e1,q0,q1,⟨k,t,i,a,rfl,h1,h2⟩⟩
theorem tokens_any (s:ByteArray) (w:World) (hs:s.size≤4000) (hv:Sent w):Calls prog 141 #[.string s] w fun e w'=>TokensP s w' e∧Below w.heap.size w w':=by
 obtain ⟨i0,hi,hz0,hz1,hz2⟩:=info_parts Tryz.infoTok;have hs9:(s.size:Int)≤4000:=by omega
 obtain ⟨P,hP⟩:∃ P:Ending→World→Prop,(fun e w'=>TokensP s w' e∧Below w.heap.size w w')=P:=⟨_,rfl⟩
 rw [hP];have HP:=hZz hP;have HV:=hZz hv;clear hP hv;go_enter func141,ntmps141
 go_wp2_with (first
  | (go_at_call 179;(with_reducible refine (skip_any _ _ (by omega)).mono ?_);rintro e w1 ⟨⟨n1,rfl,hn1,hn2⟩,hb1⟩;have HB1:=hZz hb1;have HN2:Hid (NameOk s→n1=0):=hZz (fun h=>hn2 ⟨h.1.1,h.1.2.1 h.1.1⟩);clear hb1 hn2))
 go_loopw [5,6] (fun ov av wr=>∃ (n at_:Nat) (cs:List Value),n≤1000∧at_≤s.size∧av=.int .i64 at_∧Hid (wr.ownsRow w.heap.size 184 4 ov n cs)∧Hid (n=1→TokOk s cs)∧Hid (NameOk s→(n=0∧at_=0)∨(n=1∧at_=s.size))∧Below w.heap.size w wr) (fun _ av _=>s.size - (intOf av).toNat)
 case atStart=>exact ⟨0,n1,[],Nat.zero_le _,hn1,rfl,hZz (World.ownsRow_nil _ _ _ _),hZz (fun h=>by omega),hZz (fun h=>.inl ⟨rfl,HN2.out h⟩),HB1.out⟩
 case round =>
  obtain ⟨n,at_,cs,hn,hat,rfl,HO,HTK,HNM,hbel⟩:=hrel;have HB:=hZz hbel;clear hbel HB1 HN2 hn1;obtain ⟨oA,ocap,hov⟩:=zaiZ HO.out;subst hov;have hk0:(0:Int)≤(at_:Int):=by omega
  have hn0:(0:Int)≤(n:Int):=by omega
  have hat':(at_:Int)≤(s.size:Int):=by omega
  by_cases hlt:at_<s.size
  ·have hlt':(at_:Int)<(s.size:Int):=by omega
   have HNM':Hid (NameOk s→n=0∧at_=0):=hZz (fun h=>by rcases HNM.out h with h | h <;> omega);by_cases hf:n=1000
   ·subst hf
    go_wp2_with (fail)
    rw [← HP.out];exact ⟨⟨_,none,0,0,at_,3,rfl,rfl,fun h=>by omega,fun h=>by have:=HNM'.out h;omega⟩,HB.out⟩
   ·have hf':((n:Int) == 1000)=false:=by simp;omega
    have hn3:n+1≤1000:=by omega
    clear hf;obtain ⟨X,hX⟩:∃ X,s.extract at_ s.size=X:=⟨_,rfl⟩
    have hXs:X.size=s.size - at_:=by rw [← hX];simp
    have HX:=hZz hX;have HXS:=hZz hXs;have HVR:=hZz (HV.out.below HB.out);clear hX hXs
    go_wp2_with (first
     | (go_at_call 180;rw [HX.out];(with_reducible refine (token_any X _ (by have:=HXS.out;omega) (by have:=HXS.out;omega) HVR.out).mono ?_);rintro e w2 ⟨⟨kind,t,i,m,k,rfl,hm,hk1,hk2⟩,hb2⟩;have HB2:=hZz (zaaZ hb2 HB.out HB.out.size);have HO2:=hZz (zahZ HO.out hb2);have HK1:=hZz hk1;have HK2:=hZz hk2;have hm3:(m:Int)≤(s.size:Int) - at_:=(by have:=HXS.out;omega);have hm0:(0:Int)≤(m:Int):=(by omega);have hsz2:w.heap.size≤(w2.alloc (.cells #[.int .i64 kind,.string t,.int .i64 i,.int .i64 at_] 184)).heap.size:=Nat.le_trans HB2.out.size (by simp);clear hb2 hk1 hk2)
     | (at_builtin;refine zanY rfl (.tmp 45) (.tmp 47) 179 rfl i0 _ 40 underlying179 hi hz0 hz1 hz2 rfl (by omega) rfl (zahZ HO2.out (zacZ w2 (.cells #[.int .i64 kind,.string t,.int .i64 i,.int .i64 at_] 184))) [.int .i64 kind,.string t,.int .i64 i,.int .i64 at_] (by simp [go_sem]) rfl (by simp [Value.oneCell']) (by omega) (by omega) hsz2 ?_;intro v' w3 hown3 hb3 hs3 hg3;have HO3:=hZz hown3;have HB3:=hZz ((HB2.out.alloc HB2.out.size _).trans hb3);have ham0:(0:Int)≤(at_:Int)+m:=(by omega);have ham1:(at_:Int)+m≤(s.size:Int):=(by omega);clear hown3 hb3 hs3 hg3)
     | (go_at_call 179;(with_reducible refine (skip_any _ _ (by simp;omega)).mono ?_);rintro e w4 ⟨⟨n4,rfl,hn4,hn5⟩,hb4⟩;have HB4:=hZz (zaaZ hb4 HB3.out HB3.out.size);have HO4:=hZz (zahZ HO3.out hb4);have HN4:=hZz hn4;have hn6:(n4:Int)≤(s.size:Int) - (at_+m):=(by simp at hn4;omega);have hn7:(0:Int)≤(n4:Int):=(by omega);clear hb4 hn5 hn4))
    ·rw [← HP.out]
     have hk:¬ k=0:=by simp_all
     refine ⟨⟨_,none,0,0,at_+m,k,rfl,rfl,fun h=>absurd h hk,fun h=>?_⟩,HB2.out.alloc HB2.out.size _⟩
     obtain ⟨_,ha⟩:=HNM'.out h;subst ha;have e:=HX.out;rw [za1Y] at e;rw [← e] at HK2;exact absurd (HK2.out h).1 hk
    ·have hk:k=0:=by simp_all
     obtain ⟨hp,hkk⟩:=HK1.out hk;refine ⟨⟨n+1,at_+m+n4,cs ++ [.int .i64 kind,.string t,.int .i64 i,.int .i64 at_],hn3,by omega,by push_cast;rfl,HO4,hZz (fun h1=>?_),hZz (fun h=>?_),HB4.out⟩,by simp [intOf];omega⟩
     ·have hn0:n=0:=by omega
      have hcs:cs=[]:=by
       have:=HO.out.1
       rw [hn0] at this;exact List.eq_nil_of_length_eq_zero (by simpa using this)
      rw [hcs];refine ⟨kind,t,i,at_,rfl,fun h1 h2=>?_,fun h=>?_⟩
      ·obtain ⟨a1,a2,a3,a4⟩:=hkk h1
       rw [← HX.out] at a1 a2;exact tok_ok (by omega) hlt (by have:=HXS.out;omega) a1 a2 a3 a4 h2
      ·obtain ⟨_,ha⟩:=HNM'.out h
       subst ha;have e:=HX.out;rw [za1Y] at e;rw [← e] at HK2;exact ⟨(HK2.out h).2.1,(HK2.out h).2.2.1⟩
     ·obtain ⟨h1,ha⟩:=HNM'.out h
      subst ha;have e:=HX.out;rw [za1Y] at e;rw [← e] at HK2
      have:=(HK2.out h).2.2.2
      exact .inr ⟨by omega,by omega⟩
  ·have e:at_=s.size:=by omega
   subst e;go_wp2_with (fail)
   rw [← HP.out];exact ⟨⟨_,oA,n,ocap,0,0,rfl,rfl,fun _ h1=>own_tok HO.out h1 (HTK.out h1),fun h=>⟨rfl,by rcases HNM.out h with h1 | h1;(have:=h.1.1;omega);exact h1.1⟩⟩,HB.out⟩
set_option maxHeartbeats 2000000 in
theorem name_any (s:ByteArray) (w:World) (hs:s.size≤4000) (hv:Sent w):Calls prog 93 #[.string s] w fun e w'=>(∃ b,e=.returned (.bool b)∧(b=true↔NameOk s))∧Below w.heap.size w w':=by
 have HC:=hZz (tokens_any s w hs hv);clear hv;obtain ⟨P,hP⟩:∃ P:Ending→World→Prop,(fun e w'=>(∃ b,e=.returned (.bool b)∧(b=true↔NameOk s))∧Below w.heap.size w w')=P:=⟨_,rfl⟩
 rw [hP];have HP:=hZz hP;clear hP;go_enter func93,ntmps93
 go_upto_region 2 with (first
  | (go_at_call 141;(with_reducible refine HC.out.mono ?_);rintro e w1 ⟨⟨v,A,n,cap,a,k,rfl,rfl,h1,h2⟩,hb1⟩;have HB1:=hZz hb1;have H1:=hZz h1;have H2:=hZz h2;clear hb1 h1 h2))
 by_cases hk:k=0
 ·subst hk
  by_cases hn:n=1
  ·subst hn
   obtain ⟨g,c0,c1,c2,c3,rfl,q0,q1,kind,t,i,aa,hc,h3,h4⟩:=H1.out rfl rfl;injection hc with e0 hc
   injection hc with e1 hc
   subst e0 e1;have H3:=hZz h3;have H4:=hZz h4;clear h3 h4 hc H1;by_cases hkd:kind=1
   ·subst hkd
    cases ht:(t.toList == s.toList) with
    | true =>
     go_wp2_with (fail)
     rw [← HP.out]
     have e:t=s:=by
      have:=eq_of_beq ht
      rw [Lib.toList_data,Lib.toList_data] at this;exact ByteArray.ext (Array.ext' this)
     exact ⟨⟨true,rfl,by simp;exact H3.out (by trivial) e⟩,HB1.out⟩
    | false =>
     go_wp2_with (fail)
     rw [← HP.out];refine ⟨⟨false,rfl,by simp;intro h;have:=(H4.out h).2;rw [this] at ht;simp at ht⟩,HB1.out⟩
   ·have hkd':(kind == 1)=false:=by simpa using hkd
    go_wp2_with (fail)
    rw [← HP.out];exact ⟨⟨false,rfl,by simp;intro h;exact hkd (H4.out h).1⟩,HB1.out⟩
  ·have hn':((n:Int) == 1)=false:=by simp;omega
   go_wp2_with (fail)
   rw [← HP.out];exact ⟨⟨false,rfl,by simp;intro h;exact hn (H2.out h).2⟩,HB1.out⟩
 ·have hk':(k == 0)=false:=by simpa using hk
  go_wp2_with (fail)
  rw [← HP.out];exact ⟨⟨false,rfl,by simp;intro h;exact hk (H2.out h).1⟩,HB1.out⟩
end
end Go.Proofs.YthiimbhjpdphpaaGreatDoor
