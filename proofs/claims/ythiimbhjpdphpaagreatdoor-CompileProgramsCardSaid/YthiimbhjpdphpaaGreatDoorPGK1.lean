/- V5, GK1 -/
import Derived.Test.YthiimbhjpdphpaaGreatDoorPV4
import Derived.WalkMore
set_option linter.unusedVariables false
set_option linter.unusedSimpArgs false
namespace Go.Proofs.YthiimbhjpdphpaaGreatDoor
open Go.RowKit
set_option maxRecDepth 100000
set_option maxHeartbeats 8000000
open Go.Proofs.Tryz
section
attribute [local go_sem] zabZ
theorem look_any (l:List CellD) (A:Option Addr) (cap:Nat) (w:World) (h:SlAt w A 4 CellD.cells l) (hp:Pow w) (hlen:l.length≤10000) (hcap:l.length≤cap) (hok:∀ c∈l,okC c) :
  Calls prog 186 #[.slice A l.length cap] w (LookPost w (px l 0) l):=by
 obtain ⟨F,hF⟩:∃ F,px l 0=F:=⟨_,rfl⟩
 obtain ⟨P,hP⟩:∃ P,LookPost w (px l 0) l=P:=⟨_,rfl⟩
 rw [hP];rw [hF] at hP;have HP:=hZz hP;have HF:=hZz hF;have HA:=hZz h;have HW:=hZz hp;have HK:=hZz hok;have HB0:=hZz (zauY w (.cells #[.int .i64 0,.int .i64 0,.bool false,.bool false] 209) (.cells #[.int .i64 0,.int .i64 0,.bool false,.bool false] 209));have HR0:=hZz ((Blk.new w 209 #[.int .i64 0,.int .i64 0,.bool false,.bool false]).alloc (.cells #[.int .i64 0,.int .i64 0,.bool false,.bool false] 209));have HI0:=hZz (Blk.second w (.cells #[.int .i64 0,.int .i64 0,.bool false,.bool false] 209) 209 #[.int .i64 0,.int .i64 0,.bool false,.bool false]);clear hP hF h hp hok;go_enter func186,ntmps186
 go_wp2_with (fail)
 go_step3
 go_wp2_with (fail)
 go_step3
 go_wp2_with (fail)
 go_loopw [6,13] (fun sv i wr=>∃ (k:Nat) (st:List OpenD) (d:Nat) (b:Int),k≤l.length∧i=.int .i64 k∧LookAt w wr l F k sv st d b) (fun _ i _=>l.length - (intOf i).toNat)
 case atStart=>exact ⟨0,[],0,0,Nat.zero_le _,rfl,⟨HR0.out,HI0.out,StAt.nil _ _,HB0.out,by rw [← HF.out];exact resume_start l,trivial,Nat.le_refl _,Nat.le_refl _,Int.le_refl _,by simp⟩⟩
 case round =>
  obtain ⟨k,st,d,b,hk,rfl,hrel⟩:=hrel;have HL:=hZz hrel;have hd:=hrel.hd;have hl:=hrel.hl;have hb0:=hrel.hb0;have hb1:=hrel.hb1;clear hrel HR0 HI0 HB0;by_cases hlt:k<l.length
  ·obtain ⟨c,hc⟩:∃ c,l[k]=c:=⟨_,rfl⟩
   have hcl:l[k]? = some c:=by rw [List.getElem?_eq_getElem hlt,hc]
   have HCL:=hZz hcl;have hok:=HK.out c (hc ▸ List.getElem_mem hlt);have HOK:=hZz hok;have hsa:=HA.out.below HL.out.hB;obtain ⟨bA,off,rfl,_⟩:=hsa.ptr hlt;have c0:=hsa.cell0 hlt (v:=.int .i64 c.kind) (by rw [hc];rfl);have c1:=hsa.cell hlt (j:=1) (v:=.int .i64 c.int) (by rw [hc];rfl);have c2:=hsa.cell hlt (j:=2) (v:=.string c.str) (by rw [hc];rfl);have c3:=hsa.cell hlt (j:=3) (v:=.int .i64 c.n) (by rw [hc];rfl);have HOS:=hZz (outs_snoc l k hlt);have HLS:=hZz (longs_snoc l k hlt);rw [hc] at HOS HLS;have hlt':(k:Int)<(l.length:Int):=by omega
   have hk0:(0:Int)≤(k:Int):=by omega
   obtain ⟨oo,hoo⟩:∃ t,outs (l.take k)=t:=⟨_,rfl⟩
   obtain ⟨ll,hll⟩:∃ t,longs (l.take k)=t:=⟨_,rfl⟩
   rw [hoo] at HOS;rw [hll] at HLS;clear hsa hcl hok hc;go_upto_region 6 with fail
   have HL0:Hid (LW w (wr.alloc (.cells #[.int .i64 c.kind,.int .i64 c.int,.string c.str,.int .i64 c.n] 103)) w.heap.size wr.heap.size c d b oo ll u6 st):=hZz
    ⟨HL.out.hr.alloc _,by rw [← hoo,← hll];exact HL.out.hi.alloc _,Blk.new wr _ _,HL.out.hs.below (zacZ wr _),HL.out.hB.alloc HL.out.hB.size _⟩
   have HFF:=hZz HL.out.hF;have HII:=hZz HL.out.hI;obtain ⟨W0,hW0⟩:∃ W0,wr.alloc (.cells #[.int .i64 c.kind,.int .i64 c.int,.string c.str,.int .i64 c.n] 103)=W0:=⟨_,rfl⟩
   obtain ⟨gB,hgB⟩:∃ g,wr.heap.size=g:=⟨_,rfl⟩
   obtain ⟨g,hg⟩:∃ g,w.heap.size=g:=⟨_,rfl⟩
   rw [hW0,hgB,hg] at HL0;rw [hW0,hgB,hg];have HG:=hZz hg;clear hW0 hgB hg hoo hll c0 c1 c2 c3 HL;have f0:=HL0.out.facts.1;obtain ⟨pb,hpb⟩:∃ t,plainB c=t:=⟨_,rfl⟩
   have HPB:=hZz hpb;have HPL:Hid (∀ wx,Calls prog 218 #[.agg #[.int .i64 c.kind,.int .i64 c.int,.string c.str,.int .i64 c.n]] wx fun e w'=>e=.returned (.bool pb)∧Below wx.heap.size wx w'):=hZz (fun wx=>by rw [← hpb];exact plain_any c wx HOK.out.1);clear hpb;cases pb with
   | false =>
    go_upto_region 7 with (first
     | (go_at_call 218;(with_reducible refine (HPL.out _).mono ?_);rintro e W1 ⟨rfl,hb1⟩;have HL1:=hZz (HL0.out.below hb1);have f1:=HL1.out.facts;clear hb1 f0))
    obtain ⟨f1a,f1b,f1c,f1d,f1e⟩:=f1;go_region
    have HN:Hid (F=none):=hZz (by
     rw [← HFF.out];exact resume_bad (s:=⟨k,d,b⟩) HII.out HCL.out HPB.out)
    have HE:Hid (Blk (((((W1.setCell ⟨g,0,none⟩ (.int .i64 d)).setCell ⟨g,1,none⟩ (.int .i64 b)).setCell ⟨g,2,none⟩ (.bool oo)).setCell ⟨g,3,none⟩ (.bool ll)).drew) g 209 #[.int .i64 d,.int .i64 b,.bool oo,.bool ll]):=hZz ((((HL1.out.hr.set_ 0 (.int .i64 d)).set_ 1 (.int .i64 b)).set_ 2 (.bool oo)).set_ 3 (.bool ll)).drew;have HBE:Hid (Below g w (((((W1.setCell ⟨g,0,none⟩ (.int .i64 d)).setCell ⟨g,1,none⟩ (.int .i64 b)).setCell ⟨g,2,none⟩ (.bool oo)).setCell ⟨g,3,none⟩ (.bool ll)).drew)):=hZz ((((HL1.out.hB.setCell (p:=⟨g,0,none⟩) (Nat.le_refl _) (.int .i64 d)).setCell (p:=⟨g,1,none⟩) (Nat.le_refl _) (.int .i64 b)).setCell (p:=⟨g,2,none⟩) (Nat.le_refl _) (.bool oo)).setCell (p:=⟨g,3,none⟩) (Nat.le_refl _) (.bool ll)).drew;obtain ⟨WE,hWE⟩:∃ WE,(((((W1.setCell ⟨g,0,none⟩ (.int .i64 d)).setCell ⟨g,1,none⟩ (.int .i64 b)).setCell ⟨g,2,none⟩ (.bool oo)).setCell ⟨g,3,none⟩ (.bool ll)).drew)=WE:=⟨_,rfl⟩
    rw [hWE] at HE HBE ⊢;clear hWE;have ge:=blk4 HE.out;go_wp2_with (fail)
    rw [Exit.noGoto_ret];refine bodyPost_ret (v:=.tuple #[.int .i64 0,.agg #[.int .i64 d,.int .i64 b,.bool oo,.bool ll],.bool false]) (by simp [results,Tryz.results186,go_sem,ge]) rfl ?_
    rw [← HP.out,HN.out];exact ⟨by rw [HG.out];exact HBE.out,_,_,_,_,rfl⟩
   | true =>
    go_upto_region 8 with (first
     | (go_at_call 218;(with_reducible refine (HPL.out _).mono ?_);rintro e W1 ⟨rfl,hb1⟩;have HL1:=hZz (HL0.out.below hb1);clear hb1 f0))
    by_cases hm:∃ o r,st=o :: r∧o.key=true
    ·obtain ⟨o,r,rfl,hok⟩:=hm
     obtain ⟨p,lf,ky,la,sd⟩:=o;dsimp only at hok;subst hok;have hi:InvS l (⟨p,lf,true,la,sd⟩ :: r):=HII.out
     have hi2:p=true∧1≤lf:=by
      rcases hi.2.1 with h | h
      ·cases h.1
      ·exact h.2
     obtain ⟨rfl,hlf1⟩:=hi2;obtain ⟨gS,cS,rfl,hcS⟩:=StAt.form HL1.out.hs;have hF2:resumeK l ⟨true,lf,true,la,sd⟩ r ⟨k,d,b⟩=F:=HFF.out;have HF2:=hZz hF2;have HLF:=hZz hlf1;have t1:=StAt.top HL1.out.hs;dsimp only at t1;have hr:r.length≤10000:=by simp at hl;omega
     have hri:(r.length:Int)≤10000:=by omega
     have hr0:(0:Int)≤(r.length:Int):=by omega
     have f1:=HL1.out.facts;clear hi hF2 hlf1;go_upto_region 11 with fail
     by_cases hbad:c.kind=4∧(sd=false∨sleB c.str la=false)
     ·obtain ⟨h4,hsl⟩:=hbad
      have HKO:Hid (keyOk (if sd then some la else none) c=true):=hZz (by
       unfold keyOk;rw [HPB.out,h4];rcases hsl with rfl | h
       ·simp
       ·cases sd
        ·simp
        ·simp [h])
      have HK4:=hZz h4;have h4':(c.kind != 4)=false:=by simpa using h4
      clear h4;go_cut [55] from 38 to 55 (fun u wx=>u=.bool false∧∃ q,wx=W1.drewN q)
      case first =>
       cases sd with
       | false =>
        clear hsl;go_quiet (fail);go_wp2_with fail;go_meet
        exact ⟨rfl,_,rfl⟩
       | true =>
        have h5:(Op.bytesLess c.str.toList la.toList || c.str.toList == la.toList)=false:=by
         rcases hsl with h | h
         ·cases h
         ·exact h
        clear hsl;go_quiet (fail);go_wp2_with fail;go_meet
        exact ⟨rfl,_,rfl⟩
      case rest =>
       obtain ⟨rfl,q,rfl⟩:=hcut;clear hsl h4' f1 t1;have HLq:=hZz (HL1.out.below (zaeZ (Below.refl _ _) q));have f1:=HLq.out.facts.1;have t3:=StAt.top HLq.out.hs;dsimp only at t3;have y3:=StAt.frozen HLq.out.hs rfl (r.length * 5+3);have y4:=StAt.frozen HLq.out.hs rfl (r.length * 5+4);have y2:=StAt.frozen HLq.out.hs rfl (r.length * 5+2);go_upto_region 14 with fail
       have HL3:=hZz (((HLq.out.sets (o':=⟨true,lf,true,c.str,sd⟩) 3 (.string c.str) rfl).sets (o':=⟨true,lf,true,c.str,true⟩) 4 (.bool true) rfl).sets (o':=⟨true,lf,false,c.str,true⟩) 2 (.bool false) rfl);obtain ⟨W3,hW3⟩:∃ W3,(((W1.drewN q).setCell ⟨gS,r.length * 5+3,none⟩ (.string c.str)).setCell ⟨gS,r.length * 5+4,none⟩ (.bool true)).setCell ⟨gS,r.length * 5+2,none⟩ (.bool false)=W3:=⟨_,rfl⟩
       rw [hW3] at HL3 ⊢;clear hW3 HLq HL1 y2 y3 y4 f1 t3;have f3:=HL3.out.facts;obtain ⟨f3a,f3b,f3c,f3d,f3e⟩:=f3;obtain ⟨qn,hqn⟩:∃ n,quotedN c.str=n:=⟨_,rfl⟩
       have hq0:0≤qn:=by rw [← hqn];unfold quotedN;omega
       have hq1:qn≤562949953421312:=by
        have h1:c.str.data.toList.count 34≤c.str.size:=by have:=List.count_le_length (a:=(34:UInt8)) (l:=c.str.data.toList);simpa using this
        have h2:c.str.data.toList.count 92≤c.str.size:=by have:=List.count_le_length (a:=(92:UInt8)) (l:=c.str.data.toList);simpa using this
        have:=HOK.out.1
        rw [← hqn];unfold quotedN;omega
       have HQ:Hid (∀ wx,Calls prog 219 #[.string c.str] wx fun e w'=>e=.returned (.int .i64 qn)∧w'=wx):=hZz (fun wx=>by rw [← hqn];exact quoted_any c.str wx HOK.out.1);have HQN:=hZz hqn;have hbk:b≤7000000000000000000:=by omega
       clear hqn;go_cut [] from 68 to 75 (fun wx=>LW w wx g gB c d (b+(qn+1)) oo ll (.slice (some ⟨gS,0,none⟩) (r.length+1) cS) (⟨true,lf,false,c.str,true⟩ :: r))
       case first =>
        have HLd:=hZz HL3.out.drew;have hw1:IntKind.i64.wrap (qn+1)=qn+1:=IntWalk.i64_in _ (by omega);have hw2:IntKind.i64.wrap (b+(qn+1))=b+(qn+1):=IntWalk.i64_in _ (by omega)
        go_region_with (first
         | (go_at_call 219;(with_reducible refine (HQ.out _).mono ?_);rintro e w4 ⟨rfl,hw4⟩;rw [hw4];clear hw4 w4))
        all_goals
         go_wp2_with fail;go_meet
         exact HLd.out.seti 1 (.int .i64 (b+(qn+1))) rfl
       case rest =>
        have HL4:=hZz hcut;clear hcut f3a f3b f3c f3d f3e;have f4:=HL4.out.facts;obtain ⟨f4a,f4b,f4c,f4d,f4e⟩:=f4;clear f4d f4e;have HLL:Hid ((ll || longB c)=longs (l.take (k+1))):=hZz HLS.out.symm;obtain ⟨lg,hlg⟩:∃ t,longB c=t:=⟨_,rfl⟩
        have HLG:=hZz hlg;clear hlg;go_upto_region 15 with fail
        go_cut [] from 76 to 84 (fun wx=>LW w wx g gB c d (b+(qn+1)) oo (ll || lg) (.slice (some ⟨gS,0,none⟩) (r.length+1) cS) (⟨true,lf,false,c.str,true⟩ :: r))
        case first =>
         cases ll with
         | true =>
          go_wp2_with fail;go_meet
          exact HL4.out.seti 3 (.bool true) rfl
         | false =>
          by_cases h200:200<c.str.size
          ·have hlg:lg=true:=by rw [← HLG.out];unfold longB;simpa using h200
           have h200':(200:Int)<(c.str.size:Int):=by omega
           subst hlg;go_wp2_with fail;go_meet
           exact HL4.out.seti 3 (.bool true) rfl
          ·have hlg:lg=false:=by rw [← HLG.out];unfold longB;simpa using h200
           have h200':¬ (200:Int)<(c.str.size:Int):=by omega
           subst hlg;go_wp2_with fail;go_meet
           exact HL4.out.seti 3 (.bool false) rfl
        case rest =>
         have HL5:=hZz hcut;clear hcut f4a f4b f4c;have hkl:(k:Int)≤10000:=by omega
         have hgg:=HG.out;subst hgg;go_wp2_with fail;refine ⟨⟨k+1,⟨true,lf,false,c.str,true⟩ :: r,d,b+(qn+1),by omega,by simp,?_⟩,by simp [intOf];omega⟩
         have hout:outB c=false:=by unfold outB;rw [HK4.out];simp
         have ho:outs (l.take (k+1))=oo:=by rw [HOS.out,hout];simp
         have hlg2:longs (l.take (k+1))=(ll || lg):=by rw [← HLL.out,HLG.out]
         refine ⟨HL5.out.hr,by rw [ho,hlg2];exact HL5.out.hi,HL5.out.hs,HL5.out.hB,?_,?_,by omega,by simp at hl ⊢;omega,by omega,by push_cast;omega⟩
         ·rw [← HF2.out,resumeK_ok (s:=⟨k,d,b⟩) HLF.out rfl HCL.out HKO.out,HQN.out]
          rfl
         ·have hi:InvS l (⟨true,lf,true,la,sd⟩ :: r):=HII.out
          refine ⟨hi.1,.inl ⟨rfl,HLF.out,fun _=>rfl⟩,fun x hx=>?_⟩
          rcases List.mem_cons.1 hx with rfl | hx
          ·exact (show lf≤l.length from hi.2.2 ⟨true,lf,true,la,sd⟩ (by simp))
          ·exact hi.2.2 x (List.mem_cons_of_mem _ hx)
     ·have HN:Hid (F=none):=hZz (by
       rw [← HF2.out];refine resumeK_bad (s:=⟨k,d,b⟩) HLF.out HCL.out ?_
       unfold keyOk;rw [HPB.out];by_cases h4:c.kind=4
       ·cases sd with
        | false=>exact absurd ⟨h4,.inl rfl⟩ hbad
        | true =>
         cases hs:sleB c.str la with
         | false=>exact absurd ⟨h4,.inr hs⟩ hbad
         | true=>simp [hs]
       ·simp [h4])
      go_cut [55] from 38 to 55 (fun u wx=>u=.bool true∧∃ q,wx=W1.drewN q)
      case first =>
       by_cases h4:c.kind=4
       ·have h4':(c.kind != 4)=false:=by simpa using h4
        cases sd with
        | false=>exact absurd ⟨h4,.inl rfl⟩ hbad
        | true =>
         have h5:(Op.bytesLess c.str.toList la.toList || c.str.toList == la.toList)=true:=by
          cases hs:sleB c.str la with
          | false=>exact absurd ⟨h4,.inr hs⟩ hbad
          | true=>exact hs
         clear hbad h4;go_quiet (fail);go_wp2_with fail;go_meet
         exact ⟨rfl,_,rfl⟩
       ·have h4':(c.kind != 4)=true:=by simpa using h4
        clear hbad h4;go_quiet (fail);go_wp2_with fail;go_meet
        exact ⟨rfl,_,rfl⟩
      case rest =>
       obtain ⟨rfl,q,rfl⟩:=hcut;have HLq:=hZz (HL1.out.below (zaeZ (Below.refl _ _) q));obtain ⟨Wq,hWq⟩:∃ Wq,W1.drewN q=Wq:=⟨_,rfl⟩
       rw [hWq] at HLq ⊢;clear hbad f1 t1 hWq HL1;have f1:=HLq.out.facts;obtain ⟨f1a,f1b,f1c,f1d,f1e⟩:=f1;go_upto_region 12 with fail
       go_region
       have HE:Hid (Blk (((((Wq.setCell ⟨g,0,none⟩ (.int .i64 d)).setCell ⟨g,1,none⟩ (.int .i64 b)).setCell ⟨g,2,none⟩ (.bool oo)).setCell ⟨g,3,none⟩ (.bool ll)).drew) g 209 #[.int .i64 d,.int .i64 b,.bool oo,.bool ll]):=hZz ((((HLq.out.hr.set_ 0 (.int .i64 d)).set_ 1 (.int .i64 b)).set_ 2 (.bool oo)).set_ 3 (.bool ll)).drew;have HBE:Hid (Below g w (((((Wq.setCell ⟨g,0,none⟩ (.int .i64 d)).setCell ⟨g,1,none⟩ (.int .i64 b)).setCell ⟨g,2,none⟩ (.bool oo)).setCell ⟨g,3,none⟩ (.bool ll)).drew)):=hZz ((((HLq.out.hB.setCell (p:=⟨g,0,none⟩) (Nat.le_refl _) (.int .i64 d)).setCell (p:=⟨g,1,none⟩) (Nat.le_refl _) (.int .i64 b)).setCell (p:=⟨g,2,none⟩) (Nat.le_refl _) (.bool oo)).setCell (p:=⟨g,3,none⟩) (Nat.le_refl _) (.bool ll)).drew;obtain ⟨WE,hWE⟩:∃ WE,(((((Wq.setCell ⟨g,0,none⟩ (.int .i64 d)).setCell ⟨g,1,none⟩ (.int .i64 b)).setCell ⟨g,2,none⟩ (.bool oo)).setCell ⟨g,3,none⟩ (.bool ll)).drew)=WE:=⟨_,rfl⟩
       rw [hWE] at HE HBE ⊢;clear hWE;have ge:=blk4 HE.out;go_wp2_with (fail)
       rw [Exit.noGoto_ret];refine bodyPost_ret (v:=.tuple #[.int .i64 0,.agg #[.int .i64 d,.int .i64 b,.bool oo,.bool ll],.bool false]) (by simp [results,Tryz.results186,go_sem,ge]) rfl ?_
       rw [← HP.out,HN.out];exact ⟨by rw [HG.out];exact HBE.out,_,_,_,_,rfl⟩
    ·--VMODE
     obtain ⟨hgd,hlf,hres⟩:=mode_value HII.out hm;have HGD:=hZz hgd;have HLF:=hZz hlf;have HF2:Hid (resumeV l st ⟨k,d,b⟩=F):=hZz (by rw [← hres];exact HFF.out);obtain ⟨A6,cap6,rfl⟩:=zajZ HL1.out.hs;obtain ⟨n6,hn6⟩:∃ n,st.length=n:=⟨_,rfl⟩
     have HN6:=hZz hn6;have hl6:n6≤k:=by omega
     have h60:(0:Int)≤(n6:Int):=by omega
     have h61:(n6:Int)≤10000:=by omega
     rw [hn6] at HL1 ⊢;clear hgd hlf hres hm hl hn6;go_upto_region 9 with fail
     go_cut [33] from 24 to 33 (fun u33 wx=>u33=.bool false∧wx=W1)
     case first =>
      cases st with
      | nil =>
       obtain rfl:n6=0:=HN6.out.symm;go_wp2_with fail;go_meet
       exact ⟨rfl,rfl⟩
      | cons o r =>
       obtain ⟨p,lf,ky,la,sd⟩:=o;have hn:n6=r.length+1:=by have:=HN6.out;simpa using this.symm
       have hky:ky=false:=(HGD.out ⟨p,lf,ky,la,sd⟩ (by simp)).1;subst hky;obtain ⟨gS,cS,he,hcS⟩:=StAt.form HL1.out.hs;injection he with he1 _ he2
       subst he1;have t1:=StAt.top (r:=r) (cap:=cap6) (by have:=HL1.out.hs;rw [hn] at this;exact this);dsimp only at t1;have hx:((n6:Int) - 1).toNat=r.length:=by omega
       have t2:W1.cell? ⟨gS,((n6:Int) - 1).toNat * 5+2,none⟩=some (.bool false):=by rw [hx];exact t1.2.2.1
       have h62:(1:Int)≤(n6:Int):=by omega
       have h63:(0:Int)≤(n6:Int) - 1:=by omega
       have h64:(n6:Int) - 1<(n6:Int):=by omega
       have h65:(0:Int)<(n6:Int):=by omega
       have t3:=t1.2.2.1;clear hx t1 hn;go_wp2_with fail;go_meet
       exact ⟨rfl,rfl⟩
     case rest =>
      obtain ⟨rfl,rfl⟩:=hcut;have f1:=HL1.out.facts;obtain ⟨f1a,f1b,f1c,f1d,f1e⟩:=f1;have hdi:(d:Int)≤10000:=by omega
      have hd0:(0:Int)≤(d:Int):=by omega
      go_upto_region 17 with fail
      have HL2:=hZz (HL1.out.seti (a':=(max d (n6+1):Nat)) 0 (.int .i64 (max (d:Int) (n6+1))) (by
       have:max (d:Int) (n6+1)=((max d (n6+1):Nat):Int):=by omega
       rw [this];rfl))
      obtain ⟨W2,hW2⟩:∃ W2,wc.setCell ⟨g+1,0,none⟩ (.int .i64 (max (d:Int) (n6+1)))=W2:=⟨_,rfl⟩
      rw [hW2] at HL2 ⊢;clear hW2 HL1 f1a f1b f1c f1d f1e;obtain ⟨dn,hdn⟩:∃ n,max d (n6+1)=n:=⟨_,rfl⟩
      rw [hdn] at HL2;have HDN:=hZz hdn;have hdn1:dn≤k+1:=by omega
      have f2:=HL2.out.facts;obtain ⟨f2a,f2b,f2c,f2d,f2e⟩:=f2;obtain ⟨sn,hsn⟩:∃ n,sizeN c=n:=⟨_,rfl⟩
      have HSN:=hZz hsn;have hbk:b≤7000000000000000000:=by omega
      have HPW:Hid (∀ wx,Below W2.heap.size W2 wx→Pow wx):=hZz (fun wx hx=>HW.out.below (zahZ hx (by rw [HG.out];exact HL2.out.hB)))
      have HS1:Hid (c.n≤(l.length:Int)→∀ wx,Below W2.heap.size W2 wx→Calls prog 220 #[.agg #[.int .i64 c.kind,.int .i64 c.int,.string c.str,.int .i64 c.n]] wx fun e w'=>e=.returned (.int .i64 sn)∧Below wx.heap.size wx w'):=hZz (fun hn wx hx=>by
       rw [← hsn];exact size_any c wx (HPW.out wx hx) HPB.out HOK.out.1 HOK.out.2.1 (by omega))
      have HS2:Hid ((l.length:Int)<c.n→∀ wx,Calls prog 220 #[.agg #[.int .i64 c.kind,.int .i64 c.int,.string c.str,.int .i64 c.n]] wx fun e w'=>∃ n,e=.returned (.int .i64 n)∧Below wx.heap.size wx w'):=hZz (fun hn wx=>size_some c wx HPB.out (by omega));have hsb:c.n≤(l.length:Int)→0≤sn∧sn≤600000000000000:=fun hn=>by rw [← hsn];exact size_bd HPB.out HOK.out (by omega)
      have HSB:=hZz hsb;clear hsn hsb hdn;go_cut [] from 92 to 97 (fun wx=>∃ b',LW w wx g gB c dn b' oo ll (.slice A6 n6 cap6) st∧(c.n≤(l.length:Int)→b'=b+sn))
      case first =>
       have HLd:=hZz HL2.out.drew;by_cases hbig:c.n≤(l.length:Int)
       ·have hsb:=HSB.out hbig
        have hs0:=hsb.1;have hs1:=hsb.2;have hw1:IntKind.i64.wrap (b+sn)=b+sn:=IntWalk.i64_in _ (by omega);have HC:=hZz (HS1.out hbig);have HBG:=hZz hbig;clear hsb hbig
        go_region_with (first
         | (go_at_call 220;(with_reducible refine (HC.out _ (zadZ W2)).mono ?_);rintro e w4 ⟨rfl,hb4⟩;have HL4:=hZz (HLd.out.below hb4);have f4b:=HL4.out.facts.2.1;have f4c:=HL4.out.facts.2.2.1;clear hb4))
        all_goals
         go_wp2_with fail;go_meet
         exact ⟨_,HL4.out.seti 1 (.int .i64 (b+sn)) rfl,fun _=>rfl⟩
       ·have HC:=hZz (HS2.out (by omega))
        have HBG:=hZz hbig;clear hbig
        go_region_with (first
         | (go_at_call 220;(with_reducible refine (HC.out _).mono ?_);rintro e w4 ⟨m,rfl,hb4⟩;have HL4:=hZz (HLd.out.below hb4);have f4b:=HL4.out.facts.2.1;have f4c:=HL4.out.facts.2.2.1;clear hb4))
        all_goals
         go_wp2_with fail;go_meet
         exact ⟨_,HL4.out.seti 1 (.int .i64 _) rfl,fun h=>absurd h (by have:=HBG.out;omega)⟩
      case rest =>
       obtain ⟨b',hl2,hb'⟩:=hcut;have HL3:=hZz hl2;have HB':=hZz hb';clear hl2 hb' f2a f2b f2c f2d f2e HL2 HS1 HS2 HPW;have f3:=HL3.out.facts;obtain ⟨f3a,f3b,f3c,f3d,f3e⟩:=f3;clear f3d f3e;obtain ⟨ob,hob⟩:∃ t,outB c=t:=⟨_,rfl⟩
       have HOB:=hZz hob;clear hob;go_upto_region 18 with fail
       go_cut [] from 98 to 111 (fun wx=>LW w wx g gB c dn b' (oo || ob) ll (.slice A6 n6 cap6) st)
       case first =>
        cases oo with
        | true =>
         go_wp2_with fail;go_meet
         exact HL3.out.seti 2 (.bool true) rfl
        | false =>
         by_cases h3:c.kind=3
         ·have h3':(c.kind == 3)=true:=by simpa using h3
          have HV:=hZz (fun wx=>valid_any c.int wx);have ho2:ob=!(decide (-1000000000000≤c.int) && decide (c.int≤1000000000000)):=by rw [← HOB.out];unfold outB;simp [h3]
          obtain ⟨vb,hvb⟩:∃ t,(decide (-1000000000000≤c.int) && decide (c.int≤1000000000000))=t:=⟨_,rfl⟩
          rw [hvb] at HV ho2;subst ho2;clear h3 hvb HOB;cases vb with
          | true =>
           go_wp2_with (first
            | (go_at_call 144;(with_reducible refine (HV.out _).mono ?_);rintro e w5 ⟨rfl,hw5⟩;rw [hw5];clear hw5 w5))
           go_meet
           exact HL3.out.seti 2 (.bool false) rfl
          | false =>
           go_wp2_with (first
            | (go_at_call 144;(with_reducible refine (HV.out _).mono ?_);rintro e w5 ⟨rfl,hw5⟩;rw [hw5];clear hw5 w5))
           go_meet
           exact HL3.out.seti 2 (.bool true) rfl
         ·have h3':(c.kind == 3)=false:=by simpa using h3
          obtain rfl:ob=false:=by rw [← HOB.out];unfold outB;simp [h3]
          clear h3;go_wp2_with fail;go_meet
          exact HL3.out.seti 2 (.bool false) rfl
       case rest =>
        have HL4:=hZz hcut;clear hcut f3a f3b f3c HL3;have f4:=HL4.out.facts;obtain ⟨f4a,f4b,f4c,f4d,f4e⟩:=f4;clear f4d f4e;obtain ⟨lg,hlg⟩:∃ t,longB c=t:=⟨_,rfl⟩
        have HLG:=hZz hlg;clear hlg;go_upto_region 19 with fail
        go_cut [] from 112 to 120 (fun wx=>LW w wx g gB c dn b' (oo || ob) (ll || lg) (.slice A6 n6 cap6) st)
        case first =>
         cases ll with
         | true =>
          go_wp2_with fail;go_meet
          exact HL4.out.seti 3 (.bool true) rfl
         | false =>
          by_cases h200:200<c.str.size
          ·have hlg:lg=true:=by rw [← HLG.out];unfold longB;simpa using h200
           have h200':(200:Int)<(c.str.size:Int):=by omega
           subst hlg;go_wp2_with fail;go_meet
           exact HL4.out.seti 3 (.bool true) rfl
          ·have hlg:lg=false:=by rw [← HLG.out];unfold longB;simpa using h200
           have h200':¬ (200:Int)<(c.str.size:Int):=by omega
           subst hlg;go_wp2_with fail;go_meet
           exact HL4.out.seti 3 (.bool false) rfl
        case rest =>
         have HL5:=hZz hcut;clear hcut f4a f4b f4c HL4;have ho:outs (l.take (k+1))=(oo || ob):=by rw [HOS.out,HOB.out]
         have hlg2:longs (l.take (k+1))=(ll || lg):=by rw [HLS.out,HLG.out]
         have HO:=hZz ho;have HLL:=hZz hlg2;clear ho hlg2;have f5:=HL5.out.facts;obtain ⟨f5a,f5b,f5c,f5d,f5e⟩:=f5;by_cases hn:0<c.n
         ·by_cases hbig:(l.length:Int)<c.n
          ·have HN:Hid (F=none):=hZz (by rw [← HF2.out];exact resumeV_big (s:=⟨k,d,b⟩) HCL.out hbig)
           go_upto_region 22 with fail
           go_region
           have HE:Hid (Blk (((((wc.setCell ⟨g,0,none⟩ (.int .i64 dn)).setCell ⟨g,1,none⟩ (.int .i64 b')).setCell ⟨g,2,none⟩ (.bool (oo || ob))).setCell ⟨g,3,none⟩ (.bool (ll || lg))).drew) g 209 #[.int .i64 dn,.int .i64 b',.bool (oo || ob),.bool (ll || lg)]):=hZz ((((HL5.out.hr.set_ 0 (.int .i64 dn)).set_ 1 (.int .i64 b')).set_ 2 (.bool (oo || ob))).set_ 3 (.bool (ll || lg))).drew;have HBE:Hid (Below g w (((((wc.setCell ⟨g,0,none⟩ (.int .i64 dn)).setCell ⟨g,1,none⟩ (.int .i64 b')).setCell ⟨g,2,none⟩ (.bool (oo || ob))).setCell ⟨g,3,none⟩ (.bool (ll || lg))).drew)):=hZz ((((HL5.out.hB.setCell (p:=⟨g,0,none⟩) (Nat.le_refl _) (.int .i64 dn)).setCell (p:=⟨g,1,none⟩) (Nat.le_refl _) (.int .i64 b')).setCell (p:=⟨g,2,none⟩) (Nat.le_refl _) (.bool (oo || ob))).setCell (p:=⟨g,3,none⟩) (Nat.le_refl _) (.bool (ll || lg))).drew;obtain ⟨WE,hWE⟩:∃ WE,(((((wc.setCell ⟨g,0,none⟩ (.int .i64 dn)).setCell ⟨g,1,none⟩ (.int .i64 b')).setCell ⟨g,2,none⟩ (.bool (oo || ob))).setCell ⟨g,3,none⟩ (.bool (ll || lg))).drew)=WE:=⟨_,rfl⟩
           rw [hWE] at HE HBE ⊢;clear hWE;have ge:=blk4 HE.out;go_wp2_with (fail)
           rw [Exit.noGoto_ret];refine bodyPost_ret (v:=.tuple #[.int .i64 0,.agg #[.int .i64 dn,.int .i64 b',.bool (oo || ob),.bool (ll || lg)],.bool false]) (by simp [results,Tryz.results186,go_sem,ge]) rfl ?_
           rw [← HP.out,HN.out];exact ⟨by rw [HG.out];exact HBE.out,_,_,_,_,rfl⟩
          ·have hk2:c.kind=5∨c.kind=6:=by
            by_cases h:c.kind=5∨c.kind=6
            ·exact h
            ·have:=plain_n0 HPB.out h;omega
           rcases hk2 with hk56 | hk56
           ·skip
            obtain ⟨i0,hi,hz0,hz1,hz2⟩:=info_parts Tryz.infoOpen;have hfw:(c.kind == 6)=false:=by rw [hk56];rfl
            have HK56:=hZz hk56;have hgl:g≤wc.heap.size:=Nat.le_of_lt HL5.out.hr.lt;have HST:Hid (wc.ownsRow g 235 5 (.slice A6 n6 cap6) n6 (stCells st)):=hZz (by have:=HL5.out.hs;unfold StAt at this;rw [HN6.out] at this;exact this);have h66:n6≤1000000:=by omega
            clear hk56 f5d f5e;have hgg:=HG.out;subst hgg
            go_wp2_with (first
             | (at_builtin;refine zafY rfl (.tmp 130) (.tmp 140) 232 rfl i0 _ 48 underlying232 hi hz0 hz1 hz2 rfl (by omega) rfl HST.out [.bool false,.int .i64 c.n,.bool false,.string ByteArray.empty,.bool false] rfl rfl (by simp [Value.oneCell']) h66 (by omega) hgl ?_;intro v' w6 hown6 hb6 hs6 hg6;have HO6:=hZz hown6;have HG6:=hZz hg6;clear hown6 hb6 hs6 hg6))
            have hs6:StAt w6 w.heap.size v' (⟨false,c.n.toNat,false,ByteArray.empty,false⟩ :: st):=by
             unfold StAt
             have e:stCells (⟨false,c.n.toNat,false,ByteArray.empty,false⟩ :: st)=stCells st ++ [.bool false,.int .i64 c.n,.bool false,.string ByteArray.empty,.bool false]:=by
              simp only [stCells,OpenD.cells];rw [show ((c.n.toNat:Nat):Int)=c.n by omega]
             rw [e,List.length_cons,HN6.out];exact HO6.out
            have HL6:=hZz (HL5.out.grown HG6.out hs6);refine ⟨⟨k+1,⟨false,c.n.toNat,false,ByteArray.empty,false⟩ :: st,dn,b',by omega,by simp,?_⟩,by simp [intOf];omega⟩
            have hbe:=HB'.out (by omega);have hsb:=HSB.out (by omega);refine ⟨HL6.out.hr,by rw [HO.out,HLL.out];exact HL6.out.hi,HL6.out.hs,HL6.out.hB,?_,?_,by omega,by rw [List.length_cons,HN6.out];omega,by omega,by push_cast;omega⟩
            ·rw [← HF2.out,resumeV_list (s:=⟨k,d,b⟩) HCL.out HPB.out HK56.out (by omega),HN6.out,HDN.out,HSN.out,hbe]
             rfl
            ·refine ⟨HGD.out,.inl ⟨rfl,by simp;omega,fun e=>by cases e⟩,fun x hx=>?_⟩
             rcases List.mem_cons.1 hx with rfl | hx
             ·simp;omega
             ·exact HLF.out x hx
           ·skip
            obtain ⟨i0,hi,hz0,hz1,hz2⟩:=info_parts Tryz.infoOpen;have hfw:(c.kind == 6)=true:=by rw [hk56];rfl
            have HK56:=hZz hk56;have hgl:g≤wc.heap.size:=Nat.le_of_lt HL5.out.hr.lt;have HST:Hid (wc.ownsRow g 235 5 (.slice A6 n6 cap6) n6 (stCells st)):=hZz (by have:=HL5.out.hs;unfold StAt at this;rw [HN6.out] at this;exact this);have h66:n6≤1000000:=by omega
            clear hk56 f5d f5e;have hgg:=HG.out;subst hgg
            go_wp2_with (first
             | (at_builtin;refine zafY rfl (.tmp 130) (.tmp 140) 232 rfl i0 _ 48 underlying232 hi hz0 hz1 hz2 rfl (by omega) rfl HST.out [.bool true,.int .i64 c.n,.bool true,.string ByteArray.empty,.bool false] rfl rfl (by simp [Value.oneCell']) h66 (by omega) hgl ?_;intro v' w6 hown6 hb6 hs6 hg6;have HO6:=hZz hown6;have HG6:=hZz hg6;clear hown6 hb6 hs6 hg6))
            have hs6:StAt w6 w.heap.size v' (⟨true,c.n.toNat,true,ByteArray.empty,false⟩ :: st):=by
             unfold StAt
             have e:stCells (⟨true,c.n.toNat,true,ByteArray.empty,false⟩ :: st)=stCells st ++ [.bool true,.int .i64 c.n,.bool true,.string ByteArray.empty,.bool false]:=by
              simp only [stCells,OpenD.cells];rw [show ((c.n.toNat:Nat):Int)=c.n by omega]
             rw [e,List.length_cons,HN6.out];exact HO6.out
            have HL6:=hZz (HL5.out.grown HG6.out hs6);refine ⟨⟨k+1,⟨true,c.n.toNat,true,ByteArray.empty,false⟩ :: st,dn,b',by omega,by simp,?_⟩,by simp [intOf];omega⟩
            have hbe:=HB'.out (by omega);have hsb:=HSB.out (by omega);refine ⟨HL6.out.hr,by rw [HO.out,HLL.out];exact HL6.out.hi,HL6.out.hs,HL6.out.hB,?_,?_,by omega,by rw [List.length_cons,HN6.out];omega,by omega,by push_cast;omega⟩
            ·rw [← HF2.out,resumeV_map (s:=⟨k,d,b⟩) HCL.out HPB.out HK56.out (by omega),HN6.out,HDN.out,HSN.out,hbe]
             rfl
            ·refine ⟨HGD.out,.inr ⟨rfl,rfl,by simp;omega⟩,fun x hx=>?_⟩
             rcases List.mem_cons.1 hx with rfl | hx
             ·simp;omega
             ·exact HLF.out x hx
         ·have hcl:Calls prog 221 #[.slice A6 n6 cap6] wc fun e w'=>∃ v',e=.returned v'∧StAt w' g v' (closedF st)∧wc.grownBy w' (Value.slice A6 n6 cap6).ownBlock :=
           (closed_any st g _ wc HL5.out.hs (fun o ho=>⟨(HGD.out o ho).2.1,by have:=HLF.out o ho;omega⟩) (by rw [HN6.out];omega)).mono fun e w' ⟨v',h1,h2,h3,_⟩=>⟨v',h1,h2,h3⟩
          have HCO:=hZz hcl;have hbe:=HB'.out (by omega);have HBB:=hZz hbe
          have hlf:resumeV l st ⟨k,d,b⟩=cont l st ⟨k+1,dn,b'⟩:=by
           rw [resumeV_leaf (s:=⟨k,d,b⟩) HCL.out HPB.out (by omega),HN6.out,hbe];simp only [HDN.out,HSN.out]
          rw [cont_closed l st _ HGD.out] at hlf;have HLE:=hZz hlf;have hln:(closedF st).length≤n6:=by have:=closed_len st;rw [HN6.out] at this;exact this
          obtain ⟨stc,hstc⟩:∃ s,closedF st=s:=⟨_,rfl⟩
          have HINV:Hid (InvS l stc):=hZz (by rw [← hstc];exact inv_closed st HGD.out HLF.out);rw [hstc] at HCO HLE hln;obtain ⟨m7,hm7⟩:∃ n,stc.length=n:=⟨_,rfl⟩
          rw [hm7] at hln;have HM7:=hZz hm7;have hsb:=HSB.out (by omega);have hs0:=hsb.1;have hs1:=hsb.2;clear hcl hbe hlf hstc hm7 hsb
          go_upto_region 25 with (first
           | (go_at_call 221;(with_reducible refine HCO.out.mono ?_);rintro e w6 ⟨v6,rfl,hs6,hg6⟩;obtain ⟨A7,cap7,rfl⟩:=zajZ hs6;have HS6:=hZz hs6;have HG6:=hZz hg6;clear hs6 hg6))
          have HL6:=hZz (HL5.out.grown HG6.out HS6.out);rw [HM7.out] at HL6 ⊢;clear f5a f5b f5c f5d f5e HL5;have f6:=HL6.out.facts;obtain ⟨f6a,f6b,f6c,f6d,f6e⟩:=f6;by_cases h0:m7=0
          ·subst h0
           have hnil:stc=[]:=List.eq_nil_of_length_eq_zero HM7.out;have HFS:Hid (F=some ⟨k+1,dn,b'⟩):=hZz (by rw [← HF2.out,HLE.out,hnil];rfl);have hk1:(k:Int)≤10000:=by omega
           clear hnil;go_upto_region 26 with fail
           go_region
           have HE:Hid (Blk (((((w6.setCell ⟨g,0,none⟩ (.int .i64 dn)).setCell ⟨g,1,none⟩ (.int .i64 b')).setCell ⟨g,2,none⟩ (.bool (oo || ob))).setCell ⟨g,3,none⟩ (.bool (ll || lg))).drew) g 209 #[.int .i64 dn,.int .i64 b',.bool (oo || ob),.bool (ll || lg)]):=hZz ((((HL6.out.hr.set_ 0 (.int .i64 dn)).set_ 1 (.int .i64 b')).set_ 2 (.bool (oo || ob))).set_ 3 (.bool (ll || lg))).drew;have HBE:Hid (Below g w (((((w6.setCell ⟨g,0,none⟩ (.int .i64 dn)).setCell ⟨g,1,none⟩ (.int .i64 b')).setCell ⟨g,2,none⟩ (.bool (oo || ob))).setCell ⟨g,3,none⟩ (.bool (ll || lg))).drew)):=hZz ((((HL6.out.hB.setCell (p:=⟨g,0,none⟩) (Nat.le_refl _) (.int .i64 dn)).setCell (p:=⟨g,1,none⟩) (Nat.le_refl _) (.int .i64 b')).setCell (p:=⟨g,2,none⟩) (Nat.le_refl _) (.bool (oo || ob))).setCell (p:=⟨g,3,none⟩) (Nat.le_refl _) (.bool (ll || lg))).drew;obtain ⟨WE,hWE⟩:∃ WE,(((((w6.setCell ⟨g,0,none⟩ (.int .i64 dn)).setCell ⟨g,1,none⟩ (.int .i64 b')).setCell ⟨g,2,none⟩ (.bool (oo || ob))).setCell ⟨g,3,none⟩ (.bool (ll || lg))).drew)=WE:=⟨_,rfl⟩
           rw [hWE] at HE HBE ⊢;clear hWE;have ge:=blk4 HE.out;go_wp2_with (fail)
           rw [Exit.noGoto_ret];refine bodyPost_ret (v:=.tuple #[.int .i64 ((k:Int)+1),.agg #[.int .i64 dn,.int .i64 b',.bool (oo || ob),.bool (ll || lg)],.bool true]) (by simp [results,Tryz.results186,go_sem,ge]) rfl ?_
           rw [← HP.out,HFS.out];refine ⟨by rw [HG.out];exact HBE.out,?_⟩
           simp only
           rw [HO.out,HLL.out];rfl
          ·have hm0:(0:Int)<(m7:Int):=by omega
           have hm1:((m7:Int) == 0)=false:=by simp;omega
           have hgg:=HG.out;subst hgg;clear f6a f6b f6c f6d f6e;go_wp2_with fail;refine ⟨⟨k+1,stc,dn,b',by omega,by simp,?_⟩,by simp [intOf];omega⟩
           refine ⟨HL6.out.hr,by rw [HO.out,HLL.out];exact HL6.out.hi,HL6.out.hs,HL6.out.hB,?_,HINV.out,by omega,by rw [HM7.out];omega,?_,?_⟩
           ·rw [← HF2.out,HLE.out,if_neg (by intro h;rw [h] at HM7;exact h0 HM7.out.symm)]
           ·rw [HBB.out];omega
           ·rw [HBB.out];push_cast;omega
  ·have e:k=l.length:=by omega
   subst e;have i0:=blk4 HL.out.hi;have r0:=blk4 HL.out.hr;have z0:=HL.out.hr.frozen 0;have z1:=HL.out.hr.frozen 1;have z2:=HL.out.hr.frozen 2;have z3:=HL.out.hr.frozen 3;have HTO:Hid (outs (l.take l.length)=outs l):=hZz (by rw [List.take_length]);have HTL:Hid (longs (l.take l.length)=longs l):=hZz (by rw [List.take_length]);go_wp2_with (fail)
   go_region
   have HN:Hid (F=none):=hZz (by
    rw [← HL.out.hF];exact resume_end (s:=⟨l.length,d,b⟩) HL.out.hI (by simp))
   have HE:Hid (Blk (((((wr.setCell ⟨w.heap.size,0,none⟩ (.int .i64 d)).setCell ⟨w.heap.size,1,none⟩ (.int .i64 b)).setCell ⟨w.heap.size,2,none⟩ (.bool (outs l))).setCell ⟨w.heap.size,3,none⟩ (.bool (longs l))).drew) w.heap.size 209 #[.int .i64 d,.int .i64 b,.bool (outs l),.bool (longs l)]):=hZz ((((HL.out.hr.set_ 0 (.int .i64 d)).set_ 1 (.int .i64 b)).set_ 2 (.bool (outs l))).set_ 3 (.bool (longs l))).drew;have HBE:Hid (Below w.heap.size w (((((wr.setCell ⟨w.heap.size,0,none⟩ (.int .i64 d)).setCell ⟨w.heap.size,1,none⟩ (.int .i64 b)).setCell ⟨w.heap.size,2,none⟩ (.bool (outs l))).setCell ⟨w.heap.size,3,none⟩ (.bool (longs l))).drew)):=hZz ((((HL.out.hB.setCell (p:=⟨w.heap.size,0,none⟩) (Nat.le_refl _) (.int .i64 d)).setCell (p:=⟨w.heap.size,1,none⟩) (Nat.le_refl _) (.int .i64 b)).setCell (p:=⟨w.heap.size,2,none⟩) (Nat.le_refl _) (.bool (outs l))).setCell (p:=⟨w.heap.size,3,none⟩) (Nat.le_refl _) (.bool (longs l))).drew;obtain ⟨WE,hWE⟩:∃ WE,(((((wr.setCell ⟨w.heap.size,0,none⟩ (.int .i64 d)).setCell ⟨w.heap.size,1,none⟩ (.int .i64 b)).setCell ⟨w.heap.size,2,none⟩ (.bool (outs l))).setCell ⟨w.heap.size,3,none⟩ (.bool (longs l))).drew)=WE:=⟨_,rfl⟩
   rw [hWE] at HE HBE ⊢;clear hWE;have ge:=blk4 HE.out;go_wp2_with (fail)
   rw [Exit.noGoto_ret];refine bodyPost_ret (v:=.tuple #[.int .i64 0,.agg #[.int .i64 d,.int .i64 b,.bool (outs l),.bool (longs l)],.bool false]) (by simp [results,Tryz.results186,go_sem,ge]) rfl ?_
   rw [← HP.out,HN.out];exact ⟨HBE.out,_,_,_,_,rfl⟩
end
section
attribute [local go_sem] zabZ
set_option maxHeartbeats 4000000 in
theorem vcheck_any (l:List CellD) (A:Option Addr) (cap:Nat) (w:World) (h:SlAt w A 4 CellD.cells l) (hp:Pow w) (hlen:l.length≤10000) (hcap:l.length≤cap) (hok:∀ c∈l,okC c) :
  Calls prog 152 #[.slice A l.length cap] w fun e w'=>e=.returned (.int .i64 (checkF l))∧Below w.heap.size w w':=by
 obtain ⟨ck,hck⟩:∃ c,checkF l=c:=⟨_,rfl⟩
 rw [hck];have HCK:=hZz hck;have HL:=hZz (look_any l A cap w h hp hlen hcap hok);obtain ⟨F,hF⟩:∃ F,px l 0=F:=⟨_,rfl⟩
 rw [hF] at HL;have HF:=hZz hF;clear hck hF h hp hok;cases F with
 | none =>
  have HL2:Hid (Calls prog 186 #[.slice A l.length cap] w fun e w'=>(∃ a b o t,e=.returned (.tuple #[.int .i64 0,.agg #[.int .i64 a,.int .i64 b,.bool o,.bool t],.bool false]))∧Below w.heap.size w w'):=hZz (HL.out.mono fun e w' ⟨h1,h2⟩=>⟨h2,h1⟩);have hc:ck=1:=by rw [← HCK.out];unfold checkF;rw [HF.out];rfl
  subst hc;clear HL;go_enter func152,ntmps152
  go_wp2_with (first
   | (go_at_call 186;(with_reducible refine HL2.out.mono ?_);rintro e w1 ⟨⟨a,b,o,t,rfl⟩,hb1⟩;have HB1:=hZz hb1;clear hb1))
  all_goals
   go_returns;exact ⟨rfl,HB1.out.alloc HB1.out.size _⟩
 | some r =>
  have HL2:Hid (Calls prog 186 #[.slice A l.length cap] w fun e w'=>e=.returned (.tuple #[.int .i64 r.j,.agg #[.int .i64 r.d,.int .i64 r.b,.bool (outs (l.take r.j)),.bool (longs (l.take r.j))],.bool true])∧Below w.heap.size w w'):=hZz (HL.out.mono fun e w' ⟨h1,h2⟩=>⟨h2,h1⟩);have had:=px_adv HF.out;by_cases hj:r.j=l.length
  ·have ho:outs (l.take r.j)=l.any outB:=by rw [hj,List.take_length];rfl
   have hl:longs (l.take r.j)=l.any longB:=by rw [hj,List.take_length];rfl
   have hck2:ck=if l.any outB then eRange else if l.any longB || (decide (200<l.length) || (decide (8<r.d) || decide (4000<r.b))) then eLimit else 0:=by
    rw [← HCK.out];unfold checkF;rw [HF.out];simp only [hj,ne_eq,not_true_eq_false,if_false]
   rw [ho,hl] at HL2;obtain ⟨oo,hoo⟩:∃ t,l.any outB=t:=⟨_,rfl⟩
   obtain ⟨ll,hll⟩:∃ t,l.any longB=t:=⟨_,rfl⟩
   rw [hoo,hll] at HL2 hck2;rw [hj] at HL2;obtain ⟨j,d,b⟩:=r;dsimp only at HL2 hck2;clear HL had hj ho hl hoo hll HF HCK;cases oo with
   | true =>
    have hc:ck=2:=hck2;subst hc;clear hck2;go_enter func152,ntmps152
    go_wp2_with (first
     | (go_at_call 186;(with_reducible refine HL2.out.mono ?_);rintro e w1 ⟨rfl,hb1⟩;have HB1:=hZz hb1;clear hb1))
    all_goals
     go_returns;exact ⟨rfl,HB1.out.alloc HB1.out.size _⟩
   | false =>
    by_cases h1:ll=true
    ·subst h1
     have hc:ck=3:=hck2;subst hc;clear hck2;go_enter func152,ntmps152
     go_wp2_with (first
      | (go_at_call 186;(with_reducible refine HL2.out.mono ?_);rintro e w1 ⟨rfl,hb1⟩;have HB1:=hZz hb1;clear hb1))
     all_goals
      go_returns;exact ⟨rfl,HB1.out.alloc HB1.out.size _⟩
    ·obtain rfl:ll=false:=by simpa using h1
     clear h1;by_cases h2:(200:Int)<(l.length:Int)
     all_goals by_cases h3:(8:Int)<(d:Int)
     all_goals by_cases h4:4000<b
     all_goals
      have h2':decide (200<l.length)=decide ((200:Int)<(l.length:Int)):=decide_eq_decide.2 (by omega);have h3':decide (8<d)=decide ((8:Int)<(d:Int)):=decide_eq_decide.2 (by omega);rw [h2',h3'] at hck2;simp only [h2,h3,h4,decide_true,decide_false,Bool.or_true,Bool.true_or,Bool.or_false,Bool.false_or,if_true,if_false,Bool.false_eq_true] at hck2;have HC2:=hZz hck2;clear h2' h3' hck2;go_enter func152,ntmps152
      go_wp2_with (first
       | (go_at_call 186;(with_reducible refine HL2.out.mono ?_);rintro e w1 ⟨rfl,hb1⟩;have HB1:=hZz hb1;clear hb1))
      all_goals
       go_returns;exact ⟨by rw [HC2.out];rfl,HB1.out.alloc HB1.out.size _⟩
  ·have hc:ck=1:=by rw [← HCK.out];unfold checkF;rw [HF.out];simp only [ne_eq,hj,not_false_eq_true,if_true];rfl
   have hji:¬ ((r.j:Int)=(l.length:Int)):=by omega
   have hjb:((r.j:Int) != (l.length:Int))=true:=by simpa using hji
   subst hc;obtain ⟨j,d,b⟩:=r;dsimp only at HL2 hji hjb;clear HL had hj HF HCK;go_enter func152,ntmps152
   go_wp2_with (first
    | (go_at_call 186;(with_reducible refine HL2.out.mono ?_);rintro e w1 ⟨rfl,hb1⟩;have HB1:=hZz hb1;clear hb1))
   all_goals
    go_returns;exact ⟨rfl,HB1.out.alloc HB1.out.size _⟩
end
section
attribute [local go_sem] zabZ
theorem okC_str (s:ByteArray) (h:s.size≤140737488351232):okC (strC s):=⟨h,⟨by show -9223372036854775808≤0;omega,by show 0≤9223372036854775807;omega⟩,by show 0≤9223372036854775807;omega⟩
set_option maxHeartbeats 2000000 in
theorem ctext_any (s:ByteArray) (w:World) (hs:s.size≤140737488351232) (hp:Pow w):Calls prog 145 #[.string s] w fun e w'=>(∃ b,e=.returned (.bool b)∧(b=true↔StrOk s))∧Below w.heap.size w w':=by
 have hsl:SlAt (w.alloc (.cells #[.int .i64 4,.int .i64 0,.string s,.int .i64 0] 103)) (some ⟨w.heap.size,0,none⟩) 4 CellD.cells [strC s]:=zalZ rfl _ _ [strC s] rfl (fun _=>rfl) (by omega) (by show 1≤maxLen;unfold maxLen;omega);have hb0:=zacZ w (.cells #[.int .i64 4,.int .i64 0,.string s,.int .i64 0] 103);obtain ⟨k,hk⟩:∃ k,checkF [strC s]=k:=⟨_,rfl⟩
 have hC0:=(vcheck_any [strC s] (some ⟨w.heap.size,0,none⟩) 1 _ hsl (hp.below hb0) (by show 1≤10000;omega) (Nat.le_refl _) (by intro c hc;simp at hc;subst hc;exact okC_str s hs))
 rw [hk] at hC0;have HC:Hid (Calls prog 152 #[.slice (some ⟨w.heap.size,0,none⟩) 1 1] (w.alloc (.cells #[.int .i64 4,.int .i64 0,.string s,.int .i64 0] 103)) fun e w'=>e=.returned (.int .i64 k)∧Below (w.alloc (.cells #[.int .i64 4,.int .i64 0,.string s,.int .i64 0] 103)).heap.size (w.alloc (.cells #[.int .i64 4,.int .i64 0,.string s,.int .i64 0] 103)) w'):=hZz hC0;clear hC0;have HK:Hid (k=0↔StrOk s):=hZz (by rw [← hk];exact checkF_str s);have HB0:=hZz hb0;obtain ⟨P,hP⟩:∃ P:Ending→World→Prop,(fun e w'=>(∃ b,e=.returned (.bool b)∧(b=true↔StrOk s))∧Below w.heap.size w w')=P:=⟨_,rfl⟩
 rw [hP];have HP:=hZz hP
 have hC2:Calls prog 153 #[.slice (some ⟨w.heap.size,0,none⟩) 1 1] (w.alloc (.cells #[.int .i64 4,.int .i64 0,.string s,.int .i64 0] 103)) fun e w'=>(∃ v,e=.returned (.tuple #[v,.int .i64 k]))∧Below w.heap.size w w':=by
  clear hP HP HK hk hsl hb0 hp hs;go_enter func153,ntmps153
  go_wp2_with (first
   | (go_at_call 152;(with_reducible refine HC.out.mono ?_);rintro e w1 ⟨rfl,hb1⟩;have HB1:=hZz (zahZ hb1 HB0.out);clear hb1))
  ·go_returns
   exact ⟨⟨_,rfl⟩,HB1.out⟩
  ·go_returns
   have hk0:k=0:=by simp_all
   exact ⟨⟨_,by rw [hk0];rfl⟩,HB1.out⟩
 have HC2:=hZz hC2;clear hP hk hsl hb0 hp hs hC2 HC
 have hstr:Calls prog 161 #[.string s] w fun e w'=>(∃ v,e=.returned (.tuple #[v,.int .i64 k]))∧Below w.heap.size w w':=by
  clear HP HK;go_enter func161,ntmps161
  go_wp2_with (first
   | (go_at_call 153;(with_reducible refine HC2.out.mono ?_);rintro e w1 ⟨⟨v,rfl⟩,hb1⟩;have HB1:=hZz hb1;clear hb1))
  go_returns;exact ⟨⟨_,rfl⟩,HB1.out⟩
 have HS:=hZz hstr;clear hstr HC2;go_enter func145,ntmps145
 go_wp2_with (first
  | (go_at_call 161;(with_reducible refine HS.out.mono ?_);rintro e w1 ⟨⟨v,rfl⟩,hb1⟩;have HB1:=hZz hb1;clear hb1))
 rw [← HP.out];exact ⟨⟨k == 0,rfl,by simp;exact HK.out⟩,HB1.out⟩
theorem Tryz.kStr:KeyOk prog 9 Value.string:=keyOk_string underlying9
theorem Tryz.zeroInt (w:World):(zeroValue 3).run prog w=.ok (.int .i64 0) w:=by simp [go_sem]
theorem zakZ {α β:Type} [DecidableEq α] {P:Program} {K T E:TypeId} {kc:α→Value} {vc:β→Value} {w:World} {b:Nat} {m:List (α × β)} {ops:Array Oper} {rest:List Oper} {o:Oper} {ac:Act} {Q:Exit→Act→World→Prop}
  (hg:Region.wanted o (yielded ops ac.tmps)=true) (mo xo vo:Operand) (hop:o.op=Op.insert T mo xo vo) (hK:KeyOk P K kc) (hT:P.underlying T=some (.map K E))
  (hm:ac.eval mo=.map (some b)) (a:α) (hx:ac.eval xo=kc a) (x:β) (hv:ac.eval vo=vc x) (h:MapAt w b kc vc m)
  (hk:∀ w',MapAt w' b kc vc (alSet m a x)→w.grownBy w' (some b)→w'.heap.size=w.heap.size→wpList P ops Q rest (ac.put o.dst undef) w'):wpList P ops Q (o :: rest) ac w:=by
 refine wpList_step fun K' hK'=>?_
 rw [if_pos hg];obtain ⟨w',hrun,h1,h2,h3,_⟩:=h.store (x:=x) hK hT a;unfold Oper.wp;simp [execOp,hop,hm,hx,hv,hrun,Result.andThen]
 exact hK' _ _ (hk w' h1 h2 h3)
theorem bytes_lit (s:ByteArray) (a:Array UInt8):(s=⟨a⟩)=(s.toList=a.toList):=by
 rw [Lib.toList_data];apply propext
 constructor
 ·rintro rfl;rfl
 ·intro h;exact ByteArray.ext (Array.ext' h)
set_option maxHeartbeats 2000000 in
theorem arity_any (b:Nat) (m:List (ByteArray × Int)) (s:ByteArray) (r:Option Int) (w:World) (h:MapAt w b Value.string (Value.int .i64) m) (hr:alGet m s=r) :
  Calls prog 138 #[.map (some b),.string s] w fun e w'=>e=.returned (.tuple #[.int .i64 (r.getD 0),.bool r.isSome])∧w'=w:=by
 have HM:=hZz h;have HR:=hZz hr;clear h hr;go_enter func138,ntmps138
 go_wp2_with (first
  | (at_lookup;refine zarY rfl (.tmp 9) (.tmp 10) rfl Tryz.kStr underlying114 0 (Tryz.zeroInt _) rfl s rfl HM.out r HR.out (.int .i64 (r.getD 0)) rfl r.isSome rfl ?_))
 go_returns;exact ⟨rfl,rfl⟩
set_option maxHeartbeats 2000000 in
theorem rbuilt_any (s:ByteArray) (w:World):Calls prog 52 #[.string s] w fun e w'=>e=.returned (.tuple #[.int .i64 ((lookL builtL s).getD 0),.bool (lookL builtL s).isSome])∧w'=w:=by
 obtain ⟨r,hr⟩:∃ r,lookL builtL s=r:=⟨_,rfl⟩
 rw [hr];have HR:=hZz hr;clear hr;go_enter func52,ntmps52
 go_wp2
 all_goals
  go_returns;have e:=HR.out;unfold lookL builtL at e;simp only [List.lookup] at e;simp_all
  try (first | (subst e;first | rfl | exact ⟨rfl,rfl⟩ | (simp;done)) | (have hn:r=none:=(by rw [← e];repeat' (first | rfl | split | simp_all));subst hn;exact ⟨rfl,rfl⟩))
set_option maxHeartbeats 2000000 in
theorem rhost_any (s:ByteArray) (w:World):Calls prog 148 #[.string s] w fun e w'=>e=.returned (.tuple #[.int .i64 ((lookL hostL s).getD 0),.bool (lookL hostL s).isSome])∧w'=w:=by
 obtain ⟨r,hr⟩:∃ r,lookL hostL s=r:=⟨_,rfl⟩
 rw [hr];have HR:=hZz hr;clear hr;go_enter func148,ntmps148
 go_wp2
 all_goals
  go_returns;have e:=HR.out;unfold lookL hostL at e;simp only [List.lookup] at e;simp_all
  try (first | (subst e;first | rfl | exact ⟨rfl,rfl⟩ | (simp;done)) | (have hn:r=none:=(by rw [← e];repeat' (first | rfl | split | simp_all));subst hn;exact ⟨rfl,rfl⟩))
theorem built_get (s:ByteArray):alGet ((alSet (alSet (alSet (alSet (alSet (alSet (alSet (alSet [] (⟨#[108,101,110]⟩:ByteArray) (1:Int)) (⟨#[115,116,114]⟩:ByteArray) (1:Int)) (⟨#[105,110,116]⟩:ByteArray) (1:Int)) (⟨#[112,117,115,104]⟩:ByteArray) (2:Int)) (⟨#[112,117,116]⟩:ByteArray) (3:Int)) (⟨#[107,101,121,115]⟩:ByteArray) (1:Int)) (⟨#[104,97,115]⟩:ByteArray) (2:Int)) (⟨#[102,97,105,108]⟩:ByteArray) (1:Int)):List (ByteArray × Int)) s=lookL builtL s:=by
 simp only [alGet_set,alGet,lookL,builtL,List.lookup];simp only [eq_comm (b:=s),bytes_lit]
 repeat' (first | rfl | split | simp_all)
set_option maxHeartbeats 4000000 in
theorem built_any (s:ByteArray) (w:World):Calls prog 86 #[.string s] w fun e w'=>e=.returned (.tuple #[.int .i64 ((lookL builtL s).getD 0),.bool (lookL builtL s).isSome])∧Below w.heap.size w w':=by
 have hmm:=@run_makeMap prog;have HM0:=hZz (MapAt.new w Value.string (Value.int .i64));have HB0:=hZz (zacZ w (.map #[] 0));obtain ⟨r,hr⟩:∃ r,lookL builtL s=r:=⟨_,rfl⟩
 rw [hr];have HR:=hZz hr;clear hr;go_enter func86,ntmps86
 go_wp2_with (first
   | (refine zakZ rfl (.tmp 4) (.const (.string ⟨#[108,101,110]⟩)) (.const (.int .i64 1)) rfl Tryz.kStr underlying114 rfl (⟨#[108,101,110]⟩:ByteArray) rfl (1:Int) rfl HM0.out ?_;intro w1 hm1 hg1 hs1;have HM1:=hZz hm1;have HB1:Hid (Below w.heap.size w w1):=hZz (HB0.out.grown hg1 HB0.out.size (fun k hk=>by injection hk with hk;omega));clear hm1 hg1 hs1)
   | (refine zakZ rfl (.tmp 4) (.const (.string ⟨#[115,116,114]⟩)) (.const (.int .i64 1)) rfl Tryz.kStr underlying114 rfl (⟨#[115,116,114]⟩:ByteArray) rfl (1:Int) rfl HM1.out ?_;intro w2 hm2 hg2 hs2;have HM2:=hZz hm2;have HB2:Hid (Below w.heap.size w w2):=hZz (HB1.out.grown hg2 HB1.out.size (fun k hk=>by injection hk with hk;omega));clear hm2 hg2 hs2)
   | (refine zakZ rfl (.tmp 4) (.const (.string ⟨#[105,110,116]⟩)) (.const (.int .i64 1)) rfl Tryz.kStr underlying114 rfl (⟨#[105,110,116]⟩:ByteArray) rfl (1:Int) rfl HM2.out ?_;intro w3 hm3 hg3 hs3;have HM3:=hZz hm3;have HB3:Hid (Below w.heap.size w w3):=hZz (HB2.out.grown hg3 HB2.out.size (fun k hk=>by injection hk with hk;omega));clear hm3 hg3 hs3)
   | (refine zakZ rfl (.tmp 4) (.const (.string ⟨#[112,117,115,104]⟩)) (.const (.int .i64 2)) rfl Tryz.kStr underlying114 rfl (⟨#[112,117,115,104]⟩:ByteArray) rfl (2:Int) rfl HM3.out ?_;intro w4 hm4 hg4 hs4;have HM4:=hZz hm4;have HB4:Hid (Below w.heap.size w w4):=hZz (HB3.out.grown hg4 HB3.out.size (fun k hk=>by injection hk with hk;omega));clear hm4 hg4 hs4)
   | (refine zakZ rfl (.tmp 4) (.const (.string ⟨#[112,117,116]⟩)) (.const (.int .i64 3)) rfl Tryz.kStr underlying114 rfl (⟨#[112,117,116]⟩:ByteArray) rfl (3:Int) rfl HM4.out ?_;intro w5 hm5 hg5 hs5;have HM5:=hZz hm5;have HB5:Hid (Below w.heap.size w w5):=hZz (HB4.out.grown hg5 HB4.out.size (fun k hk=>by injection hk with hk;omega));clear hm5 hg5 hs5)
   | (refine zakZ rfl (.tmp 4) (.const (.string ⟨#[107,101,121,115]⟩)) (.const (.int .i64 1)) rfl Tryz.kStr underlying114 rfl (⟨#[107,101,121,115]⟩:ByteArray) rfl (1:Int) rfl HM5.out ?_;intro w6 hm6 hg6 hs6;have HM6:=hZz hm6;have HB6:Hid (Below w.heap.size w w6):=hZz (HB5.out.grown hg6 HB5.out.size (fun k hk=>by injection hk with hk;omega));clear hm6 hg6 hs6)
   | (refine zakZ rfl (.tmp 4) (.const (.string ⟨#[104,97,115]⟩)) (.const (.int .i64 2)) rfl Tryz.kStr underlying114 rfl (⟨#[104,97,115]⟩:ByteArray) rfl (2:Int) rfl HM6.out ?_;intro w7 hm7 hg7 hs7;have HM7:=hZz hm7;have HB7:Hid (Below w.heap.size w w7):=hZz (HB6.out.grown hg7 HB6.out.size (fun k hk=>by injection hk with hk;omega));clear hm7 hg7 hs7)
   | (refine zakZ rfl (.tmp 4) (.const (.string ⟨#[102,97,105,108]⟩)) (.const (.int .i64 1)) rfl Tryz.kStr underlying114 rfl (⟨#[102,97,105,108]⟩:ByteArray) rfl (1:Int) rfl HM7.out ?_;intro w8 hm8 hg8 hs8;have HM8:=hZz hm8;have HB8:Hid (Below w.heap.size w w8):=hZz (HB7.out.grown hg8 HB7.out.size (fun k hk=>by injection hk with hk;omega));clear hm8 hg8 hs8)
   | (go_at_call 138;(with_reducible refine (arity_any _ _ s r w8 HM8.out (by rw [built_get];exact HR.out)).mono ?_);rintro e w99 ⟨rfl,hw99⟩;rw [hw99];clear hw99 w99))
 go_returns;exact ⟨rfl,HB8.out⟩
theorem host_get (s:ByteArray):alGet ((alSet (alSet (alSet (alSet (alSet (alSet (alSet (alSet (alSet (alSet [] (⟨#[103,101,116]⟩:ByteArray) (1:Int)) (⟨#[112,117,116]⟩:ByteArray) (2:Int)) (⟨#[100,101,108,101,116,101]⟩:ByteArray) (1:Int)) (⟨#[115,101,110,100]⟩:ByteArray) (2:Int)) (⟨#[116,105,109,101,114]⟩:ByteArray) (3:Int)) (⟨#[115,105,103,110,97,108]⟩:ByteArray) (2:Int)) (⟨#[115,101,99,114,101,116]⟩:ByteArray) (1:Int)) (⟨#[102,101,116,99,104]⟩:ByteArray) (2:Int)) (⟨#[110,111,119]⟩:ByteArray) (0:Int)) (⟨#[108,111,103]⟩:ByteArray) (1:Int)):List (ByteArray × Int)) s=lookL hostL s:=by
 simp only [alGet_set,alGet,lookL,hostL,List.lookup];simp only [eq_comm (b:=s),bytes_lit]
 repeat' (first | rfl | split | simp_all)
set_option maxHeartbeats 4000000 in
theorem host_any (s:ByteArray) (w:World):Calls prog 92 #[.string s] w fun e w'=>e=.returned (.tuple #[.int .i64 ((lookL hostL s).getD 0),.bool (lookL hostL s).isSome])∧Below w.heap.size w w':=by
 have hmm:=@run_makeMap prog;have HM0:=hZz (MapAt.new w Value.string (Value.int .i64));have HB0:=hZz (zacZ w (.map #[] 0));obtain ⟨r,hr⟩:∃ r,lookL hostL s=r:=⟨_,rfl⟩
 rw [hr];have HR:=hZz hr;clear hr;go_enter func92,ntmps92
 go_wp2_with (first
   | (refine zakZ rfl (.tmp 4) (.const (.string ⟨#[103,101,116]⟩)) (.const (.int .i64 1)) rfl Tryz.kStr underlying114 rfl (⟨#[103,101,116]⟩:ByteArray) rfl (1:Int) rfl HM0.out ?_;intro w1 hm1 hg1 hs1;have HM1:=hZz hm1;have HB1:Hid (Below w.heap.size w w1):=hZz (HB0.out.grown hg1 HB0.out.size (fun k hk=>by injection hk with hk;omega));clear hm1 hg1 hs1)
   | (refine zakZ rfl (.tmp 4) (.const (.string ⟨#[112,117,116]⟩)) (.const (.int .i64 2)) rfl Tryz.kStr underlying114 rfl (⟨#[112,117,116]⟩:ByteArray) rfl (2:Int) rfl HM1.out ?_;intro w2 hm2 hg2 hs2;have HM2:=hZz hm2;have HB2:Hid (Below w.heap.size w w2):=hZz (HB1.out.grown hg2 HB1.out.size (fun k hk=>by injection hk with hk;omega));clear hm2 hg2 hs2)
   | (refine zakZ rfl (.tmp 4) (.const (.string ⟨#[100,101,108,101,116,101]⟩)) (.const (.int .i64 1)) rfl Tryz.kStr underlying114 rfl (⟨#[100,101,108,101,116,101]⟩:ByteArray) rfl (1:Int) rfl HM2.out ?_;intro w3 hm3 hg3 hs3;have HM3:=hZz hm3;have HB3:Hid (Below w.heap.size w w3):=hZz (HB2.out.grown hg3 HB2.out.size (fun k hk=>by injection hk with hk;omega));clear hm3 hg3 hs3)
   | (refine zakZ rfl (.tmp 4) (.const (.string ⟨#[115,101,110,100]⟩)) (.const (.int .i64 2)) rfl Tryz.kStr underlying114 rfl (⟨#[115,101,110,100]⟩:ByteArray) rfl (2:Int) rfl HM3.out ?_;intro w4 hm4 hg4 hs4;have HM4:=hZz hm4;have HB4:Hid (Below w.heap.size w w4):=hZz (HB3.out.grown hg4 HB3.out.size (fun k hk=>by injection hk with hk;omega));clear hm4 hg4 hs4)
   | (refine zakZ rfl (.tmp 4) (.const (.string ⟨#[116,105,109,101,114]⟩)) (.const (.int .i64 3)) rfl Tryz.kStr underlying114 rfl (⟨#[116,105,109,101,114]⟩:ByteArray) rfl (3:Int) rfl HM4.out ?_;intro w5 hm5 hg5 hs5;have HM5:=hZz hm5;have HB5:Hid (Below w.heap.size w w5):=hZz (HB4.out.grown hg5 HB4.out.size (fun k hk=>by injection hk with hk;omega));clear hm5 hg5 hs5)
   | (refine zakZ rfl (.tmp 4) (.const (.string ⟨#[115,105,103,110,97,108]⟩)) (.const (.int .i64 2)) rfl Tryz.kStr underlying114 rfl (⟨#[115,105,103,110,97,108]⟩:ByteArray) rfl (2:Int) rfl HM5.out ?_;intro w6 hm6 hg6 hs6;have HM6:=hZz hm6;have HB6:Hid (Below w.heap.size w w6):=hZz (HB5.out.grown hg6 HB5.out.size (fun k hk=>by injection hk with hk;omega));clear hm6 hg6 hs6)
   | (refine zakZ rfl (.tmp 4) (.const (.string ⟨#[115,101,99,114,101,116]⟩)) (.const (.int .i64 1)) rfl Tryz.kStr underlying114 rfl (⟨#[115,101,99,114,101,116]⟩:ByteArray) rfl (1:Int) rfl HM6.out ?_;intro w7 hm7 hg7 hs7;have HM7:=hZz hm7;have HB7:Hid (Below w.heap.size w w7):=hZz (HB6.out.grown hg7 HB6.out.size (fun k hk=>by injection hk with hk;omega));clear hm7 hg7 hs7)
   | (refine zakZ rfl (.tmp 4) (.const (.string ⟨#[102,101,116,99,104]⟩)) (.const (.int .i64 2)) rfl Tryz.kStr underlying114 rfl (⟨#[102,101,116,99,104]⟩:ByteArray) rfl (2:Int) rfl HM7.out ?_;intro w8 hm8 hg8 hs8;have HM8:=hZz hm8;have HB8:Hid (Below w.heap.size w w8):=hZz (HB7.out.grown hg8 HB7.out.size (fun k hk=>by injection hk with hk;omega));clear hm8 hg8 hs8)
   | (refine zakZ rfl (.tmp 4) (.const (.string ⟨#[110,111,119]⟩)) (.const (.int .i64 0)) rfl Tryz.kStr underlying114 rfl (⟨#[110,111,119]⟩:ByteArray) rfl (0:Int) rfl HM8.out ?_;intro w9 hm9 hg9 hs9;have HM9:=hZz hm9;have HB9:Hid (Below w.heap.size w w9):=hZz (HB8.out.grown hg9 HB8.out.size (fun k hk=>by injection hk with hk;omega));clear hm9 hg9 hs9)
   | (refine zakZ rfl (.tmp 4) (.const (.string ⟨#[108,111,103]⟩)) (.const (.int .i64 1)) rfl Tryz.kStr underlying114 rfl (⟨#[108,111,103]⟩:ByteArray) rfl (1:Int) rfl HM9.out ?_;intro w10 hm10 hg10 hs10;have HM10:=hZz hm10;have HB10:Hid (Below w.heap.size w w10):=hZz (HB9.out.grown hg10 HB9.out.size (fun k hk=>by injection hk with hk;omega));clear hm10 hg10 hs10)
   | (go_at_call 138;(with_reducible refine (arity_any _ _ s r w10 HM10.out (by rw [host_get];exact HR.out)).mono ?_);rintro e w99 ⟨rfl,hw99⟩;rw [hw99];clear hw99 w99))
 go_returns;exact ⟨rfl,HB10.out⟩
end
end Go.Proofs.YthiimbhjpdphpaaGreatDoor
