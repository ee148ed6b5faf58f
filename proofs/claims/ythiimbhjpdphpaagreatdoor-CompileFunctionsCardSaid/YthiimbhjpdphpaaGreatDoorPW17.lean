/- W13, W14, W15, JB, JD, VA, W17 -/
import Derived.Test.YthiimbhjpdphpaaGreatDoorPW12
set_option linter.unusedVariables false
set_option linter.unusedSimpArgs false
namespace Go.Proofs.YthiimbhjpdphpaaGreatDoor
open Go.RowKit
set_option maxRecDepth 100000
set_option maxHeartbeats 8000000
open Go.Proofs.Tryz
section
theorem za7Y {w:World} {a b n size:Nat} {v:Value} {xs:List Value} {e:TypeId} (h:w.ownsRow b e size v n xs) (hab:a≤b):w.ownsRow a e size v n xs:=by
 obtain ⟨h1,h2⟩:=h;refine ⟨h1,h2.imp id (fun ⟨g,cap,cur,ev,eg,r⟩=>⟨g,cap,cur,ev,Nat.le_trans hab eg,r⟩)⟩
def InsO (n0:Nat) (w:World) (v:Value) (is:List InsD):Prop:=∃ N:List (InsD × Value),N.map Prod.fst=is∧w.ownsRow n0 53 4 v N.length (N.flatMap insRow)∧∀ p∈N,OKeys n0 w p
theorem InsO.nil (n0:Nat) (w:World):InsO n0 w (.slice none 0 0) []:=⟨[],rfl,⟨rfl,.inl ⟨rfl,rfl⟩⟩,fun p hp=>by cases hp⟩
theorem InsO.below {n0:Nat} {w w':World} {v:Value} {is:List InsD} (h:InsO n0 w v is) (hb:Below w.heap.size w w'):InsO n0 w' v is:=by
 obtain ⟨N,h1,h2,h3⟩:=h;exact ⟨N,h1,zahZ h2 hb,fun p hp=>zahZ (h3 p hp) hb⟩
theorem WrSt.insO {w0 w:World} {S:ProgS} {sA:Option Addr} {sn sc gW a:Nat} {e0:Int} {L:List (InsD × Value)} (h:WrSt w0 w S sA sn sc gW e0 L) (ha:a≤w0.heap.size):∃ iA ic,Blk w gW 67 #[.slice S.A S.p.nodes.length S.ncap,.slice S.B S.p.funcs.length S.fcap,.slice sA sn sc,.int .i64 e0,.slice iA L.length ic]∧InsO a w (.slice iA L.length ic) (L.map Prod.fst):=by
 obtain ⟨⟨iv,h1,h2⟩,h3,_,_⟩:=h;obtain ⟨iA,ic,rfl⟩:=zaiZ h2;exact ⟨iA,ic,h1,L,rfl,za7Y h2 ha,fun p hp=>za7Y (h3 p hp) ha⟩
def FunctionP (S:ProgS) (f e:Int) (w:World) (r:Ending) (w':World):Prop:=∃ v,r=.returned (.tuple #[v,.int .i64 (functionF S.p f e).2])∧InsO w.heap.size w' v (functionF S.p f e).1∧Below w.heap.size w w'
attribute [local go_sem] zabZ
theorem cfunction_s (S:ProgS) (f e:Int) (w:World) (hS:ProgV w S) (hp:Pow w) (hok:ProgOk S.p):Calls prog 19 #[S.val,.int .i64 f,.int .i64 e] w (FunctionP S f e w):=by
 obtain ⟨P,hP⟩:∃ P:Ending→World→Prop,FunctionP S f e w=P:=⟨_,rfl⟩
 rw [hP];have HP1:Hid (∀ w' er,functionF S.p f e=([],er)→Below w.heap.size w w'→P (.returned (.tuple #[.slice none 0 0,.int .i64 er])) w'):=hZz (fun w' er h h2=>by rw [← hP];exact ⟨_,by rw [h],by rw [h];exact InsO.nil _ _,h2⟩);have HP2:Hid (∀ w' v is,functionF S.p f e=(is,0)→InsO w.heap.size w' v is→Below w.heap.size w w'→P (.returned (.tuple #[v,.int .i64 0])) w'):=hZz (fun w' v is h h1 h2=>by rw [← hP];exact ⟨v,by rw [h],by rw [h];exact h1,h2⟩);obtain ⟨W1,hW1⟩:∃ W,w.alloc (.cells #[.slice S.A S.p.nodes.length S.ncap,.slice S.B S.p.funcs.length S.fcap] 25)=W:=⟨_,rfl⟩
 obtain ⟨g,hg⟩:∃ g,w.heap.size=g:=⟨_,rfl⟩
 have hb1:Below w.heap.size w W1:=by rw [← hW1];exact zacZ _ _
 have HB1:=hZz hb1;have HX1:Hid (Blk W1 g 25 #[.slice S.A S.p.nodes.length S.ncap,.slice S.B S.p.funcs.length S.fcap]):=hZz (by rw [← hW1,← hg];exact Blk.new _ _ _);have HC:Hid (Calls prog 26 #[S.val,.int .i64 e] W1 (StartP S W1 e)):=hZz (start_s S e W1 (hS.below hb1) (hp.below hb1) hok);have HFN:Hid (functionF S.p f e=if (studyF S.p).err≠0 then ([],(studyF S.p).err) else if f<0∨(S.p.funcs.length:Int)≤f∨e<0∨4000<e then ([],2) else (funcSeg S.p (studyF S.p).slots f.toNat e,0)):=hZz rfl;unfold ProgS.val at HC ⊢;have HG:=hZz hg;have HW1:=hZz hW1;clear hP hS hp hok hg hW1 hb1;go_enter func19,ntmps19
 go_upto_region 1 with fail
 rw [HG.out,HW1.out];clear HG HW1;have x1:=blk2 HX1.out
 go_upto_region 2 with (first
  | (go_at_call 26;(with_reducible refine HC.out.mono ?_);rintro r w2 hq;rcases hq with ⟨h0,rfl,hb2⟩ | ⟨h0,w0,sA,sc,gW,hb0,hcx,hst,rfl⟩))
 ·have HB2:=hZz (zaaZ hb2 HB1.out HB1.out.size)
  obtain ⟨er,her⟩:∃ x,(studyF S.p).err=x:=⟨_,rfl⟩
  rw [her] at h0 HFN ⊢;have e0:(er != 0)=true:=by simp [h0]
  have H0:=hZz h0;clear h0 her hb2;go_wp2_with (fail)
  exact HP1.out _ _ (by rw [HFN.out,if_pos H0.out]) HB2.out
 ·have HCX:=hZz hcx
  have HST:=hZz hst;have HB0:=hZz (zaaZ hb0 HB1.out HB1.out.size);have HB2:Hid (Below W1.heap.size W1 w2):=hZz (zaaZ hst.bl hb0 hb0.size);have HBW:=hZz (zaaZ HB2.out HB1.out HB1.out.size);have HFN2:Hid (functionF S.p f e=if f<0∨(S.p.funcs.length:Int)≤f∨e<0∨4000<e then ([],2) else (funcSeg S.p (studyF S.p).slots f.toNat e,0)):=hZz (by rw [HFN.out,if_neg (by rw [h0];simp)]);have HX2:=hZz (HX1.out.below HB2.out);generalize (studyF S.p).slots=sl at HCX HST HFN2;clear h0 hb0 hcx hst x1 HFN HC;have x2:=blk2 HX2.out;obtain ⟨nf,hnf⟩:∃ n,S.p.funcs.length=n:=⟨_,rfl⟩
  have HNF:=hZz hnf;rw [hnf] at x2 HFN2;clear hnf;by_cases e1:f<0
  ·go_wp2_with (fail)
   exact HP1.out _ _ (by rw [HFN2.out,if_pos (.inl e1)]) HBW.out
  by_cases e2:(nf:Int)≤f
  ·go_wp2_with (fail)
   exact HP1.out _ _ (by rw [HFN2.out,if_pos (.inr (.inl e2))]) HBW.out
  by_cases e3:e<0
  ·go_wp2_with (fail)
   exact HP1.out _ _ (by rw [HFN2.out,if_pos (.inr (.inr (.inl e3)))]) HBW.out
  by_cases e4:4000<e
  ·go_wp2_with (fail)
   exact HP1.out _ _ (by rw [HFN2.out,if_pos (.inr (.inr (.inr e4)))]) HBW.out
  obtain ⟨k,rfl⟩:∃ k:Nat,f=(k:Int):=⟨f.toNat,by omega⟩
  have hkl:k<S.p.funcs.length:=by rw [HNF.out];omega
  have HC2:=hZz (wfunc_s w0 S sA sc gW e sl HCX.out (by omega) k hkl [] w2 HST.out (by simp));have HFN3:Hid (functionF S.p k e=(funcSeg S.p sl k e,0)):=hZz (by rw [HFN2.out,if_neg (by omega),Int.toNat_natCast]);clear hkl HFN2
  go_upto_region 7 with (first
   | (go_at_call 28;(with_reducible refine HC2.out.mono ?_);rintro r w3 ⟨rfl,hw3⟩;have HW3:=hZz hw3;clear hw3))
  obtain ⟨N0,n0,_,s3,k3⟩:=HW3.out.st;obtain ⟨iA,ic,hbk,hio⟩:=s3.insO (a:=w.heap.size) HB0.out.size;have n0':N0.map Prod.fst=funcSeg S.p sl k e:=by rw [n0];simp
  rw [List.nil_append] at hbk hio;rw [n0'] at hio;have HIO:=hZz hio;have HB3:=hZz (zaaZ s3.bl HB0.out HB0.out.size);have y:=blkW hbk;clear n0 n0' s3 k3 hbk hio x2;generalize N0.length=ln at y HIO;go_wp2_with (fail)
  exact HP2.out _ _ _ HFN3.out HIO.out HB3.out
end
section
attribute [local go_sem] zabZ
theorem clength_s (S:ProgS) (w:World) (hS:ProgV w S) (hp:Pow w) (hok:ProgOk S.p):Calls prog 21 #[S.val] w fun r w'=>r=.returned (.tuple #[.int .i64 (lengthF S.p).1,.int .i64 (lengthF S.p).2])∧Below w.heap.size w w':=by
 obtain ⟨R,hR⟩:∃ R,lengthF S.p=R:=⟨_,rfl⟩
 rw [hR];obtain ⟨P,hP⟩:∃ P:Ending→World→Prop,(fun r w'=>r=.returned (.tuple #[.int .i64 R.1,.int .i64 R.2])∧Below w.heap.size w w')=P:=⟨_,rfl⟩
 rw [hP];have HP:Hid (∀ w' a b,R=(a,b)→Below w.heap.size w w'→P (.returned (.tuple #[.int .i64 a,.int .i64 b])) w'):=hZz (fun w' a b h h2=>by rw [← hP];exact ⟨by rw [h],h2⟩);have HR:Hid (R=if (studyF S.p).err≠0 then (0,(studyF S.p).err) else (((allSeg S.p (studyF S.p).slots S.p.funcs.length).length:Int),0)):=hZz hR.symm;obtain ⟨W1,hW1⟩:∃ W,w.alloc (.cells #[.slice S.A S.p.nodes.length S.ncap,.slice S.B S.p.funcs.length S.fcap] 25)=W:=⟨_,rfl⟩
 obtain ⟨g,hg⟩:∃ g,w.heap.size=g:=⟨_,rfl⟩
 have hb1:Below w.heap.size w W1:=by rw [← hW1];exact zacZ _ _
 have HB1:=hZz hb1;have HX1:Hid (Blk W1 g 25 #[.slice S.A S.p.nodes.length S.ncap,.slice S.B S.p.funcs.length S.fcap]):=hZz (by rw [← hW1,← hg];exact Blk.new _ _ _);have HC:Hid (Calls prog 26 #[S.val,.int .i64 0] W1 (StartP S W1 0)):=hZz (start_s S 0 W1 (hS.below hb1) (hp.below hb1) hok);unfold ProgS.val at HC ⊢;have HG:=hZz hg;have HW1:=hZz hW1;clear hP hR hS hp hok hg hW1 hb1;go_enter func21,ntmps21
 go_upto_region 1 with fail
 rw [HG.out,HW1.out];clear HG HW1;have x1:=blk2 HX1.out
 go_upto_region 2 with (first
  | (go_at_call 26;(with_reducible refine HC.out.mono ?_);rintro r w2 hq;rcases hq with ⟨h0,rfl,hb2⟩ | ⟨h0,w0,sA,sc,gW,hb0,hcx,hst,rfl⟩))
 ·have HB2:=hZz (zaaZ hb2 HB1.out HB1.out.size)
  obtain ⟨er,her⟩:∃ x,(studyF S.p).err=x:=⟨_,rfl⟩
  rw [her] at h0 HR ⊢;have e0:(er != 0)=true:=by simp [h0]
  have H0:=hZz h0;clear h0 her hb2;go_wp2_with (fail)
  exact HP.out _ _ _ (by rw [HR.out,if_pos H0.out]) HB2.out
 ·have HCX:=hZz hcx
  have HST:=hZz hst;have HB0:=hZz (zaaZ hb0 HB1.out HB1.out.size);have HB2:Hid (Below W1.heap.size W1 w2):=hZz (zaaZ hst.bl hb0 hb0.size);have HR2:Hid (R=(((allSeg S.p (studyF S.p).slots S.p.funcs.length).length:Int),0)):=hZz (by rw [HR.out,if_neg (by rw [h0];simp)]);have HX2:=hZz (HX1.out.below HB2.out);have hN:=hcx.syn.funcs;generalize (studyF S.p).slots=sl at HCX HST HR2;clear h0 hb0 hcx hst x1 HR HC;have x2:=blk2 HX2.out;obtain ⟨nf,hnf⟩:∃ n,S.p.funcs.length=n:=⟨_,rfl⟩
  have HNF:=hZz hnf;rw [hnf] at x2 HR2 hN;clear hnf;go_upto_region 4 with (fail)
  go_wp2_with (fail)
  go_loopw [6,18,19,20,21,22,23,24] (fun _ kv _ _ _ _ _ _ wr=>∃ (k:Nat) (L:List (InsD × Value)),k≤nf∧kv=.int .i64 k∧Hid (L.map Prod.fst=allSeg S.p sl k)∧Hid (WrSt w0 wr S sA sl.length sc gW 0 L)) (fun _ kv _ _ _ _ _ _ _=>nf - (intOf kv).toNat)
  case atStart=>exact ⟨0,[],Nat.zero_le _,rfl,hZz rfl,HST⟩
  case round =>
   obtain ⟨k,L,hk,rfl,HL,HS⟩:=hrel;have hk0:(0:Int)≤(k:Int):=by omega
   have hlen:L.length≤3632:=by
    have:=congrArg List.length HL.out
    rw [List.length_map] at this;rw [this];exact HCX.out.syn.all_le sl (by rw [HNF.out];exact hk)
   have hlL:(allSeg S.p sl k).length=L.length:=by rw [← HL.out,List.length_map]
   have HLL:=hZz hlL;have HLE:=hZz hlen;clear hlL hlen;by_cases hlt:k<nf
   ·have hlt':(k:Int)<(nf:Int):=by omega
    have HC2:=hZz (wfunc_s w0 S sA sc gW 0 sl HCX.out (by omega) k (by rw [HNF.out];exact hlt) L wr HS.out (by have:=HLE.out;omega))
    go_wp2_with (first
     | (go_at_call 28;(with_reducible refine HC2.out.mono ?_);rintro r w3 ⟨rfl,hw3⟩;have HW3:=hZz hw3;clear hw3))
    obtain ⟨N0,n0,_,s3,k3⟩:=HW3.out.st;refine ⟨⟨k+1,L ++ N0,by omega,by simp,hZz ?_,hZz s3⟩,by simp [intOf];omega⟩
    rw [List.map_append,HL.out,n0];simp only [allSeg];rw [HLL.out];congr 2
    omega
   ·have e9:nf=k:=by omega
    subst e9;obtain ⟨iA,ic,hbk,hio⟩:=HS.out.insO (a:=w.heap.size) HB0.out.size;have HB3:=hZz (zaaZ HS.out.bl HB0.out HB0.out.size);have y:=blkW hbk;have HR3:Hid (R=((L.length:Int),0)):=hZz (by rw [HR2.out,HLL.out]);clear hbk hio x2;generalize L.length=ln at y HR3;go_wp2_with (fail)
    exact HP.out _ _ _ HR3.out HB3.out
end
theorem keys_own {w:World} {n0:Nat} {x:InsD} {kv:Value} (h:OKeys n0 w (x,kv)):KeysV w kv x.keys:=by
 obtain ⟨A,cap,rfl⟩:∃ A cap,kv=.slice A x.keys.length cap:=zaiZ h
 refine ⟨A,cap,rfl,?_,SlAt.of_own h (map_strCs x.keys) (fun _=>rfl) (by decide)⟩
 rcases h.2 with ⟨e,e2⟩ | ⟨g,c,cur,e,_,_,hc,_⟩
 ·injection e with _ e3 e4
  have:x.keys.length=0:=e2
  omega
 ·injection e with _ _ e4
  have:x.keys.length≤c:=hc
  omega
theorem InsO.insV {n0:Nat} {w:World} {B:Option Addr} {n cap:Nat} {is:List InsD} (h:InsO n0 w (.slice B n cap) is):n=is.length∧InsV w B is:=by
 obtain ⟨N,rfl,h2,h3⟩:=h;obtain ⟨A,c,e⟩:=zaiZ h2;injection e with e1 e2 e3
 subst e1 e2 e3;refine ⟨by rw [List.length_map],N.map insRow,?_,by simp,?_⟩
 ·have hs:=SlAt.of_own (c:=insRow) (l:=N) h2 rfl (fun _=>rfl) (by decide)
  unfold SlAt at hs ⊢;rw [List.map_id'];exact hs
 ·intro k hk hk'
  have hkN:k<N.length:=by simpa using hk
  refine ⟨(N[k]).2,by simp [insRow],?_⟩
  have:=keys_own (h3 (N[k]) (List.getElem_mem hkN))
  simpa using this
section
def insV (x:InsD) (A:Option Addr) (c:Nat):Value:=.agg #[.int .i64 x.op,.int .i64 x.a,.string x.s,.slice A x.keys.length c]
attribute [local go_sem] zabZ
theorem same_s (x y:InsD) (A B:Option Addr) (c d:Nat) (w:World) (hx:SlAt w A 1 strCs x.keys) (hy:SlAt w B 1 strCs y.keys) (hxy:x=y) (hl:x.keys.length≤100000):Calls prog 24 #[insV x A c,insV y B d] w fun e w'=>e=.returned (.bool true)∧Below w.heap.size w w':=by
 subst hxy;obtain ⟨P,hP⟩:∃ P:Ending→World→Prop,(fun e w'=>e=.returned (.bool true)∧Below w.heap.size w w')=P:=⟨_,rfl⟩
 rw [hP];have HP:Hid (∀ w',Below w.heap.size w w'→P (.returned (.bool true)) w'):=hZz (fun w' h2=>by rw [← hP];exact ⟨rfl,h2⟩);have HX:=hZz hx;have HY:=hZz hy;unfold insV;generalize x.op=op;generalize x.a=xa;generalize x.s=xs;generalize x.keys=ks at HX HY hl ⊢;obtain ⟨n,hn⟩:∃ n,ks.length=n:=⟨_,rfl⟩
 have HN:=hZz hn;rw [hn] at hl ⊢;obtain ⟨g,hg⟩:∃ g,w.heap.size=g:=⟨_,rfl⟩
 obtain ⟨W1,hW1⟩:∃ W,w.alloc (.cells #[.int .i64 op,.int .i64 xa,.string xs,.slice A n c] 53)=W:=⟨_,rfl⟩
 obtain ⟨g2,hg2⟩:∃ g,W1.heap.size=g:=⟨_,rfl⟩
 obtain ⟨W2,hW2⟩:∃ W,W1.alloc (.cells #[.int .i64 op,.int .i64 xa,.string xs,.slice B n d] 53)=W:=⟨_,rfl⟩
 have hx1:Blk W1 g 53 #[.int .i64 op,.int .i64 xa,.string xs,.slice A n c]:=by rw [← hW1,← hg];exact Blk.new _ _ _
 have HX1:Hid (Blk W2 g 53 #[.int .i64 op,.int .i64 xa,.string xs,.slice A n c]):=hZz (by rw [← hW2];exact hx1.alloc _);have HY1:Hid (Blk W2 g2 53 #[.int .i64 op,.int .i64 xa,.string xs,.slice B n d]):=hZz (by rw [← hW2,← hg2];exact Blk.new _ _ _);have HB1:Hid (Below w.heap.size w W2):=hZz (by rw [← hW2,← hW1];exact za4Y _ _ _);have HG2:Hid (g+1=g2):=hZz (by rw [← hg2,← hW1,← hg];simp);have HW1:=hZz hW1;have HW2:=hZz hW2;have HG:=hZz hg;clear hP hx hy hn hg hW1 hg2 hW2 hx1;go_enter func24,ntmps24
 go_upto_region 1 with fail
 rw [HG.out,HW1.out]
 try rw [HG2.out]
 rw [HW2.out];clear HG HW1 HG2 HW2;have x1:=blk4n HX1.out;have y1:=blk4n HY1.out;go_upto_region 4 with (fail)
 go_loopw [5,37] (fun _ kv wr=>∃ k:Nat,k≤n∧kv=.int .i64 k∧Hid (Below W2.heap.size W2 wr)) (fun _ kv _=>n - (intOf kv).toNat)
 case atStart=>exact ⟨0,Nat.zero_le _,rfl,hZz (Below.refl _ _)⟩
 case round =>
  obtain ⟨k,hk,rfl,HB⟩:=hrel;have hk0:(0:Int)≤(k:Int):=by omega
  clear x1 y1;have x1:=blk4n (HX1.out.below HB.out);have y1:=blk4n (HY1.out.below HB.out);have HBw:=hZz (zaaZ HB.out HB1.out HB1.out.size);by_cases hlt:k<n
  ·have hlt':(k:Int)<(n:Int):=by omega
   have hkl:k<ks.length:=by rw [HN.out];exact hlt
   have hsx:=HX.out.below HBw.out;have hsy:=HY.out.below HBw.out;obtain ⟨s,hs⟩:∃ s,ks[k]=s:=⟨_,rfl⟩
   obtain ⟨b1,o1,rfl,_⟩:=hsx.ptr hkl;obtain ⟨b2,o2,rfl,_⟩:=hsy.ptr hkl;have c1:=hsx.cell0 hkl (v:=.string s) (by rw [hs];rfl);have c2:=hsy.cell0 hkl (v:=.string s) (by rw [hs];rfl);simp only [Nat.mul_one] at c1 c2;clear hsx hsy hs hkl;go_upto_region 6 with (fail)
   go_quiet (fail);go_wp2_with (fail)
   exact ⟨⟨k+1,by omega,by simp,hZz (zagZ HB.out _)⟩,by simp [intOf];omega⟩
  ·have e9:n=k:=by omega
   subst e9;go_wp2_with (fail)
   exact HP.out _ HBw.out
end
section
structure TextsOk (p:ProgD):Prop where
 node:∀ n∈p.nodes,n.text.size≤140737488351232∧∀ k∈n.keys,k.size≤140737488351232
 fn:∀ f∈p.funcs,f.name.size≤140737488351232∧∀ s∈f.params,s.size≤140737488351232
theorem SmallPr.ok {p:ProgD} (h:SmallPr p) (ht:TextsOk p):ProgOk p:=by
 refine ⟨⟨by have:=h.nodes;omega,fun n hn=>?_,ht.node⟩,by have:=h.funcs;omega,fun f hf=>?_⟩
 ·obtain ⟨i,hi,rfl⟩:=List.getElem_of_mem hn
  have:=h.node i hi
  omega
 ·obtain ⟨i,hi,rfl⟩:=List.getElem_of_mem hf
  have:=h.fn i hi
  exact ⟨(ht.fn _ hf).1,by omega,(ht.fn _ hf).2⟩
theorem SmallPr.keys {p:ProgD} (h:SmallPr p):∀ i,(p.at_ i).keys.length≤1000:=by
 intro i;by_cases hi:i<p.nodes.length
 ·have e:p.at_ i=p.nodes[i]:=zajZ hi _
  rw [e]
  have:=h.node i hi
  omega
 ·have e:p.at_ i=noNode:=by
   show p.nodes.getD i noNode=noNode;rw [List.getD_eq_getElem?_getD,List.getElem?_eq_none (by omega)];rfl
  rw [e];show (0:Nat)≤1000;omega
theorem InsO.shape {n0:Nat} {w:World} {v:Value} {is:List InsD} (h:InsO n0 w v is):∃ A c,v=.slice A is.length c:=by
 obtain ⟨N,rfl,h2,_⟩:=h;obtain ⟨A,c,rfl⟩:=zaiZ h2;exact ⟨A,c,by rw [List.length_map]⟩
theorem keys_sl {w:World} {n0:Nat} {x:InsD} {kv:Value} (h:OKeys n0 w (x,kv)):∃ A cap,kv=.slice A x.keys.length cap∧SlAt w A 1 strCs x.keys:=by
 obtain ⟨A,cap,rfl⟩:∃ A cap,kv=.slice A x.keys.length cap:=zaiZ h
 exact ⟨A,cap,rfl,SlAt.of_own h (map_strCs x.keys) (fun _=>rfl) (by decide)⟩
theorem InsO.at {n0:Nat} {w:World} {A:Option Addr} {m c:Nat} {is:List InsD} (h:InsO n0 w (.slice A m c) is) {k:Nat} (hk:k<is.length):∃ b off kA kc,A=some ⟨b,off,none⟩∧b<w.heap.size ∧
  w.cell? ⟨b,off+k * 4,none⟩=some (.int .i64 (is[k]).op)∧w.cell? ⟨b,off+k * 4+1,none⟩=some (.int .i64 (is[k]).a)∧w.cell? ⟨b,off+k * 4+2,none⟩=some (.string (is[k]).s)∧w.cell? ⟨b,off+k * 4+3,none⟩=some (.slice kA (is[k]).keys.length kc)∧SlAt w kA 1 strCs (is[k]).keys:=by
 obtain ⟨N,rfl,h2,h3⟩:=h;obtain ⟨A',c',e⟩:=zaiZ h2;injection e with e1 e2 e3
 subst e1 e2 e3;have hkN:k<N.length:=by simpa using hk
 have hs:=SlAt.of_own (c:=insRow) (l:=N) h2 rfl (fun _=>rfl) (by decide);obtain ⟨kA,kc,hkv,hks⟩:=keys_sl (h3 (N[k]) (List.getElem_mem hkN));have hkv:(N[k]).2=.slice kA (N[k]).1.keys.length kc:=hkv;obtain ⟨b,off,rfl,hb⟩:=hs.ptr hkN;have c0:=hs.cell0 hkN (v:=.int .i64 (N[k]).1.op) rfl;have c1:=hs.cell hkN (j:=1) (v:=.int .i64 (N[k]).1.a) rfl;have c2:=hs.cell hkN (j:=2) (v:=.string (N[k]).1.s) rfl;have c3:=hs.cell hkN (j:=3) (v:=(N[k]).2) rfl;rw [hkv] at c3;refine ⟨b,off,kA,kc,rfl,hb,?_⟩
 simp only [List.getElem_map];exact ⟨c0,c1,c2,c3,hks⟩
attribute [local go_sem] zabZ
end
section
theorem InsV.atK {w:World} {B:Option Addr} {l:List InsD} (h:InsV w B l) {k:Nat} (hk:k<l.length):∃ b off kA kc,B=some ⟨b,off,none⟩∧w.cell? ⟨b,off+k * 4,none⟩=some (.int .i64 l[k].op)∧w.cell? ⟨b,off+k * 4+1,none⟩=some (.int .i64 l[k].a)∧w.cell? ⟨b,off+k * 4+2,none⟩=some (.string l[k].s)∧w.cell? ⟨b,off+k * 4+3,none⟩=some (.slice kA l[k].keys.length kc)∧SlAt w kA 1 strCs l[k].keys:=by
 obtain ⟨b,off,kv,e,_,c0,c1,c2,c3,hk⟩:=h.at hk;obtain ⟨A,cap,rfl,_,hs⟩:=hk;exact ⟨b,off,A,cap,e,c0,c1,c2,c3,hs⟩
attribute [local go_sem] zabZ
theorem list_s (l:List InsD) (A B:Option Addr) (c d:Nat) (w:World) (hA:InsV w A l) (hB:InsV w B l) (hl:l.length≤100000) (hk:∀ i∈l,i.keys.length≤100000):Calls prog 13 #[.slice A l.length c,.slice B l.length d] w fun e w'=>e=.returned (.bool true)∧Below w.heap.size w w':=by
 obtain ⟨P,hP⟩:∃ P:Ending→World→Prop,(fun e w'=>e=.returned (.bool true)∧Below w.heap.size w w')=P:=⟨_,rfl⟩
 rw [hP];have HP:Hid (∀ w',Below w.heap.size w w'→P (.returned (.bool true)) w'):=hZz (fun w' h2=>by rw [← hP];exact ⟨rfl,h2⟩);have HA:=hZz hA;have HB:=hZz hB;have HK:=hZz hk;obtain ⟨n,hn⟩:∃ n,l.length=n:=⟨_,rfl⟩
 have HN:=hZz hn;rw [hn] at hl ⊢;have hnn:((n:Int) != (n:Int))=false:=by simp
 clear hP hA hB hk hn;go_enter func13,ntmps13
 go_upto_region 4 with (fail)
 try go_wp2_with (fail)
 clear hnn;go_loopw [5,13] (fun _ kv wr=>∃ k:Nat,k≤n∧kv=.int .i64 k∧Hid (Below w.heap.size w wr)) (fun _ kv _=>n - (intOf kv).toNat)
 case atStart=>exact ⟨0,Nat.zero_le _,rfl,hZz (Below.refl _ _)⟩
 case round =>
  obtain ⟨k,hk,rfl,HBw⟩:=hrel;have hk0:(0:Int)≤(k:Int):=by omega
  by_cases hlt:k<n
  ·have hlt':(k:Int)<(n:Int):=by omega
   have hkl:k<l.length:=by rw [HN.out];exact hlt
   obtain ⟨b1,o1,k1,q1,hA1,c0,c1,c2,c3,hs1⟩:=(HA.out.below HBw.out).atK hkl;obtain ⟨b2,o2,k2,q2,hA2,d0,d1,d2,d3,hs2⟩:=(HB.out.below HBw.out).atK hkl;subst hA1 hA2;have hkk:=HK.out _ (List.getElem_mem hkl);have HCS:=hZz (same_s l[k] l[k] k1 k2 q1 q2 wr.drew hs1 hs2 rfl hkk);unfold insV at HCS;obtain ⟨xo,hxo⟩:∃ x,l[k].op=x:=⟨_,rfl⟩
   obtain ⟨xa,hxa⟩:∃ x,l[k].a=x:=⟨_,rfl⟩
   obtain ⟨xs,hxs⟩:∃ x,l[k].s=x:=⟨_,rfl⟩
   obtain ⟨xk,hxk⟩:∃ x,l[k].keys.length=x:=⟨_,rfl⟩
   rw [hxo] at c0 d0 HCS;rw [hxa] at c1 d1 HCS;rw [hxs] at c2 d2 HCS;rw [hxk] at c3 d3 HCS;clear hs1 hs2 hkk hxo hxa hxs hxk hkl;go_upto_region 6 with (fail)
   go_still_tail 8,(by kernel_rfl)
   change wpList _ _ _ _ _ wr.drew
   clear c0 c1 c2 c3 d0 d1 d2 d3
   go_wp2_with (first
    | (go_at_call 24;((refine HCS.out.mono ?_);rintro e w3 ⟨rfl,hb3⟩;have HB3:=hZz (zaaZ hb3 HBw.out.drew HBw.out.size);clear hb3))
    )
   exact ⟨⟨k+1,by omega,by simp,HB3⟩,by simp [intOf];omega⟩
  ·have e9:k=n:=by omega
   subst e9;go_wp2_with (fail)
   exact HP.out _ HBw.out
end
structure KC (n0 gC:Nat) (w w':World):Prop where
 os:w'.os=w.os
 tape:w'.tape=w.tape
 output:w'.output=w.output
 size:w.heap.size≤w'.heap.size
 low:∀ j,j<n0→w'.heap[j]? = w.heap[j]?
 typ:∀ (g:Nat) (o:Obj),w.heap[g]? = some o→g≠gC→(∀ cs fr,o≠Obj.cells cs 50 fr)→w'.heap[g]? = some o
theorem KC.blk {n0 gC g:Nat} {t:TypeId} {cs:Array Value} {w w':World} (h:KC n0 gC w w') (hB:Blk w g t cs) (hg:g≠gC) (ht:t≠50):Blk w' g t cs :=
 h.typ g _ hB hg (fun cs' fr e=>by injection e with _ e _;exact ht e)
theorem KC.own {n0 gC base n size:Nat} {v:Value} {xs:List Value} {e t:TypeId} {cs:Array Value} {w w':World} (h:KC n0 gC w w') (hC:Blk w gC t cs) (het:t≠e) (he:e≠50) (ho:w.ownsRow base e size v n xs):w'.ownsRow base e size v n xs:=by
 obtain ⟨e1,e2⟩:=ho;refine ⟨e1,e2.imp id (fun ⟨g,cap,cur,ev,eg,eh,e4⟩=>⟨g,cap,cur,ev,eg,?_,e4⟩)⟩
 refine h.typ g _ eh (fun e9=>?_) (fun cs' fr e9=>by injection e9 with _ e9 _;exact he e9)
 subst e9;unfold Blk at hC;rw [hC] at eh;injection eh with eh
 injection eh with _ e9 _
 exact het e9
theorem WrSt.kc {w0 w w':World} {S:ProgS} {sA:Option Addr} {sn sc gW gC:Nat} {e0:Int} {L:List (InsD × Value)} {cs:Array Value} (h:WrSt w0 w S sA sn sc gW e0 L) (hk:KC w0.heap.size gC w w') (hC:Blk w gC 31 cs) (hne:gW≠gC):WrSt w0 w' S sA sn sc gW e0 L:=by
 obtain ⟨⟨iv,h1,h2⟩,h3,h4,h5⟩:=h;refine ⟨⟨iv,hk.blk h1 hne (by decide),hk.own hC (by decide) (by decide) h2⟩,fun p hp=>hk.own hC (by decide) (by decide) (h3 p hp),?_,h5⟩
 exact ⟨hk.os.trans h4.os,hk.tape.trans h4.tape,hk.output.trans h4.output,Nat.le_trans h4.size hk.size,fun j hj=>(hk.low j hj).trans (h4.block j hj)⟩
theorem KC.refl (n0 gC:Nat) (w:World):KC n0 gC w w:=⟨rfl,rfl,rfl,Nat.le_refl _,fun _ _=>rfl,fun _ _ h _ _=>h⟩
theorem KC.trans {n0 gC:Nat} {a b c:World} (h:KC n0 gC a b) (k:KC n0 gC b c):KC n0 gC a c :=
 ⟨k.os.trans h.os,k.tape.trans h.tape,k.output.trans h.output,Nat.le_trans h.size k.size,fun j hj=>(k.low j hj).trans (h.low j hj),fun g o h1 h2 h3=>k.typ g o (h.typ g o h1 h2 h3) h2 h3⟩
theorem KC.setC {n0 gC:Nat} {a b:World} (h:KC n0 gC a b) (hn:n0≤gC) (i:Nat) (u:Value):KC n0 gC a (b.setCell ⟨gC,i,none⟩ u) :=
 h.trans ⟨rfl,rfl,rfl,by simp,fun j hj=>Below.heap_setCell b _ u j (by show j≠gC;omega),fun g o h1 h2 _=>(Below.heap_setCell b _ u g h2).trans h1⟩
theorem KC.grown {n0 gC base n:Nat} {v:Value} {xs:List Value} {a b c:World} (h:KC n0 gC a b) (ho:b.ownsRow base 50 5 v n xs) (hn:n0≤base) (hs:n0≤b.heap.size) (hg:b.grownBy c v.ownBlock):KC n0 gC a c:=by
 refine h.trans ⟨hg.os,hg.tape,hg.output,hg.size,fun j hj=>?_,fun q o h1 h2 h3=>?_⟩
 ·exact hg.block j (by omega) (fun e=>by have:=(ho.lt j e.symm).1;omega)
 ·refine (hg.block q (lt_of_block h1) (fun e=>?_)).trans h1
  obtain ⟨_,h4⟩:=ho;rcases h4 with ⟨rfl,_⟩ | ⟨g',cap',cur,rfl,eb,eh,_⟩
  ·cases e
  ·injection e with e
   subst e;rw [eh] at h1;injection h1 with h1
   exact h3 _ _ h1.symm
theorem KW.ownR {n0 gW base n size:Nat} {v:Value} {xs:List Value} {e t:TypeId} {cs:Array Value} {w w':World} (h:KW n0 gW w w') (hW:Blk w gW t cs) (ht:t≠e) (he:e≠53) (ho:w.ownsRow base e size v n xs):w'.ownsRow base e size v n xs:=by
 obtain ⟨e1,e2⟩:=ho;refine ⟨e1,e2.imp id (fun ⟨g,cap,cur,ev,eg,eh,e4⟩=>⟨g,cap,cur,ev,eg,?_,e4⟩)⟩
 refine h.typ g _ eh (fun e9=>?_) (fun cs' fr e9=>by injection e9 with _ e9 _;exact he e9)
 subst e9;unfold Blk at hW;rw [hW] at eh;injection eh with eh
 injection eh with _ e9 _
 exact ht e9
end Go.Proofs.YthiimbhjpdphpaaGreatDoor
