/- RO7, RO8, RO9, RO10, RO11, RO12 -/
import Derived.Test.YtekdhlfapejijaaGreatDoorPRO6
import Derived.Test.YtekdhlfapejijaaGreatDoorPE36
set_option linter.unusedVariables false
set_option linter.unusedSimpArgs false
namespace Go.Proofs.YtekdhlfapejijaaGreatDoor
open Go.RowKit
set_option maxRecDepth 100000
set_option maxHeartbeats 8000000
open Go.Proofs.Tryz
section
attribute [local go_sem] zacZ
set_option maxHeartbeats 16000000 in
theorem fkeys_any (l:ValD) (v:Value) (w:World) (h:ValV w v l) (hp:Pow w) (ho:OkV l) :
  Calls prog 108 #[v] w (RetK w (keysOf l)):=by
 obtain ⟨P,hP⟩:∃ P:Ending→World→Prop,RetK w (keysOf l)=P:=⟨_,rfl⟩
 rw [hP];have HP:=hZz hP;obtain ⟨A,cap,rfl,hcp,hm,hs⟩:=h.at;have HCK0:=zarY l A cap w hs hp ho.1 ho.2;by_cases hck:checkF l=0
 case neg =>
  have HR:Hid (keysOf l=([],checkF l)):=hZz (by unfold keysOf;rw [if_pos hck]);obtain ⟨ck,hc⟩:∃ c,checkF l=c:=⟨_,rfl⟩
  obtain ⟨n,hn⟩:∃ n,l.length=n:=⟨_,rfl⟩
  rw [hc] at HCK0 HR hck;rw [hn] at HCK0 ⊢;have HCK:=hZz HCK0;have hck':(ck != 0)=true:=by simpa using hck
  clear hck h hp ho hP hc HCK0 hs hcp hm hn;go_enter func108,ntmps108
  go_wp2_with (first
   | (go_at_call 34;((with_reducible refine HCK.out.mono ?_);rintro e w1 ⟨rfl,hb1⟩;have HB1:=hZz hb1;clear hb1)))
  rw [← HP.out];rw [HR.out];exact ⟨.slice none 0 0,rfl,World.ownsRow_nil _ _ _ _,HB1.out⟩
 obtain ⟨c,r,rfl⟩:∃ c r,l=c :: r:=by
  cases l with
  | nil=>exact absurd rfl (zaoZ hck)
  | cons c r=>exact ⟨c,r,rfl⟩
 rw [hck] at HCK0;obtain ⟨b,off,n',cap',e,hn',c0,c1,c2,c3⟩:=zanZ h;injection e with e1 e2 e3
 subst e1 e2 e3;have HC0:=hZz c0;have HC3:=hZz c3;by_cases hk:c.kind=6
 case neg =>
  have HR:Hid (keysOf (c :: r)=([],7)):=hZz (by unfold keysOf;rw [if_neg (by simpa using hck)];simp only;rw [if_neg hk]);have k6:¬ c.kind=6:=hk;obtain ⟨k,i,s,nn⟩:=c;dsimp only at k6 HC0;have k6':(k != 6)=true:=by simpa using k6
  have hpos:(0:Int)<((((⟨k,i,s,nn⟩:CellD) :: r).length:Nat):Int):=by simp
  obtain ⟨N,hN⟩:∃ N,((⟨k,i,s,nn⟩:CellD) :: r).length=N:=⟨_,rfl⟩
  rw [hN] at HCK0 hpos ⊢;have HCK:=hZz HCK0;clear hck h hp ho hP HCK0 hs hcp hm hn' hk k6 c0 c1 c2 c3 hN;go_enter func108,ntmps108
  go_wp2_with (first
   | (go_at_call 34;((with_reducible refine HCK.out.mono ?_);rintro e w1 ⟨rfl,hb1⟩;have HB1:=hZz hb1;have d0:=zaiZ HC0.out hb1;clear hb1)))
  rw [← HP.out];rw [HR.out];exact ⟨.slice none 0 0,rfl,World.ownsRow_nil _ _ _ _,HB1.out⟩
 have hR:keysOf (c :: r)=((partsOf (c :: r)).map (fun p:ByteArray × ValD=>p.1),0):=by
  unfold keysOf;rw [if_neg (by simpa using hck)];simp only;rw [if_pos hk]
 have HR:=hZz hR;have hsm:∀ x∈c :: r,SmallC x:=fun x hx=>zabY (ho.2 x hx)
 obtain ⟨q1,q2,q3,_⟩:=zacY hck hsm (c:=c) rfl (.inr hk);have hpl:=zagY ho hck (.inr hk);obtain ⟨_,_,_,_,_,hl200,_⟩:=checkF_zero.1 hck;obtain ⟨L,hL⟩:∃ L,c :: r=L:=⟨_,rfl⟩
 have HNX:Hid (NextFrom L (some ⟨b,off,none⟩) cap 0):=hZz (by rw [← hL];exact zbnY (c :: r) (some ⟨b,off,none⟩) cap ho.1 (fun x hx=>(ho.2 x hx).c6));have HSL:Hid (SlAt w (some ⟨b,off,none⟩) 4 CellD.cells L):=hZz (by rw [← hL];exact hs);have HL1:Hid (L.length≤200):=hZz (by rw [← hL];exact hl200);obtain ⟨ps,hps⟩:∃ x,partsOf (c :: r)=x:=⟨_,rfl⟩
 rw [hps] at q1 q3 hpl hR HR;rw [hL] at q3 HR HCK0 HP ⊢;obtain ⟨N,hN⟩:∃ x,ps.length=x:=⟨_,rfl⟩
 have hcn:c.n=(N:Int):=by omega
 have HN:=hZz hN;rw [hcn] at HC3;have hN200:N≤200:=by omega
 obtain ⟨nL,hnL⟩:∃ x,L.length=x:=⟨_,rfl⟩
 have hpos:(0:Int)<(nL:Int):=by rw [← hnL,← hL];simp
 rw [hnL] at HCK0 HL1 q3 ⊢;have HNL:=hZz hnL;rw [hk,show decide ((6:Int)=6)=true from rfl] at q3;have HQ3:=hZz q3;have HCK:=hZz HCK0;obtain ⟨i1,hj,hy0,hy1,hy2⟩:=info_parts Tryz.infoStrE;rw [hk] at HC0;clear hck h hp ho hP HCK0 hs hcp hm hn' hk c0 c1 c2 c3 q1 q2 q3 hsm hpl hl200 hL hps hN hcn hnL hR;go_enter func108,ntmps108
 go_upto_region 9 with (first
  | (go_at_call 34;((with_reducible refine HCK.out.mono ?_);rintro e w1 ⟨rfl,hb1⟩;have HB1:=hZz hb1;have d0:=zaiZ HC0.out hb1;clear hb1)))
 clear d0;go_loopw [5,6,7] (fun ov av kv wr=>∃ (a:Nat) (dn td:List (ByteArray × ValD)),dn ++ td=ps∧kv=.int .i64 (dn.length:Nat)∧av=.int .i64 (a:Nat)∧Hid (ChainV L true 7 4000 a td nL)∧Hid (wr.ownsRow w.heap.size 9 1 ov dn.length ((dn.map (fun p:ByteArray × ValD=>p.1)).map Value.string))∧Hid (Below w.heap.size w wr)) (fun _ _ kv _=>N - (intOf kv).toNat)
 case atStart=>exact ⟨1,[],ps,rfl,rfl,rfl,HQ3,hZz (World.ownsRow_nil _ _ _ _),HB1⟩
 case round =>
  obtain ⟨a,dn,td,hdt,rfl,rfl,HCH,HV,HB⟩:=hrel;have HDT:=hZz hdt;obtain ⟨K,hK⟩:∃ x,dn.length=x:=⟨_,rfl⟩
  have HK:=hZz hK;have hKN:K+td.length=N:=by rw [← HN.out,← hdt,List.length_append,hK]
  rw [hK] at HV ⊢;have d3:=zaiZ HC3.out HB.out;have hK0:(0:Int)≤(K:Int):=by omega
  have hK200:K≤200:=by omega
  clear hdt hK;cases td with
  | nil =>
   have e:K=N:=by simpa using hKN
   subst e;have HE:Hid (dn=ps):=hZz (by have:=HDT.out;simpa using this);clear hKN;go_wp2_with (fail)
   rw [← HP.out,HR.out,← HE.out];exact ⟨_,rfl,by rw [List.length_map,HK.out];exact HV.out,HB.out⟩
  | cons p td' =>
   have hlt:K<N:=by simp only [List.length_cons] at hKN;omega
   have hlt':(K:Int)<(N:Int):=by omega
   obtain ⟨j,g1,g2,g3,g4,g5,g6⟩:=ChainV.at_le (v:=L) (by rw [HNL.out];exact HCH.out);obtain ⟨cc,gc,ge⟩:=g6 rfl;rw [HNL.out] at g3 g5;have g1:px L (a+1)=some j:=g1;have g4:(a+1)≤j.j:=g4;have haL:a<L.length:=by rw [HNL.out];omega
   have ha0:(0:Int)≤(a:Int):=by omega
   have haN:(a:Int)<(nL:Int):=by omega
   have d2:=(HSL.out.below HB.out).cell (n:=a) haL (j:=2) (v:=.string p.1) (by rw [ge,(List.getElem?_eq_some_iff.1 gc).2];rfl);have hw1:IntKind.i64.wrap ((a:Int)+1)=(a:Int)+1:=IntWalk.i64_in _ (by have:=HL1.out;omega)
   have HNX2:Hid (∀ wx,Below w.heap.size w wx→Calls prog 113 #[.slice (some ⟨b,off,none⟩) nL cap,.int .i64 ((a:Int)+1)] wx fun e w'=>e=.returned (.int .i64 (j.j:Nat))∧Below wx.heap.size wx w'):=hZz (fun wx hb=>by
    have:=HNX.out (a+1) (Nat.zero_le _) (by rw [HNL.out];omega) wx (HSL.out.below hb)
    rw [g1,HNL.out] at this;exact this)
   obtain ⟨oA,oc,hov⟩:=zaeZ HV.out;subst hov;have HG3:=hZz g3;have HBS:Hid (w.heap.size≤wr.heap.size):=hZz HB.out.size;obtain ⟨jj,hjj⟩:∃ x,j.j=x:=⟨_,rfl⟩
   rw [hjj] at HNX2 HG3;obtain ⟨ps1,hps1⟩:∃ x,p.1=x:=⟨_,rfl⟩
   rw [hps1] at d2;have HPS:=hZz hps1;clear g1 g2 g3 g4 g5 g6 gc ge haL hKN hjj hps1
   go_wp2_with (first
    | (at_builtin;refine zakZ rfl (.tmp 26) (.tmp 32) 68 rfl i1 _ 16 underlying68 hj hy0 hy1 hy2 rfl (by omega) rfl HV.out [.string ps1] rfl rfl (by simp [Value.oneCell']) (by omega) (by omega) HBS.out ?_;intro v4 w4 hown4 hb4 hs4 hg4;have HO4:=hZz hown4;have HB4:=hZz (HB.out.trans hb4);clear hown4 hb4 hs4 hg4)
    | (go_at_call 113;((with_reducible refine (HNX2.out _ HB4.out).mono ?_);rintro e w5 ⟨rfl,hb5⟩;have HB5:=hZz (zadZ hb5 HB4.out);have HO5:=hZz (zajZ HO4.out hb5);clear hb5)))
   refine ⟨⟨jj,dn ++ [p],td',by rw [List.append_assoc];exact HDT.out,by rw [List.length_append,HK.out];rfl,rfl,HG3,hZz ?_,HB5⟩,by simp [intOf];omega⟩
   rw [List.map_append,List.map_append,List.length_append,HK.out,show List.map Value.string (List.map (fun p:ByteArray × ValD=>p.1) [p])=[.string ps1] from by rw [← HPS.out];rfl];exact HO5.out
end
section
def RetV (w:World) (r:ResD) (e:Ending) (w':World):Prop:=∃ u,e=.returned (.tuple #[u,.int .i64 r.2])∧ValV w' u r.1∧Below w.heap.size w w'
theorem own_at0 {w:World} {base n:Nat} {e:TypeId} {v:Value} {xs:List Value} (h:w.ownsRow base e 1 v n xs) (k:Nat) (hk:k<n) (hl:xs.length=n):∃ g cap x,v=.slice (some ⟨g,0,none⟩) n cap∧w.cell? ⟨g,k,none⟩=some x∧xs[k]? = some x:=by
 obtain ⟨g,cap,rfl,_,_⟩:=h.form (by omega);have hx:xs[k]? = some xs[k]:=List.getElem?_eq_getElem (by omega);refine ⟨g,cap,xs[k],rfl,?_,hx⟩
 have:=h.cells (g:=g) rfl k xs[k] hx
 rwa [zanY,Nat.zero_add] at this
theorem vals_at0 {w:World} {base:Nat} {v:Value} {l:List ValD} (h:ValsO w base v l) (k:Nat) (hk:k<l.length):∃ g cap x,v=.slice (some ⟨g,0,none⟩) l.length cap∧w.cell? ⟨g,k,none⟩=some x∧ValT w x (l.getD k []):=by
 obtain ⟨vs,h1,h2,h3⟩:=h;obtain ⟨g,cap,rfl,_,_⟩:=h1.form (by omega);have hkv:k<vs.length:=by omega
 refine ⟨g,cap,vs[k],rfl,?_,?_⟩
 ·have:=h1.cells (g:=g) rfl k vs[k] (by rw [List.getElem?_eq_getElem hkv])
  rwa [zanY,Nat.zero_add] at this
 ·rw [List.getD_eq_getElem?_getD,List.getElem?_eq_getElem hk,Option.getD_some]
  exact h3 k hkv hk
theorem getF_err {l:ValD} {key:ByteArray} (h:(keysOf l).2≠0):getR l key=([],(keysOf l).2):=by
 unfold getR;unfold keysOf at h ⊢;by_cases hc:checkF l=0
 ·rw [if_neg (not_not_intro hc)] at h ⊢
  rw [if_neg (not_not_intro hc)];cases l with
  | nil=>rfl
  | cons c r =>
   simp only at h ⊢;by_cases hk:c.kind=6
   ·rw [if_pos hk] at h;exact absurd rfl h
   ·rw [if_neg hk,if_pos hk]
 ·rw [if_pos hc,if_pos hc]
theorem getF_ok {l:ValD} {key:ByteArray} (h:(keysOf l).2=0):checkF l=0∧∃ ps:List (ByteArray × ValD),ps.length≤200∨True:=⟨by
 unfold keysOf at h;by_cases hc:checkF l=0
 ·exact hc
 ·rw [if_pos hc] at h;exact absurd h hc,[],.inr trivial⟩
attribute [local go_sem] zacZ
set_option maxHeartbeats 16000000 in
theorem fget_any (l:ValD) (v:Value) (key:ByteArray) (w:World) (h:ValV w v l) (hp:Pow w) (ho:OkV l) :
  Calls prog 64 #[v,.string key] w (RetV w (getR l key)):=by
 obtain ⟨P,hP⟩:∃ P:Ending→World→Prop,RetV w (getR l key)=P:=⟨_,rfl⟩
 rw [hP];have HP:=hZz hP;have HK0:=fkeys_any l v w h hp ho;by_cases hck:(keysOf l).2=0
 case neg =>
  have HR:=hZz (getF_err (key:=key) hck);obtain ⟨kk,hkk⟩:∃ x,keysOf l=x:=⟨_,rfl⟩
  rw [hkk] at HK0 HR hck;obtain ⟨ks,e⟩:=kk;dsimp only at HR hck;have HK:Hid (Calls prog 108 #[v] w fun e1 w'=>∃ ov,e1=.returned (.tuple #[ov,.int .i64 e])∧Below w.heap.size w w'):=hZz (HK0.mono fun e1 w' ⟨ov,a,b,c⟩=>⟨ov,a,c⟩);have hck':(e != 0)=true:=by simpa using hck
  clear hck HK0 h hp ho hP hkk;go_enter func64,ntmps64
  go_wp2_with (first
   | (go_at_call 108;((with_reducible refine HK.out.mono ?_);rintro e1 w1 ⟨ov,rfl,hb1⟩;have HB1:=hZz hb1;clear hb1)))
  rw [← HP.out,HR.out];exact ⟨.slice none 0 0,rfl,RowsV.nil none 0,HB1.out⟩
 have hc0:=(getF_ok (key:=key) hck).1
 obtain ⟨c,r,rfl⟩:∃ c r,l=c :: r:=by
  cases l with
  | nil=>exact absurd rfl (zaoZ hc0)
  | cons c r=>exact ⟨c,r,rfl⟩
 have hk:c.kind=6:=by
  by_cases hk:c.kind=6
  ·exact hk
  ·unfold keysOf at hck
   rw [if_neg (not_not_intro hc0)] at hck;simp only at hck;rw [if_neg hk] at hck;exact absurd hck (by decide)
 have hKO:keysOf (c :: r)=((partsOf (c :: r)).map (fun p:ByteArray × ValD=>p.1),0):=by
  unfold keysOf;rw [if_neg (not_not_intro hc0)];simp only;rw [if_pos hk]
 have hIT:=za9Y hc0 (.inr hk);have HIT:Hid (∀ wx,Below w.heap.size w wx→Calls prog 63 #[v] wx (RetL wx (itemsR (c :: r)))):=hZz (fun wx hb=>zc7Y _ _ wx (h.below hb) (hp.below hb) ho)
 have hR:getR (c :: r) key=(match findK (partsOf (c :: r)) key with | none=>([],5) | some y=>(y,0)):=by
  unfold getR;rw [if_neg (not_not_intro hc0)];simp only;rw [if_neg (not_not_intro hk)];cases findK (partsOf (c :: r)) key <;> rfl
 have hpl:=zagY ho hc0 (.inr hk);obtain ⟨ps,hps⟩:∃ x,partsOf (c :: r)=x:=⟨_,rfl⟩
 rw [hps] at hKO hIT hR hpl;rw [hIT] at HIT;rw [hKO] at HK0;have HR:=hZz hR;obtain ⟨BR,hBR⟩:∃ x,getR (c :: r) key=x:=⟨_,rfl⟩
 rw [hBR] at HR HP;obtain ⟨N,hN⟩:∃ x,ps.length=x:=⟨_,rfl⟩
 have HN:=hZz hN;have hN200:N≤200:=by have:=hpl;omega
 have HK:Hid (Calls prog 108 #[v] w fun e1 w'=>∃ kA kc,e1=.returned (.tuple #[.slice kA N kc,.int .i64 0])∧w'.ownsRow w.heap.size 9 1 (.slice kA N kc) N ((ps.map (fun p:ByteArray × ValD=>p.1)).map Value.string)∧Below w.heap.size w w'):=hZz (HK0.mono fun e1 w' ⟨ov,a,b,c⟩=>by
  obtain ⟨kA,kc,rfl⟩:=zaeZ b;rw [show (List.map (fun p:ByteArray × ValD=>p.1) ps).length=N from by rw [List.length_map,hN]] at a b;exact ⟨kA,kc,a,b,c⟩)
 clear hck hc0 h hp ho hP hk hKO hIT hR hpl hps hBR HK0 hN;go_enter func64,ntmps64
 go_wp2_with (first
  | (go_at_call 108;((with_reducible refine HK.out.mono ?_);rintro e1 w1 ⟨kA,kc,rfl,hk1,hb1⟩;have HB1:=hZz hb1;have HKS:=hZz hk1;clear hb1 hk1))
  | (go_at_call 63;((with_reducible refine (HIT.out _ HB1.out).mono ?_);rintro e2 w2 ⟨iv,rfl,hi2,hb2⟩;have HB2:=hZz (zadZ hb2 HB1.out);have HKS2:=hZz (zajZ HKS.out hb2);have HIS:=hZz hi2;clear hb2 hi2)))
 obtain ⟨gI,cI,hiv⟩:∃ gI cI,iv=.slice gI N cI:=by
  obtain ⟨A,cap,e⟩:=HIS.out.shape;rw [List.length_map,HN.out] at e;exact ⟨A,cap,e⟩
 subst hiv;go_loopw [10] (fun kv wr=>∃ (K:Nat),kv=.int .i64 (K:Nat)∧K≤N∧Hid (∀ i (_:i<K) (h:i<ps.length),ps[i].1≠key)∧Hid (Below w2.heap.size w2 wr)) (fun kv _=>N - (intOf kv).toNat)
 case atStart=>exact ⟨0,rfl,Nat.zero_le _,hZz (fun i h=>absurd h (Nat.not_lt_zero _)),hZz (Below.refl _ _)⟩
 case round =>
  obtain ⟨K,rfl,hKN,HNE,HB⟩:=hrel;have hK0:(0:Int)≤(K:Int):=by omega
  by_cases hlt:K<N
  case neg =>
   have e:K=N:=by omega
   subst e;have HF:Hid (findK ps key=none):=hZz (findK_none (fun i hi=>HNE.out i (by have:=HN.out;omega) hi));clear hKN hlt;go_wp2_with (fail)
   rw [← HP.out,HR.out,HF.out];exact ⟨.slice none 0 0,rfl,RowsV.nil none 0,zadZ HB.out HB2.out⟩
  have hlt':(K:Int)<(N:Int):=by omega
  have hKp:K<ps.length:=by have:=HN.out;omega
  obtain ⟨g,cap,x,e1,hx,hx2⟩:=own_at0 (zajZ HKS2.out HB.out) K hlt (by rw [List.length_map,List.length_map,HN.out]);injection e1 with e1 e2 e3
  subst e1 e3
  have hx3:x=.string ps[K].1:=by
   rw [List.getElem?_map,List.getElem?_map,List.getElem?_eq_getElem hKp] at hx2;exact (Option.some.inj hx2).symm
  subst hx3;by_cases hkey:ps[K].1=key
  ·have HF:Hid (findK ps key=some ps[K].2):=hZz (zc8Y hKp HNE.out hkey)
   obtain ⟨g',cap',u,e4,hu,hv⟩:=vals_at0 (HIS.out.below HB.out) K (by rw [List.length_map];exact hKp);rw [List.length_map,HN.out] at e4;injection e4 with e4 e5 e6
   subst e4 e6
   have HV:Hid (ValV wr u ps[K].2):=hZz (by
    have h:=hv.1;rw [List.getD_eq_getElem?_getD,List.getElem?_map,List.getElem?_eq_getElem hKp] at h;exact h)
   have hst:(ps[K].1.toList == key.toList)=true:=by rw [hkey];simp
   obtain ⟨kk,hkk⟩:∃ y,ps[K].1=y:=⟨_,rfl⟩
   obtain ⟨yy,hyy⟩:∃ y,ps[K].2=y:=⟨_,rfl⟩
   rw [hkk] at hx hst;rw [hyy] at HF HV;clear hv hkey hkk hyy hKp hx2;go_wp2_with (fail)
   rw [← HP.out,HR.out,HF.out];exact ⟨u,rfl,HV.out,zadZ HB.out HB2.out⟩
  ·have hst:(ps[K].1.toList == key.toList)=false:=by
    rw [zbfY];simpa using hkey
   have HN2:Hid (∀ i (_:i<K+1) (h:i<ps.length),ps[i].1≠key):=hZz (fun i hi h=>by
    by_cases e:i=K
    ·subst e;exact hkey
    ·exact HNE.out i (by omega) h)
   obtain ⟨kk,hkk⟩:∃ y,ps[K].1=y:=⟨_,rfl⟩
   rw [hkk] at hx hst;have hw1:IntKind.i64.wrap ((K:Int)+1)=(K:Int)+1:=IntWalk.i64_in _ (by omega);clear hkey hkk hKp hx2;go_wp2_with (fail)
   exact ⟨⟨K+1,rfl,hlt,HN2,HB⟩,by simp [intOf];omega⟩
end
section
theorem fnull_any (w:World):Calls prog 65 #[] w fun e w'=>e=.returned (.slice (some ⟨w.heap.size,0,none⟩) 1 1)∧w'=w.alloc (.cells #[.int .i64 1,.int .i64 0,.string ⟨#[]⟩,.int .i64 0] 53):=by
 go_enter func65,ntmps65
 go_wp2_with (fail)
 go_returns;exact ⟨rfl,rfl⟩
theorem RetV.err {w w':World} {r:ResD} {x:Int} (hr:r=([],x)) (hb:Below w.heap.size w w'):RetV w r (.returned (.tuple #[.slice none 0 0,.int .i64 x])) w':=by
 subst hr;exact ⟨.slice none 0 0,rfl,RowsV.nil none 0,hb⟩
attribute [local go_sem] zacZ
set_option maxHeartbeats 16000000 in
theorem findex_any (a b:ValD) (v1 v2:Value) (w:World) (h1:ValV w v1 a) (h2:ValV w v2 b) (hp:Pow w) (o1:OkV a) (o2:OkV b) :
  Calls prog 19 #[v1,v2] w (RetV w (indexR a b)):=by
 obtain ⟨P,hP⟩:∃ P:Ending→World→Prop,RetV w (indexR a b)=P:=⟨_,rfl⟩
 rw [hP];have HP:=hZz hP;obtain ⟨A1,k1,rfl,hc1,hm1,hs1⟩:=h1.at;obtain ⟨A2,k2,rfl,hc2,hm2,hs2⟩:=h2.at;have HCK1:=hZz (zarY a A1 k1 w hs1 hp o1.1 o1.2);have HCK2:Hid (∀ wx,Below w.heap.size w wx→Calls prog 34 #[.slice A2 b.length k2] wx fun e w'=>e=.returned (.int .i64 (checkF b))∧Below wx.heap.size wx w'):=hZz (fun wx hb=>zarY b A2 k2 wx (hs2.below hb) (hp.below hb) o2.1 o2.2);have HIT0:Hid (∀ wx,Below w.heap.size w wx→Calls prog 63 #[.slice A1 a.length k1] wx (RetL wx (itemsR a))):=hZz (fun wx hb=>zc7Y _ _ wx (h1.below hb) (hp.below hb) o1);have HGT0:Hid (∀ key wx,Below w.heap.size w wx→Calls prog 64 #[.slice A1 a.length k1,.string key] wx (RetV wx (getR a key))):=hZz (fun key wx hb=>fget_any _ _ key wx (h1.below hb) (hp.below hb) o1);obtain ⟨n1,hn1⟩:∃ n,a.length=n:=⟨_,rfl⟩
 obtain ⟨n2,hn2⟩:∃ n,b.length=n:=⟨_,rfl⟩
 rw [hn1] at HCK1 HIT0 HGT0 h1 hc1 ⊢;rw [hn2] at HCK2 h2 hc2 ⊢;by_cases ck1:checkF a=0
 case neg =>
  have HR:Hid (indexR a b=([],checkF a)):=hZz (by unfold indexR;rw [if_pos ck1]);obtain ⟨ck,hc⟩:∃ c,checkF a=c:=⟨_,rfl⟩
  rw [hc] at HCK1 HR ck1;have hck':(ck != 0)=true:=by simpa using ck1
  clear ck1 h1 h2 hp o1 o2 hP hc hs1 hs2 hc1 hc2 hm1 hm2 hn1 hn2 HIT0 HGT0 HCK2;go_enter func19,ntmps19
  go_wp2_with (first
   | (go_at_call 34;((with_reducible refine HCK1.out.mono ?_);rintro e w2 ⟨rfl,hb2⟩;have HB2:=hZz hb2;clear hb2)))
  rw [← HP.out];exact RetV.err HR.out HB2.out
 rw [ck1] at HCK1;by_cases ck2:checkF b=0
 case neg =>
  have HR:Hid (indexR a b=([],checkF b)):=hZz (by unfold indexR;rw [if_neg (not_not_intro ck1),if_pos ck2]);have HPC:Hid (∀ wx,Below w.heap.size w wx→((True∧True∧True∧True)∧True∧True∧True∧True)):=hZz (fun _ _=>⟨⟨trivial,trivial,trivial,trivial⟩,trivial,trivial,trivial,trivial⟩);obtain ⟨ck,hc⟩:∃ c,checkF b=c:=⟨_,rfl⟩
  rw [hc] at HCK2 HR ck2;have hck':(ck != 0)=true:=by simpa using ck2
  clear ck1 ck2 h1 h2 hp o1 o2 hP hc hs1 hs2 hc1 hc2 hm1 hm2 hn1 hn2 HIT0 HGT0;go_enter func19,ntmps19
  go_wp2_with (first
   | (go_at_call 34;((with_reducible refine HCK1.out.mono ?_);rintro e w2 ⟨rfl,hb2⟩;have HB2:=hZz hb2;clear hb2))
   | (go_at_call 34;((with_reducible refine (HCK2.out _ HB2.out).mono ?_);rintro e w3 ⟨rfl,hb3⟩;have HB3:=hZz (zadZ hb3 HB2.out);obtain ⟨⟨p0,p1,p2,p3⟩,q0,q1,q2,q3⟩:=HPC.out _ HB3.out;clear hb3)))
  rw [← HP.out];exact RetV.err HR.out HB3.out
 rw [ck2] at HCK2
 obtain ⟨x,r,rfl⟩:∃ c r,a=c :: r:=by
  cases a with
  | nil=>exact absurd rfl (zaoZ ck1)
  | cons c r=>exact ⟨c,r,rfl⟩
 obtain ⟨y,s,rfl⟩:∃ c r,b=c :: r:=by
  cases b with
  | nil=>exact absurd rfl (zaoZ ck2)
  | cons c r=>exact ⟨c,r,rfl⟩
 obtain ⟨bA,oA,n1',k1',e1,hn1',p0,p1,p2,p3⟩:=zanZ h1;injection e1 with e1 e2 e3
 subst e1 e2 e3;obtain ⟨bB,oB,n2',k2',e1,hn2',q0,q1,q2,q3⟩:=zanZ h2;injection e1 with e1 e2 e3
 subst e1 e2 e3;have hposA:(0:Int)<(n1:Int):=by omega
 have hposB:(0:Int)<(n2:Int):=by omega
 have HPC:Hid (∀ wx,Below w.heap.size w wx→(wx.cell? ⟨bA,oA,none⟩=some (.int .i64 x.kind)∧wx.cell? ⟨bA,oA+1,none⟩=some (.int .i64 x.int)∧wx.cell? ⟨bA,oA+2,none⟩=some (.string x.str)∧wx.cell? ⟨bA,oA+3,none⟩=some (.int .i64 x.n))∧(wx.cell? ⟨bB,oB,none⟩=some (.int .i64 y.kind)∧wx.cell? ⟨bB,oB+1,none⟩=some (.int .i64 y.int)∧wx.cell? ⟨bB,oB+2,none⟩=some (.string y.str)∧wx.cell? ⟨bB,oB+3,none⟩=some (.int .i64 y.n))):=hZz (fun wx hb=>⟨⟨zaiZ p0 hb,zaiZ p1 hb,zaiZ p2 hb,zaiZ p3 hb⟩,zaiZ q0 hb,zaiZ q1 hb,zaiZ q2 hb,zaiZ q3 hb⟩)
 have hU:indexR (x :: r) (y :: s)=if x.kind=6∧y.kind=4 then atR (x :: r) y.str else if x.kind≠5∨y.kind≠3 then ([],7)
  else if y.int<0 then ([],2) else (match (partsOf (x :: r))[y.int.toNat]? with
   | none=>([],2)
   | some p=>(p.2,0)):=by
  unfold indexR;rw [if_neg (not_not_intro ck1),if_neg (not_not_intro ck2)];simp only
  cases (partsOf (x :: r))[y.int.toNat]? <;> rfl
 have hNN:Hid ((x.kind=5∨x.kind=6)→(partsOf (x :: r)).length≤200):=hZz (fun hk=>by have:=zagY o1 ck1 hk;omega);have hIT:Hid (x.kind=5→itemsR (x :: r)=((partsOf (x :: r)).map (fun p:ByteArray × ValD=>p.2),0)):=hZz (fun hk=>za9Y ck1 (.inl hk))
 have hGR:Hid (x.kind=6→getR (x :: r) y.str=(match findK (partsOf (x :: r)) y.str with | none=>([],5) | some y=>(y,0))):=hZz (fun hk=>by
  unfold getR;rw [if_neg (not_not_intro ck1)];simp only;rw [if_neg (not_not_intro hk)];cases findK (partsOf (x :: r)) y.str <;> rfl)
 obtain ⟨BR,hBR⟩:∃ t,indexR (x :: r) (y :: s)=t:=⟨_,rfl⟩
 rw [hBR] at HP hU;have HU:=hZz hU;obtain ⟨ps,hps⟩:∃ t,partsOf (x :: r)=t:=⟨_,rfl⟩
 rw [hps] at HU hNN hIT hGR;clear h1 h2 hp o1 o2 ck1 ck2 hP hn1 hn2 hn1' hn2' p0 p1 p2 p3 q0 q1 q2 q3 hs1 hs2 hc1 hc2 hm1 hm2 hU hBR hps;obtain ⟨k,i,st,nn⟩:=x;obtain ⟨k',i',st',nn'⟩:=y;dsimp only at HPC HU hNN hIT hGR;by_cases h5:k=5
 ·subst h5
  by_cases h3:k'=3
  ·subst h3
   have HIT:Hid (∀ wx,Below w.heap.size w wx→Calls prog 63 #[.slice (some ⟨bA,oA,none⟩) n1 k1] wx fun e w'=>∃ ov,e=.returned (.tuple #[ov,.int .i64 0])∧((∃ A c,ov=.slice A ps.length c)∧ValsO w' wx.heap.size ov (ps.map (fun p:ByteArray × ValD=>p.2)))∧Below wx.heap.size wx w'):=hZz (fun wx hb=>by
    have h:=HIT0.out wx hb;rw [hIT.out rfl] at h;exact h.mono fun e w' ⟨ov,a,b,c⟩=>⟨ov,a,⟨by obtain ⟨A,cap,e⟩:=b.shape;rw [List.length_map] at e;exact ⟨A,cap,e⟩,b⟩,c⟩)
   have HR:Hid (BR=if i' < 0 then (([],2):ResD) else (match ps[i'.toNat]? with | none=>(([],2):ResD) | some p=>(p.2,0))):=hZz (by
    rw [HU.out,if_neg (by simp),if_neg (by simp)])
   have hN200:=hNN.out (.inl rfl);obtain ⟨N,hN⟩:∃ t,ps.length=t:=⟨_,rfl⟩
   rw [hN] at HIT hN200;have HN:=hZz hN;clear HU hNN hIT hGR HIT0 HGT0 hN;by_cases hi:i' < 0
   ·have HR2:Hid (BR=([],2)):=hZz (by rw [HR.out,if_pos hi])
    go_enter func19,ntmps19
    go_wp2_with (first
     | (go_at_call 34;((with_reducible refine HCK1.out.mono ?_);rintro e w2 ⟨rfl,hb2⟩;have HB2:=hZz hb2;clear hb2))
     | (go_at_call 34;((with_reducible refine (HCK2.out _ HB2.out).mono ?_);rintro e w3 ⟨rfl,hb3⟩;have HB3:=hZz (zadZ hb3 HB2.out);obtain ⟨⟨p0,p1,p2,p3⟩,q0,q1,q2,q3⟩:=HPC.out _ HB3.out;clear hb3))
     | (go_at_call 63;((with_reducible refine (HIT.out _ HB3.out).mono ?_);rintro e w4 ⟨iv,rfl,hi4,hb4⟩;obtain ⟨iA,ic,hie⟩:=(show ∃ A c,iv=.slice A N c from hi4.1);subst hie;have HI4:=hZz hi4.2;have HB4:=hZz (zadZ hb4 HB3.out);obtain ⟨⟨p0,p1,p2,p3⟩,q0,q1,q2,q3⟩:=HPC.out _ HB4.out;clear hb4 hi4)))
    rw [← HP.out];exact RetV.err HR2.out HB4.out
   by_cases hj:(N:Int)≤i'
   ·have HR2:Hid (BR=([],2)):=hZz (by
     rw [HR.out,if_neg hi,List.getElem?_eq_none (by have:=HN.out;omega)])
    go_enter func19,ntmps19
    go_wp2_with (first
     | (go_at_call 34;((with_reducible refine HCK1.out.mono ?_);rintro e w2 ⟨rfl,hb2⟩;have HB2:=hZz hb2;clear hb2))
     | (go_at_call 34;((with_reducible refine (HCK2.out _ HB2.out).mono ?_);rintro e w3 ⟨rfl,hb3⟩;have HB3:=hZz (zadZ hb3 HB2.out);obtain ⟨⟨p0,p1,p2,p3⟩,q0,q1,q2,q3⟩:=HPC.out _ HB3.out;clear hb3))
     | (go_at_call 63;((with_reducible refine (HIT.out _ HB3.out).mono ?_);rintro e w4 ⟨iv,rfl,hi4,hb4⟩;obtain ⟨iA,ic,hie⟩:=(show ∃ A c,iv=.slice A N c from hi4.1);subst hie;have HI4:=hZz hi4.2;have HB4:=hZz (zadZ hb4 HB3.out);obtain ⟨⟨p0,p1,p2,p3⟩,q0,q1,q2,q3⟩:=HPC.out _ HB4.out;clear hb4 hi4)))
    rw [← HP.out];exact RetV.err HR2.out HB4.out
   obtain ⟨K,hK⟩:∃ K:Nat,i'=(K:Int):=⟨i'.toNat,by omega⟩
   subst hK;have hKN:K<ps.length:=by have:=HN.out;omega
   have HR2:Hid (BR=(ps[K].2,0)):=hZz (by
    rw [HR.out,if_neg hi,Int.toNat_natCast,List.getElem?_eq_getElem hKN])
   have hK0:(0:Int)≤(K:Int):=by omega
   have hKN2:(K:Int)<(N:Int):=by omega
   have HKN:=hZz hKN;have HYY:Hid (∃ y,ps[K]?.map (fun p:ByteArray × ValD=>p.2)=some y∧BR=(y,0)):=hZz ⟨ps[K].2,by rw [List.getElem?_eq_getElem hKN];rfl,HR2.out⟩;clear HR2;obtain ⟨yy,hyy,hR3⟩:=HYY.out;have HR2:=hZz hR3;have HY:=hZz hyy;clear hi hj hKN hyy hR3 HYY;go_enter func19,ntmps19
   go_wp2_with (first
    | (go_at_call 34;((with_reducible refine HCK1.out.mono ?_);rintro e w2 ⟨rfl,hb2⟩;have HB2:=hZz hb2;clear hb2))
    | (go_at_call 34;((with_reducible refine (HCK2.out _ HB2.out).mono ?_);rintro e w3 ⟨rfl,hb3⟩;have HB3:=hZz (zadZ hb3 HB2.out);obtain ⟨⟨p0,p1,p2,p3⟩,q0,q1,q2,q3⟩:=HPC.out _ HB3.out;clear hb3))
    | ((go_at_call 63;((with_reducible refine (HIT.out _ HB3.out).mono ?_);rintro e w4 ⟨iv,rfl,hi4,hb4⟩;obtain ⟨iA,ic,hie⟩:=(show ∃ A c,iv=.slice A N c from hi4.1);subst hie;have HI4:=hZz hi4.2;have HB4:=hZz (zadZ hb4 HB3.out);obtain ⟨⟨p0,p1,p2,p3⟩,q0,q1,q2,q3⟩:=HPC.out _ HB4.out;clear hb4 hi4));obtain ⟨g',cap',u,e4,hu,hv⟩:=vals_at0 HI4.out K (by rw [List.length_map];exact HKN.out);rw [List.length_map,HN.out] at e4;injection e4 with e4 e5 e6;subst e4 e6;have HV:Hid (ValV w4 u yy):=hZz (by have h:=hv.1;rw [List.getD_eq_getElem?_getD,List.getElem?_map,HY.out] at h;exact h);clear hv))
   rw [← HP.out,HR2.out];exact ⟨u,rfl,HV.out,HB4.out⟩
  ·have HR:Hid (BR=([],7)):=hZz (by rw [HU.out,if_neg (by simp),if_pos (.inr h3)])
   have t3:(k' == 3)=false:=by simpa using h3
   clear HU hNN hIT hGR HIT0 HGT0 h3;go_enter func19,ntmps19
   go_wp2_with (first
    | (go_at_call 34;((with_reducible refine HCK1.out.mono ?_);rintro e w2 ⟨rfl,hb2⟩;have HB2:=hZz hb2;clear hb2))
    | (go_at_call 34;((with_reducible refine (HCK2.out _ HB2.out).mono ?_);rintro e w3 ⟨rfl,hb3⟩;have HB3:=hZz (zadZ hb3 HB2.out);obtain ⟨⟨p0,p1,p2,p3⟩,q0,q1,q2,q3⟩:=HPC.out _ HB3.out;clear hb3)))
   rw [← HP.out];exact RetV.err HR.out HB3.out
 have t5:(k == 5)=false:=by simpa using h5
 by_cases h6:k=6
 ·subst h6
  by_cases h4:k'=4
  ·subst h4
   have HAT:Hid (BR=if (getR (⟨6,i,st,nn⟩ :: r) st').2=5 then ([⟨1,0,⟨#[]⟩,0⟩],0) else getR (⟨6,i,st,nn⟩ :: r) st'):=hZz (by rw [HU.out,if_pos ⟨rfl,rfl⟩];rfl);have hg:=hGR.out rfl;have HGT:=hZz (HGT0.out st');cases hf:findK ps st' with
   | none =>
    rw [hf] at hg;rw [hg] at HGT HAT;have HR:Hid (BR=([⟨1,0,⟨#[]⟩,0⟩],0)):=hZz (by rw [HAT.out,if_pos rfl]);clear HU hNN hIT hGR HIT0 HGT0 hg hf HAT;go_enter func19,ntmps19
    go_wp2_with (first
     | (go_at_call 34;((with_reducible refine HCK1.out.mono ?_);rintro e w2 ⟨rfl,hb2⟩;have HB2:=hZz hb2;clear hb2))
     | (go_at_call 34;((with_reducible refine (HCK2.out _ HB2.out).mono ?_);rintro e w3 ⟨rfl,hb3⟩;have HB3:=hZz (zadZ hb3 HB2.out);obtain ⟨⟨p0,p1,p2,p3⟩,q0,q1,q2,q3⟩:=HPC.out _ HB3.out;clear hb3))
     | (go_at_call 64;((with_reducible refine (HGT.out _ HB3.out).mono ?_);rintro e w4 ⟨gv,rfl,hg4,hb4⟩;have HG4:=hZz hg4;have HB4:=hZz (zadZ hb4 HB3.out);clear hb4 hg4))
     | (go_at_call 65;((refine (fnull_any _).mono ?_);rintro e w5 ⟨rfl,hw5⟩;have HN5:=hZz hw5;clear hw5)))
    rw [← HP.out,HR.out,HN5.out];exact ⟨_,rfl,zaiY (c:=⟨1,0,⟨#[]⟩,0⟩) (Blk.new w4 _ _),HB4.out.alloc HB4.out.size _⟩
   | some z =>
    rw [hf] at hg;rw [hg] at HGT HAT;have HR:Hid (BR=(z,0)):=hZz (by rw [HAT.out,if_neg (by simp)]);clear HU hNN hIT hGR HIT0 HGT0 hg hf HAT;go_enter func19,ntmps19
    go_wp2_with (first
     | (go_at_call 34;((with_reducible refine HCK1.out.mono ?_);rintro e w2 ⟨rfl,hb2⟩;have HB2:=hZz hb2;clear hb2))
     | (go_at_call 34;((with_reducible refine (HCK2.out _ HB2.out).mono ?_);rintro e w3 ⟨rfl,hb3⟩;have HB3:=hZz (zadZ hb3 HB2.out);obtain ⟨⟨p0,p1,p2,p3⟩,q0,q1,q2,q3⟩:=HPC.out _ HB3.out;clear hb3))
     | (go_at_call 64;((with_reducible refine (HGT.out _ HB3.out).mono ?_);rintro e w4 ⟨gv,rfl,hg4,hb4⟩;have HG4:=hZz hg4;have HB4:=hZz (zadZ hb4 HB3.out);clear hb4 hg4)))
    rw [← HP.out,HR.out];exact ⟨gv,rfl,HG4.out,HB4.out⟩
  ·have HR:Hid (BR=([],7)):=hZz (by rw [HU.out,if_neg (fun e=>h4 e.2),if_pos (.inl (by simp))])
   have t4:(k' == 4)=false:=by simpa using h4
   clear HU hNN hIT hGR HIT0 HGT0 h4;go_enter func19,ntmps19
   go_wp2_with (first
    | (go_at_call 34;((with_reducible refine HCK1.out.mono ?_);rintro e w2 ⟨rfl,hb2⟩;have HB2:=hZz hb2;clear hb2))
    | (go_at_call 34;((with_reducible refine (HCK2.out _ HB2.out).mono ?_);rintro e w3 ⟨rfl,hb3⟩;have HB3:=hZz (zadZ hb3 HB2.out);obtain ⟨⟨p0,p1,p2,p3⟩,q0,q1,q2,q3⟩:=HPC.out _ HB3.out;clear hb3)))
   rw [← HP.out];exact RetV.err HR.out HB3.out
 have HR:Hid (BR=([],7)):=hZz (by rw [HU.out,if_neg (fun e=>h6 e.1),if_pos (.inl h5)]);have t6:(k == 6)=false:=by simpa using h6
 clear HU hNN hIT hGR HIT0 HGT0 h5 h6;go_enter func19,ntmps19
 go_wp2_with (first
  | (go_at_call 34;((with_reducible refine HCK1.out.mono ?_);rintro e w2 ⟨rfl,hb2⟩;have HB2:=hZz hb2;clear hb2))
  | (go_at_call 34;((with_reducible refine (HCK2.out _ HB2.out).mono ?_);rintro e w3 ⟨rfl,hb3⟩;have HB3:=hZz (zadZ hb3 HB2.out);obtain ⟨⟨p0,p1,p2,p3⟩,q0,q1,q2,q3⟩:=HPC.out _ HB3.out;clear hb3)))
 rw [← HP.out];exact RetV.err HR.out HB3.out
end
section
attribute [local go_sem] zacZ
def arityR (op:ByteArray):Int:=(lookL builtL op).getD (-1)
set_option maxHeartbeats 4000000 in
theorem farity_any (op:ByteArray) (w:World):Calls prog 57 #[.string op] w fun e w'=>e=.returned (.int .i64 (arityR op))∧w'=w:=by
 by_cases h0:op.toList=[108,101,110]
 ·have h:=h0
  have e0:(op.toList == [108,101,110])=true:=zatY h;have HT:Hid (arityR op=1):=hZz (by unfold arityR lookL;rw [h];decide);clear h h0;go_enter func57,ntmps57
  go_wp2_with (fail)
  go_returns;exact ⟨by rw [HT.out];rfl,rfl⟩
 by_cases h1:op.toList=[115,116,114]
 ·have h:=h1
  have e0:(op.toList == [108,101,110])=false:=zalZ (by rw [h];decide);have e1:(op.toList == [115,116,114])=true:=zatY h;have HT:Hid (arityR op=1):=hZz (by unfold arityR lookL;rw [h];decide);clear h h0 h1;go_enter func57,ntmps57
  go_wp2_with (fail)
  go_returns;exact ⟨by rw [HT.out];rfl,rfl⟩
 by_cases h2:op.toList=[105,110,116]
 ·have h:=h2
  have e0:(op.toList == [108,101,110])=false:=zalZ (by rw [h];decide);have e1:(op.toList == [115,116,114])=false:=zalZ (by rw [h];decide);have e2:(op.toList == [105,110,116])=true:=zatY h;have HT:Hid (arityR op=1):=hZz (by unfold arityR lookL;rw [h];decide);clear h h0 h1 h2;go_enter func57,ntmps57
  go_wp2_with (fail)
  go_returns;exact ⟨by rw [HT.out];rfl,rfl⟩
 by_cases h3:op.toList=[107,101,121,115]
 ·have h:=h3
  have e0:(op.toList == [108,101,110])=false:=zalZ (by rw [h];decide);have e1:(op.toList == [115,116,114])=false:=zalZ (by rw [h];decide);have e2:(op.toList == [105,110,116])=false:=zalZ (by rw [h];decide);have e3:(op.toList == [107,101,121,115])=true:=zatY h;have HT:Hid (arityR op=1):=hZz (by unfold arityR lookL;rw [h];decide);clear h h0 h1 h2 h3;go_enter func57,ntmps57
  go_wp2_with (fail)
  go_returns;exact ⟨by rw [HT.out];rfl,rfl⟩
 by_cases h4:op.toList=[102,97,105,108]
 ·have h:=h4
  have e0:(op.toList == [108,101,110])=false:=zalZ (by rw [h];decide);have e1:(op.toList == [115,116,114])=false:=zalZ (by rw [h];decide);have e2:(op.toList == [105,110,116])=false:=zalZ (by rw [h];decide);have e3:(op.toList == [107,101,121,115])=false:=zalZ (by rw [h];decide);have e4:(op.toList == [102,97,105,108])=true:=zatY h;have HT:Hid (arityR op=1):=hZz (by unfold arityR lookL;rw [h];decide);clear h h0 h1 h2 h3 h4;go_enter func57,ntmps57
  go_wp2_with (fail)
  go_returns;exact ⟨by rw [HT.out];rfl,rfl⟩
 by_cases h5:op.toList=[112,117,115,104]
 ·have h:=h5
  have e0:(op.toList == [108,101,110])=false:=zalZ (by rw [h];decide);have e1:(op.toList == [115,116,114])=false:=zalZ (by rw [h];decide);have e2:(op.toList == [105,110,116])=false:=zalZ (by rw [h];decide);have e3:(op.toList == [107,101,121,115])=false:=zalZ (by rw [h];decide);have e4:(op.toList == [102,97,105,108])=false:=zalZ (by rw [h];decide);have e5:(op.toList == [112,117,115,104])=true:=zatY h;have HT:Hid (arityR op=2):=hZz (by unfold arityR lookL;rw [h];decide);clear h h0 h1 h2 h3 h4 h5;go_enter func57,ntmps57
  go_wp2_with (fail)
  go_returns;exact ⟨by rw [HT.out];rfl,rfl⟩
 by_cases h6:op.toList=[104,97,115]
 ·have h:=h6
  have e0:(op.toList == [108,101,110])=false:=zalZ (by rw [h];decide);have e1:(op.toList == [115,116,114])=false:=zalZ (by rw [h];decide);have e2:(op.toList == [105,110,116])=false:=zalZ (by rw [h];decide);have e3:(op.toList == [107,101,121,115])=false:=zalZ (by rw [h];decide);have e4:(op.toList == [102,97,105,108])=false:=zalZ (by rw [h];decide);have e5:(op.toList == [112,117,115,104])=false:=zalZ (by rw [h];decide);have e6:(op.toList == [104,97,115])=true:=zatY h;have HT:Hid (arityR op=2):=hZz (by unfold arityR lookL;rw [h];decide);clear h h0 h1 h2 h3 h4 h5 h6;go_enter func57,ntmps57
  go_wp2_with (fail)
  go_returns;exact ⟨by rw [HT.out];rfl,rfl⟩
 by_cases h7:op.toList=[112,117,116]
 ·have h:=h7
  have e0:(op.toList == [108,101,110])=false:=zalZ (by rw [h];decide);have e1:(op.toList == [115,116,114])=false:=zalZ (by rw [h];decide);have e2:(op.toList == [105,110,116])=false:=zalZ (by rw [h];decide);have e3:(op.toList == [107,101,121,115])=false:=zalZ (by rw [h];decide);have e4:(op.toList == [102,97,105,108])=false:=zalZ (by rw [h];decide);have e5:(op.toList == [112,117,115,104])=false:=zalZ (by rw [h];decide);have e6:(op.toList == [104,97,115])=false:=zalZ (by rw [h];decide);have e7:(op.toList == [112,117,116])=true:=zatY h;have HT:Hid (arityR op=3):=hZz (by unfold arityR lookL;rw [h];decide);clear h h0 h1 h2 h3 h4 h5 h6 h7;go_enter func57,ntmps57
  go_wp2_with (fail)
  go_returns;exact ⟨by rw [HT.out];rfl,rfl⟩
 have e0:(op.toList == [108,101,110])=false:=zalZ h0;have e1:(op.toList == [115,116,114])=false:=zalZ h1;have e2:(op.toList == [105,110,116])=false:=zalZ h2;have e3:(op.toList == [107,101,121,115])=false:=zalZ h3;have e4:(op.toList == [102,97,105,108])=false:=zalZ h4;have e5:(op.toList == [112,117,115,104])=false:=zalZ h5;have e6:(op.toList == [104,97,115])=false:=zalZ h6;have e7:(op.toList == [112,117,116])=false:=zalZ h7;have HT:Hid (arityR op=-1):=hZz (by unfold arityR lookL;simp [builtL,List.lookup,e0,e1,e2,e3,e4,e5,e6,e7]);clear h0 h1 h2 h3 h4 h5 h6 h7;go_enter func57,ntmps57
 go_wp2_with (fail)
 go_returns;exact ⟨by rw [HT.out];rfl,rfl⟩
end
section
attribute [local go_sem] zacZ
theorem fcountlen_any (name:ByteArray) (hn:name.toList=[108,101,110]) (a:ValD) (v:Value) (w:World) (h:ValV w v a) (ck:checkF a=0) :
  Calls prog 58 #[.string name,v] w (RetV w (sizeR a)):=by
 obtain ⟨P,hP⟩:∃ P:Ending→World→Prop,RetV w (sizeR a)=P:=⟨_,rfl⟩
 rw [hP];have HP:=hZz hP;have t0:(name.toList == [107,101,121,115])=false:=zalZ (by rw [hn];decide)
 obtain ⟨x,r,rfl⟩:∃ c r,a=c :: r:=by
  cases a with
  | nil=>exact absurd rfl (zaoZ ck)
  | cons c r=>exact ⟨c,r,rfl⟩
 obtain ⟨bA,oA,n1,k1,rfl,hn1,p0,p1,p2,p3⟩:=zanZ h;have hposA:(0:Int)<(n1:Int):=by omega
 have hsz:=za8Y ck x (by simp);obtain ⟨BR,hBR⟩:∃ t,sizeR (x :: r)=t:=⟨_,rfl⟩
 have hU:BR=if x.kind=4 then ([iCel (x.str.size:Nat)],0) else if x.kind=5∨x.kind=6 then ([iCel x.n],0) else ([],7):=by rw [← hBR];rfl
 rw [hBR] at HP;have HU:=hZz hU;clear hn h ck hP hn1 hBR hU;obtain ⟨k,i,st,nn⟩:=x;dsimp only at HU p0 p1 p2 p3 hsz;by_cases h4:k=4
 ·subst h4
  have HR:Hid (BR=([iCel (st.size:Nat)],0)):=hZz (by rw [HU.out,if_pos rfl]);clear HU;go_enter func58,ntmps58
  go_wp2_with (fail)
  rw [← HP.out,HR.out];exact ⟨_,rfl,zaiY (c:=iCel (st.size:Nat)) (Blk.new w _ _),zabZ _ _⟩
 have t4:(k == 4)=false:=by simpa using h4
 by_cases h5:k=5
 ·subst h5
  have HR:Hid (BR=([iCel nn],0)):=hZz (by rw [HU.out,if_neg (by decide),if_pos (.inl rfl)]);clear HU;go_enter func58,ntmps58
  go_wp2_with (fail)
  rw [← HP.out,HR.out];exact ⟨_,rfl,zaiY (c:=iCel nn) (Blk.new w _ _),zabZ _ _⟩
 have t5:(k == 5)=false:=by simpa using h5
 by_cases h6:k=6
 ·subst h6
  have HR:Hid (BR=([iCel nn],0)):=hZz (by rw [HU.out,if_neg (by decide),if_pos (.inr rfl)]);clear HU;go_enter func58,ntmps58
  go_wp2_with (fail)
  rw [← HP.out,HR.out];exact ⟨_,rfl,zaiY (c:=iCel nn) (Blk.new w _ _),zabZ _ _⟩
 have t6:(k == 6)=false:=by simpa using h6
 have HR:Hid (BR=([],7)):=hZz (by rw [HU.out,if_neg h4,if_neg (by simp [h5,h6])]);clear HU h4 h5 h6;go_enter func58,ntmps58
 go_wp2_with (fail)
 rw [← HP.out];exact RetV.err HR.out (Below.refl _ _)
end
theorem ne48 {s:ByteArray} (h:0<s.size) (h0:s[0]≠48):¬ s.toList=[48]:=fun e=>by
 have h1:=zbtY s h;rw [← Lib.toList_data,e] at h1;exact h0 (Option.some.inj h1).symm
theorem ne48l {s:ByteArray} (h:1<s.size):¬ s.toList=[48]:=fun e=>by
 rw [Lib.toList_data] at e
 have:=congrArg List.length e
 simp at this
 omega
theorem eq48 {s:ByteArray} (h:0<s.size) (h1:s.size≤1) (h0:s[0]=48):s.toList=[48]:=by
 have e:=zbtY s h;rw [h0] at e;rw [Lib.toList_data];have hl:s.data.toList.length=1:=by simp;omega
 obtain ⟨a,ha⟩:=List.length_eq_one_iff.1 hl;rw [ha] at e ⊢;rw [List.head?_cons] at e;rw [Option.some.inj e]
theorem fform_any (s:ByteArray) (w:World) (hs:s.size≤4294967296):Calls prog 156 #[.string s] w fun e w'=>e=.returned (.bool (decB s))∧w'=w:=by
 by_cases h0:s.size=0
 ·have hn:¬ (0:Int)<(s.size:Int):=by omega
  have hz:((s.size:Int) == 0)=true:=by rw [h0];rfl
  have hD:decB s=false:=by
   have e:negB s=false:=by
    have:s.data.toList=[]:=by rw [← Lib.toList_data];exact (zadY s).2 h0
    simp [negB,this]
   unfold decB;rw [e];exact (decF s s).none h0
  rw [hD];clear h0 hD;go_enter func156,ntmps156
  go_wp2_with (fail)
  go_returns;exact ⟨rfl,rfl⟩
 have hp:(0:Int)<(s.size:Int):=by omega
 have hp':0<s.size:=by omega
 have hn0:((s.size:Int) == 0)=false:=beq_eq_false_iff_ne.mpr (by omega);clear h0;have hneg:=neg_at s hp';by_cases hm:s[0]=45
 ·obtain ⟨X,hX⟩:∃ X,s.extract 1 s.size=X:=⟨_,rfl⟩
  have hXs:X.size=s.size - 1:=by rw [← hX];simp
  have hm':((s[0].toNat:Int) == 45)=true:=by rw [hm];rfl
  have HZ:=hZz (ne48 hp' (by rw [hm];decide))
  have HF0:DecF s X (decB s):=by
   unfold decB;rw [hneg,decide_eq_true hm,if_pos rfl,hX];exact decF s X
  have HF:=hZz HF0;obtain ⟨D,hD⟩:∃ D,decB s=D:=⟨_,rfl⟩
  rw [hD] at HF ⊢;have hXb:X.size≤4294967296:=by omega
  have HXE:=hZz hX;clear HF0 hD hneg hX hXs hm;go_enter func156,ntmps156
  go_upto_region 4 with fail
  rw [HXE.out];clear hm' HXE hp hn0;by_cases h1:X.size=0
  ·have HE:=hZz (HF.out.none h1)
   have hXn:¬ (0:Int)<(X.size:Int):=by omega
   have hXz:((X.size:Int) == 0)=true:=by rw [h1];rfl
   clear h1;go_wp2_with (fail)
   go_returns;exact ⟨(congrArg (fun b=>Ending.returned (Value.bool b)) HE.out).symm,rfl⟩
  have hXp:0<X.size:=by omega
  have hXp':(0:Int)<(X.size:Int):=by omega
  have hXz:((X.size:Int) == 0)=false:=beq_eq_false_iff_ne.mpr (by omega);clear h1;by_cases hd:X[0]=48
  ·have HE:=hZz (HF.out.zero hXp hd HZ.out)
   have hd':((X[0].toNat:Int) == 48)=true:=by rw [hd];rfl
   clear hd;go_wp2_with (fail)
   go_returns;exact ⟨(congrArg (fun b=>Ending.returned (Value.bool b)) HE.out).symm,rfl⟩
  have hd':((X[0].toNat:Int) == 48)=false:=beq_eq_false_iff_ne.mpr (za4Y hd);have HG:Hid ((∀ h:0<X.size,¬ X[0]=48)∨s.toList=[48]):=hZz (.inl fun _=>hd);clear hd;by_cases hX1:(1:Int)<(X.size:Int)
  all_goals
   go_wp2_with (fail)
   go_loop [4,39] (fun u c=>∃ k:Nat,k≤X.size∧c=.int .i64 k∧Hid (∀ i (h:i<X.size),i<k→dgB X[i]=true)) (fun u c=>X.size - (intOf c).toNat)
   case atStart=>exact ⟨0,Nat.zero_le _,rfl,hZz (fun i _ h=>absurd h (by omega))⟩
   case round =>
    obtain ⟨k,hk,rfl,HI⟩:=hrel;have hk0:(0:Int)≤(k:Int):=by omega
    by_cases hlt:k<X.size
    ·have hlt':(k:Int)<(X.size:Int):=by omega
     have hk9:(k:Int)+1≤9223372036854775807:=by omega
     by_cases h1:(X[k].toNat:Int)<48
     ·have HE:=hZz (HF.out.bad k hlt (by unfold dgB;simp;omega))
      go_wp2_with (fail)
      go_returns;exact ⟨(congrArg (fun b=>Ending.returned (Value.bool b)) HE.out).symm,rfl⟩
     ·by_cases h2:(57:Int)<(X[k].toNat:Int)
      ·have HE:=hZz (HF.out.bad k hlt (by unfold dgB;simp;omega))
       go_wp2_with (fail)
       go_returns;exact ⟨(congrArg (fun b=>Ending.returned (Value.bool b)) HE.out).symm,rfl⟩
      ·have HI2:Hid (∀ i (h:i<X.size),i<k+1→dgB X[i]=true):=hZz (fun i h hi=>by
        rcases Nat.lt_or_ge i k with h' | h'
        ·exact HI.out i h h'
        ·obtain rfl:i=k:=by omega
         unfold dgB;simp;omega)
       go_wp2_with (fail)
       exact ⟨⟨k+1,by omega,by simp,HI2⟩,by simp [intOf];omega⟩
    ·have e:k=X.size:=by omega
     have HE:=hZz (HF.out.good (by omega) HG.out (fun i h=>HI.out i h (by omega)));subst e;go_wp2_with (fail)
     go_returns;exact ⟨(congrArg (fun b=>Ending.returned (Value.bool b)) HE.out).symm,rfl⟩
 have hm':((s[0].toNat:Int) == 45)=false:=beq_eq_false_iff_ne.mpr (za4Y hm)
 have HF0:DecF s s (decB s):=by
  unfold decB;rw [hneg,decide_eq_false hm];exact decF s s
 have HF:=hZz HF0;obtain ⟨D,hD⟩:∃ D,decB s=D:=⟨_,rfl⟩
 rw [hD] at HF ⊢;clear HF0 hD hneg hm;by_cases hX1:(1:Int)<(s.size:Int)
 ·by_cases hd:s[0]=48
  ·have HE:=hZz (HF.out.zero hp' hd (ne48l (by omega)))
   have hd':((s[0].toNat:Int) == 48)=true:=by rw [hd];rfl
   clear hd;go_enter func156,ntmps156
   go_wp2_with (fail)
   go_returns;exact ⟨(congrArg (fun b=>Ending.returned (Value.bool b)) HE.out).symm,rfl⟩
  have hd':((s[0].toNat:Int) == 48)=false:=beq_eq_false_iff_ne.mpr (za4Y hd);have HG:Hid ((∀ h:0<s.size,¬ s[0]=48)∨s.toList=[48]):=hZz (.inl fun _=>hd);clear hd;go_enter func156,ntmps156
  go_wp2_with (fail)
  go_loop [4,39] (fun u c=>∃ k:Nat,k≤s.size∧c=.int .i64 k∧Hid (∀ i (h:i<s.size),i<k→dgB s[i]=true)) (fun u c=>s.size - (intOf c).toNat)
  case atStart=>exact ⟨0,Nat.zero_le _,rfl,hZz (fun i _ h=>absurd h (by omega))⟩
  case round =>
   obtain ⟨k,hk,rfl,HI⟩:=hrel;have hk0:(0:Int)≤(k:Int):=by omega
   by_cases hlt:k<s.size
   ·have hlt':(k:Int)<(s.size:Int):=by omega
    have hk9:(k:Int)+1≤9223372036854775807:=by omega
    by_cases h1:(s[k].toNat:Int)<48
    ·have HE:=hZz (HF.out.bad k hlt (by unfold dgB;simp;omega))
     go_wp2_with (fail)
     go_returns;exact ⟨(congrArg (fun b=>Ending.returned (Value.bool b)) HE.out).symm,rfl⟩
    ·by_cases h2:(57:Int)<(s[k].toNat:Int)
     ·have HE:=hZz (HF.out.bad k hlt (by unfold dgB;simp;omega))
      go_wp2_with (fail)
      go_returns;exact ⟨(congrArg (fun b=>Ending.returned (Value.bool b)) HE.out).symm,rfl⟩
     ·have HI2:Hid (∀ i (h:i<s.size),i<k+1→dgB s[i]=true):=hZz (fun i h hi=>by
       rcases Nat.lt_or_ge i k with h' | h'
       ·exact HI.out i h h'
       ·obtain rfl:i=k:=by omega
        unfold dgB;simp;omega)
      go_wp2_with (fail)
      exact ⟨⟨k+1,by omega,by simp,HI2⟩,by simp [intOf];omega⟩
   ·have e:k=s.size:=by omega
    have HE:=hZz (HF.out.good (by omega) HG.out (fun i h=>HI.out i h (by omega)));subst e;go_wp2_with (fail)
    go_returns;exact ⟨(congrArg (fun b=>Ending.returned (Value.bool b)) HE.out).symm,rfl⟩
 ·have HG:Hid ((∀ h:0<s.size,¬ s[0]=48)∨s.toList=[48]):=hZz (by
   by_cases hd:s[0]=48
   ·exact .inr (eq48 hp' (by omega) hd)
   ·exact .inl fun _=>hd)
  go_enter func156,ntmps156
  go_wp2_with (fail)
  go_loop [4,39] (fun u c=>∃ k:Nat,k≤s.size∧c=.int .i64 k∧Hid (∀ i (h:i<s.size),i<k→dgB s[i]=true)) (fun u c=>s.size - (intOf c).toNat)
  case atStart=>exact ⟨0,Nat.zero_le _,rfl,hZz (fun i _ h=>absurd h (by omega))⟩
  case round =>
   obtain ⟨k,hk,rfl,HI⟩:=hrel;have hk0:(0:Int)≤(k:Int):=by omega
   by_cases hlt:k<s.size
   ·have hlt':(k:Int)<(s.size:Int):=by omega
    have hk9:(k:Int)+1≤9223372036854775807:=by omega
    by_cases h1:(s[k].toNat:Int)<48
    ·have HE:=hZz (HF.out.bad k hlt (by unfold dgB;simp;omega))
     go_wp2_with (fail)
     go_returns;exact ⟨(congrArg (fun b=>Ending.returned (Value.bool b)) HE.out).symm,rfl⟩
    ·by_cases h2:(57:Int)<(s[k].toNat:Int)
     ·have HE:=hZz (HF.out.bad k hlt (by unfold dgB;simp;omega))
      go_wp2_with (fail)
      go_returns;exact ⟨(congrArg (fun b=>Ending.returned (Value.bool b)) HE.out).symm,rfl⟩
     ·have HI2:Hid (∀ i (h:i<s.size),i<k+1→dgB s[i]=true):=hZz (fun i h hi=>by
       rcases Nat.lt_or_ge i k with h' | h'
       ·exact HI.out i h h'
       ·obtain rfl:i=k:=by omega
        unfold dgB;simp;omega)
      go_wp2_with (fail)
      exact ⟨⟨k+1,by omega,by simp,HI2⟩,by simp [intOf];omega⟩
   ·have e:k=s.size:=by omega
    have HE:=hZz (HF.out.good (by omega) HG.out (fun i h=>HI.out i h (by omega)));subst e;go_wp2_with (fail)
    go_returns;exact ⟨(congrArg (fun b=>Ending.returned (Value.bool b)) HE.out).symm,rfl⟩
end Go.Proofs.YtekdhlfapejijaaGreatDoor
