/- RO23, RO24 -/
import Derived.Test.YtekdhlfapejijaaGreatDoorPRO22
set_option linter.unusedVariables false
set_option linter.unusedSimpArgs false
namespace Go.Proofs.YtekdhlfapejijaaGreatDoor
open Go.RowKit
set_option maxRecDepth 100000
set_option maxHeartbeats 8000000
attribute [local go_sem] zacZ
open Go.Proofs.Tryz
def NV (w0 w:World) (nv vv:Value) (l:List (ByteArray × ValD)):Prop :=
 w.ownsRow w0.heap.size 9 1 nv l.length ((l.map fun p:ByteArray × ValD=>p.1).map Value.string)∧∃ vs:List Value,w.ownsRow w0.heap.size 22 1 vv l.length vs∧vs.length=l.length∧∀ i (h:i<vs.length) (h':i<l.length),ValV w0 vs[i] l[i].2
theorem NV.snoc {w0 w w1 w2:World} {nv vv nv' vv' x:Value} {l:List (ByteArray × ValD)} {k:ByteArray} {y:ValD} {vs:List Value} (hn:w.ownsRow w0.heap.size 9 1 nv l.length ((l.map fun p:ByteArray × ValD=>p.1).map Value.string)) (hvl:vs.length=l.length) (hvv:∀ i (h:i<vs.length) (h':i<l.length),ValV w0 vs[i] l[i].2) (hn1:w1.ownsRow w0.heap.size 9 1 nv' (l.length+1) (((l.map fun p:ByteArray × ValD=>p.1).map Value.string) ++ [.string k])) (hv1:w1.ownsRow w0.heap.size 22 1 vv l.length vs) (hv2:w2.ownsRow w0.heap.size 22 1 vv' (l.length+1) (vs ++ [x])) (hg2:w1.grownBy w2 vv.ownBlock) (hx:ValV w0 x y):NV w0 w2 nv' vv' (l ++ [(k,y)]):=by
 refine ⟨?_,vs ++ [x],?_,by simp [hvl],fun i a b=>?_⟩
 ·have:=(KT.grown hv1 hg2).own (by decide) hn1
  rw [List.length_append,List.map_append,List.map_append];exact this
 ·rw [List.length_append];exact hv2
 ·by_cases hi:i<vs.length
  ·rw [List.getElem_append_left hi]
   have h2:=hvv i hi (by omega);rw [show (l ++ [(k,y)])[i]=l[i] from List.getElem_append_left (by omega)];exact h2
  ·have e:i=vs.length:=by simp at a;omega
   subst e;rw [List.getElem_append_right (by omega)];have e2:(l ++ [(k,y)])[vs.length]=(k,y):=by rw [List.getElem_append_right (by omega)];simp [hvl]
   rw [e2];simpa using hx
set_option maxHeartbeats 16000000 in
theorem fput_any (c:CellD) (r x:ValD) (key:ByteArray) (v xv:Value) (w:World) (h:ValV w v (c :: r)) (hx:ValV w xv x) (hp:Pow w) (hck:checkF (c :: r)=0) (hk:c.kind=6) (hcx:checkF x=0) (hkl:key.size≤4294967296) :
  Calls prog 111 #[v,.string key,xv] w (RetV w (putR (c :: r) key x)):=by
 obtain ⟨P,hP⟩:∃ P:Ending→World→Prop,RetV w (putR (c :: r) key x)=P:=⟨_,rfl⟩
 rw [hP];have HP:=hZz hP;have ho:OkV (c :: r):=zahZ hck;have hox:OkV x:=zahZ hcx;have HK0:=fkeys_any (c :: r) v w h hp ho
 have hKO:keysOf (c :: r)=((partsOf (c :: r)).map (fun p:ByteArray × ValD=>p.1),0):=by
  unfold keysOf;rw [if_neg (not_not_intro hck)];simp only;rw [if_pos hk]
 have hIT:=za9Y hck (.inr hk);have HIT:Hid (∀ wx,Below w.heap.size w wx→Calls prog 63 #[v] wx (RetL wx (itemsR (c :: r)))):=hZz (fun wx hb=>zc7Y _ _ wx (h.below hb) (hp.below hb) ho);have hpl:=zagY ho hck (.inr hk);have hpc:=parts_ok ho hck hk;have hpk:=zcjY ho hck hk
 have hR:putR (c :: r) key x=okR (mapM ((putL key x (partsOf (c :: r))).length:Nat) (putL key x (partsOf (c :: r)))):=by
  unfold putR;rw [if_neg (not_not_intro hck)];simp only;rw [if_neg (not_not_intro hk),if_neg (not_not_intro hcx)]
 obtain ⟨ps,hps⟩:∃ t,partsOf (c :: r)=t:=⟨_,rfl⟩
 rw [hps] at hKO hIT hpl hpc hpk hR;rw [hIT] at HIT;rw [hKO] at HK0;have HR:=hZz hR;obtain ⟨BR,hBR⟩:∃ t,putR (c :: r) key x=t:=⟨_,rfl⟩
 rw [hBR] at HR HP;obtain ⟨N,hN⟩:∃ t,ps.length=t:=⟨_,rfl⟩
 have HN:=hZz hN;have hN200:N≤200:=by omega
 have HK:Hid (Calls prog 108 #[v] w fun e1 w'=>∃ kA kc,e1=.returned (.tuple #[.slice kA N kc,.int .i64 0])∧w'.ownsRow w.heap.size 9 1 (.slice kA N kc) N ((ps.map (fun p:ByteArray × ValD=>p.1)).map Value.string)∧Below w.heap.size w w'):=hZz (HK0.mono fun e1 w' ⟨ov,a,b,c⟩=>by
  obtain ⟨kA,kc,rfl⟩:=zaeZ b;rw [show (List.map (fun p:ByteArray × ValD=>p.1) ps).length=N from by rw [List.length_map,hN]] at a b;exact ⟨kA,kc,a,b,c⟩)
 obtain ⟨xA,xcap,rfl,hxc,hxm,hxs⟩:=hx.at;have HCX0:∀ wx,Below w.heap.size w wx→Calls prog 34 #[.slice xA x.length xcap] wx fun e w'=>e=.returned (.int .i64 (checkF x))∧Below wx.heap.size wx w':=fun wx hb=>zarY x xA xcap wx (hxs.below hb) (hp.below hb) hox.1 hox.2
 rw [hcx] at HCX0;have HCX:=hZz HCX0;have HX:=hZz hx;have HBD:=hZz (putF_bd key x ps)
 have HMEM:Hid (∀ q:ByteArray × ValD,(q∈ps∨q=(key,x))→checkF q.2=0∧q.1.size≤4294967296):=hZz (fun q hq=>by
  rcases hq with hq | rfl
  ·exact ⟨hpc q hq,by have:=hpk q hq;omega⟩
  ·exact ⟨hcx,hkl⟩)
 have HPW:=hZz hp;obtain ⟨i1,hj,hy0,hy1,hy2⟩:=info_parts Tryz.infoStrE;obtain ⟨i2,hj',hz0,hz1,hz2⟩:=info_parts Tryz.infoVal;obtain ⟨xn,hxn⟩:∃ t,x.length=t:=⟨_,rfl⟩
 rw [hxn] at HCX HX ⊢;clear hck h hx hp ho hox hk hKO hIT hR hps hBR HK0 hN hP hpl hpc hpk HCX0 hxs hxc hxm hcx hxn hkl;go_enter func111,ntmps111
 go_wp2_with (first
  | (go_at_call 108;((with_reducible refine HK.out.mono ?_);rintro e1 w1 ⟨kA,kc,rfl,hk1,hb1⟩;have HB1:=hZz hb1;have HKS:=hZz hk1;clear hb1 hk1))
  | (go_at_call 34;((with_reducible refine (HCX.out _ HB1.out).mono ?_);rintro e1 w2 ⟨rfl,hb2⟩;have HB2:=hZz (zadZ hb2 HB1.out);have HKS2:=hZz (zajZ HKS.out hb2);clear hb2))
  | (go_at_call 63;((with_reducible refine (HIT.out _ HB2.out).mono ?_);rintro e2 w3 ⟨iv,rfl,hi3,hb3⟩;have HB3:=hZz (zadZ hb3 HB2.out);have HKS3:=hZz (zajZ HKS2.out hb3);have HIS:=hZz hi3;clear hb3 hi3)))
 obtain ⟨gI,cI,hiv⟩:∃ gI cI,iv=.slice gI N cI:=by
  obtain ⟨A,cap,e⟩:=HIS.out.shape;rw [List.length_map,HN.out] at e;exact ⟨A,cap,e⟩
 subst hiv;have HXW:Hid (ValV w3 (.slice xA xn xcap) x):=hZz (HX.out.below HB3.out);have HPW3:=hZz (HPW.out.below HB3.out)
 have HEND:Hid (∀ nv vv l wx,NV w3 wx nv vv l→Below w3.heap.size w3 wx→l.length≤300→(∀ q∈l,q∈ps∨q=(key,x))→Calls prog 157 #[nv,vv] wx (RetV wx (okR (mapM (l.length:Nat) l)))):=hZz (fun nv vv l wx hv hb hl hm=>by
  obtain ⟨h1,vs,h2,h3,h4⟩:=hv;obtain ⟨nA,nc,rfl⟩:=zaeZ h1;obtain ⟨vA,vc,rfl⟩:=zaeZ h2;exact fmap_any l vs nA vA l.length nc vc _ _ wx rfl hl h1 h2 h3 (fun i a b=>(h4 i a b).below hb) (HPW3.out.below hb) (fun q hq=>(HMEM.out q (hm q hq)).1) (fun q hq=>(HMEM.out q (hm q hq)).2))
 clear HK HCX HIT HX HPW HPW3 HMEM HB1 HB2 HKS HKS2;go_loopw [12,13,14,15] (fun nv vv dv kv wr=>∃ (K:Nat),kv=.int .i64 (K:Nat)∧K≤N∧dv=.bool (putF key x (ps.take K)).2∧Hid (NV w3 wr nv vv (putF key x (ps.take K)).1)∧Hid (Below w3.heap.size w3 wr)) (fun _ _ _ kv _=>N - (intOf kv).toNat)
 case atStart=>exact ⟨0,rfl,Nat.zero_le _,rfl,hZz ⟨World.ownsRow_nil _ _ _ _,[],World.ownsRow_nil _ _ _ _,rfl,fun i h=>absurd h (by simp)⟩,hZz (Below.refl _ _)⟩
 case round =>
  obtain ⟨K,rfl,hKN,rfl,HV,HB⟩:=hrel;have hK0:(0:Int)≤(K:Int):=by omega
  have hbd:=HBD.out K (by rw [HN.out];exact hKN);have HM0:=hZz hbd.2;obtain ⟨⟨la,dn⟩,hacc⟩:∃ t,putF key x (ps.take K)=t:=⟨_,rfl⟩
  have HACC:=hZz hacc;rw [hacc] at HV HM0 hbd ⊢;dsimp only at HV HM0 hbd ⊢;have hla:la.length≤201:=by have:=hbd.1;split at this <;> omega
  obtain ⟨hn0,vs,hv0,hvl,hvv⟩:=HV.out;obtain ⟨n,hn⟩:∃ t,la.length=t:=⟨_,rfl⟩
  have HLA:=hZz hn;rw [hn] at hn0 hv0 hvl hla;obtain ⟨nA,nc,rfl⟩:=zaeZ hn0;obtain ⟨vA,vc,rfl⟩:=zaeZ hv0;have HN0:=hZz hn0;have HV0:=hZz hv0;have HVL:=hZz hvl;have HVV:=hZz hvv;have HBS:Hid (w3.heap.size≤wr.heap.size):=hZz HB.out.size;clear hbd hacc hn0 hv0 hvl hvv hn;by_cases hlt:K<N
  case neg =>
   have e:K=N:=by omega
   subst e;have HACC2:Hid (putF key x ps=(la,dn)):=hZz (by have:=HACC.out;rwa [List.take_of_length_le (by rw [HN.out];exact Nat.le_refl _)] at this);have hlt':¬ (K:Int)<(K:Int):=by omega
   clear hKN hlt;cases dn with
   | true =>
    have HR2:Hid (BR=okR (mapM (la.length:Nat) la)):=hZz (by
     have e:putL key x ps=la:=by unfold putL;rw [HACC2.out];rfl
     rw [HR.out,e])
    have HF:=hZz (HEND.out _ _ la wr HV.out HB.out (by rw [HLA.out];omega) HM0.out);obtain ⟨FR,hFR⟩:∃ t,okR (mapM (la.length:Nat) la)=t:=⟨_,rfl⟩
    rw [hFR] at HF HR2;clear hFR
    go_wp2_with (first
     | (go_at_call 157;((with_reducible refine HF.out.mono ?_);rintro e w5 ⟨u,rfl,hu,hb5⟩;have HU5:=hZz hu;have HB5:=hZz (zaaZ hb5 HB.out HB.out.size);clear hu hb5)))
    rw [← HP.out,HR2.out];exact ⟨u,rfl,HU5.out,zadZ HB5.out HB3.out⟩
   | false =>
    have HR2:Hid (BR=okR (mapM ((la ++ [(key,x)]).length:Nat) (la ++ [(key,x)]))):=hZz (by
     have e:putL key x ps=la ++ [(key,x)]:=by unfold putL;rw [HACC2.out];rfl
     rw [HR.out,e])
    have HF:Hid (∀ nv vv wx,NV w3 wx nv vv (la ++ [(key,x)])→Below w3.heap.size w3 wx→Calls prog 157 #[nv,vv] wx (RetV wx (okR (mapM ((la ++ [(key,x)]).length:Nat) (la ++ [(key,x)]))))):=hZz (fun nv vv wx h1 h2=>HEND.out nv vv _ wx h1 h2 (by rw [List.length_append,HLA.out];simp;omega) (fun q hq=>by
     rcases List.mem_append.1 hq with hq | hq
     ·exact HM0.out q hq
     ·exact .inr (by simpa using hq)))
    obtain ⟨FR,hFR⟩:∃ t,okR (mapM ((la ++ [(key,x)]).length:Nat) (la ++ [(key,x)]))=t:=⟨_,rfl⟩
    rw [hFR] at HF HR2;clear hFR
    go_wp2_with (first
     | (at_builtin;refine zakZ rfl (.tmp 80) (.tmp 82) 68 rfl i1 _ 16 underlying68 hj hy0 hy1 hy2 rfl (by omega) rfl HN0.out [.string key] rfl rfl (by simp [Value.oneCell']) (by omega) (by omega) HBS.out ?_;intro nvc wnc hown hb hs hg;have HNc1:=hZz hown;have HVc1:=hZz ((KT.grown HN0.out hg).own (by decide) HV0.out);have HBc1:=hZz (HB.out.trans hb);have hbsc:=HBc1.out.size;clear hown hb hs hg)
     | (at_builtin;refine zakZ rfl (.tmp 84) (.tmp 86) 31 rfl i2 _ 24 underlying31 hj' hz0 hz1 hz2 rfl (by omega) rfl HVc1.out [.slice xA xn xcap] rfl rfl (by simp [Value.oneCell']) (by omega) (by omega) hbsc ?_;intro vvc wvc hown hb hs hg;have HVc:=hZz (NV.snoc (w:=wr) (l:=la) (by rw [HLA.out];exact HN0.out) (by rw [HLA.out];exact HVL.out) HVV.out (by rw [HLA.out];exact HNc1.out) (by rw [HLA.out];exact HVc1.out) (by rw [HLA.out];exact hown) hg HXW.out);have HBc:=hZz (HBc1.out.trans hb);clear hown hb hs hg)
     | (go_at_call 157;((with_reducible refine (HF.out _ _ _ HVc.out HBc.out).mono ?_);rintro e w5 ⟨u,rfl,hu,hb5⟩;have HU5:=hZz hu;have HB5:=hZz (zaaZ hb5 HBc.out HBc.out.size);clear hu hb5)))
    rw [← HP.out,HR2.out];exact ⟨u,rfl,HU5.out,zadZ HB5.out HB3.out⟩
  have hlt':(K:Int)<(N:Int):=by omega
  have hKp:K<ps.length:=by have:=HN.out;omega
  obtain ⟨g,cap,y,e1,hc1,hc2⟩:=own_at0 HKS3.out K hlt (by rw [List.length_map,List.length_map,HN.out]);injection e1 with e1 e2 e3
  subst e1 e3
  have hc3:y=.string ps[K].1:=by
   rw [List.getElem?_map,List.getElem?_map,List.getElem?_eq_getElem hKp] at hc2;exact (Option.some.inj hc2).symm
  subst hc3;obtain ⟨g',cap',u,e4,hu,hvt⟩:=vals_at0 HIS.out K (by rw [List.length_map];exact hKp);rw [List.length_map,HN.out] at e4;injection e4 with e4 e5 e6
  subst e4 e6
  have hvu:ValV w3 u ps[K].2:=by
   have h:=hvt.1;rw [List.getD_eq_getElem?_getD,List.getElem?_map,List.getElem?_eq_getElem hKp] at h;exact h
  obtain ⟨uA,un,uc,rfl⟩:=hvu.shape;have HSTEP:=hZz (putF_snoc key x hKp);rw [HACC.out] at HSTEP;have hkey:=zbfY ps[K].1 key;have heta:ps[K]=(ps[K].1,ps[K].2):=rfl;obtain ⟨kk,hkk⟩:∃ t,ps[K].1=t:=⟨_,rfl⟩
  obtain ⟨yy,hyy⟩:∃ t,ps[K].2=t:=⟨_,rfl⟩
  rw [hkk,hyy] at heta;rw [heta] at HSTEP;rw [hkk] at hc1 hkey;rw [hyy] at hvu;have HC1:=hZz hc1;have HCU:=hZz hu;have HVU:=hZz hvu;have d0:=zaiZ hc1 HB.out;have d1:=zaiZ hu HB.out;have hw1:IntKind.i64.wrap ((K:Int)+1)=(K:Int)+1:=IntWalk.i64_in _ (by omega);clear hc1 hc2 hu hvt hvu hkk hyy heta hKp;cases dn with
  | true =>
   by_cases heq:kk=key
   ·have HST:Hid (putF key x (ps.take (K+1))=(la,true)):=hZz (by rw [HSTEP.out];unfold putStep;simp [heq])
    have hke:(kk.toList == key.toList)=true:=by rw [hkey];simp [heq]
    have hkn:(kk.toList != key.toList)=false:=by unfold bne;rw [hke];rfl
    clear HSTEP hkey heq HACC;go_wp2_with (fail)
    exact ⟨⟨K+1,by simp,hlt,by rw [HST.out],hZz (by rw [HST.out];exact HV.out),HB⟩,by simp [intOf];omega⟩
   ·have HST:Hid (putF key x (ps.take (K+1))=((la ++ [(kk,yy)]),true)):=hZz (by rw [HSTEP.out];unfold putStep;simp [heq])
    have hke:(kk.toList == key.toList)=false:=by rw [hkey];simp [heq]
    have hkn:(kk.toList != key.toList)=true:=by unfold bne;rw [hke];rfl
    clear HSTEP hkey heq HACC
    go_wp2_with (first
     | (at_builtin;refine zakZ rfl (.tmp 64) (.tmp 69) 68 rfl i1 _ 16 underlying68 hj hy0 hy1 hy2 rfl (by omega) rfl HN0.out [.string kk] rfl rfl (by simp [Value.oneCell']) (by omega) (by omega) HBS.out ?_;intro nvb wnb hown hb hs hg;have HNb1:=hZz hown;have HVb1:=hZz ((KT.grown HN0.out hg).own (by decide) HV0.out);have HBb1:=hZz (HB.out.trans hb);have hbsb:=HBb1.out.size;have e0:=zaiZ HC1.out HBb1.out;have e1:=zaiZ HCU.out HBb1.out;clear hown hb hs hg)
     | (at_builtin;refine zakZ rfl (.tmp 71) (.tmp 76) 31 rfl i2 _ 24 underlying31 hj' hz0 hz1 hz2 rfl (by omega) rfl HVb1.out [.slice uA un uc] rfl rfl (by simp [Value.oneCell']) (by omega) (by omega) hbsb ?_;intro vvb wvb hown hb hs hg;have HVb:=hZz (NV.snoc (w:=wr) (l:=la) (by rw [HLA.out];exact HN0.out) (by rw [HLA.out];exact HVL.out) HVV.out (by rw [HLA.out];exact HNb1.out) (by rw [HLA.out];exact HVb1.out) (by rw [HLA.out];exact hown) hg HVU.out);have HBb:=hZz (HBb1.out.trans hb);have e0:=zaiZ HC1.out HBb.out;have e1:=zaiZ HCU.out HBb.out;clear hown hb hs hg))
    exact ⟨⟨K+1,by simp,hlt,by rw [HST.out],hZz (by rw [HST.out];exact HVb.out),HBb⟩,by simp [intOf];omega⟩
  | false =>
   cases hb:Op.bytesLess kk.toList key.toList with
   | true =>
    have hge:(!Op.bytesLess kk.toList key.toList)=false:=by rw [hb];rfl
    by_cases heq:kk=key
    ·have HST:Hid (putF key x (ps.take (K+1))=(la,false)):=hZz (by rw [HSTEP.out];unfold putStep;simp only [hb];simp [heq])
     have hke:(kk.toList == key.toList)=true:=by rw [hkey];simp [heq]
     have hkn:(kk.toList != key.toList)=false:=by unfold bne;rw [hke];rfl
     clear HSTEP hkey heq HACC;go_wp2_with (fail)
     exact ⟨⟨K+1,by simp,hlt,by rw [HST.out],hZz (by rw [HST.out];exact HV.out),HB⟩,by simp [intOf];omega⟩
    ·have HST:Hid (putF key x (ps.take (K+1))=((la ++ [(kk,yy)]),false)):=hZz (by rw [HSTEP.out];unfold putStep;simp only [hb];simp [heq])
     have hke:(kk.toList == key.toList)=false:=by rw [hkey];simp [heq]
     have hkn:(kk.toList != key.toList)=true:=by unfold bne;rw [hke];rfl
     clear HSTEP hkey heq HACC
     go_wp2_with (first
      | (at_builtin;refine zakZ rfl (.tmp 64) (.tmp 69) 68 rfl i1 _ 16 underlying68 hj hy0 hy1 hy2 rfl (by omega) rfl HN0.out [.string kk] rfl rfl (by simp [Value.oneCell']) (by omega) (by omega) HBS.out ?_;intro nvb wnb hown hb hs hg;have HNb1:=hZz hown;have HVb1:=hZz ((KT.grown HN0.out hg).own (by decide) HV0.out);have HBb1:=hZz (HB.out.trans hb);have hbsb:=HBb1.out.size;have e0:=zaiZ HC1.out HBb1.out;have e1:=zaiZ HCU.out HBb1.out;clear hown hb hs hg)
      | (at_builtin;refine zakZ rfl (.tmp 71) (.tmp 76) 31 rfl i2 _ 24 underlying31 hj' hz0 hz1 hz2 rfl (by omega) rfl HVb1.out [.slice uA un uc] rfl rfl (by simp [Value.oneCell']) (by omega) (by omega) hbsb ?_;intro vvb wvb hown hb hs hg;have HVb:=hZz (NV.snoc (w:=wr) (l:=la) (by rw [HLA.out];exact HN0.out) (by rw [HLA.out];exact HVL.out) HVV.out (by rw [HLA.out];exact HNb1.out) (by rw [HLA.out];exact HVb1.out) (by rw [HLA.out];exact hown) hg HVU.out);have HBb:=hZz (HBb1.out.trans hb);have e0:=zaiZ HC1.out HBb.out;have e1:=zaiZ HCU.out HBb.out;clear hown hb hs hg))
     exact ⟨⟨K+1,by simp,hlt,by rw [HST.out],hZz (by rw [HST.out];exact HVb.out),HBb⟩,by simp [intOf];omega⟩
   | false =>
    have hge:(!Op.bytesLess kk.toList key.toList)=true:=by rw [hb];rfl
    by_cases heq:kk=key
    ·have HST:Hid (putF key x (ps.take (K+1))=((la ++ [(key,x)]),true)):=hZz (by rw [HSTEP.out];unfold putStep;simp only [hb];simp [heq])
     have hke:(kk.toList == key.toList)=true:=by rw [hkey];simp [heq]
     have hkn:(kk.toList != key.toList)=false:=by unfold bne;rw [hke];rfl
     clear HSTEP hkey heq HACC
     go_wp2_with (first
      | (at_builtin;refine zakZ rfl (.tmp 50) (.tmp 52) 68 rfl i1 _ 16 underlying68 hj hy0 hy1 hy2 rfl (by omega) rfl HN0.out [.string key] rfl rfl (by simp [Value.oneCell']) (by omega) (by omega) HBS.out ?_;intro nva wna hown hb hs hg;have HNa1:=hZz hown;have HVa1:=hZz ((KT.grown HN0.out hg).own (by decide) HV0.out);have HBa1:=hZz (HB.out.trans hb);have hbsa:=HBa1.out.size;have d0:=zaiZ HC1.out HBa1.out;have d1:=zaiZ HCU.out HBa1.out;clear hown hb hs hg)
      | (at_builtin;refine zakZ rfl (.tmp 54) (.tmp 56) 31 rfl i2 _ 24 underlying31 hj' hz0 hz1 hz2 rfl (by omega) rfl HVa1.out [.slice xA xn xcap] rfl rfl (by simp [Value.oneCell']) (by omega) (by omega) hbsa ?_;intro vva wva hown hb hs hg;have HVa:=hZz (NV.snoc (w:=wr) (l:=la) (by rw [HLA.out];exact HN0.out) (by rw [HLA.out];exact HVL.out) HVV.out (by rw [HLA.out];exact HNa1.out) (by rw [HLA.out];exact HVa1.out) (by rw [HLA.out];exact hown) hg HXW.out);have HBa:=hZz (HBa1.out.trans hb);have d0:=zaiZ HC1.out HBa.out;have d1:=zaiZ HCU.out HBa.out;obtain ⟨hna,vsa,hva,hvla,hvva⟩:=HVa.out;have HNNa:=hZz hna;have HVLLa:=hZz hvla;have HVVVa:=hZz hvva;have HLLa:Hid ((la ++ [(key,x)]).length=n+1):=hZz (by rw [List.length_append,HLA.out];rfl);rw [HLLa.out] at hna hva;obtain ⟨nAa,nca,rfl⟩:=zaeZ hna;obtain ⟨vAa,vca,rfl⟩:=zaeZ hva;have HNa:=hZz hna;have HVaR:=hZz hva;have HBSa:Hid (w3.heap.size≤wva.heap.size):=hZz HBa.out.size;clear hna hva hvla hvva;clear hown hb hs hg))
     exact ⟨⟨K+1,by simp,hlt,by rw [HST.out],hZz (by rw [HST.out];exact HVa.out),HBa⟩,by simp [intOf];omega⟩
    ·have HST:Hid (putF key x (ps.take (K+1))=(((la ++ [(key,x)]) ++ [(kk,yy)]),true)):=hZz (by rw [HSTEP.out];unfold putStep;simp only [hb];simp [heq])
     have hke:(kk.toList == key.toList)=false:=by rw [hkey];simp [heq]
     have hkn:(kk.toList != key.toList)=true:=by unfold bne;rw [hke];rfl
     clear HSTEP hkey heq HACC
     go_wp2_with (first
      | (at_builtin;refine zakZ rfl (.tmp 50) (.tmp 52) 68 rfl i1 _ 16 underlying68 hj hy0 hy1 hy2 rfl (by omega) rfl HN0.out [.string key] rfl rfl (by simp [Value.oneCell']) (by omega) (by omega) HBS.out ?_;intro nva wna hown hb hs hg;have HNa1:=hZz hown;have HVa1:=hZz ((KT.grown HN0.out hg).own (by decide) HV0.out);have HBa1:=hZz (HB.out.trans hb);have hbsa:=HBa1.out.size;have d0:=zaiZ HC1.out HBa1.out;have d1:=zaiZ HCU.out HBa1.out;clear hown hb hs hg)
      | (at_builtin;refine zakZ rfl (.tmp 54) (.tmp 56) 31 rfl i2 _ 24 underlying31 hj' hz0 hz1 hz2 rfl (by omega) rfl HVa1.out [.slice xA xn xcap] rfl rfl (by simp [Value.oneCell']) (by omega) (by omega) hbsa ?_;intro vva wva hown hb hs hg;have HVa:=hZz (NV.snoc (w:=wr) (l:=la) (by rw [HLA.out];exact HN0.out) (by rw [HLA.out];exact HVL.out) HVV.out (by rw [HLA.out];exact HNa1.out) (by rw [HLA.out];exact HVa1.out) (by rw [HLA.out];exact hown) hg HXW.out);have HBa:=hZz (HBa1.out.trans hb);have d0:=zaiZ HC1.out HBa.out;have d1:=zaiZ HCU.out HBa.out;obtain ⟨hna,vsa,hva,hvla,hvva⟩:=HVa.out;have HNNa:=hZz hna;have HVLLa:=hZz hvla;have HVVVa:=hZz hvva;have HLLa:Hid ((la ++ [(key,x)]).length=n+1):=hZz (by rw [List.length_append,HLA.out];rfl);rw [HLLa.out] at hna hva;obtain ⟨nAa,nca,rfl⟩:=zaeZ hna;obtain ⟨vAa,vca,rfl⟩:=zaeZ hva;have HNa:=hZz hna;have HVaR:=hZz hva;have HBSa:Hid (w3.heap.size≤wva.heap.size):=hZz HBa.out.size;clear hna hva hvla hvva;clear hown hb hs hg)
      | (at_builtin;refine zakZ rfl (.tmp 64) (.tmp 69) 68 rfl i1 _ 16 underlying68 hj hy0 hy1 hy2 rfl (by omega) rfl HNa.out [.string kk] rfl rfl (by simp [Value.oneCell']) (by omega) (by omega) HBSa.out ?_;intro nvb wnb hown hb hs hg;have HNb1:=hZz hown;have HVb1:=hZz ((KT.grown HNa.out hg).own (by decide) HVaR.out);have HBb1:=hZz (HBa.out.trans hb);have hbsb:=HBb1.out.size;have e0:=zaiZ HC1.out HBb1.out;have e1:=zaiZ HCU.out HBb1.out;clear hown hb hs hg)
      | (at_builtin;refine zakZ rfl (.tmp 71) (.tmp 76) 31 rfl i2 _ 24 underlying31 hj' hz0 hz1 hz2 rfl (by omega) rfl HVb1.out [.slice uA un uc] rfl rfl (by simp [Value.oneCell']) (by omega) (by omega) hbsb ?_;intro vvb wvb hown hb hs hg;have HVb:=hZz (NV.snoc (w:=wva) (l:=la ++ [(key,x)]) HNNa.out HVLLa.out HVVVa.out (by rw [HLLa.out];exact HNb1.out) (by rw [HLLa.out];exact HVb1.out) (by rw [HLLa.out];exact hown) hg HVU.out);have HBb:=hZz (HBb1.out.trans hb);have e0:=zaiZ HC1.out HBb.out;have e1:=zaiZ HCU.out HBb.out;clear hown hb hs hg))
     exact ⟨⟨K+1,by simp,hlt,by rw [HST.out],hZz (by rw [HST.out];exact HVb.out),HBb⟩,by simp [intOf];omega⟩
theorem fextput_any (name:ByteArray) (hn:name.toList=[112,117,116]) (a b z:ValD) (v:Value) (w:World) (h:ValsV w v [a,b,z]) (hp:Pow w) (c1:checkF a=0) (c2:checkF b=0) (c3:checkF z=0) :
  Calls prog 60 #[.string name,v] w (RetV w (builtR [112,117,116] [a,b,z])):=by
 obtain ⟨P,hP⟩:∃ P:Ending→World→Prop,RetV w (builtR [112,117,116] [a,b,z])=P:=⟨_,rfl⟩
 rw [hP];have HP:=hZz hP;have t0:(name.toList == [112,117,115,104])=false:=zalZ (by rw [hn];decide);have t1:(name.toList == [104,97,115])=false:=zalZ (by rw [hn];decide);obtain ⟨bR,oR,cap,rfl,hat⟩:=za2Y h (by simp);simp only [List.length_cons,List.length_nil,Nat.zero_add,Nat.reduceAdd] at hat ⊢;obtain ⟨x0,hx0,hv0⟩:=hat 0 (by decide);obtain ⟨x1,hx1,hv1⟩:=hat 1 (by decide);obtain ⟨x2,hx2,hv2⟩:=hat 2 (by decide);simp only [List.getElem_cons_zero,List.getElem_cons_succ,Nat.add_zero] at hx0 hx1 hx2 hv0 hv1 hv2
 obtain ⟨x,r,rfl⟩:∃ c r,a=c :: r:=by
  cases a with
  | nil=>exact absurd rfl (zaoZ c1)
  | cons c r=>exact ⟨c,r,rfl⟩
 obtain ⟨y,s,rfl⟩:∃ c r,b=c :: r:=by
  cases b with
  | nil=>exact absurd rfl (zaoZ c2)
  | cons c r=>exact ⟨c,r,rfl⟩
 have hsz:=za8Y c2 y (by simp);have HPUT:Hid (x.kind=6→∀ wx,Below w.heap.size w wx→Calls prog 111 #[x0,.string y.str,x2] wx (RetV wx (putR (x :: r) y.str z))):=hZz (fun h6 wx hb=>fput_any x r z y.str x0 x2 wx (hv0.below hb) (hv2.below hb) (hp.below hb) c1 h6 c3 (by omega));obtain ⟨bA,oA,n1,k1,rfl,hn1,p0,p1,p2,p3⟩:=zanZ hv0;obtain ⟨bB,oB,n2,k2,rfl,hn2,q0,q1,q2,q3⟩:=zanZ hv1;obtain ⟨A3,n3,k3,rfl⟩:=hv2.shape;have hposA:(0:Int)<(n1:Int):=by omega
 have hposB:(0:Int)<(n2:Int):=by omega
 have hpBn:0<n2:=by omega
 obtain ⟨BR,hBR⟩:∃ t,builtR [112,117,116] [x :: r,y :: s,z]=t:=⟨_,rfl⟩
 have hU:BR=if x.kind≠6∨y.kind≠4 then ([],7) else putR (x :: r) y.str z:=by rw [← hBR];rfl
 rw [hBR] at HP;have HU:=hZz hU;obtain ⟨PR,hPR⟩:∃ t,putR (x :: r) y.str z=t:=⟨_,rfl⟩
 rw [hPR] at HU HPUT;clear hn h c1 c2 c3 hp hP hn1 hn2 hBR hU hPR hat hv0 hv1 hv2 hsz;obtain ⟨k,i,st,nn⟩:=x;obtain ⟨k',i',st',nn'⟩:=y;dsimp only at HU HPUT p0 p1 p2 p3 q0 q1 q2 q3;by_cases h6:k=6
 case neg =>
  have t6:(k != 6)=true:=by simpa using h6
  have HR:Hid (BR=([],7)):=hZz (by rw [HU.out,if_pos (.inl h6)]);clear HU h6;go_enter func60,ntmps60
  go_wp2_with (fail)
  rw [← HP.out];exact RetV.err HR.out (Below.refl _ _)
 subst h6;by_cases h4:k'=4
 case neg =>
  have t4:(k' != 4)=true:=by simpa using h4
  have HR:Hid (BR=([],7)):=hZz (by rw [HU.out,if_pos (.inr h4)]);clear HU h4;go_enter func60,ntmps60
  go_wp2_with (fail)
  rw [← HP.out];exact RetV.err HR.out (Below.refl _ _)
 subst h4;have HR:Hid (BR=PR):=hZz (by rw [HU.out,if_neg (by simp)]);have HQ:=hZz (HPUT.out rfl);clear HU HPUT;go_enter func60,ntmps60
 go_upto_region 14 with fail
 go_region_law (go_simp;go_at_call 111;((refine (HQ.out _ (zafZ _)).mono ?_);rintro e w1 ⟨u,rfl,hu,hb1⟩;have HU1:=hZz hu;have HB1:=hZz (zadZ hb1 (zafZ _));clear hu hb1))
 all_goals
  go_simp;go_wp2_with (fail)
  rw [← HP.out,HR.out];exact ⟨u,rfl,HU1.out,HB1.out⟩
theorem fbuiltin_any (name:ByteArray) (args:List ValD) (av:Value) (w:World) (h:ValsV w av args) (hp:Pow w) (ho:∀ x∈args,OkV x) :
  Calls prog 17 #[.string name,av] w (RetV w (builtinR name args)):=by
 obtain ⟨P,hP⟩:∃ P:Ending→World→Prop,RetV w (builtinR name args)=P:=⟨_,rfl⟩
 rw [hP];have HP:=hZz hP;have HAR:=hZz (farity_any name w);have h0:=h;obtain ⟨A,cap,vs,rfl,hc,hm,hs,hla,hva⟩:=h.at;cases hl:lookL builtL name with
 | none =>
  have HR:Hid (builtinR name args=([],4)):=hZz (by unfold builtinR;rw [hl]);have e1:arityR name=-1:=by unfold arityR;rw [hl];rfl
  rw [e1] at HAR;obtain ⟨N,hN⟩:∃ t,args.length=t:=⟨_,rfl⟩
  rw [hN] at ⊢;clear hP h h0 hp ho hc hm hs hla hva hl e1 hN;go_enter func17,ntmps17
  go_wp2_with (first
   | (go_at_call 57;((with_reducible refine HAR.out.mono ?_);rintro e w1 ⟨rfl,hw⟩;rw [hw];clear hw w1)))
  rw [← HP.out];exact RetV.err HR.out (Below.refl _ _)
 | some n =>
  have e1:arityR name=n:=by unfold arityR;rw [hl];rfl
  rw [e1] at HAR;have hLC:=look_cases hl
  have hn12:1≤n∧n≤3:=by
   rcases hLC with ⟨_,e⟩ | ⟨_,e⟩ | ⟨_,e⟩ | ⟨_,e⟩ | ⟨_,e⟩ | ⟨_,e⟩ | ⟨_,e⟩ | ⟨_,e⟩ <;> omega
  have hR0:builtinR name args=if (args.length:Int)≠n then ([],7) else if firstBad args≠0 then ([],firstBad args) else builtR name.toList args:=by unfold builtinR;rw [hl]
  have hnn:¬ n<0:=by omega
  have ht:args.length≤5864062014634:=hm;by_cases hlen:(args.length:Int)=n
  case neg =>
   have HR:Hid (builtinR name args=([],7)):=hZz (by rw [hR0,if_pos hlen]);obtain ⟨N,hN⟩:∃ t,args.length=t:=⟨_,rfl⟩
   rw [hN] at hlen ht ⊢;have hne:((N:Int) != n)=true:=by simpa using hlen
   clear hP h h0 hp ho hc hm hs hla hva hl e1 hN hR0 hLC hlen;go_enter func17,ntmps17
   go_wp2_with (first
    | (go_at_call 57;((with_reducible refine HAR.out.mono ?_);rintro e w1 ⟨rfl,hw⟩;rw [hw];clear hw w1)))
   rw [← HP.out];exact RetV.err HR.out (Below.refl _ _)
  rw [if_neg (not_not_intro hlen)] at hR0;have HR0:=hZz hR0;have HH:=hZz h0;have HS:=hZz hs;have HVA:=hZz hva;have HLA:=hZz hla;have HPW:=hZz hp;have HOK:=hZz ho;have HLC:=hZz hLC;obtain ⟨N,hN⟩:∃ t,args.length=t:=⟨_,rfl⟩
  have HN:=hZz hN;rw [hN] at hlen ht HH ⊢;have hNn:N≤3:=by omega
  subst hlen;clear hP h h0 hp ho hc hm hs hla hva hl e1 hN hR0 hLC;go_enter func17,ntmps17
  go_wp2_with (first
   | (go_at_call 57;((with_reducible refine HAR.out.mono ?_);rintro e w1 ⟨rfl,hw⟩;rw [hw];clear hw w1)))
  go_loopw [7,8,19] (fun _ _ i wr=>∃ K:Nat,K≤N∧i=.int .i64 (K:Nat)∧Hid (∀ x∈args.take K,checkF x=0)∧Hid (Below w.heap.size w wr)) (fun _ _ i _=>N - (intOf i).toNat)
  case atStart=>exact ⟨0,Nat.zero_le _,rfl,hZz (by simp),hZz (Below.refl _ _)⟩
  case round =>
   obtain ⟨K,hKN,rfl,HCK,HB⟩:=hrel;have hK0:(0:Int)≤(K:Int):=by omega
   by_cases hlt:K<N
   ·have hlt':(K:Int)<(N:Int):=by omega
    have hka:K<args.length:=by rw [HN.out];exact hlt
    have hkv:K<vs.length:=by rw [HLA.out];exact hka
    obtain ⟨x,hx⟩:∃ x,vs[K]=x:=⟨_,rfl⟩
    have hvx:ValV w x args[K]:=(hx ▸ HVA.out K hkv hka:ValV w x args[K])
    obtain ⟨A1,k1,rfl,hc1,hm1,hs1⟩:=hvx.at;obtain ⟨bA,off,rfl,hbA⟩:=HS.out.ptr hkv;have c0:=HS.out.cell0 hkv (v:=.slice A1 args[K].length k1) (by rw [hx];rfl);simp only [Nat.mul_one] at c0;have d0:=zaiZ c0 HB.out;have hok:=HOK.out args[K] (List.getElem_mem hka);have HC:=hZz (zarY args[K] A1 k1 wr (hs1.below HB.out) (HPW.out.below HB.out) hok.1 hok.2);obtain ⟨q,hq⟩:∃ q,args[K].length=q:=⟨_,rfl⟩
    obtain ⟨ck,hck⟩:∃ c,checkF args[K]=c:=⟨_,rfl⟩
    rw [hq] at HC d0;rw [hck] at HC;by_cases hz:ck=0
    ·have HC2:Hid (∀ x∈args.take (K+1),checkF x=0):=hZz (by
      rw [List.take_succ_eq_append_getElem hka];intro x hx;rcases List.mem_append.1 hx with hx | hx
      ·exact HCK.out x hx
      ·have:x=args[K]:=by simpa using hx
       rw [this,hck];exact hz)
     subst hz;clear hx hvx hc1 hm1 hs1 c0 hok hq hck hkv hka
     go_wp2_with (first
      | (go_at_call 34;(with_reducible refine HC.out.mono ?_);rintro e w1 ⟨rfl,hb1⟩;have HB1:=hZz (zaaZ hb1 HB.out HB.out.size);clear hb1))
     exact ⟨⟨K+1,hlt,by simp,HC2,HB1⟩,by simp [intOf];omega⟩
    ·have hne:(ck != 0)=true:=by simpa using hz
     have HR:Hid (builtinR name args=([],ck)):=hZz (by
      rw [HR0.out,za5Y args K hka HCK.out (by rw [hck];exact hz),hck,if_pos hz])
     clear hx hvx hc1 hm1 hs1 c0 hok hq hck hkv hka hz
     go_wp2_with (first
      | (go_at_call 34;(with_reducible refine HC.out.mono ?_);rintro e w1 ⟨rfl,hb1⟩;have HB1:=hZz (zaaZ hb1 HB.out HB.out.size);clear hb1))
     rw [← HP.out];exact RetV.err HR.out HB1.out
   ·have ek:K=N:=by omega
    subst ek;have hall:∀ x∈args,checkF x=0:=by have:=HCK.out;rwa [List.take_of_length_le (by rw [HN.out];exact Nat.le_refl _)] at this
    have hR:builtinR name args=builtR name.toList args:=by rw [HR0.out,zbaY args hall,if_neg (by simp)]
    obtain ⟨BR,hBR⟩:∃ t,builtinR name args=t:=⟨_,rfl⟩
    rw [hBR] at HP hR;have HL:=hZz HLC.out;clear hlt HCK HAR HR0 hBR;have hrun:∀ {l:List UInt8},name=⟨l.toArray⟩→name.toList=l:=fun e=>by rw [e,Lib.toList_data]
    rcases HL.out with ⟨e0,e1⟩ | ⟨e0,e1⟩ | ⟨e0,e1⟩ | ⟨e0,e1⟩ | ⟨e0,e1⟩ | ⟨e0,e1⟩ | ⟨e0,e1⟩ | ⟨e0,e1⟩
    ·have hn:name.toList=[108,101,110]:=hrun e0
     obtain ⟨a,rfl⟩:∃ a,args=[a]:=by
      have:=HN.out
      match args,(show args.length=1 by omega) with
      | [a],_=>exact ⟨a,rfl⟩
     obtain rfl:K=1:=by omega
     rw [hn] at hR;have t_fail:(name.toList == [102,97,105,108])=false:=zalZ (by rw [hn];decide);have t_len:(name.toList == [108,101,110])=true:=zatY hn;have t_keys:(name.toList == [107,101,121,115])=false:=zalZ (by rw [hn];decide);have t_str:(name.toList == [115,116,114])=false:=zalZ (by rw [hn];decide);have t_int:(name.toList == [105,110,116])=false:=zalZ (by rw [hn];decide);have hck:checkF a=0:=hall a (by simp);have hpw:=HPW.out.below HB.out;obtain ⟨b,off,cp,e2,hat⟩:=za2Y HH.out (by simp);injection e2 with e2 e3 e4
     subst e2 e4;clear e3;obtain ⟨x0,hx0,hv0⟩:=hat 0 (by simp);simp only [List.getElem_cons_zero,Nat.add_zero] at hx0 hv0;have hv:=hv0.below HB.out;have d0:=zaiZ hx0 HB.out;have HF:=hZz (fcountlen_any name hn a _ wr hv hck);obtain ⟨R0,hR0⟩:∃ t:ResD,t=BR:=⟨_,rfl⟩
     have HR:Hid (BR=sizeR a):=hZz (by rw [hR];rfl);obtain ⟨FR,hFR⟩:∃ t,sizeR a=t:=⟨_,rfl⟩
     rw [hFR] at HF HR;clear ht hNn hn hR hall hrun e0 e1 HL HLC hFR hR0 R0 hck hpw hv hat hv0 hx0
     go_wp2_with (first
      | (go_at_call 58;((with_reducible refine HF.out.mono ?_);rintro e w5 ⟨u,rfl,hu,hb5⟩;have HU5:=hZz hu;have HB5:=hZz (zaaZ hb5 HB.out HB.out.size);clear hu hb5)))
     rw [← HP.out,HR.out];exact ⟨u,rfl,HU5.out,HB5.out⟩
    ·have hn:name.toList=[115,116,114]:=hrun e0
     obtain ⟨a,rfl⟩:∃ a,args=[a]:=by
      have:=HN.out
      match args,(show args.length=1 by omega) with
      | [a],_=>exact ⟨a,rfl⟩
     obtain rfl:K=1:=by omega
     rw [hn] at hR;have t_fail:(name.toList == [102,97,105,108])=false:=zalZ (by rw [hn];decide);have t_len:(name.toList == [108,101,110])=false:=zalZ (by rw [hn];decide);have t_keys:(name.toList == [107,101,121,115])=false:=zalZ (by rw [hn];decide);have t_str:(name.toList == [115,116,114])=true:=zatY hn;have t_int:(name.toList == [105,110,116])=false:=zalZ (by rw [hn];decide);have hck:checkF a=0:=hall a (by simp);have hpw:=HPW.out.below HB.out;obtain ⟨b,off,cp,e2,hat⟩:=za2Y HH.out (by simp);injection e2 with e2 e3 e4
     subst e2 e4;clear e3;obtain ⟨x0,hx0,hv0⟩:=hat 0 (by simp);simp only [List.getElem_cons_zero,Nat.add_zero] at hx0 hv0;have hv:=hv0.below HB.out;have d0:=zaiZ hx0 HB.out;have HF:=hZz (fturnstr_any name hn a _ wr hv hpw hck);obtain ⟨R0,hR0⟩:∃ t:ResD,t=BR:=⟨_,rfl⟩
     have HR:Hid (BR=textR a):=hZz (by rw [hR];rfl);obtain ⟨FR,hFR⟩:∃ t,textR a=t:=⟨_,rfl⟩
     rw [hFR] at HF HR;clear ht hNn hn hR hall hrun e0 e1 HL HLC hFR hR0 R0 hck hpw hv hat hv0 hx0
     go_wp2_with (first
      | (go_at_call 59;((with_reducible refine HF.out.mono ?_);rintro e w5 ⟨u,rfl,hu,hb5⟩;have HU5:=hZz hu;have HB5:=hZz (zaaZ hb5 HB.out HB.out.size);clear hu hb5)))
     rw [← HP.out,HR.out];exact ⟨u,rfl,HU5.out,HB5.out⟩
    ·have hn:name.toList=[105,110,116]:=hrun e0
     obtain ⟨a,rfl⟩:∃ a,args=[a]:=by
      have:=HN.out
      match args,(show args.length=1 by omega) with
      | [a],_=>exact ⟨a,rfl⟩
     obtain rfl:K=1:=by omega
     rw [hn] at hR;have t_fail:(name.toList == [102,97,105,108])=false:=zalZ (by rw [hn];decide);have t_len:(name.toList == [108,101,110])=false:=zalZ (by rw [hn];decide);have t_keys:(name.toList == [107,101,121,115])=false:=zalZ (by rw [hn];decide);have t_str:(name.toList == [115,116,114])=false:=zalZ (by rw [hn];decide);have t_int:(name.toList == [105,110,116])=true:=zatY hn;have hck:checkF a=0:=hall a (by simp);have hpw:=HPW.out.below HB.out;obtain ⟨b,off,cp,e2,hat⟩:=za2Y HH.out (by simp);injection e2 with e2 e3 e4
     subst e2 e4;clear e3;obtain ⟨x0,hx0,hv0⟩:=hat 0 (by simp);simp only [List.getElem_cons_zero,Nat.add_zero] at hx0 hv0;have hv:=hv0.below HB.out;have d0:=zaiZ hx0 HB.out;have HF:=hZz (fturnint_any name hn a _ wr hv hck);obtain ⟨R0,hR0⟩:∃ t:ResD,t=BR:=⟨_,rfl⟩
     have HR:Hid (BR=integerR a):=hZz (by rw [hR];rfl);obtain ⟨FR,hFR⟩:∃ t,integerR a=t:=⟨_,rfl⟩
     rw [hFR] at HF HR;clear ht hNn hn hR hall hrun e0 e1 HL HLC hFR hR0 R0 hck hpw hv hat hv0 hx0
     go_wp2_with (first
      | (go_at_call 59;((with_reducible refine HF.out.mono ?_);rintro e w5 ⟨u,rfl,hu,hb5⟩;have HU5:=hZz hu;have HB5:=hZz (zaaZ hb5 HB.out HB.out.size);clear hu hb5)))
     rw [← HP.out,HR.out];exact ⟨u,rfl,HU5.out,HB5.out⟩
    ·have hn:name.toList=[112,117,115,104]:=hrun e0
     obtain ⟨a,d,rfl⟩:∃ a d,args=[a,d]:=by
      have:=HN.out
      match args,(show args.length=2 by omega) with
      | [a,d],_=>exact ⟨a,d,rfl⟩
     obtain rfl:K=2:=by omega
     rw [hn] at hR;have t_fail:(name.toList == [102,97,105,108])=false:=zalZ (by rw [hn];decide);have t_len:(name.toList == [108,101,110])=false:=zalZ (by rw [hn];decide);have t_keys:(name.toList == [107,101,121,115])=false:=zalZ (by rw [hn];decide);have t_str:(name.toList == [115,116,114])=false:=zalZ (by rw [hn];decide);have t_int:(name.toList == [105,110,116])=false:=zalZ (by rw [hn];decide);have hck:checkF a=0:=hall a (by simp);have hcd:checkF d=0:=hall d (by simp);have hpw:=HPW.out.below HB.out;have hv:=HH.out.below HB.out;have HF:=hZz (fextpush_any name hn a d _ wr hv hpw (zahZ hck) (zahZ hcd) hck hcd);obtain ⟨R0,hR0⟩:∃ t:ResD,t=BR:=⟨_,rfl⟩
     have HR:Hid (BR=pushR a d):=hZz (by rw [hR];rfl);obtain ⟨FR,hFR⟩:∃ t,pushR a d=t:=⟨_,rfl⟩
     rw [hFR] at HF HR;clear ht hNn hn hR hall hrun e0 e1 HL HLC hFR hR0 R0 hck hpw hv hcd
     go_wp2_with (first
      | (go_at_call 60;((with_reducible refine HF.out.mono ?_);rintro e w5 ⟨u,rfl,hu,hb5⟩;have HU5:=hZz hu;have HB5:=hZz (zaaZ hb5 HB.out HB.out.size);clear hu hb5)))
     rw [← HP.out,HR.out];exact ⟨u,rfl,HU5.out,HB5.out⟩
    ·have hn:name.toList=[112,117,116]:=hrun e0
     obtain ⟨a,d,z,rfl⟩:∃ a d z,args=[a,d,z]:=by
      have:=HN.out
      match args,(show args.length=3 by omega) with
      | [a,d,z],_=>exact ⟨a,d,z,rfl⟩
     obtain rfl:K=3:=by omega
     rw [hn] at hR;have t_fail:(name.toList == [102,97,105,108])=false:=zalZ (by rw [hn];decide);have t_len:(name.toList == [108,101,110])=false:=zalZ (by rw [hn];decide);have t_keys:(name.toList == [107,101,121,115])=false:=zalZ (by rw [hn];decide);have t_str:(name.toList == [115,116,114])=false:=zalZ (by rw [hn];decide);have t_int:(name.toList == [105,110,116])=false:=zalZ (by rw [hn];decide);have hck:checkF a=0:=hall a (by simp);have hcd:checkF d=0:=hall d (by simp);have hcz:checkF z=0:=hall z (by simp);have hpw:=HPW.out.below HB.out;have hv:=HH.out.below HB.out;have HF:=hZz (fextput_any name hn a d z _ wr hv hpw hck hcd hcz);obtain ⟨R0,hR0⟩:∃ t:ResD,t=BR:=⟨_,rfl⟩
     have HR:Hid (BR=builtR [112,117,116] [a,d,z]):=hZz hR;obtain ⟨FR,hFR⟩:∃ t,builtR [112,117,116] [a,d,z]=t:=⟨_,rfl⟩
     rw [hFR] at HF HR;clear ht hNn hn hR hall hrun e0 e1 HL HLC hFR hR0 R0 hck hpw hv hcd hcz
     go_wp2_with (first
      | (go_at_call 60;((with_reducible refine HF.out.mono ?_);rintro e w5 ⟨u,rfl,hu,hb5⟩;have HU5:=hZz hu;have HB5:=hZz (zaaZ hb5 HB.out HB.out.size);clear hu hb5)))
     rw [← HP.out,HR.out];exact ⟨u,rfl,HU5.out,HB5.out⟩
    ·have hn:name.toList=[107,101,121,115]:=hrun e0
     obtain ⟨a,rfl⟩:∃ a,args=[a]:=by
      have:=HN.out
      match args,(show args.length=1 by omega) with
      | [a],_=>exact ⟨a,rfl⟩
     obtain rfl:K=1:=by omega
     rw [hn] at hR;have t_fail:(name.toList == [102,97,105,108])=false:=zalZ (by rw [hn];decide);have t_len:(name.toList == [108,101,110])=false:=zalZ (by rw [hn];decide);have t_keys:(name.toList == [107,101,121,115])=true:=zatY hn;have t_str:(name.toList == [115,116,114])=false:=zalZ (by rw [hn];decide);have t_int:(name.toList == [105,110,116])=false:=zalZ (by rw [hn];decide);have hck:checkF a=0:=hall a (by simp);have hpw:=HPW.out.below HB.out;obtain ⟨b,off,cp,e2,hat⟩:=za2Y HH.out (by simp);injection e2 with e2 e3 e4
     subst e2 e4;clear e3;obtain ⟨x0,hx0,hv0⟩:=hat 0 (by simp);simp only [List.getElem_cons_zero,Nat.add_zero] at hx0 hv0;have hv:=hv0.below HB.out;have d0:=zaiZ hx0 HB.out;have HF:=hZz (fcountkeys_any name hn a _ wr hv hpw (zahZ hck) hck);rw [keysF_eq hck] at HF;obtain ⟨R0,hR0⟩:∃ t:ResD,t=BR:=⟨_,rfl⟩
     have HR:Hid (BR=keysR a):=hZz (by rw [hR];rfl);obtain ⟨FR,hFR⟩:∃ t,keysR a=t:=⟨_,rfl⟩
     rw [hFR] at HF HR;clear ht hNn hn hR hall hrun e0 e1 HL HLC hFR hR0 R0 hck hpw hv hat hv0 hx0
     go_wp2_with (first
      | (go_at_call 58;((with_reducible refine HF.out.mono ?_);rintro e w5 ⟨u,rfl,hu,hb5⟩;have HU5:=hZz hu;have HB5:=hZz (zaaZ hb5 HB.out HB.out.size);clear hu hb5)))
     rw [← HP.out,HR.out];exact ⟨u,rfl,HU5.out,HB5.out⟩
    ·have hn:name.toList=[104,97,115]:=hrun e0
     obtain ⟨a,d,rfl⟩:∃ a d,args=[a,d]:=by
      have:=HN.out
      match args,(show args.length=2 by omega) with
      | [a,d],_=>exact ⟨a,d,rfl⟩
     obtain rfl:K=2:=by omega
     rw [hn] at hR;have t_fail:(name.toList == [102,97,105,108])=false:=zalZ (by rw [hn];decide);have t_len:(name.toList == [108,101,110])=false:=zalZ (by rw [hn];decide);have t_keys:(name.toList == [107,101,121,115])=false:=zalZ (by rw [hn];decide);have t_str:(name.toList == [115,116,114])=false:=zalZ (by rw [hn];decide);have t_int:(name.toList == [105,110,116])=false:=zalZ (by rw [hn];decide);have hck:checkF a=0:=hall a (by simp);have hcd:checkF d=0:=hall d (by simp);have hpw:=HPW.out.below HB.out;have hv:=HH.out.below HB.out;have HF:=hZz (fexthas_any name hn a d _ wr hv hpw (zahZ hck) hck hcd);obtain ⟨R0,hR0⟩:∃ t:ResD,t=BR:=⟨_,rfl⟩
     have HR:Hid (BR=builtR [104,97,115] [a,d]):=hZz hR;obtain ⟨FR,hFR⟩:∃ t,builtR [104,97,115] [a,d]=t:=⟨_,rfl⟩
     rw [hFR] at HF HR;clear ht hNn hn hR hall hrun e0 e1 HL HLC hFR hR0 R0 hck hpw hv hcd
     go_wp2_with (first
      | (go_at_call 60;((with_reducible refine HF.out.mono ?_);rintro e w5 ⟨u,rfl,hu,hb5⟩;have HU5:=hZz hu;have HB5:=hZz (zaaZ hb5 HB.out HB.out.size);clear hu hb5)))
     rw [← HP.out,HR.out];exact ⟨u,rfl,HU5.out,HB5.out⟩
    ·have hn:name.toList=[102,97,105,108]:=hrun e0
     obtain ⟨a,rfl⟩:∃ a,args=[a]:=by
      have:=HN.out
      match args,(show args.length=1 by omega) with
      | [a],_=>exact ⟨a,rfl⟩
     obtain rfl:K=1:=by omega
     rw [hn] at hR;have t_fail:(name.toList == [102,97,105,108])=true:=zatY hn;have t_len:(name.toList == [108,101,110])=false:=zalZ (by rw [hn];decide);have t_keys:(name.toList == [107,101,121,115])=false:=zalZ (by rw [hn];decide);have t_str:(name.toList == [115,116,114])=false:=zalZ (by rw [hn];decide);have t_int:(name.toList == [105,110,116])=false:=zalZ (by rw [hn];decide);have HR:Hid (BR=([],20)):=hZz (by rw [hR];rfl);clear ht hNn hn hR hall hrun e0 e1 HL HLC;go_wp2_with (fail)
     rw [← HP.out];exact RetV.err HR.out HB.out
end Go.Proofs.YtekdhlfapejijaaGreatDoor
