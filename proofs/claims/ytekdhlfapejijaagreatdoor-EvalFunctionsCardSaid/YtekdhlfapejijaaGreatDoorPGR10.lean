/- GR10 -/
import Derived.Test.YtekdhlfapejijaaGreatDoorPGR8
set_option linter.unusedVariables false
set_option linter.unusedSimpArgs false
namespace Go.Proofs.YtekdhlfapejijaaGreatDoor
open Go.RowKit
set_option maxRecDepth 100000
set_option maxHeartbeats 8000000
attribute [local go_sem] zacZ
open Go.Proofs.Tryz
theorem elems_end (l:List CellD):∀ k s t,s.j≤l.length→elems (px l) 0 k s=some t→t.j≤l.length
 | 0,s,t,h,e=>by simp [elems] at e;subst e;exact h
 | k+1,s,t,h,e=>by
  obtain ⟨r,hr,e'⟩:=zamY e;exact elems_end l k ⟨r.j,max s.d (0+r.d),s.b+r.b⟩ t (zapY hr).2 e'
theorem pairs_end (l:List CellD):∀ k last s t,s.j≤l.length→pairs l (px l) 0 k last s=some t→t.j≤l.length
 | 0,last,s,t,h,e=>by simp [pairs] at e;subst e;exact h
 | k+1,last,s,t,h,e=>by
  obtain ⟨c,r,_,_,hr,e'⟩:=zajY e;exact pairs_end l k (some c.str) ⟨r.j,max s.d (0+r.d),s.b+(quotedN c.str+1)+r.b⟩ t (zapY hr).2 e'
theorem text_list (l:List CellD) (A:Option Addr) (cap:Nat) (hl:l.length≤1000000) (hok:∀ c∈l,okC6 c) (hv:∀ c∈l,SmallC c) (j:Nat) (i:Int) (s:ByteArray) (N:Nat) (t:Sh) (hcl:l[j]? = some ⟨5,i,s,N⟩) (ht:elems (px l) 0 N ⟨j+1,0,0⟩=some t) (hN:TextFrom l A cap (j+1)) (w:World) (hp:Pow w) (h:SlAt w A 4 CellD.cells l) :
  Calls prog 83 #[.slice A l.length cap,.int .i64 j] w (TextPost w (sizeN ⟨5,i,s,N⟩ + t.b)):=by
 have hjl:j<l.length:=(List.getElem?_eq_some_iff.mp hcl).1;have hc:l[j]=⟨5,i,s,N⟩:=(List.getElem?_eq_some_iff.mp hcl).2;have hck:=hok _ (hc ▸ List.getElem_mem hjl);have hbb:=elems_b (fun j s hs=>px_b hl hv hs) (fun j s hs=>(zapY hs).1) _ _ _ ht;have hte:=elems_end l _ _ _ (show (⟨j+1,0,0⟩:Sh).j≤l.length from hjl) ht;dsimp only at hbb;have hN6:N≤1000000:=by omega
 have htb:t.b≤17179869184000000:=by omega
 have hNz:sizeN ⟨5,i,s,N⟩=2+max 0 ((N:Int) - 1):=by simp [sizeN]
 obtain ⟨P,hP⟩:∃ P,TextPost w (sizeN ⟨5,i,s,N⟩ + t.b)=P:=⟨_,rfl⟩
 rw [hP];rw [hNz] at hP;have HP:=hZz hP;have HTB:=hZz htb;have HT:=hZz ht;have hji:(j:Int)<(l.length:Int):=by omega
 have hj0:(0:Int)≤(j:Int):=by omega
 have hj1:(j:Int)≤1000000:=by omega
 have HN:=hZz hN;have HA:=hZz h;have HV:=hZz hv;have HPW:=hZz hp;have HOK:=hZz hok;have HX:=hZz (zbnY l A cap hl hok);obtain ⟨bA,off,rfl,_⟩:=h.ptr hjl;have c0:=h.cell0 hjl (v:=.int .i64 5) (by rw [hc];rfl);have c1:=h.cell hjl (j:=1) (v:=.int .i64 i) (by rw [hc];rfl);have c2:=h.cell hjl (j:=2) (v:=.string s) (by rw [hc];rfl);have c3:=h.cell hjl (j:=3) (v:=.int .i64 N) (by rw [hc];rfl);have HBX:=hZz (Blk.new w 53 #[.int .i64 5,.int .i64 i,.string s,.int .i64 N]);have HB0:=hZz (zabZ w (.cells #[.int .i64 5,.int .i64 i,.string s,.int .i64 N] 53));have HBN:Hid (0≤t.b):=hZz hbb.2.1;clear hN h hok hc hcl hck hp hv ht hP hbb hte htb hNz;go_enter func83,ntmps83
 go_wp2_with (fail)
 go_loopw [6,7,8] (fun ov av kv wr=>∃ (k:Nat) (q:Sh) (tx:ByteArray),k≤N∧kv=.int .i64 k∧ov=.string tx∧av=.int .i64 q.j∧j+1≤q.j∧q.j≤l.length∧Hid ((tx.size:Int)=q.b+max 0 ((k:Int) - 1))∧Hid (0≤q.b∧q.b≤t.b)∧Hid (elems (px l) 0 (N - k) q=some t)∧Blk wr w.heap.size 53 #[.int .i64 5,.int .i64 i,.string s,.int .i64 N]∧Below w.heap.size w wr) (fun _ _ kv _=>N - (intOf kv).toNat)
 case atStart=>exact ⟨0,⟨j+1,0,0⟩,_,Nat.zero_le _,rfl,rfl,by simp,Nat.le_refl _,hjl,hZz (show ((0:Nat):Int)=0+max 0 (((0:Nat):Int) - 1) by omega),hZz ⟨Int.le_refl _,HBN.out⟩,hZz HT.out,HBX.out,HB0.out⟩
 case round =>
  obtain ⟨k,q,tx,hk,rfl,rfl,rfl,hjq,hql,HTX,HQB,HS,hbx,hbel⟩:=hrel;have HBXk:=hZz hbx;have HB:=hZz hbel;have b4:=blk4 hbx;clear hbx hbel;have hk0:(0:Int)≤(k:Int):=by omega
  have hk6:(k:Int)≤1000000:=by omega
  by_cases hlt:k<N
  ·have hlt':(k:Int)<(N:Int):=by omega
   obtain ⟨m,hm⟩:∃ m,N - k=m+1:=⟨N - k - 1,by omega⟩
   have HM:Hid (N - (k+1)=m):=hZz (by omega);obtain ⟨r',hr',he⟩:=zamY (show elems (px l) 0 (m+1) q=some t by rw [← hm];exact HS.out);have had:=zapY hr';have hrb:=px_b hl HV.out hr';have hnb:=elems_b (fun j s hs=>px_b hl HV.out hs) (fun j s hs=>(zapY hs).1) _ _ _ he;dsimp only at hnb;have HE:=hZz he;have HTXT:Hid (∀ wx,Pow wx→SlAt wx (some ⟨bA,off,none⟩) 4 CellD.cells l→Calls prog 83 #[.slice (some ⟨bA,off,none⟩) l.length cap,.int .i64 q.j] wx (TextPost wx r'.b)):=hZz (fun wx hpx hx=>by have:=HN.out q.j r' (by omega) hr' wx hpx hx;exact this)
   have HNX:Hid (∀ wx,SlAt wx (some ⟨bA,off,none⟩) 4 CellD.cells l→Calls prog 113 #[.slice (some ⟨bA,off,none⟩) l.length cap,.int .i64 q.j] wx fun e w'=>e=.returned (.int .i64 (r'.j:Nat))∧Below wx.heap.size wx w'):=hZz (fun wx hx=>by
    have:=HX.out q.j (Nat.zero_le _) (by omega) wx hx
    rw [hr'] at this;exact this)
   have h1:=had.1;have h2:=had.2;have hqi0:(0:Int)≤(q.j:Int):=by omega
   have hqi1:(q.j:Int)≤1000000:=by omega
   have HR9:Hid (0≤r'.b∧(tx.size:Int)  + r'.b+5≤9000000000000000000):=hZz (by have:=HTX.out;have:=HTB.out;have:=hnb.2.1;exact ⟨hrb.1,by omega⟩);have htx9:¬ 9223372036854775807<tx.size+1:=by have:=HTX.out;have:=HTB.out;have:=hnb.2.1;omega
   have HNB:Hid (0≤q.b  + r'.b∧q.b  + r'.b≤t.b):=hZz (by have:=HQB.out;exact ⟨by omega,by have:=hnb.2.1;omega⟩);clear had hr' he hm hrb hnb;have hk9:(k:Int)+1≤9223372036854775807:=by omega
   by_cases hkp:0<k
   ·have hkp':(0:Int)<(k:Int):=by omega
    go_wp2_with (first
     | (go_at_call 83;(with_reducible refine (HTXT.out _ (HPW.out.below HB.out) (HA.out.below HB.out)).mono ?_);rintro e w1 ⟨t2,rfl,ht2,hb1⟩;have hy1:=zaaZ hb1 HB.out HB.out.size;have HB1:=hZz hy1;have HBX1:=hZz (HBXk.out.below hb1);have HT2:=hZz ht2;have g5:¬ 9223372036854775807<tx.size+1+t2.size:=(by have:=HR9.out;omega);clear hb1 hy1 ht2)
     | (go_at_call 113;(with_reducible refine (HNX.out _ (HA.out.below HB1.out)).mono ?_);rintro e w2 ⟨rfl,hb2⟩;have HB2:=hZz (zaaZ hb2 HB1.out HB1.out.size);have HBX2:=hZz (HBX1.out.below hb2);clear hb2))
    refine ⟨⟨k+1,⟨r'.j,max q.d (0+r'.d),q.b+r'.b⟩,_,by omega,by simp,rfl,rfl,by show j+1≤r'.j;omega,h2,hZz ?_,hZz ?_,hZz (by rw [HM.out];exact HE.out),HBX2.out,HB2.out⟩,by simp [intOf];omega⟩
    ·have:=HTX.out
     have:=HT2.out
     have e1:(⟨#[44]⟩:ByteArray).size=1:=rfl;simp only [ByteArray.size_append,e1]
     push_cast
     omega
    ·exact HNB.out
   ·have hkn:¬ (0:Int)<(k:Int):=by omega
    go_wp2_with (first
     | (go_at_call 83;(with_reducible refine (HTXT.out _ (HPW.out.below HB.out) (HA.out.below HB.out)).mono ?_);rintro e w1 ⟨t2,rfl,ht2,hb1⟩;have hy1:=zaaZ hb1 HB.out HB.out.size;have HB1:=hZz hy1;have HBX1:=hZz (HBXk.out.below hb1);have HT2:=hZz ht2;have g5:¬ 9223372036854775807<tx.size+t2.size:=(by have:=HR9.out;omega);clear hb1 hy1 ht2)
     | (go_at_call 113;(with_reducible refine (HNX.out _ (HA.out.below HB1.out)).mono ?_);rintro e w2 ⟨rfl,hb2⟩;have HB2:=hZz (zaaZ hb2 HB1.out HB1.out.size);have HBX2:=hZz (HBX1.out.below hb2);clear hb2))
    refine ⟨⟨k+1,⟨r'.j,max q.d (0+r'.d),q.b+r'.b⟩,_,by omega,by simp,rfl,rfl,by show j+1≤r'.j;omega,h2,hZz ?_,hZz ?_,hZz (by rw [HM.out];exact HE.out),HBX2.out,HB2.out⟩,by simp [intOf];omega⟩
    ·have:=HTX.out
     have:=HT2.out
     simp only [ByteArray.size_append]
     push_cast
     omega
    ·exact HNB.out
  ·have e:k=N:=by omega
   subst e
   have he:q=t:=by
    have:=HS.out
    rw [Nat.sub_self] at this;exact Option.some.inj this
   subst he;have HF:Hid ((tx.size:Int)=q.b+max 0 ((k:Int) - 1)):=HTX;have hz1:¬ 9223372036854775807<1+tx.size:=by have:=HTX.out;have:=HTB.out;omega
   have hz2:¬ 9223372036854775807<1+tx.size+1:=by have:=HTX.out;have:=HTB.out;omega
   go_wp2_with (fail)
   rw [← HP.out];refine ⟨_,rfl,?_,HB.out⟩
   have:=HF.out
   have e1:(⟨#[91]⟩:ByteArray).size=1:=rfl;have e2:(⟨#[93]⟩:ByteArray).size=1:=rfl;simp only [ByteArray.size_append,e1,e2]
   push_cast
   omega
theorem text_map (l:List CellD) (A:Option Addr) (cap:Nat) (hl:l.length≤1000000) (hok:∀ c∈l,okC6 c) (hv:∀ c∈l,SmallC c) (j:Nat) (i:Int) (s:ByteArray) (N:Nat) (t:Sh) (hcl:l[j]? = some ⟨6,i,s,N⟩) (ht:pairs l (px l) 0 N none ⟨j+1,0,0⟩=some t) (hN:TextFrom l A cap (j+1)) (w:World) (hp:Pow w) (h:SlAt w A 4 CellD.cells l) :
  Calls prog 83 #[.slice A l.length cap,.int .i64 j] w (TextPost w (sizeN ⟨6,i,s,N⟩ + t.b)):=by
 have hjl:j<l.length:=(List.getElem?_eq_some_iff.mp hcl).1;have hc:l[j]=⟨6,i,s,N⟩:=(List.getElem?_eq_some_iff.mp hcl).2;have hck:=hok _ (hc ▸ List.getElem_mem hjl);have hbb:=pairs_b hv (fun j s hs=>px_b hl hv hs) (fun j s hs=>(zapY hs).1) _ _ _ _ ht;have hte:=pairs_end l _ _ _ _ (show (⟨j+1,0,0⟩:Sh).j≤l.length from hjl) ht;dsimp only at hbb;have hN6:N≤1000000:=by omega
 have htb:t.b≤17179869184000000:=by omega
 have hNz:sizeN ⟨6,i,s,N⟩=2+max 0 ((N:Int) - 1):=by simp [sizeN]
 obtain ⟨P,hP⟩:∃ P,TextPost w (sizeN ⟨6,i,s,N⟩ + t.b)=P:=⟨_,rfl⟩
 rw [hP];rw [hNz] at hP;have HP:=hZz hP;have HTB:=hZz htb;have HT:=hZz ht;have hji:(j:Int)<(l.length:Int):=by omega
 have hj0:(0:Int)≤(j:Int):=by omega
 have hj1:(j:Int)≤1000000:=by omega
 have HN:=hZz hN;have HA:=hZz h;have HV:=hZz hv;have HPW:=hZz hp;have HOK:=hZz hok;have HX:=hZz (zbnY l A cap hl hok);obtain ⟨bA,off,rfl,_⟩:=h.ptr hjl;have c0:=h.cell0 hjl (v:=.int .i64 6) (by rw [hc];rfl);have c1:=h.cell hjl (j:=1) (v:=.int .i64 i) (by rw [hc];rfl);have c2:=h.cell hjl (j:=2) (v:=.string s) (by rw [hc];rfl);have c3:=h.cell hjl (j:=3) (v:=.int .i64 N) (by rw [hc];rfl);have HBX:=hZz (Blk.new w 53 #[.int .i64 6,.int .i64 i,.string s,.int .i64 N]);have HB0:=hZz (zabZ w (.cells #[.int .i64 6,.int .i64 i,.string s,.int .i64 N] 53));have HBN:Hid (0≤t.b):=hZz hbb.2.1;clear hN h hok hc hcl hck hp hv ht hP hbb hte htb hNz;go_enter func83,ntmps83
 go_wp2_with (fail)
 go_loopw [6,7,8] (fun ov av kv wr=>∃ (k:Nat) (q:Sh) (la:Option ByteArray) (tx:ByteArray),k≤N∧kv=.int .i64 k∧ov=.string tx∧av=.int .i64 q.j∧j+1≤q.j∧q.j≤l.length∧Hid ((tx.size:Int)=q.b+max 0 ((k:Int) - 1))∧Hid (0≤q.b∧q.b≤t.b)∧Hid (pairs l (px l) 0 (N - k) la q=some t)∧Blk wr w.heap.size 53 #[.int .i64 6,.int .i64 i,.string s,.int .i64 N]∧Below w.heap.size w wr) (fun _ _ kv _=>N - (intOf kv).toNat)
 case atStart=>exact ⟨0,⟨j+1,0,0⟩,none,_,Nat.zero_le _,rfl,rfl,by simp,Nat.le_refl _,hjl,hZz (show ((0:Nat):Int)=0+max 0 (((0:Nat):Int) - 1) by omega),hZz ⟨Int.le_refl _,HBN.out⟩,hZz HT.out,HBX.out,HB0.out⟩
 case round =>
  obtain ⟨k,q,la,tx,hk,rfl,rfl,rfl,hjq,hql,HTX,HQB,HS,hbx,hbel⟩:=hrel;have HBXk:=hZz hbx;have HB:=hZz hbel;have b4:=blk4 hbx;clear hbx hbel;have hk0:(0:Int)≤(k:Int):=by omega
  have hk6:(k:Int)≤1000000:=by omega
  by_cases hlt:k<N
  ·have hlt':(k:Int)<(N:Int):=by omega
   obtain ⟨m,hm⟩:∃ m,N - k=m+1:=⟨N - k - 1,by omega⟩
   have HM:Hid (N - (k+1)=m):=hZz (by omega);obtain ⟨c',r',hc',hko,hr',he⟩:=zajY (show pairs l (px l) 0 (m+1) la q=some t by rw [← hm];exact HS.out);have had:=zapY hr';have hrb:=px_b hl HV.out hr';have hnb:=pairs_b HV.out (fun j s hs=>px_b hl HV.out hs) (fun j s hs=>(zapY hs).1) _ _ _ _ he;dsimp only at hnb;have HE:=hZz he;have hq0:=(HV.out c' (List.mem_of_getElem? hc')).2;have hcj:q.j<l.length:=(List.getElem?_eq_some_iff.mp hc').1;have hcji:(q.j:Int)<(l.length:Int):=by omega
   have d2:=(HA.out.below HB.out).cell hcj (j:=2) (v:=.string c'.str) (by rw [(List.getElem?_eq_some_iff.mp hc').2];rfl);have HQ:Hid (∀ wx,Calls prog 136 #[.string c'.str] wx fun e w'=>∃ t:ByteArray,e=.returned (.string t)∧(t.size:Int)=quotedN c'.str∧w'=wx):=hZz (fun wx=>quoted6_any c'.str wx (HOK.out c' (List.mem_of_getElem? hc')).1);have HTXT:Hid (∀ wx,Pow wx→SlAt wx (some ⟨bA,off,none⟩) 4 CellD.cells l→Calls prog 83 #[.slice (some ⟨bA,off,none⟩) l.length cap,.int .i64 ((q.j:Int)+1)] wx (TextPost wx r'.b)):=hZz (fun wx hpx hx=>by have:=HN.out (q.j+1) r' (by omega) hr' wx hpx hx;push_cast at this;exact this)
   have HNX:Hid (∀ wx,SlAt wx (some ⟨bA,off,none⟩) 4 CellD.cells l→Calls prog 113 #[.slice (some ⟨bA,off,none⟩) l.length cap,.int .i64 ((q.j:Int)+1)] wx fun e w'=>e=.returned (.int .i64 (r'.j:Nat))∧Below wx.heap.size wx w'):=hZz (fun wx hx=>by
    have:=HX.out (q.j+1) (Nat.zero_le _) (by omega) wx hx
    rw [hr'] at this
    push_cast at this
    exact this)
   have h1:=had.1;have h2:=had.2;have hqi0:(0:Int)≤(q.j:Int):=by omega
   have hqi1:(q.j:Int)≤1000000:=by omega
   have HR9:Hid (0≤r'.b∧(tx.size:Int)+quotedN c'.str+r'.b+5≤9000000000000000000):=hZz (by have:=HTX.out;have:=HTB.out;have:=hnb.2.1;exact ⟨hrb.1,by omega⟩);have htx9:¬ 9223372036854775807<tx.size+1:=by have:=HTX.out;have:=HTB.out;have:=hnb.2.1;omega
   have HNB:Hid (0≤q.b+(quotedN c'.str+1)+r'.b∧q.b+(quotedN c'.str+1)+r'.b≤t.b):=hZz (by have:=HQB.out;exact ⟨by omega,by have:=hnb.2.1;omega⟩);clear had hr' he hm hrb hnb hc' hko hq0;have hk9:(k:Int)+1≤9223372036854775807:=by omega
   by_cases hkp:0<k
   ·have hkp':(0:Int)<(k:Int):=by omega
    go_wp2_with (first
     | (go_at_call 136;(with_reducible refine (HQ.out _).mono ?_);rintro e w9 ⟨tq,rfl,htq,hw9⟩;rw [hw9];clear hw9 w9;have HTQ:=hZz htq;have g1:¬ 9223372036854775807<tx.size+1+tq.size:=(by have:=HR9.out;omega);have g2:¬ 9223372036854775807<tq.size+1:=(by have:=HR9.out;omega);have g3:¬ 9223372036854775807<tx.size+1+(tq.size+1):=(by have:=HR9.out;omega);have g4:¬ 9223372036854775807<tx.size+1+tq.size+1:=(by have:=HR9.out;omega);clear htq)
     | (go_at_call 83;(with_reducible refine (HTXT.out _ (HPW.out.below HB.out) (HA.out.below HB.out)).mono ?_);rintro e w1 ⟨t2,rfl,ht2,hb1⟩;have hy1:=zaaZ hb1 HB.out HB.out.size;have HB1:=hZz hy1;have HBX1:=hZz (HBXk.out.below hb1);have HT2:=hZz ht2;have g5:¬ 9223372036854775807<tx.size+1+tq.size+1+t2.size:=(by have:=HR9.out;have:=HTQ.out;omega);have g6:¬ 9223372036854775807<tx.size+1+(tq.size+1)+t2.size:=(by have:=HR9.out;have:=HTQ.out;omega);clear hb1 hy1 ht2)
     | (go_at_call 113;(with_reducible refine (HNX.out _ (HA.out.below HB1.out)).mono ?_);rintro e w2 ⟨rfl,hb2⟩;have HB2:=hZz (zaaZ hb2 HB1.out HB1.out.size);have HBX2:=hZz (HBX1.out.below hb2);clear hb2))
    refine ⟨⟨k+1,⟨r'.j,max q.d (0+r'.d),q.b+(quotedN c'.str+1)+r'.b⟩,some c'.str,_,by omega,by simp,rfl,rfl,by show j+1≤r'.j;omega,h2,hZz ?_,hZz ?_,hZz (by rw [HM.out];exact HE.out),HBX2.out,HB2.out⟩,by simp [intOf];omega⟩
    ·have:=HTX.out
     have:=HT2.out
     have:=HTQ.out
     have e1:(⟨#[44]⟩:ByteArray).size=1:=rfl;have e2:(⟨#[58]⟩:ByteArray).size=1:=rfl;simp only [ByteArray.size_append,e1,e2]
     push_cast
     omega
    ·exact HNB.out
   ·have hkn:¬ (0:Int)<(k:Int):=by omega
    go_wp2_with (first
     | (go_at_call 136;(with_reducible refine (HQ.out _).mono ?_);rintro e w9 ⟨tq,rfl,htq,hw9⟩;rw [hw9];clear hw9 w9;have HTQ:=hZz htq;have g1:¬ 9223372036854775807<tx.size+tq.size:=(by have:=HR9.out;omega);have g2:¬ 9223372036854775807<tq.size+1:=(by have:=HR9.out;omega);have g3:¬ 9223372036854775807<tx.size+(tq.size+1):=(by have:=HR9.out;omega);have g4:¬ 9223372036854775807<tx.size+tq.size+1:=(by have:=HR9.out;omega);clear htq)
     | (go_at_call 83;(with_reducible refine (HTXT.out _ (HPW.out.below HB.out) (HA.out.below HB.out)).mono ?_);rintro e w1 ⟨t2,rfl,ht2,hb1⟩;have hy1:=zaaZ hb1 HB.out HB.out.size;have HB1:=hZz hy1;have HBX1:=hZz (HBXk.out.below hb1);have HT2:=hZz ht2;have g5:¬ 9223372036854775807<tx.size+tq.size+1+t2.size:=(by have:=HR9.out;have:=HTQ.out;omega);have g6:¬ 9223372036854775807<tx.size+(tq.size+1)+t2.size:=(by have:=HR9.out;have:=HTQ.out;omega);clear hb1 hy1 ht2)
     | (go_at_call 113;(with_reducible refine (HNX.out _ (HA.out.below HB1.out)).mono ?_);rintro e w2 ⟨rfl,hb2⟩;have HB2:=hZz (zaaZ hb2 HB1.out HB1.out.size);have HBX2:=hZz (HBX1.out.below hb2);clear hb2))
    refine ⟨⟨k+1,⟨r'.j,max q.d (0+r'.d),q.b+(quotedN c'.str+1)+r'.b⟩,some c'.str,_,by omega,by simp,rfl,rfl,by show j+1≤r'.j;omega,h2,hZz ?_,hZz ?_,hZz (by rw [HM.out];exact HE.out),HBX2.out,HB2.out⟩,by simp [intOf];omega⟩
    ·have:=HTX.out
     have:=HT2.out
     have:=HTQ.out
     have e2:(⟨#[58]⟩:ByteArray).size=1:=rfl;simp only [ByteArray.size_append,e2]
     push_cast
     omega
    ·exact HNB.out
  ·have e:k=N:=by omega
   subst e
   have he:q=t:=by
    have:=HS.out
    rw [Nat.sub_self] at this;exact Option.some.inj this
   subst he;have HF:Hid ((tx.size:Int)=q.b+max 0 ((k:Int) - 1)):=HTX;have hz1:¬ 9223372036854775807<1+tx.size:=by have:=HTX.out;have:=HTB.out;omega
   have hz2:¬ 9223372036854775807<1+tx.size+1:=by have:=HTX.out;have:=HTB.out;omega
   go_wp2_with (fail)
   rw [← HP.out];refine ⟨_,rfl,?_,HB.out⟩
   have:=HF.out
   have e1:(⟨#[123]⟩:ByteArray).size=1:=rfl;have e2:(⟨#[125]⟩:ByteArray).size=1:=rfl;simp only [ByteArray.size_append,e1,e2]
   push_cast
   omega
theorem text_at (l:List CellD) (A:Option Addr) (cap:Nat) (hl:l.length≤1000000) (hok:∀ c∈l,okC6 c) (hi:∀ c∈l,okI c) (hv:∀ c∈l,SmallC c) (j:Nat) (r:Sh) (hr:px l j=some r) (hN:TextFrom l A cap (j+1)) (w:World) (hp:Pow w) (h:SlAt w A 4 CellD.cells l) :
  Calls prog 83 #[.slice A l.length cap,.int .i64 j] w (TextPost w r.b):=by
 have had:=zapY hr;have hjl:j<l.length:=by omega
 obtain ⟨c,hc⟩:∃ c,l[j]=c:=⟨_,rfl⟩
 have hcl:l[j]? = some c:=by rw [List.getElem?_eq_getElem hjl,hc]
 obtain ⟨hpb,hcase⟩:=zcyY hr hcl;rcases hcase with ⟨hk,t,ht,rfl⟩ | ⟨hk,t,ht,rfl⟩ | ⟨h5,h6,rfl⟩
 ·obtain ⟨k,i,s,n⟩:=c
  dsimp only at hk ht;subst hk;have hn0:0≤n:=plain_n hpb (.inl rfl);obtain ⟨N,rfl⟩:∃ N:Nat,n=(N:Int):=⟨n.toNat,by omega⟩
  rw [Int.toNat_natCast] at ht;exact text_list l A cap hl hok hv j i s N t hcl ht hN w hp h
 ·obtain ⟨k,i,s,n⟩:=c
  dsimp only at hk ht;subst hk;have hn0:0≤n:=plain_n hpb (.inr rfl);obtain ⟨N,rfl⟩:∃ N:Nat,n=(N:Int):=⟨n.toNat,by omega⟩
  rw [Int.toNat_natCast] at ht;exact text_map l A cap hl hok hv j i s N t hcl ht hN w hp h
 ·exact text_leaf l A cap hl hok hi j c hcl hpb h5 h6 w hp h
theorem text_from (l:List CellD) (A:Option Addr) (cap:Nat) (hl:l.length≤1000000) (hok:∀ c∈l,okC6 c) (hi:∀ c∈l,okI c) (hv:∀ c∈l,SmallC c):∀ n a,l.length - a<n→TextFrom l A cap a
 | 0,a,h=>fun j r h1 hr=>by omega
 | n+1,a,h=>fun j r h1 hr wx hp hx=>text_at l A cap hl hok hi hv j r hr (fun j' r' hj' hr'=>by
   have:=zapY hr'
   exact text_from l A cap hl hok hi hv n (j+1) (by omega) j' r' hj' hr') wx hp hx
theorem okC.c6 {c:CellD} (h:okC c):okC6 c:=⟨h.1,h.2.2⟩
theorem okC.i {c:CellD} (h:okC c):okI c:=h.2.1
set_option maxHeartbeats 4000000 in
theorem zarY (l:List CellD) (A:Option Addr) (cap:Nat) (w:World) (h:SlAt w A 4 CellD.cells l) (hp:Pow w) (hl:l.length≤1000000) (hok:∀ c∈l,okC c) :
  Calls prog 34 #[.slice A l.length cap] w fun e w'=>e=.returned (.int .i64 (checkF l))∧Below w.heap.size w w':=by
 have hok6:∀ c∈l,okC6 c:=fun c hc=>(hok c hc).c6
 have hoki:∀ c∈l,okI c:=fun c hc=>(hok c hc).i
 have hv:∀ c∈l,SmallC c:=fun c hc=>zabY (hok c hc)
 obtain ⟨E,hE⟩:∃ E,checkF l=E:=⟨_,rfl⟩
 rw [hE];have HE:=hZz hE;obtain ⟨F,hF⟩:∃ F,formedF l=F:=⟨_,rfl⟩
 have HFD:=hZz (formed_any l A cap hl hok6 w h);rw [hF] at HFD;have HF:=hZz hF;have HA:=hZz h;have HP:=hZz hp;have HOK:=hZz hok;cases F with
 | false =>
  have hc:E=1:=by
   rw [← HE.out]
   have:=HF.out
   unfold formedF at this;unfold checkF;cases hp:px l 0 with
   | none=>rfl
   | some r=>rw [hp] at this;simp at this;simp [this,eSyntax]
  subst hc;clear hE hF h hp hok hok6 hoki hv;go_enter func34,ntmps34
  go_wp2_with (first
   | (go_at_call 81;(with_reducible refine HFD.out.mono ?_);rintro e w1 ⟨rfl,hb1⟩;have HB1:=hZz hb1;clear hb1))
  go_returns;exact ⟨rfl,HB1.out⟩
 | true =>
  obtain ⟨r,hr,hj⟩:∃ r,px l 0=some r∧r.j=l.length:=by
   unfold formedF at hF;cases hp:px l 0 with
   | none=>rw [hp] at hF;cases hF
   | some r=>rw [hp] at hF;exact ⟨r,rfl,of_decide_eq_true hF⟩
  have hck:(if l.any outB then eRange else if l.any longB || (decide (200<l.length) || (decide (8<r.d) || decide (4000<r.b))) then eLimit else 0)=E:=by
   rw [← hE];unfold checkF;rw [hr];simp only [hj,ne_eq,not_true_eq_false,if_false]
  have HCK:=hZz hck;have HLV:Hid (∀ wx,SlAt wx A 4 CellD.cells l→Calls prog 82 #[.slice A l.length cap,.int .i64 0] wx fun e w'=>e=.returned (.int .i64 (r.d:Nat))∧Below wx.heap.size wx w'):=hZz (fun wx hx=>levels_from l A cap hl hok6 (l.length+1) 0 (by omega) 0 r (Nat.le_refl _) hr wx hx);have HTX:Hid (∀ wx,Pow wx→SlAt wx A 4 CellD.cells l→Calls prog 83 #[.slice A l.length cap,.int .i64 0] wx (TextPost wx r.b)):=hZz (fun wx hpx hx=>text_from l A cap hl hok6 hoki hv (l.length+1) 0 (by omega) 0 r (Nat.le_refl _) hr wx hpx hx);have hdd:=px_d hr;have hd9:(r.d:Int)≤1000000:=by have:=zapY hr;omega
  have hl9:(l.length:Int)≤1000000:=by omega
  obtain ⟨rj,rd,rb⟩:=r;dsimp only at HCK HLV HTX hd9;clear hE hF h hp hok hok6 hoki hv hck hr hj hdd HF HE;go_enter func34,ntmps34
  go_wp2_with (first
   | (go_at_call 81;(with_reducible refine HFD.out.mono ?_);rintro e w1 ⟨rfl,hb1⟩;have HB1:=hZz hb1;clear hb1))
  go_loop [3] (fun kv=>∃ k:Nat,k≤l.length∧kv=.int .i64 k∧Hid ((l.take k).any outB=false)) (fun kv=>l.length - (intOf kv).toNat)
  case atStart=>exact ⟨0,Nat.zero_le _,rfl,hZz (by simp)⟩
  case round =>
   obtain ⟨k,hk,rfl,HO⟩:=hrel;have hk0:(0:Int)≤(k:Int):=by omega
   by_cases hlt:k<l.length
   ·have hlt':(k:Int)<(l.length:Int):=by omega
    obtain ⟨c,hc⟩:∃ c,l[k]=c:=⟨_,rfl⟩
    have hsa:=HA.out.below HB1.out;obtain ⟨bA,off,rfl,_⟩:=hsa.ptr hlt;have c0:=hsa.cell0 hlt (v:=.int .i64 c.kind) (by rw [hc];rfl);have c1:=hsa.cell hlt (j:=1) (v:=.int .i64 c.int) (by rw [hc];rfl);have HTK:Hid ((l.take (k+1)).any outB=((l.take k).any outB || outB c)):=hZz (by rw [← hc];rw [List.take_succ_eq_append_getElem hlt,List.any_append];simp);have HAN:Hid (outB c=true→l.any outB=true):=hZz (fun h=>List.any_eq_true.2 ⟨c,hc ▸ List.getElem_mem hlt,h⟩);have hk9:(k:Int)+1≤9223372036854775807:=by omega
    clear hsa hc;by_cases h3:c.kind=3
    ·by_cases hlo:c.int < -1000000000000
     ·have hE:E=2:=by rw [← HCK.out,HAN.out (by simp [outB,h3];omega)];rfl
      subst hE;go_wp2_with (fail)
      go_returns;exact ⟨rfl,HB1.out⟩
     ·by_cases hhi:1000000000000<c.int
      ·have hE:E=2:=by rw [← HCK.out,HAN.out (by simp [outB,h3];omega)];rfl
       subst hE;go_wp2_with (fail)
       go_returns;exact ⟨rfl,HB1.out⟩
      ·have HN:Hid (outB c=false):=hZz (by simp [outB,h3];omega)
       go_wp2_with (fail)
       exact ⟨⟨k+1,by omega,by simp,hZz (by rw [HTK.out,HO.out,HN.out];rfl)⟩,by simp [intOf];omega⟩
    ·have HN:Hid (outB c=false):=hZz (by simp [outB,h3])
     have h3':(c.kind == 3)=false:=by simpa using h3
     go_wp2_with (fail)
     exact ⟨⟨k+1,by omega,by simp,hZz (by rw [HTK.out,HO.out,HN.out];rfl)⟩,by simp [intOf];omega⟩
   ·have e:k=l.length:=by omega
    subst e;have HNO:Hid (l.any outB=false):=hZz (by have:=HO.out;rwa [List.take_length] at this);have HCK2:Hid ((if l.any longB || (decide (200<l.length) || (decide (8<rd) || decide (4000<rb))) then eLimit else 0)=E):=hZz (by have:=HCK.out;rw [HNO.out] at this;simpa using this);clear HCK HO;by_cases h200:(200:Int)<(l.length:Int)
    ·have hE:E=3:=by rw [← HCK2.out,if_pos (by simp;omega)];rfl
     subst hE;go_wp2_with (fail)
     go_returns;exact ⟨rfl,HB1.out⟩
    ·by_cases h8:(8:Int)<(rd:Int)
     ·have hE:E=3:=by rw [← HCK2.out,if_pos (by simp;omega)];rfl
      subst hE
      go_wp2_with (first
       | (go_at_call 82;(with_reducible refine (HLV.out _ (HA.out.below HB1.out)).mono ?_);rintro e w2 ⟨rfl,hb2⟩;have HB2:=hZz (zaaZ hb2 HB1.out HB1.out.size);clear hb2))
      go_returns;exact ⟨rfl,HB2.out⟩
     ·go_wp2_with (first
       | (go_at_call 82;(with_reducible refine (HLV.out _ (HA.out.below HB1.out)).mono ?_);rintro e w2 ⟨rfl,hb2⟩;have HB2:=hZz (zaaZ hb2 HB1.out HB1.out.size);clear hb2))
      go_loop [4] (fun kv=>∃ k:Nat,k≤l.length∧kv=.int .i64 k∧Hid ((l.take k).any longB=false)) (fun kv=>l.length - (intOf kv).toNat)
      case atStart=>exact ⟨0,Nat.zero_le _,rfl,hZz (by simp)⟩
      case round =>
       obtain ⟨k,hk,rfl,HO⟩:=hrel;have hk0:(0:Int)≤(k:Int):=by omega
       by_cases hlt:k<l.length
       ·have hlt':(k:Int)<(l.length:Int):=by omega
        obtain ⟨c,hc⟩:∃ c,l[k]=c:=⟨_,rfl⟩
        have hsa:=HA.out.below HB2.out;obtain ⟨bA,off,rfl,_⟩:=hsa.ptr hlt;have c2:=hsa.cell hlt (j:=2) (v:=.string c.str) (by rw [hc];rfl);have HTK:Hid ((l.take (k+1)).any longB=((l.take k).any longB || longB c)):=hZz (by rw [← hc];rw [List.take_succ_eq_append_getElem hlt,List.any_append];simp);have HAN:Hid (longB c=true→l.any longB=true):=hZz (fun h=>List.any_eq_true.2 ⟨c,hc ▸ List.getElem_mem hlt,h⟩);have hs9:=(HOK.out c (hc ▸ List.getElem_mem hlt)).1;have hs9':(c.str.size:Int)≤4294967296:=by omega
        have hk9:(k:Int)+1≤9223372036854775807:=by omega
        clear hsa hc;by_cases hs:(200:Int)<(c.str.size:Int)
        ·have hE:E=3:=by rw [← HCK2.out,HAN.out (by simp [longB];omega)];rfl
         subst hE;go_wp2_with (fail)
         go_returns;exact ⟨rfl,HB2.out⟩
        ·have HN:Hid (longB c=false):=hZz (by simp [longB];omega)
         go_wp2_with (fail)
         exact ⟨⟨k+1,by omega,by simp,hZz (by rw [HTK.out,HO.out,HN.out];rfl)⟩,by simp [intOf];omega⟩
       ·have e:k=l.length:=by omega
        subst e;have HNL:Hid (l.any longB=false):=hZz (by have:=HO.out;rwa [List.take_length] at this);by_cases h4:4000<rb
        ·have hE:E=3:=by rw [← HCK2.out,if_pos (by simp;omega)];rfl
         subst hE
         go_wp2_with (first
          | (go_at_call 83;(with_reducible refine (HTX.out _ (HP.out.below HB2.out) (HA.out.below HB2.out)).mono ?_);rintro e w3 ⟨t2,rfl,ht2,hb3⟩;have HB3:=hZz (zaaZ hb3 HB2.out HB2.out.size);have h4':(4000:Int)<(t2.size:Int):=(by omega);clear hb3 ht2))
         go_returns;exact ⟨rfl,HB3.out⟩
        ·have hE:E=0:=by rw [← HCK2.out,HNL.out,if_neg (by simp;omega)]
         subst hE
         go_wp2_with (first
          | (go_at_call 83;(with_reducible refine (HTX.out _ (HP.out.below HB2.out) (HA.out.below HB2.out)).mono ?_);rintro e w3 ⟨t2,rfl,ht2,hb3⟩;have HB3:=hZz (zaaZ hb3 HB2.out HB2.out.size);have h4':¬ (4000:Int)<(t2.size:Int):=(by omega);clear hb3 ht2))
         go_returns;exact ⟨rfl,HB3.out⟩
end Go.Proofs.YtekdhlfapejijaaGreatDoor
