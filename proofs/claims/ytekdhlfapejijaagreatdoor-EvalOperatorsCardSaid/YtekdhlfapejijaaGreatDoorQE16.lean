/- E13, E14, E15, E16 -/
import Derived.Test.YtekdhlfapejijaaGreatDoorQRO1
set_option linter.unusedVariables false
set_option linter.unusedSimpArgs false
namespace Go.Proofs.YtekdhlfapejijaaGreatDoor
open Go.RowKit
set_option maxRecDepth 100000
set_option maxHeartbeats 8000000
attribute [local go_sem] zacZ
open Go.Proofs.Tryz
def StrsV (w:World) (v:Value) (l:List ByteArray):Prop:=∃ A cap,v=.slice A l.length cap∧l.length≤cap∧SlAt w A 1 (fun s=>[.string s]) l
theorem FromC.own {w w1 w2:World} {S:List Value} {v u:Value} {l:ValD} (h:FromC w1 w2 (v :: S) u) (ho:OVal w1 w.heap.size v l) (hb:Below w1.heap.size w1 w2) (h1:w.heap.size≤w1.heap.size):FromC w w2 S u:=fun b off n cap e=>by
 rcases h b off n cap e with ⟨x,hx,off',n',cap',rfl⟩ | ⟨h3,r⟩
 ·rcases List.mem_cons.1 hx with hx | hx
  ·rcases ho.2 with ⟨ev,_⟩ | ⟨g,c,cur,ev,hbg,hblk,_⟩
   ·rw [ev] at hx;cases hx
   ·rw [ev] at hx
    injection hx with hx _ _
    injection hx with hx
    injection hx with hx
    subst hx;exact .inr ⟨hbg,_,_,(hb.block _ (lt_of_block hblk)).trans hblk⟩
  ·exact .inl ⟨_,hx,off',n',cap',rfl⟩
 ·exact .inr ⟨by omega,r⟩
theorem RetR.own {w w1 w2:World} {v:Value} {l:ValD} {r:ResD} {e:Ending} (h:RetR w1 [v] r e w2) (ho:OVal w1 w.heap.size v l) (hb:Below w.heap.size w w1):RetR w [] r e w2:=by
 obtain ⟨u,he,hu,hf,hb2⟩:=h;exact ⟨u,he,hu,hf.own ho hb2 hb.size,zadZ hb2 hb⟩
def mapM (N:Int) (ps:List (ByteArray × ValD)):ValD:=⟨6,0,⟨#[]⟩,N⟩ :: ps.flatMap fun p=>sCel p.1 :: p.2
theorem mapM_all (ks:List ByteArray) (l:List ValD):mapM (l.length:Nat) (ks.zip l)=mapV ks l:=rfl
theorem mapM_snoc {N:Int} {ps:List (ByteArray × ValD)} {k:Nat} (h:k<ps.length):mapM N (ps.take (k+1))=(mapM N (ps.take k) ++ [sCel ps[k].1]) ++ ps[k].2:=by
 unfold mapM;rw [List.take_succ_eq_append_getElem h,List.flatMap_append];simp
theorem len200 {x:ValD} (h:checkF x=0):x.length≤200:=by
 obtain ⟨_,_,_,_,_,h,_⟩:=checkF_zero.1 h;exact h
theorem zdyY {N:Int}:∀ {ps:List (ByteArray × ValD)},(∀ p∈ps,checkF p.2=0)→(mapM N ps).length≤1+ps.length * 201
 | [],_=>by simp [mapM]
 | p :: r,h=>by
  have h1:=len200 (h p (by simp));have h2:=zdyY (N:=N) (ps:=r) (fun q hq=>h q (by simp [hq]));simp only [mapM,List.flatMap_cons,List.length_cons,List.length_append] at h2 ⊢;omega
theorem mapM_ok {N:Int} {ps:List (ByteArray × ValD)} (hN:0≤N∧N≤1000000) (h:∀ p∈ps,checkF p.2=0) (h1:∀ p∈ps,p.1.size≤4294967296) (h2:∀ p∈ps,OkV p.2) (hl:ps.length≤4000):OkV (mapM N ps):=by
 have hle:=zdyY (N:=N) h;refine ⟨by omega,fun c hc=>?_⟩
 unfold mapM at hc;rcases List.mem_cons.1 hc with rfl | hc
 ·exact ⟨by show (0:Nat)≤_;omega,by show (_:Int)≤0∧(0:Int)≤_;omega,by show N≤_;omega⟩
 ·obtain ⟨p,hp,hc⟩:=List.mem_flatMap.1 hc
  rcases List.mem_cons.1 hc with rfl | hc
  ·exact (okV_s (h1 p hp)).out.2 _ (by simp)
  ·exact (h2 p hp).2 c hc
theorem zip_mem {ks:List ByteArray} {l:List ValD} {k:Nat} {p:ByteArray × ValD} (h:p∈(ks.zip l).take k):p.1∈ks∧p.2∈l.take k:=by
 have h':p∈List.take k (List.zipWith Prod.mk ks l):=h;rw [List.take_zipWith] at h';obtain ⟨h1,h2⟩:=List.of_mem_zip (show p∈(ks.take k).zip (l.take k) from h');exact ⟨List.mem_of_mem_take h1,h2⟩
theorem StrsV.cell {w:World} {A:Option Addr} {l:List ByteArray} (h:SlAt w A 1 (fun s=>[Value.string s]) l) {k:Nat} (hk:k<l.length):∃ b off,A=some ⟨b,off,none⟩∧w.cell? ⟨b,off+k,none⟩=some (.string l[k]):=by
 obtain ⟨b,off,rfl,_⟩:=h.ptr hk
 have:=h.cell0 hk (v:=.string l[k]) rfl
 simp only [Nat.mul_one] at this;exact ⟨b,off,rfl,this⟩
theorem OVal.more {w:World} {base:Nat} {v:Value} {a b:ValD} {n:Nat} {xs:List Value} (h:w.ownsRow base 53 4 v n xs) (hn:n=a.length+b.length) (hx:xs=a.flatMap CellD.cells ++ b.flatMap CellD.cells):OVal w base v (a ++ b):=by
 unfold OVal;rw [List.length_append,List.flatMap_append,← hn,← hx];exact h
theorem at_cells {w:World} {A:Option Addr} {x:ValD} (h:SlAt w A 4 CellD.cells x) (hne:x≠[]):∃ b off,A=some ⟨b,off,none⟩∧∀ w',Below w.heap.size w w'→∀ j u,(x.flatMap CellD.cells)[j]? = some u→w'.cell? ((⟨b,off,none⟩:Addr).add j)=some u:=by
 have hlt:0<x.length:=List.length_pos_iff.2 hne;obtain ⟨b,off,rfl,_⟩:=h.ptr hlt;refine ⟨b,off,rfl,fun w' hb j u hj=>?_⟩
 obtain ⟨n,k,hn,rfl,hk⟩:=cells_at x j u hj;rw [za0Y,← Nat.add_assoc];exact (h.below hb).cell hn hk
theorem cells4 (a b d:Int) (s:ByteArray):∀ u∈([.int .i64 a,.int .i64 b,.string s,.int .i64 d]:List Value),u.oneCell'=true:=by
 intro u hu;simp only [List.mem_cons,List.not_mem_nil,or_false] at hu;rcases hu with rfl | rfl | rfl | rfl <;> rfl
theorem vmap_any (ks:List ByteArray) (l:List ValD) (kv lv:Value) (w:World) (hk:StrsV w kv ks) (hl:ValsV w lv l) (hp:Pow w) (ho:∀ x∈l,OkV x) (hks:∀ s∈ks,s.size≤4294967296) (hn:l.length≤4000) :
  Calls prog 219 #[kv,lv] w (RetR w [] (mapR ks l)):=by
 obtain ⟨P,hP⟩:∃ P:Ending→World→Prop,RetR w [] (mapR ks l)=P:=⟨_,rfl⟩
 rw [hP];have HP:=hZz hP;obtain ⟨i0,hi,hz0,hz1,hz2⟩:=info_parts Tryz.infoCell;obtain ⟨A,cap,vs,rfl,hc,hm,hs,hla,hva⟩:=hl.at;obtain ⟨B,kcap,rfl,hkc,hks2⟩:=hk;have HS:=hZz hs;have HV:=hZz hva;have HLA:=hZz hla;have HW:=hZz hp;have HO:=hZz ho;have HK:=hZz hks2;have HKS:=hZz hks;have HL:Hid (l.length≤4000):=hZz hn;clear hP hs hva hla hp ho hks2 hks hl hc hm hkc;by_cases heq:ks.length=l.length
 case neg =>
  have HR:Hid (mapR ks l=([],1)):=hZz (by unfold mapR;rw [if_pos heq]);have h1:((ks.length:Int) != (l.length:Int))=true:=by simp;omega
  clear heq;go_enter func219,ntmps219
  go_wp2_with (fail)
  rw [← HP.out];exact ⟨.slice none 0 0,by rw [HR.out];rfl,by rw [HR.out];exact RowsV.nil none 0,FromC.none,Below.refl _ _⟩
 have HE:=hZz heq;rw [heq];have hB0:Below w.heap.size w (w.alloc (.cells #[.int .i64 6,.int .i64 0,.string ⟨#[]⟩,.int .i64 l.length] 53)):=zaaZ _ _;have HB0:=hZz hB0;have HO0:Hid (OVal (w.alloc (.cells #[.int .i64 6,.int .i64 0,.string ⟨#[]⟩,.int .i64 l.length] 53)) w.heap.size (.slice (some ⟨w.heap.size,0,none⟩) 1 1) (mapM (l.length:Nat) ((ks.zip l).take 0))):=hZz (zcnY (l:=mapM (l.length:Nat) ((ks.zip l).take 0)) (Blk.new w _ _) (Nat.le_refl _) rfl (by simp [mapM]));have hnn:(l.length:Int)≤4000:=by omega
 have hz:(ks.zip l).length=l.length:=by rw [List.length_zip,heq];exact Nat.min_self _
 have HZ:=hZz hz;obtain ⟨N,hN⟩:∃ N,l.length=N:=⟨_,rfl⟩
 rw [hN] at hnn HO0 HB0 ⊢;have HN:=hZz hN;clear heq hB0 hz hN hn;go_enter func219,ntmps219
 go_wp2_with (fail)
 go_loopw [6,7,8,9,21] (fun o _ _ _ i wr=>∃ k:Nat,k≤N∧i=.int .i64 k∧Hid (∀ x∈l.take k,checkF x=0)∧OVal wr w.heap.size o (mapM (N:Nat) ((ks.zip l).take k))∧Below w.heap.size w wr) (fun _ _ _ _ i _=>N - (intOf i).toNat)
 case atStart=>exact ⟨0,Nat.zero_le _,rfl,hZz (by simp),HO0.out,HB0.out⟩
 case round =>
  obtain ⟨k,hk,rfl,HR,hown,hbel⟩:=hrel;have HB:=hZz hbel;have HOW:=hZz hown;obtain ⟨oA,oc,hov⟩:=zafZ hown;subst hov;clear hbel hown;have hk0:(0:Int)≤(k:Int):=by omega
  by_cases hlt:k<N
  ·have hlt':(k:Int)<(N:Int):=by omega
   have hlk:k<l.length:=by rw [HN.out];exact hlt
   have hna:k<vs.length:=by rw [HLA.out];exact hlk
   have hkk:k<ks.length:=by rw [HE.out];exact hlk
   have hsa:=HS.out.below HB.out;obtain ⟨x,hx⟩:∃ x,vs[k]=x:=⟨_,rfl⟩
   have hvx:ValV w x l[k]:=(hx ▸ HV.out k hna hlk:ValV w x l[k])
   obtain ⟨A1,k1,rfl,hc1,hm1,hs1⟩:=hvx.at;obtain ⟨bA,off,rfl,_⟩:=hsa.ptr hna;have c0:=hsa.cell0 hna (v:=.slice A1 l[k].length k1) (by rw [hx];rfl);simp only [Nat.mul_one] at c0;obtain ⟨bB,offB,rfl,d0⟩:=StrsV.cell (HK.out.below HB.out) hkk;have hok:OkV l[k]:=HO.out _ (List.getElem_mem hlk);have HC:=hZz (zbcY l[k] A1 k1 wr (hs1.below HB.out) (HW.out.below HB.out) hok.1 hc1 hok.2);have HX:=hZz hs1;obtain ⟨ck,hck⟩:∃ c,checkF l[k]=c:=⟨_,rfl⟩
   rw [hck] at HC;have HCK:=hZz hck;have HKN:Hid (Value.string ks[k]=.string ks[k]):=hZz rfl;obtain ⟨s,hsk⟩:∃ s,ks[k]=s:=⟨_,rfl⟩
   rw [hsk] at d0;have HSK:=hZz hsk;obtain ⟨q,hq⟩:∃ q,l[k].length=q:=⟨_,rfl⟩
   rw [hq] at HC c0;have HQ:=hZz hq;clear hsa hx hvx hs1 hc1 hm1 hok hck hsk hq HKN;by_cases h0:ck=0
   ·subst h0
    obtain ⟨bX,offX,rfl,hat⟩:=at_cells HX.out (zadY HCK.out);have HAT:=hZz hat;have hq200:q≤200:=by rw [← HQ.out];exact len200 HCK.out
    have hqn:l[k].length=q:=HQ.out;have hkz:k<(ks.zip l).length:=by rw [HZ.out];exact hlk
    have hps:∀ p∈(ks.zip l).take k,checkF p.2=0:=fun p hp=>HR.out _ (zip_mem hp).2
    have hml:(mapM (N:Nat) ((ks.zip l).take k)).length≤804001:=by
     have:=zdyY (N:=(N:Nat)) hps
     rw [List.length_take] at this;omega
    have hsn:mapM (N:Nat) ((ks.zip l).take (k+1))=(mapM (N:Nat) ((ks.zip l).take k) ++ [sCel s]) ++ l[k]:=by
     rw [mapM_snoc hkz,List.getElem_zip,HSK.out]
    have HSN:=hZz hsn;have HML:=hZz hml;obtain ⟨M,hM⟩:∃ M,mapM (N:Nat) ((ks.zip l).take k)=M:=⟨_,rfl⟩
    rw [hM] at HOW HSN HML ⊢
    have hbq:(M.length+1+q) * 40≤140737488355328:=by
     have:=HML.out
     omega
    have hbm:M.length+1+q≤maxLen:=by
     have:=HML.out
     unfold maxLen;omega
    have hn6:M.length≤1000000:=by
     have:=HML.out
     omega
    clear hat hM hps hsn hml
    go_wp2_with (first
     | (go_at_call 79;(with_reducible refine HC.out.mono ?_);rintro e w1 ⟨rfl,hb1⟩;have HB1:=hZz hb1;have d1:=(HB1.out.cell (p:=⟨bB,offB+k,none⟩) (bLZ d0)).trans d0;have HO1:Hid (w1.ownsRow w.heap.size 53 4 (.slice oA M.length oc) M.length (M.flatMap CellD.cells)):=hZz (HOW.out.below hb1);have hsz1:w.heap.size≤w1.heap.size:=Nat.le_trans HB.out.size hb1.size;clear hb1)
     | (at_builtin;refine zajY rfl (.tmp 31) (.tmp 37) 22 rfl i0 _ 40 underlying22 hi hz0 hz1 hz2 rfl (by omega) rfl HO1.out [.int .i64 4,.int .i64 0,.string s,.int .i64 0] rfl rfl (cells4 _ _ _ _) hn6 (by omega) hsz1 ?_;intro v2 w2 hown2 hb2 hs2 _;have HO2:Hid (w2.ownsRow w.heap.size 53 4 v2 (M.length+1) ((M ++ [sCel s]).flatMap CellD.cells)):=hZz (by rw [List.flatMap_append];exact hown2);have HB2:=hZz hb2;have HS2:=hZz hs2;clear hown2 hb2 hs2)
     | (at_builtin;refine wpList_append_own _ rfl (.tmp 39) (.tmp 40) 22 rfl w.heap.size 53 i0 _ 4 40 underlying22 hi hz0 hz1 hz2 rfl (by omega) _ (M.length+1) ((M ++ [sCel s]).flatMap CellD.cells) rfl HO2.out ⟨bX,offX,none⟩ q k1 (l[k].flatMap CellD.cells) rfl ?k2 ?k3 (zaxY _) hbm hbq ?k4 ?_;(case k2=>rw [zamY,hqn]);(case k3=>exact HAT.out w2 ((zabZ HB1.out HB.out HB.out.size).trans HB2.out));(case k4=>exact Nat.le_trans hsz1 HB2.out.size);intro v3 w3 hown3 hg3 _;have HO3:=hZz (OVal.more (a:=M ++ [sCel s]) (b:=l[k]) hown3 (by simp [hqn]) rfl);have HB3:=hZz (((zabZ HB1.out HB.out HB.out.size).trans HB2.out).grown hg3 (Nat.le_trans hsz1 HB2.out.size) (fun g hg=>(HO2.out.lt g hg).1));clear hown3 hg3))
    exact ⟨⟨k+1,by omega,by simp,hZz (by
     rw [List.take_succ_eq_append_getElem hlk];intro x hx;rcases List.mem_append.1 hx with hx | hx
     ·exact HR.out x hx
     ·have:x=l[k]:=by simpa using hx
      rw [this];exact HCK.out),by rw [HSN.out];exact HO3.out,HB3.out⟩,by simp [intOf];omega⟩
   ·have h1:(ck != 0)=true:=by simpa using h0
    clear h0
    go_wp2_with (first
     | (go_at_call 79;(with_reducible refine HC.out.mono ?_);rintro e w1 ⟨rfl,hb1⟩;have HB1:=hZz (zabZ hb1 HB.out HB.out.size);clear hb1))
    rw [← HP.out]
    have hfb:mapR ks l=([],ck):=by
     have e1:=zbdY l k hlk HR.out (by rw [HCK.out];simpa using h1);unfold mapR;rw [if_neg (by rw [HE.out];simp),e1,HCK.out,if_pos (by simpa using h1)]
    exact ⟨.slice none 0 0,by rw [hfb];rfl,by rw [hfb];exact RowsV.nil none 0,FromC.none,HB1.out⟩
  ·have e:k=N:=by omega
   have HKN:=hZz e;subst e;have hz:ks.zip l=(ks.zip l).take k:=by rw [List.take_of_length_le (by rw [HZ.out,HN.out];exact Nat.le_refl _)]
   have hps:∀ p∈ks.zip l,checkF p.2=0:=by
    rw [hz];exact fun p hp=>HR.out _ (zip_mem hp).2
   have hfb:mapR ks l=okR (mapM (k:Nat) ((ks.zip l).take k)):=by
    have e1:=zbiY l (fun x hx=>HR.out x (by rw [← HN.out,List.take_length];exact hx));unfold mapR;rw [if_neg (by rw [HE.out];simp),if_neg (by rw [e1];simp),← mapM_all,HN.out,← hz]
   have hok:OkV (mapM (k:Nat) ((ks.zip l).take k)):=by
    rw [← hz];exact mapM_ok (by omega) hps (fun p hp=>HKS.out _ (List.of_mem_zip hp).1) (fun p hp=>HO.out _ (List.of_mem_zip hp).2) (by rw [HZ.out,HN.out];omega)
   have hval:=HOW.out.val (by have:=hok.1;omega);have HC:=hZz (zbpY _ _ wr hval (HW.out.below HB.out) hok);have HFB:=hZz hfb;clear hz hps hfb hok hval;obtain ⟨M,hM⟩:∃ M,mapM (k:Nat) ((ks.zip l).take k)=M:=⟨_,rfl⟩
   rw [hM] at HOW HFB HC ⊢;clear hM
   go_wp2_with (first
    | (go_at_call 80;(with_reducible refine HC.out.mono ?_);rintro e w1 ⟨u,rfl,hu⟩;have HU:=hZz hu;clear hu))
   rw [← HP.out,HFB.out];exact RetR.own ⟨u,rfl,HU.out⟩ HOW.out HB.out
def listM (N:Int) (l:List ValD):ValD:=⟨5,0,⟨#[]⟩,N⟩ :: l.flatten
theorem listM_all (l:List ValD):listM (l.length:Nat) l=listV l:=rfl
theorem listM_snoc {N:Int} {l:List ValD} {k:Nat} (h:k<l.length):listM N (l.take (k+1))=listM N (l.take k) ++ l[k]:=by
 unfold listM;rw [List.take_succ_eq_append_getElem h,List.flatten_append];simp
theorem listM_len {N:Int}:∀ {l:List ValD},(∀ p∈l,checkF p=0)→(listM N l).length≤1+l.length * 200
 | [],_=>by simp [listM]
 | p :: r,h=>by
  have h1:=len200 (h p (by simp));have h2:=listM_len (N:=N) (l:=r) (fun q hq=>h q (by simp [hq]));simp only [listM,List.flatten_cons,List.length_cons,List.length_append] at h2 ⊢;omega
theorem listM_ok {N:Int} {l:List ValD} (hN:0≤N∧N≤1000000) (h:∀ p∈l,checkF p=0) (h2:∀ p∈l,OkV p) (hl:l.length≤4000):OkV (listM N l):=by
 have hle:=listM_len (N:=N) h;refine ⟨by omega,fun c hc=>?_⟩
 unfold listM at hc;rcases List.mem_cons.1 hc with rfl | hc
 ·exact ⟨by show (0:Nat)≤_;omega,by show (_:Int)≤0∧(0:Int)≤_;omega,by show N≤_;omega⟩
 ·obtain ⟨p,hp,hc⟩:=List.mem_flatten.1 hc
  exact (h2 p hp).2 c hc
theorem zc8Y (l:List ValD) (lv:Value) (w:World) (hl:ValsV w lv l) (hp:Pow w) (ho:∀ x∈l,OkV x) (hn:l.length≤4000) :
  Calls prog 93 #[lv] w (RetR w [] (listR l)):=by
 obtain ⟨P,hP⟩:∃ P:Ending→World→Prop,RetR w [] (listR l)=P:=⟨_,rfl⟩
 rw [hP];have HP:=hZz hP;obtain ⟨i0,hi,hz0,hz1,hz2⟩:=info_parts Tryz.infoCell;obtain ⟨A,cap,vs,rfl,hc,hm,hs,hla,hva⟩:=hl.at;have HS:=hZz hs;have HV:=hZz hva;have HLA:=hZz hla;have HW:=hZz hp;have HO:=hZz ho;have HL:Hid (l.length≤4000):=hZz hn;clear hP hs hva hla hp ho hl hc hm;have hB0:Below w.heap.size w (w.alloc (.cells #[.int .i64 5,.int .i64 0,.string ⟨#[]⟩,.int .i64 l.length] 53)):=zaaZ _ _;have HB0:=hZz hB0;have HO0:Hid (OVal (w.alloc (.cells #[.int .i64 5,.int .i64 0,.string ⟨#[]⟩,.int .i64 l.length] 53)) w.heap.size (.slice (some ⟨w.heap.size,0,none⟩) 1 1) (listM (l.length:Nat) (l.take 0))):=hZz (zcnY (l:=listM (l.length:Nat) (l.take 0)) (Blk.new w _ _) (Nat.le_refl _) rfl (by simp [listM]));have hnn:(l.length:Int)≤4000:=by omega
 obtain ⟨N,hN⟩:∃ N,l.length=N:=⟨_,rfl⟩
 rw [hN] at hnn HO0 HB0 ⊢;have HN:=hZz hN;clear hB0 hN hn;go_enter func93,ntmps93
 go_wp2_with (fail)
 go_loopw [4,6,7,14] (fun o _ _ i wr=>∃ k:Nat,k≤N∧i=.int .i64 k∧Hid (∀ x∈l.take k,checkF x=0)∧OVal wr w.heap.size o (listM (N:Nat) (l.take k))∧Below w.heap.size w wr) (fun _ _ _ i _=>N - (intOf i).toNat)
 case atStart=>exact ⟨0,Nat.zero_le _,rfl,hZz (by simp),HO0.out,HB0.out⟩
 case round =>
  obtain ⟨k,hk,rfl,HR,hown,hbel⟩:=hrel;have HB:=hZz hbel;have HOW:=hZz hown;obtain ⟨oA,oc,hov⟩:=zafZ hown;subst hov;clear hbel hown;have hk0:(0:Int)≤(k:Int):=by omega
  by_cases hlt:k<N
  ·have hlt':(k:Int)<(N:Int):=by omega
   have hlk:k<l.length:=by rw [HN.out];exact hlt
   have hna:k<vs.length:=by rw [HLA.out];exact hlk
   have hsa:=HS.out.below HB.out;obtain ⟨x,hx⟩:∃ x,vs[k]=x:=⟨_,rfl⟩
   have hvx:ValV w x l[k]:=(hx ▸ HV.out k hna hlk:ValV w x l[k])
   obtain ⟨A1,k1,rfl,hc1,hm1,hs1⟩:=hvx.at;obtain ⟨bA,off,rfl,_⟩:=hsa.ptr hna;have c0:=hsa.cell0 hna (v:=.slice A1 l[k].length k1) (by rw [hx];rfl);simp only [Nat.mul_one] at c0;have hok:OkV l[k]:=HO.out _ (List.getElem_mem hlk);have HC:=hZz (zbcY l[k] A1 k1 wr (hs1.below HB.out) (HW.out.below HB.out) hok.1 hc1 hok.2);have HX:=hZz hs1;obtain ⟨ck,hck⟩:∃ c,checkF l[k]=c:=⟨_,rfl⟩
   rw [hck] at HC;have HCK:=hZz hck;obtain ⟨q,hq⟩:∃ q,l[k].length=q:=⟨_,rfl⟩
   rw [hq] at HC c0;have HQ:=hZz hq;clear hsa hx hvx hs1 hc1 hm1 hok hck hq;by_cases h0:ck=0
   ·subst h0
    obtain ⟨bX,offX,rfl,hat⟩:=at_cells HX.out (zadY HCK.out);have HAT:=hZz hat;have hq200:q≤200:=by rw [← HQ.out];exact len200 HCK.out
    have hqn:l[k].length=q:=HQ.out
    have hml:(listM (N:Nat) (l.take k)).length≤804001:=by
     have:=listM_len (N:=(N:Nat)) HR.out
     rw [List.length_take] at this;omega
    have hsn:listM (N:Nat) (l.take (k+1))=listM (N:Nat) (l.take k) ++ l[k]:=listM_snoc hlk;have HSN:=hZz hsn;have HML:=hZz hml;obtain ⟨M,hM⟩:∃ M,listM (N:Nat) (l.take k)=M:=⟨_,rfl⟩
    rw [hM] at HOW HSN HML ⊢
    have hbq:(M.length+q) * 40≤140737488355328:=by
     have:=HML.out
     omega
    have hbm:M.length+q≤maxLen:=by
     have:=HML.out
     unfold maxLen;omega
    have hn6:M.length≤1000000:=by
     have:=HML.out
     omega
    clear hat hM hsn hml
    go_wp2_with (first
     | (go_at_call 79;(with_reducible refine HC.out.mono ?_);rintro e w1 ⟨rfl,hb1⟩;have HB1:=hZz hb1;have HO1:Hid (w1.ownsRow w.heap.size 53 4 (.slice oA M.length oc) M.length (M.flatMap CellD.cells)):=hZz (HOW.out.below hb1);have hsz1:w.heap.size≤w1.heap.size:=Nat.le_trans HB.out.size hb1.size;clear hb1)
     | (at_builtin;refine wpList_append_own _ rfl (.tmp 23) (.tmp 24) 22 rfl w.heap.size 53 i0 _ 4 40 underlying22 hi hz0 hz1 hz2 rfl (by omega) _ M.length (M.flatMap CellD.cells) rfl HO1.out ⟨bX,offX,none⟩ q k1 (l[k].flatMap CellD.cells) rfl ?k2 ?k3 (zaxY _) hbm hbq ?k4 ?_;(case k2=>rw [zamY,hqn]);(case k3=>exact HAT.out w1 (zabZ HB1.out HB.out HB.out.size));(case k4=>exact hsz1);intro v3 w3 hown3 hg3 _;have HO3:=hZz (OVal.more (a:=M) (b:=l[k]) hown3 (by simp [hqn]) rfl);have HB3:=hZz ((zabZ HB1.out HB.out HB.out.size).grown hg3 hsz1 (fun g hg=>(HO1.out.lt g hg).1));clear hown3 hg3))
    exact ⟨⟨k+1,by omega,by simp,hZz (by
     rw [List.take_succ_eq_append_getElem hlk];intro x hx;rcases List.mem_append.1 hx with hx | hx
     ·exact HR.out x hx
     ·have:x=l[k]:=by simpa using hx
      rw [this];exact HCK.out),by rw [HSN.out];exact HO3.out,HB3.out⟩,by simp [intOf];omega⟩
   ·have h1:(ck != 0)=true:=by simpa using h0
    clear h0
    go_wp2_with (first
     | (go_at_call 79;(with_reducible refine HC.out.mono ?_);rintro e w1 ⟨rfl,hb1⟩;have HB1:=hZz (zabZ hb1 HB.out HB.out.size);clear hb1))
    rw [← HP.out]
    have hfb:listR l=([],ck):=by
     have e1:=zbdY l k hlk HR.out (by rw [HCK.out];simpa using h1);unfold listR;rw [e1,HCK.out,if_pos (by simpa using h1)]
    exact ⟨.slice none 0 0,by rw [hfb];rfl,by rw [hfb];exact RowsV.nil none 0,FromC.none,HB1.out⟩
  ·have e:k=N:=by omega
   have HKN:=hZz e;subst e;have hz:l.take k=l:=by rw [← HN.out,List.take_length]
   have hps:∀ p∈l,checkF p=0:=by
    have:=HR.out
    rwa [hz] at this
   have hfb:listR l=okR (listM (k:Nat) (l.take k)):=by
    have e1:=zbiY l hps;unfold listR;rw [if_neg (by rw [e1];simp),← listM_all,HN.out,hz]
   have hok:OkV (listM (k:Nat) (l.take k)):=by
    rw [hz];exact listM_ok (by omega) hps HO.out (by rw [HN.out];omega)
   have hval:=HOW.out.val (by have:=hok.1;omega);have HC:=hZz (zbpY _ _ wr hval (HW.out.below HB.out) hok);have HFB:=hZz hfb;clear hz hps hfb hok hval;obtain ⟨M,hM⟩:∃ M,listM (k:Nat) (l.take k)=M:=⟨_,rfl⟩
   rw [hM] at HOW HFB HC ⊢;clear hM
   go_wp2_with (first
    | (go_at_call 80;(with_reducible refine HC.out.mono ?_);rintro e w1 ⟨u,rfl,hu⟩;have HU:=hZz hu;clear hu))
   rw [← HP.out,HFB.out];exact RetR.own ⟨u,rfl,HU.out⟩ HOW.out HB.out
theorem ChainV.head {v:ValD} {m:Bool} {D:Nat} {B:Int} {a b:Nat} {l:List (ByteArray × ValD)} {p:ByteArray × ValD} (h:ChainV v m D B a (p :: l) b):∃ r,(if m=true then ∃ c,v[a]? = some c∧c.kind=4∧plainB c=true∧p.1=c.str else p.1=⟨#[]⟩)∧px v (a+m.toNat)=some r∧p.2=sec v (a+m.toNat) r.j∧ChainV v m D B r.j l b:=by
 cases h with
 | cons hp hc =>
  obtain ⟨r,h1,h2,h3,h4,_,_⟩:=hp;subst h4;exact ⟨r,h1,h2,h3,hc⟩
theorem ChainV.len {v:ValD} {m:Bool} {D:Nat} {B:Int} {a b:Nat} {l:List (ByteArray × ValD)} (h:ChainV v m D B a l b):a+l.length≤b:=by
 induction h with
 | nil a=>simp
 | cons hp _ ih =>
  obtain ⟨r,_,hr,_,ha,_,_⟩:=hp
  have:=(zayY hr).1
  simp only [List.length_cons];omega
theorem drop_sec (v:ValD) (a:Nat):sec v a v.length=v.drop a:=by
 unfold sec;rw [List.take_of_length_le (by simp)]
theorem px_drop {v:ValD} {a:Nat} {r:Sh} (h:px v a=some r):px (v.drop a) 0=some ⟨r.j - a,r.d,r.b⟩:=by
 rw [← drop_sec];exact px_sec h (zayY h).2 (Nat.le_refl _)
theorem SlAt.sub {w:World} {b off:Nat} {v:ValD} (h:SlAt w (some ⟨b,off,none⟩) 4 CellD.cells v) (a m:Nat):SlAt w (some ⟨b,off+a * 4,none⟩) 4 CellD.cells ((v.drop a).take m):=by
 intro i row hi;rw [List.getElem?_map,List.getElem?_take] at hi;split at hi
 ·rw [List.getElem?_drop] at hi
  obtain ⟨b',off',e,hlt,hc⟩:=h (a+i) row (by rw [List.getElem?_map];exact hi);simp only [Option.some.injEq,Addr.mk.injEq,and_true] at e;obtain ⟨rfl,rfl⟩:=e;refine ⟨b,off+a * 4,rfl,hlt,fun j u hu=>?_⟩
  have:=hc j u hu
  rw [show off+a * 4+i * 4+j=off+(a+i) * 4+j by omega];exact this
 ·cases hi
theorem valV_slAt {w:World} {A:Option Addr} {cap:Nat} {l:ValD} (h:SlAt w A 4 CellD.cells l) (hc:l.length≤cap) (hm:l.length≤3518437208780):ValV w (.slice A l.length cap) l :=
 ⟨A,cap,l.map CellD.cells,rfl,hc,hm,by unfold SlAt at h ⊢;rw [List.map_map];exact h,by simp,fun i hi hi'=>by simp [cellR]⟩
theorem parts5_any (c:CellD) (r:ValD) (v:Value) (fid:FuncId) (caps:Array Value) (w0 w:World) (h:ValV w0 v (c :: r)) (hw:Below w0.heap.size w0 w) (hp:Pow w0) (ho:OkV (c :: r)) (hck:checkF (c :: r)=0) (hk:c.kind=5) (I:Nat→World→Prop) (J:World→Prop)
  (hent:∀ args w,(callFunc fid args).run prog w=.ok (.enter fid args) w) (h0:I 0 w) (hIB:∀ k wx,I k wx→Below w0.heap.size w0 wx) (hst:∀ k wx wy,I k wx→Below wx.heap.size wx wy→I k wy)
  (hy:∀ k wx x (hk:k<(partsOf (c :: r)).length),I k wx→ValV w0 x (partsOf (c :: r))[k].2→Calls prog fid (#[.string (partsOf (c :: r))[k].1,x] ++ caps) wx fun e w'=>∃ b,e=.returned (.bool b)∧(b=true→I (k+1) w')∧(b=false→J w'))
  (hJ:∀ wx,I (partsOf (c :: r)).length wx→J wx) :
  Calls prog 105 #[v,.func (.func fid) #[] caps] w fun e w'=>e=.returned (.tuple #[])∧J w':=by
 obtain ⟨b,off,n,cap,rfl,hn,c0,c1,c2,c3⟩:=zaaY h;have hs:=fun x hx=>zapY (ho.2 x hx)
 obtain ⟨hpl,hnn,hch,_⟩:=zauY hck hs (c:=c) rfl (.inl hk);rw [show decide (c.kind=6)=false by simp [hk]] at hch;have hpos:(0:Int)<(n:Int):=by omega
 have HV:=hZz h;have HCH:=hZz hch;obtain ⟨A,cap',e,hc',hm',hsl⟩:=h.at;injection e with e1 e2 e3
 subst e1 e2 e3;have HSL:=hZz hsl;have HOK:=hZz ho;have HP:=hZz hp;have HL:Hid ((c :: r).length≤200):=hZz (len200 hck);have HY:=hZz hy;have HST:=hZz hst;have HIB:=hZz hIB;have HJ:=hZz hJ;have HI0:=hZz h0;obtain ⟨ps,hps⟩:∃ ps,partsOf (c :: r)=ps:=⟨_,rfl⟩
 rw [hps] at HY HJ HCH hpl;obtain ⟨l,hl⟩:∃ l,c :: r=l:=⟨_,rfl⟩
 rw [hl] at HV HCH HSL HOK HL hc' hm' hpos ⊢;obtain ⟨N,hN⟩:∃ N,l.length=N:=⟨_,rfl⟩
 have HN:=hZz hN;rw [hN] at hc' hm' hpos ⊢;obtain ⟨k,i,s,nn⟩:=c;dsimp only at c0 c3 hk hpl hnn;have HC0:Hid (w0.cell? ⟨b,off,none⟩=some (.int .i64 5)):=hZz (by rw [c0,hk]);have HC3:Hid (w0.cell? ⟨b,off+3,none⟩=some (.int .i64 (ps.length:Nat))):=hZz (by rw [c3,hpl];congr 2;omega)
 have HPS:Hid (ps.length≤200):=hZz (by
  have h1:=HL.out;have h2:=HCH.out.len;omega)
 clear h hp ho hck c0 c1 c2 c3 hsl hst hIB hJ h0 hy hps hl hN hn hs hch hk hpl hnn;go_enter func105,ntmps105
 have w1:=(hw.cell (p:=⟨b,off+3,none⟩) (bLZ HC3.out)).trans HC3.out;go_wp2_with (fail)
 go_loopw [4,5,6,7,8,13] (fun at' _ _ _ _ j wr=>∃ k a:Nat,k≤ps.length∧j=.int .i64 k∧at'=.int .i64 a∧ChainV l false 7 4000 a (ps.drop k) N∧I k wr) (fun _ _ _ _ _ j _=>ps.length - (intOf j).toNat)
 case atStart=>exact ⟨0,1,Nat.zero_le _,rfl,rfl,by rw [← HN.out];exact HCH.out,HI0.out⟩
 case round =>
  obtain ⟨k,a,hk,rfl,rfl,hch,hi⟩:=hrel;have HCK:=hZz hch;have HI:=hZz hi;have HB:=hZz (HIB.out _ _ hi);have g0:=(HB.out.cell (p:=⟨b,off,none⟩) (bLZ HC0.out)).trans HC0.out;clear hch hi;have hk0:(0:Int)≤(k:Int):=by omega
  have hk1:(k:Int)≤200:=by have:=HPS.out;omega
  by_cases hlt:k<ps.length
  ·have hlt':(k:Int)<(ps.length:Int):=by omega
   have hch:=HCK.out;rw [List.drop_eq_getElem_cons hlt] at hch;obtain ⟨rr,hkey,hpx,hsec,hrest⟩:=hch.head;have hadv:=zayY hpx;have hrest2:=hrest.le;simp only [Bool.toNat_false,Nat.add_zero] at hpx hadv hsec;obtain ⟨q,hq⟩:∃ q,rr.j=a+q:=⟨rr.j - a,by omega⟩
   have haN:a+q≤N:=by rw [← hq];exact hrest2
   have hq1:0<q:=by omega
   have ha0:(0:Int)≤(a:Int):=by omega
   have ha1:(a:Int)≤(N:Int):=by omega
   have ha2:¬ cap=a:=by omega
   have ha3:(a:Int)+(q:Int)≤(cap:Int):=by omega
   have ha4:(a:Int)≤(a:Int)+(q:Int):=by omega
   have hda:(l.drop a).length=N - a:=by rw [List.length_drop,HN.out]
   have HLK:Hid (Calls prog 134 #[.slice (some ⟨b,off+a * 4,none⟩) (N - a) (cap - a)] wr fun e w'=>∃ x1 x2 x3 x4,e=.returned (.tuple #[.int .i64 q,.agg #[.int .i64 x1,.int .i64 x2,.bool x3,.bool x4],.bool true])∧Below wr.heap.size wr w'):=hZz (by
    have hsl:SlAt wr (some ⟨b,off+a * 4,none⟩) 4 CellD.cells (l.drop a):=by
     have:=(HSL.out.below HB.out).sub a (N - a)
     rwa [List.take_of_length_le (by rw [hda];exact Nat.le_refl _)] at this
    have hlk:=look_any (l.drop a) (some ⟨b,off+a * 4,none⟩) (cap - a) wr hsl (HP.out.below HB.out) (by rw [hda];have:=HL.out;rw [HN.out] at this;omega) (by rw [hda];omega) (fun x hx=>HOK.out.2 x (List.mem_of_mem_drop hx));rw [hda,px_drop hpx] at hlk;refine hlk.mono fun e w' hpost=>?_
    obtain ⟨hb,he⟩:=hpost;dsimp only at he;rw [show rr.j - a=q by omega] at he;exact ⟨_,_,_,_,he,hb⟩)
   have HYK:Hid (∀ wx,I k wx→Calls prog fid (#[.string ⟨#[]⟩,.slice (some ⟨b,off+a * 4,none⟩) q q] ++ caps) wx fun e w'=>∃ b,e=.returned (.bool b)∧(b=true→I (k+1) w')∧(b=false→J w')):=hZz (fun wx hix=>by
    have hkey':ps[k].1=⟨#[]⟩:=by simpa using hkey
    have hsl:SlAt w0 (some ⟨b,off+a * 4,none⟩) 4 CellD.cells ((l.drop a).take q):=HSL.out.sub a q;have hx2:ps[k].2=(l.drop a).take q:=by rw [hsec];unfold sec;rw [hq];congr 1;omega
    have hln:((l.drop a).take q).length=q:=by rw [List.length_take,hda];omega
    have hv:=valV_slAt hsl (cap:=q) (by rw [hln];exact Nat.le_refl _) (by rw [hln];omega);rw [hln,← hx2] at hv
    have:=HY.out k wx _ hlt hix hv
    rwa [hkey'] at this)
   have HNX:Hid (ChainV l false 7 4000 (a+q) (ps.drop (k+1)) N):=hZz (by rw [← hq];exact hrest);clear hadv hrest2 hda hpx hch hkey hsec hrest hq;have haq:(a:Int)+(q:Int)≤1000000000000000:=by omega
   go_wp2_with (first
    | (go_at_call 134;((with_reducible refine HLK.out.mono ?_);rintro e w2 ⟨x1,x2,x3,x4,rfl,hb2⟩;have HI2:=hZz (HST.out _ _ _ HI.out hb2);clear hb2))
    | (go_at_fn fid;((refine Calls.mono (HYK.out _ (HST.out _ _ _ HI2.out (zaaZ _ _))) ?_);rintro e w4 ⟨bb,rfl,hbt,hbf⟩;have HT:=hZz hbt;have HF:=hZz hbf;clear hbt hbf;cases bb)))
   ·go_returns
    exact ⟨rfl,HF.out (by trivial)⟩
   ·exact ⟨⟨k+1,a+q,by omega,by simp,by simp,HNX.out,HT.out (by trivial)⟩,by simp [intOf];omega⟩
  ·have e:k=ps.length:=by omega
   subst e;go_wp2_with (fail)
   go_returns;exact ⟨rfl,HJ.out _ HI.out⟩
theorem parts6_any (c:CellD) (r:ValD) (v:Value) (fid:FuncId) (caps:Array Value) (w0 w:World) (h:ValV w0 v (c :: r)) (hw:Below w0.heap.size w0 w) (hp:Pow w0) (ho:OkV (c :: r)) (hck:checkF (c :: r)=0) (hk:c.kind=6) (I:Nat→World→Prop) (J:World→Prop)
  (hent:∀ args w,(callFunc fid args).run prog w=.ok (.enter fid args) w) (h0:I 0 w) (hIB:∀ k wx,I k wx→Below w0.heap.size w0 wx) (hst:∀ k wx wy,I k wx→Below wx.heap.size wx wy→I k wy)
  (hy:∀ k wx x (hk:k<(partsOf (c :: r)).length),I k wx→ValV w0 x (partsOf (c :: r))[k].2→Calls prog fid (#[.string (partsOf (c :: r))[k].1,x] ++ caps) wx fun e w'=>∃ b,e=.returned (.bool b)∧(b=true→I (k+1) w')∧(b=false→J w'))
  (hJ:∀ wx,I (partsOf (c :: r)).length wx→J wx) :
  Calls prog 105 #[v,.func (.func fid) #[] caps] w fun e w'=>e=.returned (.tuple #[])∧J w':=by
 obtain ⟨b,off,n,cap,rfl,hn,c0,c1,c2,c3⟩:=zaaY h;have hs:=fun x hx=>zapY (ho.2 x hx)
 obtain ⟨hpl,hnn,hch,_⟩:=zauY hck hs (c:=c) rfl (.inr hk);rw [show decide (c.kind=6)=true by simp [hk]] at hch;have hpos:(0:Int)<(n:Int):=by omega
 have HV:=hZz h;have HCH:=hZz hch;obtain ⟨A,cap',e,hc',hm',hsl⟩:=h.at;injection e with e1 e2 e3
 subst e1 e2 e3;have HSL:=hZz hsl;have HOK:=hZz ho;have HP:=hZz hp;have HL:Hid ((c :: r).length≤200):=hZz (len200 hck);have HY:=hZz hy;have HST:=hZz hst;have HIB:=hZz hIB;have HJ:=hZz hJ;have HI0:=hZz h0;obtain ⟨ps,hps⟩:∃ ps,partsOf (c :: r)=ps:=⟨_,rfl⟩
 rw [hps] at HY HJ HCH hpl;obtain ⟨l,hl⟩:∃ l,c :: r=l:=⟨_,rfl⟩
 rw [hl] at HV HCH HSL HOK HL hc' hm' hpos ⊢;obtain ⟨N,hN⟩:∃ N,l.length=N:=⟨_,rfl⟩
 have HN:=hZz hN;rw [hN] at hc' hm' hpos ⊢;obtain ⟨k,i,s,nn⟩:=c;dsimp only at c0 c3 hk hpl hnn;have HC0:Hid (w0.cell? ⟨b,off,none⟩=some (.int .i64 6)):=hZz (by rw [c0,hk]);have HC3:Hid (w0.cell? ⟨b,off+3,none⟩=some (.int .i64 (ps.length:Nat))):=hZz (by rw [c3,hpl];congr 2;omega)
 have HPS:Hid (ps.length≤200):=hZz (by
  have h1:=HL.out;have h2:=HCH.out.len;omega)
 clear h hp ho hck c0 c1 c2 c3 hsl hst hIB hJ h0 hy hps hl hN hn hs hch hk hpl hnn;go_enter func105,ntmps105
 have w1:=(hw.cell (p:=⟨b,off+3,none⟩) (bLZ HC3.out)).trans HC3.out;go_wp2_with (fail)
 go_loopw [4,5,6,7,8,13] (fun at' _ _ _ _ j wr=>∃ k a:Nat,k≤ps.length∧j=.int .i64 k∧at'=.int .i64 a∧ChainV l true 7 4000 a (ps.drop k) N∧I k wr) (fun _ _ _ _ _ j _=>ps.length - (intOf j).toNat)
 case atStart=>exact ⟨0,1,Nat.zero_le _,rfl,rfl,by rw [← HN.out];exact HCH.out,HI0.out⟩
 case round =>
  obtain ⟨k,a,hk,rfl,rfl,hch,hi⟩:=hrel;have HCK:=hZz hch;have HI:=hZz hi;have HB:=hZz (HIB.out _ _ hi);have g0:=(HB.out.cell (p:=⟨b,off,none⟩) (bLZ HC0.out)).trans HC0.out;clear hch hi;have hk0:(0:Int)≤(k:Int):=by omega
  have hk1:(k:Int)≤200:=by have:=HPS.out;omega
  by_cases hlt:k<ps.length
  ·have hlt':(k:Int)<(ps.length:Int):=by omega
   have hch:=HCK.out;rw [List.drop_eq_getElem_cons hlt] at hch;obtain ⟨rr,hkey,hpx,hsec,hrest⟩:=hch.head;have hadv:=zayY hpx;have hrest2:=hrest.le;simp only [Bool.toNat_true] at hpx hadv hsec;rw [if_pos rfl] at hkey;obtain ⟨kc,hkc,_,_,hks⟩:=hkey;obtain ⟨ks,hks2⟩:∃ s,kc.str=s:=⟨_,rfl⟩
   rw [hks2] at hks;obtain ⟨a1,ha1e⟩:∃ x,a+1=x:=⟨_,rfl⟩
   rw [ha1e] at hpx hadv hsec;obtain ⟨q,hq⟩:∃ q,rr.j=a1+q:=⟨rr.j - a1,by omega⟩
   have haN:a1+q≤N:=by rw [← hq];exact hrest2
   have hq1:0<q:=by omega
   have ha0:(0:Int)≤(a:Int):=by omega
   have hai:(a:Int)<(N:Int):=by omega
   have hae:(a:Int)+1=(a1:Int):=by omega
   have hb0:(0:Int)≤(a1:Int):=by omega
   have d2:wr.cell? ⟨b,off+a * 4+2,none⟩=some (.string ks):=by
    have hal:a<l.length:=(List.getElem?_eq_some_iff.1 hkc).1;have e0:l[a]=kc:=by have:=hkc;rw [List.getElem?_eq_getElem hal] at this;exact Option.some.inj this
    have:=(HSL.out.below HB.out).cell hal (j:=2) (v:=.string ks) (by rw [e0,← hks2];rfl)
    exact this
   have hb1:(a1:Int)≤(N:Int):=by omega
   have hb2':¬ cap=a1:=by omega
   have hb3:(a1:Int)+(q:Int)≤(cap:Int):=by omega
   have hb4:(a1:Int)≤(a1:Int)+(q:Int):=by omega
   have hda:(l.drop a1).length=N - a1:=by rw [List.length_drop,HN.out]
   have HLK:Hid (Calls prog 134 #[.slice (some ⟨b,off+a1 * 4,none⟩) (N - a1) (cap - a1)] wr fun e w'=>∃ x1 x2 x3 x4,e=.returned (.tuple #[.int .i64 q,.agg #[.int .i64 x1,.int .i64 x2,.bool x3,.bool x4],.bool true])∧Below wr.heap.size wr w'):=hZz (by
    have hsl:SlAt wr (some ⟨b,off+a1 * 4,none⟩) 4 CellD.cells (l.drop a1):=by
     have:=(HSL.out.below HB.out).sub a1 (N - a1)
     rwa [List.take_of_length_le (by rw [hda];exact Nat.le_refl _)] at this
    have hlk:=look_any (l.drop a1) (some ⟨b,off+a1 * 4,none⟩) (cap - a1) wr hsl (HP.out.below HB.out) (by rw [hda];have:=HL.out;rw [HN.out] at this;omega) (by rw [hda];omega) (fun x hx=>HOK.out.2 x (List.mem_of_mem_drop hx));rw [hda,px_drop hpx] at hlk;refine hlk.mono fun e w' hpost=>?_
    obtain ⟨hb,he⟩:=hpost;dsimp only at he;rw [show rr.j - a1=q by omega] at he;exact ⟨_,_,_,_,he,hb⟩)
   have HYK:Hid (∀ wx,I k wx→Calls prog fid (#[.string ks,.slice (some ⟨b,off+a1 * 4,none⟩) q q] ++ caps) wx fun e w'=>∃ b,e=.returned (.bool b)∧(b=true→I (k+1) w')∧(b=false→J w')):=hZz (fun wx hix=>by
    have hsl:SlAt w0 (some ⟨b,off+a1 * 4,none⟩) 4 CellD.cells ((l.drop a1).take q):=HSL.out.sub a1 q;have hx2:ps[k].2=(l.drop a1).take q:=by rw [hsec];unfold sec;rw [hq];congr 1;omega
    have hln:((l.drop a1).take q).length=q:=by rw [List.length_take,hda];omega
    have hv:=valV_slAt hsl (cap:=q) (by rw [hln];exact Nat.le_refl _) (by rw [hln];omega);rw [hln,← hx2] at hv
    have:=HY.out k wx _ hlt hix hv
    rwa [hks] at this)
   have HNX:Hid (ChainV l true 7 4000 (a1+q) (ps.drop (k+1)) N):=hZz (by rw [← hq];exact hrest);clear hadv hrest2 hda hpx hch hsec hrest hq hkc hks hks2 ha1e;have haq:(a1:Int)+(q:Int)≤1000000000000000:=by omega
   go_wp2_with (first
    | (go_at_call 134;((with_reducible refine HLK.out.mono ?_);rintro e w2 ⟨x1,x2,x3,x4,rfl,hb2⟩;have HI2:=hZz (HST.out _ _ _ HI.out hb2);clear hb2))
    | (go_at_fn fid;((refine Calls.mono (HYK.out _ (HST.out _ _ _ HI2.out (zaaZ _ _))) ?_);rintro e w4 ⟨bb,rfl,hbt,hbf⟩;have HT:=hZz hbt;have HF:=hZz hbf;clear hbt hbf;cases bb)))
   ·go_returns
    exact ⟨rfl,HF.out (by trivial)⟩
   ·exact ⟨⟨k+1,a1+q,by omega,by simp,by simp,HNX.out,HT.out (by trivial)⟩,by simp [intOf];omega⟩
  ·have e:k=ps.length:=by omega
   subst e;go_wp2_with (fail)
   go_returns;exact ⟨rfl,HJ.out _ HI.out⟩
end Go.Proofs.YtekdhlfapejijaaGreatDoor
