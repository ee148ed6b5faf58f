/- T5, T6, W0 -/
import Derived.Test.YthiimbhjpdphpaaGreatDoorPEX
import Derived.Test.YthiimbhjpdphpaaGreatDoorPK7
set_option linter.unusedVariables false
set_option linter.unusedSimpArgs false
namespace Go.Proofs.YthiimbhjpdphpaaGreatDoor
open Go.RowKit
set_option maxRecDepth 100000
set_option maxHeartbeats 8000000
open Go.Proofs.Tryz
section
theorem scope_all (w0:World) (S:ProgS) (gS gm gs ge:Nat) (hS:ProgV w0 S) (hok:ProgOk S.p):∀ f,WalkH w0 S gS gm gs ge f:=by
 intro f;induction f with
 | zero=>intro i s D w h;cases h
 | succ f ih=>exact walk_s w0 S gS gm gs ge hS hok f ih (block_s w0 S gS gm gs ge hS hok f ih)
theorem Tryz.infoIntS:(prog.info? 3).map (fun i=>(i.zero,i.size,i.bytes))=some (some (.int .i64 0),1,8):=by kernel_rfl
theorem Tryz.infoErrS:(prog.info? 32).map (fun i=>(i.zero,i.size,i.bytes))=some (some (.int .i64 0),1,8):=by kernel_rfl
theorem mk_rep (n:Nat) (hn:n≤4100) (T e:TypeId) (hT:prog.underlying T=some (.slice e)) (hI:(prog.info? e).map (fun i=>(i.zero,i.size,i.bytes))=some (some (.int .i64 0),1,8)) (w:World):(Instr.makeSlice T (.int .i64 n) (.int .i64 n)).run prog w=.ok (.slice (some ⟨w.heap.size,0,none⟩) n n) (w.alloc (.cells ((List.replicate n (0:Int)).map intC).toArray e)):=by
 obtain ⟨i0,hi,hz0,hz1,hz2⟩:=info_parts hI;have h:=run_makeSlice (P:=prog) w T e i0 _ hT hi hz0 .i64 .i64 n n (by omega) (by omega) (by rw [hz1];omega) (by rw [hz2];omega) (by omega);rw [hz1] at h;rw [Int.toNat_natCast] at h
 have e1:madeCells (Value.int .i64 0).cells (n * 1)=((List.replicate n (0:Int)).map intC).toArray:=by
  rw [Nat.mul_one]
  have:=made_rep (.int .i64 0) n
  simpa [Value.cells,intC] using this
 rw [e1] at h;exact h
def intS (k:Int):List Value:=[.int .i64 k]
theorem slAt_blk {w:World} {g:Nat} {t:TypeId} {l:List Int} (h:Blk w g t (l.map intC).toArray):SlAt w (some ⟨g,0,none⟩) 1 intS l:=by
 intro i row hi;rw [List.getElem?_map] at hi;cases hl:l[i]? with
 | none=>rw [hl] at hi;cases hi
 | some x =>
  rw [hl] at hi;injection hi with hi
  subst hi;refine ⟨g,0,rfl,h.lt,fun j v hj=>?_⟩
  have hj0:j=0:=by
   cases j with
   | zero=>rfl
   | succ j=>simp [intS] at hj
  subst hj0;have hv:v=.int .i64 x:=by simpa [intS] using hj.symm
  subst hv
  have:=h.cell i (.int .i64 x) (by simp [hl,intC])
  simpa using this
theorem rep_arr (n:Nat) (x:Int):((List.replicate n x).map intC).toArray=Array.replicate n (intC x):=by simp
def fillL (n k:Nat):List Int:=List.replicate k (-1) ++ List.replicate (n - k) 0
theorem fill_zero (n:Nat):fillL n 0=List.replicate n 0:=by simp [fillL]
theorem fill_all (n:Nat):fillL n n=List.replicate n (-1):=by simp [fillL]
theorem fill_get {n k:Nat} (h:k<n):((fillL n k).map intC).toArray[k]? = some (.int .i64 0):=by
 have:(fillL n k)[k]? = some 0:=by
  unfold fillL;rw [List.getElem?_append_right (by simp),List.length_replicate,Nat.sub_self];rw [List.getElem?_replicate,if_pos (by omega)]
 simp [this,intC]
theorem fill_set {n k:Nat} (h:k<n):(fillL n k).set k (-1)=fillL n (k+1):=by
 unfold fillL;rw [List.set_append_right _ _ (by simp),List.length_replicate,Nat.sub_self];obtain ⟨m,hm⟩:∃ m,n - k=m+1:=⟨n - k - 1,by omega⟩
 rw [hm,show n - (k+1)=m by omega,List.replicate_succ,List.set_cons_zero,List.replicate_succ'];simp
theorem map_intS (l:List Int):l.map intC=l.flatMap intS:=by
 induction l with
 | nil=>rfl
 | cons a r ih=>rw [List.map_cons,List.flatMap_cons,ih];rfl
def visP (f:FuncD) (a:Nat):List (ByteArray × Int):=(List.range a).foldl (fun m i=>alSet m (f.params.getD i ⟨#[]⟩) (i:Int)) []
theorem visP_succ (f:FuncD) (a:Nat):visP f (a+1)=alSet (visP f a) (f.params.getD a ⟨#[]⟩) (a:Int):=by
 unfold visP;rw [List.range_succ,List.foldl_append];rfl
theorem notin_L {w0 w:World} {S:ProgS} {gS gm gs ge g:Nat} {D:ScD} {t:TypeId} {cs:Array Value} (h:SW w0 w S gS gm gs ge D) (hb:Blk w g t cs) (h1:t≠116) (h2:t≠3) (h3:t≠32):g ∉ L4 gS gm gs ge:=by
 intro hm;simp only [List.mem_cons,List.not_mem_nil,or_false] at hm;rcases hm with rfl | rfl | rfl | rfl
 ·exact za8Y hb h.st.sc h1 rfl
 ·exact hb.ne_map h.st.mp rfl
 ·exact za8Y hb h.st.sl h2 rfl
 ·exact za8Y hb h.st.er h3 rfl
theorem ownI_notin {w0 w:World} {S:ProgS} {gS gm gs ge base n:Nat} {D:ScD} {v:Value} {xs:List Value} (h:SW w0 w S gS gm gs ge D) (ho:w.ownsRow base 3 1 v n xs) (h1:gs<base) (h2:ge<base):∀ g,v.ownBlock=some g→g ∉ L4 gS gm gs ge:=by
 intro g hg hm;have h3:=(ho.lt g hg).1;simp only [List.mem_cons,List.not_mem_nil,or_false] at hm;rcases hm with rfl | rfl | rfl | rfl
 ·exact zafZ ho h.st.sc (by decide) hg.symm
 ·exact zbhY ho h.st.mp hg.symm
 ·omega
 ·omega
def StudyP (p:ProgD) (w:World) (e:Ending) (w':World):Prop :=
 (((studyF p).err≠0∧e=.returned (.tuple #[.slice none 0 0,.slice none 0 0,.int .i64 (studyF p).at_,.int .i64 (studyF p).err])) ∨
  ((studyF p).err=0∧∃ A c B d,e=.returned (.tuple #[.slice A (studyF p).slots.length c,.slice B (studyF p).locals.length d,.int .i64 0,.int .i64 0])∧SlAt w' A 1 intS (studyF p).slots∧SlAt w' B 1 intS (studyF p).locals))∧Below w.heap.size w w'
theorem study_syn {p:ProgD} (h:synF p≠0):(studyF p).err=synF p∧(studyF p).at_=-1:=by
 unfold studyF;rw [if_pos h];exact ⟨rfl,rfl⟩
theorem study_funs {p:ProgD} (h:synF p=0) (h2:(funsF p).2≠0):(studyF p).err=(funsF p).2∧(studyF p).at_=(funsF p).1:=by
 unfold studyF;rw [if_neg (by omega),if_pos h2];exact ⟨rfl,rfl⟩
theorem study_last {p:ProgD} (h:synF p=0) (h2:(funsF p).2=0):studyF p=match firstE (stepK p p.funcs.length).2.1 0 with
  | some q=>⟨[],[],q.1,q.2⟩
  | none=>⟨(stepK p p.funcs.length).1,(stepK p p.funcs.length).2.2,0,0⟩:=by
 unfold studyF;rw [if_neg (by omega),if_neg (by omega),zb8Y];cases firstE (stepK p p.funcs.length).2.1 0 <;> rfl
attribute [local go_sem] zabZ
set_option maxHeartbeats 16000000 in
theorem study_s (S:ProgS) (w:World) (hS:ProgV w S) (hp:Pow w) (hok:ProgOk S.p):Calls prog 38 #[S.val] w (StudyP S.p w):=by
 obtain ⟨P,hP⟩:∃ P:Ending→World→Prop,StudyP S.p w=P:=⟨_,rfl⟩
 rw [hP];have HP:Hid (∀ e w',StudyP S.p w e w'→P e w'):=hZz (fun e w' h=>by rw [← hP];exact h);have HCK:Hid (∀ wx,Below w.heap.size w wx→Calls prog 57 #[S.val] wx fun e w'=>e=.returned (.int .i64 (synF S.p))∧Below wx.heap.size wx w'):=hZz (fun wx hb=>check_s S wx (hS.below hb) (hp.below hb) hok);have HFU:Hid (∀ wx,Below w.heap.size w wx→Calls prog 58 #[S.val] wx fun e w'=>e=.returned (.tuple #[.int .i64 (funsF S.p).1,.int .i64 (funsF S.p).2])∧Below wx.heap.size wx w'):=hZz (fun wx hb=>functions_s S wx (hS.below hb) hok);have HS:=hZz hS;have HOK:=hZz hok;unfold ProgS.val at HCK HFU ⊢;obtain ⟨se,hse⟩:∃ x,synF S.p=x:=⟨_,rfl⟩
 have HSE:=hZz hse;rw [hse] at HCK;obtain ⟨fe,hfe⟩:∃ x,funsF S.p=x:=⟨_,rfl⟩
 have HFE:=hZz hfe;rw [hfe] at HFU;obtain ⟨nn,hnn⟩:∃ x,S.p.nodes.length=x:=⟨_,rfl⟩
 have HNN:=hZz hnn;obtain ⟨N,hN⟩:∃ x,S.p.funcs.length=x:=⟨_,rfl⟩
 have HN:=hZz hN;have hNb:N≤1000:=by rw [← hN];exact hok.funcs
 have hnb:nn≤1000:=by rw [← hnn];exact hok.nodes.len
 rw [hnn,hN] at HCK HFU ⊢;obtain ⟨g,hg⟩:∃ g,w.heap.size=g:=⟨_,rfl⟩
 obtain ⟨W1,hW1⟩:∃ W,w.alloc (.cells #[.slice S.A nn S.ncap,.slice S.B N S.fcap] 25)=W:=⟨_,rfl⟩
 have HX1:Hid (Blk W1 g 25 #[.slice S.A nn S.ncap,.slice S.B N S.fcap]):=hZz (by rw [← hW1,← hg];exact Blk.new _ _ _);have HB1:Hid (Below w.heap.size w W1):=hZz (by rw [← hW1];exact zacZ _ _);have HW1:=hZz hW1;have HG:=hZz hg;clear hP hS hp hok hse hfe hnn hN hg hW1;go_enter func38,ntmps38
 go_upto_region 1 with fail
 rw [HG.out,HW1.out];have x1:=blk2 HX1.out;by_cases hs0:se=0
 rotate_left
 ·have e0:(se != 0)=true:=by simp [hs0]
  have HS0:=hZz hs0;clear hs0
  go_wp2_with (first
   | (go_at_call 57;(with_reducible refine (HCK.out _ HB1.out).mono ?_);rintro e w2 ⟨rfl,hb2⟩;have HB2:=hZz (zaaZ hb2 HB1.out HB1.out.size);clear hb2 x1))
  go_returns;have hq:=study_syn (p:=S.p) (by rw [HSE.out];exact HS0.out);refine HP.out _ _ ⟨.inl ⟨by rw [hq.1,HSE.out];exact HS0.out,?_⟩,HB2.out⟩
  rw [hq.1,hq.2,HSE.out]
 subst hs0;obtain ⟨fa,fb⟩:=fe;dsimp only at HFU;by_cases hf0:fb=0
 rotate_left
 ·have e0:(fb != 0)=true:=by simp [hf0]
  have HF0:=hZz hf0;clear hf0
  go_wp2_with (first
   | (go_at_call 57;(with_reducible refine (HCK.out _ HB1.out).mono ?_);rintro e w2 ⟨rfl,hb2⟩;have HB2:=hZz (zaaZ hb2 HB1.out HB1.out.size);have HX2:=hZz (HX1.out.below hb2);have x2:=blk2 HX2.out;clear hb2 x1)
   | (go_at_call 58;(with_reducible refine (HFU.out _ HB2.out).mono ?_);rintro e w3 ⟨rfl,hb3⟩;have HB3:=hZz (zaaZ hb3 HB2.out HB2.out.size);clear hb3 x2))
  go_returns;have hq:=study_funs (p:=S.p) HSE.out (by rw [HFE.out];exact HF0.out);refine HP.out _ _ ⟨.inl ⟨by rw [hq.1,HFE.out];exact HF0.out,?_⟩,HB3.out⟩
  rw [hq.1,hq.2,HFE.out]
 subst hf0;have HSO:Hid (SynOk S.p):=hZz (synF_ok HSE.out)
 have HLS:Hid (studyF S.p=match firstE (stepK S.p S.p.funcs.length).2.1 0 with
  | some q=>⟨[],[],q.1,q.2⟩
  | none=>⟨(stepK S.p S.p.funcs.length).1,(stepK S.p S.p.funcs.length).2.2,0,0⟩):=hZz (study_last HSE.out (by rw [HFE.out]))
 have hmk1:=mk_rep nn (by omega) 56 3 underlying56 Tryz.infoIntS;have hmk2:=mk_rep nn (by omega) 112 32 underlying112 Tryz.infoErrS
 go_upto_region 7 with (first
  | (go_at_call 57;(with_reducible refine (HCK.out _ HB1.out).mono ?_);rintro e w2 ⟨rfl,hb2⟩;have HB2:=hZz (zaaZ hb2 HB1.out HB1.out.size);have HX2:=hZz (HX1.out.below hb2);have x2:=blk2 HX2.out;clear hb2 x1)
  | (go_at_call 58;(with_reducible refine (HFU.out _ HB2.out).mono ?_);rintro e w3 ⟨rfl,hb3⟩;have HB3:=hZz (zaaZ hb3 HB2.out HB2.out.size);have HX3:=hZz (HX2.out.below hb3);have x3:=blk2 HX3.out;clear hb3 x2))
 obtain ⟨gs,hgs⟩:∃ g,w3.heap.size=g:=⟨_,rfl⟩
 obtain ⟨W4,hW4⟩:∃ W,w3.alloc (.cells (Array.replicate nn (intC 0)) 3)=W:=⟨_,rfl⟩
 have HB4:Hid (Below w.heap.size w W4):=hZz (by rw [← hW4];exact HB3.out.alloc HB3.out.size _);have HX4:Hid (Blk W4 g 25 #[.slice S.A nn S.ncap,.slice S.B N S.fcap]):=hZz (by rw [← hW4];exact HX3.out.alloc _);have HI4:Hid (Blk W4 gs 3 ((List.replicate nn (0:Int)).map intC).toArray):=hZz (by rw [← hW4,← hgs,rep_arr];exact Blk.new _ _ _);have HGS:Hid (w.heap.size≤gs∧g<gs):=hZz (by rw [← hgs];exact ⟨HB3.out.size,HX3.out.lt⟩);have HW4:=hZz hW4;have HGSE:=hZz hgs;clear hW4 hgs;go_upto_region 8 with fail
 rw [HGSE.out,HW4.out];clear HGSE HW4 x3 hmk1;have hnnI:(nn:Int)≤1000:=by omega
 go_wp2_with (fail)
 go_loopw [10,40] (fun _ kv wr=>∃ k:Nat,k≤nn∧kv=.int .i64 k∧Hid (Below w.heap.size w wr)∧Hid (Blk wr g 25 #[.slice S.A nn S.ncap,.slice S.B N S.fcap])∧Hid (Blk wr gs 3 ((fillL nn k).map intC).toArray)) (fun _ kv _=>nn - (intOf kv).toNat)
 case atStart=>exact ⟨0,Nat.zero_le _,rfl,HB4,HX4,hZz (by rw [fill_zero];exact HI4.out)⟩
 case round =>
  obtain ⟨k,hk,rfl,HB,HX,HI⟩:=hrel;have hk0:(0:Int)≤(k:Int):=by omega
  by_cases hlt:k<nn
  ·have hlt':(k:Int)<(nn:Int):=by omega
   have c0:wr.cell? ⟨gs,k,none⟩=some (.int .i64 0):=HI.out.cell k _ (fill_get hlt);have z0:=HI.out.frozen k;go_wp2_with (fail)
   refine ⟨⟨k+1,by omega,by simp,hZz ?_,hZz ?_,hZz ?_⟩,by simp [intOf];omega⟩
   ·exact HB.out.setCell (p:=⟨gs,k,none⟩) HGS.out.1 _
   ·exact HX.out.far (p:=⟨gs,k,none⟩) (by have:=HGS.out.2;show g≠gs;omega) _
   ·rw [← fill_set hlt,← set_cells]
    exact HI.out.set_ k _
  ·have e:nn=k:=by omega
   subst e;have HIf:Hid (Blk wr gs 3 ((List.replicate nn (-1)).map intC).toArray):=hZz (by rw [← fill_all];exact HI.out);have x3:=blk2 HX.out;go_upto_region 13 with fail
   obtain ⟨ge,hge⟩:∃ g,wr.heap.size=g:=⟨_,rfl⟩
   obtain ⟨W7,hW7⟩:∃ W,wr.alloc (.cells (Array.replicate nn (intC 0)) 32)=W:=⟨_,rfl⟩
   have HB7:Hid (Below w.heap.size w W7):=hZz (by rw [← hW7];exact HB.out.alloc HB.out.size _);have HX7:Hid (Blk W7 g 25 #[.slice S.A nn S.ncap,.slice S.B N S.fcap]):=hZz (by rw [← hW7];exact HX.out.alloc _);have HI7:Hid (Blk W7 gs 3 ((List.replicate nn (-1)).map intC).toArray):=hZz (by rw [← hW7];exact HIf.out.alloc _);have HE7:Hid (Blk W7 ge 32 ((List.replicate nn (0:Int)).map intC).toArray):=hZz (by rw [← hW7,← hge,rep_arr];exact Blk.new _ _ _);obtain ⟨b7,hb7⟩:∃ b,W7.heap.size=b:=⟨_,rfl⟩
   have HBS:Hid ((w.heap.size≤gs∧w.heap.size≤ge∧w.heap.size≤b7)∧(g<b7∧gs<b7∧ge<b7)):=hZz (by rw [← hb7];exact ⟨⟨HGS.out.1,by rw [← hge];exact HB.out.size,HB7.out.size⟩,HX7.out.lt,HI7.out.lt,HE7.out.lt⟩);have HB70:Hid (b7≤W7.heap.size):=hZz (by omega);have HW7:=hZz hW7;have HGE:=hZz hge;clear hW7 hge hb7 HIf HI HX HB HI4 HX4 HB4;go_upto_region 14 with fail
   rw [HGE.out,HW7.out];clear HGE HW7 x3 hmk2;have x7:=blk2 HX7.out;go_wp2_with (fail)
   clear x7;go_loopw [12,14,15,16,17,54] (fun lv _ _ _ _ kv wx=>∃ k:Nat,k≤N∧kv=.int .i64 k∧Hid (Below w.heap.size w wx)∧Hid (Blk wx g 25 #[.slice S.A nn S.ncap,.slice S.B N S.fcap])∧Hid (Blk wx gs 3 ((stepK S.p k).1.map intC).toArray)∧Hid (Blk wx ge 32 ((stepK S.p k).2.1.map intC).toArray)∧Hid (wx.ownsRow b7 3 1 lv k ((stepK S.p k).2.2.map intC))∧Hid (b7≤wx.heap.size)) (fun _ _ _ _ _ kv _=>N - (intOf kv).toNat)
   case atStart=>exact ⟨0,Nat.zero_le _,rfl,HB7,HX7,hZz (by simp only [stepK];rw [HNN.out];exact HI7.out),hZz (by simp only [stepK];rw [HNN.out];exact HE7.out),hZz (by exact ⟨rfl,.inl ⟨rfl,rfl⟩⟩),HB70⟩
   case round =>
    obtain ⟨k,hk,rfl,HB,HX,HSL,HER,HO,HBB⟩:=hrel;have hk0:(0:Int)≤(k:Int):=by omega
    obtain ⟨sl,hsl⟩:∃ x,(stepK S.p k).1=x:=⟨_,rfl⟩
    obtain ⟨er,her⟩:∃ x,(stepK S.p k).2.1=x:=⟨_,rfl⟩
    obtain ⟨lo,hlo⟩:∃ x,(stepK S.p k).2.2=x:=⟨_,rfl⟩
    have HSTEP:Hid ((stepK S.p k).1=sl∧(stepK S.p k).2.1=er∧(stepK S.p k).2.2=lo):=hZz ⟨hsl,her,hlo⟩;have hst:=HSO.out.step k (by rw [HN.out];exact hk);rw [hsl,her,hlo] at hst;rw [hsl] at HSL;rw [her] at HER;rw [hlo] at HO;have HST:=hZz hst;clear hsl her hlo hst;obtain ⟨lA,lc,rfl⟩:=zajZ HO.out;by_cases hlt:k<N
    ·have hlt':(k:Int)<(N:Int):=by omega
     have hkl:k<S.p.funcs.length:=by rw [HN.out];exact hlt
     obtain ⟨b,off,kA,kc,hBe,hbk,c0,c1,c2,hkv⟩:=zakY HS.out.funcs hkl;obtain ⟨bo,hfo,hst1,hst2⟩:=HSO.out.func hkl;have HPAR:Hid ((S.p.funcs[k]).params.length≤8):=hZz (HSO.out.params _ (List.getElem_mem hkl));obtain ⟨f,hf⟩:∃ f,S.p.funcs[k]=f:=⟨_,rfl⟩
     rw [hf] at c0 c1 c2 hkv hfo HPAR;have HGD:Hid (S.p.funcs.getD k noFunc=f):=hZz (by rw [zaiZ hkl];exact hf);have HKV:=hZz hkv;have HFO:=hZz hfo;have HST2:=hZz hst2;rw [hfo.body] at c2
     replace c0:=(HB.out.cell hbk).trans c0
     replace c1:=(HB.out.cell hbk).trans c1
     replace c2:=(HB.out.cell hbk).trans c2
     obtain ⟨pn,hpn⟩:∃ n,f.params.length=n:=⟨_,rfl⟩
     have HPN:=hZz hpn;rw [hpn] at c1 HKV HPAR;have hpl:=HPAR.out;have hplI:(pn:Int)≤8:=by omega
     generalize f.name=x0 at c0;obtain ⟨gf,hgf⟩:∃ g,wr.heap.size=g:=⟨_,rfl⟩
     obtain ⟨W8,hW8⟩:∃ W,wr.alloc (.cells #[.string x0,.slice kA pn kc,.int .i64 bo] 42)=W:=⟨_,rfl⟩
     have HBR:Hid (Below wr.heap.size wr W8):=hZz (by rw [← hW8];exact zacZ _ _);have HF8:Hid (Blk W8 gf 42 #[.string x0,.slice kA pn kc,.int .i64 bo]):=hZz (by rw [← hW8,← hgf];exact Blk.new _ _ _);have HW8:=hZz hW8;have HGF:=hZz hgf;have HX8:=hZz (HX.out.below HBR.out);have HS8:=hZz (HSL.out.below HBR.out);have HE8:=hZz (HER.out.below HBR.out);have HO8:=hZz (zagZ HO.out HBR.out);have HB8:=hZz (zaaZ HBR.out HB.out HB.out.size);have HBB8:Hid (b7≤W8.heap.size):=hZz (Nat.le_trans HBB.out HBR.out.size);have HBLK:=hZz hbk;obtain ⟨SB,hSB⟩:∃ B,S.B=B:=⟨_,rfl⟩
     have HSB:=hZz hSB;rw [hSB] at HX8 HX hBe ⊢;subst hBe;clear hW8 hgf hkv hpn hf hfo hst2 hst1 hbk HX HSL HER HO HB hSB;go_upto_region 18 with fail
     rw [HGF.out,HW8.out];clear HGF HW8 c0 c1 c2;have x8:=blk2 HX8.out;have y8:=HF8.out.cell 1 _ rfl;have hmm:=@run_makeMap prog;obtain ⟨gm,hgm⟩:∃ g,W8.heap.size=g:=⟨_,rfl⟩
     obtain ⟨W9,hW9⟩:∃ W,W8.alloc (.map #[] 0)=W:=⟨_,rfl⟩
     obtain ⟨gS,hgS⟩:∃ g,W9.heap.size=g:=⟨_,rfl⟩
     obtain ⟨WA,hWA⟩:∃ W,W9.alloc (.cells #[.slice S.A nn S.ncap,.slice (some ⟨b,off,none⟩) N S.fcap,.map (some gm),.int .i64 pn,.slice (some ⟨gs,0,none⟩) nn nn,.slice (some ⟨ge,0,none⟩) nn nn] 116)=W:=⟨_,rfl⟩
     have y9:W9.cell? ⟨gf,1,none⟩=some (.slice kA pn kc):=by rw [← hW9];exact (HF8.out.alloc _).cell 1 _ rfl
     go_upto_region 19 with fail
     try rw [hWA]
     have HB89:Hid (Below W8.heap.size W8 W9):=hZz (by rw [← hW9];exact zacZ _ _);have HB9A:Hid (Below W9.heap.size W9 WA):=hZz (by rw [← hWA];exact zacZ _ _);have HB8A:=hZz (zaaZ HB9A.out HB89.out HB89.out.size);have HBA:=hZz (zaaZ HB8A.out HB8.out HB8.out.size);have HXA:=hZz (HX8.out.below HB8A.out);have HFA:=hZz (HF8.out.below HB8A.out);have HOA:=hZz (zagZ HO8.out HB8A.out);have HBBA:Hid (b7≤WA.heap.size):=hZz (Nat.le_trans HBB8.out HB8A.out.size);have HSBE:=hZz HSB.out
     have HSA:Hid (SW w WA S gS gm gs ge ⟨[],pn,sl,er⟩):=hZz (by
      refine ⟨⟨?_,?_,HS8.out.below HB8A.out,HE8.out.below HB8A.out,by rw [HST.out.1],by rw [HST.out.2.1]⟩,HBA.out,?_,?_,HBS.out.1.1,HBS.out.1.2.1⟩
      ·rw [HNN.out,HN.out,HSBE.out,← hWA,← hgS]
       exact Blk.new _ _ _
      ·rw [← hgm]
       have h9:MapAt W9 W8.heap.size Value.string (Value.int .i64) []:=by rw [← hW9];exact MapAt.new W8 _ _
       exact h9.below' HB9A.out
      ·rw [← hgS];exact Nat.le_trans HB8.out.size HB89.out.size
      ·rw [← hgm];exact HB8.out.size)
     have HGSN:Hid (b7≤gS∧b7≤gm∧gf≠gS∧gf≠gm):=hZz (by
      have h1:=HF8.out.lt;have h2:=HBB8.out;have h3:=HB89.out.size;refine ⟨by omega,by omega,by omega,by omega⟩)
     clear hW9 hWA hgm hgS hmm x8 y8 y9;have yA:=HFA.out.cell 1 _ rfl;go_wp2_with (fail)
     clear yA;go_loopw [16,17,70] (fun _ _ kv wz=>∃ a:Nat,a≤pn∧kv=.int .i64 a∧Hid (SW w wz S gS gm gs ge ⟨visP f a,pn,sl,er⟩)∧Hid (GL (L4 gS gm gs ge) WA wz)) (fun _ _ kv _=>pn - (intOf kv).toNat)
     case atStart=>exact ⟨0,Nat.zero_le _,rfl,HSA,hZz (GL.refl _ _)⟩
     case round =>
      obtain ⟨a,ha,rfl,HSz,HGz⟩:=hrel;have ha0:(0:Int)≤(a:Int):=by omega
      by_cases halt:a<pn
      ·have halt':(a:Int)<(pn:Int):=by omega
       have hap:a<f.params.length:=by rw [HPN.out];exact halt
       obtain ⟨A',cap',hA,_,hsl⟩:=HKV.out.below HSz.out.bl;injection hA with e1 e2 e3
       subst e1 e3;obtain ⟨b2,off2,rfl,_⟩:=hsl.ptr hap;have c0:=hsl.cell0 hap (v:=.string f.params[a]) rfl;simp only [Nat.mul_one] at c0;have HVS:Hid (visP f (a+1)=alSet (visP f a) f.params[a] (a:Int)):=hZz (by rw [visP_succ,zaiZ hap]);clear hsl e2;generalize f.params[a]=xs at c0 HVS;obtain ⟨y0,y1,y2,y3,y4,y5⟩:=HSz.out.st.cells;clear y0 y1 y3 y4 y5
       go_wp2_with (first
        | (refine zb5Y rfl (.tmp 78) (.tmp 79) (.tmp 80) rfl Tryz.kStr underlying114 rfl xs rfl (a:Int) rfl HSz.out.st.mp ?_;intro w5 hm5 hg5 hs5;have HM5:=hZz hm5;have HG5:=hZz hg5;clear hm5 hg5 hs5))
       refine ⟨⟨a+1,by omega,by simp,hZz ?_,hZz (HGz.out.grown HG5.out (by simp))⟩,by simp [intOf];omega⟩
       rw [HVS.out];exact HSz.out.gl (HSz.out.st.setVis HM5.out HG5.out) ((GL.refl _ _).grown HG5.out (by simp))
      ·have e:pn=a:=by omega
       subst e;have HFz:=hZz (HGz.out.blk HFA.out (notin_L HSA.out HFA.out (by decide) (by decide) (by decide)));have HXz:=hZz (HGz.out.blk HXA.out (notin_L HSA.out HXA.out (by decide) (by decide) (by decide)));have HOz:=hZz (HGz.out.own HOA.out (ownI_notin HSA.out HOA.out HBS.out.2.2.1 HBS.out.2.2.2))
       have HSz2:Hid (SW w wr S gS gm gs ge (startS S.p f sl er)):=hZz (by
        have:=HSz.out
        unfold startS;rw [HPN.out];exact this)
       have HWK:=hZz (scope_all w S gS gm gs ge HS.out HOK.out 600 bo _ _ wr HFO.out.first HFO.out.lt HSz2.out (by
        have h1:=HFO.out.lt;have h2:(startS S.p f sl er).next=(pn:Nat):=by rw [startS_next,HPN.out]
        unfold NxB;rw [h2]
        have:=HNN.out
        omega))
       have HWE:Hid (walkF S.p 600 bo (startS S.p f sl er)=walkK S.p k sl er):=hZz (by unfold walkK;rw [HGD.out];have:=HST2.out;rw [HGD.out] at this;rw [this]);rw [HWE.out] at HWK;obtain ⟨DK,hDK⟩:∃ D,walkK S.p k sl er=D:=⟨_,rfl⟩
       rw [hDK] at HWK;have HDK:=hZz hDK;have HSN:Hid (stepK S.p (k+1)=(DK.slots,DK.errs,lo ++ [DK.next])):=hZz (by simp only [stepK];rw [HSTEP.out.1,HSTEP.out.2.1,HSTEP.out.2.2,hDK]);clear hDK;have yz:=HFz.out.cell 2 _ rfl;obtain ⟨nx,hnx⟩:∃ n,DK.next=n:=⟨_,rfl⟩
       rw [hnx] at HSN;have HNXX:=hZz hnx;clear hnx;obtain ⟨i1,hj2,hy0,hy1,hy2⟩:=info_parts Tryz.infoIntS;have hsz9:b7≤wr.heap.size:=Nat.le_trans HBBA.out HGz.out.size;have hkk:k≤1000000:=by omega
       go_wp2_with (first
        | (go_at_call 59;(with_reducible refine HWK.out.mono ?_);rintro r2 w2 ⟨rfl,hs2,hg2⟩;have HS2:=hZz hs2;have HG2:=hZz hg2;have HX2:=hZz (hg2.blk HXz.out (notin_L HSz.out HXz.out (by decide) (by decide) (by decide)));have HO2:=hZz (hg2.own HOz.out (ownI_notin HSz.out HOz.out HBS.out.2.2.1 HBS.out.2.2.2));have hsz2:=Nat.le_trans hsz9 hg2.size;obtain ⟨y0,y1,y2,y3,y4,y5⟩:=hs2.st.cells;rw [HNXX.out] at y3;clear hs2 hg2 y0 y1 y2 y4 y5 yz)
        | (at_builtin;refine zafY rfl (.tmp 86) (.tmp 91) 56 rfl i1 _ 8 underlying56 hj2 hy0 hy1 hy2 rfl (by omega) rfl HO2.out [.int .i64 nx] rfl rfl (by simp [Value.oneCell']) hkk (by omega) hsz2 ?_;intro v' w4 hown4 hb4 hs4 hg4;have HO4:=hZz hown4;have HG4:=hZz hg4;have HS4:=hZz hs4;clear hown4 hb4 hs4 hg4))
       have hne:∀ gq,gq<b7→some gq≠(Value.slice lA k lc).ownBlock:=fun gq hq e=>by have:=(HO2.out.lt gq e.symm).1;omega
       refine ⟨⟨k+1,by omega,by simp,hZz (HS2.out.bl.grown HG4.out HS2.out.bl.size (fun q hq=>?_)),hZz (HX2.out.grown HG4.out (hne _ HBS.out.2.1)),hZz ?_,hZz ?_,hZz ?_,hZz (Nat.le_trans hsz2 HS4.out)⟩,by simp [intOf];omega⟩
       ·have:=(HO2.out.lt q hq).1
        have:=HBS.out.1.2.2
        omega
       ·rw [HSN.out]
        exact HS2.out.st.sl.grown HG4.out (hne _ HBS.out.2.2.1)
       ·rw [HSN.out]
        exact HS2.out.st.er.grown HG4.out (hne _ HBS.out.2.2.2)
       ·rw [HSN.out]
        simp only [List.map_append];exact HO4.out
    ·have e:N=k:=by omega
     subst e;have hel:er.length=nn:=by rw [HST.out.2.1,HNN.out]
     go_wp2_with (fail)
     go_loopw [18,19,96] (fun _ _ kv wz=>∃ a:Nat,a≤nn∧kv=.int .i64 a∧wz=wr∧Hid (∀ j,j<a→zAt er j=0)) (fun _ _ kv _=>nn - (intOf kv).toNat)
     case atStart=>exact ⟨0,Nat.zero_le _,rfl,rfl,hZz (fun j h=>by omega)⟩
     case round =>
      obtain ⟨a,ha,rfl,hwz,HZ⟩:=hrel;subst hwz;have ha0:(0:Int)≤(a:Int):=by omega
      have hNN:S.p.funcs.length=N:=HN.out;by_cases halt:a<nn
      ·have halt':(a:Int)<(nn:Int):=by omega
       have hal:a<er.length:=by omega
       obtain ⟨x,hx⟩:∃ x,er[a]=x:=⟨_,rfl⟩
       have c0:=HER.out.cell a (.int .i64 x) (by simp [hal,intC,hx]);have HZA:Hid (zAt er a=x):=hZz (by unfold zAt;rw [zaiZ hal];exact hx);clear hx;by_cases hx0:x=0
       ·subst hx0
        clear hNN;go_wp2_with (fail)
        exact ⟨⟨a+1,by omega,by simp,by trivial,hZz (fun j h=>by
         by_cases e:j=a
         ·subst e;exact HZA.out
         ·exact HZ.out j (by omega))⟩,by simp [intOf];omega⟩
       ·have e0:(x != 0)=true:=by simp [hx0]
        have hfe:=firstE_some (l:=er) 0 a x HZA.out hx0 HZ.out;have hq:=HLS.out;rw [hNN,HSTEP.out.2.1,hfe] at hq;have HQ:=hZz hq;have HX0:=hZz hx0;clear hNN hfe hq hx0;go_wp2_with (fail)
        go_returns;refine HP.out _ _ ⟨.inl ⟨by rw [HQ.out];exact HX0.out,?_⟩,HB.out⟩
        rw [HQ.out];simp
      ·have e:nn=a:=by omega
       subst e
       have hfe:firstE er 0=none:=firstE_none 0 (fun j=>by
        by_cases hj:j<nn
        ·exact HZ.out j hj
        ·unfold zAt
         rw [List.getD_eq_getElem?_getD,List.getElem?_eq_none (by omega)];rfl)
       have hq:=HLS.out;rw [hNN,HSTEP.out.2.1,hfe,HSTEP.out.1,HSTEP.out.2.2] at hq;have HQ:=hZz hq;clear hNN hfe hq;go_wp2_with (fail)
       go_returns;refine HP.out _ _ ⟨.inr ⟨by rw [HQ.out],some ⟨gs,0,none⟩,nn,lA,lc,?_,?_,?_⟩,HB.out⟩
       ·rw [HQ.out]
        simp only
        rw [HST.out.1,HST.out.2.2.1,HNN.out]
       ·rw [HQ.out]
        exact slAt_blk HSL.out
       ·rw [HQ.out]
        exact SlAt.of_own HO.out (map_intS lo) (fun _=>rfl) (by omega)
end
section
def SlotsP (p:ProgD) (w:World) (e:Ending) (w':World):Prop :=
 (((studyF p).err≠0∧e=.returned (.tuple #[.slice none 0 0,.int .i64 (studyF p).err])) ∨
  ((studyF p).err=0∧∃ A c,e=.returned (.tuple #[.slice A (studyF p).slots.length c,.int .i64 0])∧SlAt w' A 1 intS (studyF p).slots))∧Below w.heap.size w w'
def localsF (p:ProgD) (f:Int):Int × Int:=if (studyF p).err≠0 then (0,(studyF p).err) else if f<0∨((studyF p).locals.length:Int)≤f then (0,2) else ((studyF p).locals.getD f.toNat 0,0)
attribute [local go_sem] zabZ
set_option maxHeartbeats 4000000 in
theorem slots_s (S:ProgS) (w:World) (hS:ProgV w S) (hp:Pow w) (hok:ProgOk S.p):Calls prog 40 #[S.val] w (SlotsP S.p w):=by
 obtain ⟨P,hP⟩:∃ P:Ending→World→Prop,SlotsP S.p w=P:=⟨_,rfl⟩
 rw [hP];have HP:Hid (∀ e w',SlotsP S.p w e w'→P e w'):=hZz (fun e w' h=>by rw [← hP];exact h);have HC:Hid (∀ o,Calls prog 38 #[S.val] (w.alloc o) (StudyP S.p (w.alloc o))):=hZz (fun o=>study_s S _ (hS.below (zacZ w o)) (hp.below (zacZ w o)) hok);have HB:Hid (∀ o,Below w.heap.size w (w.alloc o)):=hZz (fun o=>zacZ w o);unfold ProgS.val at HC ⊢;generalize S.p.nodes.length=nn at HC ⊢;generalize S.p.funcs.length=nf at HC ⊢;clear hP hS hp hok;go_enter func40,ntmps40
 go_wp2_with (first
  | (go_at_call 38;refine (HC.out _).mono ?_;rintro e w2 ⟨hq,hb2⟩;have HB2:=hZz (zahZ hb2 (HB.out _));clear hb2;rcases hq with ⟨h0,rfl⟩ | ⟨h0,A,c,B,d,rfl,h1,h2⟩))
 ·exact HP.out _ _ ⟨.inl ⟨h0,rfl⟩,HB2.out⟩
 ·exact HP.out _ _ ⟨.inr ⟨h0,A,c,rfl,h1⟩,HB2.out⟩
set_option maxHeartbeats 4000000 in
theorem scheck_s (S:ProgS) (w:World) (hS:ProgV w S) (hp:Pow w) (hok:ProgOk S.p):Calls prog 18 #[S.val] w fun e w'=>(∃ a,e=.returned (.tuple #[.int .i64 a,.int .i64 (studyF S.p).err]))∧Below w.heap.size w w':=by
 obtain ⟨P,hP⟩:∃ P:Ending→World→Prop,(fun e w'=>(∃ a,e=.returned (.tuple #[.int .i64 a,.int .i64 (studyF S.p).err]))∧Below w.heap.size w w')=P:=⟨_,rfl⟩
 rw [hP];have HP:Hid (∀ a b w',b=(studyF S.p).err→Below w.heap.size w w'→P (.returned (.tuple #[.int .i64 a,.int .i64 b])) w'):=hZz (fun a b w' h h2=>by rw [← hP,h];exact ⟨⟨a,rfl⟩,h2⟩);have HC:Hid (∀ o,Calls prog 38 #[S.val] (w.alloc o) (StudyP S.p (w.alloc o))):=hZz (fun o=>study_s S _ (hS.below (zacZ w o)) (hp.below (zacZ w o)) hok);have HB:Hid (∀ o,Below w.heap.size w (w.alloc o)):=hZz (fun o=>zacZ w o);unfold ProgS.val at HC ⊢;generalize S.p.nodes.length=nn at HC ⊢;generalize S.p.funcs.length=nf at HC ⊢;clear hP hS hp hok;go_enter func18,ntmps18
 go_wp2_with (first
  | (go_at_call 38;refine (HC.out _).mono ?_;rintro e w2 ⟨hq,hb2⟩;have HB2:=hZz (zahZ hb2 (HB.out _));clear hb2;rcases hq with ⟨h0,rfl⟩ | ⟨h0,A,c,B,d,rfl,h1,h2⟩))
 ·exact HP.out _ _ _ rfl HB2.out
 ·exact HP.out _ _ _ h0.symm HB2.out
theorem locals_s (S:ProgS) (f:Int) (w:World) (hS:ProgV w S) (hp:Pow w) (hok:ProgOk S.p):Calls prog 29 #[S.val,.int .i64 f] w fun e w'=>e=.returned (.tuple #[.int .i64 (localsF S.p f).1,.int .i64 (localsF S.p f).2])∧Below w.heap.size w w':=by
 obtain ⟨R,hR⟩:∃ R,localsF S.p f=R:=⟨_,rfl⟩
 rw [hR];obtain ⟨P,hP⟩:∃ P:Ending→World→Prop,(fun e w'=>e=.returned (.tuple #[.int .i64 R.1,.int .i64 R.2])∧Below w.heap.size w w')=P:=⟨_,rfl⟩
 rw [hP];have HP:Hid (∀ a b w',(a,b)=R→Below w.heap.size w w'→P (.returned (.tuple #[.int .i64 a,.int .i64 b])) w'):=hZz (fun a b w' h h2=>by rw [← hP,← h];exact ⟨rfl,h2⟩);have HR:Hid (R=if (studyF S.p).err≠0 then (0,(studyF S.p).err) else if f<0∨((studyF S.p).locals.length:Int)≤f then (0,2) else ((studyF S.p).locals.getD f.toNat 0,0)):=hZz hR.symm;have HC:Hid (∀ o,Calls prog 38 #[S.val] (w.alloc o) (StudyP S.p (w.alloc o))):=hZz (fun o=>study_s S _ (hS.below (zacZ w o)) (hp.below (zacZ w o)) hok);have HB:Hid (∀ o,Below w.heap.size w (w.alloc o)):=hZz (fun o=>zacZ w o);unfold ProgS.val at HC ⊢;generalize S.p.nodes.length=nn at HC ⊢;generalize S.p.funcs.length=nf at HC ⊢;clear hR hP hS hp hok;go_enter func29,ntmps29
 go_upto_region 2 with (first
  | (go_at_call 38;refine (HC.out _).mono ?_;rintro e w2 ⟨hq,hb2⟩;have HB2:=hZz (zahZ hb2 (HB.out _));clear hb2;rcases hq with ⟨h0,rfl⟩ | ⟨h0,A,c,B,d,rfl,h1,h2⟩))
 ·obtain ⟨er,her⟩:∃ x,(studyF S.p).err=x:=⟨_,rfl⟩
  rw [her] at h0 HR ⊢;have e0:(er != 0)=true:=by simp [h0]
  have H0:=hZz h0;clear h0 her;go_wp2_with (fail)
  exact HP.out _ _ _ (by rw [HR.out,if_pos H0.out]) HB2.out
 ·have HR2:Hid (R=if f<0∨((studyF S.p).locals.length:Int)≤f then (0,2) else ((studyF S.p).locals.getD f.toNat 0,0)):=hZz (by rw [HR.out,if_neg (by rw [h0];simp)])
  have H2:=hZz h2;generalize (studyF S.p).locals=ll at HR2 H2 ⊢;generalize (studyF S.p).slots=ss at h1 ⊢;clear h0 h1 h2 HR;obtain ⟨ln,hln⟩:∃ n,ll.length=n:=⟨_,rfl⟩
  have HLN:=hZz hln;rw [hln] at HR2 ⊢;clear hln;by_cases e1:f<0
  ·go_wp2_with (fail)
   exact HP.out _ _ _ (by rw [HR2.out,if_pos (.inl e1)]) HB2.out
  by_cases e2:(ln:Int)≤f
  ·go_wp2_with (fail)
   exact HP.out _ _ _ (by rw [HR2.out,if_pos (.inr e2)]) HB2.out
  obtain ⟨k,rfl⟩:∃ k:Nat,f=(k:Int):=⟨f.toNat,by omega⟩
  have hkl:k<ll.length:=by rw [HLN.out];omega
  obtain ⟨b,off,rfl,_⟩:=H2.out.ptr hkl;have c0:=H2.out.cell0 hkl (v:=.int .i64 ll[k]) rfl;simp only [Nat.mul_one] at c0;have HR3:Hid (R=(ll[k],0)):=hZz (by rw [HR2.out,if_neg (by omega),Int.toNat_natCast,zaiZ hkl]);have e3:(k:Int)<(ln:Int):=by omega
  generalize ll[k]=x at c0 HR3;go_wp2_with (fail)
  exact HP.out _ _ _ (by rw [HR3.out]) HB2.out
end
section
theorem Tryz.infoIns:(prog.info? 53).map (fun i=>(i.zero,i.size,i.bytes))=some (some (.agg #[.int .i64 0,.int .i64 0,.string ByteArray.empty,.slice none 0 0]),4,56):=by kernel_rfl
def insRow (p:InsD × Value):List Value:=[.int .i64 p.1.op,.int .i64 p.1.a,.string p.1.s,p.2]
def OKeys (n0:Nat) (w:World) (p:InsD × Value):Prop:=w.ownsRow n0 9 1 p.2 p.1.keys.length (p.1.keys.map Value.string)
theorem flat_len (N:List (InsD × Value)):(N.flatMap insRow).length=N.length * 4:=by
 induction N with
 | nil=>rfl
 | cons p r ih =>
  rw [List.flatMap_cons,List.length_append,ih,List.length_cons];show 4+_=_;omega
structure KW (n0 gW:Nat) (w w':World):Prop where
 os:w'.os=w.os
 tape:w'.tape=w.tape
 output:w'.output=w.output
 size:w.heap.size≤w'.heap.size
 low:∀ j,j<n0→w'.heap[j]? = w.heap[j]?
 typ:∀ (g:Nat) (o:Obj),w.heap[g]? = some o→g≠gW→(∀ cs fr,o≠Obj.cells cs 53 fr)→w'.heap[g]? = some o
section
variable {n0 gW:Nat} {a b c w w':World}
theorem KW.refl (n0 gW:Nat) (w:World):KW n0 gW w w:=⟨rfl,rfl,rfl,Nat.le_refl _,fun _ _=>rfl,fun _ _ h _ _=>h⟩
theorem KW.trans (h:KW n0 gW a b) (k:KW n0 gW b c):KW n0 gW a c :=
 ⟨k.os.trans h.os,k.tape.trans h.tape,k.output.trans h.output,Nat.le_trans h.size k.size,fun j hj=>(k.low j hj).trans (h.low j hj),fun g o h1 h2 h3=>k.typ g o (h.typ g o h1 h2 h3) h2 h3⟩
theorem KW.of_below (h:Below w.heap.size w w') (hn:n0≤w.heap.size):KW n0 gW w w' :=
 ⟨h.os,h.tape,h.output,h.size,fun j hj=>h.block j (Nat.lt_of_lt_of_le hj hn),fun g o h1 _ _=>(h.block g (lt_of_block h1)).trans h1⟩
theorem KW.bel {w0:World} (h:KW w0.heap.size gW w w') (hb:Below w0.heap.size w0 w):Below w0.heap.size w0 w' :=
 ⟨h.os.trans hb.os,h.tape.trans hb.tape,h.output.trans hb.output,Nat.le_trans hb.size h.size,fun j hj=>(h.low j hj).trans (hb.block j hj)⟩
theorem KW.blk {g:Nat} {t:TypeId} {cs:Array Value} (h:KW n0 gW w w') (hB:Blk w g t cs) (hg:g≠gW) (ht:t≠53):Blk w' g t cs :=
 h.typ g _ hB hg (fun cs' fr e=>by injection e with _ e _;exact ht e)
theorem KW.ownS {base n:Nat} {v:Value} {xs:List Value} {t:TypeId} {cs:Array Value} (h:KW n0 gW w w') (hW:Blk w gW t cs) (ht:t≠9) (ho:w.ownsRow base 9 1 v n xs):w'.ownsRow base 9 1 v n xs:=by
 obtain ⟨e1,e2⟩:=ho;refine ⟨e1,e2.imp id (fun ⟨g,cap,cur,ev,eg,eh,e4⟩=>⟨g,cap,cur,ev,eg,?_,e4⟩)⟩
 refine h.typ g _ eh (fun e=>?_) (fun cs' fr e=>by injection e with _ e _;exact absurd e (by decide))
 subst e;unfold Blk at hW;rw [hW] at eh;injection eh with eh
 injection eh with _ e _
 exact ht e
theorem KW.setW (h:KW n0 gW a b) (hn:n0≤gW) (i:Nat) (u:Value):KW n0 gW a (b.setCell ⟨gW,i,none⟩ u) :=
 h.trans ⟨rfl,rfl,rfl,by simp,fun j hj=>Below.heap_setCell b _ u j (by show j≠gW;omega),fun g o h1 h2 _=>(Below.heap_setCell b _ u g h2).trans h1⟩
theorem KW.setI {base n cap g:Nat} {xs:List Value} (h:KW n0 gW a b) (ho:b.ownsRow base 53 4 (.slice (some ⟨g,0,none⟩) n cap) n xs) (hn:n0≤base) (i:Nat) (u:Value):KW n0 gW a (b.setCell ⟨g,i,none⟩ u):=by
 have hb:=(ho.lt g rfl).1;obtain ⟨_,h2⟩:=ho;rcases h2 with ⟨e,_⟩ | ⟨g',cap',cur,e,eb,eh,_⟩
 ·cases e
 ·injection e with e1 e2 e3
  injection e1 with e1
  injection e1 with e1
  subst e1;refine h.trans ⟨rfl,rfl,rfl,by simp,fun j hj=>Below.heap_setCell b _ u j (by show j≠g;omega),fun q o h1 h2 h3=>(Below.heap_setCell b _ u q (fun e=>?_)).trans h1⟩
  have e':q=g:=e;subst e';rw [eh] at h1;injection h1 with h1
  exact h3 _ _ h1.symm
theorem KW.grown {base n:Nat} {v:Value} {xs:List Value} (h:KW n0 gW a b) (ho:b.ownsRow base 53 4 v n xs) (hn:n0≤base) (hs:n0≤b.heap.size) (hg:b.grownBy c v.ownBlock):KW n0 gW a c:=by
 refine h.trans ⟨hg.os,hg.tape,hg.output,hg.size,fun j hj=>?_,fun q o h1 h2 h3=>?_⟩
 ·exact hg.block j (by omega) (fun e=>by have:=(ho.lt j e.symm).1;omega)
 ·refine (hg.block q (lt_of_block h1) (fun e=>?_)).trans h1
  obtain ⟨_,h4⟩:=ho;rcases h4 with ⟨rfl,_⟩ | ⟨g',cap',cur,rfl,eb,eh,_⟩
  ·cases e
  ·injection e with e
   subst e;rw [eh] at h1;injection h1 with h1
   exact h3 _ _ h1.symm
end
structure WrSt (w0 w:World) (S:ProgS) (sA:Option Addr) (sn sc gW:Nat) (e0:Int) (L:List (InsD × Value)):Prop where
 wr:∃ iv,Blk w gW 67 #[.slice S.A S.p.nodes.length S.ncap,.slice S.B S.p.funcs.length S.fcap,.slice sA sn sc,.int .i64 e0,iv]∧w.ownsRow w0.heap.size 53 4 iv L.length (L.flatMap insRow)
 keys:∀ p∈L,OKeys w0.heap.size w p
 bl:Below w0.heap.size w0 w
 bW:w0.heap.size≤gW
section
variable {w0 w w':World} {S:ProgS} {sA:Option Addr} {sn sc gW:Nat} {e0:Int} {L:List (InsD × Value)}
theorem WrSt.below (h:WrSt w0 w S sA sn sc gW e0 L) (hb:Below w.heap.size w w'):WrSt w0 w' S sA sn sc gW e0 L:=by
 obtain ⟨⟨iv,h1,h2⟩,h3,h4,h5⟩:=h;exact ⟨⟨iv,h1.below hb,zagZ h2 hb⟩,fun p hp=>zagZ (h3 p hp) hb,zaaZ hb h4 h4.size,h5⟩
theorem WrSt.kw (h:WrSt w0 w S sA sn sc gW e0 L) (hb:Below w.heap.size w w'):KW w0.heap.size gW w w':=KW.of_below hb h.bl.size
theorem blkW {g:Nat} {t:TypeId} {v0 v1 v2 v3 v4:Value} (h:Blk w g t #[v0,v1,v2,v3,v4]):w.cell? ⟨g,0,none⟩=some v0∧w.cell? ⟨g,1,none⟩=some v1∧w.cell? ⟨g,2,none⟩=some v2∧w.cell? ⟨g,3,none⟩=some v3∧w.cell? ⟨g,4,none⟩=some v4:=blk5n h
end
attribute [local go_sem] zabZ
set_option maxHeartbeats 4000000 in
theorem here_s (w0:World) (S:ProgS) (sA:Option Addr) (sn sc gW:Nat) (e0:Int) (L:List (InsD × Value)) (w:World) (h:WrSt w0 w S sA sn sc gW e0 L) (he:0≤e0∧e0≤4000) (hL:L.length≤100000):Calls prog 27 #[.pointer (some ⟨gW,0,none⟩)] w fun e w'=>e=.returned (.int .i64 (e0+(L.length:Nat)))∧∃ q,w'=w.drewN q:=by
 obtain ⟨⟨iv,h1,h2⟩,_,_,_⟩:=h;obtain ⟨iA,ic,rfl⟩:=zajZ h2;obtain ⟨c0,c1,c2,c3,c4⟩:=blkW h1;generalize L.length=n at hL c4 ⊢;have hw:IntKind.i64.wrap (e0+(n:Int))=e0+(n:Int):=IntWalk.i64_in _ (by omega);clear h1 h2 c0 c1 c2;go_enter func27,ntmps27
 go_wp2
 go_quiet (fail);go_wp2
 go_returns;exact ⟨by first | rfl | (rw [hw]),_,rfl⟩
theorem add_s (w0:World) (S:ProgS) (sA:Option Addr) (sn sc gW:Nat) (e0:Int) (L N:List (InsD × Value)) (w:World) (gv m:Nat) (h:WrSt w0 w S sA sn sc gW e0 L) (hN:N.length=m) (hm:m≤2) (hL:L.length≤100000) (hB:Blk w gv 53 (N.flatMap insRow).toArray) (hk:∀ p∈N,OKeys w0.heap.size w p) (ho:∀ p∈N,p.2.oneCell'=true) :
  Calls prog 42 #[.pointer (some ⟨gW,0,none⟩),.slice (some ⟨gv,0,none⟩) m m] w fun e w'=>e=.returned (.tuple #[])∧WrSt w0 w' S sA sn sc gW e0 (L ++ N)∧KW w0.heap.size gW w w':=by
 obtain ⟨P,hP⟩:∃ P:Ending→World→Prop,(fun e w'=>e=.returned (.tuple #[])∧WrSt w0 w' S sA sn sc gW e0 (L ++ N)∧KW w0.heap.size gW w w')=P:=⟨_,rfl⟩
 rw [hP];have HP:Hid (∀ w',WrSt w0 w' S sA sn sc gW e0 (L ++ N)→KW w0.heap.size gW w w'→P (.returned (.tuple #[])) w'):=hZz (fun w' h1 h2=>by rw [← hP];exact ⟨rfl,h1,h2⟩);obtain ⟨i0,hi,hz0,hz1,hz2⟩:=info_parts Tryz.infoIns;obtain ⟨⟨iv,h1,h2⟩,h3,h4,h5⟩:=h;obtain ⟨iA,ic,rfl⟩:=zajZ h2;obtain ⟨c0,c1,c2,c3,c4⟩:=blkW h1;have z4:=h1.frozen 4;have hlen:(N.flatMap insRow).length=m * 4:=by rw [flat_len,hN]
 have hnews:∀ j u,(N.flatMap insRow)[j]? = some u→w.cell? ((⟨gv,0,none⟩:Addr).add j)=some u:=by
  intro j u hj;rw [za6Y,Nat.zero_add];exact hB.cell j u (by simpa using hj)
 have hone:∀ u∈N.flatMap insRow,u.oneCell'=true:=by
  intro u hu;obtain ⟨p,hp,hup⟩:=List.mem_flatMap.1 hu;simp only [insRow,List.mem_cons,List.not_mem_nil,or_false] at hup;rcases hup with rfl | rfl | rfl | rfl
  ·rfl
  ·rfl
  ·rfl
  ·exact ho p hp
 have H1:=hZz h1;have H2:=hZz h2;have H3:=hZz h3;have H4:=hZz h4;have H5:=hZz h5;have HK:=hZz hk;have HNW:=hZz hnews;have HON:=hZz hone;have HLN:=hZz hlen;have HNL:=hZz hN;obtain ⟨n,hn⟩:∃ n,L.length=n:=⟨_,rfl⟩
 have HN:=hZz hn;rw [hn] at c4 hL H1 H2;have hsz:=h4.size;clear hP h1 h2 h3 h4 h5 hk hnews hone hlen hN hB ho hn;go_enter func42,ntmps42
 go_wp2_with (first
  | (at_builtin;refine wpList_append_own _ rfl (.tmp 8) (.tmp 9) 29 rfl w0.heap.size 53 i0 _ 4 56 underlying29 hi hz0 hz1 hz2 rfl (by omega) _ n _ rfl H2.out ⟨gv,0,none⟩ m m (N.flatMap insRow) rfl HLN.out HNW.out HON.out (by unfold maxLen;omega) (by omega) hsz ?_;intro v' w4 hown4 hg4 _;obtain ⟨oA4,oc4,hoe4⟩:=zajZ hown4;subst hoe4;have HO4:=hZz hown4;have HG4:=hZz hg4;have HB4:=hZz (H1.out.grown hg4 (zafZ H2.out H1.out (by decide)));obtain ⟨d0,d1,d2,d3,d4⟩:=blkW HB4.out;have y4:=HB4.out.frozen 4;clear hown4 hg4))
 go_end0
 have HKW:Hid (KW w0.heap.size gW w w4):=hZz ((KW.refl _ _ w).grown H2.out (Nat.le_refl _) hsz HG4.out);have HKX:=hZz (HKW.out.setW H5.out 4 (.slice oA4 (n+m) oc4));refine HP.out _ ⟨⟨_,HB4.out.set_ 4 _,?_⟩,?_,HKX.out.bel H4.out,H5.out⟩ HKX.out
 ·rw [List.length_append,HN.out,HNL.out,List.flatMap_append]
  exact ((GL.refl [gW] w4).setCell (by simp) 4 _).own HO4.out (fun g hg hm=>by
   have:g=gW:=by simpa using hm
   subst this;exact zafZ HO4.out HB4.out (by decide) hg.symm)
 ·intro p hp
  have hpw:OKeys w0.heap.size w p:=by
   rcases List.mem_append.1 hp with hp | hp
   ·exact H3.out p hp
   ·exact HK.out p hp
  exact HKX.out.ownS H1.out (by decide) hpw
end
end Go.Proofs.YthiimbhjpdphpaaGreatDoor
