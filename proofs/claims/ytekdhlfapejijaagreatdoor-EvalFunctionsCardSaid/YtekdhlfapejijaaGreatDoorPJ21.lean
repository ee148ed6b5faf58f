/- H19, H21, J21 -/
import Derived.Test.YtekdhlfapejijaaGreatDoorPJ17
import Derived.Laws.Tables
set_option linter.unusedVariables false
set_option linter.unusedSimpArgs false
namespace Go.Proofs.YtekdhlfapejijaaGreatDoor
open Go.RowKit
set_option maxRecDepth 100000
attribute [local go_sem] zacZ
open Go.Proofs.Tryz
structure RunH (S:ProgS) (event:ValD) (ev:Value) (answers:List AnsD) (aA:Option Addr) (ac:Nat) (w:World):Prop where
 prog:ProgV w S
 ev:ValV w ev event
 an:AnsV w (.slice aA answers.length ac) answers
 pow:Pow w
 maxl:MaxL w
 sent:Sent w
 small:SmallEv S.p
 eok:OkV event
 aok:∀ a∈answers,OkV a.value
 alen:answers.length≤40
def LocS (w5:World) (S:ProgS) (gx nn nf:Nat) (sA aA:Option Addr) (ns sc na ac:Nat) (fuel:Int) (LO:List Int) (k:Nat) (w:World):Prop :=
 ∃ lA lc,Blk w gx 95 #[.slice S.A nn S.ncap,.slice S.B nf S.fcap,.slice sA ns sc,.slice lA k lc,.slice aA na ac,.slice none 0 0,.int .i64 fuel,.int .i64 0]∧w.ownsRow w5.heap.size 3 1 (.slice lA k lc) k ((LO.take k).map intC)∧Below w5.heap.size w5 w∧w5.heap.size≤gx
def KZ (gz:Nat) (w w':World):Prop:=w.heap.size≤w'.heap.size∧∀ j,j<w.heap.size→j≠gz→w'.heap[j]? = w.heap[j]?
theorem KZ.ck {gz:Nat} {w w':World} (h:KZ gz w w') {t:TypeId} {cs:Array Value} (hB:Blk w gz t cs) (ht:t≠53):CK w w':=⟨h.1,fun k cs' fz hk=>h.2 k (lt_of_block hk) (fun e=>by
 subst e;unfold Blk at hB;rw [hB] at hk;injection hk with hk
 injection hk with _ e
 exact ht e)⟩
theorem KZ.same {gz:Nat} {w w':World} (h:KZ gz w w') {t t':TypeId} {cs cs':Array Value} {g:Nat} (hZ:Blk w gz t cs) (hB:Blk w g t' cs') (ht:t'≠t):w'.heap[g]? = w.heap[g]?:=h.2 g hB.lt (fun e=>za7Y hB hZ ht e)
theorem EvM.reqs_end {w0 w w':World} {K:EvK} {C:EvC} {gv:Nat} {F:List Nat} {c:Nat} {s:EvS} {qv:Value} {avs vs:List Value} {gz:Nat} {cs:Array Value} (h:EvM w0 K C gv F c w s qv avs vs) (hZ:Blk w gz 44 cs) (hk:KZ gz w w'):ReqsV w' qv s.reqs:=by
 have hck:=hk.ck hZ (by decide);refine reqsV_of (h.rq.keep hck (fun g hg=>?_)) (zchY h.qrow (fun g hg=>?_)) (by have:=h.rl.1;omega) h.rl.2
 ·obtain ⟨_,_,cs',hB⟩:=h.rq.mem g hg
  exact hk.same hZ hB (by decide)
 ·obtain ⟨_,cs',hB⟩:=zakY h.qrow hg
  exact hk.same hZ hB (by decide)
theorem KZ.refl (gz:Nat) (w:World):KZ gz w w:=⟨Nat.le_refl _,fun _ _ _=>rfl⟩
theorem KZ.below {gz:Nat} {w w1 w2:World} (h:KZ gz w w1) (hb:Below w1.heap.size w1 w2):KZ gz w w2:=⟨Nat.le_trans h.1 hb.size,fun j hj hne=>(hb.block j (Nat.lt_of_lt_of_le hj h.1)).trans (h.2 j hj hne)⟩
theorem KZ.set {gz:Nat} {w w1:World} (h:KZ gz w w1) {g:Nat} (hg:w.heap.size≤g) (i:Nat) (u:Value):KZ gz w (w1.setCell ⟨g,i,none⟩ u):=⟨by simpa using h.1,fun j hj hne=>(Below.heap_setCell w1 ⟨g,i,none⟩ u j (fun e=>by have:j=g:=e;omega)).trans (h.2 j hj hne)⟩
theorem KZ.row {gz:Nat} {w w1:World} (h:KZ gz w w1) (cs:Array Value):KZ gz w (w1.setRow gz cs):=⟨by simpa using h.1,fun j hj hne=>(setRow_other w1 gz j cs hne).trans (h.2 j hj hne)⟩
theorem main_idx {p:ProgD} (h:(studyF p).err=0):0≤findF p mainS:=by
 obtain ⟨_,_,_,_,hf,_⟩:=study_ok h
 have h6:∀ (l:List FuncD) i r,funcsF p l i=some r→r.2=6:=by
  intro l;induction l with
  | nil=>intro i r h;cases h
  | cons f l ih =>
   intro i r h;simp only [funcsF] at h;split at h
   ·cases h;rfl
   ·exact ih _ _ h
 unfold funsF at hf;split at hf
 ·rename_i r hr
  rw [h6 _ _ _ hr] at hf;exact absurd hf (by simp)
 ·split at hf
  ·exact absurd hf (by simp)
  ·omega
theorem locs_ok {p:ProgD} (h:(studyF p).err=0) {k:Nat} (hk:k<p.funcs.length):∃ hl:k<(studyF p).locals.length,localsF p k=((studyF p).locals[k],0):=by
 obtain ⟨hsy,e1,e2,_⟩:=study_ok h;obtain ⟨_,_,q3,_⟩:=hsy.step _ (Nat.le_refl _);have hl:k<(studyF p).locals.length:=by rw [e2,q3];exact hk
 refine ⟨hl,?_⟩
 unfold localsF;rw [if_neg (by rw [h];simp),if_neg (by omega),Int.toNat_natCast,zafY hl]
def RunJ (o:OutD) (w:World) (e:Ending) (w':World):Prop:=∃ ov,e=.returned (.tuple #[ov,.int .i64 0])∧OutV w' ov o∧Below w.heap.size w w'
set_option maxHeartbeats 16000000 in
theorem run_evalJ (S:ProgS) (event:ValD) (ev:Value) (answers:List AnsD) (aA:Option Addr) (ac:Nat) (fuel:Nat) (w:World) (hR:RunH S event ev answers aA ac w) (he:(studyF S.p).err=0) (hev:checkF event=0) (hf:1≤fuel∧fuel≤200000) (Q:(ValD × Option SigD) × EvS) (hQ:callF (ctxF S.p answers) (nodeJ (ctxF S.p answers) fuel) 0 (findF S.p mainS).toNat [event] ⟨fuel,[],[event]⟩=some Q) (hQf:∀ e,Q.1.2≠some (.fail e)) (hQr:∀ v,Q.1.2≠some (.ret v)) (o:OutD) (ho:finF (some Q)=some o) :
  Calls prog 24 #[S.val,ev,.slice aA answers.length ac,.int .i64 fuel] w (RunJ o w):=by
 obtain ⟨P,hP⟩:∃ P:Ending→World→Prop,RunJ o w=P:=⟨_,rfl⟩
 rw [hP];have HP:=hZz hP;obtain ⟨hsy,e1,e2,_,hfu,_⟩:=study_ok he;obtain ⟨eA,en,ec,hee⟩:=hR.ev.shape;have HRH:=hZz hR;subst hee;obtain ⟨W2,hW2⟩:∃ W,(w.alloc (.cells #[.slice S.A S.p.nodes.length S.ncap,.slice S.B S.p.funcs.length S.fcap] 38)).alloc (.cells #[.bool false,.int .i64 0,.slice none 0 0,.slice none 0 0] 44)=W:=⟨_,rfl⟩
 obtain ⟨gp,hgp⟩:∃ g,w.heap.size=g:=⟨_,rfl⟩
 have hb2:Below w.heap.size w W2:=by rw [← hW2];exact zasY _ _ _
 have HX2:Hid (Blk W2 gp 38 #[.slice S.A S.p.nodes.length S.ncap,.slice S.B S.p.funcs.length S.fcap]):=hZz (by rw [← hW2,← hgp];exact (Blk.new _ _ _).alloc _);have HZ2:Hid (Blk W2 (gp+1) 44 #[.bool false,.int .i64 0,.slice none 0 0,.slice none 0 0]):=hZz (by rw [← hW2,← hgp];exact Blk.second _ _ _ _);have HC:Hid (Calls prog 66 #[S.val] W2 fun e w'=>(∃ a,e=.returned (.tuple #[.int .i64 a,.int .i64 0]))∧Below W2.heap.size W2 w'):=hZz (by have:=scheck_s S W2 (hR.prog.below hb2) (hR.pow.below hb2) hR.small.ok;rw [he] at this;exact this)
 have HSL:Hid (∀ wx,Below w.heap.size w wx→Calls prog 67 #[S.val] wx fun e w'=>(∃ A c,e=.returned (.tuple #[.slice A (studyF S.p).slots.length c,.int .i64 0])∧SlAt w' A 1 intS (studyF S.p).slots)∧Below wx.heap.size wx w'):=hZz (fun wx hbx=>(slots_s S wx (hR.prog.below hbx) (hR.pow.below hbx) hR.small.ok).mono fun e w' ⟨h1,h2⟩=>⟨by
  rcases h1 with ⟨h,_⟩ | ⟨_,h⟩
  ·exact absurd he h
  ·exact h,h2⟩)
 have HLO:Hid (∀ wx,Below w.heap.size w wx→∀ k:Nat,Calls prog 68 #[S.val,.int .i64 k] wx fun e w'=>e=.returned (.tuple #[.int .i64 (localsF S.p k).1,.int .i64 (localsF S.p k).2])∧Below wx.heap.size wx w'):=hZz (fun wx hbx k=>locals_s S k wx (hR.prog.below hbx) (hR.pow.below hbx) hR.small.ok)
 have HCK:Hid (∀ wx,Below w.heap.size w wx→Calls prog 30 #[.slice (some ⟨wx.heap.size,0,none⟩) 1 1] (wx.alloc (.cells #[.slice eA en ec] 22)) fun e w'=>e=.returned (.int .i64 0)∧Below wx.heap.size wx w'):=hZz (fun wx hbx=>by
  have:=zahY [event] _ (wx.alloc (.cells #[.slice eA en ec] 22)) (vals1 (Blk.new _ _ _) ((HRH.out.ev.below hbx).below (zabZ _ _))) ((HRH.out.pow.below hbx).below (zabZ _ _)) (by intro x hx;simp only [List.mem_cons,List.not_mem_nil,or_false] at hx;rw [hx];exact HRH.out.eok)
  rw [zbwY,hev] at this;exact this.mono fun e w' ⟨he,hb⟩=>⟨he,zadZ hb (zabZ _ _)⟩)
 have HB2:=hZz hb2;have HW2:=hZz hW2;have HGP:=hZz hgp;have HGS:=hZz hgp;have HHE:=hZz he;have HHV:=hZz hev;have HHF:=hZz hf;have HQ:=hZz hQ;have HQF:=hZz hQf;have HQR:=hZz hQr;have HO:=hZz ho;have HSY:=hZz hsy;have HE1:=hZz e1;have HE2:=hZz e2;unfold ProgS.val at HC HSL HLO ⊢;obtain ⟨nn,hnn⟩:∃ x,S.p.nodes.length=x:=⟨_,rfl⟩
 obtain ⟨nf,hnf⟩:∃ x,S.p.funcs.length=x:=⟨_,rfl⟩
 obtain ⟨na,hna⟩:∃ x,answers.length=x:=⟨_,rfl⟩
 obtain ⟨ns,hns⟩:∃ x,(studyF S.p).slots.length=x:=⟨_,rfl⟩
 have HNN:=hZz hnn;have HNF:=hZz hnf;have HNA:=hZz hna;have HNS:=hZz hns;rw [hnn,hnf] at HX2 HW2 HC HSL HLO;rw [hns] at HSL;rw [hnn,hnf,hna];have d1:decide ((fuel:Int)<1)=false:=decide_eq_false (by omega);have d2:decide (200000<(fuel:Int))=false:=decide_eq_false (by omega);have hnf9:(nf:Int)≤100:=by have:=hsy.funcs;omega
 clear hP hR he hW2 hb2 hgp hev hf hQ hQf hQr ho hsy e1 e2 hnn hnf hna hns hfu;go_enter func24,ntmps24
 go_upto_region 1 with fail
 rw [HGP.out,HW2.out];clear HGP HW2;have x2:=blk2 HX2.out
 go_upto_region 12 with (first
  | (go_at_call 66;((with_reducible refine HC.out.mono ?_);rintro e w3 ⟨⟨a,rfl⟩,hb3⟩;have HB3:=hZz (zadZ hb3 HB2.out);have HX3:=hZz (HX2.out.below hb3);have HZ3:=hZz (HZ2.out.below hb3);have HCE:=hZz (HCK.out w3 HB3.out);clear hb3))
  | (go_at_call 30;((with_reducible refine HCE.out.mono ?_);rintro e w4 ⟨rfl,hb4⟩;have HB4:=hZz (zadZ hb4 HB3.out);have HX4:=hZz (HX3.out.below hb4);have x4:=blk2 HX4.out;have HZ4:=hZz (HZ3.out.below hb4);have HSE:=hZz (HSL.out w4 HB4.out);clear hb4))
  | (go_at_call 67;((with_reducible refine HSE.out.mono ?_);rintro e w5 ⟨⟨sA,sc,rfl,hsl⟩,hb5⟩;have HB5:=hZz (zadZ hb5 HB4.out);have HX5:=hZz (HX4.out.below hb5);have x5:=blk2 HX5.out;have HZ5:=hZz (HZ4.out.below hb5);have HSQ:=hZz hsl;clear hb5 hsl)))
 obtain ⟨i1,hj,hy0,hy1,hy2⟩:=info_parts Tryz.infoIntS;obtain ⟨W6,hW6⟩:∃ W,w5.alloc (.cells #[.slice S.A nn S.ncap,.slice S.B nf S.fcap,.slice sA ns sc,.slice none 0 0,.slice aA na ac,.slice none 0 0,.int .i64 fuel,.int .i64 0] 95)=W:=⟨_,rfl⟩
 obtain ⟨gx,hgx⟩:∃ g,w5.heap.size=g:=⟨_,rfl⟩
 have HL6:Hid (LocS w5 S gx nn nf sA aA ns sc na ac fuel (studyF S.p).locals 0 W6):=hZz ⟨none,0,by rw [← hW6,← hgx];exact Blk.new _ _ _,World.ownsRow_nil _ _ _ _,by rw [← hW6];exact zabZ _ _,Nat.le_of_eq hgx⟩;have HX6:=hZz (HX5.out.below (show Below w5.heap.size w5 W6 by rw [← hW6];exact zabZ _ _));have HGX:=hZz hgx;have HW6:=hZz hW6;clear hW6 hgx;go_upto_region 13 with fail
 rw [HGX.out,HW6.out];have x6:=blk2 HX6.out;clear x5 HW6;go_wp2_with (fail)
 clear x6;go_loopw [16,17,18,66] (fun _ _ _ iv wr=>∃ k:Nat,k≤nf∧iv=.int .i64 k∧Hid (LocS w5 S gx nn nf sA aA ns sc na ac fuel (studyF S.p).locals k wr)) (fun _ _ _ iv _=>nf - (intOf iv).toNat)
 case atStart=>exact ⟨0,Nat.zero_le _,rfl,HL6⟩
 case round =>
  obtain ⟨k,hk,rfl,HL⟩:=hrel;obtain ⟨lA,lc,hE,hO,hbel,hgx⟩:=HL.out;have HE:=hZz hE;have HO:=hZz hO;have HBL:=hZz hbel;have HBR:=hZz (zadZ hbel HB5.out);have HXR:=hZz (HX5.out.below hbel);have HZR:=hZz (HZ5.out.below hbel);have xr:=blk2 HXR.out;have HGL:=hZz hgx;clear hE hO hbel hgx HL;by_cases hlt:k<nf
  ·have hlt':(k:Int)<(nf:Int):=by omega
   have hk0:(0:Int)≤(k:Int):=by omega
   obtain ⟨hll,hle⟩:=locs_ok HHE.out (k:=k) (by rw [HNF.out];exact hlt);obtain ⟨lk,hlk⟩:∃ x,(studyF S.p).locals[k]=x:=⟨_,rfl⟩
   have HLK:=hZz hlk;rw [hlk] at hle;have HLL:=hZz hll;have hcl:=HLO.out wr HBR.out k;rw [hle] at hcl;have HCL:=hZz hcl;clear hlk hle hcl
   go_wp2_with (first
    | (go_at_call 68;((with_reducible refine HCL.out.mono ?_);rintro e w7 ⟨rfl,hb7⟩;have HE7:=hZz (HE.out.below hb7);have x7:=HE7.out.cell 3 _ rfl;have HO7:=hZz (zajZ HO.out hb7);have HB7:=hZz (zaaZ hb7 HBL.out HBL.out.size);have hsz7:w5.heap.size≤w7.heap.size:=Nat.le_trans HBL.out.size hb7.size;clear hb7))
    | (at_builtin;refine zakZ rfl (.tmp 80) (.tmp 82) 85 rfl i1 _ 8 underlying85 hj hy0 hy1 hy2 rfl (by omega) rfl HO7.out [.int .i64 lk] rfl rfl (by simp [Value.oneCell']) (by omega) (by omega) hsz7 ?_;intro v8 w8 hown8 hb8 hs8 hg8;obtain ⟨A8,c8,hoe8⟩:=zaeZ hown8;subst hoe8;have HE8:=hZz (HE7.out.grown hg8 (zagZ HO7.out HE7.out (by decide)));have x8:=HE8.out.cell 3 _ rfl;have z8:=HE8.out.frozen 3;have HO8:=hZz hown8;have HB8:=hZz (HB7.out.trans hb8);clear hown8 hb8 hs8 hg8))
   have hgS:=zamZ w8 gx 3 (.slice A8 (k+1) c8);refine ⟨⟨k+1,by omega,by simp,hZz ⟨A8,c8,HE8.out.set_ 3 _,?_,?_,HGL.out⟩⟩,by simp [intOf];omega⟩
   ·rw [List.take_succ_eq_append_getElem HLL.out,HLK.out,List.map_append]
    exact zaaY HO8.out hgS (fun q hq=>by injection hq with hq;subst hq;exact zagZ HO8.out HE8.out (by decide))
   ·exact HB8.out.grown hgS HB8.out.size (fun q hq=>by injection hq with hq;have:=HGL.out;omega)
  ·have e:k=nf:=by omega
   subst e
   have hfull:((studyF S.p).locals.take k)=(studyF S.p).locals:=List.take_of_length_le (by
    obtain ⟨_,_,q3,_⟩:=HSY.out.step _ (Nat.le_refl _);rw [HE2.out,q3,HNF.out];exact Nat.le_refl _)
   have hll:(studyF S.p).locals.length=k:=by
    obtain ⟨_,_,q3,_⟩:=HSY.out.step _ (Nat.le_refl _);rw [HE2.out,q3,HNF.out]
   have HOL:Hid (wr.ownsRow w5.heap.size 3 1 (.slice lA (studyF S.p).locals.length lc) (studyF S.p).locals.length ((studyF S.p).locals.map intC)):=hZz (by have:=HO.out;rw [hfull] at this;rw [hll];exact this);have HLN:=hZz hll;obtain ⟨fm,hfm⟩:∃ j:Nat,findF S.p mainS=j:=⟨(findF S.p mainS).toNat,by have:=main_idx HHE.out;omega⟩
   have HFM:=hZz hfm;have hmi:=main_h S w wr HRH.out.prog HBR.out (by rw [HNF.out];omega);rw [hfm,HNF.out] at hmi;have HMI:=hZz hmi;clear hfull hll hfm hmi hlt;go_upto_region 22 with (go_at_call 69;((with_reducible refine HMI.out.mono ?_);rintro e w10 ⟨rfl,hb10⟩;have HB10:=hZz hb10;clear hb10))
   clear xr;obtain ⟨W11,hW11⟩:∃ W,w10.alloc (.cells #[.slice eA en ec] 22)=W:=⟨_,rfl⟩
   obtain ⟨gv,hgv⟩:∃ g,w10.heap.size=g:=⟨_,rfl⟩
   have hb11:Below wr.heap.size wr W11:=by rw [← hW11];exact HB10.out.trans ((zabZ w10 _).mono HB10.out.size)
   have HBV:Hid (Blk W11 gv 22 #[.slice eA en ec]):=hZz (by rw [← hW11,← hgv];exact Blk.new _ _ _);have hbel11:Below w5.heap.size w5 W11:=zaaZ hb11 HBL.out HBL.out.size;have hvg:ValG w5 W11 (.slice eA en ec) event:=⟨.inl (HRH.out.ev.below HB5.out),.inr HHV.out⟩
   have HH:EvH w5 ⟨gx,S,sA,sc,lA,lc,aA,ac⟩ (ctxF S.p answers):=evH_of (HRH.out.prog.below HB5.out) HHE.out HRH.out.small HSQ.out (HRH.out.an.below HB5.out) (HRH.out.pow.below HB5.out) (HRH.out.maxl.below HB5.out) (HRH.out.sent.below HB5.out) HRH.out.aok HRH.out.alen
   have HM11:Hid (EvM w5 ⟨gx,S,sA,sc,lA,lc,aA,ac⟩ (ctxF S.p answers) gv [] 0 W11 ⟨fuel,[],[event]⟩ (.slice none 0 0) [] [.slice eA en ec]):=hZz (by
    refine ⟨hbel11,HGL.out,by have:=HBL.out.size;have:=HB10.out.size;omega,?_,zajZ HOL.out hb11,trivial,World.ownsRow_nil _ _ _ _,HBV.out,rfl,?_,fun g _=>(by simp [blocksQ]),fun g hg=>(by cases hg),⟨by simp,fun r hr=>(by cases hr)⟩⟩
    ·have:=HE.out.below hb11
     show Blk W11 gx 95 #[.slice S.A S.p.nodes.length S.ncap,.slice S.B S.p.funcs.length S.fcap,.slice sA (studyF S.p).slots.length sc,.slice lA (studyF S.p).locals.length lc,.slice aA answers.length ac,.slice none 0 0,.int .i64 fuel,.int .i64 (0:Nat)];rw [HNN.out,HNF.out,HNS.out,HLN.out,HNA.out];exact this
    ·intro i a b
     have e:i=0:=by simp at a;exact a
     subst e;exact hvg)
   have HROW:RowG w5 gv W11 (.slice (some ⟨gv,0,none⟩) 1 1) [event]:=⟨[.slice eA en ec],⟨by simp,.inr ⟨gv,1,_,rfl,Nat.le_refl _,HBV.out,Nat.le_refl _,by unfold maxLen;omega,rfl,rfl⟩⟩,rfl,fun i a b=>by
    have e:i=0:=by simp at a;exact a
    subst e;exact hvg⟩
   have hfl:=findF_lt2 (main_idx HHE.out);have hQ:=HQ.out;rw [HFM.out,Int.toNat_natCast] at hQ hfl;have HCA:=hZz (call_h HH (N:=nodeJ (ctxF S.p answers) fuel) (c:=0) (fun _=>node_j HH fuel HHF.out.2 1 (by omega)) (down_nodeJ _ fuel 1) ⟨_,_,_,HM11.out⟩ hfl HROW (by simp) (Nat.le_refl _) (by omega) hQ);have HB11:=hZz hb11;have HW11:=hZz hW11;have HGV:=hZz hgv;clear hb11 hbel11 hvg HH HROW hfl hQ hW11 hgv;simp only at HCA;obtain ⟨⟨v,sg⟩,s12⟩:=Q;have HZ11:=hZz (HZR.out.below HB11.out);have HGPW:Hid (w.heap.size≤gp+1):=hZz (by have:=HGS.out;omega);have HBW:Hid (∀ wy,Below w5.heap.size w5 wy→Below w.heap.size w wy):=hZz (fun wy hy=>zadZ hy HB5.out);cases sg with
   | none =>
    have HOE:Hid (o=⟨true,0,v,s12.reqs⟩):=hZz (by have:=HO.out;cases this;rfl);have h1:=fun w=>as_fail_nil w
    have h2:=fun w=>as_wait_nil w
    go_upto_region 23 with (rw [HGV.out,HW11.out];go_at_call 71;((with_reducible refine HCA.out.mono ?_);rintro e w12 ⟨u,sv,rfl,hu,hsv,hx,hkx⟩;(have hsv':sv=.nilIface:=hsv);subst hsv';obtain ⟨uA,un,uc,rfl⟩:=hu.shape;obtain ⟨qv,avs,vs,hm⟩:=hx;obtain ⟨qA,qc,rfl⟩:=zaeZ hm.qrow;have HM:=hZz hm;have HUG:=hZz hu;have HK:=hZz hkx;have x12:=hm.ex.cell 5 _ rfl;clear hsv hm hkx hu))
    have HZ12:Hid (Blk w12 (gp+1) 44 #[.bool false,.int .i64 0,.slice none 0 0,.slice none 0 0]):=hZz (HK.out.blk HZ11.out (za7Y HZ11.out HM11.out.ex (by decide)) (za7Y HZ11.out HM11.out.vb (by decide)) (by decide));have HB12:Hid (Below w.heap.size w w12):=hZz (HBW.out w12 HM.out.bel);obtain ⟨nr,hnr⟩:∃ x,s12.reqs.length=x:=⟨_,rfl⟩
    rw [hnr] at x12;have HNR:=hZz hnr;clear hnr;obtain ⟨go,hgo⟩:∃ g,w12.heap.size=g:=⟨_,rfl⟩
    obtain ⟨Wo,hWo⟩:∃ W,w12.alloc (.cells #[.bool true,.int .i64 0,.slice none 0 0,.slice qA nr qc] 44)=W:=⟨_,rfl⟩
    have HBO:Hid (Below w12.heap.size w12 Wo):=hZz (by rw [← hWo];exact zabZ _ _);have HGO:Hid (Blk Wo go 44 #[.bool true,.int .i64 0,.slice none 0 0,.slice qA nr qc]):=hZz (by rw [← hWo,← hgo];exact Blk.new _ _ _);have HGOE:=hZz hgo;have HWO:=hZz hWo;have HZO:=hZz (HZ12.out.below HBO.out);have HGLE:Hid (w12.heap.size≤go):=hZz (by omega);have HGNE:Hid (gp+1≠go):=hZz (by have:=HZ12.out.lt;omega);clear hgo hWo;go_upto_region 24 with fail
    rw [HGOE.out,HWO.out];clear HGOE HWO x12;have HCN:=hZz (zbsY v (.slice uA un uc) Wo ((HUG.out.val HM.out.bel).below HBO.out));have HVL:Hid (v.length≤3518437208780):=hZz (by obtain ⟨_,_,_,_,h3,_⟩:=(HUG.out.val HM.out.bel).at;exact h3);go_upto_region 33 with (go_at_call 72;((with_reducible refine HCN.out.mono ?_);rintro e w14 ⟨v1,rfl,ho1,hb14⟩;obtain ⟨A1,c1,rfl⟩:=zaeZ (show w14.ownsRow Wo.heap.size 53 4 v1 v.length _ from ho1);have HV1:=hZz ho1;have HB14:=hZz hb14;have HG14:=hZz (HGO.out.below hb14);have z14:=HG14.out.frozen 2;have y14:=HG14.out.cell 2 _ rfl;clear ho1 hb14))
    clear z14 y14;obtain ⟨Ws,hWs⟩:∃ W,w14.setCell ⟨go,2,none⟩ (.slice A1 v.length c1)=W:=⟨_,rfl⟩
    have HGS2:Hid (Blk Ws go 44 #[.bool true,.int .i64 0,.slice A1 v.length c1,.slice qA nr qc]):=hZz (by rw [← hWs];exact HG14.out.set_ 2 _);have HZS:Hid (Blk Ws (gp+1) 44 #[.bool false,.int .i64 0,.slice none 0 0,.slice none 0 0]):=hZz (by rw [← hWs];exact (HZO.out.below HB14.out).far (p:=⟨go,2,none⟩) HGNE.out _);have HKZ:Hid (KZ (gp+1) w12 Ws):=hZz (by rw [← hWs];exact (((KZ.refl _ _).below HBO.out).below HB14.out).set HGLE.out _ _);have HVS:Hid (ValT Ws (.slice A1 v.length c1) v):=hZz (by rw [← hWs];exact (OVal.valT HV1.out HVL.out).keep (CK.blk HG14.out (by decide) (zamZ w14 go 2 _)))
    have HBS:Hid (Below w.heap.size w Ws):=hZz (by
     rw [← hWs];have h1:=zaaZ HB14.out (zaaZ HBO.out HB12.out HB12.out.size) (Nat.le_trans HB12.out.size HBO.out.size);exact h1.grown (zamZ w14 go 2 _) h1.size (fun q hq=>by injection hq with hq;have:=HGLE.out;have:=HB12.out.size;omega))
    rw [hWs];clear hWs;have gs:=blk4 HGS2.out;generalize v.length=vl at *;go_wp2_with (refine wpList_store_row rfl 44 (.tmp 8) (.tmp 113) rfl (gp+1) #[.bool true,.int .i64 0,.slice A1 vl c1,.slice qA nr qc] rfl rfl 44 _ HZS.out (by kernel_rfl) rfl (by simp [Value.oneCell']) ?_)
    have ge:=blk4 (HZS.out.setRow (cs':=#[.bool true,.int .i64 0,.slice A1 vl c1,.slice qA nr qc]));refine bodyPost_ret (v:=.tuple #[.agg #[.bool true,.int .i64 0,.slice A1 vl c1,.slice qA nr qc],.int .i64 0]) (by simp [results,Tryz.results24,go_sem,ge]) rfl ?_
    rw [← HP.out];have hq:=HM.out.reqs_end HZ12.out (HKZ.out.row #[.bool true,.int .i64 0,.slice A1 vl c1,.slice qA nr qc]);rw [HNR.out] at hq;have hvv:=(HVS.out.keep (((KZ.refl (gp+1) Ws).row #[.bool true,.int .i64 0,.slice A1 vl c1,.slice qA nr qc]).ck HZS.out (by decide))).1;exact ⟨_,rfl,by rw [HOE.out];exact ⟨_,_,rfl,hvv,hq⟩,below_setRow HBS.out HGPW.out _⟩
   | some sg =>
    cases sg with
    | fail er=>exact absurd rfl (HQF.out er)
    | wait =>
     have HOE:Hid (o=⟨false,0,[],s12.reqs⟩):=hZz (by have:=HO.out;cases this;rfl);have h1:=fun u w=>as_fail_wait u w
     have h2:=fun u w=>as_wait u w
     go_upto_region 23 with (rw [HGV.out,HW11.out];go_at_call 71;((with_reducible refine HCA.out.mono ?_);rintro e w12 ⟨u,sv,rfl,hu,hsv,hx,hkx⟩;(have hsv':sv=.iface 106 (.agg #[]):=hsv);subst hsv';obtain ⟨uA,un,uc,rfl⟩:=hu.shape;obtain ⟨qv,avs,vs,hm⟩:=hx;obtain ⟨qA,qc,rfl⟩:=zaeZ hm.qrow;have HM:=hZz hm;have HK:=hZz hkx;have x12:=hm.ex.cell 5 _ rfl;clear hsv hm hkx hu))
     have HZ12:Hid (Blk w12 (gp+1) 44 #[.bool false,.int .i64 0,.slice none 0 0,.slice none 0 0]):=hZz (HK.out.blk HZ11.out (za7Y HZ11.out HM11.out.ex (by decide)) (za7Y HZ11.out HM11.out.vb (by decide)) (by decide));have HB12:Hid (Below w.heap.size w w12):=hZz (HBW.out w12 HM.out.bel);obtain ⟨nr,hnr⟩:∃ x,s12.reqs.length=x:=⟨_,rfl⟩
     rw [hnr] at x12;have HNR:=hZz hnr;clear hnr;obtain ⟨go,hgo⟩:∃ g,w12.heap.size=g:=⟨_,rfl⟩
     obtain ⟨Wo,hWo⟩:∃ W,w12.alloc (.cells #[.bool true,.int .i64 0,.slice none 0 0,.slice qA nr qc] 44)=W:=⟨_,rfl⟩
     have HBO:Hid (Below w12.heap.size w12 Wo):=hZz (by rw [← hWo];exact zabZ _ _);have HGO:Hid (Blk Wo go 44 #[.bool true,.int .i64 0,.slice none 0 0,.slice qA nr qc]):=hZz (by rw [← hWo,← hgo];exact Blk.new _ _ _);have HGOE:=hZz hgo;have HWO:=hZz hWo;have HZO:=hZz (HZ12.out.below HBO.out);have HGLE:Hid (w12.heap.size≤go):=hZz (by omega);have HGNE:Hid (gp+1≠go):=hZz (by have:=HZ12.out.lt;omega);clear hgo hWo;go_upto_region 24 with fail
     rw [HGOE.out,HWO.out];clear HGOE HWO x12;have HBW2:Hid (Below Wo.heap.size Wo (Wo.alloc (.cells #[] 106))):=hZz (zabZ _ _);have HG14:=hZz (HGO.out.below HBW2.out);have z14:=HG14.out.frozen 0;have y14:=HG14.out.cell 0 _ rfl;go_upto_region 33 with fail
     clear z14 y14;obtain ⟨Ws,hWs⟩:∃ W,(Wo.alloc (.cells #[] 106)).setCell ⟨go,0,none⟩ (.bool false)=W:=⟨_,rfl⟩
     have HGS2:Hid (Blk Ws go 44 #[.bool false,.int .i64 0,.slice none 0 0,.slice qA nr qc]):=hZz (by rw [← hWs];exact HG14.out.set_ 0 _);have HZS:Hid (Blk Ws (gp+1) 44 #[.bool false,.int .i64 0,.slice none 0 0,.slice none 0 0]):=hZz (by rw [← hWs];exact (HZO.out.below HBW2.out).far (p:=⟨go,0,none⟩) HGNE.out _);have HKZ:Hid (KZ (gp+1) w12 Ws):=hZz (by rw [← hWs];exact (((KZ.refl _ _).below HBO.out).below HBW2.out).set HGLE.out _ _)
     have HBS:Hid (Below w.heap.size w Ws):=hZz (by
      rw [← hWs];have h1:=zaaZ HBW2.out (zaaZ HBO.out HB12.out HB12.out.size) (Nat.le_trans HB12.out.size HBO.out.size);exact h1.grown (zamZ _ go 0 _) h1.size (fun q hq=>by injection hq with hq;have:=HGLE.out;have:=HB12.out.size;omega))
     rw [hWs];clear hWs;have gs:=blk4 HGS2.out;go_wp2_with (refine wpList_store_row rfl 44 (.tmp 8) (.tmp 113) rfl (gp+1) #[.bool false,.int .i64 0,.slice none 0 0,.slice qA nr qc] rfl rfl 44 _ HZS.out (by kernel_rfl) rfl (by simp [Value.oneCell']) ?_)
     have ge:=blk4 (HZS.out.setRow (cs':=#[.bool false,.int .i64 0,.slice none 0 0,.slice qA nr qc]));refine bodyPost_ret (v:=.tuple #[.agg #[.bool false,.int .i64 0,.slice none 0 0,.slice qA nr qc],.int .i64 0]) (by simp [results,Tryz.results24,go_sem,ge]) rfl ?_
     rw [← HP.out];have hq:=HM.out.reqs_end HZ12.out (HKZ.out.row #[.bool false,.int .i64 0,.slice none 0 0,.slice qA nr qc]);rw [HNR.out] at hq;exact ⟨_,rfl,by rw [HOE.out];exact ⟨_,_,rfl,RowsV.nil none 0,hq⟩,below_setRow HBS.out HGPW.out _⟩
    | ret rv=>exact absurd rfl (HQR.out rv)
end Go.Proofs.YtekdhlfapejijaaGreatDoor
