/- W1, W3, W5, W6, W8, W11, W12, W13, FD1, FD2, JD, W17 -/
import Derived.Test.YthiimbhjpdphpaaGreatDoorPW0
import Derived.StillTailTactics
set_option linter.unusedVariables false
set_option linter.unusedSimpArgs false
namespace Go.Proofs.YthiimbhjpdphpaaGreatDoor
open Go.RowKit
set_option maxRecDepth 100000
open Go.Proofs.Tryz
section
def nilK:Value:=.slice none 0 0
theorem okeys_nil (n0:Nat) (w:World) (i:InsD) (h:i.keys=[]):OKeys n0 w (i,nilK):=by
 unfold OKeys nilK;rw [h];exact ⟨rfl,.inl ⟨rfl,rfl⟩⟩
theorem add1_s (w0:World) (S:ProgS) (sA:Option Addr) (sn sc gW:Nat) (e0:Int) (L:List (InsD × Value)) (w:World) (op a:Int) (s:ByteArray) (ks:List ByteArray) (kv:Value) (h:WrSt w0 w S sA sn sc gW e0 L) (hL:L.length≤100000) (hk:OKeys w0.heap.size w (⟨op,a,s,ks⟩,kv)) (ho:kv.oneCell'=true) :
  Calls prog 42 #[.pointer (some ⟨gW,0,none⟩),.slice (some ⟨w.heap.size,0,none⟩) 1 1] (w.alloc (.cells #[.int .i64 op,.int .i64 a,.string s,kv] 53)) fun e w'=>e=.returned (.tuple #[])∧WrSt w0 w' S sA sn sc gW e0 (L ++ [(⟨op,a,s,ks⟩,kv)])∧KW w0.heap.size gW w w':=by
 have hb:=zabZ w (.cells #[.int .i64 op,.int .i64 a,.string s,kv] 53);refine (add_s w0 S sA sn sc gW e0 L [(⟨op,a,s,ks⟩,kv)] _ w.heap.size 1 (h.below hb) rfl (by omega) hL (Blk.new w _ _) ?_ ?_).mono ?_
 ·intro p hp
  simp only [List.mem_singleton] at hp;subst hp;exact zagZ hk hb
 ·intro p hp
  simp only [List.mem_singleton] at hp;subst hp;exact ho
 ·rintro e w' ⟨rfl,h1,h2⟩
  exact ⟨rfl,h1,(h.kw hb).trans h2⟩
theorem add2_s (w0:World) (S:ProgS) (sA:Option Addr) (sn sc gW:Nat) (e0:Int) (L:List (InsD × Value)) (w:World) (op op2:Int) (h:WrSt w0 w S sA sn sc gW e0 L) (hL:L.length≤100000) :
  Calls prog 42 #[.pointer (some ⟨gW,0,none⟩),.slice (some ⟨w.heap.size,0,none⟩) 2 2] (w.alloc (.cells #[.int .i64 op,.int .i64 0,.string ByteArray.empty,nilK,.int .i64 op2,.int .i64 0,.string ByteArray.empty,nilK] 53)) fun e w'=>e=.returned (.tuple #[])∧WrSt w0 w' S sA sn sc gW e0 (L ++ [(insO op 0,nilK),(insO op2 0,nilK)])∧KW w0.heap.size gW w w':=by
 have hb:=zabZ w (.cells #[.int .i64 op,.int .i64 0,.string ByteArray.empty,nilK,.int .i64 op2,.int .i64 0,.string ByteArray.empty,nilK] 53);refine (add_s w0 S sA sn sc gW e0 L [(insO op 0,nilK),(insO op2 0,nilK)] _ w.heap.size 2 (h.below hb) rfl (by omega) hL (Blk.new w _ _) ?_ ?_).mono ?_
 ·intro p hp
  simp only [List.mem_cons,List.not_mem_nil,or_false] at hp;rcases hp with rfl | rfl
  ·exact okeys_nil _ _ _ rfl
  ·exact okeys_nil _ _ _ rfl
 ·intro p hp
  simp only [List.mem_cons,List.not_mem_nil,or_false] at hp;rcases hp with rfl | rfl <;> rfl
 ·rintro e w' ⟨rfl,h1,h2⟩
  exact ⟨rfl,h1,(h.kw hb).trans h2⟩
attribute [local go_sem] zacZ
end
section
theorem blk4n {w:World} {g:Nat} {t:TypeId} {v0 v1 v2 v3:Value} (h:Blk w g t #[v0,v1,v2,v3]):w.cell? ⟨g,0,none⟩=some v0∧w.cell? ⟨g,1,none⟩=some v1∧w.cell? ⟨g,2,none⟩=some v2∧w.cell? ⟨g,3,none⟩=some v3 :=
 ⟨h.cell 0 _ rfl,h.cell 1 _ rfl,h.cell 2 _ rfl,h.cell 3 _ rfl⟩
attribute [local go_sem] zacZ
end
section
theorem run_append_zero {P:Program} (w:World) (t ty e:TypeId) (i:TypeInfo) (size:Nat) (ht:P.underlying t=some (.slice e)) (hi:P.info? e=some i) (hsize:i.size=size)
  (A B:Option Addr) (n c c2:Nat) (h:n≤c):(Builtin.append_ #[t,t] ty #[.slice A n c,.slice B 0 c2]).run P w=.ok (.slice A n c) w:=by
 cases A <;> cases B <;> simp [Builtin.append_,run_underlying ht,sizeOf,typeInfo,hi,Builtin.lenOf,Builtin.firstCells,loadCells,loadCellsFrom,h,storeCells]
theorem zazY {P:Program} {w:World} {o:Oper} {a:Act} {K:Act→World→Prop} {Q:Exit→Act→World→Prop} (s x:Operand) (t:TypeId)
  (ho:o.op=.call { callee:=.builtin .append,args:=#[s,x],argTypes:=#[t,t] }) (e:TypeId) (i:TypeInfo) (size:Nat) (ht:P.underlying t=some (.slice e)) (hi:P.info? e=some i) (hsize:i.size=size)
  (A B:Option Addr) (n c c2:Nat) (hs:a.eval s=.slice A n c) (hx:a.eval x=.slice B 0 c2) (h:n≤c) (hK:K (a.put o.dst (.slice A n c)) w):o.wp P a w K Q:=by
 unfold Oper.wp execOp;simp only [ho,resolve,invoke,builtin,Sem.run_bind,Sem.run_pure,Result.andThen_ok,List.map_toArray,List.map_cons,List.map_nil,hs,hx,run_append_zero w t o.type e i size ht hi hsize A B n c c2 h];exact hK
theorem zakY {w:World} {base:Nat} {e t:TypeId} {size n g:Nat} {v:Value} {xs:List Value} {cs:Array Value} (h:w.ownsRow base e size v n xs) (hb:Blk w g t cs) (hne:e≠t) (j:Nat) (u:Value):(w.setCell ⟨g,j,none⟩ u).ownsRow base e size v n xs:=by
 have hn:=zaeZ h hb hne;obtain ⟨h1,h2⟩:=h;refine ⟨h1,h2.imp id (fun ⟨g',cap,cur,ev,eg,eh,e4⟩=>⟨g',cap,cur,ev,eg,?_,e4⟩)⟩
 subst ev;exact (Below.heap_setCell w _ u g' (fun e'=>hn (by show some g=some g';rw [show g'=g from e']))).trans eh
attribute [local go_sem] zacZ
end
section
def nodeFn (gW:Nat):Value:=.func (.func 41) #[.pointer (some ⟨gW,0,none⟩)] #[]
attribute [local go_sem] zacZ
end
section
theorem Cover.two' {l:List NodeD} {f:Nat} {a b:Int} {s e:Nat} (h:Cover l f [a,b] s e):∃ m k:Nat,a=m∧b=k∧e=k+1∧m+1≤k∧firstF l f m=some s∧firstF l f k=some (m+1):=by
 obtain ⟨m,h1,h2,h3,h4,h5,h6⟩:=h.two
 have:=zaaY h6
 exact ⟨m,e - 1,h1,by omega,by omega,by omega,h5,h6⟩
attribute [local go_sem] zacZ
end
section
structure WrCtx (w0:World) (S:ProgS) (sA:Option Addr) (sl:List Int):Prop where
 prog:ProgV w0 S
 ok:ProgOk S.p
 syn:SynOk S.p
 slots:SlAt w0 sA 1 intS sl
 len:sl.length=S.p.nodes.length
attribute [local go_sem] zacZ
end
section
theorem slots_len {p:ProgD} (h:(studyF p).err=0):(studyF p).slots.length=p.nodes.length:=by
 obtain ⟨h1,h2,_⟩:=zcgY h;rw [h2];exact (h1.step _ (Nat.le_refl _)).1
def StartP (S:ProgS) (w:World) (e0:Int) (r:Ending) (w':World):Prop :=
 ((studyF S.p).err≠0∧r=.returned (.tuple #[.pointer none,.int .i64 (studyF S.p).err])∧Below w.heap.size w w') ∨
 ((studyF S.p).err=0∧∃ w0 sA sc gW,Below w.heap.size w w0∧WrCtx w0 S sA (studyF S.p).slots∧WrSt w0 w' S sA (studyF S.p).slots.length sc gW e0 []∧r=.returned (.tuple #[.pointer (some ⟨gW,0,none⟩),.int .i64 0]))
attribute [local go_sem] zacZ
set_option maxHeartbeats 4000000 in
theorem start_s (S:ProgS) (e0:Int) (w:World) (hS:ProgV w S) (hp:Pow w) (hok:ProgOk S.p):Calls prog 26 #[S.val,.int .i64 e0] w (StartP S w e0):=by
 obtain ⟨P,hP⟩:∃ P:Ending→World→Prop,StartP S w e0=P:=⟨_,rfl⟩
 rw [hP];have HP1:Hid (∀ w',(studyF S.p).err≠0→Below w.heap.size w w'→P (.returned (.tuple #[.pointer none,.int .i64 (studyF S.p).err])) w'):=hZz (fun w' h h2=>by rw [← hP];exact .inl ⟨h,rfl,h2⟩);have HP2:Hid (∀ w0 w' sA sc gW,(studyF S.p).err=0→Below w.heap.size w w0→WrCtx w0 S sA (studyF S.p).slots→WrSt w0 w' S sA (studyF S.p).slots.length sc gW e0 []→P (.returned (.tuple #[.pointer (some ⟨gW,0,none⟩),.int .i64 0])) w'):=hZz (fun w0 w' sA sc gW h h2 h3 h4=>by rw [← hP];exact .inr ⟨h,w0,sA,sc,gW,h2,h3,h4,rfl⟩);have HS:=hZz hS;have HOK:=hZz hok;obtain ⟨W1,hW1⟩:∃ W,w.alloc (.cells #[.slice S.A S.p.nodes.length S.ncap,.slice S.B S.p.funcs.length S.fcap] 25)=W:=⟨_,rfl⟩
 obtain ⟨g,hg⟩:∃ g,w.heap.size=g:=⟨_,rfl⟩
 have hb1:Below w.heap.size w W1:=by rw [← hW1];exact zabZ _ _
 have HB1:=hZz hb1;have HX1:Hid (Blk W1 g 25 #[.slice S.A S.p.nodes.length S.ncap,.slice S.B S.p.funcs.length S.fcap]):=hZz (by rw [← hW1,← hg];exact Blk.new _ _ _);have HC:Hid (Calls prog 40 #[S.val] W1 (SlotsP S.p W1)):=hZz (slots_s S W1 (hS.below hb1) (hp.below hb1) hok);unfold ProgS.val at HC ⊢;have HG:=hZz hg;have HW1:=hZz hW1;clear hP hS hp hok hg hW1 hb1;go_enter func26,ntmps26
 go_upto_region 1 with fail
 rw [HG.out,HW1.out];clear HG HW1;have x1:=blk2 HX1.out
 go_upto_region 2 with (first
  | (go_at_call 40;(with_reducible refine HC.out.mono ?_);rintro e w2 ⟨hq,hb2⟩;have HB12:=hZz hb2;have HB2:=hZz (zaaZ hb2 HB1.out HB1.out.size);clear hb2;rcases hq with ⟨h0,rfl⟩ | ⟨h0,A,c,rfl,h1⟩))
 ·have H0:=hZz h0
  obtain ⟨er,her⟩:∃ x,(studyF S.p).err=x:=⟨_,rfl⟩
  rw [her] at h0 HP1 ⊢;have e0:(er != 0)=true:=by simp [h0]
  have HER:=hZz her;clear h0 her;go_wp2_with (fail)
  exact HP1.out _ (by rw [← HER.out];exact H0.out) HB2.out
 ·have H0:=hZz h0
  have H1:=hZz h1;have HX2:=hZz (HX1.out.below HB12.out);obtain ⟨sn,hsn⟩:∃ n,(studyF S.p).slots.length=n:=⟨_,rfl⟩
  have HSN:=hZz hsn;rw [hsn] at HP2 ⊢;clear h0 h1 x1 hsn;have x2:=blk2 HX2.out;go_wp2_with (fail)
  refine HP2.out w2 _ A c _ H0.out HB2.out ⟨HS.out.below HB2.out,HOK.out,(zcgY H0.out).1,H1.out,slots_len H0.out⟩ ?_
  have hlt:w2.heap.size≤w2.heap.size:=Nat.le_refl _;refine ⟨⟨.slice none 0 0,Blk.new _ _ _,⟨rfl,.inl ⟨rfl,rfl⟩⟩⟩,fun p hp=>absurd hp (by simp),zabZ _ _,Nat.le_refl _⟩
end
section
theorem zahY {w:World} {a b n size:Nat} {v:Value} {xs:List Value} {e:TypeId} (h:w.ownsRow b e size v n xs) (hab:a≤b):w.ownsRow a e size v n xs:=by
 obtain ⟨h1,h2⟩:=h;refine ⟨h1,h2.imp id (fun ⟨g,cap,cur,ev,eg,r⟩=>⟨g,cap,cur,ev,Nat.le_trans hab eg,r⟩)⟩
def InsO (n0:Nat) (w:World) (v:Value) (is:List InsD):Prop:=∃ N:List (InsD × Value),N.map Prod.fst=is∧w.ownsRow n0 53 4 v N.length (N.flatMap insRow)∧∀ p∈N,OKeys n0 w p
theorem WrSt.insO {w0 w:World} {S:ProgS} {sA:Option Addr} {sn sc gW a:Nat} {e0:Int} {L:List (InsD × Value)} (h:WrSt w0 w S sA sn sc gW e0 L) (ha:a≤w0.heap.size):∃ iA ic,Blk w gW 67 #[.slice S.A S.p.nodes.length S.ncap,.slice S.B S.p.funcs.length S.fcap,.slice sA sn sc,.int .i64 e0,.slice iA L.length ic]∧InsO a w (.slice iA L.length ic) (L.map Prod.fst):=by
 obtain ⟨⟨iv,h1,h2⟩,h3,_,_⟩:=h;obtain ⟨iA,ic,rfl⟩:=zahZ h2;exact ⟨iA,ic,h1,L,rfl,zahY h2 ha,fun p hp=>zahY (h3 p hp) ha⟩
attribute [local go_sem] zacZ
end
section
attribute [local go_sem] zacZ
set_option maxHeartbeats 4000000 in
theorem strings8_s (l:List ByteArray) (A B:Option Addr) (c d:Nat) (w:World) (hA:SlAt w A 1 strCs l) (hB:SlAt w B 1 strCs l) (hl:l.length≤100000):Calls prog 37 #[.slice A l.length c,.slice B l.length d] w fun e w'=>e=.returned (.bool true)∧∃ q,w'=w.drewN q:=by
 obtain ⟨P,hP⟩:∃ P:Ending→World→Prop,(fun e w'=>e=.returned (.bool true)∧∃ q,w'=w.drewN q)=P:=⟨_,rfl⟩
 rw [hP];have HP:Hid (∀ q,P (.returned (.bool true)) (w.drewN q)):=hZz (fun q=>by rw [← hP];exact ⟨rfl,q,rfl⟩);have HA:=hZz hA;have HB:=hZz hB;obtain ⟨n,hn⟩:∃ n,l.length=n:=⟨_,rfl⟩
 have HN:=hZz hn;rw [hn] at hl ⊢;have hnn:((n:Int) != (n:Int))=false:=by simp
 clear hP hA hB hn;go_enter func37,ntmps37
 go_wp2_with (fail)
 clear hnn;go_loopw [5] (fun kv wr=>∃ k q:Nat,k≤n∧kv=.int .i64 k∧wr=w.drewN q) (fun kv _=>n - (intOf kv).toNat)
 case atStart=>exact ⟨0,0,Nat.zero_le _,rfl,rfl⟩
 case round =>
  obtain ⟨k,q,hk,rfl,rfl⟩:=hrel;have hk0:(0:Int)≤(k:Int):=by omega
  by_cases hlt:k<n
  ·have hlt':(k:Int)<(n:Int):=by omega
   have hkl:k<l.length:=by rw [HN.out];exact hlt
   obtain ⟨b1,o1,rfl,_⟩:=HA.out.ptr hkl;obtain ⟨b2,o2,rfl,_⟩:=HB.out.ptr hkl;have c0:=HA.out.cell0 hkl (v:=.string l[k]) rfl;have d0:=HB.out.cell0 hkl (v:=.string l[k]) rfl;rw [Nat.mul_one] at c0 d0;obtain ⟨x,hx⟩:∃ x,l[k]=x:=⟨_,rfl⟩
   rw [hx] at c0 d0;have hxx:(x.toList != x.toList)=false:=by simp
   clear hx hkl;go_wp2_with (fail)
   go_quiet (fail);go_wp2_with (fail)
   refine ⟨⟨k+1,_,by omega,by simp,(by first | rfl | exact World.drewN_drewN _ _ _)⟩,by simp [intOf];omega⟩
  ·have e9:k=n:=by omega
   subst e9;go_wp2_with (fail)
   first | exact HP.out _ | (rw [show w.drewN q=w.drewN q from rfl];exact HP.out _)
end
section
attribute [local go_sem] zacZ
set_option maxHeartbeats 16000000 in
theorem same8_s (p:ProgD) (A1 B1 A2 B2:Option Addr) (n1 f1 n2 f2:Nat) (w:World) (hN1:NodesV w (.slice A1 p.nodes.length n1) p.nodes) (hF1:FuncsV w (.slice B1 p.funcs.length f1) p.funcs) (hN2:NodesV w (.slice A2 p.nodes.length n2) p.nodes) (hF2:FuncsV w (.slice B2 p.funcs.length f2) p.funcs) (hok:ProgOk p) :
  Calls prog 17 #[.agg #[.slice A1 p.nodes.length n1,.slice B1 p.funcs.length f1],.agg #[.slice A2 p.nodes.length n2,.slice B2 p.funcs.length f2]] w fun e w'=>e=.returned (.bool true)∧Below w.heap.size w w':=by
 obtain ⟨P,hP⟩:∃ P:Ending→World→Prop,(fun e w'=>e=.returned (.bool true)∧Below w.heap.size w w')=P:=⟨_,rfl⟩
 rw [hP];have HP:Hid (∀ w',Below w.heap.size w w'→P (.returned (.bool true)) w'):=hZz (fun w' h2=>by rw [← hP];exact ⟨rfl,h2⟩);have HN1:=hZz hN1;have HN2:=hZz hN2;have HF1:=hZz hF1;have HF2:=hZz hF2;have HOK:=hZz hok;have hnn:p.nodes.length≤1000:=hok.nodes.len;have hff:p.funcs.length≤1000:=hok.funcs;obtain ⟨nn,hn⟩:∃ n,p.nodes.length=n:=⟨_,rfl⟩
 obtain ⟨nf,hf⟩:∃ n,p.funcs.length=n:=⟨_,rfl⟩
 have HNN:=hZz hn;have HNF:=hZz hf;rw [hn] at hnn;rw [hf] at hff;rw [hn,hf];obtain ⟨g1,hg1⟩:∃ g,w.heap.size=g:=⟨_,rfl⟩
 obtain ⟨W1,hW1⟩:∃ W,w.alloc (.cells #[.slice A1 nn n1,.slice B1 nf f1] 25)=W:=⟨_,rfl⟩
 obtain ⟨g2,hg2⟩:∃ g,W1.heap.size=g:=⟨_,rfl⟩
 obtain ⟨W2,hW2⟩:∃ W,W1.alloc (.cells #[.slice A2 nn n2,.slice B2 nf f2] 25)=W:=⟨_,rfl⟩
 have hb2:Below w.heap.size w W2:=by rw [← hW2,← hW1];exact zaxY _ _ _
 have HB2:=hZz hb2;have hx1:Blk W1 g1 25 #[.slice A1 nn n1,.slice B1 nf f1]:=by rw [← hW1,← hg1];exact Blk.new _ _ _
 have HX1:Hid (Blk W2 g1 25 #[.slice A1 nn n1,.slice B1 nf f1]):=hZz (by rw [← hW2];exact hx1.alloc _);have HX2:Hid (Blk W2 g2 25 #[.slice A2 nn n2,.slice B2 nf f2]):=hZz (by rw [← hW2,← hg2];exact Blk.new _ _ _);have HG1:=hZz hg1;have HG2:=hZz hg2;have HW1:=hZz hW1;have HW2:=hZz hW2;have HGG:Hid (g1+1=g2):=hZz (by rw [← hg2,← hW1,← hg1];simp);have e1:((nn:Int) != (nn:Int))=false:=by simp
 have e2:((nf:Int) != (nf:Int))=false:=by simp
 clear hP hN1 hN2 hF1 hF2 hok hn hf hg1 hg2 hW1 hW2 hb2 hx1;go_enter func17,ntmps17
 go_upto_region 1 with fail
 rw [HG1.out,HW1.out]
 try rw [HGG.out]
 rw [HW2.out];clear HG1 HG2 HW1 HW2 HGG;have x1:=blk2 HX1.out;have x2:=blk2 HX2.out;go_upto_region 4 with (fail)
 try go_wp2_with (fail)
 clear x1 x2;go_loopw [5,6,7,8] (fun kv _ _ _ wr=>∃ k:Nat,k≤nn∧kv=.int .i64 k∧Hid (Below W2.heap.size W2 wr)) (fun kv _ _ _ _=>nn - (intOf kv).toNat)
 case atStart=>exact ⟨0,Nat.zero_le _,rfl,hZz (Below.refl _ _)⟩
 case round =>
  obtain ⟨k,hk,rfl,HBr⟩:=hrel;have hk0:(0:Int)≤(k:Int):=by omega
  have HBw:Hid (Below w.heap.size w wr):=hZz (zaaZ HBr.out HB2.out HB2.out.size);by_cases hlt:k<nn
  ·have hlt':(k:Int)<(nn:Int):=by omega
   have hkl:k<p.nodes.length:=by rw [HNN.out];exact hlt
   obtain ⟨b1,o1,kA,kc,iA,ic,rfl,_,c0,c1,c2,c3,c4,hk1,hi1⟩:=zalY (zaeY zajY _ _ _ _ HN1.out HBw.out) hkl;obtain ⟨b2,o2,kB,kd,iB,id,rfl,_,d0,d1,d2,d3,d4,hk2,hi2⟩:=zalY (zaeY zajY _ _ _ _ HN2.out HBw.out) hkl;have hkk:=HOK.out.nodes.kids _ (List.getElem_mem hkl);obtain ⟨nk,hnk⟩:∃ x,(p.nodes[k]).kind=x:=⟨_,rfl⟩
   obtain ⟨nt,hnt⟩:∃ x,(p.nodes[k]).text=x:=⟨_,rfl⟩
   obtain ⟨ni,hni⟩:∃ x,(p.nodes[k]).int=x:=⟨_,rfl⟩
   obtain ⟨ks,hks⟩:∃ x,(p.nodes[k]).keys=x:=⟨_,rfl⟩
   obtain ⟨is,his⟩:∃ x,(p.nodes[k]).kids=x:=⟨_,rfl⟩
   rw [hnk] at c0 d0;rw [hnt] at c1 d1;rw [hni] at c2 d2;rw [hks] at c3 d3 hk1 hk2 hkk;rw [his] at c4 d4 hi1 hi2 hkk;obtain ⟨kn,hkn⟩:∃ x,ks.length=x:=⟨_,rfl⟩
   obtain ⟨im,him⟩:∃ x,is.length=x:=⟨_,rfl⟩
   have hkn':=hkk.2;have him':=hkk.1;rw [hkn] at c3 d3 hkn';rw [him] at c4 d4 him';obtain ⟨_,_,q1,_,hs1⟩:=hk1;injection q1 with q1 _ r1
   subst q1 r1;obtain ⟨_,_,q2,_,hs2⟩:=hk2;injection q2 with q2 _ r2
   subst q2 r2;obtain ⟨_,_,q3,_,ht1⟩:=hi1.at;injection q3 with q3 _ r3
   subst q3 r3;obtain ⟨_,_,q4,_,ht2⟩:=hi2.at;injection q4 with q4 _ r4
   subst q4 r4;obtain ⟨ga,hga⟩:∃ g,wr.heap.size=g:=⟨_,rfl⟩
   obtain ⟨V1,hV1⟩:∃ W,wr.alloc (.cells #[.int .i64 nk,.string nt,.int .i64 ni,.slice kA kn kc,.slice iA im ic] 58)=W:=⟨_,rfl⟩
   obtain ⟨gb,hgb⟩:∃ g,V1.heap.size=g:=⟨_,rfl⟩
   obtain ⟨V2,hV2⟩:∃ W,V1.alloc (.cells #[.int .i64 nk,.string nt,.int .i64 ni,.slice kB kn kd,.slice iB im id] 58)=W:=⟨_,rfl⟩
   have hv1:Below wr.heap.size wr V1:=by rw [← hV1];exact zabZ _ _
   have hv2:Below wr.heap.size wr V2:=by rw [← hV2,← hV1];exact zaxY _ _ _
   have HV1:=hZz hv1;have HV2:=hZz hv2;have hy1:Blk V1 ga 58 #[.int .i64 nk,.string nt,.int .i64 ni,.slice kA kn kc,.slice iA im ic]:=by rw [← hV1,← hga];exact Blk.new _ _ _
   have HY1:Hid (Blk V2 ga 58 #[.int .i64 nk,.string nt,.int .i64 ni,.slice kA kn kc,.slice iA im ic]):=hZz (by rw [← hV2];exact hy1.alloc _);have HY2:Hid (Blk V2 gb 58 #[.int .i64 nk,.string nt,.int .i64 ni,.slice kB kn kd,.slice iB im id]):=hZz (by rw [← hV2,← hgb];exact Blk.new _ _ _);have HS:=hZz (strings8_s ks kA kB kc kd V2 (hs1.below hv2) (hs2.below hv2) (by omega));rw [hkn] at HS;have HT1:=hZz (ht1.below hv2);have HT2:=hZz (ht2.below hv2);have HIM:=hZz him;have HGA:=hZz hga;have HGB:=hZz hgb;have HVV1:=hZz hV1;have HVV2:=hZz hV2;have HGG:Hid (ga+1=gb):=hZz (by rw [← hgb,← hV1,← hga];simp);have HDR:Hid (∃ d:Unit,V1.cell? ⟨b2,o2+k * 5,none⟩=some (.int .i64 nk)∧V1.cell? ⟨b2,o2+k * 5+1,none⟩=some (.string nt)∧V1.cell? ⟨b2,o2+k * 5+2,none⟩=some (.int .i64 ni)∧V1.cell? ⟨b2,o2+k * 5+3,none⟩=some (.slice kB kn kd)∧V1.cell? ⟨b2,o2+k * 5+4,none⟩=some (.slice iB im id)):=hZz ⟨(),(hv1.cell (bLZ d0)).trans d0,(hv1.cell (bLZ d1)).trans d1,(hv1.cell (bLZ d2)).trans d2,(hv1.cell (bLZ d3)).trans d3,(hv1.cell (bLZ d4)).trans d4⟩;have x1:=blk2 (HX1.out.below HBr.out);clear hnk hnt hni hks his hkn him hkk hga hgb hV1 hV2 hv1 hv2 hy1 hs1 hs2 ht1 ht2 hi1 hi2 d0 d1 d2 d3 d4 hkl;go_upto_region 7 with (fail)
   rw [HGA.out,HVV1.out];clear x1 c0 c1 c2 c3 c4;obtain ⟨_,d0,d1,d2,d3,d4⟩:=HDR.out;have x2:=blk2 (HX2.out.below (zaaZ HV1.out HBr.out HBr.out.size));go_upto_region 8 with (fail)
   rw [HGB.out,HVV2.out];clear x2 d0 d1 d2 d3 d4;have y1:=zalZ HY1.out;have y2:=zalZ HY2.out;have m1:(nk != nk)=false:=by simp
   have m2:(nt.toList != nt.toList)=false:=by simp
   have m3:(ni != ni)=false:=by simp
   have m4:((im:Int) != (im:Int))=false:=by simp
   go_upto_region 10 with (first
    | (go_at_call 37;((with_reducible refine HS.out.mono ?_);rintro r w3 ⟨rfl,q3,hq3⟩;have HB3:Hid (Below V2.heap.size V2 w3):=hZz (by rw [hq3];exact zaiZ (Below.refl _ _) _);have z1:=zalZ (HY1.out.below HB3.out);have z2:=zalZ (HY2.out.below HB3.out);clear hq3)))
   try go_wp2_with (fail)
   clear y1 y2 z1 z2 m1 m2 m3 m4;go_loopw [8] (fun jv wr2=>∃ j:Nat,j≤im∧jv=.int .i64 j∧Hid (Below V2.heap.size V2 wr2)) (fun jv _=>im - (intOf jv).toNat)
   case atStart=>exact ⟨0,Nat.zero_le _,rfl,HB3⟩
   case round =>
    obtain ⟨j,hj,rfl,HBj⟩:=hrel;have hj0:(0:Int)≤(j:Int):=by omega
    have y1:=zalZ (HY1.out.below HBj.out);have y2:=zalZ (HY2.out.below HBj.out);by_cases hjt:j<im
    ·have hjt':(j:Int)<(im:Int):=by omega
     have hjl:j<is.length:=by rw [HIM.out];exact hjt
     have t1:=HT1.out.below HBj.out;have t2:=HT2.out.below HBj.out;obtain ⟨ba,oa,rfl,_⟩:=t1.ptr hjl;obtain ⟨bb,ob,rfl,_⟩:=t2.ptr hjl;have c0:=t1.cell0 hjl (v:=.int .i64 is[j]) rfl;have d0:=t2.cell0 hjl (v:=.int .i64 is[j]) rfl;rw [Nat.mul_one] at c0 d0;obtain ⟨x,hx⟩:∃ x,is[j]=x:=⟨_,rfl⟩
     rw [hx] at c0 d0;have hxx:(x != x)=false:=by simp
     clear hx hjl t1 t2;go_wp2_with (fail)
     go_quiet (fail);go_wp2_with (fail)
     exact ⟨⟨j+1,by omega,by simp,hZz (by first | exact HBj.out.drew | exact zaiZ HBj.out _ | exact HBj.out)⟩,by simp [intOf];omega⟩
    ·have e9:j=im:=by omega
     subst e9;go_wp2_with (fail)
     exact ⟨⟨k+1,by omega,by simp,hZz (zaaZ (zaaZ HBj.out HV2.out HV2.out.size) HBr.out HBr.out.size)⟩,by simp [intOf];omega⟩
  ·have e9:k=nn:=by omega
   subst e9;have x1:=blk2 (HX1.out.below HBr.out);go_upto_region 16 with (fail)
   try go_wp2_with (fail)
   clear x1;go_loopw [9] (fun kv wr=>∃ k:Nat,k≤nf∧kv=.int .i64 k∧Hid (Below W2.heap.size W2 wr)) (fun kv _=>nf - (intOf kv).toNat)
   case atStart=>exact ⟨0,Nat.zero_le _,rfl,HBr⟩
   case round =>
    obtain ⟨k,hk,rfl,HBf⟩:=hrel;have hk0:(0:Int)≤(k:Int):=by omega
    have HBw:=hZz (zaaZ HBf.out HB2.out HB2.out.size);have x1:=blk2 (HX1.out.below HBf.out);have x2:=blk2 (HX2.out.below HBf.out);by_cases hlt:k<nf
    ·have hlt':(k:Int)<(nf:Int):=by omega
     have hkl:k<p.funcs.length:=by rw [HNF.out];exact hlt
     obtain ⟨b1,o1,kA,kc,rfl,_,c0,c1,c2,hk1⟩:=zamY (zaeY zb3Y _ _ _ _ HF1.out HBw.out) hkl;obtain ⟨b2,o2,kB,kd,rfl,_,d0,d1,d2,hk2⟩:=zamY (zaeY zb3Y _ _ _ _ HF2.out HBw.out) hkl;have hkk:=(HOK.out.fn _ (List.getElem_mem hkl)).2.1;obtain ⟨nm,hnm⟩:∃ x,(p.funcs[k]).name=x:=⟨_,rfl⟩
     obtain ⟨bo,hbo⟩:∃ x,(p.funcs[k]).body=x:=⟨_,rfl⟩
     obtain ⟨ps,hps⟩:∃ x,(p.funcs[k]).params=x:=⟨_,rfl⟩
     rw [hnm] at c0 d0;rw [hbo] at c2 d2;rw [hps] at c1 d1 hk1 hk2 hkk;obtain ⟨_,_,q1,_,hs1⟩:=hk1;injection q1 with q1 _ r1
     subst q1 r1;obtain ⟨_,_,q2,_,hs2⟩:=hk2;injection q2 with q2 _ r2
     subst q2 r2;obtain ⟨pn,hpn⟩:∃ x,ps.length=x:=⟨_,rfl⟩
     rw [hpn] at c1 d1 hkk
     have HS:Hid (Calls prog 37 #[.slice kA pn kc,.slice kB pn kd] wr.drew fun e w'=>e=.returned (.bool true)∧∃ q',w'=wr.drew.drewN q'):=hZz (by
      have:=strings8_s ps kA kB kc kd wr.drew hs1.drew hs2.drew (by omega)
      rw [hpn] at this;exact this)
     have m1:(nm.toList != nm.toList)=false:=by simp
     have m2:(bo != bo)=false:=by simp
     clear hnm hbo hps hpn hkk hs1 hs2 hkl;go_upto_region 18 with (fail)
     go_still_tail 41,(by kernel_rfl)
     change wpList _ _ _ _ _ wr.drew
     clear x1 x2 c0 c1 c2 d0 d1 d2
     go_wp2_with (first
      | (go_at_call 37;((refine HS.out.mono ?_);rintro e w3 ⟨rfl,q,hq3⟩;have HB3:Hid (Below W2.heap.size W2 w3):=hZz (by rw [hq3];exact zaiZ HBf.out.drew _);clear hq3)))
     exact ⟨⟨k+1,by omega,by simp,HB3⟩,by simp [intOf];omega⟩
    ·have e9:k=nf:=by omega
     subst e9;go_wp2_with (fail)
     exact HP.out _ HBw.out
end
section
structure TextsOk (p:ProgD):Prop where
 node:∀ n∈p.nodes,n.text.size≤140737488351232∧∀ k∈n.keys,k.size≤140737488351232
 fn:∀ f∈p.funcs,f.name.size≤140737488351232∧∀ s∈f.params,s.size≤140737488351232
theorem SmallPr.ok {p:ProgD} (h:SmallPr p) (ht:TextsOk p):ProgOk p:=by
 refine ⟨⟨by have:=h.nodes;omega,fun n hn=>?_,ht.node⟩,by have:=h.funcs;omega,fun f hf=>?_⟩
 ·obtain ⟨i,hi,rfl⟩:=List.getElem_of_mem hn
  have:=h.node i hi
  omega
 ·obtain ⟨i,hi,rfl⟩:=List.getElem_of_mem hf
  have:=h.fn i hi
  exact ⟨(ht.fn _ hf).1,by omega,(ht.fn _ hf).2⟩
attribute [local go_sem] zacZ
end
structure KC (n0 gC:Nat) (w w':World):Prop where
 os:w'.os=w.os
 tape:w'.tape=w.tape
 output:w'.output=w.output
 size:w.heap.size≤w'.heap.size
 low:∀ j,j<n0→w'.heap[j]? = w.heap[j]?
 typ:∀ (g:Nat) (o:Obj),w.heap[g]? = some o→g≠gC→(∀ cs fr,o≠Obj.cells cs 50 fr)→w'.heap[g]? = some o
theorem KC.blk {n0 gC g:Nat} {t:TypeId} {cs:Array Value} {w w':World} (h:KC n0 gC w w') (hB:Blk w g t cs) (hg:g≠gC) (ht:t≠50):Blk w' g t cs :=
 h.typ g _ hB hg (fun cs' fr e=>by injection e with _ e _;exact ht e)
theorem KC.own {n0 gC base n size:Nat} {v:Value} {xs:List Value} {e t:TypeId} {cs:Array Value} {w w':World} (h:KC n0 gC w w') (hC:Blk w gC t cs) (het:t≠e) (he:e≠50) (ho:w.ownsRow base e size v n xs):w'.ownsRow base e size v n xs:=by
 obtain ⟨e1,e2⟩:=ho;refine ⟨e1,e2.imp id (fun ⟨g,cap,cur,ev,eg,eh,e4⟩=>⟨g,cap,cur,ev,eg,?_,e4⟩)⟩
 refine h.typ g _ eh (fun e9=>?_) (fun cs' fr e9=>by injection e9 with _ e9 _;exact he e9)
 subst e9;unfold Blk at hC;rw [hC] at eh;injection eh with eh
 injection eh with _ e9 _
 exact het e9
theorem WrSt.kc {w0 w w':World} {S:ProgS} {sA:Option Addr} {sn sc gW gC:Nat} {e0:Int} {L:List (InsD × Value)} {cs:Array Value} (h:WrSt w0 w S sA sn sc gW e0 L) (hk:KC w0.heap.size gC w w') (hC:Blk w gC 31 cs) (hne:gW≠gC):WrSt w0 w' S sA sn sc gW e0 L:=by
 obtain ⟨⟨iv,h1,h2⟩,h3,h4,h5⟩:=h;refine ⟨⟨iv,hk.blk h1 hne (by decide),hk.own hC (by decide) (by decide) h2⟩,fun p hp=>hk.own hC (by decide) (by decide) (h3 p hp),?_,h5⟩
 exact ⟨hk.os.trans h4.os,hk.tape.trans h4.tape,hk.output.trans h4.output,Nat.le_trans h4.size hk.size,fun j hj=>(hk.low j hj).trans (h4.block j hj)⟩
theorem KC.refl (n0 gC:Nat) (w:World):KC n0 gC w w:=⟨rfl,rfl,rfl,Nat.le_refl _,fun _ _=>rfl,fun _ _ h _ _=>h⟩
theorem KC.trans {n0 gC:Nat} {a b c:World} (h:KC n0 gC a b) (k:KC n0 gC b c):KC n0 gC a c :=
 ⟨k.os.trans h.os,k.tape.trans h.tape,k.output.trans h.output,Nat.le_trans h.size k.size,fun j hj=>(k.low j hj).trans (h.low j hj),fun g o h1 h2 h3=>k.typ g o (h.typ g o h1 h2 h3) h2 h3⟩
theorem KC.setC {n0 gC:Nat} {a b:World} (h:KC n0 gC a b) (hn:n0≤gC) (i:Nat) (u:Value):KC n0 gC a (b.setCell ⟨gC,i,none⟩ u) :=
 h.trans ⟨rfl,rfl,rfl,by simp,fun j hj=>Below.heap_setCell b _ u j (by show j≠gC;omega),fun g o h1 h2 _=>(Below.heap_setCell b _ u g h2).trans h1⟩
theorem KC.grown {n0 gC base n:Nat} {v:Value} {xs:List Value} {a b c:World} (h:KC n0 gC a b) (ho:b.ownsRow base 50 5 v n xs) (hn:n0≤base) (hs:n0≤b.heap.size) (hg:b.grownBy c v.ownBlock):KC n0 gC a c:=by
 refine h.trans ⟨hg.os,hg.tape,hg.output,hg.size,fun j hj=>?_,fun q o h1 h2 h3=>?_⟩
 ·exact hg.block j (by omega) (fun e=>by have:=(ho.lt j e.symm).1;omega)
 ·refine (hg.block q (lt_of_block h1) (fun e=>?_)).trans h1
  obtain ⟨_,h4⟩:=ho;rcases h4 with ⟨rfl,_⟩ | ⟨g',cap',cur,rfl,eb,eh,_⟩
  ·cases e
  ·injection e with e
   subst e;rw [eh] at h1;injection h1 with h1
   exact h3 _ _ h1.symm
end Go.Proofs.YthiimbhjpdphpaaGreatDoor
