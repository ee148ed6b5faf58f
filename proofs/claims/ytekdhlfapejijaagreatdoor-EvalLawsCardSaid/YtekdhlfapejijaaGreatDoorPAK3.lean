/- AK0, AK2, AK3 -/
import Derived.Test.YtekdhlfapejijaaGreatDoorPXS
import Derived.Test.YtekdhlfapejijaaGreatDoorPH21
import Derived.Test.YtekdhlfapejijaaGreatDoorPEL
set_option linter.unusedVariables false
set_option linter.unusedSimpArgs false
namespace Go.Proofs.YtekdhlfapejijaaGreatDoor
section
open Go.RowKit
set_option maxRecDepth 100000
def okA:Option OutD × Int→Bool
 | (some o,e)=>decide (e=0) && (!o.done) && decide (o.requests=[⟨ "get".toUTF8,[[sCel "k".toUTF8]]⟩])
 | _=>false
def okB:Option OutD × Int→Bool
 | (some o,e)=>decide (e=0) && o.done && decide (o.err=0) && decide (o.value=[iCel 5])
 | _=>false
theorem run10a:okA (runE P10 [iCel 0] [] 100)=true:=by decide +kernel
theorem run10b:okB (runE P10 [iCel 0] [⟨0,[iCel 4]⟩] 100)=true:=by decide +kernel
theorem okA_of {r:Option OutD × Int} (h:okA r=true) {o:OutD} (ho:r.1=some o):r.2=0∧o.done=false∧o.requests=[⟨ "get".toUTF8,[[sCel "k".toUTF8]]⟩]:=by
 obtain ⟨r1,e⟩:=r
 subst ho
 simpa [okA,and_assoc] using h
theorem okB_of {r:Option OutD × Int} (h:okB r=true) {o:OutD} (ho:r.1=some o):r.2=0∧o.done=true∧o.err=0∧o.value=[iCel 5]:=by
 obtain ⟨r1,e⟩:=r
 subst ho
 simpa [okB,and_assoc] using h
theorem smallB_ok {l:ValD} (h:smallB l=true):l.length≤300∧∀ c∈l,c.str.size≤5000:=by
 unfold smallB at h
 simp only [Bool.and_eq_true,decide_eq_true_eq,List.all_eq_true] at h
 exact h
def IntOk (c:CellD):Prop:=(-9223372036854775808≤c.int∧c.int≤9223372036854775807)∧c.n≤9223372036854775807
theorem okV_small {l:ValD} (h:smallB l=true) (hi:∀ c∈l,IntOk c):OkV l:=by
 obtain ⟨h1,h2⟩:=smallB_ok h
 exact ⟨by omega,fun c hc=>⟨by have:=h2 c hc;omega,(hi c hc).1,(hi c hc).2⟩⟩
attribute [local go_sem] cell_alloc_is
set_option maxHeartbeats 4000000 in
theorem integer_h (n:Int) (w:World):Calls Tryz.prog 28 #[.int .i64 n] w fun e w'=>∃ g,e=.returned (.slice (some ⟨g,0,none⟩) 1 1)∧ValV w' (.slice (some ⟨g,0,none⟩) 1 1) [iCel n]∧Below w.heap.size w w':=by
 obtain ⟨P,hP⟩:∃ P:Ending→World→Prop,(fun e w'=>∃ g,e=.returned (.slice (some ⟨g,0,none⟩) 1 1)∧ValV w' (.slice (some ⟨g,0,none⟩) 1 1) [iCel n]∧Below w.heap.size w w')=P:=⟨_,rfl⟩
 rw [hP]
 have HP:=Lib.hid hP
 clear hP
 go_enter Tryz.func28,Tryz.ntmps28
 go_wp2_with (fail)
 rw [← HP.out]
 first
 | exact ⟨_,rfl,val_blk1 (c:=iCel n) (Blk.new _ _ _),below_new _ _⟩
 | exact ⟨_,rfl,val_blk1 (c:=iCel n) (Blk.second _ _ _ _),below_2 _ _ _⟩
set_option maxHeartbeats 4000000 in
theorem istrue_h (l:ValD) (v:Value) (w:World) (h:ValV w v l):Calls Tryz.prog 20 #[v] w fun e w'=>e=.returned (.bool (isTrueB l))∧Below w.heap.size w w':=by
 obtain ⟨A,cap,rfl,hc,hm,hs⟩:=h.at
 obtain ⟨P,hP⟩:∃ P:Ending→World→Prop,(fun e w'=>e=.returned (.bool (isTrueB l))∧Below w.heap.size w w')=P:=⟨_,rfl⟩
 rw [hP]
 have HP:=Lib.hid hP
 have HR:=Lib.hid (Below.refl w.heap.size w)
 clear hP h
 match l,hs,hc,hm,HP with
 | [],hs,hc,hm,HP =>
  clear hs hc hm
  simp only [List.length_nil]
  go_enter Tryz.func20,Tryz.ntmps20
  go_wp2_with (fail)
  rw [← HP.out]
  exact ⟨rfl,HR.out⟩
 | [⟨k,i,s,n⟩],hs,hc,hm,HP =>
  obtain ⟨b,off,rfl,_⟩:=hs.ptr (n:=0) (by simp)
  have c0:=hs.cell0 (n:=0) (by simp) (v:=.int .i64 k) rfl
  have c1:=hs.cell (n:=0) (by simp) (j:=1) (v:=.int .i64 i) rfl
  simp only [Nat.zero_mul,Nat.add_zero] at c0 c1
  clear hs hc hm
  simp only [List.length_cons,List.length_nil,Nat.zero_add]
  by_cases hk:k=2
  ·subst hk
   by_cases hi:i=1
   ·subst hi
    go_enter Tryz.func20,Tryz.ntmps20
    go_wp2_with (fail)
    rw [← HP.out]
    exact ⟨rfl,HR.out⟩
   ·have hi':(i == 1)=false:=by simpa using hi
    have HI:=Lib.hid hi
    clear hi
    go_enter Tryz.func20,Tryz.ntmps20
    go_wp2_with (fail)
    rw [← HP.out]
    exact ⟨by simp [isTrueB,HI.out],HR.out⟩
  ·have hk':(k == 2)=false:=by simpa using hk
   have HK:=Lib.hid hk
   clear hk
   go_enter Tryz.func20,Tryz.ntmps20
   go_wp2_with (fail)
   rw [← HP.out]
   exact ⟨by simp [isTrueB,HK.out],HR.out⟩
 | x :: y :: r,hs,hc,hm,HP =>
  clear hs hc hm
  have hl:(((x :: y :: r).length:Int) == 1)=false:=by simp;omega
  go_enter Tryz.func20,Tryz.ntmps20
  go_wp2_with (fail)
  rw [← HP.out]
  exact ⟨rfl,HR.out⟩
end
section
open Go.RowKit
set_option maxRecDepth 100000
/-- A cell with a string. -/
def StrAt (w:World) (b off:Nat) (s:ByteArray):Prop:=w.cell? ⟨b,off,none⟩=some (.string s)
theorem StrAt.below {w w':World} {b off:Nat} {s:ByteArray} (h:StrAt w b off s) (hb:Below w.heap.size w w'):StrAt w' b off s:=(hb.cell (World.block_lt_of_cell? w _ h)).trans h
theorem StrAt.ne {w:World} {b off g:Nat} {s:ByteArray} (h:StrAt w b off s) (hB:Blk w g 44 #[.bool false,.int .i64 0,.slice none 0 0,.slice none 0 0]):b≠g:=by
 rintro rfl
 unfold StrAt World.cell? at h
 unfold Blk at hB
 rw [hB] at h
 simp only at h
 match off,h with
 | 0,h=>simp at h
 | 1,h=>simp at h
 | 2,h=>simp at h
 | 3,h=>simp at h
 | n+4,h=>simp at h
theorem StrAt.setRow {w:World} {b off g:Nat} {s:ByteArray} {cs:Array Value} (h:StrAt w b off s) (hB:Blk w g 44 #[.bool false,.int .i64 0,.slice none 0 0,.slice none 0 0]):StrAt (w.setRow g cs) b off s:=by
 have hne:=h.ne hB
 unfold StrAt World.cell? at h ⊢
 rw [setRow_other w g b cs hne]
 exact h
/-- A value of one cell, as its cells. -/
def One (w:World) (b off:Nat) (c:CellD):Prop:=w.cell? ⟨b,off,none⟩=some (.int .i64 c.kind)∧w.cell? ⟨b,off+1,none⟩=some (.int .i64 c.int)∧StrAt w b (off+2) c.str∧w.cell? ⟨b,off+3,none⟩=some (.int .i64 c.n)
theorem One.below {w w':World} {b off:Nat} {c:CellD} (h:One w b off c) (hb:Below w.heap.size w w'):One w' b off c :=
 ⟨(hb.cell (World.block_lt_of_cell? w _ h.1)).trans h.1,(hb.cell (World.block_lt_of_cell? w _ h.2.1)).trans h.2.1,h.2.2.1.below hb,(hb.cell (World.block_lt_of_cell? w _ h.2.2.2)).trans h.2.2.2⟩
theorem One.setRow {w:World} {b off g:Nat} {c:CellD} {cs:Array Value} (h:One w b off c) (hB:Blk w g 44 #[.bool false,.int .i64 0,.slice none 0 0,.slice none 0 0]):One (w.setRow g cs) b off c:=by
 have hne:=h.2.2.1.ne hB
 have e:∀ k,(w.setRow g cs).cell? ⟨b,k,none⟩=w.cell? ⟨b,k,none⟩:=fun k=>by unfold World.cell?;rw [setRow_other w g b cs hne]
 exact ⟨(e _).trans h.1,(e _).trans h.2.1,h.2.2.1.setRow hB,(e _).trans h.2.2.2⟩
theorem One.of {w:World} {A:Option Addr} {n cap:Nat} {c:CellD} (h:ValV w (.slice A n cap) [c]):∃ b off,A=some ⟨b,off,none⟩∧n=1∧1≤cap∧One w b off c:=by
 obtain ⟨A',cap',e,h1,_,hs⟩:=h.at
 injection e with e1 e2 e3
 subst e1 e2 e3
 obtain ⟨b,off,rfl,_⟩:=hs.ptr (n:=0) (by simp)
 have c0:=hs.cell0 (n:=0) (by simp) (v:=.int .i64 c.kind) rfl
 have c1:=hs.cell (n:=0) (by simp) (j:=1) (v:=.int .i64 c.int) rfl
 have c2:=hs.cell (n:=0) (by simp) (j:=2) (v:=.string c.str) rfl
 have c3:=hs.cell (n:=0) (by simp) (j:=3) (v:=.int .i64 c.n) rfl
 simp only [Nat.zero_mul,Nat.add_zero] at c0 c1 c2 c3
 exact ⟨b,off,rfl,rfl,by simpa using h1,c0,c1,c2,c3⟩
theorem One.val {w:World} {b off cap:Nat} {c:CellD} (h:One w b off c) (hc:1≤cap):ValV w (.slice (some ⟨b,off,none⟩) 1 cap) [c]:=by
 refine ⟨_,cap,[c.cells],rfl,by simpa using hc,by simp,?_,rfl,?_⟩
 ·intro i row hi
  have hlt:=World.block_lt_of_cell? w _ h.1
  match i,hi with
  | 0,hi =>
   simp at hi
   subst hi
   refine ⟨b,off,rfl,hlt,fun j v hv=>?_⟩
   match j,hv with
   | 0,hv=>simp [CellD.cells] at hv;subst hv;simpa using h.1
   | 1,hv=>simp [CellD.cells] at hv;subst hv;simpa using h.2.1
   | 2,hv=>simp [CellD.cells] at hv;subst hv;simpa [StrAt] using h.2.2.1
   | 3,hv=>simp [CellD.cells] at hv;subst hv;simpa using h.2.2.2
   | n+4,hv=>simp [CellD.cells] at hv
  | n+1,hi=>simp at hi
 ·intro i hi hi'
  match i,hi,hi' with
  | 0,hi,hi'=>rfl
  | n+1,hi,hi'=>simp at hi
theorem ret1 {w w':World} {r:ResD} {e:Ending} (h:RetR w [] r e w'):∃ A c,e=.returned (.tuple #[.slice A r.1.length c,.int .i64 r.2])∧ValV w' (.slice A r.1.length c) r.1∧Below w.heap.size w w':=by
 obtain ⟨u,rfl,hv,_,hb⟩:=h
 obtain ⟨A,c,rfl,_⟩:=hv.at
 exact ⟨A,c,rfl,hv,hb⟩
theorem okV1 {c:CellD} (h:okC c):OkV [c]:=⟨by simp,fun x hx=>by simp at hx;subst hx;exact h⟩
theorem ans1 {w:World} {g:Nat} {t:TypeId} {e:Int} {v:Value} {l:ValD} (h:Blk w g t #[.int .i64 e,v]) (hv:ValV w v l):AnsV w (.slice (some ⟨g,0,none⟩) 1 1) [⟨e,l⟩]:=by
 refine ⟨_,1,[[.int .i64 e,v]],rfl,by simp,by simp,?_,rfl,?_⟩
 ·intro i row hi
  match i,hi with
  | 0,hi =>
   simp at hi
   subst hi
   refine ⟨g,0,rfl,h.lt,fun j u hu=>?_⟩
   match j,hu with
   | 0,hu=>simp at hu;subst hu;exact h.cell 0 _ rfl
   | 1,hu=>simp at hu;subst hu;exact h.cell 1 _ rfl
   | n+2,hu=>simp at hu
  | n+1,hi=>simp at hi
 ·intro i hi hi'
  match i,hi,hi' with
  | 0,hi,hi'=>exact ⟨v,rfl,hv⟩
  | n+1,hi,hi'=>simp at hi
theorem prog10_small:SmallEv P10:=⟨by decide,by decide,by decide +kernel,by decide +kernel⟩
/-- What Run answers first. -/
theorem run_a (w:World) (hp:Pow w) (hm:MaxL w) (hs:Sent w) (A:Option Addr) (nc:Nat) (B:Option Addr) (fc:Nat) (ev:Value) (hP:ProgV w ⟨A,B,nc,fc,P10⟩) (hv:ValV w ev [iCel 0]) :
  Calls Tryz.prog 24 #[.agg #[.slice A 8 nc,.slice B 1 fc],ev,.slice none 0 0,.int .i64 100] w fun e w'=>∃ er vA vn vc b off qc,e=.returned (.tuple #[.agg #[.bool false,.int .i64 er,.slice vA vn vc,.slice (some ⟨b,off,none⟩) 1 qc],.int .i64 0])∧StrAt w' b off ⟨#[103,101,116]⟩∧Below w.heap.size w w':=by
 have h:=run_h ⟨A,B,nc,fc,P10⟩ [iCel 0] ev [] none 0 100 w ⟨hP,hv,RowsV.nil none 0,hp,hm,hs,prog10_small,okV1 ⟨by decide,by decide,by decide⟩,fun a ha=>(by cases ha),by decide⟩
 refine h.mono ?_
 rintro e w' ⟨oo,ov,h1,rfl,⟨vv,qv,rfl,h3,h4⟩,h5,_⟩
 obtain ⟨e2,e3,e4⟩:=okA_of run10a h1
 obtain ⟨vA,vn,vc,rfl⟩:=h3.shape
 obtain ⟨qA,qc,rows,rfl,q1,q2,q3,q4,q5⟩:=h4
 rw [e4] at q4 q5
 have hl:0<rows.length:=by rw [q4];decide
 obtain ⟨b,off,rfl,_⟩:=q3.ptr hl
 obtain ⟨av,hr,_⟩:=q5 0 hl (by decide)
 have c0:=q3.cell0 hl (v:=.string ⟨#[103,101,116]⟩) (by rw [hr];show some (Value.string "get".toUTF8)=_;rw [show "get".toUTF8=(⟨#[103,101,116]⟩:ByteArray) by decide +kernel])
 rw [Nat.zero_mul,Nat.add_zero] at c0
 refine ⟨oo.err,vA,vn,vc,b,off,qc,?_,c0,h5⟩
 rw [e2,e3,e4]
 rfl
/-- What Run answers with an answer. -/
theorem run_b (w:World) (hp:Pow w) (hm:MaxL w) (hs:Sent w) (A:Option Addr) (nc:Nat) (B:Option Addr) (fc:Nat) (ev:Value) (g:Nat) (hP:ProgV w ⟨A,B,nc,fc,P10⟩) (hv:ValV w ev [iCel 0]) (ha:AnsV w (.slice (some ⟨g,0,none⟩) 1 1) [⟨0,[iCel 4]⟩]) :
  Calls Tryz.prog 24 #[.agg #[.slice A 8 nc,.slice B 1 fc],ev,.slice (some ⟨g,0,none⟩) 1 1,.int .i64 100] w fun e w'=>∃ b off vc qA qn qc,e=.returned (.tuple #[.agg #[.bool true,.int .i64 0,.slice (some ⟨b,off,none⟩) 1 vc,.slice qA qn qc],.int .i64 0])∧1≤vc∧One w' b off (iCel 5)∧Below w.heap.size w w':=by
 have h:=run_h ⟨A,B,nc,fc,P10⟩ [iCel 0] ev [⟨0,[iCel 4]⟩] (some ⟨g,0,none⟩) 1 100 w ⟨hP,hv,ha,hp,hm,hs,prog10_small,okV1 ⟨by decide,by decide,by decide⟩,fun a ha=>(by simp at ha;subst ha;exact okV1 ⟨by decide,by decide,by decide⟩),by decide⟩
 refine h.mono ?_
 rintro e w' ⟨oo,ov,h1,rfl,⟨vv,qv,rfl,h3,h4⟩,h5,_⟩
 obtain ⟨e2,e3,e4,e5⟩:=okB_of run10b h1
 rw [e5] at h3
 obtain ⟨vA,vn,vc,rfl⟩:=h3.shape
 obtain ⟨b,off,rfl,rfl,hc,ho⟩:=One.of h3
 obtain ⟨qA,qc,rows,rfl,q1,q2,q3,q4,q5⟩:=h4
 refine ⟨b,off,vc,qA,oo.requests.length,qc,?_,hc,ho,h5⟩
 rw [e2,e3,e4]
end
section
open Go.RowKit
set_option maxRecDepth 100000
theorem retS {w w':World} {r:ResD} {e:Ending} (h:RetR w [] r e w'):∃ A n c,e=.returned (.tuple #[.slice A n c,.int .i64 r.2])∧ValV w' (.slice A n c) r.1∧Below w.heap.size w w':=by
 obtain ⟨u,rfl,hv,_,hb⟩:=h
 obtain ⟨A,n,c,rfl⟩:=hv.shape
 exact ⟨A,n,c,rfl,hv,hb⟩
theorem okV_int {i:Int} (h:inRange i=true):OkV [iCel i]:=okV_of_check (check_int h)
theorem checkF_ne8 (v:ValD):checkF v≠8:=by
 unfold checkF
 split
 ·decide
 ·split
  ·decide
  ·split
   ·decide
   ·split <;> decide
attribute [local go_sem] cell_alloc_is
theorem o_eq:opEq=⟨#[61,61]⟩:=rfl
theorem o_ne:opNe=⟨#[33,61]⟩:=rfl
theorem o_lt:opLt=⟨#[60]⟩:=rfl
theorem o_gt:opGt=⟨#[62]⟩:=rfl
theorem o_add:opAdd=⟨#[43]⟩:=rfl
theorem o_sub:opSub=⟨#[45]⟩:=rfl
theorem o_mul:opMul=⟨#[42]⟩:=rfl
theorem o_div:opDiv=⟨#[47]⟩:=rfl
theorem o_mod:opMod=⟨#[37]⟩:=rfl
/-- Binary as the walks use it. -/
abbrev BinH (w:World):Prop:=∀ (op lt:ByteArray) (a b:ValD) (r:ResD) (va vb:Value) (wx:World),op=lt→Below w.heap.size w wx→ValV wx va a→ValV wx vb b→OkV a→OkV b→binaryR op a b=r→Calls Tryz.prog 13 #[.string lt,va,vb] wx fun e w'=>∃ A n c,e=.returned (.tuple #[.slice A n c,.int .i64 r.2])∧ValV w' (.slice A n c) r.1∧Below wx.heap.size wx w'
theorem binH (w:World) (hp:Pow w) (hm:MaxL w):BinH w:=fun op lt a b r va vb wx hl hb h1 h2 o1 o2 hr=>by
 rw [← hr,← hl]
 exact (binary_any op a b va vb wx h1 h2 (hp.below hb) (hm.below hb) o1 o2).mono fun e w' h=>retS h
abbrev CelH:Prop:=∀ (l:ValD) (va vb:Value) (wx:World),ValV wx va l→ValV wx vb l→Calls Tryz.prog 15 #[va,vb] wx fun e w'=>e=.returned (.bool true)∧Below wx.heap.size wx w'
theorem celH:CelH:=fun l va vb wx h1 h2=>(cells_any l l va vb wx h1 h2).mono fun e w' ⟨h,q,hq⟩=>⟨by rw [h];simp [eqV],by rw [hq];exact below_drewN (Below.refl _ _) _⟩
set_option maxHeartbeats 16000000 in
/-- Of two integers. -/
theorem arith_int (i j:Int) (hi:inRange i=true) (hj:inRange j=true) (A:Option Addr) (n c:Nat) (B:Option Addr) (m d:Nat) (w:World) (hp:Pow w) (hm:MaxL w) (ha:ValV w (.slice A n c) [iCel i]) (hb:ValV w (.slice B m d) [iCel j]) :
  Calls Tryz.prog 21 #[.slice A n c,.slice B m d] w fun e w'=>e=.returned (.bool true)∧Below w.heap.size w w':=by
 obtain ⟨P,hP⟩:∃ P:Ending→World→Prop,(fun e w'=>e=.returned (.bool true)∧Below w.heap.size w w')=P:=⟨_,rfl⟩
 rw [hP]
 have HP:Hid (∀ w',Below w.heap.size w w'→P (.returned (.bool true)) w'):=Lib.hid (fun w' h2=>by rw [← hP];exact ⟨rfl,h2⟩)
 have HB:=Lib.hid (binH w hp hm)
 have HC:=Lib.hid celH
 have HVA:=Lib.hid ha
 have HVB:=Lib.hid hb
 have HB0:=Lib.hid (Below.refl w.heap.size w)
 have HOI:=Lib.hid (okV_int hi)
 have HOJ:=Lib.hid (okV_int hj)
 obtain ⟨⟨s1,s2⟩,hs⟩:∃ r,binaryR opSub [iCel i] [iCel j]=r:=⟨_,rfl⟩
 have HS:=Lib.hid hs
 have HL1:Hid (s2=0→checkF s1=0∧binaryR opAdd s1 [iCel j]=([iCel i],0)):=Lib.hid (fun h0=>by
  have h1:=law_sub hi hj (by rw [hs];exact h0)
  rw [hs] at h1
  refine ⟨?_,h1⟩
  by_cases hc:checkF s1=0
  ·exact hc
  ·exfalso
   have h2:(binaryR opAdd s1 [iCel j]).2=checkF s1:=by unfold binaryR;rw [t_add,if_neg (by decide),if_pos hc]
   rw [h1] at h2
   exact hc h2.symm)
 obtain ⟨⟨q1,q2⟩,hq⟩:∃ r,binaryR opDiv [iCel i] [iCel j]=r:=⟨_,rfl⟩
 obtain ⟨⟨m1,m2⟩,hmm⟩:∃ r,binaryR opMod [iCel i] [iCel j]=r:=⟨_,rfl⟩
 obtain ⟨⟨p1,p2⟩,hpp⟩:∃ r,binaryR opMul q1 [iCel j]=r:=⟨_,rfl⟩
 have hd:=law_div hi hj
 rw [hq,hmm] at hd
 simp only at hd
 rw [hpp] at hd
 simp only at hd
 have HQ:=Lib.hid hq
 have HM:=Lib.hid hmm
 have HPP:=Lib.hid hpp
 have chk:∀ (op:ByteArray) (x y:ValD),op.toList∈binL→(binaryR op x y).2=0→checkF x=0∧checkF y=0:=fun op x y ho h0=>by
  by_cases hx:checkF x=0
  ·by_cases hy:checkF y=0
   ·exact ⟨hx,hy⟩
   ·exfalso
    have h2:(binaryR op x y).2=checkF y:=by unfold binaryR;rw [if_neg (by simpa using ho),if_neg (by simp [hx]),if_pos hy]
    rw [h0] at h2
    exact hy h2.symm
  ·exfalso
   have h2:(binaryR op x y).2=checkF x:=by unfold binaryR;rw [if_neg (by simpa using ho),if_pos hx]
   rw [h0] at h2
   exact hx h2.symm
 have HD:Hid (q2=9∨(q2=0∧m2=0∧OkV q1∧(p2=8∨(p2=0∧OkV p1∧OkV m1∧binaryR opAdd p1 m1=([iCel i],0))))):=Lib.hid (by
  rcases hd with h | ⟨h1,h2,h3⟩
  ·exact .inl h
  ·refine .inr ⟨h1,h2,?_,?_⟩
   ·by_cases hc:checkF q1=0
    ·exact okV_of_check hc
    ·exfalso
     have h5:(binaryR opMul q1 [iCel j]).2=checkF q1:=by unfold binaryR;rw [t_mul,if_neg (by decide),if_pos hc]
     rw [hpp] at h5
     simp only at h5
     have h6:=checkF_ne8 q1
     rcases h3 with h3 | ⟨h3,_⟩
     ·exact h6 (h5.symm.trans h3)
     ·exact hc (h5.symm.trans h3)
   ·rcases h3 with h3 | ⟨h3,h4⟩
    ·exact .inl h3
    ·have h5:=chk opAdd p1 m1 (by rw [t_add];decide) (by rw [h4])
     exact .inr ⟨h3,okV_of_check h5.1,okV_of_check h5.2,h4⟩)
 clear hP hp hm ha hb hi hj hs hq hmm hpp hd chk
 have tail:s2=0∨(s2 == 0)=false:=by by_cases h:s2=0 <;> simp [h]
 go_enter Tryz.func21,Tryz.ntmps21
 go_upto_region 2 with (first
  | (go_at_call 13;((with_reducible refine (HB.out opSub ⟨#[45]⟩ [iCel i] [iCel j] (s1,s2) _ _ _ o_sub HB0.out HVA.out HVB.out HOI.out HOJ.out HS.out).mono ?_);rintro r w1 ⟨zA1,zn1,zc1,rfl,hv1,hb1⟩;have HV1:=Lib.hid hv1;have HS1:=Lib.hid hb1;have HB1:=Lib.hid (below_call' hb1 HB0.out HB0.out.size);clear hv1 hb1)))
 rcases tail with h0 | h0
 ·obtain ⟨hc1,hl1⟩:=HL1.out h0
  have HO1:=Lib.hid (okV_of_check hc1)
  have HL:=Lib.hid hl1
  subst h0
  clear hc1 hl1
  go_upto_region 6 with (first
   | (go_at_call 13;((with_reducible refine (HB.out opAdd ⟨#[43]⟩ s1 [iCel j] ([iCel i],0) _ _ _ o_add HB1.out HV1.out (HVB.out.below HB1.out) HO1.out HOJ.out HL.out).mono ?_);rintro r w2 ⟨zA2,zn2,zc2,rfl,hv2,hb2⟩;have HV2:=Lib.hid hv2;have HS2:=Lib.hid hb2;have HB2:=Lib.hid (below_call' hb2 HB1.out HB1.out.size);clear hv2 hb2))
   | (go_at_call 15;(with_reducible refine (HC.out [iCel i] _ _ _ HV2.out (HVA.out.below HB2.out)).mono ?_);rintro r w3 ⟨rfl,hb3⟩;have HB3:=Lib.hid (below_call' hb3 HB2.out HB2.out.size);clear hb3))
  rcases HD.out with h9 | ⟨h9,hm9,ho9,hp9⟩
  ·subst h9
   go_wp2_with (first
    | (go_at_call 13;((with_reducible refine (HB.out opDiv ⟨#[47]⟩ [iCel i] [iCel j] (q1,9) _ _ _ o_div HB3.out (HVA.out.below HB3.out) (HVB.out.below HB3.out) HOI.out HOJ.out HQ.out).mono ?_);rintro r w20 ⟨zA20,zn20,zc20,rfl,hv20,hb20⟩;have HV20:=Lib.hid hv20;have HS20:=Lib.hid hb20;have HB20:=Lib.hid (below_call' hb20 HB3.out HB3.out.size);clear hv20 hb20)))
   exact HP.out _ HB20.out
  ·subst h9 hm9
   have HOQ:=Lib.hid ho9
   rcases hp9 with hp9 | ⟨hp9,hop,hom,hl9⟩
   ·subst hp9
    go_wp2_with (first
     | (go_at_call 13;((with_reducible refine (HB.out opDiv ⟨#[47]⟩ [iCel i] [iCel j] (q1,0) _ _ _ o_div HB3.out (HVA.out.below HB3.out) (HVB.out.below HB3.out) HOI.out HOJ.out HQ.out).mono ?_);rintro r w20 ⟨zA20,zn20,zc20,rfl,hv20,hb20⟩;have HV20:=Lib.hid hv20;have HS20:=Lib.hid hb20;have HB20:=Lib.hid (below_call' hb20 HB3.out HB3.out.size);clear hv20 hb20))
     | (go_at_call 13;((with_reducible refine (HB.out opMod ⟨#[37]⟩ [iCel i] [iCel j] (m1,0) _ _ _ o_mod HB20.out (HVA.out.below HB20.out) (HVB.out.below HB20.out) HOI.out HOJ.out HM.out).mono ?_);rintro r w21 ⟨zA21,zn21,zc21,rfl,hv21,hb21⟩;have HV21:=Lib.hid hv21;have HS21:=Lib.hid hb21;have HB21:=Lib.hid (below_call' hb21 HB20.out HB20.out.size);clear hv21 hb21))
     | (go_at_call 13;((with_reducible refine (HB.out opMul ⟨#[42]⟩ q1 [iCel j] (p1,8) _ _ _ o_mul HB21.out (HV20.out.below HS21.out) (HVB.out.below HB21.out) HOQ.out HOJ.out HPP.out).mono ?_);rintro r w22 ⟨zA22,zn22,zc22,rfl,hv22,hb22⟩;have HV22:=Lib.hid hv22;have HS22:=Lib.hid hb22;have HB22:=Lib.hid (below_call' hb22 HB21.out HB21.out.size);clear hv22 hb22)))
    exact HP.out _ HB22.out
   ·subst hp9
    have HOP:=Lib.hid hop
    have HOM:=Lib.hid hom
    have HL9:=Lib.hid hl9
    clear hop hom hl9 ho9
    go_wp2_with (first
     | (go_at_call 13;((with_reducible refine (HB.out opDiv ⟨#[47]⟩ [iCel i] [iCel j] (q1,0) _ _ _ o_div HB3.out (HVA.out.below HB3.out) (HVB.out.below HB3.out) HOI.out HOJ.out HQ.out).mono ?_);rintro r w20 ⟨zA20,zn20,zc20,rfl,hv20,hb20⟩;have HV20:=Lib.hid hv20;have HS20:=Lib.hid hb20;have HB20:=Lib.hid (below_call' hb20 HB3.out HB3.out.size);clear hv20 hb20))
     | (go_at_call 13;((with_reducible refine (HB.out opMod ⟨#[37]⟩ [iCel i] [iCel j] (m1,0) _ _ _ o_mod HB20.out (HVA.out.below HB20.out) (HVB.out.below HB20.out) HOI.out HOJ.out HM.out).mono ?_);rintro r w21 ⟨zA21,zn21,zc21,rfl,hv21,hb21⟩;have HV21:=Lib.hid hv21;have HS21:=Lib.hid hb21;have HB21:=Lib.hid (below_call' hb21 HB20.out HB20.out.size);clear hv21 hb21))
     | (go_at_call 13;((with_reducible refine (HB.out opMul ⟨#[42]⟩ q1 [iCel j] (p1,0) _ _ _ o_mul HB21.out (HV20.out.below HS21.out) (HVB.out.below HB21.out) HOQ.out HOJ.out HPP.out).mono ?_);rintro r w22 ⟨zA22,zn22,zc22,rfl,hv22,hb22⟩;have HV22:=Lib.hid hv22;have HS22:=Lib.hid hb22;have HB22:=Lib.hid (below_call' hb22 HB21.out HB21.out.size);clear hv22 hb22))
     | (go_at_call 13;((with_reducible refine (HB.out opAdd ⟨#[43]⟩ p1 m1 ([iCel i],0) _ _ _ o_add HB22.out HV22.out (HV21.out.below HS22.out) HOP.out HOM.out HL9.out).mono ?_);rintro r w23 ⟨zA23,zn23,zc23,rfl,hv23,hb23⟩;have HV23:=Lib.hid hv23;have HS23:=Lib.hid hb23;have HB23:=Lib.hid (below_call' hb23 HB22.out HB22.out.size);clear hv23 hb23))
     | (go_at_call 15;(with_reducible refine (HC.out [iCel i] _ _ _ HV23.out (HVA.out.below HB23.out)).mono ?_);rintro r w24 ⟨rfl,hb24⟩;have HB24:=Lib.hid (below_call' hb24 HB23.out HB23.out.size);clear hb24))
    exact HP.out _ HB24.out
 ·go_upto_region 6 with (fail)
  rcases HD.out with h9 | ⟨h9,hm9,ho9,hp9⟩
  ·subst h9
   go_wp2_with (first
    | (go_at_call 13;((with_reducible refine (HB.out opDiv ⟨#[47]⟩ [iCel i] [iCel j] (q1,9) _ _ _ o_div HB1.out (HVA.out.below HB1.out) (HVB.out.below HB1.out) HOI.out HOJ.out HQ.out).mono ?_);rintro r w20 ⟨zA20,zn20,zc20,rfl,hv20,hb20⟩;have HV20:=Lib.hid hv20;have HS20:=Lib.hid hb20;have HB20:=Lib.hid (below_call' hb20 HB1.out HB1.out.size);clear hv20 hb20)))
   exact HP.out _ HB20.out
  ·subst h9 hm9
   have HOQ:=Lib.hid ho9
   rcases hp9 with hp9 | ⟨hp9,hop,hom,hl9⟩
   ·subst hp9
    go_wp2_with (first
     | (go_at_call 13;((with_reducible refine (HB.out opDiv ⟨#[47]⟩ [iCel i] [iCel j] (q1,0) _ _ _ o_div HB1.out (HVA.out.below HB1.out) (HVB.out.below HB1.out) HOI.out HOJ.out HQ.out).mono ?_);rintro r w20 ⟨zA20,zn20,zc20,rfl,hv20,hb20⟩;have HV20:=Lib.hid hv20;have HS20:=Lib.hid hb20;have HB20:=Lib.hid (below_call' hb20 HB1.out HB1.out.size);clear hv20 hb20))
     | (go_at_call 13;((with_reducible refine (HB.out opMod ⟨#[37]⟩ [iCel i] [iCel j] (m1,0) _ _ _ o_mod HB20.out (HVA.out.below HB20.out) (HVB.out.below HB20.out) HOI.out HOJ.out HM.out).mono ?_);rintro r w21 ⟨zA21,zn21,zc21,rfl,hv21,hb21⟩;have HV21:=Lib.hid hv21;have HS21:=Lib.hid hb21;have HB21:=Lib.hid (below_call' hb21 HB20.out HB20.out.size);clear hv21 hb21))
     | (go_at_call 13;((with_reducible refine (HB.out opMul ⟨#[42]⟩ q1 [iCel j] (p1,8) _ _ _ o_mul HB21.out (HV20.out.below HS21.out) (HVB.out.below HB21.out) HOQ.out HOJ.out HPP.out).mono ?_);rintro r w22 ⟨zA22,zn22,zc22,rfl,hv22,hb22⟩;have HV22:=Lib.hid hv22;have HS22:=Lib.hid hb22;have HB22:=Lib.hid (below_call' hb22 HB21.out HB21.out.size);clear hv22 hb22)))
    exact HP.out _ HB22.out
   ·subst hp9
    have HOP:=Lib.hid hop
    have HOM:=Lib.hid hom
    have HL9:=Lib.hid hl9
    clear hop hom hl9 ho9
    go_wp2_with (first
     | (go_at_call 13;((with_reducible refine (HB.out opDiv ⟨#[47]⟩ [iCel i] [iCel j] (q1,0) _ _ _ o_div HB1.out (HVA.out.below HB1.out) (HVB.out.below HB1.out) HOI.out HOJ.out HQ.out).mono ?_);rintro r w20 ⟨zA20,zn20,zc20,rfl,hv20,hb20⟩;have HV20:=Lib.hid hv20;have HS20:=Lib.hid hb20;have HB20:=Lib.hid (below_call' hb20 HB1.out HB1.out.size);clear hv20 hb20))
     | (go_at_call 13;((with_reducible refine (HB.out opMod ⟨#[37]⟩ [iCel i] [iCel j] (m1,0) _ _ _ o_mod HB20.out (HVA.out.below HB20.out) (HVB.out.below HB20.out) HOI.out HOJ.out HM.out).mono ?_);rintro r w21 ⟨zA21,zn21,zc21,rfl,hv21,hb21⟩;have HV21:=Lib.hid hv21;have HS21:=Lib.hid hb21;have HB21:=Lib.hid (below_call' hb21 HB20.out HB20.out.size);clear hv21 hb21))
     | (go_at_call 13;((with_reducible refine (HB.out opMul ⟨#[42]⟩ q1 [iCel j] (p1,0) _ _ _ o_mul HB21.out (HV20.out.below HS21.out) (HVB.out.below HB21.out) HOQ.out HOJ.out HPP.out).mono ?_);rintro r w22 ⟨zA22,zn22,zc22,rfl,hv22,hb22⟩;have HV22:=Lib.hid hv22;have HS22:=Lib.hid hb22;have HB22:=Lib.hid (below_call' hb22 HB21.out HB21.out.size);clear hv22 hb22))
     | (go_at_call 13;((with_reducible refine (HB.out opAdd ⟨#[43]⟩ p1 m1 ([iCel i],0) _ _ _ o_add HB22.out HV22.out (HV21.out.below HS22.out) HOP.out HOM.out HL9.out).mono ?_);rintro r w23 ⟨zA23,zn23,zc23,rfl,hv23,hb23⟩;have HV23:=Lib.hid hv23;have HS23:=Lib.hid hb23;have HB23:=Lib.hid (below_call' hb23 HB22.out HB22.out.size);clear hv23 hb23))
     | (go_at_call 15;(with_reducible refine (HC.out [iCel i] _ _ _ HV23.out (HVA.out.below HB23.out)).mono ?_);rintro r w24 ⟨rfl,hb24⟩;have HB24:=Lib.hid (below_call' hb24 HB23.out HB23.out.size);clear hb24))
    exact HP.out _ HB24.out
set_option maxHeartbeats 16000000 in
/-- Of two strings. -/
theorem arith_str (s t:ByteArray) (hs:checkF [sCel s]=0) (ht:checkF [sCel t]=0) (A:Option Addr) (n c:Nat) (B:Option Addr) (m d:Nat) (w:World) (hp:Pow w) (hm:MaxL w) (ha:ValV w (.slice A n c) [sCel s]) (hb:ValV w (.slice B m d) [sCel t]) :
  Calls Tryz.prog 21 #[.slice A n c,.slice B m d] w fun e w'=>e=.returned (.bool true)∧Below w.heap.size w w':=by
 obtain ⟨P,hP⟩:∃ P:Ending→World→Prop,(fun e w'=>e=.returned (.bool true)∧Below w.heap.size w w')=P:=⟨_,rfl⟩
 rw [hP]
 have HP:Hid (∀ w',Below w.heap.size w w'→P (.returned (.bool true)) w'):=Lib.hid (fun w' h2=>by rw [← hP];exact ⟨rfl,h2⟩)
 have HB:=Lib.hid (binH w hp hm)
 have HVA:=Lib.hid ha
 have HVB:=Lib.hid hb
 have HB0:=Lib.hid (Below.refl w.heap.size w)
 have HOI:=Lib.hid (okV_of_check hs)
 have HOJ:=Lib.hid (okV_of_check ht)
 obtain ⟨h1,h2⟩:=law_str hs ht
 obtain ⟨⟨s1,s2⟩,hx⟩:∃ r,binaryR opSub [sCel s] [sCel t]=r:=⟨_,rfl⟩
 obtain ⟨⟨q1,q2⟩,hy⟩:∃ r,binaryR opDiv [sCel s] [sCel t]=r:=⟨_,rfl⟩
 rw [hx] at h1
 rw [hy] at h2
 simp only at h1 h2
 subst h1 h2
 have HX:=Lib.hid hx
 have HY:=Lib.hid hy
 clear hP hp hm ha hb hs ht hx hy
 go_enter Tryz.func21,Tryz.ntmps21
 go_wp2_with (first
  | (go_at_call 13;((with_reducible refine (HB.out opSub ⟨#[45]⟩ [sCel s] [sCel t] (s1,7) _ _ _ o_sub HB0.out HVA.out HVB.out HOI.out HOJ.out HX.out).mono ?_);rintro r w1 ⟨zA1,zn1,zc1,rfl,hv1,hb1⟩;have HV1:=Lib.hid hv1;have HS1:=Lib.hid hb1;have HB1:=Lib.hid (below_call' hb1 HB0.out HB0.out.size);clear hv1 hb1))
  | (go_at_call 13;((with_reducible refine (HB.out opDiv ⟨#[47]⟩ [sCel s] [sCel t] (q1,7) _ _ _ o_div HB1.out (HVA.out.below HB1.out) (HVB.out.below HB1.out) HOI.out HOJ.out HY.out).mono ?_);rintro r w2 ⟨zA2,zn2,zc2,rfl,hv2,hb2⟩;have HV2:=Lib.hid hv2;have HS2:=Lib.hid hb2;have HB2:=Lib.hid (below_call' hb2 HB1.out HB1.out.size);clear hv2 hb2)))
 exact HP.out _ HB2.out
set_option maxHeartbeats 16000000 in
theorem laws_h (a b:ValD) (va vb:Value) (w:World) (hp:Pow w) (hm:MaxL w) (ha:ValV w va a) (hb:ValV w vb b) (hsa:∀ c∈a,c.str.size≤140737488351232) (hsb:∀ c∈b,c.str.size≤140737488351232) (hia:∀ c∈a,IntOk c) (hib:∀ c∈b,IntOk c)
  (hA:∀ wx,Below w.heap.size w wx→Calls Tryz.prog 10 #[] wx fun r w'=>r=.returned (.bool true)∧Below wx.heap.size wx w') :
  Calls Tryz.prog 5 #[va,vb] w fun r w'=>r=.returned (.bool true)∧Below w.heap.size w w':=by
 obtain ⟨P,hP⟩:∃ P:Ending→World→Prop,(fun e w'=>e=.returned (.bool true)∧Below w.heap.size w w')=P:=⟨_,rfl⟩
 rw [hP]
 have HP:Hid (∀ w',Below w.heap.size w w'→P (.returned (.bool true)) w'):=Lib.hid (fun w' h2=>by rw [← hP];exact ⟨rfl,h2⟩)
 obtain ⟨A,n,c,rfl⟩:=ha.shape
 obtain ⟨B,m,d,rfl⟩:=hb.shape
 have HA:=Lib.hid hA
 have HB:=Lib.hid (binH w hp hm)
 have HVA:=Lib.hid ha
 have HVB:=Lib.hid hb
 have HB0:=Lib.hid (Below.refl w.heap.size w)
 obtain ⟨ta,hta⟩:∃ t,smallB a=t:=⟨_,rfl⟩
 obtain ⟨tb,htb⟩:∃ t,smallB b=t:=⟨_,rfl⟩
 have HSA:Hid (Calls Tryz.prog 9 #[.slice A n c] w fun e w'=>e=.returned (.bool ta)∧w'=w):=Lib.hid (by rw [← hta];exact small_any a _ w ha hsa)
 have HSB:Hid (Calls Tryz.prog 9 #[.slice B m d] w fun e w'=>e=.returned (.bool tb)∧w'=w):=Lib.hid (by rw [← htb];exact small_any b _ w hb hsb)
 have HOA:Hid (ta=true→OkV a):=Lib.hid (fun h=>okV_small (hta.trans h) hia)
 have HOB:Hid (tb=true→OkV b):=Lib.hid (fun h=>okV_small (htb.trans h) hib)
 have HIT:Hid (∀ (l:ValD) (t:Bool) (A:Option Addr) (n c:Nat) (wx:World),ValV wx (.slice A n c) l→isTrueB l=t→Calls Tryz.prog 20 #[.slice A n c] wx fun e w'=>e=.returned (.bool t)∧Below wx.heap.size wx w'):=Lib.hid (fun l t A n c wx h ht=>by rw [← ht];exact istrue_h l _ wx h)
 have HAR:Hid (∀ wx,Below w.heap.size w wx→((∃ i j,a=[iCel i]∧b=[iCel j]∧inRange i=true∧inRange j=true)∨∃ s t,a=[sCel s]∧b=[sCel t]∧checkF a=0∧checkF b=0)→Calls Tryz.prog 21 #[.slice A n c,.slice B m d] wx fun e w'=>e=.returned (.bool true)∧Below wx.heap.size wx w'):=Lib.hid (fun wx hx h=>by
  rcases h with ⟨i,j,rfl,rfl,hi,hj⟩ | ⟨s,t,rfl,rfl,h1,h2⟩
  ·exact arith_int i j hi hj A n c B m d wx (hp.below hx) (hm.below hx) (ha.below hx) (hb.below hx)
  ·exact arith_str s t h1 h2 A n c B m d wx (hp.below hx) (hm.below hx) (ha.below hx) (hb.below hx))
 obtain ⟨⟨x1,x2⟩,hx⟩:∃ r,binaryR opEq a b=r:=⟨_,rfl⟩
 obtain ⟨⟨y1,y2⟩,hy⟩:∃ r,binaryR opEq b a=r:=⟨_,rfl⟩
 obtain ⟨⟨n1,n2⟩,hn⟩:∃ r,binaryR opNe a b=r:=⟨_,rfl⟩
 obtain ⟨⟨r1,r2⟩,hr⟩:∃ r,binaryR opEq a a=r:=⟨_,rfl⟩
 obtain ⟨⟨l1,l2⟩,hl⟩:∃ r,binaryR opLt a b=r:=⟨_,rfl⟩
 obtain ⟨⟨g1,g2⟩,hg⟩:∃ r,binaryR opGt a b=r:=⟨_,rfl⟩
 obtain ⟨tx,htx⟩:∃ t,isTrueB x1=t:=⟨_,rfl⟩
 obtain ⟨tl,htl⟩:∃ t,isTrueB l1=t:=⟨_,rfl⟩
 obtain ⟨tg,htg⟩:∃ t,isTrueB g1=t:=⟨_,rfl⟩
 have HE:Hid (x2=0→isTrueB y1=tx∧isTrueB n1=!tx∧isTrueB r1=true):=Lib.hid (fun h0=>by
  have:=law_eq (a:=a) (b:=b) (by rw [hx];exact h0)
  rw [hx,hy,hn,hr] at this
  simp only at this
  rw [htx] at this
  exact ⟨this.1.symm,this.2.1,this.2.2⟩)
 have HC2:Hid (x2=0→l2=7∨(l2=0∧one tl+one tg+one tx=1∧((∃ i j,a=[iCel i]∧b=[iCel j]∧inRange i=true∧inRange j=true)∨∃ s t,a=[sCel s]∧b=[sCel t]∧checkF a=0∧checkF b=0))):=Lib.hid (fun h0=>by
  have:=law_cmp (a:=a) (b:=b) (by rw [hx];exact h0)
  rw [hx,hl,hg] at this
  simp only at this
  rw [htx,htl,htg] at this
  rcases this with h | h
  ·exact .inl h.1
  ·exact .inr h)
 have HX:=Lib.hid hx
 have HY:=Lib.hid hy
 have HN:=Lib.hid hn
 have HR:=Lib.hid hr
 have HL:=Lib.hid hl
 have HG:=Lib.hid hg
 have HTX:=Lib.hid htx
 have HTL:=Lib.hid htl
 have HTG:=Lib.hid htg
 clear hP hp hm ha hb hsa hsb hia hib hA hta htb hx hy hn hr hl hg htx htl htg
 have cx:x2=0∨(x2 != 0)=true:=by by_cases h:x2=0 <;> simp [h]
 go_enter Tryz.func5,Tryz.ntmps5
 cases ta with
 | false =>
  go_wp2_with (first
   | (go_at_call 9;(with_reducible refine HSA.out.mono ?_);rintro e2 W2 ⟨rfl,hw2⟩;rw [hw2];clear hw2 W2)
   | (go_at_call 10;(with_reducible refine (HA.out _ HB0.out).mono ?_);rintro r w1 ⟨rfl,hb1⟩;have HB1:=Lib.hid (below_call' hb1 HB0.out HB0.out.size);clear hb1))
  exact HP.out _ HB1.out
 | true =>
  cases tb with
  | false =>
   go_wp2_with (first
    | (go_at_call 9;(with_reducible refine HSA.out.mono ?_);rintro e2 W2 ⟨rfl,hw2⟩;rw [hw2];clear hw2 W2)
    | (go_at_call 9;(with_reducible refine HSB.out.mono ?_);rintro e2 W2 ⟨rfl,hw2⟩;rw [hw2];clear hw2 W2)
    | (go_at_call 10;(with_reducible refine (HA.out _ HB0.out).mono ?_);rintro r w1 ⟨rfl,hb1⟩;have HB1:=Lib.hid (below_call' hb1 HB0.out HB0.out.size);clear hb1))
   exact HP.out _ HB1.out
  | true =>
   have HOI:=Lib.hid (HOA.out rfl)
   have HOJ:=Lib.hid (HOB.out rfl)
   clear HOA HOB
   go_upto_region 7 with (first
    | (go_at_call 9;(with_reducible refine HSA.out.mono ?_);rintro e2 W2 ⟨rfl,hw2⟩;rw [hw2];clear hw2 W2)
    | (go_at_call 9;(with_reducible refine HSB.out.mono ?_);rintro e2 W2 ⟨rfl,hw2⟩;rw [hw2];clear hw2 W2)
    | (go_at_call 13;((with_reducible refine (HB.out opEq ⟨#[61,61]⟩ a b (x1,x2) _ _ _ o_eq HB0.out HVA.out HVB.out HOI.out HOJ.out HX.out).mono ?_);rintro r w1 ⟨zA1,zn1,zc1,rfl,hv1,hb1⟩;have HV1:=Lib.hid hv1;have HS1:=Lib.hid hb1;have HB1:=Lib.hid (below_call' hb1 HB0.out HB0.out.size);clear hv1 hb1))
    | (go_at_call 13;((with_reducible refine (HB.out opEq ⟨#[61,61]⟩ b a (y1,y2) _ _ _ o_eq HB1.out (HVB.out.below HB1.out) (HVA.out.below HB1.out) HOJ.out HOI.out HY.out).mono ?_);rintro r w2 ⟨zA2,zn2,zc2,rfl,hv2,hb2⟩;have HV2:=Lib.hid hv2;have HS2:=Lib.hid hb2;have HB2:=Lib.hid (below_call' hb2 HB1.out HB1.out.size);clear hv2 hb2))
    | (go_at_call 13;((with_reducible refine (HB.out opNe ⟨#[33,61]⟩ a b (n1,n2) _ _ _ o_ne HB2.out (HVA.out.below HB2.out) (HVB.out.below HB2.out) HOI.out HOJ.out HN.out).mono ?_);rintro r w3 ⟨zA3,zn3,zc3,rfl,hv3,hb3⟩;have HV3:=Lib.hid hv3;have HS3:=Lib.hid hb3;have HB3:=Lib.hid (below_call' hb3 HB2.out HB2.out.size);clear hv3 hb3))
    | (go_at_call 13;((with_reducible refine (HB.out opEq ⟨#[61,61]⟩ a a (r1,r2) _ _ _ o_eq HB3.out (HVA.out.below HB3.out) (HVA.out.below HB3.out) HOI.out HOI.out HR.out).mono ?_);rintro r w4 ⟨zA4,zn4,zc4,rfl,hv4,hb4⟩;have HV4:=Lib.hid hv4;have HS4:=Lib.hid hb4;have HB4:=Lib.hid (below_call' hb4 HB3.out HB3.out.size);clear hv4 hb4)))
   rcases cx with h0 | h0
   rotate_left
   ·skip
    go_wp2_with (first
     | (go_at_call 10;(with_reducible refine (HA.out _ HB4.out).mono ?_);rintro r w5 ⟨rfl,hb5⟩;have HB5:=Lib.hid (below_call' hb5 HB4.out HB4.out.size);clear hb5))
    exact HP.out _ HB5.out
   ·obtain ⟨e1,e2,e3⟩:=HE.out h0
    have HTY:=Lib.hid e1
    have HTN:=Lib.hid e2
    have HTR:=Lib.hid e3
    have HC3:=Lib.hid (HC2.out h0)
    have HVX:=Lib.hid (HV1.out.below (below_call' HS4.out (below_call' HS3.out HS2.out HS2.out.size) (Nat.le_trans HS2.out.size HS3.out.size)))
    have HVY:=Lib.hid (HV2.out.below (below_call' HS4.out HS3.out HS3.out.size))
    have HVN:=Lib.hid (HV3.out.below HS4.out)
    subst h0
    clear e1 e2 e3 HC2 HE
    have dn:∀ t:Bool,(t == t)=true:=by intro t;simp
    have HZ0:=Lib.hid (Below.refl w4.heap.size w4)
    cases tx
    ·simp only [Bool.not_false] at HTN
     go_upto_region 13 with (first
      | (go_at_call 20;(with_reducible refine (HIT.out x1 false _ _ _ _ HVX.out HTX.out).mono ?_);rintro r w5 ⟨rfl,hb5⟩;have HS5:=Lib.hid hb5;have HB5:=Lib.hid (below_call' hb5 HB4.out HB4.out.size);clear hb5)
      | (go_at_call 20;(with_reducible refine (HIT.out y1 false _ _ _ _ (HVY.out.below HS5.out) HTY.out).mono ?_);rintro r w6 ⟨rfl,hb6⟩;have HS6:=Lib.hid hb6;have HB6:=Lib.hid (below_call' hb6 HB5.out HB5.out.size);clear hb6)
      | (go_at_call 20;(with_reducible refine (HIT.out n1 true _ _ _ _ (HVN.out.below (below_call' HS6.out HS5.out HS5.out.size)) HTN.out).mono ?_);rintro r w7 ⟨rfl,hb7⟩;have HS7:=Lib.hid hb7;have HB7:=Lib.hid (below_call' hb7 HB6.out HB6.out.size);clear hb7)
      | (go_at_call 20;(with_reducible refine (HIT.out x1 false _ _ _ _ (HVX.out.below (below_call' HS7.out (below_call' HS6.out HS5.out HS5.out.size) (Nat.le_trans HS5.out.size HS6.out.size))) HTX.out).mono ?_);rintro r w8 ⟨rfl,hb8⟩;have HS8:=Lib.hid hb8;have HB8:=Lib.hid (below_call' hb8 HB7.out HB7.out.size);clear hb8)
      | (go_at_call 20;(with_reducible refine (HIT.out r1 true _ _ _ _ (HV4.out.below (below_call' HS8.out (below_call' HS7.out (below_call' HS6.out HS5.out HS5.out.size) (Nat.le_trans HS5.out.size HS6.out.size)) (Nat.le_trans HS5.out.size (Nat.le_trans HS6.out.size HS7.out.size)))) HTR.out).mono ?_);rintro r w9 ⟨rfl,hb9⟩;have HS9:=Lib.hid hb9;have HB9:=Lib.hid (below_call' hb9 HB8.out HB8.out.size);clear hb9)
      | (go_at_call 13;((with_reducible refine (HB.out opLt ⟨#[60]⟩ a b (l1,l2) _ _ _ o_lt HB9.out (HVA.out.below HB9.out) (HVB.out.below HB9.out) HOI.out HOJ.out HL.out).mono ?_);rintro r w10 ⟨zA10,zn10,zc10,rfl,hv10,hb10⟩;have HV10:=Lib.hid hv10;have HS10:=Lib.hid hb10;have HB10:=Lib.hid (below_call' hb10 HB9.out HB9.out.size);clear hv10 hb10))
      | (go_at_call 13;((with_reducible refine (HB.out opGt ⟨#[62]⟩ a b (g1,g2) _ _ _ o_gt HB10.out (HVA.out.below HB10.out) (HVB.out.below HB10.out) HOI.out HOJ.out HG.out).mono ?_);rintro r w11 ⟨zA11,zn11,zc11,rfl,hv11,hb11⟩;have HV11:=Lib.hid hv11;have HS11:=Lib.hid hb11;have HB11:=Lib.hid (below_call' hb11 HB10.out HB10.out.size);clear hv11 hb11)))
     have HS4to:=Lib.hid (below_call' HS8.out (below_call' HS7.out (below_call' HS6.out HS5.out HS5.out.size) (Nat.le_trans HS5.out.size HS6.out.size)) (Nat.le_trans HS5.out.size (Nat.le_trans HS6.out.size HS7.out.size)))
     have HS49:=Lib.hid (below_call' HS9.out HS4to.out HS4to.out.size)
     have HS410:=Lib.hid (below_call' HS10.out HS49.out HS49.out.size)
     have HVX2:=Lib.hid (HVX.out.below (below_call' HS11.out HS410.out HS410.out.size))
     rcases HC3.out with h7 | ⟨h7,hone,har⟩
     ·subst h7
      go_wp2_with (first
       | (go_at_call 10;(with_reducible refine (HA.out _ HB11.out).mono ?_);rintro r w12 ⟨rfl,hb12⟩;have HB12:=Lib.hid (below_call' hb12 HB11.out HB11.out.size);clear hb12))
      exact HP.out _ HB12.out
     ·subst h7
      have HAQ:=Lib.hid har
      clear har
      cases tl <;> cases tg
      ·exact absurd hone (by decide)
      ·clear hone
       go_wp2_with (first
        | (go_at_call 20;(with_reducible refine (HIT.out l1 false _ _ _ _ (HV10.out.below HS11.out) HTL.out).mono ?_);rintro r w12 ⟨rfl,hb12⟩;have HS12:=Lib.hid hb12;have HB12:=Lib.hid (below_call' hb12 HB11.out HB11.out.size);clear hb12)
        | (go_at_call 20;(with_reducible refine (HIT.out g1 true _ _ _ _ (HV11.out.below HS12.out) HTG.out).mono ?_);rintro r w13 ⟨rfl,hb13⟩;have HS13:=Lib.hid hb13;have HB13:=Lib.hid (below_call' hb13 HB12.out HB12.out.size);clear hb13)
        | (go_at_call 20;(with_reducible refine (HIT.out x1 false _ _ _ _ (HVX2.out.below (below_call' HS13.out HS12.out HS12.out.size)) HTX.out).mono ?_);rintro r w14 ⟨rfl,hb14⟩;have HS14:=Lib.hid hb14;have HB14:=Lib.hid (below_call' hb14 HB13.out HB13.out.size);clear hb14)
        | (go_at_call 21;(with_reducible refine (HAR.out _ HB14.out HAQ.out).mono ?_);rintro r w15 ⟨rfl,hb15⟩;have HB15:=Lib.hid (below_call' hb15 HB14.out HB14.out.size);clear hb15)
        | (go_at_call 10;(with_reducible refine (HA.out _ HB15.out).mono ?_);rintro r w16 ⟨rfl,hb16⟩;have HB16:=Lib.hid (below_call' hb16 HB15.out HB15.out.size);clear hb16))
       exact HP.out _ HB16.out
      ·clear hone
       go_wp2_with (first
        | (go_at_call 20;(with_reducible refine (HIT.out l1 true _ _ _ _ (HV10.out.below HS11.out) HTL.out).mono ?_);rintro r w12 ⟨rfl,hb12⟩;have HS12:=Lib.hid hb12;have HB12:=Lib.hid (below_call' hb12 HB11.out HB11.out.size);clear hb12)
        | (go_at_call 20;(with_reducible refine (HIT.out g1 false _ _ _ _ (HV11.out.below HS12.out) HTG.out).mono ?_);rintro r w13 ⟨rfl,hb13⟩;have HS13:=Lib.hid hb13;have HB13:=Lib.hid (below_call' hb13 HB12.out HB12.out.size);clear hb13)
        | (go_at_call 20;(with_reducible refine (HIT.out x1 false _ _ _ _ (HVX2.out.below (below_call' HS13.out HS12.out HS12.out.size)) HTX.out).mono ?_);rintro r w14 ⟨rfl,hb14⟩;have HS14:=Lib.hid hb14;have HB14:=Lib.hid (below_call' hb14 HB13.out HB13.out.size);clear hb14)
        | (go_at_call 21;(with_reducible refine (HAR.out _ HB14.out HAQ.out).mono ?_);rintro r w15 ⟨rfl,hb15⟩;have HB15:=Lib.hid (below_call' hb15 HB14.out HB14.out.size);clear hb15)
        | (go_at_call 10;(with_reducible refine (HA.out _ HB15.out).mono ?_);rintro r w16 ⟨rfl,hb16⟩;have HB16:=Lib.hid (below_call' hb16 HB15.out HB15.out.size);clear hb16))
       exact HP.out _ HB16.out
      ·exact absurd hone (by decide)
    ·simp only [Bool.not_true] at HTN
     go_upto_region 13 with (first
      | (go_at_call 20;(with_reducible refine (HIT.out x1 true _ _ _ _ HVX.out HTX.out).mono ?_);rintro r w5 ⟨rfl,hb5⟩;have HS5:=Lib.hid hb5;have HB5:=Lib.hid (below_call' hb5 HB4.out HB4.out.size);clear hb5)
      | (go_at_call 20;(with_reducible refine (HIT.out y1 true _ _ _ _ (HVY.out.below HS5.out) HTY.out).mono ?_);rintro r w6 ⟨rfl,hb6⟩;have HS6:=Lib.hid hb6;have HB6:=Lib.hid (below_call' hb6 HB5.out HB5.out.size);clear hb6)
      | (go_at_call 20;(with_reducible refine (HIT.out n1 false _ _ _ _ (HVN.out.below (below_call' HS6.out HS5.out HS5.out.size)) HTN.out).mono ?_);rintro r w7 ⟨rfl,hb7⟩;have HS7:=Lib.hid hb7;have HB7:=Lib.hid (below_call' hb7 HB6.out HB6.out.size);clear hb7)
      | (go_at_call 20;(with_reducible refine (HIT.out x1 true _ _ _ _ (HVX.out.below (below_call' HS7.out (below_call' HS6.out HS5.out HS5.out.size) (Nat.le_trans HS5.out.size HS6.out.size))) HTX.out).mono ?_);rintro r w8 ⟨rfl,hb8⟩;have HS8:=Lib.hid hb8;have HB8:=Lib.hid (below_call' hb8 HB7.out HB7.out.size);clear hb8)
      | (go_at_call 20;(with_reducible refine (HIT.out r1 true _ _ _ _ (HV4.out.below (below_call' HS8.out (below_call' HS7.out (below_call' HS6.out HS5.out HS5.out.size) (Nat.le_trans HS5.out.size HS6.out.size)) (Nat.le_trans HS5.out.size (Nat.le_trans HS6.out.size HS7.out.size)))) HTR.out).mono ?_);rintro r w9 ⟨rfl,hb9⟩;have HS9:=Lib.hid hb9;have HB9:=Lib.hid (below_call' hb9 HB8.out HB8.out.size);clear hb9)
      | (go_at_call 13;((with_reducible refine (HB.out opLt ⟨#[60]⟩ a b (l1,l2) _ _ _ o_lt HB9.out (HVA.out.below HB9.out) (HVB.out.below HB9.out) HOI.out HOJ.out HL.out).mono ?_);rintro r w10 ⟨zA10,zn10,zc10,rfl,hv10,hb10⟩;have HV10:=Lib.hid hv10;have HS10:=Lib.hid hb10;have HB10:=Lib.hid (below_call' hb10 HB9.out HB9.out.size);clear hv10 hb10))
      | (go_at_call 13;((with_reducible refine (HB.out opGt ⟨#[62]⟩ a b (g1,g2) _ _ _ o_gt HB10.out (HVA.out.below HB10.out) (HVB.out.below HB10.out) HOI.out HOJ.out HG.out).mono ?_);rintro r w11 ⟨zA11,zn11,zc11,rfl,hv11,hb11⟩;have HV11:=Lib.hid hv11;have HS11:=Lib.hid hb11;have HB11:=Lib.hid (below_call' hb11 HB10.out HB10.out.size);clear hv11 hb11)))
     have HS4to:=Lib.hid (below_call' HS8.out (below_call' HS7.out (below_call' HS6.out HS5.out HS5.out.size) (Nat.le_trans HS5.out.size HS6.out.size)) (Nat.le_trans HS5.out.size (Nat.le_trans HS6.out.size HS7.out.size)))
     have HS49:=Lib.hid (below_call' HS9.out HS4to.out HS4to.out.size)
     have HS410:=Lib.hid (below_call' HS10.out HS49.out HS49.out.size)
     have HVX2:=Lib.hid (HVX.out.below (below_call' HS11.out HS410.out HS410.out.size))
     rcases HC3.out with h7 | ⟨h7,hone,har⟩
     ·subst h7
      go_wp2_with (first
       | (go_at_call 10;(with_reducible refine (HA.out _ HB11.out).mono ?_);rintro r w12 ⟨rfl,hb12⟩;have HB12:=Lib.hid (below_call' hb12 HB11.out HB11.out.size);clear hb12))
      exact HP.out _ HB12.out
     ·subst h7
      have HAQ:=Lib.hid har
      clear har
      cases tl <;> cases tg
      ·clear hone
       go_wp2_with (first
        | (go_at_call 20;(with_reducible refine (HIT.out l1 false _ _ _ _ (HV10.out.below HS11.out) HTL.out).mono ?_);rintro r w12 ⟨rfl,hb12⟩;have HS12:=Lib.hid hb12;have HB12:=Lib.hid (below_call' hb12 HB11.out HB11.out.size);clear hb12)
        | (go_at_call 20;(with_reducible refine (HIT.out g1 false _ _ _ _ (HV11.out.below HS12.out) HTG.out).mono ?_);rintro r w13 ⟨rfl,hb13⟩;have HS13:=Lib.hid hb13;have HB13:=Lib.hid (below_call' hb13 HB12.out HB12.out.size);clear hb13)
        | (go_at_call 20;(with_reducible refine (HIT.out x1 true _ _ _ _ (HVX2.out.below (below_call' HS13.out HS12.out HS12.out.size)) HTX.out).mono ?_);rintro r w14 ⟨rfl,hb14⟩;have HS14:=Lib.hid hb14;have HB14:=Lib.hid (below_call' hb14 HB13.out HB13.out.size);clear hb14)
        | (go_at_call 21;(with_reducible refine (HAR.out _ HB14.out HAQ.out).mono ?_);rintro r w15 ⟨rfl,hb15⟩;have HB15:=Lib.hid (below_call' hb15 HB14.out HB14.out.size);clear hb15)
        | (go_at_call 10;(with_reducible refine (HA.out _ HB15.out).mono ?_);rintro r w16 ⟨rfl,hb16⟩;have HB16:=Lib.hid (below_call' hb16 HB15.out HB15.out.size);clear hb16))
       exact HP.out _ HB16.out
      ·exact absurd hone (by decide)
      ·exact absurd hone (by decide)
      ·exact absurd hone (by decide)
end
end Go.Proofs.YtekdhlfapejijaaGreatDoor
