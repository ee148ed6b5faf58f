/- AK0, AK2, JK -/
import Derived.Test.YtekdhlfapejijaaGreatDoorPXS
import Derived.Test.YtekdhlfapejijaaGreatDoorPJ21
set_option linter.unusedVariables false
set_option linter.unusedSimpArgs false
namespace Go.Proofs.YtekdhlfapejijaaGreatDoor
open Go.RowKit
set_option maxRecDepth 100000
open Go.Proofs.Tryz
section
theorem smallB_ok {l:ValD} (h:smallB l=true):l.length≤300∧∀ c∈l,c.str.size≤5000:=by
 unfold smallB at h;simp only [Bool.and_eq_true,decide_eq_true_eq,List.all_eq_true] at h;exact h
def IntOk (c:CellD):Prop:=(-9223372036854775808≤c.int∧c.int≤9223372036854775807)∧c.n≤9223372036854775807
theorem zbrY {l:ValD} (h:smallB l=true) (hi:∀ c∈l,IntOk c):OkV l:=by
 obtain ⟨h1,h2⟩:=smallB_ok h;exact ⟨by omega,fun c hc=>⟨by have:=h2 c hc;omega,(hi c hc).1,(hi c hc).2⟩⟩
attribute [local go_sem] zacZ
set_option maxHeartbeats 4000000 in
theorem integer_h (n:Int) (w:World):Calls prog 28 #[.int .i64 n] w fun e w'=>∃ g,e=.returned (.slice (some ⟨g,0,none⟩) 1 1)∧ValV w' (.slice (some ⟨g,0,none⟩) 1 1) [iCel n]∧Below w.heap.size w w':=by
 obtain ⟨P,hP⟩:∃ P:Ending→World→Prop,(fun e w'=>∃ g,e=.returned (.slice (some ⟨g,0,none⟩) 1 1)∧ValV w' (.slice (some ⟨g,0,none⟩) 1 1) [iCel n]∧Below w.heap.size w w')=P:=⟨_,rfl⟩
 rw [hP];have HP:=hZz hP;clear hP;go_enter func28,ntmps28
 go_wp2_with (fail)
 rw [← HP.out]
 first
 | exact ⟨_,rfl,zaiY (c:=iCel n) (Blk.new _ _ _),zabZ _ _⟩
 | exact ⟨_,rfl,zaiY (c:=iCel n) (Blk.second _ _ _ _),zasY _ _ _⟩
end
def StrAt (w:World) (b off:Nat) (s:ByteArray):Prop:=w.cell? ⟨b,off,none⟩=some (.string s)
theorem StrAt.below {w w':World} {b off:Nat} {s:ByteArray} (h:StrAt w b off s) (hb:Below w.heap.size w w'):StrAt w' b off s:=(hb.cell (World.block_lt_of_cell? w _ h)).trans h
theorem StrAt.ne {w:World} {b off g:Nat} {s:ByteArray} (h:StrAt w b off s) (hB:Blk w g 44 #[.bool false,.int .i64 0,.slice none 0 0,.slice none 0 0]):b≠g:=by
 rintro rfl;unfold StrAt World.cell? at h;unfold Blk at hB;rw [hB] at h;simp only at h
 match off,h with
 | 0,h=>simp at h
 | 1,h=>simp at h
 | 2,h=>simp at h
 | 3,h=>simp at h
 | n+4,h=>simp at h
theorem StrAt.setRow {w:World} {b off g:Nat} {s:ByteArray} {cs:Array Value} (h:StrAt w b off s) (hB:Blk w g 44 #[.bool false,.int .i64 0,.slice none 0 0,.slice none 0 0]):StrAt (w.setRow g cs) b off s:=by
 have hne:=h.ne hB;unfold StrAt World.cell? at h ⊢;rw [setRow_other w g b cs hne];exact h
def One (w:World) (b off:Nat) (c:CellD):Prop:=w.cell? ⟨b,off,none⟩=some (.int .i64 c.kind)∧w.cell? ⟨b,off+1,none⟩=some (.int .i64 c.int)∧StrAt w b (off+2) c.str∧w.cell? ⟨b,off+3,none⟩=some (.int .i64 c.n)
theorem One.below {w w':World} {b off:Nat} {c:CellD} (h:One w b off c) (hb:Below w.heap.size w w'):One w' b off c :=
 ⟨(hb.cell (World.block_lt_of_cell? w _ h.1)).trans h.1,(hb.cell (World.block_lt_of_cell? w _ h.2.1)).trans h.2.1,h.2.2.1.below hb,(hb.cell (World.block_lt_of_cell? w _ h.2.2.2)).trans h.2.2.2⟩
theorem One.setRow {w:World} {b off g:Nat} {c:CellD} {cs:Array Value} (h:One w b off c) (hB:Blk w g 44 #[.bool false,.int .i64 0,.slice none 0 0,.slice none 0 0]):One (w.setRow g cs) b off c:=by
 have hne:=h.2.2.1.ne hB;have e:∀ k,(w.setRow g cs).cell? ⟨b,k,none⟩=w.cell? ⟨b,k,none⟩:=fun k=>by unfold World.cell?;rw [setRow_other w g b cs hne]
 exact ⟨(e _).trans h.1,(e _).trans h.2.1,h.2.2.1.setRow hB,(e _).trans h.2.2.2⟩
theorem One.of {w:World} {A:Option Addr} {n cap:Nat} {c:CellD} (h:ValV w (.slice A n cap) [c]):∃ b off,A=some ⟨b,off,none⟩∧n=1∧1≤cap∧One w b off c:=by
 obtain ⟨A',cap',e,h1,_,hs⟩:=h.at;injection e with e1 e2 e3
 subst e1 e2 e3;obtain ⟨b,off,rfl,_⟩:=hs.ptr (n:=0) (by simp);have c0:=hs.cell0 (n:=0) (by simp) (v:=.int .i64 c.kind) rfl;have c1:=hs.cell (n:=0) (by simp) (j:=1) (v:=.int .i64 c.int) rfl;have c2:=hs.cell (n:=0) (by simp) (j:=2) (v:=.string c.str) rfl;have c3:=hs.cell (n:=0) (by simp) (j:=3) (v:=.int .i64 c.n) rfl;simp only [Nat.zero_mul,Nat.add_zero] at c0 c1 c2 c3;exact ⟨b,off,rfl,rfl,by simpa using h1,c0,c1,c2,c3⟩
theorem One.val {w:World} {b off cap:Nat} {c:CellD} (h:One w b off c) (hc:1≤cap):ValV w (.slice (some ⟨b,off,none⟩) 1 cap) [c]:=by
 refine ⟨_,cap,[c.cells],rfl,by simpa using hc,by simp,?_,rfl,?_⟩
 ·intro i row hi
  have hlt:=World.block_lt_of_cell? w _ h.1
  match i,hi with
  | 0,hi =>
   simp at hi
   subst hi;refine ⟨b,off,rfl,hlt,fun j v hv=>?_⟩
   match j,hv with
   | 0,hv=>simp [CellD.cells] at hv;subst hv;simpa using h.1
   | 1,hv=>simp [CellD.cells] at hv;subst hv;simpa using h.2.1
   | 2,hv=>simp [CellD.cells] at hv;subst hv;simpa [StrAt] using h.2.2.1
   | 3,hv=>simp [CellD.cells] at hv;subst hv;simpa using h.2.2.2
   | n+4,hv=>simp [CellD.cells] at hv
  | n+1,hi=>simp at hi
 ·intro i hi hi'
  match i,hi,hi' with
  | 0,hi,hi'=>rfl
  | n+1,hi,hi'=>simp at hi
theorem ret1 {w w':World} {r:ResD} {e:Ending} (h:RetR w [] r e w'):∃ A c,e=.returned (.tuple #[.slice A r.1.length c,.int .i64 r.2])∧ValV w' (.slice A r.1.length c) r.1∧Below w.heap.size w w':=by
 obtain ⟨u,rfl,hv,_,hb⟩:=h;obtain ⟨A,c,rfl,_⟩:=hv.at;exact ⟨A,c,rfl,hv,hb⟩
theorem okV1 {c:CellD} (h:okC c):OkV [c]:=⟨by simp,fun x hx=>by simp at hx;subst hx;exact h⟩
theorem ans1 {w:World} {g:Nat} {t:TypeId} {e:Int} {v:Value} {l:ValD} (h:Blk w g t #[.int .i64 e,v]) (hv:ValV w v l):AnsV w (.slice (some ⟨g,0,none⟩) 1 1) [⟨e,l⟩]:=by
 refine ⟨_,1,[[.int .i64 e,v]],rfl,by simp,by simp,?_,rfl,?_⟩
 ·intro i row hi
  match i,hi with
  | 0,hi =>
   simp at hi
   subst hi;refine ⟨g,0,rfl,h.lt,fun j u hu=>?_⟩
   match j,hu with
   | 0,hu=>simp at hu;subst hu;exact h.cell 0 _ rfl
   | 1,hu=>simp at hu;subst hu;exact h.cell 1 _ rfl
   | n+2,hu=>simp at hu
  | n+1,hi=>simp at hi
 ·intro i hi hi'
  match i,hi,hi' with
  | 0,hi,hi'=>exact ⟨v,rfl,hv⟩
  | n+1,hi,hi'=>simp at hi
theorem zczY:SmallEv P10:=⟨by decide,by decide,by decide +kernel,by decide +kernel⟩
def mainJ (answers:List AnsD):EvR ValD:=callF (ctxF P10 answers) (nodeJ (ctxF P10 answers) 100) 0 (findF P10 mainS).toNat [[iCel 0]] ⟨100,[],[[iCel 0]]⟩
def okJA:EvR ValD→Bool
 | some (([],some .wait),t)=>decide (t.reqs=[⟨ "get".toUTF8,[[sCel "k".toUTF8]]⟩])
 | _=>false
def okJB:EvR ValD→Bool
 | some ((v,none),t)=>decide (v=[iCel 5])
 | _=>false
theorem run10Ja:okJA (mainJ [])=true:=by decide +kernel
theorem run10Jb:okJB (mainJ [⟨0,[iCel 4]⟩])=true:=by decide +kernel
theorem okJA_of {r:EvR ValD} (h:okJA r=true):∃ t,r=some (([],some .wait),t)∧t.reqs=[⟨ "get".toUTF8,[[sCel "k".toUTF8]]⟩]:=by
 unfold okJA at h;split at h
 ·exact ⟨_,rfl,by simpa using h⟩
 ·cases h
theorem okJB_of {r:EvR ValD} (h:okJB r=true):∃ t,r=some (([iCel 5],none),t):=by
 unfold okJB at h;split at h
 ·rename_i v t
  have e:v=[iCel 5]:=by simpa using h
  subst e;exact ⟨_,rfl⟩
 ·cases h
theorem run_aJ (w:World) (hp:Pow w) (hm:MaxL w) (hs:Sent w) (A:Option Addr) (nc:Nat) (B:Option Addr) (fc:Nat) (ev:Value) (hP:ProgV w ⟨A,B,nc,fc,P10⟩) (hv:ValV w ev [iCel 0]) :
  Calls prog 24 #[.agg #[.slice A 8 nc,.slice B 1 fc],ev,.slice none 0 0,.int .i64 100] w fun e w'=>∃ er vA vn vc b off qc,e=.returned (.tuple #[.agg #[.bool false,.int .i64 er,.slice vA vn vc,.slice (some ⟨b,off,none⟩) 1 qc],.int .i64 0])∧StrAt w' b off ⟨#[103,101,116]⟩∧Below w.heap.size w w':=by
 obtain ⟨t,hQ,hrq⟩:=okJA_of run10Ja;have h:=run_evalJ ⟨A,B,nc,fc,P10⟩ [iCel 0] ev [] none 0 100 w ⟨hP,hv,RowsV.nil none 0,hp,hm,hs,zczY,okV1 ⟨by decide,by decide,by decide⟩,fun a ha=>(by cases ha),by decide⟩ (show (studyF P10).err=0 by decide +kernel) (by decide +kernel) (by decide) _ hQ (fun e h=>by cases h) (fun v h=>by cases h) ⟨false,0,[],t.reqs⟩ rfl;refine h.mono ?_
 rintro e w' ⟨ov,rfl,⟨vv,qv,rfl,h3,h4⟩,h5⟩;have h4:ReqsV w' qv t.reqs:=h4;obtain ⟨vA,vn,vc,rfl⟩:=h3.shape;obtain ⟨qA,qc,rows,rfl,q1,q2,q3,q4,q5⟩:=h4;rw [hrq] at q4 q5;have hl:0<rows.length:=by rw [q4];decide
 obtain ⟨b,off,rfl,_⟩:=q3.ptr hl;obtain ⟨av,hr,_⟩:=q5 0 hl (by decide);have c0:=q3.cell0 hl (v:=.string ⟨#[103,101,116]⟩) (by rw [hr];show some (Value.string "get".toUTF8)=_;rw [show "get".toUTF8=(⟨#[103,101,116]⟩:ByteArray) by decide +kernel])
 rw [Nat.zero_mul,Nat.add_zero] at c0;refine ⟨0,vA,vn,vc,b,off,qc,?_,c0,h5⟩
 have e1:t.reqs.length=1:=by rw [hrq];rfl
 rw [e1]
theorem run_bJ (w:World) (hp:Pow w) (hm:MaxL w) (hs:Sent w) (A:Option Addr) (nc:Nat) (B:Option Addr) (fc:Nat) (ev:Value) (g:Nat) (hP:ProgV w ⟨A,B,nc,fc,P10⟩) (hv:ValV w ev [iCel 0]) (ha:AnsV w (.slice (some ⟨g,0,none⟩) 1 1) [⟨0,[iCel 4]⟩]) :
  Calls prog 24 #[.agg #[.slice A 8 nc,.slice B 1 fc],ev,.slice (some ⟨g,0,none⟩) 1 1,.int .i64 100] w fun e w'=>∃ b off vc qA qn qc,e=.returned (.tuple #[.agg #[.bool true,.int .i64 0,.slice (some ⟨b,off,none⟩) 1 vc,.slice qA qn qc],.int .i64 0])∧1≤vc∧One w' b off (iCel 5)∧Below w.heap.size w w':=by
 obtain ⟨t,hQ⟩:=okJB_of run10Jb;have h:=run_evalJ ⟨A,B,nc,fc,P10⟩ [iCel 0] ev [⟨0,[iCel 4]⟩] (some ⟨g,0,none⟩) 1 100 w ⟨hP,hv,ha,hp,hm,hs,zczY,okV1 ⟨by decide,by decide,by decide⟩,fun a ha=>(by simp at ha;subst ha;exact okV1 ⟨by decide,by decide,by decide⟩),by decide⟩ (show (studyF P10).err=0 by decide +kernel) (by decide +kernel) (by decide) _ hQ (fun e h=>by cases h) (fun v h=>by cases h) ⟨true,0,[iCel 5],t.reqs⟩ rfl;refine h.mono ?_
 rintro e w' ⟨ov,rfl,⟨vv,qv,rfl,h3,h4⟩,h5⟩;have h3:ValV w' vv [iCel 5]:=h3;obtain ⟨vA,vn,vc,rfl⟩:=h3.shape;obtain ⟨b,off,rfl,rfl,hc,ho⟩:=One.of h3;obtain ⟨qA,qc,rows,rfl,q1,q2,q3,q4,q5⟩:=h4;refine ⟨b,off,vc,qA,t.reqs.length,qc,rfl,hc,ho,h5⟩
end Go.Proofs.YtekdhlfapejijaaGreatDoor
