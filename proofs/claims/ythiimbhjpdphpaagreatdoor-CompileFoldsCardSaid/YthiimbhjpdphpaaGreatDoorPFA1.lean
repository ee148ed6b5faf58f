/- K2, P1, S1, S3, U0, FA0, FA1 -/
import Derived.Test.YthiimbhjpdphpaaGreatDoorPE5
import Derived.Test.YthiimbhjpdphpaaGreatDoorPGL4
import Derived.Test.YthiimbhjpdphpaaGreatDoorPS2
set_option linter.unusedVariables false
set_option linter.unusedSimpArgs false
namespace Go.Proofs.YthiimbhjpdphpaaGreatDoor
open Go.RowKit
set_option maxRecDepth 100000
set_option maxHeartbeats 8000000
open Go.Proofs.Tryz
section
attribute [local go_sem] zacZ
def strCs (k:ByteArray):List Value:=[.string k]
def KeysV (w:World) (v:Value) (l:List ByteArray):Prop:=∃ A cap,v=.slice A l.length cap∧l.length≤cap∧SlAt w A 1 strCs l
theorem KeysV.below {w w':World} {v:Value} {l:List ByteArray} (h:KeysV w v l) (hb:Below w.heap.size w w'):KeysV w' v l:=by
 obtain ⟨A,cap,h1,h2,h3⟩:=h;exact ⟨A,cap,h1,h2,h3.below hb⟩
end
def intR (_:World) (row:List Value) (k:Int):Prop:=row=[.int .i64 k]
theorem stays_int:Stays2 intR:=fun _ _ _ _ h _=>h
def IntsV:=RowsV 17592186043904 1 intR
theorem IntsV.below {w w':World} {v:Value} {l:List Int} (h:IntsV w v l) (hb:Below w.heap.size w w'):IntsV w' v l:=zaeY stays_int _ _ _ _ h hb
theorem IntsV.at {w:World} {v:Value} {l:List Int} (h:IntsV w v l):∃ A cap,v=.slice A l.length cap∧l.length≤cap∧SlAt w A 1 (fun k=>[.int .i64 k]) l:=by
 obtain ⟨A,cap,rows,h1,h2,h3,h4,h5,h6⟩:=h;refine ⟨A,cap,h1,h2,?_⟩
 have e:rows=l.map (fun k=>[Value.int .i64 k]):=by
  apply List.ext_getElem
  ·simpa using h5
  ·intro i hi hi'
   rw [List.getElem_map];exact h6 i hi (by simpa using hi')
 subst e;unfold SlAt at h4 ⊢
 rwa [List.map_map] at h4
def nodeR (w:World) (row:List Value) (n:NodeD):Prop:=∃ kv iv,row=[.int .i64 n.kind,.string n.text,.int .i64 n.int,kv,iv]∧KeysV w kv n.keys∧IntsV w iv n.kids
theorem zajY:Stays2 nodeR:=fun _ _ _ _ ⟨a,b,h1,h2,h3⟩ hb=>⟨a,b,h1,h2.below hb,h3.below hb⟩
def NodesV:=RowsV 1759218604390 5 nodeR
def funcR (w:World) (row:List Value) (f:FuncD):Prop:=∃ kv,row=[.string f.name,kv,.int .i64 f.body]∧KeysV w kv f.params
theorem zb3Y:Stays2 funcR:=fun _ _ _ _ ⟨a,h1,h2⟩ hb=>⟨a,h1,h2.below hb⟩
def FuncsV:=RowsV 2932031007402 3 funcR
structure ProgS where
 A:Option Addr
 B:Option Addr
 ncap:Nat
 fcap:Nat
 p:ProgD
def ProgS.val (S:ProgS):Value:=.agg #[.slice S.A S.p.nodes.length S.ncap,.slice S.B S.p.funcs.length S.fcap]
structure ProgV (w:World) (S:ProgS):Prop where
 nodes:NodesV w (.slice S.A S.p.nodes.length S.ncap) S.p.nodes
 funcs:FuncsV w (.slice S.B S.p.funcs.length S.fcap) S.p.funcs
theorem ProgV.below {w w':World} {S:ProgS} (h:ProgV w S) (hb:Below w.heap.size w w'):ProgV w' S:=⟨zaeY zajY _ _ _ _ h.nodes hb,zaeY zb3Y _ _ _ _ h.funcs hb⟩
theorem node_cells {w:World} {A:Option Addr} {n cap:Nat} {l:List NodeD} (h:NodesV w (.slice A n cap) l) {i:Nat} (hi:i<l.length):n=l.length∧n≤cap∧∃ b off kv iv,A=some ⟨b,off,none⟩∧b<w.heap.size ∧
  w.cell? ⟨b,off+i * 5,none⟩=some (.int .i64 (l[i]).kind)∧w.cell? ⟨b,off+i * 5+1,none⟩=some (.string (l[i]).text)∧w.cell? ⟨b,off+i * 5+2,none⟩=some (.int .i64 (l[i]).int)∧w.cell? ⟨b,off+i * 5+3,none⟩=some kv∧w.cell? ⟨b,off+i * 5+4,none⟩=some iv∧KeysV w kv (l[i]).keys∧IntsV w iv (l[i]).kids:=by
 obtain ⟨A',cap',rows,h1,h2,h3,h4,h5,h6⟩:=h;injection h1 with e1 e2 e3
 subst e1 e2 e3;have hi':i<rows.length:=by omega
 obtain ⟨b,off,hA,hlt⟩:=h4.ptr hi';subst hA;obtain ⟨kv,iv,hr,hk,hv⟩:=h6 i hi' hi;refine ⟨rfl,h2,b,off,kv,iv,rfl,hlt,?_,?_,?_,?_,?_,hk,hv⟩
 ·exact h4.cell0 hi' (by rw [hr];rfl)
 ·exact h4.cell hi' (j:=1) (by rw [hr];rfl)
 ·exact h4.cell hi' (j:=2) (by rw [hr];rfl)
 ·exact h4.cell hi' (j:=3) (by rw [hr];rfl)
 ·exact h4.cell hi' (j:=4) (by rw [hr];rfl)
theorem func_cells {w:World} {A:Option Addr} {n cap:Nat} {l:List FuncD} (h:FuncsV w (.slice A n cap) l) {i:Nat} (hi:i<l.length):n=l.length∧n≤cap∧∃ b off kv,A=some ⟨b,off,none⟩∧b<w.heap.size ∧
  w.cell? ⟨b,off+i * 3,none⟩=some (.string (l[i]).name)∧w.cell? ⟨b,off+i * 3+1,none⟩=some kv∧w.cell? ⟨b,off+i * 3+2,none⟩=some (.int .i64 (l[i]).body)∧KeysV w kv (l[i]).params:=by
 obtain ⟨A',cap',rows,h1,h2,h3,h4,h5,h6⟩:=h;injection h1 with e1 e2 e3
 subst e1 e2 e3;have hi':i<rows.length:=by omega
 obtain ⟨b,off,hA,hlt⟩:=h4.ptr hi';subst hA;obtain ⟨kv,hr,hk⟩:=h6 i hi' hi;refine ⟨rfl,h2,b,off,kv,rfl,hlt,?_,?_,?_,hk⟩
 ·exact h4.cell0 hi' (by rw [hr];rfl)
 ·exact h4.cell hi' (j:=1) (by rw [hr];rfl)
 ·exact h4.cell hi' (j:=2) (by rw [hr];rfl)
theorem KeysV.shape {w:World} {v:Value} {l:List ByteArray} (h:KeysV w v l):∃ A cap,v=.slice A l.length cap:=by
 obtain ⟨A,cap,rfl,_⟩:=h;exact ⟨A,cap,rfl⟩
theorem IntsV.shape {w:World} {v:Value} {l:List Int} (h:IntsV w v l):∃ A cap,v=.slice A l.length cap:=by
 obtain ⟨A,cap,_,rfl,_⟩:=h;exact ⟨A,cap,rfl⟩
section
attribute [local go_sem] zacZ
set_option maxHeartbeats 2000000 in
theorem stext_any (s:ByteArray) (w:World) (hs:s.size≤140737488351232) (hp:Pow w):Calls prog 203 #[.string s] w fun e w'=>(∃ b,e=.returned (.bool b)∧(b=true↔StrOk s))∧Below w.heap.size w w':=by
 have hsl:SlAt (w.alloc (.cells #[.int .i64 4,.int .i64 0,.string s,.int .i64 0] 103)) (some ⟨w.heap.size,0,none⟩) 4 CellD.cells [strC s]:=rows_new rfl _ _ [strC s] rfl (fun _=>rfl) (by omega) (by show 1≤maxLen;unfold maxLen;omega);have hb0:=zabZ w (.cells #[.int .i64 4,.int .i64 0,.string s,.int .i64 0] 103);obtain ⟨k,hk⟩:∃ k,checkF [strC s]=k:=⟨_,rfl⟩
 have hC0:=(za7Y [strC s] (some ⟨w.heap.size,0,none⟩) 1 _ hsl (hp.below hb0) (by show 1≤10000;omega) (Nat.le_refl _) (by intro c hc;simp at hc;subst hc;exact okC_str s hs))
 rw [hk] at hC0;have HC:Hid (Calls prog 152 #[.slice (some ⟨w.heap.size,0,none⟩) 1 1] (w.alloc (.cells #[.int .i64 4,.int .i64 0,.string s,.int .i64 0] 103)) fun e w'=>e=.returned (.int .i64 k)∧Below (w.alloc (.cells #[.int .i64 4,.int .i64 0,.string s,.int .i64 0] 103)).heap.size (w.alloc (.cells #[.int .i64 4,.int .i64 0,.string s,.int .i64 0] 103)) w'):=hZz hC0;clear hC0;have HK:Hid (k=0↔StrOk s):=hZz (by rw [← hk];exact zblY s);have HB0:=hZz hb0;obtain ⟨P,hP⟩:∃ P:Ending→World→Prop,(fun e w'=>(∃ b,e=.returned (.bool b)∧(b=true↔StrOk s))∧Below w.heap.size w w')=P:=⟨_,rfl⟩
 rw [hP];have HP:=hZz hP
 have hC2:Calls prog 153 #[.slice (some ⟨w.heap.size,0,none⟩) 1 1] (w.alloc (.cells #[.int .i64 4,.int .i64 0,.string s,.int .i64 0] 103)) fun e w'=>(∃ v,e=.returned (.tuple #[v,.int .i64 k]))∧Below w.heap.size w w':=by
  clear hP HP HK hk hsl hb0 hp hs;go_enter func153,ntmps153
  go_wp2_with (first
   | (go_at_call 152;(with_reducible refine HC.out.mono ?_);rintro e w1 ⟨rfl,hb1⟩;have HB1:=hZz (zafZ hb1 HB0.out);clear hb1))
  ·go_returns
   exact ⟨⟨_,rfl⟩,HB1.out⟩
  ·go_returns
   have hk0:k=0:=by simp_all
   exact ⟨⟨_,by rw [hk0];rfl⟩,HB1.out⟩
 have HC2:=hZz hC2;clear hP hk hsl hb0 hp hs hC2 HC
 have hstr:Calls prog 161 #[.string s] w fun e w'=>(∃ v,e=.returned (.tuple #[v,.int .i64 k]))∧Below w.heap.size w w':=by
  clear HP HK;go_enter func161,ntmps161
  go_wp2_with (first
   | (go_at_call 153;(with_reducible refine HC2.out.mono ?_);rintro e w1 ⟨⟨v,rfl⟩,hb1⟩;have HB1:=hZz hb1;clear hb1))
  go_returns;exact ⟨⟨_,rfl⟩,HB1.out⟩
 have HS:=hZz hstr;clear hstr HC2;go_enter func203,ntmps203
 go_wp2_with (first
  | (go_at_call 161;(with_reducible refine HS.out.mono ?_);rintro e w1 ⟨⟨v,rfl⟩,hb1⟩;have HB1:=hZz hb1;clear hb1))
 rw [← HP.out];exact ⟨⟨k == 0,rfl,by simp;exact HK.out⟩,HB1.out⟩
set_option maxHeartbeats 4000000 in
theorem skeys_any (l:List ByteArray) (v:Value) (w:World) (hl:l.length≤10000) (hok:∀ k∈l,k.size≤140737488351232) (hp:Pow w) (h:KeysV w v l) :
  Calls prog 204 #[v] w fun e w'=>(∃ b,e=.returned (.bool b)∧(b=true↔AscOk l))∧Below w.heap.size w w':=by
 obtain ⟨P,hP⟩:∃ P:Ending→World→Prop,(fun e w'=>(∃ b,e=.returned (.bool b)∧(b=true↔AscOk l))∧Below w.heap.size w w')=P:=⟨_,rfl⟩
 rw [hP];have HP:=hZz hP;obtain ⟨A,cap,rfl,hcap,hs⟩:=h;have HA:=hZz hs;have HW:=hZz hp;have HK:=hZz hok;clear hP hs hp hok;go_enter func204,ntmps204
 go_wp2_with (fail)
 go_loopw [3,4,7] (fun _ _ iv wr=>∃ k:Nat,k≤l.length∧iv=.int .i64 k∧Hid (∀ i (h:i<l.length),i<k→AscAt l i h)∧Below w.heap.size w wr) (fun _ _ iv _=>l.length - (intOf iv).toNat)
 case atStart=>exact ⟨0,Nat.zero_le _,rfl,hZz (fun i h h2=>by omega),Below.refl _ _⟩
 case round =>
  obtain ⟨k,hk,rfl,HR,hbel⟩:=hrel;have HB:=hZz hbel;clear hbel;have hk0:(0:Int)≤(k:Int):=by omega
  by_cases hlt:k<l.length
  ·have hlt':(k:Int)<(l.length:Int):=by omega
   have hsa:=HA.out.below HB.out;obtain ⟨x,hx⟩:∃ x,l[k]=x:=⟨_,rfl⟩
   obtain ⟨bA,off,rfl,_⟩:=hsa.ptr hlt;have c0:=hsa.cell0 hlt (v:=.string x) (by rw [hx];rfl);have HT:Hid (∀ wx,Pow wx→Calls prog 203 #[.string x] wx fun e w'=>(∃ b,e=.returned (.bool b)∧(b=true↔StrOk x))∧Below wx.heap.size wx w'):=hZz (fun wx hpx=>stext_any x wx (HK.out x (hx ▸ List.getElem_mem hlt)) hpx);have HX:=hZz hx;simp only [Nat.mul_one] at c0;clear hsa hx;by_cases hp0:0<k
   ·have hp0':(0:Int)<(k:Int):=by omega
    have hk1:(0:Int)≤(k:Int) - 1:=by omega
    have hlt1:k - 1<l.length:=by omega
    have hlt1':(k:Int) - 1<(l.length:Int):=by omega
    obtain ⟨y,hy⟩:∃ y,l[k - 1]=y:=⟨_,rfl⟩
    have HY:=hZz hy
    have HC1:Hid (∀ wx,SlAt wx (some ⟨bA,off,none⟩) 1 strCs l→wx.cell? ⟨bA,off+(k - 1),none⟩=some (.string y)):=hZz (fun wx hx=>by
     have:=hx.cell0 hlt1 (v:=.string y) (by rw [hy];rfl)
     simpa only [Nat.mul_one] using this)
    have htn:((k:Int) - 1).toNat=k - 1:=by omega
    clear hy;cases hle:sleB x y with
    | true =>
     have h5:(Op.bytesLess x.toList y.toList || x.toList == y.toList)=true:=hle
     have HNO:Hid (¬ AscOk l):=hZz (fun h=>by
      have:=(h k hlt).2 hp0
      rw [HX.out,HY.out,hle] at this;cases this)
     clear hle
     go_wp2_with (first
      | (go_at_call 203;(with_reducible refine (HT.out _ (HW.out.below HB.out)).mono ?_);rintro e w1 ⟨⟨b,rfl,hb⟩,hb1⟩;have hy1:=zaaZ hb1 HB.out HB.out.size;have HB1:=hZz hy1;have d1:=HC1.out _ (HA.out.below hy1);clear hb1 hy1 hb;cases b))
     all_goals
      rw [← HP.out];exact ⟨⟨false,rfl,by simp;exact HNO.out⟩,HB1.out⟩
    | false =>
     have h5:(Op.bytesLess x.toList y.toList || x.toList == y.toList)=false:=hle;have HLE:=hZz hle;clear hle
     go_wp2_with (first
      | (go_at_call 203;(with_reducible refine (HT.out _ (HW.out.below HB.out)).mono ?_);rintro e w1 ⟨⟨b,rfl,hb⟩,hb1⟩;have hy1:=zaaZ hb1 HB.out HB.out.size;have HB1:=hZz hy1;have d1:=HC1.out _ (HA.out.below hy1);have HBQ:=hZz hb;clear hb1 hy1 hb;cases b))
     ·rw [← HP.out]
      exact ⟨⟨false,rfl,by simp;intro h;have:=HBQ.out.2 (by have:=(h k hlt).1;rwa [HX.out] at this);cases this⟩,HB1.out⟩
     ·exact ⟨⟨k+1,by omega,by simp,hZz (fun i h h2=>by
       by_cases e:i=k
       ·subst e
        refine ⟨by rw [HX.out];exact HBQ.out.1 (by trivial),fun _=>by rw [HX.out,HY.out];exact HLE.out⟩
       ·exact HR.out i h (by omega)),HB1.out⟩,by simp [intOf];omega⟩
   ·have hp0':¬ (0:Int)<(k:Int):=by omega
    go_wp2_with (first
     | (go_at_call 203;(with_reducible refine (HT.out _ (HW.out.below HB.out)).mono ?_);rintro e w1 ⟨⟨b,rfl,hb⟩,hb1⟩;have HB1:=hZz (zaaZ hb1 HB.out HB.out.size);have HBQ:=hZz hb;clear hb1 hb;cases b))
    ·rw [← HP.out]
     exact ⟨⟨false,rfl,by simp;intro h;have:=HBQ.out.2 (by have:=(h k hlt).1;rwa [HX.out] at this);cases this⟩,HB1.out⟩
    ·exact ⟨⟨k+1,by omega,by simp,hZz (fun i h h2=>by
      by_cases e:i=k
      ·subst e
       exact ⟨by rw [HX.out];exact HBQ.out.1 (by trivial),fun h=>absurd h hp0⟩
      ·exact HR.out i h (by omega)),HB1.out⟩,by simp [intOf];omega⟩
  ·have e:k=l.length:=by omega
   subst e;go_wp2_with (fail)
   rw [← HP.out];exact ⟨⟨true,rfl,by simp;exact fun i h=>HR.out i h h⟩,HB.out⟩
end
section
theorem str_iff (s:ByteArray):StrOk s↔strB s=true:=by unfold StrOk strB;simp
theorem isE (l:List UInt8):l.isEmpty=decide (l=[]):=by cases l <;> simp
theorem lbe (a b:List UInt8):(a == b)=decide (a=b):=by rw [Bool.eq_iff_iff];simp
theorem keys_iff (l:List ByteArray):AscOk l↔keysB l=true:=by
 unfold AscOk keysB;rw [List.all_eq_true]
 have key:∀ i (h:i<l.length),AscAt l i h↔keyAtB l i=true:=by
  intro i h;unfold AscAt keyAtB;rw [zakZ h,Bool.and_eq_true,str_iff];by_cases h0:i=0
  ·subst h0;simp
  ·rw [zakZ (show i - 1<l.length by omega)]
   simp only [h0,decide_false,Bool.false_or,Bool.not_eq_true',and_congr_right_iff];intro _;exact ⟨fun g=>g (by omega),fun g _=>g⟩
 constructor
 ·intro h i hi
  have hi':i<l.length:=by simpa using hi
  exact (key i hi').1 (h i hi')
 ·intro h i hi
  exact (key i hi).2 (h i (by simpa using hi))
def fieldsK (k:Int) (t:ByteArray) (n:Int) (q m:Nat) (b1 b2 b3 b4 b5:Bool):Bool :=
 if (k≠7∧q≠0)∨(k≠2∧k≠3∧n≠0) then false
 else if k=2 then decide (t.toList=[]) && (decide (n=0) || decide (n=1))
 else if k=3 then decide (t.toList=[]) && (decide (0≤n) && decide (n≤1000000000000))
 else if k=4 then b1
 else if k=5∨k=11∨k=13∨k=14 then b2
 else if k=12 then b3
 else if k=7 then decide (t.toList=[]) && (decide (q=m) && b4)
 else if k=8 then decide (t.toList=[45]) || decide (t.toList=[110,111,116])
 else if k=9 then b5
 else decide (t.toList=[])
theorem fields_K (n:NodeD):fieldsB n=fieldsK n.kind n.text n.int n.keys.length n.kids.length (strB n.text) (nameB n.text) (runB n.text) (keysB n.keys) (decide (0<lvlF n.text)):=by
 unfold fieldsB fieldsK;simp only [ne_eq,List.length_eq_zero_iff]
attribute [local go_sem] zacZ
set_option maxHeartbeats 16000000 in
theorem fields_s (n:NodeD) (kA iA:Option Addr) (kc ic:Nat) (w:World) (hk:KeysV w (.slice kA n.keys.length kc) n.keys) (hp:Pow w) (ht:n.text.size≤140737488351232) (hq:n.keys.length≤10000) (hks:∀ k∈n.keys,k.size≤140737488351232):Calls prog 176 #[.agg (nodeC n kA kc iA ic)] w fun e w'=>e=.returned (.bool (fieldsB n))∧Below w.heap.size w w':=by
 obtain ⟨P,hP⟩:∃ P:Ending→World→Prop,(fun e w'=>e=.returned (.bool (fieldsB n))∧Below w.heap.size w w')=P:=⟨_,rfl⟩
 rw [hP];have hB:∀ o,Below w.heap.size w (w.alloc o):=fun o=>zabZ w o
 have HB0:=hZz hB;obtain ⟨F,hF⟩:∃ F,fieldsB n=F:=⟨_,rfl⟩
 obtain ⟨b1,h1⟩:∃ b,strB n.text=b:=⟨_,rfl⟩
 obtain ⟨b2,h2⟩:∃ b,nameB n.text=b:=⟨_,rfl⟩
 obtain ⟨b3,h3⟩:∃ b,runB n.text=b:=⟨_,rfl⟩
 obtain ⟨b4,h4⟩:∃ b,keysB n.keys=b:=⟨_,rfl⟩
 obtain ⟨b5,h5⟩:∃ b,decide (0<lvlF n.text)=b:=⟨_,rfl⟩
 have H1:Hid (∀ o,Calls prog 203 #[.string n.text] (w.alloc o) fun e w'=>e=.returned (.bool b1)∧Below w.heap.size w w'):=hZz (fun o=>(stext_any n.text _ ht (hp.below (hB o))).mono (by
  rintro e w' ⟨⟨b,rfl,hb⟩,hbel⟩;refine ⟨?_,zafZ hbel (hB o)⟩
  have:b=b1:=by rw [← h1,Bool.eq_iff_iff,hb,str_iff]
  rw [this]))
 have H2:Hid (∀ o,Calls prog 132 #[.string n.text] (w.alloc o) fun e w'=>e=.returned (.bool b2)∧Below w.heap.size w w'):=hZz (fun o=>(name_s n.text _ ht).mono (by
  rintro e w' ⟨rfl,rfl⟩;exact ⟨by rw [h2],hB o⟩))
 have H3:Hid (∀ o,Calls prog 173 #[.string n.text] (w.alloc o) fun e w'=>e=.returned (.bool b3)∧Below w.heap.size w w'):=hZz (fun o=>(run_s n.text _ ht).mono (by
  rintro e w' ⟨rfl,rfl⟩;exact ⟨by rw [h3],hB o⟩))
 have H4:Hid (∀ o,Calls prog 204 #[.slice kA n.keys.length kc] (w.alloc o) fun e w'=>e=.returned (.bool b4)∧Below w.heap.size w w'):=hZz (fun o=>(skeys_any n.keys _ _ hq hks (hp.below (hB o)) (hk.below (hB o))).mono (by
  rintro e w' ⟨⟨b,rfl,hb⟩,hbel⟩;refine ⟨?_,zafZ hbel (hB o)⟩
  have:b=b4:=by rw [← h4,Bool.eq_iff_iff,hb,keys_iff]
  rw [this]))
 have H5:Hid (∀ o,Calls prog 205 #[.string n.text] (w.alloc o) fun e w'=>e=.returned (.bool b5)∧Below w.heap.size w w'):=hZz (fun o=>(operator_s n.text _).mono (by
  rintro e w' ⟨rfl,rfl⟩;exact ⟨by rw [h5],hB o⟩))
 have HF:Hid (F=fieldsK n.kind n.text n.int n.keys.length n.kids.length b1 b2 b3 b4 b5):=hZz (by rw [← hF,← h1,← h2,← h3,← h4,← h5];exact fields_K n);rw [hF] at hP;have HP:=hZz hP;have hq':(n.keys.length:Int)≤10000:=by omega
 clear hP hF h1 h2 h3 h4 h5 hB hk hp ht hq hks;unfold nodeC;generalize n.kind=k at HF ⊢;generalize n.kids.length=m at HF ⊢;generalize n.keys.length=q at HF H4 hq' ⊢;generalize n.text=t at HF H1 H2 H3 H5 ⊢;generalize n.int=j at HF ⊢;have hk:k=2∨k=3∨k=4∨k=5∨k=11∨k=13∨k=14∨k=12∨k=7∨k=8∨k=9∨(k≠2∧k≠3∧k≠4∧k≠5∧k≠11∧k≠13∧k≠14∧k≠12∧k≠7∧k≠8∧k≠9):=by omega
 go_enter func176,ntmps176
 rcases hk with rfl | rfl | rfl | rfl | rfl | rfl | rfl | rfl | rfl | rfl | rfl | ⟨g1,g2,g3,g4,g5,g6,g7,g8,g9,g10,g11⟩
 all_goals
  go_wp2_with (first
   | (go_at_call 203;(with_reducible refine (H1.out _).mono ?_);rintro e w1 ⟨rfl,hb1⟩;have HB1:=hZz hb1;clear hb1)
   | (go_at_call 132;(with_reducible refine (H2.out _).mono ?_);rintro e w1 ⟨rfl,hb1⟩;have HB1:=hZz hb1;clear hb1)
   | (go_at_call 173;(with_reducible refine (H3.out _).mono ?_);rintro e w1 ⟨rfl,hb1⟩;have HB1:=hZz hb1;clear hb1)
   | (go_at_call 204;(with_reducible refine (H4.out _).mono ?_);rintro e w1 ⟨rfl,hb1⟩;have HB1:=hZz hb1;clear hb1)
   | (go_at_call 205;(with_reducible refine (H5.out _).mono ?_);rintro e w1 ⟨rfl,hb1⟩;have HB1:=hZz hb1;clear hb1))
 all_goals
  rw [← HP.out];refine ⟨?_,by first | exact HB1.out | exact HB0.out _⟩
  rw [HF.out];clear HF H1 H2 H3 H4 H5 HB0 HP
  first
   | (simp_all [fieldsK,ib,nb0];done)
   | (simp_all [fieldsK,ib,nb0,isE,lbe];done)
   | (simp_all [fieldsK,ib,nb0];omega)
   | (simp_all [fieldsK,ib,nb0];intros;omega)
   | (simp_all [fieldsK,ib,nb0,isE,lbe];intros;omega)
end
section
theorem wholeB_iff (s:ByteArray):wholeB s=true↔Whole s:=by
 rw [zcsY];constructor
 ·rintro ⟨h1,h2⟩
  refine ⟨h1,fun h=>by have:=h2 0 h;simpa using this,fun i h=>?_⟩
  have:=h2 i h
  by_cases e:i=0
  ·rw [if_pos e] at this;exact let_wrd this
  ·rwa [if_neg e] at this
 ·rintro ⟨h1,h2,h3⟩
  refine ⟨h1,fun i h=>?_⟩
  by_cases e:i=0
  ·rw [if_pos e];subst e;exact h2 h
  ·rw [if_neg e];exact h3 i h
theorem runB_iff (s:ByteArray):runB s=true↔Whole s∧s.size≤24:=by
 unfold runB;rw [Bool.and_eq_true,decide_eq_true_eq,wholeB_iff,and_comm]
theorem nameB_iff (s:ByteArray):nameB s=true↔NameOk s:=by
 unfold nameB NameOk;rw [Bool.and_eq_true,runB_iff];cases kwB s <;> simp
theorem zc0Y (s:ByteArray):strB s=true↔StrOk s:=by
 unfold strB StrOk;rw [Bool.and_eq_true,decide_eq_true_eq]
attribute [local go_sem] zacZ
theorem rtext_host (s:ByteArray) (w:World) (hs:s.size≤140737488351232):Calls prog 149 #[.agg #[.int .i64 6,.string s,.int .i64 0,.int .i64 0]] w fun e w'=>(∃ t k,e=.returned (.tuple #[.string t,.int .i64 k])∧(k=0↔runB s=true))∧Below w.heap.size w w':=by
 obtain ⟨n,hn⟩:=runAt_ex s;have HR:=hZz hn;have HC:Hid (∀ wx,Calls prog 181 #[.string s,.int .i64 0] wx fun e w'=>e=.returned (.int .i64 n)∧w'=wx):=hZz (fun wx=>rrun_any s n wx hs hn);have HB0:=hZz (zabZ w (.cells #[.int .i64 6,.string s,.int .i64 0,.int .i64 0] 184));obtain ⟨P,hP⟩:∃ P:Ending→World→Prop,(fun e w'=>(∃ t k,e=.returned (.tuple #[.string t,.int .i64 k])∧(k=0↔runB s=true))∧Below w.heap.size w w')=P:=⟨_,rfl⟩
 rw [hP];have HP:=hZz hP;have HI:=hZz (runB_iff s);have hs9:(s.size:Int)≤140737488351232:=by omega
 clear hP hn;by_cases h0:(0:Int)<(s.size:Int)
 ·have h0':0<s.size:=by omega
  by_cases h24:(s.size:Int)≤24
  ·by_cases hnn:n=s.size
   ·have hnn':((n:Int) == (s.size:Int))=true:=by simp;omega
    have HN:=hZz hnn;clear hnn;go_enter func149,ntmps149
    go_upto_region 3 with fail
    go_quiet (first
     | ((with_reducible refine (HC.out _).mono ?_);rintro e w2 ⟨h1,h2⟩;exact ⟨h1,_,h2⟩))
    go_wp2_with (fail)
    rw [← HP.out];exact ⟨⟨_,0,rfl,⟨fun _=>HI.out.2 ⟨(HR.out.whole h0').1 HN.out,by omega⟩,fun _=>rfl⟩⟩,zaiZ HB0.out _⟩
   ·have hnn':((n:Int) == (s.size:Int))=false:=by simp;omega
    have HNO:Hid (¬ runB s=true):=hZz (fun h=>hnn ((HR.out.whole h0').2 (HI.out.1 h).1));clear hnn;go_enter func149,ntmps149
    go_upto_region 3 with fail
    go_quiet (first
     | ((with_reducible refine (HC.out _).mono ?_);rintro e w2 ⟨h1,h2⟩;exact ⟨h1,_,h2⟩))
    go_wp2_with (fail)
    rw [← HP.out];exact ⟨⟨_,1,rfl,⟨fun h=>by omega,fun h=>absurd h HNO.out⟩⟩,zaiZ HB0.out _⟩
  ·have HNO:Hid (¬ runB s=true):=hZz (fun h=>h24 (by have:=(HI.out.1 h).2;omega))
   go_enter func149,ntmps149
   go_upto_region 3 with fail
   go_quiet (fail);go_wp2_with (fail)
   rw [← HP.out];exact ⟨⟨_,1,rfl,⟨fun h=>by omega,fun h=>absurd h HNO.out⟩⟩,zaiZ HB0.out _⟩
 ·have HNO:Hid (¬ runB s=true):=hZz (fun h=>h0 (by have:=(HI.out.1 h).1.1;omega))
  have he:s=ByteArray.empty:=by
   have hz:s.size=0:=by omega
   simpa using hz
  subst he;clear h0;go_enter func149,ntmps149
  go_upto_region 3 with fail
  go_quiet (fail);go_wp2_with (fail)
  rw [← HP.out];exact ⟨⟨_,1,rfl,⟨fun h=>by omega,fun h=>absurd h HNO.out⟩⟩,zaiZ HB0.out _⟩
theorem name8_s (s:ByteArray) (w:World) (hs:s.size≤140737488351232):Calls prog 125 #[.string s] w fun e w'=>e=.returned (.bool (nameB s))∧Below w.heap.size w w':=by
 have HC:=hZz (rtext_name s w hs);obtain ⟨P,hP⟩:∃ P:Ending→World→Prop,(fun e w'=>e=.returned (.bool (nameB s))∧Below w.heap.size w w')=P:=⟨_,rfl⟩
 rw [hP];have HP:=hZz hP;have HI:=hZz (nameB_iff s);clear hP;go_enter func125,ntmps125
 go_upto_region 2 with (first
  | (go_at_call 149;(with_reducible refine HC.out.mono ?_);rintro e w1 ⟨⟨t,k,rfl,hk⟩,hb1⟩;have HB1:=hZz hb1;have HKK:=hZz hk;clear hb1 hk))
 by_cases hk:k=0
 ·subst hk
  go_wp2_with (fail)
  rw [← HP.out];exact ⟨by rw [HI.out.2 (HKK.out.1 (by trivial))],HB1.out⟩
 ·have hk':(k == 0)=false:=by simpa using hk
  go_wp2_with (fail)
  rw [← HP.out]
  have h2:nameB s=false:=by
   cases h:nameB s with
   | false=>rfl
   | true=>exact absurd (HKK.out.2 (HI.out.1 h)) hk
  exact ⟨by rw [h2,← hk'];rfl,HB1.out⟩
theorem str8_s (s:ByteArray) (w:World) (hs:s.size≤140737488351232):Calls prog 165 #[.string s] w fun e w'=>e=.returned (.bool (strB s))∧Below w.heap.size w w':=by
 have HC:=hZz (rtext_str s w hs);obtain ⟨P,hP⟩:∃ P:Ending→World→Prop,(fun e w'=>e=.returned (.bool (strB s))∧Below w.heap.size w w')=P:=⟨_,rfl⟩
 rw [hP];have HP:=hZz hP;have HI:=hZz (zc0Y s);clear hP;go_enter func165,ntmps165
 go_upto_region 2 with (first
  | (go_at_call 149;(with_reducible refine HC.out.mono ?_);rintro e w1 ⟨⟨t,k,rfl,hk⟩,hb1⟩;have HB1:=hZz hb1;have HKK:=hZz hk;clear hb1 hk))
 by_cases hk:k=0
 ·subst hk
  go_wp2_with (fail)
  rw [← HP.out];exact ⟨by rw [HI.out.2 (HKK.out.1 (by trivial))],HB1.out⟩
 ·have hk':(k == 0)=false:=by simpa using hk
  go_wp2_with (fail)
  rw [← HP.out]
  have h2:strB s=false:=by
   cases h:strB s with
   | false=>rfl
   | true=>exact absurd (HKK.out.2 (HI.out.1 h)) hk
  exact ⟨by rw [h2,← hk'];rfl,HB1.out⟩
def cmpS (s:ByteArray):Bool:=decide (s.toList∈([[61,61],[33,61],[60],[60,61],[62],[62,61]]:List (List UInt8)))
theorem compares8_s (s:ByteArray) (w:World):Calls prog 200 #[.string s] w fun e w'=>e=.returned (.bool (cmpS s))∧w'=w:=by
 have hl:cmpS s=(s.toList == [61,61] || s.toList == [33,61] || s.toList == [60] || s.toList == [60,61] || s.toList == [62] || s.toList == [62,61]):=by
  unfold cmpS;rw [Bool.eq_iff_iff];simp [or_assoc]
 rw [hl];clear hl;by_cases h1:s.toList=[61,61]
 ·go_enter func200,ntmps200
  go_wp2
  all_goals (go_returns;exact ⟨by simp [h1],rfl⟩)
 by_cases h2:s.toList=[33,61]
 ·go_enter func200,ntmps200
  go_wp2
  all_goals (go_returns;exact ⟨by simp [h2],rfl⟩)
 go_enter func200,ntmps200
 go_wp2
 all_goals (go_returns;exact ⟨by simp_all,rfl⟩)
theorem binary8_s (s:ByteArray) (w:World):Calls prog 166 #[.string s] w fun e w'=>e=.returned (.bool (decide (0<lvlF s)))∧w'=w:=by
 have HC:Hid (∀ wx,Calls prog 200 #[.string s] wx fun e w'=>e=.returned (.bool (cmpS s))∧w'=wx):=hZz (compares8_s s);obtain ⟨b,hb⟩:∃ b,cmpS s=b:=⟨_,rfl⟩
 have hl:decide (0<lvlF s)=(s.toList == [111,114] || s.toList == [97,110,100] || b || s.toList == [43] || s.toList == [45] || s.toList == [42] || s.toList == [47] || s.toList == [37]):=by
  rw [← hb];unfold cmpS lvlF;by_cases h1:s.toList=[111,114]
  ·simp [h1]
  by_cases h2:s.toList=[97,110,100]
  ·simp [h2]
  by_cases h3:s.toList∈([[61,61],[33,61],[60],[60,61],[62],[62,61]]:List (List UInt8))
  ·rw [if_neg h1,if_neg h2,if_pos h3,decide_eq_true h3];simp
  rw [if_neg h1,if_neg h2,if_neg h3,decide_eq_false h3];by_cases h4:s.toList=[43]
  ·simp [h4]
  by_cases h5:s.toList=[45]
  ·simp [h5]
  by_cases h6:s.toList=[42]
  ·simp [h6]
  by_cases h7:s.toList=[47]
  ·simp [h7]
  by_cases h8:s.toList=[37]
  ·simp [h8]
  simp [h1,h2,h4,h5,h6,h7,h8]
 rw [hl];rw [hb] at HC;clear hl hb;go_enter func166,ntmps166
 go_wp2_with (first
  | (go_at_call 200;(with_reducible refine (HC.out _).mono ?_);rintro e w1 ⟨rfl,hw1⟩;rw [hw1];clear hw1 w1))
 all_goals (go_returns;exact ⟨by first | rfl | simp_all,rfl⟩)
end
abbrev NodeX:=NodeD × Value × Value
def nodeRow (p:NodeX):List Value:=[.int .i64 p.1.kind,.string p.1.text,.int .i64 p.1.int,p.2.1,p.2.2]
abbrev FuncX:=FuncD × Value
def funcRow (p:FuncX):List Value:=[.string p.1.name,p.2,.int .i64 p.1.body]
theorem zb6Y {w:World} {base n cap size:Nat} {A:Option Addr} {xs:List Value} {e:TypeId} (h:w.ownsRow base e size (.slice A n cap) n xs):n≤cap:=by
 rcases h.2 with ⟨e1,e2⟩ | ⟨g,c,cur,e1,_,_,hc,_⟩
 ·omega
 ·injection e1 with _ _ e4
  omega
theorem ints_own {w:World} {n0:Nat} {v:Value} {l:List Int} {e:TypeId} (h:w.ownsRow n0 e 1 v l.length (l.map (Value.int .i64))) (hl:l.length≤17592186043904):IntsV w v l:=by
 obtain ⟨A,cap,rfl⟩:=zahZ h;refine ⟨A,cap,l.map (fun k=>[Value.int .i64 k]),rfl,zb6Y h,hl,?_,by simp,fun i h1 h2=>by simp [intR]⟩
 have hs:=SlAt.of_own (c:=fun k=>[Value.int .i64 k]) (l:=l) h (by rw [← List.map_eq_flatMap]) (fun _=>rfl) (by decide);unfold SlAt at hs ⊢
 rwa [List.map_id']
theorem keys_ownV {w:World} {n0:Nat} {v:Value} {l:List ByteArray} {e:TypeId} (h:w.ownsRow n0 e 1 v l.length (l.map Value.string)):KeysV w v l:=by
 obtain ⟨A,cap,rfl⟩:=zahZ h;exact ⟨A,cap,rfl,zb6Y h,SlAt.of_own h (show l.map Value.string=l.flatMap strCs from List.map_eq_flatMap) (fun _=>rfl) (by decide)⟩
theorem ints_sl {w:World} {A:Option Addr} {cap:Nat} {l:List Int} (h:SlAt w A 1 (fun k=>[Value.int .i64 k]) l) (hc:l.length≤cap) (hl:l.length≤17592186043904):IntsV w (.slice A l.length cap) l:=by
 refine ⟨A,cap,l.map (fun k=>[Value.int .i64 k]),rfl,hc,hl,?_,by simp,fun i h1 h2=>by simp [intR]⟩
 unfold SlAt at h ⊢
 rwa [List.map_id']
theorem nodes_sl {w:World} {A:Option Addr} {cap:Nat} {L:List NodeX} (h:SlAt w A 5 nodeRow L) (hp:∀ p∈L,KeysV w p.2.1 p.1.keys∧IntsV w p.2.2 p.1.kids) (hc:L.length≤cap) (hl:L.length≤1000000):NodesV w (.slice A L.length cap) (L.map Prod.fst):=by
 refine ⟨A,cap,L.map nodeRow,by rw [List.length_map],by rw [List.length_map];exact hc,by rw [List.length_map];omega,?_,by simp,fun i h1 h2=>?_⟩
 ·unfold SlAt at h ⊢
  rwa [List.map_id']
 ·have hi:i<L.length:=by simpa using h1
  obtain ⟨k1,k2⟩:=hp L[i] (List.getElem_mem hi);refine ⟨L[i].2.1,L[i].2.2,by simp [nodeRow],?_,?_⟩
  ·simpa using k1
  ·simpa using k2
theorem funcs_sl {w:World} {A:Option Addr} {cap:Nat} {L:List FuncX} (h:SlAt w A 3 funcRow L) (hp:∀ p∈L,KeysV w p.2 p.1.params) (hc:L.length≤cap) (hl:L.length≤1000000):FuncsV w (.slice A L.length cap) (L.map Prod.fst):=by
 refine ⟨A,cap,L.map funcRow,by rw [List.length_map],by rw [List.length_map];exact hc,by rw [List.length_map];omega,?_,by simp,fun i h1 h2=>?_⟩
 ·unfold SlAt at h ⊢
  rwa [List.map_id']
 ·have hi:i<L.length:=by simpa using h1
  refine ⟨L[i].2,by simp [funcRow],?_⟩
  simpa using hp L[i] (List.getElem_mem hi)
section
theorem sl_blk {α:Type} {w:World} {g:Nat} {t:TypeId} {cs:Array Value} {sz:Nat} {c:α→List Value} {l:List α} (h:Blk w g t cs) (hx:cs.toList=l.flatMap c) (hc:∀ a,(c a).length=sz) (hsz:0<sz) (hl:l.length≤maxLen):SlAt w (some ⟨g,0,none⟩) sz c l:=by
 have hlen:cs.toList.length=l.length * sz:=by
  rw [hx];clear hx hl;induction l with
  | nil=>simp
  | cons a r ih=>rw [List.flatMap_cons,List.length_append,hc,ih,List.length_cons,Nat.succ_mul];omega
 have ho:w.ownsRow 0 t sz (.slice (some ⟨g,0,none⟩) l.length l.length) l.length cs.toList :=
  ⟨hlen,.inr ⟨g,l.length,cs,rfl,Nat.zero_le _,h,Nat.le_refl _,hl,by simpa using hlen,by rw [← hlen];exact List.take_length⟩⟩
 exact SlAt.of_own ho hx hc hsz
def exW (w:World) (g:Nat):World:=(((((w.alloc (.cells #[.slice (some ⟨g+1+1+1,0,none⟩) 3 3,.slice (some ⟨g+1+1+1+1+1,0,none⟩) 1 1] 25)).alloc (.cells #[.int .i64 0] 3)).alloc (.cells #[.int .i64 1] 3)).alloc (.cells #[.int .i64 5,.string ⟨#[101]⟩,.int .i64 0,.slice none 0 0,.slice none 0 0,.int .i64 17,.string ⟨#[]⟩,.int .i64 0,.slice none 0 0,.slice (some ⟨g+1,0,none⟩) 1 1,.int .i64 19,.string ⟨#[]⟩,.int .i64 0,.slice none 0 0,.slice (some ⟨g+1+1,0,none⟩) 1 1] 58)).alloc (.cells #[.string ⟨#[101]⟩] 9)).alloc (.cells #[.string ⟨#[109,97,105,110]⟩,.slice (some ⟨g+1+1+1+1,0,none⟩) 1 1,.int .i64 2] 42)
def exS0 (g:Nat):ProgS:=⟨some ⟨g+1+1+1,0,none⟩,some ⟨g+1+1+1+1+1,0,none⟩,3,1,exP⟩
theorem int_blk {w:World} {g:Nat} {t:TypeId} {a:Int} (h:Blk w g t #[.int .i64 a]):IntsV w (.slice (some ⟨g,0,none⟩) 1 1) [a] :=
 ints_sl (l:=[a]) (sl_blk h rfl (fun _=>rfl) (by decide) (by simp [maxLen])) (by simp) (by simp)
theorem str_blk {w:World} {g:Nat} {t:TypeId} {s:ByteArray} (h:Blk w g t #[.string s]):KeysV w (.slice (some ⟨g,0,none⟩) 1 1) [s] :=
 ⟨_,1,rfl,by simp,sl_blk h rfl (fun _=>rfl) (by decide) (by simp [maxLen])⟩
theorem nil_keys (w:World):KeysV w (.slice none 0 0) []:=⟨none,0,rfl,by decide,SlAt.nil⟩
theorem nil_ints (w:World):IntsV w (.slice none 0 0) []:=⟨none,0,[],rfl,by decide,by decide,SlAt.nil,rfl,fun i h=>by cases h⟩
theorem exW_ok (w:World) (g:Nat) (hg:w.heap.size=g):ProgV (exW w g) (exS0 g)∧Below w.heap.size w (exW w g)∧Blk (exW w g) g 25 #[.slice (some ⟨g+1+1+1,0,none⟩) 3 3,.slice (some ⟨g+1+1+1+1+1,0,none⟩) 1 1]:=by
 subst hg;have b1:Blk (exW w w.heap.size) (w.heap.size+1) 3 #[.int .i64 0]:=((((Blk.new' (by simp)).alloc _).alloc _).alloc _).alloc _;have b2:Blk (exW w w.heap.size) (w.heap.size+1+1) 3 #[.int .i64 1]:=(((Blk.new' (by simp)).alloc _).alloc _).alloc _;have b3:Blk (exW w w.heap.size) (w.heap.size+1+1+1) 58 #[.int .i64 5,.string ⟨#[101]⟩,.int .i64 0,.slice none 0 0,.slice none 0 0,.int .i64 17,.string ⟨#[]⟩,.int .i64 0,.slice none 0 0,.slice (some ⟨w.heap.size+1,0,none⟩) 1 1,.int .i64 19,.string ⟨#[]⟩,.int .i64 0,.slice none 0 0,.slice (some ⟨w.heap.size+1+1,0,none⟩) 1 1]:=((Blk.new' (by simp)).alloc _).alloc _;have b4:Blk (exW w w.heap.size) (w.heap.size+1+1+1+1) 9 #[.string ⟨#[101]⟩]:=(Blk.new' (by simp)).alloc _;have b5:Blk (exW w w.heap.size) (w.heap.size+1+1+1+1+1) 42 #[.string ⟨#[109,97,105,110]⟩,.slice (some ⟨w.heap.size+1+1+1+1,0,none⟩) 1 1,.int .i64 2]:=Blk.new' (by simp);refine ⟨⟨?_,?_⟩,?_,(((((Blk.new' rfl).alloc _).alloc _).alloc _).alloc _).alloc _⟩
 ·refine nodes_sl (L:=[(⟨5,eS,0,[],[]⟩,.slice none 0 0,.slice none 0 0),(⟨17,⟨#[]⟩,0,[],[0]⟩,.slice none 0 0,.slice (some ⟨w.heap.size+1,0,none⟩) 1 1),(⟨19,⟨#[]⟩,0,[],[1]⟩,.slice none 0 0,.slice (some ⟨w.heap.size+1+1,0,none⟩) 1 1)]) (sl_blk b3 rfl (fun _=>rfl) (by decide) (by simp [maxLen])) (fun p hp=>?_) (by simp [exS0]) (by simp)
  simp only [List.mem_cons,List.not_mem_nil,or_false] at hp;rcases hp with rfl | rfl | rfl
  ·exact ⟨nil_keys _,nil_ints _⟩
  ·exact ⟨nil_keys _,int_blk b1⟩
  ·exact ⟨nil_keys _,int_blk b2⟩
 ·refine funcs_sl (L:=[(⟨mainS,[eS],2⟩,.slice (some ⟨w.heap.size+1+1+1+1,0,none⟩) 1 1)]) (sl_blk b5 rfl (fun _=>rfl) (by decide) (by simp [maxLen])) (fun p hp=>?_) (by simp [exS0]) (by simp)
  simp only [List.mem_cons,List.not_mem_nil,or_false] at hp;subst hp;exact str_blk b4
 ·exact (((((zabZ w _).alloc (by simp) _).alloc (by simp;omega) _).alloc (by simp;omega) _).alloc (by simp;omega) _).alloc (by simp;omega) _
attribute [local go_sem] zacZ
set_option maxHeartbeats 4000000 in
theorem example12_s (w:World):Calls prog 25 #[] w fun e w'=>∃ S:ProgS,e=.returned S.val∧S.p=exP∧ProgV w' S∧Below w.heap.size w w':=by
 obtain ⟨P,hP⟩:∃ P:Ending→World→Prop,(fun e w'=>∃ S:ProgS,e=.returned S.val∧S.p=exP∧ProgV w' S∧Below w.heap.size w w')=P:=⟨_,rfl⟩
 rw [hP];have HP:=hZz hP;obtain ⟨g,hg⟩:∃ g,w.heap.size=g:=⟨_,rfl⟩
 have HX:=hZz (exW_ok w g hg);obtain ⟨W6,hW6⟩:∃ W,exW w g=W:=⟨_,rfl⟩
 rw [hW6] at HX;unfold exW at hW6;have HW6:=hZz hW6;have HG:=hZz hg;clear hP hg hW6;go_enter func25,ntmps25
 go_wp2_with (fail)
 rw [HG.out,HW6.out];obtain ⟨z0,z1⟩:=blk2 HX.out.2.2;refine bodyPost_ret (v:=.agg #[.slice (some ⟨g+1+1+1,0,none⟩) 3 3,.slice (some ⟨g+1+1+1+1+1,0,none⟩) 1 1]) (by simp [results,Tryz.results25,go_sem,z0,z1]) rfl ?_
 rw [← HP.out];exact ⟨exS0 g,rfl,rfl,HX.out.1,HX.out.2.1⟩
end
end Go.Proofs.YthiimbhjpdphpaaGreatDoor
