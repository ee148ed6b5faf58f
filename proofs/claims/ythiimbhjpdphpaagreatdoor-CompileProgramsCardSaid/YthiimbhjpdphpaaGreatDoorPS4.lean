/- K2, P1, S1, S3, U0, S4 -/
import Derived.Test.YthiimbhjpdphpaaGreatDoorPGK1
import Derived.Test.YthiimbhjpdphpaaGreatDoorPGL4
import Derived.Test.YthiimbhjpdphpaaGreatDoorPS2
set_option linter.unusedVariables false
set_option linter.unusedSimpArgs false
namespace Go.Proofs.YthiimbhjpdphpaaGreatDoor
open Go.RowKit
set_option maxRecDepth 100000
set_option maxHeartbeats 8000000
open Go.Proofs.Tryz
section
attribute [local go_sem] zabZ
def strCs (k:ByteArray):List Value:=[.string k]
def KeysV (w:World) (v:Value) (l:List ByteArray):Prop:=∃ A cap,v=.slice A l.length cap∧l.length≤cap∧SlAt w A 1 strCs l
theorem KeysV.below {w w':World} {v:Value} {l:List ByteArray} (h:KeysV w v l) (hb:Below w.heap.size w w'):KeysV w' v l:=by
 obtain ⟨A,cap,h1,h2,h3⟩:=h;exact ⟨A,cap,h1,h2,h3.below hb⟩
set_option maxHeartbeats 4000000 in
theorem keys_any (l:List ByteArray) (v:Value) (w:World) (hl:l.length≤10000) (hok:∀ k∈l,k.size≤140737488351232) (hp:Pow w) (h:KeysV w v l) :
  Calls prog 146 #[v] w fun e w'=>(∃ b,e=.returned (.bool b)∧(b=true↔AscOk l))∧Below w.heap.size w w':=by
 obtain ⟨P,hP⟩:∃ P:Ending→World→Prop,(fun e w'=>(∃ b,e=.returned (.bool b)∧(b=true↔AscOk l))∧Below w.heap.size w w')=P:=⟨_,rfl⟩
 rw [hP];have HP:=hZz hP;obtain ⟨A,cap,rfl,hcap,hs⟩:=h;have HA:=hZz hs;have HW:=hZz hp;have HK:=hZz hok;clear hP hs hp hok;go_enter func146,ntmps146
 go_wp2_with (fail)
 go_loopw [3,4,7] (fun _ _ iv wr=>∃ k:Nat,k≤l.length∧iv=.int .i64 k∧Hid (∀ i (h:i<l.length),i<k→AscAt l i h)∧Below w.heap.size w wr) (fun _ _ iv _=>l.length - (intOf iv).toNat)
 case atStart=>exact ⟨0,Nat.zero_le _,rfl,hZz (fun i h h2=>by omega),Below.refl _ _⟩
 case round =>
  obtain ⟨k,hk,rfl,HR,hbel⟩:=hrel;have HB:=hZz hbel;clear hbel;have hk0:(0:Int)≤(k:Int):=by omega
  by_cases hlt:k<l.length
  ·have hlt':(k:Int)<(l.length:Int):=by omega
   have hsa:=HA.out.below HB.out;obtain ⟨x,hx⟩:∃ x,l[k]=x:=⟨_,rfl⟩
   obtain ⟨bA,off,rfl,_⟩:=hsa.ptr hlt;have c0:=hsa.cell0 hlt (v:=.string x) (by rw [hx];rfl);have HT:Hid (∀ wx,Pow wx→Calls prog 145 #[.string x] wx fun e w'=>(∃ b,e=.returned (.bool b)∧(b=true↔StrOk x))∧Below wx.heap.size wx w'):=hZz (fun wx hpx=>ctext_any x wx (HK.out x (hx ▸ List.getElem_mem hlt)) hpx);have HX:=hZz hx;simp only [Nat.mul_one] at c0;clear hsa hx;by_cases hp0:0<k
   ·have hp0':(0:Int)<(k:Int):=by omega
    have hk1:(0:Int)≤(k:Int) - 1:=by omega
    have hlt1:k - 1<l.length:=by omega
    have hlt1':(k:Int) - 1<(l.length:Int):=by omega
    obtain ⟨y,hy⟩:∃ y,l[k - 1]=y:=⟨_,rfl⟩
    have HY:=hZz hy
    have HC1:Hid (∀ wx,SlAt wx (some ⟨bA,off,none⟩) 1 strCs l→wx.cell? ⟨bA,off+(k - 1),none⟩=some (.string y)):=hZz (fun wx hx=>by
     have:=hx.cell0 hlt1 (v:=.string y) (by rw [hy];rfl)
     simpa only [Nat.mul_one] using this)
    have htn:((k:Int) - 1).toNat=k - 1:=by omega
    clear hy;cases hle:sleB x y with
    | true =>
     have h5:(Op.bytesLess x.toList y.toList || x.toList == y.toList)=true:=hle
     have HNO:Hid (¬ AscOk l):=hZz (fun h=>by
      have:=(h k hlt).2 hp0
      rw [HX.out,HY.out,hle] at this;cases this)
     clear hle
     go_wp2_with (first
      | (go_at_call 145;(with_reducible refine (HT.out _ (HW.out.below HB.out)).mono ?_);rintro e w1 ⟨⟨b,rfl,hb⟩,hb1⟩;have hy1:=zaaZ hb1 HB.out HB.out.size;have HB1:=hZz hy1;have d1:=HC1.out _ (HA.out.below hy1);clear hb1 hy1 hb;cases b))
     all_goals
      rw [← HP.out];exact ⟨⟨false,rfl,by simp;exact HNO.out⟩,HB1.out⟩
    | false =>
     have h5:(Op.bytesLess x.toList y.toList || x.toList == y.toList)=false:=hle;have HLE:=hZz hle;clear hle
     go_wp2_with (first
      | (go_at_call 145;(with_reducible refine (HT.out _ (HW.out.below HB.out)).mono ?_);rintro e w1 ⟨⟨b,rfl,hb⟩,hb1⟩;have hy1:=zaaZ hb1 HB.out HB.out.size;have HB1:=hZz hy1;have d1:=HC1.out _ (HA.out.below hy1);have HBQ:=hZz hb;clear hb1 hy1 hb;cases b))
     ·rw [← HP.out]
      exact ⟨⟨false,rfl,by simp;intro h;have:=HBQ.out.2 (by have:=(h k hlt).1;rwa [HX.out] at this);cases this⟩,HB1.out⟩
     ·exact ⟨⟨k+1,by omega,by simp,hZz (fun i h h2=>by
       by_cases e:i=k
       ·subst e
        refine ⟨by rw [HX.out];exact HBQ.out.1 (by trivial),fun _=>by rw [HX.out,HY.out];exact HLE.out⟩
       ·exact HR.out i h (by omega)),HB1.out⟩,by simp [intOf];omega⟩
   ·have hp0':¬ (0:Int)<(k:Int):=by omega
    go_wp2_with (first
     | (go_at_call 145;(with_reducible refine (HT.out _ (HW.out.below HB.out)).mono ?_);rintro e w1 ⟨⟨b,rfl,hb⟩,hb1⟩;have HB1:=hZz (zaaZ hb1 HB.out HB.out.size);have HBQ:=hZz hb;clear hb1 hb;cases b))
    ·rw [← HP.out]
     exact ⟨⟨false,rfl,by simp;intro h;have:=HBQ.out.2 (by have:=(h k hlt).1;rwa [HX.out] at this);cases this⟩,HB1.out⟩
    ·exact ⟨⟨k+1,by omega,by simp,hZz (fun i h h2=>by
      by_cases e:i=k
      ·subst e
       exact ⟨by rw [HX.out];exact HBQ.out.1 (by trivial),fun h=>absurd h hp0⟩
      ·exact HR.out i h (by omega)),HB1.out⟩,by simp [intOf];omega⟩
  ·have e:k=l.length:=by omega
   subst e;go_wp2_with (fail)
   rw [← HP.out];exact ⟨⟨true,rfl,by simp;exact fun i h=>HR.out i h h⟩,HB.out⟩
set_option maxHeartbeats 4000000 in
theorem ascend_any (l:List ByteArray) (v:Value) (w:World) (hl:l.length≤10000) (hok:∀ k∈l,k.size≤140737488351232) (h:KeysV w v l) :
  Calls prog 109 #[v] w fun e w'=>(∃ b,e=.returned (.bool b)∧(b=true↔AscOk l))∧Below w.heap.size w w':=by
 obtain ⟨P,hP⟩:∃ P:Ending→World→Prop,(fun e w'=>(∃ b,e=.returned (.bool b)∧(b=true↔AscOk l))∧Below w.heap.size w w')=P:=⟨_,rfl⟩
 rw [hP];have HP:=hZz hP;obtain ⟨A,cap,rfl,hcap,hs⟩:=h;have HA:=hZz hs;have HK:=hZz hok;clear hP hs hok;go_enter func109,ntmps109
 go_wp2_with (fail)
 go_loopw [3] (fun iv wr=>∃ k:Nat,k≤l.length∧iv=.int .i64 k∧Hid (∀ i (h:i<l.length),i<k→AscAt l i h)∧Below w.heap.size w wr) (fun iv _=>l.length - (intOf iv).toNat)
 case atStart=>exact ⟨0,Nat.zero_le _,rfl,hZz (fun i h h2=>by omega),Below.refl _ _⟩
 case round =>
  obtain ⟨k,hk,rfl,HR,hbel⟩:=hrel;have HB:=hZz hbel;clear hbel;have hk0:(0:Int)≤(k:Int):=by omega
  by_cases hlt:k<l.length
  ·have hlt':(k:Int)<(l.length:Int):=by omega
   have hsa:=HA.out.below HB.out;obtain ⟨x,hx⟩:∃ x,l[k]=x:=⟨_,rfl⟩
   obtain ⟨bA,off,rfl,_⟩:=hsa.ptr hlt;have c0:=hsa.cell0 hlt (v:=.string x) (by rw [hx];rfl)
   have C0H:Hid (∀ wx,SlAt wx (some ⟨bA,off,none⟩) 1 strCs l→wx.cell? ⟨bA,off+k,none⟩=some (.string x)):=hZz (fun wx hx2=>by
    have:=hx2.cell0 hlt (v:=.string x) (by rw [hx];rfl)
    simpa only [Nat.mul_one] using this)
   have HT:Hid (∀ wx,Calls prog 110 #[.string x] wx fun e w'=>(∃ t b,e=.returned (.tuple #[.string t,.bool b])∧(b=true↔StrOk x))∧Below wx.heap.size wx w'):=hZz (fun wx=>rtoken_any x wx (HK.out x (hx ▸ List.getElem_mem hlt)));have HX:=hZz hx;simp only [Nat.mul_one] at c0;clear hsa hx;by_cases hp0:0<k
   ·have hp0':(0:Int)<(k:Int):=by omega
    have hk1:(0:Int)≤(k:Int) - 1:=by omega
    have hlt1:k - 1<l.length:=by omega
    have hlt1':(k:Int) - 1<(l.length:Int):=by omega
    obtain ⟨y,hy⟩:∃ y,l[k - 1]=y:=⟨_,rfl⟩
    have HY:=hZz hy
    have HC1:Hid (∀ wx,SlAt wx (some ⟨bA,off,none⟩) 1 strCs l→wx.cell? ⟨bA,off+(k - 1),none⟩=some (.string y)):=hZz (fun wx hx=>by
     have:=hx.cell0 hlt1 (v:=.string y) (by rw [hy];rfl)
     simpa only [Nat.mul_one] using this)
    have htn:((k:Int) - 1).toNat=k - 1:=by omega
    clear hy;cases hle:sleB x y with
    | true =>
     have h5:(Op.bytesLess x.toList y.toList || x.toList == y.toList)=true:=hle
     have HNO:Hid (¬ AscOk l):=hZz (fun h=>by
      have:=(h k hlt).2 hp0
      rw [HX.out,HY.out,hle] at this;cases this)
     clear hle
     go_upto_region 5 with (first
      | (go_at_call 110;(with_reducible refine (HT.out _).mono ?_);rintro e w1 ⟨⟨t,b,rfl,hb⟩,hb1⟩;have hy1:=zaaZ hb1 HB.out HB.out.size;have HB1:=hZz hy1;have d1:=HC1.out _ (HA.out.below hy1);clear hb1 hy1 hb;have c1:=C0H.out _ (HA.out.below HB1.out);clear c0;cases b))
     all_goals (go_quiet (fail);go_wp2_with (fail))
     all_goals
      rw [← HP.out];exact ⟨⟨false,rfl,by simp;exact HNO.out⟩,zaeZ HB1.out _⟩
    | false =>
     have h5:(Op.bytesLess x.toList y.toList || x.toList == y.toList)=false:=hle;have HLE:=hZz hle;clear hle
     go_upto_region 5 with (first
      | (go_at_call 110;(with_reducible refine (HT.out _).mono ?_);rintro e w1 ⟨⟨t,b,rfl,hb⟩,hb1⟩;have hy1:=zaaZ hb1 HB.out HB.out.size;have HB1:=hZz hy1;have d1:=HC1.out _ (HA.out.below hy1);have HBQ:=hZz hb;clear hb1 hy1 hb;have c1:=C0H.out _ (HA.out.below HB1.out);clear c0;cases b))
     all_goals (go_quiet (fail);go_wp2_with (fail))
     ·rw [← HP.out]
      exact ⟨⟨false,rfl,by simp;intro h;have:=HBQ.out.2 (by have:=(h k hlt).1;rwa [HX.out] at this);cases this⟩,zaeZ HB1.out _⟩
     ·exact ⟨⟨k+1,by omega,by simp,hZz (fun i h h2=>by
       by_cases e:i=k
       ·subst e
        refine ⟨by rw [HX.out];exact HBQ.out.1 (by trivial),fun _=>by rw [HX.out,HY.out];exact HLE.out⟩
       ·exact HR.out i h (by omega)),zaeZ HB1.out _⟩,by simp [intOf];omega⟩
   ·have hp0':¬ (0:Int)<(k:Int):=by omega
    go_upto_region 5 with (first
     | (go_at_call 110;(with_reducible refine (HT.out _).mono ?_);rintro e w1 ⟨⟨t,b,rfl,hb⟩,hb1⟩;have HB1:=hZz (zaaZ hb1 HB.out HB.out.size);have HBQ:=hZz hb;clear hb1 hb;have c1:=C0H.out _ (HA.out.below HB1.out);clear c0;cases b))
    all_goals (go_quiet (fail);go_wp2_with (fail))
    ·rw [← HP.out]
     exact ⟨⟨false,rfl,by simp;intro h;have:=HBQ.out.2 (by have:=(h k hlt).1;rwa [HX.out] at this);cases this⟩,zaeZ HB1.out _⟩
    ·exact ⟨⟨k+1,by omega,by simp,hZz (fun i h h2=>by
      by_cases e:i=k
      ·subst e
       exact ⟨by rw [HX.out];exact HBQ.out.1 (by trivial),fun h=>absurd h hp0⟩
      ·exact HR.out i h (by omega)),zaeZ HB1.out _⟩,by simp [intOf];omega⟩
  ·have e:k=l.length:=by omega
   subst e;go_wp2_with (fail)
   rw [← HP.out];exact ⟨⟨true,rfl,by simp;exact fun i h=>HR.out i h h⟩,HB.out⟩
theorem rbinary_any (s:ByteArray) (w:World):Calls prog 111 #[.string s] w fun e w'=>(∃ b,e=.returned (.bool b)∧(b=true↔s.toList∈binL))∧w'=w:=by
 go_enter func111,ntmps111
 go_wp2
 all_goals
  go_returns;refine ⟨⟨_,rfl,?_⟩,rfl⟩
  simp_all [binL]
end
def intR (_:World) (row:List Value) (k:Int):Prop:=row=[.int .i64 k]
theorem stays_int:Stays2 intR:=fun _ _ _ _ h _=>h
def IntsV:=RowsV 17592186043904 1 intR
theorem IntsV.below {w w':World} {v:Value} {l:List Int} (h:IntsV w v l) (hb:Below w.heap.size w w'):IntsV w' v l:=zahY stays_int _ _ _ _ h hb
theorem IntsV.at {w:World} {v:Value} {l:List Int} (h:IntsV w v l):∃ A cap,v=.slice A l.length cap∧l.length≤cap∧SlAt w A 1 (fun k=>[.int .i64 k]) l:=by
 obtain ⟨A,cap,rows,h1,h2,h3,h4,h5,h6⟩:=h;refine ⟨A,cap,h1,h2,?_⟩
 have e:rows=l.map (fun k=>[Value.int .i64 k]):=by
  apply List.ext_getElem
  ·simpa using h5
  ·intro i hi hi'
   rw [List.getElem_map];exact h6 i hi (by simpa using hi')
 subst e;unfold SlAt at h4 ⊢
 rwa [List.map_map] at h4
def nodeR (w:World) (row:List Value) (n:NodeD):Prop:=∃ kv iv,row=[.int .i64 n.kind,.string n.text,.int .i64 n.int,kv,iv]∧KeysV w kv n.keys∧IntsV w iv n.kids
theorem zaoY:Stays2 nodeR:=fun _ _ _ _ ⟨a,b,h1,h2,h3⟩ hb=>⟨a,b,h1,h2.below hb,h3.below hb⟩
def NodesV:=RowsV 1759218604390 5 nodeR
def funcR (w:World) (row:List Value) (f:FuncD):Prop:=∃ kv,row=[.string f.name,kv,.int .i64 f.body]∧KeysV w kv f.params
theorem stays_func:Stays2 funcR:=fun _ _ _ _ ⟨a,h1,h2⟩ hb=>⟨a,h1,h2.below hb⟩
def FuncsV:=RowsV 2932031007402 3 funcR
structure ProgS where
 A:Option Addr
 B:Option Addr
 ncap:Nat
 fcap:Nat
 p:ProgD
def ProgS.val (S:ProgS):Value:=.agg #[.slice S.A S.p.nodes.length S.ncap,.slice S.B S.p.funcs.length S.fcap]
structure ProgV (w:World) (S:ProgS):Prop where
 nodes:NodesV w (.slice S.A S.p.nodes.length S.ncap) S.p.nodes
 funcs:FuncsV w (.slice S.B S.p.funcs.length S.fcap) S.p.funcs
theorem ProgV.below {w w':World} {S:ProgS} (h:ProgV w S) (hb:Below w.heap.size w w'):ProgV w' S:=⟨zahY zaoY _ _ _ _ h.nodes hb,zahY stays_func _ _ _ _ h.funcs hb⟩
theorem node_cells {w:World} {A:Option Addr} {n cap:Nat} {l:List NodeD} (h:NodesV w (.slice A n cap) l) {i:Nat} (hi:i<l.length):n=l.length∧n≤cap∧∃ b off kv iv,A=some ⟨b,off,none⟩∧b<w.heap.size ∧
  w.cell? ⟨b,off+i * 5,none⟩=some (.int .i64 (l[i]).kind)∧w.cell? ⟨b,off+i * 5+1,none⟩=some (.string (l[i]).text)∧w.cell? ⟨b,off+i * 5+2,none⟩=some (.int .i64 (l[i]).int)∧w.cell? ⟨b,off+i * 5+3,none⟩=some kv∧w.cell? ⟨b,off+i * 5+4,none⟩=some iv∧KeysV w kv (l[i]).keys∧IntsV w iv (l[i]).kids:=by
 obtain ⟨A',cap',rows,h1,h2,h3,h4,h5,h6⟩:=h;injection h1 with e1 e2 e3
 subst e1 e2 e3;have hi':i<rows.length:=by omega
 obtain ⟨b,off,hA,hlt⟩:=h4.ptr hi';subst hA;obtain ⟨kv,iv,hr,hk,hv⟩:=h6 i hi' hi;refine ⟨rfl,h2,b,off,kv,iv,rfl,hlt,?_,?_,?_,?_,?_,hk,hv⟩
 ·exact h4.cell0 hi' (by rw [hr];rfl)
 ·exact h4.cell hi' (j:=1) (by rw [hr];rfl)
 ·exact h4.cell hi' (j:=2) (by rw [hr];rfl)
 ·exact h4.cell hi' (j:=3) (by rw [hr];rfl)
 ·exact h4.cell hi' (j:=4) (by rw [hr];rfl)
theorem func_cells {w:World} {A:Option Addr} {n cap:Nat} {l:List FuncD} (h:FuncsV w (.slice A n cap) l) {i:Nat} (hi:i<l.length):n=l.length∧n≤cap∧∃ b off kv,A=some ⟨b,off,none⟩∧b<w.heap.size ∧
  w.cell? ⟨b,off+i * 3,none⟩=some (.string (l[i]).name)∧w.cell? ⟨b,off+i * 3+1,none⟩=some kv∧w.cell? ⟨b,off+i * 3+2,none⟩=some (.int .i64 (l[i]).body)∧KeysV w kv (l[i]).params:=by
 obtain ⟨A',cap',rows,h1,h2,h3,h4,h5,h6⟩:=h;injection h1 with e1 e2 e3
 subst e1 e2 e3;have hi':i<rows.length:=by omega
 obtain ⟨b,off,hA,hlt⟩:=h4.ptr hi';subst hA;obtain ⟨kv,hr,hk⟩:=h6 i hi' hi;refine ⟨rfl,h2,b,off,kv,rfl,hlt,?_,?_,?_,hk⟩
 ·exact h4.cell0 hi' (by rw [hr];rfl)
 ·exact h4.cell hi' (j:=1) (by rw [hr];rfl)
 ·exact h4.cell hi' (j:=2) (by rw [hr];rfl)
theorem KeysV.shape {w:World} {v:Value} {l:List ByteArray} (h:KeysV w v l):∃ A cap,v=.slice A l.length cap:=by
 obtain ⟨A,cap,rfl,_⟩:=h;exact ⟨A,cap,rfl⟩
theorem IntsV.shape {w:World} {v:Value} {l:List Int} (h:IntsV w v l):∃ A cap,v=.slice A l.length cap:=by
 obtain ⟨A,cap,_,rfl,_⟩:=h;exact ⟨A,cap,rfl⟩
section
attribute [local go_sem] zabZ
set_option maxHeartbeats 2000000 in
theorem stext_any (s:ByteArray) (w:World) (hs:s.size≤140737488351232) (hp:Pow w):Calls prog 203 #[.string s] w fun e w'=>(∃ b,e=.returned (.bool b)∧(b=true↔StrOk s))∧Below w.heap.size w w':=by
 have hsl:SlAt (w.alloc (.cells #[.int .i64 4,.int .i64 0,.string s,.int .i64 0] 103)) (some ⟨w.heap.size,0,none⟩) 4 CellD.cells [strC s]:=zalZ rfl _ _ [strC s] rfl (fun _=>rfl) (by omega) (by show 1≤maxLen;unfold maxLen;omega);have hb0:=zacZ w (.cells #[.int .i64 4,.int .i64 0,.string s,.int .i64 0] 103);obtain ⟨k,hk⟩:∃ k,checkF [strC s]=k:=⟨_,rfl⟩
 have hC0:=(vcheck_any [strC s] (some ⟨w.heap.size,0,none⟩) 1 _ hsl (hp.below hb0) (by show 1≤10000;omega) (Nat.le_refl _) (by intro c hc;simp at hc;subst hc;exact okC_str s hs))
 rw [hk] at hC0;have HC:Hid (Calls prog 152 #[.slice (some ⟨w.heap.size,0,none⟩) 1 1] (w.alloc (.cells #[.int .i64 4,.int .i64 0,.string s,.int .i64 0] 103)) fun e w'=>e=.returned (.int .i64 k)∧Below (w.alloc (.cells #[.int .i64 4,.int .i64 0,.string s,.int .i64 0] 103)).heap.size (w.alloc (.cells #[.int .i64 4,.int .i64 0,.string s,.int .i64 0] 103)) w'):=hZz hC0;clear hC0;have HK:Hid (k=0↔StrOk s):=hZz (by rw [← hk];exact checkF_str s);have HB0:=hZz hb0;obtain ⟨P,hP⟩:∃ P:Ending→World→Prop,(fun e w'=>(∃ b,e=.returned (.bool b)∧(b=true↔StrOk s))∧Below w.heap.size w w')=P:=⟨_,rfl⟩
 rw [hP];have HP:=hZz hP
 have hC2:Calls prog 153 #[.slice (some ⟨w.heap.size,0,none⟩) 1 1] (w.alloc (.cells #[.int .i64 4,.int .i64 0,.string s,.int .i64 0] 103)) fun e w'=>(∃ v,e=.returned (.tuple #[v,.int .i64 k]))∧Below w.heap.size w w':=by
  clear hP HP HK hk hsl hb0 hp hs;go_enter func153,ntmps153
  go_wp2_with (first
   | (go_at_call 152;(with_reducible refine HC.out.mono ?_);rintro e w1 ⟨rfl,hb1⟩;have HB1:=hZz (zahZ hb1 HB0.out);clear hb1))
  ·go_returns
   exact ⟨⟨_,rfl⟩,HB1.out⟩
  ·go_returns
   have hk0:k=0:=by simp_all
   exact ⟨⟨_,by rw [hk0];rfl⟩,HB1.out⟩
 have HC2:=hZz hC2;clear hP hk hsl hb0 hp hs hC2 HC
 have hstr:Calls prog 161 #[.string s] w fun e w'=>(∃ v,e=.returned (.tuple #[v,.int .i64 k]))∧Below w.heap.size w w':=by
  clear HP HK;go_enter func161,ntmps161
  go_wp2_with (first
   | (go_at_call 153;(with_reducible refine HC2.out.mono ?_);rintro e w1 ⟨⟨v,rfl⟩,hb1⟩;have HB1:=hZz hb1;clear hb1))
  go_returns;exact ⟨⟨_,rfl⟩,HB1.out⟩
 have HS:=hZz hstr;clear hstr HC2;go_enter func203,ntmps203
 go_wp2_with (first
  | (go_at_call 161;(with_reducible refine HS.out.mono ?_);rintro e w1 ⟨⟨v,rfl⟩,hb1⟩;have HB1:=hZz hb1;clear hb1))
 rw [← HP.out];exact ⟨⟨k == 0,rfl,by simp;exact HK.out⟩,HB1.out⟩
set_option maxHeartbeats 4000000 in
theorem skeys_any (l:List ByteArray) (v:Value) (w:World) (hl:l.length≤10000) (hok:∀ k∈l,k.size≤140737488351232) (hp:Pow w) (h:KeysV w v l) :
  Calls prog 204 #[v] w fun e w'=>(∃ b,e=.returned (.bool b)∧(b=true↔AscOk l))∧Below w.heap.size w w':=by
 obtain ⟨P,hP⟩:∃ P:Ending→World→Prop,(fun e w'=>(∃ b,e=.returned (.bool b)∧(b=true↔AscOk l))∧Below w.heap.size w w')=P:=⟨_,rfl⟩
 rw [hP];have HP:=hZz hP;obtain ⟨A,cap,rfl,hcap,hs⟩:=h;have HA:=hZz hs;have HW:=hZz hp;have HK:=hZz hok;clear hP hs hp hok;go_enter func204,ntmps204
 go_wp2_with (fail)
 go_loopw [3,4,7] (fun _ _ iv wr=>∃ k:Nat,k≤l.length∧iv=.int .i64 k∧Hid (∀ i (h:i<l.length),i<k→AscAt l i h)∧Below w.heap.size w wr) (fun _ _ iv _=>l.length - (intOf iv).toNat)
 case atStart=>exact ⟨0,Nat.zero_le _,rfl,hZz (fun i h h2=>by omega),Below.refl _ _⟩
 case round =>
  obtain ⟨k,hk,rfl,HR,hbel⟩:=hrel;have HB:=hZz hbel;clear hbel;have hk0:(0:Int)≤(k:Int):=by omega
  by_cases hlt:k<l.length
  ·have hlt':(k:Int)<(l.length:Int):=by omega
   have hsa:=HA.out.below HB.out;obtain ⟨x,hx⟩:∃ x,l[k]=x:=⟨_,rfl⟩
   obtain ⟨bA,off,rfl,_⟩:=hsa.ptr hlt;have c0:=hsa.cell0 hlt (v:=.string x) (by rw [hx];rfl);have HT:Hid (∀ wx,Pow wx→Calls prog 203 #[.string x] wx fun e w'=>(∃ b,e=.returned (.bool b)∧(b=true↔StrOk x))∧Below wx.heap.size wx w'):=hZz (fun wx hpx=>stext_any x wx (HK.out x (hx ▸ List.getElem_mem hlt)) hpx);have HX:=hZz hx;simp only [Nat.mul_one] at c0;clear hsa hx;by_cases hp0:0<k
   ·have hp0':(0:Int)<(k:Int):=by omega
    have hk1:(0:Int)≤(k:Int) - 1:=by omega
    have hlt1:k - 1<l.length:=by omega
    have hlt1':(k:Int) - 1<(l.length:Int):=by omega
    obtain ⟨y,hy⟩:∃ y,l[k - 1]=y:=⟨_,rfl⟩
    have HY:=hZz hy
    have HC1:Hid (∀ wx,SlAt wx (some ⟨bA,off,none⟩) 1 strCs l→wx.cell? ⟨bA,off+(k - 1),none⟩=some (.string y)):=hZz (fun wx hx=>by
     have:=hx.cell0 hlt1 (v:=.string y) (by rw [hy];rfl)
     simpa only [Nat.mul_one] using this)
    have htn:((k:Int) - 1).toNat=k - 1:=by omega
    clear hy;cases hle:sleB x y with
    | true =>
     have h5:(Op.bytesLess x.toList y.toList || x.toList == y.toList)=true:=hle
     have HNO:Hid (¬ AscOk l):=hZz (fun h=>by
      have:=(h k hlt).2 hp0
      rw [HX.out,HY.out,hle] at this;cases this)
     clear hle
     go_wp2_with (first
      | (go_at_call 203;(with_reducible refine (HT.out _ (HW.out.below HB.out)).mono ?_);rintro e w1 ⟨⟨b,rfl,hb⟩,hb1⟩;have hy1:=zaaZ hb1 HB.out HB.out.size;have HB1:=hZz hy1;have d1:=HC1.out _ (HA.out.below hy1);clear hb1 hy1 hb;cases b))
     all_goals
      rw [← HP.out];exact ⟨⟨false,rfl,by simp;exact HNO.out⟩,HB1.out⟩
    | false =>
     have h5:(Op.bytesLess x.toList y.toList || x.toList == y.toList)=false:=hle;have HLE:=hZz hle;clear hle
     go_wp2_with (first
      | (go_at_call 203;(with_reducible refine (HT.out _ (HW.out.below HB.out)).mono ?_);rintro e w1 ⟨⟨b,rfl,hb⟩,hb1⟩;have hy1:=zaaZ hb1 HB.out HB.out.size;have HB1:=hZz hy1;have d1:=HC1.out _ (HA.out.below hy1);have HBQ:=hZz hb;clear hb1 hy1 hb;cases b))
     ·rw [← HP.out]
      exact ⟨⟨false,rfl,by simp;intro h;have:=HBQ.out.2 (by have:=(h k hlt).1;rwa [HX.out] at this);cases this⟩,HB1.out⟩
     ·exact ⟨⟨k+1,by omega,by simp,hZz (fun i h h2=>by
       by_cases e:i=k
       ·subst e
        refine ⟨by rw [HX.out];exact HBQ.out.1 (by trivial),fun _=>by rw [HX.out,HY.out];exact HLE.out⟩
       ·exact HR.out i h (by omega)),HB1.out⟩,by simp [intOf];omega⟩
   ·have hp0':¬ (0:Int)<(k:Int):=by omega
    go_wp2_with (first
     | (go_at_call 203;(with_reducible refine (HT.out _ (HW.out.below HB.out)).mono ?_);rintro e w1 ⟨⟨b,rfl,hb⟩,hb1⟩;have HB1:=hZz (zaaZ hb1 HB.out HB.out.size);have HBQ:=hZz hb;clear hb1 hb;cases b))
    ·rw [← HP.out]
     exact ⟨⟨false,rfl,by simp;intro h;have:=HBQ.out.2 (by have:=(h k hlt).1;rwa [HX.out] at this);cases this⟩,HB1.out⟩
    ·exact ⟨⟨k+1,by omega,by simp,hZz (fun i h h2=>by
      by_cases e:i=k
      ·subst e
       exact ⟨by rw [HX.out];exact HBQ.out.1 (by trivial),fun h=>absurd h hp0⟩
      ·exact HR.out i h (by omega)),HB1.out⟩,by simp [intOf];omega⟩
  ·have e:k=l.length:=by omega
   subst e;go_wp2_with (fail)
   rw [← HP.out];exact ⟨⟨true,rfl,by simp;exact fun i h=>HR.out i h h⟩,HB.out⟩
end
section
theorem str_iff (s:ByteArray):StrOk s↔strB s=true:=by unfold StrOk strB;simp
theorem isE (l:List UInt8):l.isEmpty=decide (l=[]):=by cases l <;> simp
theorem lbe (a b:List UInt8):(a == b)=decide (a=b):=by rw [Bool.eq_iff_iff];simp
theorem keys_iff (l:List ByteArray):AscOk l↔keysB l=true:=by
 unfold AscOk keysB;rw [List.all_eq_true]
 have key:∀ i (h:i<l.length),AscAt l i h↔keyAtB l i=true:=by
  intro i h;unfold AscAt keyAtB;rw [zaiZ h,Bool.and_eq_true,str_iff];by_cases h0:i=0
  ·subst h0;simp
  ·rw [zaiZ (show i - 1<l.length by omega)]
   simp only [h0,decide_false,Bool.false_or,Bool.not_eq_true',and_congr_right_iff];intro _;exact ⟨fun g=>g (by omega),fun g _=>g⟩
 constructor
 ·intro h i hi
  have hi':i<l.length:=by simpa using hi
  exact (key i hi').1 (h i hi')
 ·intro h i hi
  exact (key i hi).2 (h i (by simpa using hi))
def fieldsK (k:Int) (t:ByteArray) (n:Int) (q m:Nat) (b1 b2 b3 b4 b5:Bool):Bool :=
 if (k≠7∧q≠0)∨(k≠2∧k≠3∧n≠0) then false
 else if k=2 then decide (t.toList=[]) && (decide (n=0) || decide (n=1))
 else if k=3 then decide (t.toList=[]) && (decide (0≤n) && decide (n≤1000000000000))
 else if k=4 then b1
 else if k=5∨k=11∨k=13∨k=14 then b2
 else if k=12 then b3
 else if k=7 then decide (t.toList=[]) && (decide (q=m) && b4)
 else if k=8 then decide (t.toList=[45]) || decide (t.toList=[110,111,116])
 else if k=9 then b5
 else decide (t.toList=[])
theorem fields_K (n:NodeD):fieldsB n=fieldsK n.kind n.text n.int n.keys.length n.kids.length (strB n.text) (nameB n.text) (runB n.text) (keysB n.keys) (decide (0<lvlF n.text)):=by
 unfold fieldsB fieldsK;simp only [ne_eq,List.length_eq_zero_iff]
attribute [local go_sem] zabZ
set_option maxHeartbeats 16000000 in
theorem fields_s (n:NodeD) (kA iA:Option Addr) (kc ic:Nat) (w:World) (hk:KeysV w (.slice kA n.keys.length kc) n.keys) (hp:Pow w) (ht:n.text.size≤140737488351232) (hq:n.keys.length≤10000) (hks:∀ k∈n.keys,k.size≤140737488351232):Calls prog 176 #[.agg (nodeC n kA kc iA ic)] w fun e w'=>e=.returned (.bool (fieldsB n))∧Below w.heap.size w w':=by
 obtain ⟨P,hP⟩:∃ P:Ending→World→Prop,(fun e w'=>e=.returned (.bool (fieldsB n))∧Below w.heap.size w w')=P:=⟨_,rfl⟩
 rw [hP];have hB:∀ o,Below w.heap.size w (w.alloc o):=fun o=>zacZ w o
 have HB0:=hZz hB;obtain ⟨F,hF⟩:∃ F,fieldsB n=F:=⟨_,rfl⟩
 obtain ⟨b1,h1⟩:∃ b,strB n.text=b:=⟨_,rfl⟩
 obtain ⟨b2,h2⟩:∃ b,nameB n.text=b:=⟨_,rfl⟩
 obtain ⟨b3,h3⟩:∃ b,runB n.text=b:=⟨_,rfl⟩
 obtain ⟨b4,h4⟩:∃ b,keysB n.keys=b:=⟨_,rfl⟩
 obtain ⟨b5,h5⟩:∃ b,decide (0<lvlF n.text)=b:=⟨_,rfl⟩
 have H1:Hid (∀ o,Calls prog 203 #[.string n.text] (w.alloc o) fun e w'=>e=.returned (.bool b1)∧Below w.heap.size w w'):=hZz (fun o=>(stext_any n.text _ ht (hp.below (hB o))).mono (by
  rintro e w' ⟨⟨b,rfl,hb⟩,hbel⟩;refine ⟨?_,zahZ hbel (hB o)⟩
  have:b=b1:=by rw [← h1,Bool.eq_iff_iff,hb,str_iff]
  rw [this]))
 have H2:Hid (∀ o,Calls prog 132 #[.string n.text] (w.alloc o) fun e w'=>e=.returned (.bool b2)∧Below w.heap.size w w'):=hZz (fun o=>(name_s n.text _ ht).mono (by
  rintro e w' ⟨rfl,rfl⟩;exact ⟨by rw [h2],hB o⟩))
 have H3:Hid (∀ o,Calls prog 173 #[.string n.text] (w.alloc o) fun e w'=>e=.returned (.bool b3)∧Below w.heap.size w w'):=hZz (fun o=>(run_s n.text _ ht).mono (by
  rintro e w' ⟨rfl,rfl⟩;exact ⟨by rw [h3],hB o⟩))
 have H4:Hid (∀ o,Calls prog 204 #[.slice kA n.keys.length kc] (w.alloc o) fun e w'=>e=.returned (.bool b4)∧Below w.heap.size w w'):=hZz (fun o=>(skeys_any n.keys _ _ hq hks (hp.below (hB o)) (hk.below (hB o))).mono (by
  rintro e w' ⟨⟨b,rfl,hb⟩,hbel⟩;refine ⟨?_,zahZ hbel (hB o)⟩
  have:b=b4:=by rw [← h4,Bool.eq_iff_iff,hb,keys_iff]
  rw [this]))
 have H5:Hid (∀ o,Calls prog 205 #[.string n.text] (w.alloc o) fun e w'=>e=.returned (.bool b5)∧Below w.heap.size w w'):=hZz (fun o=>(operator_s n.text _).mono (by
  rintro e w' ⟨rfl,rfl⟩;exact ⟨by rw [h5],hB o⟩))
 have HF:Hid (F=fieldsK n.kind n.text n.int n.keys.length n.kids.length b1 b2 b3 b4 b5):=hZz (by rw [← hF,← h1,← h2,← h3,← h4,← h5];exact fields_K n);rw [hF] at hP;have HP:=hZz hP;have hq':(n.keys.length:Int)≤10000:=by omega
 clear hP hF h1 h2 h3 h4 h5 hB hk hp ht hq hks;unfold nodeC;generalize n.kind=k at HF ⊢;generalize n.kids.length=m at HF ⊢;generalize n.keys.length=q at HF H4 hq' ⊢;generalize n.text=t at HF H1 H2 H3 H5 ⊢;generalize n.int=j at HF ⊢;have hk:k=2∨k=3∨k=4∨k=5∨k=11∨k=13∨k=14∨k=12∨k=7∨k=8∨k=9∨(k≠2∧k≠3∧k≠4∧k≠5∧k≠11∧k≠13∧k≠14∧k≠12∧k≠7∧k≠8∧k≠9):=by omega
 go_enter func176,ntmps176
 rcases hk with rfl | rfl | rfl | rfl | rfl | rfl | rfl | rfl | rfl | rfl | rfl | ⟨g1,g2,g3,g4,g5,g6,g7,g8,g9,g10,g11⟩
 all_goals
  go_wp2_with (first
   | (go_at_call 203;(with_reducible refine (H1.out _).mono ?_);rintro e w1 ⟨rfl,hb1⟩;have HB1:=hZz hb1;clear hb1)
   | (go_at_call 132;(with_reducible refine (H2.out _).mono ?_);rintro e w1 ⟨rfl,hb1⟩;have HB1:=hZz hb1;clear hb1)
   | (go_at_call 173;(with_reducible refine (H3.out _).mono ?_);rintro e w1 ⟨rfl,hb1⟩;have HB1:=hZz hb1;clear hb1)
   | (go_at_call 204;(with_reducible refine (H4.out _).mono ?_);rintro e w1 ⟨rfl,hb1⟩;have HB1:=hZz hb1;clear hb1)
   | (go_at_call 205;(with_reducible refine (H5.out _).mono ?_);rintro e w1 ⟨rfl,hb1⟩;have HB1:=hZz hb1;clear hb1))
 all_goals
  rw [← HP.out];refine ⟨?_,by first | exact HB1.out | exact HB0.out _⟩
  rw [HF.out];clear HF H1 H2 H3 H4 H5 HB0 HP
  first
   | (simp_all [fieldsK,ib,nb0];done)
   | (simp_all [fieldsK,ib,nb0,isE,lbe];done)
   | (simp_all [fieldsK,ib,nb0];omega)
   | (simp_all [fieldsK,ib,nb0];intros;omega)
   | (simp_all [fieldsK,ib,nb0,isE,lbe];intros;omega)
end
section
theorem wholeB_iff (s:ByteArray):wholeB s=true↔Whole s:=by
 rw [zb0Y];constructor
 ·rintro ⟨h1,h2⟩
  refine ⟨h1,fun h=>by have:=h2 0 h;simpa using this,fun i h=>?_⟩
  have:=h2 i h
  by_cases e:i=0
  ·rw [if_pos e] at this;exact let_wrd this
  ·rwa [if_neg e] at this
 ·rintro ⟨h1,h2,h3⟩
  refine ⟨h1,fun i h=>?_⟩
  by_cases e:i=0
  ·rw [if_pos e];subst e;exact h2 h
  ·rw [if_neg e];exact h3 i h
theorem runB_iff (s:ByteArray):runB s=true↔Whole s∧s.size≤24:=by
 unfold runB;rw [Bool.and_eq_true,decide_eq_true_eq,wholeB_iff,and_comm]
theorem nameB_iff (s:ByteArray):nameB s=true↔NameOk s:=by
 unfold nameB NameOk;rw [Bool.and_eq_true,runB_iff];cases kwB s <;> simp
theorem zb9Y (s:ByteArray):strB s=true↔StrOk s:=by
 unfold strB StrOk;rw [Bool.and_eq_true,decide_eq_true_eq]
attribute [local go_sem] zabZ
theorem rtext_host (s:ByteArray) (w:World) (hs:s.size≤140737488351232):Calls prog 149 #[.agg #[.int .i64 6,.string s,.int .i64 0,.int .i64 0]] w fun e w'=>(∃ t k,e=.returned (.tuple #[.string t,.int .i64 k])∧(k=0↔runB s=true))∧Below w.heap.size w w':=by
 obtain ⟨n,hn⟩:=runAt_ex s;have HR:=hZz hn;have HC:Hid (∀ wx,Calls prog 181 #[.string s,.int .i64 0] wx fun e w'=>e=.returned (.int .i64 n)∧w'=wx):=hZz (fun wx=>rrun_any s n wx hs hn);have HB0:=hZz (zacZ w (.cells #[.int .i64 6,.string s,.int .i64 0,.int .i64 0] 184));obtain ⟨P,hP⟩:∃ P:Ending→World→Prop,(fun e w'=>(∃ t k,e=.returned (.tuple #[.string t,.int .i64 k])∧(k=0↔runB s=true))∧Below w.heap.size w w')=P:=⟨_,rfl⟩
 rw [hP];have HP:=hZz hP;have HI:=hZz (runB_iff s);have hs9:(s.size:Int)≤140737488351232:=by omega
 clear hP hn;by_cases h0:(0:Int)<(s.size:Int)
 ·have h0':0<s.size:=by omega
  by_cases h24:(s.size:Int)≤24
  ·by_cases hnn:n=s.size
   ·have hnn':((n:Int) == (s.size:Int))=true:=by simp;omega
    have HN:=hZz hnn;clear hnn;go_enter func149,ntmps149
    go_upto_region 3 with fail
    go_quiet (first
     | ((with_reducible refine (HC.out _).mono ?_);rintro e w2 ⟨h1,h2⟩;exact ⟨h1,_,h2⟩))
    go_wp2_with (fail)
    rw [← HP.out];exact ⟨⟨_,0,rfl,⟨fun _=>HI.out.2 ⟨(HR.out.whole h0').1 HN.out,by omega⟩,fun _=>rfl⟩⟩,zaeZ HB0.out _⟩
   ·have hnn':((n:Int) == (s.size:Int))=false:=by simp;omega
    have HNO:Hid (¬ runB s=true):=hZz (fun h=>hnn ((HR.out.whole h0').2 (HI.out.1 h).1));clear hnn;go_enter func149,ntmps149
    go_upto_region 3 with fail
    go_quiet (first
     | ((with_reducible refine (HC.out _).mono ?_);rintro e w2 ⟨h1,h2⟩;exact ⟨h1,_,h2⟩))
    go_wp2_with (fail)
    rw [← HP.out];exact ⟨⟨_,1,rfl,⟨fun h=>by omega,fun h=>absurd h HNO.out⟩⟩,zaeZ HB0.out _⟩
  ·have HNO:Hid (¬ runB s=true):=hZz (fun h=>h24 (by have:=(HI.out.1 h).2;omega))
   go_enter func149,ntmps149
   go_upto_region 3 with fail
   go_quiet (fail);go_wp2_with (fail)
   rw [← HP.out];exact ⟨⟨_,1,rfl,⟨fun h=>by omega,fun h=>absurd h HNO.out⟩⟩,zaeZ HB0.out _⟩
 ·have HNO:Hid (¬ runB s=true):=hZz (fun h=>h0 (by have:=(HI.out.1 h).1.1;omega))
  have he:s=ByteArray.empty:=by
   have hz:s.size=0:=by omega
   simpa using hz
  subst he;clear h0;go_enter func149,ntmps149
  go_upto_region 3 with fail
  go_quiet (fail);go_wp2_with (fail)
  rw [← HP.out];exact ⟨⟨_,1,rfl,⟨fun h=>by omega,fun h=>absurd h HNO.out⟩⟩,zaeZ HB0.out _⟩
theorem name8_s (s:ByteArray) (w:World) (hs:s.size≤140737488351232):Calls prog 125 #[.string s] w fun e w'=>e=.returned (.bool (nameB s))∧Below w.heap.size w w':=by
 have HC:=hZz (rtext_name s w hs);obtain ⟨P,hP⟩:∃ P:Ending→World→Prop,(fun e w'=>e=.returned (.bool (nameB s))∧Below w.heap.size w w')=P:=⟨_,rfl⟩
 rw [hP];have HP:=hZz hP;have HI:=hZz (nameB_iff s);clear hP;go_enter func125,ntmps125
 go_upto_region 2 with (first
  | (go_at_call 149;(with_reducible refine HC.out.mono ?_);rintro e w1 ⟨⟨t,k,rfl,hk⟩,hb1⟩;have HB1:=hZz hb1;have HKK:=hZz hk;clear hb1 hk))
 by_cases hk:k=0
 ·subst hk
  go_wp2_with (fail)
  rw [← HP.out];exact ⟨by rw [HI.out.2 (HKK.out.1 (by trivial))],HB1.out⟩
 ·have hk':(k == 0)=false:=by simpa using hk
  go_wp2_with (fail)
  rw [← HP.out]
  have h2:nameB s=false:=by
   cases h:nameB s with
   | false=>rfl
   | true=>exact absurd (HKK.out.2 (HI.out.1 h)) hk
  exact ⟨by rw [h2,← hk'];rfl,HB1.out⟩
theorem str8_s (s:ByteArray) (w:World) (hs:s.size≤140737488351232):Calls prog 165 #[.string s] w fun e w'=>e=.returned (.bool (strB s))∧Below w.heap.size w w':=by
 have HC:=hZz (rtext_str s w hs);obtain ⟨P,hP⟩:∃ P:Ending→World→Prop,(fun e w'=>e=.returned (.bool (strB s))∧Below w.heap.size w w')=P:=⟨_,rfl⟩
 rw [hP];have HP:=hZz hP;have HI:=hZz (zb9Y s);clear hP;go_enter func165,ntmps165
 go_upto_region 2 with (first
  | (go_at_call 149;(with_reducible refine HC.out.mono ?_);rintro e w1 ⟨⟨t,k,rfl,hk⟩,hb1⟩;have HB1:=hZz hb1;have HKK:=hZz hk;clear hb1 hk))
 by_cases hk:k=0
 ·subst hk
  go_wp2_with (fail)
  rw [← HP.out];exact ⟨by rw [HI.out.2 (HKK.out.1 (by trivial))],HB1.out⟩
 ·have hk':(k == 0)=false:=by simpa using hk
  go_wp2_with (fail)
  rw [← HP.out]
  have h2:strB s=false:=by
   cases h:strB s with
   | false=>rfl
   | true=>exact absurd (HKK.out.2 (HI.out.1 h)) hk
  exact ⟨by rw [h2,← hk'];rfl,HB1.out⟩
def cmpS (s:ByteArray):Bool:=decide (s.toList∈([[61,61],[33,61],[60],[60,61],[62],[62,61]]:List (List UInt8)))
theorem compares8_s (s:ByteArray) (w:World):Calls prog 200 #[.string s] w fun e w'=>e=.returned (.bool (cmpS s))∧w'=w:=by
 have hl:cmpS s=(s.toList == [61,61] || s.toList == [33,61] || s.toList == [60] || s.toList == [60,61] || s.toList == [62] || s.toList == [62,61]):=by
  unfold cmpS;rw [Bool.eq_iff_iff];simp [or_assoc]
 rw [hl];clear hl;by_cases h1:s.toList=[61,61]
 ·go_enter func200,ntmps200
  go_wp2
  all_goals (go_returns;exact ⟨by simp [h1],rfl⟩)
 by_cases h2:s.toList=[33,61]
 ·go_enter func200,ntmps200
  go_wp2
  all_goals (go_returns;exact ⟨by simp [h2],rfl⟩)
 go_enter func200,ntmps200
 go_wp2
 all_goals (go_returns;exact ⟨by simp_all,rfl⟩)
theorem binary8_s (s:ByteArray) (w:World):Calls prog 166 #[.string s] w fun e w'=>e=.returned (.bool (decide (0<lvlF s)))∧w'=w:=by
 have HC:Hid (∀ wx,Calls prog 200 #[.string s] wx fun e w'=>e=.returned (.bool (cmpS s))∧w'=wx):=hZz (compares8_s s);obtain ⟨b,hb⟩:∃ b,cmpS s=b:=⟨_,rfl⟩
 have hl:decide (0<lvlF s)=(s.toList == [111,114] || s.toList == [97,110,100] || b || s.toList == [43] || s.toList == [45] || s.toList == [42] || s.toList == [47] || s.toList == [37]):=by
  rw [← hb];unfold cmpS lvlF;by_cases h1:s.toList=[111,114]
  ·simp [h1]
  by_cases h2:s.toList=[97,110,100]
  ·simp [h2]
  by_cases h3:s.toList∈([[61,61],[33,61],[60],[60,61],[62],[62,61]]:List (List UInt8))
  ·rw [if_neg h1,if_neg h2,if_pos h3,decide_eq_true h3];simp
  rw [if_neg h1,if_neg h2,if_neg h3,decide_eq_false h3];by_cases h4:s.toList=[43]
  ·simp [h4]
  by_cases h5:s.toList=[45]
  ·simp [h5]
  by_cases h6:s.toList=[42]
  ·simp [h6]
  by_cases h7:s.toList=[47]
  ·simp [h7]
  by_cases h8:s.toList=[37]
  ·simp [h8]
  simp [h1,h2,h4,h5,h6,h7,h8]
 rw [hl];rw [hb] at HC;clear hl hb;go_enter func166,ntmps166
 go_wp2_with (first
  | (go_at_call 200;(with_reducible refine (HC.out _).mono ?_);rintro e w1 ⟨rfl,hw1⟩;rw [hw1];clear hw1 w1))
 all_goals (go_returns;exact ⟨by first | rfl | simp_all,rfl⟩)
end
section
def shO:Option Nat→Int
 | none=>-1
 | some s=>s
structure NodesOk (l:List NodeD):Prop where
 len:l.length≤1000
 kids:∀ n∈l,n.kids.length≤1000∧n.keys.length≤1000
 text:∀ n∈l,n.text.size≤140737488351232∧∀ k∈n.keys,k.size≤140737488351232
theorem NodesV.below {w w':World} {v:Value} {l:List NodeD} (h:NodesV w v l) (hb:Below w.heap.size w w'):NodesV w' v l:=zahY zaoY _ _ _ _ h hb
theorem zalY {w:World} {A:Option Addr} {cap:Nat} {l:List NodeD} (h:NodesV w (.slice A l.length cap) l) {i:Nat} (hi:i<l.length):∃ b off kA kc iA ic,A=some ⟨b,off,none⟩∧b<w.heap.size ∧
  w.cell? ⟨b,off+i * 5,none⟩=some (.int .i64 (l[i]).kind)∧w.cell? ⟨b,off+i * 5+1,none⟩=some (.string (l[i]).text)∧w.cell? ⟨b,off+i * 5+2,none⟩=some (.int .i64 (l[i]).int)∧w.cell? ⟨b,off+i * 5+3,none⟩=some (.slice kA (l[i]).keys.length kc)∧w.cell? ⟨b,off+i * 5+4,none⟩=some (.slice iA (l[i]).kids.length ic)∧KeysV w (.slice kA (l[i]).keys.length kc) (l[i]).keys∧IntsV w (.slice iA (l[i]).kids.length ic) (l[i]).kids:=by
 obtain ⟨_,_,b,off,kv,iv,hA,hb,c0,c1,c2,c3,c4,hk,hi⟩:=node_cells h hi;obtain ⟨kA,kc,rfl⟩:=hk.shape;obtain ⟨iA,ic,rfl⟩:=hi.shape;exact ⟨b,off,kA,kc,iA,ic,hA,hb,c0,c1,c2,c3,c4,hk,hi⟩
theorem IntsV.cell {w:World} {A:Option Addr} {n cap:Nat} {l:List Int} (h:IntsV w (.slice A n cap) l) {i:Nat} (hi:i<l.length):∃ b off,A=some ⟨b,off,none⟩∧b<w.heap.size∧w.cell? ⟨b,off+i,none⟩=some (.int .i64 l[i]):=by
 obtain ⟨A',cap',h1,h2,h3⟩:=h.at;injection h1 with e1 e2 e3
 subst e1;obtain ⟨b,off,rfl,hb⟩:=h3.ptr hi
 have:=h3.cell0 hi (v:=.int .i64 l[i]) rfl
 exact ⟨b,off,rfl,hb,by simpa using this⟩
theorem blk5n {w:World} {g:Nat} {t:TypeId} {v0 v1 v2 v3 v4:Value} (h:Blk w g t #[v0,v1,v2,v3,v4]):w.cell? ⟨g,0,none⟩=some v0∧w.cell? ⟨g,1,none⟩=some v1∧w.cell? ⟨g,2,none⟩=some v2∧w.cell? ⟨g,3,none⟩=some v3∧w.cell? ⟨g,4,none⟩=some v4 :=
 ⟨h.cell 0 _ rfl,h.cell 1 _ rfl,h.cell 2 _ rfl,h.cell 3 _ rfl,h.cell 4 _ rfl⟩
attribute [local go_sem] zabZ
set_option maxHeartbeats 16000000 in
theorem first_s (l:List NodeD) (hl:NodesOk l) (A:Option Addr) (cap:Nat):∀ f i w,i<f→i<l.length→NodesV w (.slice A l.length cap) l→Pow w→Calls prog 135 #[.slice A l.length cap,.int .i64 i] w fun e w'=>e=.returned (.int .i64 (shO (firstF l f i)))∧Below w.heap.size w w':=by
 intro f;induction f with
 | zero=>intro i w h;omega
 | succ f ih =>
  intro i w hif hil hV hp;obtain ⟨F,hF⟩:∃ F,firstF l (f+1) i=F:=⟨_,rfl⟩
  rw [hF];obtain ⟨P,hP⟩:∃ P:Ending→World→Prop,(fun e w'=>e=.returned (.int .i64 (shO F))∧Below w.heap.size w w')=P:=⟨_,rfl⟩
  rw [hP];have HP:=hZz hP;have HV:=hZz hV;have HIH:Hid (∀ j wx,j<f→j<l.length→Below w.heap.size w wx→Calls prog 135 #[.slice A l.length cap,.int .i64 j] wx fun e w'=>e=.returned (.int .i64 (shO (firstF l f j)))∧Below wx.heap.size wx w'):=hZz (fun j wx h1 h2 hb=>ih j wx h1 h2 (hV.below hb) (hp.below hb));obtain ⟨bN,offN,kA,kc,iA,ic,rfl,hbN,c0,c1,c2,c3,c4,hk,hi⟩:=zalY hV hil;obtain ⟨n,hn⟩:∃ n,l[i]=n:=⟨_,rfl⟩
  rw [hn] at c0 c1 c2 c3 c4 hk hi;have hmem:n∈l:=by rw [← hn];exact List.getElem_mem hil
  have HFD:Hid (∀ wx,Below w.heap.size w wx→Calls prog 176 #[.agg (nodeC n kA kc iA ic)] wx fun e w'=>e=.returned (.bool (fieldsB n))∧Below wx.heap.size wx w'):=hZz (fun wx hb=>fields_s n kA iA kc ic wx (hk.below hb) (hp.below hb) (hl.text n hmem).1 (by have:=(hl.kids n hmem).2;omega) (hl.text n hmem).2);have HCT:Hid (∀ wx,Calls prog 177 #[.agg (nodeC n kA kc iA ic)] wx fun e w'=>e=.returned (.bool (countB n))∧Below wx.heap.size wx w'):=hZz (fun wx=>count_s n kA iA kc ic wx);have HFT:Hid (∀ (j:Nat) (part:Int) wx,Calls prog 178 #[.agg (nodeC n kA kc iA ic),.int .i64 j,.int .i64 part] wx fun e w'=>e=.returned (.bool (fitsB n.kind j part))∧Below wx.heap.size wx w'):=hZz (fun j part wx=>fits_s n kA iA kc ic j part wx)
  have hfe:F=if fieldsB n && countB n then kidsF l (firstF l f) n n.kids.length i else none:=by
   rw [← hF];simp only [firstF];rw [zaiZ hil,hn]
  have HFE:=hZz hfe;have HI:=hZz hi;have hm:=(hl.kids n hmem).1;have hlen:=hl.len;obtain ⟨m,hme⟩:∃ m,n.kids.length=m:=⟨_,rfl⟩
  obtain ⟨q,hqe⟩:∃ q,n.keys.length=q:=⟨_,rfl⟩
  obtain ⟨N,hN⟩:∃ N,l.length=N:=⟨_,rfl⟩
  have HM:=hZz hme;have HN:=hZz hN;unfold nodeC at HFD HCT HFT;rw [hme] at c4 HFD HCT HFT HI hm HFE;rw [hqe] at c3 HFD HCT HFT;rw [hN] at hil hlen HIH HV ⊢;obtain ⟨nk,hnk⟩:∃ x,n.kind=x:=⟨_,rfl⟩
  obtain ⟨nt,hnt⟩:∃ x,n.text=x:=⟨_,rfl⟩
  obtain ⟨ni,hni⟩:∃ x,n.int=x:=⟨_,rfl⟩
  obtain ⟨fb,hfb⟩:∃ x,fieldsB n=x:=⟨_,rfl⟩
  obtain ⟨cb,hcb⟩:∃ x,countB n=x:=⟨_,rfl⟩
  rw [hnk] at c0 HFD HCT HFT;rw [hnt] at c1 HFD HCT HFT;rw [hni] at c2 HFD HCT HFT;rw [hfb] at HFD HFE;rw [hcb] at HCT HFE;have HNK:=hZz hnk;obtain ⟨gn,hgn⟩:∃ g,w.heap.size=g:=⟨_,rfl⟩
  obtain ⟨W1,hW1⟩:∃ W,w.alloc (.cells #[.int .i64 nk,.string nt,.int .i64 ni,.slice kA q kc,.slice iA m ic] 58)=W:=⟨_,rfl⟩
  have HB1:Hid (Below w.heap.size w W1):=hZz (by rw [← hW1];exact zacZ _ _);have HG1:Hid (Blk W1 gn 58 #[.int .i64 nk,.string nt,.int .i64 ni,.slice kA q kc,.slice iA m ic]):=hZz (by rw [← hW1,← hgn];exact Blk.new _ _ _);have HGN:=hZz hgn;have HW1:=hZz hW1;have hiN:(i:Int)<(N:Int):=by omega
  have hi0:(0:Int)≤(i:Int):=by omega
  clear hF hP hV hp hk hi hn hmem hfe hme hqe hN hnk hnt hni hfb hcb hW1 hgn ih;go_enter func135,ntmps135
  go_upto_region 2 with fail
  rw [HGN.out,HW1.out];clear HW1;have g1:=blk5n HG1.out;clear c0 c1 c2 c3 c4;cases fb with
  | false =>
   go_wp2_with (first
    | (go_at_call 176;(with_reducible refine (HFD.out _ HB1.out).mono ?_);rintro e w2 ⟨rfl,hb2⟩;have HB2:=hZz (zaaZ hb2 HB1.out HB1.out.size);clear hb2))
   rw [← HP.out];exact ⟨by rw [HFE.out];rfl,HB2.out⟩
  | true =>
   cases cb with
   | false =>
    go_wp2_with (first
     | (go_at_call 176;(with_reducible refine (HFD.out _ HB1.out).mono ?_);rintro e w2 ⟨rfl,hb2⟩;have HB2:=hZz (zaaZ hb2 HB1.out HB1.out.size);have HG2:=hZz (HG1.out.below hb2);have g2:=blk5n HG2.out;clear hb2 g1)
     | (go_at_call 177;(with_reducible refine (HCT.out _).mono ?_);rintro e w3 ⟨rfl,hb3⟩;have HB3:=hZz (zaaZ hb3 HB2.out HB2.out.size);clear hb3))
    rw [← HP.out];exact ⟨by rw [HFE.out];rfl,HB3.out⟩
   | true =>
    go_upto_region 5 with (first
     | (go_at_call 176;(with_reducible refine (HFD.out _ HB1.out).mono ?_);rintro e w2 ⟨rfl,hb2⟩;have HB2:=hZz (zaaZ hb2 HB1.out HB1.out.size);have HG2:=hZz (HG1.out.below hb2);have g2:=blk5n HG2.out;clear hb2 g1)
     | (go_at_call 177;(with_reducible refine (HCT.out _).mono ?_);rintro e w3 ⟨rfl,hb3⟩;have HB3:=hZz (zaaZ hb3 HB2.out HB2.out.size);have HG3:=hZz (HG2.out.below hb3);have g3:=blk5n HG3.out;clear hb3 g2))
    have hmI:(m:Int)≤1000:=by omega
    go_wp2_with (fail)
    clear g3;go_loopw [6,7] (fun av kv wr=>∃ a j:Nat,a≤i∧j≤m∧av=.int .i64 a∧kv=.int .i64 ((j:Int) - 1)∧Hid (F=kidsF l (firstF l f) n j a)∧Hid (Below w.heap.size w wr)∧Hid (Blk wr gn 58 #[.int .i64 nk,.string nt,.int .i64 ni,.slice kA q kc,.slice iA m ic])) (fun _ kv _=>(intOf kv+1).toNat)
    case atStart=>exact ⟨i,m,Nat.le_refl _,Nat.le_refl _,rfl,rfl,hZz (by rw [HFE.out];rfl),HB3,HG3⟩
    case round =>
     obtain ⟨a,j,hai,hjm,rfl,rfl,HK,HB,HG⟩:=hrel;cases j with
     | zero =>
      have hj0:¬ (0:Int)≤((0:Nat):Int) - 1:=by omega
      go_wp2_with (fail)
      rw [← HP.out];exact ⟨by rw [HK.out];rfl,HB.out⟩
     | succ j =>
      have hj0:(0:Int)≤((j+1:Nat):Int) - 1:=by omega
      have hj1:(((j+1:Nat):Int) - 1)=(j:Int):=by omega
      rw [hj1];have hkl:j<n.kids.length:=by rw [HM.out];omega
      obtain ⟨bI,offI,rfl,hbI,ck⟩:=(HI.out.below HB.out).cell hkl;obtain ⟨x,hx⟩:∃ x,n.kids[j]=x:=⟨_,rfl⟩
      rw [hx] at ck;have HGD:Hid (n.kids.getD j (-1)=x):=hZz (by rw [zaiZ hkl];exact hx);have hjm':(j:Int)<(m:Int):=by omega
      have hj9:(0:Int)≤(j:Int):=by omega
      have hk1:=HK.out;simp only [kidsF] at hk1;rw [HGD.out] at hk1;have g5:=blk5n HG.out;clear hkl hx HGD;cases a with
      | zero =>
       rw [if_pos (.inl (by omega))] at hk1;have HK1:=hZz hk1;clear hk1;have d0:decide (((0:Nat):Int)<1)=true:=by decide
       go_upto_region 8 with fail
       go_quiet (fail);go_wp2
       rw [← HP.out];exact ⟨by rw [HK1.out];rfl,zaeZ HB.out _⟩
      | succ b =>
       have hcast:((b+1:Nat):Int)=(b:Int)+1:=by omega
       rw [hcast];have d0:decide ((b:Int)+1<1)=false:=decide_eq_false (by omega);have hw1:IntKind.i64.wrap ((b:Int)+1 - 1)=(b:Int):=by rw [Int.add_sub_cancel];exact IntWalk.i64_in _ (by omega)
       have hw2:IntKind.i64.wrap (b:Int)=(b:Int):=IntWalk.i64_in _ (by omega);by_cases hxb:x=(b:Int)
       rotate_left
       ·have d1:(x != (b:Int))=true:=by simp [hxb]
        rw [if_pos (.inr (.inl (by omega)))] at hk1;have HK1:=hZz hk1;clear hk1;go_upto_region 8 with fail
        go_quiet (fail);go_wp2
        rw [← HP.out];exact ⟨by rw [HK1.out];rfl,zaeZ HB.out _⟩
       ·subst hxb
        have d1:((b:Int) != (b:Int))=false:=by simp
        have hbl:b<l.length:=by rw [HN.out];omega
        have hV2:=HV.out.below HB.out;rw [← HN.out] at hV2;obtain ⟨bN',offN',_,_,_,_,hA,hbN2,z0,hdead⟩:=zalY hV2 hbl;clear hdead;injection hA with hA
        injection hA with e1 e2
        subst e1 e2;obtain ⟨kk,hkk⟩:∃ x,l[b].kind=x:=⟨_,rfl⟩
        rw [hkk] at z0;obtain ⟨y,hy⟩:∃ y,fitsB nk j kk=y:=⟨_,rfl⟩
        have hk2:F=if y=false then none else (firstF l f b).bind (kidsF l (firstF l f) n j):=by
         rw [hk1];have e3:l.getD (b+1 - 1) noNode=l[b]:=by rw [Nat.add_sub_cancel];exact zaiZ hbl _
         rw [e3,hkk,HNK.out,hy,Nat.add_sub_cancel];cases y with
         | false=>rw [if_pos (.inr (.inr rfl)),if_pos rfl]
         | true=>rw [if_neg (by rintro (h | h | h);omega;exact h (by omega);cases h),if_neg (by decide)]
        have HK2:=hZz hk2;have HFJ:Hid (∀ wx,Calls prog 178 #[.agg #[.int .i64 nk,.string nt,.int .i64 ni,.slice kA q kc,.slice (some ⟨bI,offI,none⟩) m ic],.int .i64 j,.int .i64 kk] wx fun e w'=>e=.returned (.bool y)∧Below wx.heap.size wx w'):=hZz (fun wx=>by rw [← hy];exact HFT.out j kk wx);have FACT:Hid (∀ wx,Below wr.heap.size wr wx→(wx.cell? ⟨gn,0,none⟩=some (.int .i64 nk)∧wx.cell? ⟨gn,1,none⟩=some (.string nt)∧wx.cell? ⟨gn,2,none⟩=some (.int .i64 ni)∧wx.cell? ⟨gn,3,none⟩=some (.slice kA q kc)∧wx.cell? ⟨gn,4,none⟩=some (.slice (some ⟨bI,offI,none⟩) m ic))∧wx.cell? ⟨bI,offI+j,none⟩=some (.int .i64 b)∧wx.cell? ⟨bN,offN+b * 5,none⟩=some (.int .i64 kk)):=hZz (fun wx hb=>⟨blk5n (HG.out.below hb),(hb.cell hbI).trans ck,(hb.cell hbN2).trans z0⟩);have HBL:=hZz hbl;have hbN9:(b:Int)<(N:Int):=by have:=HN.out;omega
        have hb0:(0:Int)≤(b:Int):=by omega
        clear hk1 hk2 hy hkk hV2 g5 ck z0 hbl HFT HI hbI hbN2;go_upto_region 8 with fail
        have f0:=FACT.out _ (Below.refl _ _);have fd:=FACT.out _ (zadZ wr)
        go_region_held3 (fun w'=>(w'.cell? ⟨gn,0,none⟩=some (.int .i64 nk)∧w'.cell? ⟨gn,1,none⟩=some (.string nt)∧w'.cell? ⟨gn,2,none⟩=some (.int .i64 ni)∧w'.cell? ⟨gn,3,none⟩=some (.slice kA q kc)∧w'.cell? ⟨gn,4,none⟩=some (.slice (some ⟨bI,offI,none⟩) m ic))∧w'.cell? ⟨bI,offI+j,none⟩=some (.int .i64 b)∧w'.cell? ⟨bN,offN+b * 5,none⟩=some (.int .i64 kk)) (first | with_reducible exact f0 | with_reducible exact fd | with_reducible exact f6) (first
         | (go_at_call 178;(with_reducible refine (HFJ.out _).mono ?_);rintro e w6 ⟨rfl,hb6⟩;have HB6:=hZz (zahZ hb6 (zadZ wr));have f6:=FACT.out _ HB6.out;clear hb6))
        all_goals
         clear f0 fd f6;cases y with
         | false =>
          go_wp2_with (fail)
          rw [← HP.out];exact ⟨by rw [HK2.out];rfl,zaaZ HB6.out HB.out HB.out.size⟩
         | true =>
          obtain ⟨R,hR⟩:∃ R,firstF l f b=R:=⟨_,rfl⟩
          have HK3:Hid (F=R.bind (kidsF l (firstF l f) n j)):=hZz (by rw [HK2.out,if_neg (by decide),hR]);have HBW6:=hZz (zaaZ HB6.out HB.out HB.out.size);have HG6:=hZz (HG.out.below HB6.out)
          have HCA:Hid (∀ wx,Below w.heap.size w wx→Calls prog 135 #[.slice (some ⟨bN,offN,none⟩) N cap,.int .i64 b] wx fun e w'=>e=.returned (.int .i64 (shO R))∧Below wx.heap.size wx w'):=hZz (fun wx hb=>by
           have:=HIH.out b wx (by omega) (by omega) hb
           rwa [hR] at this)
          cases R with
          | none =>
           go_wp2_with (first
            | (go_at_call 135;(with_reducible refine (HCA.out _ HBW6.out).mono ?_);rintro e w7 ⟨rfl,hb7⟩;have HB7:=hZz (zaaZ hb7 HBW6.out HBW6.out.size);clear hb7))
           rw [← HP.out];exact ⟨by rw [HK3.out];rfl,HB7.out⟩
          | some s =>
           have hs0:¬ (s:Int)<0:=by omega
           have hsb:=zaaY hR
           go_wp2_with (first
            | (go_at_call 135;(with_reducible refine (HCA.out _ HBW6.out).mono ?_);rintro e w7 ⟨rfl,hb7⟩;have HB7:=hZz (zaaZ hb7 HBW6.out HBW6.out.size);have HG7:=hZz (HG6.out.below hb7);clear hb7))
           exact ⟨⟨s,j,by omega,by omega,rfl,by trivial,hZz (by rw [HK3.out];rfl),HB7,HG7⟩,by first | (simp [intOf];done) | (simp [intOf];omega)⟩
end
end Go.Proofs.YthiimbhjpdphpaaGreatDoor
