/- GK8, W16 -/
import Derived.Test.YthiimbhjpdphpaaGreatDoorPK4
import Derived.Test.YthiimbhjpdphpaaGreatDoorPK3
import Derived.Test.YthiimbhjpdphpaaGreatDoorPPA
set_option linter.unusedVariables false
set_option linter.unusedSimpArgs false
namespace Go.Proofs.YthiimbhjpdphpaaGreatDoor
section
open Go.RowKit
set_option maxRecDepth 100000
attribute [local go_sem] cell_alloc_is
def FnD.cells (f:FnD):List Value:=[.string f.name,.int .i64 f.params,.int .i64 f.locals,.int .i64 f.entry,.int .i64 f.fin]
def natCs (n:Nat):List Value:=[.int .i64 n]
/-- An instruction in memory. -/
def insR (w:World) (row:List Value) (i:InsD):Prop:=∃ kv,row=[.int .i64 i.op,.int .i64 i.a,.string i.s,kv]∧KeysV w kv i.keys
/-- The instructions of a code in memory. -/
def InsV (w:World) (B:Option Addr) (l:List InsD):Prop:=∃ rows:List (List Value),SlAt w B 4 (fun r=>r) rows∧rows.length=l.length∧∀ k (h:k<rows.length) (h':k<l.length),insR w rows[k] l[k]
theorem InsV.below {w w':World} {B:Option Addr} {l:List InsD} (h:InsV w B l) (hb:Below w.heap.size w w'):InsV w' B l:=by
 obtain ⟨rows,h1,h2,h3⟩:=h
 refine ⟨rows,h1.below hb,h2,fun k hk hk'=>?_⟩
 obtain ⟨kv,e,hkv⟩:=h3 k hk hk'
 exact ⟨kv,e,hkv.below hb⟩
theorem InsV.at {w:World} {B:Option Addr} {l:List InsD} (h:InsV w B l) {k:Nat} (hk:k<l.length):∃ b off kv,B=some ⟨b,off,none⟩∧b<w.heap.size∧w.cell? ⟨b,off+k * 4,none⟩=some (.int .i64 l[k].op)∧w.cell? ⟨b,off+k * 4+1,none⟩=some (.int .i64 l[k].a)∧w.cell? ⟨b,off+k * 4+2,none⟩=some (.string l[k].s)∧w.cell? ⟨b,off+k * 4+3,none⟩=some kv∧KeysV w kv l[k].keys:=by
 obtain ⟨rows,h1,h2,h3⟩:=h
 have hk':k<rows.length:=by omega
 obtain ⟨kv,e,hkv⟩:=h3 k hk' hk
 obtain ⟨b,off,rfl,hb⟩:=h1.ptr hk'
 exact ⟨b,off,kv,rfl,hb,h1.cell0 hk' (by rw [e];rfl),h1.cell hk' (j:=1) (by rw [e];rfl),h1.cell hk' (j:=2) (by rw [e];rfl),h1.cell hk' (j:=3) (by rw [e];rfl),hkv⟩
/-- A list of indices in memory of its own. -/
def SucV (base:Nat) (w:World) (v:Value) (l:List Nat):Prop:=∃ A cap,v=.slice A l.length cap∧SlAt w A 1 natCs l∧∀ g off,A=some ⟨g,off,none⟩→base≤g
def PopsP (c:CodeD) (i:InsD):Prop:=(1≤i.op∧i.op≤20)∧(i.op=17→0≤i.a∧i.a<(c.fns.length:Nat))
set_option maxHeartbeats 8000000 in
theorem cpops_any (c:CodeD) (A B:Option Addr) (ncap ni icap:Nat) (i:InsD) (kv:Value) (w:World) (hnf:c.fns.length≤40) (hS:Shaped w) (hF:SlAt w A 5 FnD.cells c.fns) (hi:PopsP c i) :
  Calls Tryz.prog 98 #[.agg #[.slice A c.fns.length ncap,.slice B ni icap],.agg #[.int .i64 i.op,.int .i64 i.a,.string i.s,kv]] w fun e w'=>e=.returned (.int .i64 (popF c i))∧Below w.heap.size w w':=by
 obtain ⟨op,a,s,keys⟩:=i
 obtain ⟨h1,h17⟩:=hi
 dsimp only at h1 h17
 have hop:op=1∨op=2∨op=3∨op=4∨op=5∨op=6∨op=7∨op=8∨op=9∨op=10∨op=11∨op=12∨op=13∨op=14∨op=15∨op=16∨op=17∨op=18∨op=19∨op=20:=by omega
 have HB2:=Lib.hid (below_2 w (.cells #[.slice A c.fns.length ncap,.slice B ni icap] 31) (.cells #[.int .i64 op,.int .i64 a,.string s,kv] 53))
 obtain ⟨r,hr⟩:∃ r,popF c ⟨op,a,s,keys⟩=r:=⟨_,rfl⟩
 rw [hr]
 have HR:=Lib.hid hr
 clear hr
 rcases hop with rfl | rfl | rfl | rfl | rfl | rfl | rfl | rfl | rfl | rfl | rfl | rfl | rfl | rfl | rfl | rfl | rfl | rfl | rfl | rfl
 ·have hre:r=0:=by rw [← HR.out];simp [popF]
  subst hre
  clear h17 hF HR h1
  have hc:=hS.row 6 _ _ _ _ _ _ rfl rfl rfl rfl rfl rfl
  simp only [Nat.reduceAdd] at hc
  clear hS
  all_goals
   go_enter Tryz.func98,Tryz.ntmps98
   go_wp2
   go_returns
   exact ⟨rfl,HB2.out⟩
 ·have hre:r=0:=by rw [← HR.out];simp [popF]
  subst hre
  clear h17 hF HR h1
  have hc:=hS.row 12 _ _ _ _ _ _ rfl rfl rfl rfl rfl rfl
  simp only [Nat.reduceAdd] at hc
  clear hS
  all_goals
   go_enter Tryz.func98,Tryz.ntmps98
   go_wp2
   go_returns
   exact ⟨rfl,HB2.out⟩
 ·have hre:r=0:=by rw [← HR.out];simp [popF]
  subst hre
  clear h17 hF HR h1
  have hc:=hS.row 18 _ _ _ _ _ _ rfl rfl rfl rfl rfl rfl
  simp only [Nat.reduceAdd] at hc
  clear hS
  all_goals
   go_enter Tryz.func98,Tryz.ntmps98
   go_wp2
   go_returns
   exact ⟨rfl,HB2.out⟩
 ·have hre:r=0:=by rw [← HR.out];simp [popF]
  subst hre
  clear h17 hF HR h1
  have hc:=hS.row 24 _ _ _ _ _ _ rfl rfl rfl rfl rfl rfl
  simp only [Nat.reduceAdd] at hc
  clear hS
  all_goals
   go_enter Tryz.func98,Tryz.ntmps98
   go_wp2
   go_returns
   exact ⟨rfl,HB2.out⟩
 ·have hre:r=0:=by rw [← HR.out];simp [popF]
  subst hre
  clear h17 hF HR h1
  have hc:=hS.row 30 _ _ _ _ _ _ rfl rfl rfl rfl rfl rfl
  simp only [Nat.reduceAdd] at hc
  clear hS
  all_goals
   go_enter Tryz.func98,Tryz.ntmps98
   go_wp2
   go_returns
   exact ⟨rfl,HB2.out⟩
 ·have hre:r=1:=by rw [← HR.out];simp [popF]
  subst hre
  clear h17 hF HR h1
  have hc:=hS.row 36 _ _ _ _ _ _ rfl rfl rfl rfl rfl rfl
  simp only [Nat.reduceAdd] at hc
  clear hS
  all_goals
   go_enter Tryz.func98,Tryz.ntmps98
   go_wp2
   go_returns
   exact ⟨rfl,HB2.out⟩
 ·have hre:r=1:=by rw [← HR.out];simp [popF]
  subst hre
  clear h17 hF HR h1
  have hc:=hS.row 42 _ _ _ _ _ _ rfl rfl rfl rfl rfl rfl
  simp only [Nat.reduceAdd] at hc
  clear hS
  all_goals
   go_enter Tryz.func98,Tryz.ntmps98
   go_wp2
   go_returns
   exact ⟨rfl,HB2.out⟩
 ·have hre:r=1:=by rw [← HR.out];simp [popF]
  subst hre
  clear h17 hF HR h1
  have hc:=hS.row 48 _ _ _ _ _ _ rfl rfl rfl rfl rfl rfl
  simp only [Nat.reduceAdd] at hc
  clear hS
  all_goals
   go_enter Tryz.func98,Tryz.ntmps98
   go_wp2
   go_returns
   exact ⟨rfl,HB2.out⟩
 ·have hre:r=2:=by rw [← HR.out];simp [popF]
  subst hre
  clear h17 hF HR h1
  have hc:=hS.row 54 _ _ _ _ _ _ rfl rfl rfl rfl rfl rfl
  simp only [Nat.reduceAdd] at hc
  clear hS
  all_goals
   go_enter Tryz.func98,Tryz.ntmps98
   go_wp2
   go_returns
   exact ⟨rfl,HB2.out⟩
 ·have hre:r=2:=by rw [← HR.out];simp [popF]
  subst hre
  clear h17 hF HR h1
  have hc:=hS.row 60 _ _ _ _ _ _ rfl rfl rfl rfl rfl rfl
  simp only [Nat.reduceAdd] at hc
  clear hS
  all_goals
   go_enter Tryz.func98,Tryz.ntmps98
   go_wp2
   go_returns
   exact ⟨rfl,HB2.out⟩
 ·have hre:r=a:=by rw [← HR.out];simp [popF]
  subst hre
  clear h17 hF HR h1
  have hc:=hS.row 66 _ _ _ _ _ _ rfl rfl rfl rfl rfl rfl
  simp only [Nat.reduceAdd] at hc
  clear hS
  all_goals
   go_enter Tryz.func98,Tryz.ntmps98
   go_wp2
   go_returns
   exact ⟨rfl,HB2.out⟩
 ·have hre:r=a:=by rw [← HR.out];simp [popF]
  subst hre
  clear h17 hF HR h1
  have hc:=hS.row 72 _ _ _ _ _ _ rfl rfl rfl rfl rfl rfl
  simp only [Nat.reduceAdd] at hc
  clear hS
  all_goals
   go_enter Tryz.func98,Tryz.ntmps98
   go_wp2
   go_returns
   exact ⟨rfl,HB2.out⟩
 ·have hre:r=0:=by rw [← HR.out];simp [popF]
  subst hre
  clear h17 hF HR h1
  have hc:=hS.row 78 _ _ _ _ _ _ rfl rfl rfl rfl rfl rfl
  simp only [Nat.reduceAdd] at hc
  clear hS
  all_goals
   go_enter Tryz.func98,Tryz.ntmps98
   go_wp2
   go_returns
   exact ⟨rfl,HB2.out⟩
 ·have hre:r=1:=by rw [← HR.out];simp [popF]
  subst hre
  clear h17 hF HR h1
  have hc:=hS.row 84 _ _ _ _ _ _ rfl rfl rfl rfl rfl rfl
  simp only [Nat.reduceAdd] at hc
  clear hS
  all_goals
   go_enter Tryz.func98,Tryz.ntmps98
   go_wp2
   go_returns
   exact ⟨rfl,HB2.out⟩
 ·have hre:r=1:=by rw [← HR.out];simp [popF]
  subst hre
  clear h17 hF HR h1
  have hc:=hS.row 90 _ _ _ _ _ _ rfl rfl rfl rfl rfl rfl
  simp only [Nat.reduceAdd] at hc
  clear hS
  all_goals
   go_enter Tryz.func98,Tryz.ntmps98
   go_wp2
   go_returns
   exact ⟨rfl,HB2.out⟩
 ·have hre:r=1:=by rw [← HR.out];simp [popF]
  subst hre
  clear h17 hF HR h1
  have hc:=hS.row 96 _ _ _ _ _ _ rfl rfl rfl rfl rfl rfl
  simp only [Nat.reduceAdd] at hc
  clear hS
  all_goals
   go_enter Tryz.func98,Tryz.ntmps98
   go_wp2
   go_returns
   exact ⟨rfl,HB2.out⟩
 ·obtain ⟨ha0,ha1⟩:=h17 rfl
  obtain ⟨m,rfl⟩:∃ m:Nat,a=(m:Int):=⟨a.toNat,by omega⟩
  have hm:m<c.fns.length:=by omega
  have hm':(m:Int)<(c.fns.length:Int):=by omega
  have hre:r=c.fns[m].params:=by rw [← HR.out];simp [popF,hm]
  obtain ⟨b,off,rfl,_⟩:=hF.ptr hm
  have cf:=hF.cell hm (j:=1) (v:=.int .i64 c.fns[m].params) rfl
  obtain ⟨p,hp⟩:∃ p,c.fns[m].params=p:=⟨_,rfl⟩
  rw [hp] at cf hre
  subst hre
  clear h17 hF hp HR h1
  have hc:=hS.row 102 _ _ _ _ _ _ rfl rfl rfl rfl rfl rfl
  simp only [Nat.reduceAdd] at hc
  clear hS
  go_enter Tryz.func98,Tryz.ntmps98
  go_wp2
  go_returns
  exact ⟨rfl,HB2.out⟩
 ·have hre:r=a:=by rw [← HR.out];simp [popF]
  subst hre
  clear h17 hF HR h1
  have hc:=hS.row 108 _ _ _ _ _ _ rfl rfl rfl rfl rfl rfl
  simp only [Nat.reduceAdd] at hc
  clear hS
  all_goals
   go_enter Tryz.func98,Tryz.ntmps98
   go_wp2
   go_returns
   exact ⟨rfl,HB2.out⟩
 ·have hre:r=a:=by rw [← HR.out];simp [popF]
  subst hre
  clear h17 hF HR h1
  have hc:=hS.row 114 _ _ _ _ _ _ rfl rfl rfl rfl rfl rfl
  simp only [Nat.reduceAdd] at hc
  clear hS
  all_goals
   go_enter Tryz.func98,Tryz.ntmps98
   go_wp2
   go_returns
   exact ⟨rfl,HB2.out⟩
 ·have hre:r=1:=by rw [← HR.out];simp [popF]
  subst hre
  clear h17 hF HR h1
  have hc:=hS.row 120 _ _ _ _ _ _ rfl rfl rfl rfl rfl rfl
  simp only [Nat.reduceAdd] at hc
  clear hS
  all_goals
   go_enter Tryz.func98,Tryz.ntmps98
   go_wp2
   go_returns
   exact ⟨rfl,HB2.out⟩
set_option maxHeartbeats 4000000 in
theorem csuc_any (i:InsD) (kv:Value) (k:Nat) (w:World) (hk:k≤4000) (h1:1≤i.op∧i.op≤20) (ha:i.op=13∨i.op=14→0≤i.a) :
  Calls Tryz.prog 99 #[.agg #[.int .i64 i.op,.int .i64 i.a,.string i.s,kv],.int .i64 k] w fun e w'=>(∃ v,e=.returned v∧SucV w.heap.size w' v (sucF i k))∧Below w.heap.size w w':=by
 obtain ⟨op,a,s,keys⟩:=i
 dsimp only at h1 ha
 have hk0:(0:Int)≤(k:Int):=by omega
 have hk9:(k:Int)≤4000:=by omega
 have HBW:=Lib.hid (below_new w (.cells #[.int .i64 op,.int .i64 a,.string s,kv] 53))
 have hop:op=1∨op=2∨op=3∨op=4∨op=5∨op=6∨op=7∨op=8∨op=9∨op=10∨op=11∨op=12∨op=13∨op=14∨op=15∨op=16∨op=17∨op=18∨op=19∨op=20:=by omega
 clear h1
 have HA:=Lib.hid ha
 clear ha
 obtain ⟨P,hP⟩:∃ P:Ending→World→Prop,(fun e w'=>(∃ v,e=.returned v∧SucV w.heap.size w' v (sucF ⟨op,a,s,keys⟩ k))∧Below w.heap.size w w')=P:=⟨_,rfl⟩
 rw [hP]
 have HP:=Lib.hid hP
 clear hP
 rcases hop with rfl | rfl | rfl | rfl | rfl | rfl | rfl | rfl | rfl | rfl | rfl | rfl | rfl | rfl | rfl | rfl | rfl | rfl | rfl | rfl
 ·have hl:sucF ⟨1,a,s,keys⟩ k=[k+1]:=by simp [sucF]
  rw [hl] at HP
  skip
  skip
  skip
  go_enter Tryz.func99,Tryz.ntmps99
  go_wp2
  rw [← HP.out]
  exact ⟨⟨_,rfl,⟨some ⟨w.heap.size+1,0,none⟩,1,rfl,rows_new (by simp) _ _ [k+1] (by simp [natCs]) (fun _=>rfl) (by omega) (by simp [maxLen]),fun g off h=>by injection h with h;injection h with h;omega⟩⟩,HBW.out.alloc HBW.out.size _⟩
 ·have hl:sucF ⟨2,a,s,keys⟩ k=[k+1]:=by simp [sucF]
  rw [hl] at HP
  skip
  skip
  skip
  go_enter Tryz.func99,Tryz.ntmps99
  go_wp2
  rw [← HP.out]
  exact ⟨⟨_,rfl,⟨some ⟨w.heap.size+1,0,none⟩,1,rfl,rows_new (by simp) _ _ [k+1] (by simp [natCs]) (fun _=>rfl) (by omega) (by simp [maxLen]),fun g off h=>by injection h with h;injection h with h;omega⟩⟩,HBW.out.alloc HBW.out.size _⟩
 ·have hl:sucF ⟨3,a,s,keys⟩ k=[k+1]:=by simp [sucF]
  rw [hl] at HP
  skip
  skip
  skip
  go_enter Tryz.func99,Tryz.ntmps99
  go_wp2
  rw [← HP.out]
  exact ⟨⟨_,rfl,⟨some ⟨w.heap.size+1,0,none⟩,1,rfl,rows_new (by simp) _ _ [k+1] (by simp [natCs]) (fun _=>rfl) (by omega) (by simp [maxLen]),fun g off h=>by injection h with h;injection h with h;omega⟩⟩,HBW.out.alloc HBW.out.size _⟩
 ·have hl:sucF ⟨4,a,s,keys⟩ k=[k+1]:=by simp [sucF]
  rw [hl] at HP
  skip
  skip
  skip
  go_enter Tryz.func99,Tryz.ntmps99
  go_wp2
  rw [← HP.out]
  exact ⟨⟨_,rfl,⟨some ⟨w.heap.size+1,0,none⟩,1,rfl,rows_new (by simp) _ _ [k+1] (by simp [natCs]) (fun _=>rfl) (by omega) (by simp [maxLen]),fun g off h=>by injection h with h;injection h with h;omega⟩⟩,HBW.out.alloc HBW.out.size _⟩
 ·have hl:sucF ⟨5,a,s,keys⟩ k=[k+1]:=by simp [sucF]
  rw [hl] at HP
  skip
  skip
  skip
  go_enter Tryz.func99,Tryz.ntmps99
  go_wp2
  rw [← HP.out]
  exact ⟨⟨_,rfl,⟨some ⟨w.heap.size+1,0,none⟩,1,rfl,rows_new (by simp) _ _ [k+1] (by simp [natCs]) (fun _=>rfl) (by omega) (by simp [maxLen]),fun g off h=>by injection h with h;injection h with h;omega⟩⟩,HBW.out.alloc HBW.out.size _⟩
 ·have hl:sucF ⟨6,a,s,keys⟩ k=[k+1]:=by simp [sucF]
  rw [hl] at HP
  skip
  skip
  skip
  go_enter Tryz.func99,Tryz.ntmps99
  go_wp2
  rw [← HP.out]
  exact ⟨⟨_,rfl,⟨some ⟨w.heap.size+1,0,none⟩,1,rfl,rows_new (by simp) _ _ [k+1] (by simp [natCs]) (fun _=>rfl) (by omega) (by simp [maxLen]),fun g off h=>by injection h with h;injection h with h;omega⟩⟩,HBW.out.alloc HBW.out.size _⟩
 ·have hl:sucF ⟨7,a,s,keys⟩ k=[k+1]:=by simp [sucF]
  rw [hl] at HP
  skip
  skip
  skip
  go_enter Tryz.func99,Tryz.ntmps99
  go_wp2
  rw [← HP.out]
  exact ⟨⟨_,rfl,⟨some ⟨w.heap.size+1,0,none⟩,1,rfl,rows_new (by simp) _ _ [k+1] (by simp [natCs]) (fun _=>rfl) (by omega) (by simp [maxLen]),fun g off h=>by injection h with h;injection h with h;omega⟩⟩,HBW.out.alloc HBW.out.size _⟩
 ·have hl:sucF ⟨8,a,s,keys⟩ k=[k+1]:=by simp [sucF]
  rw [hl] at HP
  skip
  skip
  skip
  go_enter Tryz.func99,Tryz.ntmps99
  go_wp2
  rw [← HP.out]
  exact ⟨⟨_,rfl,⟨some ⟨w.heap.size+1,0,none⟩,1,rfl,rows_new (by simp) _ _ [k+1] (by simp [natCs]) (fun _=>rfl) (by omega) (by simp [maxLen]),fun g off h=>by injection h with h;injection h with h;omega⟩⟩,HBW.out.alloc HBW.out.size _⟩
 ·have hl:sucF ⟨9,a,s,keys⟩ k=[k+1]:=by simp [sucF]
  rw [hl] at HP
  skip
  skip
  skip
  go_enter Tryz.func99,Tryz.ntmps99
  go_wp2
  rw [← HP.out]
  exact ⟨⟨_,rfl,⟨some ⟨w.heap.size+1,0,none⟩,1,rfl,rows_new (by simp) _ _ [k+1] (by simp [natCs]) (fun _=>rfl) (by omega) (by simp [maxLen]),fun g off h=>by injection h with h;injection h with h;omega⟩⟩,HBW.out.alloc HBW.out.size _⟩
 ·have hl:sucF ⟨10,a,s,keys⟩ k=[k+1]:=by simp [sucF]
  rw [hl] at HP
  skip
  skip
  skip
  go_enter Tryz.func99,Tryz.ntmps99
  go_wp2
  rw [← HP.out]
  exact ⟨⟨_,rfl,⟨some ⟨w.heap.size+1,0,none⟩,1,rfl,rows_new (by simp) _ _ [k+1] (by simp [natCs]) (fun _=>rfl) (by omega) (by simp [maxLen]),fun g off h=>by injection h with h;injection h with h;omega⟩⟩,HBW.out.alloc HBW.out.size _⟩
 ·have hl:sucF ⟨11,a,s,keys⟩ k=[k+1]:=by simp [sucF]
  rw [hl] at HP
  skip
  skip
  skip
  go_enter Tryz.func99,Tryz.ntmps99
  go_wp2
  rw [← HP.out]
  exact ⟨⟨_,rfl,⟨some ⟨w.heap.size+1,0,none⟩,1,rfl,rows_new (by simp) _ _ [k+1] (by simp [natCs]) (fun _=>rfl) (by omega) (by simp [maxLen]),fun g off h=>by injection h with h;injection h with h;omega⟩⟩,HBW.out.alloc HBW.out.size _⟩
 ·have hl:sucF ⟨12,a,s,keys⟩ k=[k+1]:=by simp [sucF]
  rw [hl] at HP
  skip
  skip
  skip
  go_enter Tryz.func99,Tryz.ntmps99
  go_wp2
  rw [← HP.out]
  exact ⟨⟨_,rfl,⟨some ⟨w.heap.size+1,0,none⟩,1,rfl,rows_new (by simp) _ _ [k+1] (by simp [natCs]) (fun _=>rfl) (by omega) (by simp [maxLen]),fun g off h=>by injection h with h;injection h with h;omega⟩⟩,HBW.out.alloc HBW.out.size _⟩
 ·have hl:sucF ⟨13,a,s,keys⟩ k=[a.toNat]:=by simp [sucF]
  rw [hl] at HP
  have hat:((a.toNat:Nat):Int)=a:=by have:=HA.out (by simp);omega
  have HAT:=Lib.hid hat
  clear hat
  go_enter Tryz.func99,Tryz.ntmps99
  go_wp2
  rw [← HP.out]
  exact ⟨⟨_,rfl,⟨some ⟨w.heap.size+1,0,none⟩,1,rfl,rows_new (by simp) _ _ [a.toNat] (by simp [natCs,HAT.out]) (fun _=>rfl) (by omega) (by simp [maxLen]),fun g off h=>by injection h with h;injection h with h;omega⟩⟩,HBW.out.alloc HBW.out.size _⟩
 ·have hl:sucF ⟨14,a,s,keys⟩ k=[k+1,a.toNat]:=by simp [sucF]
  rw [hl] at HP
  have hat:((a.toNat:Nat):Int)=a:=by have:=HA.out (by simp);omega
  have HAT:=Lib.hid hat
  clear hat
  go_enter Tryz.func99,Tryz.ntmps99
  go_wp2
  rw [← HP.out]
  exact ⟨⟨_,rfl,⟨some ⟨w.heap.size+1,0,none⟩,2,rfl,rows_new (by simp) _ _ [k+1,a.toNat] (by simp [natCs,HAT.out]) (fun _=>rfl) (by omega) (by simp [maxLen]),fun g off h=>by injection h with h;injection h with h;omega⟩⟩,HBW.out.alloc HBW.out.size _⟩
 ·have hl:sucF ⟨15,a,s,keys⟩ k=[k+1]:=by simp [sucF]
  rw [hl] at HP
  skip
  skip
  skip
  go_enter Tryz.func99,Tryz.ntmps99
  go_wp2
  rw [← HP.out]
  exact ⟨⟨_,rfl,⟨some ⟨w.heap.size+1,0,none⟩,1,rfl,rows_new (by simp) _ _ [k+1] (by simp [natCs]) (fun _=>rfl) (by omega) (by simp [maxLen]),fun g off h=>by injection h with h;injection h with h;omega⟩⟩,HBW.out.alloc HBW.out.size _⟩
 ·have hl:sucF ⟨16,a,s,keys⟩ k=[k+1]:=by simp [sucF]
  rw [hl] at HP
  skip
  skip
  skip
  go_enter Tryz.func99,Tryz.ntmps99
  go_wp2
  rw [← HP.out]
  exact ⟨⟨_,rfl,⟨some ⟨w.heap.size+1,0,none⟩,1,rfl,rows_new (by simp) _ _ [k+1] (by simp [natCs]) (fun _=>rfl) (by omega) (by simp [maxLen]),fun g off h=>by injection h with h;injection h with h;omega⟩⟩,HBW.out.alloc HBW.out.size _⟩
 ·have hl:sucF ⟨17,a,s,keys⟩ k=[k+1]:=by simp [sucF]
  rw [hl] at HP
  skip
  skip
  skip
  go_enter Tryz.func99,Tryz.ntmps99
  go_wp2
  rw [← HP.out]
  exact ⟨⟨_,rfl,⟨some ⟨w.heap.size+1,0,none⟩,1,rfl,rows_new (by simp) _ _ [k+1] (by simp [natCs]) (fun _=>rfl) (by omega) (by simp [maxLen]),fun g off h=>by injection h with h;injection h with h;omega⟩⟩,HBW.out.alloc HBW.out.size _⟩
 ·have hl:sucF ⟨18,a,s,keys⟩ k=[k+1]:=by simp [sucF]
  rw [hl] at HP
  skip
  skip
  skip
  go_enter Tryz.func99,Tryz.ntmps99
  go_wp2
  rw [← HP.out]
  exact ⟨⟨_,rfl,⟨some ⟨w.heap.size+1,0,none⟩,1,rfl,rows_new (by simp) _ _ [k+1] (by simp [natCs]) (fun _=>rfl) (by omega) (by simp [maxLen]),fun g off h=>by injection h with h;injection h with h;omega⟩⟩,HBW.out.alloc HBW.out.size _⟩
 ·have hl:sucF ⟨19,a,s,keys⟩ k=[k+1]:=by simp [sucF]
  rw [hl] at HP
  skip
  skip
  skip
  go_enter Tryz.func99,Tryz.ntmps99
  go_wp2
  rw [← HP.out]
  exact ⟨⟨_,rfl,⟨some ⟨w.heap.size+1,0,none⟩,1,rfl,rows_new (by simp) _ _ [k+1] (by simp [natCs]) (fun _=>rfl) (by omega) (by simp [maxLen]),fun g off h=>by injection h with h;injection h with h;omega⟩⟩,HBW.out.alloc HBW.out.size _⟩
 ·have hl:sucF ⟨20,a,s,keys⟩ k=[]:=by simp [sucF]
  rw [hl] at HP
  skip
  skip
  skip
  go_enter Tryz.func99,Tryz.ntmps99
  go_wp2
  rw [← HP.out]
  exact ⟨⟨_,rfl,⟨_,0,rfl,SlAt.nil,fun g off h=>by cases h⟩⟩,HBW.out⟩
end
section
open Go.RowKit
set_option maxRecDepth 100000
attribute [local go_sem] cell_alloc_is
/-- What a search for a name answers. -/
def FindP (l:List FnD) (s:ByteArray) (r:Int):Prop:=(r=-1∧∀ j (h:j<l.length),l[j].name≠s)∨(∃ k,∃ h:k<l.length,r=(k:Nat)∧l[k].name=s∧∀ j (hj:j<k),(l[j]'(by omega)).name≠s)
theorem bytes_ne {a b:ByteArray} (h:(a.toList == b.toList)=false):a≠b:=fun e=>by subst e;simp at h
theorem bytes_eq {a b:ByteArray} (h:(a.toList == b.toList)=true):a=b:=by
 have:=eq_of_beq h
 rw [Lib.toList_data,Lib.toList_data] at this
 exact ByteArray.ext (Array.ext' this)
set_option maxHeartbeats 4000000 in
theorem rfind_any (l:List FnD) (A B:Option Addr) (ncap ni icap:Nat) (s:ByteArray) (w:World) (hl:l.length≤40) (hF:SlAt w A 5 FnD.cells l) :
  Calls Tryz.prog 107 #[.agg #[.slice A l.length ncap,.slice B ni icap],.string s] w fun e w'=>(∃ r,e=.returned (.int .i64 r)∧FindP l s r)∧Below w.heap.size w w':=by
 obtain ⟨P,hP⟩:∃ P:Ending→World→Prop,(fun e w'=>(∃ r,e=.returned (.int .i64 r)∧FindP l s r)∧Below w.heap.size w w')=P:=⟨_,rfl⟩
 rw [hP]
 have HP:=Lib.hid hP
 have HF:=Lib.hid hF
 have HB0:=Lib.hid (below_new w (.cells #[.slice A l.length ncap,.slice B ni icap] 31))
 clear hP hF
 go_enter Tryz.func107,Tryz.ntmps107
 go_wp2_with (fail)
 go_loop [5] (fun iv=>∃ k:Nat,k≤l.length∧iv=.int .i64 k∧Hid (∀ j (h:j<l.length),j<k→l[j].name≠s)) (fun iv=>l.length - (intOf iv).toNat)
 case atStart=>exact ⟨0,Nat.zero_le _,rfl,Lib.hid (fun j h h2=>by omega)⟩
 case round =>
  obtain ⟨k,hk,rfl,HN⟩:=hrel
  have hk0:(0:Int)≤(k:Int):=by omega
  by_cases hlt:k<l.length
  ·have hlt':(k:Int)<(l.length:Int):=by omega
   have hk9:(k:Int)≤40:=by omega
   obtain ⟨b,off,rfl,_⟩:=HF.out.ptr hlt
   obtain ⟨x,hx⟩:∃ x,l[k].name=x:=⟨_,rfl⟩
   have c0:=HF.out.cell0 hlt (v:=.string x) (by rw [← hx];rfl)
   have HX:=Lib.hid hx
   clear hx
   cases he:(x.toList == s.toList) with
   | true =>
    have HE:=Lib.hid (bytes_eq he)
    go_wp2_with (fail)
    rw [← HP.out]
    exact ⟨⟨k,rfl,.inr ⟨k,hlt,rfl,by rw [HX.out];exact HE.out,fun j hj=>HN.out j (by omega) hj⟩⟩,HB0.out⟩
   | false =>
    have HE:=Lib.hid (bytes_ne he)
    go_wp2_with (fail)
    exact ⟨⟨k+1,by omega,by simp,Lib.hid (fun j h h2=>by
     by_cases e:j=k
     ·subst e;rw [HX.out];exact HE.out
     ·exact HN.out j h (by omega))⟩,by simp [intOf];omega⟩
  ·have e:k=l.length:=by omega
   subst e
   go_wp2_with (fail)
   rw [← HP.out]
   exact ⟨⟨-1,rfl,.inl ⟨rfl,fun j h=>HN.out j h h⟩⟩,HB0.out⟩
set_option maxHeartbeats 4000000 in
theorem cfind_any (l:List FnD) (A B:Option Addr) (ncap ni icap:Nat) (s:ByteArray) (w:World) (hl:l.length≤40) (hF:SlAt w A 5 FnD.cells l) :
  Calls Tryz.prog 94 #[.agg #[.slice A l.length ncap,.slice B ni icap],.string s] w fun e w'=>(∃ r,e=.returned (.int .i64 r)∧FindP l s r)∧Below w.heap.size w w':=by
 obtain ⟨P,hP⟩:∃ P:Ending→World→Prop,(fun e w'=>(∃ r,e=.returned (.int .i64 r)∧FindP l s r)∧Below w.heap.size w w')=P:=⟨_,rfl⟩
 rw [hP]
 have HP:=Lib.hid hP
 have HF:=Lib.hid hF
 have hb2:=below_2 w (.cells #[.slice A l.length ncap,.slice B ni icap] 31) (.cells #[.string s] 9)
 have HX2:=Lib.hid (Blk.second w (.cells #[.slice A l.length ncap,.slice B ni icap] 31) 9 #[.string s])
 obtain ⟨W2,hW2⟩:∃ W2,(w.alloc (.cells #[.slice A l.length ncap,.slice B ni icap] 31)).alloc (.cells #[.string s] 9)=W2:=⟨_,rfl⟩
 rw [hW2] at hb2 HX2
 have HB2:=Lib.hid hb2
 obtain ⟨gs,hgs⟩:∃ g,w.heap.size+1=g:=⟨_,rfl⟩
 rw [hgs] at HX2
 have HW2:=Lib.hid hW2
 have HGS:=Lib.hid hgs
 clear hP hF hb2 hW2 hgs
 go_enter Tryz.func94,Tryz.ntmps94
 go_wp2_with (fail)
 rw [HW2.out,HGS.out]
 clear HW2 HGS
 go_enter Tryz.func142,Tryz.ntmps142
 go_wp2_with (fail)
 go_loopw [5,8] (fun _ iv wr=>∃ k:Nat,k≤l.length∧iv=.int .i64 k∧Hid (∀ j (h:j<l.length),j<k→l[j].name≠s)∧Hid (Below W2.heap.size W2 wr)) (fun _ iv _=>l.length - (intOf iv).toNat)
 case atStart=>exact ⟨0,Nat.zero_le _,rfl,Lib.hid (fun j h h2=>by omega),Lib.hid (Below.refl _ _)⟩
 case round =>
  obtain ⟨k,hk,rfl,HN,HBR⟩:=hrel
  have hk0:(0:Int)≤(k:Int):=by omega
  have HBW:Hid (Below w.heap.size w wr):=Lib.hid (below_call HBR.out HB2.out)
  have s0:=(HX2.out.below HBR.out).cell 0 (.string s) rfl
  by_cases hlt:k<l.length
  ·have hlt':(k:Int)<(l.length:Int):=by omega
   have hk9:(k:Int)≤40:=by omega
   have hsa:=HF.out.below HBW.out
   obtain ⟨b,off,rfl,_⟩:=hsa.ptr hlt
   obtain ⟨f,hf⟩:∃ f,l[k]=f:=⟨_,rfl⟩
   have c0:=hsa.cell0 hlt (v:=.string f.name) (by rw [hf];rfl)
   have c1:=hsa.cell hlt (j:=1) (v:=.int .i64 f.params) (by rw [hf];rfl)
   have c2:=hsa.cell hlt (j:=2) (v:=.int .i64 f.locals) (by rw [hf];rfl)
   have c3:=hsa.cell hlt (j:=3) (v:=.int .i64 f.entry) (by rw [hf];rfl)
   have c4:=hsa.cell hlt (j:=4) (v:=.int .i64 f.fin) (by rw [hf];rfl)
   have HX:=Lib.hid hf
   have HB3:∀ o:Obj,Below W2.heap.size W2 (wr.alloc o):=fun o=>HBR.out.alloc HBR.out.size o
   have HBO:=Lib.hid HB3
   clear hf hsa HB3
   cases he:(f.name.toList == s.toList) with
   | true =>
    have HE:=Lib.hid (bytes_eq he)
    go_wp2_with (first
     | (go_at_call 143;go_enter Tryz.func143,Tryz.ntmps143))
    rw [← HP.out]
    exact ⟨⟨k,rfl,.inr ⟨k,hlt,rfl,by rw [HX.out];exact HE.out,fun j hj=>HN.out j (by omega) hj⟩⟩,below_call (HBO.out _) HB2.out⟩
   | false =>
    have HE:=Lib.hid (bytes_ne he)
    go_wp2_with (first
     | (go_at_call 143;go_enter Tryz.func143,Tryz.ntmps143))
    exact ⟨⟨k+1,by omega,by simp,Lib.hid (fun j h h2=>by
     by_cases e:j=k
     ·subst e;rw [HX.out];exact HE.out
     ·exact HN.out j h (by omega)),Lib.hid (HBO.out _)⟩,by simp [intOf];omega⟩
  ·have e:k=l.length:=by omega
   subst e
   go_wp2_with (fail)
   rw [← HP.out]
   exact ⟨⟨-1,rfl,.inl ⟨rfl,fun j h=>HN.out j h h⟩⟩,HBW.out⟩
end
section
open Go.RowKit
theorem lvl_size {s:ByteArray} (h:0<lvlF s):s.toList.length≤3:=by
 unfold lvlF at h
 by_cases h1:s.toList=[111,114]
 ·rw [h1];decide
 rw [if_neg h1] at h
 by_cases h2:s.toList=[97,110,100]
 ·rw [h2];decide
 rw [if_neg h2] at h
 by_cases h3:s.toList∈([[61,61],[33,61],[60],[60,61],[62],[62,61]]:List (List UInt8))
 ·simp only [List.mem_cons,List.not_mem_nil,or_false] at h3
  rcases h3 with h3 | h3 | h3 | h3 | h3 | h3 <;> rw [h3] <;> decide
 rw [if_neg h3] at h
 by_cases h4:s.toList∈([[43],[45]]:List (List UInt8))
 ·simp only [List.mem_cons,List.not_mem_nil,or_false] at h4
  rcases h4 with h4 | h4 <;> rw [h4] <;> decide
 rw [if_neg h4] at h
 by_cases h5:s.toList∈([[42],[47],[37]]:List (List UInt8))
 ·simp only [List.mem_cons,List.not_mem_nil,or_false] at h5
  rcases h5 with h5 | h5 | h5 <;> rw [h5] <;> decide
 rw [if_neg h5] at h
 omega
theorem size_toL (s:ByteArray):s.toList.length=s.size:=by
 rw [ByteArray.toList_eq,Array.length_toList]
 rfl
theorem run_small {s:ByteArray} (h:runB s=true):s.size≤24:=by
 unfold runB at h
 simp only [Bool.and_eq_true,decide_eq_true_eq] at h
 exact h.1
theorem str_small {s:ByteArray} (h:strB s=true):s.size≤200:=by
 unfold strB at h
 simp only [Bool.and_eq_true,decide_eq_true_eq] at h
 exact h.2
theorem name_small {s:ByteArray} (h:nameB s=true):s.size≤24:=by
 unfold nameB at h
 simp only [Bool.and_eq_true] at h
 exact run_small h.1
theorem keys_small {l:List ByteArray} (h:keysB l=true):∀ k∈l,k.size≤200:=by
 intro k hk
 obtain ⟨i,hi,rfl⟩:=List.getElem_of_mem hk
 unfold keysB at h
 rw [List.all_eq_true] at h
 have:=h i (List.mem_range.2 hi)
 unfold keyAtB at this
 simp only [Bool.and_eq_true] at this
 have h2:=str_small this.1
 rwa [getD_at hi] at h2
theorem fields_small {n:NodeD} (h:fieldsB n=true):n.text.size≤200∧∀ k∈n.keys,k.size≤200:=by
 unfold fieldsB at h
 by_cases h0:(n.kind≠7∧n.keys≠[])∨(n.kind≠2∧n.kind≠3∧n.int≠0)
 ·rw [if_pos h0] at h;cases h
 rw [if_neg h0] at h
 have hk:n.kind≠7→∀ k∈n.keys,k.size≤200:=by
  intro h7 k hk
  by_cases he:n.keys=[]
  ·rw [he] at hk;cases hk
  ·exact absurd (.inl ⟨h7,he⟩) h0
 have he:∀ {l:List UInt8},n.text.toList=l→l.length≤200→n.text.size≤200:=by
  intro l h1 h2
  rw [← size_toL,h1]
  exact h2
 by_cases h2:n.kind=2
 ·rw [if_pos h2] at h
  simp only [Bool.and_eq_true,decide_eq_true_eq] at h
  exact ⟨he h.1 (by decide),hk (by omega)⟩
 rw [if_neg h2] at h
 by_cases h3:n.kind=3
 ·rw [if_pos h3] at h
  simp only [Bool.and_eq_true,decide_eq_true_eq] at h
  exact ⟨he h.1 (by decide),hk (by omega)⟩
 rw [if_neg h3] at h
 by_cases h4:n.kind=4
 ·rw [if_pos h4] at h
  exact ⟨str_small h,hk (by omega)⟩
 rw [if_neg h4] at h
 by_cases h5:n.kind=5∨n.kind=11∨n.kind=13∨n.kind=14
 ·rw [if_pos h5] at h
  exact ⟨by have:=name_small h;omega,hk (by omega)⟩
 rw [if_neg h5] at h
 by_cases h6:n.kind=12
 ·rw [if_pos h6] at h
  exact ⟨by have:=run_small h;omega,hk (by omega)⟩
 rw [if_neg h6] at h
 by_cases h7:n.kind=7
 ·rw [if_pos h7] at h
  simp only [Bool.and_eq_true,decide_eq_true_eq] at h
  exact ⟨he h.1 (by decide),keys_small h.2.2⟩
 rw [if_neg h7] at h
 by_cases h8:n.kind=8
 ·rw [if_pos h8] at h
  simp only [Bool.or_eq_true,decide_eq_true_eq] at h
  rcases h with h | h
  ·exact ⟨he h (by decide),hk h7⟩
  ·exact ⟨he h (by decide),hk h7⟩
 rw [if_neg h8] at h
 by_cases h9:n.kind=9
 ·rw [if_pos h9] at h
  have:=lvl_size (of_decide_eq_true h)
  rw [size_toL] at this
  exact ⟨by omega,hk h7⟩
 rw [if_neg h9] at h
 exact ⟨he (of_decide_eq_true h) (by decide),hk h7⟩
theorem ok_O (op a:Int):InsOk (insO op a):=⟨by show (0:Nat)≤1000;omega,by show (0:Nat)≤1000;omega,fun k hk=>by cases hk⟩
theorem ok_T (op a:Int) {s:ByteArray} (h:s.size≤200):InsOk ⟨op,a,s,[]⟩:=⟨by show s.size≤1000;omega,by show (0:Nat)≤1000;omega,fun k hk=>by cases hk⟩
theorem last_small {p:ProgD} {sl:List Int} {n:NodeD} {i:Nat} {x:InsD} (h:lastF p sl n i=some x) (hf:fieldsB n=true) (hk:n.keys.length≤1000):InsOk x:=by
 obtain ⟨ht,hks⟩:=fields_small hf
 unfold lastF at h
 by_cases k0:n.kind=1
 ·rw [if_pos k0] at h;cases h;exact ok_O _ _
 rw [if_neg k0] at h
 by_cases k1:n.kind=2
 ·rw [if_pos k1] at h;cases h;exact ok_O _ _
 rw [if_neg k1] at h
 by_cases k2:n.kind=3
 ·rw [if_pos k2] at h;cases h;exact ok_O _ _
 rw [if_neg k2] at h
 by_cases k3:n.kind=4
 ·rw [if_pos k3] at h;cases h;exact ok_T _ _ ht
 rw [if_neg k3] at h
 by_cases k4:n.kind=5
 ·rw [if_pos k4] at h;cases h;exact ok_O _ _
 rw [if_neg k4] at h
 by_cases k5:n.kind=6
 ·rw [if_pos k5] at h;cases h;exact ok_O _ _
 rw [if_neg k5] at h
 by_cases k6:n.kind=7
 ·rw [if_pos k6] at h;cases h
  exact ⟨by show (0:Nat)≤1000;omega,hk,fun k hk=>by have:=hks k hk;omega⟩
 rw [if_neg k6] at h
 by_cases k7:n.kind=8
 ·rw [if_pos k7] at h;cases h;exact ok_T _ _ ht
 rw [if_neg k7] at h
 by_cases k8:n.kind=10
 ·rw [if_pos k8] at h;cases h;exact ok_O _ _
 rw [if_neg k8] at h
 by_cases k9:n.kind=11
 ·rw [if_pos k9] at h;cases h
  split
  ·exact ok_O _ _
  ·exact ok_T _ _ ht
 rw [if_neg k9] at h
 by_cases k10:n.kind=12
 ·rw [if_pos k10] at h;cases h;exact ok_T _ _ ht
 rw [if_neg k10] at h
 by_cases k11:n.kind=13∨n.kind=14
 ·rw [if_pos k11] at h;cases h;exact ok_O _ _
 rw [if_neg k11] at h
 by_cases k12:n.kind=17
 ·rw [if_pos k12] at h;cases h;exact ok_O _ _
 rw [if_neg k12] at h
 by_cases k13:n.kind=18
 ·rw [if_pos k13] at h;cases h;exact ok_O _ _
 rw [if_neg k13] at h
 cases h
theorem seq_mem {l:List NodeD} {f:Nat} {rec:Nat→Int→List InsD} {Q:InsD→Prop} (hr:∀ i s b,firstF l f i=some s→∀ x∈rec i b,Q x) {r:List Int} {s e:Nat} (h:Cover l f r s e):∀ b,∀ x∈seqF rec r b,Q x:=by
 induction h with
 | nil s=>intro b x hx;cases hx
 | cons r s m e h1 h2 ih =>
  intro b x hx
  simp only [seqF,Int.toNat_natCast,List.mem_append] at hx
  rcases hx with hx | hx
  ·exact hr m s b h1 x hx
  ·exact ih _ x hx
theorem seg_small (p:ProgD) (sl:List Int) (hkl:∀ i,(p.at_ i).keys.length≤1000):∀ f i s b,firstF p.nodes f i=some s→∀ x∈segF p sl f i b,InsOk x:=by
 intro f
 induction f with
 | zero=>intro i s b h;cases h
 | succ f ih =>
  intro i s b h
  have T:=first_tree h
  have hn:p.nodes.getD i noNode=p.at_ i:=rfl
  have hq:=fun b=>seq_mem ih T.cover b
  have hc:=T.cover
  have hct:=T.count
  have hfi:=T.fields
  rw [hn] at hq hc hct hfi
  have hts:=(fields_small hfi).1
  intro x hx
  simp only [segF] at hx
  split at hx
  ·rename_i hk
   by_cases h16:(p.at_ i).kind=16
   ·rw [if_pos h16] at hx
    obtain ⟨a,c,hl⟩:=list_two (cnt_two hct (.inr (.inr h16)))
    rw [hl] at hc hx
    obtain ⟨m,rfl,rfl,h1,h2,h3,h4⟩:=hc.two
    simp only [List.mem_append,List.mem_singleton,List.getD_cons_zero,List.getD_cons_succ,Int.toNat_natCast] at hx
    rw [show ((i:Int) - 1).toNat=i - 1 by omega] at hx
    rcases hx with ((hx | rfl) | hx) | rfl
    ·exact ih _ _ _ h3 x hx
    ·exact ok_O _ _
    ·exact ih _ _ _ h4 x hx
    ·exact ok_O _ _
   ·rw [if_neg h16] at hx
    have h15:(p.at_ i).kind=15:=by omega
    rcases cnt_if hct h15 with hl2 | hl3
    ·rw [if_neg (by omega)] at hx
     obtain ⟨a,c,hl⟩:=list_two hl2
     rw [hl] at hc hx
     obtain ⟨m,rfl,rfl,h1,h2,h3,h4⟩:=hc.two
     simp only [List.mem_append,List.mem_singleton,List.getD_cons_zero,List.getD_cons_succ,Int.toNat_natCast] at hx
     rw [show ((i:Int) - 1).toNat=i - 1 by omega] at hx
     rcases hx with (hx | rfl) | hx
     ·exact ih _ _ _ h3 x hx
     ·exact ok_O _ _
     ·exact ih _ _ _ h4 x hx
    ·rw [if_pos (by omega)] at hx
     obtain ⟨a,c,d,hl⟩:=list_three hl3
     rw [hl] at hc hx
     obtain ⟨m,k,rfl,rfl,rfl,h0,h1,h2,h3,h4,h5⟩:=hc.three
     simp only [List.mem_append,List.mem_singleton,List.getD_cons_zero,List.getD_cons_succ,Int.toNat_natCast] at hx
     rw [show ((i:Int) - 1).toNat=i - 1 by omega] at hx
     rcases hx with (((hx | rfl) | hx) | rfl) | hx
     ·exact ih _ _ _ h3 x hx
     ·exact ok_O _ _
     ·exact ih _ _ _ h4 x hx
     ·exact ok_O _ _
     ·exact ih _ _ _ h5 x hx
  ·split at hx
   ·rename_i hk
    split at hx
    ·obtain ⟨a,c,hl⟩:=list_two (cnt_two hct (.inl hk))
     rw [hl] at hc hx
     obtain ⟨m,rfl,rfl,h1,h2,h3,h4⟩:=hc.two
     simp only [List.getD_cons_zero,List.getD_cons_succ,Int.toNat_natCast] at hx
     rw [show ((i:Int) - 1).toNat=i - 1 by omega] at hx
     rcases List.mem_append.1 hx with hx | hx
     ·rcases List.mem_append.1 hx with hx | hx
      ·rcases List.mem_append.1 hx with hx | hx
       ·rcases List.mem_append.1 hx with hx | hx
        ·exact ih _ _ _ h3 x hx
        ·rcases List.mem_append.1 hx with hx | hx
         ·simp only [List.mem_cons,List.not_mem_nil,or_false] at hx
          rcases hx with rfl | rfl <;> exact ok_O _ _
         ·split at hx
          ·simp only [List.mem_singleton] at hx
           subst hx
           exact ok_T _ _ (by decide)
          ·cases hx
       ·simp only [List.mem_cons,List.not_mem_nil,or_false] at hx
        rcases hx with rfl | rfl <;> exact ok_O _ _
      ·exact ih _ _ _ h4 x hx
     ·simp only [List.mem_singleton] at hx
      subst hx
      exact ok_O _ _
    ·rcases List.mem_append.1 hx with hx | hx
     ·exact hq _ x hx
     ·simp only [List.mem_singleton] at hx
      subst hx
      exact ok_T _ _ hts
   ·rcases List.mem_append.1 hx with hx | hx
    ·exact hq _ x hx
    ·cases hl:lastF p sl (p.at_ i) i with
     | none=>rw [hl] at hx;cases hx
     | some y =>
      rw [hl] at hx
      simp only [List.mem_singleton] at hx
      subst hx
      exact last_small hl hfi (hkl i)
theorem SynOk.small {p:ProgD} (h:SynOk p) (sl:List Int) (hkl:∀ i,(p.at_ i).keys.length≤1000):∀ k,k≤p.funcs.length→∀ x∈allSeg p sl k,InsOk x:=by
 intro k
 induction k with
 | zero=>intro _ x hx;cases hx
 | succ k ih =>
  intro hk x hx
  simp only [allSeg] at hx
  rcases List.mem_append.1 hx with hx | hx
  ·exact ih (by omega) x hx
  ·unfold funcSeg at hx
   rcases List.mem_append.1 hx with hx | hx
   ·obtain ⟨b,hfo,_,hb⟩:=h.func (k:=k) (by omega)
    rw [hb] at hx
    exact seg_small p sl hkl 600 b _ _ hfo.first x hx
   ·simp only [List.mem_cons,List.not_mem_nil,or_false] at hx
    rcases hx with rfl | rfl <;> exact ok_O _ _
end
end Go.Proofs.YthiimbhjpdphpaaGreatDoor
