/- GK8 -/
import Derived.Test.YthiimbhjpdphpaaGreatDoorPW16
set_option linter.unusedVariables false
set_option linter.unusedSimpArgs false
namespace Go.Proofs.YthiimbhjpdphpaaGreatDoor
open Go.RowKit
set_option maxRecDepth 100000
set_option maxHeartbeats 8000000
open Go.Proofs.Tryz
section
attribute [local go_sem] zabZ
def FnD.cells (f:FnD):List Value:=[.string f.name,.int .i64 f.params,.int .i64 f.locals,.int .i64 f.entry,.int .i64 f.fin]
def natCs (n:Nat):List Value:=[.int .i64 n]
def insR (w:World) (row:List Value) (i:InsD):Prop:=∃ kv,row=[.int .i64 i.op,.int .i64 i.a,.string i.s,kv]∧KeysV w kv i.keys
def InsV (w:World) (B:Option Addr) (l:List InsD):Prop:=∃ rows:List (List Value),SlAt w B 4 (fun r=>r) rows∧rows.length=l.length∧∀ k (h:k<rows.length) (h':k<l.length),insR w rows[k] l[k]
theorem InsV.below {w w':World} {B:Option Addr} {l:List InsD} (h:InsV w B l) (hb:Below w.heap.size w w'):InsV w' B l:=by
 obtain ⟨rows,h1,h2,h3⟩:=h;refine ⟨rows,h1.below hb,h2,fun k hk hk'=>?_⟩
 obtain ⟨kv,e,hkv⟩:=h3 k hk hk';exact ⟨kv,e,hkv.below hb⟩
theorem InsV.at {w:World} {B:Option Addr} {l:List InsD} (h:InsV w B l) {k:Nat} (hk:k<l.length):∃ b off kv,B=some ⟨b,off,none⟩∧b<w.heap.size∧w.cell? ⟨b,off+k * 4,none⟩=some (.int .i64 l[k].op)∧w.cell? ⟨b,off+k * 4+1,none⟩=some (.int .i64 l[k].a)∧w.cell? ⟨b,off+k * 4+2,none⟩=some (.string l[k].s)∧w.cell? ⟨b,off+k * 4+3,none⟩=some kv∧KeysV w kv l[k].keys:=by
 obtain ⟨rows,h1,h2,h3⟩:=h;have hk':k<rows.length:=by omega
 obtain ⟨kv,e,hkv⟩:=h3 k hk' hk;obtain ⟨b,off,rfl,hb⟩:=h1.ptr hk';exact ⟨b,off,kv,rfl,hb,h1.cell0 hk' (by rw [e];rfl),h1.cell hk' (j:=1) (by rw [e];rfl),h1.cell hk' (j:=2) (by rw [e];rfl),h1.cell hk' (j:=3) (by rw [e];rfl),hkv⟩
def SucV (base:Nat) (w:World) (v:Value) (l:List Nat):Prop:=∃ A cap,v=.slice A l.length cap∧SlAt w A 1 natCs l∧∀ g off,A=some ⟨g,off,none⟩→base≤g
def PopsP (c:CodeD) (i:InsD):Prop:=(1≤i.op∧i.op≤20)∧(i.op=17→0≤i.a∧i.a<(c.fns.length:Nat))
theorem cpops_any (c:CodeD) (A B:Option Addr) (ncap ni icap:Nat) (i:InsD) (kv:Value) (w:World) (hnf:c.fns.length≤40) (hS:Shaped w) (hF:SlAt w A 5 FnD.cells c.fns) (hi:PopsP c i) :
  Calls prog 98 #[.agg #[.slice A c.fns.length ncap,.slice B ni icap],.agg #[.int .i64 i.op,.int .i64 i.a,.string i.s,kv]] w fun e w'=>e=.returned (.int .i64 (popF c i))∧Below w.heap.size w w':=by
 obtain ⟨op,a,s,keys⟩:=i;obtain ⟨h1,h17⟩:=hi;dsimp only at h1 h17;have hop:op=1∨op=2∨op=3∨op=4∨op=5∨op=6∨op=7∨op=8∨op=9∨op=10∨op=11∨op=12∨op=13∨op=14∨op=15∨op=16∨op=17∨op=18∨op=19∨op=20:=by omega
 have HB2:=hZz (zauY w (.cells #[.slice A c.fns.length ncap,.slice B ni icap] 31) (.cells #[.int .i64 op,.int .i64 a,.string s,kv] 53));obtain ⟨r,hr⟩:∃ r,popF c ⟨op,a,s,keys⟩=r:=⟨_,rfl⟩
 rw [hr];have HR:=hZz hr;clear hr;rcases hop with rfl | rfl | rfl | rfl | rfl | rfl | rfl | rfl | rfl | rfl | rfl | rfl | rfl | rfl | rfl | rfl | rfl | rfl | rfl | rfl
 ·have hre:r=0:=by rw [← HR.out];simp [popF]
  subst hre;clear h17 hF HR h1;have hc:=hS.row 6 _ _ _ _ _ _ rfl rfl rfl rfl rfl rfl;simp only [Nat.reduceAdd] at hc;clear hS
  all_goals
   go_enter func98,ntmps98
   go_wp2
   go_returns;exact ⟨rfl,HB2.out⟩
 ·have hre:r=0:=by rw [← HR.out];simp [popF]
  subst hre;clear h17 hF HR h1;have hc:=hS.row 12 _ _ _ _ _ _ rfl rfl rfl rfl rfl rfl;simp only [Nat.reduceAdd] at hc;clear hS
  all_goals
   go_enter func98,ntmps98
   go_wp2
   go_returns;exact ⟨rfl,HB2.out⟩
 ·have hre:r=0:=by rw [← HR.out];simp [popF]
  subst hre;clear h17 hF HR h1;have hc:=hS.row 18 _ _ _ _ _ _ rfl rfl rfl rfl rfl rfl;simp only [Nat.reduceAdd] at hc;clear hS
  all_goals
   go_enter func98,ntmps98
   go_wp2
   go_returns;exact ⟨rfl,HB2.out⟩
 ·have hre:r=0:=by rw [← HR.out];simp [popF]
  subst hre;clear h17 hF HR h1;have hc:=hS.row 24 _ _ _ _ _ _ rfl rfl rfl rfl rfl rfl;simp only [Nat.reduceAdd] at hc;clear hS
  all_goals
   go_enter func98,ntmps98
   go_wp2
   go_returns;exact ⟨rfl,HB2.out⟩
 ·have hre:r=0:=by rw [← HR.out];simp [popF]
  subst hre;clear h17 hF HR h1;have hc:=hS.row 30 _ _ _ _ _ _ rfl rfl rfl rfl rfl rfl;simp only [Nat.reduceAdd] at hc;clear hS
  all_goals
   go_enter func98,ntmps98
   go_wp2
   go_returns;exact ⟨rfl,HB2.out⟩
 ·have hre:r=1:=by rw [← HR.out];simp [popF]
  subst hre;clear h17 hF HR h1;have hc:=hS.row 36 _ _ _ _ _ _ rfl rfl rfl rfl rfl rfl;simp only [Nat.reduceAdd] at hc;clear hS
  all_goals
   go_enter func98,ntmps98
   go_wp2
   go_returns;exact ⟨rfl,HB2.out⟩
 ·have hre:r=1:=by rw [← HR.out];simp [popF]
  subst hre;clear h17 hF HR h1;have hc:=hS.row 42 _ _ _ _ _ _ rfl rfl rfl rfl rfl rfl;simp only [Nat.reduceAdd] at hc;clear hS
  all_goals
   go_enter func98,ntmps98
   go_wp2
   go_returns;exact ⟨rfl,HB2.out⟩
 ·have hre:r=1:=by rw [← HR.out];simp [popF]
  subst hre;clear h17 hF HR h1;have hc:=hS.row 48 _ _ _ _ _ _ rfl rfl rfl rfl rfl rfl;simp only [Nat.reduceAdd] at hc;clear hS
  all_goals
   go_enter func98,ntmps98
   go_wp2
   go_returns;exact ⟨rfl,HB2.out⟩
 ·have hre:r=2:=by rw [← HR.out];simp [popF]
  subst hre;clear h17 hF HR h1;have hc:=hS.row 54 _ _ _ _ _ _ rfl rfl rfl rfl rfl rfl;simp only [Nat.reduceAdd] at hc;clear hS
  all_goals
   go_enter func98,ntmps98
   go_wp2
   go_returns;exact ⟨rfl,HB2.out⟩
 ·have hre:r=2:=by rw [← HR.out];simp [popF]
  subst hre;clear h17 hF HR h1;have hc:=hS.row 60 _ _ _ _ _ _ rfl rfl rfl rfl rfl rfl;simp only [Nat.reduceAdd] at hc;clear hS
  all_goals
   go_enter func98,ntmps98
   go_wp2
   go_returns;exact ⟨rfl,HB2.out⟩
 ·have hre:r=a:=by rw [← HR.out];simp [popF]
  subst hre;clear h17 hF HR h1;have hc:=hS.row 66 _ _ _ _ _ _ rfl rfl rfl rfl rfl rfl;simp only [Nat.reduceAdd] at hc;clear hS
  all_goals
   go_enter func98,ntmps98
   go_wp2
   go_returns;exact ⟨rfl,HB2.out⟩
 ·have hre:r=a:=by rw [← HR.out];simp [popF]
  subst hre;clear h17 hF HR h1;have hc:=hS.row 72 _ _ _ _ _ _ rfl rfl rfl rfl rfl rfl;simp only [Nat.reduceAdd] at hc;clear hS
  all_goals
   go_enter func98,ntmps98
   go_wp2
   go_returns;exact ⟨rfl,HB2.out⟩
 ·have hre:r=0:=by rw [← HR.out];simp [popF]
  subst hre;clear h17 hF HR h1;have hc:=hS.row 78 _ _ _ _ _ _ rfl rfl rfl rfl rfl rfl;simp only [Nat.reduceAdd] at hc;clear hS
  all_goals
   go_enter func98,ntmps98
   go_wp2
   go_returns;exact ⟨rfl,HB2.out⟩
 ·have hre:r=1:=by rw [← HR.out];simp [popF]
  subst hre;clear h17 hF HR h1;have hc:=hS.row 84 _ _ _ _ _ _ rfl rfl rfl rfl rfl rfl;simp only [Nat.reduceAdd] at hc;clear hS
  all_goals
   go_enter func98,ntmps98
   go_wp2
   go_returns;exact ⟨rfl,HB2.out⟩
 ·have hre:r=1:=by rw [← HR.out];simp [popF]
  subst hre;clear h17 hF HR h1;have hc:=hS.row 90 _ _ _ _ _ _ rfl rfl rfl rfl rfl rfl;simp only [Nat.reduceAdd] at hc;clear hS
  all_goals
   go_enter func98,ntmps98
   go_wp2
   go_returns;exact ⟨rfl,HB2.out⟩
 ·have hre:r=1:=by rw [← HR.out];simp [popF]
  subst hre;clear h17 hF HR h1;have hc:=hS.row 96 _ _ _ _ _ _ rfl rfl rfl rfl rfl rfl;simp only [Nat.reduceAdd] at hc;clear hS
  all_goals
   go_enter func98,ntmps98
   go_wp2
   go_returns;exact ⟨rfl,HB2.out⟩
 ·obtain ⟨ha0,ha1⟩:=h17 rfl
  obtain ⟨m,rfl⟩:∃ m:Nat,a=(m:Int):=⟨a.toNat,by omega⟩
  have hm:m<c.fns.length:=by omega
  have hm':(m:Int)<(c.fns.length:Int):=by omega
  have hre:r=c.fns[m].params:=by rw [← HR.out];simp [popF,hm]
  obtain ⟨b,off,rfl,_⟩:=hF.ptr hm;have cf:=hF.cell hm (j:=1) (v:=.int .i64 c.fns[m].params) rfl;obtain ⟨p,hp⟩:∃ p,c.fns[m].params=p:=⟨_,rfl⟩
  rw [hp] at cf hre;subst hre;clear h17 hF hp HR h1;have hc:=hS.row 102 _ _ _ _ _ _ rfl rfl rfl rfl rfl rfl;simp only [Nat.reduceAdd] at hc;clear hS;go_enter func98,ntmps98
  go_wp2
  go_returns;exact ⟨rfl,HB2.out⟩
 ·have hre:r=a:=by rw [← HR.out];simp [popF]
  subst hre;clear h17 hF HR h1;have hc:=hS.row 108 _ _ _ _ _ _ rfl rfl rfl rfl rfl rfl;simp only [Nat.reduceAdd] at hc;clear hS
  all_goals
   go_enter func98,ntmps98
   go_wp2
   go_returns;exact ⟨rfl,HB2.out⟩
 ·have hre:r=a:=by rw [← HR.out];simp [popF]
  subst hre;clear h17 hF HR h1;have hc:=hS.row 114 _ _ _ _ _ _ rfl rfl rfl rfl rfl rfl;simp only [Nat.reduceAdd] at hc;clear hS
  all_goals
   go_enter func98,ntmps98
   go_wp2
   go_returns;exact ⟨rfl,HB2.out⟩
 ·have hre:r=1:=by rw [← HR.out];simp [popF]
  subst hre;clear h17 hF HR h1;have hc:=hS.row 120 _ _ _ _ _ _ rfl rfl rfl rfl rfl rfl;simp only [Nat.reduceAdd] at hc;clear hS
  all_goals
   go_enter func98,ntmps98
   go_wp2
   go_returns;exact ⟨rfl,HB2.out⟩
theorem rpops_any (c:CodeD) (A B:Option Addr) (ncap ni icap:Nat) (i:InsD) (kv:Value) (w:World) (hnf:c.fns.length≤40) (hF:SlAt w A 5 FnD.cells c.fns) (hi:PopsP c i) :
  Calls prog 112 #[.agg #[.slice A c.fns.length ncap,.slice B ni icap],.agg #[.int .i64 i.op,.int .i64 i.a,.string i.s,kv]] w fun e w'=>e=.returned (.int .i64 (popF c i))∧Below w.heap.size w w':=by
 obtain ⟨op,a,s,keys⟩:=i;obtain ⟨h1,h17⟩:=hi;dsimp only at h1 h17;have hop:op=1∨op=2∨op=3∨op=4∨op=5∨op=6∨op=7∨op=8∨op=9∨op=10∨op=11∨op=12∨op=13∨op=14∨op=15∨op=16∨op=17∨op=18∨op=19∨op=20:=by omega
 have HB2:=hZz (zauY w (.cells #[.slice A c.fns.length ncap,.slice B ni icap] 31) (.cells #[.int .i64 op,.int .i64 a,.string s,kv] 53));obtain ⟨r,hr⟩:∃ r,popF c ⟨op,a,s,keys⟩=r:=⟨_,rfl⟩
 rw [hr];have HR:=hZz hr;clear hr;rcases hop with rfl | rfl | rfl | rfl | rfl | rfl | rfl | rfl | rfl | rfl | rfl | rfl | rfl | rfl | rfl | rfl | rfl | rfl | rfl | rfl
 ·have hre:r=0:=by rw [← HR.out];simp [popF]
  subst hre;clear h17 hF HR h1
  all_goals
   go_enter func112,ntmps112
   go_wp2
   go_returns;exact ⟨rfl,HB2.out⟩
 ·have hre:r=0:=by rw [← HR.out];simp [popF]
  subst hre;clear h17 hF HR h1
  all_goals
   go_enter func112,ntmps112
   go_wp2
   go_returns;exact ⟨rfl,HB2.out⟩
 ·have hre:r=0:=by rw [← HR.out];simp [popF]
  subst hre;clear h17 hF HR h1
  all_goals
   go_enter func112,ntmps112
   go_wp2
   go_returns;exact ⟨rfl,HB2.out⟩
 ·have hre:r=0:=by rw [← HR.out];simp [popF]
  subst hre;clear h17 hF HR h1
  all_goals
   go_enter func112,ntmps112
   go_wp2
   go_returns;exact ⟨rfl,HB2.out⟩
 ·have hre:r=0:=by rw [← HR.out];simp [popF]
  subst hre;clear h17 hF HR h1
  all_goals
   go_enter func112,ntmps112
   go_wp2
   go_returns;exact ⟨rfl,HB2.out⟩
 ·have hre:r=1:=by rw [← HR.out];simp [popF]
  subst hre;clear h17 hF HR h1
  all_goals
   go_enter func112,ntmps112
   go_wp2
   go_returns;exact ⟨rfl,HB2.out⟩
 ·have hre:r=1:=by rw [← HR.out];simp [popF]
  subst hre;clear h17 hF HR h1
  all_goals
   go_enter func112,ntmps112
   go_wp2
   go_returns;exact ⟨rfl,HB2.out⟩
 ·have hre:r=1:=by rw [← HR.out];simp [popF]
  subst hre;clear h17 hF HR h1
  all_goals
   go_enter func112,ntmps112
   go_wp2
   go_returns;exact ⟨rfl,HB2.out⟩
 ·have hre:r=2:=by rw [← HR.out];simp [popF]
  subst hre;clear h17 hF HR h1
  all_goals
   go_enter func112,ntmps112
   go_wp2
   go_returns;exact ⟨rfl,HB2.out⟩
 ·have hre:r=2:=by rw [← HR.out];simp [popF]
  subst hre;clear h17 hF HR h1
  all_goals
   go_enter func112,ntmps112
   go_wp2
   go_returns;exact ⟨rfl,HB2.out⟩
 ·have hre:r=a:=by rw [← HR.out];simp [popF]
  subst hre;clear h17 hF HR h1
  all_goals
   go_enter func112,ntmps112
   go_wp2
   go_returns;exact ⟨rfl,HB2.out⟩
 ·have hre:r=a:=by rw [← HR.out];simp [popF]
  subst hre;clear h17 hF HR h1
  all_goals
   go_enter func112,ntmps112
   go_wp2
   go_returns;exact ⟨rfl,HB2.out⟩
 ·have hre:r=0:=by rw [← HR.out];simp [popF]
  subst hre;clear h17 hF HR h1
  all_goals
   go_enter func112,ntmps112
   go_wp2
   go_returns;exact ⟨rfl,HB2.out⟩
 ·have hre:r=1:=by rw [← HR.out];simp [popF]
  subst hre;clear h17 hF HR h1
  all_goals
   go_enter func112,ntmps112
   go_wp2
   go_returns;exact ⟨rfl,HB2.out⟩
 ·have hre:r=1:=by rw [← HR.out];simp [popF]
  subst hre;clear h17 hF HR h1
  all_goals
   go_enter func112,ntmps112
   go_wp2
   go_returns;exact ⟨rfl,HB2.out⟩
 ·have hre:r=1:=by rw [← HR.out];simp [popF]
  subst hre;clear h17 hF HR h1
  all_goals
   go_enter func112,ntmps112
   go_wp2
   go_returns;exact ⟨rfl,HB2.out⟩
 ·obtain ⟨ha0,ha1⟩:=h17 rfl
  obtain ⟨m,rfl⟩:∃ m:Nat,a=(m:Int):=⟨a.toNat,by omega⟩
  have hm:m<c.fns.length:=by omega
  have hm':(m:Int)<(c.fns.length:Int):=by omega
  have hre:r=c.fns[m].params:=by rw [← HR.out];simp [popF,hm]
  obtain ⟨b,off,rfl,_⟩:=hF.ptr hm;have cf:=hF.cell hm (j:=1) (v:=.int .i64 c.fns[m].params) rfl;obtain ⟨p,hp⟩:∃ p,c.fns[m].params=p:=⟨_,rfl⟩
  rw [hp] at cf hre;subst hre;clear h17 hF hp HR h1;go_enter func112,ntmps112
  go_wp2
  go_returns;exact ⟨rfl,HB2.out⟩
 ·have hre:r=a:=by rw [← HR.out];simp [popF]
  subst hre;clear h17 hF HR h1
  all_goals
   go_enter func112,ntmps112
   go_wp2
   go_returns;exact ⟨rfl,HB2.out⟩
 ·have hre:r=a:=by rw [← HR.out];simp [popF]
  subst hre;clear h17 hF HR h1
  all_goals
   go_enter func112,ntmps112
   go_wp2
   go_returns;exact ⟨rfl,HB2.out⟩
 ·have hre:r=1:=by rw [← HR.out];simp [popF]
  subst hre;clear h17 hF HR h1
  all_goals
   go_enter func112,ntmps112
   go_wp2
   go_returns;exact ⟨rfl,HB2.out⟩
set_option maxHeartbeats 4000000 in
theorem rpushes_any (i:InsD) (kv:Value) (w:World) (h1:1≤i.op∧i.op≤20) :
  Calls prog 113 #[.agg #[.int .i64 i.op,.int .i64 i.a,.string i.s,kv]] w fun e w'=>e=.returned (.int .i64 (pushF i.op))∧Below w.heap.size w w':=by
 obtain ⟨op,a,s,keys⟩:=i;dsimp only at h1 ⊢;have HB1:=hZz (zacZ w (.cells #[.int .i64 op,.int .i64 a,.string s,kv] 53));have hop:op=1∨op=2∨op=3∨op=4∨op=5∨op=6∨op=7∨op=8∨op=9∨op=10∨op=11∨op=12∨op=13∨op=14∨op=15∨op=16∨op=17∨op=18∨op=19∨op=20:=by omega
 clear h1;rcases hop with rfl | rfl | rfl | rfl | rfl | rfl | rfl | rfl | rfl | rfl | rfl | rfl | rfl | rfl | rfl | rfl | rfl | rfl | rfl | rfl
 all_goals
  go_enter func113,ntmps113
  go_wp2
  go_returns;exact ⟨rfl,HB1.out⟩
set_option maxHeartbeats 4000000 in
theorem csuc_any (i:InsD) (kv:Value) (k:Nat) (w:World) (hk:k≤4000) (h1:1≤i.op∧i.op≤20) (ha:i.op=13∨i.op=14→0≤i.a) :
  Calls prog 99 #[.agg #[.int .i64 i.op,.int .i64 i.a,.string i.s,kv],.int .i64 k] w fun e w'=>(∃ v,e=.returned v∧SucV w.heap.size w' v (sucF i k))∧Below w.heap.size w w':=by
 obtain ⟨op,a,s,keys⟩:=i;dsimp only at h1 ha;have hk0:(0:Int)≤(k:Int):=by omega
 have hk9:(k:Int)≤4000:=by omega
 have HBW:=hZz (zacZ w (.cells #[.int .i64 op,.int .i64 a,.string s,kv] 53));have hop:op=1∨op=2∨op=3∨op=4∨op=5∨op=6∨op=7∨op=8∨op=9∨op=10∨op=11∨op=12∨op=13∨op=14∨op=15∨op=16∨op=17∨op=18∨op=19∨op=20:=by omega
 clear h1;have HA:=hZz ha;clear ha;obtain ⟨P,hP⟩:∃ P:Ending→World→Prop,(fun e w'=>(∃ v,e=.returned v∧SucV w.heap.size w' v (sucF ⟨op,a,s,keys⟩ k))∧Below w.heap.size w w')=P:=⟨_,rfl⟩
 rw [hP];have HP:=hZz hP;clear hP;rcases hop with rfl | rfl | rfl | rfl | rfl | rfl | rfl | rfl | rfl | rfl | rfl | rfl | rfl | rfl | rfl | rfl | rfl | rfl | rfl | rfl
 ·have hl:sucF ⟨1,a,s,keys⟩ k=[k+1]:=by simp [sucF]
  rw [hl] at HP
  skip
  skip
  skip
  go_enter func99,ntmps99
  go_wp2
  rw [← HP.out];exact ⟨⟨_,rfl,⟨some ⟨w.heap.size+1,0,none⟩,1,rfl,zalZ (by simp) _ _ [k+1] (by simp [natCs]) (fun _=>rfl) (by omega) (by simp [maxLen]),fun g off h=>by injection h with h;injection h with h;omega⟩⟩,HBW.out.alloc HBW.out.size _⟩
 ·have hl:sucF ⟨2,a,s,keys⟩ k=[k+1]:=by simp [sucF]
  rw [hl] at HP
  skip
  skip
  skip
  go_enter func99,ntmps99
  go_wp2
  rw [← HP.out];exact ⟨⟨_,rfl,⟨some ⟨w.heap.size+1,0,none⟩,1,rfl,zalZ (by simp) _ _ [k+1] (by simp [natCs]) (fun _=>rfl) (by omega) (by simp [maxLen]),fun g off h=>by injection h with h;injection h with h;omega⟩⟩,HBW.out.alloc HBW.out.size _⟩
 ·have hl:sucF ⟨3,a,s,keys⟩ k=[k+1]:=by simp [sucF]
  rw [hl] at HP
  skip
  skip
  skip
  go_enter func99,ntmps99
  go_wp2
  rw [← HP.out];exact ⟨⟨_,rfl,⟨some ⟨w.heap.size+1,0,none⟩,1,rfl,zalZ (by simp) _ _ [k+1] (by simp [natCs]) (fun _=>rfl) (by omega) (by simp [maxLen]),fun g off h=>by injection h with h;injection h with h;omega⟩⟩,HBW.out.alloc HBW.out.size _⟩
 ·have hl:sucF ⟨4,a,s,keys⟩ k=[k+1]:=by simp [sucF]
  rw [hl] at HP
  skip
  skip
  skip
  go_enter func99,ntmps99
  go_wp2
  rw [← HP.out];exact ⟨⟨_,rfl,⟨some ⟨w.heap.size+1,0,none⟩,1,rfl,zalZ (by simp) _ _ [k+1] (by simp [natCs]) (fun _=>rfl) (by omega) (by simp [maxLen]),fun g off h=>by injection h with h;injection h with h;omega⟩⟩,HBW.out.alloc HBW.out.size _⟩
 ·have hl:sucF ⟨5,a,s,keys⟩ k=[k+1]:=by simp [sucF]
  rw [hl] at HP
  skip
  skip
  skip
  go_enter func99,ntmps99
  go_wp2
  rw [← HP.out];exact ⟨⟨_,rfl,⟨some ⟨w.heap.size+1,0,none⟩,1,rfl,zalZ (by simp) _ _ [k+1] (by simp [natCs]) (fun _=>rfl) (by omega) (by simp [maxLen]),fun g off h=>by injection h with h;injection h with h;omega⟩⟩,HBW.out.alloc HBW.out.size _⟩
 ·have hl:sucF ⟨6,a,s,keys⟩ k=[k+1]:=by simp [sucF]
  rw [hl] at HP
  skip
  skip
  skip
  go_enter func99,ntmps99
  go_wp2
  rw [← HP.out];exact ⟨⟨_,rfl,⟨some ⟨w.heap.size+1,0,none⟩,1,rfl,zalZ (by simp) _ _ [k+1] (by simp [natCs]) (fun _=>rfl) (by omega) (by simp [maxLen]),fun g off h=>by injection h with h;injection h with h;omega⟩⟩,HBW.out.alloc HBW.out.size _⟩
 ·have hl:sucF ⟨7,a,s,keys⟩ k=[k+1]:=by simp [sucF]
  rw [hl] at HP
  skip
  skip
  skip
  go_enter func99,ntmps99
  go_wp2
  rw [← HP.out];exact ⟨⟨_,rfl,⟨some ⟨w.heap.size+1,0,none⟩,1,rfl,zalZ (by simp) _ _ [k+1] (by simp [natCs]) (fun _=>rfl) (by omega) (by simp [maxLen]),fun g off h=>by injection h with h;injection h with h;omega⟩⟩,HBW.out.alloc HBW.out.size _⟩
 ·have hl:sucF ⟨8,a,s,keys⟩ k=[k+1]:=by simp [sucF]
  rw [hl] at HP
  skip
  skip
  skip
  go_enter func99,ntmps99
  go_wp2
  rw [← HP.out];exact ⟨⟨_,rfl,⟨some ⟨w.heap.size+1,0,none⟩,1,rfl,zalZ (by simp) _ _ [k+1] (by simp [natCs]) (fun _=>rfl) (by omega) (by simp [maxLen]),fun g off h=>by injection h with h;injection h with h;omega⟩⟩,HBW.out.alloc HBW.out.size _⟩
 ·have hl:sucF ⟨9,a,s,keys⟩ k=[k+1]:=by simp [sucF]
  rw [hl] at HP
  skip
  skip
  skip
  go_enter func99,ntmps99
  go_wp2
  rw [← HP.out];exact ⟨⟨_,rfl,⟨some ⟨w.heap.size+1,0,none⟩,1,rfl,zalZ (by simp) _ _ [k+1] (by simp [natCs]) (fun _=>rfl) (by omega) (by simp [maxLen]),fun g off h=>by injection h with h;injection h with h;omega⟩⟩,HBW.out.alloc HBW.out.size _⟩
 ·have hl:sucF ⟨10,a,s,keys⟩ k=[k+1]:=by simp [sucF]
  rw [hl] at HP
  skip
  skip
  skip
  go_enter func99,ntmps99
  go_wp2
  rw [← HP.out];exact ⟨⟨_,rfl,⟨some ⟨w.heap.size+1,0,none⟩,1,rfl,zalZ (by simp) _ _ [k+1] (by simp [natCs]) (fun _=>rfl) (by omega) (by simp [maxLen]),fun g off h=>by injection h with h;injection h with h;omega⟩⟩,HBW.out.alloc HBW.out.size _⟩
 ·have hl:sucF ⟨11,a,s,keys⟩ k=[k+1]:=by simp [sucF]
  rw [hl] at HP
  skip
  skip
  skip
  go_enter func99,ntmps99
  go_wp2
  rw [← HP.out];exact ⟨⟨_,rfl,⟨some ⟨w.heap.size+1,0,none⟩,1,rfl,zalZ (by simp) _ _ [k+1] (by simp [natCs]) (fun _=>rfl) (by omega) (by simp [maxLen]),fun g off h=>by injection h with h;injection h with h;omega⟩⟩,HBW.out.alloc HBW.out.size _⟩
 ·have hl:sucF ⟨12,a,s,keys⟩ k=[k+1]:=by simp [sucF]
  rw [hl] at HP
  skip
  skip
  skip
  go_enter func99,ntmps99
  go_wp2
  rw [← HP.out];exact ⟨⟨_,rfl,⟨some ⟨w.heap.size+1,0,none⟩,1,rfl,zalZ (by simp) _ _ [k+1] (by simp [natCs]) (fun _=>rfl) (by omega) (by simp [maxLen]),fun g off h=>by injection h with h;injection h with h;omega⟩⟩,HBW.out.alloc HBW.out.size _⟩
 ·have hl:sucF ⟨13,a,s,keys⟩ k=[a.toNat]:=by simp [sucF]
  rw [hl] at HP;have hat:((a.toNat:Nat):Int)=a:=by have:=HA.out (by simp);omega
  have HAT:=hZz hat;clear hat;go_enter func99,ntmps99
  go_wp2
  rw [← HP.out];exact ⟨⟨_,rfl,⟨some ⟨w.heap.size+1,0,none⟩,1,rfl,zalZ (by simp) _ _ [a.toNat] (by simp [natCs,HAT.out]) (fun _=>rfl) (by omega) (by simp [maxLen]),fun g off h=>by injection h with h;injection h with h;omega⟩⟩,HBW.out.alloc HBW.out.size _⟩
 ·have hl:sucF ⟨14,a,s,keys⟩ k=[k+1,a.toNat]:=by simp [sucF]
  rw [hl] at HP;have hat:((a.toNat:Nat):Int)=a:=by have:=HA.out (by simp);omega
  have HAT:=hZz hat;clear hat;go_enter func99,ntmps99
  go_wp2
  rw [← HP.out];exact ⟨⟨_,rfl,⟨some ⟨w.heap.size+1,0,none⟩,2,rfl,zalZ (by simp) _ _ [k+1,a.toNat] (by simp [natCs,HAT.out]) (fun _=>rfl) (by omega) (by simp [maxLen]),fun g off h=>by injection h with h;injection h with h;omega⟩⟩,HBW.out.alloc HBW.out.size _⟩
 ·have hl:sucF ⟨15,a,s,keys⟩ k=[k+1]:=by simp [sucF]
  rw [hl] at HP
  skip
  skip
  skip
  go_enter func99,ntmps99
  go_wp2
  rw [← HP.out];exact ⟨⟨_,rfl,⟨some ⟨w.heap.size+1,0,none⟩,1,rfl,zalZ (by simp) _ _ [k+1] (by simp [natCs]) (fun _=>rfl) (by omega) (by simp [maxLen]),fun g off h=>by injection h with h;injection h with h;omega⟩⟩,HBW.out.alloc HBW.out.size _⟩
 ·have hl:sucF ⟨16,a,s,keys⟩ k=[k+1]:=by simp [sucF]
  rw [hl] at HP
  skip
  skip
  skip
  go_enter func99,ntmps99
  go_wp2
  rw [← HP.out];exact ⟨⟨_,rfl,⟨some ⟨w.heap.size+1,0,none⟩,1,rfl,zalZ (by simp) _ _ [k+1] (by simp [natCs]) (fun _=>rfl) (by omega) (by simp [maxLen]),fun g off h=>by injection h with h;injection h with h;omega⟩⟩,HBW.out.alloc HBW.out.size _⟩
 ·have hl:sucF ⟨17,a,s,keys⟩ k=[k+1]:=by simp [sucF]
  rw [hl] at HP
  skip
  skip
  skip
  go_enter func99,ntmps99
  go_wp2
  rw [← HP.out];exact ⟨⟨_,rfl,⟨some ⟨w.heap.size+1,0,none⟩,1,rfl,zalZ (by simp) _ _ [k+1] (by simp [natCs]) (fun _=>rfl) (by omega) (by simp [maxLen]),fun g off h=>by injection h with h;injection h with h;omega⟩⟩,HBW.out.alloc HBW.out.size _⟩
 ·have hl:sucF ⟨18,a,s,keys⟩ k=[k+1]:=by simp [sucF]
  rw [hl] at HP
  skip
  skip
  skip
  go_enter func99,ntmps99
  go_wp2
  rw [← HP.out];exact ⟨⟨_,rfl,⟨some ⟨w.heap.size+1,0,none⟩,1,rfl,zalZ (by simp) _ _ [k+1] (by simp [natCs]) (fun _=>rfl) (by omega) (by simp [maxLen]),fun g off h=>by injection h with h;injection h with h;omega⟩⟩,HBW.out.alloc HBW.out.size _⟩
 ·have hl:sucF ⟨19,a,s,keys⟩ k=[k+1]:=by simp [sucF]
  rw [hl] at HP
  skip
  skip
  skip
  go_enter func99,ntmps99
  go_wp2
  rw [← HP.out];exact ⟨⟨_,rfl,⟨some ⟨w.heap.size+1,0,none⟩,1,rfl,zalZ (by simp) _ _ [k+1] (by simp [natCs]) (fun _=>rfl) (by omega) (by simp [maxLen]),fun g off h=>by injection h with h;injection h with h;omega⟩⟩,HBW.out.alloc HBW.out.size _⟩
 ·have hl:sucF ⟨20,a,s,keys⟩ k=[]:=by simp [sucF]
  rw [hl] at HP
  skip
  skip
  skip
  go_enter func99,ntmps99
  go_wp2
  rw [← HP.out];exact ⟨⟨_,rfl,⟨_,0,rfl,SlAt.nil,fun g off h=>by cases h⟩⟩,HBW.out⟩
set_option maxHeartbeats 4000000 in
theorem rsuc_any (ins:List InsD) (A B:Option Addr) (nf ncap icap:Nat) (i:InsD) (k:Nat) (w:World) (hI:InsV w B ins) (hki:ins[k]? = some i) (hk:k≤4000) (h1:1≤i.op∧i.op≤20) (ha:i.op=13∨i.op=14→0≤i.a) :
  Calls prog 114 #[.agg #[.slice A nf ncap,.slice B ins.length icap],.int .i64 k] w fun e w'=>(∃ v,e=.returned v∧SucV w.heap.size w' v (sucF i k))∧Below w.heap.size w w':=by
 have hkl:k<ins.length:=(List.getElem?_eq_some_iff.mp hki).1;have hie:ins[k]=i:=(List.getElem?_eq_some_iff.mp hki).2;obtain ⟨b,off,kv,rfl,hbw,c0,c1,c2,c3,kA,kcap,rfl,_,_⟩:=hI.at hkl;generalize ins[k].keys.length=kn at c3;rw [hie] at c0 c1 c2;have hkl':(k:Int)<(ins.length:Int):=by omega
 clear hI hki hie;obtain ⟨op,a,s,keys⟩:=i;dsimp only at h1 ha c0 c1 c2;have hk0:(0:Int)≤(k:Int):=by omega
 have hk9:(k:Int)≤4000:=by omega
 have HBW:=hZz (zauY w (.cells #[.slice A nf ncap,.slice (some ⟨b,off,none⟩) ins.length icap] 31) (.cells #[.int .i64 op,.int .i64 a,.string s,.slice kA kn kcap] 53));have hop:op=1∨op=2∨op=3∨op=4∨op=5∨op=6∨op=7∨op=8∨op=9∨op=10∨op=11∨op=12∨op=13∨op=14∨op=15∨op=16∨op=17∨op=18∨op=19∨op=20:=by omega
 clear h1;have HA:=hZz ha;clear ha;obtain ⟨P,hP⟩:∃ P:Ending→World→Prop,(fun e w'=>(∃ v,e=.returned v∧SucV w.heap.size w' v (sucF ⟨op,a,s,keys⟩ k))∧Below w.heap.size w w')=P:=⟨_,rfl⟩
 rw [hP];have HP:=hZz hP;clear hP;rcases hop with rfl | rfl | rfl | rfl | rfl | rfl | rfl | rfl | rfl | rfl | rfl | rfl | rfl | rfl | rfl | rfl | rfl | rfl | rfl | rfl
 ·have hl:sucF ⟨1,a,s,keys⟩ k=[k+1]:=by simp [sucF]
  rw [hl] at HP
  skip
  skip
  skip
  go_enter func114,ntmps114
  go_wp2
  rw [← HP.out];exact ⟨⟨_,rfl,⟨some ⟨w.heap.size+1+1,0,none⟩,1,rfl,zalZ (by simp) _ _ [k+1] (by simp [natCs]) (fun _=>rfl) (by omega) (by simp [maxLen]),fun g off h=>by injection h with h;injection h with h;omega⟩⟩,HBW.out.alloc HBW.out.size _⟩
 ·have hl:sucF ⟨2,a,s,keys⟩ k=[k+1]:=by simp [sucF]
  rw [hl] at HP
  skip
  skip
  skip
  go_enter func114,ntmps114
  go_wp2
  rw [← HP.out];exact ⟨⟨_,rfl,⟨some ⟨w.heap.size+1+1,0,none⟩,1,rfl,zalZ (by simp) _ _ [k+1] (by simp [natCs]) (fun _=>rfl) (by omega) (by simp [maxLen]),fun g off h=>by injection h with h;injection h with h;omega⟩⟩,HBW.out.alloc HBW.out.size _⟩
 ·have hl:sucF ⟨3,a,s,keys⟩ k=[k+1]:=by simp [sucF]
  rw [hl] at HP
  skip
  skip
  skip
  go_enter func114,ntmps114
  go_wp2
  rw [← HP.out];exact ⟨⟨_,rfl,⟨some ⟨w.heap.size+1+1,0,none⟩,1,rfl,zalZ (by simp) _ _ [k+1] (by simp [natCs]) (fun _=>rfl) (by omega) (by simp [maxLen]),fun g off h=>by injection h with h;injection h with h;omega⟩⟩,HBW.out.alloc HBW.out.size _⟩
 ·have hl:sucF ⟨4,a,s,keys⟩ k=[k+1]:=by simp [sucF]
  rw [hl] at HP
  skip
  skip
  skip
  go_enter func114,ntmps114
  go_wp2
  rw [← HP.out];exact ⟨⟨_,rfl,⟨some ⟨w.heap.size+1+1,0,none⟩,1,rfl,zalZ (by simp) _ _ [k+1] (by simp [natCs]) (fun _=>rfl) (by omega) (by simp [maxLen]),fun g off h=>by injection h with h;injection h with h;omega⟩⟩,HBW.out.alloc HBW.out.size _⟩
 ·have hl:sucF ⟨5,a,s,keys⟩ k=[k+1]:=by simp [sucF]
  rw [hl] at HP
  skip
  skip
  skip
  go_enter func114,ntmps114
  go_wp2
  rw [← HP.out];exact ⟨⟨_,rfl,⟨some ⟨w.heap.size+1+1,0,none⟩,1,rfl,zalZ (by simp) _ _ [k+1] (by simp [natCs]) (fun _=>rfl) (by omega) (by simp [maxLen]),fun g off h=>by injection h with h;injection h with h;omega⟩⟩,HBW.out.alloc HBW.out.size _⟩
 ·have hl:sucF ⟨6,a,s,keys⟩ k=[k+1]:=by simp [sucF]
  rw [hl] at HP
  skip
  skip
  skip
  go_enter func114,ntmps114
  go_wp2
  rw [← HP.out];exact ⟨⟨_,rfl,⟨some ⟨w.heap.size+1+1,0,none⟩,1,rfl,zalZ (by simp) _ _ [k+1] (by simp [natCs]) (fun _=>rfl) (by omega) (by simp [maxLen]),fun g off h=>by injection h with h;injection h with h;omega⟩⟩,HBW.out.alloc HBW.out.size _⟩
 ·have hl:sucF ⟨7,a,s,keys⟩ k=[k+1]:=by simp [sucF]
  rw [hl] at HP
  skip
  skip
  skip
  go_enter func114,ntmps114
  go_wp2
  rw [← HP.out];exact ⟨⟨_,rfl,⟨some ⟨w.heap.size+1+1,0,none⟩,1,rfl,zalZ (by simp) _ _ [k+1] (by simp [natCs]) (fun _=>rfl) (by omega) (by simp [maxLen]),fun g off h=>by injection h with h;injection h with h;omega⟩⟩,HBW.out.alloc HBW.out.size _⟩
 ·have hl:sucF ⟨8,a,s,keys⟩ k=[k+1]:=by simp [sucF]
  rw [hl] at HP
  skip
  skip
  skip
  go_enter func114,ntmps114
  go_wp2
  rw [← HP.out];exact ⟨⟨_,rfl,⟨some ⟨w.heap.size+1+1,0,none⟩,1,rfl,zalZ (by simp) _ _ [k+1] (by simp [natCs]) (fun _=>rfl) (by omega) (by simp [maxLen]),fun g off h=>by injection h with h;injection h with h;omega⟩⟩,HBW.out.alloc HBW.out.size _⟩
 ·have hl:sucF ⟨9,a,s,keys⟩ k=[k+1]:=by simp [sucF]
  rw [hl] at HP
  skip
  skip
  skip
  go_enter func114,ntmps114
  go_wp2
  rw [← HP.out];exact ⟨⟨_,rfl,⟨some ⟨w.heap.size+1+1,0,none⟩,1,rfl,zalZ (by simp) _ _ [k+1] (by simp [natCs]) (fun _=>rfl) (by omega) (by simp [maxLen]),fun g off h=>by injection h with h;injection h with h;omega⟩⟩,HBW.out.alloc HBW.out.size _⟩
 ·have hl:sucF ⟨10,a,s,keys⟩ k=[k+1]:=by simp [sucF]
  rw [hl] at HP
  skip
  skip
  skip
  go_enter func114,ntmps114
  go_wp2
  rw [← HP.out];exact ⟨⟨_,rfl,⟨some ⟨w.heap.size+1+1,0,none⟩,1,rfl,zalZ (by simp) _ _ [k+1] (by simp [natCs]) (fun _=>rfl) (by omega) (by simp [maxLen]),fun g off h=>by injection h with h;injection h with h;omega⟩⟩,HBW.out.alloc HBW.out.size _⟩
 ·have hl:sucF ⟨11,a,s,keys⟩ k=[k+1]:=by simp [sucF]
  rw [hl] at HP
  skip
  skip
  skip
  go_enter func114,ntmps114
  go_wp2
  rw [← HP.out];exact ⟨⟨_,rfl,⟨some ⟨w.heap.size+1+1,0,none⟩,1,rfl,zalZ (by simp) _ _ [k+1] (by simp [natCs]) (fun _=>rfl) (by omega) (by simp [maxLen]),fun g off h=>by injection h with h;injection h with h;omega⟩⟩,HBW.out.alloc HBW.out.size _⟩
 ·have hl:sucF ⟨12,a,s,keys⟩ k=[k+1]:=by simp [sucF]
  rw [hl] at HP
  skip
  skip
  skip
  go_enter func114,ntmps114
  go_wp2
  rw [← HP.out];exact ⟨⟨_,rfl,⟨some ⟨w.heap.size+1+1,0,none⟩,1,rfl,zalZ (by simp) _ _ [k+1] (by simp [natCs]) (fun _=>rfl) (by omega) (by simp [maxLen]),fun g off h=>by injection h with h;injection h with h;omega⟩⟩,HBW.out.alloc HBW.out.size _⟩
 ·have hl:sucF ⟨13,a,s,keys⟩ k=[a.toNat]:=by simp [sucF]
  rw [hl] at HP;have hat:((a.toNat:Nat):Int)=a:=by have:=HA.out (by simp);omega
  have HAT:=hZz hat;clear hat;go_enter func114,ntmps114
  go_wp2
  rw [← HP.out];exact ⟨⟨_,rfl,⟨some ⟨w.heap.size+1+1,0,none⟩,1,rfl,zalZ (by simp) _ _ [a.toNat] (by simp [natCs,HAT.out]) (fun _=>rfl) (by omega) (by simp [maxLen]),fun g off h=>by injection h with h;injection h with h;omega⟩⟩,HBW.out.alloc HBW.out.size _⟩
 ·have hl:sucF ⟨14,a,s,keys⟩ k=[k+1,a.toNat]:=by simp [sucF]
  rw [hl] at HP;have hat:((a.toNat:Nat):Int)=a:=by have:=HA.out (by simp);omega
  have HAT:=hZz hat;clear hat;go_enter func114,ntmps114
  go_wp2
  rw [← HP.out];exact ⟨⟨_,rfl,⟨some ⟨w.heap.size+1+1,0,none⟩,2,rfl,zalZ (by simp) _ _ [k+1,a.toNat] (by simp [natCs,HAT.out]) (fun _=>rfl) (by omega) (by simp [maxLen]),fun g off h=>by injection h with h;injection h with h;omega⟩⟩,HBW.out.alloc HBW.out.size _⟩
 ·have hl:sucF ⟨15,a,s,keys⟩ k=[k+1]:=by simp [sucF]
  rw [hl] at HP
  skip
  skip
  skip
  go_enter func114,ntmps114
  go_wp2
  rw [← HP.out];exact ⟨⟨_,rfl,⟨some ⟨w.heap.size+1+1,0,none⟩,1,rfl,zalZ (by simp) _ _ [k+1] (by simp [natCs]) (fun _=>rfl) (by omega) (by simp [maxLen]),fun g off h=>by injection h with h;injection h with h;omega⟩⟩,HBW.out.alloc HBW.out.size _⟩
 ·have hl:sucF ⟨16,a,s,keys⟩ k=[k+1]:=by simp [sucF]
  rw [hl] at HP
  skip
  skip
  skip
  go_enter func114,ntmps114
  go_wp2
  rw [← HP.out];exact ⟨⟨_,rfl,⟨some ⟨w.heap.size+1+1,0,none⟩,1,rfl,zalZ (by simp) _ _ [k+1] (by simp [natCs]) (fun _=>rfl) (by omega) (by simp [maxLen]),fun g off h=>by injection h with h;injection h with h;omega⟩⟩,HBW.out.alloc HBW.out.size _⟩
 ·have hl:sucF ⟨17,a,s,keys⟩ k=[k+1]:=by simp [sucF]
  rw [hl] at HP
  skip
  skip
  skip
  go_enter func114,ntmps114
  go_wp2
  rw [← HP.out];exact ⟨⟨_,rfl,⟨some ⟨w.heap.size+1+1,0,none⟩,1,rfl,zalZ (by simp) _ _ [k+1] (by simp [natCs]) (fun _=>rfl) (by omega) (by simp [maxLen]),fun g off h=>by injection h with h;injection h with h;omega⟩⟩,HBW.out.alloc HBW.out.size _⟩
 ·have hl:sucF ⟨18,a,s,keys⟩ k=[k+1]:=by simp [sucF]
  rw [hl] at HP
  skip
  skip
  skip
  go_enter func114,ntmps114
  go_wp2
  rw [← HP.out];exact ⟨⟨_,rfl,⟨some ⟨w.heap.size+1+1,0,none⟩,1,rfl,zalZ (by simp) _ _ [k+1] (by simp [natCs]) (fun _=>rfl) (by omega) (by simp [maxLen]),fun g off h=>by injection h with h;injection h with h;omega⟩⟩,HBW.out.alloc HBW.out.size _⟩
 ·have hl:sucF ⟨19,a,s,keys⟩ k=[k+1]:=by simp [sucF]
  rw [hl] at HP
  skip
  skip
  skip
  go_enter func114,ntmps114
  go_wp2
  rw [← HP.out];exact ⟨⟨_,rfl,⟨some ⟨w.heap.size+1+1,0,none⟩,1,rfl,zalZ (by simp) _ _ [k+1] (by simp [natCs]) (fun _=>rfl) (by omega) (by simp [maxLen]),fun g off h=>by injection h with h;injection h with h;omega⟩⟩,HBW.out.alloc HBW.out.size _⟩
 ·have hl:sucF ⟨20,a,s,keys⟩ k=[]:=by simp [sucF]
  rw [hl] at HP
  skip
  skip
  skip
  go_enter func114,ntmps114
  go_wp2
  rw [← HP.out];exact ⟨⟨_,rfl,⟨_,0,rfl,SlAt.nil,fun g off h=>by injection h with h;injection h with h;omega⟩⟩,HBW.out.alloc HBW.out.size _⟩
end
section
attribute [local go_sem] zabZ
def FindP (l:List FnD) (s:ByteArray) (r:Int):Prop:=(r=-1∧∀ j (h:j<l.length),l[j].name≠s)∨(∃ k,∃ h:k<l.length,r=(k:Nat)∧l[k].name=s∧∀ j (hj:j<k),(l[j]'(by omega)).name≠s)
theorem bytes_ne {a b:ByteArray} (h:(a.toList == b.toList)=false):a≠b:=fun e=>by subst e;simp at h
theorem bytes_eq {a b:ByteArray} (h:(a.toList == b.toList)=true):a=b:=by
 have:=eq_of_beq h
 rw [Lib.toList_data,Lib.toList_data] at this;exact ByteArray.ext (Array.ext' this)
set_option maxHeartbeats 4000000 in
theorem rfind_any (l:List FnD) (A B:Option Addr) (ncap ni icap:Nat) (s:ByteArray) (w:World) (hl:l.length≤40) (hF:SlAt w A 5 FnD.cells l) :
  Calls prog 107 #[.agg #[.slice A l.length ncap,.slice B ni icap],.string s] w fun e w'=>(∃ r,e=.returned (.int .i64 r)∧FindP l s r)∧Below w.heap.size w w':=by
 obtain ⟨P,hP⟩:∃ P:Ending→World→Prop,(fun e w'=>(∃ r,e=.returned (.int .i64 r)∧FindP l s r)∧Below w.heap.size w w')=P:=⟨_,rfl⟩
 rw [hP];have HP:=hZz hP;have HF:=hZz hF;have HB0:=hZz (zacZ w (.cells #[.slice A l.length ncap,.slice B ni icap] 31));clear hP hF;go_enter func107,ntmps107
 go_wp2_with (fail)
 go_loop [5] (fun iv=>∃ k:Nat,k≤l.length∧iv=.int .i64 k∧Hid (∀ j (h:j<l.length),j<k→l[j].name≠s)) (fun iv=>l.length - (intOf iv).toNat)
 case atStart=>exact ⟨0,Nat.zero_le _,rfl,hZz (fun j h h2=>by omega)⟩
 case round =>
  obtain ⟨k,hk,rfl,HN⟩:=hrel;have hk0:(0:Int)≤(k:Int):=by omega
  by_cases hlt:k<l.length
  ·have hlt':(k:Int)<(l.length:Int):=by omega
   have hk9:(k:Int)≤40:=by omega
   obtain ⟨b,off,rfl,_⟩:=HF.out.ptr hlt;obtain ⟨x,hx⟩:∃ x,l[k].name=x:=⟨_,rfl⟩
   have c0:=HF.out.cell0 hlt (v:=.string x) (by rw [← hx];rfl);have HX:=hZz hx;clear hx;cases he:(x.toList == s.toList) with
   | true =>
    have HE:=hZz (bytes_eq he);go_wp2_with (fail)
    rw [← HP.out];exact ⟨⟨k,rfl,.inr ⟨k,hlt,rfl,by rw [HX.out];exact HE.out,fun j hj=>HN.out j (by omega) hj⟩⟩,HB0.out⟩
   | false =>
    have HE:=hZz (bytes_ne he);go_wp2_with (fail)
    exact ⟨⟨k+1,by omega,by simp,hZz (fun j h h2=>by
     by_cases e:j=k
     ·subst e;rw [HX.out];exact HE.out
     ·exact HN.out j h (by omega))⟩,by simp [intOf];omega⟩
  ·have e:k=l.length:=by omega
   subst e;go_wp2_with (fail)
   rw [← HP.out];exact ⟨⟨-1,rfl,.inl ⟨rfl,fun j h=>HN.out j h h⟩⟩,HB0.out⟩
set_option maxHeartbeats 4000000 in
theorem cfind_any (l:List FnD) (A B:Option Addr) (ncap ni icap:Nat) (s:ByteArray) (w:World) (hl:l.length≤40) (hF:SlAt w A 5 FnD.cells l) :
  Calls prog 94 #[.agg #[.slice A l.length ncap,.slice B ni icap],.string s] w fun e w'=>(∃ r,e=.returned (.int .i64 r)∧FindP l s r)∧Below w.heap.size w w':=by
 obtain ⟨P,hP⟩:∃ P:Ending→World→Prop,(fun e w'=>(∃ r,e=.returned (.int .i64 r)∧FindP l s r)∧Below w.heap.size w w')=P:=⟨_,rfl⟩
 rw [hP];have HP:=hZz hP;have HF:=hZz hF;have hb2:=zauY w (.cells #[.slice A l.length ncap,.slice B ni icap] 31) (.cells #[.string s] 9);have HX2:=hZz (Blk.second w (.cells #[.slice A l.length ncap,.slice B ni icap] 31) 9 #[.string s]);obtain ⟨W2,hW2⟩:∃ W2,(w.alloc (.cells #[.slice A l.length ncap,.slice B ni icap] 31)).alloc (.cells #[.string s] 9)=W2:=⟨_,rfl⟩
 rw [hW2] at hb2 HX2;have HB2:=hZz hb2;obtain ⟨gs,hgs⟩:∃ g,w.heap.size+1=g:=⟨_,rfl⟩
 rw [hgs] at HX2;have HW2:=hZz hW2;have HGS:=hZz hgs;clear hP hF hb2 hW2 hgs;go_enter func94,ntmps94
 go_wp2_with (fail)
 rw [HW2.out,HGS.out];clear HW2 HGS;go_enter func142,ntmps142
 go_wp2_with (fail)
 go_loopw [5,8] (fun _ iv wr=>∃ k:Nat,k≤l.length∧iv=.int .i64 k∧Hid (∀ j (h:j<l.length),j<k→l[j].name≠s)∧Hid (Below W2.heap.size W2 wr)) (fun _ iv _=>l.length - (intOf iv).toNat)
 case atStart=>exact ⟨0,Nat.zero_le _,rfl,hZz (fun j h h2=>by omega),hZz (Below.refl _ _)⟩
 case round =>
  obtain ⟨k,hk,rfl,HN,HBR⟩:=hrel;have hk0:(0:Int)≤(k:Int):=by omega
  have HBW:Hid (Below w.heap.size w wr):=hZz (zahZ HBR.out HB2.out);have s0:=(HX2.out.below HBR.out).cell 0 (.string s) rfl;by_cases hlt:k<l.length
  ·have hlt':(k:Int)<(l.length:Int):=by omega
   have hk9:(k:Int)≤40:=by omega
   have hsa:=HF.out.below HBW.out;obtain ⟨b,off,rfl,_⟩:=hsa.ptr hlt;obtain ⟨f,hf⟩:∃ f,l[k]=f:=⟨_,rfl⟩
   have c0:=hsa.cell0 hlt (v:=.string f.name) (by rw [hf];rfl);have c1:=hsa.cell hlt (j:=1) (v:=.int .i64 f.params) (by rw [hf];rfl);have c2:=hsa.cell hlt (j:=2) (v:=.int .i64 f.locals) (by rw [hf];rfl);have c3:=hsa.cell hlt (j:=3) (v:=.int .i64 f.entry) (by rw [hf];rfl);have c4:=hsa.cell hlt (j:=4) (v:=.int .i64 f.fin) (by rw [hf];rfl);have HX:=hZz hf;have HB3:∀ o:Obj,Below W2.heap.size W2 (wr.alloc o):=fun o=>HBR.out.alloc HBR.out.size o
   have HBO:=hZz HB3;clear hf hsa HB3;cases he:(f.name.toList == s.toList) with
   | true =>
    have HE:=hZz (bytes_eq he)
    go_wp2_with (first
     | (go_at_call 143;go_enter func143,ntmps143))
    rw [← HP.out];exact ⟨⟨k,rfl,.inr ⟨k,hlt,rfl,by rw [HX.out];exact HE.out,fun j hj=>HN.out j (by omega) hj⟩⟩,zahZ (HBO.out _) HB2.out⟩
   | false =>
    have HE:=hZz (bytes_ne he)
    go_wp2_with (first
     | (go_at_call 143;go_enter func143,ntmps143))
    exact ⟨⟨k+1,by omega,by simp,hZz (fun j h h2=>by
     by_cases e:j=k
     ·subst e;rw [HX.out];exact HE.out
     ·exact HN.out j h (by omega)),hZz (HBO.out _)⟩,by simp [intOf];omega⟩
  ·have e:k=l.length:=by omega
   subst e;go_wp2_with (fail)
   rw [← HP.out];exact ⟨⟨-1,rfl,.inl ⟨rfl,fun j h=>HN.out j h h⟩⟩,HBW.out⟩
end
end Go.Proofs.YthiimbhjpdphpaaGreatDoor
