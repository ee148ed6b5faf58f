/- OpenC -/
import Derived.Test.YtmljohbialacfaaGreatDoorPOpenM
import Derived.Test.YtmljohbialacfaaGreatDoorPX5
set_option linter.unusedVariables false
set_option linter.unusedSimpArgs false
namespace Go.Proofs.YtmljohbialacfaaGreatDoor
open Go.RowKit Go.ChangeShapes Go.WideShapes Go.Deep
set_option maxRecDepth 100000
theorem RowsV.sl {α:Type} {lim sz:Nat} {c:α→List Value} {w:World} {v:Value} {l:List α} (h:RowsV lim sz (fun _ row a=>row=c a) w v l):∃ A cap,v=.slice A l.length cap∧l.length≤cap∧SlAt w A sz c l:=by
 obtain ⟨A,cap,rows,h1,h2,h3,h4,h5,h6⟩:=h
 refine ⟨A,cap,h1,h2,?_⟩
 have e:rows=l.map c:=by
  apply List.ext_getElem
  ·simpa using h5
  ·intro i hi hi'
   rw [List.getElem_map]
   exact h6 i hi (by simpa using hi')
 subst e
 unfold SlAt at h4 ⊢
 rwa [List.map_map] at h4
theorem Tryz.cells9:Tryz.prog.cellsOf 9=1:=by kernel_rfl
theorem Tryz.bytes9:Tryz.prog.bytesOf 9=16:=by kernel_rfl
theorem Tryz.cells55:Tryz.prog.cellsOf 55=5:=by kernel_rfl
theorem Tryz.bytes55:Tryz.prog.bytesOf 55=48:=by kernel_rfl
theorem Tryz.cells59:Tryz.prog.cellsOf 59=4:=by kernel_rfl
theorem Tryz.bytes59:Tryz.prog.bytesOf 59=56:=by kernel_rfl
theorem Tryz.cells25:Tryz.prog.cellsOf 25=2:=by kernel_rfl
theorem Tryz.cells28:Tryz.prog.cellsOf 28=2:=by kernel_rfl
def IntsOk (c:CellD):Prop:=(-9223372036854775808≤c.int∧c.int≤9223372036854775807)∧c.n≤9223372036854775807
section
variable {H:Type} {enc:TypeId × Value→H} {w:World} {base:Nat} {spare:Nat→Bool} {held:Bool}
theorem keys_open {fuel:Nat} {cs:List Value} {x:DataW H × List MemPlace} (hR:∀ m∈x.1.weights Tryz.prog 57,m≤Rb) (h:DataW.trod enc Tryz.prog w base spare held fuel 57 cs=some x):∃ (v:Value) (l:List ByteArray),cs=[v]∧KeysV w v l:=by
 obtain ⟨v,l,h1,h2,_⟩:=open_rowsV 8796093022208 Rb 16 1 (fun _ row k=>row=strCs k) (fun _:ByteArray=>True) Tryz.underlying57 Tryz.cells9 Tryz.bytes9 (by omega) (fun n hn=>by unfold Rb at hn;omega)
  (fun n cs y hl hy hw=>by
   obtain ⟨s,e,_,_⟩:=DataW.trod_string Tryz.underlying9 hy
   exact ⟨s,e,trivial⟩) hR h
 obtain ⟨A,cap,e1,e2,e3⟩:=h2.sl
 exact ⟨v,l,h1,A,cap,e1,e2,e3⟩
theorem fn_elem (n:Nat) (cs:List Value) (y:DataW H × List MemPlace) (hl:cs.length=5) (h:DataW.trod enc Tryz.prog w base spare held n 55 cs=some y):∃ f:FnD,cs=f.cells:=by
 obtain ⟨xs,m,_,rfl,_,hxl,hg⟩:=DataW.trod_struct Tryz.underlying55 h
 match cs,hl with
 | [c0,c1,c2,c3,c4],_ =>
  match xs,hxl with
  | [x0,x1,x2,x3,x4],_ =>
   obtain ⟨s,e0,_,_⟩:=DataW.trod_string Tryz.underlying9 (hg 0 _ rfl)
   obtain ⟨a,e1,_,_⟩:=DataW.trod_int Tryz.underlying3 (hg 1 _ rfl)
   obtain ⟨b,e2,_,_⟩:=DataW.trod_int Tryz.underlying3 (hg 2 _ rfl)
   obtain ⟨c,e3,_,_⟩:=DataW.trod_int Tryz.underlying3 (hg 3 _ rfl)
   obtain ⟨d,e4,_,_⟩:=DataW.trod_int Tryz.underlying3 (hg 4 _ rfl)
   have n3:Tryz.prog.cellsOf 3=1:=by kernel_rfl
   have n9:Tryz.prog.cellsOf 9=1:=by kernel_rfl
   simp [n3,n9] at e0 e1 e2 e3 e4
   subst e0 e1 e2 e3 e4
   exact ⟨⟨s,a,b,c,d⟩,rfl⟩
theorem fns_open {fuel:Nat} {cs:List Value} {x:DataW H × List MemPlace} (hR:∀ m∈x.1.weights Tryz.prog 22,m≤Rb) (h:DataW.trod enc Tryz.prog w base spare held fuel 22 cs=some x):∃ (A:Option Addr) (cap:Nat) (l:List FnD),cs=[.slice A l.length cap]∧SlAt w A 5 FnD.cells l:=by
 obtain ⟨v,l,h1,h2,_⟩:=open_rowsV 8796093022208 Rb 48 5 (fun _ row f=>row=FnD.cells f) (fun _:FnD=>True) Tryz.underlying22 Tryz.cells55 Tryz.bytes55 (by omega) (fun n hn=>by unfold Rb at hn;omega)
  (fun n cs y hl hy hw=>by
   obtain ⟨f,e⟩:=fn_elem n cs y hl hy
   exact ⟨f,e,trivial⟩) hR h
 obtain ⟨A,cap,e1,e2,e3⟩:=h2.sl
 exact ⟨A,cap,l,by rw [h1,e1],e3⟩
theorem ins_elem (n:Nat) (cs:List Value) (y:DataW H × List MemPlace) (hl:cs.length=4) (h:DataW.trod enc Tryz.prog w base spare held n 59 cs=some y) (hw:∀ m∈y.1.weights Tryz.prog 59,m≤Rb):∃ i:InsD,insR w cs i∧True:=by
 obtain ⟨xs,m,_,rfl,_,hxl,hg⟩:=DataW.trod_struct Tryz.underlying59 h
 match cs,hl with
 | [c0,c1,c2,c3],_ =>
  match xs,hxl with
  | [x0,x1,x2,x3],_ =>
   have hww:DataW.weights Tryz.prog 59 (DataW.agg ([x0,x1,x2,x3].map (·.1)))=DataW.weightsEach Tryz.prog [56,3,9,57] ([x0,x1,x2,x3].map (·.1)):=by
    simp only [DataW.weights,Tryz.underlying59]
    rfl
   have hw':∀ m∈DataW.weights Tryz.prog 59 (DataW.agg ([x0,x1,x2,x3].map (·.1))),m≤Rb:=hw
   rw [hww] at hw'
   obtain ⟨k,e0,_,_⟩:=DataW.trod_int Tryz.underlying56 (hg 0 _ rfl)
   obtain ⟨a,e1,_,_⟩:=DataW.trod_int Tryz.underlying3 (hg 1 _ rfl)
   obtain ⟨s,e2,_,_⟩:=DataW.trod_string Tryz.underlying9 (hg 2 _ rfl)
   obtain ⟨kv,ks,e3,h3⟩:=keys_open (fun m hm=>hw' m (DataW.weights_mem_each (j:=3) (t:=57) (d:=x3.1) rfl rfl _ hm)) (hg 3 _ rfl)
   have n3:Tryz.prog.cellsOf 3=1:=by kernel_rfl
   have n9:Tryz.prog.cellsOf 9=1:=by kernel_rfl
   have n56:Tryz.prog.cellsOf 56=1:=by kernel_rfl
   have n57:Tryz.prog.cellsOf 57=1:=by kernel_rfl
   simp [n3,n9,n56,n57] at e0 e1 e2 e3
   subst e0 e1 e2 e3
   exact ⟨⟨k,a,s,ks⟩,⟨_,rfl,h3⟩,trivial⟩
theorem insl_open {fuel:Nat} {cs:List Value} {x:DataW H × List MemPlace} (hR:∀ m∈x.1.weights Tryz.prog 23,m≤Rb) (h:DataW.trod enc Tryz.prog w base spare held fuel 23 cs=some x):∃ (A:Option Addr) (cap:Nat) (l:List InsD),cs=[.slice A l.length cap]∧InsV w A l:=by
 obtain ⟨v,l,h1,h2,_⟩:=open_rowsV 8796093022208 Rb 56 4 insR (fun _:InsD=>True) Tryz.underlying23 Tryz.cells59 Tryz.bytes59 (by omega) (fun n hn=>by unfold Rb at hn;omega) ins_elem hR h
 obtain ⟨A,cap,rows,e1,e2,e3,e4,e5,e6⟩:=h2
 exact ⟨A,cap,l,by rw [h1,e1],rows,e4,e5,e6⟩
theorem code_open {fuel:Nat} {cs:Array Value} {x:DataW H × List MemPlace} (hl:cs.toList.length=2) (hw:∀ m∈x.1.weights Tryz.prog 25,m≤Rb) (h:DataW.trod enc Tryz.prog w base spare held fuel 25 cs.toList=some x):∃ C:CodeS,cs=#[.slice C.A C.c.fns.length C.ncap,.slice C.B C.c.ins.length C.icap]∧CodeV w C:=by
 obtain ⟨xs,m,_,rfl,_,hxl,hg⟩:=DataW.trod_struct Tryz.underlying25 h
 obtain ⟨l,hcs⟩:∃ l,cs.toList=l:=⟨_,rfl⟩
 rw [hcs] at hl hg
 match l,hl,hcs,hg with
 | [c0,c1],_,hcs,hg =>
  match xs,hxl with
  | [x0,x1],_ =>
   have hww:DataW.weights Tryz.prog 25 (DataW.agg ([x0,x1].map (·.1)))=DataW.weightsEach Tryz.prog [22,23] ([x0,x1].map (·.1)):=by
    simp only [DataW.weights,Tryz.underlying25]
    rfl
   have hw':∀ m∈DataW.weights Tryz.prog 25 (DataW.agg ([x0,x1].map (·.1))),m≤Rb:=hw
   rw [hww] at hw'
   obtain ⟨A,nc,F,e0,h0⟩:=fns_open (fun m hm=>hw' m (DataW.weights_mem_each (j:=0) (t:=22) (d:=x0.1) rfl rfl _ hm)) (hg 0 _ rfl)
   obtain ⟨B,ic,I,e1,h1⟩:=insl_open (fun m hm=>hw' m (DataW.weights_mem_each (j:=1) (t:=23) (d:=x1.1) rfl rfl _ hm)) (hg 1 _ rfl)
   have n1:Tryz.prog.cellsOf 22=1:=by kernel_rfl
   have n2:Tryz.prog.cellsOf 23=1:=by kernel_rfl
   simp [n1,n2] at e0 e1
   subst e0 e1
   have hce:cs=#[.slice A F.length nc,.slice B I.length ic]:=by
    apply Array.toList_inj.1
    rw [hcs]
   exact ⟨⟨A,B,nc,ic,⟨F,I⟩,none⟩,hce,⟨h0,h1⟩⟩
theorem limits_open {fuel:Nat} {cs:Array Value} {x:DataW H × List MemPlace} (hl:cs.toList.length=2) (h:DataW.trod enc Tryz.prog w base spare held fuel 28 cs.toList=some x):∃ a b:Int,cs=#[.int .i64 a,.int .i64 b]:=by
 obtain ⟨xs,m,_,rfl,_,hxl,hg⟩:=DataW.trod_struct Tryz.underlying28 h
 obtain ⟨l,hcs⟩:∃ l,cs.toList=l:=⟨_,rfl⟩
 rw [hcs] at hl hg
 match l,hl,hcs,hg with
 | [c0,c1],_,hcs,hg =>
  match xs,hxl with
  | [x0,x1],_ =>
   obtain ⟨a,e0,_,_⟩:=DataW.trod_int Tryz.underlying3 (hg 0 _ rfl)
   obtain ⟨b,e1,_,_⟩:=DataW.trod_int Tryz.underlying3 (hg 1 _ rfl)
   have n3:Tryz.prog.cellsOf 3=1:=by kernel_rfl
   simp [n3] at e0 e1
   subst e0 e1
   exact ⟨a,b,Array.toList_inj.1 hcs⟩
theorem cell_elemI (n:Nat) (cs:List Value) (y:DataW H × List MemPlace) (hl:cs.length=4) (h:DataW.trod enc Tryz.prog w base spare held n 62 cs=some y) (hw:∀ m∈y.1.weights Tryz.prog 62,m≤Rb):∃ c:CellD,cellR w cs c∧(c.str.size≤Rb∧IntsOk c):=by
 obtain ⟨c,hc,hs⟩:=cell_elem n cs y hl h hw
 refine ⟨c,hc,hs,?_⟩
 obtain ⟨xs,m,_,rfl,_,hxl,hg⟩:=DataW.trod_struct Tryz.underlying62 h
 unfold cellR at hc
 subst hc
 match xs,hxl with
 | [x0,x1,x2,x3],_ =>
  obtain ⟨a,e1,_,r1⟩:=DataW.trod_int Tryz.underlying3 (hg 1 _ rfl)
  obtain ⟨b,e3,_,r3⟩:=DataW.trod_int Tryz.underlying3 (hg 3 _ rfl)
  have n3:Tryz.prog.cellsOf 3=1:=by kernel_rfl
  have n9:Tryz.prog.cellsOf 9=1:=by kernel_rfl
  have n50:Tryz.prog.cellsOf 60=1:=by kernel_rfl
  simp [n3,n9,n50,CellD.cells] at e1 e3
  subst e1 e3
  simp [Lit.wf,IntKind.min,IntKind.max,IntKind.signed,IntKind.bits] at r1 r3
  exact ⟨by omega,by omega⟩
theorem val_openI {fuel:Nat} {cs:List Value} {x:DataW H × List MemPlace} (hR:∀ m∈x.1.weights Tryz.prog 26,m≤Rb) (h:DataW.trod enc Tryz.prog w base spare held fuel 26 cs=some x):∃ (v:Value) (l:ValD),cs=[v]∧ValV w v l∧∀ c∈l,c.str.size≤Rb∧IntsOk c :=
 open_rowsV 3518437208780 Rb 40 4 cellR (fun c:CellD=>c.str.size≤Rb∧IntsOk c) Tryz.underlying26 Tryz.cells62 Tryz.bytes62 (by omega) (fun n hn=>by unfold Rb at hn;omega) cell_elemI hR h
end
end Go.Proofs.YtmljohbialacfaaGreatDoor
