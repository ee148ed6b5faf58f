/- OpenP -/
import Derived.Test.YthiimbhjpdphpaaGreatDoorPOpenM
import Derived.Test.YthiimbhjpdphpaaGreatDoorPJD
set_option linter.unusedVariables false
set_option linter.unusedSimpArgs false
namespace Go.Proofs.YthiimbhjpdphpaaGreatDoor
set_option maxRecDepth 100000
open Go.Proofs.Tryz
open Go.RowKit Go.ChangeShapes Go.WideShapes Go.Deep
theorem RowsV.slP {α:Type} {lim sz:Nat} {c:α→List Value} {w:World} {v:Value} {l:List α} (h:RowsV lim sz (fun _ row a=>row=c a) w v l):∃ A cap,v=.slice A l.length cap∧l.length≤cap∧SlAt w A sz c l:=by
 obtain ⟨A,cap,rows,h1,h2,h3,h4,h5,h6⟩:=h;refine ⟨A,cap,h1,h2,?_⟩
 have e:rows=l.map c:=by
  apply List.ext_getElem
  ·simpa using h5
  ·intro i hi hi'
   rw [List.getElem_map];exact h6 i hi (by simpa using hi')
 subst e;unfold SlAt at h4 ⊢
 rwa [List.map_map] at h4
theorem Tryz.cellsP9:prog.cellsOf 9=1:=by kernel_rfl
theorem Tryz.bytesP9:prog.bytesOf 9=16:=by kernel_rfl
theorem Tryz.cellsP3:prog.cellsOf 3=1:=by kernel_rfl
theorem Tryz.bytesP3:prog.bytesOf 3=8:=by kernel_rfl
theorem Tryz.cellsP58:prog.cellsOf 58=5:=by kernel_rfl
theorem Tryz.bytesP58:prog.bytesOf 58=80:=by kernel_rfl
theorem Tryz.cellsP42:prog.cellsOf 42=3:=by kernel_rfl
theorem Tryz.bytesP42:prog.bytesOf 42=48:=by kernel_rfl
theorem Tryz.cellsP25:prog.cellsOf 25=2:=by kernel_rfl
section
variable {H:Type} {enc:TypeId × Value→H} {w:World} {base:Nat} {spare:Nat→Bool} {held:Bool}
theorem str_sz {n:Nat} {cs:List Value} {y:DataW H × List MemPlace} (h:DataW.trod enc prog w base spare held n 9 cs=some y) (hw:∀ m∈y.1.weights prog 9,m≤Rb):∃ s:ByteArray,cs=[.string s]∧s.size≤Rb:=by
 obtain ⟨s,e,d,_⟩:=DataW.trod_string underlying9 h;refine ⟨s,e,hw _ ?_⟩
 rw [d];simp only [DataW.weights,List.mem_singleton];simp
theorem keysP_open {fuel:Nat} {cs:List Value} {x:DataW H × List MemPlace} (hR:∀ m∈x.1.weights prog 40,m≤Rb) (h:DataW.trod enc prog w base spare held fuel 40 cs=some x):∃ (v:Value) (l:List ByteArray),cs=[v]∧KeysV w v l∧∀ k∈l,k.size≤Rb:=by
 obtain ⟨v,l,h1,h2,h3⟩:=zbiY 8796093022208 Rb 16 1 (fun _ row k=>row=strCs k) (fun k:ByteArray=>k.size≤Rb) underlying40 Tryz.cellsP9 Tryz.bytesP9 (by omega) (fun n hn=>by unfold Rb at hn;omega)
  (fun n cs y hl hy hw=>by
   obtain ⟨s,e,hs⟩:=str_sz hy hw;exact ⟨s,e,hs⟩) hR h
 obtain ⟨A,cap,e1,e2,e3⟩:=h2.slP;exact ⟨v,l,h1,⟨A,cap,e1,e2,e3⟩,h3⟩
theorem intsP_open {fuel:Nat} {cs:List Value} {x:DataW H × List MemPlace} (hR:∀ m∈x.1.weights prog 56,m≤Rb) (h:DataW.trod enc prog w base spare held fuel 56 cs=some x):∃ (v:Value) (l:List Int),cs=[v]∧IntsV w v l:=by
 obtain ⟨v,l,h1,h2,_⟩:=zbiY 17592186043904 Rb 8 1 intR (fun _:Int=>True) underlying56 Tryz.cellsP3 Tryz.bytesP3 (by omega) (fun n hn=>by unfold Rb at hn;omega)
  (fun n cs y hl hy hw=>by
   obtain ⟨a,e,_,_⟩:=DataW.trod_int underlying3 hy;exact ⟨a,e,trivial⟩) hR h
 exact ⟨v,l,h1,h2⟩
theorem nodeP_elem (n:Nat) (cs:List Value) (y:DataW H × List MemPlace) (hl:cs.length=5) (h:DataW.trod enc prog w base spare held n 58 cs=some y) (hw:∀ m∈y.1.weights prog 58,m≤Rb):∃ a:NodeD,nodeR w cs a∧(a.text.size≤Rb∧∀ k∈a.keys,k.size≤Rb):=by
 obtain ⟨xs,m,_,rfl,_,hxl,hg⟩:=DataW.trod_struct underlying58 h
 match cs,hl with
 | [c0,c1,c2,c3,c4],_ =>
  match xs,hxl with
  | [x0,x1,x2,x3,x4],_ =>
   have hww:DataW.weights prog 58 (DataW.agg ([x0,x1,x2,x3,x4].map (·.1)))=DataW.weightsEach prog [55,9,3,40,56] ([x0,x1,x2,x3,x4].map (·.1)):=by
    simp only [DataW.weights,underlying58];rfl
   have hw':∀ m∈DataW.weights prog 58 (DataW.agg ([x0,x1,x2,x3,x4].map (·.1))),m≤Rb:=hw
   rw [hww] at hw';have n3:prog.cellsOf 3=1:=by kernel_rfl
   have n9:prog.cellsOf 9=1:=by kernel_rfl
   have n55:prog.cellsOf 55=1:=by kernel_rfl
   have n40:prog.cellsOf 40=1:=by kernel_rfl
   have n56:prog.cellsOf 56=1:=by kernel_rfl
   obtain ⟨k,e0,_,_⟩:=DataW.trod_int underlying55 (hg 0 _ rfl);obtain ⟨s,e1,hs⟩:=str_sz (hg 1 _ rfl) (fun m hm=>hw' m (DataW.weights_mem_each (j:=1) (t:=9) (d:=x1.1) rfl rfl _ hm));obtain ⟨a,e2,_,_⟩:=DataW.trod_int underlying3 (hg 2 _ rfl);obtain ⟨kv,ks,e3,h3,q3⟩:=keysP_open (fun m hm=>hw' m (DataW.weights_mem_each (j:=3) (t:=40) (d:=x3.1) rfl rfl _ hm)) (hg 3 _ rfl);obtain ⟨iv,is,e4,h4⟩:=intsP_open (fun m hm=>hw' m (DataW.weights_mem_each (j:=4) (t:=56) (d:=x4.1) rfl rfl _ hm)) (hg 4 _ rfl);simp [n3,n9,n55,n40,n56] at e0 e1 e2 e3 e4
   subst e0 e1 e2 e3 e4;exact ⟨⟨k,s,a,ks,is⟩,⟨_,_,rfl,h3,h4⟩,hs,q3⟩
theorem nodesP_open {fuel:Nat} {cs:List Value} {x:DataW H × List MemPlace} (hR:∀ m∈x.1.weights prog 22,m≤Rb) (h:DataW.trod enc prog w base spare held fuel 22 cs=some x):∃ (v:Value) (l:List NodeD),cs=[v]∧NodesV w v l∧∀ a∈l,a.text.size≤Rb∧∀ k∈a.keys,k.size≤Rb :=
 zbiY 1759218604390 Rb 80 5 nodeR (fun a:NodeD=>a.text.size≤Rb∧∀ k∈a.keys,k.size≤Rb) underlying22 Tryz.cellsP58 Tryz.bytesP58 (by omega) (fun n hn=>by unfold Rb at hn;omega) nodeP_elem hR h
theorem funcP_elem (n:Nat) (cs:List Value) (y:DataW H × List MemPlace) (hl:cs.length=3) (h:DataW.trod enc prog w base spare held n 42 cs=some y) (hw:∀ m∈y.1.weights prog 42,m≤Rb):∃ a:FuncD,funcR w cs a∧(a.name.size≤Rb∧∀ k∈a.params,k.size≤Rb):=by
 obtain ⟨xs,m,_,rfl,_,hxl,hg⟩:=DataW.trod_struct underlying42 h
 match cs,hl with
 | [c0,c1,c2],_ =>
  match xs,hxl with
  | [x0,x1,x2],_ =>
   have hww:DataW.weights prog 42 (DataW.agg ([x0,x1,x2].map (·.1)))=DataW.weightsEach prog [9,40,3] ([x0,x1,x2].map (·.1)):=by
    simp only [DataW.weights,underlying42];rfl
   have hw':∀ m∈DataW.weights prog 42 (DataW.agg ([x0,x1,x2].map (·.1))),m≤Rb:=hw
   rw [hww] at hw';have n3:prog.cellsOf 3=1:=by kernel_rfl
   have n9:prog.cellsOf 9=1:=by kernel_rfl
   have n40:prog.cellsOf 40=1:=by kernel_rfl
   obtain ⟨s,e0,hs⟩:=str_sz (hg 0 _ rfl) (fun m hm=>hw' m (DataW.weights_mem_each (j:=0) (t:=9) (d:=x0.1) rfl rfl _ hm));obtain ⟨kv,ks,e1,h1,q1⟩:=keysP_open (fun m hm=>hw' m (DataW.weights_mem_each (j:=1) (t:=40) (d:=x1.1) rfl rfl _ hm)) (hg 1 _ rfl);obtain ⟨a,e2,_,_⟩:=DataW.trod_int underlying3 (hg 2 _ rfl);simp [n3,n9,n40] at e0 e1 e2
   subst e0 e1 e2;exact ⟨⟨s,ks,a⟩,⟨_,rfl,h1⟩,hs,q1⟩
theorem funcsP_open {fuel:Nat} {cs:List Value} {x:DataW H × List MemPlace} (hR:∀ m∈x.1.weights prog 23,m≤Rb) (h:DataW.trod enc prog w base spare held fuel 23 cs=some x):∃ (v:Value) (l:List FuncD),cs=[v]∧FuncsV w v l∧∀ a∈l,a.name.size≤Rb∧∀ k∈a.params,k.size≤Rb :=
 zbiY 2932031007402 Rb 48 3 funcR (fun a:FuncD=>a.name.size≤Rb∧∀ k∈a.params,k.size≤Rb) underlying23 Tryz.cellsP42 Tryz.bytesP42 (by omega) (fun n hn=>by unfold Rb at hn;omega) funcP_elem hR h
theorem prog_open {fuel:Nat} {cs:Array Value} {x:DataW H × List MemPlace} (hl:cs.toList.length=2) (hw:∀ m∈x.1.weights prog 25,m≤Rb) (h:DataW.trod enc prog w base spare held fuel 25 cs.toList=some x):∃ S:ProgS,.agg cs=S.val∧ProgV w S∧TextsOk S.p:=by
 obtain ⟨xs,m,_,rfl,_,hxl,hg⟩:=DataW.trod_struct underlying25 h;obtain ⟨l,hcs⟩:∃ l,cs.toList=l:=⟨_,rfl⟩
 rw [hcs] at hl hg
 match l,hl,hcs,hg with
 | [c0,c1],_,hcs,hg =>
  match xs,hxl with
  | [x0,x1],_ =>
   have hww:DataW.weights prog 25 (DataW.agg ([x0,x1].map (·.1)))=DataW.weightsEach prog [22,23] ([x0,x1].map (·.1)):=by
    simp only [DataW.weights,underlying25];rfl
   have hw':∀ m∈DataW.weights prog 25 (DataW.agg ([x0,x1].map (·.1))),m≤Rb:=hw
   rw [hww] at hw';have n22:prog.cellsOf 22=1:=by kernel_rfl
   have n23:prog.cellsOf 23=1:=by kernel_rfl
   obtain ⟨v0,L,e0,h0,q0⟩:=nodesP_open (fun m hm=>hw' m (DataW.weights_mem_each (j:=0) (t:=22) (d:=x0.1) rfl rfl _ hm)) (hg 0 _ rfl);obtain ⟨v1,F,e1,h1,q1⟩:=funcsP_open (fun m hm=>hw' m (DataW.weights_mem_each (j:=1) (t:=23) (d:=x1.1) rfl rfl _ hm)) (hg 1 _ rfl);simp [n22,n23] at e0 e1
   subst e0 e1;have k0:=h0;have k1:=h1;obtain ⟨A,nc,_,rfl,_⟩:=k0;obtain ⟨B,fc,_,rfl,_⟩:=k1;refine ⟨⟨A,B,nc,fc,⟨L,F⟩⟩,?_,⟨h0,h1⟩,⟨q0,q1⟩⟩
   unfold ProgS.val;congr 1
   exact Array.toList_inj.1 hcs
end
end Go.Proofs.YthiimbhjpdphpaaGreatDoor
