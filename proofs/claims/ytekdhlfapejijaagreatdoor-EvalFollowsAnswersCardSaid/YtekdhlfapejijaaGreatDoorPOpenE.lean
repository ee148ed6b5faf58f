/- OpenE -/
import Derived.Test.YtekdhlfapejijaaGreatDoorPOpenM
import Derived.Test.YtekdhlfapejijaaGreatDoorPAK6
set_option linter.unusedVariables false
set_option linter.unusedSimpArgs false
namespace Go.Proofs.YtekdhlfapejijaaGreatDoor
set_option maxRecDepth 100000
open Go.RowKit Go.ChangeShapes Go.WideShapes Go.Deep
section
variable {H:Type} {enc:TypeId × Value→H} {w:World} {base:Nat} {spare:Nat→Bool} {held:Bool}
theorem cell_elemI (n:Nat) (cs:List Value) (y:DataW H × List MemPlace) (hl:cs.length=4) (h:DataW.trod enc Tryz.prog w base spare held n 53 cs=some y) (hw:∀ m∈y.1.weights Tryz.prog 53,m≤Rb):∃ c:CellD,cellR w cs c∧(c.str.size≤Rb∧IntOk c):=by
 obtain ⟨c,hc,hs⟩:=cell_elem n cs y hl h hw
 refine ⟨c,hc,hs,?_⟩
 obtain ⟨xs,m,_,rfl,_,hxl,hg⟩:=DataW.trod_struct Tryz.underlying53 h
 unfold cellR at hc
 subst hc
 match xs,hxl with
 | [x0,x1,x2,x3],_ =>
  obtain ⟨a,e1,_,r1⟩:=DataW.trod_int Tryz.underlying3 (hg 1 _ rfl)
  obtain ⟨b,e3,_,r3⟩:=DataW.trod_int Tryz.underlying3 (hg 3 _ rfl)
  have n3:Tryz.prog.cellsOf 3=1:=by kernel_rfl
  have n9:Tryz.prog.cellsOf 9=1:=by kernel_rfl
  have n50:Tryz.prog.cellsOf 51=1:=by kernel_rfl
  simp [n3,n9,n50,CellD.cells] at e1 e3
  subst e1 e3
  simp [Lit.wf,IntKind.min,IntKind.max,IntKind.signed,IntKind.bits] at r1 r3
  exact ⟨by omega,by omega⟩
theorem val_openI {fuel:Nat} {cs:List Value} {x:DataW H × List MemPlace} (hR:∀ m∈x.1.weights Tryz.prog 22,m≤Rb) (h:DataW.trod enc Tryz.prog w base spare held fuel 22 cs=some x):∃ (v:Value) (l:ValD),cs=[v]∧ValV w v l∧∀ c∈l,c.str.size≤Rb∧IntOk c :=
 open_rowsV 3518437208780 Rb 40 4 cellR (fun c:CellD=>c.str.size≤Rb∧IntOk c) Tryz.underlying22 Tryz.cells53 Tryz.bytes53 (by omega) (fun n hn=>by unfold Rb at hn;omega) cell_elemI hR h
end
theorem RowsV.slP {α:Type} {lim sz:Nat} {c:α→List Value} {w:World} {v:Value} {l:List α} (h:RowsV lim sz (fun _ row a=>row=c a) w v l):∃ A cap,v=.slice A l.length cap∧l.length≤cap∧SlAt w A sz c l:=by
 obtain ⟨A,cap,rows,h1,h2,h3,h4,h5,h6⟩:=h
 refine ⟨A,cap,h1,h2,?_⟩
 have e:rows=l.map c:=by
  apply List.ext_getElem
  ·simpa using h5
  ·intro i hi hi'
   rw [List.getElem_map]
   exact h6 i hi (by simpa using hi')
 subst e
 unfold SlAt at h4 ⊢
 rwa [List.map_map] at h4
theorem Tryz.cellsP9:Tryz.prog.cellsOf 9=1:=by kernel_rfl
theorem Tryz.bytesP9:Tryz.prog.bytesOf 9=16:=by kernel_rfl
theorem Tryz.cellsP3:Tryz.prog.cellsOf 3=1:=by kernel_rfl
theorem Tryz.bytesP3:Tryz.prog.bytesOf 3=8:=by kernel_rfl
theorem Tryz.cellsP87:Tryz.prog.cellsOf 87=5:=by kernel_rfl
theorem Tryz.bytesP87:Tryz.prog.bytesOf 87=80:=by kernel_rfl
theorem Tryz.cellsP89:Tryz.prog.cellsOf 89=3:=by kernel_rfl
theorem Tryz.bytesP89:Tryz.prog.bytesOf 89=48:=by kernel_rfl
theorem Tryz.cellsP38:Tryz.prog.cellsOf 38=2:=by kernel_rfl
section
variable {H:Type} {enc:TypeId × Value→H} {w:World} {base:Nat} {spare:Nat→Bool} {held:Bool}
theorem str_sz {n:Nat} {cs:List Value} {y:DataW H × List MemPlace} (h:DataW.trod enc Tryz.prog w base spare held n 9 cs=some y) (hw:∀ m∈y.1.weights Tryz.prog 9,m≤Rb):∃ s:ByteArray,cs=[.string s]∧s.size≤Rb:=by
 obtain ⟨s,e,d,_⟩:=DataW.trod_string Tryz.underlying9 h
 refine ⟨s,e,hw _ ?_⟩
 rw [d]
 simp only [DataW.weights,List.mem_singleton]
 simp
theorem keysP_open {fuel:Nat} {cs:List Value} {x:DataW H × List MemPlace} (hR:∀ m∈x.1.weights Tryz.prog 68,m≤Rb) (h:DataW.trod enc Tryz.prog w base spare held fuel 68 cs=some x):∃ (v:Value) (l:List ByteArray),cs=[v]∧KeysV w v l∧∀ k∈l,k.size≤Rb:=by
 obtain ⟨v,l,h1,h2,h3⟩:=open_rowsV 8796093022208 Rb 16 1 (fun _ row k=>row=strCs k) (fun k:ByteArray=>k.size≤Rb) Tryz.underlying68 Tryz.cellsP9 Tryz.bytesP9 (by omega) (fun n hn=>by unfold Rb at hn;omega)
  (fun n cs y hl hy hw=>by
   obtain ⟨s,e,hs⟩:=str_sz hy hw
   exact ⟨s,e,hs⟩) hR h
 obtain ⟨A,cap,e1,e2,e3⟩:=h2.slP
 exact ⟨v,l,h1,⟨A,cap,e1,e2,e3⟩,h3⟩
theorem intsP_open {fuel:Nat} {cs:List Value} {x:DataW H × List MemPlace} (hR:∀ m∈x.1.weights Tryz.prog 85,m≤Rb) (h:DataW.trod enc Tryz.prog w base spare held fuel 85 cs=some x):∃ (v:Value) (l:List Int),cs=[v]∧IntsV w v l:=by
 obtain ⟨v,l,h1,h2,_⟩:=open_rowsV 17592186043904 Rb 8 1 intR (fun _:Int=>True) Tryz.underlying85 Tryz.cellsP3 Tryz.bytesP3 (by omega) (fun n hn=>by unfold Rb at hn;omega)
  (fun n cs y hl hy hw=>by
   obtain ⟨a,e,_,_⟩:=DataW.trod_int Tryz.underlying3 hy
   exact ⟨a,e,trivial⟩) hR h
 exact ⟨v,l,h1,h2⟩
theorem nodeP_elem (n:Nat) (cs:List Value) (y:DataW H × List MemPlace) (hl:cs.length=5) (h:DataW.trod enc Tryz.prog w base spare held n 87 cs=some y) (hw:∀ m∈y.1.weights Tryz.prog 87,m≤Rb):∃ a:NodeD,nodeR w cs a∧(a.text.size≤Rb∧∀ k∈a.keys,k.size≤Rb):=by
 obtain ⟨xs,m,_,rfl,_,hxl,hg⟩:=DataW.trod_struct Tryz.underlying87 h
 match cs,hl with
 | [c0,c1,c2,c3,c4],_ =>
  match xs,hxl with
  | [x0,x1,x2,x3,x4],_ =>
   have hww:DataW.weights Tryz.prog 87 (DataW.agg ([x0,x1,x2,x3,x4].map (·.1)))=DataW.weightsEach Tryz.prog [84,9,3,68,85] ([x0,x1,x2,x3,x4].map (·.1)):=by
    simp only [DataW.weights,Tryz.underlying87]
    rfl
   have hw':∀ m∈DataW.weights Tryz.prog 87 (DataW.agg ([x0,x1,x2,x3,x4].map (·.1))),m≤Rb:=hw
   rw [hww] at hw'
   have n3:Tryz.prog.cellsOf 3=1:=by kernel_rfl
   have n9:Tryz.prog.cellsOf 9=1:=by kernel_rfl
   have n55:Tryz.prog.cellsOf 84=1:=by kernel_rfl
   have n40:Tryz.prog.cellsOf 68=1:=by kernel_rfl
   have n56:Tryz.prog.cellsOf 85=1:=by kernel_rfl
   obtain ⟨k,e0,_,_⟩:=DataW.trod_int Tryz.underlying84 (hg 0 _ rfl)
   obtain ⟨s,e1,hs⟩:=str_sz (hg 1 _ rfl) (fun m hm=>hw' m (DataW.weights_mem_each (j:=1) (t:=9) (d:=x1.1) rfl rfl _ hm))
   obtain ⟨a,e2,_,_⟩:=DataW.trod_int Tryz.underlying3 (hg 2 _ rfl)
   obtain ⟨kv,ks,e3,h3,q3⟩:=keysP_open (fun m hm=>hw' m (DataW.weights_mem_each (j:=3) (t:=68) (d:=x3.1) rfl rfl _ hm)) (hg 3 _ rfl)
   obtain ⟨iv,is,e4,h4⟩:=intsP_open (fun m hm=>hw' m (DataW.weights_mem_each (j:=4) (t:=85) (d:=x4.1) rfl rfl _ hm)) (hg 4 _ rfl)
   simp [n3,n9,n55,n40,n56] at e0 e1 e2 e3 e4
   subst e0 e1 e2 e3 e4
   exact ⟨⟨k,s,a,ks,is⟩,⟨_,_,rfl,h3,h4⟩,hs,q3⟩
theorem nodesP_open {fuel:Nat} {cs:List Value} {x:DataW H × List MemPlace} (hR:∀ m∈x.1.weights Tryz.prog 35,m≤Rb) (h:DataW.trod enc Tryz.prog w base spare held fuel 35 cs=some x):∃ (v:Value) (l:List NodeD),cs=[v]∧NodesV w v l∧∀ a∈l,a.text.size≤Rb∧∀ k∈a.keys,k.size≤Rb :=
 open_rowsV 1759218604390 Rb 80 5 nodeR (fun a:NodeD=>a.text.size≤Rb∧∀ k∈a.keys,k.size≤Rb) Tryz.underlying35 Tryz.cellsP87 Tryz.bytesP87 (by omega) (fun n hn=>by unfold Rb at hn;omega) nodeP_elem hR h
theorem funcP_elem (n:Nat) (cs:List Value) (y:DataW H × List MemPlace) (hl:cs.length=3) (h:DataW.trod enc Tryz.prog w base spare held n 89 cs=some y) (hw:∀ m∈y.1.weights Tryz.prog 89,m≤Rb):∃ a:FuncD,funcR w cs a∧(a.name.size≤Rb∧∀ k∈a.params,k.size≤Rb):=by
 obtain ⟨xs,m,_,rfl,_,hxl,hg⟩:=DataW.trod_struct Tryz.underlying89 h
 match cs,hl with
 | [c0,c1,c2],_ =>
  match xs,hxl with
  | [x0,x1,x2],_ =>
   have hww:DataW.weights Tryz.prog 89 (DataW.agg ([x0,x1,x2].map (·.1)))=DataW.weightsEach Tryz.prog [9,68,3] ([x0,x1,x2].map (·.1)):=by
    simp only [DataW.weights,Tryz.underlying89]
    rfl
   have hw':∀ m∈DataW.weights Tryz.prog 89 (DataW.agg ([x0,x1,x2].map (·.1))),m≤Rb:=hw
   rw [hww] at hw'
   have n3:Tryz.prog.cellsOf 3=1:=by kernel_rfl
   have n9:Tryz.prog.cellsOf 9=1:=by kernel_rfl
   have n40:Tryz.prog.cellsOf 68=1:=by kernel_rfl
   obtain ⟨s,e0,hs⟩:=str_sz (hg 0 _ rfl) (fun m hm=>hw' m (DataW.weights_mem_each (j:=0) (t:=9) (d:=x0.1) rfl rfl _ hm))
   obtain ⟨kv,ks,e1,h1,q1⟩:=keysP_open (fun m hm=>hw' m (DataW.weights_mem_each (j:=1) (t:=68) (d:=x1.1) rfl rfl _ hm)) (hg 1 _ rfl)
   obtain ⟨a,e2,_,_⟩:=DataW.trod_int Tryz.underlying3 (hg 2 _ rfl)
   simp [n3,n9,n40] at e0 e1 e2
   subst e0 e1 e2
   exact ⟨⟨s,ks,a⟩,⟨_,rfl,h1⟩,hs,q1⟩
theorem funcsP_open {fuel:Nat} {cs:List Value} {x:DataW H × List MemPlace} (hR:∀ m∈x.1.weights Tryz.prog 36,m≤Rb) (h:DataW.trod enc Tryz.prog w base spare held fuel 36 cs=some x):∃ (v:Value) (l:List FuncD),cs=[v]∧FuncsV w v l∧∀ a∈l,a.name.size≤Rb∧∀ k∈a.params,k.size≤Rb :=
 open_rowsV 2932031007402 Rb 48 3 funcR (fun a:FuncD=>a.name.size≤Rb∧∀ k∈a.params,k.size≤Rb) Tryz.underlying36 Tryz.cellsP89 Tryz.bytesP89 (by omega) (fun n hn=>by unfold Rb at hn;omega) funcP_elem hR h
theorem prog_open {fuel:Nat} {cs:Array Value} {x:DataW H × List MemPlace} (hl:cs.toList.length=2) (hw:∀ m∈x.1.weights Tryz.prog 38,m≤Rb) (h:DataW.trod enc Tryz.prog w base spare held fuel 38 cs.toList=some x):∃ S:ProgS,.agg cs=S.val∧ProgV w S∧TextsOk S.p:=by
 obtain ⟨xs,m,_,rfl,_,hxl,hg⟩:=DataW.trod_struct Tryz.underlying38 h
 obtain ⟨l,hcs⟩:∃ l,cs.toList=l:=⟨_,rfl⟩
 rw [hcs] at hl hg
 match l,hl,hcs,hg with
 | [c0,c1],_,hcs,hg =>
  match xs,hxl with
  | [x0,x1],_ =>
   have hww:DataW.weights Tryz.prog 38 (DataW.agg ([x0,x1].map (·.1)))=DataW.weightsEach Tryz.prog [35,36] ([x0,x1].map (·.1)):=by
    simp only [DataW.weights,Tryz.underlying38]
    rfl
   have hw':∀ m∈DataW.weights Tryz.prog 38 (DataW.agg ([x0,x1].map (·.1))),m≤Rb:=hw
   rw [hww] at hw'
   have n22:Tryz.prog.cellsOf 35=1:=by kernel_rfl
   have n23:Tryz.prog.cellsOf 36=1:=by kernel_rfl
   obtain ⟨v0,L,e0,h0,q0⟩:=nodesP_open (fun m hm=>hw' m (DataW.weights_mem_each (j:=0) (t:=35) (d:=x0.1) rfl rfl _ hm)) (hg 0 _ rfl)
   obtain ⟨v1,F,e1,h1,q1⟩:=funcsP_open (fun m hm=>hw' m (DataW.weights_mem_each (j:=1) (t:=36) (d:=x1.1) rfl rfl _ hm)) (hg 1 _ rfl)
   simp [n22,n23] at e0 e1
   subst e0 e1
   have k0:=h0
   have k1:=h1
   obtain ⟨A,nc,_,rfl,_⟩:=k0
   obtain ⟨B,fc,_,rfl,_⟩:=k1
   refine ⟨⟨A,B,nc,fc,⟨L,F⟩⟩,?_,⟨h0,h1⟩,⟨q0,q1⟩⟩
   unfold ProgS.val
   congr 1
   exact Array.toList_inj.1 hcs
end
theorem Tryz.cellsE58:Tryz.prog.cellsOf 58=2:=by kernel_rfl
theorem Tryz.bytesE58:Tryz.prog.bytesOf 58=32:=by kernel_rfl
section
variable {H:Type} {enc:TypeId × Value→H} {w:World} {base:Nat} {spare:Nat→Bool} {held:Bool}
theorem ans_elem (n:Nat) (cs:List Value) (y:DataW H × List MemPlace) (hl:cs.length=2) (h:DataW.trod enc Tryz.prog w base spare held n 58 cs=some y) (hw:∀ m∈y.1.weights Tryz.prog 58,m≤Rb):∃ a:AnsD,ansR w cs a∧∀ c∈a.value,c.str.size≤Rb∧IntOk c:=by
 obtain ⟨xs,m,_,rfl,_,hxl,hg⟩:=DataW.trod_struct Tryz.underlying58 h
 match cs,hl with
 | [c0,c1],_ =>
  match xs,hxl with
  | [x0,x1],_ =>
   have hww:DataW.weights Tryz.prog 58 (DataW.agg ([x0,x1].map (·.1)))=DataW.weightsEach Tryz.prog [25,22] ([x0,x1].map (·.1)):=by
    simp only [DataW.weights,Tryz.underlying58]
    rfl
   have hw':∀ m∈DataW.weights Tryz.prog 58 (DataW.agg ([x0,x1].map (·.1))),m≤Rb:=hw
   rw [hww] at hw'
   obtain ⟨k,e0,_,_⟩:=DataW.trod_int Tryz.underlying25 (hg 0 _ rfl)
   obtain ⟨v,l,e1,hv,hl⟩:=val_openI (fun m hm=>hw' m (DataW.weights_mem_each (j:=1) (t:=22) (d:=x1.1) rfl rfl _ hm)) (hg 1 _ rfl)
   have n25:Tryz.prog.cellsOf 25=1:=by kernel_rfl
   have n22:Tryz.prog.cellsOf 22=1:=by kernel_rfl
   simp [n25,n22] at e0 e1
   subst e0 e1
   exact ⟨⟨k,l⟩,⟨_,rfl,hv⟩,hl⟩
theorem ans_open {fuel:Nat} {cs:List Value} {x:DataW H × List MemPlace} (hR:∀ m∈x.1.weights Tryz.prog 39,m≤Rb) (h:DataW.trod enc Tryz.prog w base spare held fuel 39 cs=some x):∃ (v:Value) (l:List AnsD),cs=[v]∧AnsV w v l∧∀ a∈l,∀ c∈a.value,c.str.size≤Rb∧IntOk c :=
 open_rowsV 4398046510976 Rb 32 2 ansR (fun a:AnsD=>∀ c∈a.value,c.str.size≤Rb∧IntOk c) Tryz.underlying39 Tryz.cellsE58 Tryz.bytesE58 (by omega) (fun n hn=>by unfold Rb at hn;omega) ans_elem hR h
end
end Go.Proofs.YtekdhlfapejijaaGreatDoor
