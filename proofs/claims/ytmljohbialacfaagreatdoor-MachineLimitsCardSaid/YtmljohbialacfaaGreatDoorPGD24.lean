/- GD24 -/
import Derived.Test.YtmljohbialacfaaGreatDoorPGD16
import Derived.Test.YtmljohbialacfaaGreatDoorPGC15
import Derived.BigRegion
set_option linter.unusedVariables false
set_option linter.unusedSimpArgs false
namespace Go.Proofs.YtmljohbialacfaaGreatDoor
section
open Go.RowKit
set_option maxRecDepth 100000
theorem OMach.base {w:World} {base base':Nat} {v:Value} {m:MachD} (h:OMach w base v m) (hb:base'≤base):OMach w base' v m:=by
 obtain ⟨vv,fv,qv,ps,e,hvv,⟨f1,f2,f3,f4⟩,vs,q1,q2,q3⟩:=h
 exact ⟨vv,fv,qv,ps,e,hvv.base hb,⟨f1,own_base f2 hb,f3,fun i a b=>⟨(f4 i a b).1.base hb,(f4 i a b).2.base hb⟩⟩,vs,q1,own_base q2 hb,fun i a b=>(q3 i a b).base hb⟩
theorem OMach.kt {w w':World} {base:Nat} {v:Value} {m:MachD} (h:OMach w base v m) (K:KT 37 w w'):OMach w' base v m:=by
 obtain ⟨vv,fv,qv,ps,e,hvv,hfv,hqv⟩:=h
 exact ⟨vv,fv,qv,ps,e,K.oval (by decide) hvv,K.oframes (by decide) (by decide) (by decide) hfv,K.oreqs (by decide) (by decide) (by decide) hqv⟩
theorem OMach.shape {w:World} {base:Nat} {v:Value} {m:MachD} (h:OMach w base v m):∃ A1 n1 k1 A2 n2 k2 A3 n3 k3,v=.agg #[.int .i64 m.status,.int .i64 m.err,.slice A1 n1 k1,.slice A2 n2 k2,.slice A3 n3 k3,.int .i64 m.lsteps,.int .i64 m.lmem,.int .i64 m.steps,.int .i64 m.peak]:=by
 obtain ⟨vv,fv,qv,ps,rfl,hvv,hfv,vs,_,hqv,_⟩:=h
 obtain ⟨A1,k1,rfl⟩:=own_shape hvv
 obtain ⟨A2,k2,rfl⟩:=own_shape hfv.2.1
 obtain ⟨A3,k3,rfl⟩:=own_shape hqv
 exact ⟨_,_,_,_,_,_,_,_,_,rfl⟩
/-- The facts of the two boxes, as the region reads them. -/
theorem blkCM {w:World} {g h:Nat} {u0 u1 v0 v1 v2 v3 v4 v5 v6 v7 v8:Value} (h1:Blk w g 25 #[u0,u1]) (h2:Blk w h 37 #[v0,v1,v2,v3,v4,v5,v6,v7,v8]) :
  w.cell? ⟨g,0,none⟩=some u0∧w.cell? ⟨g,1,none⟩=some u1∧w.cell? ⟨h,0,none⟩=some v0∧w.cell? ⟨h,1,none⟩=some v1∧w.cell? ⟨h,2,none⟩=some v2∧w.cell? ⟨h,3,none⟩=some v3∧w.cell? ⟨h,4,none⟩=some v4∧w.cell? ⟨h,5,none⟩=some v5∧w.cell? ⟨h,6,none⟩=some v6∧w.cell? ⟨h,7,none⟩=some v7∧w.cell? ⟨h,8,none⟩=some v8 :=
 ⟨h1.cell 0 _ rfl,h1.cell 1 _ rfl,h2.cell 0 _ rfl,h2.cell 1 _ rfl,h2.cell 2 _ rfl,h2.cell 3 _ rfl,h2.cell 4 _ rfl,h2.cell 5 _ rfl,h2.cell 6 _ rfl,h2.cell 7 _ rfl,h2.cell 8 _ rfl⟩
end
section
open Go.RowKit
set_option maxRecDepth 100000
attribute [local go_sem] cell_alloc_is
end
end Go.Proofs.YtmljohbialacfaaGreatDoor
