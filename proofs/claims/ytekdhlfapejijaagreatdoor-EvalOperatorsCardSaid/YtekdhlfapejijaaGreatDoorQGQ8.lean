/- GQ8 -/
import Derived.Test.YtekdhlfapejijaaGreatDoorQT6
import Derived.StillTailTactics
set_option linter.unusedVariables false
set_option linter.unusedSimpArgs false
namespace Go.Proofs.YtekdhlfapejijaaGreatDoor
open Go.RowKit
set_option maxRecDepth 100000
section
theorem rowsQ_zip:∀ {LS:List Value} {fs:List ReqD},LS.length=fs.length→rowsQ LS fs=(LS.zip fs).flatMap fun x=>rowQ x.1 x.2
 | [],[],_=>rfl
 | _ :: _,_ :: _,h=>by simp only [rowsQ,List.zip_cons_cons,List.flatMap_cons];rw [rowsQ_zip (by simpa using h)]
 | [],_ :: _,h=>by simp at h
 | _ :: _,[],h=>by simp at h
theorem ReqsO.at_ {w:World} {base:Nat}:∀ {LS:List Value} {fs:List ReqD},ReqsO w base LS fs→∀ i (h:i<LS.length) (h':i<fs.length),ValsO w base LS[i] fs[i].args
 | [],[],_,i,h,_=>absurd h (by simp)
 | _ :: _,_ :: _,hp,0,_,_=>hp.1
 | _ :: _,_ :: _,hp,i+1,h,h'=>hp.2.at_ i (by simpa using h) (by simpa using h')
 | [],_ :: _,h,_,_,_=>h.elim
 | _ :: _,[],h,_,_,_=>h.elim
theorem own_le {w:World} {base n size:Nat} {e:TypeId} {A:Option Addr} {k cap:Nat} {xs:List Value} (h:w.ownsRow base e size (.slice A k cap) n xs):n≤cap:=by
 rcases h.2 with ⟨e,hn⟩ | ⟨g,cap',cur,e,_,_,h3,_⟩
 ·omega
 ·injection e with _ _ e;omega
section
variable {w0 w w':World} {gE:Nat} {vv fv qv:Value} {LS:List (Value × Value)} {fs:List FrameD} {avs:List Value}
theorem reqsV_of {base:Nat} {rs:List ReqD} (hp:ReqsO w base avs rs) (hr:w.ownsRow base 60 2 qv rs.length (rowsQ avs rs)) (hs:rs.length≤1000) (hs2:∀ r∈rs,r.args.length≤1000):ReqsV w qv rs:=by
 obtain ⟨A,cap,rfl⟩:=zafZ hr;have hz:=rowsQ_zip hp.len;have hl:=hp.len;have hsl:SlAt w A 2 (fun x=>rowQ x.1 x.2) (avs.zip rs):=SlAt.of_own hr hz (fun _=>rfl) (by omega);refine ⟨A,cap,(avs.zip rs).map (fun x=>rowQ x.1 x.2),rfl,own_le hr,by omega,?_,by simp [hl],fun i h h'=>?_⟩
 ·unfold SlAt at hsl ⊢
  rw [List.map_map];exact hsl
 ·have hi:i<avs.length:=by omega
  have:=hp.at_ i hi h'
  have hm:=hs2 _ (List.getElem_mem h');rw [List.getElem_map,List.getElem_zip];exact ⟨_,rfl,this.vals (by omega)⟩
end
attribute [local go_sem] zacZ
end
section
attribute [local go_sem] zacZ
def nulC:CellD:=⟨1,0,⟨#[]⟩,0⟩
end
section
attribute [local go_sem] zacZ
end
section
attribute [local go_sem] zacZ
end
end Go.Proofs.YtekdhlfapejijaaGreatDoor
