/- V3 -/
import Derived.Test.YthiimbhjpdphpaaGreatDoorPGN1
import Derived.Test.YthiimbhjpdphpaaGreatDoorPGD6
import Derived.Deep.AppendLies
set_option linter.unusedVariables false
set_option linter.unusedSimpArgs false
namespace Go.Proofs.YthiimbhjpdphpaaGreatDoor
open Go.RowKit
set_option maxRecDepth 100000
open Go.Proofs.Tryz
def OpenD.cells (o:OpenD):List Value:=[.bool o.pairs,.int .i64 o.left,.bool o.key,.string o.last,.bool o.started]
def stCells:List OpenD→List Value
 | []=>[]
 | o :: r=>stCells r ++ o.cells
theorem zamY:∀ st:List OpenD,(stCells st).length=st.length * 5
 | []=>rfl
 | o :: r=>by simp [stCells,zamY r,OpenD.cells];omega
def StAt (w:World) (base:Nat) (v:Value) (st:List OpenD):Prop:=w.ownsRow base 235 5 v st.length (stCells st)
theorem StAt.below {w w':World} {base:Nat} {v:Value} {st:List OpenD} (h:StAt w base v st) (hb:Below w.heap.size w w'):StAt w' base v st:=zagZ h hb
theorem StAt.nil (w:World) (base:Nat):StAt w base (.slice none 0 0) []:=World.ownsRow_nil _ _ _ _
theorem StAt.form {w:World} {base:Nat} {v:Value} {o:OpenD} {r:List OpenD} (h:StAt w base v (o :: r)):∃ g cap,v=.slice (some ⟨g,0,none⟩) (r.length+1) cap∧r.length+1≤cap:=by
 rcases h.2 with ⟨_,h1⟩ | ⟨g,cap,cur,e,_,_,h3,_⟩
 ·cases h1
 ·exact ⟨g,cap,e,h3⟩
theorem StAt.top {w:World} {base g cap:Nat} {o:OpenD} {r:List OpenD} (h:StAt w base (.slice (some ⟨g,0,none⟩) (r.length+1) cap) (o :: r)) :
  w.cell? ⟨g,r.length * 5,none⟩=some (.bool o.pairs)∧w.cell? ⟨g,r.length * 5+1,none⟩=some (.int .i64 o.left)∧w.cell? ⟨g,r.length * 5+2,none⟩=some (.bool o.key)∧w.cell? ⟨g,r.length * 5+3,none⟩=some (.string o.last)∧w.cell? ⟨g,r.length * 5+4,none⟩=some (.bool o.started):=by
 have hc:∀ j,j<5→w.cell? ⟨g,r.length * 5+j,none⟩=o.cells[j]?:=fun j hj=>by
  have:=World.ownsRow.cellAt h (r.length * 5+j) (by omega)
  rw [this];simp only [stCells];rw [List.getElem?_append_right (by rw [zamY];omega),zamY];congr 1
  omega
 exact ⟨hc 0 (by omega),hc 1 (by omega),hc 2 (by omega),hc 3 (by omega),hc 4 (by omega)⟩
theorem StAt.frozen {w:World} {base g n cap:Nat} {st:List OpenD} (h:StAt w base (.slice (some ⟨g,0,none⟩) n cap) st) (hn:n=st.length) (j:Nat):w.frozen? ⟨g,j,none⟩=false:=by
 subst hn;exact World.ownsRow.frozenAt h j
theorem StAt.pop {w:World} {base g n cap:Nat} {o:OpenD} {r:List OpenD} (h:StAt w base (.slice (some ⟨g,0,none⟩) n cap) (o :: r)):StAt w base (.slice (some ⟨g,0,none⟩) r.length cap) r:=by
 obtain ⟨h1,h2⟩:=h;refine ⟨zamY r,?_⟩
 rcases h2 with ⟨e,h0⟩ | ⟨g',cap',cur,e,e1,e2,e3,e4,e5,e6⟩
 ·cases h0
 ·injection e with ea en ec
  subst ec;refine .inr ⟨g',cap,cur,by rw [ea],e1,e2,by simp at e3;omega,e4,e5,?_⟩
  have:cur.toList.take (r.length * 5)=(cur.toList.take ((o :: r).length * 5)).take (r.length * 5):=by
   rw [List.take_take];congr 1;simp only [List.length_cons];omega
  rw [this,e6,stCells,List.take_append_of_le_length (by rw [zamY];omega),List.take_of_length_le (by rw [zamY];omega)]
theorem StAt.set {w:World} {base g cap:Nat} {o o':OpenD} {r:List OpenD} (h:StAt w base (.slice (some ⟨g,0,none⟩) (r.length+1) cap) (o :: r)) (j:Nat) (u:Value) (he:o.cells.set j u=o'.cells) :
  StAt (w.setCell ⟨g,r.length * 5+j,none⟩ u) base (.slice (some ⟨g,0,none⟩) (r.length+1) cap) (o' :: r)∧w.grownBy (w.setCell ⟨g,r.length * 5+j,none⟩ u) (some g):=by
 obtain ⟨h1,h2⟩:=World.ownsRow.stored h (r.length * 5+j) u;refine ⟨?_,h2⟩
 have:(stCells (o :: r)).set (r.length * 5+j) u=stCells (o' :: r):=by
  simp only [stCells];rw [List.set_append_right _ _ (by rw [zamY];omega),zamY,← he];congr 2
  all_goals omega
 unfold StAt;rw [← this];exact h1
theorem grown_refl (w:World) (r:Option Nat):w.grownBy w r:=⟨rfl,rfl,rfl,Nat.le_refl _,fun _ _ _=>rfl⟩
def slN:Value→Nat
 | .slice _ n _=>n
 | _=>0
def ClosedPost (w:World) (base:Nat) (v:Value) (st:List OpenD) (e:Ending) (w':World):Prop:=∃ v',e=.returned v'∧StAt w' base v' (closedF st)∧w.grownBy w' v.ownBlock∧v'.ownBlock=v.ownBlock
attribute [local go_sem] zabZ
set_option maxHeartbeats 2000000 in
theorem closed_any (st:List OpenD) (base:Nat) (v:Value) (w:World) (h:StAt w base v st) (hl:∀ o∈st,1≤o.left∧o.left≤1000000000000) (hn:st.length≤1000000000) :
  Calls prog 221 #[v] w (ClosedPost w base v st):=by
 obtain ⟨P,hP⟩:∃ P,ClosedPost w base v st=P:=⟨_,rfl⟩
 rw [hP];have HP:=hZz hP;have HS:=hZz h;have HL:=hZz hl;obtain ⟨A0,cap0,rfl⟩:=zajZ h;clear hP h hl;go_enter func221,ntmps221
 go_wp2
 go_loopw [0] (fun t0 wr=>∃ (st':List OpenD) (v':Value),t0=v'∧StAt wr base v' st'∧closedF st'=closedF st∧(∀ o∈st',1≤o.left∧o.left≤1000000000000)∧st'.length≤1000000000∧w.grownBy wr (Value.slice A0 st.length cap0).ownBlock∧v'.ownBlock=(Value.slice A0 st.length cap0).ownBlock) (fun t0 _=>slN t0)
 case atStart=>exact ⟨st,_,rfl,HS.out,rfl,HL.out,hn,grown_refl w _,rfl⟩
 case round =>
  obtain ⟨st',v',rfl,hst,hcl,hlf,hsn,hgr,hob⟩:=hrel;have HST:=hZz hst;have HCL:=hZz hcl;have HGR:=hZz hgr;have HOB:=hZz hob;clear HS HL hcl hgr hob;cases st' with
  | nil =>
   obtain ⟨A,cap,rfl⟩:=zajZ hst;clear hst hlf;go_wp2_with (fail)
   rw [← HP.out];exact ⟨_,rfl,by rw [← HCL.out];exact HST.out,HGR.out,HOB.out⟩
  | cons o r =>
   obtain ⟨p,l,ky,la,sd⟩:=o;obtain ⟨h1,h2⟩:=hlf _ (List.mem_cons_self ..);have hlr:∀ o∈r,1≤o.left∧o.left≤1000000000000:=fun x hx=>hlf x (List.mem_cons_of_mem _ hx)
   dsimp only at h1 h2;obtain ⟨m,rfl⟩:∃ m,l=m+1:=⟨l - 1,by omega⟩
   obtain ⟨g,cap,rfl,hcap⟩:=StAt.form hst;have HLR:=hZz hlr;have hr:r.length≤1000000000:=by simp at hsn;omega
   have hri:(r.length:Int)≤1000000000:=by omega
   have hr0:(0:Int)≤(r.length:Int):=by omega
   have hm0:(0:Int)≤(m:Int):=by omega
   have hm1:(m:Int)≤1000000000000:=by omega
   have hcapi:(r.length:Int)+1≤(cap:Int):=by omega
   have c:=StAt.top hst;dsimp only at c;have z1:=StAt.frozen hst rfl (r.length * 5+1);have z2:=StAt.frozen hst rfl (r.length * 5+2);clear hst hlf hlr hsn hn;by_cases h0:m=0
   ·subst h0
    go_wp2_with (fail)
    obtain ⟨s1,g1⟩:=HST.out.set (o':=⟨p,0,ky,la,sd⟩) 1 (.int .i64 0) rfl;refine ⟨⟨r,_,rfl,s1.pop,by rw [← HCL.out];rfl,HLR.out,hr,HGR.out.trans (by rw [← HOB.out];exact g1),HOB.out⟩,by simp [slN]⟩
   ·have hm2:(0:Int)<(m:Int):=by omega
    go_wp2_with (fail)
    obtain ⟨s1,g1⟩:=HST.out.set (o':=⟨p,m,ky,la,sd⟩) 1 (.int .i64 m) rfl;obtain ⟨s2,g2⟩:=s1.set (o':=⟨p,m,p,la,sd⟩) 2 (.bool p) rfl;rw [← HP.out];refine ⟨_,rfl,?_,HGR.out.trans (by rw [← HOB.out];exact g1.trans g2),HOB.out⟩
    rw [← HCL.out];simp only [closedF,Nat.add_sub_cancel];rw [if_neg h0];exact s2
end Go.Proofs.YthiimbhjpdphpaaGreatDoor
