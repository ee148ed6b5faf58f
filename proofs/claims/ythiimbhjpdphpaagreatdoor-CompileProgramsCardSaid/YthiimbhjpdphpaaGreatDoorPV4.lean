/- V4 -/
import Derived.Test.YthiimbhjpdphpaaGreatDoorPGR2
import Derived.Test.YthiimbhjpdphpaaGreatDoorPV3
import Derived.Deep.RegionLaw
import Derived.Deep.RegionWith
set_option linter.unusedVariables false
set_option linter.unusedSimpArgs false
namespace Go.Proofs.YthiimbhjpdphpaaGreatDoor
open Go.RowKit
set_option maxRecDepth 100000
open Go.Proofs.Tryz
def InvS (l:List CellD):List OpenD→Prop
 | []=>True
 | o :: r=>(∀ x∈r,good x)∧(good o∨(o.key=true∧o.pairs=true∧1≤o.left))∧∀ x∈o :: r,x.left≤l.length
theorem resume_end {l:List CellD} {st:List OpenD} {s:Sh} (hi:InvS l st) (h:l[s.j]? = none):resume l st s=none:=by
 cases st with
 | nil=>exact resumeV_end h
 | cons o r =>
  show (if o.key then resumeK l o r s else resumeV l (o :: r) s)=none;split
  ·exact resumeK_end (by rcases hi.2.1 with h | h;exact h.2.1;exact h.2.2) h
  ·exact resumeV_end h
theorem resume_bad {l:List CellD} {st:List OpenD} {s:Sh} {c:CellD} (hi:InvS l st) (h:l[s.j]? = some c) (hp:plainB c=false):resume l st s=none:=by
 cases st with
 | nil=>exact resumeV_bad h hp
 | cons o r =>
  show (if o.key then resumeK l o r s else resumeV l (o :: r) s)=none;split
  ·refine resumeK_bad (by rcases hi.2.1 with h | h;exact h.2.1;exact h.2.2) h ?_
   unfold keyOk;rw [hp];rfl
  ·exact resumeV_bad h hp
theorem mode_value {l:List CellD} {st:List OpenD} (hi:InvS l st) (hm:¬ ∃ o r,st=o :: r∧o.key=true):(∀ x∈st,good x)∧(∀ x∈st,x.left≤l.length)∧∀ s,resume l st s=resumeV l st s:=by
 cases st with
 | nil=>exact ⟨by simp,by simp,fun _=>rfl⟩
 | cons o r =>
  have hk:o.key=false:=by
   cases h:o.key with
   | false=>rfl
   | true=>exact absurd ⟨o,r,rfl,h⟩ hm
  refine ⟨fun x hx=>?_,hi.2.2,fun s=>?_⟩
  ·rcases List.mem_cons.1 hx with rfl | hx
   ·rcases hi.2.1 with h | h
    ·exact h
    ·rw [h.1] at hk;cases hk
   ·exact hi.1 x hx
  ·show (if o.key then resumeK l o r s else resumeV l (o :: r) s)=_
   rw [hk];rfl
theorem inv_closed {l:List CellD}:∀ st:List OpenD,(∀ x∈st,good x)→(∀ x∈st,x.left≤l.length)→InvS l (closedF st)
 | [],_,_=>trivial
 | o :: r,h,hl=>by
  unfold closedF;have ho:=h o (by simp);split
  ·exact inv_closed r (fun x hx=>h x (by simp [hx])) (fun x hx=>hl x (by simp [hx]))
  ·rename_i h0
   refine ⟨fun x hx=>h x (by simp [hx]),?_,fun x hx=>?_⟩
   ·cases hp:o.pairs with
    | true=>exact .inr ⟨rfl,rfl,by simp;omega⟩
    | false=>exact .inl ⟨rfl,by simp;omega,fun e=>by cases e⟩
   ·rcases List.mem_cons.1 hx with rfl | hx
    ·have:=hl o (by simp);simp;omega
    ·exact hl x (by simp [hx])
theorem closed_len:∀ st:List OpenD,(closedF st).length≤st.length
 | []=>Nat.le_refl _
 | o :: r=>by
  unfold closedF;split
  ·exact Nat.le_trans (closed_len r) (by simp)
  ·simp
structure LW (w W:World) (g gB:Nat) (c:CellD) (a b:Int) (oo ll:Bool) (sv:Value) (st:List OpenD):Prop where
 hr:Blk W g 209 #[.int .i64 0,.int .i64 0,.bool false,.bool false]
 hi:Blk W (g+1) 209 #[.int .i64 a,.int .i64 b,.bool oo,.bool ll]
 hc:Blk W gB 103 #[.int .i64 c.kind,.int .i64 c.int,.string c.str,.int .i64 c.n]
 hs:StAt W g sv st
 hB:Below g w W
theorem LW.below {w W W':World} {g gB:Nat} {c:CellD} {a b:Int} {oo ll:Bool} {sv:Value} {st:List OpenD} (h:LW w W g gB c a b oo ll sv st) (hb:Below W.heap.size W W'):LW w W' g gB c a b oo ll sv st :=
 ⟨h.hr.below hb,h.hi.below hb,h.hc.below hb,h.hs.below hb,zaaZ hb h.hB (Nat.le_of_lt h.hr.lt)⟩
theorem LW.drew {w W:World} {g gB:Nat} {c:CellD} {a b:Int} {oo ll:Bool} {sv:Value} {st:List OpenD} (h:LW w W g gB c a b oo ll sv st):LW w W.drew g gB c a b oo ll sv st:=h.below (zadZ W)
theorem LW.seti {w W:World} {g gB:Nat} {c:CellD} {a b a' b':Int} {oo ll oo' ll':Bool} {sv:Value} {st:List OpenD} (h:LW w W g gB c a b oo ll sv st) (j:Nat) (u:Value)
  (he:(#[.int .i64 a,.int .i64 b,.bool oo,.bool ll]:Array Value).setIfInBounds j u=#[.int .i64 a',.int .i64 b',.bool oo',.bool ll']):LW w (W.setCell ⟨g+1,j,none⟩ u) g gB c a' b' oo' ll' sv st :=
 have K:=KT.set h.hi j u
 ⟨h.hr.far (p:=⟨g+1,j,none⟩) (by simp) u,by rw [← he];exact h.hi.set_ j u,K.blk (by decide) h.hc,K.own (by decide) h.hs,h.hB.setCell (p:=⟨g+1,j,none⟩) (by simp) u⟩
theorem LW.sets {w W:World} {g gB gS cap:Nat} {c:CellD} {a b:Int} {oo ll:Bool} {o o':OpenD} {r:List OpenD} (h:LW w W g gB c a b oo ll (.slice (some ⟨gS,0,none⟩) (r.length+1) cap) (o :: r)) (j:Nat) (u:Value) (he:o.cells.set j u=o'.cells) :
  LW w (W.setCell ⟨gS,r.length * 5+j,none⟩ u) g gB c a b oo ll (.slice (some ⟨gS,0,none⟩) (r.length+1) cap) (o' :: r):=by
 obtain ⟨s1,g1⟩:=h.hs.set (o':=o') j u he;have h1:some g≠some gS:=zafZ (v:=.slice (some ⟨gS,0,none⟩) (r.length+1) cap) h.hs h.hr (by decide);have h2:some (g+1)≠some gS:=zafZ (v:=.slice (some ⟨gS,0,none⟩) (r.length+1) cap) h.hs h.hi (by decide);have h3:some gB≠some gS:=zafZ (v:=.slice (some ⟨gS,0,none⟩) (r.length+1) cap) h.hs h.hc (by decide);have h4:=World.ownsRow.lt h.hs gS rfl;exact ⟨h.hr.grown g1 h1,h.hi.grown g1 h2,h.hc.grown g1 h3,s1,h.hB.setCell (p:=⟨gS,r.length * 5+j,none⟩) h4.1 u⟩
theorem LW.grown {w W W':World} {g gB:Nat} {c:CellD} {a b:Int} {oo ll:Bool} {sv sv':Value} {st st':List OpenD} (h:LW w W g gB c a b oo ll sv st) (hg:W.grownBy W' sv.ownBlock) (hs:StAt W' g sv' st'):LW w W' g gB c a b oo ll sv' st' :=
 ⟨h.hr.grown hg (zafZ h.hs h.hr (by decide)),h.hi.grown hg (zafZ h.hs h.hi (by decide)),h.hc.grown hg (zafZ h.hs h.hc (by decide)),hs,h.hB.grown hg (Nat.le_of_lt h.hr.lt) (fun j hj=>(World.ownsRow.lt h.hs j hj).1)⟩
theorem Tryz.infoOpen:(prog.info? 235).map (fun i=>(i.zero,i.size,i.bytes))=some (some (.agg #[.bool false,.int .i64 0,.bool false,.string ByteArray.empty,.bool false]),5,48):=by kernel_rfl
theorem LW.facts {w W:World} {g gB:Nat} {c:CellD} {a b:Int} {oo ll:Bool} {sv:Value} {st:List OpenD} (h:LW w W g gB c a b oo ll sv st) :
  (W.cell? ⟨gB,0,none⟩=some (.int .i64 c.kind)∧W.cell? ⟨gB,1,none⟩=some (.int .i64 c.int)∧W.cell? ⟨gB,2,none⟩=some (.string c.str)∧W.cell? ⟨gB,3,none⟩=some (.int .i64 c.n)) ∧
  (W.cell? ⟨g+1,0,none⟩=some (.int .i64 a)∧W.cell? ⟨g+1,1,none⟩=some (.int .i64 b)∧W.cell? ⟨g+1,2,none⟩=some (.bool oo)∧W.cell? ⟨g+1,3,none⟩=some (.bool ll)) ∧
  (W.frozen? ⟨g+1,0,none⟩=false∧W.frozen? ⟨g+1,1,none⟩=false∧W.frozen? ⟨g+1,2,none⟩=false∧W.frozen? ⟨g+1,3,none⟩=false) ∧
  (W.cell? ⟨g,0,none⟩=some (.int .i64 0)∧W.cell? ⟨g,1,none⟩=some (.int .i64 0)∧W.cell? ⟨g,2,none⟩=some (.bool false)∧W.cell? ⟨g,3,none⟩=some (.bool false)) ∧
  (W.frozen? ⟨g,0,none⟩=false∧W.frozen? ⟨g,1,none⟩=false∧W.frozen? ⟨g,2,none⟩=false∧W.frozen? ⟨g,3,none⟩=false) :=
 ⟨blk4 h.hc,blk4 h.hi,⟨h.hi.frozen 0,h.hi.frozen 1,h.hi.frozen 2,h.hi.frozen 3⟩,blk4 h.hr,⟨h.hr.frozen 0,h.hr.frozen 1,h.hr.frozen 2,h.hr.frozen 3⟩⟩
def LookPost (w:World) (F:Option Sh) (l:List CellD) (e:Ending) (w':World):Prop:=Below w.heap.size w w'∧match F with
 | some r=>e=.returned (.tuple #[.int .i64 r.j,.agg #[.int .i64 r.d,.int .i64 r.b,.bool (outs (l.take r.j)),.bool (longs (l.take r.j))],.bool true])
 | none=>∃ a b o t,e=.returned (.tuple #[.int .i64 0,.agg #[.int .i64 a,.int .i64 b,.bool o,.bool t],.bool false])
structure LookAt (w wr:World) (l:List CellD) (F:Option Sh) (k:Nat) (sv:Value) (st:List OpenD) (d:Nat) (b:Int):Prop where
 hr:Blk wr w.heap.size 209 #[.int .i64 0,.int .i64 0,.bool false,.bool false]
 hi:Blk wr (w.heap.size+1) 209 #[.int .i64 d,.int .i64 b,.bool (outs (l.take k)),.bool (longs (l.take k))]
 hs:StAt wr w.heap.size sv st
 hB:Below w.heap.size w wr
 hF:resume l st ⟨k,d,b⟩=F
 hI:InvS l st
 hd:d≤k
 hl:st.length≤k
 hb0:0≤b
 hb1:b≤k * 700000000000000
end Go.Proofs.YthiimbhjpdphpaaGreatDoor
