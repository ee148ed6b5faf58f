/- OpenSh -/
import Derived.Test.YthiimbhjpdphpaaGreatDoorPGD6
import Derived.Test.YthiimbhjpdphpaaGreatDoorPOpenW
import Derived.LaidMore
import Derived.Lay
import Derived.SevenTiedAt
import Derived.Stop.Joined
import Derived.Test.YthiimbhjpdphpaaGreatDoorCards
import Derived.Test.YthiimbhjpdphpaaGreatDoorTie
set_option linter.unusedVariables false
set_option linter.unusedSimpArgs false
namespace Go.Proofs.YthiimbhjpdphpaaGreatDoor
set_option maxRecDepth 100000
open Go.Proofs.Tryz
open Go.RowKit Go.ChangeShapes Go.WideShapes Go.Deep
abbrev ShapeD:=ByteArray × Bool × Bool × Bool × Int × Int
def shapeRowV (r:ShapeD):List Value:=[.string r.1,.bool r.2.1,.bool r.2.2.1,.bool r.2.2.2.1,.int .i64 r.2.2.2.2.1,.int .i64 r.2.2.2.2.2]
def shapeDat {H:Type} (r:ShapeD):DataW H:=.agg [.lit (.string r.1.data.toList),.lit (.bool r.2.1),.lit (.bool r.2.2.1),.lit (.bool r.2.2.2.1),.lit (.int .i64 r.2.2.2.2.1),.lit (.int .i64 r.2.2.2.2.2)]
def shapeRows:List ShapeD:=[
 (⟨#[]⟩,false,false,false,0,0),
 (⟨#[110,117,108,108]⟩,false,false,false,0,1),
 (⟨#[98,111,111,108]⟩,true,false,false,0,1),
 (⟨#[105,110,116]⟩,true,false,false,0,1),
 (⟨#[115,116,114]⟩,false,true,false,0,1),
 (⟨#[108,111,97,100]⟩,true,false,false,0,1),
 (⟨#[115,116,111,114,101]⟩,true,false,false,1,0),
 (⟨#[112,111,112]⟩,false,false,false,1,0),
 (⟨#[117,110,97,114,121]⟩,false,true,false,1,1),
 (⟨#[98,105,110,97,114,121]⟩,false,true,false,2,1),
 (⟨#[105,110,100,101,120]⟩,false,false,false,2,1),
 (⟨#[108,105,115,116]⟩,true,false,false,(-1),1),
 (⟨#[109,97,112]⟩,true,false,true,(-1),1),
 (⟨#[106,117,109,112]⟩,true,false,false,0,0),
 (⟨#[102,97,108,115,101]⟩,true,false,false,1,0),
 (⟨#[116,101,115,116]⟩,false,false,false,1,1),
 (⟨#[100,117,112]⟩,false,false,false,1,2),
 (⟨#[99,97,108,108]⟩,true,false,false,(-1),1),
 (⟨#[98,117,105,108,116]⟩,true,true,false,(-1),1),
 (⟨#[104,111,115,116]⟩,true,true,false,(-1),1),
 (⟨#[114,101,116,117,114,110]⟩,false,false,false,1,0)]
theorem zcaY:shapeCells=shapeRows.flatMap shapeRowV:=rfl
theorem shape_rows_dat {H:Type}:(Rows.laid_faas_code_shapes:DataW H)=.agg (shapeRows.map shapeDat):=rfl
theorem shapeDat_inj {H:Type} {r s:ShapeD} (h:(shapeDat r:DataW H)=shapeDat s):r=s:=by
 obtain ⟨⟨⟨a⟩⟩,b,c,d,e,f⟩:=r;obtain ⟨⟨⟨a'⟩⟩,b',c',d',e',f'⟩:=s;simp only [shapeDat,DataW.agg.injEq,List.cons.injEq,DataW.lit.injEq,Lit.string.injEq,Lit.bool.injEq,Lit.int.injEq,true_and,and_true] at h;obtain ⟨rfl,rfl,rfl,rfl,rfl,rfl⟩:=h;rfl
theorem flat_at {α:Type} (sz:Nat) (c:α→List Value) (hc:∀ a,(c a).length=sz) (l:List α) (j:Nat) (u:Value) (h:(l.flatMap c)[j]? = some u):∃ (n k:Nat) (hn:n<l.length),j=n * sz+k∧k<sz∧(c l[n])[k]? = some u:=by
 induction l generalizing j with
 | nil=>simp at h
 | cons x r ih =>
  rw [List.flatMap_cons] at h;by_cases hj:j<sz
  ·rw [List.getElem?_append_left (by rw [hc];exact hj)] at h
   exact ⟨0,j,by simp,by omega,hj,by simpa using h⟩
  ·rw [List.getElem?_append_right (by rw [hc];omega)] at h
   obtain ⟨n,k,hn,e,hk,hu⟩:=ih (j - (c x).length) h;rw [hc] at e;exact ⟨n+1,k,by simp;omega,by rw [Nat.succ_mul];omega,hk,by simpa using hu⟩
section
variable {H:Type} {enc:TypeId × Value→H} {w:World} {base:Nat} {spare:Nat→Bool} {held:Bool}
theorem Tryz.cells144:prog.cellsOf 144=6:=by kernel_rfl
theorem shape_elem (n:Nat) (cs:List Value) (y:DataW H × List MemPlace) (hl:cs.length=6) (h:DataW.trod enc prog w base spare held n 144 cs=some y):∃ r:ShapeD,cs=shapeRowV r∧y.1=shapeDat r:=by
 obtain ⟨xs,m,_,rfl,_,hxl,hg⟩:=DataW.trod_struct underlying144 h
 match cs,hl with
 | [c0,c1,c2,c3,c4,c5],_ =>
  match xs,hxl with
  | [x0,x1,x2,x3,x4,x5],_ =>
   obtain ⟨s,e0,d0,_⟩:=DataW.trod_string underlying9 (hg 0 _ rfl);obtain ⟨a,e1,d1⟩:=DataW.trod_bool underlying4 (hg 1 _ rfl);obtain ⟨b,e2,d2⟩:=DataW.trod_bool underlying4 (hg 2 _ rfl);obtain ⟨c,e3,d3⟩:=DataW.trod_bool underlying4 (hg 3 _ rfl);obtain ⟨p,e4,d4,_⟩:=DataW.trod_int underlying3 (hg 4 _ rfl);obtain ⟨q,e5,d5,_⟩:=DataW.trod_int underlying3 (hg 5 _ rfl);have n3:prog.cellsOf 3=1:=by kernel_rfl
   have n9:prog.cellsOf 9=1:=by kernel_rfl
   have n4:prog.cellsOf 4=1:=by kernel_rfl
   simp [n3,n9,n4] at e0 e1 e2 e3 e4 e5
   subst e0 e1 e2 e3 e4 e5;exact ⟨(s,a,b,c,p,q),rfl,by simp [shapeDat,d0,d1,d2,d3,d4,d5]⟩
theorem shapes_open {fuel:Nat} {cs:List Value} {p:List MemPlace} (h:DataW.trod enc prog w base spare held fuel 145 cs=some (Rows.laid_faas_code_shapes,p)):∀ (i:Nat) (v:Value),shapeCells[i]? = some v→cs[i]? = some v:=by
 obtain ⟨xs,m,_,hx,hl,hxl,hg⟩:=DataW.trod_array underlying145 h;rw [shape_rows_dat] at hx
 have hx1:xs.map (·.1)=shapeRows.map shapeDat:=by
  injection hx with hx _
  injection hx with hx
  exact hx.symm
 have hlen:cs.length=126:=hl.trans (by kernel_rfl);intro i v hv;rw [zcaY] at hv;obtain ⟨n,k,hn,rfl,hk,hu⟩:=flat_at 6 shapeRowV (fun _=>rfl) shapeRows i v hv;have hn':n<21:=hn;have hxn:n<xs.length:=by omega
 have ht:=hg n hn';rw [List.getElem?_eq_getElem hxn,Tryz.cells144] at ht;obtain ⟨r,hr,hd⟩:=shape_elem m _ _ (by simp;omega) ht
 have:shapeRows[n]=r:=by
  have h1:(xs.map (·.1))[n]? = (shapeRows.map (shapeDat (H:=H)))[n]?:=by rw [hx1]
  rw [List.getElem?_map,List.getElem?_map,List.getElem?_eq_getElem hxn,List.getElem?_eq_getElem hn] at h1;simp only [Option.map_some,Option.some.injEq] at h1;exact shapeDat_inj (H:=H) (h1.symm.trans hd)
 subst this;have h2:((cs.drop (n * 6)).take 6)[k]? = some v:=by rw [hr];exact hu
 rw [List.getElem?_take,if_pos hk,List.getElem?_drop] at h2;exact h2
end
end Go.Proofs.YthiimbhjpdphpaaGreatDoor
