/- Z6 -/
import Derived.Test.YthiimbhjpdphpaaGreatDoorPZ2
import Derived.BigRegion
set_option linter.unusedVariables false
set_option linter.unusedSimpArgs false
namespace Go.Proofs.YthiimbhjpdphpaaGreatDoor
open Go.RowKit
set_option maxRecDepth 100000
open Go.Proofs.Tryz
def biF (op:List UInt8) (a b:CellD):Option CellD :=
 if op=[97,110,100]∨op=[111,114] then
  (if a.kind≠2 then none else if (a.int == 0)=(op == [97,110,100]) then some a else if b.kind=2 then some b else none)
 else if op=[61,61] then some (bCel (decide (a=b)))
 else if op=[33,61] then some (bCel (!decide (a=b)))
 else if a.kind≠b.kind∨(a.kind≠3∧a.kind≠4) then none
 else match orF op (coF a b) with
  | some x=>some x
  | none=>if a.kind=3 then nuF op a.int b.int else if op=[43]∧a.str.size+b.str.size≤200 then some (sCel (a.str ++ b.str)) else none
attribute [local go_sem] zacZ
set_option maxHeartbeats 16000000 in
theorem binary12_s (op:ByteArray) (a b:CellD) (w:World) (ha : -1000000000000≤a.int∧a.int≤1000000000000) (hb : -1000000000000≤b.int∧b.int≤1000000000000) (hs:a.str.size≤1000∧b.str.size≤1000):Calls prog 81 #[.string op,cV a,cV b] w (OptC (biF op.toList a b) w):=by
 obtain ⟨O,hO⟩:∃ O,biF op.toList a b=O:=⟨_,rfl⟩
 rw [hO];obtain ⟨P,hP⟩:∃ P:Ending→World→Prop,OptC O w=P:=⟨_,rfl⟩
 rw [hP];have HP:Hid (∀ c b w',b=O.isSome→(∀ x,O=some x→c=x)→Below w.heap.size w w'→P (.returned (.tuple #[cV c,.bool b])) w'):=hZz (fun c b w' h0 h1 h2=>by rw [← hP,h0];exact ⟨c,rfl,h1,h2⟩);have HTR:Hid (∀ b wx,Calls prog 128 #[.bool b] wx fun e w'=>e=.returned (cV (bCel b))∧Below wx.heap.size wx w'):=hZz zb1Y;have HCO:Hid (∀ wx,Calls prog 130 #[cV a,cV b] wx fun e w'=>e=.returned (.int .i64 (coF a b))∧Below wx.heap.size wx w'):=hZz (fun wx=>compare12_s a b wx);have HOR:Hid (∀ wx,Calls prog 129 #[.string op,.int .i64 (coF a b)] wx (OptC (orF op.toList (coF a b)) wx)):=hZz (fun wx=>order12_s op (coF a b) wx);have HNU:Hid (∀ wx,Calls prog 131 #[.string op,.int .i64 a.int,.int .i64 b.int] wx (OptC (nuF op.toList a.int b.int) wx)):=hZz (fun wx=>number12_s op a.int b.int wx (by simpa [inRange] using ha) (by simpa [inRange] using hb));unfold biF at hO;generalize coF a b=co at HCO HOR hO;obtain ⟨ak,ai,sa,an⟩:=a;obtain ⟨bk,bi,sb,bn⟩:=b;dsimp only at hO HNU ha hb hs;unfold cV at HP HTR HCO ⊢;dsimp only at HCO ⊢;have HO:=hZz hO.symm;clear hP hO;obtain ⟨ga,hga⟩:∃ g,w.heap.size=g:=⟨_,rfl⟩
 obtain ⟨W1,hW1⟩:∃ W,w.alloc (.cells #[.int .i64 ak,.int .i64 ai,.string sa,.int .i64 an] 103)=W:=⟨_,rfl⟩
 have hb1:Below w.heap.size w W1:=by rw [← hW1];exact zabZ _ _
 have hxa1:Blk W1 ga 103 #[.int .i64 ak,.int .i64 ai,.string sa,.int .i64 an]:=by rw [← hW1,← hga];exact Blk.new _ _ _
 have hB1:=hb1;obtain ⟨gb,hgb⟩:∃ g,W1.heap.size=g:=⟨_,rfl⟩
 obtain ⟨W2,hW2⟩:∃ W,W1.alloc (.cells #[.int .i64 bk,.int .i64 bi,.string sb,.int .i64 bn] 103)=W:=⟨_,rfl⟩
 have hb2:Below W1.heap.size W1 W2:=by rw [← hW2];exact zabZ _ _
 have hxb2:Blk W2 gb 103 #[.int .i64 bk,.int .i64 bi,.string sb,.int .i64 bn]:=by rw [← hW2,← hgb];exact Blk.new _ _ _
 have hxa2:=hxa1.below hb2;have hB2:=zaaZ hb2 hB1 hB1.size;obtain ⟨gr,hgr⟩:∃ g,W2.heap.size=g:=⟨_,rfl⟩
 obtain ⟨W3,hW3⟩:∃ W,W2.alloc (.cells #[.int .i64 0,.int .i64 0,.string ⟨#[]⟩,.int .i64 0] 103)=W:=⟨_,rfl⟩
 have hb3:Below W2.heap.size W2 W3:=by rw [← hW3];exact zabZ _ _
 have hxr3:Blk W3 gr 103 #[.int .i64 0,.int .i64 0,.string ⟨#[]⟩,.int .i64 0]:=by rw [← hW3,← hgr];exact Blk.new _ _ _
 have hxa3:=hxa2.below hb3;have hxb3:=hxb2.below hb3;have hB3:=zaaZ hb3 hB2 hB2.size;have HXa:=hZz hxa3;have HXb:=hZz hxb3;have HZ:=hZz hxr3;have HBZ:=hZz hB3;have HGL:Hid (w.heap.size≤gr):=hZz (by rw [← hgr];exact hB2.size);have HLTa:Hid (ga<gr):=hZz (by rw [← hgr];exact hxa2.lt);have HLTb:Hid (gb<gr):=hZz (by rw [← hgr];exact hxb2.lt);have HGa:=hZz hga;have HW1:=hZz hW1;have HGb:Hid (ga+1=gb):=hZz (by rw [← hgb,← hW1,← hga];simp);have HW2:=hZz hW2;have HGr:Hid (gb+1=gr):=hZz (by rw [← hgr,← hW2,← hgb];simp);have HW3:=hZz hW3;clear hga hW1 hb1 hB1 hgb hW2 hb2 hB2 hgr hW3 hb3 hB3 hxa1 hxa2 hxa3 hxb2 hxb3 hxr3;obtain ⟨ba,hba⟩:∃ b,(op.toList == [97,110,100])=b:=⟨_,rfl⟩
 obtain ⟨bo,hbo⟩:∃ b,(op.toList == [111,114])=b:=⟨_,rfl⟩
 obtain ⟨be,hbe⟩:∃ b,(op.toList == [61,61])=b:=⟨_,rfl⟩
 obtain ⟨bd,hbd⟩:∃ b,(op.toList == [33,61])=b:=⟨_,rfl⟩
 obtain ⟨bp,hbp⟩:∃ b,(op.toList == [43])=b:=⟨_,rfl⟩
 have HIA:Hid (op.toList=[97,110,100]↔ba=true):=hZz (by rw [← hba];simp);have HIO:Hid (op.toList=[111,114]↔bo=true):=hZz (by rw [← hbo];simp);have HIE:Hid (op.toList=[61,61]↔be=true):=hZz (by rw [← hbe];simp);have HID:Hid (op.toList=[33,61]↔bd=true):=hZz (by rw [← hbd];simp);have HIP:Hid (op.toList=[43]↔bp=true):=hZz (by rw [← hbp];simp);have xa:=blk4z HXa.out;have xb:=blk4z HXb.out;go_enter func81,ntmps81
 go_upto_region 1 with fail
 rw [HGa.out,HW1.out];rw [HGb.out,HW2.out];rw [HGr.out,HW3.out];clear HGa HW1 HGb HW2 HGr HW3;have HTF:Hid (∀ wx,Calls prog 128 #[.bool false] wx fun e w'=>e=.returned (.agg #[.int .i64 2,.int .i64 0,.string ⟨#[]⟩,.int .i64 0])∧Below wx.heap.size wx w'):=hZz (fun wx=>zb1Y false wx);have HTT:Hid (∀ wx,Calls prog 128 #[.bool true] wx fun e w'=>e=.returned (.agg #[.int .i64 2,.int .i64 1,.string ⟨#[]⟩,.int .i64 0])∧Below wx.heap.size wx w'):=hZz (fun wx=>zb1Y true wx);clear HTR;have hao:(ba || bo)=true∨(ba=false∧bo=false):=by cases ba <;> cases bo <;> simp
 rcases hao with hao | ⟨rfl,rfl⟩
 ·-- and,or
  have HOL:Hid (O=if ak≠2 then none else if (ai == 0)=ba then some ⟨ak,ai,sa,an⟩ else if bk=2 then some ⟨bk,bi,sb,bn⟩ else none):=hZz (by
   rw [HO.out,if_pos (by rw [HIA.out,HIO.out];simpa using hao),hba])
  go_cut [15] from 10 to 15 (fun u wx=>u=.bool true∧wx=W3)
  case first =>
   cases ba with
   | true =>
    go_wp2_with (fail)
    go_meet
    exact ⟨rfl,rfl⟩
   | false =>
    have h2:bo=true:=by simpa using hao
    subst h2;go_wp2_with (fail)
    go_meet
    exact ⟨rfl,rfl⟩
  case rest =>
   obtain ⟨rfl,hwc⟩:=hcut;rw [hwc];clear hwc hao;by_cases hk:ak=2
   case neg =>
    have hk2:(ak != 2)=true:=by simp [hk]
    have HNO:Hid (O=none):=hZz (by rw [HOL.out,if_pos hk]);clear hk;obtain ⟨⟨z0,z1,z2,z3⟩,⟨y0,y1,y2,y3⟩,hf⟩:=set4 HZ.out (.int .i64 0) (.int .i64 0) (.string ⟨#[]⟩) (.int .i64 0);have HF:=hZz hf;have HBF:=hZz (zajZ HBZ.out HBZ.out.size HGL.out (.int .i64 0) (.int .i64 0) (.string ⟨#[]⟩) (.int .i64 0));clear hf;go_wp2_with (fail)
    obtain ⟨q0,q1,q2,q3⟩:=blk4z HF.out;clear z0 z1 z2 z3 y0 y1 y2 y3;refine bodyPost_ret (by simp [results,Tryz.results81,go_sem,q0,q1,q2,q3];rfl) rfl ?_
    exact HP.out noCell _ _ (by rw [HNO.out];rfl) (fun x hx=>by rw [HNO.out] at hx;cases hx) HBF.out
   subst hk;obtain ⟨e0,he0⟩:∃ b,(ai == 0)=b:=⟨_,rfl⟩
   have HOM:Hid (O=if e0=ba then some ⟨2,ai,sa,an⟩ else if bk=2 then some ⟨bk,bi,sb,bn⟩ else none):=hZz (by rw [HOL.out,if_neg (by simp),he0]);obtain ⟨eb,heb⟩:∃ b,(e0 == ba)=b:=⟨_,rfl⟩
   cases eb with
   | true =>
    have HOK:Hid (O=some ⟨2,ai,sa,an⟩):=hZz (by rw [HOM.out,if_pos (by simpa using heb)]);obtain ⟨⟨z0,z1,z2,z3⟩,⟨y0,y1,y2,y3⟩,hf⟩:=set4 HZ.out (.int .i64 2) (.int .i64 ai) (.string sa) (.int .i64 an);have HF:=hZz hf;have HBF:=hZz (zajZ HBZ.out HBZ.out.size HGL.out (.int .i64 2) (.int .i64 ai) (.string sa) (.int .i64 an));clear hf;go_wp2_with (fail)
    obtain ⟨q0,q1,q2,q3⟩:=blk4z HF.out;clear z0 z1 z2 z3 y0 y1 y2 y3;refine bodyPost_ret (by simp [results,Tryz.results81,go_sem,q0,q1,q2,q3];rfl) rfl ?_
    exact HP.out ⟨2,ai,sa,an⟩ _ _ (by rw [HOK.out];rfl) (fun x hx=>by rw [HOK.out] at hx;cases hx;rfl) HBF.out
   | false =>
    obtain ⟨k2,hk2⟩:∃ b,(bk == 2)=b:=⟨_,rfl⟩
    have HOK:Hid (O=if k2=true then some ⟨bk,bi,sb,bn⟩ else none):=hZz (by rw [HOM.out,if_neg (by simpa using heb),← hk2];simp only [beq_iff_eq]);have hne:gb≠gr:=by have:=HLTb.out;omega
    have xc:=blk4z ((((HXb.out.far (p:=⟨gr,0,none⟩) (fun e=>hne (by simpa using e)) (.int .i64 bk)).far (p:=⟨gr,1,none⟩) (fun e=>hne (by simpa using e)) (.int .i64 bi)).far (p:=⟨gr,2,none⟩) (fun e=>hne (by simpa using e)) (.string sb)).far (p:=⟨gr,3,none⟩) (fun e=>hne (by simpa using e)) (.int .i64 bn));clear hne;obtain ⟨⟨z0,z1,z2,z3⟩,⟨y0,y1,y2,y3⟩,hf⟩:=set4 HZ.out (.int .i64 bk) (.int .i64 bi) (.string sb) (.int .i64 bn);have HF:=hZz hf;have HBF:=hZz (zajZ HBZ.out HBZ.out.size HGL.out (.int .i64 bk) (.int .i64 bi) (.string sb) (.int .i64 bn));clear hf;go_upto_region 6 with (fail)
    go_region
    all_goals
     try go_wp2_with (fail)
     obtain ⟨q0,q1,q2,q3⟩:=blk4z HF.out;clear z0 z1 z2 z3 y0 y1 y2 y3;refine bodyPost_ret (by simp [results,Tryz.results81,go_sem,q0,q1,q2,q3];rfl) rfl ?_
     exact HP.out ⟨bk,bi,sb,bn⟩ _ _ (by rw [HOK.out];cases k2 <;> rfl) (fun x hx=>by rw [HOK.out] at hx;cases k2 <;> cases hx;rfl) HBF.out.drew
 cases be with
 | true =>
  have HEQ:Hid (O=some (bCel (decide (ak=bk∧ai=bi∧sa.toList=sb.toList∧an=bn)))):=hZz (by
   rw [HO.out,if_neg (by rw [HIA.out,HIO.out];simp),if_pos (by rw [HIE.out])];congr 3
   skip
   apply propext
   simp only [CellD.mk.injEq];constructor
   ·rintro ⟨h1,h2,h3,h4⟩;exact ⟨h1,h2,by rw [h3],h4⟩
   ·rintro ⟨h1,h2,h3,h4⟩;exact ⟨h1,h2,of_decide_eq_true (by rw [← za2Y,h3];simp),h4⟩)
  clear HIA HIO HIE HID HIP
  go_wp2_with (first
   | (go_at_call 128;(with_reducible refine (HTF.out _).mono ?_);rintro e w3 ⟨rfl,hb3⟩;have HB3:=hZz (zaaZ hb3 HBZ.out HBZ.out.size);have HZ3:=hZz (HZ.out.below hb3);clear hb3;obtain ⟨⟨z0,z1,z2,z3⟩,⟨y0,y1,y2,y3⟩,hf⟩:=set4 HZ3.out (.int .i64 2) (.int .i64 0) (.string ⟨#[]⟩) (.int .i64 0);have HF:=hZz hf;have HBF:=hZz (zajZ HB3.out HB3.out.size HGL.out (.int .i64 2) (.int .i64 0) (.string ⟨#[]⟩) (.int .i64 0));clear hf)
   | (go_at_call 128;(with_reducible refine (HTT.out _).mono ?_);rintro e w3 ⟨rfl,hb3⟩;have HB3:=hZz (zaaZ hb3 HBZ.out HBZ.out.size);have HZ3:=hZz (HZ.out.below hb3);clear hb3;obtain ⟨⟨z0,z1,z2,z3⟩,⟨y0,y1,y2,y3⟩,hf⟩:=set4 HZ3.out (.int .i64 2) (.int .i64 1) (.string ⟨#[]⟩) (.int .i64 0);have HF:=hZz hf;have HBF:=hZz (zajZ HB3.out HB3.out.size HGL.out (.int .i64 2) (.int .i64 1) (.string ⟨#[]⟩) (.int .i64 0));clear hf)
   )
  all_goals
   obtain ⟨q0,q1,q2,q3⟩:=blk4z HF.out;clear z0 z1 z2 z3 y0 y1 y2 y3;refine bodyPost_ret (by simp [results,Tryz.results81,go_sem,q0,q1,q2,q3];rfl) rfl ?_
   first
    | (have hN:¬ (ak=bk∧ai=bi∧sa.toList=sb.toList∧an=bn):=by
        rintro ⟨e1,e2,e3,e4⟩
        first | exact absurd e1 (by assumption) | exact absurd e2 (by assumption) | exact absurd e3 (by assumption) | exact absurd e4 (by assumption)
       exact HP.out ⟨2,0,⟨#[]⟩,0⟩ _ _ (by rw [HEQ.out,decide_eq_false hN];rfl) (fun x hx=>by rw [HEQ.out,decide_eq_false hN] at hx;cases hx;rfl) HBF.out)
    | (have hY:ak=bk∧ai=bi∧sa.toList=sb.toList∧an=bn:=⟨by assumption,by assumption,by assumption,by assumption⟩
       exact HP.out ⟨2,1,⟨#[]⟩,0⟩ _ _ (by rw [HEQ.out,decide_eq_true hY];rfl) (fun x hx=>by rw [HEQ.out,decide_eq_true hY] at hx;cases hx;rfl) HBF.out)
 | false =>
 cases bd with
 | true =>
  have HEQ:Hid (O=some (bCel (!decide (ak=bk∧ai=bi∧sa.toList=sb.toList∧an=bn)))):=hZz (by
   rw [HO.out,if_neg (by rw [HIA.out,HIO.out];simp),if_neg (by rw [HIE.out];simp),if_pos (by rw [HID.out])];congr 3
   congr 1
   apply propext
   simp only [CellD.mk.injEq];constructor
   ·rintro ⟨h1,h2,h3,h4⟩;exact ⟨h1,h2,by rw [h3],h4⟩
   ·rintro ⟨h1,h2,h3,h4⟩;exact ⟨h1,h2,of_decide_eq_true (by rw [← za2Y,h3];simp),h4⟩)
  clear HIA HIO HIE HID HIP
  go_wp2_with (first
   | (go_at_call 128;(with_reducible refine (HTF.out _).mono ?_);rintro e w3 ⟨rfl,hb3⟩;have HB3:=hZz (zaaZ hb3 HBZ.out HBZ.out.size);have HZ3:=hZz (HZ.out.below hb3);clear hb3;obtain ⟨⟨z0,z1,z2,z3⟩,⟨y0,y1,y2,y3⟩,hf⟩:=set4 HZ3.out (.int .i64 2) (.int .i64 0) (.string ⟨#[]⟩) (.int .i64 0);have HF:=hZz hf;have HBF:=hZz (zajZ HB3.out HB3.out.size HGL.out (.int .i64 2) (.int .i64 0) (.string ⟨#[]⟩) (.int .i64 0));clear hf)
   | (go_at_call 128;(with_reducible refine (HTT.out _).mono ?_);rintro e w3 ⟨rfl,hb3⟩;have HB3:=hZz (zaaZ hb3 HBZ.out HBZ.out.size);have HZ3:=hZz (HZ.out.below hb3);clear hb3;obtain ⟨⟨z0,z1,z2,z3⟩,⟨y0,y1,y2,y3⟩,hf⟩:=set4 HZ3.out (.int .i64 2) (.int .i64 1) (.string ⟨#[]⟩) (.int .i64 0);have HF:=hZz hf;have HBF:=hZz (zajZ HB3.out HB3.out.size HGL.out (.int .i64 2) (.int .i64 1) (.string ⟨#[]⟩) (.int .i64 0));clear hf)
   )
  all_goals
   obtain ⟨q0,q1,q2,q3⟩:=blk4z HF.out;clear z0 z1 z2 z3 y0 y1 y2 y3;refine bodyPost_ret (by simp [results,Tryz.results81,go_sem,q0,q1,q2,q3];rfl) rfl ?_
   first
    | (have hN:¬ (ak=bk∧ai=bi∧sa.toList=sb.toList∧an=bn):=by
        rintro ⟨e1,e2,e3,e4⟩
        first | exact absurd e1 (by assumption) | exact absurd e2 (by assumption) | exact absurd e3 (by assumption) | exact absurd e4 (by assumption)
       exact HP.out ⟨2,1,⟨#[]⟩,0⟩ _ _ (by rw [HEQ.out,decide_eq_false hN];rfl) (fun x hx=>by rw [HEQ.out,decide_eq_false hN] at hx;cases hx;rfl) HBF.out)
    | (have hY:ak=bk∧ai=bi∧sa.toList=sb.toList∧an=bn:=⟨by assumption,by assumption,by assumption,by assumption⟩
       exact HP.out ⟨2,0,⟨#[]⟩,0⟩ _ _ (by rw [HEQ.out,decide_eq_true hY];rfl) (fun x hx=>by rw [HEQ.out,decide_eq_true hY] at hx;cases hx;rfl) HBF.out)
 | false =>
 have HOD:Hid (O=if ak≠bk∨(ak≠3∧ak≠4) then none else match orF op.toList co with
   | some x=>some x
   | none=>if ak=3 then nuF op.toList ai bi else if bp=true∧sa.size+sb.size≤200 then some (sCel (sa ++ sb)) else none):=hZz (by
  rw [HO.out,if_neg (by rw [HIA.out,HIO.out];simp),if_neg (by rw [HIE.out];simp),if_neg (by rw [HID.out];simp)];simp only [HIP.out]
  try rfl)
 clear HIA HIO HIE HID HIP HTF HTT;by_cases hbad:ak≠bk∨(ak≠3∧ak≠4)
 ·have HNO:Hid (O=none):=hZz (by rw [HOD.out,if_pos hbad])
  clear HOD;obtain ⟨⟨z0,z1,z2,z3⟩,⟨y0,y1,y2,y3⟩,hf⟩:=set4 HZ.out (.int .i64 0) (.int .i64 0) (.string ⟨#[]⟩) (.int .i64 0);have HF:=hZz hf;have HBF:=hZz (zajZ HBZ.out HBZ.out.size HGL.out (.int .i64 0) (.int .i64 0) (.string ⟨#[]⟩) (.int .i64 0));clear hf;by_cases h1:ak=bk
  ·have h2:ak≠3∧ak≠4:=by
    rcases hbad with h | h
    ·exact absurd h1 h
    ·exact h
   have e1:(ak != bk)=false:=by simp [h1]
   have e2:(ak != 3)=true:=by simp [h2.1]
   have e3:(ak != 4)=true:=by simp [h2.2]
   clear hbad h1 h2;go_wp2_with (fail)
   obtain ⟨q0,q1,q2,q3⟩:=blk4z HF.out;clear z0 z1 z2 z3 y0 y1 y2 y3;refine bodyPost_ret (by simp [results,Tryz.results81,go_sem,q0,q1,q2,q3];rfl) rfl ?_
   exact HP.out noCell _ _ (by rw [HNO.out];rfl) (fun x hx=>by rw [HNO.out] at hx;cases hx) HBF.out
  ·have e1:(ak != bk)=true:=by simp [h1]
   clear hbad h1;go_wp2_with (fail)
   obtain ⟨q0,q1,q2,q3⟩:=blk4z HF.out;clear z0 z1 z2 z3 y0 y1 y2 y3;refine bodyPost_ret (by simp [results,Tryz.results81,go_sem,q0,q1,q2,q3];rfl) rfl ?_
   exact HP.out noCell _ _ (by rw [HNO.out];rfl) (fun x hx=>by rw [HNO.out] at hx;cases hx) HBF.out
 have HOE:Hid (O=match orF op.toList co with
   | some x=>some x
   | none=>if ak=3 then nuF op.toList ai bi else if bp=true∧sa.size+sb.size≤200 then some (sCel (sa ++ sb)) else none):=hZz (by rw [HOD.out,if_neg hbad])
 obtain ⟨h1,h34⟩:ak=bk∧(ak=3∨ak=4):=by omega
 subst h1;clear hbad HOD;have e1:(ak != ak)=false:=by simp
 obtain ⟨RO,hRO⟩:∃ t,orF op.toList co=t:=⟨_,rfl⟩
 rw [hRO] at HOR HOE;go_upto_region 11 with (fail)
 go_cut [57] from 43 to 57 (fun u wx=>u=.bool false∧wx=W3)
 case first =>
  rcases h34 with rfl | rfl
  ·go_wp2_with (fail)
   go_meet
   exact ⟨rfl,rfl⟩
  ·go_wp2_with (fail)
   go_meet
   exact ⟨rfl,rfl⟩
 case rest =>
  obtain ⟨rfl,hwc⟩:=hcut;rw [hwc];clear hwc
  go_upto_region 14 with (first
   | (go_at_call 130;(with_reducible refine (HCO.out _).mono ?_);rintro e w4 ⟨rfl,hb4⟩;have HB4:=hZz (zaaZ hb4 HBZ.out HBZ.out.size);have HZ4:=hZz (HZ.out.below hb4);have HA4:=hZz (HXa.out.below hb4);have HC4:=hZz (HXb.out.below hb4);clear hb4)
   | (go_at_call 129;(with_reducible refine (HOR.out _).mono ?_);rintro e w5 ⟨c5,he5,hx5,hb5⟩;unfold cV at he5;subst he5;have HB5:=hZz (zaaZ hb5 HB4.out HB4.out.size);have HZ5:=hZz (HZ4.out.below hb5);have HA5:=hZz (HA4.out.below hb5);have HC5:=hZz (HC4.out.below hb5);have HXX:=hZz hx5;clear hb5 hx5))
  obtain ⟨ck,ci,cs,cn⟩:=c5;obtain ⟨gy,hgy⟩:∃ g,w5.heap.size=g:=⟨_,rfl⟩
  obtain ⟨W6,hW6⟩:∃ W,w5.alloc (.cells #[.int .i64 ck,.int .i64 ci,.string cs,.int .i64 cn] 103)=W:=⟨_,rfl⟩
  have hb6:Below w5.heap.size w5 W6:=by rw [← hW6];exact zabZ _ _
  have HY6:Hid (Blk W6 gy 103 #[.int .i64 ck,.int .i64 ci,.string cs,.int .i64 cn]):=hZz (by rw [← hW6,← hgy];exact Blk.new _ _ _);have HB6:=hZz (zaaZ hb6 HB5.out HB5.out.size);have HZ6:=hZz (HZ5.out.below hb6);have HA6:=hZz (HA5.out.below hb6);have HC6:=hZz (HC5.out.below hb6);dsimp only;rw [hgy,hW6];clear hgy hW6 hb6 xa xb;have xa:=blk4z HA6.out;have xb:=blk4z HC6.out;have xy:=blk4z HY6.out;cases RO with
  | some x =>
   have HOK:Hid (O=some ⟨ck,ci,cs,cn⟩):=hZz (by rw [HOE.out,HXX.out x rfl]);obtain ⟨⟨z0,z1,z2,z3⟩,⟨y0,y1,y2,y3⟩,hf⟩:=set4 HZ6.out (.int .i64 ck) (.int .i64 ci) (.string cs) (.int .i64 cn);have HF:=hZz hf;have HBF:=hZz (zajZ HB6.out HB6.out.size HGL.out (.int .i64 ck) (.int .i64 ci) (.string cs) (.int .i64 cn));clear hf;go_wp2_with (fail)
   obtain ⟨q0,q1,q2,q3⟩:=blk4z HF.out;clear z0 z1 z2 z3 y0 y1 y2 y3;refine bodyPost_ret (by simp [results,Tryz.results81,go_sem,q0,q1,q2,q3];rfl) rfl ?_
   exact HP.out ⟨ck,ci,cs,cn⟩ _ _ (by rw [HOK.out];rfl) (fun x hx=>by rw [HOK.out] at hx;cases hx;rfl) HBF.out
  | none =>
   rcases h34 with rfl | rfl
   ·have HOK:Hid (O=nuF op.toList ai bi):=hZz (by rw [HOE.out];rfl)
    go_wp2_with (first
     | (go_at_call 131;(with_reducible refine (HNU.out _).mono ?_);rintro e w7 ⟨c7,he7,hx7,hb7⟩;unfold cV at he7;subst he7;obtain ⟨dk,di,ds,dn⟩:=c7;have HB7:=hZz (zaaZ hb7 HB6.out HB6.out.size);have HZ7:=hZz (HZ6.out.below hb7);have HX7:=hZz hx7;clear hb7 hx7;obtain ⟨⟨z0,z1,z2,z3⟩,⟨y0,y1,y2,y3⟩,hf⟩:=set4 HZ7.out (.int .i64 dk) (.int .i64 di) (.string ds) (.int .i64 dn);have HF:=hZz hf;have HBF:=hZz (zajZ HB7.out HB7.out.size HGL.out (.int .i64 dk) (.int .i64 di) (.string ds) (.int .i64 dn));clear hf))
    obtain ⟨q0,q1,q2,q3⟩:=blk4z HF.out;clear z0 z1 z2 z3 y0 y1 y2 y3;refine bodyPost_ret (by simp [results,Tryz.results81,go_sem,q0,q1,q2,q3];rfl) rfl ?_
    exact HP.out ⟨dk,di,ds,dn⟩ _ _ (by rw [HOK.out]) (fun x hx=>HX7.out x (by rw [← HOK.out];exact hx)) HBF.out
   ·have HOK:Hid (O=if bp=true∧sa.size+sb.size≤200 then some (sCel (sa ++ sb)) else none):=hZz (by rw [HOE.out];rfl)
    have hnA:ga≠gr:=by have:=HLTa.out;omega
    have hnB:gb≠gr:=by have:=HLTb.out;omega
    have xca:=blk4z ((((HA6.out.far (p:=⟨gr,0,none⟩) (fun e=>hnA (by simpa using e)) (.int .i64 4)).far (p:=⟨gr,1,none⟩) (fun e=>hnA (by simpa using e)) (.int .i64 0)).far (p:=⟨gr,2,none⟩) (fun e=>hnA (by simpa using e)) (.string (sa ++ sb))).far (p:=⟨gr,3,none⟩) (fun e=>hnA (by simpa using e)) (.int .i64 0));have xcb:=blk4z ((((HC6.out.far (p:=⟨gr,0,none⟩) (fun e=>hnB (by simpa using e)) (.int .i64 4)).far (p:=⟨gr,1,none⟩) (fun e=>hnB (by simpa using e)) (.int .i64 0)).far (p:=⟨gr,2,none⟩) (fun e=>hnB (by simpa using e)) (.string (sa ++ sb))).far (p:=⟨gr,3,none⟩) (fun e=>hnB (by simpa using e)) (.int .i64 0));obtain ⟨⟨z0,z1,z2,z3⟩,⟨y0,y1,y2,y3⟩,hf⟩:=set4 HZ6.out (.int .i64 4) (.int .i64 0) (.string (sa ++ sb)) (.int .i64 0);have HF:=hZz hf;have HBF:=hZz (zajZ HB6.out HB6.out.size HGL.out (.int .i64 4) (.int .i64 0) (.string (sa ++ sb)) (.int .i64 0));clear hf;have hwl:IntKind.i64.wrap ((sa.size:Int)+(sb.size:Int))=(sa.size:Int)+(sb.size:Int):=IntWalk.i64_in _ (by omega);clear hnA hnB xy;go_upto_region 18 with (fail)
    cases bp with
    | false =>
     have HNO:Hid (O=none):=hZz (by rw [HOK.out,if_neg (by simp)]);go_region
     all_goals
      try go_wp2_with (fail)
      obtain ⟨q0,q1,q2,q3⟩:=blk4z HF.out;clear z0 z1 z2 z3 y0 y1 y2 y3;refine bodyPost_ret (by simp [results,Tryz.results81,go_sem,q0,q1,q2,q3];rfl) rfl ?_
      exact HP.out ⟨4,0,sa ++ sb,0⟩ _ _ (by rw [HNO.out];rfl) (fun x hx=>by rw [HNO.out] at hx;cases hx) HBF.out.drew
    | true =>
     by_cases hle:(sa.size:Int)+(sb.size:Int)≤200
     ·have HOS:Hid (O=some (sCel (sa ++ sb))):=hZz (by rw [HOK.out,if_pos ⟨rfl,by omega⟩])
      go_region
      all_goals
       try go_wp2_with (fail)
       obtain ⟨q0,q1,q2,q3⟩:=blk4z HF.out;clear z0 z1 z2 z3 y0 y1 y2 y3;refine bodyPost_ret (by simp [results,Tryz.results81,go_sem,q0,q1,q2,q3];rfl) rfl ?_
       exact HP.out (sCel (sa ++ sb)) _ _ (by rw [HOS.out];rfl) (fun x hx=>by rw [HOS.out] at hx;cases hx;rfl) HBF.out.drew
     ·have HNO:Hid (O=none):=hZz (by rw [HOK.out,if_neg (by rintro ⟨_,h⟩;omega)])
      go_region
      all_goals
       try go_wp2_with (fail)
       obtain ⟨q0,q1,q2,q3⟩:=blk4z HF.out;clear z0 z1 z2 z3 y0 y1 y2 y3;refine bodyPost_ret (by simp [results,Tryz.results81,go_sem,q0,q1,q2,q3];rfl) rfl ?_
       exact HP.out ⟨4,0,sa ++ sb,0⟩ _ _ (by rw [HNO.out];rfl) (fun x hx=>by rw [HNO.out] at hx;cases hx) HBF.out.drew
end Go.Proofs.YthiimbhjpdphpaaGreatDoor
