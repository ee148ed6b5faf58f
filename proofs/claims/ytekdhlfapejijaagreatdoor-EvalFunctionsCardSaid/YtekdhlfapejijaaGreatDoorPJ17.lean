/- H13, H14, H15, H16, H17, H18, J17 -/
import Derived.Test.YtekdhlfapejijaaGreatDoorPH12
set_option linter.unusedVariables false
set_option linter.unusedSimpArgs false
namespace Go.Proofs.YtekdhlfapejijaaGreatDoor
open Go.RowKit
set_option maxRecDepth 100000
set_option maxHeartbeats 8000000
open Go.Proofs.Tryz
section
theorem RowG.at0 {w0 w:World} {base:Nat} {v:Value} {l:List ValD} (h:RowG w0 base w v l) (hl:0<l.length):∃ g cap,v=.slice (some ⟨g,0,none⟩) l.length cap∧l.length≤cap∧∀ j (hj:j<l.length),∃ A n c,w.cell? ⟨g,j,none⟩=some (.slice A n c)∧ValG w0 w (.slice A n c) l[j]:=by
 obtain ⟨us,ho,hul,huv⟩:=h;obtain ⟨g,cap,rfl,hx,hy⟩:=ho.form hl;refine ⟨g,cap,rfl,own_le ho,fun j hj=>?_⟩
 have hv:=huv j (by omega) hj;obtain ⟨A,n,c,e⟩:=hv.shape
 have:=ho.cells (g:=g) rfl j us[j] (List.getElem?_eq_getElem (by omega))
 rw [zanY,Nat.zero_add] at this;exact ⟨A,n,c,by rw [this,e],by rw [← e];exact hv⟩
theorem outc_node {w0 w w3 w4:World} {K:EvK} {C:EvC} {gv:Nat} {F:List Nat} {c:Nat} {s:EvS} {r:ResD} {A:Option Addr} {n cap:Nat} {sv:Value} (h:EvX w0 K C gv F c w s) (hv:ValG w0 w4 (.slice A n cap) (outF r).1) (hs:SigV w0 w4 sv (outF r).2) (hb:Below w.heap.size w w4):NodeP w0 K C gv F c w (outF r,s) (.returned (.tuple #[.slice A n cap,sv])) w4 :=
 ⟨_,_,rfl,hv,hs,h.below hb,KX.of_below hb⟩
attribute [local go_sem] zacZ
end
section
attribute [local go_sem] zacZ
theorem apply_bin {w0:World} {K:EvK} {C:EvC} (hH:EvH w0 K C) {gv:Nat} {F:List Nat} {c k L base:Nat} {n:NodeD} {kA iA:Option Addr} {kc ic:Nat} {l:List ValD} {av:Value} {s:EvS} {w:World} (h:EvX w0 K C gv F c w s) (ha:RowG w0 base w av l) (hl:l.length=2) (hk:n.kind=9) :
  Calls prog 169 #[.pointer (some ⟨K.gx,0,none⟩),.int .i64 k,.agg (nodeC n kA kc iA ic),av,.slice (some ⟨gv,0,none⟩) L L] w (NodeP w0 K C gv F c w (outF (binaryR n.text (l.getD 0 []) (l.getD 1 [])),s)):=by
 obtain ⟨P,hP⟩:∃ P:Ending→World→Prop,NodeP w0 K C gv F c w (outF (binaryR n.text (l.getD 0 []) (l.getD 1 [])),s)=P:=⟨_,rfl⟩
 rw [hP];have HP:=hZz hP;have HE:=hZz h;obtain ⟨g,cap,rfl,hcap,hat⟩:=ha.at0 (by omega);obtain ⟨A0,n0,k0,c0,hv0⟩:=hat 0 (by omega);obtain ⟨A1,n1,k1,c1,hv1⟩:=hat 1 (by omega);have e0:l.getD 0 []=l[0]:=zafY (show 0<l.length by omega) [];have e1:l.getD 1 []=l[1]:=zafY (show 1<l.length by omega) [];rw [e0,e1] at HP;have HV:Hid (∀ wx,Below w.heap.size w wx→Calls prog 13 #[.string n.text,.slice A0 n0 k0,.slice A1 n1 k1] wx (RetR wx [] (binaryR n.text l[0] l[1]))):=hZz (fun wx hb=>zccY _ _ _ _ _ wx ((hv0.val h.bel).below hb) ((hv1.val h.bel).below hb) ((hH.pow.below h.bel).below hb) ((hH.maxl.below h.bel).below hb) hv0.k.ok hv1.k.ok);have HO:Hid (∀ u wx,ValT wx u (binaryR n.text l[0] l[1]).1→Calls prog 164 #[u,.int .i64 (binaryR n.text l[0] l[1]).2] wx (OutcP w0 wx (binaryR n.text l[0] l[1]))):=hZz (fun u wx hu=>outcome_h w0 _ u wx hu (binaryR_ok _ _ _));obtain ⟨r,hr⟩:∃ r,binaryR n.text l[0] l[1]=r:=⟨_,rfl⟩
 rw [hr] at HP HV HO;unfold nodeC;rw [hk,hl];generalize n.text=nt at *;have hcI:(2:Int)≤(cap:Int):=by omega
 have HB1:Hid (∀ o,Below w.heap.size w (w.alloc o).drew):=hZz (fun o=>(zabZ w o).trans (Below.refl _ _).drew);clear hP h hH hl hk hr hat hv0 e0 e1 hv1 ha;go_enter func169,ntmps169
 go_upto_region 9 with fail
 go_region_law (first
  | (go_simp;go_at_call 13;((refine (HV.out _ (HB1.out _)).mono ?_);rintro e w2 ⟨u,rfl,hu,hf,hb2⟩;obtain ⟨uA,un,uc,rfl⟩:=hu.shape;have HU:=hZz (valT_from hu hf);have HB2:=hZz (zadZ hb2 (HB1.out _));clear hu hf hb2))
  | (go_simp;go_at_call 164;((refine (HO.out _ _ HU.out).mono ?_);rintro e w3 ⟨A3,n3,c3,sv,rfl,hv3,hs3,rfl⟩;have HV3:=hZz hv3;have HS3:=hZz hs3;clear hv3 hs3)))
 all_goals
  go_simp;go_wp2_with (fail)
  rw [← HP.out];exact outc_node (w3:=w2) HE.out HV3.out HS3.out HB2.out
theorem NodeP.from {w0 w w1 w':World} {K:EvK} {C:EvC} {gv:Nat} {F:List Nat} {c:Nat} {R:(ValD × Option SigD) × EvS} {e:Ending} (h:NodeP w0 K C gv F c w1 R e w') (hb:Below w.heap.size w w1):NodeP w0 K C gv F c w R e w':=by
 obtain ⟨u,sv,h1,h2,h3,h4,h5⟩:=h;exact ⟨u,sv,h1,h2,h3,h4,(KX.of_below hb).trans h5⟩
theorem apply_host {w0:World} {K:EvK} {C:EvC} (hH:EvH w0 K C) {gv:Nat} {F:List Nat} {c k L base:Nat} {n:NodeD} {kA iA:Option Addr} {kc ic:Nat} {l:List ValD} {av:Value} {s:EvS} {w:World} (h:EvX w0 K C gv F c w s) (ha:RowG w0 base w av l) (hl:l.length≤600) (hk:n.kind=12) :
  Calls prog 169 #[.pointer (some ⟨K.gx,0,none⟩),.int .i64 k,.agg (nodeC n kA kc iA ic),av,.slice (some ⟨gv,0,none⟩) L L] w (NodeP w0 K C gv F c w (askF C n.text l s)):=by
 obtain ⟨R,hR⟩:∃ R,askF C n.text l s=R:=⟨_,rfl⟩
 have HC:Hid (∀ wx,Below w.heap.size w wx→Calls prog 220 #[.pointer (some ⟨K.gx,0,none⟩),.string n.text,av] wx (NodeP w0 K C gv F c wx R)):=hZz (fun wx hb=>by rw [← hR];exact ask_h hH (h.below hb) ((ha.vals h.bel (by omega)).below hb) hl);rw [hR];obtain ⟨P,hP⟩:∃ P:Ending→World→Prop,NodeP w0 K C gv F c w R=P:=⟨_,rfl⟩
 rw [hP];have HP:=hZz hP;obtain ⟨us,hao,hul,huv⟩:=ha;obtain ⟨aA,ac,rfl⟩:=zaeZ hao;unfold nodeC;rw [hk];obtain ⟨am,ham⟩:∃ m,l.length=m:=⟨_,rfl⟩
 rw [ham] at HC ⊢;generalize n.text=nt at *;have HB1:Hid (∀ o,Below w.heap.size w (w.alloc o)):=hZz (fun o=>zabZ w o);clear hP h hao hul huv hH hl hk hR ham;go_enter func169,ntmps169
 go_wp2_with (first
  | (go_at_call 220;((with_reducible refine (HC.out _ (HB1.out _)).mono ?_);rintro e w2 ⟨u,sv,rfl,hu,hsv,hx,hkx⟩;have HN2:=hZz (NodeP.from ⟨u,sv,rfl,hu,hsv,hx,hkx⟩ (HB1.out _));clear hu hsv hx hkx)))
 rw [← HP.out];exact HN2.out
theorem apply_ret {w0:World} {K:EvK} {C:EvC} {gv:Nat} {F:List Nat} {c k L base:Nat} {n:NodeD} {kA iA:Option Addr} {kc ic:Nat} {l:List ValD} {av:Value} {s:EvS} {w:World} (h:EvX w0 K C gv F c w s) (ha:RowG w0 base w av l) (hl:l.length=1) (hk:n.kind=17) :
  Calls prog 169 #[.pointer (some ⟨K.gx,0,none⟩),.int .i64 k,.agg (nodeC n kA kc iA ic),av,.slice (some ⟨gv,0,none⟩) L L] w (NodeP w0 K C gv F c w (([],some (.ret (l.getD 0 []))),s)):=by
 obtain ⟨P,hP⟩:∃ P:Ending→World→Prop,NodeP w0 K C gv F c w (([],some (.ret (l.getD 0 []))),s)=P:=⟨_,rfl⟩
 rw [hP];have HP:=hZz hP;have HE:=hZz h;obtain ⟨g,cap,rfl,hcap,hat⟩:=ha.at0 (by omega);obtain ⟨A0,n0,k0,c0,hv0⟩:=hat 0 (by omega);have e0:l.getD 0 []=l[0]:=zafY (show 0<l.length by omega) [];have HV:=hZz hv0;obtain ⟨x0,hx0⟩:∃ x,l[0]=x:=⟨_,rfl⟩
 rw [e0,hx0] at HP;rw [hx0] at HV;unfold nodeC;rw [hk,hl];have hcI:(1:Int)≤(cap:Int):=by omega
 have h01:(0:Int)<(1:Int):=by omega
 obtain ⟨W1,hW1⟩:∃ W,w.alloc (.cells #[.int .i64 17,.string n.text,.int .i64 n.int,.slice kA n.keys.length kc,.slice iA n.kids.length ic] 87)=W:=⟨_,rfl⟩
 have hb1:Below w.heap.size w W1:=by rw [← hW1];exact zabZ _ _
 have HB1:=hZz hb1;have HW1:=hZz hW1;have HC0:=hZz c0;clear hP h hk hat hv0 e0 hx0 ha hW1 hb1 hl;go_enter func169,ntmps169
 go_upto_region 18 with fail
 rw [HW1.out];have c1:=(HB1.out.cell (bLZ HC0.out)).trans HC0.out;clear c0;go_quiet (fail);go_wp2_with (fail)
 rw [← HP.out];have hbq:Below w.heap.size w (W1.drewN nq):=zaqZ HB1.out nq;exact ⟨.slice none 0 0,_,rfl,ValG.nil _ _,⟨_,rfl,HV.out.below hbq⟩,HE.out.below hbq,KX.of_below hbq⟩
theorem apply_none {w0:World} {K:EvK} {C:EvC} {gv:Nat} {F:List Nat} {c k L base:Nat} {n:NodeD} {kA iA:Option Addr} {kc ic:Nat} {l:List ValD} {av:Value} {s:EvS} {w:World} (h:EvX w0 K C gv F c w s) (ha:RowG w0 base w av l) (hk:n.kind=18∨n.kind=19) :
  Calls prog 169 #[.pointer (some ⟨K.gx,0,none⟩),.int .i64 k,.agg (nodeC n kA kc iA ic),av,.slice (some ⟨gv,0,none⟩) L L] w (NodeP w0 K C gv F c w (([],none),s)):=by
 obtain ⟨P,hP⟩:∃ P:Ending→World→Prop,NodeP w0 K C gv F c w (([],none),s)=P:=⟨_,rfl⟩
 rw [hP];have HP:=hZz hP;have HE:=hZz h;obtain ⟨us,hao,hul,huv⟩:=ha;obtain ⟨aA,ac,rfl⟩:=zaeZ hao;have HB1:Hid (∀ o,Below w.heap.size w (w.alloc o)):=hZz (fun o=>zabZ w o);unfold nodeC;clear hP h hao hul huv;rcases hk with hk | hk
 all_goals
  rw [hk];clear hk;go_enter func169,ntmps169
  go_wp2_with (fail)
  rw [← HP.out];exact ⟨.slice none 0 0,_,rfl,ValG.nil _ _,rfl,HE.out.below (HB1.out _),KX.of_below (HB1.out _)⟩
end
section
attribute [local go_sem] zacZ
theorem findF_idx (p:ProgD) (s:ByteArray):findF p s=idxI (p.funcs.findIdx? fun f=>decide (f.name=s)):=by
 unfold findF idxI;cases p.funcs.findIdx? fun f=>decide (f.name=s) <;> rfl
theorem apply_set {w0:World} {K:EvK} {C:EvC} (hH:EvH w0 K C) {gv:Nat} {F:List Nat} {c k base:Nat} {n:NodeD} {kA iA:Option Addr} {kc ic:Nat} {l:List ValD} {av:Value} {s:EvS} {w:World} {R} (h:EvX w0 K C gv F c w s) (ha:RowG w0 base w av l) (hl:l.length=1) (hk:n.kind=13∨n.kind=14) (hkn:k<C.p.nodes.length) (hvl:s.vars.length≤1000) (hR:setF C k (l.getD 0 []) s=some R) :
  Calls prog 169 #[.pointer (some ⟨K.gx,0,none⟩),.int .i64 k,.agg (nodeC n kA kc iA ic),av,.slice (some ⟨gv,0,none⟩) s.vars.length s.vars.length] w (NodeP w0 K C gv F c w R):=by
 obtain ⟨P,hP⟩:∃ P:Ending→World→Prop,NodeP w0 K C gv F c w R=P:=⟨_,rfl⟩
 rw [hP];have HP:=hZz hP;obtain ⟨g,cap,rfl,hcap,hat⟩:=ha.at0 (by omega);obtain ⟨A0,n0,k0,c0,hv0⟩:=hat 0 (by omega);have e0:l.getD 0 []=l[0]:=zafY (show 0<l.length by omega) [];have HV:=hZz hv0;obtain ⟨x0,hx0⟩:∃ x,l[0]=x:=⟨_,rfl⟩
 rw [e0,hx0] at hR;rw [hx0] at HV;have hks:k<C.slots.length:=by rw [hH.slen];exact hkn
 unfold setF at hR;rw [List.getElem?_eq_getElem hks] at hR;simp only at hR;obtain ⟨bs,os,hsA,hbs⟩:=hH.sl.ptr hks;have hsq:=hH.sl;rw [hsA] at hsq;have cs:=hsq.cell0 hks (v:=.int .i64 C.slots[k]) rfl;clear hsq;obtain ⟨sl,hsl⟩:∃ x,C.slots[k]=x:=⟨_,rfl⟩
 rw [hsl] at hR cs;simp only [Nat.mul_one] at cs;split at hR
 ·rename_i hin
  obtain ⟨j,rfl⟩:∃ j:Nat,sl=(j:Int):=⟨sl.toNat,by omega⟩
  rw [Int.toNat_natCast] at hR;have HR:Hid (R=(([],none),{ s with vars:=s.vars.set j x0 })):=hZz (by injection hR with hR;exact hR.symm);obtain ⟨qv,avs,vs,hm⟩:=h;unfold nodeC;have hj:j<s.vars.length:=by omega
  have hjv:j<vs.length:=by rw [hm.vl];exact hj
  rcases hk with hk | hk
  all_goals
   rw [hk,hl];obtain ⟨W1,hW1⟩:∃ W,w.alloc (.cells #[.int .i64 n.kind,.string n.text,.int .i64 n.int,.slice kA n.keys.length kc,.slice iA n.kids.length ic] 87)=W:=⟨_,rfl⟩
   rw [hk] at hW1;have hb1:Below w.heap.size w W1:=by rw [← hW1];exact zabZ _ _
   have hm1:=hm.below hb1;have HM1:=hZz hm1;have HB1:=hZz hb1;have HW1:=hZz hW1;have x2:=hm1.ex.cell 2 _ rfl;rw [hsA] at x2;have y0:=(hm1.bel.cell hbs).trans cs;have d0:=(hb1.cell (bLZ c0)).trans c0;have v0:=hm1.vb.cell j vs[j] (by simp [hjv]);have z0:=hm1.vb.frozen j;obtain ⟨vA,vn,vc,hve⟩:=(hm1.vv j hjv hj).shape;rw [hve] at v0;have hjI:(j:Int)<(s.vars.length:Int):=by omega
   have hj0:(0:Int)≤(j:Int):=by omega
   have hkI:(k:Int)<(C.slots.length:Int):=by omega
   have hk0:(0:Int)≤(k:Int):=by omega
   have hcI:(1:Int)≤(cap:Int):=by omega
   generalize s.vars.length=L at hjI;generalize C.slots.length=ns at x2 hkI;clear hP hm hm1 hb1 hW1 hat c0 hv0 e0 hx0 ha hR hin hks hbs cs hsA hsl hk hH hve hjv hl hkn hj hcap;go_enter func169,ntmps169
   go_upto_region 16 with fail
   rw [HW1.out];clear HW1;go_region
   all_goals
    go_wp2_with (fail)
    rw [← HP.out,HR.out];have hset:=HM1.out.setVar j (.slice A0 n0 k0) (HV.out.below HB1.out);have hkx:=(KX.of_below (gx:=K.gx) (gv:=gv) HB1.out).trans (KX.set HM1.out.vb (by decide) (.inr rfl) j (.slice A0 n0 k0));exact ⟨.slice none 0 0,_,rfl,ValG.nil _ _,rfl,⟨_,_,_,hset.below (zafZ _)⟩,hkx.trans (KX.of_below (zafZ _))⟩
 ·cases hR
end
theorem all_len {N:EvN}:∀ (r:List Int) (out:List ValD) (s:EvS) (R),allF N r out s=some R→R.1.2=none→R.1.1.length=out.length+r.length:=by
 intro r;induction r with
 | nil=>intro out s R h _;simp only [allF] at h;cases h;simp
 | cons k r ih =>
  intro out s R h hn;simp only [allF] at h;cases hR:N k.toNat s with
  | none=>rw [hR] at h;cases h
  | some Q =>
   obtain ⟨⟨v,g⟩,t⟩:=Q;rw [hR] at h;cases g with
   | none=>rw [ih _ _ _ h hn,List.length_append];simp;omega
   | some g=>cases h;cases hn
theorem NodeP.kx {w0 w w1 w':World} {K:EvK} {C:EvC} {gv:Nat} {F:List Nat} {c:Nat} {R:(ValD × Option SigD) × EvS} {e:Ending} (h:NodeP w0 K C gv F c w1 R e w') (hk:KX K.gx gv w w1):NodeP w0 K C gv F c w R e w':=by
 obtain ⟨u,sv,h1,h2,h3,h4,h5⟩:=h;exact ⟨u,sv,h1,h2,h3,h4,hk.trans h5⟩
section
attribute [local go_sem] zacZ
set_option maxHeartbeats 4000000 in
theorem node0 {w0:World} {K:EvK} {C:EvC} {gv:Nat} {F:List Nat} {c k L:Nat} {s:EvS} {w:World} (h:EvX w0 K C gv F c w s) (h0:s.fuel=0) :
  Calls prog 116 #[.pointer (some ⟨K.gx,0,none⟩),.int .i64 k,.slice (some ⟨gv,0,none⟩) L L] w (NodeP w0 K C gv F c w (([],some (.fail 15)),s)):=by
 obtain ⟨P,hP⟩:∃ P:Ending→World→Prop,NodeP w0 K C gv F c w (([],some (.fail 15)),s)=P:=⟨_,rfl⟩
 rw [hP];have HP:=hZz hP;have HE:=hZz h;have x6:=h.fuel;rw [h0] at x6;clear hP h h0;go_enter func116,ntmps116
 go_wp2_with (fail)
 rw [← HP.out];exact ⟨.slice none 0 0,_,rfl,ValG.nil _ _,rfl,HE.out,KX.refl _ _ _⟩
theorem EvX.cells {w0 w:World} {K:EvK} {C:EvC} {gv:Nat} {F:List Nat} {c:Nat} {s:EvS} (h:EvX w0 K C gv F c w s):w.cell? ⟨K.gx,0,none⟩=some (.slice K.S.A K.S.p.nodes.length K.S.ncap)∧w.cell? ⟨K.gx,2,none⟩=some (.slice K.sA C.slots.length K.sc)∧w.frozen? ⟨K.gx,6,none⟩=false:=by
 obtain ⟨_,_,_,h⟩:=h;exact ⟨h.ex.cell 0 _ rfl,h.ex.cell 2 _ rfl,h.ex.frozen 6⟩
theorem EvX.var {w0 w:World} {K:EvK} {C:EvC} {gv:Nat} {F:List Nat} {c:Nat} {s:EvS} (h:EvX w0 K C gv F c w s) {j:Nat} (hj:j<s.vars.length):∃ A n cap,w.cell? ⟨gv,j,none⟩=some (.slice A n cap)∧ValG w0 w (.slice A n cap) (s.vars.getD j []):=by
 obtain ⟨_,_,vs,h⟩:=h;have hjv:j<vs.length:=by rw [h.vl];exact hj
 have hv:=h.vv j hjv hj;obtain ⟨A,n,cap,e⟩:=hv.shape;refine ⟨A,n,cap,?_,?_⟩
 ·rw [← e];exact h.vb.cell j vs[j] (by simp [hjv])
 ·rw [← e,zafY hj];exact hv
theorem EvX.spend {w0 w:World} {K:EvK} {C:EvC} {gv:Nat} {F:List Nat} {c:Nat} {s:EvS} (h:EvX w0 K C gv F c w s) (n:Nat):EvX w0 K C gv F c (w.setCell ⟨K.gx,6,none⟩ (.int .i64 n)) { s with fuel:=n }∧KX K.gx gv w (w.setCell ⟨K.gx,6,none⟩ (.int .i64 n)):=by
 obtain ⟨a,b,d,h⟩:=h;exact ⟨⟨a,b,d,h.setFuel n⟩,KX.set h.ex (by decide) (.inl rfl) 6 _⟩
theorem fields_int {n:NodeD} (h:fieldsB n=true) (hk:n.kind=3):0≤n.int∧n.int≤1000000000000:=by
 unfold fieldsB at h;rw [hk] at h;simp at h
 omega
theorem kind_far {nk:Int} (h:¬ (nk≤5∨nk=15∨nk=16)):(nk == 1)=false∧(nk == 2)=false∧(nk == 3)=false∧(nk == 4)=false∧(nk == 5)=false∧(nk == 15)=false∧(nk == 16)=false:=by
 refine ⟨?_,?_,?_,?_,?_,?_,?_⟩ <;> (rw [beq_eq_false_iff_ne];omega)
end
section
structure SmallEv (p:ProgD):Prop where
 nodes:p.nodes.length≤700
 funcs:p.funcs.length≤40
 kids:∀ n∈p.nodes,n.kids.length≤100∧n.keys.length≤100∧n.text.size≤1000∧∀ k∈n.keys,k.size≤1000
 params:∀ f∈p.funcs,f.params.length≤100∧f.name.size≤1000∧∀ k∈f.params,k.size≤1000
theorem SmallEv.ok {p:ProgD} (h:SmallEv p):ProgOk p :=
 ⟨⟨by have:=h.nodes;omega,fun n hn=>by have:=h.kids n hn;omega,fun n hn=>⟨by have:=h.kids n hn;omega,fun k hk=>by have:=(h.kids n hn).2.2.2 k hk;omega⟩⟩,by have:=h.funcs;omega,fun f hf=>⟨by have:=h.params f hf;omega,by have:=h.params f hf;omega,fun k hk=>by have:=(h.params f hf).2.2 k hk;omega⟩⟩
theorem SynOk.tree {p:ProgD} (h:SynOk p) {k:Nat} (hk:k<p.nodes.length):∃ f s,Tree p.nodes f k s:=by
 have key:∀ m,m≤p.funcs.length→∀ j,j<startF p.funcs m→∃ s,firstF p.nodes 600 j=some s:=by
  intro m;induction m with
  | zero=>intro _ j hj;simp [startF] at hj
  | succ m ih =>
   intro hm j hj;obtain ⟨b,hb,hs1,hs2⟩:=h.func (k:=m) (by omega);by_cases hjm:j<startF p.funcs m
   ·exact ih (by omega) j hjm
   ·obtain ⟨s',h1,_⟩:=firstF_all 600 b _ hb.first j (by omega) (by omega)
    exact ⟨s',h1⟩
 obtain ⟨s,hs⟩:=key p.funcs.length (Nat.le_refl _) k (by rw [← h.fin];exact hk);exact ⟨599,s,zbgY hs⟩
theorem SynOk.node {p:ProgD} (h:SynOk p) {n:NodeD} (hn:n∈p.nodes):countB n=true∧fieldsB n=true∧∀ k∈n.kids,0≤k∧k<(p.nodes.length:Int):=by
 obtain ⟨i,hi,e⟩:=mem_get hn;obtain ⟨f,s,T⟩:=h.tree hi;have e2:p.nodes.getD i noNode=n:=by rw [zafY hi,e]
 have hat:p.at_ i=n:=e2;have hc:=T.count;have hf:=T.fields;rw [e2] at hc hf;refine ⟨hc,hf,fun k hk=>?_⟩
 obtain ⟨j,_,_,h1,h2,_⟩:=T.kid (k:=k) (by rw [hat];exact hk);omega
theorem evH_of {w0:World} {S:ProgS} {answers:List AnsD} {gx:Nat} {sA lA aA:Option Addr} {sc lc ac:Nat} (hS:ProgV w0 S) (he:(studyF S.p).err=0) (hsm:SmallEv S.p) (hsl:SlAt w0 sA 1 intS (studyF S.p).slots) (han:AnsV w0 (.slice aA answers.length ac) answers) (hp:Pow w0) (hml:MaxL w0) (hse:Sent w0) (hao:∀ a∈answers,OkV a.value) (hal:answers.length≤40) :
  EvH w0 ⟨gx,S,sA,sc,lA,lc,aA,ac⟩ (ctxF S.p answers):=by
 obtain ⟨hsy,e1,e2,_⟩:=study_ok he;obtain ⟨q1,_,q3,q4⟩:=hsy.step _ (Nat.le_refl _);refine ⟨rfl,hS,hsl,han,hp,hml,hse,hsy.nodes,hsy.funcs,?_,?_,?_,hao,hal,?_,?_,?_,?_⟩
 ·show (studyF S.p).slots.length=_;rw [e1];exact q1
 ·show (studyF S.p).locals.length=_;rw [e2];exact q3
 ·show ∀ x∈(studyF S.p).locals,_;rw [e2];exact q4
 ·intro n hn
  obtain ⟨_,_,h3⟩:=hsy.node hn
  have:=hsm.kids n hn
  exact ⟨by omega,by omega,h3,this.2.2.1,this.2.2.2⟩
 ·exact fun n hn=>(hsy.node hn).1
 ·exact fun n hn=>(hsy.node hn).2.1
 ·intro f hf
  have hf':f∈S.p.funcs:=hf;obtain ⟨i,hi,e⟩:=mem_get hf';obtain ⟨b,hb,_,_⟩:=hsy.func hi;rw [e] at hb
  have:=hb.lt
  rw [hb.body];show 0≤(b:Int)∧(b:Int)<(S.p.nodes.length:Int);omega
attribute [local go_sem] zacZ
theorem run1_h (n:ByteArray) (kA:Option Addr) (m kc:Nat) (body:Int) (w:World):Calls prog 70 #[.agg #[.string n,.slice kA m kc,.int .i64 body]] w fun e w'=>e=.returned (.bool (decide (n=mainS)))∧Below w.heap.size w w':=by
 rw [← beq_bytes];have HB:=hZz (zabZ w (.cells #[.string n,.slice kA m kc,.int .i64 body] 89));unfold mainS;go_enter func70,ntmps70
 go_wp2
 all_goals (go_returns;exact ⟨by first | rfl | simp_all,HB.out⟩)
theorem main_h (S:ProgS) (w0 w:World) (hS:ProgV w0 S) (hb:Below w0.heap.size w0 w) (hl:S.p.funcs.length≤10000):Calls prog 69 #[.slice S.B S.p.funcs.length S.fcap,.func (.func 70) #[] #[]] w fun e w'=>e=.returned (.int .i64 (findF S.p mainS))∧Below w.heap.size w w':=by
 have hent:∀ args w,(callFunc 70 args).run prog w=.ok (.enter 70 args) w:=enters_of func70 (by kernel_rfl) rfl
 rw [findF_idx];exact zc6Y S.p.funcs S.B S.fcap 70 #[] (fun f=>decide (f.name=mainS)) w0 w hS.funcs hb hl hent (fun k hk wx kA kc hb=>run1_h _ kA _ kc _ wx)
end
section
def okJ (n:NodeD):Bool:=decide (n.kind=3) || decide (n.kind=4) || decide (n.kind=5) || (decide (n.kind=9) && decide (n.text.toList=[43])) || decide (n.kind=12) || decide (n.kind=13) || decide (n.kind=17) || decide (n.kind=19)
def stepJ (C:EvC) (N:Nat→EvN) (g c k:Nat) (n:NodeD) (s:EvS):EvR ValD:=if okJ n=true then stepN C N g c k n s else none
def nodeJ (C:EvC):Nat→Nat→EvN
 | 0,_,_,s=>some (([],some (.fail 15)),s)
 | g+1,c,k,s=>if s.fuel=0 then some (([],some (.fail 15)),s) else match C.p.nodes[k]? with
  | none=>none
  | some n=>stepJ C (nodeJ C g) g c k n { s with fuel:=s.fuel - 1 }
theorem stepJ_some {C:EvC} {N:Nat→EvN} {g c k:Nat} {n:NodeD} {s:EvS} {R} (h:stepJ C N g c k n s=some R):okJ n=true∧stepN C N g c k n s=some R:=by
 unfold stepJ at h;split at h
 ·rename_i ho;exact ⟨ho,h⟩
 ·cases h
theorem okJ_no {n:NodeD} (h:okJ n=true):¬ n.kind=1∧¬ n.kind=2∧¬ n.kind=6∧¬ n.kind=7∧¬ n.kind=8∧¬ n.kind=10∧¬ n.kind=11∧¬ n.kind=14∧¬ n.kind=15∧¬ n.kind=16∧¬ n.kind=18:=by
 unfold okJ at h;simp only [Bool.or_eq_true,Bool.and_eq_true,decide_eq_true_eq] at h;refine ⟨?_,?_,?_,?_,?_,?_,?_,?_,?_,?_,?_⟩ <;> omega
theorem okJ_both {n:NodeD} (h:okJ n=true):¬ isBothB n=true:=by
 intro hb;unfold isBothB at hb;unfold okJ at h;simp only [Bool.or_eq_true,Bool.and_eq_true,decide_eq_true_eq] at h hb;obtain ⟨h9,h2⟩:=hb
 have:n.text.toList=[43]:=by
  rcases h with ((((((h | h) | h) | h) | h) | h) | h) | h
  all_goals first
   | exact h.2
   | omega
 rw [this] at h2
 revert h2
 decide
theorem down_nodeJ (C:EvC):∀ g c,DownN (nodeJ C g c):=by
 intro g;induction g with
 | zero=>intro c i s R h;simp only [nodeJ] at h;cases h;exact ⟨.same rfl rfl rfl,fun e=>by cases e⟩
 | succ g ih =>
  intro c i s R h;simp only [nodeJ] at h;split at h
  ·cases h;exact ⟨.same rfl rfl rfl,fun e=>by cases e⟩
  ·rename_i h0
   split at h
   ·cases h
   ·have hd:=down_step ih (stepJ_some h).2
    have h1:=hd.fuel;simp only at h1;exact ⟨⟨by omega,hd.reqs,hd.len⟩,fun _=>by omega⟩
theorem apply_j {fB:Nat} {w0:World} {K:EvK} {C:EvC} (hH:EvH w0 K C) {N:Nat→EvN} {c:Nat} {gv:Nat} {F:List Nat} {k base:Nat} {n:NodeD} {kA iA:Option Addr} {kc ic:Nat} {l:List ValD} {av:Value} {s:EvS} {w:World} {R} (h:EvX w0 K C gv F c w s) (ha:RowG w0 base w av l) (hll:l.length=n.kids.length) (hn:n∈C.p.nodes) (hkn:k<C.p.nodes.length)
  (hkv:KeysV w0 (.slice kA n.keys.length kc) n.keys) (hx:¬ (n.kind≤5∨n.kind=15∨n.kind=16)) (hfu:s.fuel≤fB) (hvl:s.vars.length≤1000) (hc:c≤16) (hok:okJ n=true) (hR:applyF C N c k n l s=some R) :
  Calls prog 169 #[.pointer (some ⟨K.gx,0,none⟩),.int .i64 k,.agg (nodeC n kA kc iA ic),av,.slice (some ⟨gv,0,none⟩) s.vars.length s.vars.length] w (NodeP w0 K C gv F c w R):=by
 have hcnt:=hH.count n hn;obtain ⟨hk1,hk2,hk3,hk4,hk5⟩:=hH.kids n hn;obtain ⟨o1,o2,o6,o7,o8,o10,o11,o14,o15,o16,o18⟩:=okJ_no hok;unfold applyF at hR;rw [if_neg o6] at hR;rw [if_neg o7] at hR;rw [if_neg o8] at hR;by_cases h9:n.kind=9
 ·rw [if_pos h9] at hR;cases hR;exact apply_bin hH h ha (by rw [hll];exact cnt_two hcnt (by omega)) h9
 rw [if_neg h9] at hR;rw [if_neg o10] at hR;by_cases h12:n.kind=12
 ·rw [if_pos h12] at hR;cases hR;exact apply_host hH h ha (by omega) h12
 rw [if_neg h12] at hR;by_cases h13:n.kind=13∨n.kind=14
 ·rw [if_pos h13] at hR;exact apply_set hH h ha (by rw [hll];exact cnt_one hcnt (by omega)) h13 hkn hvl hR
 rw [if_neg h13] at hR;by_cases h17:n.kind=17
 ·rw [if_pos h17] at hR;cases hR;exact apply_ret h ha (by rw [hll];exact cnt_one hcnt (by omega)) h17
 rw [if_neg h17] at hR;rw [if_neg o11] at hR;cases hR
 have:=cnt_kind hcnt
 exact apply_none h ha (by omega)
theorem tail_j {fB:Nat} {w0:World} {K:EvK} {C:EvC} (hH:EvH w0 K C) {N:Nat→EvN} {c g:Nat} (hN:NodeOk w0 K C (N c) c fB) (hD:∀ c,DownN (N c)) {gv:Nat} {F:List Nat} {k:Nat} {n:NodeD} {kA iA:Option Addr} {kc ic:Nat} {s:EvS} {R} (hn:n∈C.p.nodes) (hkn:k<C.p.nodes.length)
  (hkv:KeysV w0 (.slice kA n.keys.length kc) n.keys) (hi:IntsV w0 (.slice iA n.kids.length ic) n.kids) (hfu:s.fuel≤fB) (hvl:s.vars.length≤1000) (hc:c≤16) (hx:¬ (n.kind≤5∨n.kind=15∨n.kind=16)) (hok:okJ n=true) (hR:thenF C N c k n (allF (N c) n.kids [] s)=some R) :
  ∃ Q,(∀ W,EvX w0 K C gv F c W s→Calls prog 168 #[.pointer (some ⟨K.gx,0,none⟩),.slice iA n.kids.length ic,.slice (some ⟨gv,0,none⟩) s.vars.length s.vars.length] W (AllP w0 K C gv F c W Q)) ∧
   (∀ g,Q.1.2=some g→R=(([],some g),Q.2)) ∧
   (Q.1.2=none→∀ W av base,EvX w0 K C gv F c W Q.2→RowG w0 base W av Q.1.1→Calls prog 169 #[.pointer (some ⟨K.gx,0,none⟩),.int .i64 k,.agg (nodeC n kA kc iA ic),av,.slice (some ⟨gv,0,none⟩) s.vars.length s.vars.length] W (NodeP w0 K C gv F c W R)):=by
 cases hQ:allF (N c) n.kids [] s with
 | none=>rw [hQ] at hR;cases hR
 | some Q =>
  obtain ⟨hk1,_,hk3,_⟩:=hH.kids n hn;refine ⟨Q,fun W hW=>all_h hN (hD c) hW hi hk3 hk1 hfu hvl hQ,fun g hg=>?_,fun hnone W av base hW ha=>?_⟩
  ·obtain ⟨⟨l,g'⟩,t⟩:=Q
   simp only at hg;subst hg;rw [hQ] at hR;cases hR;rfl
  ·have hd:=down_all (hD c) _ _ _ _ hQ
   have hlen:=all_len _ _ _ _ hQ hnone;obtain ⟨⟨l,g'⟩,t⟩:=Q;simp only at hnone;subst hnone;rw [hQ] at hR;have h1:=hd.fuel;have h2:=hd.len;simp only at h1 h2 hlen
   have:=apply_j hH (kA:=kA) (iA:=iA) (kc:=kc) (ic:=ic) hW ha (by simpa using hlen) hn hkn hkv hx (by simp only;omega) (by simp only;omega) hc hok hR
   simp only at this;rw [h2] at this;exact this
attribute [local go_sem] zacZ
set_option maxHeartbeats 16000000 in
theorem nodeJS {fB:Nat} {w0:World} {K:EvK} {C:EvC} (hH:EvH w0 K C) {N:Nat→EvN} {c g:Nat} (hN:NodeOk w0 K C (N c) c fB) (hD:∀ c,DownN (N c)) {gv:Nat} {F:List Nat} {k:Nat} {s:EvS} {w:World} {j:Nat} {n:NodeD} {R} (h:EvX w0 K C gv F c w s) (hkn:k<C.p.nodes.length) (hn:C.p.nodes[k]? = some n) (hj:s.fuel=j+1) (hjb:j≤fB) (hjg:j≤g) (hj2:j≤200000) (hvl:s.vars.length≤1000) (hc:c≤16) (hok:okJ n=true) (hR:stepN C N g c k n { s with fuel:=j }=some R) :
  Calls prog 116 #[.pointer (some ⟨K.gx,0,none⟩),.int .i64 k,.slice (some ⟨gv,0,none⟩) s.vars.length s.vars.length] w (NodeP w0 K C gv F c w R):=by
 obtain ⟨P,hP⟩:∃ P:Ending→World→Prop,NodeP w0 K C gv F c w R=P:=⟨_,rfl⟩
 rw [hP];have HP:=hZz hP;obtain ⟨o1,o2,o6,o7,o8,o10,o11,o14,o15,o16,o18⟩:=okJ_no hok;have HOK:=hZz hok;have hmem:n∈C.p.nodes:=List.mem_of_getElem? hn;have hkS:k<K.S.p.nodes.length:=by rw [hH.p];exact hkn
 obtain ⟨nb,no,kA,kc,iA,ic,hA,hbN,c0,c1,c2,c3,c4,hkv,hiv⟩:=zc2Y hH.prog.nodes hkS
 have hne:K.S.p.nodes[k]=n:=by
  have:=(List.getElem?_eq_some_iff.1 hn).2
  rw [← this];congr 1
  rw [hH.p]
 rw [hne] at c0 c1 c2 c3 c4 hkv hiv;have x6:=h.fuel;rw [hj] at x6;have ej:((j+1:Nat):Int)=(j:Int)+1:=by omega
 rw [ej] at x6;obtain ⟨x0,x2,z6⟩:=h.cells;rw [hA] at x0;obtain ⟨hs1,hk1⟩:=h.spend j;obtain ⟨s1,es1⟩:∃ s1:EvS,{ s with fuel:=j }=s1:=⟨_,rfl⟩
 rw [es1] at hs1 hR;have e1v:s1.vars=s.vars:=by rw [← es1]
 have e1f:s1.fuel=j:=by rw [← es1]
 obtain ⟨W1,hW1⟩:∃ W,w.setCell ⟨K.gx,6,none⟩ (.int .i64 (j:Int))=W:=⟨_,rfl⟩
 rw [hW1] at hs1 hk1;obtain ⟨W2,hW2⟩:∃ W,W1.alloc (.cells #[.int .i64 n.kind,.string n.text,.int .i64 n.int,.slice kA n.keys.length kc,.slice iA n.kids.length ic] 87)=W:=⟨_,rfl⟩
 obtain ⟨gn,hgn⟩:∃ g,W1.heap.size=g:=⟨_,rfl⟩
 have hb2:Below W1.heap.size W1 W2:=by rw [← hW2];exact zabZ _ _
 have HX2:Hid (Blk W2 gn 87 #[.int .i64 n.kind,.string n.text,.int .i64 n.int,.slice kA n.keys.length kc,.slice iA n.kids.length ic]):=hZz (by rw [← hW2,← hgn];exact Blk.new _ _ _);have HE2:=hZz (hs1.below hb2);have HK2:=hZz (hk1.trans (KX.of_below hb2));have d0:=(hs1.bel.cell hbN).trans c0;have d1:=(hs1.bel.cell hbN).trans c1;have d2:=(hs1.bel.cell hbN).trans c2;have d3:=(hs1.bel.cell hbN).trans c3;have d4:=(hs1.bel.cell hbN).trans c4;obtain ⟨y0,y2,_⟩:=hs1.cells;rw [hA] at y0;have HW1:=hZz hW1;have HW2:=hZz hW2;have HGN:=hZz hgn;have hj0:(0:Int)≤(j:Int):=by omega
 have hj9:(j:Int)≤200000:=by omega
 have hkI:(k:Int)<(K.S.p.nodes.length:Int):=by omega
 have hk0:(0:Int)≤(k:Int):=by omega
 have HH:=hZz hH;have HN:=hZz hN;have HD:=hZz hD;have HMEM:=hZz hmem;have HKV:=hZz hkv;have HIV:=hZz hiv;have HV1:=hZz e1v;have HF1:=hZz e1f;have HJB:=hZz hjb;have HJG:=hZz hjg;have HVL:=hZz hvl;have HC:=hZz hc;have HKN:=hZz hkn;obtain ⟨L,hL⟩:∃ L,s.vars.length=L:=⟨_,rfl⟩
 have HL:=hZz hL;rw [hL];have HR:=hZz hR;obtain ⟨nk,hnk⟩:∃ x,n.kind=x:=⟨_,rfl⟩
 rw [hnk] at o1 o2 o15 o16;obtain ⟨nt,hnt⟩:∃ x,n.text=x:=⟨_,rfl⟩
 obtain ⟨ni,hni⟩:∃ x,n.int=x:=⟨_,rfl⟩
 obtain ⟨nq,hnq⟩:∃ x,n.keys.length=x:=⟨_,rfl⟩
 obtain ⟨nm,hnm⟩:∃ x,n.kids.length=x:=⟨_,rfl⟩
 have HNC:Hid (nodeC n kA kc iA ic=#[.int .i64 nk,.string nt,.int .i64 ni,.slice kA nq kc,.slice iA nm ic]):=hZz (by unfold nodeC;rw [hnk,hnt,hni,hnq,hnm]);rw [hnk,hnt,hni,hnq,hnm] at HX2 HW2;rw [hnk] at d0;rw [hnt] at d1;rw [hni] at d2;rw [hnq] at d3;rw [hnm] at d4;have HNK:=hZz hnk;have HNT:=hZz hnt;have HNI:=hZz hni;have HNM:=hZz hnm;have d6:((j:Int)+1 == 0)=false:=by rw [beq_eq_false_iff_ne];omega
 clear hok o6 o7 o8 o10 o11 o14 o18 hP h hmem hkS hA hbN c0 c1 c2 c3 c4 hkv hiv hne hj hjb hjg hj2 hvl hc hR hs1 hk1 es1 e1v e1f hW1 hW2 hgn hb2 hH hN hD hn hkn hL ej hnk hnt hni hnq hnm;go_enter func116,ntmps116
 go_upto_region 4 with fail
 rw [HW1.out];clear x0 x2 x6 z6;go_upto_region 5 with fail
 rw [HGN.out,HW2.out];have x1:=blk5n HX2.out;clear d0 d1 d2 d3 d4 y0 y2 HW1 HW2 HGN;have HBL:=hZz HE2.out.bel;have h1:=o1;have h2:=o2;by_cases h3:nk=3
 ·have HR1:Hid (R=(outF (okR [iCel ni]),s1)):=hZz (by have:=HR.out;unfold stepN at this;rw [if_neg (by rw [HNK.out];exact h1),if_neg (by rw [HNK.out];exact h2),if_pos (by rw [HNK.out];exact h3),HNI.out] at this;cases this;rfl)
  have hib:=fields_int (HH.out.fields n HMEM.out) (by rw [HNK.out];exact h3);rw [HNI.out] at hib;have HIC:=hZz (cint_any ni W2 (HH.out.pow.below HBL.out) (by omega) (by omega));have HO:Hid (∀ u wx,ValT wx u (okR [iCel ni]).1→Calls prog 164 #[u,.int .i64 (okR [iCel ni]).2] wx (OutcP w0 wx (okR [iCel ni]))):=hZz (fun u wx hu=>outcome_h w0 _ u wx hu (okR_ok _));obtain ⟨r,hr⟩:∃ r,okR [iCel ni]=r:=⟨_,rfl⟩
  rw [hr] at HR1 HIC HO;subst h3;clear h1 h2 hib hr
  go_wp2_with (first
   | (go_at_call 33;((with_reducible refine HIC.out.mono ?_);rintro e w3 ⟨u,rfl,hu,hf,hb3⟩;obtain ⟨uA,un,uc,rfl⟩:=hu.shape;have HU:=hZz (valT_from hu hf);have HB3:=hZz hb3;clear hu hf hb3))
   | (go_at_call 164;((with_reducible refine (HO.out _ _ HU.out).mono ?_);rintro e w4 ⟨A3,n3,c3,sv,rfl,hv3,hs3,rfl⟩;have HV3:=hZz hv3;have HS3:=hZz hs3;clear hv3 hs3)))
  rw [← HP.out,HR1.out];exact (outc_node (w3:=w3) HE2.out HV3.out HS3.out HB3.out).kx HK2.out
 by_cases h4:nk=4
 ·have HR1:Hid (R=(outF (okR [sCel nt]),s1)):=hZz (by have:=HR.out;unfold stepN at this;rw [if_neg (by rw [HNK.out];exact h1),if_neg (by rw [HNK.out];exact h2),if_neg (by rw [HNK.out];exact h3),if_pos (by rw [HNK.out];exact h4),HNT.out] at this;cases this;rfl)
  have htb:=(HH.out.kids n HMEM.out).2.2.2.1;rw [HNT.out] at htb;have HIC:=hZz (cstr_any nt W2 (HH.out.pow.below HBL.out) (by omega));have HO:Hid (∀ u wx,ValT wx u (okR [sCel nt]).1→Calls prog 164 #[u,.int .i64 (okR [sCel nt]).2] wx (OutcP w0 wx (okR [sCel nt]))):=hZz (fun u wx hu=>outcome_h w0 _ u wx hu (okR_ok _));obtain ⟨r,hr⟩:∃ r,okR [sCel nt]=r:=⟨_,rfl⟩
  rw [hr] at HR1 HIC HO;subst h4;clear h1 h2 h3 htb hr
  go_wp2_with (first
   | (go_at_call 92;((with_reducible refine HIC.out.mono ?_);rintro e w3 ⟨u,rfl,hu,hf,hb3⟩;obtain ⟨uA,un,uc,rfl⟩:=hu.shape;have HU:=hZz (valT_from hu hf);have HB3:=hZz hb3;clear hu hf hb3))
   | (go_at_call 164;((with_reducible refine (HO.out _ _ HU.out).mono ?_);rintro e w4 ⟨A3,n3,c3,sv,rfl,hv3,hs3,rfl⟩;have HV3:=hZz hv3;have HS3:=hZz hs3;clear hv3 hs3)))
  rw [← HP.out,HR1.out];exact (outc_node (w3:=w3) HE2.out HV3.out HS3.out HB3.out).kx HK2.out
 by_cases h5:nk=5
 ·have hR5:varF C k s1=some R:=by have:=HR.out;unfold stepN at this;rw [if_neg (by rw [HNK.out];exact h1),if_neg (by rw [HNK.out];exact h2),if_neg (by rw [HNK.out];exact h3),if_neg (by rw [HNK.out];exact h4),if_pos (by rw [HNK.out];exact h5)] at this;exact this
  have hks:k<C.slots.length:=by rw [HH.out.slen];exact HKN.out
  unfold varF at hR5;rw [List.getElem?_eq_getElem hks] at hR5;simp only at hR5;obtain ⟨bs,os,hsA,hbs⟩:=HH.out.sl.ptr hks;have hsq:=HH.out.sl;rw [hsA] at hsq;have cs:=hsq.cell0 hks (v:=.int .i64 C.slots[k]) rfl;clear hsq;obtain ⟨sl,hsl⟩:∃ x,C.slots[k]=x:=⟨_,rfl⟩
  rw [hsl] at hR5 cs;simp only [Nat.mul_one] at cs
  replace cs:=(HBL.out.cell hbs).trans cs
  split at hR5
  ·rename_i hin
   obtain ⟨q,rfl⟩:∃ q:Nat,sl=(q:Int):=⟨sl.toNat,by omega⟩
   rw [Int.toNat_natCast] at hR5;have HR1:Hid (R=((s1.vars.getD q [],none),s1)):=hZz (by injection hR5 with hR5;exact hR5.symm);obtain ⟨vA,vn,vc,v0,hvg⟩:=HE2.out.var (j:=q) (by omega);have HVG:=hZz hvg;obtain ⟨_,y2,_⟩:=HE2.out.cells;rw [hsA] at y2;have hqI:(q:Int)<(L:Int):=by have:=HV1.out;have:=HL.out;have h9:=hin.2;rw [HV1.out,HL.out] at h9;exact h9
   have hq0:(0:Int)≤(q:Int):=by omega
   have hsI:(k:Int)<(C.slots.length:Int):=by omega
   generalize C.slots.length=ns at y2 hsI;subst h5;clear h1 h2 h3 h4 hR5 hks hsA hbs hsl hin hvg;go_wp2_with (fail)
   rw [← HP.out,HR1.out];exact ⟨_,_,rfl,HVG.out,rfl,HE2.out,HK2.out⟩
  ·cases hR5
 have h15:=o15;have h16:=o16
 have hlo:¬ (nk≤5∨nk=15∨nk=16):=by
  have:=cnt_kind (HH.out.count n HMEM.out)
  rw [HNK.out] at this;omega
 obtain ⟨t1,t2,t3,t4,t5,t15,t16⟩:=kind_far hlo;have hbo:¬ isBothB n=true:=okJ_both HOK.out;have hR5:thenF C N c k n (allF (N c) n.kids [] s1)=some R:=by have:=HR.out;unfold stepN at this;rw [if_neg (by rw [HNK.out];exact h1),if_neg (by rw [HNK.out];exact h2),if_neg (by rw [HNK.out];exact h3),if_neg (by rw [HNK.out];exact h4),if_neg (by rw [HNK.out];exact h5),if_neg (by rw [HNK.out];exact h15),if_neg (by rw [HNK.out];exact h16),if_neg hbo] at this;exact this
 obtain ⟨Q,q1,q2,q3⟩:=tail_j (g:=g) HH.out HN.out HD.out HMEM.out HKN.out HKV.out HIV.out (by rw [HF1.out];exact HJB.out) (by rw [HV1.out];exact HVL.out) HC.out (by rw [HNK.out];exact hlo) HOK.out hR5;rw [HV1.out,HL.out] at q1 q3;rw [HNM.out] at q1;rw [HNC.out] at q3;have HQ1:=hZz (q1 W2 HE2.out);have HQ2:=hZz q2;have HQ3:=hZz q3
 have hb9:nk=9→¬ nt.toList=[97,110,100]∧¬ nt.toList=[111,114]:=fun h9=>by
  unfold isBothB at hbo;rw [HNK.out,HNT.out] at hbo;simp only [Bool.and_eq_true,Bool.or_eq_true,decide_eq_true_eq,not_and,not_or] at hbo;exact hbo h9
 obtain ⟨⟨l,sg⟩,t⟩:=Q;simp only at HQ2 HQ3;clear h1 h2 h3 h4 h5 h15 h16 hR5 q1 q2 q3 hbo hlo;cases sg with
 | some sg =>
  have HR1:=hZz (HQ2.out sg rfl);clear HQ2 HQ3;by_cases h9:nk=9
  ·obtain ⟨ha1,ha2⟩:=hb9 h9
   have ha1':=zalZ ha1;have ha2':=zalZ ha2;subst h9;clear hb9
   go_wp2_with (first
    | (go_at_call 168;((with_reducible refine HQ1.out.mono ?_);rintro e w3 ⟨oA,oc,sv,rfl,ho,hsv,hx,hkx⟩;obtain ⟨T,pv,rfl⟩:=sig_some hsv;have HS:=hZz hsv;have HX:=hZz hx;have HK:=hZz hkx;have hne:=fun w=>ifc_ne T pv w;clear hsv hx hkx ho)))
   rw [← HP.out,HR1.out];exact ⟨.slice none 0 0,_,rfl,ValG.nil _ _,HS.out,HX.out,HK2.out.trans HK.out⟩
  ·have t9:(nk == 9)=false:=by rw [beq_eq_false_iff_ne];exact h9
   clear hb9 h9
   go_wp2_with (first
    | (go_at_call 168;((with_reducible refine HQ1.out.mono ?_);rintro e w3 ⟨oA,oc,sv,rfl,ho,hsv,hx,hkx⟩;obtain ⟨T,pv,rfl⟩:=sig_some hsv;have HS:=hZz hsv;have HX:=hZz hx;have HK:=hZz hkx;have hne:=fun w=>ifc_ne T pv w;clear hsv hx hkx ho)))
   rw [← HP.out,HR1.out];exact ⟨.slice none 0 0,_,rfl,ValG.nil _ _,HS.out,HX.out,HK2.out.trans HK.out⟩
 | none =>
  have HQA:=hZz (HQ3.out rfl);have hne:=fun w=>ifn_ne w
  clear HQ2 HQ3;by_cases h9:nk=9
  ·obtain ⟨ha1,ha2⟩:=hb9 h9
   have ha1':=zalZ ha1;have ha2':=zalZ ha2;subst h9;clear hb9
   go_wp2_with (first
    | (go_at_call 168;((with_reducible refine HQ1.out.mono ?_);rintro e w3 ⟨oA,oc,sv,rfl,ho,hsv,hx,hkx⟩;(have hsv':sv=.nilIface:=hsv);subst hsv';have HK:=hZz hkx;have x3:=blk5n (HE2.out.keep hkx HX2.out);have HAP:=hZz (HQA.out w3 _ _ hx ho);clear hsv hx hkx ho))
    | (go_at_call 169;((with_reducible refine HAP.out.mono ?_);rintro e w4 ⟨u,sv,rfl,hu,hsv,hx,hkx⟩;have HN3:=hZz ((NodeP.kx ⟨u,sv,rfl,hu,hsv,hx,hkx⟩ HK.out).kx HK2.out);clear hu hsv hx hkx)))
   rw [← HP.out];exact HN3.out
  ·have t9:(nk == 9)=false:=by rw [beq_eq_false_iff_ne];exact h9
   clear hb9 h9
   go_wp2_with (first
    | (go_at_call 168;((with_reducible refine HQ1.out.mono ?_);rintro e w3 ⟨oA,oc,sv,rfl,ho,hsv,hx,hkx⟩;(have hsv':sv=.nilIface:=hsv);subst hsv';have HK:=hZz hkx;have x3:=blk5n (HE2.out.keep hkx HX2.out);have HAP:=hZz (HQA.out w3 _ _ hx ho);clear hsv hx hkx ho))
    | (go_at_call 169;((with_reducible refine HAP.out.mono ?_);rintro e w4 ⟨u,sv,rfl,hu,hsv,hx,hkx⟩;have HN3:=hZz ((NodeP.kx ⟨u,sv,rfl,hu,hsv,hx,hkx⟩ HK.out).kx HK2.out);clear hu hsv hx hkx)))
   rw [← HP.out];exact HN3.out
theorem node_j {w0:World} {K:EvK} {C:EvC} (hH:EvH w0 K C):∀ g,g≤200000→∀ c,c≤16→NodeOk w0 K C (nodeJ C g c) c g:=by
 intro g;induction g with
 | zero =>
  intro _ c hc gv F k s w R h hk hf hl hR;simp only [nodeJ] at hR;cases hR
  exact node0 h (by omega)
 | succ g ih =>
  intro hg c hc gv F k s w R h hk hf hl hR;simp only [nodeJ] at hR;by_cases h0:s.fuel=0
  ·rw [if_pos h0] at hR
   cases hR
   exact node0 h h0
  ·rw [if_neg h0] at hR
   obtain ⟨n,hn⟩:∃ n,C.p.nodes[k]? = some n:=⟨_,List.getElem?_eq_getElem hk⟩
   rw [hn] at hR;simp only at hR;obtain ⟨hok,hR⟩:=stepJ_some hR;exact nodeJS hH (ih (by omega) c hc) (down_nodeJ C g) h hk hn (j:=s.fuel - 1) (by omega) (by omega) (by omega) (by omega) hl hc hok hR
end
end Go.Proofs.YtekdhlfapejijaaGreatDoor
