/- H13, H14, H15, H16, H17 -/
import Derived.Test.YtekdhlfapejijaaGreatDoorQH12
set_option linter.unusedVariables false
set_option linter.unusedSimpArgs false
namespace Go.Proofs.YtekdhlfapejijaaGreatDoor
open Go.RowKit
set_option maxRecDepth 100000
set_option maxHeartbeats 8000000
open Go.Proofs.Tryz
section
theorem RowG.at0 {w0 w:World} {base:Nat} {v:Value} {l:List ValD} (h:RowG w0 base w v l) (hl:0<l.length):∃ g cap,v=.slice (some ⟨g,0,none⟩) l.length cap∧l.length≤cap∧∀ j (hj:j<l.length),∃ A n c,w.cell? ⟨g,j,none⟩=some (.slice A n c)∧ValG w0 w (.slice A n c) l[j]:=by
 obtain ⟨us,ho,hul,huv⟩:=h;obtain ⟨g,cap,rfl,hx,hy⟩:=ho.form hl;refine ⟨g,cap,rfl,own_le ho,fun j hj=>?_⟩
 have hv:=huv j (by omega) hj;obtain ⟨A,n,c,e⟩:=hv.shape
 have:=ho.cells (g:=g) rfl j us[j] (List.getElem?_eq_getElem (by omega))
 rw [za0Y,Nat.zero_add] at this;exact ⟨A,n,c,by rw [this,e],by rw [← e];exact hv⟩
theorem RowG.ok {w0 w:World} {base:Nat} {v:Value} {l:List ValD} (h:RowG w0 base w v l):∀ x∈l,OkV x:=by
 obtain ⟨us,ho,hul,huv⟩:=h;intro x hx;obtain ⟨j,hj,e⟩:=mem_get hx;rw [← e];exact (huv j (by omega) hj).k.ok
theorem zbhY {w0 w w3 w4:World} {K:EvK} {C:EvC} {gv:Nat} {F:List Nat} {c:Nat} {s:EvS} {r:ResD} {A:Option Addr} {n cap:Nat} {sv:Value} (h:EvX w0 K C gv F c w s) (hv:ValG w0 w4 (.slice A n cap) (outF r).1) (hs:SigV w0 w4 sv (outF r).2) (hb:Below w.heap.size w w4):NodeP w0 K C gv F c w (outF r,s) (.returned (.tuple #[.slice A n cap,sv])) w4 :=
 ⟨_,_,rfl,hv,hs,h.below hb,KX.of_below hb⟩
attribute [local go_sem] zacZ
theorem apply_list {w0:World} {K:EvK} {C:EvC} (hH:EvH w0 K C) {gv:Nat} {F:List Nat} {c k L base:Nat} {n:NodeD} {kA iA:Option Addr} {kc ic:Nat} {l:List ValD} {av:Value} {s:EvS} {w:World} (h:EvX w0 K C gv F c w s) (ha:RowG w0 base w av l) (hl:l.length≤600) (hk:n.kind=6) :
  Calls prog 169 #[.pointer (some ⟨K.gx,0,none⟩),.int .i64 k,.agg (nodeC n kA kc iA ic),av,.slice (some ⟨gv,0,none⟩) L L] w (NodeP w0 K C gv F c w (outF (listR l),s)):=by
 obtain ⟨P,hP⟩:∃ P:Ending→World→Prop,NodeP w0 K C gv F c w (outF (listR l),s)=P:=⟨_,rfl⟩
 rw [hP];have HP:=hZz hP;have HE:=hZz h;have HV:Hid (∀ wx,Below w.heap.size w wx→Calls prog 93 #[av] wx (RetR wx [] (listR l))):=hZz (fun wx hb=>zc8Y l av wx ((ha.vals h.bel (by omega)).below hb) ((hH.pow.below h.bel).below hb) ha.ok (by omega));have HO:Hid (∀ u wx,ValT wx u (listR l).1→Calls prog 164 #[u,.int .i64 (listR l).2] wx (OutcP w0 wx (listR l))):=hZz (fun u wx hu=>zbgY w0 _ u wx hu (listR_ok l));obtain ⟨r,hr⟩:∃ r,listR l=r:=⟨_,rfl⟩
 rw [hr] at hP HP HV HO;obtain ⟨us,hao,hul,huv⟩:=ha;obtain ⟨aA,ac,rfl⟩:=zafZ hao;unfold nodeC;rw [hk];obtain ⟨am,ham⟩:∃ m,l.length=m:=⟨_,rfl⟩
 rw [ham] at HV ⊢;clear ham;have HB1:Hid (∀ o,Below w.heap.size w (w.alloc o)):=hZz (fun o=>zaaZ w o);clear hP h hao hul huv hH hl hk hr;go_enter func169,ntmps169
 go_wp2_with (first
  | (go_at_call 93;((with_reducible refine (HV.out _ (HB1.out _)).mono ?_);rintro e w2 ⟨u,rfl,hu,hf,hb2⟩;obtain ⟨uA,un,uc,rfl⟩:=hu.shape;have HU:=hZz (zbfY hu hf);have HB2:=hZz (zadZ hb2 (HB1.out _));clear hu hf hb2))
  | (go_at_call 164;((with_reducible refine (HO.out _ _ HU.out).mono ?_);rintro e w3 ⟨A3,n3,c3,sv,rfl,hv3,hs3,rfl⟩;have HV3:=hZz hv3;have HS3:=hZz hs3;clear hv3 hs3)))
 rw [← HP.out];exact zbhY (w3:=w2) HE.out HV3.out HS3.out HB2.out
theorem apply_map {w0:World} {K:EvK} {C:EvC} (hH:EvH w0 K C) {gv:Nat} {F:List Nat} {c k L base:Nat} {n:NodeD} {kA iA:Option Addr} {kc ic:Nat} {l:List ValD} {av:Value} {s:EvS} {w:World} (h:EvX w0 K C gv F c w s) (ha:RowG w0 base w av l) (hl:l.length≤600) (hk:n.kind=7) (hkv:KeysV w0 (.slice kA n.keys.length kc) n.keys) (hks:∀ x∈n.keys,x.size≤1000) :
  Calls prog 169 #[.pointer (some ⟨K.gx,0,none⟩),.int .i64 k,.agg (nodeC n kA kc iA ic),av,.slice (some ⟨gv,0,none⟩) L L] w (NodeP w0 K C gv F c w (outF (mapR n.keys l),s)):=by
 obtain ⟨P,hP⟩:∃ P:Ending→World→Prop,NodeP w0 K C gv F c w (outF (mapR n.keys l),s)=P:=⟨_,rfl⟩
 rw [hP];have HP:=hZz hP;have HE:=hZz h;have HV:Hid (∀ wx,Below w.heap.size w wx→Calls prog 219 #[.slice kA n.keys.length kc,av] wx (RetR wx [] (mapR n.keys l))):=hZz (fun wx hb=>vmap_any n.keys l _ av wx ((hkv.below h.bel).below hb) ((ha.vals h.bel (by omega)).below hb) ((hH.pow.below h.bel).below hb) ha.ok (fun x hx=>by have:=hks x hx;omega) (by omega));have HO:Hid (∀ u wx,ValT wx u (mapR n.keys l).1→Calls prog 164 #[u,.int .i64 (mapR n.keys l).2] wx (OutcP w0 wx (mapR n.keys l))):=hZz (fun u wx hu=>zbgY w0 _ u wx hu (mapR_ok _ l));obtain ⟨r,hr⟩:∃ r,mapR n.keys l=r:=⟨_,rfl⟩
 rw [hr] at hP HP HV HO;obtain ⟨us,hao,hul,huv⟩:=ha;obtain ⟨aA,ac,rfl⟩:=zafZ hao;unfold nodeC;rw [hk];obtain ⟨am,ham⟩:∃ m,l.length=m:=⟨_,rfl⟩
 rw [ham] at HV ⊢;obtain ⟨nq,hnq⟩:∃ m,n.keys.length=m:=⟨_,rfl⟩
 rw [hnq] at HV ⊢;clear ham hnq;have HB1:Hid (∀ o,Below w.heap.size w (w.alloc o)):=hZz (fun o=>zaaZ w o);clear hP h hao hul huv hH hl hk hr hks hkv;go_enter func169,ntmps169
 go_wp2_with (first
  | (go_at_call 219;((with_reducible refine (HV.out _ (HB1.out _)).mono ?_);rintro e w2 ⟨u,rfl,hu,hf,hb2⟩;obtain ⟨uA,un,uc,rfl⟩:=hu.shape;have HU:=hZz (zbfY hu hf);have HB2:=hZz (zadZ hb2 (HB1.out _));clear hu hf hb2))
  | (go_at_call 164;((with_reducible refine (HO.out _ _ HU.out).mono ?_);rintro e w3 ⟨A3,n3,c3,sv,rfl,hv3,hs3,rfl⟩;have HV3:=hZz hv3;have HS3:=hZz hs3;clear hv3 hs3)))
 rw [← HP.out];exact zbhY (w3:=w2) HE.out HV3.out HS3.out HB2.out
theorem apply_un {w0:World} {K:EvK} {C:EvC} (hH:EvH w0 K C) {gv:Nat} {F:List Nat} {c k L base:Nat} {n:NodeD} {kA iA:Option Addr} {kc ic:Nat} {l:List ValD} {av:Value} {s:EvS} {w:World} (h:EvX w0 K C gv F c w s) (ha:RowG w0 base w av l) (hl:l.length=1) (hk:n.kind=8) :
  Calls prog 169 #[.pointer (some ⟨K.gx,0,none⟩),.int .i64 k,.agg (nodeC n kA kc iA ic),av,.slice (some ⟨gv,0,none⟩) L L] w (NodeP w0 K C gv F c w (outF (unaryR n.text (l.getD 0 [])),s)):=by
 obtain ⟨P,hP⟩:∃ P:Ending→World→Prop,NodeP w0 K C gv F c w (outF (unaryR n.text (l.getD 0 [])),s)=P:=⟨_,rfl⟩
 rw [hP];have HP:=hZz hP;have HE:=hZz h;obtain ⟨g,cap,rfl,hcap,hat⟩:=ha.at0 (by omega);obtain ⟨A0,n0,k0,c0,hv0⟩:=hat 0 (by omega);have e0:l.getD 0 []=l[0]:=zacY (show 0<l.length by omega) [];rw [e0] at HP;have HV:Hid (∀ wx,Below w.heap.size w wx→Calls prog 11 #[.string n.text,.slice A0 n0 k0] wx (RetR wx [] (unaryR n.text l[0]))):=hZz (fun wx hb=>unary_any _ _ _ wx ((hv0.val h.bel).below hb) ((hH.pow.below h.bel).below hb) hv0.k.ok);have HO:Hid (∀ u wx,ValT wx u (unaryR n.text l[0]).1→Calls prog 164 #[u,.int .i64 (unaryR n.text l[0]).2] wx (OutcP w0 wx (unaryR n.text l[0]))):=hZz (fun u wx hu=>zbgY w0 _ u wx hu (unaryR_ok _ _));obtain ⟨r,hr⟩:∃ r,unaryR n.text l[0]=r:=⟨_,rfl⟩
 rw [hr] at HP HV HO;unfold nodeC;rw [hk,hl];generalize n.text=nt at *;have hcI:(1:Int)≤(cap:Int):=by omega
 have HB1:Hid (∀ o,Below w.heap.size w (w.alloc o).drew):=hZz (fun o=>(zaaZ w o).trans (Below.refl _ _).drew);clear hP h hH hl hk hr hat hv0 e0 ha;go_enter func169,ntmps169
 go_upto_region 7 with fail
 go_region_law (first
  | (go_simp;go_at_call 11;((refine (HV.out _ (HB1.out _)).mono ?_);rintro e w2 ⟨u,rfl,hu,hf,hb2⟩;obtain ⟨uA,un,uc,rfl⟩:=hu.shape;have HU:=hZz (zbfY hu hf);have HB2:=hZz (zadZ hb2 (HB1.out _));clear hu hf hb2))
  | (go_simp;go_at_call 164;((refine (HO.out _ _ HU.out).mono ?_);rintro e w3 ⟨A3,n3,c3,sv,rfl,hv3,hs3,rfl⟩;have HV3:=hZz hv3;have HS3:=hZz hs3;clear hv3 hs3)))
 all_goals
  go_simp;go_wp2_with (fail)
  rw [← HP.out];exact zbhY (w3:=w2) HE.out HV3.out HS3.out HB2.out
end
section
attribute [local go_sem] zacZ
theorem apply_bin {w0:World} {K:EvK} {C:EvC} (hH:EvH w0 K C) {gv:Nat} {F:List Nat} {c k L base:Nat} {n:NodeD} {kA iA:Option Addr} {kc ic:Nat} {l:List ValD} {av:Value} {s:EvS} {w:World} (h:EvX w0 K C gv F c w s) (ha:RowG w0 base w av l) (hl:l.length=2) (hk:n.kind=9) :
  Calls prog 169 #[.pointer (some ⟨K.gx,0,none⟩),.int .i64 k,.agg (nodeC n kA kc iA ic),av,.slice (some ⟨gv,0,none⟩) L L] w (NodeP w0 K C gv F c w (outF (binaryR n.text (l.getD 0 []) (l.getD 1 [])),s)):=by
 obtain ⟨P,hP⟩:∃ P:Ending→World→Prop,NodeP w0 K C gv F c w (outF (binaryR n.text (l.getD 0 []) (l.getD 1 [])),s)=P:=⟨_,rfl⟩
 rw [hP];have HP:=hZz hP;have HE:=hZz h;obtain ⟨g,cap,rfl,hcap,hat⟩:=ha.at0 (by omega);obtain ⟨A0,n0,k0,c0,hv0⟩:=hat 0 (by omega);obtain ⟨A1,n1,k1,c1,hv1⟩:=hat 1 (by omega);have e0:l.getD 0 []=l[0]:=zacY (show 0<l.length by omega) [];have e1:l.getD 1 []=l[1]:=zacY (show 1<l.length by omega) [];rw [e0,e1] at HP;have HV:Hid (∀ wx,Below w.heap.size w wx→Calls prog 13 #[.string n.text,.slice A0 n0 k0,.slice A1 n1 k1] wx (RetR wx [] (binaryR n.text l[0] l[1]))):=hZz (fun wx hb=>zbwY _ _ _ _ _ wx ((hv0.val h.bel).below hb) ((hv1.val h.bel).below hb) ((hH.pow.below h.bel).below hb) ((hH.maxl.below h.bel).below hb) hv0.k.ok hv1.k.ok);have HO:Hid (∀ u wx,ValT wx u (binaryR n.text l[0] l[1]).1→Calls prog 164 #[u,.int .i64 (binaryR n.text l[0] l[1]).2] wx (OutcP w0 wx (binaryR n.text l[0] l[1]))):=hZz (fun u wx hu=>zbgY w0 _ u wx hu (binaryR_ok _ _ _));obtain ⟨r,hr⟩:∃ r,binaryR n.text l[0] l[1]=r:=⟨_,rfl⟩
 rw [hr] at HP HV HO;unfold nodeC;rw [hk,hl];generalize n.text=nt at *;have hcI:(2:Int)≤(cap:Int):=by omega
 have HB1:Hid (∀ o,Below w.heap.size w (w.alloc o).drew):=hZz (fun o=>(zaaZ w o).trans (Below.refl _ _).drew);clear hP h hH hl hk hr hat hv0 e0 e1 hv1 ha;go_enter func169,ntmps169
 go_upto_region 9 with fail
 go_region_law (first
  | (go_simp;go_at_call 13;((refine (HV.out _ (HB1.out _)).mono ?_);rintro e w2 ⟨u,rfl,hu,hf,hb2⟩;obtain ⟨uA,un,uc,rfl⟩:=hu.shape;have HU:=hZz (zbfY hu hf);have HB2:=hZz (zadZ hb2 (HB1.out _));clear hu hf hb2))
  | (go_simp;go_at_call 164;((refine (HO.out _ _ HU.out).mono ?_);rintro e w3 ⟨A3,n3,c3,sv,rfl,hv3,hs3,rfl⟩;have HV3:=hZz hv3;have HS3:=hZz hs3;clear hv3 hs3)))
 all_goals
  go_simp;go_wp2_with (fail)
  rw [← HP.out];exact zbhY (w3:=w2) HE.out HV3.out HS3.out HB2.out
theorem apply_idx {w0:World} {K:EvK} {C:EvC} (hH:EvH w0 K C) {gv:Nat} {F:List Nat} {c k L base:Nat} {n:NodeD} {kA iA:Option Addr} {kc ic:Nat} {l:List ValD} {av:Value} {s:EvS} {w:World} (h:EvX w0 K C gv F c w s) (ha:RowG w0 base w av l) (hl:l.length=2) (hk:n.kind=10) :
  Calls prog 169 #[.pointer (some ⟨K.gx,0,none⟩),.int .i64 k,.agg (nodeC n kA kc iA ic),av,.slice (some ⟨gv,0,none⟩) L L] w (NodeP w0 K C gv F c w (outF (indexR (l.getD 0 []) (l.getD 1 [])),s)):=by
 obtain ⟨P,hP⟩:∃ P:Ending→World→Prop,NodeP w0 K C gv F c w (outF (indexR (l.getD 0 []) (l.getD 1 [])),s)=P:=⟨_,rfl⟩
 rw [hP];have HP:=hZz hP;have HE:=hZz h;obtain ⟨g,cap,rfl,hcap,hat⟩:=ha.at0 (by omega);obtain ⟨A0,n0,k0,c0,hv0⟩:=hat 0 (by omega);obtain ⟨A1,n1,k1,c1,hv1⟩:=hat 1 (by omega);have e0:l.getD 0 []=l[0]:=zacY (show 0<l.length by omega) [];have e1:l.getD 1 []=l[1]:=zacY (show 1<l.length by omega) [];rw [e0,e1] at HP;have HV:Hid (∀ wx,Below w.heap.size w wx→Calls prog 18 #[.slice A0 n0 k0,.slice A1 n1 k1] wx (RetT wx (indexR l[0] l[1]))):=hZz (fun wx hb=>index_any _ _ _ _ wx ((hv0.val h.bel).below hb) ((hv1.val h.bel).below hb) ((hH.pow.below h.bel).below hb) hv0.k.ok hv1.k.ok);have HO:Hid (∀ u wx,ValT wx u (indexR l[0] l[1]).1→Calls prog 164 #[u,.int .i64 (indexR l[0] l[1]).2] wx (OutcP w0 wx (indexR l[0] l[1]))):=hZz (fun u wx hu=>zbgY w0 _ u wx hu (indexR_ok _ _));obtain ⟨r,hr⟩:∃ r,indexR l[0] l[1]=r:=⟨_,rfl⟩
 rw [hr] at HP HV HO;unfold nodeC;rw [hk,hl];have hcI:(2:Int)≤(cap:Int):=by omega
 have HB1:Hid (∀ o,Below w.heap.size w (w.alloc o).drew):=hZz (fun o=>(zaaZ w o).trans (Below.refl _ _).drew);clear hP h hH hl hk hr hat hv0 e0 e1 hv1 ha;go_enter func169,ntmps169
 go_upto_region 11 with fail
 go_region_law (first
  | (go_simp;go_at_call 18;((refine (HV.out _ (HB1.out _)).mono ?_);rintro e w2 ⟨u,rfl,hu,hb2⟩;obtain ⟨uA,un,uc,rfl⟩:=hu.shape;have HU:=hZz hu;have HB2:=hZz (zadZ hb2 (HB1.out _));clear hu hb2))
  | (go_simp;go_at_call 164;((refine (HO.out _ _ HU.out).mono ?_);rintro e w3 ⟨A3,n3,c3,sv,rfl,hv3,hs3,rfl⟩;have HV3:=hZz hv3;have HS3:=hZz hs3;clear hv3 hs3)))
 all_goals
  go_simp;go_wp2_with (fail)
  rw [← HP.out];exact zbhY (w3:=w2) HE.out HV3.out HS3.out HB2.out
theorem NodeP.from {w0 w w1 w':World} {K:EvK} {C:EvC} {gv:Nat} {F:List Nat} {c:Nat} {R:(ValD × Option SigD) × EvS} {e:Ending} (h:NodeP w0 K C gv F c w1 R e w') (hb:Below w.heap.size w w1):NodeP w0 K C gv F c w R e w':=by
 obtain ⟨u,sv,h1,h2,h3,h4,h5⟩:=h;exact ⟨u,sv,h1,h2,h3,h4,(KX.of_below hb).trans h5⟩
theorem apply_host {w0:World} {K:EvK} {C:EvC} (hH:EvH w0 K C) {gv:Nat} {F:List Nat} {c k L base:Nat} {n:NodeD} {kA iA:Option Addr} {kc ic:Nat} {l:List ValD} {av:Value} {s:EvS} {w:World} (h:EvX w0 K C gv F c w s) (ha:RowG w0 base w av l) (hl:l.length≤600) (hk:n.kind=12) :
  Calls prog 169 #[.pointer (some ⟨K.gx,0,none⟩),.int .i64 k,.agg (nodeC n kA kc iA ic),av,.slice (some ⟨gv,0,none⟩) L L] w (NodeP w0 K C gv F c w (askF C n.text l s)):=by
 obtain ⟨R,hR⟩:∃ R,askF C n.text l s=R:=⟨_,rfl⟩
 have HC:Hid (∀ wx,Below w.heap.size w wx→Calls prog 220 #[.pointer (some ⟨K.gx,0,none⟩),.string n.text,av] wx (NodeP w0 K C gv F c wx R)):=hZz (fun wx hb=>by rw [← hR];exact ask_h hH (h.below hb) ((ha.vals h.bel (by omega)).below hb) hl);rw [hR];obtain ⟨P,hP⟩:∃ P:Ending→World→Prop,NodeP w0 K C gv F c w R=P:=⟨_,rfl⟩
 rw [hP];have HP:=hZz hP;obtain ⟨us,hao,hul,huv⟩:=ha;obtain ⟨aA,ac,rfl⟩:=zafZ hao;unfold nodeC;rw [hk];obtain ⟨am,ham⟩:∃ m,l.length=m:=⟨_,rfl⟩
 rw [ham] at HC ⊢;generalize n.text=nt at *;have HB1:Hid (∀ o,Below w.heap.size w (w.alloc o)):=hZz (fun o=>zaaZ w o);clear hP h hao hul huv hH hl hk hR ham;go_enter func169,ntmps169
 go_wp2_with (first
  | (go_at_call 220;((with_reducible refine (HC.out _ (HB1.out _)).mono ?_);rintro e w2 ⟨u,sv,rfl,hu,hsv,hx,hkx⟩;have HN2:=hZz (NodeP.from ⟨u,sv,rfl,hu,hsv,hx,hkx⟩ (HB1.out _));clear hu hsv hx hkx)))
 rw [← HP.out];exact HN2.out
theorem apply_ret {w0:World} {K:EvK} {C:EvC} {gv:Nat} {F:List Nat} {c k L base:Nat} {n:NodeD} {kA iA:Option Addr} {kc ic:Nat} {l:List ValD} {av:Value} {s:EvS} {w:World} (h:EvX w0 K C gv F c w s) (ha:RowG w0 base w av l) (hl:l.length=1) (hk:n.kind=17) :
  Calls prog 169 #[.pointer (some ⟨K.gx,0,none⟩),.int .i64 k,.agg (nodeC n kA kc iA ic),av,.slice (some ⟨gv,0,none⟩) L L] w (NodeP w0 K C gv F c w (([],some (.ret (l.getD 0 []))),s)):=by
 obtain ⟨P,hP⟩:∃ P:Ending→World→Prop,NodeP w0 K C gv F c w (([],some (.ret (l.getD 0 []))),s)=P:=⟨_,rfl⟩
 rw [hP];have HP:=hZz hP;have HE:=hZz h;obtain ⟨g,cap,rfl,hcap,hat⟩:=ha.at0 (by omega);obtain ⟨A0,n0,k0,c0,hv0⟩:=hat 0 (by omega);have e0:l.getD 0 []=l[0]:=zacY (show 0<l.length by omega) [];have HV:=hZz hv0;obtain ⟨x0,hx0⟩:∃ x,l[0]=x:=⟨_,rfl⟩
 rw [e0,hx0] at HP;rw [hx0] at HV;unfold nodeC;rw [hk,hl];have hcI:(1:Int)≤(cap:Int):=by omega
 have h01:(0:Int)<(1:Int):=by omega
 obtain ⟨W1,hW1⟩:∃ W,w.alloc (.cells #[.int .i64 17,.string n.text,.int .i64 n.int,.slice kA n.keys.length kc,.slice iA n.kids.length ic] 87)=W:=⟨_,rfl⟩
 have hb1:Below w.heap.size w W1:=by rw [← hW1];exact zaaZ _ _
 have HB1:=hZz hb1;have HW1:=hZz hW1;have HC0:=hZz c0;clear hP h hk hat hv0 e0 hx0 ha hW1 hb1 hl;go_enter func169,ntmps169
 go_upto_region 18 with fail
 rw [HW1.out];have c1:=(HB1.out.cell (bLZ HC0.out)).trans HC0.out;clear c0;go_quiet (fail);go_wp2_with (fail)
 rw [← HP.out];have hbq:Below w.heap.size w (W1.drewN nq):=zagZ HB1.out nq;exact ⟨.slice none 0 0,_,rfl,ValG.nil _ _,⟨_,rfl,HV.out.below hbq⟩,HE.out.below hbq,KX.of_below hbq⟩
theorem apply_none {w0:World} {K:EvK} {C:EvC} {gv:Nat} {F:List Nat} {c k L base:Nat} {n:NodeD} {kA iA:Option Addr} {kc ic:Nat} {l:List ValD} {av:Value} {s:EvS} {w:World} (h:EvX w0 K C gv F c w s) (ha:RowG w0 base w av l) (hk:n.kind=18∨n.kind=19) :
  Calls prog 169 #[.pointer (some ⟨K.gx,0,none⟩),.int .i64 k,.agg (nodeC n kA kc iA ic),av,.slice (some ⟨gv,0,none⟩) L L] w (NodeP w0 K C gv F c w (([],none),s)):=by
 obtain ⟨P,hP⟩:∃ P:Ending→World→Prop,NodeP w0 K C gv F c w (([],none),s)=P:=⟨_,rfl⟩
 rw [hP];have HP:=hZz hP;have HE:=hZz h;obtain ⟨us,hao,hul,huv⟩:=ha;obtain ⟨aA,ac,rfl⟩:=zafZ hao;have HB1:Hid (∀ o,Below w.heap.size w (w.alloc o)):=hZz (fun o=>zaaZ w o);unfold nodeC;clear hP h hao hul huv;rcases hk with hk | hk
 all_goals
  rw [hk];clear hk;go_enter func169,ntmps169
  go_wp2_with (fail)
  rw [← HP.out];exact ⟨.slice none 0 0,_,rfl,ValG.nil _ _,rfl,HE.out.below (HB1.out _),KX.of_below (HB1.out _)⟩
end
section
attribute [local go_sem] zacZ
theorem apply1_h (n:ByteArray) (kA:Option Addr) (m kc:Nat) (body:Int) (g:Nat) (w:World) {v0 v2 v3 v4:Value} {s:ByteArray} (h:Blk w g 87 #[v0,.string s,v2,v3,v4]):Calls prog 221 #[.agg #[.string n,.slice kA m kc,.int .i64 body],.pointer (some ⟨g,0,none⟩)] w fun e w'=>e=.returned (.bool (decide (n=s)))∧Below w.heap.size w w':=by
 rw [← zdiY];have HB:=hZz (zaaZ w (.cells #[.string n,.slice kA m kc,.int .i64 body] 89));have c0:=h.cell 1 (.string s) rfl;clear h;go_enter func221,ntmps221
 go_wp2
 all_goals (go_returns;exact ⟨by first | rfl | simp_all,HB.out⟩)
theorem findF_idx (p:ProgD) (s:ByteArray):findF p s=idxI (p.funcs.findIdx? fun f=>decide (f.name=s)):=by
 unfold findF idxI;cases p.funcs.findIdx? fun f=>decide (f.name=s) <;> rfl
theorem apply_call {fB:Nat} {w0:World} {K:EvK} {C:EvC} (hH:EvH w0 K C) {N:Nat→EvN} {c:Nat} (hN:c≠16→NodeOk w0 K C (N (c+1)) (c+1) fB) (hD:DownN (N (c+1))) {gv:Nat} {F:List Nat} {k L base:Nat} {n:NodeD} {kA iA:Option Addr} {kc ic:Nat} {l:List ValD} {av:Value} {s:EvS} {w:World} {R} (h:EvX w0 K C gv F c w s) (ha:RowG w0 base w av l) (hl:l.length≤600) (hk:n.kind=11) (hfu:s.fuel≤fB) (hc:c≤16)
  (hR:(if 0≤findF C.p n.text then callF C N c (findF C.p n.text).toNat l s else some (outF (builtinR n.text l),s))=some R) :
  Calls prog 169 #[.pointer (some ⟨K.gx,0,none⟩),.int .i64 k,.agg (nodeC n kA kc iA ic),av,.slice (some ⟨gv,0,none⟩) L L] w (NodeP w0 K C gv F c w R):=by
 obtain ⟨P,hP⟩:∃ P:Ending→World→Prop,NodeP w0 K C gv F c w R=P:=⟨_,rfl⟩
 rw [hP];have HP:=hZz hP;have HE:=hZz h;unfold nodeC;rw [hk];obtain ⟨W1,hW1⟩:∃ W,w.alloc (.cells #[.int .i64 11,.string n.text,.int .i64 n.int,.slice kA n.keys.length kc,.slice iA n.kids.length ic] 87)=W:=⟨_,rfl⟩
 obtain ⟨gn,hgn⟩:∃ g,w.heap.size=g:=⟨_,rfl⟩
 have hb1:Below w.heap.size w W1:=by rw [← hW1];exact zaaZ _ _
 have hX1:Blk W1 gn 87 #[.int .i64 11,.string n.text,.int .i64 n.int,.slice kA n.keys.length kc,.slice iA n.kids.length ic]:=by rw [← hW1,← hgn];exact Blk.new _ _ _
 have hent:∀ args w,(callFunc 221 args).run prog w=.ok (.enter 221 args) w:=enters_of func221 (by kernel_rfl) rfl
 have hbel:=h.bel
 have HIX:Hid (Calls prog 69 #[.slice K.S.B K.S.p.funcs.length K.S.fcap,.func (.func 221) #[] #[.pointer (some ⟨gn,0,none⟩)]] W1 fun e w'=>e=.returned (.int .i64 (findF C.p n.text))∧Below W1.heap.size W1 w'):=hZz (by
  have:=zcpY K.S.p.funcs K.S.B K.S.fcap 221 #[.pointer (some ⟨gn,0,none⟩)] (fun f=>decide (f.name=n.text)) w0 W1 hH.prog.funcs (hbel.trans (hb1.mono hbel.size)) (by rw [hH.p];have:=hH.funcs;omega) hent (fun j hj wx kA kc hb=>apply1_h _ kA _ kc _ gn wx (hX1.below hb))
  rw [← findF_idx,hH.p] at this;rw [hH.p];exact this)
 obtain ⟨qv,avs,vs,hm⟩:=h;have x1:=(hm.below hb1).ex.cell 1 _ rfl;obtain ⟨f,hf⟩:∃ f,findF C.p n.text=f:=⟨_,rfl⟩
 rw [hf] at HIX hR;have HF:=hZz hf;have HCA:Hid (∀ j:Nat,f=(j:Int)→callF C N c j l s=some R→∀ wx,Below w.heap.size w wx→Calls prog 71 #[.pointer (some ⟨K.gx,0,none⟩),.int .i64 j,av] wx (NodeP w0 K C gv F c wx R)):=hZz (fun j hj hR wx hb=>call_h hH hN hD (HE.out.below hb) (by have:=zdfY (p:=C.p) (s:=n.text) (by rw [HF.out];omega);rw [HF.out,hj,Int.toNat_natCast] at this;exact this) (ha.below hb) hl hfu hc hR);have HBU:Hid (∀ wx,Below w.heap.size w wx→Calls prog 16 #[.string n.text,av] wx (RetR wx [] (builtinR n.text l))):=hZz (fun wx hb=>builtin_any _ _ _ wx ((ha.vals hbel (by omega)).below hb) ((hH.pow.below hbel).below hb) ((hH.sent.below hbel).below hb) ha.ok);have HO:Hid (∀ u wx,ValT wx u (builtinR n.text l).1→Calls prog 164 #[u,.int .i64 (builtinR n.text l).2] wx (OutcP w0 wx (builtinR n.text l))):=hZz (fun u wx hu=>zbgY w0 _ u wx hu (builtinR_ok _ _));obtain ⟨r,hr⟩:∃ r,builtinR n.text l=r:=⟨_,rfl⟩
 rw [hr] at HBU HO hR;obtain ⟨us,hao,hul,huv⟩:=ha;obtain ⟨aA,ac,rfl⟩:=zafZ hao;obtain ⟨am,ham⟩:∃ m,l.length=m:=⟨_,rfl⟩
 rw [ham] at HCA HBU ⊢;have HB1:=hZz hb1;have HX1:=hZz hX1;have HGN:=hZz hgn;have HW1:=hZz hW1;generalize n.text=nt at *;clear hP hm hao hul huv hH hl hk hr ham hb1 hX1 hgn hW1 hf hN hD hfu hc hbel hent;by_cases h0:0≤f
 ·rw [if_pos h0] at hR
  obtain ⟨j,rfl⟩:∃ j:Nat,f=(j:Int):=⟨f.toNat,by omega⟩
  rw [Int.toNat_natCast] at hR;have HC2:=hZz (HCA.out j rfl hR);clear HCA hR HBU HO;go_enter func169,ntmps169
  go_upto_region 20 with fail
  rw [HGN.out,HW1.out];clear HGN HW1
  go_wp2_with (first
   | (go_at_call 69;((with_reducible refine HIX.out.mono ?_);rintro e w2 ⟨rfl,hb2⟩;have HB2:=hZz (zadZ hb2 HB1.out);clear hb2))
   | (go_at_call 71;((with_reducible refine (HC2.out _ HB2.out).mono ?_);rintro e w3 ⟨u,sv,rfl,hu,hsv,hx,hkx⟩;have HN3:=hZz (NodeP.from ⟨u,sv,rfl,hu,hsv,hx,hkx⟩ HB2.out);clear hu hsv hx hkx)))
  rw [← HP.out];exact HN3.out
 ·rw [if_neg h0] at hR
  have HR:Hid (R=(outF r,s)):=hZz (by injection hR with hR;exact hR.symm);clear HCA hR;go_enter func169,ntmps169
  go_upto_region 20 with fail
  rw [HGN.out,HW1.out];clear HGN HW1
  go_wp2_with (first
   | (go_at_call 69;((with_reducible refine HIX.out.mono ?_);rintro e w2 ⟨rfl,hb2⟩;have HX2:=hZz (HX1.out.below hb2);have y1:=HX2.out.cell 1 _ rfl;have HB2:=hZz (zadZ hb2 HB1.out);clear hb2))
   | (go_at_call 16;((with_reducible refine (HBU.out _ HB2.out).mono ?_);rintro e w3 ⟨u,rfl,hu,hfc,hb3⟩;obtain ⟨uA,un,uc,rfl⟩:=hu.shape;have HU:=hZz (zbfY hu hfc);have HB3:=hZz (zadZ hb3 HB2.out);clear hu hfc hb3))
   | (go_at_call 164;((with_reducible refine (HO.out _ _ HU.out).mono ?_);rintro e w4 ⟨A3,n3,c3,sv,rfl,hv3,hs3,rfl⟩;have HV3:=hZz hv3;have HS3:=hZz hs3;clear hv3 hs3)))
  rw [← HP.out,HR.out];exact zbhY (w3:=w3) HE.out HV3.out HS3.out HB3.out
theorem apply_set {w0:World} {K:EvK} {C:EvC} (hH:EvH w0 K C) {gv:Nat} {F:List Nat} {c k base:Nat} {n:NodeD} {kA iA:Option Addr} {kc ic:Nat} {l:List ValD} {av:Value} {s:EvS} {w:World} {R} (h:EvX w0 K C gv F c w s) (ha:RowG w0 base w av l) (hl:l.length=1) (hk:n.kind=13∨n.kind=14) (hkn:k<C.p.nodes.length) (hvl:s.vars.length≤1000) (hR:setF C k (l.getD 0 []) s=some R) :
  Calls prog 169 #[.pointer (some ⟨K.gx,0,none⟩),.int .i64 k,.agg (nodeC n kA kc iA ic),av,.slice (some ⟨gv,0,none⟩) s.vars.length s.vars.length] w (NodeP w0 K C gv F c w R):=by
 obtain ⟨P,hP⟩:∃ P:Ending→World→Prop,NodeP w0 K C gv F c w R=P:=⟨_,rfl⟩
 rw [hP];have HP:=hZz hP;obtain ⟨g,cap,rfl,hcap,hat⟩:=ha.at0 (by omega);obtain ⟨A0,n0,k0,c0,hv0⟩:=hat 0 (by omega);have e0:l.getD 0 []=l[0]:=zacY (show 0<l.length by omega) [];have HV:=hZz hv0;obtain ⟨x0,hx0⟩:∃ x,l[0]=x:=⟨_,rfl⟩
 rw [e0,hx0] at hR;rw [hx0] at HV;have hks:k<C.slots.length:=by rw [hH.slen];exact hkn
 unfold setF at hR;rw [List.getElem?_eq_getElem hks] at hR;simp only at hR;obtain ⟨bs,os,hsA,hbs⟩:=hH.sl.ptr hks;have hsq:=hH.sl;rw [hsA] at hsq;have cs:=hsq.cell0 hks (v:=.int .i64 C.slots[k]) rfl;clear hsq;obtain ⟨sl,hsl⟩:∃ x,C.slots[k]=x:=⟨_,rfl⟩
 rw [hsl] at hR cs;simp only [Nat.mul_one] at cs;split at hR
 ·rename_i hin
  obtain ⟨j,rfl⟩:∃ j:Nat,sl=(j:Int):=⟨sl.toNat,by omega⟩
  rw [Int.toNat_natCast] at hR;have HR:Hid (R=(([],none),{ s with vars:=s.vars.set j x0 })):=hZz (by injection hR with hR;exact hR.symm);obtain ⟨qv,avs,vs,hm⟩:=h;unfold nodeC;have hj:j<s.vars.length:=by omega
  have hjv:j<vs.length:=by rw [hm.vl];exact hj
  rcases hk with hk | hk
  all_goals
   rw [hk,hl];obtain ⟨W1,hW1⟩:∃ W,w.alloc (.cells #[.int .i64 n.kind,.string n.text,.int .i64 n.int,.slice kA n.keys.length kc,.slice iA n.kids.length ic] 87)=W:=⟨_,rfl⟩
   rw [hk] at hW1;have hb1:Below w.heap.size w W1:=by rw [← hW1];exact zaaZ _ _
   have hm1:=hm.below hb1;have HM1:=hZz hm1;have HB1:=hZz hb1;have HW1:=hZz hW1;have x2:=hm1.ex.cell 2 _ rfl;rw [hsA] at x2;have y0:=(hm1.bel.cell hbs).trans cs;have d0:=(hb1.cell (bLZ c0)).trans c0;have v0:=hm1.vb.cell j vs[j] (by simp [hjv]);have z0:=hm1.vb.frozen j;obtain ⟨vA,vn,vc,hve⟩:=(hm1.vv j hjv hj).shape;rw [hve] at v0;have hjI:(j:Int)<(s.vars.length:Int):=by omega
   have hj0:(0:Int)≤(j:Int):=by omega
   have hkI:(k:Int)<(C.slots.length:Int):=by omega
   have hk0:(0:Int)≤(k:Int):=by omega
   have hcI:(1:Int)≤(cap:Int):=by omega
   generalize s.vars.length=L at hjI;generalize C.slots.length=ns at x2 hkI;clear hP hm hm1 hb1 hW1 hat c0 hv0 e0 hx0 ha hR hin hks hbs cs hsA hsl hk hH hve hjv hl hkn hj hcap;go_enter func169,ntmps169
   go_upto_region 16 with fail
   rw [HW1.out];clear HW1;go_region
   all_goals
    go_wp2_with (fail)
    rw [← HP.out,HR.out];have hset:=HM1.out.setVar j (.slice A0 n0 k0) (HV.out.below HB1.out);have hkx:=(KX.of_below (gx:=K.gx) (gv:=gv) HB1.out).trans (KX.set HM1.out.vb (by decide) (.inr rfl) j (.slice A0 n0 k0));exact ⟨.slice none 0 0,_,rfl,ValG.nil _ _,rfl,⟨_,_,_,hset.below (zaeZ _)⟩,hkx.trans (KX.of_below (zaeZ _))⟩
 ·cases hR
end
theorem apply_h {fB:Nat} {w0:World} {K:EvK} {C:EvC} (hH:EvH w0 K C) {N:Nat→EvN} {c:Nat} (hN:c≠16→NodeOk w0 K C (N (c+1)) (c+1) fB) (hD:∀ c,DownN (N c)) {gv:Nat} {F:List Nat} {k base:Nat} {n:NodeD} {kA iA:Option Addr} {kc ic:Nat} {l:List ValD} {av:Value} {s:EvS} {w:World} {R} (h:EvX w0 K C gv F c w s) (ha:RowG w0 base w av l) (hll:l.length=n.kids.length) (hn:n∈C.p.nodes) (hkn:k<C.p.nodes.length)
  (hkv:KeysV w0 (.slice kA n.keys.length kc) n.keys) (hx:¬ (n.kind≤5∨n.kind=15∨n.kind=16)) (hfu:s.fuel≤fB) (hvl:s.vars.length≤1000) (hc:c≤16) (hR:applyF C N c k n l s=some R) :
  Calls prog 169 #[.pointer (some ⟨K.gx,0,none⟩),.int .i64 k,.agg (nodeC n kA kc iA ic),av,.slice (some ⟨gv,0,none⟩) s.vars.length s.vars.length] w (NodeP w0 K C gv F c w R):=by
 have hcnt:=hH.count n hn;obtain ⟨hk1,hk2,hk3,hk4,hk5⟩:=hH.kids n hn;unfold applyF at hR;by_cases h6:n.kind=6
 ·rw [if_pos h6] at hR;cases hR;exact apply_list hH h ha (by omega) h6
 rw [if_neg h6] at hR;by_cases h7:n.kind=7
 ·rw [if_pos h7] at hR;cases hR;exact apply_map hH h ha (by omega) h7 hkv hk5
 rw [if_neg h7] at hR;by_cases h8:n.kind=8
 ·rw [if_pos h8] at hR;cases hR;exact apply_un hH h ha (by rw [hll];exact cnt_one hcnt (by omega)) h8
 rw [if_neg h8] at hR;by_cases h9:n.kind=9
 ·rw [if_pos h9] at hR;cases hR;exact apply_bin hH h ha (by rw [hll];exact cnt_two hcnt (by omega)) h9
 rw [if_neg h9] at hR;by_cases h10:n.kind=10
 ·rw [if_pos h10] at hR;cases hR;exact apply_idx hH h ha (by rw [hll];exact cnt_two hcnt (by omega)) h10
 rw [if_neg h10] at hR;by_cases h12:n.kind=12
 ·rw [if_pos h12] at hR;cases hR;exact apply_host hH h ha (by omega) h12
 rw [if_neg h12] at hR;by_cases h13:n.kind=13∨n.kind=14
 ·rw [if_pos h13] at hR;exact apply_set hH h ha (by rw [hll];exact cnt_one hcnt (by omega)) h13 hkn hvl hR
 rw [if_neg h13] at hR;by_cases h17:n.kind=17
 ·rw [if_pos h17] at hR;cases hR;exact apply_ret h ha (by rw [hll];exact cnt_one hcnt (by omega)) h17
 rw [if_neg h17] at hR;by_cases h11:n.kind=11
 ·rw [if_pos h11] at hR;exact apply_call hH hN (hD _) h ha (by omega) h11 hfu hc hR
 rw [if_neg h11] at hR;cases hR
 have:=cnt_kind hcnt
 exact apply_none h ha (by omega)
theorem all_len {N:EvN}:∀ (r:List Int) (out:List ValD) (s:EvS) (R),allF N r out s=some R→R.1.2=none→R.1.1.length=out.length+r.length:=by
 intro r;induction r with
 | nil=>intro out s R h _;simp only [allF] at h;cases h;simp
 | cons k r ih =>
  intro out s R h hn;simp only [allF] at h;cases hR:N k.toNat s with
  | none=>rw [hR] at h;cases h
  | some Q =>
   obtain ⟨⟨v,g⟩,t⟩:=Q;rw [hR] at h;cases g with
   | none=>rw [ih _ _ _ h hn,List.length_append];simp;omega
   | some g=>cases h;cases hn
theorem NodeP.kx {w0 w w1 w':World} {K:EvK} {C:EvC} {gv:Nat} {F:List Nat} {c:Nat} {R:(ValD × Option SigD) × EvS} {e:Ending} (h:NodeP w0 K C gv F c w1 R e w') (hk:KX K.gx gv w w1):NodeP w0 K C gv F c w R e w':=by
 obtain ⟨u,sv,h1,h2,h3,h4,h5⟩:=h;exact ⟨u,sv,h1,h2,h3,h4,hk.trans h5⟩
theorem tail_h {fB:Nat} {w0:World} {K:EvK} {C:EvC} (hH:EvH w0 K C) {N:Nat→EvN} {c g:Nat} (hN:NodeOk w0 K C (N c) c fB) (hN1:c≠16→NodeOk w0 K C (N (c+1)) (c+1) fB) (hD:∀ c,DownN (N c)) {gv:Nat} {F:List Nat} {k:Nat} {n:NodeD} {kA iA:Option Addr} {kc ic:Nat} {s:EvS} {R} (hn:n∈C.p.nodes) (hkn:k<C.p.nodes.length)
  (hkv:KeysV w0 (.slice kA n.keys.length kc) n.keys) (hi:IntsV w0 (.slice iA n.kids.length ic) n.kids) (hfu:s.fuel≤fB) (hvl:s.vars.length≤1000) (hc:c≤16) (hx:¬ (n.kind≤5∨n.kind=15∨n.kind=16)) (hR:thenF C N c k n (allF (N c) n.kids [] s)=some R) :
  ∃ Q,(∀ W,EvX w0 K C gv F c W s→Calls prog 168 #[.pointer (some ⟨K.gx,0,none⟩),.slice iA n.kids.length ic,.slice (some ⟨gv,0,none⟩) s.vars.length s.vars.length] W (AllP w0 K C gv F c W Q)) ∧
   (∀ g,Q.1.2=some g→R=(([],some g),Q.2)) ∧
   (Q.1.2=none→∀ W av base,EvX w0 K C gv F c W Q.2→RowG w0 base W av Q.1.1→Calls prog 169 #[.pointer (some ⟨K.gx,0,none⟩),.int .i64 k,.agg (nodeC n kA kc iA ic),av,.slice (some ⟨gv,0,none⟩) s.vars.length s.vars.length] W (NodeP w0 K C gv F c W R)):=by
 cases hQ:allF (N c) n.kids [] s with
 | none=>rw [hQ] at hR;cases hR
 | some Q =>
  obtain ⟨hk1,_,hk3,_⟩:=hH.kids n hn;refine ⟨Q,fun W hW=>all_h hN (hD c) hW hi hk3 hk1 hfu hvl hQ,fun g hg=>?_,fun hnone W av base hW ha=>?_⟩
  ·obtain ⟨⟨l,g'⟩,t⟩:=Q
   simp only at hg;subst hg;rw [hQ] at hR;cases hR;rfl
  ·have hd:=down_all (hD c) _ _ _ _ hQ
   have hlen:=all_len _ _ _ _ hQ hnone;obtain ⟨⟨l,g'⟩,t⟩:=Q;simp only at hnone;subst hnone;rw [hQ] at hR;have h1:=hd.fuel;have h2:=hd.len;simp only at h1 h2 hlen
   have:=apply_h hH hN1 hD (kA:=kA) (iA:=iA) (kc:=kc) (ic:=ic) hW ha (by simpa using hlen) hn hkn hkv hx (by simp only;omega) (by simp only;omega) hc hR
   simp only at this;rw [h2] at this;exact this
section
attribute [local go_sem] zacZ
set_option maxHeartbeats 4000000 in
theorem node0 {w0:World} {K:EvK} {C:EvC} {gv:Nat} {F:List Nat} {c k L:Nat} {s:EvS} {w:World} (h:EvX w0 K C gv F c w s) (h0:s.fuel=0) :
  Calls prog 116 #[.pointer (some ⟨K.gx,0,none⟩),.int .i64 k,.slice (some ⟨gv,0,none⟩) L L] w (NodeP w0 K C gv F c w (([],some (.fail 15)),s)):=by
 obtain ⟨P,hP⟩:∃ P:Ending→World→Prop,NodeP w0 K C gv F c w (([],some (.fail 15)),s)=P:=⟨_,rfl⟩
 rw [hP];have HP:=hZz hP;have HE:=hZz h;have x6:=h.fuel;rw [h0] at x6;clear hP h h0;go_enter func116,ntmps116
 go_wp2_with (fail)
 rw [← HP.out];exact ⟨.slice none 0 0,_,rfl,ValG.nil _ _,rfl,HE.out,KX.refl _ _ _⟩
theorem EvX.cells {w0 w:World} {K:EvK} {C:EvC} {gv:Nat} {F:List Nat} {c:Nat} {s:EvS} (h:EvX w0 K C gv F c w s):w.cell? ⟨K.gx,0,none⟩=some (.slice K.S.A K.S.p.nodes.length K.S.ncap)∧w.cell? ⟨K.gx,2,none⟩=some (.slice K.sA C.slots.length K.sc)∧w.frozen? ⟨K.gx,6,none⟩=false:=by
 obtain ⟨_,_,_,h⟩:=h;exact ⟨h.ex.cell 0 _ rfl,h.ex.cell 2 _ rfl,h.ex.frozen 6⟩
theorem EvX.var {w0 w:World} {K:EvK} {C:EvC} {gv:Nat} {F:List Nat} {c:Nat} {s:EvS} (h:EvX w0 K C gv F c w s) {j:Nat} (hj:j<s.vars.length):∃ A n cap,w.cell? ⟨gv,j,none⟩=some (.slice A n cap)∧ValG w0 w (.slice A n cap) (s.vars.getD j []):=by
 obtain ⟨_,_,vs,h⟩:=h;have hjv:j<vs.length:=by rw [h.vl];exact hj
 have hv:=h.vv j hjv hj;obtain ⟨A,n,cap,e⟩:=hv.shape;refine ⟨A,n,cap,?_,?_⟩
 ·rw [← e];exact h.vb.cell j vs[j] (by simp [hjv])
 ·rw [← e,zacY hj];exact hv
theorem EvX.spend {w0 w:World} {K:EvK} {C:EvC} {gv:Nat} {F:List Nat} {c:Nat} {s:EvS} (h:EvX w0 K C gv F c w s) (n:Nat):EvX w0 K C gv F c (w.setCell ⟨K.gx,6,none⟩ (.int .i64 n)) { s with fuel:=n }∧KX K.gx gv w (w.setCell ⟨K.gx,6,none⟩ (.int .i64 n)):=by
 obtain ⟨a,b,d,h⟩:=h;exact ⟨⟨a,b,d,h.setFuel n⟩,KX.set h.ex (by decide) (.inl rfl) 6 _⟩
theorem fields_int {n:NodeD} (h:fieldsB n=true) (hk:n.kind=3):0≤n.int∧n.int≤1000000000000:=by
 unfold fieldsB at h;rw [hk] at h;simp at h
 omega
theorem kind_far {nk:Int} (h:¬ (nk≤5∨nk=15∨nk=16)):(nk == 1)=false∧(nk == 2)=false∧(nk == 3)=false∧(nk == 4)=false∧(nk == 5)=false∧(nk == 15)=false∧(nk == 16)=false:=by
 refine ⟨?_,?_,?_,?_,?_,?_,?_⟩ <;> (rw [beq_eq_false_iff_ne];omega)
set_option maxHeartbeats 16000000 in
theorem nodeS {fB:Nat} {w0:World} {K:EvK} {C:EvC} (hH:EvH w0 K C) {N:Nat→EvN} {c g:Nat} (hN:NodeOk w0 K C (N c) c fB) (hN1:c≠16→NodeOk w0 K C (N (c+1)) (c+1) fB) (hD:∀ c,DownN (N c)) {gv:Nat} {F:List Nat} {k:Nat} {s:EvS} {w:World} {j:Nat} {n:NodeD} {R} (h:EvX w0 K C gv F c w s) (hkn:k<C.p.nodes.length) (hn:C.p.nodes[k]? = some n) (hj:s.fuel=j+1) (hjb:j≤fB) (hjg:j≤g) (hj2:j≤200000) (hvl:s.vars.length≤1000) (hc:c≤16) (hR:stepN C N g c k n { s with fuel:=j }=some R) :
  Calls prog 116 #[.pointer (some ⟨K.gx,0,none⟩),.int .i64 k,.slice (some ⟨gv,0,none⟩) s.vars.length s.vars.length] w (NodeP w0 K C gv F c w R):=by
 obtain ⟨P,hP⟩:∃ P:Ending→World→Prop,NodeP w0 K C gv F c w R=P:=⟨_,rfl⟩
 rw [hP];have HP:=hZz hP;have hmem:n∈C.p.nodes:=List.mem_of_getElem? hn;have hkS:k<K.S.p.nodes.length:=by rw [hH.p];exact hkn
 obtain ⟨nb,no,kA,kc,iA,ic,hA,hbN,c0,c1,c2,c3,c4,hkv,hiv⟩:=zduY hH.prog.nodes hkS
 have hne:K.S.p.nodes[k]=n:=by
  have:=(List.getElem?_eq_some_iff.1 hn).2
  rw [← this];congr 1
  rw [hH.p]
 rw [hne] at c0 c1 c2 c3 c4 hkv hiv;have x6:=h.fuel;rw [hj] at x6;have ej:((j+1:Nat):Int)=(j:Int)+1:=by omega
 rw [ej] at x6;obtain ⟨x0,x2,z6⟩:=h.cells;rw [hA] at x0;obtain ⟨hs1,hk1⟩:=h.spend j;obtain ⟨s1,es1⟩:∃ s1:EvS,{ s with fuel:=j }=s1:=⟨_,rfl⟩
 rw [es1] at hs1 hR;have e1v:s1.vars=s.vars:=by rw [← es1]
 have e1f:s1.fuel=j:=by rw [← es1]
 obtain ⟨W1,hW1⟩:∃ W,w.setCell ⟨K.gx,6,none⟩ (.int .i64 (j:Int))=W:=⟨_,rfl⟩
 rw [hW1] at hs1 hk1;obtain ⟨W2,hW2⟩:∃ W,W1.alloc (.cells #[.int .i64 n.kind,.string n.text,.int .i64 n.int,.slice kA n.keys.length kc,.slice iA n.kids.length ic] 87)=W:=⟨_,rfl⟩
 obtain ⟨gn,hgn⟩:∃ g,W1.heap.size=g:=⟨_,rfl⟩
 have hb2:Below W1.heap.size W1 W2:=by rw [← hW2];exact zaaZ _ _
 have HX2:Hid (Blk W2 gn 87 #[.int .i64 n.kind,.string n.text,.int .i64 n.int,.slice kA n.keys.length kc,.slice iA n.kids.length ic]):=hZz (by rw [← hW2,← hgn];exact Blk.new _ _ _);have HE2:=hZz (hs1.below hb2);have HK2:=hZz (hk1.trans (KX.of_below hb2));have d0:=(hs1.bel.cell hbN).trans c0;have d1:=(hs1.bel.cell hbN).trans c1;have d2:=(hs1.bel.cell hbN).trans c2;have d3:=(hs1.bel.cell hbN).trans c3;have d4:=(hs1.bel.cell hbN).trans c4;obtain ⟨y0,y2,_⟩:=hs1.cells;rw [hA] at y0;have HW1:=hZz hW1;have HW2:=hZz hW2;have HGN:=hZz hgn;have hj0:(0:Int)≤(j:Int):=by omega
 have hj9:(j:Int)≤200000:=by omega
 have hkI:(k:Int)<(K.S.p.nodes.length:Int):=by omega
 have hk0:(0:Int)≤(k:Int):=by omega
 have HH:=hZz hH;have HN:=hZz hN;have HN1:=hZz hN1;have HD:=hZz hD;have HMEM:=hZz hmem;have HKV:=hZz hkv;have HIV:=hZz hiv;have HV1:=hZz e1v;have HF1:=hZz e1f;have HJB:=hZz hjb;have HJG:=hZz hjg;have HVL:=hZz hvl;have HC:=hZz hc;have HKN:=hZz hkn;obtain ⟨L,hL⟩:∃ L,s.vars.length=L:=⟨_,rfl⟩
 have HL:=hZz hL;rw [hL];have HR:=hZz hR;obtain ⟨nk,hnk⟩:∃ x,n.kind=x:=⟨_,rfl⟩
 obtain ⟨nt,hnt⟩:∃ x,n.text=x:=⟨_,rfl⟩
 obtain ⟨ni,hni⟩:∃ x,n.int=x:=⟨_,rfl⟩
 obtain ⟨nq,hnq⟩:∃ x,n.keys.length=x:=⟨_,rfl⟩
 obtain ⟨nm,hnm⟩:∃ x,n.kids.length=x:=⟨_,rfl⟩
 have HNC:Hid (nodeC n kA kc iA ic=#[.int .i64 nk,.string nt,.int .i64 ni,.slice kA nq kc,.slice iA nm ic]):=hZz (by unfold nodeC;rw [hnk,hnt,hni,hnq,hnm]);rw [hnk,hnt,hni,hnq,hnm] at HX2 HW2;rw [hnk] at d0;rw [hnt] at d1;rw [hni] at d2;rw [hnq] at d3;rw [hnm] at d4;have HNK:=hZz hnk;have HNT:=hZz hnt;have HNI:=hZz hni;have HNM:=hZz hnm;have d6:((j:Int)+1 == 0)=false:=by rw [beq_eq_false_iff_ne];omega
 clear hP h hmem hkS hA hbN c0 c1 c2 c3 c4 hkv hiv hne hj hjb hjg hj2 hvl hc hR hs1 hk1 es1 e1v e1f hW1 hW2 hgn hb2 hH hN hN1 hD hn hkn hL ej hnk hnt hni hnq hnm;go_enter func116,ntmps116
 go_upto_region 4 with fail
 rw [HW1.out];clear x0 x2 x6 z6;go_upto_region 5 with fail
 rw [HGN.out,HW2.out];have x1:=blk5n HX2.out;clear d0 d1 d2 d3 d4 y0 y2 HW1 HW2 HGN;have HBL:=hZz HE2.out.bel;by_cases h1:nk=1
 ·have HR1:Hid (R=(([nulC],none),s1)):=hZz (by have:=HR.out;unfold stepN at this;rw [if_pos (by rw [HNK.out];exact h1)] at this;cases this;rfl)
  subst h1;have HNU:=hZz (zc7Y W2);go_wp2_with (go_at_call 102;((with_reducible refine HNU.out.mono ?_);rintro e w3 ⟨rfl,hw3⟩;have HW3:=hZz hw3;clear hw3))
  rw [← HP.out,HR1.out];have hb3:Below W2.heap.size W2 w3:=by rw [HW3.out];exact zaaZ _ _
  exact ⟨_,_,rfl,valG_null w0 w3 (by rw [HW3.out];exact Blk.new _ _ _),rfl,HE2.out.below hb3,HK2.out.trans (KX.of_below hb3)⟩
 by_cases h2:nk=2
 ·obtain ⟨bb,hbb⟩:∃ x,decide (ni=1)=x:=⟨_,rfl⟩
  have HR1:Hid (R=(([bCel bb],none),s1)):=hZz (by have:=HR.out;unfold stepN at this;rw [if_neg (by rw [HNK.out];exact h1),if_pos (by rw [HNK.out];exact h2),HNI.out,hbb] at this;cases this;rfl);have HI:Hid ((ni == 1)=bb):=hZz (by rw [← hbb,Bool.eq_iff_iff];simp);have HBO:=hZz (bool_h w0 (ni == 1) W2);subst h2;clear hbb h1;go_wp2_with (go_at_call 32;((with_reducible refine HBO.out.mono ?_);rintro e w3 ⟨A3,n3,c3,rfl,hg3,hb3⟩;have HG3:=hZz hg3;have HB3:=hZz hb3;clear hg3 hb3))
  rw [← HP.out,HR1.out];exact ⟨_,_,rfl,by rw [← HI.out];exact HG3.out,rfl,HE2.out.below HB3.out,HK2.out.trans (KX.of_below HB3.out)⟩
 by_cases h3:nk=3
 ·have HR1:Hid (R=(outF (okR [iCel ni]),s1)):=hZz (by have:=HR.out;unfold stepN at this;rw [if_neg (by rw [HNK.out];exact h1),if_neg (by rw [HNK.out];exact h2),if_pos (by rw [HNK.out];exact h3),HNI.out] at this;cases this;rfl)
  have hib:=fields_int (HH.out.fields n HMEM.out) (by rw [HNK.out];exact h3);rw [HNI.out] at hib;have HIC:=hZz (zd1Y ni W2 (HH.out.pow.below HBL.out) (by omega) (by omega));have HO:Hid (∀ u wx,ValT wx u (okR [iCel ni]).1→Calls prog 164 #[u,.int .i64 (okR [iCel ni]).2] wx (OutcP w0 wx (okR [iCel ni]))):=hZz (fun u wx hu=>zbgY w0 _ u wx hu (okR_ok _));obtain ⟨r,hr⟩:∃ r,okR [iCel ni]=r:=⟨_,rfl⟩
  rw [hr] at HR1 HIC HO;subst h3;clear h1 h2 hib hr
  go_wp2_with (first
   | (go_at_call 33;((with_reducible refine HIC.out.mono ?_);rintro e w3 ⟨u,rfl,hu,hf,hb3⟩;obtain ⟨uA,un,uc,rfl⟩:=hu.shape;have HU:=hZz (zbfY hu hf);have HB3:=hZz hb3;clear hu hf hb3))
   | (go_at_call 164;((with_reducible refine (HO.out _ _ HU.out).mono ?_);rintro e w4 ⟨A3,n3,c3,sv,rfl,hv3,hs3,rfl⟩;have HV3:=hZz hv3;have HS3:=hZz hs3;clear hv3 hs3)))
  rw [← HP.out,HR1.out];exact (zbhY (w3:=w3) HE2.out HV3.out HS3.out HB3.out).kx HK2.out
 by_cases h4:nk=4
 ·have HR1:Hid (R=(outF (okR [sCel nt]),s1)):=hZz (by have:=HR.out;unfold stepN at this;rw [if_neg (by rw [HNK.out];exact h1),if_neg (by rw [HNK.out];exact h2),if_neg (by rw [HNK.out];exact h3),if_pos (by rw [HNK.out];exact h4),HNT.out] at this;cases this;rfl)
  have htb:=(HH.out.kids n HMEM.out).2.2.2.1;rw [HNT.out] at htb;have HIC:=hZz (cstr_any nt W2 (HH.out.pow.below HBL.out) (by omega));have HO:Hid (∀ u wx,ValT wx u (okR [sCel nt]).1→Calls prog 164 #[u,.int .i64 (okR [sCel nt]).2] wx (OutcP w0 wx (okR [sCel nt]))):=hZz (fun u wx hu=>zbgY w0 _ u wx hu (okR_ok _));obtain ⟨r,hr⟩:∃ r,okR [sCel nt]=r:=⟨_,rfl⟩
  rw [hr] at HR1 HIC HO;subst h4;clear h1 h2 h3 htb hr
  go_wp2_with (first
   | (go_at_call 92;((with_reducible refine HIC.out.mono ?_);rintro e w3 ⟨u,rfl,hu,hf,hb3⟩;obtain ⟨uA,un,uc,rfl⟩:=hu.shape;have HU:=hZz (zbfY hu hf);have HB3:=hZz hb3;clear hu hf hb3))
   | (go_at_call 164;((with_reducible refine (HO.out _ _ HU.out).mono ?_);rintro e w4 ⟨A3,n3,c3,sv,rfl,hv3,hs3,rfl⟩;have HV3:=hZz hv3;have HS3:=hZz hs3;clear hv3 hs3)))
  rw [← HP.out,HR1.out];exact (zbhY (w3:=w3) HE2.out HV3.out HS3.out HB3.out).kx HK2.out
 by_cases h5:nk=5
 ·have hR5:varF C k s1=some R:=by have:=HR.out;unfold stepN at this;rw [if_neg (by rw [HNK.out];exact h1),if_neg (by rw [HNK.out];exact h2),if_neg (by rw [HNK.out];exact h3),if_neg (by rw [HNK.out];exact h4),if_pos (by rw [HNK.out];exact h5)] at this;exact this
  have hks:k<C.slots.length:=by rw [HH.out.slen];exact HKN.out
  unfold varF at hR5;rw [List.getElem?_eq_getElem hks] at hR5;simp only at hR5;obtain ⟨bs,os,hsA,hbs⟩:=HH.out.sl.ptr hks;have hsq:=HH.out.sl;rw [hsA] at hsq;have cs:=hsq.cell0 hks (v:=.int .i64 C.slots[k]) rfl;clear hsq;obtain ⟨sl,hsl⟩:∃ x,C.slots[k]=x:=⟨_,rfl⟩
  rw [hsl] at hR5 cs;simp only [Nat.mul_one] at cs
  replace cs:=(HBL.out.cell hbs).trans cs
  split at hR5
  ·rename_i hin
   obtain ⟨q,rfl⟩:∃ q:Nat,sl=(q:Int):=⟨sl.toNat,by omega⟩
   rw [Int.toNat_natCast] at hR5;have HR1:Hid (R=((s1.vars.getD q [],none),s1)):=hZz (by injection hR5 with hR5;exact hR5.symm);obtain ⟨vA,vn,vc,v0,hvg⟩:=HE2.out.var (j:=q) (by omega);have HVG:=hZz hvg;obtain ⟨_,y2,_⟩:=HE2.out.cells;rw [hsA] at y2;have hqI:(q:Int)<(L:Int):=by have:=HV1.out;have:=HL.out;have h9:=hin.2;rw [HV1.out,HL.out] at h9;exact h9
   have hq0:(0:Int)≤(q:Int):=by omega
   have hsI:(k:Int)<(C.slots.length:Int):=by omega
   generalize C.slots.length=ns at y2 hsI;subst h5;clear h1 h2 h3 h4 hR5 hks hsA hbs hsl hin hvg;go_wp2_with (fail)
   rw [← HP.out,HR1.out];exact ⟨_,_,rfl,HVG.out,rfl,HE2.out,HK2.out⟩
  ·cases hR5
 by_cases h15:nk=15
 ·have hR5:chooseF (N c) n s1=some R:=by have:=HR.out;unfold stepN at this;rw [if_neg (by rw [HNK.out];exact h1),if_neg (by rw [HNK.out];exact h2),if_neg (by rw [HNK.out];exact h3),if_neg (by rw [HNK.out];exact h4),if_neg (by rw [HNK.out];exact h5),if_pos (by rw [HNK.out];exact h15)] at this;exact this
  have hch:=choose_h HH.out HN.out (HD.out c) (kA:=kA) (kc:=kc) HE2.out HMEM.out HIV.out (by rw [HF1.out];exact HJB.out) (by rw [HV1.out];exact HVL.out) (cnt_if (HH.out.count n HMEM.out) (by rw [HNK.out];exact h15)) hR5;rw [HNC.out,HV1.out,HL.out] at hch;have HCH:=hZz hch;subst h15;clear h1 h2 h3 h4 h5 hR5 hch;go_wp2_with (go_at_call 165;((with_reducible refine HCH.out.mono ?_);rintro e w3 ⟨sv,rfl,hnil,hsv,hx3,hk3⟩;have HNL:=hZz hnil;have HS3:=hZz hsv;have HX3:=hZz hx3;have HK3:=hZz hk3;clear hnil hsv hx3 hk3))
  rw [← HP.out];exact ⟨.slice none 0 0,_,rfl,by rw [HNL.out];exact ValG.nil _ _,HS3.out,HX3.out,HK2.out.trans HK3.out⟩
 by_cases h16:nk=16
 ·have hR5:loopF (N c) n (g+1) s1=some R:=by have:=HR.out;unfold stepN at this;rw [if_neg (by rw [HNK.out];exact h1),if_neg (by rw [HNK.out];exact h2),if_neg (by rw [HNK.out];exact h3),if_neg (by rw [HNK.out];exact h4),if_neg (by rw [HNK.out];exact h5),if_neg (by rw [HNK.out];exact h15),if_pos (by rw [HNK.out];exact h16)] at this;exact this
  have hch:=loop_h HH.out HN.out (HD.out c) (kA:=kA) (kc:=kc) HE2.out HMEM.out HIV.out (by rw [HF1.out];exact HJB.out) (by rw [HV1.out];exact HVL.out) (cnt_two (HH.out.count n HMEM.out) (.inr (.inr (by rw [HNK.out];exact h16)))) (by rw [HF1.out];have:=HJG.out;omega) hR5;rw [HNC.out,HV1.out,HL.out] at hch;have HCH:=hZz hch;subst h16;clear h1 h2 h3 h4 h5 h15 hR5 hch;go_wp2_with (go_at_call 166;((with_reducible refine HCH.out.mono ?_);rintro e w3 ⟨sv,rfl,hnil,hsv,hx3,hk3⟩;have HNL:=hZz hnil;have HS3:=hZz hsv;have HX3:=hZz hx3;have HK3:=hZz hk3;clear hnil hsv hx3 hk3))
  rw [← HP.out];exact ⟨.slice none 0 0,_,rfl,by rw [HNL.out];exact ValG.nil _ _,HS3.out,HX3.out,HK2.out.trans HK3.out⟩
 have hlo:¬ (nk≤5∨nk=15∨nk=16):=by
  have:=cnt_kind (HH.out.count n HMEM.out)
  rw [HNK.out] at this;omega
 obtain ⟨t1,t2,t3,t4,t5,t15,t16⟩:=kind_far hlo;by_cases hbo:isBothB n=true
 ·have hR5:bothF (N c) n s1=some R:=by have:=HR.out;unfold stepN at this;rw [if_neg (by rw [HNK.out];exact h1),if_neg (by rw [HNK.out];exact h2),if_neg (by rw [HNK.out];exact h3),if_neg (by rw [HNK.out];exact h4),if_neg (by rw [HNK.out];exact h5),if_neg (by rw [HNK.out];exact h15),if_neg (by rw [HNK.out];exact h16),if_pos hbo] at this;exact this
  unfold isBothB at hbo;rw [HNK.out,HNT.out] at hbo;simp only [Bool.and_eq_true,Bool.or_eq_true,decide_eq_true_eq] at hbo;obtain ⟨h9,hand⟩:=hbo;have hch:=both_h HH.out HN.out (HD.out c) (kA:=kA) (kc:=kc) HE2.out HMEM.out HIV.out (by rw [HF1.out];exact HJB.out) (by rw [HV1.out];exact HVL.out) (cnt_two (HH.out.count n HMEM.out) (.inl (by rw [HNK.out];exact h9))) hR5;rw [HNC.out,HV1.out,HL.out] at hch;have HCH:=hZz hch;subst h9;clear h1 h2 h3 h4 h5 h15 h16 hR5 hch hlo
  have hand2:nt.toList=[97,110,100]∨(¬ nt.toList=[97,110,100]∧nt.toList=[111,114]):=by
   unfold andS orS at hand;by_cases e:nt.toList=[97,110,100]
   ·exact .inl e
   ·exact .inr ⟨e,hand.resolve_left e⟩
  clear hand;rcases hand2 with ha1 | ⟨ha1,ha2⟩
  ·have ha1':=zagY ha1
   go_wp2_with (go_at_call 167;((with_reducible refine HCH.out.mono ?_);rintro e w3 ⟨u,sv,rfl,hu,hsv,hx,hkx⟩;have HN3:=hZz (NodeP.kx ⟨u,sv,rfl,hu,hsv,hx,hkx⟩ HK2.out);clear hu hsv hx hkx))
   rw [← HP.out];exact HN3.out
  ·have ha1':=zaiZ ha1
   have ha2':=zagY ha2;go_wp2_with (go_at_call 167;((with_reducible refine HCH.out.mono ?_);rintro e w3 ⟨u,sv,rfl,hu,hsv,hx,hkx⟩;have HN3:=hZz (NodeP.kx ⟨u,sv,rfl,hu,hsv,hx,hkx⟩ HK2.out);clear hu hsv hx hkx))
   rw [← HP.out];exact HN3.out
 have hR5:thenF C N c k n (allF (N c) n.kids [] s1)=some R:=by have:=HR.out;unfold stepN at this;rw [if_neg (by rw [HNK.out];exact h1),if_neg (by rw [HNK.out];exact h2),if_neg (by rw [HNK.out];exact h3),if_neg (by rw [HNK.out];exact h4),if_neg (by rw [HNK.out];exact h5),if_neg (by rw [HNK.out];exact h15),if_neg (by rw [HNK.out];exact h16),if_neg hbo] at this;exact this
 obtain ⟨Q,q1,q2,q3⟩:=tail_h (g:=g) HH.out HN.out HN1.out HD.out HMEM.out HKN.out HKV.out HIV.out (by rw [HF1.out];exact HJB.out) (by rw [HV1.out];exact HVL.out) HC.out (by rw [HNK.out];exact hlo) hR5;rw [HV1.out,HL.out] at q1 q3;rw [HNM.out] at q1;rw [HNC.out] at q3;have HQ1:=hZz (q1 W2 HE2.out);have HQ2:=hZz q2;have HQ3:=hZz q3
 have hb9:nk=9→¬ nt.toList=[97,110,100]∧¬ nt.toList=[111,114]:=fun h9=>by
  unfold isBothB at hbo;rw [HNK.out,HNT.out] at hbo;simp only [Bool.and_eq_true,Bool.or_eq_true,decide_eq_true_eq,not_and,not_or] at hbo;exact hbo h9
 obtain ⟨⟨l,sg⟩,t⟩:=Q;simp only at HQ2 HQ3;clear h1 h2 h3 h4 h5 h15 h16 hR5 q1 q2 q3 hbo hlo;cases sg with
 | some sg =>
  have HR1:=hZz (HQ2.out sg rfl);clear HQ2 HQ3;by_cases h9:nk=9
  ·obtain ⟨ha1,ha2⟩:=hb9 h9
   have ha1':=zaiZ ha1;have ha2':=zaiZ ha2;subst h9;clear hb9
   go_wp2_with (first
    | (go_at_call 168;((with_reducible refine HQ1.out.mono ?_);rintro e w3 ⟨oA,oc,sv,rfl,ho,hsv,hx,hkx⟩;obtain ⟨T,pv,rfl⟩:=zblY hsv;have HS:=hZz hsv;have HX:=hZz hx;have HK:=hZz hkx;have hne:=fun w=>ifc_ne T pv w;clear hsv hx hkx ho)))
   rw [← HP.out,HR1.out];exact ⟨.slice none 0 0,_,rfl,ValG.nil _ _,HS.out,HX.out,HK2.out.trans HK.out⟩
  ·have t9:(nk == 9)=false:=by rw [beq_eq_false_iff_ne];exact h9
   clear hb9 h9
   go_wp2_with (first
    | (go_at_call 168;((with_reducible refine HQ1.out.mono ?_);rintro e w3 ⟨oA,oc,sv,rfl,ho,hsv,hx,hkx⟩;obtain ⟨T,pv,rfl⟩:=zblY hsv;have HS:=hZz hsv;have HX:=hZz hx;have HK:=hZz hkx;have hne:=fun w=>ifc_ne T pv w;clear hsv hx hkx ho)))
   rw [← HP.out,HR1.out];exact ⟨.slice none 0 0,_,rfl,ValG.nil _ _,HS.out,HX.out,HK2.out.trans HK.out⟩
 | none =>
  have HQA:=hZz (HQ3.out rfl);have hne:=fun w=>ifn_ne w
  clear HQ2 HQ3;by_cases h9:nk=9
  ·obtain ⟨ha1,ha2⟩:=hb9 h9
   have ha1':=zaiZ ha1;have ha2':=zaiZ ha2;subst h9;clear hb9
   go_wp2_with (first
    | (go_at_call 168;((with_reducible refine HQ1.out.mono ?_);rintro e w3 ⟨oA,oc,sv,rfl,ho,hsv,hx,hkx⟩;(have hsv':sv=.nilIface:=hsv);subst hsv';have HK:=hZz hkx;have x3:=blk5n (HE2.out.keep hkx HX2.out);have HAP:=hZz (HQA.out w3 _ _ hx ho);clear hsv hx hkx ho))
    | (go_at_call 169;((with_reducible refine HAP.out.mono ?_);rintro e w4 ⟨u,sv,rfl,hu,hsv,hx,hkx⟩;have HN3:=hZz ((NodeP.kx ⟨u,sv,rfl,hu,hsv,hx,hkx⟩ HK.out).kx HK2.out);clear hu hsv hx hkx)))
   rw [← HP.out];exact HN3.out
  ·have t9:(nk == 9)=false:=by rw [beq_eq_false_iff_ne];exact h9
   clear hb9 h9
   go_wp2_with (first
    | (go_at_call 168;((with_reducible refine HQ1.out.mono ?_);rintro e w3 ⟨oA,oc,sv,rfl,ho,hsv,hx,hkx⟩;(have hsv':sv=.nilIface:=hsv);subst hsv';have HK:=hZz hkx;have x3:=blk5n (HE2.out.keep hkx HX2.out);have HAP:=hZz (HQA.out w3 _ _ hx ho);clear hsv hx hkx ho))
    | (go_at_call 169;((with_reducible refine HAP.out.mono ?_);rintro e w4 ⟨u,sv,rfl,hu,hsv,hx,hkx⟩;have HN3:=hZz ((NodeP.kx ⟨u,sv,rfl,hu,hsv,hx,hkx⟩ HK.out).kx HK2.out);clear hu hsv hx hkx)))
   rw [← HP.out];exact HN3.out
theorem node_h {w0:World} {K:EvK} {C:EvC} (hH:EvH w0 K C):∀ g,g≤200000→∀ c,c≤16→NodeOk w0 K C (nodeE C g c) c g:=by
 intro g;induction g with
 | zero =>
  intro _ c hc gv F k s w R h hk hf hl hR;simp only [nodeE] at hR;cases hR
  exact node0 h (by omega)
 | succ g ih =>
  intro hg c hc gv F k s w R h hk hf hl hR;simp only [nodeE] at hR;by_cases h0:s.fuel=0
  ·rw [if_pos h0] at hR
   cases hR
   exact node0 h h0
  ·rw [if_neg h0] at hR
   obtain ⟨n,hn⟩:∃ n,C.p.nodes[k]? = some n:=⟨_,List.getElem?_eq_getElem hk⟩
   rw [hn] at hR;simp only at hR;exact nodeS hH (ih (by omega) c hc) (fun h16=>ih (by omega) (c+1) (by omega)) (down_node C g) h hk hn (j:=s.fuel - 1) (by omega) (by omega) (by omega) (by omega) hl hc hR
end
end Go.Proofs.YtekdhlfapejijaaGreatDoor
