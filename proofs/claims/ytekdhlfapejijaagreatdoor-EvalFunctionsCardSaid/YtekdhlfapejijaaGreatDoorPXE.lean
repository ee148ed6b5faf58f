/- XA, XB, XC, XD, XE -/
import Derived.Test.YtekdhlfapejijaaGreatDoorPLE
import Derived.Test.YtekdhlfapejijaaGreatDoorPH2
set_option linter.unusedVariables false
set_option linter.unusedSimpArgs false
namespace Go.Proofs.YtekdhlfapejijaaGreatDoor
open Go.RowKit
set_option maxRecDepth 100000
set_option maxHeartbeats 8000000
open Go.Proofs.Tryz
section
theorem Tryz.infoNodeX:(prog.info? 87).map (fun i=>(i.zero,i.size,i.bytes))=some (some (.agg #[.int .i64 0,.string ByteArray.empty,.int .i64 0,.slice none 0 0,.slice none 0 0]),5,80):=by kernel_rfl
theorem Tryz.infoFuncX:(prog.info? 89).map (fun i=>(i.zero,i.size,i.bytes))=some (some (.agg #[.string ByteArray.empty,.slice none 0 0,.int .i64 0]),3,48):=by kernel_rfl
theorem blk5x {w:World} {g:Nat} {t:TypeId} {v0 v1 v2 v3 v4:Value} (h:Blk w g t #[v0,v1,v2,v3,v4]):w.cell? ⟨g,0,none⟩=some v0∧w.cell? ⟨g,1,none⟩=some v1∧w.cell? ⟨g,2,none⟩=some v2∧w.cell? ⟨g,3,none⟩=some v3∧w.cell? ⟨g,4,none⟩=some v4 :=
 ⟨h.cell 0 _ rfl,h.cell 1 _ rfl,h.cell 2 _ rfl,h.cell 3 _ rfl,h.cell 4 _ rfl⟩
structure PSt (w0:World) (gp:Nat) (tv:Value) (ts:List Tok) (en:Int) (fx:List FuncX) (fv:Value) (F:List Nat) (w:World) (p:Nat) (nx:List NodeX) (nv:Value):Prop where
 bel:Below w0.heap.size w0 w
 hp:w0.heap.size≤gp
 bp:Blk w gp 119 #[tv,.int .i64 (p:Int),.int .i64 en,nv,fv]
 tk:w.ownsRow w0.heap.size 161 4 tv ts.length (ts.flatMap Tok.cells)
 nd:w.ownsRow w0.heap.size 87 5 nv nx.length (nx.flatMap nodeRow)
 fu:w.ownsRow w0.heap.size 89 3 fv fx.length (fx.flatMap funcRow)
 kids:∀ q∈nx,w.ownsRow w0.heap.size 3 1 q.2.2 q.1.kids.length (q.1.kids.map (Value.int .i64))∧q.2.1=.slice none 0 0∧q.1.keys=[]
 kd:∀ q∈nx,∀ g∈F,q.2.2.ownBlock≠some g
 pars:∀ q∈fx,w.ownsRow w0.heap.size 9 1 q.2 q.1.params.length (q.1.params.map Value.string)
 fb:∀ g∈F,g<w.heap.size
 tl:ts.length≤1000
structure KP (gp:Nat) (w w':World):Prop where
 os:w'.os=w.os
 tape:w'.tape=w.tape
 output:w'.output=w.output
 size:w.heap.size≤w'.heap.size
 block:∀ j o,w.heap[j]? = some o→j≠gp→(∀ cs fz,o≠.cells cs 87 fz)→w'.heap[j]? = some o
section
variable {gp:Nat} {w w1 w':World}
theorem KP.trans (h:KP gp w w1) (g:KP gp w1 w'):KP gp w w' :=
 ⟨g.os.trans h.os,g.tape.trans h.tape,g.output.trans h.output,Nat.le_trans h.size g.size,fun j o hj h1 h2=>g.block j o (h.block j o hj h1 h2) h1 h2⟩
theorem KP.of_below (h:Below w.heap.size w w'):KP gp w w':=⟨h.os,h.tape,h.output,h.size,fun j o hj _ _=>(h.block j (lt_of_block hj)).trans hj⟩
theorem KP.blk {g:Nat} {t:TypeId} {cs:Array Value} (h:KP gp w w') (hB:Blk w g t cs) (h1:g≠gp) (h2:t≠87) (h3:t≠89):Blk w' g t cs :=
 h.block g _ hB h1 (fun cs' fz e=>by injection e with _ e;exact h2 e)
theorem KP.own {base n size:Nat} {e:TypeId} {v:Value} {xs:List Value} (h:KP gp w w') (ho:w.ownsRow base e size v n xs) (h1:∀ g,v.ownBlock=some g→g≠gp) (h2:e≠87) (h3:e≠89):w'.ownsRow base e size v n xs:=by
 refine zchY ho (fun g hg=>?_)
 obtain ⟨_,cs,hb⟩:=zakY ho hg
 have:=h.blk hb (h1 g hg) h2 h3
 unfold Blk at hb this;rw [hb,this]
theorem KP.set (gp:Nat) (w:World) (j:Nat) (u:Value):KP gp w (w.setCell ⟨gp,j,none⟩ u) :=
 ⟨rfl,rfl,rfl,by simp,fun k o hk h1 _=>(Below.heap_setCell w ⟨gp,j,none⟩ u k h1).trans hk⟩
theorem KP.row {base n size:Nat} {e:TypeId} {v:Value} {xs:List Value} (ho:w.ownsRow base e size v n xs) (he:e=87∨False) (hg:w.grownBy w' v.ownBlock):KP gp w w' :=
 ⟨hg.os,hg.tape,hg.output,hg.size,fun j o hj h1 h2=>(hg.block j (lt_of_block hj) (fun e'=>by
  obtain ⟨_,cs,hB⟩:=zakY ho e'.symm;unfold Blk at hB;rw [hB] at hj;injection hj with hj
  subst hj;rcases he with rfl | hf
  ·exact h2 _ _ rfl
  ·exact hf)).trans hj⟩
end
section
variable {w0 w w':World} {gp:Nat} {tv:Value} {ts:List Tok} {en:Int} {fx:List FuncX} {fv:Value} {F:List Nat} {p:Nat} {nx:List NodeX} {nv:Value}
theorem PSt.below (h:PSt w0 gp tv ts en fx fv F w p nx nv) (hb:Below w.heap.size w w'):PSt w0 gp tv ts en fx fv F w' p nx nv :=
 ⟨zaaZ hb h.bel h.bel.size,h.hp,h.bp.below hb,zajZ h.tk hb,zajZ h.nd hb,zajZ h.fu hb,fun q hq=>⟨zajZ (h.kids q hq).1 hb,(h.kids q hq).2⟩,h.kd,fun q hq=>zajZ (h.pars q hq) hb,fun g hg=>Nat.lt_of_lt_of_le (h.fb g hg) hb.size,h.tl⟩
theorem PSt.setP (h:PSt w0 gp tv ts en fx fv F w p nx nv) (p':Nat):PSt w0 gp tv ts en fx fv F (w.setCell ⟨gp,1,none⟩ (.int .i64 (p':Int))) p' nx nv:=by
 have hg:=zamZ w gp 1 (.int .i64 (p':Int));have hne:∀ {n size:Nat} {e:TypeId} {v:Value} {xs:List Value},w.ownsRow w0.heap.size e size v n xs→e≠119→(w.setCell ⟨gp,1,none⟩ (.int .i64 (p':Int))).ownsRow w0.heap.size e size v n xs:=fun ho he=>zaaY ho hg (fun k hk=>by injection hk with hk;subst hk;exact zagZ ho h.bp he)
 refine ⟨h.bel.grown hg h.bel.size (fun k hk=>by injection hk with hk;have:=h.hp;omega),h.hp,h.bp.set_ 1 _,hne h.tk (by decide),hne h.nd (by decide),hne h.fu (by decide),fun q hq=>⟨hne (h.kids q hq).1 (by decide),(h.kids q hq).2⟩,h.kd,fun q hq=>hne (h.pars q hq) (by decide),fun g hg=>(by simpa using h.fb g hg),h.tl⟩
theorem PSt.tok (h:PSt w0 gp tv ts en fx fv F w p nx nv) {i:Nat} (hi:i<ts.length):∃ g off cap,tv=.slice (some ⟨g,off,none⟩) ts.length cap∧w.cell? ⟨g,off+i * 4,none⟩=some (.int .i64 ts[i].kind)∧w.cell? ⟨g,off+i * 4+1,none⟩=some (.string ts[i].text)∧w.cell? ⟨g,off+i * 4+2,none⟩=some (.int .i64 ts[i].int)∧w.cell? ⟨g,off+i * 4+3,none⟩=some (.int .i64 (ts[i].at_:Int)):=by
 obtain ⟨A,cap,hv⟩:=zaeZ h.tk;have ht:=h.tk;rw [hv] at ht;have hs:SlAt w A 4 Tok.cells ts:=SlAt.of_own ht rfl (fun _=>rfl) (by decide);obtain ⟨b,off,hA,_⟩:=hs.ptr hi;subst hA;exact ⟨b,off,cap,hv,hs.cell0 hi rfl,hs.cell hi (j:=1) rfl,hs.cell hi (j:=2) rfl,hs.cell hi (j:=3) rfl⟩
end
def TxV (w:World) (v:Value) (l:List ByteArray):Prop:=(v=.slice none 0 0∧l=[])∨∃ b,v=.slice (some ⟨b,0,none⟩) l.length l.length∧Blk w b 9 (l.map Value.string).toArray∧0<l.length∧l.length≤100
theorem TxV.nil (w:World):TxV w (.slice none 0 0) []:=.inl ⟨rfl,rfl⟩
theorem TxV.below {w w':World} {v:Value} {l:List ByteArray} (h:TxV w v l) (hb:Below w.heap.size w w'):TxV w' v l:=by
 rcases h with h | ⟨b,h1,h2,h3⟩
 ·exact .inl h
 ·exact .inr ⟨b,h1,h2.below hb,h3⟩
def nextF (ts:List Tok) (p:Nat) (k:Int) (l:List ByteArray):Bool:=match ts[p]? with
 | none=>false
 | some t=>(t.kind == k) && (l.isEmpty || Lib.containsS l t.text)
theorem tx_has {w:World} {b:Nat} {l:List ByteArray} {x:ByteArray} (h:Blk w b 9 (l.map Value.string).toArray) (hl:l.length≤100):Calls prog 35 #[.slice (some ⟨b,0,none⟩) l.length l.length,.string x] w fun e w'=>e=.returned (.bool (Lib.containsS l x))∧w'=w:=by
 refine (Tryz.slices_Contains_string b 0 l.length l.length l x w (Nat.le_refl _) (by omega) (fun j hj=>?_)).mono ?_
 ·rw [Nat.zero_add]
  refine h.cell j _ ?_
  simp [hj,List.getD_eq_getElem?_getD]
 ·rintro e w' ⟨rfl,rfl⟩
  exact ⟨by rw [List.take_length],rfl⟩
attribute [local go_sem] zacZ
theorem next_x {w0 w:World} {gp:Nat} {tv:Value} {ts:List Tok} {en:Int} {fx:List FuncX} {fv:Value} {F:List Nat} {p:Nat} {nx:List NodeX} {nv:Value} (h:PSt w0 gp tv ts en fx fv F w p nx nv) (k:Int) {tx:Value} {l:List ByteArray} (hx:TxV w tx l) :
  Calls prog 237 #[.pointer (some ⟨gp,0,none⟩),.int .i64 k,tx] w fun e w'=>e=.returned (.bool (nextF ts p k l))∧Below w.heap.size w w':=by
 obtain ⟨P,hP⟩:∃ P:Ending→World→Prop,(fun e w'=>e=.returned (.bool (nextF ts p k l))∧Below w.heap.size w w')=P:=⟨_,rfl⟩
 rw [hP];have HP:=hZz hP;obtain ⟨c0,c1,_,_,_⟩:=blk5x h.bp;have hbd:=zafZ w;have HBd:=hZz hbd;by_cases hlt:p<ts.length
 ·obtain ⟨g,off,cap,htv,t0,t1,t2,t3⟩:=h.tok hlt
  clear t2 t3;have hn:nextF ts p k l=((ts[p].kind == k) && (l.isEmpty || Lib.containsS l ts[p].text)):=by unfold nextF;rw [List.getElem?_eq_getElem hlt]
  rw [hn] at HP;rw [htv] at c0;obtain ⟨n,hnn⟩:∃ n,ts.length=n:=⟨_,rfl⟩
  rw [hnn] at c0;have hlt':(p:Int)<(n:Int):=by omega
  have hp0:(0:Int)≤(p:Int):=by omega
  obtain ⟨kd,hkd⟩:∃ x,ts[p].kind=x:=⟨_,rfl⟩
  obtain ⟨tt,htt⟩:∃ x,ts[p].text=x:=⟨_,rfl⟩
  rw [hkd] at t0 HP;rw [htt] at t1 HP;clear hP hn htv hkd htt h hnn hlt;by_cases hk:kd=k
  ·subst hk
   rcases hx with ⟨rfl,rfl⟩ | ⟨b,rfl,hb,hl0,hl1⟩
   ·go_enter func237,ntmps237
    go_wp2_with (fail)
    go_quiet (fail);go_wp2_with (fail)
    rw [← HP.out];exact ⟨by simp,zaqZ (Below.refl _ _) _⟩
   ·have HC:Hid (∀ wx,Below w.heap.size w wx→Calls prog 35 #[.slice (some ⟨b,0,none⟩) l.length l.length,.string tt] wx fun e w'=>e=.returned (.bool (Lib.containsS l tt))∧w'=wx):=hZz (fun wx hbx=>tx_has (hb.below hbx) hl1)
    obtain ⟨m,hm⟩:∃ m,l.length=m:=⟨_,rfl⟩
    have he:l.isEmpty=false:=by cases l with | nil=>simp at hl0 | cons _ _=>rfl
    rw [hm] at HC ⊢ hl0;have hm0:((m:Int) == 0)=false:=by simp;omega
    have HE:=hZz he;clear hb he hm hl0 hl1;go_enter func237,ntmps237
    go_wp2_with (fail)
    go_quiet (((with_reducible refine (HC.out _ (zaqZ (Below.refl _ _) _)).mono ?_);rintro e w2 ⟨h1,h2⟩;exact ⟨h1,_,h2⟩))
    go_wp2_with (fail)
    rw [← HP.out];exact ⟨by rw [HE.out];simp,zaqZ (Below.refl _ _) _⟩
  ·have hk':(kd == k)=false:=by simpa using hk
   clear hx;go_enter func237,ntmps237
   go_wp2_with (fail)
   go_quiet (fail);go_wp2_with (fail)
   rw [← HP.out];exact ⟨by rw [hk'];simp,zaqZ (Below.refl _ _) _⟩
 ·have hn:nextF ts p k l=false:=by unfold nextF;rw [List.getElem?_eq_none (by omega)]
  rw [hn] at HP;obtain ⟨A,cap,htv⟩:=zaeZ h.tk;rw [htv] at c0;obtain ⟨n,hnn⟩:∃ n,ts.length=n:=⟨_,rfl⟩
  rw [hnn] at c0;have hlt':¬ (p:Int)<(n:Int):=by omega
  clear hP hn htv h hnn hlt hx;go_enter func237,ntmps237
  go_wp2_with (fail)
  have hld:((p:Int)<(n:Int))=False:=by simp;omega
  have hld2:(p<n)=False:=by simp;omega
  go_quiet (fail);go_wp2_with (fail)
  rw [← HP.out];exact ⟨rfl,zaqZ (Below.refl _ _) _⟩
end
section
def Tok.val (t:Tok):Value:=.agg #[.int .i64 t.kind,.string t.text,.int .i64 t.int,.int .i64 (t.at_:Int)]
def zTokV:Value:=.agg #[.int .i64 0,.string ⟨#[]⟩,.int .i64 0,.int .i64 0]
section
variable (w0:World) (gp:Nat) (tv:Value) (ts:List Tok) (en:Int) (fx:List FuncX) (fv:Value)
def PX (F:List Nat) (w:World) (p:Nat) (ns:List NodeD):Prop:=∃ nx nv,nx.map Prod.fst=ns∧PSt w0 gp tv ts en fx fv F w p nx nv
end
section
variable {w0 w w':World} {gp:Nat} {tv:Value} {ts:List Tok} {en:Int} {fx:List FuncX} {fv:Value} {F:List Nat} {p:Nat} {ns:List NodeD}
theorem PX.below (h:PX w0 gp tv ts en fx fv F w p ns) (hb:Below w.heap.size w w'):PX w0 gp tv ts en fx fv F w' p ns:=by
 obtain ⟨nx,nv,h1,h2⟩:=h;exact ⟨nx,nv,h1,h2.below hb⟩
theorem PX.lt (h:PX w0 gp tv ts en fx fv F w p ns):gp<w.heap.size:=by
 obtain ⟨nx,nv,h1,h2⟩:=h;exact h2.bp.lt
theorem PSt.setT {nx:List NodeX} {nv:Value} {g:Nat} {cs:Array Value} (h:PSt w0 gp tv ts en fx fv F w p nx nv) (hB:Blk w g 161 cs) (ht:tv.ownBlock≠some g) (hg:w0.heap.size≤g) (j:Nat) (u:Value):PSt w0 gp tv ts en fx fv F (w.setCell ⟨g,j,none⟩ u) p nx nv:=by
 have hgr:=zamZ w g j u;have hne:∀ {n size:Nat} {e:TypeId} {v:Value} {xs:List Value},w.ownsRow w0.heap.size e size v n xs→e≠161→(w.setCell ⟨g,j,none⟩ u).ownsRow w0.heap.size e size v n xs:=fun ho he=>zaaY ho hgr (fun k hk=>by injection hk with hk;subst hk;exact zagZ ho hB he)
 have hgp:gp≠g:=fun e=>za7Y h.bp hB (by decide) e
 exact ⟨h.bel.grown hgr h.bel.size (fun k hk=>by injection hk with hk;omega),h.hp,h.bp.far (p:=⟨g,j,none⟩) hgp u,zaaY h.tk hgr (fun k hk=>by injection hk with hk;subst hk;exact fun e=>ht e.symm),hne h.nd (by decide),hne h.fu (by decide),fun q hq=>⟨hne (h.kids q hq).1 (by decide),(h.kids q hq).2⟩,h.kd,fun q hq=>hne (h.pars q hq) (by decide),fun g hg=>(by simpa using h.fb g hg),h.tl⟩
theorem KP.setN {gp g:Nat} {w w1:World} (h:KP gp w w1) (hg:w.heap.size≤g) (j:Nat) (u:Value):KP gp w (w1.setCell ⟨g,j,none⟩ u) :=
 ⟨h.os,h.tape,h.output,by simpa using h.size,fun k o hk h1 h2=>(Below.heap_setCell w1 ⟨g,j,none⟩ u k (fun e=>by have:k=g:=e;have:=lt_of_block hk;omega)).trans (h.block k o hk h1 h2)⟩
attribute [local go_sem] zacZ
theorem zaqY (h:PX w0 gp tv ts en fx fv F w p ns) (k:Int) {tx:Value} {l:List ByteArray} (hx:TxV w tx l) (hn:nextF ts p k l=false) :
  Calls prog 185 #[.pointer (some ⟨gp,0,none⟩),.int .i64 k,tx] w fun e w'=>e=.returned (.tuple #[zTokV,.bool false])∧Below w.heap.size w w':=by
 obtain ⟨nx,nv,h1,h2⟩:=h;obtain ⟨P,hP⟩:∃ P:Ending→World→Prop,(fun e w'=>e=.returned (.tuple #[zTokV,.bool false])∧Below w.heap.size w w')=P:=⟨_,rfl⟩
 rw [hP];have HP:=hZz hP
 have HNX:Hid (∀ wx,Below w.heap.size w wx→Calls prog 237 #[.pointer (some ⟨gp,0,none⟩),.int .i64 k,tx] wx fun e w'=>e=.returned (.bool false)∧Below wx.heap.size wx w'):=hZz (fun wx hb=>by
  have:=next_x (h2.below hb) k (hx.below hb)
  rw [hn] at this;exact this)
 clear hP h1 h2 hx hn;go_enter func185,ntmps185
 go_upto_region 1 with fail
 obtain ⟨g,hg⟩:∃ g,w.heap.size=g:=⟨_,rfl⟩
 obtain ⟨W,hW⟩:∃ W,w.alloc (.cells #[.int .i64 0,.string ⟨#[]⟩,.int .i64 0,.int .i64 0] 161)=W:=⟨_,rfl⟩
 have HB0:Hid (Below w.heap.size w W):=hZz (by rw [← hW];exact zabZ _ _);have HB:Hid (Blk W g 161 #[.int .i64 0,.string ⟨#[]⟩,.int .i64 0,.int .i64 0]):=hZz (by rw [← hW,← hg];exact Blk.new _ _ _);have HG:Hid (w.heap.size≤g):=hZz (by omega);rw [hW,hg];clear hW hg
 go_wp2_with (first
  | (go_at_call 237;(with_reducible refine (HNX.out _ HB0.out).mono ?_);rintro e w1 ⟨rfl,hb1⟩;have HB1:=hZz (HB.out.below hb1);have HB2:=hZz (zadZ hb1 HB0.out);have p2:=blk4 HB1.out;have z0:=HB1.out.frozen 0;have z1:=HB1.out.frozen 1;have z2:=HB1.out.frozen 2;have z3:=HB1.out.frozen 3;clear hb1))
 (refine bodyPost_ret (by simp [results,Tryz.results185,go_sem,p2];try rfl) rfl ?_)
 rw [← HP.out];exact ⟨rfl,st4 HB2.out HG.out _ _ _ _⟩
theorem zbjY (h:PX w0 gp tv ts en fx fv F w p ns) (k:Int) {tx:Value} {l:List ByteArray} (hx:TxV w tx l) (hn:nextF ts p k l=true) {t:Tok} (ht:ts[p]? = some t) :
  Calls prog 185 #[.pointer (some ⟨gp,0,none⟩),.int .i64 k,tx] w fun e w'=>e=.returned (.tuple #[t.val,.bool true])∧PX w0 gp tv ts en fx fv F w' (p+1) ns∧KP gp w w':=by
 obtain ⟨nx,nv,h1,h2⟩:=h;obtain ⟨P,hP⟩:∃ P:Ending→World→Prop,(fun e w'=>e=.returned (.tuple #[t.val,.bool true])∧PX w0 gp tv ts en fx fv F w' (p+1) ns∧KP gp w w')=P:=⟨_,rfl⟩
 rw [hP];have HP:=hZz hP
 have HNX:Hid (∀ wx,Below w.heap.size w wx→Calls prog 237 #[.pointer (some ⟨gp,0,none⟩),.int .i64 k,tx] wx fun e w'=>e=.returned (.bool true)∧Below wx.heap.size wx w'):=hZz (fun wx hb=>by
  have:=next_x (h2.below hb) k (hx.below hb)
  rw [hn] at this;exact this)
 obtain ⟨hlt,hte⟩:=List.getElem?_eq_some_iff.1 ht;have H1:=hZz h1;have HS:=hZz h2;have HTE:Hid (∀ h:p<ts.length,ts[p]=t):=hZz (fun _=>hte);have HLT:=hZz hlt;have hp9:(p:Int)+1≤9223372036854775807:=by have:=h2.tl;omega
 have hp0:(0:Int)≤(p:Int):=by omega
 clear hP h1 h2 hx hn ht hte hlt;go_enter func185,ntmps185
 go_upto_region 1 with fail
 obtain ⟨g,hg⟩:∃ g,w.heap.size=g:=⟨_,rfl⟩
 obtain ⟨W,hW⟩:∃ W,w.alloc (.cells #[.int .i64 0,.string ⟨#[]⟩,.int .i64 0,.int .i64 0] 161)=W:=⟨_,rfl⟩
 have HB0:Hid (Below w.heap.size w W):=hZz (by rw [← hW];exact zabZ _ _);have HB:Hid (Blk W g 161 #[.int .i64 0,.string ⟨#[]⟩,.int .i64 0,.int .i64 0]):=hZz (by rw [← hW,← hg];exact Blk.new _ _ _);have HG:Hid (w.heap.size≤g):=hZz (by omega)
 have HTV:Hid (tv.ownBlock≠some g):=hZz (fun e=>by
  obtain ⟨_,cs,hB⟩:=zakY HS.out.tk e
  have:=hB.lt
  have:=HG.out
  omega)
 rw [hW,hg];clear hW hg
 go_upto_region 3 with (first
  | (go_at_call 237;(with_reducible refine (HNX.out _ HB0.out).mono ?_);rintro e w1 ⟨rfl,hb1⟩;have HB1:=hZz (HB.out.below hb1);have HB2:=hZz (zadZ hb1 HB0.out);clear hb1))
 have HS1:=hZz (HS.out.below HB2.out);obtain ⟨c0,c1,c2,c3,c4⟩:=blk5x HS1.out.bp;have hne:g≠gp:=fun e=>za7Y HB1.out HS1.out.bp (by decide) e
 have hne2:gp≠g:=fun e=>hne e.symm
 have z1:=HS1.out.bp.frozen 1;have HS2:=hZz (HS1.out.setP (p+1));have HK2:Hid (KP gp w (w1.setCell ⟨gp,1,none⟩ (.int .i64 ((p+1:Nat):Int)))):=hZz ((KP.of_below HB2.out).trans (KP.set _ _ _ _));have HB3:=hZz (HB1.out.far (p:=⟨gp,1,none⟩) hne (.int .i64 ((p+1:Nat):Int)));obtain ⟨W2,hW2⟩:∃ W2,w1.setCell ⟨gp,1,none⟩ (.int .i64 ((p+1:Nat):Int))=W2:=⟨_,rfl⟩
 have HW2:Hid (w1.setCell ⟨gp,1,none⟩ (.int .i64 ((p:Int)+1))=W2):=hZz (by rw [← hW2];push_cast;rfl);rw [hW2] at HS2 HK2 HB3;go_upto_region 4 with fail
 rw [HW2.out];clear c0 c1 c2 c3 c4 z1 hW2;obtain ⟨c0,c1,c2,c3,c4⟩:=blk5x HS2.out.bp;obtain ⟨b,off,cap,htv,t0,t1,t2,t3⟩:=HS2.out.tok HLT.out;rw [htv] at c0;rw [HTE.out HLT.out] at t0 t1 t2 t3;have p2:=blk4 HB3.out;have z0:=HB3.out.frozen 0;have z1:=HB3.out.frozen 1;have z2:=HB3.out.frozen 2;have z3:=HB3.out.frozen 3;have hpc:((p+1:Nat):Int)=(p:Int)+1:=by push_cast;rfl
 rw [hpc] at c1;have hl':(p:Int)<(ts.length:Int):=by have:=HLT.out;omega
 go_region
 all_goals
  go_wp2_with (fail)
  (refine bodyPost_ret (by simp [results,Tryz.results185,go_sem,p2];try rfl) rfl ?_)
  rw [← HP.out];have s1:=HS2.out.setT HB3.out HTV.out (Nat.le_trans HS.out.bel.size HG.out) 0 (.int .i64 t.kind);have b1:=HB3.out.set_ 0 (.int .i64 t.kind);have s2:=s1.setT b1 HTV.out (Nat.le_trans HS.out.bel.size HG.out) 1 (.string t.text);have b2:=b1.set_ 1 (.string t.text);have s3:=s2.setT b2 HTV.out (Nat.le_trans HS.out.bel.size HG.out) 2 (.int .i64 t.int);have b3:=b2.set_ 2 (.int .i64 t.int);have s4:=s3.setT b3 HTV.out (Nat.le_trans HS.out.bel.size HG.out) 3 (.int .i64 t.at_);exact ⟨rfl,⟨nx,nv,H1.out,s4.below (zafZ _)⟩,((((HK2.out.setN HG.out _ _).setN HG.out _ _).setN HG.out _ _).setN HG.out _ _).trans (KP.of_below (zafZ _))⟩
end
end
section
section
variable {w0 w w':World} {gp:Nat} {tv:Value} {ts:List Tok} {en:Int} {fx:List FuncX} {fv:Value} {F:List Nat} {p:Nat} {ns:List NodeD}
theorem PSt.tv_lt {nx:List NodeX} {nv:Value} (h:PSt w0 gp tv ts en fx fv F w p nx nv) {g:Nat} (hg:w.heap.size≤g):tv.ownBlock≠some g:=fun e=>by
 obtain ⟨_,cs,hB⟩:=zakY h.tk e
 have:=hB.lt
 omega
theorem PX.setT {g:Nat} {cs:Array Value} (h:PX w0 gp tv ts en fx fv F w p ns) (hB:Blk w g 161 cs) (ht:tv.ownBlock≠some g) (hg:w0.heap.size≤g) (j:Nat) (u:Value):PX w0 gp tv ts en fx fv F (w.setCell ⟨g,j,none⟩ u) p ns:=by
 obtain ⟨nx,nv,h1,h2⟩:=h;exact ⟨nx,nv,h1,h2.setT hB ht hg j u⟩
theorem PX.ge (h:PX w0 gp tv ts en fx fv F w p ns):w0.heap.size≤w.heap.size:=by
 obtain ⟨nx,nv,h1,h2⟩:=h;exact h2.bel.size
theorem PX.tv_lt (h:PX w0 gp tv ts en fx fv F w p ns) {g:Nat} (hg:w.heap.size≤g):tv.ownBlock≠some g:=by
 obtain ⟨nx,nv,h1,h2⟩:=h;exact h2.tv_lt hg
attribute [local go_sem] zacZ
theorem zc3Y (h:PX w0 gp tv ts en fx fv F w p ns) (k:Int) {tx:Value} {l:List ByteArray} (hx:TxV w tx l) (hn:nextF ts p k l=true) {t:Tok} (ht:ts[p]? = some t) :
  Calls prog 126 #[.pointer (some ⟨gp,0,none⟩),.int .i64 k,tx] w fun e w'=>e=.returned t.val∧PX w0 gp tv ts en fx fv F w' (p+1) ns∧KP gp w w':=by
 obtain ⟨P,hP⟩:∃ P:Ending→World→Prop,(fun e w'=>e=.returned t.val∧PX w0 gp tv ts en fx fv F w' (p+1) ns∧KP gp w w')=P:=⟨_,rfl⟩
 rw [hP];have HP:=hZz hP;have HTK:Hid (∀ wx,Below w.heap.size w wx→Calls prog 185 #[.pointer (some ⟨gp,0,none⟩),.int .i64 k,tx] wx fun e w'=>e=.returned (.tuple #[t.val,.bool true])∧PX w0 gp tv ts en fx fv F w' (p+1) ns∧KP gp wx w'):=hZz (fun wx hb=>zbjY (h.below hb) k (hx.below hb) hn ht);have H:=hZz h;have hlt:=h.lt;clear hP h hx hn ht;go_enter func126,ntmps126
 go_upto_region 1 with fail
 obtain ⟨g,hg⟩:∃ g,w.heap.size=g:=⟨_,rfl⟩
 obtain ⟨W,hW⟩:∃ W,w.alloc (.cells #[.int .i64 0,.string ⟨#[]⟩,.int .i64 0,.int .i64 0] 161)=W:=⟨_,rfl⟩
 have HB0:Hid (Below w.heap.size w W):=hZz (by rw [← hW];exact zabZ _ _);have HB:Hid (Blk W g 161 #[.int .i64 0,.string ⟨#[]⟩,.int .i64 0,.int .i64 0]):=hZz (by rw [← hW,← hg];exact Blk.new _ _ _);have HG:Hid (w.heap.size≤g):=hZz (by omega);have HGN:Hid (g≠gp):=hZz (by omega);rw [hW,hg];clear hW hg hlt
 go_upto_region 2 with (first
  | (go_at_call 185;(with_reducible refine (HTK.out _ HB0.out).mono ?_);rintro e w1 ⟨rfl,hpx,hkp⟩;have HX:=hZz hpx;have HK:=hZz hkp;have HB1:=hZz (hkp.blk HB.out HGN.out (by decide) (by decide));clear hpx hkp;unfold Tok.val))
 obtain ⟨g7,hg7⟩:∃ g,w1.heap.size=g:=⟨_,rfl⟩
 obtain ⟨W2,hW2⟩:∃ W,w1.alloc (.cells #[.int .i64 t.kind,.string t.text,.int .i64 t.int,.int .i64 (t.at_:Int)] 161)=W:=⟨_,rfl⟩
 have HN2:Hid (Below w1.heap.size w1 W2):=hZz (by rw [← hW2];exact zabZ _ _);have HB7:Hid (Blk W2 g7 161 #[.int .i64 t.kind,.string t.text,.int .i64 t.int,.int .i64 (t.at_:Int)]):=hZz (by rw [← hW2,← hg7];exact Blk.new _ _ _);have HB6:=hZz (HB1.out.below HN2.out);have HX2:=hZz (HX.out.below HN2.out);have HK2:=hZz (((KP.of_below HB0.out).trans HK.out).trans (KP.of_below HN2.out):KP gp w W2);have hne:g≠g7:=by have:=HB1.out.lt;omega
 have hne2:g7≠g:=fun e=>hne e.symm
 have q:=blk4 HB7.out;have p2:=blk4 HB6.out;have z0:=HB6.out.frozen 0;have z1:=HB6.out.frozen 1;have z2:=HB6.out.frozen 2;have z3:=HB6.out.frozen 3;rw [hW2,hg7];clear hW2 hg7;go_wp2_with (fail)
 (refine bodyPost_ret (by simp [results,Tryz.results126,go_sem,p2];try rfl) rfl ?_)
 rw [← HP.out];have htv:=H.out.tv_lt HG.out;have hge:=Nat.le_trans H.out.ge HG.out;have s1:=HX2.out.setT HB6.out htv hge 0 (.int .i64 t.kind);have b1:=HB6.out.set_ 0 (.int .i64 t.kind);have s2:=s1.setT b1 htv hge 1 (.string t.text);have b2:=b1.set_ 1 (.string t.text);have s3:=s2.setT b2 htv hge 2 (.int .i64 t.int);have b3:=b2.set_ 2 (.int .i64 t.int);have s4:=s3.setT b3 htv hge 3 (.int .i64 t.at_);exact ⟨rfl,s4,(((HK2.out.setN HG.out _ _).setN HG.out _ _).setN HG.out _ _).setN HG.out _ _⟩
end
end
section
section
variable {w0 w w':World} {gp:Nat} {tv:Value} {ts:List Tok} {en:Int} {fx:List FuncX} {fv:Value} {F:List Nat} {p:Nat} {ns:List NodeD}
theorem PSt.add {nx:List NodeX} {nv nv':Value} {q:NodeX} {w1:World} (h:PSt w0 gp tv ts en fx fv F w p nx nv) (hg:w.grownBy w1 nv.ownBlock) (ho:w1.ownsRow w0.heap.size 87 5 nv' (nx.length+1) (nx.flatMap nodeRow ++ nodeRow q))
  (hk:w.ownsRow w0.heap.size 3 1 q.2.2 q.1.kids.length (q.1.kids.map (Value.int .i64))) (hq:q.2.1=.slice none 0 0∧q.1.keys=[]) (hF:∀ g∈F,q.2.2.ownBlock≠some g) :
  PSt w0 gp tv ts en fx fv F (w1.setCell ⟨gp,3,none⟩ nv') p (nx ++ [q]) nv':=by
 have hgs:=zamZ w1 gp 3 nv';have hb1:Blk w1 gp 119 #[tv,.int .i64 (p:Int),.int .i64 en,nv,fv]:=h.bp.grown hg (zagZ h.nd h.bp (by decide))
 have hne1:∀ {n size:Nat} {e:TypeId} {v:Value} {xs:List Value},w.ownsRow w0.heap.size e size v n xs→e≠87→w1.ownsRow w0.heap.size e size v n xs:=fun ho' he=>zaaY ho' hg (fun k hk=>by
  obtain ⟨_,cs,hB⟩:=zakY h.nd hk;exact zagZ ho' hB he)
 have hne2:∀ {n size:Nat} {e:TypeId} {v:Value} {xs:List Value},w1.ownsRow w0.heap.size e size v n xs→e≠119→(w1.setCell ⟨gp,3,none⟩ nv').ownsRow w0.heap.size e size v n xs:=fun ho' he=>zaaY ho' hgs (fun k hk=>by injection hk with hk;subst hk;exact zagZ ho' hb1 he)
 refine ⟨?_,h.hp,hb1.set_ 3 _,hne2 (hne1 h.tk (by decide)) (by decide),?_,hne2 (hne1 h.fu (by decide)) (by decide),fun x hx=>?_,fun x hx g hg'=>?_,fun x hx=>hne2 (hne1 (h.pars x hx) (by decide)) (by decide),fun g hg'=>?_,h.tl⟩
 ·refine (h.bel.grown hg h.bel.size (fun k hk=>?_)).grown hgs (Nat.le_trans h.bel.size hg.size) (fun k hk=>by injection hk with hk;have:=h.hp;omega)
  exact (h.nd.lt k hk).1
 ·have:=hne2 ho (by decide)
  rw [List.length_append,List.flatMap_append];simpa using this
 ·rcases List.mem_append.1 hx with hx | hx
  ·exact ⟨hne2 (hne1 (h.kids x hx).1 (by decide)) (by decide),(h.kids x hx).2⟩
  ·rw [List.mem_singleton.1 hx]
   exact ⟨hne2 (hne1 hk (by decide)) (by decide),hq⟩
 ·rcases List.mem_append.1 hx with hx | hx
  ·exact h.kd x hx g hg'
  ·rw [List.mem_singleton.1 hx]
   exact hF g hg'
 ·have:=h.fb g hg'
  have:=hg.size
  simp
  omega
attribute [local go_sem] zacZ
theorem add_x (h:PX w0 gp tv ts en fx fv F w p ns) (hl:ns.length≤600) {n:NodeD} {iv:Value} (hk:n.keys=[]) (ho:w.ownsRow w0.heap.size 3 1 iv n.kids.length (n.kids.map (Value.int .i64))) (hF:∀ g∈F,iv.ownBlock≠some g) :
  Calls prog 187 #[.pointer (some ⟨gp,0,none⟩),.agg #[.int .i64 n.kind,.string n.text,.int .i64 n.int,.slice none 0 0,iv]] w fun e w'=>e=.returned (.int .i64 (ns.length:Int))∧PX w0 gp tv ts en fx fv F w' p (ns ++ [n])∧KP gp w w':=by
 obtain ⟨nx,nv,h1,h2⟩:=h;obtain ⟨i1,hj,hy0,hy1,hy2⟩:=info_parts Tryz.infoNodeX;obtain ⟨P,hP⟩:∃ P:Ending→World→Prop,(fun e w'=>e=.returned (.int .i64 (ns.length:Int))∧PX w0 gp tv ts en fx fv F w' p (ns ++ [n])∧KP gp w w')=P:=⟨_,rfl⟩
 rw [hP];have HP:=hZz hP;obtain ⟨N,hN⟩:∃ N,nx.length=N:=⟨_,rfl⟩
 have HNL:Hid (ns.length=N):=hZz (by rw [← h1,List.length_map];exact hN);obtain ⟨A,cap,hnv⟩:=zaeZ h2.nd;obtain ⟨iA,icap,hiv⟩:=zaeZ ho;obtain ⟨il,hil⟩:∃ x,n.kids.length=x:=⟨_,rfl⟩
 rw [hN] at hnv;rw [hil] at hiv;subst hiv;have hN6:N≤600:=by rw [← HNL.out];exact hl
 have H1:=hZz h1;have HO:=hZz ho;have HF:=hZz hF;have HK:=hZz hk;have HN:=hZz hN;obtain ⟨kd,hkd⟩:∃ x,n.kind=x:=⟨_,rfl⟩
 obtain ⟨tt,htt⟩:∃ x,n.text=x:=⟨_,rfl⟩
 obtain ⟨ni,hni⟩:∃ x,n.int=x:=⟨_,rfl⟩
 rw [hkd,htt,hni];have HD:Hid (n.kind=kd∧n.text=tt∧n.int=ni):=hZz ⟨hkd,htt,hni⟩;obtain ⟨g,hg⟩:∃ g,w.heap.size=g:=⟨_,rfl⟩
 obtain ⟨W,hW⟩:∃ W,w.alloc (.cells #[.int .i64 kd,.string tt,.int .i64 ni,.slice none 0 0,.slice iA il icap] 87)=W:=⟨_,rfl⟩
 have HB0:Hid (Below w.heap.size w W):=hZz (by rw [← hW];exact zabZ _ _);have HB:Hid (Blk W g 87 #[.int .i64 kd,.string tt,.int .i64 ni,.slice none 0 0,.slice iA il icap]):=hZz (by rw [← hW,← hg];exact Blk.new _ _ _);have HS:=hZz (h2.below HB0.out);have HW:=hZz hW;have HG:=hZz hg;have HNV:=hZz hnv;clear hP h1 h2 ho hF hk hil hl hW hg hkd htt hni hN hnv;go_enter func187,ntmps187
 go_upto_region 1 with fail
 rw [HW.out,HG.out];obtain ⟨c0,c1,c2,c3,c4⟩:=blk5x HS.out.bp;have p2:=blk5x HB.out;have z3:=HS.out.bp.frozen 3;rw [HNV.out] at c3;have HOW:Hid (W.ownsRow w0.heap.size 87 5 (.slice A N cap) N (nx.flatMap nodeRow)):=hZz (by have:=HS.out.nd;rw [HNV.out,HN.out] at this;exact this);obtain ⟨W2,hW2⟩:∃ W2,(W.alloc (.cells #[.int .i64 kd,.string tt,.int .i64 ni,.slice none 0 0,.slice iA il icap] 87)).drew=W2:=⟨_,rfl⟩
 have HB2:Hid (Below W.heap.size W W2):=hZz (by rw [← hW2];exact zadZ (zafZ _) (zabZ _ _));have HBN:Hid (Blk W2 W.heap.size 87 #[.int .i64 kd,.string tt,.int .i64 ni,.slice none 0 0,.slice iA il icap]):=hZz (by rw [← hW2];exact (Blk.new _ _ _).below (zafZ _));have HW2:=hZz hW2;have HOA:=hZz (zajZ HOW.out HB2.out);have HS2:=hZz (HS.out.below HB2.out);have hsz:w0.heap.size≤W2.heap.size:=Nat.le_trans HS.out.bel.size HB2.out.size;clear hW2
 go_region_law (first
  | (rw [if_pos (by rfl)];rw [HW2.out];refine wp_append_lies _ (.tmp 10) (.tmp 12) 35 rfl w0.heap.size 87 i1 _ 5 80 underlying35 hj hy0 hy1 hy2 rfl ?k1 _ N _ rfl HOA.out ⟨W.heap.size,0,none⟩ 1 1 [.int .i64 kd,.string tt,.int .i64 ni,.slice none 0 0,.slice iA il icap] rfl rfl ?k7 ?k2 ?k3 ?k4 ?k5 ?k6 _ rfl ?_;(case k1=>decide);(case k7=>(intro j u hju;have:=HBN.out.cell j u (by simpa using hju);rw [zanY,Nat.zero_add];exact this));(case k2=>simp [Value.oneCell']);(case k3=>decide);(case k4=>(unfold maxLen;omega));(case k5=>omega);(case k6=>exact hsz);intro g6 cap6 w6 hown6 hgr6 _ _;have HS6:=hZz (HS2.out.bp.grown hgr6 (by have:=zagZ HS2.out.nd HS2.out.bp (by decide);rw [HNV.out] at this;exact this));have z6:=HS6.out.frozen 3;have o6:=HS6.out.cell 3 _ rfl;have HO6:=hZz hown6;have HGR:=hZz hgr6;clear hown6 hgr6))
 all_goals
  have hN0:(0:Int)≤(N:Int):=by omega
  go_wp2_with (fail)
  rw [← HP.out];have hgr:W2.grownBy w6 nv.ownBlock:=by rw [HNV.out];exact HGR.out
  have e:nodeRow ((n,.slice none 0 0,.slice iA il icap):NodeX)=[.int .i64 kd,.string tt,.int .i64 ni,.slice none 0 0,.slice iA il icap]:=by unfold nodeRow;rw [HD.out.1,HD.out.2.1,HD.out.2.2]
  have ho6:w6.ownsRow w0.heap.size 87 5 (.slice (some ⟨g6,0,none⟩) (N+1) cap6) (nx.length+1) (nx.flatMap nodeRow ++ nodeRow ((n,.slice none 0 0,.slice iA il icap):NodeX)):=by rw [HN.out,e];exact HO6.out
  have hs:=HS2.out.add hgr ho6 (zajZ HO.out (zadZ HB2.out HB0.out)) ⟨rfl,HK.out⟩ HF.out;refine ⟨by rw [HNL.out];rfl,⟨_,_,by rw [List.map_append,H1.out];rfl,hs⟩,?_⟩
  exact (KP.of_below (zadZ HB2.out HB0.out)).trans ((KP.row HS2.out.nd (.inl rfl) hgr).trans (KP.set _ _ _ _))
end
end
section
structure ParC where
 w0:World
 gp:Nat
 tv:Value
 ts:List Tok
 en:Int
 fx:List FuncX
 fv:Value
abbrev PXK (K:ParC) (F:List Nat) (w:World) (p:Nat) (ns:List NodeD):Prop:=PX K.w0 K.gp K.tv K.ts K.en K.fx K.fv F w p ns
def ParsR (K:ParC) (F:List Nat) (w:World) (v:Nat) (p:Nat) (ns:List NodeD) (e:Ending) (w':World):Prop:=e=.returned (.int .i64 (v:Int))∧PXK K F w' p ns∧KP K.gp w w'
def ParsP (K:ParC) (f:FuncId) (p:Nat) (ns:List NodeD) (v p':Nat) (ns':List NodeD):Prop:=∀ F w,PXK K F w p ns→Calls prog f #[.pointer (some ⟨K.gp,0,none⟩)] w (ParsR K F w v p' ns')
theorem TxV.new (w:World) (l:List ByteArray) (h0:0<l.length) (h1:l.length≤100):TxV (w.alloc (.cells (l.map Value.string).toArray 9)) (.slice (some ⟨w.heap.size,0,none⟩) l.length l.length) l:=.inr ⟨_,rfl,Blk.new _ _ _,h0,h1⟩
section
variable {K:ParC} {p:Nat} {ns:List NodeD} {v p':Nat} {ns':List NodeD}
attribute [local go_sem] zacZ
theorem unary_x (hn:nextF K.ts p 5 [⟨#[45]⟩]=false) (hp:ParsP K 308 p ns v p' ns'):ParsP K 307 p ns v p' ns':=by
 intro F w h;obtain ⟨P,hP⟩:∃ P:Ending→World→Prop,ParsR K F w v p' ns'=P:=⟨_,rfl⟩
 rw [hP];have HP:=hZz hP;have HT:Hid (∀ wx tx,PXK K F wx p ns→TxV wx tx [⟨#[45]⟩]→Calls prog 185 #[.pointer (some ⟨K.gp,0,none⟩),.int .i64 5,tx] wx fun e w'=>e=.returned (.tuple #[zTokV,.bool false])∧Below wx.heap.size wx w'):=hZz (fun wx tx h1 h2=>zaqY h1 5 h2 hn);have HQ:=hZz hp;have H:=hZz h;clear hP hn hp h;go_enter func307,ntmps307
 go_wp2_with (first
  | (go_at_call 185;(refine (HT.out _ _ (H.out.below (zabZ _ _)) (TxV.new w [⟨#[45]⟩] (by decide) (by decide))).mono ?_);rintro e w1 ⟨rfl,hb⟩;have HB:=hZz (zadZ hb (zabZ w _));clear hb;unfold zTokV)
  | (go_at_call 308;(refine (HQ.out F _ (H.out.below (zadZ (zabZ _ _) HB.out))).mono ?_);rintro e w2 ⟨rfl,hx,hk⟩;have HX:=hZz hx;have HK:=hZz ((KP.of_below (zadZ (zabZ _ _) HB.out)).trans hk);clear hx hk))
 rw [← HP.out];exact ⟨rfl,HX.out,HK.out⟩
end
end
end Go.Proofs.YtekdhlfapejijaaGreatDoor
