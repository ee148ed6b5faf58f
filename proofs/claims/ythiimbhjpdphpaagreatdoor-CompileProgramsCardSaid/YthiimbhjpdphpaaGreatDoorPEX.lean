/- T3, T4, FA0, FB0, FA1, EX -/
import Derived.Test.YthiimbhjpdphpaaGreatDoorPT2
set_option linter.unusedVariables false
set_option linter.unusedSimpArgs false
namespace Go.Proofs.YthiimbhjpdphpaaGreatDoor
open Go.RowKit
set_option maxRecDepth 100000
set_option maxHeartbeats 8000000
open Go.Proofs.Tryz
section
theorem Tryz.infoStrS:(prog.info? 9).map (fun i=>(i.zero,i.size,i.bytes))=some (some (.string ByteArray.empty),1,16):=by kernel_rfl
theorem map_strCs (l:List ByteArray):l.map Value.string=l.flatMap strCs:=by
 induction l with
 | nil=>rfl
 | cons a r ih=>rw [List.map_cons,List.flatMap_cons,ih];rfl
theorem wpList_delete {α β:Type} [DecidableEq α] {w:World} {b:Nat} {kc:α→Value} {vc:β→Value} {m:List (α × β)} {P:Program} {K T E:TypeId} {ops:Array Oper} {rest:List Oper} {o:Oper} {ac:Act} {Q:Exit→Act→World→Prop} (hgd:o.guard=none) (mo xo:Operand)
  (hop:o.op=Op.call { callee:=Callee.builtin Builtin.delete,args:=#[mo,xo],argTypes:=#[T,K] }) (hK:KeyOk P K kc) (hT:P.underlying T=some (.map K E)) (hm:ac.eval mo=.map (some b)) (a:α) (hx:ac.eval xo=kc a) (h:MapAt w b kc vc m)
  (hk:∀ w',MapAt w' b kc vc (alDel m a)→w.grownBy w' (some b)→wpList P ops Q rest (ac.put o.dst (.tuple #[])) w'):wpList P ops Q (o :: rest) ac w:=by
 refine wpList_plain hgd fun K' hK'=>?_
 obtain ⟨w',hrun,r1,r2,_⟩:=h.del (ty:=o.type) hK hT a;unfold Oper.wp;simp [execOp,hop,resolve,invoke,builtin,hm,hx,hrun,Result.andThen]
 exact hK' _ _ (hk w' r1 r2)
theorem GL.row {L:List Nat} {a b c:World} {row:Option Nat} (h:GL L a b) (k:b.grownBy c row) (hr:∀ j,row=some j→a.heap.size≤j):GL L a c :=
 ⟨k.os.trans h.os,k.tape.trans h.tape,k.output.trans h.output,Nat.le_trans h.size k.size,fun j hj hn=>(k.block j (Nat.lt_of_lt_of_le hj h.size) (fun e=>by have:=hr j e.symm;omega)).trans (h.block j hj hn)⟩
theorem SW.row {w0 w w':World} {S:ProgS} {gS gm gs ge:Nat} {D:ScD} {base n:Nat} {v:Value} {xs:List Value} (h:SW w0 w S gS gm gs ge D) (ho:w.ownsRow base 9 1 v n xs) (hb:w0.heap.size≤base) (hg:w.grownBy w' v.ownBlock):SW w0 w' S gS gm gs ge D :=
 ⟨⟨h.st.sc.grown hg (zafZ ho h.st.sc (by decide)),h.st.mp.grown hg (zbhY ho h.st.mp),h.st.sl.grown hg (zafZ ho h.st.sl (by decide)),h.st.er.grown hg (zafZ ho h.st.er (by decide)),h.st.sll,h.st.erl⟩,
  h.bl.grown hg h.bl.size (fun k hk=>Nat.le_trans hb (ho.lt k hk).1),h.b1,h.b2,h.b3,h.b4⟩
theorem own_notin {w0 w w1:World} {S:ProgS} {gS gm gs ge:Nat} {D:ScD} {base n:Nat} {v:Value} {xs:List Value} (h:SW w0 w S gS gm gs ge D) (ho:w.ownsRow base 9 1 v n xs):∀ g,v.ownBlock=some g→g ∉ L4 gS gm gs ge:=by
 intro g hg hm;simp only [List.mem_cons,List.not_mem_nil,or_false] at hm;rcases hm with rfl | rfl | rfl | rfl
 ·exact zafZ ho h.st.sc (by decide) hg.symm
 ·exact zbhY ho h.st.mp hg.symm
 ·exact zafZ ho h.st.sl (by decide) hg.symm
 ·exact zafZ ho h.st.er (by decide) hg.symm
attribute [local go_sem] zabZ
set_option maxHeartbeats 16000000 in
theorem block_s (w0:World) (S:ProgS) (gS gm gs ge:Nat) (hS:ProgV w0 S) (hok:ProgOk S.p) (f:Nat) (hw:WalkH w0 S gS gm gs ge f):BlockH w0 S gS gm gs ge f:=by
 intro n kA kc iA ic s e D w hcv hel hm hi hSW hnx;obtain ⟨FB,hFB⟩:∃ R,blockF S.p (walkF S.p f) n.kids D []=R:=⟨_,rfl⟩
 have hbr:blkR S.p f n.kids D=⟨FB.2.foldl alDel FB.1.vis,FB.1.next,FB.1.slots,FB.1.errs⟩:=by unfold blkR;rw [hFB]
 rw [hbr];obtain ⟨P,hP⟩:∃ P:Ending→World→Prop,(fun r w'=>r=.returned (.tuple #[])∧SW w0 w' S gS gm gs ge ⟨FB.2.foldl alDel FB.1.vis,FB.1.next,FB.1.slots,FB.1.errs⟩∧GL (L4 gS gm gs ge) w w')=P:=⟨_,rfl⟩
 rw [hP];have HP:Hid (∀ w',SW w0 w' S gS gm gs ge ⟨FB.2.foldl alDel FB.1.vis,FB.1.next,FB.1.slots,FB.1.errs⟩→GL (L4 gS gm gs ge) w w'→P (.returned (.tuple #[])) w'):=hZz (fun w' h1 h2=>by rw [← hP];exact ⟨rfl,h1,h2⟩);obtain ⟨i1,hj2,hy0,hy1,hy2⟩:=info_parts Tryz.infoStrS;have HH:=hZz hSW;have HI:=hZz hi;have HFB:=hZz hFB;have HW:=hZz hw;have HCV:=hZz hcv;have HNX:=hZz hnx;have HEL:=hZz hel;have HN:=hZz hS.nodes;have HOK:=hZz hok;have HB0:=hZz hSW.bl.size;obtain ⟨m,hme⟩:∃ m,n.kids.length=m:=⟨_,rfl⟩
 have HM:=hZz hme;unfold nodeC;rw [hme] at HI hm ⊢;generalize n.keys.length=q;generalize n.kind=nk;generalize n.text=nt;generalize n.int=ni;obtain ⟨N,hN⟩:∃ N,S.p.nodes.length=N:=⟨_,rfl⟩
 have HNN:=hZz hN;obtain ⟨gn,hgn⟩:∃ g,w.heap.size=g:=⟨_,rfl⟩
 obtain ⟨W1,hW1⟩:∃ W,w.alloc (.cells #[.int .i64 nk,.string nt,.int .i64 ni,.slice kA q kc,.slice iA m ic] 58)=W:=⟨_,rfl⟩
 have HB1:Hid (Below w.heap.size w W1):=hZz (by rw [← hW1];exact zacZ _ _);have HX1:Hid (Blk W1 gn 58 #[.int .i64 nk,.string nt,.int .i64 ni,.slice kA q kc,.slice iA m ic]):=hZz (by rw [← hW1,← hgn];exact Blk.new _ _ _);have HFR:Hid (gn ∉ L4 gS gm gs ge):=hZz (by rw [← hgn];exact hSW.fresh);have HS1:=hZz (hSW.below HB1.out);have HGN:=hZz hgn;have HW1:=hZz hW1;have hNb:N≤1000:=by rw [← hN];exact hok.nodes.len
 clear hFB hbr hP hcv hel hi hSW hnx hS hok hw hme hgn hW1 hN;go_enter func89,ntmps89
 go_upto_region 2 with fail
 rw [HGN.out,HW1.out];have x1:=blk5n HX1.out;go_wp2_with (fail)
 clear x1;go_loopw [4,6,7,13] (fun dv _ _ kv wr=>∃ (j:Nat) (Dj:ScD) (sj:Nat) (dj:List ByteArray),j≤m∧dj.length≤j∧kv=.int .i64 j∧Hid (Cover S.p.nodes f (n.kids.drop j) sj e)∧Hid (blockF S.p (walkF S.p f) (n.kids.drop j) Dj dj=FB)∧Hid (wr.ownsRow w.heap.size 9 1 dv dj.length (dj.map Value.string))∧Hid (SW w0 wr S gS gm gs ge Dj)∧Hid (GL (L4 gS gm gs ge) w wr)∧Hid (NxB Dj (e - sj))) (fun _ _ _ kv _=>m - (intOf kv).toNat)
 case atStart=>exact ⟨0,D,s,[],Nat.zero_le _,Nat.zero_le _,rfl,hZz (by rw [List.drop_zero];exact HCV.out),hZz (by rw [List.drop_zero];exact HFB.out),hZz (by exact ⟨rfl,.inl ⟨rfl,rfl⟩⟩),HS1,hZz (GL.of_below HB1.out),HNX⟩
 case round =>
  obtain ⟨j,Dj,sj,dj,hj,hdj,rfl,HC,HE,HO,HSj,HGj,HNj⟩:=hrel;have hj0:(0:Int)≤(j:Int):=by omega
  by_cases hlt:j<m
  ·have hlt':(j:Int)<(m:Int):=by omega
   have hkl:j<n.kids.length:=by rw [HM.out];exact hlt
   obtain ⟨bI,offI,rfl,hbI,ck⟩:=HI.out.cell hkl
   replace ck:=(HSj.out.bl.cell hbI).trans ck
   have hcv:=HC.out;have hfl:=HE.out;rw [List.drop_eq_getElem_cons hkl] at hcv hfl;obtain ⟨x,hx⟩:∃ x,n.kids[j]=x:=⟨_,rfl⟩
   rw [hx] at hcv hfl ck;cases hcv with
   | cons _ _ mk _ hf1 hc2 =>
    simp only [blockF,Int.toNat_natCast] at hfl;have q1:=zaaY hf1;have q2:=hc2.le';have hmN:mk<S.p.nodes.length:=by have:=HEL.out;omega
    have HCW:=hZz (HW.out mk sj Dj wr hf1 hmN HSj.out (by have:=HNj.out;unfold NxB at this ⊢;omega));obtain ⟨Dk,hDk⟩:∃ D,walkF S.p f mk Dj=D:=⟨_,rfl⟩
    have HNK2:Hid (NxB Dk (e - (mk+1))):=hZz (by rw [← hDk];exact HNj.out.inv (zbbY S.p f mk sj Dj hf1) (by omega));rw [hDk] at HCW hfl;have HC2:=hZz hc2;obtain ⟨bN,offN,kA2,kc2,iA2,ic2,hA2,hbN,c0,c1,c2,c3,c4,hdead1,hdead2⟩:=zalY HN.out hmN;have hatm:S.p.at_ mk=S.p.nodes[mk]:=zaiZ hmN _;rw [hatm] at hfl;clear hdead1 hdead2 hatm;generalize (S.p.nodes[mk]).kind=xk at c0 hfl;generalize (S.p.nodes[mk]).text=xt at c1 hfl;generalize (S.p.nodes[mk]).int=xi at c2;generalize (S.p.nodes[mk]).keys.length=xq at c3;generalize (S.p.nodes[mk]).kids.length=xm at c4;have HC4:Hid (∀ wx,Below w0.heap.size w0 wx→wx.cell? ⟨bN,offN+mk * 5,none⟩=some (.int .i64 xk)∧wx.cell? ⟨bN,offN+mk * 5+1,none⟩=some (.string xt)∧wx.cell? ⟨bN,offN+mk * 5+2,none⟩=some (.int .i64 xi)∧wx.cell? ⟨bN,offN+mk * 5+3,none⟩=some (.slice kA2 xq kc2)∧wx.cell? ⟨bN,offN+mk * 5+4,none⟩=some (.slice iA2 xm ic2)):=hZz (fun wx hb=>⟨(hb.cell hbN).trans c0,(hb.cell hbN).trans c1,(hb.cell hbN).trans c2,(hb.cell hbN).trans c3,(hb.cell hbN).trans c4⟩);have HA2:=hZz hA2;have HE2:=hZz hfl;have hmk':(mk:Int)<(N:Int):=by have:=HNN.out;omega
    have hmk0:(0:Int)≤(mk:Int):=by omega
    have HMN:=hZz hmN;clear hfl hx hf1 hc2 hbI c0 c1 c2 c3 c4 hA2 hbN hmN hDk;obtain ⟨dA,dc,rfl⟩:=zajZ HO.out
    go_upto_region 6 with (first
     | (go_at_call 59;(with_reducible refine HCW.out.mono ?_);rintro r2 w2 ⟨rfl,hs2,hg2⟩;have HS2:=hZz hs2;have HG2:=hZz (HGj.out.trans hg2);have HO2:=hZz (hg2.own HO.out (own_notin (w1:=wr) HSj.out HO.out));clear hs2 hg2))
    clear ck;obtain ⟨c0,c1,c2,c3,c4⟩:=HC4.out _ HS2.out.bl;obtain ⟨y0,y1,y2,y3,y4,y5⟩:=HS2.out.st.cells;rw [HA2.out,HNN.out] at y0;rw [HNN.out] at y5;have d2:=HS2.out.st.err HMN.out;obtain ⟨er,her⟩:∃ x,Dk.errs.getD mk 0=x:=⟨_,rfl⟩
    rw [her] at d2 HE2;have HER:=hZz her;clear her;obtain ⟨gx,hgx⟩:∃ g,w2.heap.size=g:=⟨_,rfl⟩
    obtain ⟨W3,hW3⟩:∃ W,w2.alloc (.cells #[.int .i64 xk,.string xt,.int .i64 xi,.slice kA2 xq kc2,.slice iA2 xm ic2] 58)=W:=⟨_,rfl⟩
    have HB3:Hid (Below w2.heap.size w2 W3):=hZz (by rw [← hW3];exact zacZ _ _);have HX3:Hid (Blk W3 gx 58 #[.int .i64 xk,.string xt,.int .i64 xi,.slice kA2 xq kc2,.slice iA2 xm ic2]):=hZz (by rw [← hW3,← hgx];exact Blk.new _ _ _);have HS3:=hZz (HS2.out.below HB3.out);have HG3:=hZz (HG2.out.below_tr HB3.out);have HO3:=hZz (zagZ HO2.out HB3.out);have HW3:=hZz hW3;have HGX:=hZz hgx;clear hW3 hgx;go_upto_region 7 with fail
    rw [HGX.out,HW3.out];clear HGX HW3 c0 c1 c2 c3 c4 y0 y1 y2 y3 y4 y5 d2;have x3:=blk5n HX3.out;obtain ⟨y0,y1,y2,y3,y4,y5⟩:=HS3.out.st.cells;rw [HNN.out] at y0 y4 y5;have d2:=HS3.out.st.err HMN.out;rw [show Dk.errs.getD mk 0=er from HER.out] at d2;by_cases h13:xk=13∧er=0
    ·obtain ⟨rfl,rfl⟩:=h13
     have hdl:dj.length≤1000:=by omega
     have hsz:w.heap.size≤W3.heap.size:=HG3.out.size;obtain ⟨dn,hdn⟩:∃ k,dj.length=k:=⟨_,rfl⟩
     have HDN:=hZz hdn;rw [hdn] at HO3 hdl ⊢;clear hdn
     go_wp2_with (first
      | (at_builtin;refine zafY rfl (.tmp 41) (.tmp 44) 40 rfl i1 _ 16 underlying40 hj2 hy0 hy1 hy2 rfl (by omega) rfl HO3.out [.string xt] rfl rfl (by simp [Value.oneCell']) (by omega) (by omega) hsz ?_;intro v' w4 hown4 hb4 hs4 hg4;have HO4:=hZz hown4;have HG4:=hZz hg4;clear hown4 hb4 hs4 hg4))
     refine ⟨⟨j+1,Dk,mk+1,dj ++ [xt],by omega,by simp;have:=HDN.out;omega,by simp,HC2,hZz ?_,hZz ?_,hZz (HS3.out.row HO3.out HB0.out HG4.out),hZz (HG3.out.row HG4.out (fun k hk=>(HO3.out.lt k hk).1)),HNK2⟩,by simp [intOf];omega⟩
     ·have:=HE2.out
      rw [if_pos ⟨rfl,rfl⟩] at this;exact this
     ·have:=HO4.out
      rw [List.length_append,HDN.out,List.map_append];exact this
    ·have HE3:Hid (blockF S.p (walkF S.p f) (n.kids.drop (j+1)) Dk dj=FB):=hZz (by have:=HE2.out;rwa [if_neg h13] at this)
     by_cases h1:xk=13
     ·subst h1
      have e0:(er == 0)=false:=by simp at h13;simp [h13]
      clear h13;go_wp2_with (fail)
      exact ⟨⟨j+1,Dk,mk+1,dj,by omega,by omega,by simp,HC2,HE3,HO3,HS3,HG3,HNK2⟩,by simp [intOf];omega⟩
     ·have e0:(xk == 13)=false:=by simp [h1]
      clear h13 h1;go_wp2_with (fail)
      exact ⟨⟨j+1,Dk,mk+1,dj,by omega,by omega,by simp,HC2,HE3,HO3,HS3,HG3,HNK2⟩,by simp [intOf];omega⟩
  ·have e:m=j:=by omega
   subst e;have HF2:Hid (FB=(Dj,dj)):=hZz (by rw [← HE.out,← HM.out,List.drop_length];rfl);obtain ⟨dA,dc,rfl⟩:=zajZ HO.out;obtain ⟨dn,hdn⟩:∃ k,dj.length=k:=⟨_,rfl⟩
   have HDN:=hZz hdn;rw [hdn] at HO hdj ⊢;have hdnb:(dn:Int)≤1000:=by omega
   clear hdn HE HC;go_wp2_with (fail)
   go_loopw [9,49] (fun _ kv wx=>∃ (a:Nat),a≤dn∧kv=.int .i64 a∧Hid (wx.ownsRow w.heap.size 9 1 (.slice dA dn dc) dn (dj.map Value.string))∧Hid (SW w0 wx S gS gm gs ge ⟨(dj.take a).foldl alDel Dj.vis,Dj.next,Dj.slots,Dj.errs⟩)∧Hid (GL (L4 gS gm gs ge) w wx)) (fun _ kv _=>dn - (intOf kv).toNat)
   case atStart=>exact ⟨0,Nat.zero_le _,rfl,HO,HSj,HGj⟩
   case round =>
    obtain ⟨a,ha,rfl,HOx,HSx,HGx⟩:=hrel;have ha0:(0:Int)≤(a:Int):=by omega
    by_cases halt:a<dn
    ·have halt':(a:Int)<(dn:Int):=by omega
     have hal:a<dj.length:=by rw [HDN.out];exact halt
     have hsl:=SlAt.of_own HOx.out (l:=dj) (c:=strCs) (map_strCs dj) (fun _=>rfl) (by omega);obtain ⟨b,off,rfl,_⟩:=hsl.ptr hal;have c0:=hsl.cell0 hal (v:=.string dj[a]) rfl;simp only [Nat.mul_one] at c0;have HTK:Hid ((dj.take (a+1)).foldl alDel Dj.vis=alDel ((dj.take a).foldl alDel Dj.vis) dj[a]):=hZz (by rw [List.take_succ_eq_append_getElem hal,List.foldl_append];rfl);clear hsl;generalize dj[a]=x at c0 HTK;obtain ⟨y0,y1,y2,y3,y4,y5⟩:=HSx.out.st.cells;clear y0 y1 y3 y4 y5
     go_wp2_with (first
      | (at_delete;refine wpList_delete rfl (.tmp 56) (.tmp 57) rfl Tryz.kStr underlying114 rfl x rfl HSx.out.st.mp ?_;intro w5 hm5 hg5;have HM5:=hZz hm5;have HG5:=hZz hg5;clear hm5 hg5))
     refine ⟨⟨a+1,by omega,by simp,hZz (own_grown HOx.out HG5.out (fun k hk=>?_)),hZz ?_,hZz (HGx.out.grown HG5.out (by simp))⟩,by simp [intOf];omega⟩
     ·injection hk with hk
      subst hk;exact zbhY HOx.out HSx.out.st.mp
     ·rw [HTK.out]
      exact HSx.out.gl (HSx.out.st.setVis HM5.out HG5.out) ((GL.refl _ _).grown HG5.out (by simp))
    ·have e:dn=a:=by omega
     subst e;go_wp2_with (fail)
     go_end0
     refine HP.out _ ?_ HGx.out
     rw [HF2.out]
     have:=HSx.out
     rw [← HDN.out,List.take_length] at this;exact this
end
section
attribute [local go_sem] zabZ
theorem index_s (l:List ByteArray) (A:Option Addr) (cap:Nat) (s:ByteArray) (w:World) (hV:SlAt w A 1 strCs l) (hl:l.length≤10000) :
  Calls prog 140 #[.slice A l.length cap,.string s] w fun e w'=>e=.returned (.int .i64 (idxI (l.findIdx? fun x=>decide (x=s))))∧w'=w:=by
 obtain ⟨R,hR⟩:∃ R,l.findIdx? (fun x=>decide (x=s))=R:=⟨_,rfl⟩
 rw [hR];obtain ⟨P,hP⟩:∃ P:Ending→World→Prop,(fun e w'=>e=.returned (.int .i64 (idxI R))∧w'=w)=P:=⟨_,rfl⟩
 rw [hP];have HP:=hZz hP;have HR:=hZz hR;have HV:=hZz hV;obtain ⟨N,hN⟩:∃ N,l.length=N:=⟨_,rfl⟩
 have HN:=hZz hN;rw [hN] at hl ⊢;clear hP hR hV hN;go_enter func140,ntmps140
 go_wp2_with (fail)
 go_loopw [5,8] (fun _ iv wr=>∃ k:Nat,k≤N∧iv=.int .i64 k∧wr=w∧Hid (∀ j (h:j<l.length),j<k→decide (l[j]=s)=false)) (fun _ iv _=>N - (intOf iv).toNat)
 case atStart=>exact ⟨0,Nat.zero_le _,rfl,rfl,hZz (fun j h h2=>by omega)⟩
 case round =>
  obtain ⟨k,hk,rfl,hwr,HQ⟩:=hrel;subst hwr;have hk0:(0:Int)≤(k:Int):=by omega
  by_cases hlt:k<N
  ·have hlt':(k:Int)<(N:Int):=by omega
   have hkl:k<l.length:=by rw [HN.out];exact hlt
   obtain ⟨b,off,rfl,_⟩:=HV.out.ptr hkl;have c0:=HV.out.cell0 hkl (v:=.string l[k]) rfl;simp only [Nat.mul_one] at c0;obtain ⟨x,hx⟩:∃ x,l[k]=x:=⟨_,rfl⟩
   rw [hx] at c0;have HX:=hZz hx;clear hx;cases he:(s.toList == x.toList) with
   | true =>
    have HE:Hid (x=s):=hZz (by rw [beq_bytes] at he;exact (of_decide_eq_true he).symm);go_wp2_with (fail)
    rw [← HP.out];refine ⟨?_,rfl⟩
    rw [← HR.out,zbcY (Q:=fun x=>decide (x=s)) hkl (by rw [HX.out,HE.out];simp) HQ.out];rfl
   | false =>
    have HE:Hid (decide (x=s)=false):=hZz (by rw [decide_eq_false_iff_not];intro h;subst h;simp at he);go_wp2_with (fail)
    exact ⟨⟨k+1,by omega,by simp,by trivial,hZz (fun j h h2=>by
     by_cases e:j=k
     ·subst e;rw [HX.out];exact HE.out
     ·exact HQ.out j h (by omega))⟩,by simp [intOf];omega⟩
  ·have e:k=N:=by omega
   subst e;go_wp2_with (fail)
   rw [← HP.out];refine ⟨?_,rfl⟩
   rw [← HR.out,zbdY (fun j h=>HQ.out j h (by have:=HN.out;omega))];rfl
theorem contains_s (l:List ByteArray) (A:Option Addr) (cap:Nat) (s:ByteArray) (w:World) (hV:SlAt w A 1 strCs l) (hl:l.length≤10000) :
  Calls prog 88 #[.slice A l.length cap,.string s] w fun e w'=>e=.returned (.bool (l.any fun x=>decide (x=s)))∧w'=w:=by
 have HC:=hZz (index_s l A cap s w hV hl);rw [← idx_any];generalize idxI (l.findIdx? fun x=>decide (x=s))=r at HC ⊢;generalize l.length=n at HC ⊢;clear hV hl;go_enter func88,ntmps88
 go_wp2_with (first
  | (go_at_call 140;(with_reducible refine HC.out.mono ?_);rintro e w1 ⟨rfl,hw1⟩;rw [hw1];clear hw1 w1))
 go_returns;exact ⟨rfl,rfl⟩
theorem dup_false {l:List ByteArray} (h:∀ k,k<l.length→(l.take k).any (fun s=>decide (s=l.getD k ⟨#[]⟩))=false):dupB l=false:=by
 unfold dupB;rw [Bool.eq_false_iff];intro hh;obtain ⟨k,hk,h1⟩:=List.any_eq_true.1 hh
 have:=h k (by simpa using hk)
 rw [h1] at this;cases this
theorem dup_true {l:List ByteArray} {k:Nat} (hk:k<l.length) (h:(l.take k).any (fun s=>decide (s=l.getD k ⟨#[]⟩))=true):dupB l=true:=by
 unfold dupB;exact List.any_eq_true.2 ⟨k,by simpa using hk,h⟩
def funsR (p:ProgD):Option (Int × Int)→Int→Int × Int
 | some r,_=>r
 | none,mi=>if mi<0 then (-1,5) else if (p.funcs.getD mi.toNat noFunc).params.length≠1 then ((p.funcs.getD mi.toNat noFunc).body,7) else (0,0)
theorem funs_R (p:ProgD):funsF p=funsR p (funcsF p p.funcs 0) (findF p mainS):=by
 unfold funsF;cases funcsF p p.funcs 0 <;> rfl
set_option maxHeartbeats 16000000 in
theorem functions_s (S:ProgS) (w:World) (hS:ProgV w S) (hok:ProgOk S.p):Calls prog 58 #[S.val] w fun e w'=>e=.returned (.tuple #[.int .i64 (funsF S.p).1,.int .i64 (funsF S.p).2])∧Below w.heap.size w w':=by
 obtain ⟨A,B,ncap,fcap,p⟩:=S;dsimp only at hok ⊢;obtain ⟨R,hR⟩:∃ R,funsF p=R:=⟨_,rfl⟩
 rw [hR];obtain ⟨P,hP⟩:∃ P:Ending→World→Prop,(fun e w'=>e=.returned (.tuple #[.int .i64 R.1,.int .i64 R.2])∧Below w.heap.size w w')=P:=⟨_,rfl⟩
 rw [hP];have HP:Hid (∀ (a b:Int) w',(a,b)=R→Below w.heap.size w w'→P (.returned (.tuple #[.int .i64 a,.int .i64 b])) w'):=hZz (fun a b w' h1 h2=>by rw [← hP,← h1];exact ⟨rfl,h2⟩);obtain ⟨F,hF⟩:∃ F,funcsF p p.funcs 0=F:=⟨_,rfl⟩
 obtain ⟨mi,hmi⟩:∃ m,findF p mainS=m:=⟨_,rfl⟩
 have HR:Hid (R=funsR p F mi):=hZz (by rw [← hR,funs_R,hF,hmi]);have hmlt:0≤mi→mi.toNat<p.funcs.length:=fun h=>by rw [← hmi];exact findF_lt (by rw [hmi];exact h)
 have HMLT:=hZz hmlt;have HFD:Hid (∀ s wx,Below w.heap.size w wx→Calls prog 87 #[(ProgS.mk A B ncap fcap p).val,.string s] wx fun e w'=>e=.returned (.int .i64 (findF p s))∧Below wx.heap.size wx w'):=hZz (fun s wx hb=>find_s ⟨A,B,ncap,fcap,p⟩ s wx (hS.below hb) (Nat.le_trans hok.funcs (by omega)));have HFM:Hid (∀ wx,Below w.heap.size w wx→Calls prog 87 #[(ProgS.mk A B ncap fcap p).val,.string ⟨#[109,97,105,110]⟩] wx fun e w'=>e=.returned (.int .i64 mi)∧Below wx.heap.size wx w'):=hZz (fun wx hb=>by rw [← hmi];exact HFD.out mainS wx hb);have HF:=hZz hF;have HV:=hZz hS.funcs;have HFN:=hZz hok.fn;have hfl:=hok.funcs;unfold ProgS.val at HFD HFM ⊢;obtain ⟨N,hN⟩:∃ N,p.funcs.length=N:=⟨_,rfl⟩
 have HN:=hZz hN;rw [hN] at hfl HFD HFM hmlt ⊢;generalize p.nodes.length=nn at HFD HFM ⊢;obtain ⟨g,hg⟩:∃ g,w.heap.size=g:=⟨_,rfl⟩
 obtain ⟨W1,hW1⟩:∃ W,w.alloc (.cells #[.slice A nn ncap,.slice B N fcap] 25)=W:=⟨_,rfl⟩
 have HX1:Hid (Blk W1 g 25 #[.slice A nn ncap,.slice B N fcap]):=hZz (by rw [← hW1,← hg];exact Blk.new _ _ _);have HB1:Hid (Below w.heap.size w W1):=hZz (by rw [← hW1];exact zacZ _ _);have HW1:=hZz hW1;have HG:=hZz hg;clear hR hP hF hmi hS hok hN hW1 hg;go_enter func58,ntmps58
 go_upto_region 1 with fail
 rw [HG.out,HW1.out];clear HG HW1;have x1:=blk2 HX1.out;go_wp2_with (fail)
 clear x1;go_loopw [4,5,6,7,8,9,14] (fun _ _ _ _ _ _ kv wr=>∃ j:Nat,j≤N∧kv=.int .i64 j∧Hid (funcsF p (p.funcs.drop j) j=F)∧Hid (Below w.heap.size w wr)∧Hid (Blk wr g 25 #[.slice A nn ncap,.slice B N fcap])) (fun _ _ _ _ _ _ kv _=>N - (intOf kv).toNat)
 case atStart=>exact ⟨0,Nat.zero_le _,rfl,hZz (by rw [List.drop_zero];exact HF.out),HB1,HX1⟩
 case round =>
  obtain ⟨j,hj,rfl,HJ,HB,HX⟩:=hrel;have hj0:(0:Int)≤(j:Int):=by omega
  by_cases hlt:j<N
  ·have hlt':(j:Int)<(N:Int):=by omega
   have hkl:j<p.funcs.length:=by rw [HN.out];exact hlt
   obtain ⟨b,off,kA,kc,rfl,hbk,c0,c1,c2,hkv⟩:=zakY HV.out hkl
   replace c0:=(HB.out.cell hbk).trans c0
   replace c1:=(HB.out.cell hbk).trans c1
   replace c2:=(HB.out.cell hbk).trans c2
   obtain ⟨f,hf⟩:∃ f,p.funcs[j]=f:=⟨_,rfl⟩
   have hm:=HFN.out _ (List.getElem_mem hkl)
   have hjo:F=if (lookL builtL f.name).isSome=true∨findF p f.name<j∨dupB f.params=true then some (f.body,6) else funcsF p (p.funcs.drop (j+1)) (j+1):=by
    rw [← HJ.out,List.drop_eq_getElem_cons hkl,hf];rfl
   rw [hf] at c0 c1 c2 hkv hm;obtain ⟨r,hr⟩:∃ r,lookL builtL f.name=r:=⟨_,rfl⟩
   obtain ⟨fi,hfi⟩:∃ r,findF p f.name=r:=⟨_,rfl⟩
   rw [hr,hfi] at hjo;have HBU:Hid (∀ wx,Calls prog 86 #[.string f.name] wx fun e w'=>e=.returned (.tuple #[.int .i64 (r.getD 0),.bool r.isSome])∧Below wx.heap.size wx w'):=hZz (fun wx=>by rw [← hr];exact built_any f.name wx);have HFF:Hid (∀ wx,Below w.heap.size w wx→Calls prog 87 #[.agg #[.slice A nn ncap,.slice (some ⟨b,off,none⟩) N fcap],.string f.name] wx fun e w'=>e=.returned (.int .i64 fi)∧Below wx.heap.size wx w'):=hZz (fun wx hb=>by rw [← hfi];exact HFD.out f.name wx hb);have HJO:=hZz hjo;have HKV:=hZz hkv;have hpl:=hm.2.1;obtain ⟨pn,hpn⟩:∃ n,f.params.length=n:=⟨_,rfl⟩
   have HPN:=hZz hpn;rw [hpn] at c1 hpl HKV;generalize f.name=x0 at c0 HBU HFF;obtain ⟨x2,hx2⟩:∃ x,f.body=x:=⟨_,rfl⟩
   rw [hx2] at c2 HJO;obtain ⟨gf,hgf⟩:∃ g,wr.heap.size=g:=⟨_,rfl⟩
   obtain ⟨W2,hW2⟩:∃ W,wr.alloc (.cells #[.string x0,.slice kA pn kc,.int .i64 x2] 42)=W:=⟨_,rfl⟩
   have HBR:Hid (Below wr.heap.size wr W2):=hZz (by rw [← hW2];exact zacZ _ _);have HBW:=hZz (zaaZ HBR.out HB.out HB.out.size);have HX2:=hZz (HX.out.below HBR.out);have HY2:Hid (Blk W2 gf 42 #[.string x0,.slice kA pn kc,.int .i64 x2]):=hZz (by rw [← hW2,← hgf];exact Blk.new _ _ _);have HW2:=hZz hW2;have HGF:=hZz hgf;have c3:=blk2 HX.out;clear hW2 hgf hr hfi hjo hkv hm hpn hx2;have HBLT:=hZz hbk;clear hbk;go_upto_region 4 with fail
   rw [HGF.out,HW2.out];clear HGF HW2 c0 c1 c2 c3;have y2:=HY2.out.cell 0 _ rfl;cases r with
   | some v =>
    go_wp2_with (first
     | (go_at_call 86;(with_reducible refine (HBU.out _).mono ?_);rintro e w4 ⟨rfl,hb4⟩;have HB4:=hZz (zaaZ hb4 HBW.out HBW.out.size);have HY4:=hZz (HY2.out.below hb4);have y4:=HY4.out.cell 2 _ rfl;clear hb4 y2))
    exact HP.out _ _ _ (by rw [HR.out,HJO.out,if_pos (.inl rfl)];rfl) HB4.out
   | none =>
    go_upto_region 5 with (first
     | (go_at_call 86;(with_reducible refine (HBU.out _).mono ?_);rintro e w4 ⟨rfl,hb4⟩;have HB4:=hZz (zaaZ hb4 HBW.out HBW.out.size);have HX4:=hZz (HX2.out.below hb4);have HY4:=hZz (HY2.out.below hb4);clear hb4 y2))
    have y4:=HY4.out.cell 0 _ rfl;have x4:=blk2 HX4.out;by_cases hfj:fi<(j:Int)
    ·go_wp2_with (first
      | (go_at_call 87;(with_reducible refine (HFF.out _ HB4.out).mono ?_);rintro e w5 ⟨rfl,hb5⟩;have HB5:=hZz (zaaZ hb5 HB4.out HB4.out.size);have HY5:=hZz (HY4.out.below hb5);have y5:=HY5.out.cell 2 _ rfl;clear hb5 y4))
     exact HP.out _ _ _ (by rw [HR.out,HJO.out,if_pos (.inr (.inl hfj))];rfl) HB5.out
    ·have HFJ:=hZz hfj
     go_upto_region 7 with (first
      | (go_at_call 87;(with_reducible refine (HFF.out _ HB4.out).mono ?_);rintro e w5 ⟨rfl,hb5⟩;have HB5:=hZz (zaaZ hb5 HB4.out HB4.out.size);have HX5:=hZz (HX4.out.below hb5);have HY5:=hZz (HY4.out.below hb5);clear hb5))
     clear y4 x4 hfj;have y5:=HY5.out.cell 1 _ rfl;have hplI:(pn:Int)≤10000:=by omega
     go_wp2_with (fail)
     clear y5;go_loopw [8,9,39] (fun _ _ kv wx=>∃ k:Nat,k≤pn∧kv=.int .i64 k∧Hid (∀ k',k' < k→(f.params.take k').any (fun s=>decide (s=f.params.getD k' ⟨#[]⟩))=false)∧wx=w5) (fun _ _ kv _=>pn - (intOf kv).toNat)
     case atStart=>exact ⟨0,Nat.zero_le _,rfl,hZz (fun k' h=>by omega),rfl⟩
     case round =>
      obtain ⟨k,hk,rfl,HD,hwx⟩:=hrel;subst hwx;have hk0:(0:Int)≤(k:Int):=by omega
      by_cases hkt:k<pn
      ·have hkt':(k:Int)<(pn:Int):=by omega
       have hkp:k<f.params.length:=by rw [HPN.out];exact hkt
       obtain ⟨A',cap',hA,hcc,hsl⟩:=HKV.out.below HB5.out;injection hA with e1 e2 e3
       subst e1 e3;obtain ⟨b2,off2,rfl,_⟩:=hsl.ptr hkp;have c0:=hsl.cell0 hkp (v:=.string f.params[k]) rfl;simp only [Nat.mul_one] at c0;obtain ⟨y,hy⟩:∃ y,(f.params.take k).any (fun x=>decide (x=f.params[k]))=y:=⟨_,rfl⟩
       have hlk:(f.params.take k).length=k:=by rw [List.length_take];omega
       have hcn:=contains_s (f.params.take k) (some ⟨b2,off2,none⟩) kc f.params[k] wr (hsl.take k) (by omega);rw [hlk,hy] at hcn;have HCN:=hZz hcn;have HYY:Hid ((f.params.take k).any (fun s=>decide (s=f.params.getD k ⟨#[]⟩))=y):=hZz (by rw [zaiZ hkp];exact hy);have hkc:(k:Int)≤(kc:Int):=by rw [← e2] at hcc;omega
       have hkc2:¬ (kc:Int)<(k:Int):=by omega
       clear e2;have HKP:=hZz hkp;have y5:=HY5.out.cell 1 _ rfl;clear hsl hy hcn hlk hcc;generalize f.params[k]=xs at c0 HCN;cases y with
       | true =>
        have y6:=HY5.out.cell 2 _ rfl
        go_wp2_with (first
         | (go_at_call 88;(with_reducible refine HCN.out.mono ?_);rintro e w6 ⟨rfl,hw6⟩;rw [hw6];clear hw6 w6))
        exact HP.out _ _ _ (by rw [HR.out,HJO.out,if_pos (.inr (.inr (dup_true HKP.out HYY.out)))];rfl) HB5.out
       | false =>
        go_wp2_with (first
         | (go_at_call 88;(with_reducible refine HCN.out.mono ?_);rintro e w6 ⟨rfl,hw6⟩;rw [hw6];clear hw6 w6))
        exact ⟨⟨k+1,by omega,by simp,hZz (fun k' h=>by
         by_cases e:k'=k
         ·subst e;exact HYY.out
         ·exact HD.out k' (by omega)),by trivial⟩,by simp [intOf];omega⟩
      ·have e:pn=k:=by omega
       subst e;have HND:Hid (dupB f.params=false):=hZz (dup_false (fun k' h=>HD.out k' (by rw [← HPN.out];exact h)));go_wp2_with (fail)
       exact ⟨⟨j+1,by omega,by simp,hZz (by rw [HJO.out,if_neg (by rintro (h | h | h);cases h;have:=HFJ.out;omega;rw [HND.out] at h;cases h)]),HB5,HX5⟩,by simp [intOf];omega⟩
  ·have e:N=j:=by omega
   subst e;have HF0:Hid (F=none):=hZz (by rw [← HJ.out,← HN.out,List.drop_length];rfl);have HR2:Hid (R=if mi<0 then (-1,5) else if (p.funcs.getD mi.toNat noFunc).params.length≠1 then ((p.funcs.getD mi.toNat noFunc).body,7) else (0,0)):=hZz (by rw [HR.out,HF0.out];rfl);have x1:=blk2 HX.out;by_cases hm0:mi<0
   ·go_wp2_with (first
     | (go_at_call 87;(with_reducible refine (HFM.out _ HB.out).mono ?_);rintro e w5 ⟨rfl,hb5⟩;have HB5:=hZz (zaaZ hb5 HB.out HB.out.size);clear hb5))
    exact HP.out _ _ _ (by rw [HR2.out,if_pos hm0]) HB5.out
   ·have hml:=HMLT.out (by omega)
    obtain ⟨mm,rfl⟩:∃ k:Nat,mi=(k:Int):=⟨mi.toNat,by omega⟩
    rw [Int.toNat_natCast] at hml;obtain ⟨b,off,kA,kc,rfl,hbk,_,c1,c2,hdead⟩:=zakY HV.out hml;clear hdead;have hmN:(mm:Int)<(N:Int):=by have:=HN.out;omega
    have HR3:Hid (R=if (p.funcs[mm]'hml).params.length≠1 then ((p.funcs[mm]'hml).body,7) else (0,0)):=hZz (by rw [HR2.out,if_neg (by omega),Int.toNat_natCast,zaiZ hml]);have HC1:Hid (∀ wx,Below w.heap.size w wx→wx.cell? ⟨b,off+mm * 3+1,none⟩=some (.slice kA (p.funcs[mm]'hml).params.length kc)∧wx.cell? ⟨b,off+mm * 3+2,none⟩=some (.int .i64 (p.funcs[mm]'hml).body)):=hZz (fun wx hb=>⟨(hb.cell hbk).trans c1,(hb.cell hbk).trans c2⟩);clear c1 c2;generalize (p.funcs[mm]'hml).params.length=pl at HR3 HC1;generalize (p.funcs[mm]'hml).body=bo at HR3 HC1;by_cases hp1:pl=1
    ·subst hp1
     go_wp2_with (first
      | (go_at_call 87;(with_reducible refine (HFM.out _ HB.out).mono ?_);rintro e w5 ⟨rfl,hb5⟩;have HB5:=hZz (zaaZ hb5 HB.out HB.out.size);have HX5:=hZz (HX.out.below hb5);have x5:=blk2 HX5.out;obtain ⟨c1,c2⟩:=HC1.out _ HB5.out;clear hb5 x1))
     exact HP.out _ _ _ (by rw [HR3.out,if_neg (by simp)]) HB5.out
    ·have hp1':((pl:Int) != 1)=true:=by simp;omega
     have HPL:=hZz hp1
     go_wp2_with (first
      | (go_at_call 87;(with_reducible refine (HFM.out _ HB.out).mono ?_);rintro e w5 ⟨rfl,hb5⟩;have HB5:=hZz (zaaZ hb5 HB.out HB.out.size);have HX5:=hZz (HX.out.below hb5);have x5:=blk2 HX5.out;obtain ⟨c1,c2⟩:=HC1.out _ HB5.out;clear hb5 x1))
     exact HP.out _ _ _ (by rw [HR3.out,if_pos HPL.out]) HB5.out
end
abbrev NodeX:=NodeD × Value × Value
def nodeRow (p:NodeX):List Value:=[.int .i64 p.1.kind,.string p.1.text,.int .i64 p.1.int,p.2.1,p.2.2]
abbrev FuncX:=FuncD × Value
def funcRow (p:FuncX):List Value:=[.string p.1.name,p.2,.int .i64 p.1.body]
theorem ints_sl {w:World} {A:Option Addr} {cap:Nat} {l:List Int} (h:SlAt w A 1 (fun k=>[Value.int .i64 k]) l) (hc:l.length≤cap) (hl:l.length≤17592186043904):IntsV w (.slice A l.length cap) l:=by
 refine ⟨A,cap,l.map (fun k=>[Value.int .i64 k]),rfl,hc,hl,?_,by simp,fun i h1 h2=>by simp [intR]⟩
 unfold SlAt at h ⊢
 rwa [List.map_id']
theorem nodes_sl {w:World} {A:Option Addr} {cap:Nat} {L:List NodeX} (h:SlAt w A 5 nodeRow L) (hp:∀ p∈L,KeysV w p.2.1 p.1.keys∧IntsV w p.2.2 p.1.kids) (hc:L.length≤cap) (hl:L.length≤1000000):NodesV w (.slice A L.length cap) (L.map Prod.fst):=by
 refine ⟨A,cap,L.map nodeRow,by rw [List.length_map],by rw [List.length_map];exact hc,by rw [List.length_map];omega,?_,by simp,fun i h1 h2=>?_⟩
 ·unfold SlAt at h ⊢
  rwa [List.map_id']
 ·have hi:i<L.length:=by simpa using h1
  obtain ⟨k1,k2⟩:=hp L[i] (List.getElem_mem hi);refine ⟨L[i].2.1,L[i].2.2,by simp [nodeRow],?_,?_⟩
  ·simpa using k1
  ·simpa using k2
theorem funcs_sl {w:World} {A:Option Addr} {cap:Nat} {L:List FuncX} (h:SlAt w A 3 funcRow L) (hp:∀ p∈L,KeysV w p.2 p.1.params) (hc:L.length≤cap) (hl:L.length≤1000000):FuncsV w (.slice A L.length cap) (L.map Prod.fst):=by
 refine ⟨A,cap,L.map funcRow,by rw [List.length_map],by rw [List.length_map];exact hc,by rw [List.length_map];omega,?_,by simp,fun i h1 h2=>?_⟩
 ·unfold SlAt at h ⊢
  rwa [List.map_id']
 ·have hi:i<L.length:=by simpa using h1
  refine ⟨L[i].2,by simp [funcRow],?_⟩
  simpa using hp L[i] (List.getElem_mem hi)
section
theorem Tryz.infoNode:(prog.info? 58).map (fun i=>(i.zero,i.size,i.bytes))=some (some (.agg #[.int .i64 0,.string ByteArray.empty,.int .i64 0,.slice none 0 0,.slice none 0 0]),5,80):=by kernel_rfl
structure KF (gF:Nat) (b b2:Option Nat) (w w':World):Prop where
 os:w'.os=w.os
 tape:w'.tape=w.tape
 output:w'.output=w.output
 size:w.heap.size≤w'.heap.size
 stay:∀ g,g<w.heap.size→g≠gF→some g≠b→w'.heap[g]? = w.heap[g]?
 own:b2=b∨∃ g,b2=some g∧w.heap.size≤g
section
variable {gF:Nat} {b b2 b3:Option Nat} {w w' w'':World}
theorem KF.of_below (h:Below w.heap.size w w') (gF:Nat) (b:Option Nat):KF gF b b w w':=⟨h.os,h.tape,h.output,h.size,fun g hg _ _=>h.block g hg,.inl rfl⟩
theorem KF.trans (h:KF gF b b2 w w') (k:KF gF b2 b3 w' w''):KF gF b b3 w w'':=by
 refine ⟨k.os.trans h.os,k.tape.trans h.tape,k.output.trans h.output,Nat.le_trans h.size k.size,fun g h1 h2 h3=>?_,?_⟩
 ·refine (k.stay g (Nat.lt_of_lt_of_le h1 h.size) h2 (fun e=>?_)).trans (h.stay g h1 h2 h3)
  rcases h.own with e2 | ⟨g',e2,e3⟩
  ·exact h3 (e.trans e2)
  ·rw [e2] at e
   injection e with e
   omega
 ·rcases k.own with e | ⟨g,e,e2⟩
  ·rcases h.own with e3 | e3
   ·exact .inl (e.trans e3)
   ·rw [e];exact .inr e3
  ·exact .inr ⟨g,e,Nat.le_trans h.size e2⟩
theorem KF.blk {g:Nat} {t:TypeId} {cs:Array Value} (h:KF gF b b2 w w') (hB:Blk w g t cs) (h1:g≠gF) (h2:some g≠b):Blk w' g t cs:=(h.stay g hB.lt h1 h2).trans hB
theorem KF.setF (h:KF gF b b2 w w') (i:Nat) (u:Value):KF gF b b2 w (w'.setCell ⟨gF,i,none⟩ u) :=
 ⟨h.os,h.tape,h.output,by simpa using h.size,fun g h1 h2 h3=>(Below.heap_setCell w' _ u g h2).trans (h.stay g h1 h2 h3),h.own⟩
theorem KF.grown {v v':Value} {row:Option Nat} (h:KF gF b row w w') (hg:w'.grownBy w'' row) (hn:b2=row∨∃ g,b2=some g∧w'.heap.size≤g):KF gF b b2 w w'':=by
 refine ⟨hg.os.trans h.os,hg.tape.trans h.tape,hg.output.trans h.output,Nat.le_trans h.size hg.size,fun g h1 h2 h3=>?_,?_⟩
 ·refine (hg.block g (Nat.lt_of_lt_of_le h1 h.size) (fun e=>?_)).trans (h.stay g h1 h2 h3)
  rcases h.own with e2 | ⟨g',e2,e3⟩
  ·exact h3 (e.trans e2)
  ·rw [e2] at e
   injection e with e
   omega
 ·rcases hn with e | ⟨g,e,e2⟩
  ·rcases h.own with e3 | e3
   ·exact .inl (e.trans e3)
   ·rw [e];exact .inr e3
  ·exact .inr ⟨g,e,Nat.le_trans h.size e2⟩
end
theorem blkF {w:World} {g:Nat} {t:TypeId} {v0 v1 v2:Value} (h:Blk w g t #[v0,v1,v2]):w.cell? ⟨g,0,none⟩=some v0∧w.cell? ⟨g,1,none⟩=some v1∧w.cell? ⟨g,2,none⟩=some v2:=⟨h.cell 0 _ rfl,h.cell 1 _ rfl,h.cell 2 _ rfl⟩
end
section
theorem sl_blk {α:Type} {w:World} {g:Nat} {t:TypeId} {cs:Array Value} {sz:Nat} {c:α→List Value} {l:List α} (h:Blk w g t cs) (hx:cs.toList=l.flatMap c) (hc:∀ a,(c a).length=sz) (hsz:0<sz) (hl:l.length≤maxLen):SlAt w (some ⟨g,0,none⟩) sz c l:=by
 have hlen:cs.toList.length=l.length * sz:=by
  rw [hx];clear hx hl;induction l with
  | nil=>simp
  | cons a r ih=>rw [List.flatMap_cons,List.length_append,hc,ih,List.length_cons,Nat.succ_mul];omega
 have ho:w.ownsRow 0 t sz (.slice (some ⟨g,0,none⟩) l.length l.length) l.length cs.toList :=
  ⟨hlen,.inr ⟨g,l.length,cs,rfl,Nat.zero_le _,h,Nat.le_refl _,hl,by simpa using hlen,by rw [← hlen];exact List.take_length⟩⟩
 exact SlAt.of_own ho hx hc hsz
def exW (w:World) (g:Nat):World:=(((((w.alloc (.cells #[.slice (some ⟨g+1+1+1,0,none⟩) 3 3,.slice (some ⟨g+1+1+1+1+1,0,none⟩) 1 1] 25)).alloc (.cells #[.int .i64 0] 3)).alloc (.cells #[.int .i64 1] 3)).alloc (.cells #[.int .i64 5,.string ⟨#[101]⟩,.int .i64 0,.slice none 0 0,.slice none 0 0,.int .i64 17,.string ⟨#[]⟩,.int .i64 0,.slice none 0 0,.slice (some ⟨g+1,0,none⟩) 1 1,.int .i64 19,.string ⟨#[]⟩,.int .i64 0,.slice none 0 0,.slice (some ⟨g+1+1,0,none⟩) 1 1] 58)).alloc (.cells #[.string ⟨#[101]⟩] 9)).alloc (.cells #[.string ⟨#[109,97,105,110]⟩,.slice (some ⟨g+1+1+1+1,0,none⟩) 1 1,.int .i64 2] 42)
def exS0 (g:Nat):ProgS:=⟨some ⟨g+1+1+1,0,none⟩,some ⟨g+1+1+1+1+1,0,none⟩,3,1,exP⟩
theorem int_blk {w:World} {g:Nat} {t:TypeId} {a:Int} (h:Blk w g t #[.int .i64 a]):IntsV w (.slice (some ⟨g,0,none⟩) 1 1) [a] :=
 ints_sl (l:=[a]) (sl_blk h rfl (fun _=>rfl) (by decide) (by simp [maxLen])) (by simp) (by simp)
theorem str_blk {w:World} {g:Nat} {t:TypeId} {s:ByteArray} (h:Blk w g t #[.string s]):KeysV w (.slice (some ⟨g,0,none⟩) 1 1) [s] :=
 ⟨_,1,rfl,by simp,sl_blk h rfl (fun _=>rfl) (by decide) (by simp [maxLen])⟩
theorem nil_keys (w:World):KeysV w (.slice none 0 0) []:=⟨none,0,rfl,by decide,SlAt.nil⟩
theorem nil_ints (w:World):IntsV w (.slice none 0 0) []:=⟨none,0,[],rfl,by decide,by decide,SlAt.nil,rfl,fun i h=>by cases h⟩
theorem exW_ok (w:World) (g:Nat) (hg:w.heap.size=g):ProgV (exW w g) (exS0 g)∧Below w.heap.size w (exW w g)∧Blk (exW w g) g 25 #[.slice (some ⟨g+1+1+1,0,none⟩) 3 3,.slice (some ⟨g+1+1+1+1+1,0,none⟩) 1 1]:=by
 subst hg;have b1:Blk (exW w w.heap.size) (w.heap.size+1) 3 #[.int .i64 0]:=((((Blk.new' (by simp)).alloc _).alloc _).alloc _).alloc _;have b2:Blk (exW w w.heap.size) (w.heap.size+1+1) 3 #[.int .i64 1]:=(((Blk.new' (by simp)).alloc _).alloc _).alloc _;have b3:Blk (exW w w.heap.size) (w.heap.size+1+1+1) 58 #[.int .i64 5,.string ⟨#[101]⟩,.int .i64 0,.slice none 0 0,.slice none 0 0,.int .i64 17,.string ⟨#[]⟩,.int .i64 0,.slice none 0 0,.slice (some ⟨w.heap.size+1,0,none⟩) 1 1,.int .i64 19,.string ⟨#[]⟩,.int .i64 0,.slice none 0 0,.slice (some ⟨w.heap.size+1+1,0,none⟩) 1 1]:=((Blk.new' (by simp)).alloc _).alloc _;have b4:Blk (exW w w.heap.size) (w.heap.size+1+1+1+1) 9 #[.string ⟨#[101]⟩]:=(Blk.new' (by simp)).alloc _;have b5:Blk (exW w w.heap.size) (w.heap.size+1+1+1+1+1) 42 #[.string ⟨#[109,97,105,110]⟩,.slice (some ⟨w.heap.size+1+1+1+1,0,none⟩) 1 1,.int .i64 2]:=Blk.new' (by simp);refine ⟨⟨?_,?_⟩,?_,(((((Blk.new' rfl).alloc _).alloc _).alloc _).alloc _).alloc _⟩
 ·refine nodes_sl (L:=[(⟨5,eS,0,[],[]⟩,.slice none 0 0,.slice none 0 0),(⟨17,⟨#[]⟩,0,[],[0]⟩,.slice none 0 0,.slice (some ⟨w.heap.size+1,0,none⟩) 1 1),(⟨19,⟨#[]⟩,0,[],[1]⟩,.slice none 0 0,.slice (some ⟨w.heap.size+1+1,0,none⟩) 1 1)]) (sl_blk b3 rfl (fun _=>rfl) (by decide) (by simp [maxLen])) (fun p hp=>?_) (by simp [exS0]) (by simp)
  simp only [List.mem_cons,List.not_mem_nil,or_false] at hp;rcases hp with rfl | rfl | rfl
  ·exact ⟨nil_keys _,nil_ints _⟩
  ·exact ⟨nil_keys _,int_blk b1⟩
  ·exact ⟨nil_keys _,int_blk b2⟩
 ·refine funcs_sl (L:=[(⟨mainS,[eS],2⟩,.slice (some ⟨w.heap.size+1+1+1+1,0,none⟩) 1 1)]) (sl_blk b5 rfl (fun _=>rfl) (by decide) (by simp [maxLen])) (fun p hp=>?_) (by simp [exS0]) (by simp)
  simp only [List.mem_cons,List.not_mem_nil,or_false] at hp;subst hp;exact str_blk b4
 ·exact (((((zacZ w _).alloc (by simp) _).alloc (by simp;omega) _).alloc (by simp;omega) _).alloc (by simp;omega) _).alloc (by simp;omega) _
attribute [local go_sem] zabZ
set_option maxHeartbeats 4000000 in
theorem example12_s (w:World):Calls prog 25 #[] w fun e w'=>∃ S:ProgS,e=.returned S.val∧S.p=exP∧ProgV w' S∧Below w.heap.size w w':=by
 obtain ⟨P,hP⟩:∃ P:Ending→World→Prop,(fun e w'=>∃ S:ProgS,e=.returned S.val∧S.p=exP∧ProgV w' S∧Below w.heap.size w w')=P:=⟨_,rfl⟩
 rw [hP];have HP:=hZz hP;obtain ⟨g,hg⟩:∃ g,w.heap.size=g:=⟨_,rfl⟩
 have HX:=hZz (exW_ok w g hg);obtain ⟨W6,hW6⟩:∃ W,exW w g=W:=⟨_,rfl⟩
 rw [hW6] at HX;unfold exW at hW6;have HW6:=hZz hW6;have HG:=hZz hg;clear hP hg hW6;go_enter func25,ntmps25
 go_wp2_with (fail)
 rw [HG.out,HW6.out];obtain ⟨z0,z1⟩:=blk2 HX.out.2.2;refine bodyPost_ret (v:=.agg #[.slice (some ⟨g+1+1+1,0,none⟩) 3 3,.slice (some ⟨g+1+1+1+1+1,0,none⟩) 1 1]) (by simp [results,Tryz.results25,go_sem,z0,z1]) rfl ?_
 rw [← HP.out];exact ⟨exS0 g,rfl,rfl,HX.out.1,HX.out.2.1⟩
end
theorem ex_keys (i:Nat):(exP.at_ i).keys.length≤1000:=by
 match i with
 | 0=>exact Nat.zero_le _
 | 1=>exact Nat.zero_le _
 | 2=>exact Nat.zero_le _
 | n+3=>exact Nat.zero_le _
theorem ex_ok:ProgOk exP:=by
 refine ⟨⟨by decide,fun n hn=>?_,fun n hn=>?_⟩,by decide,fun f hf=>?_⟩
 ·simp only [exP,List.mem_cons,List.not_mem_nil,or_false] at hn
  rcases hn with rfl | rfl | rfl <;> decide
 ·simp only [exP,List.mem_cons,List.not_mem_nil,or_false] at hn
  rcases hn with rfl | rfl | rfl <;> exact ⟨by decide,fun k hk=>by cases hk⟩
 ·simp only [exP,List.mem_cons,List.not_mem_nil,or_false] at hf
  subst hf;refine ⟨by decide,by decide,fun s hs=>?_⟩
  simp only [List.mem_cons,List.not_mem_nil,or_false] at hs;subst hs;decide
theorem ex_err:(studyF exP).err=0:=by rw [zclY];rfl
end Go.Proofs.YthiimbhjpdphpaaGreatDoor
