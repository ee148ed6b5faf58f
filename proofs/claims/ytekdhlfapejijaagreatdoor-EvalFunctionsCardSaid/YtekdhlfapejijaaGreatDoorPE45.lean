/- E45 -/
import Derived.Test.YtekdhlfapejijaaGreatDoorPH2
set_option linter.unusedVariables false
set_option linter.unusedSimpArgs false
namespace Go.Proofs.YtekdhlfapejijaaGreatDoor
open Go.RowKit
set_option maxRecDepth 100000
set_option maxHeartbeats 8000000
open Go.Proofs.Tryz
theorem RetR.from {w w1 w':World} {r:ResD} {e:Ending} (h:RetR w1 [] r e w') (hb:Below w.heap.size w w1):RetR w [] r e w':=by
 obtain ⟨u,he,hv,hf,hb'⟩:=h;exact ⟨u,he,hv,hf.up hb.size (Below.refl _ _),zadZ hb' hb⟩
theorem za2Y {w:World} {v:Value} {l:List ValD} (h:ValsV w v l) (hl:l≠[]):∃ b off cap,v=.slice (some ⟨b,off,none⟩) l.length cap∧∀ k (hk:k<l.length),∃ x,w.cell? ⟨b,off+k,none⟩=some x∧ValV w x l[k]:=by
 obtain ⟨A,cap,vs,rfl,hc,hm,hs,hla,hva⟩:=h.at;have hlen:0<l.length:=by cases l <;> simp_all
 obtain ⟨b,off,rfl,_⟩:=hs.ptr (n:=0) (by omega);refine ⟨b,off,cap,rfl,fun k hk=>⟨vs[k]'(by omega),?_,hva k (by omega) hk⟩⟩
 have:=hs.cell0 (n:=k) (by omega) (v:=vs[k]'(by omega)) rfl
 rwa [Nat.mul_one] at this
theorem look_cases {s:ByteArray} {n:Int} (h:lookL builtL s=some n):(s=⟨#[108,101,110]⟩∧n=1)∨(s=⟨#[115,116,114]⟩∧n=1)∨(s=⟨#[105,110,116]⟩∧n=1)∨(s=⟨#[112,117,115,104]⟩∧n=2)∨(s=⟨#[112,117,116]⟩∧n=3)∨(s=⟨#[107,101,121,115]⟩∧n=1)∨(s=⟨#[104,97,115]⟩∧n=2)∨(s=⟨#[102,97,105,108]⟩∧n=1):=by
 simp only [bytes_lit];unfold lookL builtL at h;simp only [List.lookup] at h
 repeat' (split at h)
 all_goals first
  | (rename_i hh;have e:=eq_of_beq hh;injection h with h;subst h;simp [e])
  | cases h
attribute [local go_sem] zacZ
theorem builtin_no (name:ByteArray) (args:List ValD) (av:Value) (w:World) (ha:ValsV w av args) (hp:Pow w) (ho:∀ x∈args,OkV x) (hno:∀ n,lookL builtL name=some n→(args.length:Int)≠n∨firstBad args≠0) :
  Calls prog 16 #[.string name,av] w (RetR w [] (builtinR name args)):=by
 obtain ⟨P,hP⟩:∃ P:Ending→World→Prop,RetR w [] (builtinR name args)=P:=⟨_,rfl⟩
 rw [hP];have HP:=hZz hP;have HBU:=hZz (zaxY name w);have HCK:Hid (∀ wx,Below w.heap.size w wx→Calls prog 30 #[av] wx fun e w'=>e=.returned (.int .i64 (firstBad args))∧Below w.heap.size w w'):=hZz fun wx hb=>(zahY args av wx (ha.below hb) (hp.below hb) ho).mono fun e w' ⟨he,hb'⟩=>⟨he,zadZ hb' hb⟩
 have HU:Hid (builtinR name args=match lookL builtL name with | none=>([],4) | some n=>if (args.length:Int)≠n then ([],7) else if firstBad args≠0 then ([],firstBad args) else builtR name.toList args):=hZz rfl
 obtain ⟨aA,ac,rfl⟩:∃ A c,av=.slice A args.length c:=by
  obtain ⟨A,cap,vs,e,_⟩:=ha.at;exact ⟨A,cap,e⟩
 obtain ⟨N,hN⟩:∃ N,args.length=N:=⟨_,rfl⟩
 rw [hN] at HU HCK hno ⊢;obtain ⟨fb,hfb⟩:∃ b,firstBad args=b:=⟨_,rfl⟩
 rw [hfb] at HU HCK hno;clear hP ha hp ho hN hfb;cases hlk:lookL builtL name with
 | none =>
  rw [hlk] at HBU HU;have HR:=HU;simp only [Option.getD_none,Option.isSome_none] at HBU;clear hlk hno HU;go_enter func16,ntmps16
  go_wp2_with (first
   | (go_at_call 49;((with_reducible refine HBU.out.mono ?_);rintro e w1 ⟨rfl,hb1⟩;have HB1:=hZz hb1;clear hb1)))
  rw [← HP.out];exact RetR.err HR.out HB1.out
 | some n =>
  have hno':=hno n hlk;rw [hlk] at HBU HU;simp only [Option.getD_some,Option.isSome_some] at HBU;dsimp only at HU;clear hlk hno;by_cases hn:(N:Int)=n
  ·have h1:fb≠0:=hno'.resolve_left (not_not_intro hn)
   have h2:(fb != 0)=true:=by simpa using h1
   have HR:Hid (builtinR name args=([],fb)):=hZz (by rw [HU.out,if_neg (not_not_intro hn),if_pos h1]);subst hn;clear h1 hno' HU;go_enter func16,ntmps16
   go_wp2_with (first
    | (go_at_call 49;((with_reducible refine HBU.out.mono ?_);rintro e w1 ⟨rfl,hb1⟩;have HB1:=hZz hb1;clear hb1))
    | (go_at_call 30;((with_reducible refine (HCK.out _ HB1.out).mono ?_);rintro e w2 ⟨rfl,hb2⟩;have HB2:=hZz hb2;clear hb2)))
   rw [← HP.out];exact RetR.err HR.out HB2.out
  ·have h2:((N:Int) != n)=true:=by simpa using hn
   have HR:Hid (builtinR name args=([],7)):=hZz (by rw [HU.out,if_pos hn]);clear hn hno' HU;go_enter func16,ntmps16
   go_wp2_with (first
    | (go_at_call 49;((with_reducible refine HBU.out.mono ?_);rintro e w1 ⟨rfl,hb1⟩;have HB1:=hZz hb1;clear hb1)))
   rw [← HP.out];exact RetR.err HR.out HB1.out
theorem look_len:lookL builtL ⟨#[108,101,110]⟩=some 1:=by unfold lookL;rw [Lib.toList_data];rfl
theorem look_str:lookL builtL ⟨#[115,116,114]⟩=some 1:=by unfold lookL;rw [Lib.toList_data];rfl
theorem look_int:lookL builtL ⟨#[105,110,116]⟩=some 1:=by unfold lookL;rw [Lib.toList_data];rfl
theorem look_push:lookL builtL ⟨#[112,117,115,104]⟩=some 2:=by unfold lookL;rw [Lib.toList_data];rfl
theorem look_put:lookL builtL ⟨#[112,117,116]⟩=some 3:=by unfold lookL;rw [Lib.toList_data];rfl
theorem look_keys:lookL builtL ⟨#[107,101,121,115]⟩=some 1:=by unfold lookL;rw [Lib.toList_data];rfl
theorem look_has:lookL builtL ⟨#[104,97,115]⟩=some 2:=by unfold lookL;rw [Lib.toList_data];rfl
theorem look_fail:lookL builtL ⟨#[102,97,105,108]⟩=some 1:=by unfold lookL;rw [Lib.toList_data];rfl
theorem built_len (a:ValD) (av:Value) (w:World) (ha:ValsV w av [a]) (hp:Pow w) (hse:Sent w) (hf:firstBad [a]=0) :
  Calls prog 16 #[.string ⟨#[108,101,110]⟩,av] w (RetR w [] (builtR [108,101,110] [a])):=by
 obtain ⟨P,hP⟩:∃ P:Ending→World→Prop,RetR w [] (builtR [108,101,110] [a])=P:=⟨_,rfl⟩
 rw [hP];have HP:=hZz hP;have hall:=zalY hf;have HBU:=hZz (zaxY ⟨#[108,101,110]⟩ w);rw [look_len] at HBU;simp only [Option.getD_some,Option.isSome_some] at HBU;have HCK:Hid (∀ wx,Below w.heap.size w wx→Calls prog 30 #[av] wx fun e w'=>e=.returned (.int .i64 0)∧Below w.heap.size w w'):=hZz fun wx hb=>(zahY [a] av wx (ha.below hb) (hp.below hb) (fun x hx=>zahZ (hall x hx))).mono fun e w' ⟨he,hb'⟩=>⟨by rw [he,hf],zadZ hb' hb⟩
 obtain ⟨b,off,cap,rfl,hat⟩:=za2Y ha (by simp);simp only [List.length_cons,List.length_nil,Nat.zero_add,Nat.reduceAdd] at hat HCK ⊢;obtain ⟨x0,hx0,hx⟩:=hat 0 (by omega);simp only [Nat.add_zero,List.getElem_cons_zero] at hx0 hx;have hck:checkF a=0:=hall a (by simp);obtain ⟨A0,n0,k0,rfl⟩:=hx.shape
 obtain ⟨c,r,rfl⟩:∃ c r,a=c :: r:=by
  cases a with
  | nil=>exact absurd rfl (zaoZ hck)
  | cons c r=>exact ⟨c,r,rfl⟩
 have HX0:=hZz hx0;have HF:Hid (∀ wx,Below w.heap.size w wx→Calls prog 50 #[.slice A0 n0 k0] wx (RetR wx [] (sizeR (c :: r)))):=hZz fun wx hb=>size0_any c r _ wx (hx.below hb) (hp.below hb) (zahZ hck) hck
 have HR:Hid (builtR [108,101,110] [c :: r]=sizeR (c :: r)):=hZz rfl;clear hP ha hp hse hf hall hat hx hck hx0;go_enter func16,ntmps16
 go_wp2_with (first
  | (go_at_call 49;((with_reducible refine HBU.out.mono ?_);rintro e w1 ⟨rfl,hb1⟩;have HB1:=hZz hb1;clear hb1))
  | (go_at_call 30;((with_reducible refine (HCK.out _ HB1.out).mono ?_);rintro e w2 ⟨rfl,hb2⟩;have HB2:=hZz hb2;have hx0:=(hb2.cell (bLZ HX0.out)).trans HX0.out;clear hb2))
  | (go_at_call 50;((refine (HF.out _ HB2.out).mono ?_);rintro e w3 ⟨u,rfl,hu⟩;have HU:=hZz hu;clear hu)))
 rw [← HP.out,HR.out];exact RetR.from ⟨u,rfl,HU.out⟩ HB2.out
theorem built_str (a:ValD) (av:Value) (w:World) (ha:ValsV w av [a]) (hp:Pow w) (hse:Sent w) (hf:firstBad [a]=0) :
  Calls prog 16 #[.string ⟨#[115,116,114]⟩,av] w (RetR w [] (builtR [115,116,114] [a])):=by
 obtain ⟨P,hP⟩:∃ P:Ending→World→Prop,RetR w [] (builtR [115,116,114] [a])=P:=⟨_,rfl⟩
 rw [hP];have HP:=hZz hP;have hall:=zalY hf;have HBU:=hZz (zaxY ⟨#[115,116,114]⟩ w);rw [look_str] at HBU;simp only [Option.getD_some,Option.isSome_some] at HBU;have HCK:Hid (∀ wx,Below w.heap.size w wx→Calls prog 30 #[av] wx fun e w'=>e=.returned (.int .i64 0)∧Below w.heap.size w w'):=hZz fun wx hb=>(zahY [a] av wx (ha.below hb) (hp.below hb) (fun x hx=>zahZ (hall x hx))).mono fun e w' ⟨he,hb'⟩=>⟨by rw [he,hf],zadZ hb' hb⟩
 obtain ⟨b,off,cap,rfl,hat⟩:=za2Y ha (by simp);simp only [List.length_cons,List.length_nil,Nat.zero_add,Nat.reduceAdd] at hat HCK ⊢;obtain ⟨x0,hx0,hx⟩:=hat 0 (by omega);simp only [Nat.add_zero,List.getElem_cons_zero] at hx0 hx;have hck:checkF a=0:=hall a (by simp);obtain ⟨A0,n0,k0,rfl⟩:=hx.shape
 obtain ⟨c,r,rfl⟩:∃ c r,a=c :: r:=by
  cases a with
  | nil=>exact absurd rfl (zaoZ hck)
  | cons c r=>exact ⟨c,r,rfl⟩
 have HX0:=hZz hx0;have HF:Hid (∀ wx,Below w.heap.size w wx→Calls prog 51 #[.slice A0 n0 k0] wx (RetR wx [] (textR (c :: r)))):=hZz fun wx hb=>text_eval c r _ wx (hx.below hb) (hp.below hb) hck
 have HR:Hid (builtR [115,116,114] [c :: r]=textR (c :: r)):=hZz rfl;clear hP ha hp hse hf hall hat hx hck hx0;go_enter func16,ntmps16
 go_wp2_with (first
  | (go_at_call 49;((with_reducible refine HBU.out.mono ?_);rintro e w1 ⟨rfl,hb1⟩;have HB1:=hZz hb1;clear hb1))
  | (go_at_call 30;((with_reducible refine (HCK.out _ HB1.out).mono ?_);rintro e w2 ⟨rfl,hb2⟩;have HB2:=hZz hb2;have hx0:=(hb2.cell (bLZ HX0.out)).trans HX0.out;clear hb2))
  | (go_at_call 51;((refine (HF.out _ HB2.out).mono ?_);rintro e w3 ⟨u,rfl,hu⟩;have HU:=hZz hu;clear hu)))
 rw [← HP.out,HR.out];exact RetR.from ⟨u,rfl,HU.out⟩ HB2.out
theorem built_int (a:ValD) (av:Value) (w:World) (ha:ValsV w av [a]) (hp:Pow w) (hse:Sent w) (hf:firstBad [a]=0) :
  Calls prog 16 #[.string ⟨#[105,110,116]⟩,av] w (RetR w [] (builtR [105,110,116] [a])):=by
 obtain ⟨P,hP⟩:∃ P:Ending→World→Prop,RetR w [] (builtR [105,110,116] [a])=P:=⟨_,rfl⟩
 rw [hP];have HP:=hZz hP;have hall:=zalY hf;have HBU:=hZz (zaxY ⟨#[105,110,116]⟩ w);rw [look_int] at HBU;simp only [Option.getD_some,Option.isSome_some] at HBU;have HCK:Hid (∀ wx,Below w.heap.size w wx→Calls prog 30 #[av] wx fun e w'=>e=.returned (.int .i64 0)∧Below w.heap.size w w'):=hZz fun wx hb=>(zahY [a] av wx (ha.below hb) (hp.below hb) (fun x hx=>zahZ (hall x hx))).mono fun e w' ⟨he,hb'⟩=>⟨by rw [he,hf],zadZ hb' hb⟩
 obtain ⟨b,off,cap,rfl,hat⟩:=za2Y ha (by simp);simp only [List.length_cons,List.length_nil,Nat.zero_add,Nat.reduceAdd] at hat HCK ⊢;obtain ⟨x0,hx0,hx⟩:=hat 0 (by omega);simp only [Nat.add_zero,List.getElem_cons_zero] at hx0 hx;have hck:checkF a=0:=hall a (by simp);obtain ⟨A0,n0,k0,rfl⟩:=hx.shape
 obtain ⟨c,r,rfl⟩:∃ c r,a=c :: r:=by
  cases a with
  | nil=>exact absurd rfl (zaoZ hck)
  | cons c r=>exact ⟨c,r,rfl⟩
 have HX0:=hZz hx0;have HF:Hid (∀ wx,Below w.heap.size w wx→Calls prog 52 #[.slice A0 n0 k0] wx (RetR wx [] (integerR (c :: r)))):=hZz fun wx hb=>integer_any c r _ wx (hx.below hb) (hp.below hb) (hse.below hb) (zahZ hck) hck
 have HR:Hid (builtR [105,110,116] [c :: r]=integerR (c :: r)):=hZz rfl;clear hP ha hp hse hf hall hat hx hck hx0;go_enter func16,ntmps16
 go_wp2_with (first
  | (go_at_call 49;((with_reducible refine HBU.out.mono ?_);rintro e w1 ⟨rfl,hb1⟩;have HB1:=hZz hb1;clear hb1))
  | (go_at_call 30;((with_reducible refine (HCK.out _ HB1.out).mono ?_);rintro e w2 ⟨rfl,hb2⟩;have HB2:=hZz hb2;have hx0:=(hb2.cell (bLZ HX0.out)).trans HX0.out;clear hb2))
  | (go_at_call 52;((refine (HF.out _ HB2.out).mono ?_);rintro e w3 ⟨u,rfl,hu⟩;have HU:=hZz hu;clear hu)))
 rw [← HP.out,HR.out];exact RetR.from ⟨u,rfl,HU.out⟩ HB2.out
theorem built_keys (a:ValD) (av:Value) (w:World) (ha:ValsV w av [a]) (hp:Pow w) (hse:Sent w) (hf:firstBad [a]=0) :
  Calls prog 16 #[.string ⟨#[107,101,121,115]⟩,av] w (RetR w [] (builtR [107,101,121,115] [a])):=by
 obtain ⟨P,hP⟩:∃ P:Ending→World→Prop,RetR w [] (builtR [107,101,121,115] [a])=P:=⟨_,rfl⟩
 rw [hP];have HP:=hZz hP;have hall:=zalY hf;have HBU:=hZz (zaxY ⟨#[107,101,121,115]⟩ w);rw [look_keys] at HBU;simp only [Option.getD_some,Option.isSome_some] at HBU;have HCK:Hid (∀ wx,Below w.heap.size w wx→Calls prog 30 #[av] wx fun e w'=>e=.returned (.int .i64 0)∧Below w.heap.size w w'):=hZz fun wx hb=>(zahY [a] av wx (ha.below hb) (hp.below hb) (fun x hx=>zahZ (hall x hx))).mono fun e w' ⟨he,hb'⟩=>⟨by rw [he,hf],zadZ hb' hb⟩
 obtain ⟨b,off,cap,rfl,hat⟩:=za2Y ha (by simp);simp only [List.length_cons,List.length_nil,Nat.zero_add,Nat.reduceAdd] at hat HCK ⊢;obtain ⟨x0,hx0,hx⟩:=hat 0 (by omega);simp only [Nat.add_zero,List.getElem_cons_zero] at hx0 hx;have hck:checkF a=0:=hall a (by simp);obtain ⟨A0,n0,k0,rfl⟩:=hx.shape
 obtain ⟨c,r,rfl⟩:∃ c r,a=c :: r:=by
  cases a with
  | nil=>exact absurd rfl (zaoZ hck)
  | cons c r=>exact ⟨c,r,rfl⟩
 have HX0:=hZz hx0;have HF:Hid (∀ wx,Below w.heap.size w wx→Calls prog 54 #[.slice A0 n0 k0] wx (RetR wx [] (keysR (c :: r)))):=hZz fun wx hb=>bkeys_any c r _ wx (hx.below hb) (hp.below hb) (zahZ hck) hck
 have HR:Hid (builtR [107,101,121,115] [c :: r]=keysR (c :: r)):=hZz rfl;clear hP ha hp hse hf hall hat hx hck hx0;go_enter func16,ntmps16
 go_wp2_with (first
  | (go_at_call 49;((with_reducible refine HBU.out.mono ?_);rintro e w1 ⟨rfl,hb1⟩;have HB1:=hZz hb1;clear hb1))
  | (go_at_call 30;((with_reducible refine (HCK.out _ HB1.out).mono ?_);rintro e w2 ⟨rfl,hb2⟩;have HB2:=hZz hb2;have hx0:=(hb2.cell (bLZ HX0.out)).trans HX0.out;clear hb2))
  | (go_at_call 54;((refine (HF.out _ HB2.out).mono ?_);rintro e w3 ⟨u,rfl,hu⟩;have HU:=hZz hu;clear hu)))
 rw [← HP.out,HR.out];exact RetR.from ⟨u,rfl,HU.out⟩ HB2.out
theorem built_fail (a:ValD) (av:Value) (w:World) (ha:ValsV w av [a]) (hp:Pow w) (hse:Sent w) (hf:firstBad [a]=0) :
  Calls prog 16 #[.string ⟨#[102,97,105,108]⟩,av] w (RetR w [] (builtR [102,97,105,108] [a])):=by
 obtain ⟨P,hP⟩:∃ P:Ending→World→Prop,RetR w [] (builtR [102,97,105,108] [a])=P:=⟨_,rfl⟩
 rw [hP];have HP:=hZz hP;have hall:=zalY hf;have HBU:=hZz (zaxY ⟨#[102,97,105,108]⟩ w);rw [look_fail] at HBU;simp only [Option.getD_some,Option.isSome_some] at HBU;have HCK:Hid (∀ wx,Below w.heap.size w wx→Calls prog 30 #[av] wx fun e w'=>e=.returned (.int .i64 0)∧Below w.heap.size w w'):=hZz fun wx hb=>(zahY [a] av wx (ha.below hb) (hp.below hb) (fun x hx=>zahZ (hall x hx))).mono fun e w' ⟨he,hb'⟩=>⟨by rw [he,hf],zadZ hb' hb⟩
 obtain ⟨b,off,cap,rfl,hat⟩:=za2Y ha (by simp);simp only [List.length_cons,List.length_nil,Nat.zero_add,Nat.reduceAdd] at hat HCK ⊢;have HR:Hid (builtR [102,97,105,108] [a]=([],20)):=hZz rfl;clear hP ha hp hse hf hall hat;go_enter func16,ntmps16
 go_wp2_with (first
  | (go_at_call 49;((with_reducible refine HBU.out.mono ?_);rintro e w1 ⟨rfl,hb1⟩;have HB1:=hZz hb1;clear hb1))
  | (go_at_call 30;((with_reducible refine (HCK.out _ HB1.out).mono ?_);rintro e w2 ⟨rfl,hb2⟩;have HB2:=hZz hb2;clear hb2)))
 rw [← HP.out];exact RetR.err HR.out HB2.out
theorem built_push (a d:ValD) (av:Value) (w:World) (ha:ValsV w av [a,d]) (hp:Pow w) (hse:Sent w) (hf:firstBad [a,d]=0) :
  Calls prog 16 #[.string ⟨#[112,117,115,104]⟩,av] w (RetR w [] (builtR [112,117,115,104] [a,d])):=by
 obtain ⟨P,hP⟩:∃ P:Ending→World→Prop,RetR w [] (builtR [112,117,115,104] [a,d])=P:=⟨_,rfl⟩
 rw [hP];have HP:=hZz hP;have hall:=zalY hf;have HBU:=hZz (zaxY ⟨#[112,117,115,104]⟩ w);rw [look_push] at HBU;simp only [Option.getD_some,Option.isSome_some] at HBU;have HCK:Hid (∀ wx,Below w.heap.size w wx→Calls prog 30 #[av] wx fun e w'=>e=.returned (.int .i64 0)∧Below w.heap.size w w'):=hZz fun wx hb=>(zahY [a,d] av wx (ha.below hb) (hp.below hb) (fun x hx=>zahZ (hall x hx))).mono fun e w' ⟨he,hb'⟩=>⟨by rw [he,hf],zadZ hb' hb⟩
 obtain ⟨b,off,cap,rfl,hat⟩:=za2Y ha (by simp);simp only [List.length_cons,List.length_nil,Nat.zero_add,Nat.reduceAdd] at hat HCK ⊢;obtain ⟨x0,hx0,hx⟩:=hat 0 (by omega);obtain ⟨x1,hx1,hy⟩:=hat 1 (by omega);simp only [Nat.add_zero,List.getElem_cons_zero,List.getElem_cons_succ] at hx0 hx hx1 hy;have hck:checkF a=0:=hall a (by simp);have hck2:checkF d=0:=hall d (by simp);obtain ⟨A0,n0,k0,rfl⟩:=hx.shape;obtain ⟨A1,n1,k1,rfl⟩:=hy.shape
 obtain ⟨c,r,rfl⟩:∃ c r,a=c :: r:=by
  cases a with
  | nil=>exact absurd rfl (zaoZ hck)
  | cons c r=>exact ⟨c,r,rfl⟩
 have HX0:=hZz hx0;have HX1:=hZz hx1;have HF:Hid (∀ wx,Below w.heap.size w wx→Calls prog 53 #[.slice A0 n0 k0,.slice A1 n1 k1] wx (RetR wx [] (pushR (c :: r) d))):=hZz fun wx hb=>push_any c r d _ _ wx (hx.below hb) (hy.below hb) (hp.below hb) (zahZ hck) (zahZ hck2) hck
 have HR:Hid (builtR [112,117,115,104] [c :: r,d]=pushR (c :: r) d):=hZz rfl;clear hP ha hp hse hf hall hat hx hck hx0 hx1 hy hck2;go_enter func16,ntmps16
 go_upto_region 17 with (first
  | (go_at_call 49;((with_reducible refine HBU.out.mono ?_);rintro e w1 ⟨rfl,hb1⟩;have HB1:=hZz hb1;clear hb1))
  | (go_at_call 30;((with_reducible refine (HCK.out _ HB1.out).mono ?_);rintro e w2 ⟨rfl,hb2⟩;have HB2:=hZz hb2;have hx0:=(hb2.cell (bLZ HX0.out)).trans HX0.out;have hx1:=(hb2.cell (bLZ HX1.out)).trans HX1.out;clear hb2)))
 go_region_law (go_simp;go_at_call 53;((refine (HF.out _ (zaaZ (zafZ _) HB2.out HB2.out.size)).mono ?_);rintro e w3 ⟨u,rfl,hu⟩;have HU:=hZz hu;clear hu))
 all_goals
  go_simp;go_wp2_with (fail)
  rw [← HP.out,HR.out];exact RetR.from ⟨u,rfl,HU.out⟩ (zaaZ (zafZ _) HB2.out HB2.out.size)
theorem built_put (a d z:ValD) (av:Value) (w:World) (ha:ValsV w av [a,d,z]) (hp:Pow w) (hse:Sent w) (hf:firstBad [a,d,z]=0) :
  Calls prog 16 #[.string ⟨#[112,117,116]⟩,av] w (RetR w [] (builtR [112,117,116] [a,d,z])):=by
 obtain ⟨P,hP⟩:∃ P:Ending→World→Prop,RetR w [] (builtR [112,117,116] [a,d,z])=P:=⟨_,rfl⟩
 rw [hP];have HP:=hZz hP;have hall:=zalY hf;have HBU:=hZz (zaxY ⟨#[112,117,116]⟩ w);rw [look_put] at HBU;simp only [Option.getD_some,Option.isSome_some] at HBU;have HCK:Hid (∀ wx,Below w.heap.size w wx→Calls prog 30 #[av] wx fun e w'=>e=.returned (.int .i64 0)∧Below w.heap.size w w'):=hZz fun wx hb=>(zahY [a,d,z] av wx (ha.below hb) (hp.below hb) (fun x hx=>zahZ (hall x hx))).mono fun e w' ⟨he,hb'⟩=>⟨by rw [he,hf],zadZ hb' hb⟩
 obtain ⟨b,off,cap,rfl,hat⟩:=za2Y ha (by simp);simp only [List.length_cons,List.length_nil,Nat.zero_add,Nat.reduceAdd] at hat HCK ⊢;obtain ⟨x0,hx0,hx⟩:=hat 0 (by omega);obtain ⟨x1,hx1,hy⟩:=hat 1 (by omega);obtain ⟨x2,hx2,hz⟩:=hat 2 (by omega);simp only [Nat.add_zero,List.getElem_cons_zero,List.getElem_cons_succ] at hx0 hx hx1 hy hx2 hz;have hck:checkF a=0:=hall a (by simp);have hck2:checkF d=0:=hall d (by simp);have hck3:checkF z=0:=hall z (by simp);obtain ⟨A2,n2,k2,rfl⟩:=hz.shape;have HX2:=hZz hx2;have hks:∀ c r,d=c :: r→c.str.size≤200:=fun c r e=>za8Y hck2 c (by rw [e];simp)
 obtain ⟨c,r,rfl⟩:∃ c r,a=c :: r:=by
  cases a with
  | nil=>exact absurd rfl (zaoZ hck)
  | cons c r=>exact ⟨c,r,rfl⟩
 obtain ⟨c2,r2,rfl⟩:∃ c r,d=c :: r:=by
  cases d with
  | nil=>exact absurd rfl (zaoZ hck2)
  | cons c r=>exact ⟨c,r,rfl⟩
 have hks2:=hks c2 r2 rfl;have hx9:=hx;have hy9:=hy;obtain ⟨bA,oA,nA,cA,rfl,hnA,a0,_,_,_⟩:=zanZ hx9;obtain ⟨bB,oB,nB,cB,rfl,hnB,b0,_,b2,_⟩:=zanZ hy9;have hpA:(0:Int)<(nA:Int):=by omega
 have hpB:(0:Int)<(nB:Int):=by omega
 have hpBn:0<nB:=by omega
 have HX0:=hZz hx0;have HX1:=hZz hx1;have HA0:=hZz a0;have HB0:=hZz b0;have HB5:=hZz b2;have HF:Hid (∀ wx,Below w.heap.size w wx→Calls prog 55 #[.slice (some ⟨bA,oA,none⟩) nA cA,.string c2.str,.slice A2 n2 k2] wx (RetR wx [] (putR (c :: r) c2.str z))):=hZz fun wx hb=>put_any (c :: r) z c2.str _ _ wx (hx.below hb) (hz.below hb) (hp.below hb) (zahZ hck) (zahZ hck3) (by omega)
 have HU:Hid (builtR [112,117,116] [c :: r,c2 :: r2,z]=if c.kind≠6∨c2.kind≠4 then ([],7) else putR (c :: r) c2.str z):=hZz rfl;obtain ⟨BR,hBR⟩:∃ t,builtR [112,117,116] [c :: r,c2 :: r2,z]=t:=⟨_,rfl⟩
 rw [hBR] at HP HU;obtain ⟨k,i,s,nn⟩:=c;obtain ⟨kk,ii,ss,nnn⟩:=c2;dsimp only at a0 b0 b2 HA0 HB0 HB5 HF HU hks2;clear hP ha hp hse hf hall hat hx hy hck hx0 hx1 hck2 hks hx9 hy9 a0 b0 b2 hBR hks2 hnA hnB hx2 hz hck3;by_cases h6:k=6
 case neg =>
  have h6':(k != 6)=true:=by simpa using h6
  have HR:Hid (BR=([],7)):=hZz (by rw [HU.out,if_pos (.inl h6)]);clear h6 HU;go_enter func16,ntmps16
  go_wp2_with (first
   | (go_at_call 49;((with_reducible refine HBU.out.mono ?_);rintro e w1 ⟨rfl,hb1⟩;have HB1:=hZz hb1;clear hb1))
   | (go_at_call 30;((with_reducible refine (HCK.out _ HB1.out).mono ?_);rintro e w2 ⟨rfl,hb2⟩;have HB2:=hZz hb2;have hx0:=(hb2.cell (bLZ HX0.out)).trans HX0.out;have hx1:=(hb2.cell (bLZ HX1.out)).trans HX1.out;have ha0:=(hb2.cell (bLZ HA0.out)).trans HA0.out;have hb0:=(hb2.cell (bLZ HB0.out)).trans HB0.out;have hb5:=(hb2.cell (bLZ HB5.out)).trans HB5.out;clear hb2)))
  rw [← HP.out];exact RetR.err HR.out HB2.out
 subst h6;by_cases h4:kk=4
 case neg =>
  have h4':(kk != 4)=true:=by simpa using h4
  have HR:Hid (BR=([],7)):=hZz (by rw [HU.out,if_pos (.inr h4)]);clear h4 HU;go_enter func16,ntmps16
  go_wp2_with (first
   | (go_at_call 49;((with_reducible refine HBU.out.mono ?_);rintro e w1 ⟨rfl,hb1⟩;have HB1:=hZz hb1;clear hb1))
   | (go_at_call 30;((with_reducible refine (HCK.out _ HB1.out).mono ?_);rintro e w2 ⟨rfl,hb2⟩;have HB2:=hZz hb2;have hx0:=(hb2.cell (bLZ HX0.out)).trans HX0.out;have hx1:=(hb2.cell (bLZ HX1.out)).trans HX1.out;have ha0:=(hb2.cell (bLZ HA0.out)).trans HA0.out;have hb0:=(hb2.cell (bLZ HB0.out)).trans HB0.out;have hb5:=(hb2.cell (bLZ HB5.out)).trans HB5.out;clear hb2)))
  rw [← HP.out];exact RetR.err HR.out HB2.out
 subst h4;have HR:Hid (BR=putR (⟨6,i,s,nn⟩ :: r) ss z):=hZz (by rw [HU.out,if_neg (by simp)]);clear HU;go_enter func16,ntmps16
 go_upto_region 25 with (first
  | (go_at_call 49;((with_reducible refine HBU.out.mono ?_);rintro e w1 ⟨rfl,hb1⟩;have HB1:=hZz hb1;clear hb1))
  | (go_at_call 30;((with_reducible refine (HCK.out _ HB1.out).mono ?_);rintro e w2 ⟨rfl,hb2⟩;have HB2:=hZz hb2;have hx0:=(hb2.cell (bLZ HX0.out)).trans HX0.out;have hx1:=(hb2.cell (bLZ HX1.out)).trans HX1.out;have ha0:=(hb2.cell (bLZ HA0.out)).trans HA0.out;have hb0:=(hb2.cell (bLZ HB0.out)).trans HB0.out;have hb5:=(hb2.cell (bLZ HB5.out)).trans HB5.out;have hx2:=(hb2.cell (bLZ HX2.out)).trans HX2.out;clear hb2)))
 go_region_law (go_simp;go_at_call 55;((refine (HF.out _ (zaaZ (zafZ _) HB2.out HB2.out.size)).mono ?_);rintro e w3 ⟨u,rfl,hu⟩;have HU:=hZz hu;clear hu))
 all_goals
  go_simp;go_wp2_with (fail)
  rw [← HP.out,HR.out];exact RetR.from ⟨u,rfl,HU.out⟩ (zaaZ (zafZ _) HB2.out HB2.out.size)
theorem built_has (a d:ValD) (av:Value) (w:World) (ha:ValsV w av [a,d]) (hp:Pow w) (hse:Sent w) (hf:firstBad [a,d]=0) :
  Calls prog 16 #[.string ⟨#[104,97,115]⟩,av] w (RetR w [] (builtR [104,97,115] [a,d])):=by
 obtain ⟨P,hP⟩:∃ P:Ending→World→Prop,RetR w [] (builtR [104,97,115] [a,d])=P:=⟨_,rfl⟩
 rw [hP];have HP:=hZz hP;have hall:=zalY hf;have HBU:=hZz (zaxY ⟨#[104,97,115]⟩ w);rw [look_has] at HBU;simp only [Option.getD_some,Option.isSome_some] at HBU;have HCK:Hid (∀ wx,Below w.heap.size w wx→Calls prog 30 #[av] wx fun e w'=>e=.returned (.int .i64 0)∧Below w.heap.size w w'):=hZz fun wx hb=>(zahY [a,d] av wx (ha.below hb) (hp.below hb) (fun x hx=>zahZ (hall x hx))).mono fun e w' ⟨he,hb'⟩=>⟨by rw [he,hf],zadZ hb' hb⟩
 obtain ⟨b,off,cap,rfl,hat⟩:=za2Y ha (by simp);simp only [List.length_cons,List.length_nil,Nat.zero_add,Nat.reduceAdd] at hat HCK ⊢;obtain ⟨x0,hx0,hx⟩:=hat 0 (by omega);obtain ⟨x1,hx1,hy⟩:=hat 1 (by omega);simp only [Nat.add_zero,List.getElem_cons_zero,List.getElem_cons_succ] at hx0 hx hx1 hy;have hck:checkF a=0:=hall a (by simp);have hck2:checkF d=0:=hall d (by simp);have hks:∀ c r,d=c :: r→c.str.size≤200:=fun c r e=>za8Y hck2 c (by rw [e];simp)
 obtain ⟨c,r,rfl⟩:∃ c r,a=c :: r:=by
  cases a with
  | nil=>exact absurd rfl (zaoZ hck)
  | cons c r=>exact ⟨c,r,rfl⟩
 obtain ⟨c2,r2,rfl⟩:∃ c r,d=c :: r:=by
  cases d with
  | nil=>exact absurd rfl (zaoZ hck2)
  | cons c r=>exact ⟨c,r,rfl⟩
 have hks2:=hks c2 r2 rfl;have hx9:=hx;have hy9:=hy;obtain ⟨bA,oA,nA,cA,rfl,hnA,a0,_,_,_⟩:=zanZ hx9;obtain ⟨bB,oB,nB,cB,rfl,hnB,b0,_,b2,_⟩:=zanZ hy9;have hpA:(0:Int)<(nA:Int):=by omega
 have hpB:(0:Int)<(nB:Int):=by omega
 have hpBn:0<nB:=by omega
 have HX0:=hZz hx0;have HX1:=hZz hx1;have HA0:=hZz a0;have HB0:=hZz b0;have HB5:=hZz b2;have HF:Hid (∀ wx,Below w.heap.size w wx→Calls prog 56 #[.slice (some ⟨bA,oA,none⟩) nA cA,.string c2.str] wx (RetR wx [] (getR (c :: r) c2.str))):=hZz fun wx hb=>get_any (c :: r) c2.str _ wx (hx.below hb) (hp.below hb) (zahZ hck)
 have HU:Hid (builtR [104,97,115] [c :: r,c2 :: r2]=if c.kind≠6∨c2.kind≠4 then ([],7) else ([bCel (decide ((getR (c :: r) c2.str).2=0))],0)):=hZz rfl;obtain ⟨⟨gv,ge⟩,hge⟩:∃ t,getR (c :: r) c2.str=t:=⟨_,rfl⟩
 rw [hge] at HF HU;dsimp only at HF HU;obtain ⟨BR,hBR⟩:∃ t,builtR [104,97,115] [c :: r,c2 :: r2]=t:=⟨_,rfl⟩
 rw [hBR] at HP HU;obtain ⟨k,i,s,nn⟩:=c;obtain ⟨kk,ii,ss,nnn⟩:=c2;dsimp only at a0 b0 b2 HA0 HB0 HB5 HF HU hks2;clear hP ha hp hse hf hall hat hx hy hck hx0 hx1 hck2 hks hx9 hy9 a0 b0 b2 hBR hks2 hnA hnB hge;by_cases h6:k=6
 case neg =>
  have h6':(k != 6)=true:=by simpa using h6
  have HR:Hid (BR=([],7)):=hZz (by rw [HU.out,if_pos (.inl h6)]);clear h6 HU;go_enter func16,ntmps16
  go_wp2_with (first
   | (go_at_call 49;((with_reducible refine HBU.out.mono ?_);rintro e w1 ⟨rfl,hb1⟩;have HB1:=hZz hb1;clear hb1))
   | (go_at_call 30;((with_reducible refine (HCK.out _ HB1.out).mono ?_);rintro e w2 ⟨rfl,hb2⟩;have HB2:=hZz hb2;have hx0:=(hb2.cell (bLZ HX0.out)).trans HX0.out;have hx1:=(hb2.cell (bLZ HX1.out)).trans HX1.out;have ha0:=(hb2.cell (bLZ HA0.out)).trans HA0.out;have hb0:=(hb2.cell (bLZ HB0.out)).trans HB0.out;have hb5:=(hb2.cell (bLZ HB5.out)).trans HB5.out;clear hb2)))
  rw [← HP.out];exact RetR.err HR.out HB2.out
 subst h6;by_cases h4:kk=4
 case neg =>
  have h4':(kk != 4)=true:=by simpa using h4
  have HR:Hid (BR=([],7)):=hZz (by rw [HU.out,if_pos (.inr h4)]);clear h4 HU;go_enter func16,ntmps16
  go_wp2_with (first
   | (go_at_call 49;((with_reducible refine HBU.out.mono ?_);rintro e w1 ⟨rfl,hb1⟩;have HB1:=hZz hb1;clear hb1))
   | (go_at_call 30;((with_reducible refine (HCK.out _ HB1.out).mono ?_);rintro e w2 ⟨rfl,hb2⟩;have HB2:=hZz hb2;have hx0:=(hb2.cell (bLZ HX0.out)).trans HX0.out;have hx1:=(hb2.cell (bLZ HX1.out)).trans HX1.out;have ha0:=(hb2.cell (bLZ HA0.out)).trans HA0.out;have hb0:=(hb2.cell (bLZ HB0.out)).trans HB0.out;have hb5:=(hb2.cell (bLZ HB5.out)).trans HB5.out;clear hb2)))
  rw [← HP.out];exact RetR.err HR.out HB2.out
 subst h4;have HR:Hid (BR=([bCel (decide (ge=0))],0)):=hZz (by rw [HU.out,if_neg (by simp)])
 have HBO:Hid (∀ wx,Calls prog 32 #[.bool (ge == 0)] wx fun e w'=>∃ u,e=.returned u∧ValV w' u [bCel (decide (ge=0))]∧FromC wx w' [] u∧Below wx.heap.size wx w'):=hZz fun wx=>by
  have:=cbool_any (decide (ge=0)) wx
  rwa [show (ge == 0)=decide (ge=0) from rfl]
 clear HU;go_enter func16,ntmps16
 go_upto_region 26 with (first
  | (go_at_call 49;((with_reducible refine HBU.out.mono ?_);rintro e w1 ⟨rfl,hb1⟩;have HB1:=hZz hb1;clear hb1))
  | (go_at_call 30;((with_reducible refine (HCK.out _ HB1.out).mono ?_);rintro e w2 ⟨rfl,hb2⟩;have HB2:=hZz hb2;have hx0:=(hb2.cell (bLZ HX0.out)).trans HX0.out;have hx1:=(hb2.cell (bLZ HX1.out)).trans HX1.out;have ha0:=(hb2.cell (bLZ HA0.out)).trans HA0.out;have hb0:=(hb2.cell (bLZ HB0.out)).trans HB0.out;have hb5:=(hb2.cell (bLZ HB5.out)).trans HB5.out;clear hb2)))
 go_region_law (go_simp;go_at_call 56;((refine (HF.out _ (zaaZ (zafZ _) HB2.out HB2.out.size)).mono ?_);rintro e w3 ⟨u,rfl,hu,hf3,hb3⟩;have HB3:=hZz (zaaZ hb3 (zaaZ (zafZ _) HB2.out HB2.out.size) (zaaZ (zafZ _) HB2.out HB2.out.size).size);clear hu hf3 hb3))
 all_goals
  go_simp
  go_wp2_with (first
   | (go_at_call 32;((refine (HBO.out _).mono ?_);rintro e w4 ⟨u4,rfl,hu4,hf4,hb4⟩;have HU4:=hZz hu4;have HF4:=hZz hf4;have HB4:=hZz hb4;clear hu4 hf4 hb4)))
  rw [← HP.out,HR.out];exact RetR.from ⟨u4,rfl,HU4.out,HF4.out,HB4.out⟩ HB3.out
theorem builtin_any (name:ByteArray) (args:List ValD) (av:Value) (w:World) (ha:ValsV w av args) (hp:Pow w) (hse:Sent w) (ho:∀ x∈args,OkV x) :
  Calls prog 16 #[.string name,av] w (RetR w [] (builtinR name args)):=by
 by_cases hno:∀ n,lookL builtL name=some n→(args.length:Int)≠n∨firstBad args≠0
 ·exact builtin_no name args av w ha hp ho hno
 ·obtain ⟨n,h⟩:=Classical.not_forall.1 hno
  obtain ⟨hl,h⟩:=Classical.not_imp.1 h;have h1:(args.length:Int)=n:=Classical.byContradiction fun e=>h (.inl e)
  have h2:firstBad args=0:=Classical.byContradiction fun e=>h (.inr e)
  have HR:builtinR name args=builtR name.toList args:=by
   unfold builtinR;rw [hl];simp only
   rw [if_neg (not_not_intro h1),if_neg (not_not_intro h2)]
  rw [HR];have hlen:∀ k:Nat,n=k→args.length=k:=fun k e=>by omega
  rcases look_cases hl with ⟨rfl,e⟩ | ⟨rfl,e⟩ | ⟨rfl,e⟩ | ⟨rfl,e⟩ | ⟨rfl,e⟩ | ⟨rfl,e⟩ | ⟨rfl,e⟩ | ⟨rfl,e⟩
  ·obtain ⟨a,rfl⟩:∃ a,args=[a]:=by
    have:=hlen 1 e
    match args,this with
    | [a],_=>exact ⟨a,rfl⟩
   rw [Lib.toList_data];exact built_len a av w ha hp hse h2
  ·obtain ⟨a,rfl⟩:∃ a,args=[a]:=by
    have:=hlen 1 e
    match args,this with
    | [a],_=>exact ⟨a,rfl⟩
   rw [Lib.toList_data];exact built_str a av w ha hp hse h2
  ·obtain ⟨a,rfl⟩:∃ a,args=[a]:=by
    have:=hlen 1 e
    match args,this with
    | [a],_=>exact ⟨a,rfl⟩
   rw [Lib.toList_data];exact built_int a av w ha hp hse h2
  ·obtain ⟨a,d,rfl⟩:∃ a d,args=[a,d]:=by
    have:=hlen 2 e
    match args,this with
    | [a,d],_=>exact ⟨a,d,rfl⟩
   rw [Lib.toList_data];exact built_push a d av w ha hp hse h2
  ·obtain ⟨a,d,z,rfl⟩:∃ a d z,args=[a,d,z]:=by
    have:=hlen 3 e
    match args,this with
    | [a,d,z],_=>exact ⟨a,d,z,rfl⟩
   rw [Lib.toList_data];exact built_put a d z av w ha hp hse h2
  ·obtain ⟨a,rfl⟩:∃ a,args=[a]:=by
    have:=hlen 1 e
    match args,this with
    | [a],_=>exact ⟨a,rfl⟩
   rw [Lib.toList_data];exact built_keys a av w ha hp hse h2
  ·obtain ⟨a,d,rfl⟩:∃ a d,args=[a,d]:=by
    have:=hlen 2 e
    match args,this with
    | [a,d],_=>exact ⟨a,d,rfl⟩
   rw [Lib.toList_data];exact built_has a d av w ha hp hse h2
  ·obtain ⟨a,rfl⟩:∃ a,args=[a]:=by
    have:=hlen 1 e
    match args,this with
    | [a],_=>exact ⟨a,rfl⟩
   rw [Lib.toList_data];exact built_fail a av w ha hp hse h2
end Go.Proofs.YtekdhlfapejijaaGreatDoor
