/- Parts: commonplaceref11.Just: has an object just these members, those of the first list, and of the second one any? Condition: at most 10^8 members. -/
import Derived.Test.YtdbejcbbhomdbaaGreatDoorKPt25
import Derived.Test.YtdbejcbbhomdbaaGreatDoorKPt27
set_option maxHeartbeats 20000000
set_option maxRecDepth 100000
namespace Go.Proofs.YtdbejcbbhomdbaaGreatDoor
open Go Go.RowKit
def F4 (v:Val) (k:ByteArray):Option Val:=if Bf v=6 then Ap k (Bg v)else none
theorem Pj {b':Bool} {n':Int} {t':ByteArray} {l':List Val} {o':List (ByteArray×Val)} (k:ByteArray):F4 (.mk 6 b' n' t' l' o') k=Ap k o':=by unfold F4;rw[if_pos (show Bf (.mk 6 b' n' t' l' o')=6 from rfl)];rfl
theorem Ab4 {v:Val} {k:ByteArray} (h:Bf v≠6):F4 v k=none:=by unfold F4;rw[if_neg h]
def O0 (v:Val) (key:ByteArray) (S:Nat->Prop) (w0 w:World) (e:Ending) (w':World):Prop:=Below w.heap.size w w'/\
 match F4 v key with
 |none=>e=.returned (.tuple #[.agg A0,.int .i64 (if Bf v≠6 then 9 else 12)])
 |some x=> ∃cs:List Value,e=.returned (.tuple #[.agg cs.toArray,.int .i64 0])/\Ac S w0 (dV x) cs
theorem Q1 (k':Int) (b':Bool) (n':Int) (t':ByteArray) (l':List Val) (o':List (ByteArray×Val)) (la lc oa oc) (key:ByteArray) (S:Nat->Prop) (w0 w:World) (hw:Below w0.heap.size w0 w)
 (h:Ac S w0 (dV (.mk k' b' n' t' l' o')) [.int .i64 k',.bool b',.int .i64 n',.string t',.slice la l'.length lc,.slice oa o'.length oc]) (hl:o'.length<=100000000):
 Calls Tryz.prog 145 #[.agg #[.int .i64 k',.bool b',.int .i64 n',.string t',.slice la l'.length lc,.slice oa o'.length oc],.string key] w (O0 (.mk k' b' n' t' l' o') key S w0 w):=by
 have hI0:MI w #[.int .i64 k',.bool b',.int .i64 n',.string t',.slice la l'.length lc,.slice oa o'.length oc] ((w.alloc (.cells #[.int .i64 k',.bool b',.int .i64 n',.string t',.slice la l'.length lc,.slice oa o'.length oc] 33)).alloc (.cells A0 33)):=
  ⟨((Below.refl _ _).alloc (Nat.le_refl _) _).alloc (by simp) _,(Aj.new w _ _).alloc _,by simpa using Aj.new (w.alloc (.cells #[.int .i64 k',.bool b',.int .i64 n',.string t',.slice la l'.length lc,.slice oa o'.length oc] 33)) 33 A0⟩
 obtain⟨wi,hwi⟩: ∃wi,(w.alloc (.cells #[.int .i64 k',.bool b',.int .i64 n',.string t',.slice la l'.length lc,.slice oa o'.length oc] 33)).alloc (.cells A0 33)=wi:=⟨_,rfl⟩;rw[hwi]at hI0;by_cases hk:k'=6;rotate_left
 . have e1:(k' != 6)=true:=by simpa using hk
   have hP: ∀W,Below w.heap.size w W->O0 (.mk k' b' n' t' l' o') key S w0 w (.returned (.tuple #[.agg A0,.int .i64 9])) W:=fun W hW=>⟨hW,by
    rw[Ab4 (show Bf (.mk k' b' n' t' l' o')≠6 from hk)];show _=Ending.returned (.tuple #[.agg A0,.int .i64 (if k'≠6 then 9 else 12)]);rw[if_pos hk]⟩
   obtain⟨r0,r1,r2,r3,r4,r5⟩:=A7 hI0.res;have x0:=hI0.box.cell 0;have xl:=hI0.box.lt;have fz:=hI0.res.frozen;have lt1:=hI0.res.lt;obtain⟨HP,HI0,H⟩:=hid3 hP hI0 h;clear hP hI0 h;clear hk;go_enter Tryz.func145,Tryz.ntmps145;go_upto_region 2 with(fail);clear hwi
   repeat go_step
   have hxf:=(((((HI0.out.res.set_ 0 (.int .i64 0)).set_ 1 (.bool false)).set_ 2 (.int .i64 0)).set_ 3 (.string ⟨#[]⟩)).set_ 4 (.slice none 0 0)).set_ 5 (.slice none 0 0);have hbf:=Am [.int .i64 0,.bool false,.int .i64 0,.string ⟨#[]⟩,.slice none 0 0,.slice none 0 0] HI0.out.below (Nat.le_succ w.heap.size) (o:=0);exact bodyPost_ret (Bk rfl rfl hxf) rfl (HP.out _ hbf)
 subst hk;have y0:=hI0.box.cell 0;have y5:=hI0.box.cell 5;have yl:=hI0.box.lt;have Hs0:=qz (show ∀p ∈ o'.take 0,p.1≠key from by simp);obtain⟨HI0,H⟩:=hid2 hI0 h;clear hI0 h;go_enter Tryz.func145,Tryz.ntmps145;go_upto_region 1 with(fail);clear hwi;go_wp2_with (fail);clear y0 y5 yl;go_loopw [6] (fun i wr=> ∃q:Nat,i=.int .i64 q/\q<=o'.length/\Hid (∀p ∈ o'.take q,p.1≠key)/\Hid (MI w #[.int .i64 6,.bool b',.int .i64 n',.string t',.slice la l'.length lc,.slice oa o'.length oc] wr)) (fun i _=>o'.length - (intOf i).toNat)
 case atStart=>exact⟨0,rfl,Nat.zero_le _,Hs0,HI0⟩
 case round=>
  obtain⟨q,rfl,hq,hin,hI⟩:=hrel;clear HI0 Hs0;have hq0:(0:Int)<=q:=by omega
  have z5:=hI.out.box.cell 5;have zl:=hI.out.box.lt;by_cases hlt:q<o'.length
  . obtain⟨p,hp⟩: ∃p,o'[q]? =some p:=⟨_,List.getElem?_eq_getElem (by omega)⟩;obtain⟨pkey,⟨pk,pb,pn,pt,pl,po⟩⟩:=p;have hz:=hI.out.below.size;obtain⟨g,off,rfl,hg,pla,plc,poa,poc,hv,c0,c1,c2,c3,c4,c5,c6⟩:=Vd (Adw H.out) hp;have hbw:Below w0.heap.size w0 wr:=hw.trans (hI.out.below.mono hw.size);have hgr:g<wr.heap.size:=Nat.lt_of_lt_of_le hg hbw.size;have c0:=(hbw.cell (p:=⟨g,off+q*7,none⟩) hg).trans c0;have c1:=(hbw.cell (p:=⟨g,off+q*7+1,none⟩) hg).trans c1;have c2:=(hbw.cell (p:=⟨g,off+q*7+2,none⟩) hg).trans c2;have c3:=(hbw.cell (p:=⟨g,off+q*7+3,none⟩) hg).trans c3;have c4:=(hbw.cell (p:=⟨g,off+q*7+4,none⟩) hg).trans c4;have c5:=(hbw.cell (p:=⟨g,off+q*7+5,none⟩) hg).trans c5;have c6:=(hbw.cell (p:=⟨g,off+q*7+6,none⟩) hg).trans c6;have hq1:(q:Int)<(o'.length:Int):=by omega
    have htk:o'.take (q+1)=o'.take q++ [(pkey,.mk pk pb pn pt pl po)]:=by rw[List.take_add_one,hp];simp
    by_cases hkk:pkey=key
    . subst hkk;have e1:(pkey.toList==pkey.toList)=true:=by simp
      have e2:(pkey==pkey)=true:=by rw[O4];simp
      have Hfind:=qz (Lb (o:=o') hin.out hp rfl);obtain⟨r0,r1,r2,r3,r4,r5⟩:=A7 hI.out.res;have fz:=hI.out.res.frozen;have lt1:=hI.out.res.lt;obtain⟨Hv,Hp,Htk⟩:=hid3 hv hp htk;clear hv hp htk;clear hin;go_upto_region 7 with(fail)
      repeat go_step
      have hxf:=(((((hI.out.res.set_ 0 (.int .i64 pk)).set_ 1 (.bool pb)).set_ 2 (.int .i64 pn)).set_ 3 (.string pt)).set_ 4 (.slice pla pl.length plc)).set_ 5 (.slice poa po.length poc);have hbf:=Am [.int .i64 pk,.bool pb,.int .i64 pn,.string pt,.slice pla pl.length plc,.slice poa po.length poc] hI.out.below (Nat.le_succ w.heap.size) (o:=0);refine bodyPost_ret (Bk rfl rfl hxf) rfl ⟨hbf, ?_⟩;rw[Pj,Hfind.out];exact⟨_,rfl,Hv.out⟩
    . have e1:(pkey.toList==key.toList)=false:=by
       rw[T9];simp only[decide_eq_false_iff_not];intro e;apply hkk;obtain⟨⟨a⟩⟩:=pkey;obtain⟨⟨b⟩⟩:=key;simpa[ByteArray.toList_eq]using e
      have e2:(pkey==key)=false:=by rw[O4];simp[hkk]
      have hin':Hid (∀p ∈ o'.take (q+1),p.1≠key):=by
       refine qz ?_;rw[htk];intro p hp;rcases List.mem_append.1 hp with h|h
       . exact hin.out p h
       . obtain rfl:=List.mem_singleton.1 h;exact hkk
      obtain⟨Hv,Hp,Htk⟩:=hid3 hv hp htk;clear hv hp htk;clear hin hkk;go_wp2;go_roundw
      case rel=>exact⟨q+1,by go_num,by omega,hin',hI⟩
      case measure=>simp only[intOf];omega
  . obtain rfl:q=o'.length:=by omega
    have hnone:=Rm (k:=key) (o:=o') (by
     have:=hin.out
     rwa [List.take_length]at this)
    obtain⟨r0,r1,r2,r3,r4,r5⟩:=A7 hI.out.res;have fz:=hI.out.res.frozen;have lt1:=hI.out.res.lt;have Hnone:=qz hnone;clear hnone;clear hin;go_upto_region 8 with(fail)
    repeat go_step
    have hxf:=(((((hI.out.res.set_ 0 (.int .i64 0)).set_ 1 (.bool false)).set_ 2 (.int .i64 0)).set_ 3 (.string ⟨#[]⟩)).set_ 4 (.slice none 0 0)).set_ 5 (.slice none 0 0);have hbf:=Am [.int .i64 0,.bool false,.int .i64 0,.string ⟨#[]⟩,.slice none 0 0,.slice none 0 0] hI.out.below (Nat.le_succ w.heap.size) (o:=0);refine bodyPost_ret (Bk rfl rfl hxf) rfl ⟨hbf, ?_⟩;rw[Pj,Hnone.out];rfl
def Lr (v:Val) (key:ByteArray) (S:Nat->Prop) (w0 w:World) (e:Ending) (w':World):Prop:=Below w.heap.size w w'/\
 ∃cs:List Value,e=.returned (.tuple #[.agg cs.toArray,.bool (F4 v key).isSome])/\Ac S w0 (dV ((F4 v key).getD Lf)) cs
theorem P9 (k':Int) (b':Bool) (n':Int) (t':ByteArray) (l':List Val) (o':List (ByteArray×Val)) (la lc oa oc) (key:ByteArray) (S:Nat->Prop) (w0 w:World) (hw:Below w0.heap.size w0 w)
 (h:Ac S w0 (dV (.mk k' b' n' t' l' o')) [.int .i64 k',.bool b',.int .i64 n',.string t',.slice la l'.length lc,.slice oa o'.length oc]) (hl:o'.length<=100000000):
 Calls Tryz.prog 97 #[.agg #[.int .i64 k',.bool b',.int .i64 n',.string t',.slice la l'.length lc,.slice oa o'.length oc],.string key] w (Lr (.mk k' b' n' t' l' o') key S w0 w):=by
 have hI0:MI w #[.int .i64 k',.bool b',.int .i64 n',.string t',.slice la l'.length lc,.slice oa o'.length oc] ((w.alloc (.cells #[.int .i64 k',.bool b',.int .i64 n',.string t',.slice la l'.length lc,.slice oa o'.length oc] 33)).alloc (.cells A0 33)):=
  ⟨((Below.refl _ _).alloc (Nat.le_refl _) _).alloc (by simp) _,(Aj.new w _ _).alloc _,by simpa using Aj.new (w.alloc (.cells #[.int .i64 k',.bool b',.int .i64 n',.string t',.slice la l'.length lc,.slice oa o'.length oc] 33)) 33 A0⟩
 obtain⟨wi,hwi⟩: ∃wi,(w.alloc (.cells #[.int .i64 k',.bool b',.int .i64 n',.string t',.slice la l'.length lc,.slice oa o'.length oc] 33)).alloc (.cells A0 33)=wi:=⟨_,rfl⟩;rw[hwi]at hI0;have hM:=Q1 k' b' n' t' l' o' la lc oa oc key S w0 wi (hw.trans (hI0.below.mono hw.size)) h hl;unfold O0 at hM;obtain⟨F,hF⟩: ∃F,F4 (.mk k' b' n' t' l' o') key=F:=⟨_,rfl⟩;unfold Lr;rw[hF]at hM ⊢;clear hF;obtain⟨y0,y1,y2,y3,y4,y5⟩:=A7 hI0.box;have yl:=hI0.box.lt
 cases F with
 |none=>
  simp only at hM;obtain⟨C,hC⟩: ∃C:Int,(if Bf (.mk k' b' n' t' l' o')≠6 then 9 else 12)=C:=⟨_,rfl⟩;have hC0:(C==0)=false:=by
   rw[<-hC]
   split<;>rfl
  rw[hC]at hM;obtain⟨HI0,H,HM⟩:=hid3 hI0 h hM;clear hI0 h hM;clear hC;go_enter Tryz.func97,Tryz.ntmps97;go_upto_region 1 with(fail);clear hwi;go_wp2_with (fail);(with_reducible refine(HM.out).mono ?_);rintro e w2 ⟨hb2,rfl⟩;have hI2:=HI0.out.call hb2;have HI3:=qz (hI2.alloc (.cells A0 33));have Hx3:=qz (Aj.new w2 33 A0);clear hI2 y0 y1 y2 y3 y4 y5 yl hb2;go_upto_region 2 with(fail);generalize w2.alloc (.cells A0 33)=w3 at HI3 Hx3 ⊢;obtain⟨r0,r1,r2,r3,r4,r5⟩:=A7 HI3.out.res;obtain⟨x0,x1,x2,x3,x4,x5⟩:=A7 Hx3.out;have xl:=Hx3.out.lt;have fz:=HI3.out.res.frozen;have lt1:=HI3.out.res.lt
  repeat go_step
  have hxf:=(((((HI3.out.res.set_ 0 (.int .i64 0)).set_ 1 (.bool false)).set_ 2 (.int .i64 0)).set_ 3 (.string ⟨#[]⟩)).set_ 4 (.slice none 0 0)).set_ 5 (.slice none 0 0);have hbf:=Am [.int .i64 0,.bool false,.int .i64 0,.string ⟨#[]⟩,.slice none 0 0,.slice none 0 0] HI3.out.below (Nat.le_succ w.heap.size) (o:=0);exact bodyPost_ret (Bk rfl rfl hxf) rfl ⟨hbf, [.int .i64 0,.bool false,.int .i64 0,.string ⟨#[]⟩,.slice none 0 0,.slice none 0 0],rfl,Sy _ _⟩
 |some x=>
  simp only at hM;obtain⟨pk,pb,pn,pt,pl,po⟩:=x;obtain⟨HI0,H,HM⟩:=hid3 hI0 h hM;clear hI0 h hM;go_enter Tryz.func97,Tryz.ntmps97;go_upto_region 1 with(fail);clear hwi;go_wp2_with (fail);(with_reducible refine(HM.out).mono ?_);rintro e w2 ⟨hb2,cs,rfl,hh⟩;obtain⟨pla,plc,poa,poc,rfl⟩:=G9 hh;have hI2:=HI0.out.call hb2;have hI3:=hI2.alloc (.cells #[.int .i64 pk,.bool pb,.int .i64 pn,.string pt,.slice pla pl.length plc,.slice poa po.length poc] 33);have hx3:=Aj.new w2 33 #[.int .i64 pk,.bool pb,.int .i64 pn,.string pt,.slice pla pl.length plc,.slice poa po.length poc];obtain⟨w3,hw3⟩: ∃w3,w2.alloc (.cells #[.int .i64 pk,.bool pb,.int .i64 pn,.string pt,.slice pla pl.length plc,.slice poa po.length poc] 33)=w3:=⟨_,rfl⟩;rw[hw3]at hI3 hx3;obtain⟨r0,r1,r2,r3,r4,r5⟩:=A7 hI3.res;obtain⟨x0,x1,x2,x3,x4,x5⟩:=A7 hx3;have xl:=hx3.lt;have fz:=hI3.res.frozen;have lt1:=hI3.res.lt;obtain⟨HI3,Hh⟩:=hid2 hI3 hh;clear hI3 hh;clear hI2 hx3 y0 y1 y2 y3 y4 y5 yl hb2;go_upto_region 2 with(fail);clear hw3
  repeat go_step
  have hxf:=(((((HI3.out.res.set_ 0 (.int .i64 pk)).set_ 1 (.bool pb)).set_ 2 (.int .i64 pn)).set_ 3 (.string pt)).set_ 4 (.slice pla pl.length plc)).set_ 5 (.slice poa po.length poc);have hbf:=Am [.int .i64 pk,.bool pb,.int .i64 pn,.string pt,.slice pla pl.length plc,.slice poa po.length poc] HI3.out.below (Nat.le_succ w.heap.size) (o:=0);exact bodyPost_ret (Bk rfl rfl hxf) rfl ⟨hbf,_,rfl,Hh.out⟩
def dX (names:List ByteArray):List D:=names.map fun s=> .leaf (.string s)
theorem W7 (names:List ByteArray):(dX names).length=names.length:=List.length_map ..
theorem Ael {w:World} {B n c:Nat} {names:List ByteArray} {a:Option Addr} (h:Ae w B (.row 1 (dX names)) [.slice a n c]) {q:Nat} {s:ByteArray} (hi:names[q]? =some s):
 ∃g off,a=some ⟨g,off,none⟩/\g<B/\w.cell? ⟨g,off+q,none⟩=some (.string s):=by
 obtain⟨g,off,ea,hg,cs,h1,_,h3⟩:=h.at_ (i:=q) (d:=.leaf (.string s)) (by unfold dX;rw[List.getElem?_map,hi];rfl);obtain⟨rfl,_⟩:=h1;exact⟨g,off,ea,hg,by have:=h3 0 _ rfl;simpa using this⟩
theorem Afy {w:World} {B n c:Nat} {names:List ByteArray} {a:Option Addr} (h:Ae w B (.row 1 (dX names)) [.slice a n c]):n=names.length:=by rw[h.row_len,W7]
theorem Uo (names:List ByteArray): ∀d ∈ dX names,d.cells=1:=by
 intro d hd;obtain⟨x,_,rfl⟩:=List.mem_map.1 hd;rfl
theorem Pc (w:World) (B:Nat): ∀names:List ByteArray,Af w B (dX names) (names.map Value.string)
 | []=>rfl
 |s::r=>⟨[.string s],r.map Value.string,rfl,⟨rfl,rfl⟩,Pc w B r⟩
theorem Ae9 {w:World} {g c:Nat} {t:TypeId} {names:List ByteArray} {n:Nat} (h:Aj w g t (names.map Value.string).toArray) (hn:n=names.length) {B:Nat} (hg:g<B):Ae w B (.row 1 (dX names)) [.slice (some ⟨g,0,none⟩) n c]:=by
 subst hn;refine⟨_,c,by rw[W7],Uo _,_,Pc _ _ _,.inr ⟨g,0,rfl,hg,fun j u hu=> ?_⟩⟩;rw[Nat.zero_add];exact(h.cell j).trans (by rw[<-Array.getElem?_toList];exact hu)
def Ov (w:World) (S:Nat->Prop) (w0:World) (x:Val) (p:Value) (wx:World):Prop:= ∃R cs,p=.pointer (some ⟨R,0,none⟩)/\w.heap.size<=R/\Below w.heap.size w wx/\Aj wx R 33 cs.toArray/\Ac S w0 (dV x) cs
theorem Ov.new {w w7 w0:World} {S:Nat->Prop} {x:Val} {cs:List Value} (hb:Below w.heap.size w w7) (hh:Ac S w0 (dV x) cs):Ov w S w0 x (.pointer (some ⟨w7.heap.size,0,none⟩)) (w7.alloc (.cells cs.toArray 33)):=
 ⟨w7.heap.size,cs,rfl,hb.size,hb.alloc hb.size _,Aj.new _ _ _,hh⟩
theorem Ov.old {w w7 w0:World} {S:Nat->Prop} {R:Nat} {k:Int} {b:Bool} {n:Int} {t:ByteArray} {l:List Val} {o:List (ByteArray×Val)} {la oa:Option Addr} {lc oc:Nat} (hb:Below w.heap.size w w7) (hh:Ac S w0 (dV (.mk k b n t l o)) [.int .i64 k,.bool b,.int .i64 n,.string t,.slice la l.length lc,.slice oa o.length oc]) (hx:Aj w7 R 33 A0) (hR:w.heap.size<=R):
 Ov w S w0 (.mk k b n t l o) (.pointer (some ⟨R,0,none⟩)) (Bd w7 R 0 [.int .i64 k,.bool b,.int .i64 n,.string t,.slice la l.length lc,.slice oa o.length oc]):=
 ⟨R,_,rfl,hR,Am _ hb hR (o:=0),((((((hx.set_ 0 (.int .i64 k)).set_ 1 (.bool b)).set_ 2 (.int .i64 n)).set_ 3 (.string t)).set_ 4 (.slice la l.length lc)).set_ 5 (.slice oa o.length oc)),hh⟩
def Nj (all opt:List ByteArray) (v:Val):Bool:=all.all (fun x=>(F4 v x).isSome)&&decide (all.length+(opt.filter fun x=>(F4 v x).isSome).length=(Bg v).length)
theorem Ace {all opt:List ByteArray} {v:Val} {s:ByteArray} (hm:s ∈ all) (h:(F4 v s).isSome=false):Nj all opt v=false:=by
 unfold Nj;have:all.all (fun x=>(F4 v x).isSome)=false:=by
  rw[List.all_eq_false];exact⟨s,hm,by rw[h];simp⟩
 rw[this,Bool.false_and]
theorem Zz {all opt:List ByteArray} {v:Val} (h: ∀x ∈ all,(F4 v x).isSome=true):Nj all opt v=decide (all.length+(opt.filter fun x=>(F4 v x).isSome).length=(Bg v).length):=by
 unfold Nj;rw[List.all_eq_true.2 h,Bool.true_and]
structure JI (w:World) (six:Array Value) (wr:World):Prop where
 below:Below w.heap.size w wr
 box:Aj wr w.heap.size 33 six
theorem JI.call {w wr w':World} {six:Array Value} (h:JI w six wr) (hb:Below wr.heap.size wr w'):JI w six w':=⟨h.below.trans (hb.mono h.below.size),h.box.below hb h.box.lt⟩
theorem JI.has {w wr w' w0:World} {six:Array Value} {S:Nat->Prop} {x:Val} {p:Value} (h:JI w six wr) (hb:Ov wr S w0 x p w'):JI w six w':=by
 obtain⟨R,cs,_,_,hb,_⟩:=hb;exact h.call hb
theorem Vt (k':Int) (b':Bool) (n':Int) (t':ByteArray) (l':List Val) (o':List (ByteArray×Val)) (la lc oa oc) (all opt:List ByteArray) (a:Option Addr) (n c:Nat) (a2:Option Addr) (n2 c2:Nat) (S:Nat->Prop) (w0 w:World) (hw:Below w0.heap.size w0 w)
 (h:Ac S w0 (dV (.mk k' b' n' t' l' o')) [.int .i64 k',.bool b',.int .i64 n',.string t',.slice la l'.length lc,.slice oa o'.length oc]) (hA:Ae w w.heap.size (.row 1 (dX all)) [.slice a n c]) (hSm:Ae w w.heap.size (.row 1 (dX opt)) [.slice a2 n2 c2]) (hl:o'.length<=100000000) (hla:all.length<=1000) (hls:opt.length<=1000):
 Calls Tryz.prog 98 #[.agg #[.int .i64 k',.bool b',.int .i64 n',.string t',.slice la l'.length lc,.slice oa o'.length oc],.slice a n c,.slice a2 n2 c2] w fun e w'=>e=.returned (.bool (Nj all opt (.mk k' b' n' t' l' o')))/\Below w.heap.size w w':=by
 obtain rfl:=Afy hA;obtain rfl:=Afy hSm;have hI0:JI w #[.int .i64 k',.bool b',.int .i64 n',.string t',.slice la l'.length lc,.slice oa o'.length oc] (w.alloc (.cells #[.int .i64 k',.bool b',.int .i64 n',.string t',.slice la l'.length lc,.slice oa o'.length oc] 33)):=⟨Ab _ _,Aj.new w _ _⟩;obtain⟨wi,hwi⟩: ∃wi,w.alloc (.cells #[.int .i64 k',.bool b',.int .i64 n',.string t',.slice la l'.length lc,.slice oa o'.length oc] 33)=wi:=⟨_,rfl⟩;rw[hwi]at hI0;have Hs0:=qz (show ∀x ∈ all.take 0,(F4 (.mk k' b' n' t' l' o') x).isSome=true from by simp);have hHas:=fun(s:ByteArray) (W:World) (hW:Below w.heap.size w W)=>P9 k' b' n' t' l' o' la lc oa oc s S w0 W (hw.trans (hW.mono hw.size)) h hl;unfold Lr at hHas;obtain⟨HI0,H,HA,HSm,HHas⟩:=hid5 hI0 h hA hSm hHas;clear hI0 h hA hSm hHas;go_enter Tryz.func98,Tryz.ntmps98;go_upto_region 1 with(fail);clear hwi;go_wp2_with (fail);go_loopw [7,8] (fun nV i wr=> ∃q:Nat,nV=.int .i64 q/\i=.int .i64 q/\q<=all.length/\Hid (∀x ∈ all.take q,(F4 (.mk k' b' n' t' l' o') x).isSome=true)/\Hid (JI w #[.int .i64 k',.bool b',.int .i64 n',.string t',.slice la l'.length lc,.slice oa o'.length oc] wr)) (fun _ i _=>all.length - (intOf i).toNat)
 case atStart=>exact⟨0,rfl,rfl,Nat.zero_le _,Hs0,HI0⟩
 case round=>
  obtain⟨q,rfl,rfl,hq,hin,hI⟩:=hrel;clear HI0 Hs0;have hq0:(0:Int)<=q:=by omega
  by_cases hlt:q<all.length
  . obtain⟨s,hs⟩: ∃s,all[q]? =some s:=⟨_,List.getElem?_eq_getElem (by omega)⟩;have hz:=hI.out.below.size;obtain⟨g,off,rfl,hg,hk⟩:=Ael (HA.out.below hI.out.below) hs;have hq1:(q:Int)<(all.length:Int):=by omega
    have htk:all.take (q+1)=all.take q++ [s]:=by rw[List.take_add_one,hs];simp
    have hC:=fun(W:World) (hW:Below wr.heap.size wr W)=>HHas.out s W (hI.out.below.trans (hW.mono hz));have hSw:=fun(Y:World) (hY:Below wr.heap.size wr Y)=>(show Y.cell? ⟨w.heap.size,0,none⟩=some (.int .i64 k')/\Y.cell? ⟨w.heap.size,1,none⟩=some (.bool b')/\Y.cell? ⟨w.heap.size,2,none⟩=some (.int .i64 n')/\Y.cell? ⟨w.heap.size,3,none⟩=some (.string t')/\Y.cell? ⟨w.heap.size,4,none⟩=some (.slice la l'.length lc)/\Y.cell? ⟨w.heap.size,5,none⟩=some (.slice oa o'.length oc)/\Y.cell? ⟨g,off+q,none⟩=some (.string s)by
     obtain⟨v0,v1,v2,v3,v4,v5⟩:=A7 (hI.out.box.below hY hI.out.box.lt);exact⟨v0,v1,v2,v3,v4,v5,(hY.cell (p:=⟨g,off+q,none⟩) (by show g<wr.heap.size;omega)).trans hk⟩)
    have hno:=fun hm=>Ace (all:=all) (opt:=opt) (v:=.mk k' b' n' t' l' o') (s:=s) (List.mem_of_getElem? hs) hm;obtain⟨P,hP⟩: ∃P,(F4 (.mk k' b' n' t' l' o') s).isSome=P:=⟨_,rfl⟩;obtain⟨⟨xk,xb,xn,xt,xl,xo⟩,hx⟩: ∃x,(F4 (.mk k' b' n' t' l' o') s).getD Lf=x:=⟨_,rfl⟩;simp only[hP,hx]at hC;have hin':P=true->Hid (∀x ∈ all.take (q+1),(F4 (.mk k' b' n' t' l' o') x).isSome=true):=fun hPt=>by
     refine qz ?_;rw[htk];intro p hp;rcases List.mem_append.1 hp with h|h
     . exact hin.out p h
     . obtain rfl:=List.mem_singleton.1 h;rw[hP,hPt]
    rw[hP]at hno;obtain⟨Hs,Hk,Htk,HC,HSw,Hno,Hin'⟩:=hid7 hs hk htk hC hSw hno hin';clear hs hk htk hC hSw hno hin';clear hin hP hx;go_upto_region 5 with(fail);go_cut [9,10] (fun p b wx=>b=.bool P/\Hid (Ov wr S w0 (.mk xk xb xn xt xl xo) p wx))
    case first=>
     refine wp_region_held_drew (S:=(fun Y=>Y.cell? ⟨w.heap.size,0,none⟩=some (.int .i64 k')/\Y.cell? ⟨w.heap.size,1,none⟩=some (.bool b')/\Y.cell? ⟨w.heap.size,2,none⟩=some (.int .i64 n')/\Y.cell? ⟨w.heap.size,3,none⟩=some (.string t')/\Y.cell? ⟨w.heap.size,4,none⟩=some (.slice la l'.length lc)/\Y.cell? ⟨w.heap.size,5,none⟩=some (.slice oa o'.length oc)/\Y.cell? ⟨g,off+q,none⟩=some (.string s))) (by kernel_rfl) (HSw.out _ (Below.drew (Below.refl _ _))) (fun hHeld=> ?_);have hbd:Below wr.heap.size wr wr.drew:=Below.drew (Below.refl _ _);have hbz:Below wr.heap.size wr (wr.alloc (.cells A0 33)).drew:=Below.drew ((Below.refl _ _).alloc (Nat.le_refl _) (.cells A0 33));refine tkH 0 hHeld ?_;refine tkH 1 hHeld ?_;refine tkH 2 hHeld ?_;refine tkH 3 hHeld ?_;refine tkH 4 hHeld ?_;refine wpAnyH_ready (rs:= [5,9]) (by kernel_rfl) (by simp) ?_;refine AllReadyH.cons rfl (fun K hK=> ?_) (AllReadyH.cons rfl (fun K hK=> ?_) AllReadyH.nil)
     ·
      go_simp
      (with_reducible refine(HC.out _ hbd).mono ?_)
      rintro e w7 ⟨hb7,cs7,rfl,hh7⟩;obtain⟨xla,xlc,xoa,xoc,rfl⟩:=G9 hh7;have hbr7:Below wr.heap.size wr w7:=hbd.trans (hb7.mono hbd.size);refine hK.out _ _ (HSw.out _ hbr7) (fun hHeld=> ?_);clear hK K
      try simp only[Act.put,tk1,tk2,tk3,tk4,tk5,tk6]
      refine tkH 6 hHeld ?_;refine tkH 7 hHeld ?_;refine tkH 8 hHeld ?_;refine wpAnyH_ready (rs:= [9]) (by kernel_rfl) (by simp) ?_;refine AllReadyH.cons rfl (fun K hK=> ?_) AllReadyH.nil;go_simp;refine hK.out _ _ (HSw.out _ (hbr7.alloc hbr7.size (.cells A0 33))) (fun hHeld=> ?_);clear hK K
      try simp only[Act.put,tk1,tk2,tk3,tk4,tk5,tk6]
      refine wpAnyH_ready (rs:= [10]) (by kernel_rfl) (by simp) ?_;refine AllReadyH.cons rfl (fun K hK=> ?_) AllReadyH.nil;go_simp;refine hK.out _ _ (HSw.out _ (hbr7.alloc hbr7.size (.cells #[.int .i64 xk,.bool xb,.int .i64 xn,.string xt,.slice xla xl.length xlc,.slice xoa xo.length xoc] 33))) (fun hHeld=> ?_);clear hK K
      try simp only[Act.put,tk1,tk2,tk3,tk4,tk5,tk6]
      refine tkH 11 hHeld ?_;refine wpAnyH_done (by kernel_rfl) ?_ _;have HF:=qz (Ov.new hbr7 hh7);clear hHeld hb7 hh7 hbr7 hbz hbd;go_wp2;go_meet;exact⟨rfl,HF⟩
     ·
      go_simp;refine hK.out _ _ (HSw.out _ hbz) (fun hHeld=> ?_);clear hK K
      try simp only[Act.put,tk1,tk2,tk3,tk4,tk5,tk6]
      refine wpAnyH_ready (rs:= [5]) (by kernel_rfl) (by simp) ?_;refine AllReadyH.cons rfl (fun K hK=> ?_) AllReadyH.nil;go_simp
      (with_reducible refine(HC.out _ hbz).mono ?_)
      rintro e w7 ⟨hb7,cs7,rfl,hh7⟩;obtain⟨xla,xlc,xoa,xoc,rfl⟩:=G9 hh7;have hbr7:Below wr.heap.size wr w7:=hbz.trans (hb7.mono hbz.size);refine hK.out _ _ (HSw.out _ hbr7) (fun hHeld=> ?_);clear hK K
      try simp only[Act.put,tk1,tk2,tk3,tk4,tk5,tk6]
      refine tkH 6 hHeld ?_;refine tkH 7 hHeld ?_;refine tkH 8 hHeld ?_;refine wpAnyH_ready (rs:= [10]) (by kernel_rfl) (by simp) ?_;refine AllReadyH.cons rfl (fun K hK=> ?_) AllReadyH.nil;have hxR:Aj w7 wr.heap.size 33 A0:=(Aj.new wr 33 A0).drew.below hb7 (Aj.lt (Aj.new wr 33 A0).drew);obtain⟨c0,c1,c2,c3,c4,c5⟩:=A7 hxR;have fz:=hxR.frozen;have hRl:=hxR.lt;go_simp;refine hK.out _ _ (HSw.out _ (Am [.int .i64 xk,.bool xb,.int .i64 xn,.string xt,.slice xla xl.length xlc,.slice xoa xo.length xoc] hbr7 (Nat.le_refl _) (o:=0))) (fun hHeld=> ?_);clear hK K
      try simp only[Act.put,tk1,tk2,tk3,tk4,tk5,tk6]
      refine tkH 11 hHeld ?_;refine wpAnyH_done (by kernel_rfl) ?_ _;have HF:=qz (Ov.old hbr7 hh7 hxR (Nat.le_refl _));clear c0 c1 c2 c3 c4 c5 fz hxR hHeld hb7 hh7 hbr7 hbz hbd hRl;go_wp2;go_meet;exact⟨rfl,HF⟩
    case rest=>
     obtain⟨rfl,hH⟩:=hcut;have hJ:=qz (hI.out.has hH.out)
     cases P with
     |false=>
      have Hr:=qz (Hno.out rfl);clear hH HC HSw Hin' hI;go_wp2;go_ret;exact⟨by rw[Hr.out];rfl,hJ.out.below⟩
     |true=>
      have hn:=Hin'.out rfl;clear hH HC HSw Hin' hI Hno;go_wp2;go_roundw
      case rel=>exact⟨q+1,by go_num,by go_num,by omega,hn,hJ⟩
      case measure=>simp only[intOf];omega
  . obtain rfl:q=all.length:=by omega
    have hJ:=Zz (all:=all) (opt:=opt) (v:=.mk k' b' n' t' l' o') (by
     have:=hin.out
     rwa [List.take_length]at this)
    have Hc0:=qz (show((opt.take 0).filter fun x=>(F4 (.mk k' b' n' t' l' o') x).isSome).length=0 from by simp);have HJ:=qz hJ;clear hJ;clear hin;go_wp2_with (fail);obtain⟨wo,rfl⟩: ∃wo:World,wo=wr:=⟨_,rfl⟩;have hIo:=hI;clear hI;go_loopw [7,11] (fun nV i wq=> ∃q m:Nat,nV=.int .i64 ((all.length+m:Nat):Int)/\i=.int .i64 q/\q<=opt.length/\m<=q/\Hid (((opt.take q).filter fun x=>(F4 (.mk k' b' n' t' l' o') x).isSome).length=m)/\Hid (JI w #[.int .i64 k',.bool b',.int .i64 n',.string t',.slice la l'.length lc,.slice oa o'.length oc] wq)) (fun _ i _=>opt.length - (intOf i).toNat)
    case atStart=>exact⟨0,0,by simp,rfl,Nat.zero_le _,Nat.le_refl _,Hc0,hIo⟩
    case round=>
     obtain⟨q,m,rfl,rfl,hq,hm,hcn,hI⟩:=hrel;clear hIo Hc0;have hq0:(0:Int)<=q:=by omega
     by_cases hlt:q<opt.length
     . obtain⟨s,hs⟩: ∃s,opt[q]? =some s:=⟨_,List.getElem?_eq_getElem (by omega)⟩;have hz:=hI.out.below.size;obtain⟨g,off,rfl,hg,hk⟩:=Ael (HSm.out.below hI.out.below) hs;have hq1:(q:Int)<(opt.length:Int):=by omega
       have htk:opt.take (q+1)=opt.take q++ [s]:=by rw[List.take_add_one,hs];simp
       have hC:=fun(W:World) (hW:Below wr.heap.size wr W)=>HHas.out s W (hI.out.below.trans (hW.mono hz));have hSw:=fun(Y:World) (hY:Below wr.heap.size wr Y)=>(show Y.cell? ⟨w.heap.size,0,none⟩=some (.int .i64 k')/\Y.cell? ⟨w.heap.size,1,none⟩=some (.bool b')/\Y.cell? ⟨w.heap.size,2,none⟩=some (.int .i64 n')/\Y.cell? ⟨w.heap.size,3,none⟩=some (.string t')/\Y.cell? ⟨w.heap.size,4,none⟩=some (.slice la l'.length lc)/\Y.cell? ⟨w.heap.size,5,none⟩=some (.slice oa o'.length oc)/\Y.cell? ⟨g,off+q,none⟩=some (.string s)by
        obtain⟨v0,v1,v2,v3,v4,v5⟩:=A7 (hI.out.box.below hY hI.out.box.lt);exact⟨v0,v1,v2,v3,v4,v5,(hY.cell (p:=⟨g,off+q,none⟩) (by show g<wr.heap.size;omega)).trans hk⟩)
       obtain⟨P,hP⟩: ∃P,(F4 (.mk k' b' n' t' l' o') s).isSome=P:=⟨_,rfl⟩;obtain⟨⟨xk,xb,xn,xt,xl,xo⟩,hx⟩: ∃x,(F4 (.mk k' b' n' t' l' o') s).getD Lf=x:=⟨_,rfl⟩;simp only[hP,hx]at hC;have hcn':Hid (((opt.take (q+1)).filter fun x=>(F4 (.mk k' b' n' t' l' o') x).isSome).length=m+(if P then 1 else 0)):=by
        refine qz ?_;rw[htk,List.filter_append,List.length_append,hcn.out]
        cases P<;>simp[hP]
       obtain⟨Hs,Hk,Htk,HC,HSw⟩:=hid5 hs hk htk hC hSw;clear hs hk htk hC hSw;clear hcn hP hx;go_upto_region 12 with(fail);go_cut [12,13] (fun p b wx=>b=.bool P/\Hid (Ov wr S w0 (.mk xk xb xn xt xl xo) p wx))
       case first=>
        refine wp_region_held_drew (S:=(fun Y=>Y.cell? ⟨w.heap.size,0,none⟩=some (.int .i64 k')/\Y.cell? ⟨w.heap.size,1,none⟩=some (.bool b')/\Y.cell? ⟨w.heap.size,2,none⟩=some (.int .i64 n')/\Y.cell? ⟨w.heap.size,3,none⟩=some (.string t')/\Y.cell? ⟨w.heap.size,4,none⟩=some (.slice la l'.length lc)/\Y.cell? ⟨w.heap.size,5,none⟩=some (.slice oa o'.length oc)/\Y.cell? ⟨g,off+q,none⟩=some (.string s))) (by kernel_rfl) (HSw.out _ (Below.drew (Below.refl _ _))) (fun hHeld=> ?_);have hbd:Below wr.heap.size wr wr.drew:=Below.drew (Below.refl _ _);have hbz:Below wr.heap.size wr (wr.alloc (.cells A0 33)).drew:=Below.drew ((Below.refl _ _).alloc (Nat.le_refl _) (.cells A0 33));refine tkH 0 hHeld ?_;refine tkH 1 hHeld ?_;refine tkH 2 hHeld ?_;refine tkH 3 hHeld ?_;refine tkH 4 hHeld ?_;refine wpAnyH_ready (rs:= [5,9]) (by kernel_rfl) (by simp) ?_;refine AllReadyH.cons rfl (fun K hK=> ?_) (AllReadyH.cons rfl (fun K hK=> ?_) AllReadyH.nil)
        ·
         go_simp
         (with_reducible refine(HC.out _ hbd).mono ?_)
         rintro e w7 ⟨hb7,cs7,rfl,hh7⟩;obtain⟨xla,xlc,xoa,xoc,rfl⟩:=G9 hh7;have hbr7:Below wr.heap.size wr w7:=hbd.trans (hb7.mono hbd.size);refine hK.out _ _ (HSw.out _ hbr7) (fun hHeld=> ?_);clear hK K
         try simp only[Act.put,tk1,tk2,tk3,tk4,tk5,tk6]
         refine tkH 6 hHeld ?_;refine tkH 7 hHeld ?_;refine tkH 8 hHeld ?_;refine wpAnyH_ready (rs:= [9]) (by kernel_rfl) (by simp) ?_;refine AllReadyH.cons rfl (fun K hK=> ?_) AllReadyH.nil;go_simp;refine hK.out _ _ (HSw.out _ (hbr7.alloc hbr7.size (.cells A0 33))) (fun hHeld=> ?_);clear hK K
         try simp only[Act.put,tk1,tk2,tk3,tk4,tk5,tk6]
         refine wpAnyH_ready (rs:= [10]) (by kernel_rfl) (by simp) ?_;refine AllReadyH.cons rfl (fun K hK=> ?_) AllReadyH.nil;go_simp;refine hK.out _ _ (HSw.out _ (hbr7.alloc hbr7.size (.cells #[.int .i64 xk,.bool xb,.int .i64 xn,.string xt,.slice xla xl.length xlc,.slice xoa xo.length xoc] 33))) (fun hHeld=> ?_);clear hK K
         try simp only[Act.put,tk1,tk2,tk3,tk4,tk5,tk6]
         refine tkH 11 hHeld ?_;refine wpAnyH_done (by kernel_rfl) ?_ _;have HF:=qz (Ov.new hbr7 hh7);clear hHeld hb7 hh7 hbr7 hbz hbd;go_wp2;go_meet;exact⟨rfl,HF⟩
        ·
         go_simp;refine hK.out _ _ (HSw.out _ hbz) (fun hHeld=> ?_);clear hK K
         try simp only[Act.put,tk1,tk2,tk3,tk4,tk5,tk6]
         refine wpAnyH_ready (rs:= [5]) (by kernel_rfl) (by simp) ?_;refine AllReadyH.cons rfl (fun K hK=> ?_) AllReadyH.nil;go_simp
         (with_reducible refine(HC.out _ hbz).mono ?_)
         rintro e w7 ⟨hb7,cs7,rfl,hh7⟩;obtain⟨xla,xlc,xoa,xoc,rfl⟩:=G9 hh7;have hbr7:Below wr.heap.size wr w7:=hbz.trans (hb7.mono hbz.size);refine hK.out _ _ (HSw.out _ hbr7) (fun hHeld=> ?_);clear hK K
         try simp only[Act.put,tk1,tk2,tk3,tk4,tk5,tk6]
         refine tkH 6 hHeld ?_;refine tkH 7 hHeld ?_;refine tkH 8 hHeld ?_;refine wpAnyH_ready (rs:= [10]) (by kernel_rfl) (by simp) ?_;refine AllReadyH.cons rfl (fun K hK=> ?_) AllReadyH.nil;have hxR:Aj w7 wr.heap.size 33 A0:=(Aj.new wr 33 A0).drew.below hb7 (Aj.lt (Aj.new wr 33 A0).drew);obtain⟨c0,c1,c2,c3,c4,c5⟩:=A7 hxR;have fz:=hxR.frozen;have hRl:=hxR.lt;go_simp;refine hK.out _ _ (HSw.out _ (Am [.int .i64 xk,.bool xb,.int .i64 xn,.string xt,.slice xla xl.length xlc,.slice xoa xo.length xoc] hbr7 (Nat.le_refl _) (o:=0))) (fun hHeld=> ?_);clear hK K
         try simp only[Act.put,tk1,tk2,tk3,tk4,tk5,tk6]
         refine tkH 11 hHeld ?_;refine wpAnyH_done (by kernel_rfl) ?_ _;have HF:=qz (Ov.old hbr7 hh7 hxR (Nat.le_refl _));clear c0 c1 c2 c3 c4 c5 fz hxR hHeld hb7 hh7 hbr7 hbz hbd hRl;go_wp2;go_meet;exact⟨rfl,HF⟩
       case rest=>
        obtain⟨rfl,hH⟩:=hcut;have hJ:=qz (hI.out.has hH.out)
        cases P with
        |false=>
         clear hH HC HSw hI;go_wp2;go_roundw
         case rel=>exact⟨q+1,m,rfl,by go_num,by omega,by omega,hcn',hJ⟩
         case measure=>simp only[intOf];omega
        |true=>
         clear hH HC HSw hI;go_wp2;go_roundw
         case rel=>exact⟨q+1,m+1,by go_num,by go_num,by omega,by omega,hcn',hJ⟩
         case measure=>simp only[intOf];omega
     . obtain rfl:q=opt.length:=by omega
       have hJ:=HJ.out;have hcn2:=hcn.out;rw[List.take_length]at hcn2;rw[hcn2]at hJ;have z5:=hI.out.box.cell 5;have zl:=hI.out.box.lt;have hd:((((all.length+m:Nat):Int))==(o'.length:Int))=decide (all.length+m=(Bg (.mk k' b' n' t' l' o')).length):=by
        show _=decide (all.length+m=o'.length);rw[Bool.eq_iff_iff];simp only[beq_iff_eq,decide_eq_true_eq];omega
       rw[<-hd]at hJ;have hd1:((all.length+m:Nat):Int)=((all.length+m:Nat):Int):=rfl;obtain⟨M,hM⟩: ∃M,all.length+m=M:=⟨_,rfl⟩;rw[hM]at hJ ⊢;have Hbf:=qz hI.out.below;have HJ:=qz hJ;clear hJ;clear hcn hcn2 hd hd1;go_wp2;go_ret;exact⟨by rw[HJ.out];rfl,Hbf.out⟩
end Go.Proofs.YtdbejcbbhomdbaaGreatDoor
