/- Parts: commonplaceref11.Just: has an object just these members, those of the first list, and of the second one any? Condition: at most 10^8 members. -/
import Derived.Test.YtackmnbpfbaemaaGreatDoorKPr21
import Derived.Test.YtackmnbpfbaemaaGreatDoorKPr25
set_option maxHeartbeats 20000000
namespace Go.Proofs.YtackmnbpfbaemaaGreatDoor
open Go Go.RowKit
def Lr (v:Val) (key:ByteArray) (w:World) (e:Ending) (w':World):Prop:=Below w.heap.size w w'/\
 if Av v≠6 then e=.returned (.tuple #[.agg Aj,.int .i64 9])else match Ax key (At v)with
 |none=>e=.returned (.tuple #[.agg Aj,.int .i64 12])
 |some x=> ∃cs:List Value,e=.returned (.tuple #[.agg cs.toArray,.int .i64 0])/\Ap w.heap.size w' (dV x) cs
structure MI (w:World) (six:Array Value) (wr:World):Prop where
 below:Below w.heap.size w wr
 box:An wr w.heap.size 39 six
 res:An wr (w.heap.size+1) 39 Aj
theorem MI.alloc {w wr:World} {six:Array Value} (h:MI w six wr) (o:Obj):MI w six (wr.alloc o):=⟨h.below.alloc h.below.size o,h.box.alloc o,h.res.alloc o⟩
theorem MI.call {w wr w':World} {six:Array Value} (h:MI w six wr) (hb:Below wr.heap.size wr w'):MI w six w':=⟨h.below.trans (hb.mono h.below.size),h.box.below hb h.box.lt,h.res.below hb h.res.lt⟩
theorem Ol {k:ByteArray}: ∀{o:List (ByteArray×Val)} {q:Nat} {p:ByteArray×Val},(∀x ∈ o.take q,x.1≠k)->o[q]? =some p->p.1=k->Ax k o=some p.2
 | [],q,p,_,h,_=>by simp at h
 |x::r,0,p,_,h,e=>by
  simp only[List.getElem?_cons_zero,Option.some.injEq]at h;subst h;unfold Ax;rw[if_pos e]
 |x::r,q+1,p,ht,h,e=>by
  unfold Ax;rw[if_neg (ht x (by simp))];exact Ol (fun y hy=>ht y (by rw[List.take_succ_cons];exact List.mem_cons_of_mem _ hy)) (by simpa using h) e
theorem Wn {k:ByteArray} {o:List (ByteArray×Val)} (h: ∀x ∈ o,x.1≠k):Ax k o=none:=by
 rw[Oj];intro hm;obtain⟨p,hp,e⟩:=List.mem_map.1 hm;exact h p hp e
set_option maxRecDepth 100000 in
theorem Ym (k':Int) (b':Bool) (n':Int) (t':ByteArray) (l':List Val) (o':List (ByteArray×Val)) (la lc oa oc) (key:ByteArray) (w:World)
 (h:Ae w w.heap.size (dV (.mk k' b' n' t' l' o')) [.int .i64 k',.bool b',.int .i64 n',.string t',.slice la l'.length lc,.slice oa o'.length oc]) (hb:(Val.mk k' b' n' t' l' o').bulk<=100000000):
 Calls Tryz.prog 131 #[.agg #[.int .i64 k',.bool b',.int .i64 n',.string t',.slice la l'.length lc,.slice oa o'.length oc],.string key] w (Lr (.mk k' b' n' t' l' o') key w):=by
 have hI0:MI w #[.int .i64 k',.bool b',.int .i64 n',.string t',.slice la l'.length lc,.slice oa o'.length oc] ((w.alloc (.cells #[.int .i64 k',.bool b',.int .i64 n',.string t',.slice la l'.length lc,.slice oa o'.length oc] 39)).alloc (.cells Aj 39)):=
  ⟨((Below.refl _ _).alloc (Nat.le_refl _) _).alloc (by simp) _,(An.new w _ _).alloc _,by simpa using An.new (w.alloc (.cells #[.int .i64 k',.bool b',.int .i64 n',.string t',.slice la l'.length lc,.slice oa o'.length oc] 39)) 39 Aj⟩
 obtain⟨wi,hwi⟩: ∃wi,(w.alloc (.cells #[.int .i64 k',.bool b',.int .i64 n',.string t',.slice la l'.length lc,.slice oa o'.length oc] 39)).alloc (.cells Aj 39)=wi:=⟨_,rfl⟩;rw[hwi]at hI0;have hl:o'.length<=100000000:=by
  have h1:=Cg o';have h2:Al o'<=(Val.mk k' b' n' t' l' o').bulk:=by simp only[Val.bulk];omega
  omega
 by_cases hk:k'=6;rotate_left
 . have e1:(k' != 6)=true:=by simpa using hk
   have hP: ∀W,Below w.heap.size w W->Lr (.mk k' b' n' t' l' o') key w (.returned (.tuple #[.agg Aj,.int .i64 9])) W:=fun W hW=>⟨hW,by rw[if_pos (show Av (.mk k' b' n' t' l' o')≠6 from hk)]⟩;obtain⟨r0,r1,r2,r3,r4,r5⟩:=Ao hI0.res;have x0:=hI0.box.cell 0;have xl:=hI0.box.lt;have fz:=hI0.res.frozen;have lt1:=hI0.res.lt;obtain⟨HP,HI0,H⟩:=hid3 hP hI0 h;clear hP hI0 h;clear hk;go_enter Tryz.func131,Tryz.ntmps131;go_upto_region 2 with(fail);clear hwi
   repeat go_step
   have hxf:=(((((HI0.out.res.set_ 0 (.int .i64 0)).set_ 1 (.bool false)).set_ 2 (.int .i64 0)).set_ 3 (.string ⟨#[]⟩)).set_ 4 (.slice none 0 0)).set_ 5 (.slice none 0 0);have hbf:=Ak [.int .i64 0,.bool false,.int .i64 0,.string ⟨#[]⟩,.slice none 0 0,.slice none 0 0] HI0.out.below (Nat.le_succ w.heap.size) (o:=0);exact bodyPost_ret (A9 rfl rfl hxf) rfl (HP.out _ hbf)
 subst hk;have y0:=hI0.box.cell 0;have y5:=hI0.box.cell 5;have yl:=hI0.box.lt;have hs0: ∀p ∈ o'.take 0,p.1≠key:=by simp
 obtain⟨HI0,H,Hs0⟩:=hid3 hI0 h hs0;clear hI0 h hs0;go_enter Tryz.func131,Tryz.ntmps131;go_upto_region 1 with(fail);clear hwi;go_wp2_with (fail);go_loopw [15] (fun i wr=> ∃q:Nat,i=.int .i64 q/\q<=o'.length/\Hid (∀p ∈ o'.take q,p.1≠key)/\Hid (MI w #[.int .i64 6,.bool b',.int .i64 n',.string t',.slice la l'.length lc,.slice oa o'.length oc] wr)) (fun i _=>o'.length - (intOf i).toNat)
 case atStart=>exact⟨0,rfl,Nat.zero_le _,Hs0,HI0⟩
 case round=>
  obtain⟨q,rfl,hq,hin,hI⟩:=hrel;clear HI0 Hs0;have hq0:(0:Int)<=q:=by omega
  by_cases hlt:q<o'.length
  . obtain⟨p,hp⟩: ∃p,o'[q]? =some p:=⟨_,List.getElem?_eq_getElem (by omega)⟩;obtain⟨pkey,⟨pk,pb,pn,pt,pl,po⟩⟩:=p;have hz:=hI.out.below.size;have hbm:(Val.mk pk pb pn pt pl po).bulk<=100000000:=by
     have h1:=C9 (List.mem_of_getElem? hp);have h2:Al o'<=(Val.mk 6 b' n' t' l' o').bulk:=by simp only[Val.bulk];omega
     simp only at h1;omega
    obtain⟨g,off,rfl,hg,pla,plc,poa,poc,hv,c0,c1,c2,c3,c4,c5,c6⟩:=Kt (Js ((H.out.below hI.out.below).more hz)) hp;have hq1:(q:Int)<(o'.length:Int):=by omega
    have hIa:=hI.out.alloc (.cells #[.string pkey,.int .i64 pk,.bool pb,.int .i64 pn,.string pt,.slice pla pl.length plc,.slice poa po.length poc] 63);have hmb:=An.new wr 63 #[.string pkey,.int .i64 pk,.bool pb,.int .i64 pn,.string pt,.slice pla pl.length plc,.slice poa po.length poc];have htk:o'.take (q+1)=o'.take q++ [(pkey,.mk pk pb pn pt pl po)]:=by rw[List.take_add_one,hp];simp
    by_cases hkk:pkey=key
    . subst hkk;have e1:(pkey.toList==pkey.toList)=true:=by simp
      have e2:(pkey==pkey)=true:=by rw[To];simp
      have hfind:=Ol (o:=o') hin.out hp rfl;have hC:=Ky _ _ (wr.alloc (.cells #[.string pkey,.int .i64 pk,.bool pb,.int .i64 pn,.string pt,.slice pla pl.length plc,.slice poa po.length poc] 63)) (Bv _ _ (hv.later (Aa _ _))) hbm;have hsz:wr.heap.size<=(wr.alloc (.cells #[.string pkey,.int .i64 pk,.bool pb,.int .i64 pn,.string pt,.slice pla pl.length plc,.slice poa po.length poc] 63)).heap.size:=by simp
      obtain⟨HIa,Hmb,Hv,Hp,Htk,Hfind,HC,Hsz⟩:=hid8 hIa hmb hv hp htk hfind hC hsz;clear hIa hmb hv hp htk hfind hC hsz;clear hI hin;go_wp2_with (fail);(with_reducible refine(HC.out).mono ?_);rintro e w4 ⟨⟨cs4,rfl,hl4,hf4⟩,hb4⟩;obtain⟨xla,xlc,xoa,xoc,rfl⟩:=Ct hf4;have hI4:=HIa.out.call hb4;obtain⟨r0,r1,r2,r3,r4,r5⟩:=Ao hI4.res;have fz:=hI4.res.frozen;have lt1:=hI4.res.lt;have hsz4:=hb4.size;have hlow:=HIa.out.res.lt;obtain⟨HI4,Hf4,Hb4⟩:=hid3 hI4 hf4 hb4;clear hI4 hf4 hb4;dsimp only
      repeat go_step
      have hxf:=(((((HI4.out.res.set_ 0 (.int .i64 pk)).set_ 1 (.bool pb)).set_ 2 (.int .i64 pn)).set_ 3 (.string pt)).set_ 4 (.slice xla pl.length xlc)).set_ 5 (.slice xoa po.length xoc);have hbf:=Ak [.int .i64 pk,.bool pb,.int .i64 pn,.string pt,.slice xla pl.length xlc,.slice xoa po.length xoc] HI4.out.below (Nat.le_succ w.heap.size) (o:=0);have hff:=Hf4.out.keep (b':=w.heap.size) (w':=A1 w4 (w.heap.size+1) 0 [.int .i64 pk,.bool pb,.int .i64 pn,.string pt,.slice xla pl.length xlc,.slice xoa po.length xoc]) (by have:=Hsz.out;omega) (by rw[Ba];exact Nat.le_refl _) (fun p p1 _=>World.cell?_of_block (Aw _ _ _ _ _ (by omega)));refine bodyPost_ret (A9 rfl rfl hxf) rfl ⟨hbf, ?_⟩;rw[if_neg (show ¬Av (.mk 6 b' n' t' l' o')≠6 from fun h=>h rfl)];show match Ax pkey o' with|none=>_|some x=>_
      rw[Hfind.out];exact⟨_,rfl,hff⟩
    . have e1:(pkey.toList==key.toList)=false:=by
       rw[Pi];simp only[decide_eq_false_iff_not];intro e;apply hkk;obtain⟨⟨a⟩⟩:=pkey;obtain⟨⟨b⟩⟩:=key;simpa[ByteArray.toList_eq]using e
      have e2:(pkey==key)=false:=by rw[To];simp[hkk]
      have hin':Hid (∀p ∈ o'.take (q+1),p.1≠key):=by
       refine Lib.hid ?_;rw[htk];intro p hp;rcases List.mem_append.1 hp with h|h
       . exact hin.out p h
       . obtain rfl:=List.mem_singleton.1 h;exact hkk
      obtain⟨HIa,Hmb,Hv,Hp,Htk⟩:=hid5 hIa hmb hv hp htk;clear hIa hmb hv hp htk;clear hI hin hkk;go_wp2;go_roundw
      case rel=>exact⟨q+1,by go_num,by omega,hin',HIa⟩
      case measure=>simp only[intOf];omega
  . obtain rfl:q=o'.length:=by omega
    have hnone:=Wn (k:=key) (o:=o') (by
     have:=hin.out
     rwa [List.take_length]at this)
    obtain⟨r0,r1,r2,r3,r4,r5⟩:=Ao hI.out.res;have fz:=hI.out.res.frozen;have lt1:=hI.out.res.lt;have Hnone:=Lib.hid hnone;clear hnone;clear hin;go_upto_region 9 with(fail)
    repeat go_step
    have hxf:=(((((hI.out.res.set_ 0 (.int .i64 0)).set_ 1 (.bool false)).set_ 2 (.int .i64 0)).set_ 3 (.string ⟨#[]⟩)).set_ 4 (.slice none 0 0)).set_ 5 (.slice none 0 0);have hbf:=Ak [.int .i64 0,.bool false,.int .i64 0,.string ⟨#[]⟩,.slice none 0 0,.slice none 0 0] hI.out.below (Nat.le_succ w.heap.size) (o:=0);refine bodyPost_ret (A9 rfl rfl hxf) rfl ⟨hbf, ?_⟩;rw[if_neg (show ¬Av (.mk 6 b' n' t' l' o')≠6 from fun h=>h rfl)];show match Ax key o' with|none=>_|some x=>_
    rw[Hnone.out];rfl
def Gg (v:Val) (k:ByteArray):Option Val:=if Av v=6 then Ax k (At v)else none
theorem T8 {b':Bool} {n':Int} {t':ByteArray} {l':List Val} {o':List (ByteArray×Val)} (k:ByteArray):Gg (.mk 6 b' n' t' l' o') k=Ax k o':=by unfold Gg;rw[if_pos (show Av (.mk 6 b' n' t' l' o')=6 from rfl)];rfl
theorem Aji {v:Val} {k:ByteArray} (h:Av v≠6):Gg v k=none:=by unfold Gg;rw[if_neg h]
def Tm (v:Val) (key:ByteArray) (S:Nat->Prop) (w0 w:World) (e:Ending) (w':World):Prop:=Below w.heap.size w w'/\
 match Gg v key with
 |none=>e=.returned (.tuple #[.agg Aj,.int .i64 (if Av v≠6 then 9 else 12)])
 |some x=> ∃cs:List Value,e=.returned (.tuple #[.agg cs.toArray,.int .i64 0])/\Aq S w0 (dV x) cs
set_option maxRecDepth 100000 in
theorem Vs (k':Int) (b':Bool) (n':Int) (t':ByteArray) (l':List Val) (o':List (ByteArray×Val)) (la lc oa oc) (key:ByteArray) (S:Nat->Prop) (w0 w:World) (hw:Below w0.heap.size w0 w)
 (h:Aq S w0 (dV (.mk k' b' n' t' l' o')) [.int .i64 k',.bool b',.int .i64 n',.string t',.slice la l'.length lc,.slice oa o'.length oc]) (hl:o'.length<=100000000):
 Calls Tryz.prog 62 #[.agg #[.int .i64 k',.bool b',.int .i64 n',.string t',.slice la l'.length lc,.slice oa o'.length oc],.string key] w (Tm (.mk k' b' n' t' l' o') key S w0 w):=by
 have hI0:MI w #[.int .i64 k',.bool b',.int .i64 n',.string t',.slice la l'.length lc,.slice oa o'.length oc] ((w.alloc (.cells #[.int .i64 k',.bool b',.int .i64 n',.string t',.slice la l'.length lc,.slice oa o'.length oc] 39)).alloc (.cells Aj 39)):=
  ⟨((Below.refl _ _).alloc (Nat.le_refl _) _).alloc (by simp) _,(An.new w _ _).alloc _,by simpa using An.new (w.alloc (.cells #[.int .i64 k',.bool b',.int .i64 n',.string t',.slice la l'.length lc,.slice oa o'.length oc] 39)) 39 Aj⟩
 obtain⟨wi,hwi⟩: ∃wi,(w.alloc (.cells #[.int .i64 k',.bool b',.int .i64 n',.string t',.slice la l'.length lc,.slice oa o'.length oc] 39)).alloc (.cells Aj 39)=wi:=⟨_,rfl⟩;rw[hwi]at hI0;by_cases hk:k'=6;rotate_left
 . have e1:(k' != 6)=true:=by simpa using hk
   have hP: ∀W,Below w.heap.size w W->Tm (.mk k' b' n' t' l' o') key S w0 w (.returned (.tuple #[.agg Aj,.int .i64 9])) W:=fun W hW=>⟨hW,by
    rw[Aji (show Av (.mk k' b' n' t' l' o')≠6 from hk)];show _=Ending.returned (.tuple #[.agg Aj,.int .i64 (if k'≠6 then 9 else 12)]);rw[if_pos hk]⟩
   obtain⟨r0,r1,r2,r3,r4,r5⟩:=Ao hI0.res;have x0:=hI0.box.cell 0;have xl:=hI0.box.lt;have fz:=hI0.res.frozen;have lt1:=hI0.res.lt;obtain⟨HP,HI0,H⟩:=hid3 hP hI0 h;clear hP hI0 h;clear hk;go_enter Tryz.func62,Tryz.ntmps62;go_upto_region 2 with(fail);clear hwi
   repeat go_step
   have hxf:=(((((HI0.out.res.set_ 0 (.int .i64 0)).set_ 1 (.bool false)).set_ 2 (.int .i64 0)).set_ 3 (.string ⟨#[]⟩)).set_ 4 (.slice none 0 0)).set_ 5 (.slice none 0 0);have hbf:=Ak [.int .i64 0,.bool false,.int .i64 0,.string ⟨#[]⟩,.slice none 0 0,.slice none 0 0] HI0.out.below (Nat.le_succ w.heap.size) (o:=0);exact bodyPost_ret (A9 rfl rfl hxf) rfl (HP.out _ hbf)
 subst hk;have y0:=hI0.box.cell 0;have y5:=hI0.box.cell 5;have yl:=hI0.box.lt;have hs0: ∀p ∈ o'.take 0,p.1≠key:=by simp
 obtain⟨HI0,H,Hs0⟩:=hid3 hI0 h hs0;clear hI0 h hs0;go_enter Tryz.func62,Tryz.ntmps62;go_upto_region 1 with(fail);clear hwi;go_wp2_with (fail);clear y0 y5 yl;go_loopw [6] (fun i wr=> ∃q:Nat,i=.int .i64 q/\q<=o'.length/\Hid (∀p ∈ o'.take q,p.1≠key)/\Hid (MI w #[.int .i64 6,.bool b',.int .i64 n',.string t',.slice la l'.length lc,.slice oa o'.length oc] wr)) (fun i _=>o'.length - (intOf i).toNat)
 case atStart=>exact⟨0,rfl,Nat.zero_le _,Hs0,HI0⟩
 case round=>
  obtain⟨q,rfl,hq,hin,hI⟩:=hrel;clear HI0 Hs0;have hq0:(0:Int)<=q:=by omega
  have z5:=hI.out.box.cell 5;have zl:=hI.out.box.lt;by_cases hlt:q<o'.length
  . obtain⟨p,hp⟩: ∃p,o'[q]? =some p:=⟨_,List.getElem?_eq_getElem (by omega)⟩;obtain⟨pkey,⟨pk,pb,pn,pt,pl,po⟩⟩:=p;have hz:=hI.out.below.size;obtain⟨g,off,rfl,hg,pla,plc,poa,poc,hv,c0,c1,c2,c3,c4,c5,c6⟩:=Ajy (Alo H.out) hp;have hbw:Below w0.heap.size w0 wr:=hw.trans (hI.out.below.mono hw.size);have hgr:g<wr.heap.size:=Nat.lt_of_lt_of_le hg hbw.size;have c0:=(hbw.cell (p:=⟨g,off+q*7,none⟩) hg).trans c0;have c1:=(hbw.cell (p:=⟨g,off+q*7+1,none⟩) hg).trans c1;have c2:=(hbw.cell (p:=⟨g,off+q*7+2,none⟩) hg).trans c2;have c3:=(hbw.cell (p:=⟨g,off+q*7+3,none⟩) hg).trans c3;have c4:=(hbw.cell (p:=⟨g,off+q*7+4,none⟩) hg).trans c4;have c5:=(hbw.cell (p:=⟨g,off+q*7+5,none⟩) hg).trans c5;have c6:=(hbw.cell (p:=⟨g,off+q*7+6,none⟩) hg).trans c6;have hq1:(q:Int)<(o'.length:Int):=by omega
    have htk:o'.take (q+1)=o'.take q++ [(pkey,.mk pk pb pn pt pl po)]:=by rw[List.take_add_one,hp];simp
    by_cases hkk:pkey=key
    . subst hkk;have e1:(pkey.toList==pkey.toList)=true:=by simp
      have e2:(pkey==pkey)=true:=by rw[To];simp
      have hfind:=Ol (o:=o') hin.out hp rfl;obtain⟨r0,r1,r2,r3,r4,r5⟩:=Ao hI.out.res;have fz:=hI.out.res.frozen;have lt1:=hI.out.res.lt;obtain⟨Hv,Hp,Htk,Hfind⟩:=hid4 hv hp htk hfind;clear hv hp htk hfind;clear hin;go_upto_region 7 with(fail)
      repeat go_step
      have hxf:=(((((hI.out.res.set_ 0 (.int .i64 pk)).set_ 1 (.bool pb)).set_ 2 (.int .i64 pn)).set_ 3 (.string pt)).set_ 4 (.slice pla pl.length plc)).set_ 5 (.slice poa po.length poc);have hbf:=Ak [.int .i64 pk,.bool pb,.int .i64 pn,.string pt,.slice pla pl.length plc,.slice poa po.length poc] hI.out.below (Nat.le_succ w.heap.size) (o:=0);refine bodyPost_ret (A9 rfl rfl hxf) rfl ⟨hbf, ?_⟩;rw[T8,Hfind.out];exact⟨_,rfl,Hv.out⟩
    . have e1:(pkey.toList==key.toList)=false:=by
       rw[Pi];simp only[decide_eq_false_iff_not];intro e;apply hkk;obtain⟨⟨a⟩⟩:=pkey;obtain⟨⟨b⟩⟩:=key;simpa[ByteArray.toList_eq]using e
      have e2:(pkey==key)=false:=by rw[To];simp[hkk]
      have hin':Hid (∀p ∈ o'.take (q+1),p.1≠key):=by
       refine Lib.hid ?_;rw[htk];intro p hp;rcases List.mem_append.1 hp with h|h
       . exact hin.out p h
       . obtain rfl:=List.mem_singleton.1 h;exact hkk
      obtain⟨Hv,Hp,Htk⟩:=hid3 hv hp htk;clear hv hp htk;clear hin hkk;go_wp2;go_roundw
      case rel=>exact⟨q+1,by go_num,by omega,hin',hI⟩
      case measure=>simp only[intOf];omega
  . obtain rfl:q=o'.length:=by omega
    have hnone:=Wn (k:=key) (o:=o') (by
     have:=hin.out
     rwa [List.take_length]at this)
    obtain⟨r0,r1,r2,r3,r4,r5⟩:=Ao hI.out.res;have fz:=hI.out.res.frozen;have lt1:=hI.out.res.lt;have Hnone:=Lib.hid hnone;clear hnone;clear hin;go_upto_region 8 with(fail)
    repeat go_step
    have hxf:=(((((hI.out.res.set_ 0 (.int .i64 0)).set_ 1 (.bool false)).set_ 2 (.int .i64 0)).set_ 3 (.string ⟨#[]⟩)).set_ 4 (.slice none 0 0)).set_ 5 (.slice none 0 0);have hbf:=Ak [.int .i64 0,.bool false,.int .i64 0,.string ⟨#[]⟩,.slice none 0 0,.slice none 0 0] hI.out.below (Nat.le_succ w.heap.size) (o:=0);refine bodyPost_ret (A9 rfl rfl hxf) rfl ⟨hbf, ?_⟩;rw[T8,Hnone.out];rfl
def K8 (v:Val) (key:ByteArray) (S:Nat->Prop) (w0 w:World) (e:Ending) (w':World):Prop:=Below w.heap.size w w'/\
 ∃cs:List Value,e=.returned (.tuple #[.agg cs.toArray,.bool (Gg v key).isSome])/\Aq S w0 (dV ((Gg v key).getD Ll)) cs
set_option maxRecDepth 100000 in
theorem L7 (k':Int) (b':Bool) (n':Int) (t':ByteArray) (l':List Val) (o':List (ByteArray×Val)) (la lc oa oc) (key:ByteArray) (S:Nat->Prop) (w0 w:World) (hw:Below w0.heap.size w0 w)
 (h:Aq S w0 (dV (.mk k' b' n' t' l' o')) [.int .i64 k',.bool b',.int .i64 n',.string t',.slice la l'.length lc,.slice oa o'.length oc]) (hl:o'.length<=100000000):
 Calls Tryz.prog 39 #[.agg #[.int .i64 k',.bool b',.int .i64 n',.string t',.slice la l'.length lc,.slice oa o'.length oc],.string key] w (K8 (.mk k' b' n' t' l' o') key S w0 w):=by
 have hI0:MI w #[.int .i64 k',.bool b',.int .i64 n',.string t',.slice la l'.length lc,.slice oa o'.length oc] ((w.alloc (.cells #[.int .i64 k',.bool b',.int .i64 n',.string t',.slice la l'.length lc,.slice oa o'.length oc] 39)).alloc (.cells Aj 39)):=
  ⟨((Below.refl _ _).alloc (Nat.le_refl _) _).alloc (by simp) _,(An.new w _ _).alloc _,by simpa using An.new (w.alloc (.cells #[.int .i64 k',.bool b',.int .i64 n',.string t',.slice la l'.length lc,.slice oa o'.length oc] 39)) 39 Aj⟩
 obtain⟨wi,hwi⟩: ∃wi,(w.alloc (.cells #[.int .i64 k',.bool b',.int .i64 n',.string t',.slice la l'.length lc,.slice oa o'.length oc] 39)).alloc (.cells Aj 39)=wi:=⟨_,rfl⟩;rw[hwi]at hI0;have hM:=Vs k' b' n' t' l' o' la lc oa oc key S w0 wi (hw.trans (hI0.below.mono hw.size)) h hl;unfold Tm at hM;obtain⟨F,hF⟩: ∃F,Gg (.mk k' b' n' t' l' o') key=F:=⟨_,rfl⟩;unfold K8;rw[hF]at hM ⊢;clear hF;obtain⟨y0,y1,y2,y3,y4,y5⟩:=Ao hI0.box;have yl:=hI0.box.lt
 cases F with
 |none=>
  simp only at hM;obtain⟨C,hC⟩: ∃C:Int,(if Av (.mk k' b' n' t' l' o')≠6 then 9 else 12)=C:=⟨_,rfl⟩;have hC0:(C==0)=false:=by
   rw[<-hC]
   split<;>rfl
  rw[hC]at hM;obtain⟨HI0,H,HM⟩:=hid3 hI0 h hM;clear hI0 h hM;clear hC;go_enter Tryz.func39,Tryz.ntmps39;go_upto_region 1 with(fail);clear hwi;go_wp2_with (fail);(with_reducible refine(HM.out).mono ?_);rintro e w2 ⟨hb2,rfl⟩;have hI2:=HI0.out.call hb2;have hI3:=hI2.alloc (.cells Aj 39);have hx3:=An.new w2 39 Aj;obtain⟨HI3,Hx3⟩:=hid2 hI3 hx3;clear hI3 hx3;clear hI2 y0 y1 y2 y3 y4 y5 yl hb2;go_upto_region 2 with(fail);generalize w2.alloc (.cells Aj 39)=w3 at HI3 Hx3 ⊢;obtain⟨r0,r1,r2,r3,r4,r5⟩:=Ao HI3.out.res;obtain⟨x0,x1,x2,x3,x4,x5⟩:=Ao Hx3.out;have xl:=Hx3.out.lt;have fz:=HI3.out.res.frozen;have lt1:=HI3.out.res.lt
  repeat go_step
  have hxf:=(((((HI3.out.res.set_ 0 (.int .i64 0)).set_ 1 (.bool false)).set_ 2 (.int .i64 0)).set_ 3 (.string ⟨#[]⟩)).set_ 4 (.slice none 0 0)).set_ 5 (.slice none 0 0);have hbf:=Ak [.int .i64 0,.bool false,.int .i64 0,.string ⟨#[]⟩,.slice none 0 0,.slice none 0 0] HI3.out.below (Nat.le_succ w.heap.size) (o:=0);exact bodyPost_ret (A9 rfl rfl hxf) rfl ⟨hbf, [.int .i64 0,.bool false,.int .i64 0,.string ⟨#[]⟩,.slice none 0 0,.slice none 0 0],rfl,Yi _ _⟩
 |some x=>
  simp only at hM;obtain⟨pk,pb,pn,pt,pl,po⟩:=x;obtain⟨HI0,H,HM⟩:=hid3 hI0 h hM;clear hI0 h hM;go_enter Tryz.func39,Tryz.ntmps39;go_upto_region 1 with(fail);clear hwi;go_wp2_with (fail);(with_reducible refine(HM.out).mono ?_);rintro e w2 ⟨hb2,cs,rfl,hh⟩;obtain⟨pla,plc,poa,poc,rfl⟩:=Ip hh;have hI2:=HI0.out.call hb2;have hI3:=hI2.alloc (.cells #[.int .i64 pk,.bool pb,.int .i64 pn,.string pt,.slice pla pl.length plc,.slice poa po.length poc] 39);have hx3:=An.new w2 39 #[.int .i64 pk,.bool pb,.int .i64 pn,.string pt,.slice pla pl.length plc,.slice poa po.length poc];obtain⟨w3,hw3⟩: ∃w3,w2.alloc (.cells #[.int .i64 pk,.bool pb,.int .i64 pn,.string pt,.slice pla pl.length plc,.slice poa po.length poc] 39)=w3:=⟨_,rfl⟩;rw[hw3]at hI3 hx3;obtain⟨r0,r1,r2,r3,r4,r5⟩:=Ao hI3.res;obtain⟨x0,x1,x2,x3,x4,x5⟩:=Ao hx3;have xl:=hx3.lt;have fz:=hI3.res.frozen;have lt1:=hI3.res.lt;obtain⟨HI3,Hh⟩:=hid2 hI3 hh;clear hI3 hh;clear hI2 hx3 y0 y1 y2 y3 y4 y5 yl hb2;go_upto_region 2 with(fail);clear hw3
  repeat go_step
  have hxf:=(((((HI3.out.res.set_ 0 (.int .i64 pk)).set_ 1 (.bool pb)).set_ 2 (.int .i64 pn)).set_ 3 (.string pt)).set_ 4 (.slice pla pl.length plc)).set_ 5 (.slice poa po.length poc);have hbf:=Ak [.int .i64 pk,.bool pb,.int .i64 pn,.string pt,.slice pla pl.length plc,.slice poa po.length poc] HI3.out.below (Nat.le_succ w.heap.size) (o:=0);exact bodyPost_ret (A9 rfl rfl hxf) rfl ⟨hbf,_,rfl,Hh.out⟩
def dX (names:List ByteArray):List D:=names.map fun s=> .leaf (.string s)
theorem Ac5 (names:List ByteArray):(dX names).length=names.length:=List.length_map ..
theorem Ai3 {w:World} {B n c:Nat} {names:List ByteArray} {a:Option Addr} (h:Ae w B (.row 1 (dX names)) [.slice a n c]) {q:Nat} {s:ByteArray} (hi:names[q]? =some s):
 ∃g off,a=some ⟨g,off,none⟩/\g<B/\w.cell? ⟨g,off+q,none⟩=some (.string s):=by
 obtain⟨g,off,ea,hg,cs,h1,_,h3⟩:=h.at_ (i:=q) (d:=.leaf (.string s)) (by unfold dX;rw[List.getElem?_map,hi];rfl);obtain⟨rfl,_⟩:=h1;exact⟨g,off,ea,hg,by have:=h3 0 _ rfl;simpa using this⟩
theorem Am7 {w:World} {B n c:Nat} {names:List ByteArray} {a:Option Addr} (h:Ae w B (.row 1 (dX names)) [.slice a n c]):n=names.length:=by rw[h.row_len,Ac5]
theorem Z8 (names:List ByteArray): ∀d ∈ dX names,d.cells=1:=by
 intro d hd;obtain⟨x,_,rfl⟩:=List.mem_map.1 hd;rfl
theorem Tu (w:World) (B:Nat): ∀names:List ByteArray,Ag w B (dX names) (names.map Value.string)
 | []=>rfl
 |s::r=>⟨[.string s],r.map Value.string,rfl,⟨rfl,rfl⟩,Tu w B r⟩
theorem Ac4 {w:World} {g c:Nat} {t:TypeId} {names:List ByteArray} {n:Nat} (h:An w g t (names.map Value.string).toArray) (hn:n=names.length) {B:Nat} (hg:g<B):Ae w B (.row 1 (dX names)) [.slice (some ⟨g,0,none⟩) n c]:=by
 subst hn;refine⟨_,c,by rw[Ac5],Z8 _,_,Tu _ _ _,.inr ⟨g,0,rfl,hg,fun j u hu=> ?_⟩⟩;rw[Nat.zero_add];exact(h.cell j).trans (by rw[<-Array.getElem?_toList];exact hu)
def Pa (w:World) (S:Nat->Prop) (w0:World) (x:Val) (p:Value) (wx:World):Prop:= ∃R cs,p=.pointer (some ⟨R,0,none⟩)/\w.heap.size<=R/\Below w.heap.size w wx/\An wx R 39 cs.toArray/\Aq S w0 (dV x) cs
theorem Pa.new {w w7 w0:World} {S:Nat->Prop} {x:Val} {cs:List Value} (hb:Below w.heap.size w w7) (hh:Aq S w0 (dV x) cs):Pa w S w0 x (.pointer (some ⟨w7.heap.size,0,none⟩)) (w7.alloc (.cells cs.toArray 39)):=
 ⟨w7.heap.size,cs,rfl,hb.size,hb.alloc hb.size _,An.new _ _ _,hh⟩
theorem Pa.old {w w7 w0:World} {S:Nat->Prop} {R:Nat} {k:Int} {b:Bool} {n:Int} {t:ByteArray} {l:List Val} {o:List (ByteArray×Val)} {la oa:Option Addr} {lc oc:Nat} (hb:Below w.heap.size w w7) (hh:Aq S w0 (dV (.mk k b n t l o)) [.int .i64 k,.bool b,.int .i64 n,.string t,.slice la l.length lc,.slice oa o.length oc]) (hx:An w7 R 39 Aj) (hR:w.heap.size<=R):
 Pa w S w0 (.mk k b n t l o) (.pointer (some ⟨R,0,none⟩)) (A1 w7 R 0 [.int .i64 k,.bool b,.int .i64 n,.string t,.slice la l.length lc,.slice oa o.length oc]):=
 ⟨R,_,rfl,hR,Ak _ hb hR (o:=0),((((((hx.set_ 0 (.int .i64 k)).set_ 1 (.bool b)).set_ 2 (.int .i64 n)).set_ 3 (.string t)).set_ 4 (.slice la l.length lc)).set_ 5 (.slice oa o.length oc)),hh⟩
def Ru (all opt:List ByteArray) (v:Val):Bool:=all.all (fun x=>(Gg v x).isSome)&&decide (all.length+(opt.filter fun x=>(Gg v x).isSome).length=(At v).length)
theorem Ajq {all opt:List ByteArray} {v:Val} {s:ByteArray} (hm:s ∈ all) (h:(Gg v s).isSome=false):Ru all opt v=false:=by
 unfold Ru;have:all.all (fun x=>(Gg v x).isSome)=false:=by
  rw[List.all_eq_false];exact⟨s,hm,by rw[h];simp⟩
 rw[this,Bool.false_and]
theorem Ag4 {all opt:List ByteArray} {v:Val} (h: ∀x ∈ all,(Gg v x).isSome=true):Ru all opt v=decide (all.length+(opt.filter fun x=>(Gg v x).isSome).length=(At v).length):=by
 unfold Ru;rw[List.all_eq_true.2 h,Bool.true_and]
structure JI (w:World) (six:Array Value) (wr:World):Prop where
 below:Below w.heap.size w wr
 box:An wr w.heap.size 39 six
theorem JI.call {w wr w':World} {six:Array Value} (h:JI w six wr) (hb:Below wr.heap.size wr w'):JI w six w':=⟨h.below.trans (hb.mono h.below.size),h.box.below hb h.box.lt⟩
theorem JI.has {w wr w' w0:World} {six:Array Value} {S:Nat->Prop} {x:Val} {p:Value} (h:JI w six wr) (hb:Pa wr S w0 x p w'):JI w six w':=by
 obtain⟨R,cs,_,_,hb,_⟩:=hb;exact h.call hb
set_option maxRecDepth 100000 in
theorem Sd (k':Int) (b':Bool) (n':Int) (t':ByteArray) (l':List Val) (o':List (ByteArray×Val)) (la lc oa oc) (all opt:List ByteArray) (a:Option Addr) (n c:Nat) (a2:Option Addr) (n2 c2:Nat) (S:Nat->Prop) (w0 w:World) (hw:Below w0.heap.size w0 w)
 (h:Aq S w0 (dV (.mk k' b' n' t' l' o')) [.int .i64 k',.bool b',.int .i64 n',.string t',.slice la l'.length lc,.slice oa o'.length oc]) (hA:Ae w w.heap.size (.row 1 (dX all)) [.slice a n c]) (hSm:Ae w w.heap.size (.row 1 (dX opt)) [.slice a2 n2 c2]) (hl:o'.length<=100000000) (hla:all.length<=1000) (hls:opt.length<=1000):
 Calls Tryz.prog 58 #[.agg #[.int .i64 k',.bool b',.int .i64 n',.string t',.slice la l'.length lc,.slice oa o'.length oc],.slice a n c,.slice a2 n2 c2] w fun e w'=>e=.returned (.bool (Ru all opt (.mk k' b' n' t' l' o')))/\Below w.heap.size w w':=by
 obtain rfl:=Am7 hA;obtain rfl:=Am7 hSm;have hI0:JI w #[.int .i64 k',.bool b',.int .i64 n',.string t',.slice la l'.length lc,.slice oa o'.length oc] (w.alloc (.cells #[.int .i64 k',.bool b',.int .i64 n',.string t',.slice la l'.length lc,.slice oa o'.length oc] 39)):=⟨Aa _ _,An.new w _ _⟩;obtain⟨wi,hwi⟩: ∃wi,w.alloc (.cells #[.int .i64 k',.bool b',.int .i64 n',.string t',.slice la l'.length lc,.slice oa o'.length oc] 39)=wi:=⟨_,rfl⟩;rw[hwi]at hI0;have hs0: ∀x ∈ all.take 0,(Gg (.mk k' b' n' t' l' o') x).isSome=true:=by simp
 have hHas:=fun(s:ByteArray) (W:World) (hW:Below w.heap.size w W)=>L7 k' b' n' t' l' o' la lc oa oc s S w0 W (hw.trans (hW.mono hw.size)) h hl;unfold K8 at hHas;obtain⟨HI0,H,Hs0,HA,HSm,HHas⟩:=hid6 hI0 h hs0 hA hSm hHas;clear hI0 h hs0 hA hSm hHas;go_enter Tryz.func58,Tryz.ntmps58;go_upto_region 1 with(fail);clear hwi;go_wp2_with (fail);go_loopw [7,8] (fun nV i wr=> ∃q:Nat,nV=.int .i64 q/\i=.int .i64 q/\q<=all.length/\Hid (∀x ∈ all.take q,(Gg (.mk k' b' n' t' l' o') x).isSome=true)/\Hid (JI w #[.int .i64 k',.bool b',.int .i64 n',.string t',.slice la l'.length lc,.slice oa o'.length oc] wr)) (fun _ i _=>all.length - (intOf i).toNat)
 case atStart=>exact⟨0,rfl,rfl,Nat.zero_le _,Hs0,HI0⟩
 case round=>
  obtain⟨q,rfl,rfl,hq,hin,hI⟩:=hrel;clear HI0 Hs0;have hq0:(0:Int)<=q:=by omega
  by_cases hlt:q<all.length
  . obtain⟨s,hs⟩: ∃s,all[q]? =some s:=⟨_,List.getElem?_eq_getElem (by omega)⟩;have hz:=hI.out.below.size;obtain⟨g,off,rfl,hg,hk⟩:=Ai3 (HA.out.below hI.out.below) hs;have hq1:(q:Int)<(all.length:Int):=by omega
    have htk:all.take (q+1)=all.take q++ [s]:=by rw[List.take_add_one,hs];simp
    have hC:=fun(W:World) (hW:Below wr.heap.size wr W)=>HHas.out s W (hI.out.below.trans (hW.mono hz));have hSw:=fun(Y:World) (hY:Below wr.heap.size wr Y)=>(show Y.cell? ⟨w.heap.size,0,none⟩=some (.int .i64 k')/\Y.cell? ⟨w.heap.size,1,none⟩=some (.bool b')/\Y.cell? ⟨w.heap.size,2,none⟩=some (.int .i64 n')/\Y.cell? ⟨w.heap.size,3,none⟩=some (.string t')/\Y.cell? ⟨w.heap.size,4,none⟩=some (.slice la l'.length lc)/\Y.cell? ⟨w.heap.size,5,none⟩=some (.slice oa o'.length oc)/\Y.cell? ⟨g,off+q,none⟩=some (.string s)by
     obtain⟨v0,v1,v2,v3,v4,v5⟩:=Ao (hI.out.box.below hY hI.out.box.lt);exact⟨v0,v1,v2,v3,v4,v5,(hY.cell (p:=⟨g,off+q,none⟩) (by show g<wr.heap.size;omega)).trans hk⟩)
    have hno:=fun hm=>Ajq (all:=all) (opt:=opt) (v:=.mk k' b' n' t' l' o') (s:=s) (List.mem_of_getElem? hs) hm;obtain⟨P,hP⟩: ∃P,(Gg (.mk k' b' n' t' l' o') s).isSome=P:=⟨_,rfl⟩;obtain⟨⟨xk,xb,xn,xt,xl,xo⟩,hx⟩: ∃x,(Gg (.mk k' b' n' t' l' o') s).getD Ll=x:=⟨_,rfl⟩;simp only[hP,hx]at hC;have hin':P=true->Hid (∀x ∈ all.take (q+1),(Gg (.mk k' b' n' t' l' o') x).isSome=true):=fun hPt=>by
     refine Lib.hid ?_;rw[htk];intro p hp;rcases List.mem_append.1 hp with h|h
     . exact hin.out p h
     . obtain rfl:=List.mem_singleton.1 h;rw[hP,hPt]
    rw[hP]at hno;obtain⟨Hs,Hk,Htk,HC,HSw,Hno,Hin'⟩:=hid7 hs hk htk hC hSw hno hin';clear hs hk htk hC hSw hno hin';clear hin hP hx;go_upto_region 5 with(fail);go_cut [9,10] (fun p b wx=>b=.bool P/\Hid (Pa wr S w0 (.mk xk xb xn xt xl xo) p wx))
    case first=>
     refine wp_region_held_drew (S:=(fun Y=>Y.cell? ⟨w.heap.size,0,none⟩=some (.int .i64 k')/\Y.cell? ⟨w.heap.size,1,none⟩=some (.bool b')/\Y.cell? ⟨w.heap.size,2,none⟩=some (.int .i64 n')/\Y.cell? ⟨w.heap.size,3,none⟩=some (.string t')/\Y.cell? ⟨w.heap.size,4,none⟩=some (.slice la l'.length lc)/\Y.cell? ⟨w.heap.size,5,none⟩=some (.slice oa o'.length oc)/\Y.cell? ⟨g,off+q,none⟩=some (.string s))) (by kernel_rfl) (HSw.out _ (Below.drew (Below.refl _ _))) (fun hHeld=> ?_);have hbd:Below wr.heap.size wr wr.drew:=Below.drew (Below.refl _ _);have hbz:Below wr.heap.size wr (wr.alloc (.cells Aj 39)).drew:=Below.drew ((Below.refl _ _).alloc (Nat.le_refl _) (.cells Aj 39));refine tkH 0 hHeld ?_;refine tkH 1 hHeld ?_;refine tkH 2 hHeld ?_;refine tkH 3 hHeld ?_;refine tkH 4 hHeld ?_;refine wpAnyH_ready (rs:= [5,9]) (by kernel_rfl) (by simp) ?_;refine AllReadyH.cons rfl (fun K hK=> ?_) (AllReadyH.cons rfl (fun K hK=> ?_) AllReadyH.nil)
     ·
      go_simp
      (with_reducible refine(HC.out _ hbd).mono ?_)
      rintro e w7 ⟨hb7,cs7,rfl,hh7⟩;obtain⟨xla,xlc,xoa,xoc,rfl⟩:=Ip hh7;have hbr7:Below wr.heap.size wr w7:=hbd.trans (hb7.mono hbd.size);refine hK.out _ _ (HSw.out _ hbr7) (fun hHeld=> ?_);clear hK K
      try simp only[Act.put,tk1,tk2,tk3,tk4,tk5,tk6]
      refine tkH 6 hHeld ?_;refine tkH 7 hHeld ?_;refine tkH 8 hHeld ?_;refine wpAnyH_ready (rs:= [9]) (by kernel_rfl) (by simp) ?_;refine AllReadyH.cons rfl (fun K hK=> ?_) AllReadyH.nil;go_simp;refine hK.out _ _ (HSw.out _ (hbr7.alloc hbr7.size (.cells Aj 39))) (fun hHeld=> ?_);clear hK K
      try simp only[Act.put,tk1,tk2,tk3,tk4,tk5,tk6]
      refine wpAnyH_ready (rs:= [10]) (by kernel_rfl) (by simp) ?_;refine AllReadyH.cons rfl (fun K hK=> ?_) AllReadyH.nil;go_simp;refine hK.out _ _ (HSw.out _ (hbr7.alloc hbr7.size (.cells #[.int .i64 xk,.bool xb,.int .i64 xn,.string xt,.slice xla xl.length xlc,.slice xoa xo.length xoc] 39))) (fun hHeld=> ?_);clear hK K
      try simp only[Act.put,tk1,tk2,tk3,tk4,tk5,tk6]
      refine tkH 11 hHeld ?_;refine wpAnyH_done (by kernel_rfl) ?_ _;have HF:=Lib.hid (Pa.new hbr7 hh7);clear hHeld hb7 hh7 hbr7 hbz hbd;go_wp2;go_meet;exact⟨rfl,HF⟩
     ·
      go_simp;refine hK.out _ _ (HSw.out _ hbz) (fun hHeld=> ?_);clear hK K
      try simp only[Act.put,tk1,tk2,tk3,tk4,tk5,tk6]
      refine wpAnyH_ready (rs:= [5]) (by kernel_rfl) (by simp) ?_;refine AllReadyH.cons rfl (fun K hK=> ?_) AllReadyH.nil;go_simp
      (with_reducible refine(HC.out _ hbz).mono ?_)
      rintro e w7 ⟨hb7,cs7,rfl,hh7⟩;obtain⟨xla,xlc,xoa,xoc,rfl⟩:=Ip hh7;have hbr7:Below wr.heap.size wr w7:=hbz.trans (hb7.mono hbz.size);refine hK.out _ _ (HSw.out _ hbr7) (fun hHeld=> ?_);clear hK K
      try simp only[Act.put,tk1,tk2,tk3,tk4,tk5,tk6]
      refine tkH 6 hHeld ?_;refine tkH 7 hHeld ?_;refine tkH 8 hHeld ?_;refine wpAnyH_ready (rs:= [10]) (by kernel_rfl) (by simp) ?_;refine AllReadyH.cons rfl (fun K hK=> ?_) AllReadyH.nil;have hxR:An w7 wr.heap.size 39 Aj:=(An.new wr 39 Aj).drew.below hb7 (An.lt (An.new wr 39 Aj).drew);obtain⟨c0,c1,c2,c3,c4,c5⟩:=Ao hxR;have fz:=hxR.frozen;have hRl:=hxR.lt;go_simp;refine hK.out _ _ (HSw.out _ (Ak [.int .i64 xk,.bool xb,.int .i64 xn,.string xt,.slice xla xl.length xlc,.slice xoa xo.length xoc] hbr7 (Nat.le_refl _) (o:=0))) (fun hHeld=> ?_);clear hK K
      try simp only[Act.put,tk1,tk2,tk3,tk4,tk5,tk6]
      refine tkH 11 hHeld ?_;refine wpAnyH_done (by kernel_rfl) ?_ _;have HF:=Lib.hid (Pa.old hbr7 hh7 hxR (Nat.le_refl _));clear c0 c1 c2 c3 c4 c5 fz hxR hHeld hb7 hh7 hbr7 hbz hbd hRl;go_wp2;go_meet;exact⟨rfl,HF⟩
    case rest=>
     obtain⟨rfl,hH⟩:=hcut;have hJ:=Lib.hid (hI.out.has hH.out)
     cases P with
     |false=>
      have hr:=Hno.out rfl;have Hr:=Lib.hid hr;clear hr;clear hH HC HSw Hin' hI;go_wp2;go_ret;exact⟨by rw[Hr.out];rfl,hJ.out.below⟩
     |true=>
      have hn:=Hin'.out rfl;clear hH HC HSw Hin' hI Hno;go_wp2;go_roundw
      case rel=>exact⟨q+1,by go_num,by go_num,by omega,hn,hJ⟩
      case measure=>simp only[intOf];omega
  . obtain rfl:q=all.length:=by omega
    have hJ:=Ag4 (all:=all) (opt:=opt) (v:=.mk k' b' n' t' l' o') (by
     have:=hin.out
     rwa [List.take_length]at this)
    have hc0:((opt.take 0).filter fun x=>(Gg (.mk k' b' n' t' l' o') x).isSome).length=0:=by simp
    obtain⟨HJ,Hc0⟩:=hid2 hJ hc0;clear hJ hc0;clear hin;go_wp2_with (fail);obtain⟨wo,rfl⟩: ∃wo:World,wo=wr:=⟨_,rfl⟩;have hIo:=hI;clear hI;go_loopw [7,11] (fun nV i wq=> ∃q m:Nat,nV=.int .i64 ((all.length+m:Nat):Int)/\i=.int .i64 q/\q<=opt.length/\m<=q/\Hid (((opt.take q).filter fun x=>(Gg (.mk k' b' n' t' l' o') x).isSome).length=m)/\Hid (JI w #[.int .i64 k',.bool b',.int .i64 n',.string t',.slice la l'.length lc,.slice oa o'.length oc] wq)) (fun _ i _=>opt.length - (intOf i).toNat)
    case atStart=>exact⟨0,0,by simp,rfl,Nat.zero_le _,Nat.le_refl _,Hc0,hIo⟩
    case round=>
     obtain⟨q,m,rfl,rfl,hq,hm,hcn,hI⟩:=hrel;clear hIo Hc0;have hq0:(0:Int)<=q:=by omega
     by_cases hlt:q<opt.length
     . obtain⟨s,hs⟩: ∃s,opt[q]? =some s:=⟨_,List.getElem?_eq_getElem (by omega)⟩;have hz:=hI.out.below.size;obtain⟨g,off,rfl,hg,hk⟩:=Ai3 (HSm.out.below hI.out.below) hs;have hq1:(q:Int)<(opt.length:Int):=by omega
       have htk:opt.take (q+1)=opt.take q++ [s]:=by rw[List.take_add_one,hs];simp
       have hC:=fun(W:World) (hW:Below wr.heap.size wr W)=>HHas.out s W (hI.out.below.trans (hW.mono hz));have hSw:=fun(Y:World) (hY:Below wr.heap.size wr Y)=>(show Y.cell? ⟨w.heap.size,0,none⟩=some (.int .i64 k')/\Y.cell? ⟨w.heap.size,1,none⟩=some (.bool b')/\Y.cell? ⟨w.heap.size,2,none⟩=some (.int .i64 n')/\Y.cell? ⟨w.heap.size,3,none⟩=some (.string t')/\Y.cell? ⟨w.heap.size,4,none⟩=some (.slice la l'.length lc)/\Y.cell? ⟨w.heap.size,5,none⟩=some (.slice oa o'.length oc)/\Y.cell? ⟨g,off+q,none⟩=some (.string s)by
        obtain⟨v0,v1,v2,v3,v4,v5⟩:=Ao (hI.out.box.below hY hI.out.box.lt);exact⟨v0,v1,v2,v3,v4,v5,(hY.cell (p:=⟨g,off+q,none⟩) (by show g<wr.heap.size;omega)).trans hk⟩)
       obtain⟨P,hP⟩: ∃P,(Gg (.mk k' b' n' t' l' o') s).isSome=P:=⟨_,rfl⟩;obtain⟨⟨xk,xb,xn,xt,xl,xo⟩,hx⟩: ∃x,(Gg (.mk k' b' n' t' l' o') s).getD Ll=x:=⟨_,rfl⟩;simp only[hP,hx]at hC;have hcn':Hid (((opt.take (q+1)).filter fun x=>(Gg (.mk k' b' n' t' l' o') x).isSome).length=m+(if P then 1 else 0)):=by
        refine Lib.hid ?_;rw[htk,List.filter_append,List.length_append,hcn.out]
        cases P<;>simp[hP]
       obtain⟨Hs,Hk,Htk,HC,HSw⟩:=hid5 hs hk htk hC hSw;clear hs hk htk hC hSw;clear hcn hP hx;go_upto_region 12 with(fail);go_cut [12,13] (fun p b wx=>b=.bool P/\Hid (Pa wr S w0 (.mk xk xb xn xt xl xo) p wx))
       case first=>
        refine wp_region_held_drew (S:=(fun Y=>Y.cell? ⟨w.heap.size,0,none⟩=some (.int .i64 k')/\Y.cell? ⟨w.heap.size,1,none⟩=some (.bool b')/\Y.cell? ⟨w.heap.size,2,none⟩=some (.int .i64 n')/\Y.cell? ⟨w.heap.size,3,none⟩=some (.string t')/\Y.cell? ⟨w.heap.size,4,none⟩=some (.slice la l'.length lc)/\Y.cell? ⟨w.heap.size,5,none⟩=some (.slice oa o'.length oc)/\Y.cell? ⟨g,off+q,none⟩=some (.string s))) (by kernel_rfl) (HSw.out _ (Below.drew (Below.refl _ _))) (fun hHeld=> ?_);have hbd:Below wr.heap.size wr wr.drew:=Below.drew (Below.refl _ _);have hbz:Below wr.heap.size wr (wr.alloc (.cells Aj 39)).drew:=Below.drew ((Below.refl _ _).alloc (Nat.le_refl _) (.cells Aj 39));refine tkH 0 hHeld ?_;refine tkH 1 hHeld ?_;refine tkH 2 hHeld ?_;refine tkH 3 hHeld ?_;refine tkH 4 hHeld ?_;refine wpAnyH_ready (rs:= [5,9]) (by kernel_rfl) (by simp) ?_;refine AllReadyH.cons rfl (fun K hK=> ?_) (AllReadyH.cons rfl (fun K hK=> ?_) AllReadyH.nil)
        ·
         go_simp
         (with_reducible refine(HC.out _ hbd).mono ?_)
         rintro e w7 ⟨hb7,cs7,rfl,hh7⟩;obtain⟨xla,xlc,xoa,xoc,rfl⟩:=Ip hh7;have hbr7:Below wr.heap.size wr w7:=hbd.trans (hb7.mono hbd.size);refine hK.out _ _ (HSw.out _ hbr7) (fun hHeld=> ?_);clear hK K
         try simp only[Act.put,tk1,tk2,tk3,tk4,tk5,tk6]
         refine tkH 6 hHeld ?_;refine tkH 7 hHeld ?_;refine tkH 8 hHeld ?_;refine wpAnyH_ready (rs:= [9]) (by kernel_rfl) (by simp) ?_;refine AllReadyH.cons rfl (fun K hK=> ?_) AllReadyH.nil;go_simp;refine hK.out _ _ (HSw.out _ (hbr7.alloc hbr7.size (.cells Aj 39))) (fun hHeld=> ?_);clear hK K
         try simp only[Act.put,tk1,tk2,tk3,tk4,tk5,tk6]
         refine wpAnyH_ready (rs:= [10]) (by kernel_rfl) (by simp) ?_;refine AllReadyH.cons rfl (fun K hK=> ?_) AllReadyH.nil;go_simp;refine hK.out _ _ (HSw.out _ (hbr7.alloc hbr7.size (.cells #[.int .i64 xk,.bool xb,.int .i64 xn,.string xt,.slice xla xl.length xlc,.slice xoa xo.length xoc] 39))) (fun hHeld=> ?_);clear hK K
         try simp only[Act.put,tk1,tk2,tk3,tk4,tk5,tk6]
         refine tkH 11 hHeld ?_;refine wpAnyH_done (by kernel_rfl) ?_ _;have HF:=Lib.hid (Pa.new hbr7 hh7);clear hHeld hb7 hh7 hbr7 hbz hbd;go_wp2;go_meet;exact⟨rfl,HF⟩
        ·
         go_simp;refine hK.out _ _ (HSw.out _ hbz) (fun hHeld=> ?_);clear hK K
         try simp only[Act.put,tk1,tk2,tk3,tk4,tk5,tk6]
         refine wpAnyH_ready (rs:= [5]) (by kernel_rfl) (by simp) ?_;refine AllReadyH.cons rfl (fun K hK=> ?_) AllReadyH.nil;go_simp
         (with_reducible refine(HC.out _ hbz).mono ?_)
         rintro e w7 ⟨hb7,cs7,rfl,hh7⟩;obtain⟨xla,xlc,xoa,xoc,rfl⟩:=Ip hh7;have hbr7:Below wr.heap.size wr w7:=hbz.trans (hb7.mono hbz.size);refine hK.out _ _ (HSw.out _ hbr7) (fun hHeld=> ?_);clear hK K
         try simp only[Act.put,tk1,tk2,tk3,tk4,tk5,tk6]
         refine tkH 6 hHeld ?_;refine tkH 7 hHeld ?_;refine tkH 8 hHeld ?_;refine wpAnyH_ready (rs:= [10]) (by kernel_rfl) (by simp) ?_;refine AllReadyH.cons rfl (fun K hK=> ?_) AllReadyH.nil;have hxR:An w7 wr.heap.size 39 Aj:=(An.new wr 39 Aj).drew.below hb7 (An.lt (An.new wr 39 Aj).drew);obtain⟨c0,c1,c2,c3,c4,c5⟩:=Ao hxR;have fz:=hxR.frozen;have hRl:=hxR.lt;go_simp;refine hK.out _ _ (HSw.out _ (Ak [.int .i64 xk,.bool xb,.int .i64 xn,.string xt,.slice xla xl.length xlc,.slice xoa xo.length xoc] hbr7 (Nat.le_refl _) (o:=0))) (fun hHeld=> ?_);clear hK K
         try simp only[Act.put,tk1,tk2,tk3,tk4,tk5,tk6]
         refine tkH 11 hHeld ?_;refine wpAnyH_done (by kernel_rfl) ?_ _;have HF:=Lib.hid (Pa.old hbr7 hh7 hxR (Nat.le_refl _));clear c0 c1 c2 c3 c4 c5 fz hxR hHeld hb7 hh7 hbr7 hbz hbd hRl;go_wp2;go_meet;exact⟨rfl,HF⟩
       case rest=>
        obtain⟨rfl,hH⟩:=hcut;have hJ:=Lib.hid (hI.out.has hH.out)
        cases P with
        |false=>
         clear hH HC HSw hI;go_wp2;go_roundw
         case rel=>exact⟨q+1,m,rfl,by go_num,by omega,by omega,hcn',hJ⟩
         case measure=>simp only[intOf];omega
        |true=>
         clear hH HC HSw hI;go_wp2;go_roundw
         case rel=>exact⟨q+1,m+1,by go_num,by go_num,by omega,by omega,hcn',hJ⟩
         case measure=>simp only[intOf];omega
     . obtain rfl:q=opt.length:=by omega
       have hJ:=HJ.out;have hcn2:=hcn.out;rw[List.take_length]at hcn2;rw[hcn2]at hJ;have z5:=hI.out.box.cell 5;have zl:=hI.out.box.lt;have hd:((((all.length+m:Nat):Int))==(o'.length:Int))=decide (all.length+m=(At (.mk k' b' n' t' l' o')).length):=by
        show _=decide (all.length+m=o'.length);rw[Bool.eq_iff_iff];simp only[beq_iff_eq,decide_eq_true_eq];omega
       rw[<-hd]at hJ;have hd1:((all.length+m:Nat):Int)=((all.length+m:Nat):Int):=rfl;obtain⟨M,hM⟩: ∃M,all.length+m=M:=⟨_,rfl⟩;rw[hM]at hJ ⊢;have hbf:=hI.out.below;obtain⟨HJ,Hbf⟩:=hid2 hJ hbf;clear hJ hbf;clear hcn hcn2 hd hd1;go_wp2;go_ret;exact⟨by rw[HJ.out];rfl,Hbf.out⟩
end Go.Proofs.YtackmnbpfbaemaaGreatDoor
