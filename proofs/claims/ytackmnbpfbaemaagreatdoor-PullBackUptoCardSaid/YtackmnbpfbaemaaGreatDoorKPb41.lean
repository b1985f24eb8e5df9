/- Parts, joined: value.Member: a copy of the value of an object's first member of a key. Condition: a bulk of at most 10^8. -/
import Derived.Test.YtackmnbpfbaemaaGreatDoorProg
import Derived.Test.YtackmnbpfbaemaaGreatDoorKPb25
import Derived.Test.YtackmnbpfbaemaaGreatDoorKPb32
import Derived.Test.YtackmnbpfbaemaaGreatDoorKPb38
namespace Go.Proofs.YtackmnbpfbaemaaGreatDoor
open Go Go.RowKit
def MemPost (v:Val) (key:ByteArray) (w:World) (e:Ending) (w':World):Prop:=Below w.heap.size w w'∧
 if kindV v≠6 then e= .returned (.tuple #[.agg zero6, .int .i64 9])else match findO key (objV' v)with
 |none=>e= .returned (.tuple #[.agg zero6, .int .i64 12])
 |some x=> ∃cs:List Value,e= .returned (.tuple #[.agg cs.toArray, .int .i64 0])∧Fresh w.heap.size w' (dV x) cs
structure MI (w:World) (six:Array Value) (wr:World):Prop where
 below:Below w.heap.size w wr
 box:Blk wr w.heap.size 39 six
 res:Blk wr (w.heap.size+1) 39 zero6
theorem MI.alloc {w wr:World} {six:Array Value} (h:MI w six wr) (o:Obj):MI w six (wr.alloc o):=⟨h.below.alloc h.below.size o,h.box.alloc o,h.res.alloc o⟩
theorem MI.call {w wr w':World} {six:Array Value} (h:MI w six wr) (hb:Below wr.heap.size wr w'):MI w six w':=⟨h.below.trans (hb.mono h.below.size),h.box.below hb h.box.lt,h.res.below hb h.res.lt⟩
theorem findO_take {k:ByteArray}: ∀{o:List (ByteArray×Val)} {q:Nat} {p:ByteArray×Val},(∀x ∈ o.take q,x.1≠k)→o[q]? =some p→p.1=k→findO k o=some p.2
 | [],q,p,_,h,_=>by simp at h
 |x::r,0,p,_,h,e=>by
  simp only[List.getElem?_cons_zero,Option.some.injEq]at h
  subst h
  unfold findO
  rw[if_pos e]
 |x::r,q+1,p,ht,h,e=>by
  unfold findO
  rw[if_neg (ht x (by simp))]
  exact findO_take (fun y hy=>ht y (by rw[List.take_succ_cons];exact List.mem_cons_of_mem _ hy)) (by simpa using h) e
theorem findO_all {k:ByteArray} {o:List (ByteArray×Val)} (h: ∀x ∈ o,x.1≠k):findO k o=none:=by
 rw[findO_none]
 intro hm
 obtain⟨p,hp,e⟩:=List.mem_map.1 hm
 exact h p hp e
set_option maxRecDepth 100000 in
set_option maxHeartbeats 8000000 in
theorem member_calls (k':Int) (b':Bool) (n':Int) (t':ByteArray) (l':List Val) (o':List (ByteArray×Val)) (la lc oa oc) (key:ByteArray) (w:World)
 (h:Holds w w.heap.size (dV (.mk k' b' n' t' l' o')) [.int .i64 k', .bool b', .int .i64 n', .string t', .slice la l'.length lc, .slice oa o'.length oc]) (hb:(Val.mk k' b' n' t' l' o').bulk≤100000000):
 Calls Tryz.prog 131 #[.agg #[.int .i64 k', .bool b', .int .i64 n', .string t', .slice la l'.length lc, .slice oa o'.length oc], .string key] w (MemPost (.mk k' b' n' t' l' o') key w):=by
 have hI0:MI w #[.int .i64 k', .bool b', .int .i64 n', .string t', .slice la l'.length lc, .slice oa o'.length oc] ((w.alloc (.cells #[.int .i64 k', .bool b', .int .i64 n', .string t', .slice la l'.length lc, .slice oa o'.length oc] 39)).alloc (.cells zero6 39)):=
  ⟨((Below.refl _ _).alloc (Nat.le_refl _) _).alloc (by simp) _,(Blk.new w _ _).alloc _,by simpa using Blk.new (w.alloc (.cells #[.int .i64 k', .bool b', .int .i64 n', .string t', .slice la l'.length lc, .slice oa o'.length oc] 39)) 39 zero6⟩
 obtain⟨wi,hwi⟩: ∃wi,(w.alloc (.cells #[.int .i64 k', .bool b', .int .i64 n', .string t', .slice la l'.length lc, .slice oa o'.length oc] 39)).alloc (.cells zero6 39)=wi:=⟨_,rfl⟩
 rw[hwi]at hI0
 have hl:o'.length≤100000000:=by
  have h1:=bulkO_len o'
  have h2:bulkO o'≤(Val.mk k' b' n' t' l' o').bulk:=by simp only[Val.bulk];omega
  omega
 by_cases hk:k'=6
 rotate_left
 · have e1:(k' != 6)=true:=by simpa using hk
   have hP: ∀W,Below w.heap.size w W→MemPost (.mk k' b' n' t' l' o') key w (.returned (.tuple #[.agg zero6, .int .i64 9])) W:=fun W hW=>⟨hW,by rw[if_pos (show kindV (.mk k' b' n' t' l' o')≠6 from hk)]⟩
   obtain⟨r0,r1,r2,r3,r4,r5⟩:=vcell hI0.res
   have x0:=hI0.box.cell 0
   have xl:=hI0.box.lt
   have fz:=hI0.res.frozen
   have lt1:=hI0.res.lt
   have HP:=Lib.hid hP
   have HI0:=Lib.hid hI0
   have H:=Lib.hid h
   clear hP hI0 h
   clear hk
   go_enter Tryz.func131,Tryz.ntmps131
   go_upto_region 2 with(fail)
   clear hwi
   repeat go_step
   have hxf:=(((((HI0.out.res.set_ 0 (.int .i64 0)).set_ 1 (.bool false)).set_ 2 (.int .i64 0)).set_ 3 (.string ⟨#[]⟩)).set_ 4 (.slice none 0 0)).set_ 5 (.slice none 0 0)
   have hbf:=setMany_below [.int .i64 0, .bool false, .int .i64 0, .string ⟨#[]⟩, .slice none 0 0, .slice none 0 0] HI0.out.below (Nat.le_succ w.heap.size) (o:=0)
   exact bodyPost_ret (results_cell6_t rfl rfl hxf) rfl (HP.out _ hbf)
 subst hk
 have y0:=hI0.box.cell 0
 have y5:=hI0.box.cell 5
 have yl:=hI0.box.lt
 have hs0: ∀p ∈ o'.take 0,p.1≠key:=by simp
 have HI0:=Lib.hid hI0
 have H:=Lib.hid h
 have Hs0:=Lib.hid hs0
 clear hI0 h hs0
 go_enter Tryz.func131,Tryz.ntmps131
 go_upto_region 1 with(fail)
 clear hwi
 go_wp2_with (fail)
 go_loopw [15] (fun i wr=> ∃q:Nat,i= .int .i64 q∧q≤o'.length∧Hid (∀p ∈ o'.take q,p.1≠key)∧Hid (MI w #[.int .i64 6, .bool b', .int .i64 n', .string t', .slice la l'.length lc, .slice oa o'.length oc] wr)) (fun i _=>o'.length - (intOf i).toNat)
 case atStart=>exact⟨0,rfl,Nat.zero_le _,Hs0,HI0⟩
 case round=>
  obtain⟨q,rfl,hq,hin,hI⟩:=hrel
  clear HI0 Hs0
  have hq0:(0:Int)≤q:=by omega
  by_cases hlt:q<o'.length
  · obtain⟨p,hp⟩: ∃p,o'[q]? =some p:=⟨_,List.getElem?_eq_getElem (by omega)⟩
    obtain⟨pkey,⟨pk,pb,pn,pt,pl,po⟩⟩:=p
    have hz:=hI.out.below.size
    have hbm:(Val.mk pk pb pn pt pl po).bulk≤100000000:=by
     have h1:=bulkO_mem (List.mem_of_getElem? hp)
     have h2:bulkO o'≤(Val.mk 6 b' n' t' l' o').bulk:=by simp only[Val.bulk];omega
     simp only at h1
     omega
    obtain⟨g,off,rfl,hg,pla,plc,poa,poc,hv,c0,c1,c2,c3,c4,c5,c6⟩:=memP_at (obj_row ((H.out.below hI.out.below).more hz)) hp
    have hq1:(q:Int)<(o'.length:Int):=by omega
    have hIa:=hI.out.alloc (.cells #[.string pkey, .int .i64 pk, .bool pb, .int .i64 pn, .string pt, .slice pla pl.length plc, .slice poa po.length poc] 63)
    have hmb:=Blk.new wr 63 #[.string pkey, .int .i64 pk, .bool pb, .int .i64 pn, .string pt, .slice pla pl.length plc, .slice poa po.length poc]
    have htk:o'.take (q+1)=o'.take q++ [(pkey, .mk pk pb pn pt pl po)]:=by rw[List.take_add_one,hp];simp
    by_cases hkk:pkey=key
    · subst hkk
      have e1:(pkey.toList==pkey.toList)=true:=by simp
      have e2:(pkey==pkey)=true:=by rw[ba_beq];simp
      have hfind:=findO_take (o:=o') hin.out hp rfl
      have hC:=vcopy_calls _ _ (wr.alloc (.cells #[.string pkey, .int .i64 pk, .bool pb, .int .i64 pn, .string pt, .slice pla pl.length plc, .slice poa po.length poc] 63)) (holdsV_of _ _ (hv.later (alloc_below _ _))) hbm
      have hsz:wr.heap.size≤(wr.alloc (.cells #[.string pkey, .int .i64 pk, .bool pb, .int .i64 pn, .string pt, .slice pla pl.length plc, .slice poa po.length poc] 63)).heap.size:=by simp
      have HIa:=Lib.hid hIa
      have Hmb:=Lib.hid hmb
      have Hv:=Lib.hid hv
      have Hp:=Lib.hid hp
      have Htk:=Lib.hid htk
      have Hfind:=Lib.hid hfind
      have HC:=Lib.hid hC
      have Hsz:=Lib.hid hsz
      clear hIa hmb hv hp htk hfind hC hsz
      clear hI hin
      go_wp2_with (fail)
      with_reducible refine(HC.out).mono ?_
      rintro e w4 ⟨⟨cs4,rfl,hl4,hf4⟩,hb4⟩
      obtain⟨xla,xlc,xoa,xoc,rfl⟩:=six_now hf4
      have hI4:=HIa.out.call hb4
      obtain⟨r0,r1,r2,r3,r4,r5⟩:=vcell hI4.res
      have fz:=hI4.res.frozen
      have lt1:=hI4.res.lt
      have hsz4:=hb4.size
      have hlow:=HIa.out.res.lt
      have HI4:=Lib.hid hI4
      have Hf4:=Lib.hid hf4
      have Hb4:=Lib.hid hb4
      clear hI4 hf4 hb4
      dsimp only
      repeat go_step
      have hxf:=(((((HI4.out.res.set_ 0 (.int .i64 pk)).set_ 1 (.bool pb)).set_ 2 (.int .i64 pn)).set_ 3 (.string pt)).set_ 4 (.slice xla pl.length xlc)).set_ 5 (.slice xoa po.length xoc)
      have hbf:=setMany_below [.int .i64 pk, .bool pb, .int .i64 pn, .string pt, .slice xla pl.length xlc, .slice xoa po.length xoc] HI4.out.below (Nat.le_succ w.heap.size) (o:=0)
      have hff:=Hf4.out.keep (b':=w.heap.size) (w':=setMany w4 (w.heap.size+1) 0 [.int .i64 pk, .bool pb, .int .i64 pn, .string pt, .slice xla pl.length xlc, .slice xoa po.length xoc]) (by have:=Hsz.out;omega) (by rw[setMany_size];exact Nat.le_refl _) (fun p p1 _=>World.cell?_of_block (setMany_far _ _ _ _ _ (by omega)))
      refine bodyPost_ret (results_cell6_t rfl rfl hxf) rfl ⟨hbf, ?_⟩
      rw[if_neg (show ¬kindV (.mk 6 b' n' t' l' o')≠6 from fun h=>h rfl)]
      show match findO pkey o' with|none=>_|some x=>_
      rw[Hfind.out]
      exact⟨_,rfl,hff⟩
    · have e1:(pkey.toList==key.toList)=false:=by
       rw[ba_eq_of]
       simp only[decide_eq_false_iff_not]
       intro e
       apply hkk
       obtain⟨⟨a⟩⟩:=pkey
       obtain⟨⟨b⟩⟩:=key
       simpa[ByteArray.toList_eq]using e
      have e2:(pkey==key)=false:=by rw[ba_beq];simp[hkk]
      have hin':Hid (∀p ∈ o'.take (q+1),p.1≠key):=by
       refine Lib.hid ?_
       rw[htk]
       intro p hp
       rcases List.mem_append.1 hp with h|h
       · exact hin.out p h
       · obtain rfl:=List.mem_singleton.1 h
         exact hkk
      have HIa:=Lib.hid hIa
      have Hmb:=Lib.hid hmb
      have Hv:=Lib.hid hv
      have Hp:=Lib.hid hp
      have Htk:=Lib.hid htk
      clear hIa hmb hv hp htk
      clear hI hin hkk
      go_wp2
      go_roundw
      case rel=>exact⟨q+1,by go_num,by omega,hin',HIa⟩
      case measure=>simp only[intOf];omega
  · obtain rfl:q=o'.length:=by omega
    have hnone:=findO_all (k:=key) (o:=o') (by
     have:=hin.out
     rwa [List.take_length]at this)
    obtain⟨r0,r1,r2,r3,r4,r5⟩:=vcell hI.out.res
    have fz:=hI.out.res.frozen
    have lt1:=hI.out.res.lt
    have Hnone:=Lib.hid hnone
    clear hnone
    clear hin
    go_upto_region 9 with(fail)
    repeat go_step
    have hxf:=(((((hI.out.res.set_ 0 (.int .i64 0)).set_ 1 (.bool false)).set_ 2 (.int .i64 0)).set_ 3 (.string ⟨#[]⟩)).set_ 4 (.slice none 0 0)).set_ 5 (.slice none 0 0)
    have hbf:=setMany_below [.int .i64 0, .bool false, .int .i64 0, .string ⟨#[]⟩, .slice none 0 0, .slice none 0 0] hI.out.below (Nat.le_succ w.heap.size) (o:=0)
    refine bodyPost_ret (results_cell6_t rfl rfl hxf) rfl ⟨hbf, ?_⟩
    rw[if_neg (show ¬kindV (.mk 6 b' n' t' l' o')≠6 from fun h=>h rfl)]
    show match findO key o' with|none=>_|some x=>_
    rw[Hnone.out]
    rfl
end Go.Proofs.YtackmnbpfbaemaaGreatDoor
