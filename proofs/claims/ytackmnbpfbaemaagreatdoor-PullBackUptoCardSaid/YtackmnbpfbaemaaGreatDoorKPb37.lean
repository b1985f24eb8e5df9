/- Parts, joined: patch.object: the object of an op that may be. Condition: a bulk of at most 5 * 10^7. patch.List: the list of a patch. Condition: a bulk of at most 5 * 10^7. commonplacelaw18.answer: an answer in memory of its own. Condition: a bulk of at most 10^8. -/
import Derived.Test.YtackmnbpfbaemaaGreatDoorProg
import Derived.Deep.RegionLaw
import Derived.Deep.RegionHeld3
import Derived.Test.YtackmnbpfbaemaaGreatDoorKPb8
import Derived.Test.YtackmnbpfbaemaaGreatDoorKPb11
import Derived.Test.YtackmnbpfbaemaaGreatDoorKPb25
import Derived.Test.YtackmnbpfbaemaaGreatDoorKPb26
import Derived.Test.YtackmnbpfbaemaaGreatDoorKPb31
import Derived.Test.YtackmnbpfbaemaaGreatDoorKPb34
namespace Go.Proofs.YtackmnbpfbaemaaGreatDoor
open Go Go.RowKit
def Names (w:World):Prop:=w.cell? ⟨0,1,none⟩=some (.string sPut)∧w.cell? ⟨0,2,none⟩=some (.string sDel)∧w.cell? ⟨0,3,none⟩=some (.string sClear)∧0<w.heap.size
theorem Names.below {w w':World} (h:Names w) (hb:Below w.heap.size w w'):Names w':=
 ⟨(hb.cell h.2.2.2).trans h.1,(hb.cell h.2.2.2).trans h.2.1,(hb.cell h.2.2.2).trans h.2.2.1,Nat.lt_of_lt_of_le h.2.2.2 hb.size⟩
theorem clear_obj:objAll [(kOp,tv sClear)] []=some [(kOp,tv sClear)]:=by rfl
theorem del_obj (key:ByteArray):objAll [(kOp,tv sDel),(kKey,tv key)] []=some [(kKey,tv key),(kOp,tv sDel)]:=by kernel_rfl
theorem put_obj (key:ByteArray) (v:Val):objAll [(kOp,tv sPut),(kVal,v),(kKey,tv key)] []=some [(kKey,tv key),(kOp,tv sPut),(kVal,v)]:=by kernel_rfl
set_option maxRecDepth 100000 in
set_option maxHeartbeats 2000000 in
theorem obj_clear (key:ByteArray) (c0:Int) (c1:Bool) (c2:Int) (c3:ByteArray) (c4a c5a:Option Addr) (c4n c4c c5n c5c:Nat) (w:World) (hN:Names w):
 Calls Tryz.prog 68 #[.agg #[.int .i64 3, .string key, .int .i64 c0, .bool c1, .int .i64 c2, .string c3, .slice c4a c4n c4c, .slice c5a c5n c5c]] w (MadePost [(kOp,tv sClear)] w):=by
 obtain⟨n1,n2,n3,n4⟩:=hN
 have hO:=fun(W:World) a n c h=>vobj_ok [(kOp,tv sClear)] _ a n c W h (by decide) clear_obj
 have hX:=fun W=>textual_calls sClear W
 have hR:=fun(W:World)=>op_row W sClear
 have HO:=Lib.hid hO
 have HX:=Lib.hid hX
 have HR:=Lib.hid hR
 clear hO hX hR
 go_enter Tryz.func68,Tryz.ntmps68
 go_wp2_with (first
  |(go_at_call 99;(with_reducible refine(HX.out _).mono ?_);rintro e w1 ⟨rfl,hb1⟩;obtain⟨hc1,hf1⟩:=bcell hb1;obtain⟨hz0,hz1⟩:=size3 hb1)
  |(fail))
 with_reducible refine(HO.out _ _ _ _ (HR.out w1).now).mono ?_
 rintro e w2 ⟨hb2,la,lc,oa,oc,rfl,hf2⟩
 have hz2:w1.heap.size<w2.heap.size:=by have:=hb2.size;simp at this;omega
 have hz4:w.heap.size+1<w2.heap.size:=by omega
 have hx2:=res_box hb1 hb2
 obtain⟨r0,r1,r2,r3,r4,r5⟩:=vcell hx2
 have fz:=hx2.frozen
 have Hx2:=Lib.hid hx2
 have Hb1:=Lib.hid hb1
 have Hb2:=Lib.hid hb2
 have Hf2:=Lib.hid hf2
 clear hx2 hb1 hb2 hf2
 clear hc1 hf1 n1 n2 n3 n4 HO HX HR
 go_upto_region 8 with(fail)
 repeat go_step
 have hB2:Below w.heap.size w w2:=(((((Below.refl w.heap.size w).alloc (Nat.le_refl _) _).alloc (by simp) _).trans (Hb1.out.mono (by simp;omega))).alloc (by omega) _).trans (Hb2.out.mono (by simp;omega))
 obtain⟨q1,q2⟩:=fin_res (R:=w.heap.size+1) (o:= .cells #[.int .i64 6, .bool false, .int .i64 0, .string ⟨#[]⟩, .slice la 0 lc, .slice oa 1 oc] 39) [.int .i64 6, .bool false, .int .i64 0, .string ⟨#[]⟩, .slice la 0 lc, .slice oa 1 oc] hB2 (by omega) (by omega) (by simp;omega) Hf2.out
 have hxf:=((((((Hx2.out.set_ 0 (.int .i64 6)).set_ 1 (.bool false)).set_ 2 (.int .i64 0)).set_ 3 (.string ⟨#[]⟩)).set_ 4 (.slice la 0 lc)).set_ 5 (.slice oa 1 oc)).alloc (.cells #[.int .i64 6, .bool false, .int .i64 0, .string ⟨#[]⟩, .slice la 0 lc, .slice oa 1 oc] 39)
 exact bodyPost_ret (results_cell6 rfl rfl hxf) rfl ⟨q1,la,lc,oa,oc,rfl,q2⟩
set_option maxRecDepth 100000 in
set_option maxHeartbeats 2000000 in
theorem obj_del (key:ByteArray) (hkey:key.size≤1000) (c0:Int) (c1:Bool) (c2:Int) (c3:ByteArray) (c4a c5a:Option Addr) (c4n c4c c5n c5c:Nat) (w:World) (hN:Names w):
 Calls Tryz.prog 68 #[.agg #[.int .i64 2, .string key, .int .i64 c0, .bool c1, .int .i64 c2, .string c3, .slice c4a c4n c4c, .slice c5a c5n c5c]] w (MadePost [(kKey,tv key),(kOp,tv sDel)] w):=by
 obtain⟨n1,n2,n3,n4⟩:=hN
 obtain⟨j0,hj,hy0,hy1,hy2⟩:=info_parts mem_info
 have hO:=fun(W:World) a n c h=>vobj_ok [(kOp,tv sDel),(kKey,tv key)] _ a n c W h (by have e1:nil0.size=0:=rfl;have e2:kKey.size=3:=rfl;have e3:kOp.size=2:=rfl;have e6:sDel.size=3:=rfl;simp only[bulkO,bulkP,tv,Val.bulk,bulkL,e2,e3,e6];omega) (del_obj key)
 have hX:=fun W=>textual_calls sDel W
 have hY:=fun W=>textual_calls key W
 have hR:=fun(W:World)=>op_row W sDel
 have HO:=Lib.hid hO
 have HX:=Lib.hid hX
 have HR:=Lib.hid hR
 have Hj:=Lib.hid hj
 have Hy0:=Lib.hid hy0
 have Hy1:=Lib.hid hy1
 have Hy2:=Lib.hid hy2
 have HY:=Lib.hid hY
 clear hO hX hR hj hy0 hy1 hy2 hY
 go_enter Tryz.func68,Tryz.ntmps68
 go_wp2_with (first
  |(go_at_call 99;(with_reducible refine(HX.out _).mono ?_);rintro e w1 ⟨rfl,hb1⟩;obtain⟨hc1,hf1⟩:=bcell hb1;obtain⟨hz0,hz1⟩:=size3 hb1;have HXd:=HX;clear HX)
  |(fail))
 have hq2:=below_two w (.cells #[.int .i64 2, .string key, .int .i64 c0, .bool c1, .int .i64 c2, .string c3, .slice c4a c4n c4c, .slice c5a c5n c5c] 67) (.cells zero6 39)
 have hx1:Blk (w1.alloc (.cells #[.string kOp, .int .i64 4, .bool false, .int .i64 0, .string sDel, .slice none 0 0, .slice none 0 0] 63)) (w.heap.size+1) 39 zero6:=res_box (w1:=w1) hb1 (Below.refl _ _)
 have hw1:Below w.heap.size w (w1.alloc (.cells #[.string kOp, .int .i64 4, .bool false, .int .i64 0, .string sDel, .slice none 0 0, .slice none 0 0] 63)):=(hq2.trans (hb1.mono hq2.size)).alloc (by omega) _
 have Hq2:=Lib.hid hq2
 have Hx1:=Lib.hid hx1
 have Hw1:=Lib.hid hw1
 have Hb1:=Lib.hid hb1
 clear hq2 hx1 hw1 hb1
 go_at_call 99
 with_reducible refine(HY.out _).mono ?_
 rintro e w2 ⟨rfl,hb2⟩
 have hs2:w1.heap.size+1≤w2.heap.size:=by have:=hb2.size;simpa using this
 have hx2:=(Hx1.out.below hb2 Hx1.out.lt).alloc (.cells #[.string kKey, .int .i64 4, .bool false, .int .i64 0, .string key, .slice none 0 0, .slice none 0 0] 63)
 have hw2:=(Hw1.out.trans (hb2.mono Hw1.out.size)).alloc (by omega) (.cells #[.string kKey, .int .i64 4, .bool false, .int .i64 0, .string key, .slice none 0 0, .slice none 0 0] 63)
 have hbe:=hb2.alloc hb2.size (.cells #[.string kKey, .int .i64 4, .bool false, .int .i64 0, .string key, .slice none 0 0, .slice none 0 0] 63)
 have Hx2:=Lib.hid hx2
 have Hw2:=Lib.hid hw2
 have Hb2:=Lib.hid hb2
 have Hbe:=Lib.hid hbe
 clear hx2 hw2 hb2 hbe
 clear hc1 hf1 n1 n2 n3
 go_wp2_with (at_builtin;refine wpList_append_D (V:= .slice (some ⟨w1.heap.size,0,none⟩) 1 1) rfl (.tmp 26) (.tmp 31) 37 rfl Tryz.underlying37 Hj.out Hy0.out Hy1.out Hy2.out rfl (by omega) rfl (HR.out w1) (by simp) Hbe.out (dP_cells (kKey,tv key)) (fresh_tvP _ _ kKey key) rfl (reads_seven w2 _ _ _ _ _ _ _) (by simp[maxLen,dO]) (by simp[dO]) ?_;intro V6 w6 hrow6 hg6 hat6)
 have hx6:=blk_app Hx2.out hg6 (HR.out w1) (by omega)
 have hw6:=below_app Hw2.out hg6 (HR.out w1) (by omega) (by simp;omega)
 obtain⟨a6,c6,rfl⟩:=hrow6.slice_n (n:=2) rfl
 have hN6:Holds w6 w6.heap.size (.row 7 (dO [(kOp,tv sDel),(kKey,tv key)])) [.slice a6 2 c6]:=RowD.now (l:=dO [(kOp,tv sDel),(kKey,tv key)]) hrow6
 have hs6:w2.heap.size+1≤w6.heap.size:=by have:=hg6.size;simpa using this
 have Hx6:=Lib.hid hx6
 have Hw6:=Lib.hid hw6
 have HN6:=Lib.hid hN6
 clear hx6 hw6 hN6
 clear hrow6 hg6 hat6
 with_reducible refine(HO.out _ _ _ _ HN6.out).mono ?_
 rintro e w7 ⟨hb7,la,lc,oa,oc,rfl,hf7⟩
 have hs7:=hb7.size
 have hz4:w.heap.size+1<w7.heap.size:=by omega
 have hx7:=Hx6.out.below hb7 Hx6.out.lt
 obtain⟨r0,r1,r2,r3,r4,r5⟩:=vcell hx7
 have fz:=hx7.frozen
 have Hx7:=Lib.hid hx7
 have Hb7:=Lib.hid hb7
 have Hf7:=Lib.hid hf7
 clear hx7 hb7 hf7
 clear n4 HO HXd HR HY
 go_upto_region 8 with(fail)
 repeat go_step
 have hB2:=Hw6.out.trans (Hb7.out.mono Hw6.out.size)
 obtain⟨q1,q2⟩:=fin_res (R:=w.heap.size+1) (o:= .cells #[.int .i64 6, .bool false, .int .i64 0, .string ⟨#[]⟩, .slice la 0 lc, .slice oa 2 oc] 39) [.int .i64 6, .bool false, .int .i64 0, .string ⟨#[]⟩, .slice la 0 lc, .slice oa 2 oc] hB2 (by omega) (by omega) (by omega) Hf7.out
 have hxf:=((((((Hx7.out.set_ 0 (.int .i64 6)).set_ 1 (.bool false)).set_ 2 (.int .i64 0)).set_ 3 (.string ⟨#[]⟩)).set_ 4 (.slice la 0 lc)).set_ 5 (.slice oa 2 oc)).alloc (.cells #[.int .i64 6, .bool false, .int .i64 0, .string ⟨#[]⟩, .slice la 0 lc, .slice oa 2 oc] 39)
 exact bodyPost_ret (results_cell6 rfl rfl hxf) rfl ⟨q1,la,lc,oa,oc,rfl,q2⟩
theorem op_box {w w1:World} {cs:Array Value} {o' o'':Obj} (hb1:Below ((w.alloc (.cells cs 67)).alloc o').heap.size ((w.alloc (.cells cs 67)).alloc o') w1):Blk (w1.alloc o'') w.heap.size 67 cs:=by
 have h0:Blk ((w.alloc (.cells cs 67)).alloc o') w.heap.size 67 cs:=(Blk.new _ _ _).alloc _
 exact(h0.below hb1 h0.lt).alloc _
set_option maxRecDepth 100000 in
set_option maxHeartbeats 4000000 in
theorem obj_put (key:ByteArray) (hkey:key.size≤1000) (k':Int) (b':Bool) (n':Int) (t':ByteArray) (l':List Val) (o':List (ByteArray×Val)) (la' oa':Option Addr) (lc' oc':Nat) (w:World) (hN:Names w)
 (hv:HoldsV w w.heap.size (.mk k' b' n' t' l' o') [.int .i64 k', .bool b', .int .i64 n', .string t', .slice la' l'.length lc', .slice oa' o'.length oc']) (hb:(Val.mk k' b' n' t' l' o').bulk≤80000000):
 Calls Tryz.prog 68 #[.agg #[.int .i64 1, .string key, .int .i64 k', .bool b', .int .i64 n', .string t', .slice la' l'.length lc', .slice oa' o'.length oc']] w (MadePost [(kKey,tv key),(kOp,tv sPut),(kVal, .mk k' b' n' t' l' o')] w):=by
 obtain⟨n1,n2,n3,n4⟩:=hN
 obtain⟨j0,hj,hy0,hy1,hy2⟩:=info_parts mem_info
 have hO:=fun(W:World) a n c h=>vobj_ok [(kOp,tv sPut),(kVal, .mk k' b' n' t' l' o'),(kKey,tv key)] _ a n c W h (by
  have e1:nil0.size=0:=rfl
  have e2:kKey.size=3:=rfl
  have e3:kOp.size=2:=rfl
  have e4:kVal.size=5:=rfl
  have e6:sPut.size=3:=rfl
  have e7:(tv sPut).bulk=9:=rfl
  have e8:(tv key).bulk=6+key.size:=by simp[tv,Val.bulk,bulkL,bulkO]
  simp only[bulkO,bulkP,e2,e3,e4,e7,e8]
  omega) (put_obj key _)
 have hX:=fun W=>textual_calls sPut W
 have hY:=fun W=>textual_calls key W
 have hR:=fun(W:World)=>op_row W sPut
 have hVC: ∀W,Below w.heap.size w W→Calls Tryz.prog 72 #[.agg #[.int .i64 k', .bool b', .int .i64 n', .string t', .slice la' l'.length lc', .slice oa' o'.length oc']] W fun e w'=>Below W.heap.size W w'∧ ∃la2 lc2 oa2 oc2,e= .returned (.agg #[.int .i64 k', .bool b', .int .i64 n', .string t', .slice la2 l'.length lc2, .slice oa2 o'.length oc2])∧Fresh W.heap.size w' (dV (.mk k' b' n' t' l' o')) [.int .i64 k', .bool b', .int .i64 n', .string t', .slice la2 l'.length lc2, .slice oa2 o'.length oc2]:=by
  intro W hW
  refine(vcopy_calls _ _ W (HoldsV.more hW.size _ _ (hv.below hW)) (by omega)).mono ?_
  rintro e w' ⟨⟨cs,rfl,hl,hf⟩,hb'⟩
  have hh:=holdsV_of _ _ hf.now
  simp only[HoldsV]at hh
  obtain⟨la2,lc2,oa2,oc2,rfl,_,_⟩:=hh
  exact⟨hb',la2,lc2,oa2,oc2,rfl,hf⟩
 have HO:=Lib.hid hO
 have HX:=Lib.hid hX
 have HR:=Lib.hid hR
 have Hj:=Lib.hid hj
 have Hy0:=Lib.hid hy0
 have Hy1:=Lib.hid hy1
 have Hy2:=Lib.hid hy2
 have HY:=Lib.hid hY
 have HVC:=Lib.hid hVC
 have Hv:=Lib.hid hv
 clear hO hX hR hj hy0 hy1 hy2 hY hVC hv
 go_enter Tryz.func68,Tryz.ntmps68
 go_wp2_with (first
  |(go_at_call 99;(with_reducible refine(HX.out _).mono ?_);rintro e w1 ⟨rfl,hb1⟩;obtain⟨hc1,hf1⟩:=bcell hb1;obtain⟨hz0,hz1⟩:=size3 hb1;have HXd:=HX;clear HX)
  |(fail))
 have hq2:=below_two w (.cells #[.int .i64 1, .string key, .int .i64 k', .bool b', .int .i64 n', .string t', .slice la' l'.length lc', .slice oa' o'.length oc'] 67) (.cells zero6 39)
 have hx1:Blk (w1.alloc (.cells #[.string kOp, .int .i64 4, .bool false, .int .i64 0, .string sPut, .slice none 0 0, .slice none 0 0] 63)) (w.heap.size+1) 39 zero6:=res_box (w1:=w1) hb1 (Below.refl _ _)
 have ho1:Blk (w1.alloc (.cells #[.string kOp, .int .i64 4, .bool false, .int .i64 0, .string sPut, .slice none 0 0, .slice none 0 0] 63)) w.heap.size 67 #[.int .i64 1, .string key, .int .i64 k', .bool b', .int .i64 n', .string t', .slice la' l'.length lc', .slice oa' o'.length oc']:=op_box hb1
 have hw1:Below w.heap.size w (w1.alloc (.cells #[.string kOp, .int .i64 4, .bool false, .int .i64 0, .string sPut, .slice none 0 0, .slice none 0 0] 63)):=(hq2.trans (hb1.mono hq2.size)).alloc (by omega) _
 have Hq2:=Lib.hid hq2
 have Hx1:=Lib.hid hx1
 have Hw1:=Lib.hid hw1
 have Hb1:=Lib.hid hb1
 have Ho1:=Lib.hid ho1
 clear hq2 hx1 hw1 hb1 ho1
 go_at_call 72
 with_reducible refine(HVC.out _ Hw1.out).mono ?_
 rintro e w2 ⟨hb2,la2,lc2,oa2,oc2,rfl,hf2⟩
 have hs2:w1.heap.size+1≤w2.heap.size:=by have:=hb2.size;simpa using this
 have hx2:=(Hx1.out.below hb2 Hx1.out.lt).alloc (.cells #[.string kVal, .int .i64 k', .bool b', .int .i64 n', .string t', .slice la2 l'.length lc2, .slice oa2 o'.length oc2] 63)
 have ho2:=(Ho1.out.below hb2 Ho1.out.lt).alloc (.cells #[.string kVal, .int .i64 k', .bool b', .int .i64 n', .string t', .slice la2 l'.length lc2, .slice oa2 o'.length oc2] 63)
 have hw2:=(Hw1.out.trans (hb2.mono Hw1.out.size)).alloc (by omega) (.cells #[.string kVal, .int .i64 k', .bool b', .int .i64 n', .string t', .slice la2 l'.length lc2, .slice oa2 o'.length oc2] 63)
 have hbe:=hb2.alloc hb2.size (.cells #[.string kVal, .int .i64 k', .bool b', .int .i64 n', .string t', .slice la2 l'.length lc2, .slice oa2 o'.length oc2] 63)
 have hfe:=(dP_fresh (key:=kVal) hf2).later (alloc_below w2 (.cells #[.string kVal, .int .i64 k', .bool b', .int .i64 n', .string t', .slice la2 l'.length lc2, .slice oa2 o'.length oc2] 63))
 have Hx2:=Lib.hid hx2
 have Hw2:=Lib.hid hw2
 have Hb2:=Lib.hid hb2
 have Hbe:=Lib.hid hbe
 have Ho2:=Lib.hid ho2
 have Hf2:=Lib.hid hf2
 have Hfe:=Lib.hid hfe
 clear hx2 hw2 hb2 hbe ho2 hf2 hfe
 clear hc1 hf1 n1 n2 n3
 go_wp2_with (at_builtin;refine wpList_append_D (V:= .slice (some ⟨w1.heap.size,0,none⟩) 1 1) rfl (.tmp 19) (.tmp 24) 37 rfl Tryz.underlying37 Hj.out Hy0.out Hy1.out Hy2.out rfl (by omega) rfl (HR.out w1) (by simp) Hbe.out (dP_cells (kVal, .mk k' b' n' t' l' o')) Hfe.out rfl (reads_seven w2 _ _ _ _ _ _ _) (by simp[maxLen,dO]) (by simp[dO]) ?_;intro V6 w6 hrow6 hg6 hat6;obtain⟨_,e6,_⟩:=ocell (blk_app Ho2.out hg6 (HR.out w1) (by omega)))
 have hx6:=blk_app Hx2.out hg6 (HR.out w1) (by omega)
 have hw6:=below_app Hw2.out hg6 (HR.out w1) (by omega) (by simp;omega)
 have hs6:w2.heap.size+1≤w6.heap.size:=by have:=hg6.size;simpa using this
 have Hx6:=Lib.hid hx6
 have Hw6:=Lib.hid hw6
 have Hrow6:=Lib.hid hrow6
 have Hg6:=Lib.hid hg6
 have Hat6:=Lib.hid hat6
 clear hx6 hw6 hrow6 hg6 hat6
 go_at_call 99
 with_reducible refine(HY.out _).mono ?_
 rintro e w7 ⟨rfl,hb7⟩
 have hs7:=hb7.size
 have hx7:=(Hx6.out.below hb7 Hx6.out.lt).alloc (.cells #[.string kKey, .int .i64 4, .bool false, .int .i64 0, .string key, .slice none 0 0, .slice none 0 0] 63)
 have hw7:=(Hw6.out.trans (hb7.mono Hw6.out.size)).alloc (by omega) (.cells #[.string kKey, .int .i64 4, .bool false, .int .i64 0, .string key, .slice none 0 0, .slice none 0 0] 63)
 have hbe7:=hb7.alloc hb7.size (.cells #[.string kKey, .int .i64 4, .bool false, .int .i64 0, .string key, .slice none 0 0, .slice none 0 0] 63)
 have Hx7:=Lib.hid hx7
 have Hw7:=Lib.hid hw7
 have Hb7:=Lib.hid hb7
 have Hbe7:=Lib.hid hbe7
 clear hx7 hw7 hb7 hbe7
 go_wp2_with (at_builtin;refine wpList_append_D (V:=V6) rfl (.tmp 26) (.tmp 31) 37 rfl Tryz.underlying37 Hj.out Hy0.out Hy1.out Hy2.out rfl (by omega) rfl Hrow6.out (by omega) Hbe7.out (dP_cells (kKey,tv key)) (fresh_tvP _ _ kKey key) rfl (reads_seven w7 _ _ _ _ _ _ _) (by simp[maxLen,dO]) (by simp[dO]) ?_;intro V9 w9 hrow9 hg9 hat9)
 have hx9:=blk_app Hx7.out hg9 Hrow6.out (by omega)
 have hw9:=below_app Hw7.out hg9 Hrow6.out (by omega) (by simp;omega)
 have hs9:w7.heap.size+1≤w9.heap.size:=by have:=hg9.size;simpa using this
 obtain⟨a9,c9,rfl⟩:=hrow9.slice_n (n:=3) rfl
 have hN9:Holds w9 w9.heap.size (.row 7 (dO [(kOp,tv sPut),(kVal, .mk k' b' n' t' l' o'),(kKey,tv key)])) [.slice a9 3 c9]:=RowD.now (l:=dO [(kOp,tv sPut),(kVal, .mk k' b' n' t' l' o'),(kKey,tv key)]) hrow9
 have Hx9:=Lib.hid hx9
 have Hw9:=Lib.hid hw9
 have HN9:=Lib.hid hN9
 clear hx9 hw9 hN9
 clear hrow9 hg9 hat9
 with_reducible refine(HO.out _ _ _ _ HN9.out).mono ?_
 rintro e wa ⟨hba,la,lc,oa,oc,rfl,hfa⟩
 have hsa:=hba.size
 have hz4:w.heap.size+1<wa.heap.size:=by omega
 have hxa:=Hx9.out.below hba Hx9.out.lt
 obtain⟨r0,r1,r2,r3,r4,r5⟩:=vcell hxa
 have fz:=hxa.frozen
 have Hxa:=Lib.hid hxa
 have Hba:=Lib.hid hba
 have Hfa:=Lib.hid hfa
 clear hxa hba hfa
 clear n4 HO HXd HR HY HVC e6
 go_upto_region 8 with(fail)
 repeat go_step
 have hB2:=Hw9.out.trans (Hba.out.mono Hw9.out.size)
 obtain⟨q1,q2⟩:=fin_res (R:=w.heap.size+1) (o:= .cells #[.int .i64 6, .bool false, .int .i64 0, .string ⟨#[]⟩, .slice la 0 lc, .slice oa 3 oc] 39) [.int .i64 6, .bool false, .int .i64 0, .string ⟨#[]⟩, .slice la 0 lc, .slice oa 3 oc] hB2 (by omega) (by omega) (by omega) Hfa.out
 have hxf:=((((((Hxa.out.set_ 0 (.int .i64 6)).set_ 1 (.bool false)).set_ 2 (.int .i64 0)).set_ 3 (.string ⟨#[]⟩)).set_ 4 (.slice la 0 lc)).set_ 5 (.slice oa 3 oc)).alloc (.cells #[.int .i64 6, .bool false, .int .i64 0, .string ⟨#[]⟩, .slice la 0 lc, .slice oa 3 oc] 39)
 exact bodyPost_ret (results_cell6 rfl rfl hxf) rfl ⟨q1,la,lc,oa,oc,rfl,q2⟩
end Go.Proofs.YtackmnbpfbaemaaGreatDoor

namespace Go.Proofs.YtackmnbpfbaemaaGreatDoor
open Go Go.RowKit
def objO (p:POp):List (ByteArray×Val):=if p.k=1 then [(kKey,tv p.key),(kOp,tv sPut),(kVal,p.v)]else if p.k=2 then [(kKey,tv p.key),(kOp,tv sDel)]else [(kOp,tv sClear)]
theorem keyB_size {k:ByteArray} (h:keyB k=true):k.size≤64:=by
 unfold keyB at h
 simp only[Bool.and_eq_true,decide_eq_true_eq]at h
 exact h.2.1
theorem obj_calls (k:Int) (key:ByteArray) (k':Int) (b':Bool) (n':Int) (t':ByteArray) (l':List Val) (o':List (ByteArray×Val)) (la' oa':Option Addr) (lc' oc':Nat) (w:World) (hok:okQ ⟨k,key, .mk k' b' n' t' l' o'⟩) (hN:Names w)
 (hv:HoldsV w w.heap.size (.mk k' b' n' t' l' o') [.int .i64 k', .bool b', .int .i64 n', .string t', .slice la' l'.length lc', .slice oa' o'.length oc']) (hb:(Val.mk k' b' n' t' l' o').bulk≤80000000):
 Calls Tryz.prog 68 #[.agg #[.int .i64 k, .string key, .int .i64 k', .bool b', .int .i64 n', .string t', .slice la' l'.length lc', .slice oa' o'.length oc']] w (MadePost (objO ⟨k,key, .mk k' b' n' t' l' o'⟩) w):=by
 rcases hok with⟨h,hk,_⟩|⟨h,hk⟩|h<;>simp only at h
 · subst h
   exact obj_put key (by have:=keyB_size hk;simp only at this;omega) k' b' n' t' l' o' la' oa' lc' oc' w hN hv hb
 · subst h
   exact obj_del key (by have:=keyB_size hk;simp only at this;omega) _ _ _ _ _ _ _ _ _ _ w hN
 · subst h
   exact obj_clear key _ _ _ _ _ _ _ _ _ _ w hN
def rowQ (l:List POp) (q:Nat):List D:=dL ((l.take q).map objQ)
structure LI (w:World) (g:Nat) (l:List POp) (q:Nat) (wr:World) (V:Value):Prop where
 below:Below w.heap.size w wr
 res:Blk wr w.heap.size 39 zero6
 var:Blk wr g 39 #[.int .i64 5, .bool false, .int .i64 0, .string ⟨#[]⟩,V, .slice none 0 0]
 row:RowD (g+1) 39 6 wr (rowQ l q) V
 lt:w.heap.size<g
def ListPost (l:List POp) (w:World) (e:Ending) (w':World):Prop:=Below w.heap.size w w'∧
 ∃la lc,e= .returned (.tuple #[.agg #[.int .i64 5, .bool false, .int .i64 0, .string ⟨#[]⟩, .slice la l.length lc, .slice none 0 0], .int .i64 0])∧Fresh w.heap.size w' (dV (listQ l)) [.int .i64 5, .bool false, .int .i64 0, .string ⟨#[]⟩, .slice la l.length lc, .slice none 0 0]
set_option maxRecDepth 100000 in
set_option maxHeartbeats 8000000 in
theorem patList_calls (l:List POp) (a:Option Addr) (n c:Nat) (w:World) (hT:Tabs w) (hN:Names w) (h:Holds w w.heap.size (.row 8 (dQs l)) [.slice a n c]) (hb:bulkQ l≤50000000) (hin:inQ l) (hm:mayOps none l=0):
 Calls Tryz.prog 43 #[.slice a n c] w (ListPost l w):=by
 have hlq:=bulkQ_len l
 have hn:=h.row_len
 rw[dQs_len]at hn
 subst hn
 obtain⟨j0,hj,hy0,hy1,hy2⟩:=info_parts val_info
 have hb0:Below w.heap.size w (w.alloc (.cells zero6 39)):=(Below.refl _ _).alloc (Nat.le_refl _) _
 have hM:=patMay_calls l a l.length c (w.alloc (.cells zero6 39)) (hT.below hb0) ((h.below hb0).more hb0.size) (by omega) hin
 rw[hm]at hM
 have hok:=mayOps_all hm
 have HM:=Lib.hid hM
 have HT:=Lib.hid hT
 have HN:=Lib.hid hN
 have H:=Lib.hid h
 have Hok:=Lib.hid hok
 have Hb0:=Lib.hid hb0
 have Hj:=Lib.hid hj
 have Hy0:=Lib.hid hy0
 have Hy1:=Lib.hid hy1
 have Hy2:=Lib.hid hy2
 have Hin:=Lib.hid hin
 clear hM hT hN h hok hb0 hj hy0 hy1 hy2 hin
 clear hm
 go_enter Tryz.func43,Tryz.ntmps43
 go_wp2_with (go_at_call 61;(with_reducible refine(HM.out).mono ?_);rintro e w1 ⟨rfl,hb1⟩)
 have hz1:w.heap.size<w1.heap.size:=by have:=hb1.size;simp at this;omega
 have hI0:LI w w1.heap.size l 0 (w1.alloc (.cells #[.int .i64 5, .bool false, .int .i64 0, .string ⟨#[]⟩, .slice none 0 0, .slice none 0 0] 39)) (.slice none 0 0):=
  ⟨(Hb0.out.trans (hb1.mono Hb0.out.size)).alloc (by omega) _,((Blk.new w 39 zero6).below hb1 (Blk.new w 39 zero6).lt).alloc _,Blk.new _ _ _,by simpa[rowQ,dL]using RowD.nil _ _ _ _,hz1⟩
 obtain⟨w2,hw2⟩: ∃w2,w1.alloc (.cells #[.int .i64 5, .bool false, .int .i64 0, .string ⟨#[]⟩, .slice none 0 0, .slice none 0 0] 39)=w2:=⟨_,rfl⟩
 rw[hw2]at hI0 ⊢
 have HI0:=Lib.hid hI0
 clear hI0 hw2 hb1
 generalize w1.heap.size=g at*
 go_loopw [17] (fun i wr=> ∃q:Nat,i= .int .i64 q∧q≤l.length∧ ∃V,Hid (LI w g l q wr V)) (fun i _=>l.length - (intOf i).toNat)
 case atStart=>exact⟨0,rfl,Nat.zero_le _,_,HI0⟩
 case round=>
  obtain⟨q,rfl,hq,V,hI⟩:=hrel
  clear HI0
  by_cases hlt:q<l.length
  · obtain⟨p,hp⟩: ∃p,l[q]? =some p:=⟨_,List.getElem?_eq_getElem hlt⟩
    have hmem:=List.mem_of_getElem? hp
    have hbq:=bulkQ_mem hmem
    have hokp:=Hok.out p hmem
    have htk:rowQ l q++ [dV (objQ p)]=rowQ l (q+1):=by
     unfold rowQ;rw[List.take_add_one,hp,dL_map,dL_map];simp
    obtain⟨k,key,⟨k',b',n',t',l',o'⟩⟩:=p
    simp only at hbq
    have hbw:=hI.out.below
    have hz:=hbw.size
    obtain⟨gl,off,rfl,hgl,la',lc',oa',oc',hv,c0,c1,c2,c3,c4,c5,c6,c7⟩:=opQ_at ((H.out.below hbw).more hz) hp
    obtain⟨wi,hwi⟩: ∃wi,wr.alloc (.cells #[.int .i64 k, .string key, .int .i64 k', .bool b', .int .i64 n', .string t', .slice la' l'.length lc', .slice oa' o'.length oc'] 67)=wi:=⟨_,rfl⟩
    have hbi:Below wr.heap.size wr wi:=hwi▸alloc_below _ _
    have hxi:Blk wi wr.heap.size 67 #[.int .i64 k, .string key, .int .i64 k', .bool b', .int .i64 n', .string t', .slice la' l'.length lc', .slice oa' o'.length oc']:=by rw[←hwi];exact Blk.new _ _ _
    have hxv:=hI.out.var.below hbi hI.out.var.lt
    have hrow:=hI.out.row.below hbi
    have Hres:=Lib.hid hI.out.res
    obtain⟨aV,cV,rfl⟩:=hI.out.row.slice
    have hgr:gl<wr.heap.size:=hgl
    have hgv:g<wi.heap.size:=hxv.lt
    have hq1:(q:Int)<(l.length:Int):=by omega
    have hwi2:Below w.heap.size w wi:=hbw.trans (hbi.mono hz)
    have hC: ∀W,Below wi.heap.size wi W→Calls Tryz.prog 68 #[.agg #[.int .i64 k, .string key, .int .i64 k', .bool b', .int .i64 n', .string t', .slice la' l'.length lc', .slice oa' o'.length oc']] W (MadePost (objO ⟨k,key, .mk k' b' n' t' l' o'⟩) W):=fun W hW=>by
     have hWr:=hbi.trans (hW.mono hbi.size)
     exact obj_calls k key k' b' n' t' l' o' la' oa' lc' oc' W hokp (HN.out.below (hwi2.trans (hW.mono hwi2.size))) ((hv.below hWr).more hWr.size) (by omega)
    have Hp:=Lib.hid hp
    have Hv:=Lib.hid hv
    have Hbi:=Lib.hid hbi
    have Hbw:=Lib.hid hbw
    have HC:=Lib.hid hC
    have Hrow:=Lib.hid hrow
    have Htk:=Lib.hid htk
    have Hwi2:=Lib.hid hwi2
    clear hp hv hbi hbw hC hrow htk hwi2
    clear hmem hokp
    go_upto_region 8 with(fail)
    clear hwi
    obtain⟨x0,x1,x2,x3,x4,x5,x6,x7⟩:=ocell hxi
    obtain⟨_,_,_,_,y4,_⟩:=vcell hxv
    have hdl:(rowQ l q).length=q:=by unfold rowQ;rw[dL_len,List.length_map,List.length_take];omega
    have hLo:Hid ((rowQ l q).length+1≤maxLen∧((rowQ l q).length+1)*88≤140737488355328):=by rw[hdl];exact⟨by simp only[maxLen];omega,by omega⟩
    have Hxi:=Lib.hid hxi
    have Hxv:=Lib.hid hxv
    clear hxi hxv
    clear c0 c1 c2 c3 c4 c5 c6 c7 hdl
    go_region_law (first
     |(refine step_append_D (d:=dV (objQ ⟨k,key, .mk k' b' n' t' l' o'⟩)) (V:= .slice aV (rowQ l q).length cV) (by rfl) (.tmp 22) (.tmp 25) 36 (by rfl) Tryz.underlying36 Hj.out Hy0.out Hy1.out Hy2.out rfl (by omega) (by rfl) Hrow.out (by omega) Hbe.out (dV_cells _) Hfe.out (by rfl) (reads_six w4 _ _ _ _ _ _) hLo.out.1 hLo.out.2 ?_;intro V6 w6 hrow6 hg6 hat6;rw[Htk.out]at hrow6;have hx6:=blk_app Hxv4.out hg6 Hrow.out (by omega);have hw6:=below_app Hw4.out hg6 Hrow.out (by omega) Hw4.out.size;have hr6:=blk_app Hr4.out hg6 Hrow.out (by omega);have e6:=hx6.cell 4;have f6:=hx6.frozen 4;obtain⟨a6,c6,rfl⟩:=hrow6.slice;have HG6:=Lib.hid (And.intro hrow6 (And.intro hx6 (And.intro hw6 hr6)));clear hrow6 hg6 hat6 hx6 hw6 hr6)
     |(go_simp;go_at_call 68;refine(HC.out _ (Below.drew (Below.refl _ _))).mono ?_;rintro e w4 ⟨hb4,la4,lc4,oa4,oc4,rfl,hf4⟩;have hbr:Below wi.heap.size wi w4:=(Below.drew (Below.refl _ _)).trans hb4;have hxv4:=Hxv.out.below hbr Hxv.out.lt;have g3:=hxv4.cell 4;have g4:=(hxv4.alloc (.cells #[.int .i64 6, .bool false, .int .i64 0, .string ⟨#[]⟩, .slice la4 0 lc4, .slice oa4 (objO ⟨k,key, .mk k' b' n' t' l' o'⟩).length oc4] 39)).cell 4;have Hxv4:=Lib.hid (hxv4.alloc (.cells #[.int .i64 6, .bool false, .int .i64 0, .string ⟨#[]⟩, .slice la4 0 lc4, .slice oa4 (objO ⟨k,key, .mk k' b' n' t' l' o'⟩).length oc4] 39));have Hr4:=Lib.hid ((((Hres.out.below Hbi.out Hres.out.lt).below hbr (by omega))).alloc (.cells #[.int .i64 6, .bool false, .int .i64 0, .string ⟨#[]⟩, .slice la4 0 lc4, .slice oa4 (objO ⟨k,key, .mk k' b' n' t' l' o'⟩).length oc4] 39));have Hw4:=Lib.hid ((Hwi2.out.trans (hbr.mono Hwi2.out.size)).alloc (Nat.le_trans Hwi2.out.size hbr.size) (.cells #[.int .i64 6, .bool false, .int .i64 0, .string ⟨#[]⟩, .slice la4 0 lc4, .slice oa4 (objO ⟨k,key, .mk k' b' n' t' l' o'⟩).length oc4] 39));have Hbe:=Lib.hid (hbr.alloc hbr.size (.cells #[.int .i64 6, .bool false, .int .i64 0, .string ⟨#[]⟩, .slice la4 0 lc4, .slice oa4 (objO ⟨k,key, .mk k' b' n' t' l' o'⟩).length oc4] 39));have hfe:Fresh wi.heap.size (w4.alloc (.cells #[.int .i64 6, .bool false, .int .i64 0, .string ⟨#[]⟩, .slice la4 0 lc4, .slice oa4 (objO ⟨k,key, .mk k' b' n' t' l' o'⟩).length oc4] 39)) (dV (objQ ⟨k,key, .mk k' b' n' t' l' o'⟩)) [.int .i64 6, .bool false, .int .i64 0, .string ⟨#[]⟩, .slice la4 0 lc4, .slice oa4 (objO ⟨k,key, .mk k' b' n' t' l' o'⟩).length oc4]:=hf4.later (alloc_below w4 (.cells #[.int .i64 6, .bool false, .int .i64 0, .string ⟨#[]⟩, .slice la4 0 lc4, .slice oa4 (objO ⟨k,key, .mk k' b' n' t' l' o'⟩).length oc4] 39));have Hfe:=Lib.hid hfe;clear hb4 hf4 hbr hxv4 hfe))
    all_goals
     obtain⟨k1,k2,k3,k4⟩:=HG6.out
     have HN:Hid (LI w g l (q+1) (w6.setCell ⟨g,4,none⟩ (.slice a6 (rowQ l (q+1)).length c6)) (.slice a6 (rowQ l (q+1)).length c6)):=
      ⟨k3.setCell (by simp;omega) _,k4.far (by simp;omega) _,k2.set_ 4 _,k1.keep (by simp[World.setCell]) (fun i h1 _=>Below.heap_setCell _ _ _ _ (by simp;omega)),hz1⟩
     clear k1 k2 k3 k4 HG6 Hfe Hbe Hxv4 Hw4 Hr4
     go_wp2
     go_roundw
     case rel=>exact⟨q+1,by go_num,by omega,_,HN⟩
     case measure=>simp only[intOf];omega
  · obtain rfl:q=l.length:=by omega
    have hln:(rowQ l l.length).length=l.length:=by unfold rowQ;rw[dL_len,List.length_map,List.take_length]
    obtain⟨aV,cV,rfl⟩:=hI.out.row.slice_n hln
    obtain⟨i1,i2,i3,i4,i5⟩:=hI.out
    obtain⟨y0,y1,y2,y3,y4,y5⟩:=vcell i3
    obtain⟨r0,r1,r2,r3,r4,r5⟩:=vcell i2
    have fz:=i2.frozen
    have hq:=i4.close
    have hgw:=i3.lt
    have I1:=Lib.hid i1
    have I2:=Lib.hid i2
    have I3:=Lib.hid i3
    have I4:=Lib.hid i4
    have Hq:=Lib.hid hq
    have Hln:=Lib.hid hln
    clear i1 i2 i3 i4 hq hln
    clear hI
    go_upto_region 10 with(fail)
    repeat go_step
    obtain⟨a',c',e',_,hf,_⟩:=Hq.out
    rw[Hln.out]at e' hf
    obtain⟨rfl,rfl⟩:aV=a'∧cV=c':=by simpa using e'
    have hxf:=((((((I2.out.set_ 0 (.int .i64 5)).set_ 1 (.bool false)).set_ 2 (.int .i64 0)).set_ 3 (.string ⟨#[]⟩)).set_ 4 (.slice aV l.length cV)).set_ 5 (.slice none 0 0))
    have hbf:=setMany_below [.int .i64 5, .bool false, .int .i64 0, .string ⟨#[]⟩, .slice aV l.length cV, .slice none 0 0] I1.out (Nat.le_refl _) (o:=0)
    have hff:Fresh w.heap.size (setMany wr w.heap.size 0 [.int .i64 5, .bool false, .int .i64 0, .string ⟨#[]⟩, .slice aV l.length cV, .slice none 0 0]) (dV (listQ l)) [.int .i64 5, .bool false, .int .i64 0, .string ⟨#[]⟩, .slice aV l.length cV, .slice none 0 0]:=
     fresh_lv (by unfold rowQ at hf;rw[List.take_length]at hf;exact hf.keep (by omega) (by rw[setMany_size];exact Nat.le_refl _) fun p p1 p2=>World.cell?_of_block (setMany_far _ _ _ _ _ (by omega)))
    exact bodyPost_ret (results_cell6_t rfl rfl hxf) rfl ⟨hbf,aV,cV,rfl,hff⟩
end Go.Proofs.YtackmnbpfbaemaaGreatDoor

namespace Go.Proofs.YtackmnbpfbaemaaGreatDoor
open Go Go.RowKit
theorem op_info:(Tryz.prog.info? 67).map (fun i=>(i.zero,i.size,i.bytes))=some (some (.agg #[.int .i64 0, .string ⟨#[]⟩, .int .i64 0, .bool false, .int .i64 0, .string ⟨#[]⟩, .slice none 0 0, .slice none 0 0]),8,112):=by kernel_rfl
theorem reads_eight (w:World) (a0 a1 a2 a3 a4 a5 a6 a7:Value):Reads (w.alloc (.cells #[a0,a1,a2,a3,a4,a5,a6,a7] 67)) (w.heap.size+1) 8 (some ⟨w.heap.size,0,none⟩) 1 [a0,a1,a2,a3,a4,a5,a6,a7]:=reads_one (Blk.new w 67 #[a0,a1,a2,a3,a4,a5,a6,a7])
theorem fresh_of_FV {w w':World} {v:Val} {cs:List Value} (h:FreshV w w' v cs):Fresh w.heap.size w' (dV v) cs:=fun w'' h1 h2=>holds_of_V _ _ (h w'' h1 h2)
theorem dQ_fresh {B:Nat} {w:World} {k:Int} {key:ByteArray} {v:Val} {cs:List Value} (h:Fresh B w (dV v) cs):Fresh B w (dQ ⟨k,key,v⟩) (.int .i64 k:: .string key::cs):=fun w'' h1 h2=>⟨[.int .i64 k], .string key::cs,rfl,⟨rfl,rfl⟩, [.string key],cs,rfl,⟨rfl,rfl⟩,cs, [],by simp,h w'' h1 h2,rfl⟩
abbrev zero5:Array Value:= #[.int .u64 0, .int .u64 0, .int .u64 0, .int .u64 0, .slice none 0 0]
theorem results_cell5 {fn:Func} {t:Tmp} {tmps:Array Value} {W:World} {R:Nat} {a0 a1 a2 a3 a4:Value} (h:fn.results= #[.cell t 47]) (hp:tmps.getD t undef= .pointer (some ⟨R,0,none⟩)) (hx:Blk W R 47 #[a0,a1,a2,a3,a4]):
 (results fn tmps).run Tryz.prog W= .ok (.agg #[a0,a1,a2,a3,a4]) W:=by
 have c0:=hx.cell 0
 have c1:=hx.cell 1
 have c2:=hx.cell 2
 have c3:=hx.cell 3
 have c4:=hx.cell 4
 simp at c0 c1 c2 c3 c4
 clear hx
 have hp':tmps[t]?.getD undef= .pointer (some ⟨R,0,none⟩):=by simpa using hp
 simp[results,h,hp',go_sem,c0,c1,c2,c3,c4]
structure LA (w:World) (cs:Array Value) (l:List POp) (q:Nat) (wr:World) (V:Value):Prop where
 below:Below w.heap.size w wr
 box:Blk wr w.heap.size 47 cs
 res:Blk wr (w.heap.size+1) 47 zero5
 row:RowD (w.heap.size+2) 67 8 wr (dQs (l.take q)) V
def AnsPost (c b k s:Int) (l:List POp) (w:World) (e:Ending) (w':World):Prop:=Below w.heap.size w w'∧
 ∃a' c',e= .returned (.agg #[.int .u64 c, .int .u64 b, .int .u64 k, .int .u64 s, .slice a' l.length c'])∧Fresh w.heap.size w' (.row 8 (dQs l)) [.slice a' l.length c']
set_option maxRecDepth 100000 in
set_option maxHeartbeats 8000000 in
theorem answer_calls (c b k s:Int) (l:List POp) (a:Option Addr) (n cc:Nat) (w:World) (h:Holds w w.heap.size (.row 8 (dQs l)) [.slice a n cc]) (hb:bulkQ l≤100000000):
 Calls Tryz.prog 22 #[.agg #[.int .u64 c, .int .u64 b, .int .u64 k, .int .u64 s, .slice a n cc]] w (AnsPost c b k s l w):=by
 have hlq:=bulkQ_len l
 have hn:=h.row_len
 rw[dQs_len]at hn
 subst hn
 obtain⟨j0,hj,hy0,hy1,hy2⟩:=info_parts op_info
 have hI0:LA w #[.int .u64 c, .int .u64 b, .int .u64 k, .int .u64 s, .slice a l.length cc] l 0 ((w.alloc (.cells #[.int .u64 c, .int .u64 b, .int .u64 k, .int .u64 s, .slice a l.length cc] 47)).alloc (.cells zero5 47)) (.slice none 0 0):=
  ⟨((Below.refl _ _).alloc (Nat.le_refl _) _).alloc (by simp) _,(Blk.new _ _ _).alloc _,by simpa using Blk.new (w.alloc (.cells #[.int .u64 c, .int .u64 b, .int .u64 k, .int .u64 s, .slice a l.length cc] 47)) 47 zero5,by simpa[dQs]using RowD.nil _ _ _ _⟩
 have H:=Lib.hid h
 have Hj:=Lib.hid hj
 have Hy0:=Lib.hid hy0
 have Hy1:=Lib.hid hy1
 have Hy2:=Lib.hid hy2
 have HI0:=Lib.hid hI0
 clear h hj hy0 hy1 hy2 hI0
 go_enter Tryz.func22,Tryz.ntmps22
 go_wp2_with (fail)
 go_loopw [3,4] (fun V i wr=> ∃q:Nat,i= .int .i64 q∧q≤l.length∧Hid (LA w #[.int .u64 c, .int .u64 b, .int .u64 k, .int .u64 s, .slice a l.length cc] l q wr V)) (fun _ i _=>l.length - (intOf i).toNat)
 case atStart=>exact⟨0,rfl,Nat.zero_le _,HI0⟩
 case round=>
  obtain⟨q,rfl,hq,hI⟩:=hrel
  clear HI0
  by_cases hlt:q<l.length
  · obtain⟨p,hp⟩: ∃p,l[q]? =some p:=⟨_,List.getElem?_eq_getElem hlt⟩
    have hmem:=List.mem_of_getElem? hp
    have hbq:=bulkQ_mem hmem
    have htk:dQs (l.take q)++ [dQ p]=dQs (l.take (q+1)):=by
     unfold dQs;rw[List.take_add_one,hp];simp
    obtain⟨kk,key,⟨k',b',n',t',l',o'⟩⟩:=p
    simp only at hbq
    have hbw:=hI.out.below
    have hz:=hbw.size
    obtain⟨gl,off,rfl,hgl,la',lc',oa',oc',hv,c0,c1,c2,c3,c4,c5,c6,c7⟩:=opQ_at H.out hp
    have hdl:(dQs (l.take q)).length=q:=by rw[dQs_len,List.length_take];omega
    have hLo:Hid ((dQs (l.take q)).length+1≤maxLen∧((dQs (l.take q)).length+1)*112≤140737488355328):=by rw[hdl];exact⟨by simp only[maxLen];omega,by omega⟩
    have hq1:(q:Int)<(l.length:Int):=by omega
    have hq0:(0:Int)≤q:=by omega
    have hC: ∀W,Below wr.heap.size wr W→Calls Tryz.prog 44 #[.agg #[.int .i64 k', .bool b', .int .i64 n', .string t', .slice la' l'.length lc', .slice oa' o'.length oc']] W fun e w'=>(∃cs',e= .returned (.agg (cs':List Value).toArray)∧cs'.length=6∧FreshV W w' (.mk k' b' n' t' l' o') cs')∧Below W.heap.size W w':=
     fun W hW=>copy_calls _ _ W (HoldsV.more (Nat.le_trans hz hW.size) _ _ (hv.below (hbw.trans (hW.mono hz)))) (by omega)
    obtain⟨aV,cV,rfl⟩:=hI.out.row.slice
    have hxb:=hI.out.box
    have hxr:=hI.out.res
    have hrow:=hI.out.row
    have y4:=hxb.cell 4
    have hgb:=hxb.lt
    have hgr:=hxr.lt
    have hgl2:gl<wr.heap.size:=by omega
    obtain⟨hcr,hfr⟩:=bcellM hbw
    have HC:=Lib.hid hC
    have Hp:=Lib.hid hp
    have Hv:=Lib.hid hv
    have Hbw:=Lib.hid hbw
    have Htk:=Lib.hid htk
    have Hxb:=Lib.hid hxb
    have Hxr:=Lib.hid hxr
    have Hrow:=Lib.hid hrow
    clear hC hp hv hbw htk hxb hxr hrow
    clear hmem hdl
    go_upto_region 5 with(fail)
    go_region_held3 (fun W=>W.cell? ⟨w.heap.size,4,none⟩=some (.slice (some ⟨gl,off,none⟩) l.length cc)∧W.cell? ⟨gl,off+q*8,none⟩=some (.int .i64 kk)∧W.cell? ⟨gl,off+q*8+1,none⟩=some (.string key)∧W.cell? ⟨gl,off+q*8+2,none⟩=some (.int .i64 k')∧W.cell? ⟨gl,off+q*8+3,none⟩=some (.bool b')∧W.cell? ⟨gl,off+q*8+4,none⟩=some (.int .i64 n')∧W.cell? ⟨gl,off+q*8+5,none⟩=some (.string t')∧W.cell? ⟨gl,off+q*8+6,none⟩=some (.slice la' l'.length lc')∧W.cell? ⟨gl,off+q*8+7,none⟩=some (.slice oa' o'.length oc')) (go_keep) (first
     |(refine step_append_D (d:=dQ ⟨kk,key, .mk k' b' n' t' l' o'⟩) (V:=(.slice aV (dQs (l.take q)).length cV)) (by rfl) (.tmp 12) (.tmp 33) 45 (by rfl) Tryz.underlying45 Hj.out Hy0.out Hy1.out Hy2.out rfl (by omega) (by rfl) Hrow.out (by omega) Hbe.out (dQ_cells _) Hfe.out (by rfl) (reads_eight w4 _ _ _ _ _ _ _ _) hLo.out.1 hLo.out.2 ?_;intro V6 w6 hrow6 hg6 hat6;have hx6:=blk_app Hx4.out hg6 Hrow.out (by omega);have hr6:=blk_app Hr4.out hg6 Hrow.out (by omega);have hw6:=below_app Hw4.out hg6 Hrow.out (by omega) Hw4.out.size;obtain⟨hc6,hf6⟩:=bcellM hw6;have u4:=hx6.cell 4;rw[Htk.out]at hrow6;have HG6:=Lib.hid (And.intro hrow6 (And.intro hx6 (And.intro hw6 hr6)));clear hrow6 hg6 hat6 hw6 hr6 hx6)
     |(go_at_call 44;refine(HC.out _ ?_).mono ?_;(exact(Below.drew (Below.refl _ _)));rintro e w4 ⟨⟨cs4,rfl,hl4,hf4⟩,hb4⟩;obtain⟨la2,lc2,oa2,oc2,rfl⟩:=six_now (fresh_of_FV hf4);have hbr4:Below wr.heap.size wr w4:=((Below.drew (Below.refl _ _)).trans hb4);have hwb4:=Hbw.out.trans (hbr4.mono Hbw.out.size);obtain⟨hc4,hg4⟩:=bcellM hwb4;have v4:=(Hxb.out.below hbr4 Hxb.out.lt).cell 4;have Hw4:=Lib.hid ((Hbw.out.trans (hbr4.mono Hbw.out.size)).alloc (Nat.le_trans Hbw.out.size hbr4.size) (.cells #[.int .i64 kk, .string key, .int .i64 k', .bool b', .int .i64 n', .string t', .slice la2 l'.length lc2, .slice oa2 o'.length oc2] 67));have Hx4:=Lib.hid ((Hxb.out.below hbr4 Hxb.out.lt).alloc (.cells #[.int .i64 kk, .string key, .int .i64 k', .bool b', .int .i64 n', .string t', .slice la2 l'.length lc2, .slice oa2 o'.length oc2] 67));have Hr4:=Lib.hid ((Hxr.out.below hbr4 Hxr.out.lt).alloc (.cells #[.int .i64 kk, .string key, .int .i64 k', .bool b', .int .i64 n', .string t', .slice la2 l'.length lc2, .slice oa2 o'.length oc2] 67));have Hbe:=Lib.hid (hbr4.alloc hbr4.size (.cells #[.int .i64 kk, .string key, .int .i64 k', .bool b', .int .i64 n', .string t', .slice la2 l'.length lc2, .slice oa2 o'.length oc2] 67));have hfe:Fresh wr.heap.size (w4.alloc (.cells #[.int .i64 kk, .string key, .int .i64 k', .bool b', .int .i64 n', .string t', .slice la2 l'.length lc2, .slice oa2 o'.length oc2] 67)) (dQ ⟨kk,key, .mk k' b' n' t' l' o'⟩) [.int .i64 kk, .string key, .int .i64 k', .bool b', .int .i64 n', .string t', .slice la2 l'.length lc2, .slice oa2 o'.length oc2]:=(dQ_fresh (fresh_of_FV hf4)).later (alloc_below _ _);have Hfe:=Lib.hid hfe;clear hfe hf4 hb4))
    all_goals
     obtain⟨k1,k2,k3,k4⟩:=HG6.out
     have HN:Hid (LA w #[.int .u64 c, .int .u64 b, .int .u64 k, .int .u64 s, .slice (some ⟨gl,off,none⟩) l.length cc] l (q+1) w6 V6):=⟨k3,k2,k4,k1⟩
     clear k1 k2 k3 k4 HG6 Hfe Hbe Hx4 Hw4 Hr4 hc4 hg4 hbr4 hc6 hf6 hwb4 v4 u4
     go_wp2
     go_roundw
     case rel=>exact⟨q+1,by go_num,by omega,HN⟩
     case measure=>simp only[intOf];omega
  · obtain rfl:q=l.length:=by omega
    have hln:(dQs (l.take l.length)).length=l.length:=by rw[dQs_len,List.take_length]
    obtain⟨aV,cV,rfl⟩:=hI.out.row.slice_n hln
    obtain⟨i1,i2,i3,i4⟩:=hI.out
    have hq:=i4.close
    have y4:=i2.cell 4
    have f4:=i2.frozen 4
    have hgb:=i2.lt
    have hgr:=i3.lt
    have I1:=Lib.hid i1
    have I2:=Lib.hid i2
    have I3:=Lib.hid i3
    have I4:=Lib.hid i4
    have Hq:=Lib.hid hq
    have Hln:=Lib.hid hln
    clear i1 i2 i3 i4 hq hln
    clear hI
    go_upto_region 7 with(fail)
    obtain⟨a',c',e',_,hf,_⟩:=Hq.out
    rw[Hln.out]at e' hf
    rw[List.take_length]at hf
    obtain⟨rfl,rfl⟩:aV=a'∧cV=c':=by simpa using e'
    have hx:=I2.out.set_ 4 (.slice aV l.length cV)
    have hr:=I3.out.far (p:=⟨w.heap.size,4,none⟩) (by simp) (.slice aV l.length cV)
    have hbw:=I1.out.setCell (p:=⟨w.heap.size,4,none⟩) (Nat.le_refl _) (.slice aV l.length cV)
    have hf2:Fresh (w.heap.size+2) (wr.setCell ⟨w.heap.size,4,none⟩ (.slice aV l.length cV)) (.row 8 (dQs l)) [.slice aV l.length cV]:=hf.keep (Nat.le_refl _) (by simp[World.setCell]) fun p p1 _=>World.cell?_of_block (Below.heap_setCell _ _ _ _ (by simp;omega))
    have hs2:w.heap.size+1<(wr.setCell ⟨w.heap.size,4,none⟩ (.slice aV l.length cV)).heap.size:=hr.lt
    generalize wr.setCell ⟨w.heap.size,4,none⟩ (.slice aV l.length cV)=wz at*
    have d0:=hx.cell 0
    have d1:=hx.cell 1
    have d2:=hx.cell 2
    have d3:=hx.cell 3
    have d4:=hx.cell 4
    have r0:=hr.cell 0
    have r1:=hr.cell 1
    have r2:=hr.cell 2
    have r3:=hr.cell 3
    have r4:=hr.cell 4
    have fz:=hr.frozen
    simp at d0 d1 d2 d3 d4 r0 r1 r2 r3 r4
    have Hx:=Lib.hid hx
    have Hr:=Lib.hid hr
    have Hbw:=Lib.hid hbw
    have Hf2:=Lib.hid hf2
    clear hx hr hbw hf2
    clear I1 I2 I3 I4 Hq e' hf y4 f4
    go_wp2
    have hxf:=(((((Hr.out.set_ 0 (.int .u64 c)).set_ 1 (.int .u64 b)).set_ 2 (.int .u64 k)).set_ 3 (.int .u64 s)).set_ 4 (.slice aV l.length cV))
    have hbf:=setMany_below [.int .u64 c, .int .u64 b, .int .u64 k, .int .u64 s, .slice aV l.length cV] Hbw.out (Nat.le_succ w.heap.size) (o:=0)
    have hff:Fresh w.heap.size (setMany wz (w.heap.size+1) 0 [.int .u64 c, .int .u64 b, .int .u64 k, .int .u64 s, .slice aV l.length cV]) (.row 8 (dQs l)) [.slice aV l.length cV]:=Hf2.out.keep (by omega) (by rw[setMany_size];exact Nat.le_refl _) fun p p1 p2=>World.cell?_of_block (setMany_far _ _ _ _ _ (by omega))
    exact bodyPost_ret (results_cell5 rfl rfl hxf) rfl ⟨hbf,aV,cV,rfl,hff⟩
end Go.Proofs.YtackmnbpfbaemaaGreatDoor
