/- Parts, joined: patch.object: the object of an op that may be. Condition: a bulk of at most 5 * 10^7. patch.List: the list of a patch. Condition: a bulk of at most 5 * 10^7. commonplaceref18.Frame: the frame of a kind and a value that may be. Condition: a bulk of at most 10^8. What the rows' listed tables give the walks. No condition. The last step of a law's row: the answer is true and the arguments read as they did. No condition. -/
import Derived.Test.YtackmnbpfbaemaaGreatDoorProg
import Derived.Deep.RegionLaw
import Derived.Below
import Derived.ChangeSame
import Derived.WideKeyArgs
import Derived.OpenShut
import Derived.Test.YtackmnbpfbaemaaGreatDoorKAs4
import Derived.Test.YtackmnbpfbaemaaGreatDoorKAs15
import Derived.Test.YtackmnbpfbaemaaGreatDoorKAs19
import Derived.Test.YtackmnbpfbaemaaGreatDoorKAs20
import Derived.Test.YtackmnbpfbaemaaGreatDoorKAs23
import Derived.Test.YtackmnbpfbaemaaGreatDoorKAs24
import Derived.Test.YtackmnbpfbaemaaGreatDoorKAs26
import Derived.Test.YtackmnbpfbaemaaGreatDoorKAs32
import Derived.Test.YtackmnbpfbaemaaGreatDoorKAs33
import Derived.Test.YtackmnbpfbaemaaGreatDoorKAs37
namespace Go.Proofs.YtackmnbpfbaemaaGreatDoor
open Go Go.RowKit
def Names (w:World):Prop:=w.cell? ⟨0,1,none⟩=some (.string sPut)∧w.cell? ⟨0,2,none⟩=some (.string sDel)∧w.cell? ⟨0,3,none⟩=some (.string sClear)∧0<w.heap.size
theorem Names.below {w w':World} (h:Names w) (hb:Below w.heap.size w w'):Names w':=
 ⟨(hb.cell h.2.2.2).trans h.1,(hb.cell h.2.2.2).trans h.2.1,(hb.cell h.2.2.2).trans h.2.2.1,Nat.lt_of_lt_of_le h.2.2.2 hb.size⟩
theorem clear_obj:objAll [(kOp,tv sClear)] []=some [(kOp,tv sClear)]:=by rfl
theorem del_obj (key:ByteArray):objAll [(kOp,tv sDel),(kKey,tv key)] []=some [(kKey,tv key),(kOp,tv sDel)]:=by kernel_rfl
theorem put_obj (key:ByteArray) (v:Val):objAll [(kOp,tv sPut),(kVal,v),(kKey,tv key)] []=some [(kKey,tv key),(kOp,tv sPut),(kVal,v)]:=by kernel_rfl
set_option maxRecDepth 100000 in
set_option maxHeartbeats 2000000 in
theorem obj_clear (key:ByteArray) (c0:Int) (c1:Bool) (c2:Int) (c3:ByteArray) (c4a c5a:Option Addr) (c4n c4c c5n c5c:Nat) (w:World) (hN:Names w):
 Calls Tryz.prog 68 #[.agg #[.int .i64 3, .string key, .int .i64 c0, .bool c1, .int .i64 c2, .string c3, .slice c4a c4n c4c, .slice c5a c5n c5c]] w (MadePost [(kOp,tv sClear)] w):=by
 obtain⟨n1,n2,n3,n4⟩:=hN
 have hO:=fun(W:World) a n c h=>vobj_ok [(kOp,tv sClear)] _ a n c W h (by decide) clear_obj
 have hX:=fun W=>textual_calls sClear W
 have hR:=fun(W:World)=>op_row W sClear
 have HO:=Lib.hid hO
 have HX:=Lib.hid hX
 have HR:=Lib.hid hR
 clear hO hX hR
 go_enter Tryz.func68,Tryz.ntmps68
 go_wp2_with (first
  |(go_at_call 99;(with_reducible refine(HX.out _).mono ?_);rintro e w1 ⟨rfl,hb1⟩;obtain⟨hc1,hf1⟩:=bcell hb1;obtain⟨hz0,hz1⟩:=size3 hb1)
  |(fail))
 with_reducible refine(HO.out _ _ _ _ (HR.out w1).now).mono ?_
 rintro e w2 ⟨hb2,la,lc,oa,oc,rfl,hf2⟩
 have hz2:w1.heap.size<w2.heap.size:=by have:=hb2.size;simp at this;omega
 have hz4:w.heap.size+1<w2.heap.size:=by omega
 have hx2:=res_box hb1 hb2
 obtain⟨r0,r1,r2,r3,r4,r5⟩:=vcell hx2
 have fz:=hx2.frozen
 have Hx2:=Lib.hid hx2
 have Hb1:=Lib.hid hb1
 have Hb2:=Lib.hid hb2
 have Hf2:=Lib.hid hf2
 clear hx2 hb1 hb2 hf2
 clear hc1 hf1 n1 n2 n3 n4 HO HX HR
 go_upto_region 8 with(fail)
 repeat go_step
 have hB2:Below w.heap.size w w2:=(((((Below.refl w.heap.size w).alloc (Nat.le_refl _) _).alloc (by simp) _).trans (Hb1.out.mono (by simp;omega))).alloc (by omega) _).trans (Hb2.out.mono (by simp;omega))
 obtain⟨q1,q2⟩:=fin_res (R:=w.heap.size+1) (o:= .cells #[.int .i64 6, .bool false, .int .i64 0, .string ⟨#[]⟩, .slice la 0 lc, .slice oa 1 oc] 39) [.int .i64 6, .bool false, .int .i64 0, .string ⟨#[]⟩, .slice la 0 lc, .slice oa 1 oc] hB2 (by omega) (by omega) (by simp;omega) Hf2.out
 have hxf:=((((((Hx2.out.set_ 0 (.int .i64 6)).set_ 1 (.bool false)).set_ 2 (.int .i64 0)).set_ 3 (.string ⟨#[]⟩)).set_ 4 (.slice la 0 lc)).set_ 5 (.slice oa 1 oc)).alloc (.cells #[.int .i64 6, .bool false, .int .i64 0, .string ⟨#[]⟩, .slice la 0 lc, .slice oa 1 oc] 39)
 exact bodyPost_ret (results_cell6 rfl rfl hxf) rfl ⟨q1,la,lc,oa,oc,rfl,q2⟩
set_option maxRecDepth 100000 in
set_option maxHeartbeats 2000000 in
theorem obj_del (key:ByteArray) (hkey:key.size≤1000) (c0:Int) (c1:Bool) (c2:Int) (c3:ByteArray) (c4a c5a:Option Addr) (c4n c4c c5n c5c:Nat) (w:World) (hN:Names w):
 Calls Tryz.prog 68 #[.agg #[.int .i64 2, .string key, .int .i64 c0, .bool c1, .int .i64 c2, .string c3, .slice c4a c4n c4c, .slice c5a c5n c5c]] w (MadePost [(kKey,tv key),(kOp,tv sDel)] w):=by
 obtain⟨n1,n2,n3,n4⟩:=hN
 obtain⟨j0,hj,hy0,hy1,hy2⟩:=info_parts mem_info
 have hO:=fun(W:World) a n c h=>vobj_ok [(kOp,tv sDel),(kKey,tv key)] _ a n c W h (by have e1:nil0.size=0:=rfl;have e2:kKey.size=3:=rfl;have e3:kOp.size=2:=rfl;have e6:sDel.size=3:=rfl;simp only[bulkO,bulkP,tv,Val.bulk,bulkL,e2,e3,e6];omega) (del_obj key)
 have hX:=fun W=>textual_calls sDel W
 have hY:=fun W=>textual_calls key W
 have hR:=fun(W:World)=>op_row W sDel
 have HO:=Lib.hid hO
 have HX:=Lib.hid hX
 have HR:=Lib.hid hR
 have Hj:=Lib.hid hj
 have Hy0:=Lib.hid hy0
 have Hy1:=Lib.hid hy1
 have Hy2:=Lib.hid hy2
 have HY:=Lib.hid hY
 clear hO hX hR hj hy0 hy1 hy2 hY
 go_enter Tryz.func68,Tryz.ntmps68
 go_wp2_with (first
  |(go_at_call 99;(with_reducible refine(HX.out _).mono ?_);rintro e w1 ⟨rfl,hb1⟩;obtain⟨hc1,hf1⟩:=bcell hb1;obtain⟨hz0,hz1⟩:=size3 hb1;have HXd:=HX;clear HX)
  |(fail))
 have hq2:=below_two w (.cells #[.int .i64 2, .string key, .int .i64 c0, .bool c1, .int .i64 c2, .string c3, .slice c4a c4n c4c, .slice c5a c5n c5c] 67) (.cells zero6 39)
 have hx1:Blk (w1.alloc (.cells #[.string kOp, .int .i64 4, .bool false, .int .i64 0, .string sDel, .slice none 0 0, .slice none 0 0] 63)) (w.heap.size+1) 39 zero6:=res_box (w1:=w1) hb1 (Below.refl _ _)
 have hw1:Below w.heap.size w (w1.alloc (.cells #[.string kOp, .int .i64 4, .bool false, .int .i64 0, .string sDel, .slice none 0 0, .slice none 0 0] 63)):=(hq2.trans (hb1.mono hq2.size)).alloc (by omega) _
 have Hq2:=Lib.hid hq2
 have Hx1:=Lib.hid hx1
 have Hw1:=Lib.hid hw1
 have Hb1:=Lib.hid hb1
 clear hq2 hx1 hw1 hb1
 go_at_call 99
 with_reducible refine(HY.out _).mono ?_
 rintro e w2 ⟨rfl,hb2⟩
 have hs2:w1.heap.size+1≤w2.heap.size:=by have:=hb2.size;simpa using this
 have hx2:=(Hx1.out.below hb2 Hx1.out.lt).alloc (.cells #[.string kKey, .int .i64 4, .bool false, .int .i64 0, .string key, .slice none 0 0, .slice none 0 0] 63)
 have hw2:=(Hw1.out.trans (hb2.mono Hw1.out.size)).alloc (by omega) (.cells #[.string kKey, .int .i64 4, .bool false, .int .i64 0, .string key, .slice none 0 0, .slice none 0 0] 63)
 have hbe:=hb2.alloc hb2.size (.cells #[.string kKey, .int .i64 4, .bool false, .int .i64 0, .string key, .slice none 0 0, .slice none 0 0] 63)
 have Hx2:=Lib.hid hx2
 have Hw2:=Lib.hid hw2
 have Hb2:=Lib.hid hb2
 have Hbe:=Lib.hid hbe
 clear hx2 hw2 hb2 hbe
 clear hc1 hf1 n1 n2 n3
 go_wp2_with (at_builtin;refine wpList_append_D (V:= .slice (some ⟨w1.heap.size,0,none⟩) 1 1) rfl (.tmp 26) (.tmp 31) 37 rfl Tryz.underlying37 Hj.out Hy0.out Hy1.out Hy2.out rfl (by omega) rfl (HR.out w1) (by simp) Hbe.out (dP_cells (kKey,tv key)) (fresh_tvP _ _ kKey key) rfl (reads_seven w2 _ _ _ _ _ _ _) (by simp[maxLen,dO]) (by simp[dO]) ?_;intro V6 w6 hrow6 hg6 hat6)
 have hx6:=blk_app Hx2.out hg6 (HR.out w1) (by omega)
 have hw6:=below_app Hw2.out hg6 (HR.out w1) (by omega) (by simp;omega)
 obtain⟨a6,c6,rfl⟩:=hrow6.slice_n (n:=2) rfl
 have hN6:Holds w6 w6.heap.size (.row 7 (dO [(kOp,tv sDel),(kKey,tv key)])) [.slice a6 2 c6]:=RowD.now (l:=dO [(kOp,tv sDel),(kKey,tv key)]) hrow6
 have hs6:w2.heap.size+1≤w6.heap.size:=by have:=hg6.size;simpa using this
 have Hx6:=Lib.hid hx6
 have Hw6:=Lib.hid hw6
 have HN6:=Lib.hid hN6
 clear hx6 hw6 hN6
 clear hrow6 hg6 hat6
 with_reducible refine(HO.out _ _ _ _ HN6.out).mono ?_
 rintro e w7 ⟨hb7,la,lc,oa,oc,rfl,hf7⟩
 have hs7:=hb7.size
 have hz4:w.heap.size+1<w7.heap.size:=by omega
 have hx7:=Hx6.out.below hb7 Hx6.out.lt
 obtain⟨r0,r1,r2,r3,r4,r5⟩:=vcell hx7
 have fz:=hx7.frozen
 have Hx7:=Lib.hid hx7
 have Hb7:=Lib.hid hb7
 have Hf7:=Lib.hid hf7
 clear hx7 hb7 hf7
 clear n4 HO HXd HR HY
 go_upto_region 8 with(fail)
 repeat go_step
 have hB2:=Hw6.out.trans (Hb7.out.mono Hw6.out.size)
 obtain⟨q1,q2⟩:=fin_res (R:=w.heap.size+1) (o:= .cells #[.int .i64 6, .bool false, .int .i64 0, .string ⟨#[]⟩, .slice la 0 lc, .slice oa 2 oc] 39) [.int .i64 6, .bool false, .int .i64 0, .string ⟨#[]⟩, .slice la 0 lc, .slice oa 2 oc] hB2 (by omega) (by omega) (by omega) Hf7.out
 have hxf:=((((((Hx7.out.set_ 0 (.int .i64 6)).set_ 1 (.bool false)).set_ 2 (.int .i64 0)).set_ 3 (.string ⟨#[]⟩)).set_ 4 (.slice la 0 lc)).set_ 5 (.slice oa 2 oc)).alloc (.cells #[.int .i64 6, .bool false, .int .i64 0, .string ⟨#[]⟩, .slice la 0 lc, .slice oa 2 oc] 39)
 exact bodyPost_ret (results_cell6 rfl rfl hxf) rfl ⟨q1,la,lc,oa,oc,rfl,q2⟩
theorem op_box {w w1:World} {cs:Array Value} {o' o'':Obj} (hb1:Below ((w.alloc (.cells cs 67)).alloc o').heap.size ((w.alloc (.cells cs 67)).alloc o') w1):Blk (w1.alloc o'') w.heap.size 67 cs:=by
 have h0:Blk ((w.alloc (.cells cs 67)).alloc o') w.heap.size 67 cs:=(Blk.new _ _ _).alloc _
 exact(h0.below hb1 h0.lt).alloc _
set_option maxRecDepth 100000 in
set_option maxHeartbeats 4000000 in
theorem obj_put (key:ByteArray) (hkey:key.size≤1000) (k':Int) (b':Bool) (n':Int) (t':ByteArray) (l':List Val) (o':List (ByteArray×Val)) (la' oa':Option Addr) (lc' oc':Nat) (w:World) (hN:Names w)
 (hv:HoldsV w w.heap.size (.mk k' b' n' t' l' o') [.int .i64 k', .bool b', .int .i64 n', .string t', .slice la' l'.length lc', .slice oa' o'.length oc']) (hb:(Val.mk k' b' n' t' l' o').bulk≤80000000):
 Calls Tryz.prog 68 #[.agg #[.int .i64 1, .string key, .int .i64 k', .bool b', .int .i64 n', .string t', .slice la' l'.length lc', .slice oa' o'.length oc']] w (MadePost [(kKey,tv key),(kOp,tv sPut),(kVal, .mk k' b' n' t' l' o')] w):=by
 obtain⟨n1,n2,n3,n4⟩:=hN
 obtain⟨j0,hj,hy0,hy1,hy2⟩:=info_parts mem_info
 have hO:=fun(W:World) a n c h=>vobj_ok [(kOp,tv sPut),(kVal, .mk k' b' n' t' l' o'),(kKey,tv key)] _ a n c W h (by
  have e1:nil0.size=0:=rfl
  have e2:kKey.size=3:=rfl
  have e3:kOp.size=2:=rfl
  have e4:kVal.size=5:=rfl
  have e6:sPut.size=3:=rfl
  have e7:(tv sPut).bulk=9:=rfl
  have e8:(tv key).bulk=6+key.size:=by simp[tv,Val.bulk,bulkL,bulkO]
  simp only[bulkO,bulkP,e2,e3,e4,e7,e8]
  omega) (put_obj key _)
 have hX:=fun W=>textual_calls sPut W
 have hY:=fun W=>textual_calls key W
 have hR:=fun(W:World)=>op_row W sPut
 have hVC: ∀W,Below w.heap.size w W→Calls Tryz.prog 72 #[.agg #[.int .i64 k', .bool b', .int .i64 n', .string t', .slice la' l'.length lc', .slice oa' o'.length oc']] W fun e w'=>Below W.heap.size W w'∧ ∃la2 lc2 oa2 oc2,e= .returned (.agg #[.int .i64 k', .bool b', .int .i64 n', .string t', .slice la2 l'.length lc2, .slice oa2 o'.length oc2])∧Fresh W.heap.size w' (dV (.mk k' b' n' t' l' o')) [.int .i64 k', .bool b', .int .i64 n', .string t', .slice la2 l'.length lc2, .slice oa2 o'.length oc2]:=by
  intro W hW
  refine(vcopy_calls _ _ W (HoldsV.more hW.size _ _ (hv.below hW)) (by omega)).mono ?_
  rintro e w' ⟨⟨cs,rfl,hl,hf⟩,hb'⟩
  have hh:=holdsV_of _ _ hf.now
  simp only[HoldsV]at hh
  obtain⟨la2,lc2,oa2,oc2,rfl,_,_⟩:=hh
  exact⟨hb',la2,lc2,oa2,oc2,rfl,hf⟩
 have HO:=Lib.hid hO
 have HX:=Lib.hid hX
 have HR:=Lib.hid hR
 have Hj:=Lib.hid hj
 have Hy0:=Lib.hid hy0
 have Hy1:=Lib.hid hy1
 have Hy2:=Lib.hid hy2
 have HY:=Lib.hid hY
 have HVC:=Lib.hid hVC
 have Hv:=Lib.hid hv
 clear hO hX hR hj hy0 hy1 hy2 hY hVC hv
 go_enter Tryz.func68,Tryz.ntmps68
 go_wp2_with (first
  |(go_at_call 99;(with_reducible refine(HX.out _).mono ?_);rintro e w1 ⟨rfl,hb1⟩;obtain⟨hc1,hf1⟩:=bcell hb1;obtain⟨hz0,hz1⟩:=size3 hb1;have HXd:=HX;clear HX)
  |(fail))
 have hq2:=below_two w (.cells #[.int .i64 1, .string key, .int .i64 k', .bool b', .int .i64 n', .string t', .slice la' l'.length lc', .slice oa' o'.length oc'] 67) (.cells zero6 39)
 have hx1:Blk (w1.alloc (.cells #[.string kOp, .int .i64 4, .bool false, .int .i64 0, .string sPut, .slice none 0 0, .slice none 0 0] 63)) (w.heap.size+1) 39 zero6:=res_box (w1:=w1) hb1 (Below.refl _ _)
 have ho1:Blk (w1.alloc (.cells #[.string kOp, .int .i64 4, .bool false, .int .i64 0, .string sPut, .slice none 0 0, .slice none 0 0] 63)) w.heap.size 67 #[.int .i64 1, .string key, .int .i64 k', .bool b', .int .i64 n', .string t', .slice la' l'.length lc', .slice oa' o'.length oc']:=op_box hb1
 have hw1:Below w.heap.size w (w1.alloc (.cells #[.string kOp, .int .i64 4, .bool false, .int .i64 0, .string sPut, .slice none 0 0, .slice none 0 0] 63)):=(hq2.trans (hb1.mono hq2.size)).alloc (by omega) _
 have Hq2:=Lib.hid hq2
 have Hx1:=Lib.hid hx1
 have Hw1:=Lib.hid hw1
 have Hb1:=Lib.hid hb1
 have Ho1:=Lib.hid ho1
 clear hq2 hx1 hw1 hb1 ho1
 go_at_call 72
 with_reducible refine(HVC.out _ Hw1.out).mono ?_
 rintro e w2 ⟨hb2,la2,lc2,oa2,oc2,rfl,hf2⟩
 have hs2:w1.heap.size+1≤w2.heap.size:=by have:=hb2.size;simpa using this
 have hx2:=(Hx1.out.below hb2 Hx1.out.lt).alloc (.cells #[.string kVal, .int .i64 k', .bool b', .int .i64 n', .string t', .slice la2 l'.length lc2, .slice oa2 o'.length oc2] 63)
 have ho2:=(Ho1.out.below hb2 Ho1.out.lt).alloc (.cells #[.string kVal, .int .i64 k', .bool b', .int .i64 n', .string t', .slice la2 l'.length lc2, .slice oa2 o'.length oc2] 63)
 have hw2:=(Hw1.out.trans (hb2.mono Hw1.out.size)).alloc (by omega) (.cells #[.string kVal, .int .i64 k', .bool b', .int .i64 n', .string t', .slice la2 l'.length lc2, .slice oa2 o'.length oc2] 63)
 have hbe:=hb2.alloc hb2.size (.cells #[.string kVal, .int .i64 k', .bool b', .int .i64 n', .string t', .slice la2 l'.length lc2, .slice oa2 o'.length oc2] 63)
 have hfe:=(dP_fresh (key:=kVal) hf2).later (alloc_below w2 (.cells #[.string kVal, .int .i64 k', .bool b', .int .i64 n', .string t', .slice la2 l'.length lc2, .slice oa2 o'.length oc2] 63))
 have Hx2:=Lib.hid hx2
 have Hw2:=Lib.hid hw2
 have Hb2:=Lib.hid hb2
 have Hbe:=Lib.hid hbe
 have Ho2:=Lib.hid ho2
 have Hf2:=Lib.hid hf2
 have Hfe:=Lib.hid hfe
 clear hx2 hw2 hb2 hbe ho2 hf2 hfe
 clear hc1 hf1 n1 n2 n3
 go_wp2_with (at_builtin;refine wpList_append_D (V:= .slice (some ⟨w1.heap.size,0,none⟩) 1 1) rfl (.tmp 19) (.tmp 24) 37 rfl Tryz.underlying37 Hj.out Hy0.out Hy1.out Hy2.out rfl (by omega) rfl (HR.out w1) (by simp) Hbe.out (dP_cells (kVal, .mk k' b' n' t' l' o')) Hfe.out rfl (reads_seven w2 _ _ _ _ _ _ _) (by simp[maxLen,dO]) (by simp[dO]) ?_;intro V6 w6 hrow6 hg6 hat6;obtain⟨_,e6,_⟩:=ocell (blk_app Ho2.out hg6 (HR.out w1) (by omega)))
 have hx6:=blk_app Hx2.out hg6 (HR.out w1) (by omega)
 have hw6:=below_app Hw2.out hg6 (HR.out w1) (by omega) (by simp;omega)
 have hs6:w2.heap.size+1≤w6.heap.size:=by have:=hg6.size;simpa using this
 have Hx6:=Lib.hid hx6
 have Hw6:=Lib.hid hw6
 have Hrow6:=Lib.hid hrow6
 have Hg6:=Lib.hid hg6
 have Hat6:=Lib.hid hat6
 clear hx6 hw6 hrow6 hg6 hat6
 go_at_call 99
 with_reducible refine(HY.out _).mono ?_
 rintro e w7 ⟨rfl,hb7⟩
 have hs7:=hb7.size
 have hx7:=(Hx6.out.below hb7 Hx6.out.lt).alloc (.cells #[.string kKey, .int .i64 4, .bool false, .int .i64 0, .string key, .slice none 0 0, .slice none 0 0] 63)
 have hw7:=(Hw6.out.trans (hb7.mono Hw6.out.size)).alloc (by omega) (.cells #[.string kKey, .int .i64 4, .bool false, .int .i64 0, .string key, .slice none 0 0, .slice none 0 0] 63)
 have hbe7:=hb7.alloc hb7.size (.cells #[.string kKey, .int .i64 4, .bool false, .int .i64 0, .string key, .slice none 0 0, .slice none 0 0] 63)
 have Hx7:=Lib.hid hx7
 have Hw7:=Lib.hid hw7
 have Hb7:=Lib.hid hb7
 have Hbe7:=Lib.hid hbe7
 clear hx7 hw7 hb7 hbe7
 go_wp2_with (at_builtin;refine wpList_append_D (V:=V6) rfl (.tmp 26) (.tmp 31) 37 rfl Tryz.underlying37 Hj.out Hy0.out Hy1.out Hy2.out rfl (by omega) rfl Hrow6.out (by omega) Hbe7.out (dP_cells (kKey,tv key)) (fresh_tvP _ _ kKey key) rfl (reads_seven w7 _ _ _ _ _ _ _) (by simp[maxLen,dO]) (by simp[dO]) ?_;intro V9 w9 hrow9 hg9 hat9)
 have hx9:=blk_app Hx7.out hg9 Hrow6.out (by omega)
 have hw9:=below_app Hw7.out hg9 Hrow6.out (by omega) (by simp;omega)
 have hs9:w7.heap.size+1≤w9.heap.size:=by have:=hg9.size;simpa using this
 obtain⟨a9,c9,rfl⟩:=hrow9.slice_n (n:=3) rfl
 have hN9:Holds w9 w9.heap.size (.row 7 (dO [(kOp,tv sPut),(kVal, .mk k' b' n' t' l' o'),(kKey,tv key)])) [.slice a9 3 c9]:=RowD.now (l:=dO [(kOp,tv sPut),(kVal, .mk k' b' n' t' l' o'),(kKey,tv key)]) hrow9
 have Hx9:=Lib.hid hx9
 have Hw9:=Lib.hid hw9
 have HN9:=Lib.hid hN9
 clear hx9 hw9 hN9
 clear hrow9 hg9 hat9
 with_reducible refine(HO.out _ _ _ _ HN9.out).mono ?_
 rintro e wa ⟨hba,la,lc,oa,oc,rfl,hfa⟩
 have hsa:=hba.size
 have hz4:w.heap.size+1<wa.heap.size:=by omega
 have hxa:=Hx9.out.below hba Hx9.out.lt
 obtain⟨r0,r1,r2,r3,r4,r5⟩:=vcell hxa
 have fz:=hxa.frozen
 have Hxa:=Lib.hid hxa
 have Hba:=Lib.hid hba
 have Hfa:=Lib.hid hfa
 clear hxa hba hfa
 clear n4 HO HXd HR HY HVC e6
 go_upto_region 8 with(fail)
 repeat go_step
 have hB2:=Hw9.out.trans (Hba.out.mono Hw9.out.size)
 obtain⟨q1,q2⟩:=fin_res (R:=w.heap.size+1) (o:= .cells #[.int .i64 6, .bool false, .int .i64 0, .string ⟨#[]⟩, .slice la 0 lc, .slice oa 3 oc] 39) [.int .i64 6, .bool false, .int .i64 0, .string ⟨#[]⟩, .slice la 0 lc, .slice oa 3 oc] hB2 (by omega) (by omega) (by omega) Hfa.out
 have hxf:=((((((Hxa.out.set_ 0 (.int .i64 6)).set_ 1 (.bool false)).set_ 2 (.int .i64 0)).set_ 3 (.string ⟨#[]⟩)).set_ 4 (.slice la 0 lc)).set_ 5 (.slice oa 3 oc)).alloc (.cells #[.int .i64 6, .bool false, .int .i64 0, .string ⟨#[]⟩, .slice la 0 lc, .slice oa 3 oc] 39)
 exact bodyPost_ret (results_cell6 rfl rfl hxf) rfl ⟨q1,la,lc,oa,oc,rfl,q2⟩
end Go.Proofs.YtackmnbpfbaemaaGreatDoor

namespace Go.Proofs.YtackmnbpfbaemaaGreatDoor
open Go Go.RowKit
def objO (p:POp):List (ByteArray×Val):=if p.k=1 then [(kKey,tv p.key),(kOp,tv sPut),(kVal,p.v)]else if p.k=2 then [(kKey,tv p.key),(kOp,tv sDel)]else [(kOp,tv sClear)]
theorem keyB_size {k:ByteArray} (h:keyB k=true):k.size≤64:=by
 unfold keyB at h
 simp only[Bool.and_eq_true,decide_eq_true_eq]at h
 exact h.2.1
theorem obj_calls (k:Int) (key:ByteArray) (k':Int) (b':Bool) (n':Int) (t':ByteArray) (l':List Val) (o':List (ByteArray×Val)) (la' oa':Option Addr) (lc' oc':Nat) (w:World) (hok:okQ ⟨k,key, .mk k' b' n' t' l' o'⟩) (hN:Names w)
 (hv:HoldsV w w.heap.size (.mk k' b' n' t' l' o') [.int .i64 k', .bool b', .int .i64 n', .string t', .slice la' l'.length lc', .slice oa' o'.length oc']) (hb:(Val.mk k' b' n' t' l' o').bulk≤80000000):
 Calls Tryz.prog 68 #[.agg #[.int .i64 k, .string key, .int .i64 k', .bool b', .int .i64 n', .string t', .slice la' l'.length lc', .slice oa' o'.length oc']] w (MadePost (objO ⟨k,key, .mk k' b' n' t' l' o'⟩) w):=by
 rcases hok with⟨h,hk,_⟩|⟨h,hk⟩|h<;>simp only at h
 · subst h
   exact obj_put key (by have:=keyB_size hk;simp only at this;omega) k' b' n' t' l' o' la' oa' lc' oc' w hN hv hb
 · subst h
   exact obj_del key (by have:=keyB_size hk;simp only at this;omega) _ _ _ _ _ _ _ _ _ _ w hN
 · subst h
   exact obj_clear key _ _ _ _ _ _ _ _ _ _ w hN
def rowQ (l:List POp) (q:Nat):List D:=dL ((l.take q).map objQ)
structure LI (w:World) (g:Nat) (l:List POp) (q:Nat) (wr:World) (V:Value):Prop where
 below:Below w.heap.size w wr
 res:Blk wr w.heap.size 39 zero6
 var:Blk wr g 39 #[.int .i64 5, .bool false, .int .i64 0, .string ⟨#[]⟩,V, .slice none 0 0]
 row:RowD (g+1) 39 6 wr (rowQ l q) V
 lt:w.heap.size<g
def ListPost (l:List POp) (w:World) (e:Ending) (w':World):Prop:=Below w.heap.size w w'∧
 ∃la lc,e= .returned (.tuple #[.agg #[.int .i64 5, .bool false, .int .i64 0, .string ⟨#[]⟩, .slice la l.length lc, .slice none 0 0], .int .i64 0])∧Fresh w.heap.size w' (dV (listQ l)) [.int .i64 5, .bool false, .int .i64 0, .string ⟨#[]⟩, .slice la l.length lc, .slice none 0 0]
set_option maxRecDepth 100000 in
set_option maxHeartbeats 8000000 in
theorem patList_calls (l:List POp) (a:Option Addr) (n c:Nat) (w:World) (hT:Tabs w) (hN:Names w) (h:Holds w w.heap.size (.row 8 (dQs l)) [.slice a n c]) (hb:bulkQ l≤50000000) (hin:inQ l) (hm:mayOps none l=0):
 Calls Tryz.prog 43 #[.slice a n c] w (ListPost l w):=by
 have hlq:=bulkQ_len l
 have hn:=h.row_len
 rw[dQs_len]at hn
 subst hn
 obtain⟨j0,hj,hy0,hy1,hy2⟩:=info_parts val_info
 have hb0:Below w.heap.size w (w.alloc (.cells zero6 39)):=(Below.refl _ _).alloc (Nat.le_refl _) _
 have hM:=patMay_calls l a l.length c (w.alloc (.cells zero6 39)) (hT.below hb0) ((h.below hb0).more hb0.size) (by omega) hin
 rw[hm]at hM
 have hok:=mayOps_all hm
 have HM:=Lib.hid hM
 have HT:=Lib.hid hT
 have HN:=Lib.hid hN
 have H:=Lib.hid h
 have Hok:=Lib.hid hok
 have Hb0:=Lib.hid hb0
 have Hj:=Lib.hid hj
 have Hy0:=Lib.hid hy0
 have Hy1:=Lib.hid hy1
 have Hy2:=Lib.hid hy2
 have Hin:=Lib.hid hin
 clear hM hT hN h hok hb0 hj hy0 hy1 hy2 hin
 clear hm
 go_enter Tryz.func43,Tryz.ntmps43
 go_wp2_with (go_at_call 61;(with_reducible refine(HM.out).mono ?_);rintro e w1 ⟨rfl,hb1⟩)
 have hz1:w.heap.size<w1.heap.size:=by have:=hb1.size;simp at this;omega
 have hI0:LI w w1.heap.size l 0 (w1.alloc (.cells #[.int .i64 5, .bool false, .int .i64 0, .string ⟨#[]⟩, .slice none 0 0, .slice none 0 0] 39)) (.slice none 0 0):=
  ⟨(Hb0.out.trans (hb1.mono Hb0.out.size)).alloc (by omega) _,((Blk.new w 39 zero6).below hb1 (Blk.new w 39 zero6).lt).alloc _,Blk.new _ _ _,by simpa[rowQ,dL]using RowD.nil _ _ _ _,hz1⟩
 obtain⟨w2,hw2⟩: ∃w2,w1.alloc (.cells #[.int .i64 5, .bool false, .int .i64 0, .string ⟨#[]⟩, .slice none 0 0, .slice none 0 0] 39)=w2:=⟨_,rfl⟩
 rw[hw2]at hI0 ⊢
 have HI0:=Lib.hid hI0
 clear hI0 hw2 hb1
 generalize w1.heap.size=g at*
 go_loopw [17] (fun i wr=> ∃q:Nat,i= .int .i64 q∧q≤l.length∧ ∃V,Hid (LI w g l q wr V)) (fun i _=>l.length - (intOf i).toNat)
 case atStart=>exact⟨0,rfl,Nat.zero_le _,_,HI0⟩
 case round=>
  obtain⟨q,rfl,hq,V,hI⟩:=hrel
  clear HI0
  by_cases hlt:q<l.length
  · obtain⟨p,hp⟩: ∃p,l[q]? =some p:=⟨_,List.getElem?_eq_getElem hlt⟩
    have hmem:=List.mem_of_getElem? hp
    have hbq:=bulkQ_mem hmem
    have hokp:=Hok.out p hmem
    have htk:rowQ l q++ [dV (objQ p)]=rowQ l (q+1):=by
     unfold rowQ;rw[List.take_add_one,hp,dL_map,dL_map];simp
    obtain⟨k,key,⟨k',b',n',t',l',o'⟩⟩:=p
    simp only at hbq
    have hbw:=hI.out.below
    have hz:=hbw.size
    obtain⟨gl,off,rfl,hgl,la',lc',oa',oc',hv,c0,c1,c2,c3,c4,c5,c6,c7⟩:=opQ_at ((H.out.below hbw).more hz) hp
    obtain⟨wi,hwi⟩: ∃wi,wr.alloc (.cells #[.int .i64 k, .string key, .int .i64 k', .bool b', .int .i64 n', .string t', .slice la' l'.length lc', .slice oa' o'.length oc'] 67)=wi:=⟨_,rfl⟩
    have hbi:Below wr.heap.size wr wi:=hwi▸alloc_below _ _
    have hxi:Blk wi wr.heap.size 67 #[.int .i64 k, .string key, .int .i64 k', .bool b', .int .i64 n', .string t', .slice la' l'.length lc', .slice oa' o'.length oc']:=by rw[←hwi];exact Blk.new _ _ _
    have hxv:=hI.out.var.below hbi hI.out.var.lt
    have hrow:=hI.out.row.below hbi
    have Hres:=Lib.hid hI.out.res
    obtain⟨aV,cV,rfl⟩:=hI.out.row.slice
    have hgr:gl<wr.heap.size:=hgl
    have hgv:g<wi.heap.size:=hxv.lt
    have hq1:(q:Int)<(l.length:Int):=by omega
    have hwi2:Below w.heap.size w wi:=hbw.trans (hbi.mono hz)
    have hC: ∀W,Below wi.heap.size wi W→Calls Tryz.prog 68 #[.agg #[.int .i64 k, .string key, .int .i64 k', .bool b', .int .i64 n', .string t', .slice la' l'.length lc', .slice oa' o'.length oc']] W (MadePost (objO ⟨k,key, .mk k' b' n' t' l' o'⟩) W):=fun W hW=>by
     have hWr:=hbi.trans (hW.mono hbi.size)
     exact obj_calls k key k' b' n' t' l' o' la' oa' lc' oc' W hokp (HN.out.below (hwi2.trans (hW.mono hwi2.size))) ((hv.below hWr).more hWr.size) (by omega)
    have Hp:=Lib.hid hp
    have Hv:=Lib.hid hv
    have Hbi:=Lib.hid hbi
    have Hbw:=Lib.hid hbw
    have HC:=Lib.hid hC
    have Hrow:=Lib.hid hrow
    have Htk:=Lib.hid htk
    have Hwi2:=Lib.hid hwi2
    clear hp hv hbi hbw hC hrow htk hwi2
    clear hmem hokp
    go_upto_region 8 with(fail)
    clear hwi
    obtain⟨x0,x1,x2,x3,x4,x5,x6,x7⟩:=ocell hxi
    obtain⟨_,_,_,_,y4,_⟩:=vcell hxv
    have hdl:(rowQ l q).length=q:=by unfold rowQ;rw[dL_len,List.length_map,List.length_take];omega
    have hLo:Hid ((rowQ l q).length+1≤maxLen∧((rowQ l q).length+1)*88≤140737488355328):=by rw[hdl];exact⟨by simp only[maxLen];omega,by omega⟩
    have Hxi:=Lib.hid hxi
    have Hxv:=Lib.hid hxv
    clear hxi hxv
    clear c0 c1 c2 c3 c4 c5 c6 c7 hdl
    go_region_law (first
     |(refine step_append_D (d:=dV (objQ ⟨k,key, .mk k' b' n' t' l' o'⟩)) (V:= .slice aV (rowQ l q).length cV) (by rfl) (.tmp 22) (.tmp 25) 36 (by rfl) Tryz.underlying36 Hj.out Hy0.out Hy1.out Hy2.out rfl (by omega) (by rfl) Hrow.out (by omega) Hbe.out (dV_cells _) Hfe.out (by rfl) (reads_six w4 _ _ _ _ _ _) hLo.out.1 hLo.out.2 ?_;intro V6 w6 hrow6 hg6 hat6;rw[Htk.out]at hrow6;have hx6:=blk_app Hxv4.out hg6 Hrow.out (by omega);have hw6:=below_app Hw4.out hg6 Hrow.out (by omega) Hw4.out.size;have hr6:=blk_app Hr4.out hg6 Hrow.out (by omega);have e6:=hx6.cell 4;have f6:=hx6.frozen 4;obtain⟨a6,c6,rfl⟩:=hrow6.slice;have HG6:=Lib.hid (And.intro hrow6 (And.intro hx6 (And.intro hw6 hr6)));clear hrow6 hg6 hat6 hx6 hw6 hr6)
     |(go_simp;go_at_call 68;refine(HC.out _ (Below.drew (Below.refl _ _))).mono ?_;rintro e w4 ⟨hb4,la4,lc4,oa4,oc4,rfl,hf4⟩;have hbr:Below wi.heap.size wi w4:=(Below.drew (Below.refl _ _)).trans hb4;have hxv4:=Hxv.out.below hbr Hxv.out.lt;have g3:=hxv4.cell 4;have g4:=(hxv4.alloc (.cells #[.int .i64 6, .bool false, .int .i64 0, .string ⟨#[]⟩, .slice la4 0 lc4, .slice oa4 (objO ⟨k,key, .mk k' b' n' t' l' o'⟩).length oc4] 39)).cell 4;have Hxv4:=Lib.hid (hxv4.alloc (.cells #[.int .i64 6, .bool false, .int .i64 0, .string ⟨#[]⟩, .slice la4 0 lc4, .slice oa4 (objO ⟨k,key, .mk k' b' n' t' l' o'⟩).length oc4] 39));have Hr4:=Lib.hid ((((Hres.out.below Hbi.out Hres.out.lt).below hbr (by omega))).alloc (.cells #[.int .i64 6, .bool false, .int .i64 0, .string ⟨#[]⟩, .slice la4 0 lc4, .slice oa4 (objO ⟨k,key, .mk k' b' n' t' l' o'⟩).length oc4] 39));have Hw4:=Lib.hid ((Hwi2.out.trans (hbr.mono Hwi2.out.size)).alloc (Nat.le_trans Hwi2.out.size hbr.size) (.cells #[.int .i64 6, .bool false, .int .i64 0, .string ⟨#[]⟩, .slice la4 0 lc4, .slice oa4 (objO ⟨k,key, .mk k' b' n' t' l' o'⟩).length oc4] 39));have Hbe:=Lib.hid (hbr.alloc hbr.size (.cells #[.int .i64 6, .bool false, .int .i64 0, .string ⟨#[]⟩, .slice la4 0 lc4, .slice oa4 (objO ⟨k,key, .mk k' b' n' t' l' o'⟩).length oc4] 39));have hfe:Fresh wi.heap.size (w4.alloc (.cells #[.int .i64 6, .bool false, .int .i64 0, .string ⟨#[]⟩, .slice la4 0 lc4, .slice oa4 (objO ⟨k,key, .mk k' b' n' t' l' o'⟩).length oc4] 39)) (dV (objQ ⟨k,key, .mk k' b' n' t' l' o'⟩)) [.int .i64 6, .bool false, .int .i64 0, .string ⟨#[]⟩, .slice la4 0 lc4, .slice oa4 (objO ⟨k,key, .mk k' b' n' t' l' o'⟩).length oc4]:=hf4.later (alloc_below w4 (.cells #[.int .i64 6, .bool false, .int .i64 0, .string ⟨#[]⟩, .slice la4 0 lc4, .slice oa4 (objO ⟨k,key, .mk k' b' n' t' l' o'⟩).length oc4] 39));have Hfe:=Lib.hid hfe;clear hb4 hf4 hbr hxv4 hfe))
    all_goals
     obtain⟨k1,k2,k3,k4⟩:=HG6.out
     have HN:Hid (LI w g l (q+1) (w6.setCell ⟨g,4,none⟩ (.slice a6 (rowQ l (q+1)).length c6)) (.slice a6 (rowQ l (q+1)).length c6)):=
      ⟨k3.setCell (by simp;omega) _,k4.far (by simp;omega) _,k2.set_ 4 _,k1.keep (by simp[World.setCell]) (fun i h1 _=>Below.heap_setCell _ _ _ _ (by simp;omega)),hz1⟩
     clear k1 k2 k3 k4 HG6 Hfe Hbe Hxv4 Hw4 Hr4
     go_wp2
     go_roundw
     case rel=>exact⟨q+1,by go_num,by omega,_,HN⟩
     case measure=>simp only[intOf];omega
  · obtain rfl:q=l.length:=by omega
    have hln:(rowQ l l.length).length=l.length:=by unfold rowQ;rw[dL_len,List.length_map,List.take_length]
    obtain⟨aV,cV,rfl⟩:=hI.out.row.slice_n hln
    obtain⟨i1,i2,i3,i4,i5⟩:=hI.out
    obtain⟨y0,y1,y2,y3,y4,y5⟩:=vcell i3
    obtain⟨r0,r1,r2,r3,r4,r5⟩:=vcell i2
    have fz:=i2.frozen
    have hq:=i4.close
    have hgw:=i3.lt
    have I1:=Lib.hid i1
    have I2:=Lib.hid i2
    have I3:=Lib.hid i3
    have I4:=Lib.hid i4
    have Hq:=Lib.hid hq
    have Hln:=Lib.hid hln
    clear i1 i2 i3 i4 hq hln
    clear hI
    go_upto_region 10 with(fail)
    repeat go_step
    obtain⟨a',c',e',_,hf,_⟩:=Hq.out
    rw[Hln.out]at e' hf
    obtain⟨rfl,rfl⟩:aV=a'∧cV=c':=by simpa using e'
    have hxf:=((((((I2.out.set_ 0 (.int .i64 5)).set_ 1 (.bool false)).set_ 2 (.int .i64 0)).set_ 3 (.string ⟨#[]⟩)).set_ 4 (.slice aV l.length cV)).set_ 5 (.slice none 0 0))
    have hbf:=setMany_below [.int .i64 5, .bool false, .int .i64 0, .string ⟨#[]⟩, .slice aV l.length cV, .slice none 0 0] I1.out (Nat.le_refl _) (o:=0)
    have hff:Fresh w.heap.size (setMany wr w.heap.size 0 [.int .i64 5, .bool false, .int .i64 0, .string ⟨#[]⟩, .slice aV l.length cV, .slice none 0 0]) (dV (listQ l)) [.int .i64 5, .bool false, .int .i64 0, .string ⟨#[]⟩, .slice aV l.length cV, .slice none 0 0]:=
     fresh_lv (by unfold rowQ at hf;rw[List.take_length]at hf;exact hf.keep (by omega) (by rw[setMany_size];exact Nat.le_refl _) fun p p1 p2=>World.cell?_of_block (setMany_far _ _ _ _ _ (by omega)))
    exact bodyPost_ret (results_cell6_t rfl rfl hxf) rfl ⟨hbf,aV,cV,rfl,hff⟩
end Go.Proofs.YtackmnbpfbaemaaGreatDoor

namespace Go.Proofs.YtackmnbpfbaemaaGreatDoor
open Go Go.RowKit
set_option maxRecDepth 100000 in
set_option maxHeartbeats 1000000 in
theorem rFrame_calls (k:UInt8) (hk:k≠0) (k0:Int) (b0:Bool) (n0:Int) (t0:ByteArray) (l0:List Val) (o0:List (ByteArray×Val)) (la oa:Option Addr) (lc oc:Nat) (w:World)
 (hV:HoldsV w w.heap.size (.mk k0 b0 n0 t0 l0 o0) [.int .i64 k0, .bool b0, .int .i64 n0, .string t0, .slice la l0.length lc, .slice oa o0.length oc]) (hb:(Val.mk k0 b0 n0 t0 l0 o0).bulk≤100000000) (hm:mayV (.mk k0 b0 n0 t0 l0 o0) 1=0) (hi:inV (.mk k0 b0 n0 t0 l0 o0)):
 Calls Tryz.prog 12 #[.int .u8 k.toNat, .agg #[.int .i64 k0, .bool b0, .int .i64 n0, .string t0, .slice la l0.length lc, .slice oa o0.length oc]] w (BytesPost (sealL (k::textV (.mk k0 b0 n0 t0 l0 o0))) w):=by
 have hok:=okV_of _ 1 hm hi
 have hlen:=textV_len _ hok
 have hb1:=(Below.refl w.heap.size w).alloc (Nat.le_refl _) (.cells #[.int .i64 k0, .bool b0, .int .i64 n0, .string t0, .slice la l0.length lc, .slice oa o0.length oc] 39)
 have hX:=rtext_calls _ _ (w.alloc (.cells #[.int .i64 k0, .bool b0, .int .i64 n0, .string t0, .slice la l0.length lc, .slice oa o0.length oc] 39)) 1 (HoldsV.more hb1.size _ _ (hV.below hb1)) hb hm hi
 obtain⟨S,hS⟩: ∃S:ByteArray,⟨(textV (.mk k0 b0 n0 t0 l0 o0)).toArray⟩=S:=⟨_,rfl⟩
 have hSe:textV (.mk k0 b0 n0 t0 l0 o0)=S.data.toList:=by rw[←hS]
 rw[hS]at hX
 have hFr:=fun(W:World) a n c hh=>rframe_calls k hk S.data.toList a n c W hh (by rw[←hSe];omega)
 rw[hSe]
 generalize sealL (k::S.data.toList)=L at hFr ⊢
 have HX:=Lib.hid hX
 have HFr:=Lib.hid hFr
 have HS:=Lib.hid hS
 have HSe:=Lib.hid hSe
 have Hb1:=Lib.hid hb1
 have HV:=Lib.hid hV
 clear hX hFr hS hSe hb1 hV
 clear hm hi hok hlen hb
 go_enter Tryz.func12,Tryz.ntmps12
 go_wp2_with (first
  |(go_at_call 30;(with_reducible refine(HX.out).mono ?_);rintro e w2 ⟨rfl,hb2⟩)
  |(refine wpList_to_bytes rfl 9 25 5 (.tmp 10) rfl Tryz.underlying9 Tryz.underlying25 Tryz.underlying5 S rfl ?_;intro cap w3 hb3 hf3)
  |(go_at_call 29;(with_reducible refine(HFr.out _ _ _ _ hf3.now).mono ?_);rintro e w4 ⟨a2,c2,rfl,hf4,hb4⟩))
 go_ret
 have z2:w.heap.size≤w2.heap.size:=Nat.le_trans Hb1.out.size hb2.size
 have z3:=hb3.size
 exact⟨a2,c2,rfl,hf4.keep (by omega) (Nat.le_refl _) (fun _ _ _=>rfl),((Hb1.out.trans (hb2.mono Hb1.out.size)).trans (hb3.mono z2)).trans (hb4.mono (by omega))⟩
end Go.Proofs.YtackmnbpfbaemaaGreatDoor

namespace Go.Proofs.YtackmnbpfbaemaaGreatDoor
open Go.RowKit Go.ChangeShapes Go.WideShapes Go.ChangeAt
theorem tab_pow10 {W:World} (h:Lib.VarReads Tryz.prog W "internal/strconv.uint64pow10" (Lib.tabData .u64 Lib.pow10Tab)):Lib.TabIs Tryz.prog W "internal/strconv.uint64pow10" .u64 Lib.pow10Tab:=by
 obtain⟨g',t',cs,fuel,p,hg',ht',hvar,hd⟩:=h
 have hg:Tryz.prog.globalNamed "internal/strconv.uint64pow10" =some 3:=by kernel_rfl
 have hty:(Tryz.prog.globals[3]?).map (·.type)=some 287:=by kernel_rfl
 obtain rfl:=Option.some.inj (hg.symm.trans hg')
 obtain rfl:=Option.some.inj (hty.symm.trans ht')
 unfold Lib.TabIs
 rw[hvar,←Lib.cells_of_tab Tryz.underlying287 Tryz.underlying22 (by kernel_rfl) (by kernel_rfl) hd]
theorem names_of {W:World} (h:Lib.VarReads Tryz.prog W "commonplace/patch.names" Rows.laid_commonplace_patch_names):Names W:=by
 obtain⟨g',t',cs,fuel,p,hg',ht',hvar,hd⟩:=h
 have hg:Tryz.prog.globalNamed "commonplace/patch.names" =some 0:=by kernel_rfl
 have hty:(Tryz.prog.globals[0]?).map (·.type)=some 168:=by kernel_rfl
 obtain rfl:=Option.some.inj (hg.symm.trans hg')
 obtain rfl:=Option.some.inj (hty.symm.trans ht')
 obtain⟨xs,m,_,hx,hl,hxl,hf⟩:=DataW.trod_array Tryz.underlying168 hd
 have hc1:Tryz.prog.cellsOf 9=1:=by kernel_rfl
 have hc4:Tryz.prog.cellsOf 168=4:=by kernel_rfl
 rw[hc4]at hl
 have hxs:=congrArg Prod.fst hx
 simp only[Rows.laid_commonplace_patch_names,DataW.agg.injEq]at hxs
 have key: ∀i,i<4→ ∀l:List UInt8,([[], [112,117,116], [100,101,108], [99,108,101,97,114]]:List (List UInt8))[i]? =some l→cs[i]? =some (.string ⟨l.toArray⟩):=by
  intro i hi l hl'
  have h1:=hf i hi
  rw[hc1,Nat.mul_one]at h1
  have h2:((cs.toList.drop i).take 1)= [cs[i]'(by simpa[Array.length_toList]using(by omega:i<cs.toList.length))]:=by
   rw[List.drop_eq_getElem_cons (by omega)]
   simp
  rw[h2,List.getElem?_eq_getElem (by omega)]at h1
  obtain⟨s,hs,hx1,_⟩:=DataW.trod_string Tryz.underlying9 h1
  simp only[List.cons.injEq,and_true]at hs
  have h3:(xs.map (·.1))[i]? =some (DataW.lit (.string s.data.toList):DataW Unit):=by
   rw[List.getElem?_map,List.getElem?_eq_getElem (by omega),Option.map_some,hx1]
  rw[←hxs]at h3
  have h4:s.data.toList=l:=by
   rcases(by omega:i=0∨i=1∨i=2∨i=3)with rfl|rfl|rfl|rfl<;>exact(Lit.string.inj (DataW.lit.inj (Option.some.inj h3))).symm.trans (Option.some.inj hl')
  have h5:i<cs.size:=by rw[←Array.length_toList];omega
  rw[Array.getElem?_eq_getElem h5,hs]
  have h6:s=⟨l.toArray⟩:=by
   apply ByteArray.ext
   apply Array.ext'
   rw[h4]
  rw[h6]
 unfold World.var? at hvar
 rw[hg]at hvar
 simp only[Option.bind_some]at hvar
 split at hvar
 · rename_i cs' t' fz hh
   simp only[Option.some.injEq]at hvar
   subst hvar
   have hcell: ∀i,W.cell? ⟨0,i,none⟩=cs'[i]? :=fun i=>by unfold World.cell?;rw[hh];rfl
   exact⟨(hcell 1).trans (key 1 (by omega) _ rfl),(hcell 2).trans (key 2 (by omega) _ rfl),(hcell 3).trans (key 3 (by omega) _ rfl),(Array.getElem?_eq_some_iff.1 hh).1⟩
 · cases hvar
theorem tabs_of {W:World} (h:laidMetH Tryz.prog Rows.pullReadsRow.laid W):Tabs W:=by
 have hL:laidMet Tryz.prog Rows.pullReadsRow.laid W:=by
  have:=(laidMetH_iff.1 h).1
  have e:(Rows.pullReadsRow.laid.filter fun x=>x.2.handleName?.isNone)=Rows.pullReadsRow.laid:=by kernel_rfl
  rwa [e]at this
 have hu:Lib.Utf8Tabs 1 2 W:=
  utf8Tabs_of_readsT (U8Types.of196 Tryz.lays196) ⟨by kernel_rfl,by kernel_rfl,by kernel_rfl,by kernel_rfl,by kernel_rfl,by kernel_rfl,by kernel_rfl⟩
   (Lib.laidMet.reads hL (n:= "unicode/utf8.first") (d:=Lib.firstData) (by rw[←laid_first];simp[Rows.pullReadsRow])) (Lib.laidMet.reads hL (n:= "unicode/utf8.acceptRanges") (d:=Lib.acceptData) (by rw[←laid_accept];simp[Rows.pullReadsRow]))
 have hp:=tab_pow10 (Lib.laidMet.reads hL (n:= "internal/strconv.uint64pow10") (d:=Lib.tabData .u64 Lib.pow10Tab) (by rw[←laid_pow10];simp[Rows.pullReadsRow]))
 have h64:Lib.VarReads Tryz.prog W "math/bits.deBruijn64tab" Rows.laid_math_bits_deBruijn64tab:=Lib.laidMet.reads hL (by simp[Rows.pullReadsRow])
 refine⟨?_,hu,hp⟩
 obtain⟨g',t',cs,fuel,p,hg',ht',hvar,hd⟩:=h64
 have hg:Tryz.prog.globalNamed "math/bits.deBruijn64tab" =some 6:=by kernel_rfl
 obtain rfl:=Option.some.inj (hg.symm.trans hg')
 unfold World.var? at hvar
 rw[hg]at hvar
 simp only[Option.bind_some]at hvar
 rcases Nat.lt_or_ge 6 W.heap.size with h'|h'
 · omega
 · rw[Array.getElem?_eq_none h']at hvar
   cases hvar
theorem names_laid {W:World} (h:laidMetH Tryz.prog Rows.pullReadsRow.laid W):Names W:=by
 have hL:laidMet Tryz.prog Rows.pullReadsRow.laid W:=by
  have:=(laidMetH_iff.1 h).1
  have e:(Rows.pullReadsRow.laid.filter fun x=>x.2.handleName?.isNone)=Rows.pullReadsRow.laid:=by kernel_rfl
  rwa [e]at this
 exact names_of (Lib.laidMet.reads hL (by simp[Rows.pullReadsRow]))
end Go.Proofs.YtackmnbpfbaemaaGreatDoor

namespace Go.Proofs.YtackmnbpfbaemaaGreatDoor
open Go.RowKit Go.ChangeShapes Go.WideShapes Go.ChangeAt
theorem i64_in {n:Int} (hwf:(Lit.int .i64 n).wf=true): -9223372036854775808≤n∧n≤9223372036854775807:=by
 have h1:IntKind.i64.min= -9223372036854775808:=by decide
 have h2:IntKind.i64.max=9223372036854775807:=by decide
 simp only[Lit.wf,h1,h2,Bool.and_eq_true,decide_eq_true_eq]at hwf
 exact hwf
section
variable {H:Type} {enc:TypeId×Value→H} {P:Program}
theorem post_of_below {f:Func} {s:ChangeSpec} {apart fresh handsOn again:Bool} {W W':World} {args:Array Value} {v:Value} {ds gs:List (DataW H)} {before pa pv:List MemPlace}
 (hW:DataW.Whole enc P f.params.toList s.vars apart W args.toList ds gs before)
 (hres: ∀(b:Nat) (sp:Nat→Bool) (hd:Bool),DataW.TrodAll enc P W' b sp hd f.resultTypes.toList (v.resultList f.resultTypes.size) (s.fn H (ds++gs)).results [])
 (hargs: ∀sp:Nat→Bool,(∀p ∈ before,sp p.block=true)→DataW.TrodAll enc P W' 0 sp true f.params.toList args.toList (s.fn H (ds++gs)).args pa)
 (hvars: ∀sp:Nat→Bool,(∀p ∈ before,sp p.block=true)→DataW.TrodVars enc P W' sp s.vars (s.fn H (ds++gs)).vars pv)
 (hps:before=pa++pv) (hb:Below W.heap.size W W')
 (hok: ∀(j:Nat) (t:TypeId) (r:Value),f.resultTypes[j]? =some t→(v.resultList f.resultTypes.size)[j]? =some r→Value.okWide P W' .any 0 t r):
 s.post enc P f apart fresh handsOn again W args v W':=by
 have hlt: ∀p ∈ before,p.block<W.heap.size:=fun p hp=>hW.lt p hp
 have hold: ∀p ∈ before,(fun b=>decide (b<W.heap.size)) p.block=true:=fun p hp=>by simpa using hlt p hp
 refine⟨ds,gs,before, [],pa,pv,hW,hres _ _ _,hargs _ hold,hvars _ hold,World.keptBut_mono (fun p hp=>⟨hp, ?_⟩) (hb.frame (· ∈ before)),fun _=> ?_⟩
 · rw[hps,List.mem_append]at hp
   exact Or.inr hp
 · obtain⟨_,_,_,_,_,hz,hn⟩:=hW
   refine⟨hok,_,_,([]++pa)++pv,⟨[]++pa,pv,trodAll_append (hargs _ (fun _ _=>rfl)) (hres _ _ _),hvars _ (fun _ _=>rfl),rfl, ?_, ?_⟩, ?_⟩
   · intro b off hp
     have hin:MemPlace.cell b off ∈ before:=by rw[hps];simpa using hp
     rw[hb.frozen (hlt _ hin)]
     exact hz b off hin
   · intro ha
     have:=hn ha
     rw[hps]at this
     simpa using this
   · intro p hp _
     rw[hps]
     simpa using hp
end
end Go.Proofs.YtackmnbpfbaemaaGreatDoor
