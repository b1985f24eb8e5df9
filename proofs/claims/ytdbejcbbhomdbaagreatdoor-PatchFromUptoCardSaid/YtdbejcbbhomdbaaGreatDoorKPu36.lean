/- Parts: The last step of a law's row: the answer is true and the arguments read as they did. No condition. -/
import Derived.ChangeSame
import Derived.WideKeyArgs
import Derived.OpenShut
import Derived.Test.YtdbejcbbhomdbaaGreatDoorKPu31
import Derived.Test.YtdbejcbbhomdbaaGreatDoorKPu33
set_option maxHeartbeats 20000000
set_option maxRecDepth 100000
namespace Go.Proofs.YtdbejcbbhomdbaaGreatDoor
open Go Go.RowKit
def F5 (w:World):Prop:=w.cell? ⟨0,1,none⟩=some (.string Gw)/\w.cell? ⟨0,2,none⟩=some (.string Ia)/\w.cell? ⟨0,3,none⟩=some (.string Ez)/\0<w.heap.size
theorem F5.below {w w':World} (h:F5 w) (hb:Below w.heap.size w w'):F5 w':=
 ⟨(hb.cell h.2.2.2).trans h.1,(hb.cell h.2.2.2).trans h.2.1,(hb.cell h.2.2.2).trans h.2.2.1,Nat.lt_of_lt_of_le h.2.2.2 hb.size⟩
theorem Vm:Cn [(G2,tv Ez)] []=some [(G2,tv Ez)]:=by rfl
theorem Zw (key:ByteArray):Cn [(G2,tv Ia),(Dc,tv key)] []=some [(Dc,tv key),(G2,tv Ia)]:=by kernel_rfl
theorem Aaf (key:ByteArray) (v:Val):Cn [(G2,tv Gw),(Gd,v),(Dc,tv key)] []=some [(Dc,tv key),(G2,tv Gw),(Gd,v)]:=by kernel_rfl
theorem Wb (key:ByteArray) (c0:Int) (c1:Bool) (c2:Int) (c3:ByteArray) (c4a c5a:Option Addr) (c4n c4c c5n c5c:Nat) (w:World) (hN:F5 w):
 Calls Tryz.prog 44 #[.agg #[.int .i64 3,.string key,.int .i64 c0,.bool c1,.int .i64 c2,.string c3,.slice c4a c4n c4c,.slice c5a c5n c5c]] w (G4 [(G2,tv Ez)] w):=by
 obtain⟨n1,n2,n3,n4⟩:=hN;have HO:=qz (fun(W:World) a n c h=>Ql [(G2,tv Ez)] _ a n c W h (by decide) Vm);have HX:=qz (fun W=>Do Ez W);have HR:=qz (fun(W:World)=>T4 W Ez);go_enter Tryz.func44,Tryz.ntmps44;go_wp2_with (first
  |(go_at_call 78;(with_reducible refine(HX.out _).mono ?_);rintro e w1 ⟨rfl,hb1⟩;obtain⟨hc1,hf1⟩:=D6 hb1;obtain⟨hz0,hz1⟩:=Zh hb1)
  |(fail))
 (with_reducible refine(HO.out _ _ _ _ (HR.out w1).now).mono ?_);rintro e w2 ⟨hb2,la,lc,oa,oc,rfl,hf2⟩;have hz2:w1.heap.size<w2.heap.size:=by have:=hb2.size;simp at this;omega
 have hz4:w.heap.size+1<w2.heap.size:=by omega
 have hx2:=Qc hb1 hb2;obtain⟨r0,r1,r2,r3,r4,r5⟩:=Co hx2;have fz:=hx2.frozen;obtain⟨Hx2,Hb1,Hb2,Hf2⟩:=hid4 hx2 hb1 hb2 hf2;clear hx2 hb1 hb2 hf2;clear hc1 hf1 n1 n2 n3 n4 HO HX HR;go_upto_region 8 with(fail)
 repeat go_step
 have hB2:Below w.heap.size w w2:=(((((Below.refl w.heap.size w).alloc (Nat.le_refl _) _).alloc (by simp) _).trans (Hb1.out.mono (by simp;omega))).alloc (by omega) _).trans (Hb2.out.mono (by simp;omega));obtain⟨q1,q2⟩:=Pw (R:=w.heap.size+1) (o:=.cells #[.int .i64 6,.bool false,.int .i64 0,.string ⟨#[]⟩,.slice la 0 lc,.slice oa 1 oc] 33) [.int .i64 6,.bool false,.int .i64 0,.string ⟨#[]⟩,.slice la 0 lc,.slice oa 1 oc] hB2 (by omega) (by omega) (by simp;omega) Hf2.out;have hxf:=((((((Hx2.out.set_ 0 (.int .i64 6)).set_ 1 (.bool false)).set_ 2 (.int .i64 0)).set_ 3 (.string ⟨#[]⟩)).set_ 4 (.slice la 0 lc)).set_ 5 (.slice oa 1 oc)).alloc (.cells #[.int .i64 6,.bool false,.int .i64 0,.string ⟨#[]⟩,.slice la 0 lc,.slice oa 1 oc] 33);exact bodyPost_ret (F0 rfl rfl hxf) rfl ⟨q1,la,lc,oa,oc,rfl,q2⟩
theorem Z8 (key:ByteArray) (hkey:key.size<=1000) (c0:Int) (c1:Bool) (c2:Int) (c3:ByteArray) (c4a c5a:Option Addr) (c4n c4c c5n c5c:Nat) (w:World) (hN:F5 w):
 Calls Tryz.prog 44 #[.agg #[.int .i64 2,.string key,.int .i64 c0,.bool c1,.int .i64 c2,.string c3,.slice c4a c4n c4c,.slice c5a c5n c5c]] w (G4 [(Dc,tv key),(G2,tv Ia)] w):=by
 obtain⟨n1,n2,n3,n4⟩:=hN;obtain⟨j0,hj,hy0,hy1,hy2⟩:=info_parts R4;have HO:=qz (fun(W:World) a n c h=>Ql [(G2,tv Ia),(Dc,tv key)] _ a n c W h (by have e1:R8.size=0:=rfl;have e2:Dc.size=3:=rfl;have e3:G2.size=2:=rfl;have e6:Ia.size=3:=rfl;simp only[Af,Cp,tv,Val.bulk,Bd,e2,e3,e6];omega) (Zw key));have HX:=qz (fun W=>Do Ia W);have HY:=qz (fun W=>Do key W);have HR:=qz (fun(W:World)=>T4 W Ia);obtain⟨Hj,Hy0,Hy1,Hy2⟩:=hid4 hj hy0 hy1 hy2;clear hj hy0 hy1 hy2;go_enter Tryz.func44,Tryz.ntmps44;go_wp2_with (first
  |(go_at_call 78;(with_reducible refine(HX.out _).mono ?_);rintro e w1 ⟨rfl,hb1⟩;obtain⟨hc1,hf1⟩:=D6 hb1;obtain⟨hz0,hz1⟩:=Zh hb1;have HXd:=HX;clear HX)
  |(fail))
 have hq2:=Oq w (.cells #[.int .i64 2,.string key,.int .i64 c0,.bool c1,.int .i64 c2,.string c3,.slice c4a c4n c4c,.slice c5a c5n c5c] 64) (.cells Cc 33);have hx1:Ao (w1.alloc (.cells #[.string G2,.int .i64 4,.bool false,.int .i64 0,.string Ia,.slice none 0 0,.slice none 0 0] 88)) (w.heap.size+1) 33 Cc:=Qc (w1:=w1) hb1 (Below.refl _ _);have Hw1:Hid (Below w.heap.size w (w1.alloc (.cells #[.string G2,.int .i64 4,.bool false,.int .i64 0,.string Ia,.slice none 0 0,.slice none 0 0] 88))):=(hq2.trans (hb1.mono hq2.size)).alloc (by omega) _;obtain⟨Hq2,Hx1,Hb1⟩:=hid3 hq2 hx1 hb1;clear hq2 hx1 hb1;go_at_call 78;(with_reducible refine(HY.out _).mono ?_);rintro e w2 ⟨rfl,hb2⟩;have hs2:w1.heap.size+1<=w2.heap.size:=by have:=hb2.size;simpa using this
 have Hx2:=qz ((Hx1.out.below hb2 Hx1.out.lt).alloc (.cells #[.string Dc,.int .i64 4,.bool false,.int .i64 0,.string key,.slice none 0 0,.slice none 0 0] 88));have Hw2:=qz ((Hw1.out.trans (hb2.mono Hw1.out.size)).alloc (by omega) (.cells #[.string Dc,.int .i64 4,.bool false,.int .i64 0,.string key,.slice none 0 0,.slice none 0 0] 88));have Hbe:=qz (hb2.alloc hb2.size (.cells #[.string Dc,.int .i64 4,.bool false,.int .i64 0,.string key,.slice none 0 0,.slice none 0 0] 88));have Hb2:=qz hb2;clear hb2;clear hc1 hf1 n1 n2 n3;go_wp2_with (at_builtin;refine E0 (V:=.slice (some ⟨w1.heap.size,0,none⟩) 1 1) rfl (.tmp 26) (.tmp 31) 31 rfl Tryz.underlying31 Hj.out Hy0.out Hy1.out Hy2.out rfl (by omega) rfl (HR.out w1) (by simp) Hbe.out (D7 (Dc,tv key)) (Ow _ _ Dc key) rfl (H9 w2 _ _ _ _ _ _ _) (by simp[maxLen,dO]) (by simp[dO]) ?_;intro V6 w6 hrow6 hg6 hat6);have hx6:=Ik Hx2.out hg6 (HR.out w1) (by omega);have Hw6:=qz (Ii Hw2.out hg6 (HR.out w1) (by omega) (by simp;omega));obtain⟨a6,c6,rfl⟩:=hrow6.slice_n (n:=2) rfl;have HN6:Hid (Ai w6 w6.heap.size (.row 7 (dO [(G2,tv Ia),(Dc,tv key)])) [.slice a6 2 c6]):=Cw.now (l:=dO [(G2,tv Ia),(Dc,tv key)]) hrow6;have hs6:w2.heap.size+1<=w6.heap.size:=by have:=hg6.size;simpa using this
 have Hx6:=qz hx6;clear hx6;clear hrow6 hg6 hat6;(with_reducible refine(HO.out _ _ _ _ HN6.out).mono ?_);rintro e w7 ⟨hb7,la,lc,oa,oc,rfl,hf7⟩;have hs7:=hb7.size;have hz4:w.heap.size+1<w7.heap.size:=by omega
 have hx7:=Hx6.out.below hb7 Hx6.out.lt;obtain⟨r0,r1,r2,r3,r4,r5⟩:=Co hx7;have fz:=hx7.frozen;obtain⟨Hx7,Hb7,Hf7⟩:=hid3 hx7 hb7 hf7;clear hx7 hb7 hf7;clear n4 HO HXd HR HY;go_upto_region 8 with(fail)
 repeat go_step
 have hB2:=Hw6.out.trans (Hb7.out.mono Hw6.out.size);obtain⟨q1,q2⟩:=Pw (R:=w.heap.size+1) (o:=.cells #[.int .i64 6,.bool false,.int .i64 0,.string ⟨#[]⟩,.slice la 0 lc,.slice oa 2 oc] 33) [.int .i64 6,.bool false,.int .i64 0,.string ⟨#[]⟩,.slice la 0 lc,.slice oa 2 oc] hB2 (by omega) (by omega) (by omega) Hf7.out;have hxf:=((((((Hx7.out.set_ 0 (.int .i64 6)).set_ 1 (.bool false)).set_ 2 (.int .i64 0)).set_ 3 (.string ⟨#[]⟩)).set_ 4 (.slice la 0 lc)).set_ 5 (.slice oa 2 oc)).alloc (.cells #[.int .i64 6,.bool false,.int .i64 0,.string ⟨#[]⟩,.slice la 0 lc,.slice oa 2 oc] 33);exact bodyPost_ret (F0 rfl rfl hxf) rfl ⟨q1,la,lc,oa,oc,rfl,q2⟩
theorem Abk {w w1:World} {cs:Array Value} {o' o'':Obj} (hb1:Below ((w.alloc (.cells cs 64)).alloc o').heap.size ((w.alloc (.cells cs 64)).alloc o') w1):Ao (w1.alloc o'') w.heap.size 64 cs:=by
 have h0:Ao ((w.alloc (.cells cs 64)).alloc o') w.heap.size 64 cs:=(Ao.new _ _ _).alloc _;exact(h0.below hb1 h0.lt).alloc _
theorem Z9 (key:ByteArray) (hkey:key.size<=1000) (k':Int) (b':Bool) (n':Int) (t':ByteArray) (l':List Val) (o':List (ByteArray×Val)) (la' oa':Option Addr) (lc' oc':Nat) (w:World) (hN:F5 w)
 (hv:Ae w w.heap.size (.mk k' b' n' t' l' o') [.int .i64 k',.bool b',.int .i64 n',.string t',.slice la' l'.length lc',.slice oa' o'.length oc']) (hb:(Val.mk k' b' n' t' l' o').bulk<=80000000):
 Calls Tryz.prog 44 #[.agg #[.int .i64 1,.string key,.int .i64 k',.bool b',.int .i64 n',.string t',.slice la' l'.length lc',.slice oa' o'.length oc']] w (G4 [(Dc,tv key),(G2,tv Gw),(Gd,.mk k' b' n' t' l' o')] w):=by
 obtain⟨n1,n2,n3,n4⟩:=hN;obtain⟨j0,hj,hy0,hy1,hy2⟩:=info_parts R4;have hO:=fun(W:World) a n c h=>Ql [(G2,tv Gw),(Gd,.mk k' b' n' t' l' o'),(Dc,tv key)] _ a n c W h (by
  have e1:R8.size=0:=rfl;have e2:Dc.size=3:=rfl;have e3:G2.size=2:=rfl;have e4:Gd.size=5:=rfl;have e6:Gw.size=3:=rfl;have e7:(tv Gw).bulk=9:=rfl;have e8:(tv key).bulk=6+key.size:=by simp[tv,Val.bulk,Bd,Af]
  simp only[Af,Cp,e2,e3,e4,e7,e8];omega) (Aaf key _)
 have HX:=qz (fun W=>Do Gw W);have HY:=qz (fun W=>Do key W);have HR:=qz (fun(W:World)=>T4 W Gw);have hVC: ∀W,Below w.heap.size w W->Calls Tryz.prog 79 #[.agg #[.int .i64 k',.bool b',.int .i64 n',.string t',.slice la' l'.length lc',.slice oa' o'.length oc']] W fun e w'=>Below W.heap.size W w'/\ ∃la2 lc2 oa2 oc2,e=.returned (.agg #[.int .i64 k',.bool b',.int .i64 n',.string t',.slice la2 l'.length lc2,.slice oa2 o'.length oc2])/\Bk W.heap.size w' (dV (.mk k' b' n' t' l' o')) [.int .i64 k',.bool b',.int .i64 n',.string t',.slice la2 l'.length lc2,.slice oa2 o'.length oc2]:=by
  intro W hW;refine(Ie _ _ W (Ae.more hW.size _ _ (hv.below hW)) (by omega)).mono ?_;rintro e w' ⟨⟨cs,rfl,hl,hf⟩,hb'⟩;have hh:=Bj _ _ hf.now;simp only[Ae]at hh;obtain⟨la2,lc2,oa2,oc2,rfl,_,_⟩:=hh;exact⟨hb',la2,lc2,oa2,oc2,rfl,hf⟩
 obtain⟨HO,Hj,Hy0,Hy1,Hy2,HVC,Hv⟩:=hid7 hO hj hy0 hy1 hy2 hVC hv;clear hO hj hy0 hy1 hy2 hVC hv;go_enter Tryz.func44,Tryz.ntmps44;go_wp2_with (first
  |(go_at_call 78;(with_reducible refine(HX.out _).mono ?_);rintro e w1 ⟨rfl,hb1⟩;obtain⟨hc1,hf1⟩:=D6 hb1;obtain⟨hz0,hz1⟩:=Zh hb1;have HXd:=HX;clear HX)
  |(fail))
 have hq2:=Oq w (.cells #[.int .i64 1,.string key,.int .i64 k',.bool b',.int .i64 n',.string t',.slice la' l'.length lc',.slice oa' o'.length oc'] 64) (.cells Cc 33);have hx1:Ao (w1.alloc (.cells #[.string G2,.int .i64 4,.bool false,.int .i64 0,.string Gw,.slice none 0 0,.slice none 0 0] 88)) (w.heap.size+1) 33 Cc:=Qc (w1:=w1) hb1 (Below.refl _ _);have ho1:Ao (w1.alloc (.cells #[.string G2,.int .i64 4,.bool false,.int .i64 0,.string Gw,.slice none 0 0,.slice none 0 0] 88)) w.heap.size 64 #[.int .i64 1,.string key,.int .i64 k',.bool b',.int .i64 n',.string t',.slice la' l'.length lc',.slice oa' o'.length oc']:=Abk hb1;have Hw1:Hid (Below w.heap.size w (w1.alloc (.cells #[.string G2,.int .i64 4,.bool false,.int .i64 0,.string Gw,.slice none 0 0,.slice none 0 0] 88))):=(hq2.trans (hb1.mono hq2.size)).alloc (by omega) _;obtain⟨Hq2,Hx1,Hb1,Ho1⟩:=hid4 hq2 hx1 hb1 ho1;clear hq2 hx1 hb1 ho1;go_at_call 79;(with_reducible refine(HVC.out _ Hw1.out).mono ?_);rintro e w2 ⟨hb2,la2,lc2,oa2,oc2,rfl,hf2⟩;have hs2:w1.heap.size+1<=w2.heap.size:=by have:=hb2.size;simpa using this
 have Hx2:=qz ((Hx1.out.below hb2 Hx1.out.lt).alloc (.cells #[.string Gd,.int .i64 k',.bool b',.int .i64 n',.string t',.slice la2 l'.length lc2,.slice oa2 o'.length oc2] 88));have Ho2:=qz ((Ho1.out.below hb2 Ho1.out.lt).alloc (.cells #[.string Gd,.int .i64 k',.bool b',.int .i64 n',.string t',.slice la2 l'.length lc2,.slice oa2 o'.length oc2] 88));have Hw2:=qz ((Hw1.out.trans (hb2.mono Hw1.out.size)).alloc (by omega) (.cells #[.string Gd,.int .i64 k',.bool b',.int .i64 n',.string t',.slice la2 l'.length lc2,.slice oa2 o'.length oc2] 88));have Hbe:=qz (hb2.alloc hb2.size (.cells #[.string Gd,.int .i64 k',.bool b',.int .i64 n',.string t',.slice la2 l'.length lc2,.slice oa2 o'.length oc2] 88));have Hfe:=qz ((Mg (key:=Gd) hf2).later (Ac w2 (.cells #[.string Gd,.int .i64 k',.bool b',.int .i64 n',.string t',.slice la2 l'.length lc2,.slice oa2 o'.length oc2] 88)));obtain⟨Hb2,Hf2⟩:=hid2 hb2 hf2;clear hb2 hf2;clear hc1 hf1 n1 n2 n3;go_wp2_with (at_builtin;refine E0 (V:=.slice (some ⟨w1.heap.size,0,none⟩) 1 1) rfl (.tmp 19) (.tmp 24) 31 rfl Tryz.underlying31 Hj.out Hy0.out Hy1.out Hy2.out rfl (by omega) rfl (HR.out w1) (by simp) Hbe.out (D7 (Gd,.mk k' b' n' t' l' o')) Hfe.out rfl (H9 w2 _ _ _ _ _ _ _) (by simp[maxLen,dO]) (by simp[dO]) ?_;intro V6 w6 hrow6 hg6 hat6;obtain⟨_,e6,_⟩:=U4 (Ik Ho2.out hg6 (HR.out w1) (by omega)));have hx6:=Ik Hx2.out hg6 (HR.out w1) (by omega);have Hw6:=qz (Ii Hw2.out hg6 (HR.out w1) (by omega) (by simp;omega));have hs6:w2.heap.size+1<=w6.heap.size:=by have:=hg6.size;simpa using this
 obtain⟨Hx6,Hrow6,Hg6,Hat6⟩:=hid4 hx6 hrow6 hg6 hat6;clear hx6 hrow6 hg6 hat6;go_at_call 78;(with_reducible refine(HY.out _).mono ?_);rintro e w7 ⟨rfl,hb7⟩;have hs7:=hb7.size;have Hx7:=qz ((Hx6.out.below hb7 Hx6.out.lt).alloc (.cells #[.string Dc,.int .i64 4,.bool false,.int .i64 0,.string key,.slice none 0 0,.slice none 0 0] 88));have Hw7:=qz ((Hw6.out.trans (hb7.mono Hw6.out.size)).alloc (by omega) (.cells #[.string Dc,.int .i64 4,.bool false,.int .i64 0,.string key,.slice none 0 0,.slice none 0 0] 88));have Hbe7:=qz (hb7.alloc hb7.size (.cells #[.string Dc,.int .i64 4,.bool false,.int .i64 0,.string key,.slice none 0 0,.slice none 0 0] 88));have Hb7:=qz hb7;clear hb7;go_wp2_with (at_builtin;refine E0 (V:=V6) rfl (.tmp 26) (.tmp 31) 31 rfl Tryz.underlying31 Hj.out Hy0.out Hy1.out Hy2.out rfl (by omega) rfl Hrow6.out (by omega) Hbe7.out (D7 (Dc,tv key)) (Ow _ _ Dc key) rfl (H9 w7 _ _ _ _ _ _ _) (by simp[maxLen,dO]) (by simp[dO]) ?_;intro V9 w9 hrow9 hg9 hat9);have hx9:=Ik Hx7.out hg9 Hrow6.out (by omega);have Hw9:=qz (Ii Hw7.out hg9 Hrow6.out (by omega) (by simp;omega));have hs9:w7.heap.size+1<=w9.heap.size:=by have:=hg9.size;simpa using this
 obtain⟨a9,c9,rfl⟩:=hrow9.slice_n (n:=3) rfl;have HN9:Hid (Ai w9 w9.heap.size (.row 7 (dO [(G2,tv Gw),(Gd,.mk k' b' n' t' l' o'),(Dc,tv key)])) [.slice a9 3 c9]):=Cw.now (l:=dO [(G2,tv Gw),(Gd,.mk k' b' n' t' l' o'),(Dc,tv key)]) hrow9;have Hx9:=qz hx9;clear hx9;clear hrow9 hg9 hat9;(with_reducible refine(HO.out _ _ _ _ HN9.out).mono ?_);rintro e wa ⟨hba,la,lc,oa,oc,rfl,hfa⟩;have hsa:=hba.size;have hz4:w.heap.size+1<wa.heap.size:=by omega
 have hxa:=Hx9.out.below hba Hx9.out.lt;obtain⟨r0,r1,r2,r3,r4,r5⟩:=Co hxa;have fz:=hxa.frozen;obtain⟨Hxa,Hba,Hfa⟩:=hid3 hxa hba hfa;clear hxa hba hfa;clear n4 HO HXd HR HY HVC e6;go_upto_region 8 with(fail)
 repeat go_step
 have hB2:=Hw9.out.trans (Hba.out.mono Hw9.out.size);obtain⟨q1,q2⟩:=Pw (R:=w.heap.size+1) (o:=.cells #[.int .i64 6,.bool false,.int .i64 0,.string ⟨#[]⟩,.slice la 0 lc,.slice oa 3 oc] 33) [.int .i64 6,.bool false,.int .i64 0,.string ⟨#[]⟩,.slice la 0 lc,.slice oa 3 oc] hB2 (by omega) (by omega) (by omega) Hfa.out;have hxf:=((((((Hxa.out.set_ 0 (.int .i64 6)).set_ 1 (.bool false)).set_ 2 (.int .i64 0)).set_ 3 (.string ⟨#[]⟩)).set_ 4 (.slice la 0 lc)).set_ 5 (.slice oa 3 oc)).alloc (.cells #[.int .i64 6,.bool false,.int .i64 0,.string ⟨#[]⟩,.slice la 0 lc,.slice oa 3 oc] 33);exact bodyPost_ret (F0 rfl rfl hxf) rfl ⟨q1,la,lc,oa,oc,rfl,q2⟩
def Ny (p:POp):List (ByteArray×Val):=if p.k=1 then [(Dc,tv p.key),(G2,tv Gw),(Gd,p.v)]else if p.k=2 then [(Dc,tv p.key),(G2,tv Ia)]else [(G2,tv Ez)]
theorem O3 {k:ByteArray} (h:Ky k=true):k.size<=64:=by
 unfold Ky at h;simp only[Bool.and_eq_true,decide_eq_true_eq]at h;exact h.2.1
theorem Wa (k:Int) (key:ByteArray) (k':Int) (b':Bool) (n':Int) (t':ByteArray) (l':List Val) (o':List (ByteArray×Val)) (la' oa':Option Addr) (lc' oc':Nat) (w:World) (hok:okQ ⟨k,key,.mk k' b' n' t' l' o'⟩) (hN:F5 w)
 (hv:Ae w w.heap.size (.mk k' b' n' t' l' o') [.int .i64 k',.bool b',.int .i64 n',.string t',.slice la' l'.length lc',.slice oa' o'.length oc']) (hb:(Val.mk k' b' n' t' l' o').bulk<=80000000):
 Calls Tryz.prog 44 #[.agg #[.int .i64 k,.string key,.int .i64 k',.bool b',.int .i64 n',.string t',.slice la' l'.length lc',.slice oa' o'.length oc']] w (G4 (Ny ⟨k,key,.mk k' b' n' t' l' o'⟩) w):=by
 rcases hok with⟨h,hk,_⟩|⟨h,hk⟩|h<;>simp only at h
 . subst h;exact Z9 key (by have:=O3 hk;simp only at this;omega) k' b' n' t' l' o' la' oa' lc' oc' w hN hv hb
 . subst h;exact Z8 key (by have:=O3 hk;simp only at this;omega) _ _ _ _ _ _ _ _ _ _ w hN
 . subst h;exact Wb key _ _ _ _ _ _ _ _ _ _ w hN
def Jq (l:List POp) (q:Nat):List D:=dL ((l.take q).map Ly)
structure LI (w:World) (g:Nat) (l:List POp) (q:Nat) (wr:World) (V:Value):Prop where
 below:Below w.heap.size w wr
 res:Ao wr w.heap.size 33 Cc
 var:Ao wr g 33 #[.int .i64 5,.bool false,.int .i64 0,.string ⟨#[]⟩,V,.slice none 0 0]
 row:Cw (g+1) 33 6 wr (Jq l q) V
 lt:w.heap.size<g
def W5 (l:List POp) (w:World) (e:Ending) (w':World):Prop:=Below w.heap.size w w'/\
 ∃la lc,e=.returned (.tuple #[.agg #[.int .i64 5,.bool false,.int .i64 0,.string ⟨#[]⟩,.slice la l.length lc,.slice none 0 0],.int .i64 0])/\Bk w.heap.size w' (dV (Fv l)) [.int .i64 5,.bool false,.int .i64 0,.string ⟨#[]⟩,.slice la l.length lc,.slice none 0 0]
theorem N3 (l:List POp) (a:Option Addr) (n c:Nat) (w:World) (hT:Cl w) (hN:F5 w) (h:Ai w w.heap.size (.row 8 (D0 l)) [.slice a n c]) (hb:Cq l<=50000000) (hin:inQ l) (hm:Cf none l=0):
 Calls Tryz.prog 15 #[.slice a n c] w (W5 l w):=by
 have hlq:=Il l;have hn:=h.row_len;rw[C7]at hn;subst hn;obtain⟨j0,hj,hy0,hy1,hy2⟩:=info_parts Zm;have hb0:Below w.heap.size w (w.alloc (.cells Cc 33)):=(Below.refl _ _).alloc (Nat.le_refl _) _;have hM:=Kc l a l.length c (w.alloc (.cells Cc 33)) (hT.below hb0) ((h.below hb0).more hb0.size) (by omega) hin;rw[hm]at hM;have Hok:=qz (Fj hm);obtain⟨HM,HT,HN,H,Hb0,Hj,Hy0,Hy1,Hy2,Hin⟩:=hid10 hM hT hN h hb0 hj hy0 hy1 hy2 hin;clear hM hT hN h hb0 hj hy0 hy1 hy2 hin;clear hm;go_enter Tryz.func15,Tryz.ntmps15;go_wp2_with (go_at_call 11;(with_reducible refine(HM.out).mono ?_);rintro e w1 ⟨rfl,hb1⟩);have hz1:w.heap.size<w1.heap.size:=by have:=hb1.size;simp at this;omega
 have hI0:LI w w1.heap.size l 0 (w1.alloc (.cells #[.int .i64 5,.bool false,.int .i64 0,.string ⟨#[]⟩,.slice none 0 0,.slice none 0 0] 33)) (.slice none 0 0):=
  ⟨(Hb0.out.trans (hb1.mono Hb0.out.size)).alloc (by omega) _,((Ao.new w 33 Cc).below hb1 (Ao.new w 33 Cc).lt).alloc _,Ao.new _ _ _,by simpa[Jq,dL]using Cw.nil _ _ _ _,hz1⟩
 obtain⟨w2,hw2⟩: ∃w2,w1.alloc (.cells #[.int .i64 5,.bool false,.int .i64 0,.string ⟨#[]⟩,.slice none 0 0,.slice none 0 0] 33)=w2:=⟨_,rfl⟩;rw[hw2]at hI0 ⊢;have HI0:=qz hI0;clear hI0 hw2 hb1;generalize w1.heap.size=g at*
 go_loopw [17] (fun i wr=> ∃q:Nat,i=.int .i64 q/\q<=l.length/\ ∃V,Hid (LI w g l q wr V)) (fun i _=>l.length - (intOf i).toNat)
 case atStart=>exact⟨0,rfl,Nat.zero_le _,_,HI0⟩
 case round=>
  obtain⟨q,rfl,hq,V,hI⟩:=hrel;clear HI0;by_cases hlt:q<l.length
  . obtain⟨p,hp⟩: ∃p,l[q]? =some p:=⟨_,List.getElem?_eq_getElem hlt⟩;have hmem:=List.mem_of_getElem? hp;have hbq:=Im hmem;have hokp:=Hok.out p hmem;have htk:Jq l q++ [dV (Ly p)]=Jq l (q+1):=by
     unfold Jq;rw[List.take_add_one,hp,Jl,Jl];simp
    obtain⟨k,key,⟨k',b',n',t',l',o'⟩⟩:=p;simp only at hbq;have hbw:=hI.out.below;have hz:=hbw.size;obtain⟨gl,off,rfl,hgl,la',lc',oa',oc',hv,c0,c1,c2,c3,c4,c5,c6,c7⟩:=M6 ((H.out.below hbw).more hz) hp;obtain⟨wi,hwi⟩: ∃wi,wr.alloc (.cells #[.int .i64 k,.string key,.int .i64 k',.bool b',.int .i64 n',.string t',.slice la' l'.length lc',.slice oa' o'.length oc'] 64)=wi:=⟨_,rfl⟩;have hbi:Below wr.heap.size wr wi:=hwi▸Ac _ _;have hxi:Ao wi wr.heap.size 64 #[.int .i64 k,.string key,.int .i64 k',.bool b',.int .i64 n',.string t',.slice la' l'.length lc',.slice oa' o'.length oc']:=by rw[<-hwi];exact Ao.new _ _ _
    have hxv:=hI.out.var.below hbi hI.out.var.lt;have Hrow:=qz (hI.out.row.below hbi);have Hres:=qz hI.out.res;obtain⟨aV,cV,rfl⟩:=hI.out.row.slice;have hgr:gl<wr.heap.size:=hgl;have hgv:g<wi.heap.size:=hxv.lt;have hq1:(q:Int)<(l.length:Int):=by omega
    have hwi2:Below w.heap.size w wi:=hbw.trans (hbi.mono hz);have hC: ∀W,Below wi.heap.size wi W->Calls Tryz.prog 44 #[.agg #[.int .i64 k,.string key,.int .i64 k',.bool b',.int .i64 n',.string t',.slice la' l'.length lc',.slice oa' o'.length oc']] W (G4 (Ny ⟨k,key,.mk k' b' n' t' l' o'⟩) W):=fun W hW=>by
     have hWr:=hbi.trans (hW.mono hbi.size);exact Wa k key k' b' n' t' l' o' la' oa' lc' oc' W hokp (HN.out.below (hwi2.trans (hW.mono hwi2.size))) ((hv.below hWr).more hWr.size) (by omega)
    obtain⟨Hp,Hv,Hbi,Hbw,HC,Htk,Hwi2⟩:=hid7 hp hv hbi hbw hC htk hwi2;clear hp hv hbi hbw hC htk hwi2;clear hmem hokp;go_upto_region 8 with(fail);clear hwi;obtain⟨x0,x1,x2,x3,x4,x5,x6,x7⟩:=U4 hxi;obtain⟨_,_,_,_,y4,_⟩:=Co hxv;have hdl:(Jq l q).length=q:=by unfold Jq;rw[Ks,List.length_map,List.length_take];omega
    have hLo:Hid ((Jq l q).length+1<=maxLen/\((Jq l q).length+1)*88<=140737488355328):=by rw[hdl];exact⟨by simp only[maxLen];omega,by omega⟩
    obtain⟨Hxi,Hxv⟩:=hid2 hxi hxv;clear hxi hxv;clear c0 c1 c2 c3 c4 c5 c6 c7 hdl
    go_region_law (first
     |(refine Od (d:=dV (Ly ⟨k,key,.mk k' b' n' t' l' o'⟩)) (V:=.slice aV (Jq l q).length cV) (by rfl) (.tmp 22) (.tmp 25) 30 (by rfl) Tryz.underlying30 Hj.out Hy0.out Hy1.out Hy2.out rfl (by omega) (by rfl) Hrow.out (by omega) Hbe.out (Cr _) Hfe.out (by rfl) (Wl w4 _ _ _ _ _ _) hLo.out.1 hLo.out.2 ?_;intro V6 w6 hrow6 hg6 hat6;rw[Htk.out]at hrow6;have hx6:=Ik Hxv4.out hg6 Hrow.out (by omega);have hw6:=Ii Hw4.out hg6 Hrow.out (by omega) Hw4.out.size;have hr6:=Ik Hr4.out hg6 Hrow.out (by omega);have e6:=hx6.cell 4;have f6:=hx6.frozen 4;obtain⟨a6,c6,rfl⟩:=hrow6.slice;have HG6:=qz (And.intro hrow6 (And.intro hx6 (And.intro hw6 hr6)));clear hrow6 hg6 hat6 hx6 hw6 hr6)
     |(go_simp;go_at_call 44;refine(HC.out _ (Below.drew (Below.refl _ _))).mono ?_;rintro e w4 ⟨hb4,la4,lc4,oa4,oc4,rfl,hf4⟩;have hbr:Below wi.heap.size wi w4:=(Below.drew (Below.refl _ _)).trans hb4;have hxv4:=Hxv.out.below hbr Hxv.out.lt;have g3:=hxv4.cell 4;have g4:=(hxv4.alloc (.cells #[.int .i64 6,.bool false,.int .i64 0,.string ⟨#[]⟩,.slice la4 0 lc4,.slice oa4 (Ny ⟨k,key,.mk k' b' n' t' l' o'⟩).length oc4] 33)).cell 4;have Hxv4:=qz (hxv4.alloc (.cells #[.int .i64 6,.bool false,.int .i64 0,.string ⟨#[]⟩,.slice la4 0 lc4,.slice oa4 (Ny ⟨k,key,.mk k' b' n' t' l' o'⟩).length oc4] 33));have Hr4:=qz ((((Hres.out.below Hbi.out Hres.out.lt).below hbr (by omega))).alloc (.cells #[.int .i64 6,.bool false,.int .i64 0,.string ⟨#[]⟩,.slice la4 0 lc4,.slice oa4 (Ny ⟨k,key,.mk k' b' n' t' l' o'⟩).length oc4] 33));have Hw4:=qz ((Hwi2.out.trans (hbr.mono Hwi2.out.size)).alloc (Nat.le_trans Hwi2.out.size hbr.size) (.cells #[.int .i64 6,.bool false,.int .i64 0,.string ⟨#[]⟩,.slice la4 0 lc4,.slice oa4 (Ny ⟨k,key,.mk k' b' n' t' l' o'⟩).length oc4] 33));have Hbe:=qz (hbr.alloc hbr.size (.cells #[.int .i64 6,.bool false,.int .i64 0,.string ⟨#[]⟩,.slice la4 0 lc4,.slice oa4 (Ny ⟨k,key,.mk k' b' n' t' l' o'⟩).length oc4] 33));have hfe:Bk wi.heap.size (w4.alloc (.cells #[.int .i64 6,.bool false,.int .i64 0,.string ⟨#[]⟩,.slice la4 0 lc4,.slice oa4 (Ny ⟨k,key,.mk k' b' n' t' l' o'⟩).length oc4] 33)) (dV (Ly ⟨k,key,.mk k' b' n' t' l' o'⟩)) [.int .i64 6,.bool false,.int .i64 0,.string ⟨#[]⟩,.slice la4 0 lc4,.slice oa4 (Ny ⟨k,key,.mk k' b' n' t' l' o'⟩).length oc4]:=hf4.later (Ac w4 (.cells #[.int .i64 6,.bool false,.int .i64 0,.string ⟨#[]⟩,.slice la4 0 lc4,.slice oa4 (Ny ⟨k,key,.mk k' b' n' t' l' o'⟩).length oc4] 33));have Hfe:=qz hfe;clear hb4 hf4 hbr hxv4 hfe))
    all_goals
     obtain⟨k1,k2,k3,k4⟩:=HG6.out;have HN:Hid (LI w g l (q+1) (w6.setCell ⟨g,4,none⟩ (.slice a6 (Jq l (q+1)).length c6)) (.slice a6 (Jq l (q+1)).length c6)):=
      ⟨k3.setCell (by simp;omega) _,k4.far (by simp;omega) _,k2.set_ 4 _,k1.keep (by simp[World.setCell]) (fun i h1 _=>Below.heap_setCell _ _ _ _ (by simp;omega)),hz1⟩
     clear k1 k2 k3 k4 HG6 Hfe Hbe Hxv4 Hw4 Hr4;go_wp2;go_roundw
     case rel=>exact⟨q+1,by go_num,by omega,_,HN⟩
     case measure=>simp only[intOf];omega
  . obtain rfl:q=l.length:=by omega
    have hln:(Jq l l.length).length=l.length:=by unfold Jq;rw[Ks,List.length_map,List.take_length]
    obtain⟨aV,cV,rfl⟩:=hI.out.row.slice_n hln;obtain⟨i1,i2,i3,i4,i5⟩:=hI.out;obtain⟨y0,y1,y2,y3,y4,y5⟩:=Co i3;obtain⟨r0,r1,r2,r3,r4,r5⟩:=Co i2;have fz:=i2.frozen;have Hq:=qz i4.close;have hgw:=i3.lt;obtain⟨I1,I2,I3,I4,Hln⟩:=hid5 i1 i2 i3 i4 hln;clear i1 i2 i3 i4 hln;clear hI;go_upto_region 10 with(fail)
    repeat go_step
    obtain⟨a',c',e',_,hf,_⟩:=Hq.out;rw[Hln.out]at e' hf;obtain⟨rfl,rfl⟩:aV=a'/\cV=c':=by simpa using e'
    have hxf:=((((((I2.out.set_ 0 (.int .i64 5)).set_ 1 (.bool false)).set_ 2 (.int .i64 0)).set_ 3 (.string ⟨#[]⟩)).set_ 4 (.slice aV l.length cV)).set_ 5 (.slice none 0 0));have hbf:=Bf [.int .i64 5,.bool false,.int .i64 0,.string ⟨#[]⟩,.slice aV l.length cV,.slice none 0 0] I1.out (Nat.le_refl _) (o:=0);have hff:Bk w.heap.size (Ca wr w.heap.size 0 [.int .i64 5,.bool false,.int .i64 0,.string ⟨#[]⟩,.slice aV l.length cV,.slice none 0 0]) (dV (Fv l)) [.int .i64 5,.bool false,.int .i64 0,.string ⟨#[]⟩,.slice aV l.length cV,.slice none 0 0]:=
     X2 (by unfold Jq at hf;rw[List.take_length]at hf;exact hf.keep (by omega) (by rw[Cy];exact Nat.le_refl _) fun p p1 p2=>World.cell?_of_block (De _ _ _ _ _ (by omega)))
    exact bodyPost_ret (Dq rfl rfl hxf) rfl ⟨hbf,aV,cV,rfl,hff⟩
theorem M8 (l:List POp) (a:Option Addr) (n c:Nat) (w:World) (hT:Cl w) (h:Ai w w.heap.size (.row 8 (D0 l)) [.slice a n c]) (hb:Cq l<=50000000) (hin:inQ l) (hm:Cf none l≠0):
 Calls Tryz.prog 15 #[.slice a n c] w fun e w'=>Below w.heap.size w w'/\e=.returned (.tuple #[.agg #[.int .i64 0,.bool false,.int .i64 0,.string ⟨#[]⟩,.slice none 0 0,.slice none 0 0],.int .i64 (Cf none l)]):=by
 have hb0:Below w.heap.size w (w.alloc (.cells Cc 33)):=(Below.refl _ _).alloc (Nat.le_refl _) _;have hM:=Kc l a n c (w.alloc (.cells Cc 33)) (hT.below hb0) ((h.below hb0).more hb0.size) (by omega) hin;obtain⟨M,hMe⟩: ∃M,Cf none l=M:=⟨_,rfl⟩;rw[hMe]at hM hm ⊢;obtain⟨PO,hPO⟩: ∃P:Ending->World->Prop,(fun e w'=>Below w.heap.size w w'/\e=.returned (.tuple #[.agg #[.int .i64 0,.bool false,.int .i64 0,.string ⟨#[]⟩,.slice none 0 0,.slice none 0 0],.int .i64 M]))=P:=⟨_,rfl⟩;rw[hPO];have q0:(M != 0)=true:=by simpa using hm
 obtain⟨HM,Hb0,HPO⟩:=hid3 hM hb0 hPO;clear hM hb0 hPO;clear h hT hin hMe hm;go_enter Tryz.func15,Tryz.ntmps15;go_wp2_with (fail);(with_reducible refine(HM.out).mono ?_);rintro e w1 ⟨rfl,hb1⟩;have hR1:=(Ao.new w 33 Cc).below hb1 (Ao.new w 33 Cc).lt;obtain⟨c0,c1,c2,c3,c4,c5⟩:=Co hR1;have fz:=hR1.frozen;have lx:=hR1.lt;have hW:=Hb0.out.trans (hb1.mono Hb0.out.size);have Hxf:=qz ((((((hR1.set_ 0 (.int .i64 0)).set_ 1 (.bool false)).set_ 2 (.int .i64 0)).set_ 3 (.string ⟨#[]⟩)).set_ 4 (.slice none 0 0)).set_ 5 (.slice none 0 0));have hBf:Below w.heap.size w ((((((w1.setCell ⟨w.heap.size,0,none⟩ (.int .i64 0)).setCell ⟨w.heap.size,1,none⟩ (.bool false)).setCell ⟨w.heap.size,2,none⟩ (.int .i64 0)).setCell ⟨w.heap.size,3,none⟩ (.string ⟨#[]⟩)).setCell ⟨w.heap.size,4,none⟩ (.slice none 0 0)).setCell ⟨w.heap.size,5,none⟩ (.slice none 0 0)):=Bf [.int .i64 0,.bool false,.int .i64 0,.string ⟨#[]⟩,.slice none 0 0,.slice none 0 0] (g:=w.heap.size) hW (Nat.le_refl _) (o:=0);have HP:Hid (PO (.returned (.tuple #[.agg #[.int .i64 0,.bool false,.int .i64 0,.string ⟨#[]⟩,.slice none 0 0,.slice none 0 0],.int .i64 M])) ((((((w1.setCell ⟨w.heap.size,0,none⟩ (.int .i64 0)).setCell ⟨w.heap.size,1,none⟩ (.bool false)).setCell ⟨w.heap.size,2,none⟩ (.int .i64 0)).setCell ⟨w.heap.size,3,none⟩ (.string ⟨#[]⟩)).setCell ⟨w.heap.size,4,none⟩ (.slice none 0 0)).setCell ⟨w.heap.size,5,none⟩ (.slice none 0 0))):=by
  show PO _ _;rw[<-HPO.out];exact⟨hBf,rfl⟩
 clear hBf hb1 hW hR1;go_wp2;exact bodyPost_ret (Dq rfl rfl Hxf.out) rfl HP.out
def Pb (l:List POp):ByteArray:=if Cf none l=0 then Lp (Fv l)else⟨#[]⟩
theorem N4 (l:List POp) (a:Option Addr) (n c:Nat) (w:World) (hT:Cl w) (hN:F5 w) (h:Ai w w.heap.size (.row 8 (D0 l)) [.slice a n c]) (hb:Cq l<=10000000) (hin:inQ l):
 Calls Tryz.prog 16 #[.slice a n c] w fun e w'=>e=.returned (.tuple #[.string (Pb l),.int .i64 (Cf none l)])/\Below w.heap.size w w':=by
 obtain⟨PO,hPO⟩: ∃P:Ending->World->Prop,(fun e w'=>e=.returned (.tuple #[.string (Pb l),.int .i64 (Cf none l)])/\Below w.heap.size w w')=P:=⟨_,rfl⟩;rw[hPO];by_cases hm:Cf none l=0
 . have hL:=N3 l a n c w hT hN h (by omega) hin hm;have hml:=Vz (d:=1) (Fj hm) (by omega);have hbl:=Ta l;have hlq:=Il l;have hil:=X9 hin;have hTx:=fun(W:World) (hW:Below w.heap.size w W) cs hv=>S5 (Fv l) cs W (hT.below hW) hv (by omega) hil;rw[hml]at hTx;rw[hm,show Pb l=Lp (Fv l)from if_pos hm]at hPO;generalize Lp (Fv l)=S at hTx hPO;obtain⟨HL,HTx,HPO⟩:=hid3 hL hTx hPO;clear hL hTx hPO;clear hT hN h hin hm hml hil;go_enter Tryz.func16,Tryz.ntmps16;go_wp2_with (fail);(with_reducible refine(HL.out).mono ?_);rintro e w1 ⟨hb1,la,lc,rfl,hf⟩;have hv:=Bj _ _ ((hf.later (Ac w1 (.cells #[.int .i64 5,.bool false,.int .i64 0,.string ⟨#[]⟩,.slice la l.length lc,.slice none 0 0] 33))).now);have hbw:=hb1.alloc hb1.size (.cells #[.int .i64 5,.bool false,.int .i64 0,.string ⟨#[]⟩,.slice la l.length lc,.slice none 0 0] 33);have HC:=qz (HTx.out _ hbw _ hv);have Hbw:=qz hbw;clear hbw;clear hf hv hb1;go_wp2_with (fail);(with_reducible refine(HC.out).mono ?_);rintro e w2 ⟨rfl,hb2⟩;have HP:Hid (PO (.returned (.tuple #[.string S,.int .i64 0])) w2):=by
    show PO _ _;rw[<-HPO.out];exact⟨rfl,Hbw.out.trans (hb2.mono Hbw.out.size)⟩
   clear hb2;go_wp2;exact HP.out
 . have hL:=M8 l a n c w hT h (by omega) hin hm;rw[show Pb l=⟨#[]⟩from if_neg hm]at hPO;generalize Cf none l=M at hL hm hPO;have q0:(M != 0)=true:=by simpa using hm
   obtain⟨HL,HPO⟩:=hid2 hL hPO;clear hL hPO;clear hT hN h hin hm;go_enter Tryz.func16,Tryz.ntmps16;go_wp2_with (fail);(with_reducible refine(HL.out).mono ?_);rintro e w1 ⟨hb1,rfl⟩;have HP:Hid (PO (.returned (.tuple #[.string ⟨#[]⟩,.int .i64 M])) (w1.alloc (.cells #[.int .i64 0,.bool false,.int .i64 0,.string ⟨#[]⟩,.slice none 0 0,.slice none 0 0] 33))):=by
    show PO _ _;rw[<-HPO.out];exact⟨rfl,hb1.alloc hb1.size _⟩
   clear hb1;go_wp2;exact HP.out
end Go.Proofs.YtdbejcbbhomdbaaGreatDoor
namespace Go.Proofs.YtdbejcbbhomdbaaGreatDoor
open Go.RowKit Go.ChangeShapes Go.WideShapes Go.ChangeAt
theorem Wy {W:World} (h:Lib.VarReads Tryz.prog W "internal/strconv.uint64pow10" (Lib.tabData .u64 Lib.pow10Tab)):Lib.TabIs Tryz.prog W "internal/strconv.uint64pow10" .u64 Lib.pow10Tab:=by
 obtain⟨g',t',cs,fuel,p,hg',ht',hvar,hd⟩:=h;have hg:Tryz.prog.globalNamed "internal/strconv.uint64pow10" =some 4:=by kernel_rfl
 have hty:(Tryz.prog.globals[4]?).map (·.type)=some 291:=by kernel_rfl
 obtain rfl:=Option.some.inj (hg.symm.trans hg');obtain rfl:=Option.some.inj (hty.symm.trans ht');unfold Lib.TabIs;rw[hvar,<-Lib.cells_of_tab Tryz.underlying291 Tryz.underlying260 (by kernel_rfl) (by kernel_rfl) hd]
theorem Yt {W:World} (h:Lib.VarReads Tryz.prog W "commonplace/patch.names" Rows.laid_commonplace_patch_names):F5 W:=by
 obtain⟨g',t',cs,fuel,p,hg',ht',hvar,hd⟩:=h;have hg:Tryz.prog.globalNamed "commonplace/patch.names" =some 0:=by kernel_rfl
 have hty:(Tryz.prog.globals[0]?).map (·.type)=some 124:=by kernel_rfl
 obtain rfl:=Option.some.inj (hg.symm.trans hg');obtain rfl:=Option.some.inj (hty.symm.trans ht');obtain⟨xs,m,_,hx,hl,hxl,hf⟩:=DataW.trod_array Tryz.underlying124 hd;have hc1:Tryz.prog.cellsOf 9=1:=by kernel_rfl
 have hc4:Tryz.prog.cellsOf 124=4:=by kernel_rfl
 rw[hc4]at hl;have hxs:=congrArg Prod.fst hx;simp only[Rows.laid_commonplace_patch_names,DataW.agg.injEq]at hxs;have key: ∀i,i<4-> ∀l:List UInt8,([[], [112,117,116], [100,101,108], [99,108,101,97,114]]:List (List UInt8))[i]? =some l->cs[i]? =some (.string ⟨l.toArray⟩):=by
  intro i hi l hl';have h1:=hf i hi;rw[hc1,Nat.mul_one]at h1;have h2:((cs.toList.drop i).take 1)= [cs[i]'(by simpa[Array.length_toList]using(by omega:i<cs.toList.length))]:=by
   rw[List.drop_eq_getElem_cons (by omega)];simp
  rw[h2,List.getElem?_eq_getElem (by omega)]at h1;obtain⟨s,hs,hx1,_⟩:=DataW.trod_string Tryz.underlying9 h1;simp only[List.cons.injEq,and_true]at hs;have h3:(xs.map (·.1))[i]? =some (DataW.lit (.string s.data.toList):DataW Unit):=by
   rw[List.getElem?_map,List.getElem?_eq_getElem (by omega),Option.map_some,hx1]
  rw[<-hxs]at h3;have h4:s.data.toList=l:=by
   rcases(by omega:i=0\/i=1\/i=2\/i=3)with rfl|rfl|rfl|rfl<;>exact(Lit.string.inj (DataW.lit.inj (Option.some.inj h3))).symm.trans (Option.some.inj hl')
  have h5:i<cs.size:=by rw[<-Array.length_toList];omega
  rw[Array.getElem?_eq_getElem h5,hs];have h6:s=⟨l.toArray⟩:=by
   apply ByteArray.ext;apply Array.ext';rw[h4]
  rw[h6]
 unfold World.var? at hvar;rw[hg]at hvar;simp only[Option.bind_some]at hvar
 split at hvar
 . rename_i cs' t' fz hh;simp only[Option.some.injEq]at hvar;subst hvar;have hcell: ∀i,W.cell? ⟨0,i,none⟩=cs'[i]? :=fun i=>by unfold World.cell?;rw[hh];rfl
   exact⟨(hcell 1).trans (key 1 (by omega) _ rfl),(hcell 2).trans (key 2 (by omega) _ rfl),(hcell 3).trans (key 3 (by omega) _ rfl),(Array.getElem?_eq_some_iff.1 hh).1⟩
 . cases hvar
theorem Aaj {W:World} (h:laidMetH Tryz.prog Rows.patchMayRow.laid W):Cl W:=by
 have hL:laidMet Tryz.prog Rows.patchMayRow.laid W:=by
  have:=(laidMetH_iff.1 h).1;have e:(Rows.patchMayRow.laid.filter fun x=>x.2.handleName?.isNone)=Rows.patchMayRow.laid:=by kernel_rfl
  rwa [e]at this
 have hu:Lib.Utf8Tabs 1 2 W:=
  utf8Tabs_of_readsT (U8Types.of196 Tryz.lays196) ⟨by kernel_rfl,by kernel_rfl,by kernel_rfl,by kernel_rfl,by kernel_rfl,by kernel_rfl,by kernel_rfl⟩
   (Lib.laidMet.reads hL (n:= "unicode/utf8.first") (d:=Lib.firstData) (by rw[<-Tr];simp[Rows.patchMayRow])) (Lib.laidMet.reads hL (n:= "unicode/utf8.acceptRanges") (d:=Lib.acceptData) (by rw[<-Ry];simp[Rows.patchMayRow]))
 have hp:=Wy (Lib.laidMet.reads hL (n:= "internal/strconv.uint64pow10") (d:=Lib.tabData .u64 Lib.pow10Tab) (by rw[<-Ts];simp[Rows.patchMayRow]));have h64:Lib.VarReads Tryz.prog W "math/bits.deBruijn64tab" Rows.laid_math_bits_deBruijn64tab:=Lib.laidMet.reads hL (by simp[Rows.patchMayRow]);refine⟨?_,hu,hp⟩;obtain⟨g',t',cs,fuel,p,hg',ht',hvar,hd⟩:=h64;have hg:Tryz.prog.globalNamed "math/bits.deBruijn64tab" =some 6:=by kernel_rfl
 obtain rfl:=Option.some.inj (hg.symm.trans hg');unfold World.var? at hvar;rw[hg]at hvar;simp only[Option.bind_some]at hvar;rcases Nat.lt_or_ge 6 W.heap.size with h'|h'
 . omega
 . rw[Array.getElem?_eq_none h']at hvar
   cases hvar
theorem Tx {W:World} (h:laidMetH Tryz.prog Rows.patchMayRow.laid W):F5 W:=by
 have hL:laidMet Tryz.prog Rows.patchMayRow.laid W:=by
  have:=(laidMetH_iff.1 h).1;have e:(Rows.patchMayRow.laid.filter fun x=>x.2.handleName?.isNone)=Rows.patchMayRow.laid:=by kernel_rfl
  rwa [e]at this
 exact Yt (Lib.laidMet.reads hL (by simp[Rows.patchMayRow]))
theorem i64_in {n:Int} (hwf:(Lit.int .i64 n).wf=true): -9223372036854775808<=n/\n<=9223372036854775807:=by
 have h1:IntKind.i64.min= -9223372036854775808:=by decide
 have h2:IntKind.i64.max=9223372036854775807:=by decide
 simp only[Lit.wf,h1,h2,Bool.and_eq_true,decide_eq_true_eq]at hwf;exact hwf
section
variable {H:Type} {enc:TypeId×Value->H} {P:Program}
theorem N5 {f:Func} {s:ChangeSpec} {apart fresh handsOn again:Bool} {W W':World} {args:Array Value} {v:Value} {ds gs:List (DataW H)} {before pa pv:List MemPlace}
 (hW:DataW.Whole enc P f.params.toList s.vars apart W args.toList ds gs before)
 (hres: ∀(b:Nat) (sp:Nat->Bool) (hd:Bool),DataW.TrodAll enc P W' b sp hd f.resultTypes.toList (v.resultList f.resultTypes.size) (s.fn H (ds++gs)).results [])
 (hargs: ∀sp:Nat->Bool,(∀p ∈ before,sp p.block=true)->DataW.TrodAll enc P W' 0 sp true f.params.toList args.toList (s.fn H (ds++gs)).args pa)
 (hvars: ∀sp:Nat->Bool,(∀p ∈ before,sp p.block=true)->DataW.TrodVars enc P W' sp s.vars (s.fn H (ds++gs)).vars pv)
 (hps:before=pa++pv) (hb:Below W.heap.size W W')
 (hok: ∀(j:Nat) (t:TypeId) (r:Value),f.resultTypes[j]? =some t->(v.resultList f.resultTypes.size)[j]? =some r->Value.okWide P W' .any 0 t r):
 s.post enc P f apart fresh handsOn again W args v W':=by
 have hlt: ∀p ∈ before,p.block<W.heap.size:=fun p hp=>hW.lt p hp;have hold: ∀p ∈ before,(fun b=>decide (b<W.heap.size)) p.block=true:=fun p hp=>by simpa using hlt p hp
 refine⟨ds,gs,before, [],pa,pv,hW,hres _ _ _,hargs _ hold,hvars _ hold,World.keptBut_mono (fun p hp=>⟨hp, ?_⟩) (hb.frame (· ∈ before)),fun _=> ?_⟩
 . rw[hps,List.mem_append]at hp;exact Or.inr hp
 . obtain⟨_,_,_,_,_,hz,hn⟩:=hW;refine⟨hok,_,_,([]++pa)++pv,⟨[]++pa,pv,trodAll_append (hargs _ (fun _ _=>rfl)) (hres _ _ _),hvars _ (fun _ _=>rfl),rfl, ?_, ?_⟩, ?_⟩
   . intro b off hp;have hin:MemPlace.cell b off ∈ before:=by rw[hps];simpa using hp
     rw[hb.frozen (hlt _ hin)];exact hz b off hin
   . intro ha;have:=hn ha;rw[hps]at this;simpa using this
   . intro p hp _;rw[hps];simpa using hp
end
end Go.Proofs.YtdbejcbbhomdbaaGreatDoor
