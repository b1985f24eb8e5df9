/- Parts: The last step of a law's row: the answer is true and the arguments read as they did. No condition. -/
import Derived.ChangeSame
import Derived.WideKeyArgs
import Derived.OpenShut
import Derived.Test.YtnkmhaachfgaoaaGreatDoorKPq27
import Derived.Test.YtnkmhaachfgaoaaGreatDoorKPq32
set_option maxHeartbeats 20000000
set_option maxRecDepth 100000
namespace Go.Proofs.YtnkmhaachfgaoaaGreatDoor
open Go Go.RowKit
def G5 (w:World):Prop:=w.cell? ⟨0,1,none⟩=some (.string Ku)/\w.cell? ⟨0,2,none⟩=some (.string Lk)/\w.cell? ⟨0,3,none⟩=some (.string G3)/\0<w.heap.size
theorem G5.below {w w':World} (h:G5 w) (hb:Below w.heap.size w w'):G5 w':=
 ⟨(hb.cell h.2.2.2).trans h.1,(hb.cell h.2.2.2).trans h.2.1,(hb.cell h.2.2.2).trans h.2.2.1,Nat.lt_of_lt_of_le h.2.2.2 hb.size⟩
theorem Acn:Dn [(Ky,tv G3)] []=some [(Ky,tv G3)]:=by rfl
theorem Agx (key:ByteArray):Dn [(Ky,tv Lk),(Ei,tv key)] []=some [(Ei,tv key),(Ky,tv Lk)]:=by kernel_rfl
theorem Ahn (key:ByteArray) (v:Val):Dn [(Ky,tv Ku),(Jt,v),(Ei,tv key)] []=some [(Ei,tv key),(Ky,tv Ku),(Jt,v)]:=by kernel_rfl
theorem Ac7 (key:ByteArray) (c0:Int) (c1:Bool) (c2:Int) (c3:ByteArray) (c4a c5a:Option Addr) (c4n c4c c5n c5c:Nat) (w:World) (hN:G5 w):
 Calls Tryz.prog 118 #[.agg #[.int .i64 3,.string key,.int .i64 c0,.bool c1,.int .i64 c2,.string c3,.slice c4a c4n c4c,.slice c5a c5n c5c]] w (Kz [(Ky,tv G3)] w):=by
 obtain⟨n1,n2,n3,n4⟩:=hN;have HO:=qz (fun(W:World) a n c h=>Vw [(Ky,tv G3)] _ a n c W h (by decide) Acn);have HX:=qz (fun W=>E9 G3 W);have HR:=qz (fun(W:World)=>Aav W G3);go_enter Tryz.func118,Tryz.ntmps118;go_wp2_with (first
  |(go_at_call 173;(with_reducible refine(HX.out _).mono ?_);rintro e w1 ⟨rfl,hb1⟩;obtain⟨hc1,hf1⟩:=Et hb1;obtain⟨hz0,hz1⟩:=Agc hb1)
  |(fail))
 (with_reducible refine(HO.out _ _ _ _ (HR.out w1).now).mono ?_);rintro e w2 ⟨hb2,la,lc,oa,oc,rfl,hf2⟩;have hz2:w1.heap.size<w2.heap.size:=by have:=hb2.size;simp at this;omega
 have hz4:w.heap.size+1<w2.heap.size:=by omega
 have hx2:=Vn hb1 hb2;obtain⟨r0,r1,r2,r3,r4,r5⟩:=Dv hx2;have fz:=hx2.frozen;obtain⟨Hx2,Hb1,Hb2,Hf2⟩:=hid4 hx2 hb1 hb2 hf2;clear hx2 hb1 hb2 hf2;clear hc1 hf1 n1 n2 n3 n4 HO HX HR;go_upto_region 8 with(fail)
 repeat go_step
 have hB2:Below w.heap.size w w2:=(((((Below.refl w.heap.size w).alloc (Nat.le_refl _) _).alloc (by simp) _).trans (Hb1.out.mono (by simp;omega))).alloc (by omega) _).trans (Hb2.out.mono (by simp;omega));obtain⟨q1,q2⟩:=Uu (R:=w.heap.size+1) (o:=.cells #[.int .i64 6,.bool false,.int .i64 0,.string ⟨#[]⟩,.slice la 0 lc,.slice oa 1 oc] 40) [.int .i64 6,.bool false,.int .i64 0,.string ⟨#[]⟩,.slice la 0 lc,.slice oa 1 oc] hB2 (by omega) (by omega) (by simp;omega) Hf2.out;have hxf:=((((((Hx2.out.set_ 0 (.int .i64 6)).set_ 1 (.bool false)).set_ 2 (.int .i64 0)).set_ 3 (.string ⟨#[]⟩)).set_ 4 (.slice la 0 lc)).set_ 5 (.slice oa 1 oc)).alloc (.cells #[.int .i64 6,.bool false,.int .i64 0,.string ⟨#[]⟩,.slice la 0 lc,.slice oa 1 oc] 40);exact bodyPost_ret (Jh rfl rfl hxf) rfl ⟨q1,la,lc,oa,oc,rfl,q2⟩
theorem Ahb (key:ByteArray) (hkey:key.size<=1000) (c0:Int) (c1:Bool) (c2:Int) (c3:ByteArray) (c4a c5a:Option Addr) (c4n c4c c5n c5c:Nat) (w:World) (hN:G5 w):
 Calls Tryz.prog 118 #[.agg #[.int .i64 2,.string key,.int .i64 c0,.bool c1,.int .i64 c2,.string c3,.slice c4a c4n c4c,.slice c5a c5n c5c]] w (Kz [(Ei,tv key),(Ky,tv Lk)] w):=by
 obtain⟨n1,n2,n3,n4⟩:=hN;obtain⟨j0,hj,hy0,hy1,hy2⟩:=info_parts Ri;have HO:=qz (fun(W:World) a n c h=>Vw [(Ky,tv Lk),(Ei,tv key)] _ a n c W h (by have e1:Ya.size=0:=rfl;have e2:Ei.size=3:=rfl;have e3:Ky.size=2:=rfl;have e6:Lk.size=3:=rfl;simp only[Ac,Dg,tv,Val.bulk,Bc,e2,e3,e6];omega) (Agx key));have HX:=qz (fun W=>E9 Lk W);have HY:=qz (fun W=>E9 key W);have HR:=qz (fun(W:World)=>Aav W Lk);obtain⟨Hj,Hy0,Hy1,Hy2⟩:=hid4 hj hy0 hy1 hy2;clear hj hy0 hy1 hy2;go_enter Tryz.func118,Tryz.ntmps118;go_wp2_with (first
  |(go_at_call 173;(with_reducible refine(HX.out _).mono ?_);rintro e w1 ⟨rfl,hb1⟩;obtain⟨hc1,hf1⟩:=Et hb1;obtain⟨hz0,hz1⟩:=Agc hb1;have HXd:=HX;clear HX)
  |(fail))
 have hq2:=Te w (.cells #[.int .i64 2,.string key,.int .i64 c0,.bool c1,.int .i64 c2,.string c3,.slice c4a c4n c4c,.slice c5a c5n c5c] 42) (.cells C9 40);have hx1:Ah (w1.alloc (.cells #[.string Ky,.int .i64 4,.bool false,.int .i64 0,.string Lk,.slice none 0 0,.slice none 0 0] 94)) (w.heap.size+1) 40 C9:=Vn (w1:=w1) hb1 (Below.refl _ _);have Hw1:Hid (Below w.heap.size w (w1.alloc (.cells #[.string Ky,.int .i64 4,.bool false,.int .i64 0,.string Lk,.slice none 0 0,.slice none 0 0] 94))):=(hq2.trans (hb1.mono hq2.size)).alloc (by omega) _;obtain⟨Hq2,Hx1,Hb1⟩:=hid3 hq2 hx1 hb1;clear hq2 hx1 hb1;go_at_call 173;(with_reducible refine(HY.out _).mono ?_);rintro e w2 ⟨rfl,hb2⟩;have hs2:w1.heap.size+1<=w2.heap.size:=by have:=hb2.size;simpa using this
 have Hx2:=qz ((Hx1.out.below hb2 Hx1.out.lt).alloc (.cells #[.string Ei,.int .i64 4,.bool false,.int .i64 0,.string key,.slice none 0 0,.slice none 0 0] 94));have Hw2:=qz ((Hw1.out.trans (hb2.mono Hw1.out.size)).alloc (by omega) (.cells #[.string Ei,.int .i64 4,.bool false,.int .i64 0,.string key,.slice none 0 0,.slice none 0 0] 94));have Hbe:=qz (hb2.alloc hb2.size (.cells #[.string Ei,.int .i64 4,.bool false,.int .i64 0,.string key,.slice none 0 0,.slice none 0 0] 94));have Hb2:=qz hb2;clear hb2;clear hc1 hf1 n1 n2 n3;go_wp2_with (at_builtin;refine G4 (V:=.slice (some ⟨w1.heap.size,0,none⟩) 1 1) rfl (.tmp 26) (.tmp 31) 38 rfl Tryz.underlying38 Hj.out Hy0.out Hy1.out Hy2.out rfl (by omega) rfl (HR.out w1) (by simp) Hbe.out (Dr (Ei,tv key)) (Tl _ _ Ei key) rfl (Li w2 _ _ _ _ _ _ _) (by simp[maxLen,dO]) (by simp[dO]) ?_;intro V6 w6 hrow6 hg6 hat6);have hx6:=Lu Hx2.out hg6 (HR.out w1) (by omega);have Hw6:=qz (Jm Hw2.out hg6 (HR.out w1) (by omega) (by simp;omega));obtain⟨a6,c6,rfl⟩:=hrow6.slice_n (n:=2) rfl;have HN6:Hid (Ae w6 w6.heap.size (.row 7 (dO [(Ky,tv Lk),(Ei,tv key)])) [.slice a6 2 c6]):=Dq.now (l:=dO [(Ky,tv Lk),(Ei,tv key)]) hrow6;have hs6:w2.heap.size+1<=w6.heap.size:=by have:=hg6.size;simpa using this
 have Hx6:=qz hx6;clear hx6;clear hrow6 hg6 hat6;(with_reducible refine(HO.out _ _ _ _ HN6.out).mono ?_);rintro e w7 ⟨hb7,la,lc,oa,oc,rfl,hf7⟩;have hs7:=hb7.size;have hz4:w.heap.size+1<w7.heap.size:=by omega
 have hx7:=Hx6.out.below hb7 Hx6.out.lt;obtain⟨r0,r1,r2,r3,r4,r5⟩:=Dv hx7;have fz:=hx7.frozen;obtain⟨Hx7,Hb7,Hf7⟩:=hid3 hx7 hb7 hf7;clear hx7 hb7 hf7;clear n4 HO HXd HR HY;go_upto_region 8 with(fail)
 repeat go_step
 have hB2:=Hw6.out.trans (Hb7.out.mono Hw6.out.size);obtain⟨q1,q2⟩:=Uu (R:=w.heap.size+1) (o:=.cells #[.int .i64 6,.bool false,.int .i64 0,.string ⟨#[]⟩,.slice la 0 lc,.slice oa 2 oc] 40) [.int .i64 6,.bool false,.int .i64 0,.string ⟨#[]⟩,.slice la 0 lc,.slice oa 2 oc] hB2 (by omega) (by omega) (by omega) Hf7.out;have hxf:=((((((Hx7.out.set_ 0 (.int .i64 6)).set_ 1 (.bool false)).set_ 2 (.int .i64 0)).set_ 3 (.string ⟨#[]⟩)).set_ 4 (.slice la 0 lc)).set_ 5 (.slice oa 2 oc)).alloc (.cells #[.int .i64 6,.bool false,.int .i64 0,.string ⟨#[]⟩,.slice la 0 lc,.slice oa 2 oc] 40);exact bodyPost_ret (Jh rfl rfl hxf) rfl ⟨q1,la,lc,oa,oc,rfl,q2⟩
theorem Aiv {w w1:World} {cs:Array Value} {o' o'':Obj} (hb1:Below ((w.alloc (.cells cs 42)).alloc o').heap.size ((w.alloc (.cells cs 42)).alloc o') w1):Ah (w1.alloc o'') w.heap.size 42 cs:=by
 have h0:Ah ((w.alloc (.cells cs 42)).alloc o') w.heap.size 42 cs:=(Ah.new _ _ _).alloc _;exact(h0.below hb1 h0.lt).alloc _
theorem Ahc (key:ByteArray) (hkey:key.size<=1000) (k':Int) (b':Bool) (n':Int) (t':ByteArray) (l':List Val) (o':List (ByteArray×Val)) (la' oa':Option Addr) (lc' oc':Nat) (w:World) (hN:G5 w)
 (hv:Ab w w.heap.size (.mk k' b' n' t' l' o') [.int .i64 k',.bool b',.int .i64 n',.string t',.slice la' l'.length lc',.slice oa' o'.length oc']) (hb:(Val.mk k' b' n' t' l' o').bulk<=80000000):
 Calls Tryz.prog 118 #[.agg #[.int .i64 1,.string key,.int .i64 k',.bool b',.int .i64 n',.string t',.slice la' l'.length lc',.slice oa' o'.length oc']] w (Kz [(Ei,tv key),(Ky,tv Ku),(Jt,.mk k' b' n' t' l' o')] w):=by
 obtain⟨n1,n2,n3,n4⟩:=hN;obtain⟨j0,hj,hy0,hy1,hy2⟩:=info_parts Ri;have hO:=fun(W:World) a n c h=>Vw [(Ky,tv Ku),(Jt,.mk k' b' n' t' l' o'),(Ei,tv key)] _ a n c W h (by
  have e1:Ya.size=0:=rfl;have e2:Ei.size=3:=rfl;have e3:Ky.size=2:=rfl;have e4:Jt.size=5:=rfl;have e6:Ku.size=3:=rfl;have e7:(tv Ku).bulk=9:=rfl;have e8:(tv key).bulk=6+key.size:=by simp[tv,Val.bulk,Bc,Ac]
  simp only[Ac,Dg,e2,e3,e4,e7,e8];omega) (Ahn key _)
 have HX:=qz (fun W=>E9 Ku W);have HY:=qz (fun W=>E9 key W);have HR:=qz (fun(W:World)=>Aav W Ku);have hVC: ∀W,Below w.heap.size w W->Calls Tryz.prog 162 #[.agg #[.int .i64 k',.bool b',.int .i64 n',.string t',.slice la' l'.length lc',.slice oa' o'.length oc']] W fun e w'=>Below W.heap.size W w'/\ ∃la2 lc2 oa2 oc2,e=.returned (.agg #[.int .i64 k',.bool b',.int .i64 n',.string t',.slice la2 l'.length lc2,.slice oa2 o'.length oc2])/\Bv W.heap.size w' (dV (.mk k' b' n' t' l' o')) [.int .i64 k',.bool b',.int .i64 n',.string t',.slice la2 l'.length lc2,.slice oa2 o'.length oc2]:=by
  intro W hW;refine(Lp _ _ W (Ab.more hW.size _ _ (hv.below hW)) (by omega)).mono ?_;rintro e w' ⟨⟨cs,rfl,hl,hf⟩,hb'⟩;have hh:=Bp _ _ hf.now;simp only[Ab]at hh;obtain⟨la2,lc2,oa2,oc2,rfl,_,_⟩:=hh;exact⟨hb',la2,lc2,oa2,oc2,rfl,hf⟩
 obtain⟨HO,Hj,Hy0,Hy1,Hy2,HVC,Hv⟩:=hid7 hO hj hy0 hy1 hy2 hVC hv;clear hO hj hy0 hy1 hy2 hVC hv;go_enter Tryz.func118,Tryz.ntmps118;go_wp2_with (first
  |(go_at_call 173;(with_reducible refine(HX.out _).mono ?_);rintro e w1 ⟨rfl,hb1⟩;obtain⟨hc1,hf1⟩:=Et hb1;obtain⟨hz0,hz1⟩:=Agc hb1;have HXd:=HX;clear HX)
  |(fail))
 have hq2:=Te w (.cells #[.int .i64 1,.string key,.int .i64 k',.bool b',.int .i64 n',.string t',.slice la' l'.length lc',.slice oa' o'.length oc'] 42) (.cells C9 40);have hx1:Ah (w1.alloc (.cells #[.string Ky,.int .i64 4,.bool false,.int .i64 0,.string Ku,.slice none 0 0,.slice none 0 0] 94)) (w.heap.size+1) 40 C9:=Vn (w1:=w1) hb1 (Below.refl _ _);have ho1:Ah (w1.alloc (.cells #[.string Ky,.int .i64 4,.bool false,.int .i64 0,.string Ku,.slice none 0 0,.slice none 0 0] 94)) w.heap.size 42 #[.int .i64 1,.string key,.int .i64 k',.bool b',.int .i64 n',.string t',.slice la' l'.length lc',.slice oa' o'.length oc']:=Aiv hb1;have Hw1:Hid (Below w.heap.size w (w1.alloc (.cells #[.string Ky,.int .i64 4,.bool false,.int .i64 0,.string Ku,.slice none 0 0,.slice none 0 0] 94))):=(hq2.trans (hb1.mono hq2.size)).alloc (by omega) _;obtain⟨Hq2,Hx1,Hb1,Ho1⟩:=hid4 hq2 hx1 hb1 ho1;clear hq2 hx1 hb1 ho1;go_at_call 162;(with_reducible refine(HVC.out _ Hw1.out).mono ?_);rintro e w2 ⟨hb2,la2,lc2,oa2,oc2,rfl,hf2⟩;have hs2:w1.heap.size+1<=w2.heap.size:=by have:=hb2.size;simpa using this
 have Hx2:=qz ((Hx1.out.below hb2 Hx1.out.lt).alloc (.cells #[.string Jt,.int .i64 k',.bool b',.int .i64 n',.string t',.slice la2 l'.length lc2,.slice oa2 o'.length oc2] 94));have Ho2:=qz ((Ho1.out.below hb2 Ho1.out.lt).alloc (.cells #[.string Jt,.int .i64 k',.bool b',.int .i64 n',.string t',.slice la2 l'.length lc2,.slice oa2 o'.length oc2] 94));have Hw2:=qz ((Hw1.out.trans (hb2.mono Hw1.out.size)).alloc (by omega) (.cells #[.string Jt,.int .i64 k',.bool b',.int .i64 n',.string t',.slice la2 l'.length lc2,.slice oa2 o'.length oc2] 94));have Hbe:=qz (hb2.alloc hb2.size (.cells #[.string Jt,.int .i64 k',.bool b',.int .i64 n',.string t',.slice la2 l'.length lc2,.slice oa2 o'.length oc2] 94));have Hfe:=qz ((Qv (key:=Jt) hf2).later (Aa w2 (.cells #[.string Jt,.int .i64 k',.bool b',.int .i64 n',.string t',.slice la2 l'.length lc2,.slice oa2 o'.length oc2] 94)));obtain⟨Hb2,Hf2⟩:=hid2 hb2 hf2;clear hb2 hf2;clear hc1 hf1 n1 n2 n3;go_wp2_with (at_builtin;refine G4 (V:=.slice (some ⟨w1.heap.size,0,none⟩) 1 1) rfl (.tmp 19) (.tmp 24) 38 rfl Tryz.underlying38 Hj.out Hy0.out Hy1.out Hy2.out rfl (by omega) rfl (HR.out w1) (by simp) Hbe.out (Dr (Jt,.mk k' b' n' t' l' o')) Hfe.out rfl (Li w2 _ _ _ _ _ _ _) (by simp[maxLen,dO]) (by simp[dO]) ?_;intro V6 w6 hrow6 hg6 hat6;obtain⟨_,e6,_⟩:=Ab2 (Lu Ho2.out hg6 (HR.out w1) (by omega)));have hx6:=Lu Hx2.out hg6 (HR.out w1) (by omega);have Hw6:=qz (Jm Hw2.out hg6 (HR.out w1) (by omega) (by simp;omega));have hs6:w2.heap.size+1<=w6.heap.size:=by have:=hg6.size;simpa using this
 obtain⟨Hx6,Hrow6,Hg6,Hat6⟩:=hid4 hx6 hrow6 hg6 hat6;clear hx6 hrow6 hg6 hat6;go_at_call 173;(with_reducible refine(HY.out _).mono ?_);rintro e w7 ⟨rfl,hb7⟩;have hs7:=hb7.size;have Hx7:=qz ((Hx6.out.below hb7 Hx6.out.lt).alloc (.cells #[.string Ei,.int .i64 4,.bool false,.int .i64 0,.string key,.slice none 0 0,.slice none 0 0] 94));have Hw7:=qz ((Hw6.out.trans (hb7.mono Hw6.out.size)).alloc (by omega) (.cells #[.string Ei,.int .i64 4,.bool false,.int .i64 0,.string key,.slice none 0 0,.slice none 0 0] 94));have Hbe7:=qz (hb7.alloc hb7.size (.cells #[.string Ei,.int .i64 4,.bool false,.int .i64 0,.string key,.slice none 0 0,.slice none 0 0] 94));have Hb7:=qz hb7;clear hb7;go_wp2_with (at_builtin;refine G4 (V:=V6) rfl (.tmp 26) (.tmp 31) 38 rfl Tryz.underlying38 Hj.out Hy0.out Hy1.out Hy2.out rfl (by omega) rfl Hrow6.out (by omega) Hbe7.out (Dr (Ei,tv key)) (Tl _ _ Ei key) rfl (Li w7 _ _ _ _ _ _ _) (by simp[maxLen,dO]) (by simp[dO]) ?_;intro V9 w9 hrow9 hg9 hat9);have hx9:=Lu Hx7.out hg9 Hrow6.out (by omega);have Hw9:=qz (Jm Hw7.out hg9 Hrow6.out (by omega) (by simp;omega));have hs9:w7.heap.size+1<=w9.heap.size:=by have:=hg9.size;simpa using this
 obtain⟨a9,c9,rfl⟩:=hrow9.slice_n (n:=3) rfl;have HN9:Hid (Ae w9 w9.heap.size (.row 7 (dO [(Ky,tv Ku),(Jt,.mk k' b' n' t' l' o'),(Ei,tv key)])) [.slice a9 3 c9]):=Dq.now (l:=dO [(Ky,tv Ku),(Jt,.mk k' b' n' t' l' o'),(Ei,tv key)]) hrow9;have Hx9:=qz hx9;clear hx9;clear hrow9 hg9 hat9;(with_reducible refine(HO.out _ _ _ _ HN9.out).mono ?_);rintro e wa ⟨hba,la,lc,oa,oc,rfl,hfa⟩;have hsa:=hba.size;have hz4:w.heap.size+1<wa.heap.size:=by omega
 have hxa:=Hx9.out.below hba Hx9.out.lt;obtain⟨r0,r1,r2,r3,r4,r5⟩:=Dv hxa;have fz:=hxa.frozen;obtain⟨Hxa,Hba,Hfa⟩:=hid3 hxa hba hfa;clear hxa hba hfa;clear n4 HO HXd HR HY HVC e6;go_upto_region 8 with(fail)
 repeat go_step
 have hB2:=Hw9.out.trans (Hba.out.mono Hw9.out.size);obtain⟨q1,q2⟩:=Uu (R:=w.heap.size+1) (o:=.cells #[.int .i64 6,.bool false,.int .i64 0,.string ⟨#[]⟩,.slice la 0 lc,.slice oa 3 oc] 40) [.int .i64 6,.bool false,.int .i64 0,.string ⟨#[]⟩,.slice la 0 lc,.slice oa 3 oc] hB2 (by omega) (by omega) (by omega) Hfa.out;have hxf:=((((((Hxa.out.set_ 0 (.int .i64 6)).set_ 1 (.bool false)).set_ 2 (.int .i64 0)).set_ 3 (.string ⟨#[]⟩)).set_ 4 (.slice la 0 lc)).set_ 5 (.slice oa 3 oc)).alloc (.cells #[.int .i64 6,.bool false,.int .i64 0,.string ⟨#[]⟩,.slice la 0 lc,.slice oa 3 oc] 40);exact bodyPost_ret (Jh rfl rfl hxf) rfl ⟨q1,la,lc,oa,oc,rfl,q2⟩
def Sn (p:POp):List (ByteArray×Val):=if p.k=1 then [(Ei,tv p.key),(Ky,tv Ku),(Jt,p.v)]else if p.k=2 then [(Ei,tv p.key),(Ky,tv Lk)]else [(Ky,tv G3)]
theorem Tr {k:ByteArray} (h:Iv k=true):k.size<=64:=by
 unfold Iv at h;simp only[Bool.and_eq_true,decide_eq_true_eq]at h;exact h.2.1
theorem Ac6 (k:Int) (key:ByteArray) (k':Int) (b':Bool) (n':Int) (t':ByteArray) (l':List Val) (o':List (ByteArray×Val)) (la' oa':Option Addr) (lc' oc':Nat) (w:World) (hok:okQ ⟨k,key,.mk k' b' n' t' l' o'⟩) (hN:G5 w)
 (hv:Ab w w.heap.size (.mk k' b' n' t' l' o') [.int .i64 k',.bool b',.int .i64 n',.string t',.slice la' l'.length lc',.slice oa' o'.length oc']) (hb:(Val.mk k' b' n' t' l' o').bulk<=80000000):
 Calls Tryz.prog 118 #[.agg #[.int .i64 k,.string key,.int .i64 k',.bool b',.int .i64 n',.string t',.slice la' l'.length lc',.slice oa' o'.length oc']] w (Kz (Sn ⟨k,key,.mk k' b' n' t' l' o'⟩) w):=by
 rcases hok with⟨h,hk,_⟩|⟨h,hk⟩|h<;>simp only at h
 . subst h;exact Ahc key (by have:=Tr hk;simp only at this;omega) k' b' n' t' l' o' la' oa' lc' oc' w hN hv hb
 . subst h;exact Ahb key (by have:=Tr hk;simp only at this;omega) _ _ _ _ _ _ _ _ _ _ w hN
 . subst h;exact Ac7 key _ _ _ _ _ _ _ _ _ _ w hN
def M7 (l:List POp) (q:Nat):List D:=dL ((l.take q).map P8)
structure LI (w:World) (g:Nat) (l:List POp) (q:Nat) (wr:World) (V:Value):Prop where
 below:Below w.heap.size w wr
 res:Ah wr w.heap.size 40 C9
 var:Ah wr g 40 #[.int .i64 5,.bool false,.int .i64 0,.string ⟨#[]⟩,V,.slice none 0 0]
 row:Dq (g+1) 40 6 wr (M7 l q) V
 lt:w.heap.size<g
def Ad1 (l:List POp) (w:World) (e:Ending) (w':World):Prop:=Below w.heap.size w w'/\
 ∃la lc,e=.returned (.tuple #[.agg #[.int .i64 5,.bool false,.int .i64 0,.string ⟨#[]⟩,.slice la l.length lc,.slice none 0 0],.int .i64 0])/\Bv w.heap.size w' (dV (Ja l)) [.int .i64 5,.bool false,.int .i64 0,.string ⟨#[]⟩,.slice la l.length lc,.slice none 0 0]
theorem Sq (l:List POp) (a:Option Addr) (n c:Nat) (w:World) (hT:Cr w) (hN:G5 w) (h:Ae w w.heap.size (.row 8 (Ex l)) [.slice a n c]) (hb:Bo l<=50000000) (hin:inQ l) (hm:Aq none l=0):
 Calls Tryz.prog 71 #[.slice a n c] w (Ad1 l w):=by
 have hlq:=Em l;have hn:=h.row_len;rw[Ee]at hn;subst hn;obtain⟨j0,hj,hy0,hy1,hy2⟩:=info_parts Agi;have hb0:Below w.heap.size w (w.alloc (.cells C9 40)):=(Below.refl _ _).alloc (Nat.le_refl _) _;have hM:=Kq l a l.length c (w.alloc (.cells C9 40)) (hT.below hb0) ((h.below hb0).more hb0.size) (by omega) hin;rw[hm]at hM;have Hok:=qz (Il hm);obtain⟨HM,HT,HN,H,Hb0,Hj,Hy0,Hy1,Hy2,Hin⟩:=hid10 hM hT hN h hb0 hj hy0 hy1 hy2 hin;clear hM hT hN h hb0 hj hy0 hy1 hy2 hin;clear hm;go_enter Tryz.func71,Tryz.ntmps71;go_wp2_with (go_at_call 34;(with_reducible refine(HM.out).mono ?_);rintro e w1 ⟨rfl,hb1⟩);have hz1:w.heap.size<w1.heap.size:=by have:=hb1.size;simp at this;omega
 have hI0:LI w w1.heap.size l 0 (w1.alloc (.cells #[.int .i64 5,.bool false,.int .i64 0,.string ⟨#[]⟩,.slice none 0 0,.slice none 0 0] 40)) (.slice none 0 0):=
  ⟨(Hb0.out.trans (hb1.mono Hb0.out.size)).alloc (by omega) _,((Ah.new w 40 C9).below hb1 (Ah.new w 40 C9).lt).alloc _,Ah.new _ _ _,by simpa[M7,dL]using Dq.nil _ _ _ _,hz1⟩
 obtain⟨w2,hw2⟩: ∃w2,w1.alloc (.cells #[.int .i64 5,.bool false,.int .i64 0,.string ⟨#[]⟩,.slice none 0 0,.slice none 0 0] 40)=w2:=⟨_,rfl⟩;rw[hw2]at hI0 ⊢;have HI0:=qz hI0;clear hI0 hw2 hb1;generalize w1.heap.size=g at*
 go_loopw [17] (fun i wr=> ∃q:Nat,i=.int .i64 q/\q<=l.length/\ ∃V,Hid (LI w g l q wr V)) (fun i _=>l.length - (intOf i).toNat)
 case atStart=>exact⟨0,rfl,Nat.zero_le _,_,HI0⟩
 case round=>
  obtain⟨q,rfl,hq,V,hI⟩:=hrel;clear HI0;by_cases hlt:q<l.length
  . obtain⟨p,hp⟩: ∃p,l[q]? =some p:=⟨_,List.getElem?_eq_getElem hlt⟩;have hmem:=List.mem_of_getElem? hp;have hbq:=Lv hmem;have hokp:=Hok.out p hmem;have htk:M7 l q++ [dV (P8 p)]=M7 l (q+1):=by
     unfold M7;rw[List.take_add_one,hp,Mu,Mu];simp
    obtain⟨k,key,⟨k',b',n',t',l',o'⟩⟩:=p;simp only at hbq;have hbw:=hI.out.below;have hz:=hbw.size;obtain⟨gl,off,rfl,hgl,la',lc',oa',oc',hv,c0,c1,c2,c3,c4,c5,c6,c7⟩:=Kp ((H.out.below hbw).more hz) hp;obtain⟨wi,hwi⟩: ∃wi,wr.alloc (.cells #[.int .i64 k,.string key,.int .i64 k',.bool b',.int .i64 n',.string t',.slice la' l'.length lc',.slice oa' o'.length oc'] 42)=wi:=⟨_,rfl⟩;have hbi:Below wr.heap.size wr wi:=hwi▸Aa _ _;have hxi:Ah wi wr.heap.size 42 #[.int .i64 k,.string key,.int .i64 k',.bool b',.int .i64 n',.string t',.slice la' l'.length lc',.slice oa' o'.length oc']:=by rw[<-hwi];exact Ah.new _ _ _
    have hxv:=hI.out.var.below hbi hI.out.var.lt;have Hrow:=qz (hI.out.row.below hbi);have Hres:=qz hI.out.res;obtain⟨aV,cV,rfl⟩:=hI.out.row.slice;have hgr:gl<wr.heap.size:=hgl;have hgv:g<wi.heap.size:=hxv.lt;have hq1:(q:Int)<(l.length:Int):=by omega
    have hwi2:Below w.heap.size w wi:=hbw.trans (hbi.mono hz);have hC: ∀W,Below wi.heap.size wi W->Calls Tryz.prog 118 #[.agg #[.int .i64 k,.string key,.int .i64 k',.bool b',.int .i64 n',.string t',.slice la' l'.length lc',.slice oa' o'.length oc']] W (Kz (Sn ⟨k,key,.mk k' b' n' t' l' o'⟩) W):=fun W hW=>by
     have hWr:=hbi.trans (hW.mono hbi.size);exact Ac6 k key k' b' n' t' l' o' la' oa' lc' oc' W hokp (HN.out.below (hwi2.trans (hW.mono hwi2.size))) ((hv.below hWr).more hWr.size) (by omega)
    obtain⟨Hp,Hv,Hbi,Hbw,HC,Htk,Hwi2⟩:=hid7 hp hv hbi hbw hC htk hwi2;clear hp hv hbi hbw hC htk hwi2;clear hmem hokp;go_upto_region 8 with(fail);clear hwi;obtain⟨x0,x1,x2,x3,x4,x5,x6,x7⟩:=Ab2 hxi;obtain⟨_,_,_,_,y4,_⟩:=Dv hxv;have hdl:(M7 l q).length=q:=by unfold M7;rw[Oq,List.length_map,List.length_take];omega
    have hLo:Hid ((M7 l q).length+1<=maxLen/\((M7 l q).length+1)*88<=140737488355328):=by rw[hdl];exact⟨by simp only[maxLen];omega,by omega⟩
    obtain⟨Hxi,Hxv⟩:=hid2 hxi hxv;clear hxi hxv;clear c0 c1 c2 c3 c4 c5 c6 c7 hdl
    go_region_law (first
     |(refine Mi (d:=dV (P8 ⟨k,key,.mk k' b' n' t' l' o'⟩)) (V:=.slice aV (M7 l q).length cV) (by rfl) (.tmp 22) (.tmp 25) 37 (by rfl) Tryz.underlying37 Hj.out Hy0.out Hy1.out Hy2.out rfl (by omega) (by rfl) Hrow.out (by omega) Hbe.out (Ey _) Hfe.out (by rfl) (Ade w4 _ _ _ _ _ _) hLo.out.1 hLo.out.2 ?_;intro V6 w6 hrow6 hg6 hat6;rw[Htk.out]at hrow6;have hx6:=Lu Hxv4.out hg6 Hrow.out (by omega);have hw6:=Jm Hw4.out hg6 Hrow.out (by omega) Hw4.out.size;have hr6:=Lu Hr4.out hg6 Hrow.out (by omega);have e6:=hx6.cell 4;have f6:=hx6.frozen 4;obtain⟨a6,c6,rfl⟩:=hrow6.slice;have HG6:=qz (And.intro hrow6 (And.intro hx6 (And.intro hw6 hr6)));clear hrow6 hg6 hat6 hx6 hw6 hr6)
     |(go_simp;go_at_call 118;refine(HC.out _ (Below.drew (Below.refl _ _))).mono ?_;rintro e w4 ⟨hb4,la4,lc4,oa4,oc4,rfl,hf4⟩;have hbr:Below wi.heap.size wi w4:=(Below.drew (Below.refl _ _)).trans hb4;have hxv4:=Hxv.out.below hbr Hxv.out.lt;have g3:=hxv4.cell 4;have g4:=(hxv4.alloc (.cells #[.int .i64 6,.bool false,.int .i64 0,.string ⟨#[]⟩,.slice la4 0 lc4,.slice oa4 (Sn ⟨k,key,.mk k' b' n' t' l' o'⟩).length oc4] 40)).cell 4;have Hxv4:=qz (hxv4.alloc (.cells #[.int .i64 6,.bool false,.int .i64 0,.string ⟨#[]⟩,.slice la4 0 lc4,.slice oa4 (Sn ⟨k,key,.mk k' b' n' t' l' o'⟩).length oc4] 40));have Hr4:=qz ((((Hres.out.below Hbi.out Hres.out.lt).below hbr (by omega))).alloc (.cells #[.int .i64 6,.bool false,.int .i64 0,.string ⟨#[]⟩,.slice la4 0 lc4,.slice oa4 (Sn ⟨k,key,.mk k' b' n' t' l' o'⟩).length oc4] 40));have Hw4:=qz ((Hwi2.out.trans (hbr.mono Hwi2.out.size)).alloc (Nat.le_trans Hwi2.out.size hbr.size) (.cells #[.int .i64 6,.bool false,.int .i64 0,.string ⟨#[]⟩,.slice la4 0 lc4,.slice oa4 (Sn ⟨k,key,.mk k' b' n' t' l' o'⟩).length oc4] 40));have Hbe:=qz (hbr.alloc hbr.size (.cells #[.int .i64 6,.bool false,.int .i64 0,.string ⟨#[]⟩,.slice la4 0 lc4,.slice oa4 (Sn ⟨k,key,.mk k' b' n' t' l' o'⟩).length oc4] 40));have hfe:Bv wi.heap.size (w4.alloc (.cells #[.int .i64 6,.bool false,.int .i64 0,.string ⟨#[]⟩,.slice la4 0 lc4,.slice oa4 (Sn ⟨k,key,.mk k' b' n' t' l' o'⟩).length oc4] 40)) (dV (P8 ⟨k,key,.mk k' b' n' t' l' o'⟩)) [.int .i64 6,.bool false,.int .i64 0,.string ⟨#[]⟩,.slice la4 0 lc4,.slice oa4 (Sn ⟨k,key,.mk k' b' n' t' l' o'⟩).length oc4]:=hf4.later (Aa w4 (.cells #[.int .i64 6,.bool false,.int .i64 0,.string ⟨#[]⟩,.slice la4 0 lc4,.slice oa4 (Sn ⟨k,key,.mk k' b' n' t' l' o'⟩).length oc4] 40));have Hfe:=qz hfe;clear hb4 hf4 hbr hxv4 hfe))
    all_goals
     obtain⟨k1,k2,k3,k4⟩:=HG6.out;have HN:Hid (LI w g l (q+1) (w6.setCell ⟨g,4,none⟩ (.slice a6 (M7 l (q+1)).length c6)) (.slice a6 (M7 l (q+1)).length c6)):=
      ⟨k3.setCell (by simp;omega) _,k4.far (by simp;omega) _,k2.set_ 4 _,k1.keep (by simp[World.setCell]) (fun i h1 _=>Below.heap_setCell _ _ _ _ (by simp;omega)),hz1⟩
     clear k1 k2 k3 k4 HG6 Hfe Hbe Hxv4 Hw4 Hr4;go_wp2;go_roundw
     case rel=>exact⟨q+1,by go_num,by omega,_,HN⟩
     case measure=>simp only[intOf];omega
  . obtain rfl:q=l.length:=by omega
    have hln:(M7 l l.length).length=l.length:=by unfold M7;rw[Oq,List.length_map,List.take_length]
    obtain⟨aV,cV,rfl⟩:=hI.out.row.slice_n hln;obtain⟨i1,i2,i3,i4,i5⟩:=hI.out;obtain⟨y0,y1,y2,y3,y4,y5⟩:=Dv i3;obtain⟨r0,r1,r2,r3,r4,r5⟩:=Dv i2;have fz:=i2.frozen;have Hq:=qz i4.close;have hgw:=i3.lt;obtain⟨I1,I2,I3,I4,Hln⟩:=hid5 i1 i2 i3 i4 hln;clear i1 i2 i3 i4 hln;clear hI;go_upto_region 10 with(fail)
    repeat go_step
    obtain⟨a',c',e',_,hf,_⟩:=Hq.out;rw[Hln.out]at e' hf;obtain⟨rfl,rfl⟩:aV=a'/\cV=c':=by simpa using e'
    have hxf:=((((((I2.out.set_ 0 (.int .i64 5)).set_ 1 (.bool false)).set_ 2 (.int .i64 0)).set_ 3 (.string ⟨#[]⟩)).set_ 4 (.slice aV l.length cV)).set_ 5 (.slice none 0 0));have hbf:=Bl [.int .i64 5,.bool false,.int .i64 0,.string ⟨#[]⟩,.slice aV l.length cV,.slice none 0 0] I1.out (Nat.le_refl _) (o:=0);have hff:Bv w.heap.size (A8 wr w.heap.size 0 [.int .i64 5,.bool false,.int .i64 0,.string ⟨#[]⟩,.slice aV l.length cV,.slice none 0 0]) (dV (Ja l)) [.int .i64 5,.bool false,.int .i64 0,.string ⟨#[]⟩,.slice aV l.length cV,.slice none 0 0]:=
     Aez (by unfold M7 at hf;rw[List.take_length]at hf;exact hf.keep (by omega) (by rw[Cm];exact Nat.le_refl _) fun p p1 p2=>World.cell?_of_block (C8 _ _ _ _ _ (by omega)))
    exact bodyPost_ret (Fd rfl rfl hxf) rfl ⟨hbf,aV,cV,rfl,hff⟩
theorem Rv (l:List POp) (a:Option Addr) (n c:Nat) (w:World) (hT:Cr w) (h:Ae w w.heap.size (.row 8 (Ex l)) [.slice a n c]) (hb:Bo l<=50000000) (hin:inQ l) (hm:Aq none l≠0):
 Calls Tryz.prog 71 #[.slice a n c] w fun e w'=>Below w.heap.size w w'/\e=.returned (.tuple #[.agg #[.int .i64 0,.bool false,.int .i64 0,.string ⟨#[]⟩,.slice none 0 0,.slice none 0 0],.int .i64 (Aq none l)]):=by
 have hb0:Below w.heap.size w (w.alloc (.cells C9 40)):=(Below.refl _ _).alloc (Nat.le_refl _) _;have hM:=Kq l a n c (w.alloc (.cells C9 40)) (hT.below hb0) ((h.below hb0).more hb0.size) (by omega) hin;obtain⟨M,hMe⟩: ∃M,Aq none l=M:=⟨_,rfl⟩;rw[hMe]at hM hm ⊢;obtain⟨PO,hPO⟩: ∃P:Ending->World->Prop,(fun e w'=>Below w.heap.size w w'/\e=.returned (.tuple #[.agg #[.int .i64 0,.bool false,.int .i64 0,.string ⟨#[]⟩,.slice none 0 0,.slice none 0 0],.int .i64 M]))=P:=⟨_,rfl⟩;rw[hPO];have q0:(M != 0)=true:=by simpa using hm
 obtain⟨HM,Hb0,HPO⟩:=hid3 hM hb0 hPO;clear hM hb0 hPO;clear h hT hin hMe hm;go_enter Tryz.func71,Tryz.ntmps71;go_wp2_with (fail);(with_reducible refine(HM.out).mono ?_);rintro e w1 ⟨rfl,hb1⟩;have hR1:=(Ah.new w 40 C9).below hb1 (Ah.new w 40 C9).lt;obtain⟨c0,c1,c2,c3,c4,c5⟩:=Dv hR1;have fz:=hR1.frozen;have lx:=hR1.lt;have hW:=Hb0.out.trans (hb1.mono Hb0.out.size);have Hxf:=qz ((((((hR1.set_ 0 (.int .i64 0)).set_ 1 (.bool false)).set_ 2 (.int .i64 0)).set_ 3 (.string ⟨#[]⟩)).set_ 4 (.slice none 0 0)).set_ 5 (.slice none 0 0));have hBf:Below w.heap.size w ((((((w1.setCell ⟨w.heap.size,0,none⟩ (.int .i64 0)).setCell ⟨w.heap.size,1,none⟩ (.bool false)).setCell ⟨w.heap.size,2,none⟩ (.int .i64 0)).setCell ⟨w.heap.size,3,none⟩ (.string ⟨#[]⟩)).setCell ⟨w.heap.size,4,none⟩ (.slice none 0 0)).setCell ⟨w.heap.size,5,none⟩ (.slice none 0 0)):=Bl [.int .i64 0,.bool false,.int .i64 0,.string ⟨#[]⟩,.slice none 0 0,.slice none 0 0] (g:=w.heap.size) hW (Nat.le_refl _) (o:=0);have HP:Hid (PO (.returned (.tuple #[.agg #[.int .i64 0,.bool false,.int .i64 0,.string ⟨#[]⟩,.slice none 0 0,.slice none 0 0],.int .i64 M])) ((((((w1.setCell ⟨w.heap.size,0,none⟩ (.int .i64 0)).setCell ⟨w.heap.size,1,none⟩ (.bool false)).setCell ⟨w.heap.size,2,none⟩ (.int .i64 0)).setCell ⟨w.heap.size,3,none⟩ (.string ⟨#[]⟩)).setCell ⟨w.heap.size,4,none⟩ (.slice none 0 0)).setCell ⟨w.heap.size,5,none⟩ (.slice none 0 0))):=by
  show PO _ _;rw[<-HPO.out];exact⟨hBf,rfl⟩
 clear hBf hb1 hW hR1;go_wp2;exact bodyPost_ret (Fd rfl rfl Hxf.out) rfl HP.out
def Tz (l:List POp):ByteArray:=if Aq none l=0 then Pv (Ja l)else⟨#[]⟩
theorem Sr (l:List POp) (a:Option Addr) (n c:Nat) (w:World) (hT:Cr w) (hN:G5 w) (h:Ae w w.heap.size (.row 8 (Ex l)) [.slice a n c]) (hb:Bo l<=10000000) (hin:inQ l):
 Calls Tryz.prog 40 #[.slice a n c] w fun e w'=>e=.returned (.tuple #[.string (Tz l),.int .i64 (Aq none l)])/\Below w.heap.size w w':=by
 obtain⟨PO,hPO⟩: ∃P:Ending->World->Prop,(fun e w'=>e=.returned (.tuple #[.string (Tz l),.int .i64 (Aq none l)])/\Below w.heap.size w w')=P:=⟨_,rfl⟩;rw[hPO];by_cases hm:Aq none l=0
 . have hL:=Sq l a n c w hT hN h (by omega) hin hm;have hml:=Ac3 (d:=1) (Il hm) (by omega);have hbl:=Zt l;have hlq:=Em l;have hil:=Ae8 hin;have hTx:=fun(W:World) (hW:Below w.heap.size w W) cs hv=>Zm (Ja l) cs W (hT.below hW) hv (by omega) hil;rw[hml]at hTx;rw[hm,show Tz l=Pv (Ja l)from if_pos hm]at hPO;generalize Pv (Ja l)=S at hTx hPO;obtain⟨HL,HTx,HPO⟩:=hid3 hL hTx hPO;clear hL hTx hPO;clear hT hN h hin hm hml hil;go_enter Tryz.func40,Tryz.ntmps40;go_wp2_with (fail);(with_reducible refine(HL.out).mono ?_);rintro e w1 ⟨hb1,la,lc,rfl,hf⟩;have hv:=Bp _ _ ((hf.later (Aa w1 (.cells #[.int .i64 5,.bool false,.int .i64 0,.string ⟨#[]⟩,.slice la l.length lc,.slice none 0 0] 40))).now);have hbw:=hb1.alloc hb1.size (.cells #[.int .i64 5,.bool false,.int .i64 0,.string ⟨#[]⟩,.slice la l.length lc,.slice none 0 0] 40);have HC:=qz (HTx.out _ hbw _ hv);have Hbw:=qz hbw;clear hbw;clear hf hv hb1;go_wp2_with (fail);(with_reducible refine(HC.out).mono ?_);rintro e w2 ⟨rfl,hb2⟩;have HP:Hid (PO (.returned (.tuple #[.string S,.int .i64 0])) w2):=by
    show PO _ _;rw[<-HPO.out];exact⟨rfl,Hbw.out.trans (hb2.mono Hbw.out.size)⟩
   clear hb2;go_wp2;exact HP.out
 . have hL:=Rv l a n c w hT h (by omega) hin hm;rw[show Tz l=⟨#[]⟩from if_neg hm]at hPO;generalize Aq none l=M at hL hm hPO;have q0:(M != 0)=true:=by simpa using hm
   obtain⟨HL,HPO⟩:=hid2 hL hPO;clear hL hPO;clear hT hN h hin hm;go_enter Tryz.func40,Tryz.ntmps40;go_wp2_with (fail);(with_reducible refine(HL.out).mono ?_);rintro e w1 ⟨hb1,rfl⟩;have HP:Hid (PO (.returned (.tuple #[.string ⟨#[]⟩,.int .i64 M])) (w1.alloc (.cells #[.int .i64 0,.bool false,.int .i64 0,.string ⟨#[]⟩,.slice none 0 0,.slice none 0 0] 40))):=by
    show PO _ _;rw[<-HPO.out];exact⟨rfl,hb1.alloc hb1.size _⟩
   clear hb1;go_wp2;exact HP.out
end Go.Proofs.YtnkmhaachfgaoaaGreatDoor
namespace Go.Proofs.YtnkmhaachfgaoaaGreatDoor
open Go.RowKit Go.ChangeShapes Go.WideShapes Go.ChangeAt
theorem Adq {W:World} (h:Lib.VarReads Tryz.prog W "internal/strconv.uint64pow10" (Lib.tabData .u64 Lib.pow10Tab)):Lib.TabIs Tryz.prog W "internal/strconv.uint64pow10" .u64 Lib.pow10Tab:=by
 obtain⟨g',t',cs,fuel,p,hg',ht',hvar,hd⟩:=h;have hg:Tryz.prog.globalNamed "internal/strconv.uint64pow10" =some 4:=by kernel_rfl
 have hty:(Tryz.prog.globals[4]?).map (·.type)=some 291:=by kernel_rfl
 obtain rfl:=Option.some.inj (hg.symm.trans hg');obtain rfl:=Option.some.inj (hty.symm.trans ht');unfold Lib.TabIs;rw[hvar,<-Lib.cells_of_tab Tryz.underlying291 Tryz.underlying249 (by kernel_rfl) (by kernel_rfl) hd]
theorem Afp {W:World} (h:Lib.VarReads Tryz.prog W "commonplace/patch.names" Rows.laid_commonplace_patch_names):G5 W:=by
 obtain⟨g',t',cs,fuel,p,hg',ht',hvar,hd⟩:=h;have hg:Tryz.prog.globalNamed "commonplace/patch.names" =some 0:=by kernel_rfl
 have hty:(Tryz.prog.globals[0]?).map (·.type)=some 231:=by kernel_rfl
 obtain rfl:=Option.some.inj (hg.symm.trans hg');obtain rfl:=Option.some.inj (hty.symm.trans ht');obtain⟨xs,m,_,hx,hl,hxl,hf⟩:=DataW.trod_array Tryz.underlying231 hd;have hc1:Tryz.prog.cellsOf 9=1:=by kernel_rfl
 have hc4:Tryz.prog.cellsOf 231=4:=by kernel_rfl
 rw[hc4]at hl;have hxs:=congrArg Prod.fst hx;simp only[Rows.laid_commonplace_patch_names,DataW.agg.injEq]at hxs;have key: ∀i,i<4-> ∀l:List UInt8,([[], [112,117,116], [100,101,108], [99,108,101,97,114]]:List (List UInt8))[i]? =some l->cs[i]? =some (.string ⟨l.toArray⟩):=by
  intro i hi l hl';have h1:=hf i hi;rw[hc1,Nat.mul_one]at h1;have h2:((cs.toList.drop i).take 1)= [cs[i]'(by simpa[Array.length_toList]using(by omega:i<cs.toList.length))]:=by
   rw[List.drop_eq_getElem_cons (by omega)];simp
  rw[h2,List.getElem?_eq_getElem (by omega)]at h1;obtain⟨s,hs,hx1,_⟩:=DataW.trod_string Tryz.underlying9 h1;simp only[List.cons.injEq,and_true]at hs;have h3:(xs.map (·.1))[i]? =some (DataW.lit (.string s.data.toList):DataW Unit):=by
   rw[List.getElem?_map,List.getElem?_eq_getElem (by omega),Option.map_some,hx1]
  rw[<-hxs]at h3;have h4:s.data.toList=l:=by
   rcases(by omega:i=0\/i=1\/i=2\/i=3)with rfl|rfl|rfl|rfl<;>exact(Lit.string.inj (DataW.lit.inj (Option.some.inj h3))).symm.trans (Option.some.inj hl')
  have h5:i<cs.size:=by rw[<-Array.length_toList];omega
  rw[Array.getElem?_eq_getElem h5,hs];have h6:s=⟨l.toArray⟩:=by
   apply ByteArray.ext;apply Array.ext';rw[h4]
  rw[h6]
 unfold World.var? at hvar;rw[hg]at hvar;simp only[Option.bind_some]at hvar
 split at hvar
 . rename_i cs' t' fz hh;simp only[Option.some.injEq]at hvar;subst hvar;have hcell: ∀i,W.cell? ⟨0,i,none⟩=cs'[i]? :=fun i=>by unfold World.cell?;rw[hh];rfl
   exact⟨(hcell 1).trans (key 1 (by omega) _ rfl),(hcell 2).trans (key 2 (by omega) _ rfl),(hcell 3).trans (key 3 (by omega) _ rfl),(Array.getElem?_eq_some_iff.1 hh).1⟩
 . cases hvar
theorem Qj {W:World} (h:laidMetH Tryz.prog Rows.patchLeastRow.laid W):Cr W:=by
 have hL:laidMet Tryz.prog Rows.patchLeastRow.laid W:=by
  have:=(laidMetH_iff.1 h).1;have e:(Rows.patchLeastRow.laid.filter fun x=>x.2.handleName?.isNone)=Rows.patchLeastRow.laid:=by kernel_rfl
  rwa [e]at this
 have hu:Lib.Utf8Tabs 2 3 W:=
  utf8Tabs_of_readsT (U8Types.of196 Tryz.lays196) ⟨by kernel_rfl,by kernel_rfl,by kernel_rfl,by kernel_rfl,by kernel_rfl,by kernel_rfl,by kernel_rfl⟩
   (Lib.laidMet.reads hL (n:= "unicode/utf8.first") (d:=Lib.firstData) (by rw[<-Aah];simp[Rows.patchLeastRow])) (Lib.laidMet.reads hL (n:= "unicode/utf8.acceptRanges") (d:=Lib.acceptData) (by rw[<-X0];simp[Rows.patchLeastRow]))
 have hp:=Adq (Lib.laidMet.reads hL (n:= "internal/strconv.uint64pow10") (d:=Lib.tabData .u64 Lib.pow10Tab) (by rw[<-Aai];simp[Rows.patchLeastRow]));have h64:Lib.VarReads Tryz.prog W "math/bits.deBruijn64tab" Rows.laid_math_bits_deBruijn64tab:=Lib.laidMet.reads hL (by simp[Rows.patchLeastRow]);refine⟨?_,hu,hp⟩;obtain⟨g',t',cs,fuel,p,hg',ht',hvar,hd⟩:=h64;have hg:Tryz.prog.globalNamed "math/bits.deBruijn64tab" =some 6:=by kernel_rfl
 obtain rfl:=Option.some.inj (hg.symm.trans hg');unfold World.var? at hvar;rw[hg]at hvar;simp only[Option.bind_some]at hvar;rcases Nat.lt_or_ge 6 W.heap.size with h'|h'
 . omega
 . rw[Array.getElem?_eq_none h']at hvar
   cases hvar
theorem Kl {W:World} (h:laidMetH Tryz.prog Rows.patchLeastRow.laid W):G5 W:=by
 have hL:laidMet Tryz.prog Rows.patchLeastRow.laid W:=by
  have:=(laidMetH_iff.1 h).1;have e:(Rows.patchLeastRow.laid.filter fun x=>x.2.handleName?.isNone)=Rows.patchLeastRow.laid:=by kernel_rfl
  rwa [e]at this
 exact Afp (Lib.laidMet.reads hL (by simp[Rows.patchLeastRow]))
theorem i64_in {n:Int} (hwf:(Lit.int .i64 n).wf=true): -9223372036854775808<=n/\n<=9223372036854775807:=by
 have h1:IntKind.i64.min= -9223372036854775808:=by decide
 have h2:IntKind.i64.max=9223372036854775807:=by decide
 simp only[Lit.wf,h1,h2,Bool.and_eq_true,decide_eq_true_eq]at hwf;exact hwf
section
variable {H:Type} {enc:TypeId×Value->H} {P:Program}
theorem Gp {f:Func} {s:ChangeSpec} {apart fresh handsOn again:Bool} {W W':World} {args:Array Value} {v:Value} {ds gs:List (DataW H)} {before pa pv:List MemPlace}
 (hW:DataW.Whole enc P f.params.toList s.vars apart W args.toList ds gs before)
 (hres: ∀(b:Nat) (sp:Nat->Bool) (hd:Bool),DataW.TrodAll enc P W' b sp hd f.resultTypes.toList (v.resultList f.resultTypes.size) (s.fn H (ds++gs)).results [])
 (hargs: ∀sp:Nat->Bool,(∀p ∈ before,sp p.block=true)->DataW.TrodAll enc P W' 0 sp true f.params.toList args.toList (s.fn H (ds++gs)).args pa)
 (hvars: ∀sp:Nat->Bool,(∀p ∈ before,sp p.block=true)->DataW.TrodVars enc P W' sp s.vars (s.fn H (ds++gs)).vars pv)
 (hps:before=pa++pv) (hb:Below W.heap.size W W')
 (hok: ∀(j:Nat) (t:TypeId) (r:Value),f.resultTypes[j]? =some t->(v.resultList f.resultTypes.size)[j]? =some r->Value.okWide P W' .any 0 t r):
 s.post enc P f apart fresh handsOn again W args v W':=by
 have hlt: ∀p ∈ before,p.block<W.heap.size:=fun p hp=>hW.lt p hp;have hold: ∀p ∈ before,(fun b=>decide (b<W.heap.size)) p.block=true:=fun p hp=>by simpa using hlt p hp
 refine⟨ds,gs,before, [],pa,pv,hW,hres _ _ _,hargs _ hold,hvars _ hold,World.keptBut_mono (fun p hp=>⟨hp, ?_⟩) (hb.frame (· ∈ before)),fun _=> ?_⟩
 . rw[hps,List.mem_append]at hp;exact Or.inr hp
 . obtain⟨_,_,_,_,_,hz,hn⟩:=hW;refine⟨hok,_,_,([]++pa)++pv,⟨[]++pa,pv,trodAll_append (hargs _ (fun _ _=>rfl)) (hres _ _ _),hvars _ (fun _ _=>rfl),rfl, ?_, ?_⟩, ?_⟩
   . intro b off hp;have hin:MemPlace.cell b off ∈ before:=by rw[hps];simpa using hp
     rw[hb.frozen (hlt _ hin)];exact hz b off hin
   . intro ha;have:=hn ha;rw[hps]at this;simpa using this
   . intro p hp _;rw[hps];simpa using hp
end
end Go.Proofs.YtnkmhaachfgaoaaGreatDoor
