/- Parts: value.Object: members in order, each once, or ErrKey. Condition: a bulk of at most 10^8. -/
import Derived.Test.YtnkmhaachfgaoaaGreatDoorKPq24
import Derived.Test.YtnkmhaachfgaoaaGreatDoorKPq25
import Derived.Test.YtnkmhaachfgaoaaGreatDoorKPq26
set_option maxHeartbeats 20000000
set_option maxRecDepth 100000
namespace Go.Proofs.YtnkmhaachfgaoaaGreatDoor
open Go Go.RowKit
theorem Mf {fn:Func} {t u:Tmp} {tmps:Array Value} {W:World} {R:Nat} {a0 a1 a2 a3 a4 a5 a6 a7 a8 a9 b0 b1 b2 b3 b4:Value} (h:fn.results= #[.cell t Tch,.tmp u]) (hp:tmps.getD t undef=.pointer (some ⟨R,0,none⟩)) (hx:Ah W R Tch #[a0,a1,a2,a3,a4,a5,a6,a7,a8,a9,b0,b1,b2,b3,b4]):
 (results fn tmps).run Tryz.prog W=.ok (.tuple #[.agg #[a0,a1,a2,a3,a4,a5,a6,a7,a8,a9,b0,b1,b2,b3,b4],tmps.getD u undef]) W:=by
 have c0:=hx.cell 0;have c1:=hx.cell 1;have c2:=hx.cell 2;have c3:=hx.cell 3;have c4:=hx.cell 4;have c5:=hx.cell 5;have c6:=hx.cell 6;have c7:=hx.cell 7;have c8:=hx.cell 8;have c9:=hx.cell 9;have d0:=hx.cell 10;have d1:=hx.cell 11;have d2:=hx.cell 12;have d3:=hx.cell 13;have d4:=hx.cell 14;clear hx;have hp':tmps[t]?.getD undef=.pointer (some ⟨R,0,none⟩):=by simpa using hp
 simp[results,h,hp',go_sem,c0,c1,c2,c3,c4,c5,c6,c7,c8,c9,d0,d1,d2,d3,d4]
theorem Wt {w:World} {R:Nat} {t:TypeId} {cs:Array Value} (h:Ah w R t cs) {vs:List Value} (hl:vs.length=cs.size):Ah (A8 w R 0 vs) R t vs.toArray:=by
 have h1:=Gm vs (o:=0) h;have e:L8 cs 0 vs=vs.toArray:=by
  refine Array.ext_getElem? fun i=> ?_;rw[N9 _ _ _ _ (by omega)];by_cases hi:i<vs.length
  . rw[if_pos ⟨by omega,by omega⟩,Nat.sub_zero];simp
  . rw[if_neg (by omega),Array.getElem?_eq_none (by omega),Array.getElem?_eq_none (by simp;omega)]
 rw[e]at h1;exact h1
abbrev O4:Array Value:= #[.string ⟨#[]⟩,.bool false,.int .i64 0,.bool false,.int .i64 0,.string ⟨#[]⟩,.slice none 0 0,.slice none 0 0,.bool false,.int .i64 0,.bool false,.int .i64 0,.string ⟨#[]⟩,.slice none 0 0,.slice none 0 0]
theorem Uo (k1 k2:ByteArray) (x y:Val) (a0 a1 a2 a3 a4 a5 b0 b1 b2 b3 b4 b5:Value) (w:World) (hX:Ae w w.heap.size (dV x) [a0,a1,a2,a3,a4,a5]) (hY:Ae w w.heap.size (dV y) [b0,b1,b2,b3,b4,b5]) (hbx:x.bulk<=100000000) (hby:y.bulk<=100000000):
 Calls Tryz.prog 116 #[.agg #[.string k1,a0,a1,a2,a3,a4,a5],.agg #[.string k2,b0,b1,b2,b3,b4,b5]] w fun e w'=>Below w.heap.size w w'/\e=.returned (if Bu x y then .tuple #[.agg O4,.bool false]else .tuple #[.agg #[.string k1,.bool true,a0,a1,a2,a3,a4,a5,.bool true,b0,b1,b2,b3,b4,b5],.bool true]):=by
 obtain⟨PO,hPO⟩: ∃P:Ending->World->Prop,(fun e w'=>Below w.heap.size w w'/\e=.returned (if Bu x y then .tuple #[.agg O4,.bool false]else .tuple #[.agg #[.string k1,.bool true,a0,a1,a2,a3,a4,a5,.bool true,b0,b1,b2,b3,b4,b5],.bool true]))=P:=⟨_,rfl⟩;rw[hPO];have hC:=fun(W:World) (hB:Below w.heap.size w W)=>Py x y [a0,a1,a2,a3,a4,a5] [b0,b1,b2,b3,b4,b5] W (Bp _ _ ((hX.below hB).more hB.size)) (Bp _ _ ((hY.below hB).more hB.size)) hbx hby;obtain⟨k',b',n',t',la,ln,lc,oa,on,oc,rfl,rfl,rfl,rfl,rfl,rfl⟩:=M8 hX;obtain⟨k'',b'',n'',t'',la',ln',lc',oa',on',oc',rfl,rfl,rfl,rfl,rfl,rfl⟩:=M8 hY;obtain⟨w3,hw3⟩: ∃w3,((w.alloc (.cells #[.string k1,.int .i64 k',.bool b',.int .i64 n',.string t',.slice la ln lc,.slice oa on oc] 71)).alloc (.cells #[.string k2,.int .i64 k'',.bool b'',.int .i64 n'',.string t'',.slice la' ln' lc',.slice oa' on' oc'] 71)).alloc (.cells O4 Tch)=w3:=⟨_,rfl⟩;have hb3:Below w.heap.size w w3:=hw3▸(Cc _ _ _).alloc (by simp;omega) _;have hx1:Ah w3 w.heap.size 71 #[.string k1,.int .i64 k',.bool b',.int .i64 n',.string t',.slice la ln lc,.slice oa on oc]:=hw3▸((Ah.new _ _ _).alloc _).alloc _;have hx2:Ah w3 (w.heap.size+1) 71 #[.string k2,.int .i64 k'',.bool b'',.int .i64 n'',.string t'',.slice la' ln' lc',.slice oa' on' oc']:=hw3▸(Ah.new1 _ _ _ _).alloc _;have hx3:Ah w3 (w.heap.size+1+1) Tch O4:=by
  have:=Ah.new1 (w.alloc (.cells #[.string k1,.int .i64 k',.bool b',.int .i64 n',.string t',.slice la ln lc,.slice oa on oc] 71)) (.cells #[.string k2,.int .i64 k'',.bool b'',.int .i64 n'',.string t'',.slice la' ln' lc',.slice oa' on' oc'] 71) Tch O4
  rwa [World.size_alloc,hw3]at this
 have HCw:=qz (hC w3 hb3);have m1:=hx1.cell 1;have n1:=hx2.cell 1;have m2:=hx1.cell 2;have n2:=hx2.cell 2;have m3:=hx1.cell 3;have n3:=hx2.cell 3;have m4:=hx1.cell 4;have n4:=hx2.cell 4;have m5:=hx1.cell 5;have n5:=hx2.cell 5;have m6:=hx1.cell 6;have n6:=hx2.cell 6;have lm:=hx1.lt;have ln3:=hx2.lt;obtain⟨Hb3,Hx1,Hx2,Hx3,HPO⟩:=hid5 hb3 hx1 hx2 hx3 hPO;clear hb3 hx1 hx2 hx3 hPO;clear hC hX hY;go_enter Tryz.func116,Tryz.ntmps116;go_wp2_with (fail);(with_reducible refine(HCw.out).mono ?_);clear m1 n1 m2 n2 m3 n3 m4 n4 m5 n5 m6 n6 lm ln3;rintro e w4 ⟨B,rfl,hB,hb4⟩;have hBv:B=Bu x y:=Bool.eq_iff_iff.2 hB;subst hBv;have hw4:=Hb3.out.trans (hb4.mono Hb3.out.size);have hx1':=Hx1.out.below hb4 Hx1.out.lt;have hx2':=Hx2.out.below hb4 Hx2.out.lt;have hx3':=Hx3.out.below hb4 Hx3.out.lt;obtain⟨p0,p1,p2,p3,p4,p5,p6⟩:w4.cell? ⟨w.heap.size,0,none⟩=some (.string k1)/\w4.cell? ⟨w.heap.size,1,none⟩=some (.int .i64 k')/\w4.cell? ⟨w.heap.size,2,none⟩=some (.bool b')/\w4.cell? ⟨w.heap.size,3,none⟩=some (.int .i64 n')/\w4.cell? ⟨w.heap.size,4,none⟩=some (.string t')/\w4.cell? ⟨w.heap.size,5,none⟩=some (.slice la ln lc)/\w4.cell? ⟨w.heap.size,6,none⟩=some (.slice oa on oc):=⟨hx1'.cell 0,hx1'.cell 1,hx1'.cell 2,hx1'.cell 3,hx1'.cell 4,hx1'.cell 5,hx1'.cell 6⟩;obtain⟨q1,q2,q3,q4,q5,q6⟩:w4.cell? ⟨w.heap.size+1,1,none⟩=some (.int .i64 k'')/\w4.cell? ⟨w.heap.size+1,2,none⟩=some (.bool b'')/\w4.cell? ⟨w.heap.size+1,3,none⟩=some (.int .i64 n'')/\w4.cell? ⟨w.heap.size+1,4,none⟩=some (.string t'')/\w4.cell? ⟨w.heap.size+1,5,none⟩=some (.slice la' ln' lc')/\w4.cell? ⟨w.heap.size+1,6,none⟩=some (.slice oa' on' oc'):=⟨hx2'.cell 1,hx2'.cell 2,hx2'.cell 3,hx2'.cell 4,hx2'.cell 5,hx2'.cell 6⟩;have r0:=hx3'.cell 0;have r1:=hx3'.cell 1;have r2:=hx3'.cell 2;have r3:=hx3'.cell 3;have r4:=hx3'.cell 4;have r5:=hx3'.cell 5;have r6:=hx3'.cell 6;have r7:=hx3'.cell 7;have r8:=hx3'.cell 8;have r9:=hx3'.cell 9;have s0:=hx3'.cell 10;have s1:=hx3'.cell 11;have s2:=hx3'.cell 12;have s3:=hx3'.cell 13;have s4:=hx3'.cell 14;have fz:=hx3'.frozen;have lx:=hx3'.lt;have l1:=hx1'.lt;have l2:=hx2'.lt;clear hw3 hB HCw Hx1 Hx2 Hx3
 cases hs:Bu x y with
 |true=>
  have hm:=Wt hx3' (vs:= [.string ⟨#[]⟩,.bool false,.int .i64 0,.bool false,.int .i64 0,.string ⟨#[]⟩,.slice none 0 0,.slice none 0 0,.bool false,.int .i64 0,.bool false,.int .i64 0,.string ⟨#[]⟩,.slice none 0 0,.slice none 0 0]) rfl;have hxf:Ah ((((((((((((((((w4).setCell ⟨w.heap.size+1+1,0,none⟩ (.string ⟨#[]⟩)).setCell ⟨w.heap.size+1+1,1,none⟩ (.bool false)).setCell ⟨w.heap.size+1+1,2,none⟩ (.int .i64 0)).setCell ⟨w.heap.size+1+1,3,none⟩ (.bool false)).setCell ⟨w.heap.size+1+1,4,none⟩ (.int .i64 0)).setCell ⟨w.heap.size+1+1,5,none⟩ (.string ⟨#[]⟩)).setCell ⟨w.heap.size+1+1,6,none⟩ (.slice none 0 0)).setCell ⟨w.heap.size+1+1,7,none⟩ (.slice none 0 0)).setCell ⟨w.heap.size+1+1,8,none⟩ (.bool false)).setCell ⟨w.heap.size+1+1,9,none⟩ (.int .i64 0)).setCell ⟨w.heap.size+1+1,10,none⟩ (.bool false)).setCell ⟨w.heap.size+1+1,11,none⟩ (.int .i64 0)).setCell ⟨w.heap.size+1+1,12,none⟩ (.string ⟨#[]⟩)).setCell ⟨w.heap.size+1+1,13,none⟩ (.slice none 0 0)).setCell ⟨w.heap.size+1+1,14,none⟩ (.slice none 0 0)) (w.heap.size+1+1) Tch #[.string ⟨#[]⟩,.bool false,.int .i64 0,.bool false,.int .i64 0,.string ⟨#[]⟩,.slice none 0 0,.slice none 0 0,.bool false,.int .i64 0,.bool false,.int .i64 0,.string ⟨#[]⟩,.slice none 0 0,.slice none 0 0]:=hm;have hBf:Below w.heap.size w ((((((((((((((((w4).setCell ⟨w.heap.size+1+1,0,none⟩ (.string ⟨#[]⟩)).setCell ⟨w.heap.size+1+1,1,none⟩ (.bool false)).setCell ⟨w.heap.size+1+1,2,none⟩ (.int .i64 0)).setCell ⟨w.heap.size+1+1,3,none⟩ (.bool false)).setCell ⟨w.heap.size+1+1,4,none⟩ (.int .i64 0)).setCell ⟨w.heap.size+1+1,5,none⟩ (.string ⟨#[]⟩)).setCell ⟨w.heap.size+1+1,6,none⟩ (.slice none 0 0)).setCell ⟨w.heap.size+1+1,7,none⟩ (.slice none 0 0)).setCell ⟨w.heap.size+1+1,8,none⟩ (.bool false)).setCell ⟨w.heap.size+1+1,9,none⟩ (.int .i64 0)).setCell ⟨w.heap.size+1+1,10,none⟩ (.bool false)).setCell ⟨w.heap.size+1+1,11,none⟩ (.int .i64 0)).setCell ⟨w.heap.size+1+1,12,none⟩ (.string ⟨#[]⟩)).setCell ⟨w.heap.size+1+1,13,none⟩ (.slice none 0 0)).setCell ⟨w.heap.size+1+1,14,none⟩ (.slice none 0 0)):=Bl [.string ⟨#[]⟩,.bool false,.int .i64 0,.bool false,.int .i64 0,.string ⟨#[]⟩,.slice none 0 0,.slice none 0 0,.bool false,.int .i64 0,.bool false,.int .i64 0,.string ⟨#[]⟩,.slice none 0 0,.slice none 0 0] hw4 (by omega) (o:=0);have HP:Hid (PO (.returned (.tuple #[.agg #[.string ⟨#[]⟩,.bool false,.int .i64 0,.bool false,.int .i64 0,.string ⟨#[]⟩,.slice none 0 0,.slice none 0 0,.bool false,.int .i64 0,.bool false,.int .i64 0,.string ⟨#[]⟩,.slice none 0 0,.slice none 0 0],.bool false])) ((((((((((((((((w4).setCell ⟨w.heap.size+1+1,0,none⟩ (.string ⟨#[]⟩)).setCell ⟨w.heap.size+1+1,1,none⟩ (.bool false)).setCell ⟨w.heap.size+1+1,2,none⟩ (.int .i64 0)).setCell ⟨w.heap.size+1+1,3,none⟩ (.bool false)).setCell ⟨w.heap.size+1+1,4,none⟩ (.int .i64 0)).setCell ⟨w.heap.size+1+1,5,none⟩ (.string ⟨#[]⟩)).setCell ⟨w.heap.size+1+1,6,none⟩ (.slice none 0 0)).setCell ⟨w.heap.size+1+1,7,none⟩ (.slice none 0 0)).setCell ⟨w.heap.size+1+1,8,none⟩ (.bool false)).setCell ⟨w.heap.size+1+1,9,none⟩ (.int .i64 0)).setCell ⟨w.heap.size+1+1,10,none⟩ (.bool false)).setCell ⟨w.heap.size+1+1,11,none⟩ (.int .i64 0)).setCell ⟨w.heap.size+1+1,12,none⟩ (.string ⟨#[]⟩)).setCell ⟨w.heap.size+1+1,13,none⟩ (.slice none 0 0)).setCell ⟨w.heap.size+1+1,14,none⟩ (.slice none 0 0))):=by
   show PO _ _;rw[<-HPO.out];exact⟨hBf,by rw[hs];rfl⟩
  have Hxf:=qz hxf;clear hxf;clear hm hBf hx3' hx1' hx2' hw4 hb4;go_wp2;exact bodyPost_ret (Mf rfl rfl Hxf.out) rfl HP.out
 |false=>
  have hm:=Wt hx3' (vs:= [.string k1,.bool true,.int .i64 k',.bool b',.int .i64 n',.string t',.slice la ln lc,.slice oa on oc,.bool true,.int .i64 k'',.bool b'',.int .i64 n'',.string t'',.slice la' ln' lc',.slice oa' on' oc']) rfl;have hxf:Ah ((((((((((((((((w4).setCell ⟨w.heap.size+1+1,0,none⟩ (.string k1)).setCell ⟨w.heap.size+1+1,1,none⟩ (.bool true)).setCell ⟨w.heap.size+1+1,2,none⟩ (.int .i64 k')).setCell ⟨w.heap.size+1+1,3,none⟩ (.bool b')).setCell ⟨w.heap.size+1+1,4,none⟩ (.int .i64 n')).setCell ⟨w.heap.size+1+1,5,none⟩ (.string t')).setCell ⟨w.heap.size+1+1,6,none⟩ (.slice la ln lc)).setCell ⟨w.heap.size+1+1,7,none⟩ (.slice oa on oc)).setCell ⟨w.heap.size+1+1,8,none⟩ (.bool true)).setCell ⟨w.heap.size+1+1,9,none⟩ (.int .i64 k'')).setCell ⟨w.heap.size+1+1,10,none⟩ (.bool b'')).setCell ⟨w.heap.size+1+1,11,none⟩ (.int .i64 n'')).setCell ⟨w.heap.size+1+1,12,none⟩ (.string t'')).setCell ⟨w.heap.size+1+1,13,none⟩ (.slice la' ln' lc')).setCell ⟨w.heap.size+1+1,14,none⟩ (.slice oa' on' oc')) (w.heap.size+1+1) Tch #[.string k1,.bool true,.int .i64 k',.bool b',.int .i64 n',.string t',.slice la ln lc,.slice oa on oc,.bool true,.int .i64 k'',.bool b'',.int .i64 n'',.string t'',.slice la' ln' lc',.slice oa' on' oc']:=hm;have hBf:Below w.heap.size w ((((((((((((((((w4).setCell ⟨w.heap.size+1+1,0,none⟩ (.string k1)).setCell ⟨w.heap.size+1+1,1,none⟩ (.bool true)).setCell ⟨w.heap.size+1+1,2,none⟩ (.int .i64 k')).setCell ⟨w.heap.size+1+1,3,none⟩ (.bool b')).setCell ⟨w.heap.size+1+1,4,none⟩ (.int .i64 n')).setCell ⟨w.heap.size+1+1,5,none⟩ (.string t')).setCell ⟨w.heap.size+1+1,6,none⟩ (.slice la ln lc)).setCell ⟨w.heap.size+1+1,7,none⟩ (.slice oa on oc)).setCell ⟨w.heap.size+1+1,8,none⟩ (.bool true)).setCell ⟨w.heap.size+1+1,9,none⟩ (.int .i64 k'')).setCell ⟨w.heap.size+1+1,10,none⟩ (.bool b'')).setCell ⟨w.heap.size+1+1,11,none⟩ (.int .i64 n'')).setCell ⟨w.heap.size+1+1,12,none⟩ (.string t'')).setCell ⟨w.heap.size+1+1,13,none⟩ (.slice la' ln' lc')).setCell ⟨w.heap.size+1+1,14,none⟩ (.slice oa' on' oc')):=Bl [.string k1,.bool true,.int .i64 k',.bool b',.int .i64 n',.string t',.slice la ln lc,.slice oa on oc,.bool true,.int .i64 k'',.bool b'',.int .i64 n'',.string t'',.slice la' ln' lc',.slice oa' on' oc'] hw4 (by omega) (o:=0);have HP:Hid (PO (.returned (.tuple #[.agg #[.string k1,.bool true,.int .i64 k',.bool b',.int .i64 n',.string t',.slice la ln lc,.slice oa on oc,.bool true,.int .i64 k'',.bool b'',.int .i64 n'',.string t'',.slice la' ln' lc',.slice oa' on' oc'],.bool true])) ((((((((((((((((w4).setCell ⟨w.heap.size+1+1,0,none⟩ (.string k1)).setCell ⟨w.heap.size+1+1,1,none⟩ (.bool true)).setCell ⟨w.heap.size+1+1,2,none⟩ (.int .i64 k')).setCell ⟨w.heap.size+1+1,3,none⟩ (.bool b')).setCell ⟨w.heap.size+1+1,4,none⟩ (.int .i64 n')).setCell ⟨w.heap.size+1+1,5,none⟩ (.string t')).setCell ⟨w.heap.size+1+1,6,none⟩ (.slice la ln lc)).setCell ⟨w.heap.size+1+1,7,none⟩ (.slice oa on oc)).setCell ⟨w.heap.size+1+1,8,none⟩ (.bool true)).setCell ⟨w.heap.size+1+1,9,none⟩ (.int .i64 k'')).setCell ⟨w.heap.size+1+1,10,none⟩ (.bool b'')).setCell ⟨w.heap.size+1+1,11,none⟩ (.int .i64 n'')).setCell ⟨w.heap.size+1+1,12,none⟩ (.string t'')).setCell ⟨w.heap.size+1+1,13,none⟩ (.slice la' ln' lc')).setCell ⟨w.heap.size+1+1,14,none⟩ (.slice oa' on' oc'))):=by
   show PO _ _;rw[<-HPO.out];exact⟨hBf,by rw[hs];rfl⟩
  have Hxf:=qz hxf;clear hxf;clear hm hBf hx3' hx1' hx2' hw4 hb4;go_wp2;exact bodyPost_ret (Mf rfl rfl Hxf.out) rfl HP.out
theorem Tq (w:World) (B:Nat) (key s:ByteArray):Ae w B (dP (key,tv s)) [.string key,.int .i64 4,.bool false,.int .i64 0,.string s,.slice none 0 0,.slice none 0 0]:=by
 have h1:Ab w B (tv s) [.int .i64 4,.bool false,.int .i64 0,.string s,.slice none 0 0,.slice none 0 0]:=by
  simp only[tv,Ab];exact⟨none,0,none,0,rfl,by simp,by simp⟩
 exact⟨[.string key],_,rfl,⟨rfl,rfl⟩,_, [],by simp,D6 _ _ h1,rfl⟩
theorem Tp (w:World) (B:Nat) (key:ByteArray) (n:Int):Ae w B (dP (key,iv n)) [.string key,.int .i64 3,.bool false,.int .i64 n,.string ⟨#[]⟩,.slice none 0 0,.slice none 0 0]:=by
 have h1:Ab w B (iv n) [.int .i64 3,.bool false,.int .i64 n,.string ⟨#[]⟩,.slice none 0 0,.slice none 0 0]:=by
  simp only[iv,Ab];exact⟨none,0,none,0,rfl,by simp,by simp⟩
 exact⟨[.string key],_,rfl,⟨rfl,rfl⟩,_, [],by simp,D6 _ _ h1,rfl⟩
def Kz (o:List (ByteArray×Val)) (w:World) (e:Ending) (w':World):Prop:=Below w.heap.size w w'/\
 ∃la lc oa oc,e=.returned (.agg #[.int .i64 6,.bool false,.int .i64 0,.string ⟨#[]⟩,.slice la 0 lc,.slice oa o.length oc])/\Bv w.heap.size w' (dV (ov o)) [.int .i64 6,.bool false,.int .i64 0,.string ⟨#[]⟩,.slice la 0 lc,.slice oa o.length oc]
theorem Uu {B R b':Nat} {w0 w2:World} {o:Obj} {d:D} {cs:List Value} (vs:List Value) (hb:Below B w0 w2) (hBw:B<=w2.heap.size) (hR:B<=R) (hRb:R<b') (hf:Bv b' w2 d cs):
 Below B w0 ((A8 w2 R 0 vs).alloc o)/\Bv B ((A8 w2 R 0 vs).alloc o) d cs:=by
 have h1:=Bl vs hb hR (o:=0);refine⟨h1.alloc (by rw[Cm];exact hBw) _, ?_⟩;have h2:Bv B (A8 w2 R 0 vs) d cs:=hf.keep (by omega) (by rw[Cm];exact Nat.le_refl _) fun p p1 p2=>World.cell?_of_block (C8 vs _ _ _ _ (by omega));exact h2.later (Aa _ _)
theorem Agc {w w1:World} {o o':Obj} (h:Below ((w.alloc o).alloc o').heap.size ((w.alloc o).alloc o') w1):w.heap.size<w1.heap.size/\w.heap.size+1<w1.heap.size:=by
 have:=h.size;simp at this;omega
theorem Vn {w w1 w2:World} {o o':Obj} (hb1:Below ((w.alloc o).alloc (.cells C9 40)).heap.size ((w.alloc o).alloc (.cells C9 40)) w1) (hb2:Below (w1.alloc o').heap.size (w1.alloc o') w2):Ah w2 (w.heap.size+1) 40 C9:=by
 have h0:Ah ((w.alloc o).alloc (.cells C9 40)) (w.heap.size+1) 40 C9:=by
  have:=Ah.new (w.alloc o) 40 C9
  rwa [World.size_alloc]at this
 have h1:=(h0.below hb1 h0.lt).alloc o';exact h1.below hb2 h1.lt
theorem Aav (W:World) (s:ByteArray):Dq W.heap.size 94 7 (W.alloc (.cells #[.string Ky,.int .i64 4,.bool false,.int .i64 0,.string s,.slice none 0 0,.slice none 0 0] 94)) (dO [(Ky,tv s)]) (.slice (some ⟨W.heap.size,0,none⟩) 1 1):=
 Dq.lit (Nat.le_refl _) rfl (fun w'' B=>Tq w'' B Ky s)
theorem Tl (b:Nat) (w:World) (key s:ByteArray):Bv b w (dP (key,tv s)) [.string key,.int .i64 4,.bool false,.int .i64 0,.string s,.slice none 0 0,.slice none 0 0]:=fun _ _ _=>Tq _ _ _ _
theorem Te (w:World) (o o':Obj):Below w.heap.size w ((w.alloc o).alloc o'):=((Below.refl w.heap.size w).alloc (Nat.le_refl _) _).alloc (by simp) _
theorem Aez {b:Nat} {w:World} {vs:List Val} {a:Option Addr} {n c:Nat} (h:Bv b w (.row 6 (dL vs)) [.slice a n c]):Bv b w (dV (lv vs)) [.int .i64 5,.bool false,.int .i64 0,.string ⟨#[]⟩,.slice a n c,.slice none 0 0]:=fun w'' h1 h2=>by
 simp only[lv,dV,Ae];exact Af.six.2 ⟨[.slice a n c], [.slice none 0 0],rfl,rfl,rfl,rfl,rfl,h w'' h1 h2,⟨none,0,rfl,by simp[dO], [],rfl,by simp[dO]⟩⟩
theorem Acv {w:World} {g:Nat} {t:TypeId} {cs:Array Value} {l:List D} {s n c:Nat} (h:Ah w g t cs) (hs: ∀d ∈ l,d.cells=s) (hA:Af w w.heap.size l cs.toList) (hn:n=l.length):Ae w w.heap.size (.row s l) [.slice (some ⟨g,0,none⟩) n c]:=by
 subst hn;exact⟨_,c,rfl,hs,cs.toList,hA,.inr ⟨g,0,rfl,h.lt,fun j u hu=>by rw[Nat.zero_add];exact(h.cell j).trans (by rw[<-Array.getElem?_toList];exact hu)⟩⟩
theorem Ajr {w:World} {B:Nat}: ∀{o:List (ByteArray×Val)} {ns:List Value},Af w B (dO o) ns-> ∃d:List Mx,d.map L7=o/\ns=d.flatMap F4/\ ∀x ∈ d,Ae w B (dP (L7 x)) (F4 x)
 | [],ns,h=>by
   have:ns= []:=h;subst this;exact⟨[],rfl,rfl,fun x hx=>by cases hx⟩
 |(key,v)::r,ns,h=>by
  obtain⟨c1,c2,rfl,h1,h2⟩:=h;obtain⟨d,e1,e2,e3⟩:=Ajr h2;have h1':=h1;obtain⟨_,cv,rfl,⟨rfl,_⟩,c3,c4,rfl,h3,rfl⟩:=h1;obtain⟨k,b,n,t,l,o⟩:=v;have h4:=Bp _ _ h3;simp only[Ab]at h4;obtain⟨la,lc,oa,oc,rfl,_,_⟩:=h4;refine⟨(key,.mk k b n t l o,(la,lc),oa,oc)::d,by simp[L7,e1],by rw[e2];rfl,fun x hx=> ?_⟩;rcases List.mem_cons.1 hx with rfl|hx
  . simp only[List.append_nil,List.cons_append,List.nil_append]at h1';exact h1'
  . exact e3 x hx
theorem Ajm {w:World} {B:Nat}: ∀{d:List Mx},(∀x ∈ d,Ae w B (dP (L7 x)) (F4 x))->Af w B (dO (d.map L7)) (d.flatMap F4)
 | [],_=>rfl
 |x::d,h=>⟨F4 x,d.flatMap F4,rfl,h x (by simp),Ajm fun y hy=>h y (by simp[hy])⟩
theorem Q5: ∀(d:List Mx) (i j:Nat),i<d.length->j<7->(d.flatMap F4)[i*7+j]? =some (F4 d[i]!)[j]!
 | [],i,j,hi,_=>by simp at hi
 |x::d,0,j,_,hj=>by
  have hl:=Nt x;rw[List.flatMap_cons,List.getElem?_append_left (by omega),Nat.zero_mul,Nat.zero_add,List.getElem?_eq_getElem (by omega)];simp[hl,hj]
 |x::d,i+1,j,hi,hj=>by
  have hl:=Nt x;rw[List.flatMap_cons,List.getElem?_append_right (by omega),hl,show(i+1)*7+j - 7=i*7+j from by omega,Q5 d i j (by simpa using hi) hj];simp
theorem Aey (d:List Mx):(d.flatMap F4).length=d.length*7:=by
 induction d with
 |nil=>rfl
 |cons x d ih=>rw[List.flatMap_cons,List.length_append,Nt,ih,List.length_cons];omega
theorem Z8 {w:World} {g:Nat} {d:List Mx} (h: ∀i,i<d.length-> ∀j,j<7->w.cell? ⟨g,i*7+j,none⟩=some (F4 d[i]!)[j]!): ∀(t:Nat) (u:Value),(d.flatMap F4)[t]? =some u->w.cell? ⟨g,t,none⟩=some u:=by
 intro t u hu;have ht:=(List.getElem?_eq_some_iff.1 hu).1;rw[Aey]at ht;have e:t=t / 7*7+t % 7:=by omega
 rw[e]at hu ⊢;rw[Q5 d _ _ (by omega) (by omega)]at hu;rw[h _ (by omega) _ (by omega)];exact hu
theorem Afx {w:World} {B m s:Nat} {t:TypeId} {v:Value} {ns:List Value} (h:w.ownsRow B t s v m ns):
 ∃a c,v=.slice a m c/\((m=0/\a=none/\c=0)\/ ∃g,a=some ⟨g,0,none⟩/\B<=g/\g<w.heap.size/\m<=c/\(∀(j:Nat) (u:Value),ns[j]? =some u->w.cell? ⟨g,j,none⟩=some u)/\ ∀j,w.frozen? ⟨g,j,none⟩=false):=by
 rcases h.2 with⟨rfl,hz⟩|⟨g,cap,cur,rfl,hbg,hg,hmc,_,_,_⟩
 . subst hz;exact⟨none,0,rfl,.inl ⟨rfl,rfl,rfl⟩⟩
 . refine⟨_,cap,rfl,.inr ⟨g,rfl,hbg,(Array.getElem?_eq_some_iff.1 hg).1,hmc,fun j u hu=> ?_,fun j=>by simp[World.frozen?,hg]⟩⟩;have:=h.cells (g:=g) rfl j u hu
   rwa [A9,Nat.zero_add]at this
def Ahu (W:World) (a:Option Addr) (d:List Mx) (e:Ending) (w':World):Prop:=e=.returned (.tuple #[])/\ ∃d':List Mx,d'.length=d.length/\d'.Perm d/\(∀i j,i<j->j<d.length->ltM d'[j]! d'[i]! =false)/\
 (d.length=0\/ ∃g,a=some ⟨g,0,none⟩/\g<w'.heap.size/\ ∀i,i<d.length-> ∀j,j<7->w'.cell? ⟨g,i*7+j,none⟩=some (F4 d'[i]!)[j]!)/\
 (∀b,b<W.heap.size->(∀g,a=some ⟨g,0,none⟩->b≠g)->w'.heap[b]? =W.heap[b]?)/\W.heap.size<=w'.heap.size/\w'.os=W.os/\w'.tape=W.tape/\w'.output=W.output
theorem Adm (a:Option Addr) (c Bs:Nat) (d:List Mx) (hsz:d.length<4611686018427387904) (W:World)
 (h:(d.length=0/\a=none)\/ ∃g,a=some ⟨g,0,none⟩/\g<W.heap.size/\Bs≠g/\(∀i,i<d.length-> ∀j,j<7->W.cell? ⟨g,i*7+j,none⟩=some (F4 d[i]!)[j]!)/\ ∀j,W.frozen? ⟨g,j,none⟩=false)
 (hBs:W.cell? ⟨Bs,0,none⟩=some (.slice a d.length c)) (hB1:Bs<W.heap.size):
 Calls Tryz.prog 201 #[.iface 38 (.slice a d.length c),.func (.func 202) #[] #[.pointer (some ⟨Bs,0,none⟩)]] W (Ahu W a d):=by
 by_cases h2:2<=d.length
 . rcases h with⟨h,_⟩|⟨g,rfl,hg,hne,hc,hf⟩
   . omega
   . have hH:Go.Sort.HoldsK F4 7 W g 0 d.toArray:=by
      intro j hj;rw[Go.Sort.size_flatK,List.size_toArray]at hj;rw[Go.Sort.get_flatK _ _ _ _ (by simpa using hj),Nat.zero_add];refine⟨?_,hf _⟩;have:=hc (j / 7) (by omega) (j % 7) (by omega);rw[show j / 7*7+j % 7=j from by omega]at this;rw[this];simp
     have hS:=Aa5 g c Bs d.toArray (by simpa using h2) (by simpa using hsz) W hH hg (by simpa using hBs) hB1 hne;simp only[List.size_toArray]at hS;refine hS.mono ?_;rintro e w' ⟨rfl,d',s1,s2,s3,s4,s5,s6,s7⟩;simp only[List.size_toArray]at s1 s3 s4;refine⟨rfl,d'.toList,by simpa using s1,by simpa using s2,fun i j h1 h2=> ?_,.inr ⟨g,rfl,by omega,fun i hi j hj=> ?_⟩,fun b hb hne=>s5 b hb (hne g rfl),s6,s7⟩
     . simp only[Array.getElem!_toList];exact s3 i j (Nat.zero_le _) h1 h2
     . simp only[Array.getElem!_toList];exact s4 i hi j hj
 . refine(Adn a d.length c Bs (by omega) W).mono ?_;rintro e w' ⟨rfl,hb⟩;refine⟨rfl,d,rfl,List.Perm.refl _,fun i j h1 h3=>by omega, ?_,fun b hb1 _=>hb.block b hb1,hb.size,hb.os,hb.tape,hb.output⟩;rcases h with⟨h,_⟩|⟨g,ea,hg,hne,hc,hf⟩
   . exact .inl h
   . exact .inr ⟨g,ea,by have:=hb.size;omega,fun i hi j hj=>(hb.cell (p:=⟨g,i*7+j,none⟩) hg).trans (hc i hi j hj)⟩
theorem Aib {d:List Mx} (hs: ∀i j,i<j->j<d.length->ltM d[j]! d[i]! =false) (hn: ∀t,1<=t->t<d.length->(d[t]!).1≠(d[t - 1]!).1):Az (d.map L7):=by
 have hadj: ∀t,t+1<d.length->ltM d[t]! d[t+1]! =true:=by
  intro t ht;have h1:=hs t (t+1) (by omega) ht;have h2:=hn (t+1) (by omega) ht;rcases Fb (d[t]!).1 (d[t+1]!).1 with p|p|p
  . exact p
  . exact absurd p.symm h2
  . unfold ltM at h1;rw[h1]at p;cases p
 have hlt: ∀k i,i+k+1<d.length->ltM d[i]! d[i+k+1]! =true:=by
  intro k
  induction k with
  |zero=>intro i hi;exact hadj i hi
  |succ k ih=>intro i hi;exact Bw (ih i (by omega)) (hadj (i+k+1) (by omega))
 unfold Az;rw[List.pairwise_map,List.pairwise_iff_getElem];intro i j hi hj hij;have:=hlt (j - i - 1) i (by omega);rw[show i+(j - i - 1)+1=j from by omega]at this;simpa[ltM,L7,hi,hj]using this
end Go.Proofs.YtnkmhaachfgaoaaGreatDoor
