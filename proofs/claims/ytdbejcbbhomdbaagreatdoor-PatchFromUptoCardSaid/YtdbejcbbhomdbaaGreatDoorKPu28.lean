/- Parts: Objects of the call's own, given back: laws that all encoders use. Condition: a bulk of at most 9 * 10^7. -/
import Derived.Test.YtdbejcbbhomdbaaGreatDoorKPu25
import Derived.Test.YtdbejcbbhomdbaaGreatDoorKPu26
set_option maxHeartbeats 20000000
set_option maxRecDepth 100000
namespace Go.Proofs.YtdbejcbbhomdbaaGreatDoor
mutual
def Vd:Nd->Nat
 | .leaf es=>1+es.length
 | .inner ks=>1+Di ks
def Di:List Nd->Nat
 | []=>0
 |k::r=>Vd k+Di r
end
theorem Qo: ∀(a b:List Nd),Di (a++b)=Di a+Di b
 | [],b=>by simp[Di]
 |k::r,b=>by simp only[List.cons_append,Di,Qo r b];omega
def gd (n:Nd):Prop:= ∃lo h,0<lo/\(0<h->2<=lo)/\Ej lo h n
theorem gd.ne {n:Nd} (h:gd n):By n≠ []:=by
 obtain⟨lo,h,h1,_,h3⟩:=h;exact Jo h1 h3
theorem gd.leaf {es:List A0} (h:gd (.leaf es)):0<es.length:=by
 have h1:=h.ne;simp only[By]at h1;exact List.length_pos_iff.2 h1
theorem gd.inner {ks:List Nd} (h:gd (.inner ks)):2<=ks.length/\ks.length<=8/\ ∀k ∈ ks,gd k:=by
 obtain⟨lo,h,h1,h2,h3⟩:=h
 cases h with
 |zero=>simp[Ej]at h3
 |succ h=>
  simp only[Ej]at h3;have:=h2 (by omega);exact⟨by omega,h3.2.1,fun k hk=>⟨4,h,by omega,fun _=>by omega,h3.2.2 k hk⟩⟩
theorem Tk: ∀{ks:List Nd},(∀k ∈ ks,Vd k+1<=3*(By k).length)->Di ks+ks.length<=3*(As ks).length
 | [],_=>by simp[Di,As]
 |k::r,h=>by
  have h1:=h k (by simp);have h2:=Tk (ks:=r) fun x hx=>h x (by simp[hx]);simp only[Di,As,List.length_cons,List.length_append];omega
theorem Abu (n:Nd):gd n->Vd n+1<=3*(By n).length:=by
 refine Nd.ind (p:=fun n=>gd n->Vd n+1<=3*(By n).length) ?_ ?_ n
 . intro es h;have:=h.leaf;simp only[Vd,By];omega
 . intro ks ih h;obtain⟨h1,_,h3⟩:=h.inner;have:=Tk fun k hk=>ih k hk (h3 k hk);simp only[Vd,By];omega
theorem Pz: ∀{ns:List Nd},(∀n ∈ ns,gd n)->ns.length<=(As ns).length
 | [],_=>by simp[As]
 |n::r,h=>by
  have h1:=List.length_pos_iff.2 (h n (by simp)).ne;have h2:=Pz (ns:=r) fun x hx=>h x (by simp[hx]);simp only[As,List.length_cons,List.length_append];omega
structure CurOk (es:List A0) (ns:List Nd):Prop where
 gds: ∀n ∈ ns,gd n
 asc:Bb (es++As ns)
 bulk:Af (es++As ns)<=100000000
 len:(es++As ns).length<=1000000
theorem CurOk.tail {e:A0} {es:List A0} {ns:List Nd} (h:CurOk (e::es) ns):CurOk es ns:=by
 obtain⟨h1,h2,h3,h4⟩:=h;rw[List.cons_append]at h2 h3 h4;have e1:Af (e::(es++As ns))=Af [e]+Af (es++As ns):=Ch [e] _;rw[List.length_cons]at h4;exact⟨h1,(List.pairwise_cons.1 h2).2,by omega,by omega⟩
theorem CurOk.skip {n:Nd} {ns:List Nd} (h:CurOk [] (n::ns)):CurOk [] ns:=by
 obtain⟨h1,h2,h3,h4⟩:=h;simp only[List.nil_append,As]at h2 h3 h4 ⊢;rw[Ch]at h3;rw[List.length_append]at h4;exact⟨fun x hx=>h1 x (by simp[hx]),(List.pairwise_append.1 h2).2.1,by simp only[List.nil_append];omega,by simp only[List.nil_append];omega⟩
theorem CurOk.openL {es:List A0} {ns:List Nd} (h:CurOk [] (.leaf es::ns)):CurOk es ns:=by
 obtain⟨h1,h2,h3,h4⟩:=h;simp only[List.nil_append,As,By]at h2 h3 h4;exact⟨fun x hx=>h1 x (by simp[hx]),h2,h3,h4⟩
theorem CurOk.openI {ks:List Nd} {ns:List Nd} (h:CurOk [] (.inner ks::ns)):CurOk [] (ks++ns):=by
 obtain⟨h1,h2,h3,h4⟩:=h;simp only[List.nil_append,As,By]at h2 h3 h4;refine⟨fun x hx=> ?_,by simpa[Bo]using h2,by simpa[Bo]using h3,by simpa[Bo]using h4⟩;rcases List.mem_append.1 hx with hx|hx
 . exact(h1 _ (by simp)).inner.2.2 x hx
 . exact h1 x (by simp[hx])
theorem Ig {k f:ByteArray} {v:Val} {l r:List A0} (ha:Bb l) (hl:l=(f,v)::r) (hk:Bq k f=true): ∀e ∈ l,Bq k e.1=true:=by
 subst hl;intro e he;rcases List.mem_cons.1 he with rfl|he
 . exact hk
 . exact A9 hk ((List.pairwise_cons.1 ha).1 e he)
theorem Ov {n:Nd} {ns:List Nd} (h:gd n): ∃v r,As (n::ns)=(Al n,v)::r:=by
 obtain⟨x,r,e⟩:=Dx h.ne;exact⟨x,r++As ns,by simp only[As];rw[e];rfl⟩
end Go.Proofs.YtdbejcbbhomdbaaGreatDoor
namespace Go.Proofs.YtdbejcbbhomdbaaGreatDoor
open Go Go.RowKit
theorem Jc {fn:Func} {t u:Tmp} {tmps:Array Value} {W:World} {R:Nat} {a0 a1 a2 a3 a4 a5 a6 a7 a8 a9 b0 b1 b2 b3 b4:Value} (h:fn.results= #[.cell t L3,.tmp u]) (hp:tmps.getD t undef=.pointer (some ⟨R,0,none⟩)) (hx:Ao W R L3 #[a0,a1,a2,a3,a4,a5,a6,a7,a8,a9,b0,b1,b2,b3,b4]):
 (results fn tmps).run Tryz.prog W=.ok (.tuple #[.agg #[a0,a1,a2,a3,a4,a5,a6,a7,a8,a9,b0,b1,b2,b3,b4],tmps.getD u undef]) W:=by
 have c0:=hx.cell 0;have c1:=hx.cell 1;have c2:=hx.cell 2;have c3:=hx.cell 3;have c4:=hx.cell 4;have c5:=hx.cell 5;have c6:=hx.cell 6;have c7:=hx.cell 7;have c8:=hx.cell 8;have c9:=hx.cell 9;have d0:=hx.cell 10;have d1:=hx.cell 11;have d2:=hx.cell 12;have d3:=hx.cell 13;have d4:=hx.cell 14;clear hx;have hp':tmps[t]?.getD undef=.pointer (some ⟨R,0,none⟩):=by simpa using hp
 simp[results,h,hp',go_sem,c0,c1,c2,c3,c4,c5,c6,c7,c8,c9,d0,d1,d2,d3,d4]
theorem Qy {w:World} {R:Nat} {t:TypeId} {cs:Array Value} (h:Ao w R t cs) {vs:List Value} (hl:vs.length=cs.size):Ao (Ca w R 0 vs) R t vs.toArray:=by
 have h1:=Gx vs (o:=0) h;have e:Lz cs 0 vs=vs.toArray:=by
  refine Array.ext_getElem? fun i=> ?_;rw[Kb _ _ _ _ (by omega)];by_cases hi:i<vs.length
  . rw[if_pos ⟨by omega,by omega⟩,Nat.sub_zero];simp
  . rw[if_neg (by omega),Array.getElem?_eq_none (by omega),Array.getElem?_eq_none (by simp;omega)]
 rw[e]at h1;exact h1
abbrev Jv:Array Value:= #[.string ⟨#[]⟩,.bool false,.int .i64 0,.bool false,.int .i64 0,.string ⟨#[]⟩,.slice none 0 0,.slice none 0 0,.bool false,.int .i64 0,.bool false,.int .i64 0,.string ⟨#[]⟩,.slice none 0 0,.slice none 0 0]
theorem Ps (k1 k2:ByteArray) (x y:Val) (a0 a1 a2 a3 a4 a5 b0 b1 b2 b3 b4 b5:Value) (w:World) (hX:Ai w w.heap.size (dV x) [a0,a1,a2,a3,a4,a5]) (hY:Ai w w.heap.size (dV y) [b0,b1,b2,b3,b4,b5]) (hbx:x.bulk<=100000000) (hby:y.bulk<=100000000):
 Calls Tryz.prog 141 #[.agg #[.string k1,a0,a1,a2,a3,a4,a5],.agg #[.string k2,b0,b1,b2,b3,b4,b5]] w fun e w'=>Below w.heap.size w w'/\e=.returned (if Bt x y then .tuple #[.agg Jv,.bool false]else .tuple #[.agg #[.string k1,.bool true,a0,a1,a2,a3,a4,a5,.bool true,b0,b1,b2,b3,b4,b5],.bool true]):=by
 obtain⟨PO,hPO⟩: ∃P:Ending->World->Prop,(fun e w'=>Below w.heap.size w w'/\e=.returned (if Bt x y then .tuple #[.agg Jv,.bool false]else .tuple #[.agg #[.string k1,.bool true,a0,a1,a2,a3,a4,a5,.bool true,b0,b1,b2,b3,b4,b5],.bool true]))=P:=⟨_,rfl⟩;rw[hPO];have hC:=fun(W:World) (hB:Below w.heap.size w W)=>Sm x y [a0,a1,a2,a3,a4,a5] [b0,b1,b2,b3,b4,b5] W (Bj _ _ ((hX.below hB).more hB.size)) (Bj _ _ ((hY.below hB).more hB.size)) hbx hby;obtain⟨k',b',n',t',la,ln,lc,oa,on,oc,rfl,rfl,rfl,rfl,rfl,rfl⟩:=Jr hX;obtain⟨k'',b'',n'',t'',la',ln',lc',oa',on',oc',rfl,rfl,rfl,rfl,rfl,rfl⟩:=Jr hY;obtain⟨w3,hw3⟩: ∃w3,((w.alloc (.cells #[.string k1,.int .i64 k',.bool b',.int .i64 n',.string t',.slice la ln lc,.slice oa on oc] 84)).alloc (.cells #[.string k2,.int .i64 k'',.bool b'',.int .i64 n'',.string t'',.slice la' ln' lc',.slice oa' on' oc'] 84)).alloc (.cells Jv L3)=w3:=⟨_,rfl⟩;have hb3:Below w.heap.size w w3:=hw3▸(Ce _ _ _).alloc (by simp;omega) _;have hx1:Ao w3 w.heap.size 84 #[.string k1,.int .i64 k',.bool b',.int .i64 n',.string t',.slice la ln lc,.slice oa on oc]:=hw3▸((Ao.new _ _ _).alloc _).alloc _;have hx2:Ao w3 (w.heap.size+1) 84 #[.string k2,.int .i64 k'',.bool b'',.int .i64 n'',.string t'',.slice la' ln' lc',.slice oa' on' oc']:=hw3▸(Ao.new1 _ _ _ _).alloc _;have hx3:Ao w3 (w.heap.size+1+1) L3 Jv:=by
  have:=Ao.new1 (w.alloc (.cells #[.string k1,.int .i64 k',.bool b',.int .i64 n',.string t',.slice la ln lc,.slice oa on oc] 84)) (.cells #[.string k2,.int .i64 k'',.bool b'',.int .i64 n'',.string t'',.slice la' ln' lc',.slice oa' on' oc'] 84) L3 Jv
  rwa [World.size_alloc,hw3]at this
 have HCw:=qz (hC w3 hb3);have m1:=hx1.cell 1;have n1:=hx2.cell 1;have m2:=hx1.cell 2;have n2:=hx2.cell 2;have m3:=hx1.cell 3;have n3:=hx2.cell 3;have m4:=hx1.cell 4;have n4:=hx2.cell 4;have m5:=hx1.cell 5;have n5:=hx2.cell 5;have m6:=hx1.cell 6;have n6:=hx2.cell 6;have lm:=hx1.lt;have ln3:=hx2.lt;obtain⟨Hb3,Hx1,Hx2,Hx3,HPO⟩:=hid5 hb3 hx1 hx2 hx3 hPO;clear hb3 hx1 hx2 hx3 hPO;clear hC hX hY;go_enter Tryz.func141,Tryz.ntmps141;go_wp2_with (fail);(with_reducible refine(HCw.out).mono ?_);clear m1 n1 m2 n2 m3 n3 m4 n4 m5 n5 m6 n6 lm ln3;rintro e w4 ⟨B,rfl,hB,hb4⟩;have hBv:B=Bt x y:=Bool.eq_iff_iff.2 hB;subst hBv;have hw4:=Hb3.out.trans (hb4.mono Hb3.out.size);have hx1':=Hx1.out.below hb4 Hx1.out.lt;have hx2':=Hx2.out.below hb4 Hx2.out.lt;have hx3':=Hx3.out.below hb4 Hx3.out.lt;obtain⟨p0,p1,p2,p3,p4,p5,p6⟩:w4.cell? ⟨w.heap.size,0,none⟩=some (.string k1)/\w4.cell? ⟨w.heap.size,1,none⟩=some (.int .i64 k')/\w4.cell? ⟨w.heap.size,2,none⟩=some (.bool b')/\w4.cell? ⟨w.heap.size,3,none⟩=some (.int .i64 n')/\w4.cell? ⟨w.heap.size,4,none⟩=some (.string t')/\w4.cell? ⟨w.heap.size,5,none⟩=some (.slice la ln lc)/\w4.cell? ⟨w.heap.size,6,none⟩=some (.slice oa on oc):=⟨hx1'.cell 0,hx1'.cell 1,hx1'.cell 2,hx1'.cell 3,hx1'.cell 4,hx1'.cell 5,hx1'.cell 6⟩;obtain⟨q1,q2,q3,q4,q5,q6⟩:w4.cell? ⟨w.heap.size+1,1,none⟩=some (.int .i64 k'')/\w4.cell? ⟨w.heap.size+1,2,none⟩=some (.bool b'')/\w4.cell? ⟨w.heap.size+1,3,none⟩=some (.int .i64 n'')/\w4.cell? ⟨w.heap.size+1,4,none⟩=some (.string t'')/\w4.cell? ⟨w.heap.size+1,5,none⟩=some (.slice la' ln' lc')/\w4.cell? ⟨w.heap.size+1,6,none⟩=some (.slice oa' on' oc'):=⟨hx2'.cell 1,hx2'.cell 2,hx2'.cell 3,hx2'.cell 4,hx2'.cell 5,hx2'.cell 6⟩;have r0:=hx3'.cell 0;have r1:=hx3'.cell 1;have r2:=hx3'.cell 2;have r3:=hx3'.cell 3;have r4:=hx3'.cell 4;have r5:=hx3'.cell 5;have r6:=hx3'.cell 6;have r7:=hx3'.cell 7;have r8:=hx3'.cell 8;have r9:=hx3'.cell 9;have s0:=hx3'.cell 10;have s1:=hx3'.cell 11;have s2:=hx3'.cell 12;have s3:=hx3'.cell 13;have s4:=hx3'.cell 14;have fz:=hx3'.frozen;have lx:=hx3'.lt;have l1:=hx1'.lt;have l2:=hx2'.lt;clear hw3 hB HCw Hx1 Hx2 Hx3
 cases hs:Bt x y with
 |true=>
  have hm:=Qy hx3' (vs:= [.string ⟨#[]⟩,.bool false,.int .i64 0,.bool false,.int .i64 0,.string ⟨#[]⟩,.slice none 0 0,.slice none 0 0,.bool false,.int .i64 0,.bool false,.int .i64 0,.string ⟨#[]⟩,.slice none 0 0,.slice none 0 0]) rfl;have hxf:Ao ((((((((((((((((w4).setCell ⟨w.heap.size+1+1,0,none⟩ (.string ⟨#[]⟩)).setCell ⟨w.heap.size+1+1,1,none⟩ (.bool false)).setCell ⟨w.heap.size+1+1,2,none⟩ (.int .i64 0)).setCell ⟨w.heap.size+1+1,3,none⟩ (.bool false)).setCell ⟨w.heap.size+1+1,4,none⟩ (.int .i64 0)).setCell ⟨w.heap.size+1+1,5,none⟩ (.string ⟨#[]⟩)).setCell ⟨w.heap.size+1+1,6,none⟩ (.slice none 0 0)).setCell ⟨w.heap.size+1+1,7,none⟩ (.slice none 0 0)).setCell ⟨w.heap.size+1+1,8,none⟩ (.bool false)).setCell ⟨w.heap.size+1+1,9,none⟩ (.int .i64 0)).setCell ⟨w.heap.size+1+1,10,none⟩ (.bool false)).setCell ⟨w.heap.size+1+1,11,none⟩ (.int .i64 0)).setCell ⟨w.heap.size+1+1,12,none⟩ (.string ⟨#[]⟩)).setCell ⟨w.heap.size+1+1,13,none⟩ (.slice none 0 0)).setCell ⟨w.heap.size+1+1,14,none⟩ (.slice none 0 0)) (w.heap.size+1+1) L3 #[.string ⟨#[]⟩,.bool false,.int .i64 0,.bool false,.int .i64 0,.string ⟨#[]⟩,.slice none 0 0,.slice none 0 0,.bool false,.int .i64 0,.bool false,.int .i64 0,.string ⟨#[]⟩,.slice none 0 0,.slice none 0 0]:=hm;have hBf:Below w.heap.size w ((((((((((((((((w4).setCell ⟨w.heap.size+1+1,0,none⟩ (.string ⟨#[]⟩)).setCell ⟨w.heap.size+1+1,1,none⟩ (.bool false)).setCell ⟨w.heap.size+1+1,2,none⟩ (.int .i64 0)).setCell ⟨w.heap.size+1+1,3,none⟩ (.bool false)).setCell ⟨w.heap.size+1+1,4,none⟩ (.int .i64 0)).setCell ⟨w.heap.size+1+1,5,none⟩ (.string ⟨#[]⟩)).setCell ⟨w.heap.size+1+1,6,none⟩ (.slice none 0 0)).setCell ⟨w.heap.size+1+1,7,none⟩ (.slice none 0 0)).setCell ⟨w.heap.size+1+1,8,none⟩ (.bool false)).setCell ⟨w.heap.size+1+1,9,none⟩ (.int .i64 0)).setCell ⟨w.heap.size+1+1,10,none⟩ (.bool false)).setCell ⟨w.heap.size+1+1,11,none⟩ (.int .i64 0)).setCell ⟨w.heap.size+1+1,12,none⟩ (.string ⟨#[]⟩)).setCell ⟨w.heap.size+1+1,13,none⟩ (.slice none 0 0)).setCell ⟨w.heap.size+1+1,14,none⟩ (.slice none 0 0)):=Bf [.string ⟨#[]⟩,.bool false,.int .i64 0,.bool false,.int .i64 0,.string ⟨#[]⟩,.slice none 0 0,.slice none 0 0,.bool false,.int .i64 0,.bool false,.int .i64 0,.string ⟨#[]⟩,.slice none 0 0,.slice none 0 0] hw4 (by omega) (o:=0);have HP:Hid (PO (.returned (.tuple #[.agg #[.string ⟨#[]⟩,.bool false,.int .i64 0,.bool false,.int .i64 0,.string ⟨#[]⟩,.slice none 0 0,.slice none 0 0,.bool false,.int .i64 0,.bool false,.int .i64 0,.string ⟨#[]⟩,.slice none 0 0,.slice none 0 0],.bool false])) ((((((((((((((((w4).setCell ⟨w.heap.size+1+1,0,none⟩ (.string ⟨#[]⟩)).setCell ⟨w.heap.size+1+1,1,none⟩ (.bool false)).setCell ⟨w.heap.size+1+1,2,none⟩ (.int .i64 0)).setCell ⟨w.heap.size+1+1,3,none⟩ (.bool false)).setCell ⟨w.heap.size+1+1,4,none⟩ (.int .i64 0)).setCell ⟨w.heap.size+1+1,5,none⟩ (.string ⟨#[]⟩)).setCell ⟨w.heap.size+1+1,6,none⟩ (.slice none 0 0)).setCell ⟨w.heap.size+1+1,7,none⟩ (.slice none 0 0)).setCell ⟨w.heap.size+1+1,8,none⟩ (.bool false)).setCell ⟨w.heap.size+1+1,9,none⟩ (.int .i64 0)).setCell ⟨w.heap.size+1+1,10,none⟩ (.bool false)).setCell ⟨w.heap.size+1+1,11,none⟩ (.int .i64 0)).setCell ⟨w.heap.size+1+1,12,none⟩ (.string ⟨#[]⟩)).setCell ⟨w.heap.size+1+1,13,none⟩ (.slice none 0 0)).setCell ⟨w.heap.size+1+1,14,none⟩ (.slice none 0 0))):=by
   show PO _ _;rw[<-HPO.out];exact⟨hBf,by rw[hs];rfl⟩
  have Hxf:=qz hxf;clear hxf;clear hm hBf hx3' hx1' hx2' hw4 hb4;go_wp2;exact bodyPost_ret (Jc rfl rfl Hxf.out) rfl HP.out
 |false=>
  have hm:=Qy hx3' (vs:= [.string k1,.bool true,.int .i64 k',.bool b',.int .i64 n',.string t',.slice la ln lc,.slice oa on oc,.bool true,.int .i64 k'',.bool b'',.int .i64 n'',.string t'',.slice la' ln' lc',.slice oa' on' oc']) rfl;have hxf:Ao ((((((((((((((((w4).setCell ⟨w.heap.size+1+1,0,none⟩ (.string k1)).setCell ⟨w.heap.size+1+1,1,none⟩ (.bool true)).setCell ⟨w.heap.size+1+1,2,none⟩ (.int .i64 k')).setCell ⟨w.heap.size+1+1,3,none⟩ (.bool b')).setCell ⟨w.heap.size+1+1,4,none⟩ (.int .i64 n')).setCell ⟨w.heap.size+1+1,5,none⟩ (.string t')).setCell ⟨w.heap.size+1+1,6,none⟩ (.slice la ln lc)).setCell ⟨w.heap.size+1+1,7,none⟩ (.slice oa on oc)).setCell ⟨w.heap.size+1+1,8,none⟩ (.bool true)).setCell ⟨w.heap.size+1+1,9,none⟩ (.int .i64 k'')).setCell ⟨w.heap.size+1+1,10,none⟩ (.bool b'')).setCell ⟨w.heap.size+1+1,11,none⟩ (.int .i64 n'')).setCell ⟨w.heap.size+1+1,12,none⟩ (.string t'')).setCell ⟨w.heap.size+1+1,13,none⟩ (.slice la' ln' lc')).setCell ⟨w.heap.size+1+1,14,none⟩ (.slice oa' on' oc')) (w.heap.size+1+1) L3 #[.string k1,.bool true,.int .i64 k',.bool b',.int .i64 n',.string t',.slice la ln lc,.slice oa on oc,.bool true,.int .i64 k'',.bool b'',.int .i64 n'',.string t'',.slice la' ln' lc',.slice oa' on' oc']:=hm;have hBf:Below w.heap.size w ((((((((((((((((w4).setCell ⟨w.heap.size+1+1,0,none⟩ (.string k1)).setCell ⟨w.heap.size+1+1,1,none⟩ (.bool true)).setCell ⟨w.heap.size+1+1,2,none⟩ (.int .i64 k')).setCell ⟨w.heap.size+1+1,3,none⟩ (.bool b')).setCell ⟨w.heap.size+1+1,4,none⟩ (.int .i64 n')).setCell ⟨w.heap.size+1+1,5,none⟩ (.string t')).setCell ⟨w.heap.size+1+1,6,none⟩ (.slice la ln lc)).setCell ⟨w.heap.size+1+1,7,none⟩ (.slice oa on oc)).setCell ⟨w.heap.size+1+1,8,none⟩ (.bool true)).setCell ⟨w.heap.size+1+1,9,none⟩ (.int .i64 k'')).setCell ⟨w.heap.size+1+1,10,none⟩ (.bool b'')).setCell ⟨w.heap.size+1+1,11,none⟩ (.int .i64 n'')).setCell ⟨w.heap.size+1+1,12,none⟩ (.string t'')).setCell ⟨w.heap.size+1+1,13,none⟩ (.slice la' ln' lc')).setCell ⟨w.heap.size+1+1,14,none⟩ (.slice oa' on' oc')):=Bf [.string k1,.bool true,.int .i64 k',.bool b',.int .i64 n',.string t',.slice la ln lc,.slice oa on oc,.bool true,.int .i64 k'',.bool b'',.int .i64 n'',.string t'',.slice la' ln' lc',.slice oa' on' oc'] hw4 (by omega) (o:=0);have HP:Hid (PO (.returned (.tuple #[.agg #[.string k1,.bool true,.int .i64 k',.bool b',.int .i64 n',.string t',.slice la ln lc,.slice oa on oc,.bool true,.int .i64 k'',.bool b'',.int .i64 n'',.string t'',.slice la' ln' lc',.slice oa' on' oc'],.bool true])) ((((((((((((((((w4).setCell ⟨w.heap.size+1+1,0,none⟩ (.string k1)).setCell ⟨w.heap.size+1+1,1,none⟩ (.bool true)).setCell ⟨w.heap.size+1+1,2,none⟩ (.int .i64 k')).setCell ⟨w.heap.size+1+1,3,none⟩ (.bool b')).setCell ⟨w.heap.size+1+1,4,none⟩ (.int .i64 n')).setCell ⟨w.heap.size+1+1,5,none⟩ (.string t')).setCell ⟨w.heap.size+1+1,6,none⟩ (.slice la ln lc)).setCell ⟨w.heap.size+1+1,7,none⟩ (.slice oa on oc)).setCell ⟨w.heap.size+1+1,8,none⟩ (.bool true)).setCell ⟨w.heap.size+1+1,9,none⟩ (.int .i64 k'')).setCell ⟨w.heap.size+1+1,10,none⟩ (.bool b'')).setCell ⟨w.heap.size+1+1,11,none⟩ (.int .i64 n'')).setCell ⟨w.heap.size+1+1,12,none⟩ (.string t'')).setCell ⟨w.heap.size+1+1,13,none⟩ (.slice la' ln' lc')).setCell ⟨w.heap.size+1+1,14,none⟩ (.slice oa' on' oc'))):=by
   show PO _ _;rw[<-HPO.out];exact⟨hBf,by rw[hs];rfl⟩
  have Hxf:=qz hxf;clear hxf;clear hm hBf hx3' hx1' hx2' hw4 hb4;go_wp2;exact bodyPost_ret (Jc rfl rfl Hxf.out) rfl HP.out
theorem O1 (w:World) (B:Nat) (key s:ByteArray):Ai w B (dP (key,tv s)) [.string key,.int .i64 4,.bool false,.int .i64 0,.string s,.slice none 0 0,.slice none 0 0]:=by
 have h1:Ae w B (tv s) [.int .i64 4,.bool false,.int .i64 0,.string s,.slice none 0 0,.slice none 0 0]:=by
  simp only[tv,Ae];exact⟨none,0,none,0,rfl,by simp,by simp⟩
 exact⟨[.string key],_,rfl,⟨rfl,rfl⟩,_, [],by simp,Gl _ _ h1,rfl⟩
theorem O0 (w:World) (B:Nat) (key:ByteArray) (n:Int):Ai w B (dP (key,iv n)) [.string key,.int .i64 3,.bool false,.int .i64 n,.string ⟨#[]⟩,.slice none 0 0,.slice none 0 0]:=by
 have h1:Ae w B (iv n) [.int .i64 3,.bool false,.int .i64 n,.string ⟨#[]⟩,.slice none 0 0,.slice none 0 0]:=by
  simp only[iv,Ae];exact⟨none,0,none,0,rfl,by simp,by simp⟩
 exact⟨[.string key],_,rfl,⟨rfl,rfl⟩,_, [],by simp,Gl _ _ h1,rfl⟩
def G4 (o:List (ByteArray×Val)) (w:World) (e:Ending) (w':World):Prop:=Below w.heap.size w w'/\
 ∃la lc oa oc,e=.returned (.agg #[.int .i64 6,.bool false,.int .i64 0,.string ⟨#[]⟩,.slice la 0 lc,.slice oa o.length oc])/\Bk w.heap.size w' (dV (ov o)) [.int .i64 6,.bool false,.int .i64 0,.string ⟨#[]⟩,.slice la 0 lc,.slice oa o.length oc]
theorem Pw {B R b':Nat} {w0 w2:World} {o:Obj} {d:D} {cs:List Value} (vs:List Value) (hb:Below B w0 w2) (hBw:B<=w2.heap.size) (hR:B<=R) (hRb:R<b') (hf:Bk b' w2 d cs):
 Below B w0 ((Ca w2 R 0 vs).alloc o)/\Bk B ((Ca w2 R 0 vs).alloc o) d cs:=by
 have h1:=Bf vs hb hR (o:=0);refine⟨h1.alloc (by rw[Cy];exact hBw) _, ?_⟩;have h2:Bk B (Ca w2 R 0 vs) d cs:=hf.keep (by omega) (by rw[Cy];exact Nat.le_refl _) fun p p1 p2=>World.cell?_of_block (De vs _ _ _ _ (by omega));exact h2.later (Ac _ _)
theorem Zh {w w1:World} {o o':Obj} (h:Below ((w.alloc o).alloc o').heap.size ((w.alloc o).alloc o') w1):w.heap.size<w1.heap.size/\w.heap.size+1<w1.heap.size:=by
 have:=h.size;simp at this;omega
theorem Qc {w w1 w2:World} {o o':Obj} (hb1:Below ((w.alloc o).alloc (.cells Cc 33)).heap.size ((w.alloc o).alloc (.cells Cc 33)) w1) (hb2:Below (w1.alloc o').heap.size (w1.alloc o') w2):Ao w2 (w.heap.size+1) 33 Cc:=by
 have h0:Ao ((w.alloc o).alloc (.cells Cc 33)) (w.heap.size+1) 33 Cc:=by
  have:=Ao.new (w.alloc o) 33 Cc
  rwa [World.size_alloc]at this
 have h1:=(h0.below hb1 h0.lt).alloc o';exact h1.below hb2 h1.lt
theorem T4 (W:World) (s:ByteArray):Cw W.heap.size 88 7 (W.alloc (.cells #[.string G2,.int .i64 4,.bool false,.int .i64 0,.string s,.slice none 0 0,.slice none 0 0] 88)) (dO [(G2,tv s)]) (.slice (some ⟨W.heap.size,0,none⟩) 1 1):=
 Cw.lit (Nat.le_refl _) rfl (fun w'' B=>O1 w'' B G2 s)
theorem Ow (b:Nat) (w:World) (key s:ByteArray):Bk b w (dP (key,tv s)) [.string key,.int .i64 4,.bool false,.int .i64 0,.string s,.slice none 0 0,.slice none 0 0]:=fun _ _ _=>O1 _ _ _ _
theorem Oq (w:World) (o o':Obj):Below w.heap.size w ((w.alloc o).alloc o'):=((Below.refl w.heap.size w).alloc (Nat.le_refl _) _).alloc (by simp) _
theorem X2 {b:Nat} {w:World} {vs:List Val} {a:Option Addr} {n c:Nat} (h:Bk b w (.row 6 (dL vs)) [.slice a n c]):Bk b w (dV (lv vs)) [.int .i64 5,.bool false,.int .i64 0,.string ⟨#[]⟩,.slice a n c,.slice none 0 0]:=fun w'' h1 h2=>by
 simp only[lv,dV,Ai];exact Ah.six.2 ⟨[.slice a n c], [.slice none 0 0],rfl,rfl,rfl,rfl,rfl,h w'' h1 h2,⟨none,0,rfl,by simp[dO], [],rfl,by simp[dO]⟩⟩
theorem Vq {w:World} {g:Nat} {t:TypeId} {cs:Array Value} {l:List D} {s n c:Nat} (h:Ao w g t cs) (hs: ∀d ∈ l,d.cells=s) (hA:Ah w w.heap.size l cs.toList) (hn:n=l.length):Ai w w.heap.size (.row s l) [.slice (some ⟨g,0,none⟩) n c]:=by
 subst hn;exact⟨_,c,rfl,hs,cs.toList,hA,.inr ⟨g,0,rfl,h.lt,fun j u hu=>by rw[Nat.zero_add];exact(h.cell j).trans (by rw[<-Array.getElem?_toList];exact hu)⟩⟩
end Go.Proofs.YtdbejcbbhomdbaaGreatDoor
