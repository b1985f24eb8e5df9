/- Parts: (tree.Tree).Len. No condition. -/
import Derived.Test.YtkmcjfkokoidcaaGreatDoorKFb23
import Derived.Test.YtkmcjfkokoidcaaGreatDoorKFb24
set_option maxHeartbeats 20000000
set_option maxRecDepth 100000
namespace Go.Proofs.YtkmcjfkokoidcaaGreatDoor
open Go Go.RowKit
theorem Sr {fn:Func} {t u:Tmp} {tmps:Array Value} {W:World} {R:Nat} {a0 a1 a2 a3 a4 a5 a6:Value} (h:fn.results= #[.cell t 63,.tmp u]) (hp:tmps.getD t undef=.pointer (some ⟨R,0,none⟩)) (hx:Aj W R 63 #[a0,a1,a2,a3,a4,a5,a6]):
 (results fn tmps).run Tryz.prog W=.ok (.tuple #[.agg #[a0,a1,a2,a3,a4,a5,a6],tmps.getD u undef]) W:=by
 have c0:=hx.cell 0;have c1:=hx.cell 1;have c2:=hx.cell 2;have c3:=hx.cell 3;have c4:=hx.cell 4;have c5:=hx.cell 5;have c6:=hx.cell 6;clear hx;have hp':tmps[t]?.getD undef=.pointer (some ⟨R,0,none⟩):=by simpa using hp
 simp[results,h,hp',go_sem,c0,c1,c2,c3,c4,c5,c6]
def Qv (k:ByteArray) (v:Val) (w:World) (e:Ending) (w':World):Prop:=Below w.heap.size w w'/\ ∃k' b' n' t' la ln lc oa on oc,e=.returned (.tuple #[.agg #[.string k,.int .i64 k',.bool b',.int .i64 n',.string t',.slice la ln lc,.slice oa on oc],.bool true])/\Br w.heap.size w' (dV v) [.int .i64 k',.bool b',.int .i64 n',.string t',.slice la ln lc,.slice oa on oc]
theorem Nk {w:World} {es:List Bj} {b i:Nat} {k:ByteArray} {v:Val} (h:Bz w w.heap.size (.leaf es) b) (hi:es[i]? =some (k,v)) (hb:Ae es<=100000000) (_:es.length<=100):
 Calls Tryz.prog 108 #[.pointer (some ⟨b,0,none⟩),.int .i64 i] w (Qv k v w):=by
 obtain⟨PO,hPO⟩: ∃P:Ending->World->Prop,Qv k v w=P:=⟨_,rfl⟩;rw[hPO];simp only[Bz]at h;obtain⟨hlb,a,c,hr,hx⟩:=h;have hbm:=Ck (List.mem_of_getElem? hi);simp only at hbm;have hlt:i<es.length:=(List.getElem?_eq_some_iff.1 hi).1;obtain⟨k',b',n',t',l',o'⟩:=v;obtain⟨g,off,rfl,hg,la,lc,oa,oc,hv,c0,c1,c2,c3,c4,c5,c6⟩:=Jc (Ai.of_old hr (Nat.le_refl _) (Below.refl _ _)) hi;obtain⟨w1,hw1⟩: ∃w1,w.alloc (.cells #[.string ⟨#[]⟩,.int .i64 0,.bool false,.int .i64 0,.string ⟨#[]⟩,.slice none 0 0,.slice none 0 0] 63)=w1:=⟨_,rfl⟩;have hb1:Below w.heap.size w w1:=hw1▸Aa _ _;have hx1:Aj w1 w.heap.size 63 #[.string ⟨#[]⟩,.int .i64 0,.bool false,.int .i64 0,.string ⟨#[]⟩,.slice none 0 0,.slice none 0 0]:=hw1▸Aj.new _ _ _;obtain⟨w2,hw2⟩: ∃w2,w1.alloc (.cells #[.string k,.int .i64 k',.bool b',.int .i64 n',.string t',.slice la l'.length lc,.slice oa o'.length oc] 63)=w2:=⟨_,rfl⟩;have hb2:Below w1.heap.size w1 w2:=hw2▸Aa _ _;have hx2:Aj w2 w1.heap.size 63 #[.string k,.int .i64 k',.bool b',.int .i64 n',.string t',.slice la l'.length lc,.slice oa o'.length oc]:=hw2▸Aj.new _ _ _;have hb12:=hb1.trans (hb2.mono hb1.size);have hC: ∀W,Below w2.heap.size w2 W->Calls Tryz.prog 117 #[.agg #[.int .i64 k',.bool b',.int .i64 n',.string t',.slice la l'.length lc,.slice oa o'.length oc]] W (Hs W (.mk k' b' n' t' l' o')):=fun W hW=>
  Pz _ _ W (Cb _ _ (((hv.below hb12).below hW).now)) (by omega)
 have hkeep: ∀W:World,W.heap[w1.heap.size]? =w2.heap[w1.heap.size]? ->(W.cell? ⟨w1.heap.size,0,none⟩=some (.string k)/\W.cell? ⟨w1.heap.size,1,none⟩=some (.int .i64 k')/\W.cell? ⟨w1.heap.size,2,none⟩=some (.bool b')/\W.cell? ⟨w1.heap.size,3,none⟩=some (.int .i64 n')/\W.cell? ⟨w1.heap.size,4,none⟩=some (.string t')/\W.cell? ⟨w1.heap.size,5,none⟩=some (.slice la l'.length lc)/\W.cell? ⟨w1.heap.size,6,none⟩=some (.slice oa o'.length oc)):=fun W hW=>by
  have hx:Aj W w1.heap.size 63 _:=hW.trans hx2;exact⟨hx.cell 0,hx.cell 1,hx.cell 2,hx.cell 3,hx.cell 4,hx.cell 5,hx.cell 6⟩
 have Hx1':=qz (hx1.below hb2 hx1.lt);have s0:=(hb1.cell (p:=⟨b,0,none⟩) hlb).trans (hx.cell 0);have lb1:b<w1.heap.size:=Nat.lt_of_lt_of_le hlb hb1.size;obtain⟨d0,d1,d2,d3,d4,d5,d6⟩:w1.cell? ⟨g,off+i*7,none⟩=some (.string k)/\w1.cell? ⟨g,off+i*7+1,none⟩=some (.int .i64 k')/\w1.cell? ⟨g,off+i*7+2,none⟩=some (.bool b')/\w1.cell? ⟨g,off+i*7+3,none⟩=some (.int .i64 n')/\w1.cell? ⟨g,off+i*7+4,none⟩=some (.string t')/\w1.cell? ⟨g,off+i*7+5,none⟩=some (.slice la l'.length lc)/\w1.cell? ⟨g,off+i*7+6,none⟩=some (.slice oa o'.length oc):=⟨(hb1.cell hg).trans c0,(hb1.cell hg).trans c1,(hb1.cell hg).trans c2,(hb1.cell hg).trans c3,(hb1.cell hg).trans c4,(hb1.cell hg).trans c5,(hb1.cell hg).trans c6⟩;have lg1:g<w1.heap.size:=Nat.lt_of_lt_of_le hg hb1.size;have q0:(0:Int)<=i:=by omega
 have q0': ¬(i:Int)<0:=by omega
 have q1:(i:Int)<(es.length:Int):=by omega
 have q1': ¬(es.length:Int)<=(i:Int):=by omega
 have lw1:=hx1.lt;obtain⟨HPO,HC,Hkeep,Hb12⟩:=hid4 hPO hC hkeep hb12;clear hPO hC hkeep hb12;have Hx2:=qz hx2;clear hr hx hv c0 c1 c2 c3 c4 c5 c6 hx1 hx2 hb1 hi;go_enter Tryz.func108,Tryz.ntmps108;go_wp2_with (fail);go_upto_region 4 with(fail);refine wp_region_held_drew (S:=fun W:World=>W.cell? ⟨w1.heap.size,0,none⟩=some (.string k)/\W.cell? ⟨w1.heap.size,1,none⟩=some (.int .i64 k')/\W.cell? ⟨w1.heap.size,2,none⟩=some (.bool b')/\W.cell? ⟨w1.heap.size,3,none⟩=some (.int .i64 n')/\W.cell? ⟨w1.heap.size,4,none⟩=some (.string t')/\W.cell? ⟨w1.heap.size,5,none⟩=some (.slice la l'.length lc)/\W.cell? ⟨w1.heap.size,6,none⟩=some (.slice oa o'.length oc)) (by kernel_rfl) (Hkeep.out _ rfl) (fun hHeld=> ?_);refine tkH 0 hHeld ?_;refine tkH 1 hHeld ?_;refine tkH 2 hHeld ?_;refine tkH 3 hHeld ?_;refine Ie 4 fun K hK=> ?_;go_simp;(with_reducible refine(HC.out _ (Below.drew (Below.refl _ _))).mono ?_);rintro e w3 ⟨⟨cs3,rfl,hl3,hf3⟩,hb3⟩;obtain⟨la2,lc2,oa2,oc2,rfl⟩:=Dp hf3;have hw3:Below w2.heap.size w2 w3:=(Below.drew (Below.refl _ _)).trans hb3;have lx2:=Hx2.out.lt;have hk3:=hw3.block _ lx2;have hx3:=Hx1'.out.below hw3 Hx1'.out.lt;have hne:w1.heap.size≠w.heap.size:=by omega
 have hf3':Ai (fun i=>w2.heap.size<=i) w3 (dV (.mk k' b' n' t' l' o')) [.int .i64 k',.bool b',.int .i64 n',.string t',.slice la2 l'.length lc2,.slice oa2 o'.length oc2]:=hf3;have hz2:w.heap.size<w2.heap.size:=by omega
 have hf4:Br w.heap.size (An w3 w.heap.size 0 [.string k,.int .i64 k',.bool b',.int .i64 n',.string t',.slice la2 l'.length lc2,.slice oa2 o'.length oc2]) (dV (.mk k' b' n' t' l' o')) [.int .i64 k',.bool b',.int .i64 n',.string t',.slice la2 l'.length lc2,.slice oa2 o'.length oc2]:=(hf3'.later (Nat.le_of_eq (Bb _ _ _ _).symm) fun p p1 _=>World.cell?_of_block (Ar _ _ _ _ _ (by omega))).mono fun i _ hi=>by omega
 have HP:Hid (PO (.returned (.tuple #[.agg #[.string k,.int .i64 k',.bool b',.int .i64 n',.string t',.slice la2 l'.length lc2,.slice oa2 o'.length oc2],.bool true])) (An w3 w.heap.size 0 [.string k,.int .i64 k',.bool b',.int .i64 n',.string t',.slice la2 l'.length lc2,.slice oa2 o'.length oc2])):=by
  show PO _ _;rw[<-HPO.out];exact⟨Bq [.string k,.int .i64 k',.bool b',.int .i64 n',.string t',.slice la2 l'.length lc2,.slice oa2 o'.length oc2] (Hb12.out.trans (hw3.mono Hb12.out.size)) (Nat.le_refl _) (o:=0),_,_,_,_,_,_,_,_,_,_,rfl,hf4⟩
 have z0:=hx3.cell 0;have z1:=hx3.cell 1;have z2:=hx3.cell 2;have z3:=hx3.cell 3;have z4:=hx3.cell 4;have z5:=hx3.cell 5;have z6:=hx3.cell 6;have fz:=hx3.frozen;have lz:=hx3.lt;have HX3:=qz hx3;have HkS:=qz (Hkeep.out (An w3 w.heap.size 0 [.string k,.int .i64 k',.bool b',.int .i64 n',.string t',.slice la2 l'.length lc2,.slice oa2 o'.length oc2]) ((Ar _ _ _ _ _ hne).trans hk3));refine hK.out _ _ (Hkeep.out _ hk3) (fun hHeld=> ?_);clear hK K hb3 hf3 hf3' hf4 hl3 hx3
 try simp only[Act.put,tk1,tk2,tk3,tk4,tk5,tk6]
 refine tkH 5 hHeld ?_;refine Ie 6 fun K hK=> ?_;go_simp;refine hK.out _ _ HkS.out (fun hHeld=> ?_);clear hK K
 try simp only[Act.put,tk1,tk2,tk3,tk4,tk5,tk6]
 refine tkH 7 hHeld ?_;refine wpAnyH_done (by kernel_rfl) ?_ _;clear hHeld;go_wp2;exact bodyPost_ret (Sr rfl rfl (((((((HX3.out.set_ 0 (.string k)).set_ 1 (.int .i64 k')).set_ 2 (.bool b')).set_ 3 (.int .i64 n')).set_ 4 (.string t')).set_ 5 (.slice la2 l'.length lc2)).set_ 6 (.slice oa2 o'.length oc2))) rfl HP.out
abbrev G8:ByteArray:=⟨#[]⟩
theorem Tj (k:ByteArray):Op.bytesLess k.toList []=false:=by
 cases k.toList<;>rfl
theorem Rc (lo hi k:ByteArray) (w:World):Calls Tryz.prog 203 #[.agg #[.string lo,.string hi,.bool true],.string k] w fun e w'=>e=.returned (.bool false)/\Below w.heap.size w w':=by
 have Hb:=qz (Aa w (.cells #[.string lo,.string hi,.bool true] 209));go_enter Tryz.func203,Tryz.ntmps203;go_wp2;go_ret;exact⟨rfl,Hb.out⟩
theorem Uf {w:World} {es:List Bj} {b b1 b2 i:Nat} (h:Bz w w.heap.size (.leaf es) b) (hi:i<es.length) (hb:Ae es<=100000000) (h8:es.length<=8) (c1:w.cell? ⟨b1,0,none⟩=some (.pointer (some ⟨b,0,none⟩))) (c2:w.cell? ⟨b2,0,none⟩=some (.string G8)):
 Calls Tryz.prog 285 #[.int .i64 i,.pointer (some ⟨b1,0,none⟩),.pointer (some ⟨b2,0,none⟩)] w fun e w'=>e=.returned (.bool true)/\Below w.heap.size w w':=by
 obtain⟨PO,hPO⟩: ∃P:Ending->World->Prop,(fun e w'=>e=.returned (.bool true)/\Below w.heap.size w w')=P:=⟨_,rfl⟩;rw[hPO];obtain⟨⟨key,v⟩,hx⟩: ∃v,es[i]? =some v:=⟨_,List.getElem?_eq_getElem hi⟩;have HC:=qz (Nk h hx hb (by omega));have l2:b2<w.heap.size:=World.block_lt_of_cell? w _ c2;have HPO:=qz hPO;clear hPO;clear h hx;go_enter Tryz.func285,Tryz.ntmps285;go_wp2_with (fail);(with_reducible refine(HC.out).mono ?_);rintro e w2 ⟨hb2,k',b',n',t',la,ln,lc,oa,on,oc,rfl, -⟩;have d2:w2.cell? ⟨b2,0,none⟩=some (.string G8):=(hb2.cell (p:=⟨b2,0,none⟩) l2).trans c2;have l3:b2<w2.heap.size:=Nat.lt_of_lt_of_le l2 hb2.size;have hk:=Tj key;have HP:Hid (PO (.returned (.bool true)) (w2.alloc (.cells #[.string key,.int .i64 k',.bool b',.int .i64 n',.string t',.slice la ln lc,.slice oa on oc] 63))):=by
  show PO _ _;rw[<-HPO.out];exact⟨rfl,hb2.trans ((Aa w2 _).mono hb2.size)⟩
 clear hb2 HC;go_wp2;exact HP.out
theorem Pt (g1 g2:Value) (n:Nat) (w:World) (hn:n<=8) (hf: ∀W,Below w.heap.size w W-> ∀i:Nat,i<n->Calls Tryz.prog 285 #[.int .i64 i,g1,g2] W fun e w'=>e=.returned (.bool true)/\Below W.heap.size W w'):
 Calls Tryz.prog 105 #[.int .i64 n,.func (.func 285) #[] #[g1,g2]] w fun e w'=>e=.returned (.int .i64 0)/\Below w.heap.size w w':=by
 obtain⟨PO,hPO⟩: ∃P:Ending->World->Prop,(fun e w'=>e=.returned (.int .i64 0)/\Below w.heap.size w w')=P:=⟨_,rfl⟩;rw[hPO];have HF:Hid (∀W,Below w.heap.size w W-> ∀z:Int,(∃i:Nat,z=i/\i<n)->Calls Tryz.prog 285 #[.int .i64 z,g1,g2] W fun e w'=>e=.returned (.bool true)/\Below W.heap.size W w'):=fun W hW z ⟨i,e,hi⟩=>e▸hf W hW i hi;have H0:=qz (Below.refl w.heap.size w);have HPO:=qz hPO;clear hPO;clear hf;go_enter Tryz.func105,Tryz.ntmps105;go_wp2_with (fail);go_loopw [5,6] (fun i j wr=> ∃q:Nat,i=.int .i64 0/\j=.int .i64 q/\q<=n/\Hid (Below w.heap.size w wr)) (fun _ j _=>(intOf j).toNat)
 case atStart=>exact⟨n,rfl,rfl,Nat.le_refl _,H0⟩
 case round=>
  obtain⟨q,rfl,rfl,hq,hb⟩:=hrel;clear H0;have hc:q=0\/q=1\/q=2\/q=3\/q=4\/q=5\/q=6\/q=7\/q=8:=by omega
  rcases hc with rfl|rfl|rfl|rfl|rfl|rfl|rfl|rfl|rfl
  . have HP:Hid (PO (.returned (.int .i64 0)) wr):=by
     show PO _ _;rw[<-HPO.out];exact⟨rfl,hb.out⟩
    go_wp2;exact HP.out
  all_goals
   have hz:=hb.out.size;go_wp2_with (fail);with_reducible refine(HF.out _ hb.out _ ?_).mono ?_
   . first|exact⟨0,rfl,by omega⟩|exact⟨1,rfl,by omega⟩|exact⟨2,rfl,by omega⟩|exact⟨3,rfl,by omega⟩|exact⟨4,rfl,by omega⟩
   rintro e w2 ⟨rfl,hb2⟩;have HB:=qz (hb.out.trans (hb2.mono hz));clear hb2;go_wp2;go_roundw
   case rel=>first|exact⟨0,rfl,rfl,by omega,HB⟩|exact⟨1,rfl,rfl,by omega,HB⟩|exact⟨2,rfl,rfl,by omega,HB⟩|exact⟨3,rfl,rfl,by omega,HB⟩|exact⟨4,rfl,rfl,by omega,HB⟩
   case measure=>simp[intOf]
theorem Wf {w:World} {es:List Bj} {b:Nat} (h:Bz w w.heap.size (.leaf es) b) (hb:Ae es<=100000000) (h8:es.length<=8):Calls Tryz.prog 246 #[.pointer (some ⟨b,0,none⟩),.string G8] w fun e w'=>e=.returned (.int .i64 0)/\Below w.heap.size w w':=by
 obtain⟨PO,hPO⟩: ∃P:Ending->World->Prop,(fun e w'=>e=.returned (.int .i64 0)/\Below w.heap.size w w')=P:=⟨_,rfl⟩;rw[hPO];obtain⟨w2,hw2⟩: ∃w2,(w.alloc (.cells #[.pointer (some ⟨b,0,none⟩)] 24)).alloc (.cells #[.string G8] 9)=w2:=⟨_,rfl⟩;have hb2:Below w.heap.size w w2:=hw2▸(Aa w _).alloc (by simp) _;have hx2:Aj w2 w.heap.size 24 #[.pointer (some ⟨b,0,none⟩)]:=hw2▸(Aj.new _ _ _).alloc _;have hy2:Aj w2 (w.heap.size+1) 9 #[.string G8]:=hw2▸Aj.nxt _ _ _ _;have hN2: ∀W,Below w2.heap.size w2 W->Bz W W.heap.size (.leaf es) b:=fun W hW=>(Bx.below (Bx.below (Bx.of_old h (Nat.le_refl _)) hb2) hW).now;have hSz:=Kr (hN2 w2 (Below.refl _ _)) (by show es.length<=100;omega);have hS:=fun(W:World) (hW:Below w2.heap.size w2 W)=>Pt (.pointer (some ⟨w.heap.size,0,none⟩)) (.pointer (some ⟨w.heap.size+1,0,none⟩)) es.length W h8 (fun X hX i hi=>by
  have hX2:=hW.trans (hX.mono hW.size);exact Uf (hN2 X hX2) hi hb h8 ((hx2.below hX2 hx2.lt).cell 0) ((hy2.below hX2 hy2.lt).cell 0))
 have d1:=hx2.cell 0;have l1:=hx2.lt;have l2:=hy2.lt;have e1:E5 (.leaf es)=es.length:=rfl;rw[e1]at hSz;obtain⟨HPO,HSz,HS,Hb2⟩:=hid4 hPO hSz hS hb2;clear hPO hSz hS hb2;clear h hx2 hy2 hN2;go_enter Tryz.func246,Tryz.ntmps246;go_wp2_with (fail);(with_reducible refine(HSz.out).mono ?_);rintro e w3 ⟨rfl,hb3⟩;have HS3:=qz (HS.out w3 hb3);have hz:=Hb2.out.size;go_wp2_with (fail);(with_reducible refine(HS3.out).mono ?_);rintro e w4 ⟨rfl,hb4⟩;have HP:Hid (PO (.returned (.int .i64 0)) w4):=by
  show PO _ _;rw[<-HPO.out];exact⟨rfl,(Hb2.out.trans (hb3.mono hz)).trans (hb4.mono (Nat.le_trans hz hb3.size))⟩
 clear hb3 hb4 hw2;go_wp2;exact HP.out
theorem Tl (w:World):Calls Tryz.prog 92 #[.pointer none] w fun e w'=>e=.returned (.slice none 0 0)/\w=w':=by
 go_enter Tryz.func92,Tryz.ntmps92;go_wp2;go_ret;exact⟨rfl,rfl⟩
theorem Vp (S:Nat->Prop) (k:ByteArray) (v:Val) (c0 c1 c2 c3 c4 c5:Value) (w:World) (hv:Ah w w.heap.size (dV v) [c0,c1,c2,c3,c4,c5]) (hb:Ae [(k,v)]<=100000000):
 Calls Tryz.prog 54 #[.pointer none,.agg #[.string k,c0,c1,c2,c3,c4,c5]] w (SP S (.leaf [(k,v)],none) w):=by
 obtain⟨k',b',n',t',la,ln,lc,oa,on,oc,rfl,rfl,rfl,rfl,rfl,rfl⟩:=R7 hv;obtain⟨PO,hPO⟩: ∃P:Ending->World->Prop,SP S (.leaf [(k,v)],none) w=P:=⟨_,rfl⟩;rw[hPO];obtain⟨wi,hwi⟩: ∃wi,w.alloc (.cells #[.string k,(.int .i64 k'),(.bool b'),(.int .i64 n'),(.string t'),(.slice la ln lc),(.slice oa on oc)] 63)=wi:=⟨_,rfl⟩;have Hbi:Hid (Below w.heap.size w wi):=hwi▸Aa _ _;have hxi:Aj wi w.heap.size 63 #[.string k,(.int .i64 k'),(.bool b'),(.int .i64 n'),(.string t'),(.slice la ln lc),(.slice oa on oc)]:=hwi▸Aj.new _ _ _;have HHt:=qz (Pg wi);have HEn:=qz (Tl wi);have HPl:=qz (Nx [] k none 0 0 wi ⟨none,0,rfl,fun d hd=>(by cases hd), [],rfl,.inl rfl⟩ (by simp[B8]) (by simp));have Hvi:=qz (Wt (k:=k) hv);have hSp: ∀(W:World) (V':Value),Below w.heap.size w W->A0 (fun _=>True) w.heap.size 63 7 W (dO [(k,v)]) V'->Calls Tryz.prog 99 #[V',.func (.func 100) #[] #[]] W (SP S (.leaf [(k,v)],none) W):=fun W V' hB hR=>by
  obtain⟨a,c,rfl,hc⟩:=hR.slice_cap;exact L3 S [(k,v)] a _ c W hR.close (by simp[B8]) (by simp) hc hb
 have d0:=hxi.cell 0;have lx:=hxi.lt;obtain⟨Hxi,HPO,HSp⟩:=hid3 hxi hPO hSp;clear hxi hPO hSp;go_enter Tryz.func54,Tryz.ntmps54;go_upto_region 1 with(fail);go_wp2_with (fail);(with_reducible refine(HHt.out).mono ?_);rintro e w1 ⟨rfl,rfl⟩;go_wp2_with (fail);(with_reducible refine(HEn.out).mono ?_);rintro e w1 ⟨rfl,rfl⟩;go_wp2_with (fail);(with_reducible refine(HPl.out).mono ?_);rintro e w2 ⟨rfl,hb2⟩;have hbw2:=Hbi.out.trans (hb2.mono Hbi.out.size);have hx2:=Hxi.out.below hb2 lx;clear d0 lx hb2;have d0:=hx2.cell 0;have d1:=hx2.cell 1;have d2:=hx2.cell 2;have d3:=hx2.cell 3;have d4:=hx2.cell 4;have d5:=hx2.cell 5;have d6:=hx2.cell 6;have lx:=hx2.lt;have hb23:=hbw2.alloc hbw2.size (.cells #[.string k,(.int .i64 k'),(.bool b'),(.int .i64 n'),(.string t'),(.slice la ln lc),(.slice oa on oc)] 63);have hx3:=Aj.new w2 63 #[.string k,(.int .i64 k'),(.bool b'),(.int .i64 n'),(.string t'),(.slice la ln lc),(.slice oa on oc)];have hxP3:=Ai.of_old Hvi.out (Nat.le_refl _) hb23;have hI:=Xc w.heap.size (w2.alloc (.cells #[.string k,(.int .i64 k'),(.bool b'),(.int .i64 n'),(.string t'),(.slice la ln lc),(.slice oa on oc)] 63)) (.slice none 0 0) 0 [] (World.ownsRow_nil _ _ _ _) (by have:=hb23.size;simp at this ⊢;omega) (by omega) w2.heap.size [.string k,(.int .i64 k'),(.bool b'),(.int .i64 n'),(.string t'),(.slice la ln lc),(.slice oa on oc)] rfl (fun j u hj=>(hx3.cell j).trans (by rw[<-Array.getElem?_toList];exact hj)) (hxP3.now.len.2);rw[show((0:Nat):Int)=0 from rfl]at hI;obtain⟨HI,Hb23,HxP3⟩:=hid3 hI hb23 hxP3;clear hI hb23 hxP3;clear hx3 hx2 hbw2 HPl Hxi Hbi;have hat:Da k ([]:List Bj)=0:=rfl;have hht:Cl k ([]:List Bj)=false:=rfl;rw[hat,hht];go_wp2_with (fail);(with_reducible refine(HI.out).mono ?_);rintro e w5 ⟨V',rfl,hR5,hg5,ha5⟩;have HB5:=qz (Hb23.out.grown hg5 Hb23.out.size (fun k hk=>by cases hk));have HR5:Hid (A0 (fun _=>True) w.heap.size 63 7 w5 (dO [(k,v)]) V'):=by
  refine⟨_,hR5,F2 _,At.one ?_⟩;exact Ai.grow (V:=.slice none 0 0) (S0:=fun _=>True) (HxP3.out.mono fun i _ _=>⟨trivial,by simp[Value.ownBlock]⟩) hg5 ha5
 clear hR5 hg5 ha5 d0 d1 d2 d3 d4 d5 d6 lx HI;go_wp2_with (fail);(with_reducible refine(HSp.out _ _ HB5.out HR5.out).mono ?_);rintro e w6 ⟨hb6,b6,q6,rfl,hN,hO⟩;have HP:Hid (PO (.returned (.tuple #[.pointer (some ⟨b6,0,none⟩),.pointer q6])) w6):=by
  show PO _ _;rw[<-HPO.out];exact⟨HB5.out.trans (hb6.mono HB5.out.size),b6,q6,rfl,hN.mono (Fb HB5.out.size),hO.mono (Fb HB5.out.size)⟩
 clear hb6 hN hO;go_wp2;exact HP.out
def Il (S:Nat->Prop) (w:World):Option (Nat×Nd)->Option Addr->Prop
 |none,p=>p=none
 |some (_,n),p=> ∃b,p=some ⟨b,0,none⟩/\Bx S w n b
def htT:Option (Nat×Nd)->Nat
 |none=>0
 |some (h,_)=>h
theorem Il.mono {S T:Nat->Prop} {w:World} {t:Option (Nat×Nd)} {p:Option Addr} (h:Il S w t p) (hST: ∀i,i<w.heap.size->S i->T i):Il T w t p:=by
 cases t with
 |none=>exact h
 |some t=>
  obtain⟨b,e,h1⟩:=h;exact⟨b,e,h1.mono hST⟩
theorem Il.later {S:Nat->Prop} {w w':World} {t:Option (Nat×Nd)} {p:Option Addr} (h:Il S w t p) (hs:w.heap.size<=w'.heap.size) (hk: ∀i,S i->i<w.heap.size->w'.heap[i]? =w.heap[i]?):Il S w' t p:=by
 cases t with
 |none=>exact h
 |some t=>
  obtain⟨b,e,h1⟩:=h;exact⟨b,e,h1.later hs hk⟩
theorem Il.below {S:Nat->Prop} {w w':World} {t:Option (Nat×Nd)} {p:Option Addr} (h:Il S w t p) (hb:Below w.heap.size w w'):Il S w' t p:=h.later hb.size fun i _ hi=>hb.block i hi
def Qk (S:Nat->Prop) (t:Option (Nat×Nd)) (w:World) (e:Ending) (w':World):Prop:=Below w.heap.size w w'/\ ∃p,e=.returned (.agg #[.pointer p])/\Il (fun i=>S i\/w.heap.size<=i) w' t p
def Rz (r:Nd×Option Nd):Nd:=match r.2 with
 |none=>r.1
 |some m=>Gy [r.1,m]
def Ij (t:Option (Nat×Nd)) (k:ByteArray) (v:Val):Nd×Option Nd:=match t with
 |none=>(.leaf [(k,v)],none)
 |some (h,n)=>Cp h n k v
theorem Acx (t:Option (Nat×Nd)) (k:ByteArray) (v:Val): ∃h,Ke t k v=some (h,Rz (Ij t k v)):=by
 cases t with
 |none=>exact⟨0,rfl⟩
 |some t=>
  obtain⟨h,n⟩:=t;simp only[Ke,Ij,Rz];rcases Cp h n k v with⟨a,_|m⟩
  . exact⟨h,rfl⟩
  . exact⟨h+1,rfl⟩
theorem J4 {fn:Func} {t:Tmp} {tmps:Array Value} {W:World} {R:Nat} {a:Value} (h:fn.results= #[.cell t 26]) (hp:tmps.getD t undef=.pointer (some ⟨R,0,none⟩)) (hx:W.cell? ⟨R,0,none⟩=some a):
 (results fn tmps).run Tryz.prog W=.ok (.agg #[a]) W:=by
 have hp':tmps[t]?.getD undef=.pointer (some ⟨R,0,none⟩):=by simpa using hp
 simp[results,h,hp',go_sem,hx]
theorem Aal (S:Nat->Prop) (t:Option (Nat×Nd)) (p:Option Addr) (k:ByteArray) (v:Val) (c0 c1 c2 c3 c4 c5:Value) (w:World) (hS:Il S w t p) (hok:Sc t) (hT:htT t<=90000) (hN:(Db t).length+1<=100000000) (hb:Ae (Db t)+Ae [(k,v)]<=100000000) (hv:Ah w w.heap.size (dV v) [c0,c1,c2,c3,c4,c5]):
 Calls Tryz.prog 28 #[.agg #[.pointer p],.string k,.agg #[c0,c1,c2,c3,c4,c5]] w (Qk S (Ke t k v) w):=by
 have ht:=hS.mono (T:=fun i=>S i/\i<w.heap.size) fun i hi h=>⟨h,hi⟩;clear hS;obtain⟨PO,hPO⟩: ∃P:Ending->World->Prop,Qk S (Ke t k v) w=P:=⟨_,rfl⟩;rw[hPO];have hrr:flR (Ij t k v)=Cm k v (Db t)/\ ∀m,(Ij t k v).2=some m->Ga 4 (htT t) (Ij t k v).1/\Ga 4 (htT t) m:=by
  cases t with
  |none=>exact⟨rfl,fun m e=>by cases e⟩
  |some t=>
   obtain⟨h,n⟩:=t;obtain⟨hn,ha⟩:=hok;obtain⟨l1,l2,l3⟩:=Hz h;obtain⟨i1,i2,i3⟩:=N5 h (k:=k) (v:=v) (by omega:I4 h<=4) (.inl l2) l3 hn ha;exact⟨i1,i3⟩
 have hasc:B8 (Db t):=by
  cases t with
  |none=>exact List.Pairwise.nil
  |some t=>exact hok.2
 have hWi: ∀W,Below w.heap.size w W->Calls Tryz.prog 54 #[.pointer p,.agg #[.string k,c0,c1,c2,c3,c4,c5]] W (SP (fun i=>S i/\i<w.heap.size) (Ij t k v) W):=fun W hW=>by
  cases t with
  |none=>
   cases ht
   exact Vp _ k v c0 c1 c2 c3 c4 c5 W ((hv.below hW).more hW.size) (by omega)
  |some t=>
   obtain⟨h,n⟩:=t;obtain⟨hn,ha⟩:=hok;obtain⟨b,rfl,hb'⟩:=ht;obtain⟨l1,l2,l3⟩:=Hz h;exact Px k v c0 c1 c2 c3 c4 c5 h _ n (I4 h) b W (hb'.below hW) hn l2 l3 ha (by have:h<=90000:=hT;omega) hN hb ((hv.below hW).more hW.size)
 obtain⟨hgt,hpt⟩:=Acx t k v;obtain⟨k',b',n',t',la,ln,lc,oa,on,oc,rfl,rfl,rfl,rfl,rfl,rfl⟩:=R7 hv;have hfin: ∀(W:World) (b:Nat),Below w.heap.size w W->Bx (fun i=>S i\/w.heap.size<=i) W (Rz (Ij t k v)) b->PO (.returned (.agg #[.pointer (some ⟨b,0,none⟩)])) W:=fun W b hW hN=>by
  rw[<-hPO,hpt];exact⟨hW,_,rfl,b,rfl,hN⟩
 obtain⟨w3,hw3⟩: ∃w3,((w.alloc (.cells #[.pointer p] 26)).alloc (.cells #[.int .i64 k',.bool b',.int .i64 n',.string t',.slice la ln lc,.slice oa on oc] 37)).alloc (.cells #[.pointer none] 26)=w3:=⟨_,rfl⟩;have hb3:Below w.heap.size w w3:=hw3▸((Aa w (.cells #[.pointer p] 26)).alloc (by simp) _).alloc (by simp;omega) _;have hx3:Aj w3 (w.heap.size+1+1) 26 #[.pointer none]:=by
  have:=Aj.new ((w.alloc (.cells #[.pointer p] 26)).alloc (.cells #[.int .i64 k',.bool b',.int .i64 n',.string t',.slice la ln lc,.slice oa on oc] 37)) 26 #[.pointer none]
  rwa [World.size_alloc,World.size_alloc,hw3]at this
 have hx1:Aj w3 w.heap.size 26 #[.pointer p]:=hw3▸((Aj.new w 26 #[.pointer p]).alloc _).alloc _;have hx2:Aj w3 (w.heap.size+1) 37 #[.int .i64 k',.bool b',.int .i64 n',.string t',.slice la ln lc,.slice oa on oc]:=by
  have:=(Aj.new (w.alloc (.cells #[.pointer p] 26)) 37 #[.int .i64 k',.bool b',.int .i64 n',.string t',.slice la ln lc,.slice oa on oc]).alloc (.cells #[.pointer none] 26)
  rwa [World.size_alloc,hw3]at this
 have e0:=hx1.cell 0;obtain⟨v0,v1,v2,v3,v4,v5⟩:=Az hx2;have m1:=hx1.lt;have m2:=hx2.lt;clear hx1 hx2;have HC:=qz (hWi w3 hb3);obtain⟨Hfin,Hb3,Hx3,Hrr⟩:=hid4 hfin hb3 hx3 hrr;clear hfin hb3 hx3 hrr;clear hWi hPO ht hv hpt;go_enter Tryz.func28,Tryz.ntmps28;go_wp2_with (fail);clear e0 v0 v1 v2 v3 v4 v5 m1 m2;(with_reducible refine(HC.out).mono ?_);rintro e w4 ⟨hb4,b1,q,rfl,hN1,hO1⟩;have hw4:=Hb3.out.trans (hb4.mono Hb3.out.size);have hx4:=Hx3.out.below hb4 Hx3.out.lt;have d0:=hx4.cell 0;have fz:=hx4.frozen;have lx:=hx4.lt;have hz3:=Hb3.out.size;have hz4:=hb4.size;have hl3:=Hx3.out.lt;clear hw3;rcases hr2:(Ij t k v).2 with _|m
 . rw[hr2]at hO1
   cases hO1
   have hrt:Rz (Ij t k v)=(Ij t k v).1:=by unfold Rz;rw[hr2]
   have hxf:=(hx4.set_ 0 (.pointer (some ⟨b1,0,none⟩))).cell 0;have hBf:=hw4.setCell (p:=⟨w.heap.size+1+1,0,none⟩) (by simp;omega) (.pointer (some ⟨b1,0,none⟩));have hNf:Bx (fun i=>(S i/\i<w.heap.size)\/w3.heap.size<=i) (w4.setCell ⟨w.heap.size+1+1,0,none⟩ (.pointer (some ⟨b1,0,none⟩))) (Ij t k v).1 b1:=hN1.later (by simp[World.setCell]) fun i i1 _=>Below.heap_setCell _ _ _ _ (by rcases i1 with⟨_,i1⟩|i1<;>(simp;omega));have HP:=qz (Hfin.out _ b1 hBf (hrt▸hNf.mono fun i _ hi=>hi.imp (fun h=>h.1) (fun h=>by omega)));have Hxf:=qz hxf;clear hxf;clear hBf hNf hw4 hb4 hN1 hx4 hr2 hrt;go_wp2_with (fail);exact bodyPost_ret (J4 rfl rfl Hxf.out) rfl HP.out
 . rw[hr2]at hO1;obtain⟨b2,rfl,hN2⟩:=hO1;obtain⟨o1,o2⟩:=Hrr.out.2 m hr2;have hrt:Rz (Ij t k v)=Gy [(Ij t k v).1,m]:=by unfold Rz;rw[hr2]
   have hfl:Cg [(Ij t k v).1,m]=Cm k v (Db t):=by
    rw[<-Hrr.out.1];unfold flR;rw[hr2];simp[Cg]
   have hb5:=Aa w4 (.cells #[.pointer (some ⟨b1,0,none⟩),.pointer (some ⟨b2,0,none⟩)] 24);have Hw5:=qz (hw4.alloc hw4.size (.cells #[.pointer (some ⟨b1,0,none⟩),.pointer (some ⟨b2,0,none⟩)] 24));have Hx5:=qz (hx4.alloc (.cells #[.pointer (some ⟨b1,0,none⟩),.pointer (some ⟨b2,0,none⟩)] 24));have hv5:=Aj.new w4 24 #[.pointer (some ⟨b1,0,none⟩),.pointer (some ⟨b2,0,none⟩)];have hK:=(Aq.one (hN1.below hb5)).app (Aq.one (hN2.below hb5));have hRow:Ah (w4.alloc (.cells #[.pointer (some ⟨b1,0,none⟩),.pointer (some ⟨b2,0,none⟩)] 24)) (w4.alloc (.cells #[.pointer (some ⟨b1,0,none⟩),.pointer (some ⟨b2,0,none⟩)] 24)).heap.size (.row 1 (Ce [b1,b2])) [.slice (some ⟨w4.heap.size,0,none⟩) 2 2]:=
    ⟨_,2,rfl,Q7 _, [.pointer (some ⟨b1,0,none⟩),.pointer (some ⟨b2,0,none⟩)],⟨[_], [_],rfl,⟨rfl,rfl⟩, [_], [],rfl,⟨rfl,rfl⟩,rfl⟩,.inr ⟨w4.heap.size,0,rfl,hv5.lt,fun j u hj=>by
      rw[Nat.zero_add];exact(hv5.cell j).trans (by rw[<-Array.getElem?_toList];exact hj)⟩⟩
   have hI:=Hh (fun i=>(S i/\i<w.heap.size)\/w3.heap.size<=i) (htT t) [(Ij t k v).1,m] [b1,b2] _ 2 2 _ hRow hK (by rw[hfl];exact Ks hasc) (fun y hy=>by
    simp only[List.mem_cons,List.not_mem_nil,or_false]at hy;rcases hy with rfl|rfl
    . exact o1
    . exact o2) (by simp) (by simp) (by omega) (by
    rw[hfl];have:=Je (k:=k) (v:=v) (Db t);omega)
   rw[<-hrt]at hI;have hz5:w4.heap.size<(w4.alloc (.cells #[.pointer (some ⟨b1,0,none⟩),.pointer (some ⟨b2,0,none⟩)] 24)).heap.size:=hv5.lt;have HI:=qz hI;clear hI;clear hK hRow hv5 hb5 hN1 hN2 hr2 hrt hfl o1 o2 hx4 hw4 hb4 d0 fz lx;go_wp2_with (fail);(with_reducible refine(HI.out).mono ?_);rintro e w6 ⟨hb6,b6,rfl,hN6⟩;have hw6:=Hw5.out.trans (hb6.mono Hw5.out.size);have hx6:=Hx5.out.below hb6 Hx5.out.lt;have d0:=hx6.cell 0;have fz:=hx6.frozen;have lx:=hx6.lt;have hxf:=(hx6.set_ 0 (.pointer (some ⟨b6,0,none⟩))).cell 0;have hBf:=hw6.setCell (p:=⟨w.heap.size+1+1,0,none⟩) (by simp;omega) (.pointer (some ⟨b6,0,none⟩));have hNf:=hN6.later (w':=w6.setCell ⟨w.heap.size+1+1,0,none⟩ (.pointer (some ⟨b6,0,none⟩))) (by simp[World.setCell]) fun i i1 _=>Below.heap_setCell _ _ _ _ (by rcases i1 with(⟨_,i1⟩|i1)|i1<;>(simp;omega));have HP:=qz (Hfin.out _ b6 hBf (hNf.mono fun i _ hi=>hi.elim (fun h=>h.imp (fun h=>h.1) (fun h=>by omega)) (fun h=> .inr (by omega))));have Hxf:=qz hxf;clear hxf;clear hBf hNf hw6 hb6 hN6 hx6 HI Hw5 Hx5;go_wp2_with (fail);exact bodyPost_ret (J4 rfl rfl Hxf.out) rfl HP.out
theorem Aa5 {m:Nat}: ∀{ks:List Nd},(∀k ∈ ks,m<=(Cw k).length)->ks.length*m<=(Cg ks).length
 | [],_=>by simp[Cg]
 |k::r,h=>by
  have h1:=h k (by simp);have h2:=Aa5 (ks:=r) fun x hx=>h x (by simp[hx]);simp only[Cg,List.length_append,List.length_cons,Nat.add_mul,Nat.one_mul];omega
theorem Aeh: ∀(h:Nat) {n:Nd} {lo:Nat},0<lo->(0<h->2<=lo)->Ga lo h n->2 ^ h<=(Cw n).length
 |0,.leaf es,lo,h0,_,hn=>by
  simp only[Ga]at hn;simp only[Cw];omega
 |0,.inner ks,_,_,_,hn=>absurd hn (by simp[Ga])
 |h+1,.leaf es,_,_,_,hn=>absurd hn (by simp[Ga])
 |h+1,.inner ks,lo,_,h2,hn=>by
  simp only[Ga]at hn;have h3:=h2 (by omega);have h4:=Aa5 (m:=2 ^ h) fun k hk=>Aeh h (by omega) (fun _=>by omega) (hn.2.2 k hk);have h5:2*2 ^ h<=ks.length*2 ^ h:=Nat.mul_le_mul_right _ (by omega);simp only[Cw];rw[Nat.pow_succ];omega
theorem Ahc {t:Option (Nat×Nd)} (ht:Sc t) (hN:(Db t).length<=100000000):htT t<=90000:=by
 cases t with
 |none=>exact Nat.zero_le _
 |some t=>
  obtain⟨h,n⟩:=t;obtain⟨hn,_⟩:=ht;obtain⟨l1,l2,l3⟩:=Hz h;have:=Aeh h l2 l3 hn;simp only[Db,htT]at hN ⊢;rcases Nat.lt_or_ge h 27 with h1|h1
  . omega
  . have h2:2 ^ 27<=2 ^ h:=Nat.pow_le_pow_right (by omega) h1;have h3:(2:Nat) ^ 27=134217728:=rfl;omega
def C0 (es:List Bj):Option (Nat×Nd):=es.foldl (fun t e=>Ke t e.1 e.2) none
theorem Wh (es:List Bj) (e:Bj):C0 (es++ [e])=Ke (C0 es) e.1 e.2:=by unfold C0;rw[List.foldl_append];rfl
def Aib (es:List Bj):List Bj:=es.foldl (fun l e=>Cm e.1 e.2 l) []
theorem Aa7: ∀(es:List Bj) (t0:Option (Nat×Nd)),Sc t0->Sc (es.foldl (fun t e=>Ke t e.1 e.2) t0)/\Db (es.foldl (fun t e=>Ke t e.1 e.2) t0)=es.foldl (fun l e=>Cm e.1 e.2 l) (Db t0)/\(Db (es.foldl (fun t e=>Ke t e.1 e.2) t0)).length<=(Db t0).length+es.length/\Ae (Db (es.foldl (fun t e=>Ke t e.1 e.2) t0))<=Ae (Db t0)+Ae es
 | [],t0,h=>⟨h,rfl,by simp,by simp[Ae]⟩
 |e::r,t0,h=>by
  obtain⟨p1,p2⟩:=Agf e.1 e.2 h;obtain⟨i1,i2,i3,i4⟩:=Aa7 r (Ke t0 e.1 e.2) p2;have h1:=Je (k:=e.1) (v:=e.2) (Db t0);have h2:=L7 e.1 e.2 (Db t0);rw[p1]at i2 i3 i4;have e1:Ae (e::r)=Ae [(e.1,e.2)]+Ae r:=C5 [e] r;simp only[List.foldl_cons,List.length_cons];exact⟨i1,i2,by omega,by omega⟩
theorem Hu (es:List Bj):Sc (C0 es)/\Db (C0 es)=Aib es/\(Db (C0 es)).length<=es.length/\Ae (Db (C0 es))<=Ae es:=by
 obtain⟨i1,i2,i3,i4⟩:=Aa7 es none trivial;have e1:(Db none).length=0:=rfl;have e2:Ae (Db none)=0:=rfl;exact⟨i1,i2,by unfold C0;omega,by unfold C0;omega⟩
structure BI (w:World) (t:Option (Nat×Nd)) (wr:World) (p:Option Addr):Prop where
 below:Below w.heap.size w wr
 res:Aj wr w.heap.size 26 #[.pointer none]
 var:Aj wr (w.heap.size+1) 26 #[.pointer p]
 tree:Il (fun i=>w.heap.size+2<=i) wr t p
theorem Nw (es:List Bj) (a:Option Addr) (n c:Nat) (w:World) (h:Ah w w.heap.size (.row 7 (dO es)) [.slice a n c]) (hb:Ae es<=50000000):Calls Tryz.prog 11 #[.slice a n c] w (Qk (fun _=>False) (C0 es) w):=by
 have hn:=h.row_len;rw[Ax]at hn;subst hn;have hln:=Ba es;obtain⟨PO,hPO⟩: ∃P:Ending->World->Prop,Qk (fun _=>False) (C0 es) w=P:=⟨_,rfl⟩;rw[hPO];have hI0:BI w (C0 (es.take 0)) ((w.alloc (.cells #[.pointer none] 26)).alloc (.cells #[.pointer none] 26)) none:=
  ⟨(Aa w _).alloc (by simp) _,(Aj.new _ _ _).alloc _,by simpa using Aj.new (w.alloc (.cells #[.pointer none] 26)) 26 #[.pointer none],rfl⟩
 obtain⟨H,HPO,HI0⟩:=hid3 h hPO hI0;clear h hPO hI0;go_enter Tryz.func11,Tryz.ntmps11;go_wp2_with (fail);go_loopw [8] (fun i wr=> ∃q:Nat,i=.int .i64 q/\q<=es.length/\ ∃p,Hid (BI w (C0 (es.take q)) wr p)) (fun i _=>es.length - (intOf i).toNat)
 case atStart=>exact⟨0,rfl,Nat.zero_le _,_,HI0⟩
 case round=>
  obtain⟨q,rfl,hq,p,hI⟩:=hrel;clear HI0;by_cases hlt:q<es.length
  . obtain⟨⟨key,v⟩,hx⟩: ∃v,es[q]? =some v:=⟨_,List.getElem?_eq_getElem hlt⟩;have hbw:=hI.out.below;obtain⟨g,off,rfl,hg,u1,u2,u3,u4,u5,u6,hv,r1⟩:=Dt (H.out.later hbw) hx;have htk:C0 (es.take (q+1))=Ke (C0 (es.take q)) key v:=by
     rw[List.take_add_one,hx,Option.toList_some,Wh]
    obtain⟨k',b',n',t',la,ln,lc,oa,on,oc,rfl,rfl,rfl,rfl,rfl,rfl⟩:=R7 hv;obtain⟨wi,hwi⟩: ∃wi,wr.alloc (.cells #[.string key,.int .i64 k',.bool b',.int .i64 n',.string t',.slice la ln lc,.slice oa on oc] 63)=wi:=⟨_,rfl⟩;have hbi:Below wr.heap.size wr wi:=hwi▸Aa _ _;obtain⟨o1,o2,o3,o4⟩:=Hu (es.take q);have hbq:Ae (es.take q)+Ae [(key,v)]<=Ae es:=by
     have e1:=Oc es (q+1);rw[List.take_add_one,hx,Option.toList_some,C5]at e1;exact e1.1
    have HC:=qz (Aal _ (C0 (es.take q)) p key v _ _ _ _ _ _ wi (hI.out.tree.below hbi) o1 (Ahc o1 (by rw[List.length_take]at o3;omega)) (by rw[List.length_take]at o3;omega) (by omega) ((hv.below hbi).more hbi.size));have s0:=r1 0 _ rfl;have s1:=r1 1 _ rfl;have s2:=r1 2 _ rfl;have s3:=r1 3 _ rfl;have s4:=r1 4 _ rfl;have s5:=r1 5 _ rfl;have s6:=r1 6 _ rfl;simp only[Nat.add_zero]at s0;have y1:(q:Int)<(es.length:Int):=by omega
    have y2:(0:Int)<=(q:Int):=by omega
    have hvi:=hI.out.var.below hbi hI.out.var.lt;have d0:=hvi.cell 0;have fz:=hvi.frozen;have ld:=hvi.lt;have hxi:Aj wi wr.heap.size 63 #[.string key,.int .i64 k',.bool b',.int .i64 n',.string t',.slice la ln lc,.slice oa on oc]:=hwi▸Aj.new _ _ _;have x0:=hxi.cell 0;have x1:=hxi.cell 1;have x2:=hxi.cell 2;have x3:=hxi.cell 3;have x4:=hxi.cell 4;have x5:=hxi.cell 5;have x6:=hxi.cell 6;have lx:=hxi.lt;clear hvi hxi;obtain⟨Htk,Hbi⟩:=hid2 htk hbi;clear htk hbi;clear hx hv r1 o1 o2 o3 o4 hbq hbw;go_wp2_with (fail);clear s0 s1 s2 s3 s4 s5 s6 x0 x1 x2 x3 x4 x5 x6 lx d0 fz ld;(with_reducible refine(HC.out).mono ?_);rintro e w2 ⟨hb2,p',rfl,hT⟩;have hbw2:=Hbi.out.trans (hb2.mono Hbi.out.size);have hv2:=hI.out.var.below hbw2 hI.out.var.lt;have d0:=hv2.cell 0;have fz:=hv2.frozen;have ld:=hv2.lt;have lv:=hI.out.var.lt;have hzi:=Hbi.out.size;have hTf:Il (fun i=>w.heap.size+2<=i) (w2.setCell ⟨w.heap.size+1,0,none⟩ (.pointer p')) (C0 (es.take (q+1))) p':=by
     rw[Htk.out];exact(hT.mono fun i _ hi=>hi.elim id fun h=>by omega).later (by simp[World.setCell]) fun i i1 _=>Below.heap_setCell _ _ _ _ (by simp;omega)
    have HN:Hid (BI w (C0 (es.take (q+1))) (w2.setCell ⟨w.heap.size+1,0,none⟩ (.pointer p')) p'):=
     ⟨(hI.out.below.trans (hbw2.mono hI.out.below.size)).setCell (p:=⟨w.heap.size+1,0,none⟩) (by simp) _,(hI.out.res.below hbw2 hI.out.res.lt).far (p:=⟨w.heap.size+1,0,none⟩) (by simp) _,hv2.set_ 0 _,hTf⟩
    clear hTf hv2 hT hb2 hbw2 HC Htk Hbi hI hwi;go_wp2;go_roundw
    case rel=>exact⟨q+1,by go_num,by omega,_,HN⟩
    case measure=>simp only[intOf];omega
  . obtain rfl:q=es.length:=by omega
    have y1: ¬((es.length:Int)<(es.length:Int)):=by omega
    have d0:=hI.out.var.cell 0;have r0:=hI.out.res.cell 0;have fz:=hI.out.res.frozen;have ld:=hI.out.res.lt;have lv:=hI.out.var.lt;have hxf:=(hI.out.res.set_ 0 (.pointer p)).cell 0;have hTf:=hI.out.tree.later (w':=wr.setCell ⟨w.heap.size,0,none⟩ (.pointer p)) (by simp[World.setCell]) fun i i1 _=>Below.heap_setCell _ _ _ _ (by simp;omega);rw[List.take_length]at hTf;have hP:PO (.returned (.agg #[.pointer p])) (wr.setCell ⟨w.heap.size,0,none⟩ (.pointer p)):=by
     rw[<-HPO.out];exact⟨hI.out.below.setCell (p:=⟨w.heap.size,0,none⟩) (by simp) _,p,rfl,hTf.mono fun i _ hi=> .inr (by omega)⟩
    obtain⟨Hxf,HP⟩:=hid2 hxf hP;clear hxf hP;clear hTf hI;go_wp2_with (fail);exact bodyPost_ret (J4 rfl rfl Hxf.out) rfl HP.out
end Go.Proofs.YtkmcjfkokoidcaaGreatDoor
namespace Go.Proofs.YtkmcjfkokoidcaaGreatDoor
mutual
def wtN:Nd->Nat
 | .leaf es=>1+es.length
 | .inner ks=>1+wtL ks
def wtL:List Nd->Nat
 | []=>0
 |k::r=>wtN k+wtL r
end
def gd (n:Nd):Prop:= ∃lo h,0<lo/\(0<h->2<=lo)/\Ga lo h n
theorem gd.ne {n:Nd} (h:gd n):Cw n≠ []:=by
 obtain⟨lo,h,h1,_,h3⟩:=h;exact Mg h1 h3
theorem gd.leaf {es:List Bj} (h:gd (.leaf es)):0<es.length:=by
 have h1:=h.ne;simp only[Cw]at h1;exact List.length_pos_iff.2 h1
theorem gd.inner {ks:List Nd} (h:gd (.inner ks)):2<=ks.length/\ks.length<=8/\ ∀k ∈ ks,gd k:=by
 obtain⟨lo,h,h1,h2,h3⟩:=h
 cases h with
 |zero=>simp[Ga]at h3
 |succ h=>
  simp only[Ga]at h3;have:=h2 (by omega);exact⟨by omega,h3.2.1,fun k hk=>⟨4,h,by omega,fun _=>by omega,h3.2.2 k hk⟩⟩
structure CurOk (es:List Bj) (ns:List Nd):Prop where
 gds: ∀n ∈ ns,gd n
 asc:B8 (es++Cg ns)
 bulk:Ae (es++Cg ns)<=100000000
 len:(es++Cg ns).length<=1000000
theorem CurOk.skip {n:Nd} {ns:List Nd} (h:CurOk [] (n::ns)):CurOk [] ns:=by
 obtain⟨h1,h2,h3,h4⟩:=h;simp only[List.nil_append,Cg]at h2 h3 h4 ⊢;rw[C5]at h3;rw[List.length_append]at h4;exact⟨fun x hx=>h1 x (by simp[hx]),(List.pairwise_append.1 h2).2.1,by simp only[List.nil_append];omega,by simp only[List.nil_append];omega⟩
end Go.Proofs.YtkmcjfkokoidcaaGreatDoor
namespace Go.Proofs.YtkmcjfkokoidcaaGreatDoor
open Go Go.RowKit
theorem Aad (p:Option Addr) (w:World):Calls Tryz.prog 140 #[.agg #[.pointer p]] w fun e w'=>e=.returned (.pointer p)/\Below w.heap.size w w':=by
 go_enter Tryz.func140,Tryz.ntmps140;go_wp2;go_ret;exact⟨rfl,Aa _ _⟩
theorem Acd (w:World) (B:Nat) (key:ByteArray) (n:Int):Ah w B (dP (key,iv n)) [.string key,.int .i64 3,.bool false,.int .i64 n,.string ⟨#[]⟩,.slice none 0 0,.slice none 0 0]:=by
 have h1:Ac w B (iv n) [.int .i64 3,.bool false,.int .i64 n,.string ⟨#[]⟩,.slice none 0 0,.slice none 0 0]:=by
  simp only[iv,Ac];exact⟨none,0,none,0,rfl,by simp,by simp⟩
 exact⟨[.string key],_,rfl,⟨rfl,rfl⟩,_, [],by simp,D3 _ _ h1,rfl⟩
theorem Acc {w:World} {g:Nat} {t:TypeId} {cs:Array Value} {l:List D} {s n c:Nat} (h:Aj w g t cs) (hs: ∀d ∈ l,d.cells=s) (hA:Ag w w.heap.size l cs.toList) (hn:n=l.length):Ah w w.heap.size (.row s l) [.slice (some ⟨g,0,none⟩) n c]:=by
 subst hn;exact⟨_,c,rfl,hs,cs.toList,hA,.inr ⟨g,0,rfl,h.lt,fun j u hu=>by rw[Nat.zero_add];exact(h.cell j).trans (by rw[<-Array.getElem?_toList];exact hu)⟩⟩
theorem Zn {S:Nat->Prop} {w:World} {o:List (ByteArray×Val)} {a:Option Addr} {n c:Nat} (h:Ai S w (.row 7 (dO o)) [.slice a n c]):Ai S w (dV (ov o)) [.int .i64 6,.bool false,.int .i64 0,.string ⟨#[]⟩,.slice none 0 0,.slice a n c]:=fun w'' h1 h2=>by
 simp only[ov,dV,Ah];exact Ag.six.2 ⟨[.slice none 0 0], [.slice a n c],rfl,rfl,rfl,rfl,rfl,⟨none,0,rfl,by simp[dL], [],rfl,by simp[dL]⟩,h w'' h1 h2⟩
theorem Oi {S:Nat->Prop} {w:World} {key:ByteArray} {v:Val} {cs:List Value} (h:Ai S w (dV v) cs):Ai S w (dP (key,v)) (.string key::cs):=fun w'' h1 h2=>⟨[.string key],cs,rfl,⟨rfl,rfl⟩,cs, [],by simp,h w'' h1 h2,rfl⟩
theorem Uv {k a:ByteArray} {x:Val} {r:List Bj} (h: ¬C8 a k=true):Cl k ((a,x)::r)=(a.toList==k.toList)/\Da k ((a,x)::r)=0:=by
 have e:Da k ((a,x)::r)=0:=by simp only[Da,if_neg h]
 refine⟨?_,e⟩;unfold Cl;rw[e];rfl
theorem Acm (k:ByteArray) (l:List Bj) (M:Nat) (a:Option Addr) (n c:Nat) (w:World) (hM:w.cell? ⟨M,0,none⟩=some (.slice a n c)) (h:Ah w w.heap.size (.row 7 (dO l)) [.slice a n c]) (hl:l.length<=100000000):
 Calls Tryz.prog 73 #[.pointer (some ⟨M,0,none⟩),.string k] w fun e w'=>e=.returned (.tuple #[.int .i64 (Da k l),.bool (Cl k l)])/\Below w.heap.size w w':=by
 obtain⟨PO,hPO⟩: ∃P:Ending->World->Prop,(fun e w'=>e=.returned (.tuple #[.int .i64 (Da k l),.bool (Cl k l)])/\Below w.heap.size w w')=P:=⟨_,rfl⟩;rw[hPO];have hn:=h.row_len;rw[Ax]at hn;subst hn;have lM:M<w.heap.size:=World.block_lt_of_cell? w _ hM;have H0:Hid (Da k l=0+Da k (l.drop 0)/\Cl k l=Cl k (l.drop 0)):=⟨by simp,by simp⟩;obtain⟨H,HPO⟩:=hid2 h hPO;clear h hPO;go_enter Tryz.func73,Tryz.ntmps73;go_wp2_with (fail);go_loopw [6] (fun i wr=> ∃q:Nat,i=.int .i64 q/\q<=l.length/\wr=w/\Hid (Da k l=q+Da k (l.drop q)/\Cl k l=Cl k (l.drop q))) (fun i _=>l.length - (intOf i).toNat)
 case atStart=>exact⟨0,rfl,Nat.zero_le _,rfl,H0⟩
 case round=>
  obtain⟨q,rfl,hq,hwr,hI⟩:=hrel;obtain rfl:=hwr.symm;clear H0;by_cases hlt:q<l.length
  . obtain⟨⟨key,v⟩,hx⟩: ∃v,l[q]? =some v:=⟨_,List.getElem?_eq_getElem hlt⟩;obtain⟨g,off,rfl,hg,u1,u2,u3,u4,u5,u6,_,r1⟩:=Dt H.out hx;have s0:=r1 0 _ rfl;simp only[Nat.add_zero]at s0;have hdr:l.drop q=(key,v)::l.drop (q+1):=by
     rw[List.drop_eq_getElem_cons hlt];have h:=List.getElem?_eq_getElem hlt;rw[hx]at h;rw[<-Option.some.inj h]
    have q1:(q:Int)<(l.length:Int):=by omega
    have q0:(0:Int)<=q:=by omega
    by_cases hk:C8 key k=true
    . have hk':Op.bytesLess key.toList k.toList=true:=hk;obtain⟨e1,e2⟩:=Nf (x:=v) (r:=l.drop (q+1)) hk;have HN:Hid (Da k l=(q+1:Nat)+Da k (l.drop (q+1))/\Cl k l=Cl k (l.drop (q+1))):=by
       obtain⟨i1,i2⟩:=hI.out;rw[hdr,e2]at i1;rw[hdr,e1]at i2;exact⟨by omega,i2⟩
      clear hI hdr e1 e2 r1;go_wp2;go_roundw
      case rel=>exact⟨q+1,by go_num,by omega,trivial,HN⟩
      case measure=>simp only[intOf];omega
    . have hk':Op.bytesLess key.toList k.toList=false:=Bool.eq_false_iff.2 hk;obtain⟨e1,e2⟩:=Uv (x:=v) (r:=l.drop (q+1)) hk;have HP:Hid (PO (.returned (.tuple #[.int .i64 q,.bool (key.toList==k.toList)])) w.drew):=by
       show PO _ _;rw[<-HPO.out];obtain⟨i1,i2⟩:=hI.out;rw[hdr,e2]at i1;rw[hdr,e1]at i2;rw[i1,i2];exact⟨rfl,Below.drew (Below.refl _ _)⟩
      clear hI hdr e1 e2 r1;go_upto_region 5 with(fail);refine wp_region_held_drew (S:=fun Y:World=>Y.cell? ⟨M,0,none⟩=some (.slice (some ⟨g,off,none⟩) l.length c)/\Y.cell? ⟨g,off+q*7,none⟩=some (.string key)) (by kernel_rfl) ⟨hM,s0⟩ (fun hHeld=> ?_);refine tkH 0 hHeld ?_;refine tkH 1 hHeld ?_;refine tkH 2 hHeld ?_;refine tkH 3 hHeld ?_;refine tkH 4 hHeld ?_;refine tkH 5 hHeld ?_;refine tkH 6 hHeld ?_;refine tkH 7 hHeld ?_;refine tkH 8 hHeld ?_;refine tkH 9 hHeld ?_;refine tkH 10 hHeld ?_;refine tkH 11 hHeld ?_;refine tkH 12 hHeld ?_;refine wpAnyH_done (by kernel_rfl) ?_ _;clear hHeld;go_wp2;exact HP.out
  . obtain rfl:q=l.length:=by omega
    have HP:Hid (PO (.returned (.tuple #[.int .i64 l.length,.bool false])) w):=by
     show PO _ _;rw[<-HPO.out];obtain⟨i1,i2⟩:=hI.out;rw[List.drop_length]at i1 i2;rw[i1,i2];exact⟨by simp[Da,Cl],Below.refl _ _⟩
    have q1: ¬(l.length:Int)<(l.length:Int):=by omega
    clear hI;go_wp2;exact HP.out
abbrev Aim:TypeId:=289
theorem Rw {fn:Func} {tmps:Array Value} {W:World} (h:fn.results= #[]):(results fn tmps).run Tryz.prog W=.ok (.tuple #[]) W:=by simp[results,h]
theorem A0.keepN {S0 T0:Nat->Prop} {b b':Nat} {t:TypeId} {s:Nat} {wr w':World} {l:List D} {V:Value} (h:A0 S0 b t s wr l V) (hb:b'<=b) (hST: ∀i,S0 i->T0 i) (hs:wr.heap.size<=w'.heap.size) (hk: ∀i,(S0 i\/V.ownBlock=some i)->i<wr.heap.size->w'.heap[i]? =wr.heap[i]?):A0 T0 b' t s w' l V:=by
 obtain⟨ns,h1,h2,h3⟩:=h;refine⟨ns,⟨h1.1, ?_⟩,h2,fun w'' k1 k2=>Ag.more (h3 w'' (by omega) (fun p p1 p2=>(k2 p ⟨hST _ p1.1,p1.2⟩ (by omega)).trans (World.cell?_of_block (hk p.block (.inl p1.1) p2)))) hs⟩;rcases h1.2 with⟨rfl,h0⟩|⟨g,cap,cur,rfl,hbg,hg,h5⟩
 . exact .inl ⟨rfl,h0⟩
 . exact .inr ⟨g,cap,cur,rfl,by omega,(hk g (.inr rfl) (Array.getElem?_eq_some_iff.1 hg).1).trans hg,h5⟩
attribute [local go_sem] Oper.semAt_some
theorem Aak (S:Nat->Prop) (t:Option (Nat×Nd)) (p:Option Addr) (w:World) (ht:Il S w t p):Calls Tryz.prog 32 #[.agg #[.pointer p]] w fun e w'=>e=.returned (.int .i64 (Db t).length)/\Below w.heap.size w w':=by
 have hb:=Aa w (.cells #[.pointer p] 26);have hC:Calls Tryz.prog 58 #[.pointer p] (w.alloc (.cells #[.pointer p] 26)) fun e w'=>e=.returned (.int .i64 (Db t).length)/\w.alloc (.cells #[.pointer p] 26)=w':=by
  cases t with
  |none=>
   cases ht
   exact Zz _
  |some t=>
   obtain⟨h,n⟩:=t;obtain⟨b,rfl,hb'⟩:=ht;exact J3 (hb'.below hb).now
 obtain⟨HC,Hb⟩:=hid2 hC hb;clear hC hb;clear ht;go_enter Tryz.func32,Tryz.ntmps32;go_wp2_with (fail);(with_reducible refine(HC.out).mono ?_);rintro e w1 ⟨rfl,rfl⟩;go_wp2;go_ret;exact⟨rfl,Hb.out⟩
end Go.Proofs.YtkmcjfkokoidcaaGreatDoor
