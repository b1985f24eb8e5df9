/- Parts: A cursor of a diff: skip. Condition: its stack is not empty, at most 10^6 high. -/
import Derived.Test.YtdbejcbbhomdbaaGreatDoorKPu19
set_option maxHeartbeats 20000000
set_option maxRecDepth 100000
namespace Go.Proofs.YtdbejcbbhomdbaaGreatDoor
open Go Go.RowKit
theorem O7 (w:World):Calls Tryz.prog 102 #[.pointer none] w fun e w'=>e=.returned (.slice none 0 0)/\w=w':=by
 go_enter Tryz.func102,Tryz.ntmps102;go_wp2;go_ret;exact⟨rfl,rfl⟩
theorem Qj (S:Nat->Prop) (k:ByteArray) (v:Val) (c0 c1 c2 c3 c4 c5:Value) (w:World) (hv:Ai w w.heap.size (dV v) [c0,c1,c2,c3,c4,c5]) (hb:Af [(k,v)]<=100000000):
 Calls Tryz.prog 86 #[.pointer none,.agg #[.string k,c0,c1,c2,c3,c4,c5]] w (SP S (.leaf [(k,v)],none) w):=by
 obtain⟨k',b',n',t',la,ln,lc,oa,on,oc,rfl,rfl,rfl,rfl,rfl,rfl⟩:=Jr hv;obtain⟨PO,hPO⟩: ∃P:Ending->World->Prop,SP S (.leaf [(k,v)],none) w=P:=⟨_,rfl⟩;rw[hPO];obtain⟨wi,hwi⟩: ∃wi,w.alloc (.cells #[.string k,(.int .i64 k'),(.bool b'),(.int .i64 n'),(.string t'),(.slice la ln lc),(.slice oa on oc)] 84)=wi:=⟨_,rfl⟩;have Hbi:Hid (Below w.heap.size w wi):=hwi▸Ac _ _;have hxi:Ao wi w.heap.size 84 #[.string k,(.int .i64 k'),(.bool b'),(.int .i64 n'),(.string t'),(.slice la ln lc),(.slice oa on oc)]:=hwi▸Ao.new _ _ _;have HHt:=qz (R7 wi);have HEn:=qz (O7 wi);have HPl:=qz (Kk [] k none 0 0 wi ⟨none,0,rfl,fun d hd=>(by cases hd), [],rfl,.inl rfl⟩ (by simp[Bb]) (by simp));have Hvi:=qz (Rb (k:=k) hv);have hSp: ∀(W:World) (V':Value),Below w.heap.size w W->An (fun _=>True) w.heap.size 84 7 W (dO [(k,v)]) V'->Calls Tryz.prog 129 #[V',.func (.func 130) #[] #[]] W (SP S (.leaf [(k,v)],none) W):=fun W V' hB hR=>by
  obtain⟨a,c,rfl,hc⟩:=hR.slice_cap;exact Jd S [(k,v)] a _ c W hR.close (by simp[Bb]) (by simp) hc hb
 have d0:=hxi.cell 0;have lx:=hxi.lt;obtain⟨Hxi,HPO,HSp⟩:=hid3 hxi hPO hSp;clear hxi hPO hSp;go_enter Tryz.func86,Tryz.ntmps86;go_upto_region 1 with(fail);go_wp2_with (fail);(with_reducible refine(HHt.out).mono ?_);rintro e w1 ⟨rfl,rfl⟩;go_wp2_with (fail);(with_reducible refine(HEn.out).mono ?_);rintro e w1 ⟨rfl,rfl⟩;go_wp2_with (fail);(with_reducible refine(HPl.out).mono ?_);rintro e w2 ⟨rfl,hb2⟩;have hbw2:=Hbi.out.trans (hb2.mono Hbi.out.size);have hx2:=Hxi.out.below hb2 lx;clear d0 lx hb2;have d0:=hx2.cell 0;have d1:=hx2.cell 1;have d2:=hx2.cell 2;have d3:=hx2.cell 3;have d4:=hx2.cell 4;have d5:=hx2.cell 5;have d6:=hx2.cell 6;have lx:=hx2.lt;have hb23:=hbw2.alloc hbw2.size (.cells #[.string k,(.int .i64 k'),(.bool b'),(.int .i64 n'),(.string t'),(.slice la ln lc),(.slice oa on oc)] 84);have hx3:=Ao.new w2 84 #[.string k,(.int .i64 k'),(.bool b'),(.int .i64 n'),(.string t'),(.slice la ln lc),(.slice oa on oc)];have hxP3:=Ag.of_old Hvi.out (Nat.le_refl _) hb23;have hI:=Rt w.heap.size (w2.alloc (.cells #[.string k,(.int .i64 k'),(.bool b'),(.int .i64 n'),(.string t'),(.slice la ln lc),(.slice oa on oc)] 84)) (.slice none 0 0) 0 [] (World.ownsRow_nil _ _ _ _) (by have:=hb23.size;simp at this ⊢;omega) (by omega) w2.heap.size [.string k,(.int .i64 k'),(.bool b'),(.int .i64 n'),(.string t'),(.slice la ln lc),(.slice oa on oc)] rfl (fun j u hj=>(hx3.cell j).trans (by rw[<-Array.getElem?_toList];exact hj)) (hxP3.now.len.2);rw[show((0:Nat):Int)=0 from rfl]at hI;obtain⟨HI,Hb23,HxP3⟩:=hid3 hI hb23 hxP3;clear hI hb23 hxP3;clear hx3 hx2 hbw2 HPl Hxi Hbi;have hat:Ct k ([]:List A0)=0:=rfl;have hht:B6 k ([]:List A0)=false:=rfl;rw[hat,hht];go_wp2_with (fail);(with_reducible refine(HI.out).mono ?_);rintro e w5 ⟨V',rfl,hR5,hg5,ha5⟩;have HB5:=qz (Hb23.out.grown hg5 Hb23.out.size (fun k hk=>by cases hk));have HR5:Hid (An (fun _=>True) w.heap.size 84 7 w5 (dO [(k,v)]) V'):=by
  refine⟨_,hR5,Dj _,Aq.one ?_⟩;exact Ag.grow (V:=.slice none 0 0) (S0:=fun _=>True) (HxP3.out.mono fun i _ _=>⟨trivial,by simp[Value.ownBlock]⟩) hg5 ha5
 clear hR5 hg5 ha5 d0 d1 d2 d3 d4 d5 d6 lx HI;go_wp2_with (fail);(with_reducible refine(HSp.out _ _ HB5.out HR5.out).mono ?_);rintro e w6 ⟨hb6,b6,q6,rfl,hN,hO⟩;have HP:Hid (PO (.returned (.tuple #[.pointer (some ⟨b6,0,none⟩),.pointer q6])) w6):=by
  show PO _ _;rw[<-HPO.out];exact⟨HB5.out.trans (hb6.mono HB5.out.size),b6,q6,rfl,hN.mono (Dn HB5.out.size),hO.mono (Dn HB5.out.size)⟩
 clear hb6 hN hO;go_wp2;exact HP.out
def Ff (S:Nat->Prop) (w:World):Option (Nat×Nd)->Option Addr->Prop
 |none,p=>p=none
 |some (_,n),p=> ∃b,p=some ⟨b,0,none⟩/\Bl S w n b
def htT:Option (Nat×Nd)->Nat
 |none=>0
 |some (h,_)=>h
theorem Ff.mono {S T:Nat->Prop} {w:World} {t:Option (Nat×Nd)} {p:Option Addr} (h:Ff S w t p) (hST: ∀i,i<w.heap.size->S i->T i):Ff T w t p:=by
 cases t with
 |none=>exact h
 |some t=>
  obtain⟨b,e,h1⟩:=h;exact⟨b,e,h1.mono hST⟩
theorem Ff.later {S:Nat->Prop} {w w':World} {t:Option (Nat×Nd)} {p:Option Addr} (h:Ff S w t p) (hs:w.heap.size<=w'.heap.size) (hk: ∀i,S i->i<w.heap.size->w'.heap[i]? =w.heap[i]?):Ff S w' t p:=by
 cases t with
 |none=>exact h
 |some t=>
  obtain⟨b,e,h1⟩:=h;exact⟨b,e,h1.later hs hk⟩
theorem Ff.below {S:Nat->Prop} {w w':World} {t:Option (Nat×Nd)} {p:Option Addr} (h:Ff S w t p) (hb:Below w.heap.size w w'):Ff S w' t p:=h.later hb.size fun i _ hi=>hb.block i hi
def Jz (S:Nat->Prop) (t:Option (Nat×Nd)) (w:World) (e:Ending) (w':World):Prop:=Below w.heap.size w w'/\ ∃p,e=.returned (.agg #[.pointer p])/\Ff (fun i=>S i\/w.heap.size<=i) w' t p
def Nc (r:Nd×Option Nd):Nd:=match r.2 with
 |none=>r.1
 |some m=>Ey [r.1,m]
def Fq (t:Option (Nat×Nd)) (k:ByteArray) (v:Val):Nd×Option Nd:=match t with
 |none=>(.leaf [(k,v)],none)
 |some (h,n)=>Bu h n k v
theorem Wj (t:Option (Nat×Nd)) (k:ByteArray) (v:Val): ∃h,G0 t k v=some (h,Nc (Fq t k v)):=by
 cases t with
 |none=>exact⟨0,rfl⟩
 |some t=>
  obtain⟨h,n⟩:=t;simp only[G0,Fq,Nc];rcases Bu h n k v with⟨a,_|m⟩
  . exact⟨h,rfl⟩
  . exact⟨h+1,rfl⟩
theorem Gt {fn:Func} {t:Tmp} {tmps:Array Value} {W:World} {R:Nat} {a:Value} (h:fn.results= #[.cell t 45]) (hp:tmps.getD t undef=.pointer (some ⟨R,0,none⟩)) (hx:W.cell? ⟨R,0,none⟩=some a):
 (results fn tmps).run Tryz.prog W=.ok (.agg #[a]) W:=by
 have hp':tmps[t]?.getD undef=.pointer (some ⟨R,0,none⟩):=by simpa using hp
 simp[results,h,hp',go_sem,hx]
theorem Ug (S:Nat->Prop) (t:Option (Nat×Nd)) (p:Option Addr) (k:ByteArray) (v:Val) (c0 c1 c2 c3 c4 c5:Value) (w:World) (hS:Ff S w t p) (hok:T3 t) (hT:htT t<=90000) (hN:(Cb t).length+1<=100000000) (hb:Af (Cb t)+Af [(k,v)]<=100000000) (hv:Ai w w.heap.size (dV v) [c0,c1,c2,c3,c4,c5]):
 Calls Tryz.prog 52 #[.agg #[.pointer p],.string k,.agg #[c0,c1,c2,c3,c4,c5]] w (Jz S (G0 t k v) w):=by
 have ht:=hS.mono (T:=fun i=>S i/\i<w.heap.size) fun i hi h=>⟨h,hi⟩;clear hS;obtain⟨PO,hPO⟩: ∃P:Ending->World->Prop,Jz S (G0 t k v) w=P:=⟨_,rfl⟩;rw[hPO];have hrr:X0 (Fq t k v)=A7 k v (Cb t)/\ ∀m,(Fq t k v).2=some m->Ej 4 (htT t) (Fq t k v).1/\Ej 4 (htT t) m:=by
  cases t with
  |none=>exact⟨rfl,fun m e=>by cases e⟩
  |some t=>
   obtain⟨h,n⟩:=t;obtain⟨hn,ha⟩:=hok;obtain⟨l1,l2,l3⟩:=Fe h;obtain⟨i1,i2,i3⟩:=Km h (k:=k) (v:=v) (by omega:Gu h<=4) (.inl l2) l3 hn ha;exact⟨i1,i3⟩
 have hasc:Bb (Cb t):=by
  cases t with
  |none=>exact List.Pairwise.nil
  |some t=>exact hok.2
 have hWi: ∀W,Below w.heap.size w W->Calls Tryz.prog 86 #[.pointer p,.agg #[.string k,c0,c1,c2,c3,c4,c5]] W (SP (fun i=>S i/\i<w.heap.size) (Fq t k v) W):=fun W hW=>by
  cases t with
  |none=>
   cases ht
   exact Qj _ k v c0 c1 c2 c3 c4 c5 W ((hv.below hW).more hW.size) (by omega)
  |some t=>
   obtain⟨h,n⟩:=t;obtain⟨hn,ha⟩:=hok;obtain⟨b,rfl,hb'⟩:=ht;obtain⟨l1,l2,l3⟩:=Fe h;exact Lr k v c0 c1 c2 c3 c4 c5 h _ n (Gu h) b W (hb'.below hW) hn l2 l3 ha (by have:h<=90000:=hT;omega) hN hb ((hv.below hW).more hW.size)
 obtain⟨hgt,hpt⟩:=Wj t k v;obtain⟨k',b',n',t',la,ln,lc,oa,on,oc,rfl,rfl,rfl,rfl,rfl,rfl⟩:=Jr hv;have hfin: ∀(W:World) (b:Nat),Below w.heap.size w W->Bl (fun i=>S i\/w.heap.size<=i) W (Nc (Fq t k v)) b->PO (.returned (.agg #[.pointer (some ⟨b,0,none⟩)])) W:=fun W b hW hN=>by
  rw[<-hPO,hpt];exact⟨hW,_,rfl,b,rfl,hN⟩
 obtain⟨w3,hw3⟩: ∃w3,((w.alloc (.cells #[.pointer p] 45)).alloc (.cells #[.int .i64 k',.bool b',.int .i64 n',.string t',.slice la ln lc,.slice oa on oc] 33)).alloc (.cells #[.pointer none] 45)=w3:=⟨_,rfl⟩;have hb3:Below w.heap.size w w3:=hw3▸((Ac w (.cells #[.pointer p] 45)).alloc (by simp) _).alloc (by simp;omega) _;have hx3:Ao w3 (w.heap.size+1+1) 45 #[.pointer none]:=by
  have:=Ao.new ((w.alloc (.cells #[.pointer p] 45)).alloc (.cells #[.int .i64 k',.bool b',.int .i64 n',.string t',.slice la ln lc,.slice oa on oc] 33)) 45 #[.pointer none]
  rwa [World.size_alloc,World.size_alloc,hw3]at this
 have hx1:Ao w3 w.heap.size 45 #[.pointer p]:=hw3▸((Ao.new w 45 #[.pointer p]).alloc _).alloc _;have hx2:Ao w3 (w.heap.size+1) 33 #[.int .i64 k',.bool b',.int .i64 n',.string t',.slice la ln lc,.slice oa on oc]:=by
  have:=(Ao.new (w.alloc (.cells #[.pointer p] 45)) 33 #[.int .i64 k',.bool b',.int .i64 n',.string t',.slice la ln lc,.slice oa on oc]).alloc (.cells #[.pointer none] 45)
  rwa [World.size_alloc,hw3]at this
 have e0:=hx1.cell 0;obtain⟨v0,v1,v2,v3,v4,v5⟩:=Co hx2;have m1:=hx1.lt;have m2:=hx2.lt;clear hx1 hx2;have HC:=qz (hWi w3 hb3);obtain⟨Hfin,Hb3,Hx3,Hrr⟩:=hid4 hfin hb3 hx3 hrr;clear hfin hb3 hx3 hrr;clear hWi hPO ht hv hpt;go_enter Tryz.func52,Tryz.ntmps52;go_wp2_with (fail);clear e0 v0 v1 v2 v3 v4 v5 m1 m2;(with_reducible refine(HC.out).mono ?_);rintro e w4 ⟨hb4,b1,q,rfl,hN1,hO1⟩;have hw4:=Hb3.out.trans (hb4.mono Hb3.out.size);have hx4:=Hx3.out.below hb4 Hx3.out.lt;have d0:=hx4.cell 0;have fz:=hx4.frozen;have lx:=hx4.lt;have hz3:=Hb3.out.size;have hz4:=hb4.size;have hl3:=Hx3.out.lt;clear hw3;rcases hr2:(Fq t k v).2 with _|m
 . rw[hr2]at hO1
   cases hO1
   have hrt:Nc (Fq t k v)=(Fq t k v).1:=by unfold Nc;rw[hr2]
   have hxf:=(hx4.set_ 0 (.pointer (some ⟨b1,0,none⟩))).cell 0;have hBf:=hw4.setCell (p:=⟨w.heap.size+1+1,0,none⟩) (by simp;omega) (.pointer (some ⟨b1,0,none⟩));have hNf:Bl (fun i=>(S i/\i<w.heap.size)\/w3.heap.size<=i) (w4.setCell ⟨w.heap.size+1+1,0,none⟩ (.pointer (some ⟨b1,0,none⟩))) (Fq t k v).1 b1:=hN1.later (by simp[World.setCell]) fun i i1 _=>Below.heap_setCell _ _ _ _ (by rcases i1 with⟨_,i1⟩|i1<;>(simp;omega));have HP:=qz (Hfin.out _ b1 hBf (hrt▸hNf.mono fun i _ hi=>hi.imp (fun h=>h.1) (fun h=>by omega)));have Hxf:=qz hxf;clear hxf;clear hBf hNf hw4 hb4 hN1 hx4 hr2 hrt;go_wp2_with (fail);exact bodyPost_ret (Gt rfl rfl Hxf.out) rfl HP.out
 . rw[hr2]at hO1;obtain⟨b2,rfl,hN2⟩:=hO1;obtain⟨o1,o2⟩:=Hrr.out.2 m hr2;have hrt:Nc (Fq t k v)=Ey [(Fq t k v).1,m]:=by unfold Nc;rw[hr2]
   have hfl:As [(Fq t k v).1,m]=A7 k v (Cb t):=by
    rw[<-Hrr.out.1];unfold X0;rw[hr2];simp[As]
   have hb5:=Ac w4 (.cells #[.pointer (some ⟨b1,0,none⟩),.pointer (some ⟨b2,0,none⟩)] 43);have Hw5:=qz (hw4.alloc hw4.size (.cells #[.pointer (some ⟨b1,0,none⟩),.pointer (some ⟨b2,0,none⟩)] 43));have Hx5:=qz (hx4.alloc (.cells #[.pointer (some ⟨b1,0,none⟩),.pointer (some ⟨b2,0,none⟩)] 43));have hv5:=Ao.new w4 43 #[.pointer (some ⟨b1,0,none⟩),.pointer (some ⟨b2,0,none⟩)];have hK:=(Am.one (hN1.below hb5)).app (Am.one (hN2.below hb5));have hRow:Ai (w4.alloc (.cells #[.pointer (some ⟨b1,0,none⟩),.pointer (some ⟨b2,0,none⟩)] 43)) (w4.alloc (.cells #[.pointer (some ⟨b1,0,none⟩),.pointer (some ⟨b2,0,none⟩)] 43)).heap.size (.row 1 (Av [b1,b2])) [.slice (some ⟨w4.heap.size,0,none⟩) 2 2]:=
    ⟨_,2,rfl,Mh _, [.pointer (some ⟨b1,0,none⟩),.pointer (some ⟨b2,0,none⟩)],⟨[_], [_],rfl,⟨rfl,rfl⟩, [_], [],rfl,⟨rfl,rfl⟩,rfl⟩,.inr ⟨w4.heap.size,0,rfl,hv5.lt,fun j u hj=>by
      rw[Nat.zero_add];exact(hv5.cell j).trans (by rw[<-Array.getElem?_toList];exact hj)⟩⟩
   have hI:=E9 (fun i=>(S i/\i<w.heap.size)\/w3.heap.size<=i) (htT t) [(Fq t k v).1,m] [b1,b2] _ 2 2 _ hRow hK (by rw[hfl];exact Ge hasc) (fun y hy=>by
    simp only[List.mem_cons,List.not_mem_nil,or_false]at hy;rcases hy with rfl|rfl
    . exact o1
    . exact o2) (by simp) (by simp) (by omega) (by
    rw[hfl];have:=Fk (k:=k) (v:=v) (Cb t);omega)
   rw[<-hrt]at hI;have hz5:w4.heap.size<(w4.alloc (.cells #[.pointer (some ⟨b1,0,none⟩),.pointer (some ⟨b2,0,none⟩)] 43)).heap.size:=hv5.lt;have HI:=qz hI;clear hI;clear hK hRow hv5 hb5 hN1 hN2 hr2 hrt hfl o1 o2 hx4 hw4 hb4 d0 fz lx;go_wp2_with (fail);(with_reducible refine(HI.out).mono ?_);rintro e w6 ⟨hb6,b6,rfl,hN6⟩;have hw6:=Hw5.out.trans (hb6.mono Hw5.out.size);have hx6:=Hx5.out.below hb6 Hx5.out.lt;have d0:=hx6.cell 0;have fz:=hx6.frozen;have lx:=hx6.lt;have hxf:=(hx6.set_ 0 (.pointer (some ⟨b6,0,none⟩))).cell 0;have hBf:=hw6.setCell (p:=⟨w.heap.size+1+1,0,none⟩) (by simp;omega) (.pointer (some ⟨b6,0,none⟩));have hNf:=hN6.later (w':=w6.setCell ⟨w.heap.size+1+1,0,none⟩ (.pointer (some ⟨b6,0,none⟩))) (by simp[World.setCell]) fun i i1 _=>Below.heap_setCell _ _ _ _ (by rcases i1 with(⟨_,i1⟩|i1)|i1<;>(simp;omega));have HP:=qz (Hfin.out _ b6 hBf (hNf.mono fun i _ hi=>hi.elim (fun h=>h.imp (fun h=>h.1) (fun h=>by omega)) (fun h=> .inr (by omega))));have Hxf:=qz hxf;clear hxf;clear hBf hNf hw6 hb6 hN6 hx6 HI Hw5 Hx5;go_wp2_with (fail);exact bodyPost_ret (Gt rfl rfl Hxf.out) rfl HP.out
theorem Ux {m:Nat}: ∀{ks:List Nd},(∀k ∈ ks,m<=(By k).length)->ks.length*m<=(As ks).length
 | [],_=>by simp[As]
 |k::r,h=>by
  have h1:=h k (by simp);have h2:=Ux (ks:=r) fun x hx=>h x (by simp[hx]);simp only[As,List.length_append,List.length_cons,Nat.add_mul,Nat.one_mul];omega
theorem X8: ∀(h:Nat) {n:Nd} {lo:Nat},0<lo->(0<h->2<=lo)->Ej lo h n->2 ^ h<=(By n).length
 |0,.leaf es,lo,h0,_,hn=>by
  simp only[Ej]at hn;simp only[By];omega
 |0,.inner ks,_,_,_,hn=>absurd hn (by simp[Ej])
 |h+1,.leaf es,_,_,_,hn=>absurd hn (by simp[Ej])
 |h+1,.inner ks,lo,_,h2,hn=>by
  simp only[Ej]at hn;have h3:=h2 (by omega);have h4:=Ux (m:=2 ^ h) fun k hk=>X8 h (by omega) (fun _=>by omega) (hn.2.2 k hk);have h5:2*2 ^ h<=ks.length*2 ^ h:=Nat.mul_le_mul_right _ (by omega);simp only[By];rw[Nat.pow_succ];omega
theorem Aa8 {t:Option (Nat×Nd)} (ht:T3 t) (hN:(Cb t).length<=100000000):htT t<=90000:=by
 cases t with
 |none=>exact Nat.zero_le _
 |some t=>
  obtain⟨h,n⟩:=t;obtain⟨hn,_⟩:=ht;obtain⟨l1,l2,l3⟩:=Fe h;have:=X8 h l2 l3 hn;simp only[Cb,htT]at hN ⊢;rcases Nat.lt_or_ge h 27 with h1|h1
  . omega
  . have h2:2 ^ 27<=2 ^ h:=Nat.pow_le_pow_right (by omega) h1;have h3:(2:Nat) ^ 27=134217728:=rfl;omega
def B9 (es:List A0):Option (Nat×Nd):=es.foldl (fun t e=>G0 t e.1 e.2) none
theorem Qz (es:List A0) (e:A0):B9 (es++ [e])=G0 (B9 es) e.1 e.2:=by unfold B9;rw[List.foldl_append];rfl
def Gf (es:List A0):List A0:=es.foldl (fun l e=>A7 e.1 e.2 l) []
theorem Uy: ∀(es:List A0) (t0:Option (Nat×Nd)),T3 t0->T3 (es.foldl (fun t e=>G0 t e.1 e.2) t0)/\Cb (es.foldl (fun t e=>G0 t e.1 e.2) t0)=es.foldl (fun l e=>A7 e.1 e.2 l) (Cb t0)/\(Cb (es.foldl (fun t e=>G0 t e.1 e.2) t0)).length<=(Cb t0).length+es.length/\Af (Cb (es.foldl (fun t e=>G0 t e.1 e.2) t0))<=Af (Cb t0)+Af es
 | [],t0,h=>⟨h,rfl,by simp,by simp[Af]⟩
 |e::r,t0,h=>by
  obtain⟨p1,p2⟩:=Aae e.1 e.2 h;obtain⟨i1,i2,i3,i4⟩:=Uy r (G0 t0 e.1 e.2) p2;have h1:=Fk (k:=e.1) (v:=e.2) (Cb t0);have h2:=Ji e.1 e.2 (Cb t0);rw[p1]at i2 i3 i4;have e1:Af (e::r)=Af [(e.1,e.2)]+Af r:=Ch [e] r;simp only[List.foldl_cons,List.length_cons];exact⟨i1,i2,by omega,by omega⟩
theorem Dw (es:List A0):T3 (B9 es)/\Cb (B9 es)=Gf es/\(Cb (B9 es)).length<=es.length/\Af (Cb (B9 es))<=Af es:=by
 obtain⟨i1,i2,i3,i4⟩:=Uy es none trivial;have e1:(Cb none).length=0:=rfl;have e2:Af (Cb none)=0:=rfl;exact⟨i1,i2,by unfold B9;omega,by unfold B9;omega⟩
structure BI (w:World) (t:Option (Nat×Nd)) (wr:World) (p:Option Addr):Prop where
 below:Below w.heap.size w wr
 res:Ao wr w.heap.size 45 #[.pointer none]
 var:Ao wr (w.heap.size+1) 45 #[.pointer p]
 tree:Ff (fun i=>w.heap.size+2<=i) wr t p
theorem E8 (es:List A0) (a:Option Addr) (n c:Nat) (w:World) (h:Ai w w.heap.size (.row 7 (dO es)) [.slice a n c]) (hb:Af es<=50000000):Calls Tryz.prog 20 #[.slice a n c] w (Jz (fun _=>False) (B9 es) w):=by
 have hn:=h.row_len;rw[Az]at hn;subst hn;have hln:=Aw es;obtain⟨PO,hPO⟩: ∃P:Ending->World->Prop,Jz (fun _=>False) (B9 es) w=P:=⟨_,rfl⟩;rw[hPO];have hI0:BI w (B9 (es.take 0)) ((w.alloc (.cells #[.pointer none] 45)).alloc (.cells #[.pointer none] 45)) none:=
  ⟨(Ac w _).alloc (by simp) _,(Ao.new _ _ _).alloc _,by simpa using Ao.new (w.alloc (.cells #[.pointer none] 45)) 45 #[.pointer none],rfl⟩
 obtain⟨H,HPO,HI0⟩:=hid3 h hPO hI0;clear h hPO hI0;go_enter Tryz.func20,Tryz.ntmps20;go_wp2_with (fail);go_loopw [8] (fun i wr=> ∃q:Nat,i=.int .i64 q/\q<=es.length/\ ∃p,Hid (BI w (B9 (es.take q)) wr p)) (fun i _=>es.length - (intOf i).toNat)
 case atStart=>exact⟨0,rfl,Nat.zero_le _,_,HI0⟩
 case round=>
  obtain⟨q,rfl,hq,p,hI⟩:=hrel;clear HI0;by_cases hlt:q<es.length
  . obtain⟨⟨key,v⟩,hx⟩: ∃v,es[q]? =some v:=⟨_,List.getElem?_eq_getElem hlt⟩;have hbw:=hI.out.below;obtain⟨g,off,rfl,hg,u1,u2,u3,u4,u5,u6,hv,r1⟩:=Bz (H.out.later hbw) hx;have htk:B9 (es.take (q+1))=G0 (B9 (es.take q)) key v:=by
     rw[List.take_add_one,hx,Option.toList_some,Qz]
    obtain⟨k',b',n',t',la,ln,lc,oa,on,oc,rfl,rfl,rfl,rfl,rfl,rfl⟩:=Jr hv;obtain⟨wi,hwi⟩: ∃wi,wr.alloc (.cells #[.string key,.int .i64 k',.bool b',.int .i64 n',.string t',.slice la ln lc,.slice oa on oc] 84)=wi:=⟨_,rfl⟩;have hbi:Below wr.heap.size wr wi:=hwi▸Ac _ _;obtain⟨o1,o2,o3,o4⟩:=Dw (es.take q);have hbq:Af (es.take q)+Af [(key,v)]<=Af es:=by
     have e1:=Kr es (q+1);rw[List.take_add_one,hx,Option.toList_some,Ch]at e1;exact e1.1
    have HC:=qz (Ug _ (B9 (es.take q)) p key v _ _ _ _ _ _ wi (hI.out.tree.below hbi) o1 (Aa8 o1 (by rw[List.length_take]at o3;omega)) (by rw[List.length_take]at o3;omega) (by omega) ((hv.below hbi).more hbi.size));have s0:=r1 0 _ rfl;have s1:=r1 1 _ rfl;have s2:=r1 2 _ rfl;have s3:=r1 3 _ rfl;have s4:=r1 4 _ rfl;have s5:=r1 5 _ rfl;have s6:=r1 6 _ rfl;simp only[Nat.add_zero]at s0;have y1:(q:Int)<(es.length:Int):=by omega
    have y2:(0:Int)<=(q:Int):=by omega
    have hvi:=hI.out.var.below hbi hI.out.var.lt;have d0:=hvi.cell 0;have fz:=hvi.frozen;have ld:=hvi.lt;have hxi:Ao wi wr.heap.size 84 #[.string key,.int .i64 k',.bool b',.int .i64 n',.string t',.slice la ln lc,.slice oa on oc]:=hwi▸Ao.new _ _ _;have x0:=hxi.cell 0;have x1:=hxi.cell 1;have x2:=hxi.cell 2;have x3:=hxi.cell 3;have x4:=hxi.cell 4;have x5:=hxi.cell 5;have x6:=hxi.cell 6;have lx:=hxi.lt;clear hvi hxi;obtain⟨Htk,Hbi⟩:=hid2 htk hbi;clear htk hbi;clear hx hv r1 o1 o2 o3 o4 hbq hbw;go_wp2_with (fail);clear s0 s1 s2 s3 s4 s5 s6 x0 x1 x2 x3 x4 x5 x6 lx d0 fz ld;(with_reducible refine(HC.out).mono ?_);rintro e w2 ⟨hb2,p',rfl,hT⟩;have hbw2:=Hbi.out.trans (hb2.mono Hbi.out.size);have hv2:=hI.out.var.below hbw2 hI.out.var.lt;have d0:=hv2.cell 0;have fz:=hv2.frozen;have ld:=hv2.lt;have lv:=hI.out.var.lt;have hzi:=Hbi.out.size;have hTf:Ff (fun i=>w.heap.size+2<=i) (w2.setCell ⟨w.heap.size+1,0,none⟩ (.pointer p')) (B9 (es.take (q+1))) p':=by
     rw[Htk.out];exact(hT.mono fun i _ hi=>hi.elim id fun h=>by omega).later (by simp[World.setCell]) fun i i1 _=>Below.heap_setCell _ _ _ _ (by simp;omega)
    have HN:Hid (BI w (B9 (es.take (q+1))) (w2.setCell ⟨w.heap.size+1,0,none⟩ (.pointer p')) p'):=
     ⟨(hI.out.below.trans (hbw2.mono hI.out.below.size)).setCell (p:=⟨w.heap.size+1,0,none⟩) (by simp) _,(hI.out.res.below hbw2 hI.out.res.lt).far (p:=⟨w.heap.size+1,0,none⟩) (by simp) _,hv2.set_ 0 _,hTf⟩
    clear hTf hv2 hT hb2 hbw2 HC Htk Hbi hI hwi;go_wp2;go_roundw
    case rel=>exact⟨q+1,by go_num,by omega,_,HN⟩
    case measure=>simp only[intOf];omega
  . obtain rfl:q=es.length:=by omega
    have y1: ¬((es.length:Int)<(es.length:Int)):=by omega
    have d0:=hI.out.var.cell 0;have r0:=hI.out.res.cell 0;have fz:=hI.out.res.frozen;have ld:=hI.out.res.lt;have lv:=hI.out.var.lt;have hxf:=(hI.out.res.set_ 0 (.pointer p)).cell 0;have hTf:=hI.out.tree.later (w':=wr.setCell ⟨w.heap.size,0,none⟩ (.pointer p)) (by simp[World.setCell]) fun i i1 _=>Below.heap_setCell _ _ _ _ (by simp;omega);rw[List.take_length]at hTf;have hP:PO (.returned (.agg #[.pointer p])) (wr.setCell ⟨w.heap.size,0,none⟩ (.pointer p)):=by
     rw[<-HPO.out];exact⟨hI.out.below.setCell (p:=⟨w.heap.size,0,none⟩) (by simp) _,p,rfl,hTf.mono fun i _ hi=> .inr (by omega)⟩
    obtain⟨Hxf,HP⟩:=hid2 hxf hP;clear hxf hP;clear hTf hI;go_wp2_with (fail);exact bodyPost_ret (Gt rfl rfl Hxf.out) rfl HP.out
abbrev L3:TypeId:=102
theorem Li {fn:Func} {t:Tmp} {tmps:Array Value} {W:World} {R:Nat} {a0 a1 a2 a3 a4 a5 a6 a7 a8 a9 b0 b1 b2 b3 b4:Value} (h:fn.results= #[.cell t L3]) (hp:tmps.getD t undef=.pointer (some ⟨R,0,none⟩)) (hx:Ao W R L3 #[a0,a1,a2,a3,a4,a5,a6,a7,a8,a9,b0,b1,b2,b3,b4]):
 (results fn tmps).run Tryz.prog W=.ok (.agg #[a0,a1,a2,a3,a4,a5,a6,a7,a8,a9,b0,b1,b2,b3,b4]) W:=by
 have c0:=hx.cell 0;have c1:=hx.cell 1;have c2:=hx.cell 2;have c3:=hx.cell 3;have c4:=hx.cell 4;have c5:=hx.cell 5;have c6:=hx.cell 6;have c7:=hx.cell 7;have c8:=hx.cell 8;have c9:=hx.cell 9;have d0:=hx.cell 10;have d1:=hx.cell 11;have d2:=hx.cell 12;have d3:=hx.cell 13;have d4:=hx.cell 14;clear hx;have hp':tmps[t]?.getD undef=.pointer (some ⟨R,0,none⟩):=by simpa using hp
 simp[results,h,hp',go_sem,c0,c1,c2,c3,c4,c5,c6,c7,c8,c9,d0,d1,d2,d3,d4]
theorem Ao.new1 (w:World) (o:Obj) (t:TypeId) (cs:Array Value):Ao ((w.alloc o).alloc (.cells cs t)) (w.heap.size+1) t cs:=by
 have:=Ao.new (w.alloc o) t cs
 rwa [World.size_alloc]at this
theorem Ub (p:Option Addr) (w:World):Calls Tryz.prog 142 #[.agg #[.pointer p]] w fun e w'=>e=.returned (.pointer p)/\Below w.heap.size w w':=by
 go_enter Tryz.func142,Tryz.ntmps142;go_wp2;go_ret;exact⟨rfl,Ac _ _⟩
theorem Jm (key:ByteArray) (k':Int) (b':Bool) (n':Int) (t':ByteArray) (la:Option Addr) (ln lc:Nat) (oa:Option Addr) (on oc:Nat) (w:World):
 Calls Tryz.prog 138 #[.agg #[.string key,.int .i64 k',.bool b',.int .i64 n',.string t',.slice la ln lc,.slice oa on oc]] w fun e w'=>e=.returned (.agg #[.string key,.bool true,.int .i64 k',.bool b',.int .i64 n',.string t',.slice la ln lc,.slice oa on oc,.bool false,.int .i64 0,.bool false,.int .i64 0,.string ⟨#[]⟩,.slice none 0 0,.slice none 0 0])/\Below w.heap.size w w':=by
 go_enter Tryz.func138,Tryz.ntmps138;go_wp2;exact bodyPost_ret (Li rfl rfl (Ao.new1 _ _ _ _)) rfl ⟨rfl,(Ac w _).alloc (by simp) _⟩
theorem Jj (key:ByteArray) (k':Int) (b':Bool) (n':Int) (t':ByteArray) (la:Option Addr) (ln lc:Nat) (oa:Option Addr) (on oc:Nat) (w:World):
 Calls Tryz.prog 140 #[.agg #[.string key,.int .i64 k',.bool b',.int .i64 n',.string t',.slice la ln lc,.slice oa on oc]] w fun e w'=>e=.returned (.agg #[.string key,.bool false,.int .i64 0,.bool false,.int .i64 0,.string ⟨#[]⟩,.slice none 0 0,.slice none 0 0,.bool true,.int .i64 k',.bool b',.int .i64 n',.string t',.slice la ln lc,.slice oa on oc])/\Below w.heap.size w w':=by
 go_enter Tryz.func140,Tryz.ntmps140;go_wp2;exact bodyPost_ret (Li rfl rfl (Ao.new1 _ _ _ _)) rfl ⟨rfl,(Ac w _).alloc (by simp) _⟩
abbrev Fy:TypeId:=201
theorem Ds {fn:Func} {tmps:Array Value} {W:World} (h:fn.results= #[]):(results fn tmps).run Tryz.prog W=.ok (.tuple #[]) W:=by simp[results,h]
theorem An.pop {S0:Nat->Prop} {b s:Nat} {t:TypeId} {w:World} {l:List D} {d:D} {g n c:Nat} (h:An S0 b t s w (l++ [d]) (.slice (some ⟨g,0,none⟩) n c)):An S0 b t s w l (.slice (some ⟨g,0,none⟩) l.length c):=by
 obtain⟨ns,h1,h2,h3⟩:=h;have hA:=(h3.split h2 l.length).1;rw[List.take_left']at hA
 . rcases h1.2 with⟨e,_⟩|⟨g',cap,cur,e,hbg,hg,hnc,hcm,hcs,hcx⟩
   . cases e
   . cases e
     rw[List.length_append,List.length_singleton]at hnc hcx;have hle:l.length*s<=(l.length+1)*s:=Nat.mul_le_mul_right _ (by omega);refine⟨ns.take (l.length*s),⟨?_,.inr ⟨g,c,cur,rfl,hbg,hg,by omega,hcm,hcs, ?_⟩⟩,fun x hx=>h2 x (by simp[hx]),hA⟩
     . rw[hA.now.len.1,Da fun x hx=>h2 x (by simp[hx])]
     . rw[<-hcx,List.take_take,Nat.min_eq_left hle]
 . rfl
theorem Js (C g n c:Nat) (X:Value) (o:Int) (w:World) (hx:Ao w C Fy #[X,.slice (some ⟨g,0,none⟩) (n+1) c,.int .i64 o]) (hn:n+1<=c) (h6:n<=1000000):
 Calls Tryz.prog 136 #[.pointer (some ⟨C,0,none⟩)] w fun e w'=>e=.returned (.tuple #[])/\w'=(w.setCell ⟨C,1,none⟩ (.slice (some ⟨g,0,none⟩) n c)).drew:=by
 have c1:=hx.cell 1;have fz:=hx.frozen;have lx:=hx.lt;obtain⟨m,hm⟩: ∃m,n+1=m:=⟨_,rfl⟩;have y1:IntKind.i64.wrap ((m:Int) - 1)=(n:Int):=by
  rw[show(m:Int) - 1=(n:Int)from by omega];exact IntWalk.i64_in _ (by omega)
 have y2:(n:Int)<=(c:Int):=by omega
 have y3:n<=c:=by omega
 have y4:(0:Int)<=(n:Int):=by omega
 rw[hm]at c1;clear hx hm;go_enter Tryz.func136,Tryz.ntmps136;go_upto_region 0 with(fail)
 go_region_law (fail)
 all_goals
  go_wp2;exact bodyPost_end (Ds rfl) rfl ⟨rfl,rfl⟩
theorem Lj {fn:Func} {t:Tmp} {tmps:Array Value} {W:World} {R:Nat} {a0 a1 a2 a3 a4 a5 a6:Value} (h:fn.results= #[.cell t 84]) (hp:tmps.getD t undef=.pointer (some ⟨R,0,none⟩)) (hx:Ao W R 84 #[a0,a1,a2,a3,a4,a5,a6]):
 (results fn tmps).run Tryz.prog W=.ok (.agg #[a0,a1,a2,a3,a4,a5,a6]) W:=by
 have c0:=hx.cell 0;have c1:=hx.cell 1;have c2:=hx.cell 2;have c3:=hx.cell 3;have c4:=hx.cell 4;have c5:=hx.cell 5;have c6:=hx.cell 6;clear hx;have hp':tmps[t]?.getD undef=.pointer (some ⟨R,0,none⟩):=by simpa using hp
 simp[results,h,hp',go_sem,c0,c1,c2,c3,c4,c5,c6]
theorem Zj {w:World} {C:Nat} {x0 x1 x2:Value} (hx:Ao w C Fy #[x0,x1,x2]) (v:Value) (cs:Array Value) (t:TypeId):
 Ao (((w.setCell ⟨C,0,none⟩ v).alloc (.cells cs t)).alloc (.cells cs t)) w.heap.size t cs/\KB (fun i=>i=C) w (((w.setCell ⟨C,0,none⟩ v).alloc (.cells cs t)).alloc (.cells cs t))/\Ao (((w.setCell ⟨C,0,none⟩ v).alloc (.cells cs t)).alloc (.cells cs t)) C Fy #[v,x1,x2]:=by
 have hs:(w.setCell ⟨C,0,none⟩ v).heap.size=w.heap.size:=by simp[World.setCell]
 have h1:=(Ao.new (w.setCell ⟨C,0,none⟩ v) t cs).alloc (.cells cs t);rw[hs]at h1;refine⟨h1,(KB.set (S:=fun i=>i=C) w ⟨C,0,none⟩ rfl v).trans (KB.of_below (S:=fun i=>i=C) ((Ac (w.setCell ⟨C,0,none⟩ v) (.cells cs t)).alloc (by simp) _)) fun _ _ h=>h,((hx.set_ 0 v).alloc _).alloc _⟩
theorem Ue (C g off n c:Nat) (X:Value) (o:Int) (key:ByteArray) (k':Int) (b':Bool) (n':Int) (t':ByteArray) (la:Option Addr) (ln lc:Nat) (oa:Option Addr) (on oc:Nat) (w:World) (hx:Ao w C Fy #[.slice (some ⟨g,off,none⟩) (n+1) c,X,.int .i64 o]) (hn:n+1<=c)
 (r:w.rangeAt g off [.string key,.int .i64 k',.bool b',.int .i64 n',.string t',.slice la ln lc,.slice oa on oc]):
 Calls Tryz.prog 139 #[.pointer (some ⟨C,0,none⟩)] w fun e w'=>e=.returned (.agg #[.string key,.int .i64 k',.bool b',.int .i64 n',.string t',.slice la ln lc,.slice oa on oc])/\KB (fun i=>i=C) w w'/\ ∃a2,(n≠0->a2=some ⟨g,off+7,none⟩)/\Ao w' C Fy #[.slice a2 n (c - 1),X,.int .i64 o]:=by
 have c0:=hx.cell 0;have fz:=hx.frozen;have lx:=hx.lt;have s0:=r 0 _ rfl;have s1:=r 1 _ rfl;have s2:=r 2 _ rfl;have s3:=r 3 _ rfl;have s4:=r 4 _ rfl;have s5:=r 5 _ rfl;have s6:=r 6 _ rfl;simp only[Nat.add_zero]at s0;have lg:g<w.heap.size:=World.block_lt_of_cell? w _ s0;have y1:(0:Int)<((n+1:Nat):Int):=by omega
 have y2:(1:Int)<=((n+1:Nat):Int):=by omega
 have y3:((n+1:Nat):Int)<=(c:Int):=by omega
 have y4:1<=c:=by omega
 have y5:n+1 - 1=n:=by omega
 clear r;have Hx:=qz hx;clear hx;go_enter Tryz.func139,Tryz.ntmps139;go_wp2
 all_goals
  obtain⟨f1,f2,f3⟩:=Zj Hx.out _ #[.string key,.int .i64 k',.bool b',.int .i64 n',.string t',.slice la ln lc,.slice oa on oc] 84;exact bodyPost_ret (Lj rfl rfl f1) rfl ⟨rfl,f2,_,by first|(intro _;rfl)|(intro h;exact absurd (by omega) h),f3⟩
end Go.Proofs.YtdbejcbbhomdbaaGreatDoor
