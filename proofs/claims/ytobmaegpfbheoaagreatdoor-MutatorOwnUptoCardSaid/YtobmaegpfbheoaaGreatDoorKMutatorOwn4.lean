/- Parts: commonplaceref02.Copy, and where its rows lie. Printed by mkrcn.py. Condition: a bulk of at most 10^8. -/
import Derived.Test.YtobmaegpfbheoaaGreatDoorKMutatorOwn2
set_option maxHeartbeats 20000000
set_option maxRecDepth 100000
namespace Go.Proofs.YtobmaegpfbheoaaGreatDoor
open Go Go.RowKit
def RCT (v:Val):Prop:= ∀(cs:List Value) (w:World),Ac w w.heap.size v cs->v.bulk<=100000000->Calls Tryz.prog 33 #[.agg cs.toArray] w (Gu w v)
structure CV (w:World) (bx:Array Value) (k:Int) (b:Bool) (n:Int) (t:ByteArray) (wr:World) (V4 V5:Value):Prop where
 below:Below w.heap.size w wr
 box:Aj wr w.heap.size 42 bx
 res:Aj wr (w.heap.size+1) 42 Ak
 var:Aj wr (w.heap.size+2) 42 #[.int .i64 k,.bool b,.int .i64 n,.string t,V4,V5]
theorem CV.call {w wr w':World} {bx:Array Value} {k:Int} {b:Bool} {n:Int} {t:ByteArray} {V4 V5:Value} (h:CV w bx k b n t wr V4 V5) (hb:Below wr.heap.size wr w'):CV w bx k b n t w' V4 V5:=
 ⟨h.below.trans (hb.mono h.below.size),h.box.below hb h.box.lt,h.res.below hb h.res.lt,h.var.below hb h.var.lt⟩
theorem CV.grown {w wr w':World} {bx:Array Value} {k:Int} {b:Bool} {n:Int} {t:ByteArray} {V4 V5:Value} {r:Option Nat} (h:CV w bx k b n t wr V4 V5) (hg:wr.grownBy w' r) (hr: ∀g,r=some g->w.heap.size+3<=g):CV w bx k b n t w' V4 V5:=
 ⟨h.below.grown hg h.below.size fun k e=>by have:=hr _ e;omega,h.box.grown hg fun e=>by have:=hr _ e.symm;omega,h.res.grown hg fun e=>by have:=hr _ e.symm;omega,h.var.grown hg fun e=>by have:=hr _ e.symm;omega⟩
theorem Wi {w w':World} {d:D} {cs:List Value} (h:Ab (fun i=>w.heap.size+2<=i) w' d cs):An w.heap.size w' d cs:=
 h.mono fun i _ h=>by omega
structure C1 (w:World) (bx:Array Value) (k:Int) (b:Bool) (n:Int) (t:ByteArray) (l:List Val) (q:Nat) (wr:World) (V:Value):Prop where
 v:CV w bx k b n t wr V (.slice none 0 0)
 row:Bo (fun i=>w.heap.size+3<=i) (w.heap.size+3) 42 6 wr (dL (l.take q)) V
theorem C1.size {w:World} {bx:Array Value} {k:Int} {b:Bool} {n:Int} {t:ByteArray} {l:List Val} {q:Nat} {wr:World} {V:Value} (h:C1 w bx k b n t l q wr V):w.heap.size+3<=wr.heap.size:=h.v.var.lt
theorem C1.call {w wr w':World} {bx:Array Value} {k:Int} {b:Bool} {n:Int} {t:ByteArray} {l:List Val} {q:Nat} {V:Value} (h:C1 w bx k b n t l q wr V) (hb:Below wr.heap.size wr w'):C1 w bx k b n t l q w' V:=⟨h.v.call hb,h.row.below hb⟩
theorem C1.grow {w wr w':World} {bx:Array Value} {k:Int} {b:Bool} {n:Int} {t:ByteArray} {l:List Val} {q:Nat} {V V':Value} (h:C1 w bx k b n t l q wr V) (hg:wr.grownBy w' V.ownBlock) (hr:Bo (fun i=>w.heap.size+3<=i) (w.heap.size+3) 42 6 w' (dL (l.take (q+1))) V'):
 CV w bx k b n t w' V (.slice none 0 0)/\Bo (fun i=>w.heap.size+3<=i) (w.heap.size+3) 42 6 w' (dL (l.take (q+1))) V':=⟨h.v.grown hg fun g e=>(h.row.base g e).1,hr⟩
theorem Adf {S0:Nat->Prop} {B b:Nat} {t:TypeId} {s:Nat} {wr:World} {l:List D} {V:Value} {p:Addr} {u:Value} (h:Bo S0 b t s wr l V) (hp:p.block=B) (hB:B<b) (hS: ∀i,S0 i->B<i):Bo S0 b t s (wr.setCell p u) l V:=by
 obtain⟨ns,h1,h2,h3⟩:=h;have hk: ∀i,i≠B->(wr.setCell p u).heap[i]? =wr.heap[i]? :=fun i hi=>Below.heap_setCell _ _ _ _ (fun e=>hi (e.trans hp));refine⟨ns,⟨h1.1, ?_⟩,h2,fun w'' k1 k2=> ?_⟩
 . rcases h1.2 with⟨rfl,h0⟩|⟨g,cap,cur,rfl,hbg,hg,h5⟩
   . exact .inl ⟨rfl,h0⟩
   . exact .inr ⟨g,cap,cur,rfl,hbg,(hk g (by omega)).trans hg,h5⟩
 . have hs:(wr.setCell p u).heap.size=wr.heap.size:=by simp[World.setCell]
   rw[hs];exact h3 w'' (by omega) fun a a1 a2=>(k2 a a1 (by omega)).trans (World.cell?_of_block (hk a.block (by have:=hS _ a1.1;omega)))
theorem Aav {w wr:World} {bx:Array Value} {k:Int} {b:Bool} {n:Int} {t:ByteArray} {l:List Val} {q:Nat} {V V':Value} (h:CV w bx k b n t wr V (.slice none 0 0)/\Bo (fun i=>w.heap.size+3<=i) (w.heap.size+3) 42 6 wr (dL (l.take q)) V'):
 C1 w bx k b n t l q (wr.setCell ⟨w.heap.size+2,4,none⟩ V') V':=
 ⟨⟨h.1.below.setCell (by simp) _,h.1.box.far (by simp) _,h.1.res.far (by simp) _,h.1.var.set_ 4 _⟩,Adf h.2 (B:=w.heap.size+2) rfl (by omega) fun i hi=>by omega⟩
def Rv (b K:Nat) (t:TypeId) (s n:Nat) (w:World) (V:Value):Prop:= ∃a c,V=.slice a n c/\(n=0\/ ∃g cs,a=some ⟨g,0,none⟩/\b<=g/\g<K/\Aj w g t cs/\n*s<=cs.size)
theorem Rv.keep {b K:Nat} {t:TypeId} {s n:Nat} {w w':World} {V:Value} (h:Rv b K t s n w V) (hk: ∀g,b<=g->g<K->g<w.heap.size->w'.heap[g]? =w.heap[g]?):Rv b K t s n w' V:=by
 obtain⟨a,c,rfl,h⟩:=h;refine⟨a,c,rfl,h.imp id ?_⟩;rintro⟨g,cs,rfl,h1,h2,h3,h4⟩;exact⟨g,cs,rfl,h1,h2,(hk g h1 h2 h3.lt).trans h3,h4⟩
theorem Rv.toT {b b' K:Nat} {t:TypeId} {s n:Nat} {w:World} {V:Value} (h:Rv b K t s n w V) (hb:b'<=b):Pu b' t s n w V:=by
 obtain⟨a,c,rfl,h⟩:=h;refine⟨a,c,rfl,h.imp id ?_⟩;rintro⟨g,cs,rfl,h1,h2,h3,h4⟩;exact⟨g,cs,rfl,by omega,h3,h4⟩
theorem Ag8 {S0:Nat->Prop} {b:Nat} {t:TypeId} {s n:Nat} {wr:World} {l:List D} {V:Value} (h:Bo S0 b t s wr l V) (hn:l.length=n):Rv b wr.heap.size t s n wr V:=by
 subst hn;obtain⟨a,c,rfl⟩:=h.slice;have hb:=h.base;obtain⟨ns,h1,_,_⟩:=h;refine⟨a,c,rfl, ?_⟩;rcases h1.2 with⟨_,h0⟩|⟨g,cap,cur,e,hbg,hg,hnc,_,hs,_⟩
 . exact .inl h0
 . cases e
   refine .inr ⟨g,cur,rfl,hbg,(hb g rfl).2,hg, ?_⟩;rw[hs];exact Nat.mul_le_mul_right s hnc
structure C2 (w:World) (bx:Array Value) (k:Int) (b:Bool) (n:Int) (t:ByteArray) (l:List Val) (V4:Value) (K:Nat) (o:List (ByteArray×Val)) (q:Nat) (wr:World) (Vv V:Value):Prop where
 v:CV w bx k b n t wr V4 Vv
 size:K<=wr.heap.size
 ls:Ab (fun i=>w.heap.size+3<=i/\i<K) wr (.row 6 (dL l)) [V4]
 lt:Rv (w.heap.size+3) K 42 6 l.length wr V4
 row:Bo (fun i=>K<=i) K 74 7 wr (dO (o.take q)) V
theorem C2.call {w wr w':World} {bx:Array Value} {k:Int} {b:Bool} {n:Int} {t:ByteArray} {l:List Val} {V4 Vv V:Value} {K:Nat} {o:List (ByteArray×Val)} {q:Nat} (h:C2 w bx k b n t l V4 K o q wr Vv V) (hb:Below wr.heap.size wr w'):C2 w bx k b n t l V4 K o q w' Vv V:=
 ⟨h.v.call hb,Nat.le_trans h.size hb.size,h.ls.below hb,h.lt.keep fun g _ _ h3=>hb.block g h3,h.row.below hb⟩
theorem C2.grow {w wr w':World} {bx:Array Value} {k:Int} {b:Bool} {n:Int} {t:ByteArray} {l:List Val} {V4 Vv V V':Value} {K:Nat} {o:List (ByteArray×Val)} {q:Nat} (h:C2 w bx k b n t l V4 K o q wr Vv V) (hK:w.heap.size+3<=K) (hg:wr.grownBy w' V.ownBlock) (hr:Bo (fun i=>K<=i) K 74 7 w' (dO (o.take (q+1))) V'):C2 w bx k b n t l V4 K o (q+1) w' Vv V':=by
 have hba:=h.row.base;exact⟨h.v.grown hg fun g e=>by have:=(hba g e).1;omega,Nat.le_trans h.size hg.size,h.ls.later hg.size fun p p1 p2=>World.cell?_of_block (hg.block p.block p2 fun e=>by have:=(hba _ e.symm).1;omega),h.lt.keep fun g _ h2 h3=>hg.block g h3 fun e=>by have:=(hba _ e.symm).1;omega,hr⟩
theorem Aaw {w wr:World} {bx:Array Value} {k:Int} {b:Bool} {n:Int} {t:ByteArray} {l:List Val} {V4 Vv V:Value} {K:Nat} {o:List (ByteArray×Val)} {q:Nat} (h:C2 w bx k b n t l V4 K o q wr Vv V) (hK:w.heap.size+3<=K):C2 w bx k b n t l V4 K o q (wr.setCell ⟨w.heap.size+2,5,none⟩ V) V V:=by
 have hk: ∀i,i≠w.heap.size+2->(wr.setCell ⟨w.heap.size+2,5,none⟩ V).heap[i]? =wr.heap[i]? :=fun i hi=>Below.heap_setCell _ _ _ _ (fun e=>hi e);have hs:(wr.setCell ⟨w.heap.size+2,5,none⟩ V).heap.size=wr.heap.size:=by simp[World.setCell]
 exact⟨⟨h.v.below.setCell (by simp) _,h.v.box.far (by simp) _,h.v.res.far (by simp) _,h.v.var.set_ 5 _⟩,by rw[hs];exact h.size,h.ls.later (by omega) fun p p1 _=>World.cell?_of_block (hk p.block (by omega)),h.lt.keep fun g h1 _ _=>hk g (by omega),Adf h.row (B:=w.heap.size+2) rfl (by omega) fun i hi=>by omega⟩
theorem Ag5 (k:Int) (b:Bool) (n:Int) (t:ByteArray) (l:List Val) (o:List (ByteArray×Val)) (la oa:Option Addr) (oc lc:Nat) (w:World) (IH: ∀v ∈ l,RCT v) (IHo: ∀m ∈ o,RCT m.2)
 (hl:l= []\/ ∃g off,la=some ⟨g,off,none⟩/\g<w.heap.size/\Ax w w.heap.size l g off) (ho:o= []\/ ∃g off,oa=some ⟨g,off,none⟩/\g<w.heap.size/\A4 w w.heap.size o g off) (hbl:Ba l<=100000000) (hbo:Au o<=100000000):
 Calls Tryz.prog 33 #[.agg #[.int .i64 k,.bool b,.int .i64 n,.string t,.slice la l.length lc,.slice oa o.length oc]] w (Gu w (.mk k b n t l o)):=by
 have hln:=Dx l;have hon:=C3 o;obtain⟨j0,hj,hy0,hy1,hy2⟩:=info_parts Pn;obtain⟨j1,hjm,hy0m,hy1m,hy2m⟩:=info_parts O7;obtain⟨BX,hBX⟩: ∃bx:Array Value, #[.int .i64 k,.bool b,.int .i64 n,.string t,.slice la l.length lc,.slice oa o.length oc]=bx:=⟨_,rfl⟩;have hcell: ∀W,Aj W w.heap.size 42 BX->W.cell? ⟨w.heap.size,0,none⟩=some (.int .i64 k)/\W.cell? ⟨w.heap.size,1,none⟩=some (.bool b)/\W.cell? ⟨w.heap.size,2,none⟩=some (.int .i64 n)/\W.cell? ⟨w.heap.size,3,none⟩=some (.string t)/\W.cell? ⟨w.heap.size,4,none⟩=some (.slice la l.length lc)/\W.cell? ⟨w.heap.size,5,none⟩=some (.slice oa o.length oc):=fun W hx=>by
  subst hBX;exact⟨hx.cell 0,hx.cell 1,hx.cell 2,hx.cell 3,hx.cell 4,hx.cell 5⟩
 rw[hBX];clear hBX;obtain⟨PO,hPO⟩: ∃P,Gu w (.mk k b n t l o)=P:=⟨_,rfl⟩;rw[hPO];have hb0:Below w.heap.size w ((w.alloc (.cells BX 42)).alloc (.cells Ak 42)):=Ct _ _ _;have hx0:Aj ((w.alloc (.cells BX 42)).alloc (.cells Ak 42)) w.heap.size 42 BX:=(Aj.new _ _ _).alloc _;have hr0:Aj ((w.alloc (.cells BX 42)).alloc (.cells Ak 42)) (w.heap.size+1) 42 Ak:=by simpa using Aj.new (w.alloc (.cells BX 42)) 42 Ak
 have hz0:((w.alloc (.cells BX 42)).alloc (.cells Ak 42)).heap.size=w.heap.size+2:=by simp
 obtain⟨w0,hw0⟩: ∃w0,(w.alloc (.cells BX 42)).alloc (.cells Ak 42)=w0:=⟨_,rfl⟩;rw[hw0]at hb0 hx0 hr0 hz0;obtain⟨x0,x1,x2,x3,_,_⟩:=hcell _ hx0;have xl:=hx0.lt;obtain⟨IH',IHo'⟩:=hid2 IH IHo;clear IH IHo;obtain⟨Hcell,HPO,Hj,Hy0,Hy1,Hy2,Hjm,Hy0m,Hy1m,Hy2m⟩:=hid10 hcell hPO hj hy0 hy1 hy2 hjm hy0m hy1m hy2m;clear hcell hPO hj hy0 hy1 hy2 hjm hy0m hy1m hy2m;go_enter Tryz.func33,Tryz.ntmps33;go_upto_region 1 with(fail);clear hw0;go_upto_region 2 with(fail);have hv1:CV w BX k b n t (w0.alloc (.cells #[.int .i64 k,.bool b,.int .i64 n,.string t,.slice none 0 0,.slice none 0 0] 42)) (.slice none 0 0) (.slice none 0 0):=⟨hb0.alloc hb0.size _,hx0.alloc _,hr0.alloc _,by have:=Aj.new w0 42 #[.int .i64 k,.bool b,.int .i64 n,.string t,.slice none 0 0,.slice none 0 0];rwa [hz0]at this⟩;have hC1:C1 w BX k b n t l 0 (w0.alloc (.cells #[.int .i64 k,.bool b,.int .i64 n,.string t,.slice none 0 0,.slice none 0 0] 42)) (.slice none 0 0):=⟨hv1,by simpa[dL]using Bo.nil _ _ _ _ _⟩;generalize w0.alloc (.cells #[.int .i64 k,.bool b,.int .i64 n,.string t,.slice none 0 0,.slice none 0 0] 42)=w1 at hC1 ⊢;have HC1:=qz hC1;clear hC1;clear hv1 hb0 hx0 hr0 hz0 x0 x1 x2 x3 xl;go_wp2_with (fail);go_loopw [4] (fun i wr=> ∃q:Nat,i=.int .i64 q/\q<=l.length/\ ∃V,Hid (C1 w BX k b n t l q wr V)) (fun i _=>l.length - (intOf i).toNat)
 case atStart=>exact⟨0,rfl,Nat.zero_le _,_,HC1⟩
 case round=>
  obtain⟨q,rfl,hq,V,hI⟩:=hrel;clear HC1;obtain⟨_,_,_,_,x4,_⟩:=Hcell.out _ hI.out.v.box;have xl:=hI.out.v.box.lt;have hz:=hI.out.v.below.size;by_cases hlt:q<l.length
  . obtain⟨g,off,rfl,hg,hL⟩: ∃g off,la=some ⟨g,off,none⟩/\g<w.heap.size/\Ax w w.heap.size l g off:=by
     rcases hl with rfl|h
     . simp at hlt
     . exact h
    obtain⟨m,hm⟩: ∃p,l[q]? =some p:=⟨_,List.getElem?_eq_getElem hlt⟩;have hmem:=List.mem_of_getElem? hm;have hbm:=Ew hmem;have hdl:(dL (l.take q)).length=q:=by rw[Gh,List.length_take];omega
    have htk:dL (l.take q)++ [dV m]=dL (l.take (q+1)):=by rw[List.take_add_one,hm,Fx,Fx];simp
    have hihm:=IH'.out _ hmem;obtain⟨k',b',n',t',l',o'⟩:=m;obtain⟨la',lc',oa',oc',hvs,c0,c1,c2,c3,c4,c5⟩:=hL.six hm;have hD:=hI.out.call (Below.drew (Below.refl _ wr));have hba:=hD.row.base;have hS: ∀W,Aj W w.heap.size 42 BX->Below w.heap.size w W->(fun X=>X.cell? ⟨w.heap.size,4,none⟩=some (.slice (some ⟨g,off,none⟩) l.length lc)/\X.cell? ⟨g,off+q*6,none⟩=some (.int .i64 k')/\X.cell? ⟨g,off+q*6+1,none⟩=some (.bool b')/\X.cell? ⟨g,off+q*6+2,none⟩=some (.int .i64 n')/\X.cell? ⟨g,off+q*6+3,none⟩=some (.string t')/\X.cell? ⟨g,off+q*6+4,none⟩=some (.slice la' l'.length lc')/\X.cell? ⟨g,off+q*6+5,none⟩=some (.slice oa' o'.length oc')) W:=fun W hx hb=>
     ⟨(Hcell.out W hx).2.2.2.2.1,(hb.cell (p:=⟨g,off+q*6,none⟩) hg).trans c0,(hb.cell (p:=⟨g,off+q*6+1,none⟩) hg).trans c1,(hb.cell (p:=⟨g,off+q*6+2,none⟩) hg).trans c2,(hb.cell (p:=⟨g,off+q*6+3,none⟩) hg).trans c3,(hb.cell (p:=⟨g,off+q*6+4,none⟩) hg).trans c4,(hb.cell (p:=⟨g,off+q*6+5,none⟩) hg).trans c5⟩
    have hC: ∀W,Below w.heap.size w W->Calls Tryz.prog 33 #[.agg #[.int .i64 k',.bool b',.int .i64 n',.string t',.slice la' l'.length lc',.slice oa' o'.length oc']] W (Gu W (.mk k' b' n' t' l' o')):=fun W hW=>
     hihm _ W (Ac.more hW.size _ _ (hvs.below hW)) (by omega)
    have hS0:=hS _ hI.out.v.box hI.out.v.below;have hLo:(dL (l.take q)).length+1<=maxLen/\((dL (l.take q)).length+1)*88<=140737488355328:=by rw[hdl];exact⟨by simp only[maxLen];omega,by omega⟩
    have z5:(q:Int)<(l.length:Int):=by omega
    have z6:(0:Int)<=q:=by omega
    obtain⟨HR,HS,HC,Hba,Htk,HLo⟩:=hid6 hD hS hC hba htk hLo;clear hS hC hba htk hLo;clear hm hmem hvs c0 c1 c2 c3 c4 c5 hL hihm hD;go_upto_region 5 with(fail);refine wp_region_held_drew (S:=fun X=>X.cell? ⟨w.heap.size,4,none⟩=some (.slice (some ⟨g,off,none⟩) l.length lc)/\X.cell? ⟨g,off+q*6,none⟩=some (.int .i64 k')/\X.cell? ⟨g,off+q*6+1,none⟩=some (.bool b')/\X.cell? ⟨g,off+q*6+2,none⟩=some (.int .i64 n')/\X.cell? ⟨g,off+q*6+3,none⟩=some (.string t')/\X.cell? ⟨g,off+q*6+4,none⟩=some (.slice la' l'.length lc')/\X.cell? ⟨g,off+q*6+5,none⟩=some (.slice oa' o'.length oc')) (by kernel_rfl) hS0 (fun hHeld=> ?_);clear hS0 x4 xl hI;generalize wr.drew=wd at HR Hba hHeld ⊢;refine tkH 0 hHeld ?_;refine tkH 2 hHeld ?_;refine tkH 3 hHeld ?_;refine tkH 4 hHeld ?_;refine tkH 5 hHeld ?_;refine tkH 6 hHeld ?_;refine wpAnyH_ready (rs:= [1,7]) (by kernel_rfl) (by simp) ?_;refine AllReadyH.cons rfl (fun K hK=> ?_) (AllReadyH.cons rfl (fun K hK=> ?_) AllReadyH.nil)
    ·
     have e4:=HR.out.v.var.cell 4;have xl:=HR.out.v.var.lt;go_simp;refine hK.out _ _ (HS.out _ HR.out.v.box HR.out.v.below) (fun hHeld=> ?_);clear hK K e4 xl
     try simp only[Act.put,tk1,tk2,tk3,tk4,tk5,tk6]
     refine wpAnyH_ready (rs:= [7]) (by kernel_rfl) (by simp) ?_;refine AllReadyH.cons rfl (fun K hK=> ?_) AllReadyH.nil;go_simp;(with_reducible refine(HC.out _ HR.out.v.below).mono ?_);rintro e w4 ⟨⟨x4,x5,rfl,hf4,_,_⟩,hb4⟩;obtain⟨la2,lc2,oa2,oc2,h6⟩:=Iy (Ab.of_fresh hf4)
     cases h6
     have HR4:=qz (HR.out.call hb4);have Hf5:=qz (((Ab.of_fresh hf4)).mono (T:=fun i=>w.heap.size+3<=i/\V.ownBlock≠some i) fun i _ h=>⟨by have:=HR.out.size;omega,fun e=>by have:=(Hba.out i e).2;omega⟩);refine hK.out _ _ (HS.out _ HR4.out.v.box HR4.out.v.below) (fun hHeld=> ?_);clear hK K hf4 hb4
     try simp only[Act.put,tk1,tk2,tk3,tk4,tk5,tk6]
     refine wpAnyH_ready (rs:= [8]) (by kernel_rfl) (by simp) ?_;refine AllReadyH.cons rfl (fun K hK=> ?_) AllReadyH.nil;go_simp;have HR5:=qz (HR4.out.call (Aa w4 (.cells #[.int .i64 k',.bool b',.int .i64 n',.string t',.slice la2 l'.length lc2,.slice oa2 o'.length oc2] 42)));refine hK.out _ _ (HS.out _ HR5.out.v.box HR5.out.v.below) (fun hHeld=> ?_);clear hK K
     try simp only[Act.put,tk1,tk2,tk3,tk4,tk5,tk6]
     refine wpAnyH_ready (rs:= [9]) (by kernel_rfl) (by simp) ?_;refine AllReadyH.cons rfl (fun K hK=> ?_) AllReadyH.nil;refine Fp (d:=dV (.mk k' b' n' t' l' o')) (V:=V) (by rfl) (.tmp 23) (.tmp 30) 39 (by rfl) Tryz.underlying39 Hj.out Hy0.out Hy1.out Hy2.out rfl (by omega) (by rfl) HR5.out.row (by have:=HR5.out.size;omega) (Cw _) (Hf5.out.below (Aa w4 (.cells #[.int .i64 k',.bool b',.int .i64 n',.string t',.slice la2 l'.length lc2,.slice oa2 o'.length oc2] 42))) (by rfl) (Fo w4 _ _ _ _ _ _) HLo.out.1 HLo.out.2 ?_;intro V6 w6 hrow6 hg6 hat6;rw[Htk.out]at hrow6;have hR6:=HR5.out.grow hg6 hrow6;refine hK.out _ _ (HS.out _ hR6.1.box hR6.1.below) (fun hHeld=> ?_);clear hK K hg6 hat6 hrow6
     try simp only[Act.put,tk1,tk2,tk3,tk4,tk5,tk6]
     refine tkH 10 hHeld ?_;refine wpAnyH_ready (rs:= [11]) (by kernel_rfl) (by simp) ?_;refine AllReadyH.cons rfl (fun K hK=> ?_) AllReadyH.nil;have e6:=hR6.1.var.cell 4;have f6:=hR6.1.var.frozen 4;have l6:=hR6.1.var.lt;obtain⟨a6,c6,rfl⟩:=hR6.2.slice;go_simp;have hR7:=Aav hR6;refine hK.out _ _ (HS.out _ hR7.v.box hR7.v.below) (fun hHeld=> ?_);have HN:=qz hR7;clear hK K e6 f6 l6 hR6 hR7 HR5 HR4 Hf5
     try simp only[Act.put,tk1,tk2,tk3,tk4,tk5,tk6]
     refine wpAnyH_done (by kernel_rfl) ?_ _;clear hHeld;go_wp2;go_roundw
     case rel=>exact⟨q+1,by go_num,by omega,_,HN⟩
     case measure=>simp only[intOf];omega
    ·
     go_simp;(with_reducible refine(HC.out _ HR.out.v.below).mono ?_);rintro e w4 ⟨⟨x4,x5,rfl,hf4,_,_⟩,hb4⟩;obtain⟨la2,lc2,oa2,oc2,h6⟩:=Iy (Ab.of_fresh hf4)
     cases h6
     have HR4:=qz (HR.out.call hb4);have Hf5:=qz (((Ab.of_fresh hf4)).mono (T:=fun i=>w.heap.size+3<=i/\V.ownBlock≠some i) fun i _ h=>⟨by have:=HR.out.size;omega,fun e=>by have:=(Hba.out i e).2;omega⟩);refine hK.out _ _ (HS.out _ HR4.out.v.box HR4.out.v.below) (fun hHeld=> ?_);clear hK K hf4 hb4
     try simp only[Act.put,tk1,tk2,tk3,tk4,tk5,tk6]
     refine wpAnyH_ready (rs:= [1,8]) (by kernel_rfl) (by simp) ?_;refine AllReadyH.cons rfl (fun K hK=> ?_) (AllReadyH.cons rfl (fun K hK=> ?_) AllReadyH.nil)
     ·
      have e4:=HR4.out.v.var.cell 4;have xl:=HR4.out.v.var.lt;go_simp;refine hK.out _ _ (HS.out _ HR4.out.v.box HR4.out.v.below) (fun hHeld=> ?_);clear hK K e4 xl
      try simp only[Act.put,tk1,tk2,tk3,tk4,tk5,tk6]
      refine wpAnyH_ready (rs:= [8]) (by kernel_rfl) (by simp) ?_;refine AllReadyH.cons rfl (fun K hK=> ?_) AllReadyH.nil;go_simp;have HR5:=qz (HR4.out.call (Aa w4 (.cells #[.int .i64 k',.bool b',.int .i64 n',.string t',.slice la2 l'.length lc2,.slice oa2 o'.length oc2] 42)));refine hK.out _ _ (HS.out _ HR5.out.v.box HR5.out.v.below) (fun hHeld=> ?_);clear hK K
      try simp only[Act.put,tk1,tk2,tk3,tk4,tk5,tk6]
      refine wpAnyH_ready (rs:= [9]) (by kernel_rfl) (by simp) ?_;refine AllReadyH.cons rfl (fun K hK=> ?_) AllReadyH.nil;refine Fp (d:=dV (.mk k' b' n' t' l' o')) (V:=V) (by rfl) (.tmp 23) (.tmp 30) 39 (by rfl) Tryz.underlying39 Hj.out Hy0.out Hy1.out Hy2.out rfl (by omega) (by rfl) HR5.out.row (by have:=HR5.out.size;omega) (Cw _) (Hf5.out.below (Aa w4 (.cells #[.int .i64 k',.bool b',.int .i64 n',.string t',.slice la2 l'.length lc2,.slice oa2 o'.length oc2] 42))) (by rfl) (Fo w4 _ _ _ _ _ _) HLo.out.1 HLo.out.2 ?_;intro V6 w6 hrow6 hg6 hat6;rw[Htk.out]at hrow6;have hR6:=HR5.out.grow hg6 hrow6;refine hK.out _ _ (HS.out _ hR6.1.box hR6.1.below) (fun hHeld=> ?_);clear hK K hg6 hat6 hrow6
      try simp only[Act.put,tk1,tk2,tk3,tk4,tk5,tk6]
      refine tkH 10 hHeld ?_;refine wpAnyH_ready (rs:= [11]) (by kernel_rfl) (by simp) ?_;refine AllReadyH.cons rfl (fun K hK=> ?_) AllReadyH.nil;have e6:=hR6.1.var.cell 4;have f6:=hR6.1.var.frozen 4;have l6:=hR6.1.var.lt;obtain⟨a6,c6,rfl⟩:=hR6.2.slice;go_simp;have hR7:=Aav hR6;refine hK.out _ _ (HS.out _ hR7.v.box hR7.v.below) (fun hHeld=> ?_);have HN:=qz hR7;clear hK K e6 f6 l6 hR6 hR7 HR5 HR4 Hf5
      try simp only[Act.put,tk1,tk2,tk3,tk4,tk5,tk6]
      refine wpAnyH_done (by kernel_rfl) ?_ _;clear hHeld;go_wp2;go_roundw
      case rel=>exact⟨q+1,by go_num,by omega,_,HN⟩
      case measure=>simp only[intOf];omega
     ·
      go_simp;have HR5:=qz (HR4.out.call (Aa w4 (.cells #[.int .i64 k',.bool b',.int .i64 n',.string t',.slice la2 l'.length lc2,.slice oa2 o'.length oc2] 42)));refine hK.out _ _ (HS.out _ HR5.out.v.box HR5.out.v.below) (fun hHeld=> ?_);clear hK K
      try simp only[Act.put,tk1,tk2,tk3,tk4,tk5,tk6]
      refine wpAnyH_ready (rs:= [1]) (by kernel_rfl) (by simp) ?_;refine AllReadyH.cons rfl (fun K hK=> ?_) AllReadyH.nil;have e4:=HR5.out.v.var.cell 4;have xl:=HR5.out.v.var.lt;go_simp;refine hK.out _ _ (HS.out _ HR5.out.v.box HR5.out.v.below) (fun hHeld=> ?_);clear hK K e4 xl
      try simp only[Act.put,tk1,tk2,tk3,tk4,tk5,tk6]
      refine wpAnyH_ready (rs:= [9]) (by kernel_rfl) (by simp) ?_;refine AllReadyH.cons rfl (fun K hK=> ?_) AllReadyH.nil;refine Fp (d:=dV (.mk k' b' n' t' l' o')) (V:=V) (by rfl) (.tmp 23) (.tmp 30) 39 (by rfl) Tryz.underlying39 Hj.out Hy0.out Hy1.out Hy2.out rfl (by omega) (by rfl) HR5.out.row (by have:=HR5.out.size;omega) (Cw _) (Hf5.out.below (Aa w4 (.cells #[.int .i64 k',.bool b',.int .i64 n',.string t',.slice la2 l'.length lc2,.slice oa2 o'.length oc2] 42))) (by rfl) (Fo w4 _ _ _ _ _ _) HLo.out.1 HLo.out.2 ?_;intro V6 w6 hrow6 hg6 hat6;rw[Htk.out]at hrow6;have hR6:=HR5.out.grow hg6 hrow6;refine hK.out _ _ (HS.out _ hR6.1.box hR6.1.below) (fun hHeld=> ?_);clear hK K hg6 hat6 hrow6
      try simp only[Act.put,tk1,tk2,tk3,tk4,tk5,tk6]
      refine tkH 10 hHeld ?_;refine wpAnyH_ready (rs:= [11]) (by kernel_rfl) (by simp) ?_;refine AllReadyH.cons rfl (fun K hK=> ?_) AllReadyH.nil;have e6:=hR6.1.var.cell 4;have f6:=hR6.1.var.frozen 4;have l6:=hR6.1.var.lt;obtain⟨a6,c6,rfl⟩:=hR6.2.slice;go_simp;have hR7:=Aav hR6;refine hK.out _ _ (HS.out _ hR7.v.box hR7.v.below) (fun hHeld=> ?_);have HN:=qz hR7;clear hK K e6 f6 l6 hR6 hR7 HR5 HR4 Hf5
      try simp only[Act.put,tk1,tk2,tk3,tk4,tk5,tk6]
      refine wpAnyH_done (by kernel_rfl) ?_ _;clear hHeld;go_wp2;go_roundw
      case rel=>exact⟨q+1,by go_num,by omega,_,HN⟩
      case measure=>simp only[intOf];omega
  . obtain rfl:q=l.length:=by omega
    obtain⟨wa,hwa⟩: ∃x,x=wr:=⟨wr,rfl⟩;subst hwa;have hI1:=hI.out;have hr1:=hI1.row;rw[List.take_length]at hr1;have htk1:=Ag8 hr1 (Gh l);obtain⟨aL,cL,rfl⟩:=hr1.slice_n (Gh l);have hls:=hr1.closeIn.mono (T:=fun i=>w.heap.size+3<=i/\i<wa.heap.size) fun i hi h=>by
     rcases h with h|h
     . exact⟨h,hi⟩
     . exact⟨(hr1.base i h).1,hi⟩
    have HC2:Hid (C2 w BX k b n t l (.slice aL l.length cL) wa.heap.size o 0 wa (.slice none 0 0) (.slice none 0 0)):=⟨hI1.v,Nat.le_refl _,hls,htk1,by simpa[dO]using Bo.nil _ _ _ _ _⟩;have hK2:=hI1.size;clear hr1 htk1 hls hI1 hI;go_wp2_with (fail);clear x4 xl hz hlt;generalize wa.heap.size=K2 at HC2 hK2;go_loopw [5] (fun i wr=> ∃q:Nat,i=.int .i64 q/\q<=o.length/\ ∃V,Hid (C2 w BX k b n t l (.slice aL l.length cL) K2 o q wr V V)) (fun i _=>o.length - (intOf i).toNat)
    case atStart=>exact⟨0,rfl,Nat.zero_le _,_,HC2⟩
    case round=>
     obtain⟨q,rfl,hq,V,hI⟩:=hrel;clear HC2;obtain⟨_,_,_,_,_,x5⟩:=Hcell.out _ hI.out.v.box;have xl:=hI.out.v.box.lt;have hz:=hI.out.v.below.size;by_cases hlt:q<o.length
     . obtain⟨g,off,rfl,hg,hL⟩: ∃g off,oa=some ⟨g,off,none⟩/\g<w.heap.size/\A4 w w.heap.size o g off:=by
        rcases ho with rfl|h
        . simp at hlt
        . exact h
       obtain⟨⟨key',m⟩,hm⟩: ∃p,o[q]? =some p:=⟨_,List.getElem?_eq_getElem hlt⟩;have hmem:=List.mem_of_getElem? hm;have hbm:=Ef hmem;have hdl:(dO (o.take q)).length=q:=by rw[Dg,List.length_take];omega
       have htk:dO (o.take q)++ [dP (key',m)]=dO (o.take (q+1)):=by rw[List.take_add_one,hm,D4,D4];simp
       have hihm:=IHo'.out _ hmem;obtain⟨k',b',n',t',l',o'⟩:=m;simp only at hbm hihm;obtain⟨la',lc',oa',oc',hvs,c0,c1,c2,c3,c4,c5,c6⟩:=hL.seven hm;have hD:=hI.out.call (Below.drew (Below.refl _ wr));have hba:=hD.row.base;have hS: ∀W,Aj W w.heap.size 42 BX->Below w.heap.size w W->(fun X=>X.cell? ⟨w.heap.size,5,none⟩=some (.slice (some ⟨g,off,none⟩) o.length oc)/\X.cell? ⟨g,off+q*7,none⟩=some (.string key')/\X.cell? ⟨g,off+q*7+1,none⟩=some (.int .i64 k')/\X.cell? ⟨g,off+q*7+2,none⟩=some (.bool b')/\X.cell? ⟨g,off+q*7+3,none⟩=some (.int .i64 n')/\X.cell? ⟨g,off+q*7+4,none⟩=some (.string t')/\X.cell? ⟨g,off+q*7+5,none⟩=some (.slice la' l'.length lc')/\X.cell? ⟨g,off+q*7+6,none⟩=some (.slice oa' o'.length oc')) W:=fun W hx hb=>
        ⟨(Hcell.out W hx).2.2.2.2.2,(hb.cell (p:=⟨g,off+q*7,none⟩) hg).trans c0,(hb.cell (p:=⟨g,off+q*7+1,none⟩) hg).trans c1,(hb.cell (p:=⟨g,off+q*7+2,none⟩) hg).trans c2,(hb.cell (p:=⟨g,off+q*7+3,none⟩) hg).trans c3,(hb.cell (p:=⟨g,off+q*7+4,none⟩) hg).trans c4,(hb.cell (p:=⟨g,off+q*7+5,none⟩) hg).trans c5,(hb.cell (p:=⟨g,off+q*7+6,none⟩) hg).trans c6⟩
       have hC: ∀W,Below w.heap.size w W->Calls Tryz.prog 33 #[.agg #[.int .i64 k',.bool b',.int .i64 n',.string t',.slice la' l'.length lc',.slice oa' o'.length oc']] W (Gu W (.mk k' b' n' t' l' o')):=fun W hW=>
        hihm _ W (Ac.more hW.size _ _ (hvs.below hW)) (by omega)
       have hS0:=hS _ hI.out.v.box hI.out.v.below;have hLo:(dO (o.take q)).length+1<=maxLen/\((dO (o.take q)).length+1)*104<=140737488355328:=by rw[hdl];exact⟨by simp only[maxLen];omega,by omega⟩
       have z5:(q:Int)<(o.length:Int):=by omega
       have z6:(0:Int)<=q:=by omega
       obtain⟨HR,HS,HC,Hba,Htk,HLo⟩:=hid6 hD hS hC hba htk hLo;clear hS hC hba htk hLo;clear hm hmem hvs c0 c1 c2 c3 c4 c5 c6 hL hihm hD;go_upto_region 9 with(fail);refine wp_region_held_drew (S:=fun X=>X.cell? ⟨w.heap.size,5,none⟩=some (.slice (some ⟨g,off,none⟩) o.length oc)/\X.cell? ⟨g,off+q*7,none⟩=some (.string key')/\X.cell? ⟨g,off+q*7+1,none⟩=some (.int .i64 k')/\X.cell? ⟨g,off+q*7+2,none⟩=some (.bool b')/\X.cell? ⟨g,off+q*7+3,none⟩=some (.int .i64 n')/\X.cell? ⟨g,off+q*7+4,none⟩=some (.string t')/\X.cell? ⟨g,off+q*7+5,none⟩=some (.slice la' l'.length lc')/\X.cell? ⟨g,off+q*7+6,none⟩=some (.slice oa' o'.length oc')) (by kernel_rfl) hS0 (fun hHeld=> ?_);clear hS0 x5 xl hI;generalize wr.drew=wd at HR Hba hHeld ⊢;refine tkH 0 hHeld ?_;refine tkH 2 hHeld ?_;refine tkH 3 hHeld ?_;refine tkH 4 hHeld ?_;refine tkH 5 hHeld ?_;refine tkH 6 hHeld ?_;refine tkH 7 hHeld ?_;refine tkH 8 hHeld ?_;refine tkH 9 hHeld ?_;refine tkH 10 hHeld ?_;refine tkH 11 hHeld ?_;refine tkH 12 hHeld ?_;refine tkH 13 hHeld ?_;refine wpAnyH_ready (rs:= [1,14]) (by kernel_rfl) (by simp) ?_;refine AllReadyH.cons rfl (fun K hK=> ?_) (AllReadyH.cons rfl (fun K hK=> ?_) AllReadyH.nil)
       ·
        have e4:=HR.out.v.var.cell 5;have xl:=HR.out.v.var.lt;go_simp;refine hK.out _ _ (HS.out _ HR.out.v.box HR.out.v.below) (fun hHeld=> ?_);clear hK K e4 xl
        try simp only[Act.put,tk1,tk2,tk3,tk4,tk5,tk6]
        refine wpAnyH_ready (rs:= [14]) (by kernel_rfl) (by simp) ?_;refine AllReadyH.cons rfl (fun K hK=> ?_) AllReadyH.nil;go_simp;(with_reducible refine(HC.out _ HR.out.v.below).mono ?_);rintro e w4 ⟨⟨x4,x5,rfl,hf4,_,_⟩,hb4⟩;obtain⟨la2,lc2,oa2,oc2,h6⟩:=Iy (Ab.of_fresh hf4)
        cases h6
        have HR4:=qz (HR.out.call hb4);have Hf5:=qz ((Ac5 (key:=key') (Ab.of_fresh hf4)).mono (T:=fun i=>K2<=i/\V.ownBlock≠some i) fun i _ h=>⟨by have:=HR.out.size;omega,fun e=>by have:=(Hba.out i e).2;omega⟩);refine hK.out _ _ (HS.out _ HR4.out.v.box HR4.out.v.below) (fun hHeld=> ?_);clear hK K hf4 hb4
        try simp only[Act.put,tk1,tk2,tk3,tk4,tk5,tk6]
        refine tkH 15 hHeld ?_;refine wpAnyH_ready (rs:= [16]) (by kernel_rfl) (by simp) ?_;refine AllReadyH.cons rfl (fun K hK=> ?_) AllReadyH.nil;go_simp;have HR5:=qz (HR4.out.call (Aa w4 (.cells #[.string key',.int .i64 k',.bool b',.int .i64 n',.string t',.slice la2 l'.length lc2,.slice oa2 o'.length oc2] 74)));refine hK.out _ _ (HS.out _ HR5.out.v.box HR5.out.v.below) (fun hHeld=> ?_);clear hK K
        try simp only[Act.put,tk1,tk2,tk3,tk4,tk5,tk6]
        refine wpAnyH_ready (rs:= [17]) (by kernel_rfl) (by simp) ?_;refine AllReadyH.cons rfl (fun K hK=> ?_) AllReadyH.nil;refine Fp (d:=dP (key',.mk k' b' n' t' l' o')) (V:=V) (by rfl) (.tmp 41) (.tmp 56) 40 (by rfl) Tryz.underlying40 Hjm.out Hy0m.out Hy1m.out Hy2m.out rfl (by omega) (by rfl) HR5.out.row (by have:=HR5.out.size;omega) (Cv _) (Hf5.out.below (Aa w4 (.cells #[.string key',.int .i64 k',.bool b',.int .i64 n',.string t',.slice la2 l'.length lc2,.slice oa2 o'.length oc2] 74))) (by rfl) (E7 w4 _ _ _ _ _ _ _) HLo.out.1 HLo.out.2 ?_;intro V6 w6 hrow6 hg6 hat6;rw[Htk.out]at hrow6;have hR6:=HR5.out.grow hK2 hg6 hrow6;refine hK.out _ _ (HS.out _ hR6.1.box hR6.1.below) (fun hHeld=> ?_);clear hK K hg6 hat6 hrow6
        try simp only[Act.put,tk1,tk2,tk3,tk4,tk5,tk6]
        refine tkH 18 hHeld ?_;refine wpAnyH_ready (rs:= [19]) (by kernel_rfl) (by simp) ?_;refine AllReadyH.cons rfl (fun K hK=> ?_) AllReadyH.nil;have e6:=hR6.1.var.cell 5;have f6:=hR6.1.var.frozen 5;have l6:=hR6.1.var.lt;obtain⟨a6,c6,rfl⟩:=hR6.row.slice;go_simp;have hR7:=Aaw hR6 hK2;refine hK.out _ _ (HS.out _ hR7.v.box hR7.v.below) (fun hHeld=> ?_);have HN:=qz hR7;clear hK K e6 f6 l6 hR6 hR7 HR5 HR4 Hf5
        try simp only[Act.put,tk1,tk2,tk3,tk4,tk5,tk6]
        refine wpAnyH_done (by kernel_rfl) ?_ _;clear hHeld;go_wp2;go_roundw
        case rel=>exact⟨q+1,by go_num,by omega,_,HN⟩
        case measure=>simp only[intOf];omega
       ·
        go_simp;(with_reducible refine(HC.out _ HR.out.v.below).mono ?_);rintro e w4 ⟨⟨x4,x5,rfl,hf4,_,_⟩,hb4⟩;obtain⟨la2,lc2,oa2,oc2,h6⟩:=Iy (Ab.of_fresh hf4)
        cases h6
        have HR4:=qz (HR.out.call hb4);have Hf5:=qz ((Ac5 (key:=key') (Ab.of_fresh hf4)).mono (T:=fun i=>K2<=i/\V.ownBlock≠some i) fun i _ h=>⟨by have:=HR.out.size;omega,fun e=>by have:=(Hba.out i e).2;omega⟩);refine hK.out _ _ (HS.out _ HR4.out.v.box HR4.out.v.below) (fun hHeld=> ?_);clear hK K hf4 hb4
        try simp only[Act.put,tk1,tk2,tk3,tk4,tk5,tk6]
        refine tkH 15 hHeld ?_;refine wpAnyH_ready (rs:= [1,16]) (by kernel_rfl) (by simp) ?_;refine AllReadyH.cons rfl (fun K hK=> ?_) (AllReadyH.cons rfl (fun K hK=> ?_) AllReadyH.nil)
        ·
         have e4:=HR4.out.v.var.cell 5;have xl:=HR4.out.v.var.lt;go_simp;refine hK.out _ _ (HS.out _ HR4.out.v.box HR4.out.v.below) (fun hHeld=> ?_);clear hK K e4 xl
         try simp only[Act.put,tk1,tk2,tk3,tk4,tk5,tk6]
         refine wpAnyH_ready (rs:= [16]) (by kernel_rfl) (by simp) ?_;refine AllReadyH.cons rfl (fun K hK=> ?_) AllReadyH.nil;go_simp;have HR5:=qz (HR4.out.call (Aa w4 (.cells #[.string key',.int .i64 k',.bool b',.int .i64 n',.string t',.slice la2 l'.length lc2,.slice oa2 o'.length oc2] 74)));refine hK.out _ _ (HS.out _ HR5.out.v.box HR5.out.v.below) (fun hHeld=> ?_);clear hK K
         try simp only[Act.put,tk1,tk2,tk3,tk4,tk5,tk6]
         refine wpAnyH_ready (rs:= [17]) (by kernel_rfl) (by simp) ?_;refine AllReadyH.cons rfl (fun K hK=> ?_) AllReadyH.nil;refine Fp (d:=dP (key',.mk k' b' n' t' l' o')) (V:=V) (by rfl) (.tmp 41) (.tmp 56) 40 (by rfl) Tryz.underlying40 Hjm.out Hy0m.out Hy1m.out Hy2m.out rfl (by omega) (by rfl) HR5.out.row (by have:=HR5.out.size;omega) (Cv _) (Hf5.out.below (Aa w4 (.cells #[.string key',.int .i64 k',.bool b',.int .i64 n',.string t',.slice la2 l'.length lc2,.slice oa2 o'.length oc2] 74))) (by rfl) (E7 w4 _ _ _ _ _ _ _) HLo.out.1 HLo.out.2 ?_;intro V6 w6 hrow6 hg6 hat6;rw[Htk.out]at hrow6;have hR6:=HR5.out.grow hK2 hg6 hrow6;refine hK.out _ _ (HS.out _ hR6.1.box hR6.1.below) (fun hHeld=> ?_);clear hK K hg6 hat6 hrow6
         try simp only[Act.put,tk1,tk2,tk3,tk4,tk5,tk6]
         refine tkH 18 hHeld ?_;refine wpAnyH_ready (rs:= [19]) (by kernel_rfl) (by simp) ?_;refine AllReadyH.cons rfl (fun K hK=> ?_) AllReadyH.nil;have e6:=hR6.1.var.cell 5;have f6:=hR6.1.var.frozen 5;have l6:=hR6.1.var.lt;obtain⟨a6,c6,rfl⟩:=hR6.row.slice;go_simp;have hR7:=Aaw hR6 hK2;refine hK.out _ _ (HS.out _ hR7.v.box hR7.v.below) (fun hHeld=> ?_);have HN:=qz hR7;clear hK K e6 f6 l6 hR6 hR7 HR5 HR4 Hf5
         try simp only[Act.put,tk1,tk2,tk3,tk4,tk5,tk6]
         refine wpAnyH_done (by kernel_rfl) ?_ _;clear hHeld;go_wp2;go_roundw
         case rel=>exact⟨q+1,by go_num,by omega,_,HN⟩
         case measure=>simp only[intOf];omega
        ·
         go_simp;have HR5:=qz (HR4.out.call (Aa w4 (.cells #[.string key',.int .i64 k',.bool b',.int .i64 n',.string t',.slice la2 l'.length lc2,.slice oa2 o'.length oc2] 74)));refine hK.out _ _ (HS.out _ HR5.out.v.box HR5.out.v.below) (fun hHeld=> ?_);clear hK K
         try simp only[Act.put,tk1,tk2,tk3,tk4,tk5,tk6]
         refine wpAnyH_ready (rs:= [1]) (by kernel_rfl) (by simp) ?_;refine AllReadyH.cons rfl (fun K hK=> ?_) AllReadyH.nil;have e4:=HR5.out.v.var.cell 5;have xl:=HR5.out.v.var.lt;go_simp;refine hK.out _ _ (HS.out _ HR5.out.v.box HR5.out.v.below) (fun hHeld=> ?_);clear hK K e4 xl
         try simp only[Act.put,tk1,tk2,tk3,tk4,tk5,tk6]
         refine wpAnyH_ready (rs:= [17]) (by kernel_rfl) (by simp) ?_;refine AllReadyH.cons rfl (fun K hK=> ?_) AllReadyH.nil;refine Fp (d:=dP (key',.mk k' b' n' t' l' o')) (V:=V) (by rfl) (.tmp 41) (.tmp 56) 40 (by rfl) Tryz.underlying40 Hjm.out Hy0m.out Hy1m.out Hy2m.out rfl (by omega) (by rfl) HR5.out.row (by have:=HR5.out.size;omega) (Cv _) (Hf5.out.below (Aa w4 (.cells #[.string key',.int .i64 k',.bool b',.int .i64 n',.string t',.slice la2 l'.length lc2,.slice oa2 o'.length oc2] 74))) (by rfl) (E7 w4 _ _ _ _ _ _ _) HLo.out.1 HLo.out.2 ?_;intro V6 w6 hrow6 hg6 hat6;rw[Htk.out]at hrow6;have hR6:=HR5.out.grow hK2 hg6 hrow6;refine hK.out _ _ (HS.out _ hR6.1.box hR6.1.below) (fun hHeld=> ?_);clear hK K hg6 hat6 hrow6
         try simp only[Act.put,tk1,tk2,tk3,tk4,tk5,tk6]
         refine tkH 18 hHeld ?_;refine wpAnyH_ready (rs:= [19]) (by kernel_rfl) (by simp) ?_;refine AllReadyH.cons rfl (fun K hK=> ?_) AllReadyH.nil;have e6:=hR6.1.var.cell 5;have f6:=hR6.1.var.frozen 5;have l6:=hR6.1.var.lt;obtain⟨a6,c6,rfl⟩:=hR6.row.slice;go_simp;have hR7:=Aaw hR6 hK2;refine hK.out _ _ (HS.out _ hR7.v.box hR7.v.below) (fun hHeld=> ?_);have HN:=qz hR7;clear hK K e6 f6 l6 hR6 hR7 HR5 HR4 Hf5
         try simp only[Act.put,tk1,tk2,tk3,tk4,tk5,tk6]
         refine wpAnyH_done (by kernel_rfl) ?_ _;clear hHeld;go_wp2;go_roundw
         case rel=>exact⟨q+1,by go_num,by omega,_,HN⟩
         case measure=>simp only[intOf];omega
     . obtain rfl:q=o.length:=by omega
       have hI1:=hI.out;have hr1:=hI1.row;rw[List.take_length]at hr1;have htk2:=Ag8 hr1 (Dg o);obtain⟨aO,cO,rfl⟩:=hr1.slice_n (Dg o);have hos:=hr1.closeIn.mono (T:=fun i=>w.heap.size+2<=i) fun i hi h=>by
        rcases h with h|h
        . omega
        . have:=(hr1.base i h).1;omega
       have Hls:=qz (hI1.ls.mono (T:=fun i=>w.heap.size+2<=i) fun i _ h=>by omega);have Hlt1:=qz hI1.lt;have Hbw:=qz hI1.v.below;have hres:=hI1.v.res;obtain⟨v0,v1,v2,v3,v4,v5⟩:=Bd hI1.v.var;obtain⟨c0,c1,c2,c3,c4,c5⟩:=Bd hres;have fz:=hres.frozen;have vl:=hI1.v.var.lt;have hlt6:=hres.lt;obtain⟨Hos,Hres,Htk2⟩:=hid3 hos hres htk2;clear hos hres htk2;clear hr1 hI1 hI;go_upto_region 10 with(fail)
       repeat go_step
       have hxf:=((((((Hres.out.set_ 0 (.int .i64 k)).set_ 1 (.bool b)).set_ 2 (.int .i64 n)).set_ 3 (.string t)).set_ 4 (.slice aL l.length cL)).set_ 5 (.slice aO o.length cO));have hbf:=At [.int .i64 k,.bool b,.int .i64 n,.string t,.slice aL l.length cL,.slice aO o.length cO] Hbw.out (Nat.le_succ w.heap.size) (o:=0);have hff:An w.heap.size (A7 wr (w.heap.size+1) 0 [.int .i64 k,.bool b,.int .i64 n,.string t,.slice aL l.length cL,.slice aO o.length cO]) (dV (.mk k b n t l o)) [.int .i64 k,.bool b,.int .i64 n,.string t,.slice aL l.length cL,.slice aO o.length cO]:=by
        have g1:=Hls.out.later (w':=A7 wr (w.heap.size+1) 0 [.int .i64 k,.bool b,.int .i64 n,.string t,.slice aL l.length cL,.slice aO o.length cO]) (by rw[Aw];exact Nat.le_refl _) (fun p p1 _=>World.cell?_of_block (Ar _ _ _ _ _ (by omega)));have g2:=Hos.out.later (w':=A7 wr (w.heap.size+1) 0 [.int .i64 k,.bool b,.int .i64 n,.string t,.slice aL l.length cL,.slice aO o.length cO]) (by rw[Aw];exact Nat.le_refl _) (fun p p1 _=>World.cell?_of_block (Ar _ _ _ _ _ (by omega)));refine Wi ?_;intro w'' h1 h2;simp only[dV,Ai];exact Ah.six.2 ⟨[.slice aL l.length cL], [.slice aO o.length cO],rfl,rfl,rfl,rfl,rfl,g1 w'' h1 h2,g2 w'' h1 h2⟩
       have hR1:Pu w.heap.size 42 6 l.length (A7 wr (w.heap.size+1) 0 [.int .i64 k,.bool b,.int .i64 n,.string t,.slice aL l.length cL,.slice aO o.length cO]) (.slice aL l.length cL):=(Hlt1.out.keep fun g g1 _ _=>Ar _ _ _ _ _ (by omega)).toT (by omega);have hR2:Pu w.heap.size 74 7 o.length (A7 wr (w.heap.size+1) 0 [.int .i64 k,.bool b,.int .i64 n,.string t,.slice aL l.length cL,.slice aO o.length cO]) (.slice aO o.length cO):=(Htk2.out.keep fun g g1 _ _=>Ar _ _ _ _ _ (by omega)).toT (by omega);rw[<-HPO.out];exact bodyPost_ret (Aq rfl rfl hxf) rfl ⟨⟨_,_,rfl,hff,hR1,hR2⟩,hbf⟩
theorem S1: ∀v,RCT v:=by
 refine Val.ind ?_;intro k b n t l o IH IHo cs w hV hb;simp only[Ac]at hV;obtain⟨la,lc,oa,oc,rfl,hla,hoa⟩:=hV;simp only[Val.bulk]at hb;exact Ag5 k b n t l o la oa oc lc w IH IHo hla hoa (by omega) (by omega)
end Go.Proofs.YtobmaegpfbheoaaGreatDoor
