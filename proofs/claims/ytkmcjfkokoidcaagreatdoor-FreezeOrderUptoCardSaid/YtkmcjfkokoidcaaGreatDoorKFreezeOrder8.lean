/- Parts: The law FreezeOrder returns true. Condition: a bulk of at most 2 * 10^6 each. -/
import Derived.Test.YtkmcjfkokoidcaaGreatDoorKFreezeOrder5
import Derived.Test.YtkmcjfkokoidcaaGreatDoorKFreezeOrder7
set_option maxHeartbeats 20000000
set_option maxRecDepth 100000
namespace Go.Proofs.YtkmcjfkokoidcaaGreatDoor
open Go Go.RowKit
structure OrI (U:Nat) (w5:World) (T:Option (Nat×Nd)) (wr:World) (p:Option Addr):Prop where
 keep:KB (fun i=>i=U) w5 wr
 box:Aj wr U 26 #[.pointer p]
 tree:Eo (fun i=>i≠U) wr T p
theorem OrI.put {U:Nat} {w5 wr w2:World} {T T':Option (Nat×Nd)} {p p':Option Addr} {B:Nat} (h:OrI U w5 T wr p) (hU:U<B) (hb:Below wr.heap.size wr w2) (ht:Eo (fun i=>i≠U\/B<=i) w2 T' p'):OrI U w5 T' (w2.setCell ⟨U,0,none⟩ (.pointer p')) p' where
 keep:=(h.keep.trans (KB.of_below (S:=fun i=>i=U) hb) fun _ _ e=>e).trans (KB.set (S:=fun i=>i=U) w2 ⟨U,0,none⟩ rfl _) fun _ _ e=>e
 box:=(h.box.below hb h.box.lt).set_ 0 _
 tree:=(ht.mono (T:=fun i=>i≠U) fun i _ h=>by rcases h with h|h;exact h;omega).later (by simp[World.setCell]) fun i i1 _=>Below.heap_setCell _ _ _ _ i1
theorem OrI.more {U:Nat} {w5 wr w2:World} {T:Option (Nat×Nd)} {p:Option Addr} (h:OrI U w5 T wr p) (hb:Below wr.heap.size wr w2):OrI U w5 T w2 p:=
 ⟨h.keep.trans (KB.of_below (S:=fun i=>i=U) hb) fun _ _ e=>e,h.box.below hb h.box.lt,h.tree.below hb⟩
theorem Aep (w:World) (B:Nat):Ag w B (dV K8) [.int .i64 1,.bool false,.int .i64 0,.string ⟨#[]⟩,.slice none 0 0,.slice none 0 0]:=
 Ej _ _ (by unfold K8 Ac;exact⟨none,0,none,0,rfl,.inl rfl,.inl rfl⟩)
theorem Sp (x:List A5) (ks:List ByteArray) (a:Option Addr) (n c:Nat) (b:Option Addr) (m d:Nat) (w:World) (hT:Cm w) (hN:Mv w) (hx:Ag w w.heap.size (.row 7 (dO x)) [.slice a n c]) (hks:Tl w ks b m) (hb:Ab x<=2000000) (hbk:I8 ks<=2000000) (hin:Ew x):
 Calls Tryz.prog 8 #[.slice a n c,.slice b m d] w fun e w'=>e=.returned (.bool true)/\Below w.heap.size w w':=by
 obtain⟨PO,hPO⟩: ∃P:Ending->World->Prop,(fun e w'=>e=.returned (.bool true)/\Below w.heap.size w w')=P:=⟨_,rfl⟩;rw[hPO];have Hfin:Hid (∀W,Below w.heap.size w W->PO (.returned (.bool true)) W):=fun W hW=>by rw[<-hPO];exact⟨rfl,hW⟩
 obtain⟨hm,hka⟩:=hks;subst hm;have lks:=Wp ks;have h1:=E3 x a n c w hx (by omega);have H4:=qz (fun(W:World) (hB:Below w.heap.size w W)=>(Ga W (hT.below hB) (hN.below hB)).mono fun e w' h=>show e=.returned (.bool true)/\Below W.heap.size W w' from h);obtain⟨ok1,f1,l1,b1⟩:=C9 x;have as1:=Qf ok1;have in1:=Lk hin;have hTT:=fun(W:World) (hB:Below w.heap.size w W)=>hT.below hB;rw[<-f1]at in1;have hmv:As (Ba (Bd x))=0->Au (ov (Ba (Bd x))) 1=0:=fun h=>Fv as1 h;generalize Bd x=t1 at h1 ok1 f1 l1 b1 as1 in1 hmv;have lF:=Bc (Ba t1);obtain⟨l,hl⟩: ∃l,Ba t1=l:=⟨_,rfl⟩;have hG: ∀i j,Pb (Jt ks l i j)/\Ab (Ba (Jt ks l i j))<=26000000/\(Ba (Jt ks l i j)).length<=26000000:=fun i j=>by
  obtain⟨g1,g2⟩:=Ut l ks i j;have g3:=Bc (Ba (Jt ks l i j));rw[hl]at b1;have g2':Ab (Ba (Jt ks l i j))<=12*I8 ks+Ab l:=g2;exact⟨g1,by omega,by omega⟩
 have hD: ∀q,Pb (J4 ks l q)/\Ab (Ba (J4 ks l q))<=26000000/\(Ba (J4 ks l q)).length<=26000000:=fun q=>by
  obtain⟨g1,g2⟩:=Amg ks l q;have g3:=Bc (Ba (J4 ks l q));rw[hl]at b1;exact⟨g1,by omega,by omega⟩
 have hDF:Ba (J4 ks l ks.length)=l:=Amf (hl▸as1);unfold Iu at h1;have hmvl:=hmv;rw[hl]at hmvl;have inl:=in1;rw[hl]at inl;have hC0:=fun(W:World) (hW:Below w.heap.size w W) p ht=>Ed t1 p W (hTT W hW) ht ok1 (by omega) in1 hmv;have hTx:=fun(W:World) (hW:Below w.heap.size w W) p ht=>Ed (J4 ks l ks.length) p W (hTT W hW) ht (hD _).1 (by rw[hDF,<-hl];omega) (by rw[hDF];exact inl) (by rw[hDF];exact hmvl);rw[hl]at hC0;rw[hDF]at hTx;generalize Pk l=S at hC0 hTx;generalize As l=E at hC0 hTx;obtain⟨H1,HPO,Ok1,HG,HD,Hka,HC0,HTx⟩:=hid8 h1 hPO ok1 hG hD hka hC0 hTx;clear h1 hPO ok1 hG hD hka hC0 hTx;clear hT hN hx f1 hin as1 in1 hTT hmv hmvl inl hDF;go_enter Tryz.func8,Tryz.ntmps8;go_wp2_with (fail);(with_reducible refine(H1.out).mono ?_);rintro e w1 ⟨hb1,p1,rfl,ht1⟩;go_upto_region 2 with(fail);obtain⟨w2,hw2⟩: ∃w2,w1.alloc (.cells #[.pointer p1] 26)=w2:=⟨_,rfl⟩;have hb2:Below w1.heap.size w1 w2:=hw2▸Aa _ _;have x2:Aj w2 w1.heap.size 26 #[.pointer p1]:=hw2▸Aj.new _ _ _;rw[hw2];have hW2:Below w.heap.size w w2:=hb1.trans (hb2.mono hb1.size);have ht2:Eo (fun i=>i<w2.heap.size) w2 t1 p1:=(ht1.below hb2).mono fun i hi _=>hi;have d0:=x2.cell 0;have l0:=x2.lt;have HC1:=qz (HC0.out w2 hW2 p1 ht2);have hz1:=hb1.size;obtain⟨HW2,Ht2,X2⟩:=hid3 hW2 ht2 x2;clear hW2 ht2 x2;clear hw2 hb1 hb2 ht1 H1 HC0;go_wp2_with (fail);(with_reducible refine(HC1.out).mono ?_);rintro e w3 ⟨rfl,hb3⟩;have HW3:=qz (HW2.out.trans (hb3.mono HW2.out.size));have ht3:=(Ht2.out.below hb3).mono (T:=fun i=>i<w3.heap.size) fun i hi _=>hi;have x3:=X2.out.below hb3 X2.out.lt;clear d0 l0;have d0:=x3.cell 0;have l0:=x3.lt;have hC2:=Kw t1 p1 w3 ht3 Ok1.out (by omega);unfold Ns at hC2;rw[hl]at hC2;obtain⟨HC2,Ht3,X3⟩:=hid3 hC2 ht3 x3;clear hC2 ht3 x3;clear hb3 HC1 HW2 Ht2 X2;go_wp2_with (fail);(with_reducible refine(HC2.out).mono ?_);rintro e w4 ⟨hb4,VE,rfl,hr4⟩;have hW4:=HW3.out.trans (hb4.mono HW3.out.size);have ht4:=(Ht3.out.below hb4).mono (T:=fun i=>i<w4.heap.size) fun i hi _=>hi;have x4:=X3.out.below hb4 X3.out.lt;obtain⟨aE,cE,rfl⟩:=hr4.slice_n (Av l);have hE4:=Ah.of_old hr4.close (Nat.le_refl _) (Below.refl _ _);clear d0 l0;go_upto_region 5 with(fail);obtain⟨w5,hw5⟩: ∃w5,w4.alloc (.cells #[.pointer none] 26)=w5:=⟨_,rfl⟩;have hb5:Below w4.heap.size w4 w5:=hw5▸Aa _ _;have x5:Aj w5 w4.heap.size 26 #[.pointer none]:=hw5▸Aj.new _ _ _;rw[hw5];obtain⟨U,hU⟩: ∃U,w4.heap.size=U:=⟨_,rfl⟩;rw[hU]at x5 ⊢;have hW5:=hW4.trans (hb5.mono hW4.size);have hU0:w.heap.size<=U:=hU▸hW4.size;have hz5:w5.heap.size=U+1:=by rw[<-hw5,<-hU];simp
 have hk5: ∀W,KB (fun i=>i=U) w5 W->Below w.heap.size w W:=fun W h=>hW5.trans (h.below (fun k hk=>by subst hk;exact hU0) hW5.size);have hI0:OrI U w5 (Jt ks l 0 0) w5 none:=⟨KB.of_below (Below.refl _ _),x5,by rw[Aid];rfl⟩;have hbox: ∀W,KB (fun i=>i=U) w5 W->W.cell? ⟨w1.heap.size,0,none⟩=some (.pointer p1):=fun W h=>by
  have l4:=x4.lt;have x5':=x4.below hb5 l4;exact(x5'.kb h (by omega)).cell 0
 have ltx:w1.heap.size<U:=by have:=x4.lt;omega
 have ht5: ∀W,KB (fun i=>i=U) w5 W->Eo (fun i=>i<U) W t1 p1:=fun W h=>by
  have h5:Eo (fun i=>i<U) w5 t1 p1:=(ht4.mono (T:=fun i=>i<U) fun i hi _=>by omega).below hb5;exact h5.later h.size fun i i1 i2=>h.block i i2 (by omega)
 have hE5: ∀W,KB (fun i=>i=U) w5 W->w4.heap.size<=W.heap.size/\ ∀p:Addr,p.block<U->W.cell? p=w4.cell? p:=fun W h=>by
  have hz:=h.size;refine⟨by omega,fun p hp=> ?_⟩;exact(World.cell?_of_block (h.block p.block (by omega) (by omega))).trans (hb5.cell (p:=p) (by omega))
 have hs5: ∀W,KB (fun i=>i=U) w5 W-> ∀i k,ks[i]? =some k-> ∃g off,b=some ⟨g,off,none⟩/\g<w.heap.size/\W.cell? ⟨g,off+i,none⟩=some (.string k):=fun W h i k hi=>by
  obtain⟨g,off,e,hg,hc⟩:=Hka.out i k hi;exact⟨g,off,e,hg,((hk5 W h).cell (p:=⟨g,off+i,none⟩) hg).trans hc⟩
 obtain⟨HW5,Hk5,HI0,Hbox,Ht5,HE5,Hs5,HE4⟩:=hid8 hW5 hk5 hI0 hbox ht5 hE5 hs5 hE4;clear hW5 hk5 hI0 hbox ht5 hE5 hs5 hE4;clear hb4 hr4 hW4 ht4 x4 hb5 x5 hw5 HC2 HW3 Ht3 X3 Hka;go_wp2_with (fail);go_loopw [10] (fun i wr=> ∃q:Nat,i=.int .i64 q/\q<=ks.length/\ ∃p,Hid (OrI U w5 (Jt ks l q 0) wr p)) (fun i _=>ks.length - (intOf i).toNat)
 case atStart=>exact⟨0,rfl,Nat.zero_le _,_,HI0⟩
 case round=>
  obtain⟨q,rfl,hq,p,hI⟩:=hrel;clear HI0;by_cases hlt:q<ks.length
  . obtain⟨k,hk⟩: ∃k,ks[q]? =some k:=⟨_,List.getElem?_eq_getElem hlt⟩;obtain⟨g,off,rfl,hg,hc⟩:=Hs5.out wr hI.out.keep q k hk;have hkB:=Ws (List.mem_of_getElem? hk);have htk:=Ak9 (l:=l) hk;obtain⟨o1,o2,o3⟩:=HG.out q 0;have hbd:=Below.drew (Below.refl wr.heap.size wr);have hC:=Ph (fun i=>i≠U) (Jt ks l q 0) p k K8 _ _ _ _ _ _ wr.drew (hI.out.tree.below hbd) o1 (T6 o1 (by omega)) (by omega) (by have h0:(⟨#[]⟩:ByteArray).size=0:=rfl;simp only[Ab,Ib,Val.bulk,Bf,h0];omega) (Aep _ _);rw[<-htk]at hC;unfold Iu at hC;have hbx:=hI.out.box;have u0:=hbx.cell 0;have ul:=hbx.lt;have y1:(q:Int)<(ks.length:Int):=by omega
    have y2:(0:Int)<=(q:Int):=by omega
    have hgU:g≠U:=by omega
    have hgr:g<wr.heap.size:=by have:=hI.out.keep.size;omega
    obtain⟨HC,Hbx⟩:=hid2 hC hbx;clear hC hbx;clear hk htk o1 o2 o3 hbd;go_wp2_with (fail);go_upto_region 8 with(fail);refine wp_region_held_drew (S:=fun W:World=>W.cell? ⟨g,off+q,none⟩=some (.string k)) (by kernel_rfl) hc (fun hHeld=> ?_);refine tkH 1 hHeld ?_;refine tkH 2 hHeld ?_;refine tkH 3 hHeld ?_;refine tkH 4 hHeld ?_;refine tkH 5 hHeld ?_;refine Ee 0 fun K hK=> ?_;go_simp;refine hK.out _ _ hc (fun hHeld=> ?_);clear hK K
    try simp only[Act.put,tk1,tk2,tk3,tk4,tk5,tk6]
    refine Ee 6 fun K hK=> ?_;go_simp;(with_reducible refine(HC.out).mono ?_);rintro e w6 ⟨hb6,p6,rfl,ht6⟩;have hw6:Below wr.heap.size wr w6:=(Below.drew (Below.refl _ _)).trans hb6;have hc6:w6.cell? ⟨g,off+q,none⟩=some (.string k):=(hw6.cell (p:=⟨g,off+q,none⟩) hgr).trans hc;have hx6:=Hbx.out.below hw6 Hbx.out.lt;have v0:=hx6.cell 0;have fv:=hx6.frozen;have lv:=hx6.lt;have HN:Hid (OrI U w5 (Jt ks l (q+1) 0) (w6.setCell ⟨U,0,none⟩ (.pointer p6)) p6):=hI.out.put (B:=wr.heap.size) ul hw6 ht6;have hc7:(w6.setCell ⟨U,0,none⟩ (.pointer p6)).cell? ⟨g,off+q,none⟩=some (.string k):=(World.cell?_of_block (Below.heap_setCell _ _ _ _ (by show g≠U;exact hgU))).trans hc6;refine hK.out _ _ hc6 (fun hHeld=> ?_);clear hK K hb6 ht6 hw6 hx6
    try simp only[Act.put,tk1,tk2,tk3,tk4,tk5,tk6]
    refine Ee 7 fun K hK=> ?_;go_simp;refine hK.out _ _ hc7 (fun hHeld=> ?_);clear hK K
    try simp only[Act.put,tk1,tk2,tk3,tk4,tk5,tk6]
    refine wpAnyH_done (by kernel_rfl) ?_ _;clear hHeld hc7 hc6;go_wp2;go_roundw
    case rel=>exact⟨q+1,by go_num,by omega,_,HN⟩
    case measure=>simp only[intOf];omega
  . obtain rfl:q=ks.length:=by omega
    have y1: ¬(ks.length:Int)<(ks.length:Int):=by omega
    obtain⟨wA,hwA⟩: ∃W:World,wr=W:=⟨_,rfl⟩;subst hwA;have hI2:Hid (OrI U w5 (Jt ks l ks.length 0) wr p):=hI;have hwl:IntKind.i64.wrap ((l.length:Int) - 1)=(l.length:Int) - 1:=IntWalk.i64_in _ (by rw[hl]at lF b1;omega);clear hI;go_wp2_with (fail);go_loopw [11] (fun i wr=> ∃j:Nat,i=.int .i64 ((l.length:Int) - 1 - j)/\j<=l.length/\ ∃p,Hid (OrI U w5 (Jt ks l ks.length j) wr p)) (fun i _=>(intOf i+1).toNat)
    case atStart=>exact⟨0,by simp,Nat.zero_le _,_,hI2⟩
    case round=>
     obtain⟨j,rfl,hj,p2,hI⟩:=hrel;clear hI2;by_cases hlt:j<l.length
     . obtain⟨⟨key,⟨k',b',n',t',l',o'⟩⟩,hxe⟩: ∃v,l[l.length - 1 - j]? =some v:=⟨_,List.getElem?_eq_getElem (by omega)⟩;have hrev:=Aob hlt;rw[hxe]at hrev;have htk:=Ak8 (g:=ks) (i:=ks.length) hrev;obtain⟨mI,hmI⟩: ∃mI,l.length - 1 - j=mI:=⟨_,rfl⟩;have e1:(l.length:Int) - 1 - (j:Int)=(mI:Int):=by omega
       rw[e1];rw[hmI]at hxe;have hbm:=Bz (List.mem_of_getElem? hxe);simp only at hbm;obtain⟨g,off,rfl,hg,la,lc,oa,oc,hv4,c0,c1,c2,c3,c4,c5,c6⟩:=Fp HE4.out hxe;rw[hU]at hg;obtain⟨hz4,hc4⟩:=HE5.out wr hI.out.keep;have hv0:=(hv4.mono (T:=fun i=>i<U) fun i _ hi=>by omega).later hz4 fun p p1 _=>hc4 p p1;obtain⟨o1,o2,o3⟩:=HG.out ks.length j;have hbd:=Below.drew (Below.refl wr.heap.size wr);have hC:=Ph (fun i=>i≠U) (Jt ks l ks.length j) p2 key (.mk k' b' n' t' l' o') _ _ _ _ _ _ wr.drew (hI.out.tree.below hbd) o1 (T6 o1 (by omega)) (by omega) (by simp only[Ab,Ib];rw[<-hl]at hbm;omega) (hv0.below hbd).now;rw[<-htk]at hC;unfold Iu at hC;have hbx:=hI.out.box;have u0:=hbx.cell 0;have ul:=hbx.lt;have y1:(mI:Int)<(l.length:Int):=by omega
       have y2:(0:Int)<=(mI:Int):=by omega
       have y3: ¬(mI:Int)<0:=by omega
       have hw1:IntKind.i64.wrap ((mI:Int) - 1)=(mI:Int) - 1:=IntWalk.i64_in _ (by rw[hl]at lF b1;omega);have hgU:g≠U:=Nat.ne_of_lt hg;have hgr:g<wr.heap.size:=by have:=hI.out.keep.size;omega
       have hkeep: ∀W:World,W.heap[g]? =wr.heap[g]? ->(W.cell? ⟨g,off+mI*7,none⟩=some (.string key)/\W.cell? ⟨g,off+mI*7+1,none⟩=some (.int .i64 k')/\W.cell? ⟨g,off+mI*7+2,none⟩=some (.bool b')/\W.cell? ⟨g,off+mI*7+3,none⟩=some (.int .i64 n')/\W.cell? ⟨g,off+mI*7+4,none⟩=some (.string t')/\W.cell? ⟨g,off+mI*7+5,none⟩=some (.slice la l'.length lc)/\W.cell? ⟨g,off+mI*7+6,none⟩=some (.slice oa o'.length oc)):=fun W h=>by
        have hc: ∀z,W.cell? ⟨g,z,none⟩=w4.cell? ⟨g,z,none⟩:=fun z=>(World.cell?_of_block h).trans (hc4 ⟨g,z,none⟩ hg);exact⟨(hc _).trans c0,(hc _).trans c1,(hc _).trans c2,(hc _).trans c3,(hc _).trans c4,(hc _).trans c5,(hc _).trans c6⟩
       obtain⟨HC,Hbx,Hkeep⟩:=hid3 hC hbx hkeep;clear hC hbx hkeep;clear hxe htk o1 o2 o3 hbd hrev hv0 hv4 hz4 hc4 c0 c1 c2 c3 c4 c5 c6;go_wp2_with (fail);go_upto_region 12 with(fail);refine wp_region_held_drew (S:=fun W:World=>W.cell? ⟨g,off+mI*7,none⟩=some (.string key)/\W.cell? ⟨g,off+mI*7+1,none⟩=some (.int .i64 k')/\W.cell? ⟨g,off+mI*7+2,none⟩=some (.bool b')/\W.cell? ⟨g,off+mI*7+3,none⟩=some (.int .i64 n')/\W.cell? ⟨g,off+mI*7+4,none⟩=some (.string t')/\W.cell? ⟨g,off+mI*7+5,none⟩=some (.slice la l'.length lc)/\W.cell? ⟨g,off+mI*7+6,none⟩=some (.slice oa o'.length oc)) (by kernel_rfl) (Hkeep.out _ rfl) (fun hHeld=> ?_);refine tkH 1 hHeld ?_;refine tkH 2 hHeld ?_;refine tkH 3 hHeld ?_;refine tkH 4 hHeld ?_;refine tkH 5 hHeld ?_;refine tkH 6 hHeld ?_;refine tkH 7 hHeld ?_;refine tkH 8 hHeld ?_;refine tkH 9 hHeld ?_;refine tkH 10 hHeld ?_;refine Ee 0 fun K hK=> ?_;go_simp;refine hK.out _ _ (Hkeep.out _ rfl) (fun hHeld=> ?_);clear hK K
       try simp only[Act.put,tk1,tk2,tk3,tk4,tk5,tk6]
       refine Ee 11 fun K hK=> ?_;go_simp;(with_reducible refine(HC.out).mono ?_);rintro e w6 ⟨hb6,p6,rfl,ht6⟩;have hw6:Below wr.heap.size wr w6:=(Below.drew (Below.refl _ _)).trans hb6;have hx6:=Hbx.out.below hw6 Hbx.out.lt;have v0:=hx6.cell 0;have fv:=hx6.frozen;have lv:=hx6.lt;have HN:Hid (OrI U w5 (Jt ks l ks.length (j+1)) (w6.setCell ⟨U,0,none⟩ (.pointer p6)) p6):=hI.out.put (B:=wr.heap.size) ul hw6 ht6;have hc6:=Hkeep.out w6 (hw6.block g hgr);have Hc7:=qz (Hkeep.out (w6.setCell ⟨U,0,none⟩ (.pointer p6)) ((Below.heap_setCell _ _ _ _ (by show g≠U;exact hgU)).trans (hw6.block g hgr)));refine hK.out _ _ hc6 (fun hHeld=> ?_);clear hK K hb6 ht6 hw6 hx6
       try simp only[Act.put,tk1,tk2,tk3,tk4,tk5,tk6]
       refine Ee 12 fun K hK=> ?_;go_simp;refine hK.out _ _ Hc7.out (fun hHeld=> ?_);clear hK K
       try simp only[Act.put,tk1,tk2,tk3,tk4,tk5,tk6]
       refine wpAnyH_done (by kernel_rfl) ?_ _;clear hHeld hc6;go_wp2;go_roundw
       case rel=>exact⟨j+1,by rw[show(mI:Int) - 1=(l.length:Int) - 1 - ((j+1:Nat):Int)from by omega],by omega,_,HN⟩
       case measure=>simp only[intOf];omega
     . obtain rfl:j=l.length:=by omega
       have e1:(l.length:Int) - 1 - (l.length:Int)= -1:=by omega
       rw[e1];obtain⟨wB,hwB⟩: ∃W:World,wr=W:=⟨_,rfl⟩;subst hwB;have hI3:Hid (OrI U w5 (J4 ks l 0) wr p2):=by rw[Ahh];exact hI
       clear hI e1;go_wp2_with (fail);go_loopw [12] (fun i wr=> ∃q:Nat,i=.int .i64 q/\q<=ks.length/\ ∃p,Hid (OrI U w5 (J4 ks l q) wr p)) (fun i _=>ks.length - (intOf i).toNat)
       case atStart=>exact⟨0,rfl,Nat.zero_le _,_,hI3⟩
       case round=>
        obtain⟨q,rfl,hq,p3,hI⟩:=hrel;clear hI3;by_cases hlt:q<ks.length
        . obtain⟨k,hk⟩: ∃k,ks[q]? =some k:=⟨_,List.getElem?_eq_getElem hlt⟩;obtain⟨g,off,rfl,hg,hc⟩:=Hs5.out wr hI.out.keep q k hk;have hkn:=Ame (l:=l) hk;have hc0:=Hbox.out wr hI.out.keep;have hgr:g<wr.heap.size:=by have:=hI.out.keep.size;omega
          have htr:w1.heap.size<wr.heap.size:=by have:=hI.out.keep.size;omega
          have hgU:g≠U:=by omega
          have Hkeep:Hid (∀W,Below wr.heap.size wr W->(W.cell? ⟨w1.heap.size,0,none⟩=some (.pointer p1)/\W.cell? ⟨g,off+q,none⟩=some (.string k))):=fun W hW=>⟨(hW.cell (p:=⟨w1.heap.size,0,none⟩) htr).trans hc0,(hW.cell (p:=⟨g,off+q,none⟩) hgr).trans hc⟩;have htg:=Ht5.out wr hI.out.keep;have hC:=fun(W:World) (hW:Below wr.heap.size wr W)=>Afs t1 p1 k W ((htg.below hW).mono fun i hi _=>hi) Ok1.out (T6 Ok1.out (by omega)) (by omega);rw[hl]at hC;unfold D3 at hC;have y1:(q:Int)<(ks.length:Int):=by omega
          have y2:(0:Int)<=(q:Int):=by omega
          obtain⟨hb,hhb⟩: ∃hb,Du k l=hb:=⟨_,rfl⟩;rw[hhb]at hC hkn;obtain⟨HC,Hkn⟩:=hid2 hC hkn;clear hC hkn;have hkq:=hk;clear hk hc hc0 htg;go_wp2_with (fail);go_cut [14] (fun bv wx=>Hid (bv=.bool hb/\OrI U w5 (J4 ks l q) wx p3))
          case first=>
           go_upto_region 16 with(fail);refine wp_region_held_drew (S:=fun W:World=>W.cell? ⟨w1.heap.size,0,none⟩=some (.pointer p1)/\W.cell? ⟨g,off+q,none⟩=some (.string k)) (by kernel_rfl) (Hkeep.out _ (Below.drew (Below.refl _ _))) (fun hHeld=> ?_);refine tkH 0 hHeld ?_;refine tkH 1 hHeld ?_;refine tkH 2 hHeld ?_;refine tkH 3 hHeld ?_;refine tkH 4 hHeld ?_;refine rd2 5 9 (fun K hK=> ?_) (fun K hK=> ?_)
           . skip;go_simp;(with_reducible refine(HC.out _ (Below.drew (Below.refl _ _))).mono ?_);rintro e w6 ⟨hb6,k',b',n',t',la,ln,lc,oa,on,oc,rfl⟩;have hw6:Below wr.heap.size wr w6:=(Below.drew (Below.refl _ _)).trans hb6;refine hK.out _ _ (Hkeep.out _ hw6) (fun hHeld=> ?_);clear hK K hb6
             try simp only[Act.put,tk1,tk2,tk3,tk4,tk5,tk6]
             refine tkH 6 hHeld ?_;refine tkH 7 hHeld ?_;refine tkH 8 hHeld ?_;refine Ee 9 fun K hK=> ?_;go_simp;refine hK.out _ _ (Hkeep.out _ (hw6.alloc hw6.size (.cells Bk 37))) (fun hHeld=> ?_);clear hK K
             try simp only[Act.put,tk1,tk2,tk3,tk4,tk5,tk6]
             refine Ee 10 fun K hK=> ?_;go_simp;refine hK.out _ _ (Hkeep.out _ (hw6.alloc hw6.size (.cells #[.int .i64 k',.bool b',.int .i64 n',.string t',.slice la ln lc,.slice oa on oc] 37))) (fun hHeld=> ?_);clear hK K
             try simp only[Act.put,tk1,tk2,tk3,tk4,tk5,tk6]
             refine tkH 11 hHeld ?_;refine wpAnyH_done (by kernel_rfl) ?_ _;clear hHeld;have HN:Hid (OrI U w5 (J4 ks l q) (w6.alloc (.cells #[.int .i64 k',.bool b',.int .i64 n',.string t',.slice la ln lc,.slice oa on oc] 37)) p3):=hI.out.more (hw6.alloc hw6.size _);clear hw6;go_wp2;go_meet;exact qz ⟨rfl,HN.out⟩
           . skip;go_simp;refine hK.out _ _ (Hkeep.out _ ((show Below wr.heap.size wr wr.drew from Below.drew (Below.refl _ _)).alloc (show Below wr.heap.size wr wr.drew from Below.drew (Below.refl _ _)).size (.cells Bk 37))) (fun hHeld=> ?_);clear hK K
             try simp only[Act.put,tk1,tk2,tk3,tk4,tk5,tk6]
             have hxd:Aj (wr.alloc (.cells Bk 37)).drew wr.heap.size 37 Bk:=(Aj.new wr 37 Bk).drew;have hBd:Below wr.heap.size wr (wr.alloc (.cells Bk 37)).drew:=Below.drew (Aa wr (.cells Bk 37));refine Ee 5 fun K hK=> ?_;go_simp;(with_reducible refine(HC.out _ hBd).mono ?_);rintro e w6 ⟨hb6,k',b',n',t',la,ln,lc,oa,on,oc,rfl⟩;have hw6:Below wr.heap.size wr w6:=hBd.trans (hb6.mono hBd.size);have hx6:=hxd.below hb6 hxd.lt;refine hK.out _ _ (Hkeep.out _ hw6) (fun hHeld=> ?_);clear hK K hb6 hxd hBd
             try simp only[Act.put,tk1,tk2,tk3,tk4,tk5,tk6]
             refine tkH 6 hHeld ?_;refine tkH 7 hHeld ?_;refine tkH 8 hHeld ?_;obtain⟨r0,r1,r2,r3,r4,r5⟩:=Bp hx6;have fz:=hx6.frozen;have lr:=hx6.lt;have hw7:Below wr.heap.size wr (Ak w6 wr.heap.size 0 [.int .i64 k',.bool b',.int .i64 n',.string t',.slice la ln lc,.slice oa on oc]):=A4 [.int .i64 k',.bool b',.int .i64 n',.string t',.slice la ln lc,.slice oa on oc] hw6 (Nat.le_refl _) (o:=0);have Hk7:=qz (Hkeep.out _ hw7);have HN:Hid (OrI U w5 (J4 ks l q) (Ak w6 wr.heap.size 0 [.int .i64 k',.bool b',.int .i64 n',.string t',.slice la ln lc,.slice oa on oc]) p3):=hI.out.more hw7;clear hw6 hw7 hx6;refine Ee 10 fun K hK=> ?_;go_simp;refine hK.out _ _ Hk7.out (fun hHeld=> ?_);clear hK K
             try simp only[Act.put,tk1,tk2,tk3,tk4,tk5,tk6]
             refine tkH 11 hHeld ?_;refine wpAnyH_done (by kernel_rfl) ?_ _;clear hHeld;go_wp2;go_meet;exact qz ⟨rfl,HN.out⟩
          case rest=>
           obtain⟨rfl,hI4⟩:=hcut.out;obtain⟨wC,hwC⟩: ∃W:World,wc=W:=⟨_,rfl⟩;subst hwC;clear hcut hI HC Hkeep
           cases hb with
           |true=>
            have HN:Hid (OrI U w5 (J4 ks l (q+1)) wc p3):=by
             show OrI _ _ _ _ _;rw[Hkn.out,if_pos rfl];exact hI4
            clear hI4;go_wp2;go_roundw
            case rel=>exact⟨q+1,by go_num,by omega,_,HN⟩
            case measure=>simp only[intOf];omega
           |false=>
            obtain⟨o1,o2,o3⟩:=HD.out q;have hbd:=Below.drew (Below.refl wc.heap.size wc);have hC:=We (fun i=>i≠U) (J4 ks l q) p3 k wc.drew (hI4.tree.below hbd) o1 (T6 o1 (by omega)) (by omega) (by omega);unfold Yj at hC;have hbx:=hI4.box;have u0:=hbx.cell 0;have ul:=hbx.lt;have hgr:g<wc.heap.size:=by have:=hI4.keep.size;omega
            obtain⟨g2,off2,ha2,hg2,hc2⟩:=Hs5.out wc hI4.keep q k hkq
            cases ha2
            have Hcc:Hid (∀W:World,W.heap[g]? =wc.heap[g]? ->W.cell? ⟨g,off+q,none⟩=some (.string k)):=fun W h=>(World.cell?_of_block h).trans hc2;obtain⟨HI4,HC,Hbx⟩:=hid3 hI4 hC hbx;clear hC hbx;clear hI4 o1 o2 o3 hbd;go_wp2_with (fail);go_upto_region 18 with(fail);refine wp_region_held_drew (S:=fun W:World=>W.cell? ⟨g,off+q,none⟩=some (.string k)) (by kernel_rfl) (Hcc.out _ rfl) (fun hHeld=> ?_);refine tkH 1 hHeld ?_;refine tkH 2 hHeld ?_;refine tkH 3 hHeld ?_;refine tkH 4 hHeld ?_;refine Ee 0 fun K hK=> ?_;go_simp;refine hK.out _ _ (Hcc.out _ rfl) (fun hHeld=> ?_);clear hK K
            try simp only[Act.put,tk1,tk2,tk3,tk4,tk5,tk6]
            refine Ee 5 fun K hK=> ?_;go_simp;(with_reducible refine(HC.out).mono ?_);rintro e w6 ⟨hb6,p6,rfl,ht6⟩;have hw6:Below wc.heap.size wc w6:=(Below.drew (Below.refl _ _)).trans hb6;have hx6:=Hbx.out.below hw6 Hbx.out.lt;have v0:=hx6.cell 0;have fv:=hx6.frozen;have lv:=hx6.lt;have HN:Hid (OrI U w5 (J4 ks l (q+1)) (w6.setCell ⟨U,0,none⟩ (.pointer p6)) p6):=by
             show OrI _ _ _ _ _;rw[Hkn.out,if_neg (by decide)];exact HI4.out.put (B:=wc.heap.size) ul hw6 ht6
            have hc6:=Hcc.out w6 (hw6.block g hgr);have hc7:=Hcc.out (w6.setCell ⟨U,0,none⟩ (.pointer p6)) ((Below.heap_setCell _ _ _ _ (by show g≠U;exact hgU)).trans (hw6.block g hgr));refine hK.out _ _ hc6 (fun hHeld=> ?_);clear hK K hb6 ht6 hw6 hx6
            try simp only[Act.put,tk1,tk2,tk3,tk4,tk5,tk6]
            refine tkH 6 hHeld ?_;refine tkH 7 hHeld ?_;refine tkH 8 hHeld ?_;refine Ee 9 fun K hK=> ?_;go_simp;refine hK.out _ _ hc7 (fun hHeld=> ?_);clear hK K
            try simp only[Act.put,tk1,tk2,tk3,tk4,tk5,tk6]
            refine wpAnyH_done (by kernel_rfl) ?_ _;clear hHeld hc6 hc7;go_wp2;go_roundw
            case rel=>exact⟨q+1,by go_num,by omega,_,HN⟩
            case measure=>simp only[intOf];omega
        . obtain rfl:q=ks.length:=by omega
          have y1: ¬(ks.length:Int)<(ks.length:Int):=by omega
          have hWr:=Hk5.out wr hI.out.keep;have HC:=qz (HTx.out wr hWr p3 (hI.out.tree.mono fun i hi _=>hi));have HK4:=qz (fun(W:World) (hW:Below wr.heap.size wr W)=>H4.out W (hWr.trans (hW.mono hWr.size)));have hbx:=hI.out.box;have u0:=hbx.cell 0;have ul:=hbx.lt;have HWr:=qz hWr;clear hWr;clear hI hbx;go_wp2_with (fail);(with_reducible refine(HC.out).mono ?_);rintro e w6 ⟨rfl,hb6⟩;have HK6:=qz (HK4.out w6 hb6);have HW6:=qz (HWr.out.trans (hb6.mono HWr.out.size));clear hb6 u0 ul;go_wp2_with (fail);(with_reducible refine(HK6.out).mono ?_);rintro e w7 ⟨rfl,hb7⟩;have HP:=qz (Hfin.out w7 (HW6.out.trans (hb7.mono HW6.out.size)));clear hb7;go_wp2;exact HP.out
end Go.Proofs.YtkmcjfkokoidcaaGreatDoor
