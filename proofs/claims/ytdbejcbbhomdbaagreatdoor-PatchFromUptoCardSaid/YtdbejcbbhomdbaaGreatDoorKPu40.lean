/- Parts: commonplaceref14.Reset. Condition: a bulk of at most 5 * 10^7. -/
import Derived.Test.YtdbejcbbhomdbaaGreatDoorKPu36
import Derived.Test.YtdbejcbbhomdbaaGreatDoorKPu39
set_option maxHeartbeats 20000000
set_option maxRecDepth 100000
namespace Go.Proofs.YtdbejcbbhomdbaaGreatDoor
open Go Go.RowKit
theorem Fw (k:ByteArray) (n:Int) (w:World):Calls Tryz.prog 43 #[.string k,.int .i64 n] w fun e w'=>e=.returned (.agg #[.string k,.int .i64 3,.bool false,.int .i64 n,.string ⟨#[]⟩,.slice none 0 0,.slice none 0 0])/\Below w.heap.size w w':=by
 obtain⟨PO,hPO⟩: ∃P:Ending->World->Prop,(fun e w'=>e=.returned (.agg #[.string k,.int .i64 3,.bool false,.int .i64 n,.string ⟨#[]⟩,.slice none 0 0,.slice none 0 0])/\Below w.heap.size w w')=P:=⟨_,rfl⟩;rw[hPO];obtain⟨w1,hw1⟩: ∃w1,w.alloc (.cells #[.string ⟨#[]⟩,.int .i64 0,.bool false,.int .i64 0,.string ⟨#[]⟩,.slice none 0 0,.slice none 0 0] 84)=w1:=⟨_,rfl⟩;have hb1:Below w.heap.size w w1:=hw1▸Ac _ _;have hR1:Ao w1 w.heap.size 84 #[.string ⟨#[]⟩,.int .i64 0,.bool false,.int .i64 0,.string ⟨#[]⟩,.slice none 0 0,.slice none 0 0]:=hw1▸Ao.new _ _ _;have m0:=hR1.cell 0;have m1:=hR1.cell 1;have m2:=hR1.cell 2;have m3:=hR1.cell 3;have m4:=hR1.cell 4;have m5:=hR1.cell 5;have m6:=hR1.cell 6;have fz:=hR1.frozen;have lx:=hR1.lt;have Hxf:=qz (((((((hR1.set_ 0 (.string k)).set_ 1 (.int .i64 3)).set_ 2 (.bool false)).set_ 3 (.int .i64 n)).set_ 4 (.string ⟨#[]⟩)).set_ 5 (.slice none 0 0)).set_ 6 (.slice none 0 0));have hBf:Below w.heap.size w (((((((w1.setCell ⟨w.heap.size,0,none⟩ (.string k)).setCell ⟨w.heap.size,1,none⟩ (.int .i64 3)).setCell ⟨w.heap.size,2,none⟩ (.bool false)).setCell ⟨w.heap.size,3,none⟩ (.int .i64 n)).setCell ⟨w.heap.size,4,none⟩ (.string ⟨#[]⟩)).setCell ⟨w.heap.size,5,none⟩ (.slice none 0 0)).setCell ⟨w.heap.size,6,none⟩ (.slice none 0 0)):=Bf [.string k,.int .i64 3,.bool false,.int .i64 n,.string ⟨#[]⟩,.slice none 0 0,.slice none 0 0] hb1 (Nat.le_refl _) (o:=0);have HP:Hid (PO (.returned (.agg #[.string k,.int .i64 3,.bool false,.int .i64 n,.string ⟨#[]⟩,.slice none 0 0,.slice none 0 0])) (((((((w1.setCell ⟨w.heap.size,0,none⟩ (.string k)).setCell ⟨w.heap.size,1,none⟩ (.int .i64 3)).setCell ⟨w.heap.size,2,none⟩ (.bool false)).setCell ⟨w.heap.size,3,none⟩ (.int .i64 n)).setCell ⟨w.heap.size,4,none⟩ (.string ⟨#[]⟩)).setCell ⟨w.heap.size,5,none⟩ (.slice none 0 0)).setCell ⟨w.heap.size,6,none⟩ (.slice none 0 0))):=by
  show PO _ _;rw[<-hPO];exact⟨rfl,hBf⟩
 clear hBf hb1 hR1 hPO;go_enter Tryz.func43,Tryz.ntmps43;go_wp2;exact bodyPost_ret (Lj rfl rfl Hxf.out) rfl HP.out
def Ru:List A0:= [(⟨#[120]⟩,iv 1),(⟨#[121]⟩,iv 2)]
def Rv:List A0:= [(⟨#[121]⟩,iv 3),(⟨#[122]⟩,iv 4)]
def Nr:List POp:= [⟨2,⟨#[120]⟩,A6⟩,⟨1,⟨#[121]⟩,iv 3⟩,⟨1,⟨#[122]⟩,iv 4⟩]
abbrev Ab2:ByteArray:=⟨([91,123,34,107,101,121,34,58,34,120,34,44,34,111,112,34,58,34,100,101,108,34,125,44,123,34,107,101,121,34,58,34,121,34,44,34,111,112,34,58,34,112,117,116,34].append [44,34,118,97,108,117,101,34,58,51,125,44,123,34,107,101,121,34,58,34,122,34,44,34,111,112,34,58,34,112,117,116,34,44,34,118,97,108,117,101,34,58,52,125,93]).toArray⟩
theorem U0:Cf none Nr=0:=by decide+kernel
theorem Z4:C8 (Fv Nr)=Ab2.data.toList:=by kernel_rfl
theorem Aa9:Br (Fv Nr) 1=0:=by decide+kernel
theorem Aby:Pb Nr=Ab2:=by
 have h1:Pb Nr=Lp (Fv Nr):=if_pos U0;rw[h1];unfold Lp;rw[if_pos Aa9,Z4]
theorem Yh:Cb (B9 Ru)=Ru:=by rw[(Dw Ru).2.1];kernel_rfl
theorem Yi:Cb (B9 Rv)=Rv:=by rw[(Dw Rv).2.1];kernel_rfl
theorem Z3:(Bx Ru Rv).map B8=Nr:=by
 have l1:Bq ⟨#[120]⟩ ⟨#[121]⟩=true:=by decide+kernel
 have l2:Bq ⟨#[121]⟩ ⟨#[121]⟩=false:=by decide+kernel
 have s1:Bt (iv 2) (iv 3)=false:=by decide+kernel
 unfold Ru Rv;rw[Bx,if_pos l1,Bx,if_neg (by rw[l2];simp),if_neg (by rw[l2];simp),if_neg (by rw[s1];simp),Bx,Bx];rfl
theorem U1 (w:World) (k1 k2:ByteArray) (n1 n2:Int):Ai (w.alloc (.cells #[.string k1,.int .i64 3,.bool false,.int .i64 n1,.string ⟨#[]⟩,.slice none 0 0,.slice none 0 0,.string k2,.int .i64 3,.bool false,.int .i64 n2,.string ⟨#[]⟩,.slice none 0 0,.slice none 0 0] 84)) (w.alloc (.cells #[.string k1,.int .i64 3,.bool false,.int .i64 n1,.string ⟨#[]⟩,.slice none 0 0,.slice none 0 0,.string k2,.int .i64 3,.bool false,.int .i64 n2,.string ⟨#[]⟩,.slice none 0 0,.slice none 0 0] 84)).heap.size (.row 7 (dO [(k1,iv n1),(k2,iv n2)])) [.slice (some ⟨w.heap.size,0,none⟩) 2 2]:=
 Vq (Ao.new _ _ _) (Dj _) ((Ah.one (O0 _ _ k1 n1)).app (Ah.one (O0 _ _ k2 n2))) rfl
theorem Nt (w:World) (hT:Cl w) (hN:F5 w):Calls Tryz.prog 14 #[] w fun e w'=>e=.returned (.bool true)/\Below w.heap.size w w':=by
 obtain⟨PO,hPO⟩: ∃P:Ending->World->Prop,(fun e w'=>e=.returned (.bool true)/\Below w.heap.size w w')=P:=⟨_,rfl⟩;rw[hPO];have Hn1:=qz (fun W=>Fw ⟨#[120]⟩ 1 W);have Hn2:=qz (fun W=>Fw ⟨#[121]⟩ 2 W);have Hn3:=qz (fun W=>Fw ⟨#[121]⟩ 3 W);have Hn4:=qz (fun W=>Fw ⟨#[122]⟩ 4 W);obtain⟨HT,HN,HPO⟩:=hid3 hT hN hPO;clear hT hN hPO;go_enter Tryz.func14,Tryz.ntmps14;go_wp2_with (fail);(with_reducible refine(Hn1.out w).mono ?_);rintro e w1 ⟨rfl,hb1⟩;go_wp2_with (fail);(with_reducible refine(Hn2.out w1).mono ?_);rintro e w2 ⟨rfl,hb2⟩;have hW2:=hb1.trans (hb2.mono hb1.size);have HbA:=qz (E8 Ru _ 2 2 _ (U1 w2 ⟨#[120]⟩ ⟨#[121]⟩ 1 2) (by decide));have HWA:=qz (hW2.alloc hW2.size (.cells #[.string ⟨#[120]⟩,.int .i64 3,.bool false,.int .i64 1,.string ⟨#[]⟩,.slice none 0 0,.slice none 0 0,.string ⟨#[121]⟩,.int .i64 3,.bool false,.int .i64 2,.string ⟨#[]⟩,.slice none 0 0,.slice none 0 0] 84));clear hb1 hb2 hW2;go_wp2_with (fail);(with_reducible refine(HbA.out).mono ?_);rintro e w3 ⟨hb3,p1,rfl,hT3⟩;have HW3:=qz (HWA.out.trans (hb3.mono HWA.out.size));have HT3':=qz (hT3.mono (T:=fun i=>i<w3.heap.size) fun i hi _=>hi);clear hb3 hT3;go_wp2_with (fail);(with_reducible refine(Hn3.out w3).mono ?_);rintro e w4 ⟨rfl,hb4⟩;go_wp2_with (fail);(with_reducible refine(Hn4.out w4).mono ?_);rintro e w5 ⟨rfl,hb5⟩;have hW5:=(hb4.trans (hb5.mono hb4.size));have HbB:=qz (E8 Rv _ 2 2 _ (U1 w5 ⟨#[121]⟩ ⟨#[122]⟩ 3 4) (by decide));have HWB:=qz (hW5.alloc hW5.size (.cells #[.string ⟨#[121]⟩,.int .i64 3,.bool false,.int .i64 3,.string ⟨#[]⟩,.slice none 0 0,.slice none 0 0,.string ⟨#[122]⟩,.int .i64 3,.bool false,.int .i64 4,.string ⟨#[]⟩,.slice none 0 0,.slice none 0 0] 84));clear hb4 hb5 hW5;go_wp2_with (fail);(with_reducible refine(HbB.out).mono ?_);rintro e w6 ⟨hb6,p2,rfl,hT6⟩;have hW36:=HWB.out.trans (hb6.mono HWB.out.size);have HW6:=qz (HW3.out.trans (hW36.mono HW3.out.size));have hT6':=hT6.mono (T:=fun i=>i<w6.heap.size) fun i hi _=>hi;have hT36:=(HT3'.out.below hW36).mono (T:=fun i=>i<w6.heap.size) fun i hi _=>hi;have hFr:=Mm (B9 Ru) (B9 Rv) p1 p2 w6 hT36 hT6' (Dw Ru).1 (Dw Rv).1 (by rw[Yh];decide) (by rw[Yi];decide) (by rw[Yh];decide) (by rw[Yi];decide);rw[Yh,Yi,Z3]at hFr;have HFr:=qz hFr;clear hFr;clear hb6 hT6 hW36 hT6' hT36;go_wp2_with (fail);(with_reducible refine(HFr.out).mono ?_);rintro e w7 ⟨hb7,V,rfl,hR⟩;obtain⟨a7,c7,rfl⟩:=hR.slice;have hW7:=HW6.out.trans (hb7.mono HW6.out.size);have hTx:=N4 Nr a7 (D0 Nr).length c7 w7 (HT.out.below hW7) (HN.out.below hW7) hR.close (by decide) (by intro p hp;simp[Nr]at hp;rcases hp with rfl|rfl|rfl<;>simp[Nq,Tn,O2,iv]);rw[Aby,U0]at hTx;obtain⟨HTx,HW7⟩:=hid2 hTx hW7;clear hTx hW7;clear hb7 hR;go_wp2_with (fail);(with_reducible refine(HTx.out).mono ?_);rintro e w8 ⟨rfl,hb8⟩;have HP:Hid (PO (.returned (.bool true)) w8):=by
  show PO _ _;rw[<-HPO.out];exact⟨rfl,HW7.out.trans (hb8.mono HW7.out.size)⟩
 clear hb8;go_wp2;exact HP.out
def RsI (b g0 z2:Nat) (w3:World) (es:List A0) (q:Nat) (wr:World) (V:Value):Prop:=
 KB (fun i=>i=g0) w3 wr/\An (fun i=>z2<=i/\i<w3.heap.size) b 64 8 wr (D0 ((Ay es).take (q+1))) V/\(V.ownBlock=some g0\/ ∃g,V.ownBlock=some g/\w3.heap.size<=g)
theorem Sg (t:Option (Nat×Nd)) (p:Option Addr) (w:World) (ht:Ff (fun i=>i<w.heap.size) w t p) (ok:T3 t) (hb:Af (Cb t)<=50000000):Calls Tryz.prog 25 #[.agg #[.pointer p]] w (Fr (Ay (Cb t)) w):=by
 obtain⟨PO,hPO⟩: ∃P:Ending->World->Prop,Fr (Ay (Cb t)) w=P:=⟨_,rfl⟩;rw[hPO];have hln:=Aw (Cb t);obtain⟨w1,hw1⟩: ∃w1,w.alloc (.cells #[.pointer p] 45)=w1:=⟨_,rfl⟩;have hb1:Below w.heap.size w w1:=hw1▸Ac _ _;have hx1:Ao w1 w.heap.size 45 #[.pointer p]:=hw1▸Ao.new _ _ _;obtain⟨w2,hw2⟩: ∃w2,w1.alloc (.cells #[.int .i64 3,.string ⟨#[]⟩,.int .i64 0,.bool false,.int .i64 0,.string ⟨#[]⟩,.slice none 0 0,.slice none 0 0] 64)=w2:=⟨_,rfl⟩;have hb2:Below w1.heap.size w1 w2:=hw2▸Ac _ _;have hW2:=hb1.trans (hb2.mono hb1.size);have HE:=qz (Sk t p w2 ((ht.below hW2).mono fun i hi _=>hi) ok (by omega));have hrow: ∀S0:Nat->Prop,An S0 w.heap.size 64 8 w2 [dQ ⟨3,⟨#[]⟩,A6⟩] (.slice (some ⟨w1.heap.size,0,none⟩) 1 1):=fun S0=>by
  rw[<-hw2];exact An.lit (cs:= #[.int .i64 3,.string ⟨#[]⟩,.int .i64 0,.bool false,.int .i64 0,.string ⟨#[]⟩,.slice none 0 0,.slice none 0 0]) hb1.size (Em _) (G9 (fun _ _ _=>Dv _ _))
 have c0:=(hx1.below hb2 hx1.lt).cell 0;have lx:=(hx1.below hb2 hx1.lt).lt;have hz0:=hb1.size;have hz1:w1.heap.size<w2.heap.size:=by rw[<-hw2];simp
 obtain⟨j0,hj,hy0,hy1,hy2⟩:=info_parts L7;generalize Cb t=es at*
 obtain⟨HPO,HW2,Hrow,Hj,Hy0,Hy1,Hy2⟩:=hid7 hPO hW2 hrow hj hy0 hy1 hy2;clear hPO hW2 hrow hj hy0 hy1 hy2;clear ht hb1 hb2 hx1 ok;go_enter Tryz.func25,Tryz.ntmps25;go_wp2_with (fail);(with_reducible refine(HE.out).mono ?_);rintro e w3 ⟨hb3,VE,rfl,hRE⟩;obtain⟨aE,cE,rfl⟩:=hRE.slice_n (Az es);have hT3:Ag (fun i=>w2.heap.size<=i/\i<w3.heap.size) w3 (.row 7 (dO es)) [.slice aE es.length cE]:=hRE.closeIn.mono fun i h1 h2=>⟨by
  rcases h2 with h2|h2
  . exact h2
  . exact(hRE.base i h2).1,h1⟩
 have HI0:Hid (RsI w.heap.size w1.heap.size w2.heap.size w3 es 0 w3 (.slice (some ⟨w1.heap.size,0,none⟩) 1 1)):=⟨KB.of_below (Below.refl _ _),(Hrow.out _).below hb3,.inl rfl⟩;have hz3:=hb3.size;have HW3:=qz (HW2.out.trans (hb3.mono HW2.out.size));have HT3:=qz hT3;clear hT3;clear hRE hb3 c0 lx hw1 hw2 HE Hrow;go_wp2_with (fail);go_loopw [3,11] (fun V i wr=> ∃q:Nat,i=.int .i64 q/\q<=es.length/\Hid (RsI w.heap.size w1.heap.size w2.heap.size w3 es q wr V)) (fun _ i _=>es.length - (intOf i).toNat)
 case atStart=>exact⟨0,rfl,Nat.zero_le _,HI0⟩
 case round=>
  obtain⟨q,rfl,hq,hI⟩:=hrel;clear HI0;obtain⟨i1,i2,i3⟩:=hI.out;have hsz:(D0 ((Ay es).take (q+1))).length=q+1:=by
   rw[C7,List.length_take];simp[Ay];omega
  obtain⟨aV,cV,rfl⟩:=i2.slice_n hsz;by_cases hlt:q<es.length
  . obtain⟨⟨key,⟨k',b',n',t',l',o'⟩⟩,hx⟩: ∃v,es[q]? =some v:=⟨_,List.getElem?_eq_getElem hlt⟩;have hTr:=HT3.out.later i1.size fun p p1 p2=>World.cell?_of_block (i1.block p.block p2 (by omega));obtain⟨g,off,rfl,hg,la,lc,oa,oc,hv,c0,c1,c2,c3,c4,c5,c6⟩:=Hu hTr hx;have htk:D0 ((Ay es).take (q+1))++ [dQ ⟨1,key,.mk k' b' n' t' l' o'⟩]=D0 ((Ay es).take (q+1+1)):=by
     unfold D0;rw[List.take_add_one (i:=q+1)];simp[Ay,hx]
    have hz:=i1.size;obtain⟨wi,hwi⟩: ∃wi,wr.alloc (.cells #[.string key,.int .i64 k',.bool b',.int .i64 n',.string t',.slice la l'.length lc,.slice oa o'.length oc] 84)=wi:=⟨_,rfl⟩;have hbi:Below wr.heap.size wr wi:=hwi▸Ac _ _;have hxi:Ao wi wr.heap.size 84 #[.string key,.int .i64 k',.bool b',.int .i64 n',.string t',.slice la l'.length lc,.slice oa o'.length oc]:=hwi▸Ao.new _ _ _;have f0:=hxi.cell 0;have f1:=hxi.cell 1;have f2:=hxi.cell 2;have f3:=hxi.cell 3;have f4:=hxi.cell 4;have f5:=hxi.cell 5;have f6:=hxi.cell 6;have lxi:=hxi.lt;have hob:(Value.slice aV (q+1) cV).ownBlock=some w1.heap.size\/ ∃g,(Value.slice aV (q+1) cV).ownBlock=some g/\w3.heap.size<=g:=i3;have hd:Ag (fun i=>(w2.heap.size<=i/\i<w3.heap.size)/\(Value.slice aV (q+1) cV).ownBlock≠some i) (wi.alloc (.cells #[.int .i64 1,.string key,.int .i64 k',.bool b',.int .i64 n',.string t',.slice la l'.length lc,.slice oa o'.length oc] 64)) (dQ ⟨1,key,.mk k' b' n' t' l' o'⟩) [.int .i64 1,.string key,.int .i64 k',.bool b',.int .i64 n',.string t',.slice la l'.length lc,.slice oa o'.length oc]:=
     (G9 ((hv.below hbi).below (Ac wi _))).mono fun i _ hi=>⟨hi,fun e=>by
       rcases hob with h|⟨g',h,h'⟩
       . rw[h]at e;have:=Option.some.inj e;omega
       . rw[h]at e;have:=Option.some.inj e;omega⟩
    have Hr2:=qz ((i2.below hbi).below (Ac wi (.cells #[.int .i64 1,.string key,.int .i64 k',.bool b',.int .i64 n',.string t',.slice la l'.length lc,.slice oa o'.length oc] 64)));have Hrd:=qz (B5 (Ao.new wi 64 #[.int .i64 1,.string key,.int .i64 k',.bool b',.int .i64 n',.string t',.slice la l'.length lc,.slice oa o'.length oc]));have hbs:=hbi.size;have q1:(q:Int)<(es.length:Int):=by omega
    have q0:(0:Int)<=q:=by omega
    have lg:g<wr.heap.size:=hg;have hLo:Hid (w.heap.size<=(wi.alloc (.cells #[.int .i64 1,.string key,.int .i64 k',.bool b',.int .i64 n',.string t',.slice la l'.length lc,.slice oa o'.length oc] 64)).heap.size):=by
     show _<=_;have:=HW3.out.size;simp;omega
    obtain⟨Hd,Htk,Hsz,I1,Hob,Hbi⟩:=hid6 hd htk hsz i1 hob hbi;clear hd htk hsz i1 hob hbi;clear hI i2 i3 hv hTr hxi hx;go_wp2_with (at_builtin;apply Shut.out);unfold Shut;refine B7 (d:=dQ ⟨1,key,.mk k' b' n' t' l' o'⟩) rfl (.tmp 15) (.tmp 21) 22 rfl Tryz.underlying22 Hj.out Hy0.out Hy1.out Hy2.out rfl (by omega) rfl Hr2.out hLo.out (Em _) Hd.out rfl Hrd.out (by rw[Hsz.out];simp only[maxLen];omega) (by rw[Hsz.out];omega) ?_;intro V6 w6 hr6 hg6 hat6;rw[Htk.out]at hr6;have HN:Hid (RsI w.heap.size w1.heap.size w2.heap.size w3 es (q+1) w6 V6):=by
     show RsI _ _ _ _ _ _ _ _;have hg6':(wi.alloc (.cells #[.int .i64 1,.string key,.int .i64 k',.bool b',.int .i64 n',.string t',.slice la l'.length lc,.slice oa o'.length oc] 64)).grownBy w6 (Value.slice aV (q+1) cV).ownBlock:=hg6;refine⟨(I1.out.trans (KB.of_below ((Hbi.out).trans ((Ac wi _).mono hbs))) fun _ _ h=>h).trans (KB.of_grown (S:=fun i=>i=w1.heap.size\/w3.heap.size<=i) hg6' fun k e=> ?_) fun k k1 k2=>by omega,hr6, ?_⟩
     . rcases Hob.out with h|⟨g',h,h'⟩
       . rw[h]at e;exact .inl (Option.some.inj e).symm
       . rw[h]at e;have:=Option.some.inj e;exact .inr (by omega)
     . rcases hat6 with e|e
       . have e':V6.ownBlock=(Value.slice aV (q+1) cV).ownBlock:=e;rw[e'];exact Hob.out
       . exact .inr ⟨_,e,by simp;omega⟩
    obtain⟨a6,c6,rfl⟩:=hr6.slice;clear hr6 hg6 hat6 Hd Hr2 Hrd;go_wp2;go_roundw
    case rel=>exact⟨q+1,by go_num,by omega,HN⟩
    case measure=>simp only[intOf];omega
  . obtain rfl:q=es.length:=by omega
    have htk:(Ay es).take (es.length+1)=Ay es:=by
     refine List.take_of_length_le ?_;simp[Ay]
    have HP:Hid (PO (.returned (.slice aV (es.length+1) cV)) wr):=by
     show PO _ _;rw[<-HPO.out];rw[htk]at i2;exact⟨HW3.out.trans (i1.below (fun k h=>by subst h;omega) HW3.out.size),_,rfl,i2.mono fun _ _=>trivial⟩
    clear hI i1 i2 i3 hsz htk;have q1: ¬(es.length:Int)<(es.length:Int):=by omega
    go_wp2;exact HP.out
def RrI (D:Nat->Prop) (w:World) (es:List A0) (q:Nat) (wr:World) (V:Value):Prop:=
 Below w.heap.size w wr/\An D w.heap.size 64 8 wr (D0 ((Ay es).take (q+1))) V
theorem Qd (es:List A0) (M:Nat) (D:Nat->Prop) (a:Option Addr) (n c:Nat) (w:World) (hM:w.cell? ⟨M,0,none⟩=some (.slice a n c)) (h:Ag D w (.row 7 (dO es)) [.slice a n c]) (hD: ∀i,D i->i<w.heap.size) (hl:es.length<=10000000):Calls Tryz.prog 26 #[.pointer (some ⟨M,0,none⟩)] w (Fr (Ay es) w):=by
 obtain⟨PO,hPO⟩: ∃P:Ending->World->Prop,Fr (Ay es) w=P:=⟨_,rfl⟩;rw[hPO];have hn:=h.now.row_len;rw[Az]at hn;subst hn;have lM:M<w.heap.size:=World.block_lt_of_cell? w _ hM;obtain⟨w1,hw1⟩: ∃w1,w.alloc (.cells #[.int .i64 3,.string ⟨#[]⟩,.int .i64 0,.bool false,.int .i64 0,.string ⟨#[]⟩,.slice none 0 0,.slice none 0 0] 64)=w1:=⟨_,rfl⟩;have hb1:Below w.heap.size w w1:=hw1▸Ac _ _;have hrow:An D w.heap.size 64 8 w1 [dQ ⟨3,⟨#[]⟩,A6⟩] (.slice (some ⟨w.heap.size,0,none⟩) 1 1):=by
  rw[<-hw1];exact An.lit (cs:= #[.int .i64 3,.string ⟨#[]⟩,.int .i64 0,.bool false,.int .i64 0,.string ⟨#[]⟩,.slice none 0 0,.slice none 0 0]) (Nat.le_refl _) (Em _) (G9 (fun _ _ _=>Dv _ _))
 have HI0:Hid (RrI D w es 0 w1 (.slice (some ⟨w.heap.size,0,none⟩) 1 1)):=⟨hb1,hrow⟩;obtain⟨j0,hj,hy0,hy1,hy2⟩:=info_parts L7;obtain⟨HPO,H,Hj,Hy0,Hy1,Hy2⟩:=hid6 hPO h hj hy0 hy1 hy2;clear hPO h hj hy0 hy1 hy2;clear hb1 hrow;go_enter Tryz.func26,Tryz.ntmps26;go_wp2_with (fail);clear hw1;go_loopw [3,4] (fun V i wr=> ∃q:Nat,i=.int .i64 q/\q<=es.length/\Hid (RrI D w es q wr V)) (fun _ i _=>es.length - (intOf i).toNat)
 case atStart=>exact⟨0,rfl,Nat.zero_le _,HI0⟩
 case round=>
  obtain⟨q,rfl,hq,hI⟩:=hrel;clear HI0;obtain⟨i1,i2⟩:=hI.out;have hsz:(D0 ((Ay es).take (q+1))).length=q+1:=by
   rw[C7,List.length_take];simp[Ay];omega
  obtain⟨aV,cV,rfl⟩:=i2.slice_n hsz;have hz:=i1.size;have m0:wr.cell? ⟨M,0,none⟩=some (.slice a es.length c):=(i1.cell (p:=⟨M,0,none⟩) lM).trans hM;have lMr:M<wr.heap.size:=by omega
  by_cases hlt:q<es.length
  . obtain⟨⟨key,⟨k',b',n',t',l',o'⟩⟩,hx⟩: ∃v,es[q]? =some v:=⟨_,List.getElem?_eq_getElem hlt⟩;have hb0:=i2.base;obtain⟨g,off,rfl,hg,la,lc,oa,oc,hv,d0,d1,d2,d3,d4,d5,d6⟩:=Hu H.out hx;obtain⟨c0,c1,c2,c3,c4,c5,c6⟩:wr.cell? ⟨g,off+q*7,none⟩=some (.string key)/\wr.cell? ⟨g,off+q*7+1,none⟩=some (.int .i64 k')/\wr.cell? ⟨g,off+q*7+2,none⟩=some (.bool b')/\wr.cell? ⟨g,off+q*7+3,none⟩=some (.int .i64 n')/\wr.cell? ⟨g,off+q*7+4,none⟩=some (.string t')/\wr.cell? ⟨g,off+q*7+5,none⟩=some (.slice la l'.length lc)/\wr.cell? ⟨g,off+q*7+6,none⟩=some (.slice oa o'.length oc):=⟨(i1.cell hg).trans d0,(i1.cell hg).trans d1,(i1.cell hg).trans d2,(i1.cell hg).trans d3,(i1.cell hg).trans d4,(i1.cell hg).trans d5,(i1.cell hg).trans d6⟩;have hgr:g<wr.heap.size:=by omega
    have htk:D0 ((Ay es).take (q+1))++ [dQ ⟨1,key,.mk k' b' n' t' l' o'⟩]=D0 ((Ay es).take (q+1+1)):=by
     unfold D0;rw[List.take_add_one (i:=q+1)];simp[Ay,hx]
    have hbn:=Ac wr.drew (.cells #[.int .i64 1,.string key,.int .i64 k',.bool b',.int .i64 n',.string t',.slice la l'.length lc,.slice oa o'.length oc] 64);have hvr:=(hv.below i1).below (Below.drew (Below.refl _ wr));have hd:Ag (fun i=>D i/\(Value.slice aV (q+1) cV).ownBlock≠some i) (wr.drew.alloc (.cells #[.int .i64 1,.string key,.int .i64 k',.bool b',.int .i64 n',.string t',.slice la l'.length lc,.slice oa o'.length oc] 64)) (dQ ⟨1,key,.mk k' b' n' t' l' o'⟩) [.int .i64 1,.string key,.int .i64 k',.bool b',.int .i64 n',.string t',.slice la l'.length lc,.slice oa o'.length oc]:=
     (G9 (hvr.below hbn)).mono fun i _ hi=>⟨hi,fun e=>by have:=(hb0 i e).1;have:=hD i hi;omega⟩
    have Hr2:=qz ((i2.below (Below.drew (Below.refl _ wr))).below hbn);have Hrd:=qz (B5 (Ao.new wr.drew 64 #[.int .i64 1,.string key,.int .i64 k',.bool b',.int .i64 n',.string t',.slice la l'.length lc,.slice oa o'.length oc]));have hbb:Below wr.heap.size wr (wr.drew.alloc (.cells #[.int .i64 1,.string key,.int .i64 k',.bool b',.int .i64 n',.string t',.slice la l'.length lc,.slice oa o'.length oc] 64)):=(Below.drew (Below.refl _ wr)).trans hbn;have q1:(q:Int)<(es.length:Int):=by omega
    have q0:(0:Int)<=q:=by omega
    have Hcm:Hid (∀(W:World),Below w.heap.size (wr.drew.alloc (.cells #[.int .i64 1,.string key,.int .i64 k',.bool b',.int .i64 n',.string t',.slice la l'.length lc,.slice oa o'.length oc] 64)) W-> ∀b o,b<w.heap.size->W.cell? ⟨b,o,none⟩=wr.cell? ⟨b,o,none⟩):=fun W hW b o hb=>(hW.cell (p:=⟨b,o,none⟩) hb).trans (hbb.cell (p:=⟨b,o,none⟩) (by show b<_;omega));have hzb:=hbb.size;obtain⟨Hd,Htk,Hsz,I1,Hb0,Hbb⟩:=hid6 hd htk hsz i1 hb0 hbb;clear hd htk hsz i1 hb0 hbb;clear hI i2 hv hvr hx d0 d1 d2 d3 d4 d5 d6 hbn;go_upto_region 5 with(fail);refine wp_region_held_drew (S:=fun Y:World=>Y.cell? ⟨M,0,none⟩=some (.slice (some ⟨g,off,none⟩) es.length c)/\Y.cell? ⟨g,off+q*7,none⟩=some (.string key)/\Y.cell? ⟨g,off+q*7+1,none⟩=some (.int .i64 k')/\Y.cell? ⟨g,off+q*7+2,none⟩=some (.bool b')/\Y.cell? ⟨g,off+q*7+3,none⟩=some (.int .i64 n')/\Y.cell? ⟨g,off+q*7+4,none⟩=some (.string t')/\Y.cell? ⟨g,off+q*7+5,none⟩=some (.slice la l'.length lc)/\Y.cell? ⟨g,off+q*7+6,none⟩=some (.slice oa o'.length oc)) (by kernel_rfl) ⟨m0,c0,c1,c2,c3,c4,c5,c6⟩ (fun hHeld=> ?_);refine tkH 0 hHeld ?_;refine tkH 1 hHeld ?_;refine tkH 2 hHeld ?_;refine tkH 3 hHeld ?_;refine tkH 4 hHeld ?_;refine tkH 5 hHeld ?_;refine tkH 6 hHeld ?_;refine tkH 7 hHeld ?_;refine tkH 8 hHeld ?_;refine tkH 9 hHeld ?_;refine tkH 10 hHeld ?_;refine tkH 11 hHeld ?_;refine tkH 12 hHeld ?_;refine tkH 13 hHeld ?_;refine tkH 14 hHeld ?_;refine tkH 15 hHeld ?_;refine tkH 16 hHeld ?_;refine tkH 17 hHeld ?_;refine Iu 18 fun K hK=> ?_;go_simp;refine hK.out _ _ ?_ (fun hHeld=> ?_)
    case refine_1=>
     have h1:=Hcm.out _ (Below.refl _ _);exact⟨(h1 _ _ lM).trans m0,(h1 _ _ hg).trans c0,(h1 _ _ hg).trans c1,(h1 _ _ hg).trans c2,(h1 _ _ hg).trans c3,(h1 _ _ hg).trans c4,(h1 _ _ hg).trans c5,(h1 _ _ hg).trans c6⟩
    clear hK K
    try simp only[Act.put,tk1,tk2,tk3,tk4,tk5,tk6]
    refine Iu 19 fun K hK=> ?_;refine F2 (d:=dQ ⟨1,key,.mk k' b' n' t' l' o'⟩) (V:=.slice aV (q+1) cV) (by rfl) (.tmp 16) (.tmp 34) 22 (by rfl) Tryz.underlying22 Hj.out Hy0.out Hy1.out Hy2.out rfl (by omega) (by rfl) Hr2.out (by exact Nat.le_trans hz hzb) (Em _) Hd.out (by rfl) Hrd.out (by rw[Hsz.out];simp only[maxLen];omega) (by rw[Hsz.out];omega) ?_;intro V6 w6 hr6 hg6 hat6;rw[Htk.out]at hr6;have hW6:Below w.heap.size (wr.drew.alloc (.cells #[.int .i64 1,.string key,.int .i64 k',.bool b',.int .i64 n',.string t',.slice la l'.length lc,.slice oa o'.length oc] 64)) w6:=(Below.refl _ _).grown hg6 (by exact Nat.le_trans hz hzb) (fun k hk=>(Hb0.out k hk).1);have HN:Hid (RrI D w es (q+1) w6 V6):=⟨(I1.out.trans (Hbb.out.mono hz)).trans hW6,hr6⟩;have hs6:(D0 ((Ay es).take (q+1+1))).length=q+1+1:=by
     rw[C7,List.length_take];simp[Ay];omega
    obtain⟨a6,c6',rfl⟩:=hr6.slice_n hs6;have h1:=Hcm.out _ hW6;refine hK.out _ _ ⟨(h1 _ _ lM).trans m0,(h1 _ _ hg).trans c0,(h1 _ _ hg).trans c1,(h1 _ _ hg).trans c2,(h1 _ _ hg).trans c3,(h1 _ _ hg).trans c4,(h1 _ _ hg).trans c5,(h1 _ _ hg).trans c6⟩ (fun hHeld=> ?_);clear hK K hr6 hg6 hat6 Hd Hr2 Hrd Hcm h1 hW6 hs6
    try simp only[Act.put,tk1,tk2,tk3,tk4,tk5,tk6]
    refine tkH 20 hHeld ?_;refine wpAnyH_done (by kernel_rfl) ?_ _;clear hHeld;go_wp2;go_roundw
    case rel=>exact⟨q+1,by go_num,by omega,HN⟩
    case measure=>simp only[intOf];omega
  . obtain rfl:q=es.length:=by omega
    have htk:(Ay es).take (es.length+1)=Ay es:=by
     refine List.take_of_length_le ?_;simp[Ay]
    have HP:Hid (PO (.returned (.slice aV (es.length+1) cV)) wr):=by
     show PO _ _;rw[<-HPO.out];rw[htk]at i2;exact⟨i1,_,rfl,i2.mono fun _ _=>trivial⟩
    clear hI i1 i2 hsz htk;have q1: ¬(es.length:Int)<(es.length:Int):=by omega
    go_wp2;exact HP.out
end Go.Proofs.YtdbejcbbhomdbaaGreatDoor
