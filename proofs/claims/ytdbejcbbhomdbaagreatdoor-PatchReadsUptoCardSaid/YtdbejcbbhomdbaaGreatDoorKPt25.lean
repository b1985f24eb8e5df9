/- Parts: An op as the reference reads it; what has just these keys. Plain. No condition. -/
import Derived.Deep.RegionHeld
import Derived.Test.YtdbejcbbhomdbaaGreatDoorKPt23
set_option maxHeartbeats 20000000
set_option maxRecDepth 100000
namespace Go.Proofs.YtdbejcbbhomdbaaGreatDoor
open Go Go.RowKit
def Aa7 (a:Val):Prop:= ∀(b:Val) (cs cs':List Value) (w:World),Aa w w.heap.size a cs->Aa w w.heap.size b cs'->a.bulk<=100000000->b.bulk<=100000000->
    Calls Tryz.prog 104 #[.agg cs.toArray,.agg cs'.toArray] w (Bm (Dv a b=true) w)
theorem W5 (key key':ByteArray) (a0 a1 a2 a3 a4 a5 b0 b1 b2 b3 b4 b5:Value) (w:World) (Q:Prop)
 (hC: ∀W,Below w.heap.size w W->Calls Tryz.prog 104 #[.agg #[a0,a1,a2,a3,a4,a5],.agg #[b0,b1,b2,b3,b4,b5]] W (Bm Q W)):
 Calls Tryz.prog 157 #[.agg #[.string key,a0,a1,a2,a3,a4,a5],.agg #[.string key',b0,b1,b2,b3,b4,b5]] w (Bm (key=key'/\Q) w):=by
 have HA:=qz (fun W=>Qd key key' W);have HC:=qz hC;clear hC;go_enter Tryz.func157,Tryz.ntmps157;go_wp2_with (fail);(with_reducible refine(HA.out _).mono ?_);rintro e w1 ⟨c,rfl,hc,rfl⟩;by_cases hc0:c=0
 . have hk:=hc.1 hc0;subst hc0;have Hk:=qz hk;clear hk;clear hc;go_wp2_with (fail);(with_reducible refine(HC.out _ (Cw _ _ _)).mono ?_);rintro e w' ⟨c',rfl,hc',hb'⟩;have hf:c'=0 ↔ key=key'/\Q:=⟨fun e=>⟨Hk.out,hc'.1 e⟩,fun e=>hc'.2 e.2⟩;have Hw:=qz ((Cw w (.cells #[.string key,a0,a1,a2,a3,a4,a5] 88) (.cells #[.string key',b0,b1,b2,b3,b4,b5] 88)).trans (hb'.mono (by simp;omega)));have Hf:=qz hf;clear hf;clear hc' hb';go_wp2;go_ret;exact Bm.of Hf.out Hw.out
 . have hf:c=0 ↔ key=key'/\Q:=⟨fun e=>absurd e hc0,fun e=>absurd (hc.2 e.1) hc0⟩;have f1:(c==0)=false:=by simpa using hc0
   have f2:(c != 0)=true:=by simpa using hc0
   have Hf:=qz hf;clear hf;clear hc hc0;go_wp2;go_ret;exact Bm.of Hf.out (Cw _ _ _)
theorem Sz (l l':List Val) (la la':Option Addr) (lc lc' B0:Nat) (w:World) (hB0:B0<=w.heap.size) (IH: ∀v ∈ l,Aa7 v)
 (hl:l= []\/ ∃g off,la=some ⟨g,off,none⟩/\g<B0/\Ai w B0 l g off) (hl':l'= []\/ ∃g off,la'=some ⟨g,off,none⟩/\g<B0/\Ai w B0 l' g off)
 (hb:A6 l<=100000000) (hb':A6 l'<=100000000):
 Calls Tryz.prog 155 #[.slice la l.length lc,.slice la' l'.length lc',.func (.func 104) #[] #[]] w (Bm (M8 l l'=true) w):=by
 have hln:=Ch l;have hln':=Ch l';have HI:=qz IH;have H0:Hid (∀j x y,j<0->l[j]? =some x->l'[j]? =some y->Dv x y=true):=fun _ _ _ e=>absurd e (Nat.not_lt_zero _);have HBB:Hid (Below w.heap.size w w):=Below.refl _ _;obtain⟨p,hp⟩: ∃p:Prop,(M8 l l'=true)=p:=⟨_,rfl⟩;rw[hp];have Hp:=qz hp;clear IH hp;obtain⟨M,⟨hM1,hM2,hM3⟩,hM⟩: ∃M:Nat,(M<=l.length/\M<=l'.length/\(M=l.length\/M=l'.length))/\(min (l.length:Int) (l'.length:Int))=M:=⟨min l.length l'.length,⟨by omega,by omega,by omega⟩,by omega⟩;have hM':(if(l'.length:Int)<(l.length:Int)then(l'.length:Int)else(l.length:Int))=M:=by rw[<-hM];split<;>omega
 have hM'':(if(l.length:Int)<(l'.length:Int)then(l.length:Int)else(l'.length:Int))=M:=by rw[<-hM];split<;>omega
 go_enter Tryz.func155,Tryz.ntmps155;go_wp2_with (fail);go_loopw [14] (fun i wr=> ∃k:Nat,i=.int .i64 k/\k<=M/\Hid (∀j x y,j<k->l[j]? =some x->l'[j]? =some y->Dv x y=true)/\Hid (Below w.heap.size w wr)) (fun i _=>M - (intOf i).toNat)
 case atStart=>exact⟨0,rfl,Nat.zero_le _,H0,HBB⟩
 case round=>
  obtain⟨k,rfl,hk,ht,hbw⟩:=hrel;clear H0 HBB hM hM' hM'';by_cases hlt:k<M
  . have hk1:k<l.length:=by omega
    have hk2:k<l'.length:=by omega
    have hz:=hbw.out.size;obtain⟨g,off,rfl,hg,hL⟩: ∃g off,la=some ⟨g,off,none⟩/\g<B0/\Ai w B0 l g off:=by
     rcases hl with rfl|h
     . simp at hk1
     . exact h
    obtain⟨g',off',rfl,hg',hL'⟩: ∃g off,la'=some ⟨g,off,none⟩/\g<B0/\Ai w B0 l' g off:=by
     rcases hl' with rfl|h
     . simp at hk2
     . exact h
    obtain⟨x,hx⟩: ∃v,l[k]? =some v:=⟨_,List.getElem?_eq_getElem hk1⟩;obtain⟨y,hy⟩: ∃v,l'[k]? =some v:=⟨_,List.getElem?_eq_getElem hk2⟩;have hxm:=List.mem_of_getElem? hx;have hym:=List.mem_of_getElem? hy;have hxb:=Cp hxm;have hyb:=Cp hym;have IHx:=HI.out _ hxm;have hxy:Dv x y=true->(∀j x y,j<k+1->l[j]? =some x->l'[j]? =some y->Dv x y=true):=by
     intro e j x' y' hj h1 h2;rcases Nat.lt_succ_iff_lt_or_eq.1 hj with hj|rfl
     . exact ht.out j x' y' hj h1 h2
     . rw[hx]at h1;rw[hy]at h2;rw[<-Option.some.inj h1,<-Option.some.inj h2];exact e
    have hxn: ¬Dv x y=true-> ¬p:=fun e h=>by
     rw[<-Hp.out]at h;exact e ((Mh.1 h).2 k x y hx hy)
    obtain⟨k1,b1',n1,t1,l1,o1⟩:=x;obtain⟨k2,b2',n2,t2,l2,o2⟩:=y;obtain⟨la1,lc1,oa1,oc1,hv1,c0,c1,c2,c3,c4,c5⟩:=(hL.below hg (hbw.out.mono hB0)).six hx;obtain⟨la2,lc2,oa2,oc2,hv2,e0,e1,e2,e3,e4,e5⟩:=(hL'.below hg' (hbw.out.mono hB0)).six hy;have CC:=fun(W:World) (hW:Below wr.heap.size wr W)=>IHx _ _ _ W (Aa.more (Nat.le_trans hB0 (Nat.le_trans hz hW.size)) _ _ (hv1.below (hW.mono (Nat.le_trans hB0 hz)))) (Aa.more (Nat.le_trans hB0 (Nat.le_trans hz hW.size)) _ _ (hv2.below (hW.mono (Nat.le_trans hB0 hz)))) (by omega) (by omega);obtain⟨Q,hQ⟩: ∃Q:Prop,(Dv (Val.mk k1 b1' n1 t1 l1 o1) (Val.mk k2 b2' n2 t2 l2 o2)=true)=Q:=⟨_,rfl⟩;rw[hQ]at CC hxy;have Hxn:Hid (¬Q-> ¬p):=by rw[<-hQ];exact hxn
    have hgr:g<wr.heap.size:=by omega
    have hgr':g'<wr.heap.size:=by omega
    have hq1:(k:Int)<(M:Int):=by omega
    have hq2:(k:Int)<(l.length:Int):=by omega
    have hq3:(k:Int)<(l'.length:Int):=by omega
    have hq0:(0:Int)<=k:=by omega
    obtain⟨CC',Hxy⟩:=hid2 CC hxy;clear CC hxy;clear hQ hxn IHx hxb hyb hxm hym hv1 hv2 hx hy hL hL' hg hg' ht;go_upto_region 4 with(fail)
    go_region_with (go_at_call 104;(with_reducible refine(CC'.out _ (Below.drew (Below.refl _ _))).mono ?_);rintro e w4 ⟨c,rfl,hc,hb4⟩)
    all_goals
     have Hc:=qz hc;have hb4':Below wr.heap.size wr w4:=(Below.drew (Below.refl _ _)).trans hb4;have hbw4:=qz (hbw.out.trans (hb4'.mono hz));clear hc hb4 hb4' hbw CC' c0 c1 c2 c3 c4 c5 e0 e1 e2 e3 e4 e5;by_cases hc0:c=0
     . have Hn:=qz (Hxy.out (Hc.out.1 hc0));subst hc0;clear Hc;go_wp2;go_roundw
       case rel=>exact⟨k+1,by go_num,by omega,Hn,hbw4⟩
       case measure=>simp only[intOf];omega
     . have hne:=Hxn.out (fun e=>hc0 (Hc.out.2 e));have f1:(c==0)=false:=by simpa using hc0
       have f2:(c != 0)=true:=by simpa using hc0
       have Hf:Hid (c=0 ↔ p):=⟨fun e=>absurd e hc0,fun e=>absurd e hne⟩;clear Hc hne hc0;go_wp2;go_ret;exact Bm.of Hf.out hbw4.out
  . obtain rfl:k=M:=by omega
    have hq1: ¬(k:Int)<(k:Int):=by omega
    have cN:=fun w=>Pl (l.length:Int) (l'.length:Int) w;obtain⟨C,hC⟩: ∃C,Ma (l.length:Int) (l'.length:Int)=C:=⟨_,rfl⟩;rw[hC]at cN;have HN:=qz cN;have Hf:Hid (C=0 ↔ p):=by
     show _ ↔ _;rw[<-hC,H9,<-Hp.out];constructor
     . intro h;exact Mh.2 ⟨by omega,fun j x y h1 h2=>ht.out j x y (by have:=(List.getElem?_eq_some_iff.1 h1).1;omega) h1 h2⟩
     . intro h;have:=(Mh.1 h).1;omega
    clear cN hC ht hl hl';go_wp2_with (fail);(with_reducible refine(HN.out _).mono ?_);rintro e w' ⟨rfl,rfl⟩;go_wp2;go_ret;exact Bm.of Hf.out hbw.out
theorem S5 (l l':List (ByteArray×Val)) (la la':Option Addr) (lc lc' B0:Nat) (w:World) (hB0:B0<=w.heap.size) (IH: ∀m ∈ l,Aa7 m.2)
 (hl:l= []\/ ∃g off,la=some ⟨g,off,none⟩/\g<B0/\Ak w B0 l g off) (hl':l'= []\/ ∃g off,la'=some ⟨g,off,none⟩/\g<B0/\Ak w B0 l' g off)
 (hb:Ag l<=100000000) (hb':Ag l'<=100000000):
 Calls Tryz.prog 156 #[.slice la l.length lc,.slice la' l'.length lc',.func (.func 157) #[] #[]] w (Bm (M9 l l'=true) w):=by
 have hln:=Bu l;have hln':=Bu l';have HI:=qz IH;have H0:Hid (∀j x y,j<0->l[j]? =some x->l'[j]? =some y->Q5 x y=true):=fun _ _ _ e=>absurd e (Nat.not_lt_zero _);have HBB:Hid (Below w.heap.size w w):=Below.refl _ _;obtain⟨p,hp⟩: ∃p:Prop,(M9 l l'=true)=p:=⟨_,rfl⟩;rw[hp];have Hp:=qz hp;clear IH hp;obtain⟨M,⟨hM1,hM2,hM3⟩,hM⟩: ∃M:Nat,(M<=l.length/\M<=l'.length/\(M=l.length\/M=l'.length))/\(min (l.length:Int) (l'.length:Int))=M:=⟨min l.length l'.length,⟨by omega,by omega,by omega⟩,by omega⟩;have hM':(if(l'.length:Int)<(l.length:Int)then(l'.length:Int)else(l.length:Int))=M:=by rw[<-hM];split<;>omega
 have hM'':(if(l.length:Int)<(l'.length:Int)then(l.length:Int)else(l'.length:Int))=M:=by rw[<-hM];split<;>omega
 go_enter Tryz.func156,Tryz.ntmps156;go_wp2_with (fail);go_loopw [14] (fun i wr=> ∃k:Nat,i=.int .i64 k/\k<=M/\Hid (∀j x y,j<k->l[j]? =some x->l'[j]? =some y->Q5 x y=true)/\Hid (Below w.heap.size w wr)) (fun i _=>M - (intOf i).toNat)
 case atStart=>exact⟨0,rfl,Nat.zero_le _,H0,HBB⟩
 case round=>
  obtain⟨k,rfl,hk,ht,hbw⟩:=hrel;clear H0 HBB hM hM' hM'';by_cases hlt:k<M
  . have hk1:k<l.length:=by omega
    have hk2:k<l'.length:=by omega
    have hz:=hbw.out.size;obtain⟨g,off,rfl,hg,hL⟩: ∃g off,la=some ⟨g,off,none⟩/\g<B0/\Ak w B0 l g off:=by
     rcases hl with rfl|h
     . simp at hk1
     . exact h
    obtain⟨g',off',rfl,hg',hL'⟩: ∃g off,la'=some ⟨g,off,none⟩/\g<B0/\Ak w B0 l' g off:=by
     rcases hl' with rfl|h
     . simp at hk2
     . exact h
    obtain⟨x,hx⟩: ∃v,l[k]? =some v:=⟨_,List.getElem?_eq_getElem hk1⟩;obtain⟨y,hy⟩: ∃v,l'[k]? =some v:=⟨_,List.getElem?_eq_getElem hk2⟩;have hxm:=List.mem_of_getElem? hx;have hym:=List.mem_of_getElem? hy;have hxb:=Ca hxm;have hyb:=Ca hym;have IHx:=HI.out _ hxm;have hxy:Q5 x y=true->(∀j x y,j<k+1->l[j]? =some x->l'[j]? =some y->Q5 x y=true):=by
     intro e j x' y' hj h1 h2;rcases Nat.lt_succ_iff_lt_or_eq.1 hj with hj|rfl
     . exact ht.out j x' y' hj h1 h2
     . rw[hx]at h1;rw[hy]at h2;rw[<-Option.some.inj h1,<-Option.some.inj h2];exact e
    have hxn: ¬Q5 x y=true-> ¬p:=fun e h=>by
     rw[<-Hp.out]at h;exact e ((Mi.1 h).2 k x y hx hy)
    obtain⟨key,⟨k1,b1',n1,t1,l1,o1⟩⟩:=x;obtain⟨key',⟨k2,b2',n2,t2,l2,o2⟩⟩:=y;obtain⟨la1,lc1,oa1,oc1,hv1,c0,c1,c2,c3,c4,c5,c6⟩:=(hL.below hg (hbw.out.mono hB0)).seven hx;obtain⟨la2,lc2,oa2,oc2,hv2,e0,e1,e2,e3,e4,e5,e6⟩:=(hL'.below hg' (hbw.out.mono hB0)).seven hy;simp only at IHx hxb hyb;have CC:=fun(W:World) (hW:Below wr.heap.size wr W)=>W5 key key' _ _ _ _ _ _ _ _ _ _ _ _ W _ (fun W' hW'=>IHx _ _ _ W' (Aa.more (Nat.le_trans hB0 (Nat.le_trans hz (Nat.le_trans hW.size hW'.size))) _ _ ((hv1.below (hW.mono (Nat.le_trans hB0 hz))).below (hW'.mono (Nat.le_trans hB0 (Nat.le_trans hz hW.size))))) (Aa.more (Nat.le_trans hB0 (Nat.le_trans hz (Nat.le_trans hW.size hW'.size))) _ _ ((hv2.below (hW.mono (Nat.le_trans hB0 hz))).below (hW'.mono (Nat.le_trans hB0 (Nat.le_trans hz hW.size))))) (by omega) (by omega));obtain⟨Q,hQ⟩: ∃Q:Prop,(Q5 (key,Val.mk k1 b1' n1 t1 l1 o1) (key',Val.mk k2 b2' n2 t2 l2 o2)=true)=Q:=⟨_,rfl⟩;have hQ2:(key=key'/\Dv (Val.mk k1 b1' n1 t1 l1 o1) (Val.mk k2 b2' n2 t2 l2 o2)=true)=Q:=by rw[<-hQ];simp[Q5]
    rw[hQ2]at CC;clear hQ2;rw[hQ]at hxy;have Hxn:Hid (¬Q-> ¬p):=by rw[<-hQ];exact hxn
    have hgr:g<wr.heap.size:=by omega
    have hgr':g'<wr.heap.size:=by omega
    have hq1:(k:Int)<(M:Int):=by omega
    have hq2:(k:Int)<(l.length:Int):=by omega
    have hq3:(k:Int)<(l'.length:Int):=by omega
    have hq0:(0:Int)<=k:=by omega
    obtain⟨CC',Hxy⟩:=hid2 CC hxy;clear CC hxy;clear hQ hxn IHx hxb hyb hxm hym hv1 hv2 hx hy hL hL' hg hg' ht;go_upto_region 4 with(fail)
    go_region_with (go_at_call 157;(with_reducible refine(CC'.out _ (Below.drew (Below.refl _ _))).mono ?_);rintro e w4 ⟨c,rfl,hc,hb4⟩)
    all_goals
     have Hc:=qz hc;have hb4':Below wr.heap.size wr w4:=(Below.drew (Below.refl _ _)).trans hb4;have hbw4:=qz (hbw.out.trans (hb4'.mono hz));clear hc hb4 hb4' hbw CC' c0 c1 c2 c3 c4 c5 c6 e0 e1 e2 e3 e4 e5 e6;by_cases hc0:c=0
     . have Hn:=qz (Hxy.out (Hc.out.1 hc0));subst hc0;clear Hc;go_wp2;go_roundw
       case rel=>exact⟨k+1,by go_num,by omega,Hn,hbw4⟩
       case measure=>simp only[intOf];omega
     . have hne:=Hxn.out (fun e=>hc0 (Hc.out.2 e));have f1:(c==0)=false:=by simpa using hc0
       have f2:(c != 0)=true:=by simpa using hc0
       have Hf:Hid (c=0 ↔ p):=⟨fun e=>absurd e hc0,fun e=>absurd e hne⟩;clear Hc hne hc0;go_wp2;go_ret;exact Bm.of Hf.out hbw4.out
  . obtain rfl:k=M:=by omega
    have hq1: ¬(k:Int)<(k:Int):=by omega
    have cN:=fun w=>Pl (l.length:Int) (l'.length:Int) w;obtain⟨C,hC⟩: ∃C,Ma (l.length:Int) (l'.length:Int)=C:=⟨_,rfl⟩;rw[hC]at cN;have HN:=qz cN;have Hf:Hid (C=0 ↔ p):=by
     show _ ↔ _;rw[<-hC,H9,<-Hp.out];constructor
     . intro h;exact Mi.2 ⟨by omega,fun j x y h1 h2=>ht.out j x y (by have:=(List.getElem?_eq_some_iff.1 h1).1;omega) h1 h2⟩
     . intro h;have:=(Mi.1 h).1;omega
    clear cN hC ht hl hl';go_wp2_with (fail);(with_reducible refine(HN.out _).mono ?_);rintro e w' ⟨rfl,rfl⟩;go_wp2;go_ret;exact Bm.of Hf.out hbw.out
theorem Acy (k k':Int) (b b':Bool) (n n':Int) (t t':ByteArray) (x y x' y':Value) (w:World) (p:Prop) (h:k≠k') (hp: ¬p):
 Calls Tryz.prog 104 #[.agg #[.int .i64 k,.bool b,.int .i64 n,.string t,x,y],.agg #[.int .i64 k',.bool b',.int .i64 n',.string t',x',y']] w (Bm p w):=by
 have h1:(k==k')=false:=by simpa using h
 have h2:(k != k')=true:=by simpa using h
 obtain⟨C,hC⟩: ∃C,Ma k k'=C:=⟨_,rfl⟩;have cN:=fun w=>Xl k k' w;rw[hC]at cN;have HN:=qz cN;have Hc:Hid (C=0 ↔ p):=by
  show _ ↔ _;rw[<-hC,H9];exact⟨fun e=>absurd e h,fun e=>absurd e hp⟩
 clear cN hC h hp;go_enter Tryz.func104,Tryz.ntmps104;go_wp2_with (fail);(with_reducible refine(HN.out _).mono ?_);rintro e w' ⟨rfl,rfl⟩;go_wp2;go_ret;exact Bm.of Hc.out (Cw _ _ _)
theorem Aea (k:Int) (h2:k≠2) (h3:k≠3) (h4:k≠4) (h5:k≠5) (h6:k≠6) (b b':Bool) (n n':Int) (t t':ByteArray) (x y x' y':Value) (w:World) (p:Prop) (hp:p):
 Calls Tryz.prog 104 #[.agg #[.int .i64 k,.bool b,.int .i64 n,.string t,x,y],.agg #[.int .i64 k,.bool b',.int .i64 n',.string t',x',y']] w (Bm p w):=by
 have Hp:=qz hp;have e2:(k==2)=false:=by simpa using h2
 have e3:(k==3)=false:=by simpa using h3
 have e4:(k==4)=false:=by simpa using h4
 have e5:(k==5)=false:=by simpa using h5
 have e6:(k==6)=false:=by simpa using h6
 clear hp;go_enter Tryz.func104,Tryz.ntmps104;go_wp2;go_ret;exact Bm.of ⟨fun _=>Hp.out,fun _=>rfl⟩ (Cw _ _ _)
theorem Ad8 (b b':Bool) (n n':Int) (t t':ByteArray) (x y x' y':Value) (w:World) (p:Prop) (hp:n=n' ↔ p):
 Calls Tryz.prog 104 #[.agg #[.int .i64 3,.bool b,.int .i64 n,.string t,x,y],.agg #[.int .i64 3,.bool b',.int .i64 n',.string t',x',y']] w (Bm p w):=by
 obtain⟨C,hC⟩: ∃C,Ma n n'=C:=⟨_,rfl⟩;have cN:=fun w=>Pp n n' w;rw[hC]at cN;have HN:=qz cN;have Hc:Hid (C=0 ↔ p):=by
  show _ ↔ _;rw[<-hC,H9];exact hp
 clear cN hC hp;go_enter Tryz.func104,Tryz.ntmps104;go_wp2_with (fail);(with_reducible refine(HN.out _).mono ?_);rintro e w' ⟨rfl,rfl⟩;go_wp2;go_ret;exact Bm.of Hc.out (Cw _ _ _)
theorem Ac0 (b b':Bool) (n n':Int) (t t':ByteArray) (x y x' y':Value) (w:World) (p:Prop) (hp:t=t' ↔ p):
 Calls Tryz.prog 104 #[.agg #[.int .i64 4,.bool b,.int .i64 n,.string t,x,y],.agg #[.int .i64 4,.bool b',.int .i64 n',.string t',x',y']] w (Bm p w):=by
 have HN:=qz (fun w=>Qd t t' w);have Hp:=qz hp;clear hp;go_enter Tryz.func104,Tryz.ntmps104;go_wp2_with (fail);(with_reducible refine(HN.out _).mono ?_);rintro e w' ⟨c,rfl,hc,rfl⟩;have Hc:=qz (hc.trans Hp.out);clear hc;go_wp2;go_ret;exact Bm.of Hc.out (Cw _ _ _)
theorem Acx (b b':Bool) (n n':Int) (t t':ByteArray) (x y x' y':Value) (w:World) (p:Prop) (hp:b=b' ↔ p):
 Calls Tryz.prog 104 #[.agg #[.int .i64 2,.bool b,.int .i64 n,.string t,x,y],.agg #[.int .i64 2,.bool b',.int .i64 n',.string t',x',y']] w (Bm p w):=by
 have hR:=fun b w=>X1 b w;have HN:=qz (fun m m' w=>Pp m m' w);have hz:Ma (if b then 1 else 0) (if b' then 1 else 0)=0 ↔ p:=by
  rw[H9,<-hp]
  cases b<;>cases b'<;>simp
 obtain⟨r,hr⟩: ∃r:Int,(if b=true then 1 else 0)=r:=⟨_,rfl⟩;obtain⟨r',hr'⟩: ∃r:Int,(if b'=true then 1 else 0)=r:=⟨_,rfl⟩;have hR1:=fun w=>hR b w;have hR2:=fun w=>hR b' w;rw[hr]at hz hR1;rw[hr']at hz hR2;obtain⟨HR1,HR2,Hz⟩:=hid3 hR1 hR2 hz;clear hR1 hR2 hz;clear hR hp hr hr';go_enter Tryz.func104,Tryz.ntmps104;go_upto_region 9 with(fail)
 go_region_with (first|(go_at_call 152;first|((with_reducible refine(HR1.out _).mono ?_);rintro e w1 ⟨rfl,rfl⟩)|((with_reducible refine(HR2.out _).mono ?_);rintro e w1 ⟨rfl,rfl⟩)))
 all_goals
  go_wp2_with (fail);(with_reducible refine(HN.out _ _ _).mono ?_);rintro e w' ⟨rfl,rfl⟩;go_wp2;go_ret;exact Bm.of Hz.out (Below.drew (Cw _ _ _))
theorem Acz (b b':Bool) (n n':Int) (t t':ByteArray) (l l':List Val) (on on':Nat) (la oa la' oa':Option Addr) (lc oc lc' oc':Nat) (w:World) (p:Prop) (IH: ∀v ∈ l,Aa7 v) (hp:M8 l l'=true ↔ p)
 (hl:l= []\/ ∃g off,la=some ⟨g,off,none⟩/\g<w.heap.size/\Ai w w.heap.size l g off) (hl':l'= []\/ ∃g off,la'=some ⟨g,off,none⟩/\g<w.heap.size/\Ai w w.heap.size l' g off)
 (hb:A6 l<=100000000) (hb':A6 l'<=100000000):
 Calls Tryz.prog 104 #[.agg #[.int .i64 5,.bool b,.int .i64 n,.string t,.slice la l.length lc,.slice oa on oc],.agg #[.int .i64 5,.bool b',.int .i64 n',.string t',.slice la' l'.length lc',.slice oa' on' oc']] w (Bm p w):=by
 have hC:=fun(W:World) (hB:Below w.heap.size w W)=>Sz l l' la la' lc lc' w.heap.size W hB.size IH
  (hl.imp id fun⟨g,off,e,hg,h⟩=>⟨g,off,e,hg,h.below hg hB⟩) (hl'.imp id fun⟨g,off,e,hg,h⟩=>⟨g,off,e,hg,h.below hg hB⟩) hb hb'
 simp only[propext hp]at hC;have HC:=qz hC;clear hC;clear IH hp hl hl' hb hb';go_enter Tryz.func104,Tryz.ntmps104;go_wp2_with (fail);(with_reducible refine(HC.out _ (Cw _ _ _)).mono ?_);rintro e w' ⟨c,rfl,hc,hb⟩;have Hw:=qz ((Cw w (.cells #[.int .i64 5,.bool b,.int .i64 n,.string t,.slice la l.length lc,.slice oa on oc] 33) (.cells #[.int .i64 5,.bool b',.int .i64 n',.string t',.slice la' l'.length lc',.slice oa' on' oc'] 33)).trans (hb.mono (by simp;omega)));have Hc:=qz hc;clear hc;clear hb;go_wp2;go_ret;exact Bm.of Hc.out Hw.out
theorem Ad9 (b b':Bool) (n n':Int) (t t':ByteArray) (l l':List (ByteArray×Val)) (ln ln':Nat) (la oa la' oa':Option Addr) (lc oc lc' oc':Nat) (w:World) (p:Prop) (IH: ∀m ∈ l,Aa7 m.2) (hp:M9 l l'=true ↔ p)
 (hl:l= []\/ ∃g off,oa=some ⟨g,off,none⟩/\g<w.heap.size/\Ak w w.heap.size l g off) (hl':l'= []\/ ∃g off,oa'=some ⟨g,off,none⟩/\g<w.heap.size/\Ak w w.heap.size l' g off)
 (hb:Ag l<=100000000) (hb':Ag l'<=100000000):
 Calls Tryz.prog 104 #[.agg #[.int .i64 6,.bool b,.int .i64 n,.string t,.slice la ln lc,.slice oa l.length oc],.agg #[.int .i64 6,.bool b',.int .i64 n',.string t',.slice la' ln' lc',.slice oa' l'.length oc']] w (Bm p w):=by
 have hC:=fun(W:World) (hB:Below w.heap.size w W)=>S5 l l' oa oa' oc oc' w.heap.size W hB.size IH
  (hl.imp id fun⟨g,off,e,hg,h⟩=>⟨g,off,e,hg,h.below hg hB⟩) (hl'.imp id fun⟨g,off,e,hg,h⟩=>⟨g,off,e,hg,h.below hg hB⟩) hb hb'
 simp only[propext hp]at hC;have HC:=qz hC;clear hC;clear IH hp hl hl' hb hb';go_enter Tryz.func104,Tryz.ntmps104;go_wp2_with (fail);(with_reducible refine(HC.out _ (Cw _ _ _)).mono ?_);rintro e w' ⟨c,rfl,hc,hb⟩;have Hw:=qz ((Cw w (.cells #[.int .i64 6,.bool b,.int .i64 n,.string t,.slice la ln lc,.slice oa l.length oc] 33) (.cells #[.int .i64 6,.bool b',.int .i64 n',.string t',.slice la' ln' lc',.slice oa' l'.length oc'] 33)).trans (hb.mono (by simp;omega)));have Hc:=qz hc;clear hc;clear hb;go_wp2;go_ret;exact Bm.of Hc.out Hw.out
theorem Xz: ∀a,Aa7 a:=by
 refine Val.ind ?_;intro k b n t l o IHl IHo v cs cs' w hV hV' hb hb';obtain⟨k',b',n',t',l',o'⟩:=v;simp only[Aa]at hV hV';obtain⟨la,lc,oa,oc,rfl,hla,hoa⟩:=hV;obtain⟨la',lc',oa',oc',rfl,hla',hoa'⟩:=hV';simp only[Val.bulk]at hb hb';by_cases hkk:k≠k'
 . exact Acy k k' b b' n n' t t' _ _ _ _ w _ hkk (fun e=>by simp only[Dv,Bool.and_eq_true,decide_eq_true_eq]at e;exact hkk e.1)
 obtain rfl:k=k':=by omega
 by_cases h2:k=2
 . subst h2;exact Acx b b' n n' t t' _ _ _ _ w _ (by simp[Dv])
 by_cases h3:k=3
 . subst h3;exact Ad8 b b' n n' t t' _ _ _ _ w _ (by simp[Dv])
 by_cases h4:k=4
 . subst h4;exact Ac0 b b' n n' t t' _ _ _ _ w _ (by simp[Dv])
 by_cases h5:k=5
 . subst h5;exact Acz b b' n n' t t' l l' _ _ la oa la' oa' lc oc lc' oc' w _ IHl (by simp[Dv]) hla hla' (by omega) (by omega)
 by_cases h6:k=6
 . subst h6;exact Ad9 b b' n n' t t' o o' _ _ la oa la' oa' lc oc lc' oc' w _ IHo (by simp[Dv]) hoa hoa' (by omega) (by omega)
 exact Aea k h2 h3 h4 h5 h6 b b' n n' t t' _ _ _ _ w _ (by simp[Dv,h2,h3,h4,h5,h6])
theorem Wc (v v':Val) (cs cs':List Value) (w:World) (hV:Aa w w.heap.size v cs) (hV':Aa w w.heap.size v' cs') (hb:v.bulk<=100000000) (hb':v'.bulk<=100000000):
 Calls Tryz.prog 70 #[.agg cs.toArray,.agg cs'.toArray] w (B2 (Dv v v'=true) w):=by
 have hC:=fun(W:World) (hB:Below w.heap.size w W)=>Xz v v' cs cs' W (Aa.more hB.size _ _ (hV.below hB)) (Aa.more hB.size _ _ (hV'.below hB)) hb hb';generalize Dv v v'=B at hC ⊢;obtain⟨k,b,n,t,l,o⟩:=v;obtain⟨k',b',n',t',l',o'⟩:=v';simp only[Aa]at hV hV';obtain⟨la,lc,oa,oc,rfl,hla,hoa⟩:=hV;obtain⟨la',lc',oa',oc',rfl,hla',hoa'⟩:=hV';have HC:=qz hC;clear hC;clear hla hoa hla' hoa';go_enter Tryz.func70,Tryz.ntmps70;go_wp2_with (fail);(with_reducible refine(HC.out _ (Cx _ _ _)).mono ?_);rintro e w1 ⟨c,rfl,hc,hb1⟩;have hw:=(Cx w (.cells #[.int .i64 k,.bool b,.int .i64 n,.string t,.slice la l.length lc,.slice oa o.length oc] 33) (.cells #[.int .i64 k',.bool b',.int .i64 n',.string t',.slice la' l'.length lc',.slice oa' o'.length oc'] 33)).trans (hb1.mono (by simp;omega));by_cases h0:c=0
 . have h1:=hc.1 h0;subst h0;obtain⟨Hw,H1⟩:=hid2 hw h1;clear hw h1;clear hc hb1;go_wp2;go_ret;exact B2.yes H1.out Hw.out
 . have h1: ¬(B=true):=fun e=>h0 (hc.2 e);have f1:(c==0)=false:=by simpa using h0
   obtain⟨Hw,H1⟩:=hid2 hw h1;clear hw h1;clear hc hb1 h0;go_wp2;go_ret;exact B2.no H1.out Hw.out
theorem Ab7 {S:Nat->Prop} {s n c g off:Nat} {w:World} {l:List D} {q:Nat} {d:D} {u0 v1:Value} (h:Ac S w (.row s l) [.slice (some ⟨g,off,none⟩) n c]) (hi:l[q]? =some d) (hu: ∀(w:World) (B:Nat) cs,Ae w B d cs->cs[0]? =some u0) (hv:v1≠u0):
 S g/\ ∀cs:List Value,(∀j u,cs[j]? =some u->w.cell? ⟨g,off+q*s+j,none⟩=some u)->cs.length=s->Ac S w d cs:=by
 obtain⟨g',off',e,hg,cs0,h1,hl0,hc0⟩:=h.now.at_ hi
 cases e
 have hf:=hc0 0 u0 (hu _ _ _ h1);have hge:S g:=by
  refine Classical.byContradiction fun hlt=>hv ?_;obtain⟨g2,off2,e,_,cs1,h2,_,hc1⟩:=(h (w.setCell ⟨g,off+q*s+0,none⟩ v1) (by simp[World.setCell]) (fun p p1 p2=>World.cell?_setCell_far _ _ _ _ (by show g≠p.block;intro e;exact hlt (e▸p1)))).at_ hi
  cases e
  have:=hc1 0 u0 (hu _ _ _ h2);rw[World.cell?_setCell_same _ _ _ hf]at this;exact Option.some.inj this
 refine⟨hge,fun cs hcs hl w'' hs hk=> ?_⟩;obtain⟨g2,off2,e,_,cs2,h2,hl2,hc2⟩:=(h w'' hs hk).at_ hi
 cases e
 have:cs2=cs:=by
  refine List.ext_getElem? fun j=> ?_;by_cases hj:j<s
  . obtain⟨u,hu1⟩: ∃u,cs2[j]? =some u:=⟨_,List.getElem?_eq_getElem (by omega)⟩;obtain⟨u',hu2⟩: ∃u,cs[j]? =some u:=⟨_,List.getElem?_eq_getElem (by omega)⟩;have e1:=hc2 j u hu1;rw[hk _ hge hg,hcs j u' hu2]at e1;rw[hu1,hu2,Option.some.inj e1]
  . rw[List.getElem?_eq_none (by omega),List.getElem?_eq_none (by omega)]
 rw[<-this];exact h2
theorem Adw {S:Nat->Prop} {w:World} {k':Int} {b':Bool} {n':Int} {t':ByteArray} {l':List Val} {o':List (ByteArray×Val)} {x0 x1 x2 x3 x4 oa:Value} (h:Ac S w (dV (.mk k' b' n' t' l' o')) [x0,x1,x2,x3,x4,oa]):Ac S w (.row 7 (dO o')) [oa]:=fun w'' h1 h2=>Y5 (h w'' h1 h2)
theorem Adu {S:Nat->Prop} {w:World} {k':Int} {b':Bool} {n':Int} {t':ByteArray} {l':List Val} {o':List (ByteArray×Val)} {x0 x1 x2 x3 la x5:Value} (h:Ac S w (dV (.mk k' b' n' t' l' o')) [x0,x1,x2,x3,la,x5]):Ac S w (.row 6 (dL l')) [la]:=fun w'' h1 h2=>U8 (h w'' h1 h2)
theorem Abp {k':Int} {b':Bool} {n':Int} {t':ByteArray} {l':List Val} {o':List (ByteArray×Val)} (w:World) (B:Nat) (cs:List Value) (h:Ae w B (dV (.mk k' b' n' t' l' o')) cs):cs[0]? =some (.int .i64 k'):=by
 have h6:=Az _ _ h;simp only[Aa]at h6;obtain⟨la,lc,oa,oc,rfl,_,_⟩:=h6;rfl
theorem Vd {S:Nat->Prop} {w:World} {n c:Nat} {l:List (ByteArray×Val)} {a:Option Addr} (h:Ac S w (.row 7 (dO l)) [.slice a n c]) {q:Nat} {key:ByteArray} {k':Int} {b':Bool} {n':Int} {t':ByteArray} {l':List Val} {o':List (ByteArray×Val)} (hi:l[q]? =some (key,.mk k' b' n' t' l' o')):
 ∃g off,a=some ⟨g,off,none⟩/\g<w.heap.size/\ ∃la lc oa oc,Ac S w (dV (.mk k' b' n' t' l' o')) [.int .i64 k',.bool b',.int .i64 n',.string t',.slice la l'.length lc,.slice oa o'.length oc]/\
  w.cell? ⟨g,off+q*7,none⟩=some (.string key)/\w.cell? ⟨g,off+q*7+1,none⟩=some (.int .i64 k')/\w.cell? ⟨g,off+q*7+2,none⟩=some (.bool b')/\
  w.cell? ⟨g,off+q*7+3,none⟩=some (.int .i64 n')/\w.cell? ⟨g,off+q*7+4,none⟩=some (.string t')/\w.cell? ⟨g,off+q*7+5,none⟩=some (.slice la l'.length lc)/\w.cell? ⟨g,off+q*7+6,none⟩=some (.slice oa o'.length oc):=by
 obtain⟨g,off,rfl,hg,la,lc,oa,oc,_,c0,c1,c2,c3,c4,c5,c6⟩:=S6 h.now hi;refine⟨g,off,rfl,hg,la,lc,oa,oc, ?_,c0,c1,c2,c3,c4,c5,c6⟩;have hm:=(Ab7 (v1:=.bool false) h (d:=dP (key,.mk k' b' n' t' l' o')) (by rw[Dr,List.getElem?_map,hi];rfl) Abn (by simp)).2 [.string key,.int .i64 k',.bool b',.int .i64 n',.string t',.slice la l'.length lc,.slice oa o'.length oc] (fun j u hj=>by
  match j with
  |0=>cases hj;exact c0
  |1=>cases hj;exact c1
  |2=>cases hj;exact c2
  |3=>cases hj;exact c3
  |4=>cases hj;exact c4
  |5=>cases hj;exact c5
  |6=>cases hj;exact c6
  |j+7=>simp at hj) rfl
 exact fun w'' h1 h2=>Ae8 (hm w'' h1 h2)
theorem Adq {S:Nat->Prop} {w:World} {n c:Nat} {l:List Val} {a:Option Addr} (h:Ac S w (.row 6 (dL l)) [.slice a n c]) {q:Nat} {k':Int} {b':Bool} {n':Int} {t':ByteArray} {l':List Val} {o':List (ByteArray×Val)} (hi:l[q]? =some (.mk k' b' n' t' l' o')):
 ∃g off,a=some ⟨g,off,none⟩/\g<w.heap.size/\ ∃la lc oa oc,Ac S w (dV (.mk k' b' n' t' l' o')) [.int .i64 k',.bool b',.int .i64 n',.string t',.slice la l'.length lc,.slice oa o'.length oc]/\
  w.cell? ⟨g,off+q*6,none⟩=some (.int .i64 k')/\w.cell? ⟨g,off+q*6+1,none⟩=some (.bool b')/\
  w.cell? ⟨g,off+q*6+2,none⟩=some (.int .i64 n')/\w.cell? ⟨g,off+q*6+3,none⟩=some (.string t')/\w.cell? ⟨g,off+q*6+4,none⟩=some (.slice la l'.length lc)/\w.cell? ⟨g,off+q*6+5,none⟩=some (.slice oa o'.length oc):=by
 obtain⟨g,off,ea,hg,cs,h1,_,h3⟩:=h.now.at_ (i:=q) (d:=dV (.mk k' b' n' t' l' o')) (by rw[F3,List.getElem?_map,hi];rfl);have h6:=Az _ _ h1;simp only[Aa]at h6;obtain⟨la,lc,oa,oc,rfl,_,_⟩:=h6;subst ea;have c0:=h3 0 _ rfl;have c1:=h3 1 _ rfl;have c2:=h3 2 _ rfl;have c3:=h3 3 _ rfl;have c4:=h3 4 _ rfl;have c5:=h3 5 _ rfl;refine⟨g,off,rfl,hg,la,lc,oa,oc, ?_,c0,c1,c2,c3,c4,c5⟩;exact(Ab7 (v1:=.bool false) h (d:=dV (.mk k' b' n' t' l' o')) (by rw[F3,List.getElem?_map,hi];rfl) Abp (by simp)).2 _ (fun j u hj=>by
  match j with
  |0=>cases hj;exact c0
  |1=>cases hj;exact c1
  |2=>cases hj;exact c2
  |3=>cases hj;exact c3
  |4=>cases hj;exact c4
  |5=>cases hj;exact c5
  |j+6=>simp at hj) rfl
theorem Ac.base {S:Nat->Prop} {w0 w:World} {d:D} {cs:List Value} (h:Ac S w0 d cs) (hb:Below w0.heap.size w0 w):Ac (fun i=>S i/\i<w0.heap.size) w d cs:=fun w'' h1 h2=>
 (h w'' (Nat.le_trans hb.size h1) fun p p1 p2=>(h2 p ⟨p1,p2⟩ (Nat.lt_of_lt_of_le p2 hb.size)).trans (hb.cell p2)).more hb.size
theorem Ac.old_now {S:Nat->Prop} {w0 w:World} {d:D} {cs:List Value} (h:Ac S w0 d cs) (hb:Below w0.heap.size w0 w):Ae w w.heap.size d cs:=(h.below hb).now
theorem G9 {S:Nat->Prop} {w4:World} {k:Int} {b:Bool} {n:Int} {t:ByteArray} {l:List Val} {o:List (ByteArray×Val)} {cs:List Value} (h:Ac S w4 (dV (.mk k b n t l o)) cs): ∃la lc oa oc,cs= [.int .i64 k,.bool b,.int .i64 n,.string t,.slice la l.length lc,.slice oa o.length oc]:=by
 have h1:=Az _ _ h.now;simp only[Aa]at h1;obtain⟨la,lc,oa,oc,e,_,_⟩:=h1;exact⟨la,lc,oa,oc,e⟩
theorem Sy (S:Nat->Prop) (w:World):Ac S w (dV Lf) [.int .i64 0,.bool false,.int .i64 0,.string ⟨#[]⟩,.slice none 0 0,.slice none 0 0]:=fun w'' _ _=>by
 show Ae w'' w.heap.size (dV (.mk 0 false 0 ⟨#[]⟩ [] [])) _;simp only[dV,Ae];exact Af.six.2 ⟨[.slice none 0 0], [.slice none 0 0],rfl,rfl,rfl,rfl,rfl,⟨none,0,rfl,by simp[dL], [],rfl,by simp[dL]⟩,⟨none,0,rfl,by simp[dO], [],rfl,by simp[dO]⟩⟩
section
variable {P:Program} {l n:Nat} {ops:Array Oper} {Q:Exit->Act->World->Prop}
theorem Aaj {row:String} {args:Array Value} {w:World} {R:Value->World->Prop} (h:Rows P row args w R):RowsIn (Fence.wide.inRound l) n P row args w R:=fun c cs _=>
 let ⟨v,w',r,s⟩:=h c cs
 ⟨v,w',r,stepsIn_wide.2 s⟩
theorem Xx {o:Oper} {a:Act} {w:World} {K:Act->World->Prop} (hd: ∀c,o.op≠ .defer c) (h:o.wp P a w K Q):o.wpIn (Fence.wide.inRound l) n P a w K Q:=by
 refine⟨fun _ _=>trivial, ?_⟩;rw[Oper.semAt_eq _ _ _ hd];unfold Oper.wp at h;generalize (execOp a.eval o).run P w=r at h
 cases r with
 |ok x w'=>cases x<;>simp only[Oper.upon,Oper.uponIn]at h ⊢ <;>first|exact h|exact⟨fun hh=>(by simp[Fence.wide]at hh),CallsIn.inRound l (callsIn_wide.2 h)⟩|exact⟨fun hh=>(by simp[Fence.wide]at hh),Aaj h⟩|exact h.elim
 |halt x w'=>cases x<;>simp only[Oper.upon,Oper.uponIn]at h ⊢ <;>exact h
theorem Kd (hd: ∀(i:Nat) o,ops[i]? =some o-> ∀c,o.op≠ .defer c) (hQ: ¬LetsOut Q): ∀(is:List Nat) (a:Act) (w:World),wpOps P ops Q is a w->wpOpsIn (Fence.wide.inRound l) n P ops Q is a w
 | [],_,_,h=>h
 |i::rest,a,w,h=>by
  simp only[wpOps]at h;simp only[wpOpsIn]
  cases ho:ops[i]? with
  |none=>
   simp only[ho]at h ⊢;exact Kd hd hQ rest a w h
  |some o=>
   simp only[ho]at h ⊢;by_cases hw:Region.wanted o (yielded ops a.tmps)=true
   . simp only[hw,if_true]at h ⊢;rcases h with h|h
     . exact Xx (hd i o ho) (Oper.wp_mono (fun a' w' h'=>Kd hd hQ rest a' w' h') h)
     . exact absurd h.2 hQ
   . simp only[hw]at h ⊢;exact⟨fun _ _=>trivial,Kd hd hQ rest _ w h⟩
theorem Oj {id:Nat} {a:Act} {w:World} {S:World->Prop} (hm:P.follows .mixedOrders=true) (hd:(ops.toList.all fun o=>match o.op with| .defer _=>false|_=>true)=true) (hQ: ¬LetsOut Q) (hS:S w.drew)
 (h:S w.drew->wpAnyH P .any ops Q S ops.size (Array.replicate ops.size false) a w.drew):(Code.region id ops true).wpIn (Fence.wide.inRound l) n P Q a w:=
 wpIn_region_draw fun t=>by
  simp only[Region.schedule,hm,Bool.true_or,if_true];refine Kd (fun i o ho c hc=> ?_) hQ _ _ _ (wpAny_sound ops.size t _ a _ (wpAny_of_held _ _ _ _ (h hS)));have h1:=List.all_eq_true.1 hd o (by rw[<-Array.getElem?_toList]at ho;exact List.mem_of_getElem? ho);rw[hc]at h1
  cases h1
def noP (Q:Exit->Act->World->Prop) (e:Exit) (a:Act) (w:World):Prop:=
 match e with
 | .panic _=>False
 | .normal=>Q .normal a w
 | .ret=>Q .ret a w
 | .exit i=>Q (.exit i) a w
 | .goto i=>Q (.goto i) a w
 | .outgrown=>Q .outgrown a w
theorem Tt {id:Nat} {a:Act} {w:World} {S:World->Prop} (hm:P.follows .mixedOrders=true) (hS:S w.drew) (h:S w.drew->wpAnyH P .any ops (noP Q) S ops.size (Array.replicate ops.size false) a w.drew):(Code.region id ops true).wpIn Fence.wide n P Q a w:=
 wpIn_mono (wpIn_wide.2 (wp_region_held_drew hm hS h)) fun e a w hq=>by
  cases e with
  |panic c=>exact hq.elim
  |normal=>exact hq
  |ret=>exact hq
  |exit i=>exact hq
  |goto i=>exact hq
  |outgrown=>exact hq
end
theorem Aa.len6 {w:World} {B:Nat} {v:Val} {cs:List Value} (h:Aa w B v cs):cs.length=6:=by
 obtain⟨k,b,n,t,l,o⟩:=v;simp only[Aa]at h;obtain⟨la,lc,oa,oc,rfl,_⟩:=h;rfl
theorem Qc {w:World} {g off:Nat} {cs cs':List Value} (hl:cs.length=cs'.length) (h: ∀j u,cs[j]? =some u->w.cell? ⟨g,off+j,none⟩=some u) (h': ∀j u,cs'[j]? =some u->w.cell? ⟨g,off+j,none⟩=some u):cs=cs':=by
 refine List.ext_getElem hl fun j h1 h2=> ?_;have e1:=h j _ (List.getElem?_eq_getElem h1);have e2:=h' j _ (List.getElem?_eq_getElem h2);rw[e1]at e2;exact Option.some.inj e2
theorem Ai.inj {w:World} {B B':Nat}: ∀{l l':List Val},(∀v ∈ l,∀cs v',Aa w B v cs->Aa w B' v' cs->v=v')->l.length=l'.length-> ∀{g off},Ai w B l g off->Ai w B' l' g off->l=l'
 | [], [],_,_,_,_,_,_=>rfl
 | [],_::_,_,hl,_,_,_,_=>by simp at hl
 |_::_, [],_,hl,_,_,_,_=>by simp at hl
 |v::r,v'::r',ih,hl,g,off,h,h'=>by
  simp only[Ai]at h h';obtain⟨⟨cs,h1,hc⟩,h2⟩:=h;obtain⟨⟨cs',h1',hc'⟩,h2'⟩:=h';have e:cs=cs':=Qc (by rw[h1.len6,h1'.len6]) hc hc';subst e;rw[ih v (by simp) cs v' h1 h1',Ai.inj (fun x hx=>ih x (by simp[hx])) (by simpa using hl) h2 h2']
theorem Ak.inj {w:World} {B B':Nat}: ∀{l l':List (ByteArray×Val)},(∀m ∈ l,∀cs v',Aa w B m.2 cs->Aa w B' v' cs->m.2=v')->l.length=l'.length-> ∀{g off},Ak w B l g off->Ak w B' l' g off->l=l'
 | [], [],_,_,_,_,_,_=>rfl
 | [],_::_,_,hl,_,_,_,_=>by simp at hl
 |_::_, [],_,hl,_,_,_,_=>by simp at hl
 |(key,v)::r,(key',v')::r',ih,hl,g,off,h,h'=>by
  simp only[Ak,Ih]at h h';obtain⟨⟨h0,cs,h1,hc⟩,h2⟩:=h;obtain⟨⟨h0',cs',h1',hc'⟩,h2'⟩:=h';have e:cs=cs':=Qc (by rw[h1.len6,h1'.len6]) hc hc';subst e;rw[h0]at h0';simp only[Option.some.injEq,Value.string.injEq]at h0';have e1:v=v':=ih (key,v) (by simp) cs v' h1 h1';rw[e1,h0',Ak.inj (fun x hx=>ih x (by simp[hx])) (by simpa using hl) h2 h2']
theorem Aa.inj {w:World} {B B':Nat}: ∀(v:Val) (cs:List Value) (v':Val),Aa w B v cs->Aa w B' v' cs->v=v':=by
 refine Val.ind ?_;intro k b n t l o hl ho cs v' h h';obtain⟨k',b',n',t',l',o'⟩:=v';simp only[Aa]at h h';obtain⟨la,lc,oa,oc,rfl,h1,h2⟩:=h;obtain⟨la',lc',oa',oc',e,h1',h2'⟩:=h';simp only[C0,List.cons.injEq,Value.int.injEq,Value.bool.injEq,Value.string.injEq,Value.slice.injEq,true_and,and_true]at e;obtain⟨rfl,rfl,rfl,rfl,⟨rfl,el,rfl⟩,⟨rfl,eo,rfl⟩⟩:=e;have e1:l=l':=by
  rcases h1 with rfl|⟨g,off,ea,_,h1⟩
  . exact(List.eq_nil_of_length_eq_zero (by simpa using el.symm)).symm
  . rcases h1' with rfl|⟨g',off',ea',_,h1'⟩
    . exact List.eq_nil_of_length_eq_zero (by simpa using el)
    . rw[ea]at ea'
      cases ea'
      exact Ai.inj hl el h1 h1'
 have e2:o=o':=by
  rcases h2 with rfl|⟨g,off,ea,_,h2⟩
  . exact(List.eq_nil_of_length_eq_zero (by simpa using eo.symm)).symm
  . rcases h2' with rfl|⟨g',off',ea',_,h2'⟩
    . exact List.eq_nil_of_length_eq_zero (by simpa using eo)
    . rw[ea]at ea'
      cases ea'
      exact Ak.inj ho eo h2 h2'
 rw[e1,e2]
theorem Ac5 {w:World} {B B':Nat} {l l':List Bz} {a:Option Addr} {n c:Nat} (h:Ae w B (.row 7 (dO l)) [.slice a n c]) (h':Ae w B' (.row 7 (dO l')) [.slice a n c]):l=l':=by
 have e1:=h.row_len;have e2:=h'.row_len;rw[Cb]at e1 e2;obtain⟨a1,c1,e,_,ns,h1,h2⟩:=h;obtain⟨a2,c2,e',_,ns',h1',h2'⟩:=h';simp only[List.cons.injEq,Value.slice.injEq,and_true]at e e';obtain⟨rfl,_,rfl⟩:=e;obtain⟨rfl,_,rfl⟩:=e';have key:l≠ []->l=l':=fun hne=>by
  rcases h2 with h2|⟨g,off,ea,_,hc⟩
  . cases l with
    |nil=>exact absurd rfl hne
    |cons x r=>simp[dO]at h2
  rcases h2' with h2'|⟨g',off',ea',_,hc'⟩
  . cases l' with
    |nil=>exact List.eq_nil_of_length_eq_zero (by simpa using(e1.symm.trans e2))
    |cons x r=>simp[dO]at h2'
  rw[ea]at ea'
  cases ea'
  exact Ak.inj (fun m _ cs v' hv hv'=>Aa.inj m.2 cs v' hv hv') (by omega) (Af.toO (fun m _ cs=>Az m.2 cs) h1 hc) (Af.toO (fun m _ cs=>Az m.2 cs) h1' hc')
 by_cases hne:l= []
 . subst hne;exact(List.eq_nil_of_length_eq_zero (by simpa using(e2.symm.trans e1))).symm
 . exact key hne
theorem Ac4 {w:World} {B B':Nat} {l l':List Nat} {a:Option Addr} {n c:Nat} (h:Ae w B (.row 1 (Ay l)) [.slice a n c]) (h':Ae w B' (.row 1 (Ay l')) [.slice a n c]):l=l':=by
 have e1:=h.row_len;have e2:=h'.row_len;rw[A9]at e1 e2;refine List.ext_getElem (by omega) fun i h1 h2=> ?_;obtain⟨g,off,ea,_,cs,k1,_,k3⟩:=h.at_ (i:=i) (d:=Ul l[i]) (by simp[Ay,h1]);obtain⟨g',off',ea',_,cs',k1',_,k3'⟩:=h'.at_ (i:=i) (d:=Ul l'[i]) (by simp[Ay,h2]);rw[ea]at ea'
 cases ea'
 obtain⟨rfl,_⟩:=k1;obtain⟨rfl,_⟩:=k1';have q1:=k3 0 _ rfl;have q2:=k3' 0 _ rfl;rw[q1]at q2;simpa using q2
theorem Ar.inj {w:World} {B B':Nat}: ∀{ks ks':List Nd},(∀k ∈ ks,∀b k',Bt w B k b->Bt w B' k' b->k=k')-> ∀{bs},Ar w B ks bs->Ar w B' ks' bs->ks=ks'
 | [], [],_,_,_,_=>rfl
 | [],k::r,_,bs,h,h'=>by
   simp only[Ar]at h h';obtain⟨b,t,e,_⟩:=h';rw[h]at e;cases e
 |k::r, [],_,bs,h,h'=>by
  simp only[Ar]at h h';obtain⟨b,t,e,_⟩:=h;rw[h']at e;cases e
 |k::r,k'::r',ih,bs,h,h'=>by
  simp only[Ar]at h h';obtain⟨b,t,rfl,h1,h2⟩:=h;obtain⟨b',t',e,h1',h2'⟩:=h'
  cases e
  rw[ih k (by simp) b k' h1 h1',Ar.inj (fun x hx=>ih x (by simp[hx])) h2 h2']
theorem Bt.inj {w:World} {B B':Nat}: ∀(n:Nd) (b:Nat) (n':Nd),Bt w B n b->Bt w B' n' b->n=n':=by
 refine Nd.ind ?_ ?_
 . intro es b n' h h'
   cases n' with
   |leaf es'=>
    simp only[Bt]at h h';obtain⟨_,a,c,h1,h2⟩:=h;obtain⟨_,a',c',h1',h2'⟩:=h';have e:=h2.symm.trans h2';simp only[Option.some.injEq,Obj.cells.injEq,Array.mk.injEq,List.cons.injEq,Value.slice.injEq,true_and,and_true]at e;obtain⟨⟨rfl,e1,rfl⟩,_⟩:=e;rw[e1]at h1;rw[Ac5 h1 h1']
   |inner ks'=>
    simp only[Bt]at h h';obtain⟨_,a,c,h1,h2⟩:=h;obtain⟨_,bs,a',c',h1',h2',_⟩:=h';have e:=h2.symm.trans h2';simp only[Option.some.injEq,Obj.cells.injEq,Array.mk.injEq,List.cons.injEq,Value.int.injEq,true_and,Kl]at e;omega
 . intro ks ih b n' h h'
   cases n' with
   |leaf es'=>
    simp only[Bt]at h h';obtain⟨_,bs,a,c,h1,h2,_⟩:=h;obtain⟨_,a',c',h1',h2'⟩:=h';have e:=h2.symm.trans h2';simp only[Option.some.injEq,Obj.cells.injEq,Array.mk.injEq,List.cons.injEq,Value.int.injEq,true_and,Kl]at e;omega
   |inner ks'=>
    simp only[Bt]at h h';obtain⟨_,bs,a,c,h1,h2,h3⟩:=h;obtain⟨_,bs',a',c',h1',h2',h3'⟩:=h';have e:=h2.symm.trans h2';simp only[Option.some.injEq,Obj.cells.injEq,Array.mk.injEq,List.cons.injEq,Value.slice.injEq,true_and,and_true]at e;obtain⟨⟨rfl,e1,rfl⟩,_⟩:=e;rw[e1]at h1;have eb:=Ac4 h1 h1';subst eb;rw[Ar.inj (fun k hk b k' hb hb'=>ih k hk b k' hb hb') h3 h3']
theorem Mt {a k:ByteArray} {v:Value} {r:List (ByteArray×Value)} (h:a≠k) (hr:Fs a r=none):Fs a ((k,v)::r)=none:=by
 simp only[Fs,if_neg h];exact hr
def Jm (s:ByteArray):Option Value:=(Gy s).map fun f=> .agg #[.int .i64 f.1,.bool f.2.1,.bool f.2.2]
theorem Ss (w:World):Calls Tryz.prog 57 #[] w fun e w'=> ∃g,e=.returned (.map (some g))/\w.heap.size<=g/\Dx w' g 3 Jm/\Below w.heap.size w w':=by
 have hmm:=fun W=>run_makeMap (P:=Tryz.prog) 105 W;have HB0:Hid (Below w.heap.size w (w.alloc (.map #[] 0))):=(Below.refl _ _).alloc (Nat.le_refl _) _;have HL0:=qz (Dc.new (f:=Value.string) w);go_enter Tryz.func57,Tryz.ntmps57;go_wp2_with (first
  |((with_reducible refine Gq rfl (.tmp 1) _ _ 105 rfl L5 Tryz.underlying105 rfl HL0.out rfl rfl rfl ?_);intro w2 hM2 hg2 hs2;have HB2:=qz (HB0.out.grown hg2 HB0.out.size (fun k e=>(by cases e;exact Nat.le_refl _)));have HM2:=qz hM2;clear hM2 hg2 hs2 HL0 HB0)
  |((with_reducible refine Gq rfl (.tmp 1) _ _ 105 rfl L5 Tryz.underlying105 rfl HM2.out rfl rfl (Mt (by decide) rfl) ?_);intro w3 hM3 hg3 hs3;have HB3:=qz (HB2.out.grown hg3 HB2.out.size (fun k e=>(by cases e;exact Nat.le_refl _)));have HM3:=qz hM3;clear hM3 hg3 hs3 HM2 HB2)
  |((with_reducible refine Gq rfl (.tmp 1) _ _ 105 rfl L5 Tryz.underlying105 rfl HM3.out rfl rfl (Mt (by decide) (Mt (by decide) rfl)) ?_);intro w4 hM4 hg4 hs4;have HB4:=qz (HB3.out.grown hg4 HB3.out.size (fun k e=>(by cases e;exact Nat.le_refl _)));have HM4:=qz hM4;clear hM4 hg4 hs4 HM3 HB3))
 go_ret;refine⟨_,rfl,Nat.le_refl _,⟨_,HM4.out,rfl,fun k=> ?_⟩,HB4.out⟩;simp only[List.nil_append,List.cons_append,Fs,Jm,Gy];by_cases h0:k=D6
 . rw[if_pos h0,if_pos h0];rfl
 rw[if_neg h0,if_neg h0];by_cases h1:k=Ef
 . rw[if_pos h1,if_pos h1];rfl
 rw[if_neg h1,if_neg h1];by_cases h2:k=B3
 . rw[if_pos h2,if_pos h2];rfl
 . rw[if_neg h2,if_neg h2];rfl
theorem Pi (k:Int) (fk fv:Bool) (w:World):Calls Tryz.prog 95 #[.agg #[.int .i64 k,.bool fk,.bool fv]] w fun e w'=>e=.returned (.int .i64 ((1+(if fk then 1 else 0)+(if fv then 1 else 0):Nat):Int))/\Below w.heap.size w w':=by
 have Hb:=qz (Ab w (.cells #[.int .i64 k,.bool fk,.bool fv] 155))
 cases fk<;>cases fv
 all_goals
  go_enter Tryz.func95,Tryz.ntmps95;go_wp2;go_ret;exact⟨rfl,Hb.out⟩
end Go.Proofs.YtdbejcbbhomdbaaGreatDoor
namespace Go.Proofs.YtdbejcbbhomdbaaGreatDoor
theorem Jw: ∀{l r:List Val},(Ah l).1≠0->Ah (l++r)=((Ah l).1, [])
 | [],_,h=>absurd rfl h
 |v::l,r,h=>by
  simp only[List.cons_append,Ah]at h ⊢;by_cases h1:(Cf v).1≠0
  . rw[if_pos h1,if_pos h1]
  . rw[if_neg h1]at h ⊢;by_cases h2:(Ah l).1≠0
    . rw[Jw h2,if_pos h2];simp only[h1,if_false,h2,not_false_eq_true,if_true,ne_eq]
    . rw[if_neg h2]at h;exact absurd rfl h
theorem Jv: ∀{l:List Val} {v:Val},(Ah l).1=0->Ah (l++ [v])=if(Cf v).1≠0 then((Cf v).1, [])else(0,(Ah l).2++ [(Cf v).2])
 | [],v,_=>by
   simp only[List.nil_append,Ah];by_cases h1:(Cf v).1≠0
   . rw[if_pos h1,if_pos h1]
   . rw[if_neg h1,if_neg h1];rfl
 |x::l,v,h=>by
  simp only[List.cons_append,Ah]at h ⊢;by_cases h1:(Cf x).1≠0
  . rw[if_pos h1]at h;exact absurd h h1
  . rw[if_neg h1]at h ⊢;by_cases h2:(Ah l).1≠0
    . rw[if_pos h2]at h;exact absurd h h2
    . have h0:(Ah l).1=0:=by simpa using h2
      rw[Jv h0,if_neg h1,if_neg h2];by_cases h3:(Cf v).1≠0
      . simp[h3]
      . simp only[ne_eq,Decidable.not_not]at h3;simp[h3]
theorem Zt {key:ByteArray} {o:List (ByteArray×Val)}:(Cy ((Ap key o).getD Lf)).size<=Ag o:=by
 cases h:Ap key o with
 |none=>exact Nat.zero_le _
 |some x=>
  have h1:=Ca (Fc h);obtain⟨k,b,n,t,l,r⟩:=x;simp only[Val.bulk]at h1;show t.size<=_;omega
theorem Ab1 {key:ByteArray} {o:List (ByteArray×Val)}:((Ap key o).getD Lf).bulk<=Ag o+6:=by
 cases h:Ap key o with
 |none=>show Lf.bulk<=_;have:Lf.bulk=6:=by decide
        omega
 |some x=>
  have h1:=Ca (Fc h);simp only at h1;show x.bulk<=_;omega
theorem Yv {key:ByteArray}: ∀{o:List (ByteArray×Val)},U0 o->Jc ((Ap key o).getD Lf)
 | [],_=>⟨⟨by decide,by decide⟩,trivial,trivial⟩
 |(a,x)::r,h=>by
  unfold Ap;by_cases e:a=key
  . rw[if_pos e];exact h.1
  . rw[if_neg e];exact Yv h.2
theorem Z8 {v:Val} (hi:Jc v) (h:(C4 v).1=0):2+(C4 v).2.key.size+(C4 v).2.v.bulk<=3*v.bulk/\Jc (C4 v).2.v:=by
 obtain⟨k,b,n,t,l,o⟩:=v;have h1:=Zt (key:=Ao) (o:=o);have h2:=Ab1 (key:=Bc) (o:=o);have h3:=Yv (key:=Bc) hi.2.2;unfold C4 at h ⊢;by_cases a1:Bf (.mk k b n t l o)≠6
 . rw[if_pos a1]at h;exact absurd h (show ¬(9:Int)=0 by omega)
 rw[if_neg a1]at h ⊢
 cases a2:Ap Bh (Bg (.mk k b n t l o))with
 |none=>rw[a2]at h;exact absurd h (show ¬(10:Int)=0 by omega)
 |some nm=>
 rw[a2]at h;simp only at h ⊢;by_cases a3:Bf nm≠4
 . rw[if_pos a3]at h;exact absurd h (show ¬(9:Int)=0 by omega)
 rw[if_neg a3]at h ⊢
 cases a4:Gy (Cy nm)with
 |none=>rw[a4]at h;exact absurd h (show ¬(12:Int)=0 by omega)
 |some f=>
 obtain⟨k',fk,fv⟩:=f;rw[a4]at h;simp only at h ⊢;by_cases a5:(Ap Ao (Bg (.mk k b n t l o))).isSome≠fk\/(Ap Bc (Bg (.mk k b n t l o))).isSome≠fv\/(Bg (.mk k b n t l o)).length≠1+(if fk=true then 1 else 0)+(if fv=true then 1 else 0)
 . rw[if_pos a5]at h;exact absurd h (show ¬(10:Int)=0 by omega)
 rw[if_neg a5]at h ⊢;by_cases a6:fk=true/\Bf ((Ap Ao (Bg (.mk k b n t l o))).getD Lf)≠4
 . rw[if_pos a6]at h;exact absurd h (show ¬(9:Int)=0 by omega)
 rw[if_neg a6];simp only[Bg,Val.bulk]at h1 h2 h3 ⊢;exact⟨by omega,h3⟩
def Ex (k:ByteArray) (o:List (ByteArray×Val)):Val:=(Ap k o).getD Lf
def Fx (names:List ByteArray) (o:List (ByteArray×Val)):Bool:=decide (names.length=o.length)&&names.all fun x=>(Ap x o).isSome
theorem Kb {names:List ByteArray} {o:List (ByteArray×Val)} (ha:Bq o) (hn:O1 names):Fx names o=true ↔ o.map (·.1)=names:=by
 rw[<-My ha hn];unfold Fx;simp only[Bool.and_eq_true,decide_eq_true_eq,List.all_eq_true,D2]
def Ku (v:Val):Int×POp:=
 if Bf v≠6 then(9,Cm)else if(Ap Bh (Bg v)).isSome=false then(10,Cm)else
 if Bf (Ex Bh (Bg v))≠4 then(9,Cm)else
 if Cy (Ex Bh (Bg v))=B3 then(if(Bg v).length≠1 then(10,Cm)else(0,⟨3,Le,Lf⟩))else
 if Cy (Ex Bh (Bg v))=D6 then
  (if Fx [Ao,Bh,Bc] (Bg v)=false then(10,Cm)else if Bf (Ex Ao (Bg v))≠4 then(9,Cm)else(0,⟨1,Cy (Ex Ao (Bg v)),Ex Bc (Bg v)⟩))else
 if Cy (Ex Bh (Bg v))=Ef then
  (if Fx [Ao,Bh] (Bg v)=false then(10,Cm)else if Bf (Ex Ao (Bg v))≠4 then(9,Cm)else(0,⟨2,Cy (Ex Ao (Bg v)),Lf⟩))else
 (12,Cm)
theorem Ac3 {v:Val} {d:Int} (hm:A5 v d=0):Ku v=Cf v:=by
 have ha:Bq (Bg v):=by
  obtain⟨k,b,n,t,l,o⟩:=v;exact(Mz (El hm).2.2.2.2).1
 unfold Ku Cf;by_cases hk:Bf v≠6
 . rw[if_pos hk,if_pos hk]
 rw[if_neg hk,if_neg hk];generalize Bg v=o at ha
 cases hnm:Ap Bh o with
 |none=>rfl
 |some nm=>
  have hat:Ex Bh o=nm:=by unfold Ex;rw[hnm];rfl
  rw[hat];simp only[Option.isSome_some,Bool.true_eq_false,if_false];by_cases h4:Bf nm≠4
  . rw[if_pos h4,if_pos h4]
  rw[if_neg h4,if_neg h4];by_cases hcl:Cy nm=B3
  . rw[if_pos hcl,if_pos hcl];by_cases hl:o.length=1
    . rw[if_neg (fun h=>h hl),if_pos hl]
    . rw[if_pos hl,if_neg hl]
  rw[if_neg hcl,if_neg hcl];by_cases hp:Cy nm=D6
  . rw[if_pos hp,if_pos hp];by_cases hj:o.map (·.1)= [Ao,Bh,Bc]
    . rw[if_neg (by rw[(Kb ha Ae4).2 hj];simp)];obtain⟨x,z,y,rfl⟩:=Aep hj;have e1:Ex Ao [(Ao,x),(Bh,z),(Bc,y)]=x:=by kernel_rfl
      have e2:Ex Bc [(Ao,x),(Bh,z),(Bc,y)]=y:=by kernel_rfl
      rw[e1,e2];by_cases hx:Bf x=4<;>simp[hx]
    . have h1:Fx [Ao,Bh,Bc] o=false:=by
       cases hb:Fx [Ao,Bh,Bc] o with
       |false=>rfl
       |true=>exact absurd ((Kb ha Ae4).1 hb) hj
      rw[if_pos h1]
      split
      . rename_i a x b z c y;rw[if_neg];rintro⟨rfl,rfl,rfl⟩;exact hj rfl
      . rfl
  rw[if_neg hp,if_neg hp];by_cases hd:Cy nm=Ef
  . rw[if_pos hd,if_pos hd];by_cases hj:o.map (·.1)= [Ao,Bh]
    . rw[if_neg (by rw[(Kb ha Ae3).2 hj];simp)];obtain⟨x,z,rfl⟩:=Aeo hj;have e1:Ex Ao [(Ao,x),(Bh,z)]=x:=by kernel_rfl
      rw[e1];by_cases hx:Bf x=4<;>simp[hx]
    . have h1:Fx [Ao,Bh] o=false:=by
       cases hb:Fx [Ao,Bh] o with
       |false=>rfl
       |true=>exact absurd ((Kb ha Ae3).1 hb) hj
      rw[if_pos h1]
      split
      . rename_i a x b z;rw[if_neg];rintro⟨rfl,rfl⟩;exact hj rfl
      . rfl
  rw[if_neg hd,if_neg hd]
end Go.Proofs.YtdbejcbbhomdbaaGreatDoor
