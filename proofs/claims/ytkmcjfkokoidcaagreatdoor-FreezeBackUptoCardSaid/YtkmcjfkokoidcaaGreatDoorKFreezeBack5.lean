/- Parts: value.Same. Condition: bulks of at most 10^8. -/
import Derived.Test.YtkmcjfkokoidcaaGreatDoorKFreezeBack3
set_option maxHeartbeats 20000000
set_option maxRecDepth 100000
namespace Go.Proofs.YtkmcjfkokoidcaaGreatDoor
open Go Go.RowKit
def Ajj (a:Val):Prop:= ∀(b:Val) (cs cs':List Value) (w:World),Ac w w.heap.size a cs->Ac w w.heap.size b cs'->a.bulk<=100000000->b.bulk<=100000000->
    Calls Tryz.prog 111 #[.agg cs.toArray,.agg cs'.toArray] w (Az (Dj a b=true) w)
theorem Ad6 (key key':ByteArray) (a0 a1 a2 a3 a4 a5 b0 b1 b2 b3 b4 b5:Value) (w:World) (Q:Prop)
 (hC: ∀W,Below w.heap.size w W->Calls Tryz.prog 111 #[.agg #[a0,a1,a2,a3,a4,a5],.agg #[b0,b1,b2,b3,b4,b5]] W (Az Q W)):
 Calls Tryz.prog 181 #[.agg #[.string key,a0,a1,a2,a3,a4,a5],.agg #[.string key',b0,b1,b2,b3,b4,b5]] w (Az (key=key'/\Q) w):=by
 have HA:=qz (fun W=>U4 key key' W);have HC:=qz hC;clear hC;go_enter Tryz.func181,Tryz.ntmps181;go_wp2_with (fail);(with_reducible refine(HA.out _).mono ?_);rintro e w1 ⟨c,rfl,hc,rfl⟩;by_cases hc0:c=0
 . have hk:=hc.1 hc0;subst hc0;have Hk:=qz hk;clear hk;clear hc;go_wp2_with (fail);(with_reducible refine(HC.out _ (B6 _ _ _)).mono ?_);rintro e w' ⟨c',rfl,hc',hb'⟩;have hf:c'=0 ↔ key=key'/\Q:=⟨fun e=>⟨Hk.out,hc'.1 e⟩,fun e=>hc'.2 e.2⟩;have Hw:=qz ((B6 w (.cells #[.string key,a0,a1,a2,a3,a4,a5] 94) (.cells #[.string key',b0,b1,b2,b3,b4,b5] 94)).trans (hb'.mono (by simp;omega)));have Hf:=qz hf;clear hf;clear hc' hb';go_wp2;go_ret;exact Az.of Hf.out Hw.out
 . have hf:c=0 ↔ key=key'/\Q:=⟨fun e=>absurd e hc0,fun e=>absurd (hc.2 e.1) hc0⟩;have f1:(c==0)=false:=by simpa using hc0
   have f2:(c != 0)=true:=by simpa using hc0
   have Hf:=qz hf;clear hf;clear hc hc0;go_wp2;go_ret;exact Az.of Hf.out (B6 _ _ _)
theorem Zb (l l':List Val) (la la':Option Addr) (lc lc' B0:Nat) (w:World) (hB0:B0<=w.heap.size) (IH: ∀v ∈ l,Ajj v)
 (hl:l= []\/ ∃g off,la=some ⟨g,off,none⟩/\g<B0/\Ao w B0 l g off) (hl':l'= []\/ ∃g off,la'=some ⟨g,off,none⟩/\g<B0/\Ao w B0 l' g off)
 (hb:Bf l<=100000000) (hb':Bf l'<=100000000):
 Calls Tryz.prog 179 #[.slice la l.length lc,.slice la' l'.length lc',.func (.func 111) #[] #[]] w (Az (Lc l l'=true) w):=by
 have hln:=Dt l;have hln':=Dt l';have HI:=qz IH;have H0:Hid (∀j x y,j<0->l[j]? =some x->l'[j]? =some y->Dj x y=true):=fun _ _ _ e=>absurd e (Nat.not_lt_zero _);have HBB:Hid (Below w.heap.size w w):=Below.refl _ _;obtain⟨p,hp⟩: ∃p:Prop,(Lc l l'=true)=p:=⟨_,rfl⟩;rw[hp];have Hp:=qz hp;clear IH hp;obtain⟨M,⟨hM1,hM2,hM3⟩,hM⟩: ∃M:Nat,(M<=l.length/\M<=l'.length/\(M=l.length\/M=l'.length))/\(min (l.length:Int) (l'.length:Int))=M:=⟨min l.length l'.length,⟨by omega,by omega,by omega⟩,by omega⟩;have hM':(if(l'.length:Int)<(l.length:Int)then(l'.length:Int)else(l.length:Int))=M:=by rw[<-hM];split<;>omega
 have hM'':(if(l.length:Int)<(l'.length:Int)then(l.length:Int)else(l'.length:Int))=M:=by rw[<-hM];split<;>omega
 go_enter Tryz.func179,Tryz.ntmps179;go_wp2_with (fail);go_loopw [14] (fun i wr=> ∃k:Nat,i=.int .i64 k/\k<=M/\Hid (∀j x y,j<k->l[j]? =some x->l'[j]? =some y->Dj x y=true)/\Hid (Below w.heap.size w wr)) (fun i _=>M - (intOf i).toNat)
 case atStart=>exact⟨0,rfl,Nat.zero_le _,H0,HBB⟩
 case round=>
  obtain⟨k,rfl,hk,ht,hbw⟩:=hrel;clear H0 HBB hM hM' hM'';by_cases hlt:k<M
  . have hk1:k<l.length:=by omega
    have hk2:k<l'.length:=by omega
    have hz:=hbw.out.size;obtain⟨g,off,rfl,hg,hL⟩: ∃g off,la=some ⟨g,off,none⟩/\g<B0/\Ao w B0 l g off:=by
     rcases hl with rfl|h
     . simp at hk1
     . exact h
    obtain⟨g',off',rfl,hg',hL'⟩: ∃g off,la'=some ⟨g,off,none⟩/\g<B0/\Ao w B0 l' g off:=by
     rcases hl' with rfl|h
     . simp at hk2
     . exact h
    obtain⟨x,hx⟩: ∃v,l[k]? =some v:=⟨_,List.getElem?_eq_getElem hk1⟩;obtain⟨y,hy⟩: ∃v,l'[k]? =some v:=⟨_,List.getElem?_eq_getElem hk2⟩;have hxm:=List.mem_of_getElem? hx;have hym:=List.mem_of_getElem? hy;have hxb:=D9 hxm;have hyb:=D9 hym;have IHx:=HI.out _ hxm;have hxy:Dj x y=true->(∀j x y,j<k+1->l[j]? =some x->l'[j]? =some y->Dj x y=true):=by
     intro e j x' y' hj h1 h2;rcases Nat.lt_succ_iff_lt_or_eq.1 hj with hj|rfl
     . exact ht.out j x' y' hj h1 h2
     . rw[hx]at h1;rw[hy]at h2;rw[<-Option.some.inj h1,<-Option.some.inj h2];exact e
    have hxn: ¬Dj x y=true-> ¬p:=fun e h=>by
     rw[<-Hp.out]at h;exact e ((Jh.1 h).2 k x y hx hy)
    obtain⟨k1,b1',n1,t1,l1,o1⟩:=x;obtain⟨k2,b2',n2,t2,l2,o2⟩:=y;obtain⟨la1,lc1,oa1,oc1,hv1,c0,c1,c2,c3,c4,c5⟩:=(hL.below hg (hbw.out.mono hB0)).six hx;obtain⟨la2,lc2,oa2,oc2,hv2,e0,e1,e2,e3,e4,e5⟩:=(hL'.below hg' (hbw.out.mono hB0)).six hy;have CC:=fun(W:World) (hW:Below wr.heap.size wr W)=>IHx _ _ _ W (Ac.more (Nat.le_trans hB0 (Nat.le_trans hz hW.size)) _ _ (hv1.below (hW.mono (Nat.le_trans hB0 hz)))) (Ac.more (Nat.le_trans hB0 (Nat.le_trans hz hW.size)) _ _ (hv2.below (hW.mono (Nat.le_trans hB0 hz)))) (by omega) (by omega);obtain⟨Q,hQ⟩: ∃Q:Prop,(Dj (Val.mk k1 b1' n1 t1 l1 o1) (Val.mk k2 b2' n2 t2 l2 o2)=true)=Q:=⟨_,rfl⟩;rw[hQ]at CC hxy;have Hxn:Hid (¬Q-> ¬p):=by rw[<-hQ];exact hxn
    have hgr:g<wr.heap.size:=by omega
    have hgr':g'<wr.heap.size:=by omega
    have hq1:(k:Int)<(M:Int):=by omega
    have hq2:(k:Int)<(l.length:Int):=by omega
    have hq3:(k:Int)<(l'.length:Int):=by omega
    have hq0:(0:Int)<=k:=by omega
    obtain⟨CC',Hxy⟩:=hid2 CC hxy;clear CC hxy;clear hQ hxn IHx hxb hyb hxm hym hv1 hv2 hx hy hL hL' hg hg' ht;go_upto_region 4 with(fail)
    go_region_with (go_at_call 111;(with_reducible refine(CC'.out _ (Below.drew (Below.refl _ _))).mono ?_);rintro e w4 ⟨c,rfl,hc,hb4⟩)
    all_goals
     have Hc:=qz hc;have hb4':Below wr.heap.size wr w4:=(Below.drew (Below.refl _ _)).trans hb4;have hbw4:=qz (hbw.out.trans (hb4'.mono hz));clear hc hb4 hb4' hbw CC' c0 c1 c2 c3 c4 c5 e0 e1 e2 e3 e4 e5;by_cases hc0:c=0
     . have Hn:=qz (Hxy.out (Hc.out.1 hc0));subst hc0;clear Hc;go_wp2;go_roundw
       case rel=>exact⟨k+1,by go_num,by omega,Hn,hbw4⟩
       case measure=>simp only[intOf];omega
     . have hne:=Hxn.out (fun e=>hc0 (Hc.out.2 e));have f1:(c==0)=false:=by simpa using hc0
       have f2:(c != 0)=true:=by simpa using hc0
       have Hf:Hid (c=0 ↔ p):=⟨fun e=>absurd e hc0,fun e=>absurd e hne⟩;clear Hc hne hc0;go_wp2;go_ret;exact Az.of Hf.out hbw4.out
  . obtain rfl:k=M:=by omega
    have hq1: ¬(k:Int)<(k:Int):=by omega
    have cN:=fun w=>T7 (l.length:Int) (l'.length:Int) w;obtain⟨C,hC⟩: ∃C,Iq (l.length:Int) (l'.length:Int)=C:=⟨_,rfl⟩;rw[hC]at cN;have HN:=qz cN;have Hf:Hid (C=0 ↔ p):=by
     show _ ↔ _;rw[<-hC,Dn,<-Hp.out];constructor
     . intro h;exact Jh.2 ⟨by omega,fun j x y h1 h2=>ht.out j x y (by have:=(List.getElem?_eq_some_iff.1 h1).1;omega) h1 h2⟩
     . intro h;have:=(Jh.1 h).1;omega
    clear cN hC ht hl hl';go_wp2_with (fail);(with_reducible refine(HN.out _).mono ?_);rintro e w' ⟨rfl,rfl⟩;go_wp2;go_ret;exact Az.of Hf.out hbw.out
theorem Zc (l l':List (ByteArray×Val)) (la la':Option Addr) (lc lc' B0:Nat) (w:World) (hB0:B0<=w.heap.size) (IH: ∀m ∈ l,Ajj m.2)
 (hl:l= []\/ ∃g off,la=some ⟨g,off,none⟩/\g<B0/\Ap w B0 l g off) (hl':l'= []\/ ∃g off,la'=some ⟨g,off,none⟩/\g<B0/\Ap w B0 l' g off)
 (hb:Ab l<=100000000) (hb':Ab l'<=100000000):
 Calls Tryz.prog 180 #[.slice la l.length lc,.slice la' l'.length lc',.func (.func 181) #[] #[]] w (Az (Km l l'=true) w):=by
 have hln:=Bc l;have hln':=Bc l';have HI:=qz IH;have H0:Hid (∀j x y,j<0->l[j]? =some x->l'[j]? =some y->Nm x y=true):=fun _ _ _ e=>absurd e (Nat.not_lt_zero _);have HBB:Hid (Below w.heap.size w w):=Below.refl _ _;obtain⟨p,hp⟩: ∃p:Prop,(Km l l'=true)=p:=⟨_,rfl⟩;rw[hp];have Hp:=qz hp;clear IH hp;obtain⟨M,⟨hM1,hM2,hM3⟩,hM⟩: ∃M:Nat,(M<=l.length/\M<=l'.length/\(M=l.length\/M=l'.length))/\(min (l.length:Int) (l'.length:Int))=M:=⟨min l.length l'.length,⟨by omega,by omega,by omega⟩,by omega⟩;have hM':(if(l'.length:Int)<(l.length:Int)then(l'.length:Int)else(l.length:Int))=M:=by rw[<-hM];split<;>omega
 have hM'':(if(l.length:Int)<(l'.length:Int)then(l.length:Int)else(l'.length:Int))=M:=by rw[<-hM];split<;>omega
 go_enter Tryz.func180,Tryz.ntmps180;go_wp2_with (fail);go_loopw [14] (fun i wr=> ∃k:Nat,i=.int .i64 k/\k<=M/\Hid (∀j x y,j<k->l[j]? =some x->l'[j]? =some y->Nm x y=true)/\Hid (Below w.heap.size w wr)) (fun i _=>M - (intOf i).toNat)
 case atStart=>exact⟨0,rfl,Nat.zero_le _,H0,HBB⟩
 case round=>
  obtain⟨k,rfl,hk,ht,hbw⟩:=hrel;clear H0 HBB hM hM' hM'';by_cases hlt:k<M
  . have hk1:k<l.length:=by omega
    have hk2:k<l'.length:=by omega
    have hz:=hbw.out.size;obtain⟨g,off,rfl,hg,hL⟩: ∃g off,la=some ⟨g,off,none⟩/\g<B0/\Ap w B0 l g off:=by
     rcases hl with rfl|h
     . simp at hk1
     . exact h
    obtain⟨g',off',rfl,hg',hL'⟩: ∃g off,la'=some ⟨g,off,none⟩/\g<B0/\Ap w B0 l' g off:=by
     rcases hl' with rfl|h
     . simp at hk2
     . exact h
    obtain⟨x,hx⟩: ∃v,l[k]? =some v:=⟨_,List.getElem?_eq_getElem hk1⟩;obtain⟨y,hy⟩: ∃v,l'[k]? =some v:=⟨_,List.getElem?_eq_getElem hk2⟩;have hxm:=List.mem_of_getElem? hx;have hym:=List.mem_of_getElem? hy;have hxb:=Bz hxm;have hyb:=Bz hym;have IHx:=HI.out _ hxm;have hxy:Nm x y=true->(∀j x y,j<k+1->l[j]? =some x->l'[j]? =some y->Nm x y=true):=by
     intro e j x' y' hj h1 h2;rcases Nat.lt_succ_iff_lt_or_eq.1 hj with hj|rfl
     . exact ht.out j x' y' hj h1 h2
     . rw[hx]at h1;rw[hy]at h2;rw[<-Option.some.inj h1,<-Option.some.inj h2];exact e
    have hxn: ¬Nm x y=true-> ¬p:=fun e h=>by
     rw[<-Hp.out]at h;exact e ((G6.1 h).2 k x y hx hy)
    obtain⟨key,⟨k1,b1',n1,t1,l1,o1⟩⟩:=x;obtain⟨key',⟨k2,b2',n2,t2,l2,o2⟩⟩:=y;obtain⟨la1,lc1,oa1,oc1,hv1,c0,c1,c2,c3,c4,c5,c6⟩:=(hL.below hg (hbw.out.mono hB0)).seven hx;obtain⟨la2,lc2,oa2,oc2,hv2,e0,e1,e2,e3,e4,e5,e6⟩:=(hL'.below hg' (hbw.out.mono hB0)).seven hy;simp only at IHx hxb hyb;have CC:=fun(W:World) (hW:Below wr.heap.size wr W)=>Ad6 key key' _ _ _ _ _ _ _ _ _ _ _ _ W _ (fun W' hW'=>IHx _ _ _ W' (Ac.more (Nat.le_trans hB0 (Nat.le_trans hz (Nat.le_trans hW.size hW'.size))) _ _ ((hv1.below (hW.mono (Nat.le_trans hB0 hz))).below (hW'.mono (Nat.le_trans hB0 (Nat.le_trans hz hW.size))))) (Ac.more (Nat.le_trans hB0 (Nat.le_trans hz (Nat.le_trans hW.size hW'.size))) _ _ ((hv2.below (hW.mono (Nat.le_trans hB0 hz))).below (hW'.mono (Nat.le_trans hB0 (Nat.le_trans hz hW.size))))) (by omega) (by omega));obtain⟨Q,hQ⟩: ∃Q:Prop,(Nm (key,Val.mk k1 b1' n1 t1 l1 o1) (key',Val.mk k2 b2' n2 t2 l2 o2)=true)=Q:=⟨_,rfl⟩;have hQ2:(key=key'/\Dj (Val.mk k1 b1' n1 t1 l1 o1) (Val.mk k2 b2' n2 t2 l2 o2)=true)=Q:=by rw[<-hQ];simp[Nm]
    rw[hQ2]at CC;clear hQ2;rw[hQ]at hxy;have Hxn:Hid (¬Q-> ¬p):=by rw[<-hQ];exact hxn
    have hgr:g<wr.heap.size:=by omega
    have hgr':g'<wr.heap.size:=by omega
    have hq1:(k:Int)<(M:Int):=by omega
    have hq2:(k:Int)<(l.length:Int):=by omega
    have hq3:(k:Int)<(l'.length:Int):=by omega
    have hq0:(0:Int)<=k:=by omega
    obtain⟨CC',Hxy⟩:=hid2 CC hxy;clear CC hxy;clear hQ hxn IHx hxb hyb hxm hym hv1 hv2 hx hy hL hL' hg hg' ht;go_upto_region 4 with(fail)
    go_region_with (go_at_call 181;(with_reducible refine(CC'.out _ (Below.drew (Below.refl _ _))).mono ?_);rintro e w4 ⟨c,rfl,hc,hb4⟩)
    all_goals
     have Hc:=qz hc;have hb4':Below wr.heap.size wr w4:=(Below.drew (Below.refl _ _)).trans hb4;have hbw4:=qz (hbw.out.trans (hb4'.mono hz));clear hc hb4 hb4' hbw CC' c0 c1 c2 c3 c4 c5 c6 e0 e1 e2 e3 e4 e5 e6;by_cases hc0:c=0
     . have Hn:=qz (Hxy.out (Hc.out.1 hc0));subst hc0;clear Hc;go_wp2;go_roundw
       case rel=>exact⟨k+1,by go_num,by omega,Hn,hbw4⟩
       case measure=>simp only[intOf];omega
     . have hne:=Hxn.out (fun e=>hc0 (Hc.out.2 e));have f1:(c==0)=false:=by simpa using hc0
       have f2:(c != 0)=true:=by simpa using hc0
       have Hf:Hid (c=0 ↔ p):=⟨fun e=>absurd e hc0,fun e=>absurd e hne⟩;clear Hc hne hc0;go_wp2;go_ret;exact Az.of Hf.out hbw4.out
  . obtain rfl:k=M:=by omega
    have hq1: ¬(k:Int)<(k:Int):=by omega
    have cN:=fun w=>T7 (l.length:Int) (l'.length:Int) w;obtain⟨C,hC⟩: ∃C,Iq (l.length:Int) (l'.length:Int)=C:=⟨_,rfl⟩;rw[hC]at cN;have HN:=qz cN;have Hf:Hid (C=0 ↔ p):=by
     show _ ↔ _;rw[<-hC,Dn,<-Hp.out];constructor
     . intro h;exact G6.2 ⟨by omega,fun j x y h1 h2=>ht.out j x y (by have:=(List.getElem?_eq_some_iff.1 h1).1;omega) h1 h2⟩
     . intro h;have:=(G6.1 h).1;omega
    clear cN hC ht hl hl';go_wp2_with (fail);(with_reducible refine(HN.out _).mono ?_);rintro e w' ⟨rfl,rfl⟩;go_wp2;go_ret;exact Az.of Hf.out hbw.out
theorem Alg (k k':Int) (b b':Bool) (n n':Int) (t t':ByteArray) (x y x' y':Value) (w:World) (p:Prop) (h:k≠k') (hp: ¬p):
 Calls Tryz.prog 111 #[.agg #[.int .i64 k,.bool b,.int .i64 n,.string t,x,y],.agg #[.int .i64 k',.bool b',.int .i64 n',.string t',x',y']] w (Az p w):=by
 have h1:(k==k')=false:=by simpa using h
 have h2:(k != k')=true:=by simpa using h
 obtain⟨C,hC⟩: ∃C,Iq k k'=C:=⟨_,rfl⟩;have cN:=fun w=>Aer k k' w;rw[hC]at cN;have HN:=qz cN;have Hc:Hid (C=0 ↔ p):=by
  show _ ↔ _;rw[<-hC,Dn];exact⟨fun e=>absurd e h,fun e=>absurd e hp⟩
 clear cN hC h hp;go_enter Tryz.func111,Tryz.ntmps111;go_wp2_with (fail);(with_reducible refine(HN.out _).mono ?_);rintro e w' ⟨rfl,rfl⟩;go_wp2;go_ret;exact Az.of Hc.out (B6 _ _ _)
theorem Am7 (k:Int) (h2:k≠2) (h3:k≠3) (h4:k≠4) (h5:k≠5) (h6:k≠6) (b b':Bool) (n n':Int) (t t':ByteArray) (x y x' y':Value) (w:World) (p:Prop) (hp:p):
 Calls Tryz.prog 111 #[.agg #[.int .i64 k,.bool b,.int .i64 n,.string t,x,y],.agg #[.int .i64 k,.bool b',.int .i64 n',.string t',x',y']] w (Az p w):=by
 have Hp:=qz hp;have e2:(k==2)=false:=by simpa using h2
 have e3:(k==3)=false:=by simpa using h3
 have e4:(k==4)=false:=by simpa using h4
 have e5:(k==5)=false:=by simpa using h5
 have e6:(k==6)=false:=by simpa using h6
 clear hp;go_enter Tryz.func111,Tryz.ntmps111;go_wp2;go_ret;exact Az.of ⟨fun _=>Hp.out,fun _=>rfl⟩ (B6 _ _ _)
theorem Am5 (b b':Bool) (n n':Int) (t t':ByteArray) (x y x' y':Value) (w:World) (p:Prop) (hp:n=n' ↔ p):
 Calls Tryz.prog 111 #[.agg #[.int .i64 3,.bool b,.int .i64 n,.string t,x,y],.agg #[.int .i64 3,.bool b',.int .i64 n',.string t',x',y']] w (Az p w):=by
 obtain⟨C,hC⟩: ∃C,Iq n n'=C:=⟨_,rfl⟩;have cN:=fun w=>Uc n n' w;rw[hC]at cN;have HN:=qz cN;have Hc:Hid (C=0 ↔ p):=by
  show _ ↔ _;rw[<-hC,Dn];exact hp
 clear cN hC hp;go_enter Tryz.func111,Tryz.ntmps111;go_wp2_with (fail);(with_reducible refine(HN.out _).mono ?_);rintro e w' ⟨rfl,rfl⟩;go_wp2;go_ret;exact Az.of Hc.out (B6 _ _ _)
theorem Ali (b b':Bool) (n n':Int) (t t':ByteArray) (x y x' y':Value) (w:World) (p:Prop) (hp:t=t' ↔ p):
 Calls Tryz.prog 111 #[.agg #[.int .i64 4,.bool b,.int .i64 n,.string t,x,y],.agg #[.int .i64 4,.bool b',.int .i64 n',.string t',x',y']] w (Az p w):=by
 have HN:=qz (fun w=>U4 t t' w);have Hp:=qz hp;clear hp;go_enter Tryz.func111,Tryz.ntmps111;go_wp2_with (fail);(with_reducible refine(HN.out _).mono ?_);rintro e w' ⟨c,rfl,hc,rfl⟩;have Hc:=qz (hc.trans Hp.out);clear hc;go_wp2;go_ret;exact Az.of Hc.out (B6 _ _ _)
theorem Alf (b b':Bool) (n n':Int) (t t':ByteArray) (x y x' y':Value) (w:World) (p:Prop) (hp:b=b' ↔ p):
 Calls Tryz.prog 111 #[.agg #[.int .i64 2,.bool b,.int .i64 n,.string t,x,y],.agg #[.int .i64 2,.bool b',.int .i64 n',.string t',x',y']] w (Az p w):=by
 have hR:=fun b w=>Afh b w;have HN:=qz (fun m m' w=>Uc m m' w);have hz:Iq (if b then 1 else 0) (if b' then 1 else 0)=0 ↔ p:=by
  rw[Dn,<-hp]
  cases b<;>cases b'<;>simp
 obtain⟨r,hr⟩: ∃r:Int,(if b=true then 1 else 0)=r:=⟨_,rfl⟩;obtain⟨r',hr'⟩: ∃r:Int,(if b'=true then 1 else 0)=r:=⟨_,rfl⟩;have hR1:=fun w=>hR b w;have hR2:=fun w=>hR b' w;rw[hr]at hz hR1;rw[hr']at hz hR2;obtain⟨HR1,HR2,Hz⟩:=hid3 hR1 hR2 hz;clear hR1 hR2 hz;clear hR hp hr hr';go_enter Tryz.func111,Tryz.ntmps111;go_upto_region 9 with(fail)
 go_region_with (first|(go_at_call 176;first|((with_reducible refine(HR1.out _).mono ?_);rintro e w1 ⟨rfl,rfl⟩)|((with_reducible refine(HR2.out _).mono ?_);rintro e w1 ⟨rfl,rfl⟩)))
 all_goals
  go_wp2_with (fail);(with_reducible refine(HN.out _ _ _).mono ?_);rintro e w' ⟨rfl,rfl⟩;go_wp2;go_ret;exact Az.of Hz.out (Below.drew (B6 _ _ _))
theorem Alh (b b':Bool) (n n':Int) (t t':ByteArray) (l l':List Val) (on on':Nat) (la oa la' oa':Option Addr) (lc oc lc' oc':Nat) (w:World) (p:Prop) (IH: ∀v ∈ l,Ajj v) (hp:Lc l l'=true ↔ p)
 (hl:l= []\/ ∃g off,la=some ⟨g,off,none⟩/\g<w.heap.size/\Ao w w.heap.size l g off) (hl':l'= []\/ ∃g off,la'=some ⟨g,off,none⟩/\g<w.heap.size/\Ao w w.heap.size l' g off)
 (hb:Bf l<=100000000) (hb':Bf l'<=100000000):
 Calls Tryz.prog 111 #[.agg #[.int .i64 5,.bool b,.int .i64 n,.string t,.slice la l.length lc,.slice oa on oc],.agg #[.int .i64 5,.bool b',.int .i64 n',.string t',.slice la' l'.length lc',.slice oa' on' oc']] w (Az p w):=by
 have hC:=fun(W:World) (hB:Below w.heap.size w W)=>Zb l l' la la' lc lc' w.heap.size W hB.size IH
  (hl.imp id fun⟨g,off,e,hg,h⟩=>⟨g,off,e,hg,h.below hg hB⟩) (hl'.imp id fun⟨g,off,e,hg,h⟩=>⟨g,off,e,hg,h.below hg hB⟩) hb hb'
 simp only[propext hp]at hC;have HC:=qz hC;clear hC;clear IH hp hl hl' hb hb';go_enter Tryz.func111,Tryz.ntmps111;go_wp2_with (fail);(with_reducible refine(HC.out _ (B6 _ _ _)).mono ?_);rintro e w' ⟨c,rfl,hc,hb⟩;have Hw:=qz ((B6 w (.cells #[.int .i64 5,.bool b,.int .i64 n,.string t,.slice la l.length lc,.slice oa on oc] 37) (.cells #[.int .i64 5,.bool b',.int .i64 n',.string t',.slice la' l'.length lc',.slice oa' on' oc'] 37)).trans (hb.mono (by simp;omega)));have Hc:=qz hc;clear hc;clear hb;go_wp2;go_ret;exact Az.of Hc.out Hw.out
theorem Am6 (b b':Bool) (n n':Int) (t t':ByteArray) (l l':List (ByteArray×Val)) (ln ln':Nat) (la oa la' oa':Option Addr) (lc oc lc' oc':Nat) (w:World) (p:Prop) (IH: ∀m ∈ l,Ajj m.2) (hp:Km l l'=true ↔ p)
 (hl:l= []\/ ∃g off,oa=some ⟨g,off,none⟩/\g<w.heap.size/\Ap w w.heap.size l g off) (hl':l'= []\/ ∃g off,oa'=some ⟨g,off,none⟩/\g<w.heap.size/\Ap w w.heap.size l' g off)
 (hb:Ab l<=100000000) (hb':Ab l'<=100000000):
 Calls Tryz.prog 111 #[.agg #[.int .i64 6,.bool b,.int .i64 n,.string t,.slice la ln lc,.slice oa l.length oc],.agg #[.int .i64 6,.bool b',.int .i64 n',.string t',.slice la' ln' lc',.slice oa' l'.length oc']] w (Az p w):=by
 have hC:=fun(W:World) (hB:Below w.heap.size w W)=>Zc l l' oa oa' oc oc' w.heap.size W hB.size IH
  (hl.imp id fun⟨g,off,e,hg,h⟩=>⟨g,off,e,hg,h.below hg hB⟩) (hl'.imp id fun⟨g,off,e,hg,h⟩=>⟨g,off,e,hg,h.below hg hB⟩) hb hb'
 simp only[propext hp]at hC;have HC:=qz hC;clear hC;clear IH hp hl hl' hb hb';go_enter Tryz.func111,Tryz.ntmps111;go_wp2_with (fail);(with_reducible refine(HC.out _ (B6 _ _ _)).mono ?_);rintro e w' ⟨c,rfl,hc,hb⟩;have Hw:=qz ((B6 w (.cells #[.int .i64 6,.bool b,.int .i64 n,.string t,.slice la ln lc,.slice oa l.length oc] 37) (.cells #[.int .i64 6,.bool b',.int .i64 n',.string t',.slice la' ln' lc',.slice oa' l'.length oc'] 37)).trans (hb.mono (by simp;omega)));have Hc:=qz hc;clear hc;clear hb;go_wp2;go_ret;exact Az.of Hc.out Hw.out
theorem Afd: ∀a,Ajj a:=by
 refine Val.ind ?_;intro k b n t l o IHl IHo v cs cs' w hV hV' hb hb';obtain⟨k',b',n',t',l',o'⟩:=v;simp only[Ac]at hV hV';obtain⟨la,lc,oa,oc,rfl,hla,hoa⟩:=hV;obtain⟨la',lc',oa',oc',rfl,hla',hoa'⟩:=hV';simp only[Val.bulk]at hb hb';by_cases hkk:k≠k'
 . exact Alg k k' b b' n n' t t' _ _ _ _ w _ hkk (fun e=>by simp only[Dj,Bool.and_eq_true,decide_eq_true_eq]at e;exact hkk e.1)
 obtain rfl:k=k':=by omega
 by_cases h2:k=2
 . subst h2;exact Alf b b' n n' t t' _ _ _ _ w _ (by simp[Dj])
 by_cases h3:k=3
 . subst h3;exact Am5 b b' n n' t t' _ _ _ _ w _ (by simp[Dj])
 by_cases h4:k=4
 . subst h4;exact Ali b b' n n' t t' _ _ _ _ w _ (by simp[Dj])
 by_cases h5:k=5
 . subst h5;exact Alh b b' n n' t t' l l' _ _ la oa la' oa' lc oc lc' oc' w _ IHl (by simp[Dj]) hla hla' (by omega) (by omega)
 by_cases h6:k=6
 . subst h6;exact Am6 b b' n n' t t' o o' _ _ la oa la' oa' lc oc lc' oc' w _ IHo (by simp[Dj]) hoa hoa' (by omega) (by omega)
 exact Am7 k h2 h3 h4 h5 h6 b b' n n' t t' _ _ _ _ w _ (by simp[Dj,h2,h3,h4,h5,h6])
theorem Adh (v v':Val) (cs cs':List Value) (w:World) (hV:Ac w w.heap.size v cs) (hV':Ac w w.heap.size v' cs') (hb:v.bulk<=100000000) (hb':v'.bulk<=100000000):
 Calls Tryz.prog 62 #[.agg cs.toArray,.agg cs'.toArray] w (Bt (Dj v v'=true) w):=by
 have hC:=fun(W:World) (hB:Below w.heap.size w W)=>Afd v v' cs cs' W (Ac.more hB.size _ _ (hV.below hB)) (Ac.more hB.size _ _ (hV'.below hB)) hb hb';generalize Dj v v'=B at hC ⊢;obtain⟨k,b,n,t,l,o⟩:=v;obtain⟨k',b',n',t',l',o'⟩:=v';simp only[Ac]at hV hV';obtain⟨la,lc,oa,oc,rfl,hla,hoa⟩:=hV;obtain⟨la',lc',oa',oc',rfl,hla',hoa'⟩:=hV';have HC:=qz hC;clear hC;clear hla hoa hla' hoa';go_enter Tryz.func62,Tryz.ntmps62;go_wp2_with (fail);(with_reducible refine(HC.out _ (Ct _ _ _)).mono ?_);rintro e w1 ⟨c,rfl,hc,hb1⟩;have hw:=(Ct w (.cells #[.int .i64 k,.bool b,.int .i64 n,.string t,.slice la l.length lc,.slice oa o.length oc] 37) (.cells #[.int .i64 k',.bool b',.int .i64 n',.string t',.slice la' l'.length lc',.slice oa' o'.length oc'] 37)).trans (hb1.mono (by simp;omega));by_cases h0:c=0
 . have h1:=hc.1 h0;subst h0;obtain⟨Hw,H1⟩:=hid2 hw h1;clear hw h1;clear hc hb1;go_wp2;go_ret;exact Bt.yes H1.out Hw.out
 . have h1: ¬(B=true):=fun e=>h0 (hc.2 e);have f1:(c==0)=false:=by simpa using h0
   obtain⟨Hw,H1⟩:=hid2 hw h1;clear hw h1;clear hc hb1 h0;go_wp2;go_ret;exact Bt.no H1.out Hw.out
end Go.Proofs.YtkmcjfkokoidcaaGreatDoor
