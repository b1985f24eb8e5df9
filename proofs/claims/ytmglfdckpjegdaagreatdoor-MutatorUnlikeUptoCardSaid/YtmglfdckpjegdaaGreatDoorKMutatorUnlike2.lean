/- Parts: commonplaceref11.Same of any two. Printed by mksme.py. Condition: bulks of at most 10^8. -/
import Derived.StillTailTactics
import Derived.Test.YtmglfdckpjegdaaGreatDoorKMu29
import Derived.Test.YtmglfdckpjegdaaGreatDoorKMutatorUnlike1
set_option maxHeartbeats 20000000
namespace Go.Proofs.YtmglfdckpjegdaaGreatDoor
open Go Go.RowKit
theorem Xe (a b:Int):Lib.compareInt a b=Kj a b:=by
 unfold Lib.compareInt Kj;rfl
theorem Mh: ∀a b:List UInt8,Lib.compareBytes a b=0 ↔ a=b
 | [], []=>by simp[Lib.compareBytes]
 | [],_::_=>by simp[Lib.compareBytes]
 |_::_, []=>by simp[Lib.compareBytes]
 |a::x,b::y=>by
  have e1:Lib.compareBytes (a::x) (b::y)=if a<b then -1 else if b<a then 1 else Lib.compareBytes x y:=rfl;rw[e1]
  split
  . rename_i h;simp only[List.cons.injEq];exact⟨fun e=>absurd e (by decide),fun e=>by rw[e.1]at h;exact absurd h (UInt8.lt_irrefl _)⟩
  . split
    . rename_i h;simp only[List.cons.injEq];exact⟨fun e=>absurd e (by decide),fun e=>by rw[e.1]at h;exact absurd h (UInt8.lt_irrefl _)⟩
    . rename_i h1 h2;rw[Mh x y,List.cons.injEq];have:a=b:=UInt8.le_antisymm (UInt8.not_lt.1 h2) (UInt8.not_lt.1 h1);simp[this]
theorem Wi (a b:ByteArray) (w:World):Calls Tryz.prog 144 #[.string a,.string b] w fun e w'=> ∃c:Int,e=.returned (.int .i64 c)/\(c=0 ↔ a=b)/\w'=w:=by
 refine(Tryz.strings_Compare a b w).mono ?_;rintro e w' ⟨rfl,rfl⟩;refine⟨_,rfl, ?_,rfl⟩;rw[Mh];exact⟨fun h=>ByteArray.ext (Array.ext' h),fun h=>by rw[h]⟩
theorem Vf (a b:Int) (w:World):Calls Tryz.prog 182 #[.int .i64 a,.int .i64 b] w fun e w'=>e=.returned (.int .i64 (Kj a b))/\w'=w:=by
 refine(Tryz.cmp_Compare_int a b w).mono ?_;rintro e w' ⟨rfl,rfl⟩;rw[Xe];exact⟨rfl,rfl⟩
theorem Vy (a:Int) (w:World):Calls Tryz.prog 179 #[.int .i64 a] w fun e w'=>e=.returned (.bool false)/\w'=w:=by
 go_enter Tryz.func179,Tryz.ntmps179;go_wp2;go_ret;exact⟨rfl,rfl⟩
theorem Vx (a:Int) (w:World):Calls Tryz.prog 180 #[.int .i64 a] w fun e w'=>e=.returned (.bool false)/\w'=w:=by
 go_enter Tryz.func180,Tryz.ntmps180;go_wp2;go_ret;exact⟨rfl,rfl⟩
theorem Afw (a b:Int) (w:World):Calls Tryz.prog 141 #[.int .i64 a,.int .i64 b] w fun e w'=>e=.returned (.int .i64 (Kj a b))/\w'=w:=by
 have hA:=Vy a w;have hB:=Vy b w;obtain⟨HA,HB⟩:=hid2 hA hB;clear hA hB;unfold Kj;by_cases h1:a<b
 . rw[if_pos h1];go_enter Tryz.func141,Tryz.ntmps141;go_wp2_with (go_at_call 179;first|(with_reducible refine(HA.out).mono ?_;rintro e w' ⟨rfl,rfl⟩)|(with_reducible refine(HB.out).mono ?_;rintro e w' ⟨rfl,rfl⟩));go_ret;exact⟨rfl,rfl⟩
 rw[if_neg h1];by_cases h2:b<a
 . rw[if_pos h2];go_enter Tryz.func141,Tryz.ntmps141;go_wp2_with (go_at_call 179;first|(with_reducible refine(HA.out).mono ?_;rintro e w' ⟨rfl,rfl⟩)|(with_reducible refine(HB.out).mono ?_;rintro e w' ⟨rfl,rfl⟩));go_ret;exact⟨rfl,rfl⟩
 . rw[if_neg h2];go_enter Tryz.func141,Tryz.ntmps141;go_wp2_with (go_at_call 179;first|(with_reducible refine(HA.out).mono ?_;rintro e w' ⟨rfl,rfl⟩)|(with_reducible refine(HB.out).mono ?_;rintro e w' ⟨rfl,rfl⟩));go_ret;exact⟨rfl,rfl⟩
theorem Qq (a b:Int) (w:World):Calls Tryz.prog 143 #[.int .i64 a,.int .i64 b] w fun e w'=>e=.returned (.int .i64 (Kj a b))/\w'=w:=by
 have hA:=Vx a w;have hB:=Vx b w;obtain⟨HA,HB⟩:=hid2 hA hB;clear hA hB;unfold Kj;by_cases h1:a<b
 . rw[if_pos h1];go_enter Tryz.func143,Tryz.ntmps143;go_wp2_with (go_at_call 180;first|(with_reducible refine(HA.out).mono ?_;rintro e w' ⟨rfl,rfl⟩)|(with_reducible refine(HB.out).mono ?_;rintro e w' ⟨rfl,rfl⟩));go_ret;exact⟨rfl,rfl⟩
 rw[if_neg h1];by_cases h2:b<a
 . rw[if_pos h2];go_enter Tryz.func143,Tryz.ntmps143;go_wp2_with (go_at_call 180;first|(with_reducible refine(HA.out).mono ?_;rintro e w' ⟨rfl,rfl⟩)|(with_reducible refine(HB.out).mono ?_;rintro e w' ⟨rfl,rfl⟩));go_ret;exact⟨rfl,rfl⟩
 . rw[if_neg h2];go_enter Tryz.func143,Tryz.ntmps143;go_wp2_with (go_at_call 180;first|(with_reducible refine(HA.out).mono ?_;rintro e w' ⟨rfl,rfl⟩)|(with_reducible refine(HB.out).mono ?_;rintro e w' ⟨rfl,rfl⟩));go_ret;exact⟨rfl,rfl⟩
theorem Agj (b:Bool) (w:World):Calls Tryz.prog 142 #[.bool b] w fun e w'=>e=.returned (.int .i64 (if b then 1 else 0))/\w'=w:=by
 cases b
 all_goals
  go_enter Tryz.func142,Tryz.ntmps142;go_wp2;go_ret;exact⟨rfl,rfl⟩
def Akj (a:Val):Prop:= ∀(b:Val) (cs cs':List Value) (w:World),Ab w w.heap.size a cs->Ab w w.heap.size b cs'->a.bulk<=100000000->b.bulk<=100000000->
    Calls Tryz.prog 98 #[.agg cs.toArray,.agg cs'.toArray] w (Bh (Do a b=true) w)
set_option maxRecDepth 100000 in
theorem Afe (key key':ByteArray) (a0 a1 a2 a3 a4 a5 b0 b1 b2 b3 b4 b5:Value) (w:World) (Q:Prop)
 (hC: ∀W,Below w.heap.size w W->Calls Tryz.prog 98 #[.agg #[a0,a1,a2,a3,a4,a5],.agg #[b0,b1,b2,b3,b4,b5]] W (Bh Q W)):
 Calls Tryz.prog 147 #[.agg #[.string key,a0,a1,a2,a3,a4,a5],.agg #[.string key',b0,b1,b2,b3,b4,b5]] w (Bh (key=key'/\Q) w):=by
 have hA:=fun W=>Wi key key' W;obtain⟨HA,HC⟩:=hid2 hA hC;clear hA hC;go_enter Tryz.func147,Tryz.ntmps147;go_wp2_with (fail);(with_reducible refine(HA.out _).mono ?_);rintro e w1 ⟨c,rfl,hc,rfl⟩;by_cases hc0:c=0
 . have hk:=hc.1 hc0;subst hc0;have Hk:=Lib.hid hk;clear hk;clear hc;go_wp2_with (fail);(with_reducible refine(HC.out _ (Cj _ _ _)).mono ?_);rintro e w' ⟨c',rfl,hc',hb'⟩;have hf:c'=0 ↔ key=key'/\Q:=⟨fun e=>⟨Hk.out,hc'.1 e⟩,fun e=>hc'.2 e.2⟩;have hw:=(Cj w (.cells #[.string key,a0,a1,a2,a3,a4,a5] 63) (.cells #[.string key',b0,b1,b2,b3,b4,b5] 63)).trans (hb'.mono (by simp;omega));obtain⟨Hf,Hw⟩:=hid2 hf hw;clear hf hw;clear hc' hb';go_wp2;go_ret;exact Bh.of Hf.out Hw.out
 . have hf:c=0 ↔ key=key'/\Q:=⟨fun e=>absurd e hc0,fun e=>absurd (hc.2 e.1) hc0⟩;have f1:(c==0)=false:=by simpa using hc0
   have f2:(c != 0)=true:=by simpa using hc0
   have Hf:=Lib.hid hf;clear hf;clear hc hc0;go_wp2;go_ret;exact Bh.of Hf.out (Cj _ _ _)
set_option maxRecDepth 100000 in
theorem Aau (l l':List Val) (la la':Option Addr) (lc lc' B0:Nat) (w:World) (hB0:B0<=w.heap.size) (IH: ∀v ∈ l,Akj v)
 (hl:l= []\/ ∃g off,la=some ⟨g,off,none⟩/\g<B0/\A1 w B0 l g off) (hl':l'= []\/ ∃g off,la'=some ⟨g,off,none⟩/\g<B0/\A1 w B0 l' g off)
 (hb:Bd l<=100000000) (hb':Bd l'<=100000000):
 Calls Tryz.prog 145 #[.slice la l.length lc,.slice la' l'.length lc',.func (.func 98) #[] #[]] w (Bh (Mw l l'=true) w):=by
 have hln:=Ee l;have hln':=Ee l';have HI:=Lib.hid IH;have H0:Hid (∀j x y,j<0->l[j]? =some x->l'[j]? =some y->Do x y=true):=fun _ _ _ e=>absurd e (Nat.not_lt_zero _);have HBB:Hid (Below w.heap.size w w):=Below.refl _ _;obtain⟨p,hp⟩: ∃p:Prop,(Mw l l'=true)=p:=⟨_,rfl⟩;rw[hp];have Hp:=Lib.hid hp;clear IH hp;obtain⟨M,⟨hM1,hM2,hM3⟩,hM⟩: ∃M:Nat,(M<=l.length/\M<=l'.length/\(M=l.length\/M=l'.length))/\(min (l.length:Int) (l'.length:Int))=M:=⟨min l.length l'.length,⟨by omega,by omega,by omega⟩,by omega⟩;have hM':(if(l'.length:Int)<(l.length:Int)then(l'.length:Int)else(l.length:Int))=M:=by rw[<-hM];split<;>omega
 have hM'':(if(l.length:Int)<(l'.length:Int)then(l.length:Int)else(l'.length:Int))=M:=by rw[<-hM];split<;>omega
 go_enter Tryz.func145,Tryz.ntmps145;go_wp2_with (fail);go_loopw [14] (fun i wr=> ∃k:Nat,i=.int .i64 k/\k<=M/\Hid (∀j x y,j<k->l[j]? =some x->l'[j]? =some y->Do x y=true)/\Hid (Below w.heap.size w wr)) (fun i _=>M - (intOf i).toNat)
 case atStart=>exact⟨0,rfl,Nat.zero_le _,H0,HBB⟩
 case round=>
  obtain⟨k,rfl,hk,ht,hbw⟩:=hrel;clear H0 HBB hM hM' hM'';by_cases hlt:k<M
  . have hk1:k<l.length:=by omega
    have hk2:k<l'.length:=by omega
    have hz:=hbw.out.size;obtain⟨g,off,rfl,hg,hL⟩: ∃g off,la=some ⟨g,off,none⟩/\g<B0/\A1 w B0 l g off:=by
     rcases hl with rfl|h
     . simp at hk1
     . exact h
    obtain⟨g',off',rfl,hg',hL'⟩: ∃g off,la'=some ⟨g,off,none⟩/\g<B0/\A1 w B0 l' g off:=by
     rcases hl' with rfl|h
     . simp at hk2
     . exact h
    obtain⟨x,hx⟩: ∃v,l[k]? =some v:=⟨_,List.getElem?_eq_getElem hk1⟩;obtain⟨y,hy⟩: ∃v,l'[k]? =some v:=⟨_,List.getElem?_eq_getElem hk2⟩;have hxm:=List.mem_of_getElem? hx;have hym:=List.mem_of_getElem? hy;have hxb:=Er hxm;have hyb:=Er hym;have IHx:=HI.out _ hxm;have hxy:Do x y=true->(∀j x y,j<k+1->l[j]? =some x->l'[j]? =some y->Do x y=true):=by
     intro e j x' y' hj h1 h2;rcases Nat.lt_succ_iff_lt_or_eq.1 hj with hj|rfl
     . exact ht.out j x' y' hj h1 h2
     . rw[hx]at h1;rw[hy]at h2;rw[<-Option.some.inj h1,<-Option.some.inj h2];exact e
    have hxn: ¬Do x y=true-> ¬p:=fun e h=>by
     rw[<-Hp.out]at h;exact e ((Ld.1 h).2 k x y hx hy)
    obtain⟨k1,b1',n1,t1,l1,o1⟩:=x;obtain⟨k2,b2',n2,t2,l2,o2⟩:=y;obtain⟨la1,lc1,oa1,oc1,hv1,c0,c1,c2,c3,c4,c5⟩:=(hL.below hg (hbw.out.mono hB0)).six hx;obtain⟨la2,lc2,oa2,oc2,hv2,e0,e1,e2,e3,e4,e5⟩:=(hL'.below hg' (hbw.out.mono hB0)).six hy;have CC:=fun(W:World) (hW:Below wr.heap.size wr W)=>IHx _ _ _ W (Ab.more (Nat.le_trans hB0 (Nat.le_trans hz hW.size)) _ _ (hv1.below (hW.mono (Nat.le_trans hB0 hz)))) (Ab.more (Nat.le_trans hB0 (Nat.le_trans hz hW.size)) _ _ (hv2.below (hW.mono (Nat.le_trans hB0 hz)))) (by omega) (by omega);obtain⟨Q,hQ⟩: ∃Q:Prop,(Do (Val.mk k1 b1' n1 t1 l1 o1) (Val.mk k2 b2' n2 t2 l2 o2)=true)=Q:=⟨_,rfl⟩;rw[hQ]at CC hxy;have Hxn:Hid (¬Q-> ¬p):=by rw[<-hQ];exact hxn
    have hgr:g<wr.heap.size:=by omega
    have hgr':g'<wr.heap.size:=by omega
    have hq1:(k:Int)<(M:Int):=by omega
    have hq2:(k:Int)<(l.length:Int):=by omega
    have hq3:(k:Int)<(l'.length:Int):=by omega
    have hq0:(0:Int)<=k:=by omega
    obtain⟨CC',Hxy⟩:=hid2 CC hxy;clear CC hxy;clear hQ hxn IHx hxb hyb hxm hym hv1 hv2 hx hy hL hL' hg hg' ht;go_upto_region 4 with(fail)
    go_region_with (go_at_call 98;(with_reducible refine(CC'.out _ (Below.drew (Below.refl _ _))).mono ?_);rintro e w4 ⟨c,rfl,hc,hb4⟩)
    all_goals
     have Hc:=Lib.hid hc;have hb4':Below wr.heap.size wr w4:=(Below.drew (Below.refl _ _)).trans hb4;have hbw4:=Lib.hid (hbw.out.trans (hb4'.mono hz));clear hc hb4 hb4' hbw CC' c0 c1 c2 c3 c4 c5 e0 e1 e2 e3 e4 e5;by_cases hc0:c=0
     . have Hn:=Lib.hid (Hxy.out (Hc.out.1 hc0));subst hc0;clear Hc;go_wp2;go_roundw
       case rel=>exact⟨k+1,by go_num,by omega,Hn,hbw4⟩
       case measure=>simp only[intOf];omega
     . have hne:=Hxn.out (fun e=>hc0 (Hc.out.2 e));have f1:(c==0)=false:=by simpa using hc0
       have f2:(c != 0)=true:=by simpa using hc0
       have Hf:Hid (c=0 ↔ p):=⟨fun e=>absurd e hc0,fun e=>absurd e hne⟩;clear Hc hne hc0;go_wp2;go_ret;exact Bh.of Hf.out hbw4.out
  . obtain rfl:k=M:=by omega
    have hq1: ¬(k:Int)<(k:Int):=by omega
    have cN:=fun w=>Vf (l.length:Int) (l'.length:Int) w;obtain⟨C,hC⟩: ∃C,Kj (l.length:Int) (l'.length:Int)=C:=⟨_,rfl⟩;rw[hC]at cN;have HN:=Lib.hid cN;have Hf:Hid (C=0 ↔ p):=by
     show _ ↔ _;rw[<-hC,Ej,<-Hp.out];constructor
     . intro h;exact Ld.2 ⟨by omega,fun j x y h1 h2=>ht.out j x y (by have:=(List.getElem?_eq_some_iff.1 h1).1;omega) h1 h2⟩
     . intro h;have:=(Ld.1 h).1;omega
    clear cN hC ht hl hl';go_wp2_with (fail);(with_reducible refine(HN.out _).mono ?_);rintro e w' ⟨rfl,rfl⟩;go_wp2;go_ret;exact Bh.of Hf.out hbw.out
set_option maxRecDepth 100000 in
theorem Aav (l l':List (ByteArray×Val)) (la la':Option Addr) (lc lc' B0:Nat) (w:World) (hB0:B0<=w.heap.size) (IH: ∀m ∈ l,Akj m.2)
 (hl:l= []\/ ∃g off,la=some ⟨g,off,none⟩/\g<B0/\A5 w B0 l g off) (hl':l'= []\/ ∃g off,la'=some ⟨g,off,none⟩/\g<B0/\A5 w B0 l' g off)
 (hb:Av l<=100000000) (hb':Av l'<=100000000):
 Calls Tryz.prog 146 #[.slice la l.length lc,.slice la' l'.length lc',.func (.func 147) #[] #[]] w (Bh (Mf l l'=true) w):=by
 have hln:=Dj l;have hln':=Dj l';have HI:=Lib.hid IH;have H0:Hid (∀j x y,j<0->l[j]? =some x->l'[j]? =some y->Pa x y=true):=fun _ _ _ e=>absurd e (Nat.not_lt_zero _);have HBB:Hid (Below w.heap.size w w):=Below.refl _ _;obtain⟨p,hp⟩: ∃p:Prop,(Mf l l'=true)=p:=⟨_,rfl⟩;rw[hp];have Hp:=Lib.hid hp;clear IH hp;obtain⟨M,⟨hM1,hM2,hM3⟩,hM⟩: ∃M:Nat,(M<=l.length/\M<=l'.length/\(M=l.length\/M=l'.length))/\(min (l.length:Int) (l'.length:Int))=M:=⟨min l.length l'.length,⟨by omega,by omega,by omega⟩,by omega⟩;have hM':(if(l'.length:Int)<(l.length:Int)then(l'.length:Int)else(l.length:Int))=M:=by rw[<-hM];split<;>omega
 have hM'':(if(l.length:Int)<(l'.length:Int)then(l.length:Int)else(l'.length:Int))=M:=by rw[<-hM];split<;>omega
 go_enter Tryz.func146,Tryz.ntmps146;go_wp2_with (fail);go_loopw [14] (fun i wr=> ∃k:Nat,i=.int .i64 k/\k<=M/\Hid (∀j x y,j<k->l[j]? =some x->l'[j]? =some y->Pa x y=true)/\Hid (Below w.heap.size w wr)) (fun i _=>M - (intOf i).toNat)
 case atStart=>exact⟨0,rfl,Nat.zero_le _,H0,HBB⟩
 case round=>
  obtain⟨k,rfl,hk,ht,hbw⟩:=hrel;clear H0 HBB hM hM' hM'';by_cases hlt:k<M
  . have hk1:k<l.length:=by omega
    have hk2:k<l'.length:=by omega
    have hz:=hbw.out.size;obtain⟨g,off,rfl,hg,hL⟩: ∃g off,la=some ⟨g,off,none⟩/\g<B0/\A5 w B0 l g off:=by
     rcases hl with rfl|h
     . simp at hk1
     . exact h
    obtain⟨g',off',rfl,hg',hL'⟩: ∃g off,la'=some ⟨g,off,none⟩/\g<B0/\A5 w B0 l' g off:=by
     rcases hl' with rfl|h
     . simp at hk2
     . exact h
    obtain⟨x,hx⟩: ∃v,l[k]? =some v:=⟨_,List.getElem?_eq_getElem hk1⟩;obtain⟨y,hy⟩: ∃v,l'[k]? =some v:=⟨_,List.getElem?_eq_getElem hk2⟩;have hxm:=List.mem_of_getElem? hx;have hym:=List.mem_of_getElem? hy;have hxb:=Ef hxm;have hyb:=Ef hym;have IHx:=HI.out _ hxm;have hxy:Pa x y=true->(∀j x y,j<k+1->l[j]? =some x->l'[j]? =some y->Pa x y=true):=by
     intro e j x' y' hj h1 h2;rcases Nat.lt_succ_iff_lt_or_eq.1 hj with hj|rfl
     . exact ht.out j x' y' hj h1 h2
     . rw[hx]at h1;rw[hy]at h2;rw[<-Option.some.inj h1,<-Option.some.inj h2];exact e
    have hxn: ¬Pa x y=true-> ¬p:=fun e h=>by
     rw[<-Hp.out]at h;exact e ((Jz.1 h).2 k x y hx hy)
    obtain⟨key,⟨k1,b1',n1,t1,l1,o1⟩⟩:=x;obtain⟨key',⟨k2,b2',n2,t2,l2,o2⟩⟩:=y;obtain⟨la1,lc1,oa1,oc1,hv1,c0,c1,c2,c3,c4,c5,c6⟩:=(hL.below hg (hbw.out.mono hB0)).seven hx;obtain⟨la2,lc2,oa2,oc2,hv2,e0,e1,e2,e3,e4,e5,e6⟩:=(hL'.below hg' (hbw.out.mono hB0)).seven hy;simp only at IHx hxb hyb;have CC:=fun(W:World) (hW:Below wr.heap.size wr W)=>Afe key key' _ _ _ _ _ _ _ _ _ _ _ _ W _ (fun W' hW'=>IHx _ _ _ W' (Ab.more (Nat.le_trans hB0 (Nat.le_trans hz (Nat.le_trans hW.size hW'.size))) _ _ ((hv1.below (hW.mono (Nat.le_trans hB0 hz))).below (hW'.mono (Nat.le_trans hB0 (Nat.le_trans hz hW.size))))) (Ab.more (Nat.le_trans hB0 (Nat.le_trans hz (Nat.le_trans hW.size hW'.size))) _ _ ((hv2.below (hW.mono (Nat.le_trans hB0 hz))).below (hW'.mono (Nat.le_trans hB0 (Nat.le_trans hz hW.size))))) (by omega) (by omega));obtain⟨Q,hQ⟩: ∃Q:Prop,(Pa (key,Val.mk k1 b1' n1 t1 l1 o1) (key',Val.mk k2 b2' n2 t2 l2 o2)=true)=Q:=⟨_,rfl⟩;have hQ2:(key=key'/\Do (Val.mk k1 b1' n1 t1 l1 o1) (Val.mk k2 b2' n2 t2 l2 o2)=true)=Q:=by rw[<-hQ];simp[Pa]
    rw[hQ2]at CC;clear hQ2;rw[hQ]at hxy;have Hxn:Hid (¬Q-> ¬p):=by rw[<-hQ];exact hxn
    have hgr:g<wr.heap.size:=by omega
    have hgr':g'<wr.heap.size:=by omega
    have hq1:(k:Int)<(M:Int):=by omega
    have hq2:(k:Int)<(l.length:Int):=by omega
    have hq3:(k:Int)<(l'.length:Int):=by omega
    have hq0:(0:Int)<=k:=by omega
    obtain⟨CC',Hxy⟩:=hid2 CC hxy;clear CC hxy;clear hQ hxn IHx hxb hyb hxm hym hv1 hv2 hx hy hL hL' hg hg' ht;go_upto_region 4 with(fail)
    go_region_with (go_at_call 147;(with_reducible refine(CC'.out _ (Below.drew (Below.refl _ _))).mono ?_);rintro e w4 ⟨c,rfl,hc,hb4⟩)
    all_goals
     have Hc:=Lib.hid hc;have hb4':Below wr.heap.size wr w4:=(Below.drew (Below.refl _ _)).trans hb4;have hbw4:=Lib.hid (hbw.out.trans (hb4'.mono hz));clear hc hb4 hb4' hbw CC' c0 c1 c2 c3 c4 c5 c6 e0 e1 e2 e3 e4 e5 e6;by_cases hc0:c=0
     . have Hn:=Lib.hid (Hxy.out (Hc.out.1 hc0));subst hc0;clear Hc;go_wp2;go_roundw
       case rel=>exact⟨k+1,by go_num,by omega,Hn,hbw4⟩
       case measure=>simp only[intOf];omega
     . have hne:=Hxn.out (fun e=>hc0 (Hc.out.2 e));have f1:(c==0)=false:=by simpa using hc0
       have f2:(c != 0)=true:=by simpa using hc0
       have Hf:Hid (c=0 ↔ p):=⟨fun e=>absurd e hc0,fun e=>absurd e hne⟩;clear Hc hne hc0;go_wp2;go_ret;exact Bh.of Hf.out hbw4.out
  . obtain rfl:k=M:=by omega
    have hq1: ¬(k:Int)<(k:Int):=by omega
    have cN:=fun w=>Vf (l.length:Int) (l'.length:Int) w;obtain⟨C,hC⟩: ∃C,Kj (l.length:Int) (l'.length:Int)=C:=⟨_,rfl⟩;rw[hC]at cN;have HN:=Lib.hid cN;have Hf:Hid (C=0 ↔ p):=by
     show _ ↔ _;rw[<-hC,Ej,<-Hp.out];constructor
     . intro h;exact Jz.2 ⟨by omega,fun j x y h1 h2=>ht.out j x y (by have:=(List.getElem?_eq_some_iff.1 h1).1;omega) h1 h2⟩
     . intro h;have:=(Jz.1 h).1;omega
    clear cN hC ht hl hl';go_wp2_with (fail);(with_reducible refine(HN.out _).mono ?_);rintro e w' ⟨rfl,rfl⟩;go_wp2;go_ret;exact Bh.of Hf.out hbw.out
set_option maxRecDepth 100000 in
theorem Amn (k k':Int) (b b':Bool) (n n':Int) (t t':ByteArray) (x y x' y':Value) (w:World) (p:Prop) (h:k≠k') (hp: ¬p):
 Calls Tryz.prog 98 #[.agg #[.int .i64 k,.bool b,.int .i64 n,.string t,x,y],.agg #[.int .i64 k',.bool b',.int .i64 n',.string t',x',y']] w (Bh p w):=by
 have h1:(k==k')=false:=by simpa using h
 have h2:(k != k')=true:=by simpa using h
 obtain⟨C,hC⟩: ∃C,Kj k k'=C:=⟨_,rfl⟩;have cN:=fun w=>Afw k k' w;rw[hC]at cN;have HN:=Lib.hid cN;have Hc:Hid (C=0 ↔ p):=by
  show _ ↔ _;rw[<-hC,Ej];exact⟨fun e=>absurd e h,fun e=>absurd e hp⟩
 clear cN hC h hp;go_enter Tryz.func98,Tryz.ntmps98;go_wp2_with (fail);(with_reducible refine(HN.out _).mono ?_);rintro e w' ⟨rfl,rfl⟩;go_wp2;go_ret;exact Bh.of Hc.out (Cj _ _ _)
set_option maxRecDepth 100000 in
theorem Aou (k:Int) (h2:k≠2) (h3:k≠3) (h4:k≠4) (h5:k≠5) (h6:k≠6) (b b':Bool) (n n':Int) (t t':ByteArray) (x y x' y':Value) (w:World) (p:Prop) (hp:p):
 Calls Tryz.prog 98 #[.agg #[.int .i64 k,.bool b,.int .i64 n,.string t,x,y],.agg #[.int .i64 k,.bool b',.int .i64 n',.string t',x',y']] w (Bh p w):=by
 have Hp:=Lib.hid hp;have e2:(k==2)=false:=by simpa using h2
 have e3:(k==3)=false:=by simpa using h3
 have e4:(k==4)=false:=by simpa using h4
 have e5:(k==5)=false:=by simpa using h5
 have e6:(k==6)=false:=by simpa using h6
 clear hp;go_enter Tryz.func98,Tryz.ntmps98;go_wp2;go_ret;exact Bh.of ⟨fun _=>Hp.out,fun _=>rfl⟩ (Cj _ _ _)
set_option maxRecDepth 100000 in
theorem Aos (b b':Bool) (n n':Int) (t t':ByteArray) (x y x' y':Value) (w:World) (p:Prop) (hp:n=n' ↔ p):
 Calls Tryz.prog 98 #[.agg #[.int .i64 3,.bool b,.int .i64 n,.string t,x,y],.agg #[.int .i64 3,.bool b',.int .i64 n',.string t',x',y']] w (Bh p w):=by
 obtain⟨C,hC⟩: ∃C,Kj n n'=C:=⟨_,rfl⟩;have cN:=fun w=>Qq n n' w;rw[hC]at cN;have HN:=Lib.hid cN;have Hc:Hid (C=0 ↔ p):=by
  show _ ↔ _;rw[<-hC,Ej];exact hp
 clear cN hC hp;go_enter Tryz.func98,Tryz.ntmps98;go_wp2_with (fail);(with_reducible refine(HN.out _).mono ?_);rintro e w' ⟨rfl,rfl⟩;go_wp2;go_ret;exact Bh.of Hc.out (Cj _ _ _)
set_option maxRecDepth 100000 in
theorem Amp (b b':Bool) (n n':Int) (t t':ByteArray) (x y x' y':Value) (w:World) (p:Prop) (hp:t=t' ↔ p):
 Calls Tryz.prog 98 #[.agg #[.int .i64 4,.bool b,.int .i64 n,.string t,x,y],.agg #[.int .i64 4,.bool b',.int .i64 n',.string t',x',y']] w (Bh p w):=by
 have HN:=Lib.hid (fun w=>Wi t t' w);have Hp:=Lib.hid hp;clear hp;go_enter Tryz.func98,Tryz.ntmps98;go_wp2_with (fail);(with_reducible refine(HN.out _).mono ?_);rintro e w' ⟨c,rfl,hc,rfl⟩;have Hc:=Lib.hid (hc.trans Hp.out);clear hc;go_wp2;go_ret;exact Bh.of Hc.out (Cj _ _ _)
set_option maxRecDepth 100000 in
theorem Amm (b b':Bool) (n n':Int) (t t':ByteArray) (x y x' y':Value) (w:World) (p:Prop) (hp:b=b' ↔ p):
 Calls Tryz.prog 98 #[.agg #[.int .i64 2,.bool b,.int .i64 n,.string t,x,y],.agg #[.int .i64 2,.bool b',.int .i64 n',.string t',x',y']] w (Bh p w):=by
 have hR:=fun b w=>Agj b w;have hN:=fun m m' w=>Qq m m' w;have hz:Kj (if b then 1 else 0) (if b' then 1 else 0)=0 ↔ p:=by
  rw[Ej,<-hp]
  cases b<;>cases b'<;>simp
 obtain⟨r,hr⟩: ∃r:Int,(if b=true then 1 else 0)=r:=⟨_,rfl⟩;obtain⟨r',hr'⟩: ∃r:Int,(if b'=true then 1 else 0)=r:=⟨_,rfl⟩;have hR1:=fun w=>hR b w;have hR2:=fun w=>hR b' w;rw[hr]at hz hR1;rw[hr']at hz hR2;obtain⟨HR1,HR2,HN,Hz⟩:=hid4 hR1 hR2 hN hz;clear hR1 hR2 hN hz;clear hR hp hr hr';go_enter Tryz.func98,Tryz.ntmps98;go_upto_region 9 with(fail)
 go_region_with (first|(go_at_call 142;first|((with_reducible refine(HR1.out _).mono ?_);rintro e w1 ⟨rfl,rfl⟩)|((with_reducible refine(HR2.out _).mono ?_);rintro e w1 ⟨rfl,rfl⟩)))
 all_goals
  go_wp2_with (fail);(with_reducible refine(HN.out _ _ _).mono ?_);rintro e w' ⟨rfl,rfl⟩;go_wp2;go_ret;exact Bh.of Hz.out (Below.drew (Cj _ _ _))
set_option maxRecDepth 100000 in
theorem Amo (b b':Bool) (n n':Int) (t t':ByteArray) (l l':List Val) (on on':Nat) (la oa la' oa':Option Addr) (lc oc lc' oc':Nat) (w:World) (p:Prop) (IH: ∀v ∈ l,Akj v) (hp:Mw l l'=true ↔ p)
 (hl:l= []\/ ∃g off,la=some ⟨g,off,none⟩/\g<w.heap.size/\A1 w w.heap.size l g off) (hl':l'= []\/ ∃g off,la'=some ⟨g,off,none⟩/\g<w.heap.size/\A1 w w.heap.size l' g off)
 (hb:Bd l<=100000000) (hb':Bd l'<=100000000):
 Calls Tryz.prog 98 #[.agg #[.int .i64 5,.bool b,.int .i64 n,.string t,.slice la l.length lc,.slice oa on oc],.agg #[.int .i64 5,.bool b',.int .i64 n',.string t',.slice la' l'.length lc',.slice oa' on' oc']] w (Bh p w):=by
 have hC:=fun(W:World) (hB:Below w.heap.size w W)=>Aau l l' la la' lc lc' w.heap.size W hB.size IH
  (hl.imp id fun⟨g,off,e,hg,h⟩=>⟨g,off,e,hg,h.below hg hB⟩) (hl'.imp id fun⟨g,off,e,hg,h⟩=>⟨g,off,e,hg,h.below hg hB⟩) hb hb'
 simp only[propext hp]at hC;have HC:=Lib.hid hC;clear hC;clear IH hp hl hl' hb hb';go_enter Tryz.func98,Tryz.ntmps98;go_wp2_with (fail);(with_reducible refine(HC.out _ (Cj _ _ _)).mono ?_);rintro e w' ⟨c,rfl,hc,hb⟩;have hw:=(Cj w (.cells #[.int .i64 5,.bool b,.int .i64 n,.string t,.slice la l.length lc,.slice oa on oc] 27) (.cells #[.int .i64 5,.bool b',.int .i64 n',.string t',.slice la' l'.length lc',.slice oa' on' oc'] 27)).trans (hb.mono (by simp;omega));obtain⟨Hc,Hw⟩:=hid2 hc hw;clear hc hw;clear hb;go_wp2;go_ret;exact Bh.of Hc.out Hw.out
set_option maxRecDepth 100000 in
theorem Aot (b b':Bool) (n n':Int) (t t':ByteArray) (l l':List (ByteArray×Val)) (ln ln':Nat) (la oa la' oa':Option Addr) (lc oc lc' oc':Nat) (w:World) (p:Prop) (IH: ∀m ∈ l,Akj m.2) (hp:Mf l l'=true ↔ p)
 (hl:l= []\/ ∃g off,oa=some ⟨g,off,none⟩/\g<w.heap.size/\A5 w w.heap.size l g off) (hl':l'= []\/ ∃g off,oa'=some ⟨g,off,none⟩/\g<w.heap.size/\A5 w w.heap.size l' g off)
 (hb:Av l<=100000000) (hb':Av l'<=100000000):
 Calls Tryz.prog 98 #[.agg #[.int .i64 6,.bool b,.int .i64 n,.string t,.slice la ln lc,.slice oa l.length oc],.agg #[.int .i64 6,.bool b',.int .i64 n',.string t',.slice la' ln' lc',.slice oa' l'.length oc']] w (Bh p w):=by
 have hC:=fun(W:World) (hB:Below w.heap.size w W)=>Aav l l' oa oa' oc oc' w.heap.size W hB.size IH
  (hl.imp id fun⟨g,off,e,hg,h⟩=>⟨g,off,e,hg,h.below hg hB⟩) (hl'.imp id fun⟨g,off,e,hg,h⟩=>⟨g,off,e,hg,h.below hg hB⟩) hb hb'
 simp only[propext hp]at hC;have HC:=Lib.hid hC;clear hC;clear IH hp hl hl' hb hb';go_enter Tryz.func98,Tryz.ntmps98;go_wp2_with (fail);(with_reducible refine(HC.out _ (Cj _ _ _)).mono ?_);rintro e w' ⟨c,rfl,hc,hb⟩;have hw:=(Cj w (.cells #[.int .i64 6,.bool b,.int .i64 n,.string t,.slice la ln lc,.slice oa l.length oc] 27) (.cells #[.int .i64 6,.bool b',.int .i64 n',.string t',.slice la' ln' lc',.slice oa' l'.length oc'] 27)).trans (hb.mono (by simp;omega));obtain⟨Hc,Hw⟩:=hid2 hc hw;clear hc hw;clear hb;go_wp2;go_ret;exact Bh.of Hc.out Hw.out
theorem Agg: ∀a,Akj a:=by
 refine Val.ind ?_;intro k b n t l o IHl IHo v cs cs' w hV hV' hb hb';obtain⟨k',b',n',t',l',o'⟩:=v;simp only[Ab]at hV hV';obtain⟨la,lc,oa,oc,rfl,hla,hoa⟩:=hV;obtain⟨la',lc',oa',oc',rfl,hla',hoa'⟩:=hV';simp only[Val.bulk]at hb hb';by_cases hkk:k≠k'
 . exact Amn k k' b b' n n' t t' _ _ _ _ w _ hkk (fun e=>by simp only[Do,Bool.and_eq_true,decide_eq_true_eq]at e;exact hkk e.1)
 obtain rfl:k=k':=by omega
 by_cases h2:k=2
 . subst h2;exact Amm b b' n n' t t' _ _ _ _ w _ (by simp[Do])
 by_cases h3:k=3
 . subst h3;exact Aos b b' n n' t t' _ _ _ _ w _ (by simp[Do])
 by_cases h4:k=4
 . subst h4;exact Amp b b' n n' t t' _ _ _ _ w _ (by simp[Do])
 by_cases h5:k=5
 . subst h5;exact Amo b b' n n' t t' l l' _ _ la oa la' oa' lc oc lc' oc' w _ IHl (by simp[Do]) hla hla' (by omega) (by omega)
 by_cases h6:k=6
 . subst h6;exact Aot b b' n n' t t' o o' _ _ la oa la' oa' lc oc lc' oc' w _ IHo (by simp[Do]) hoa hoa' (by omega) (by omega)
 exact Aou k h2 h3 h4 h5 h6 b b' n n' t t' _ _ _ _ w _ (by simp[Do,h2,h3,h4,h5,h6])
set_option maxRecDepth 100000 in
theorem Amq (k k':Int) (key key' dst dst':ByteArray) (n n':Int) (had had' has has':Bool) (u0 u1 u2 u3 u4 u5 v0 v1 v2 v3 v4 v5 u0' u1' u2' u3' u4' u5' v0' v1' v2' v3' v4' v5':Value) (a a':Option Addr) (ln c ln' c':Nat) (w:World) (p:Prop) (hp: ¬p)
 (h:k≠k'\/key≠key'\/dst≠dst'\/n≠n'\/had≠had'\/has≠has'):
 Calls Tryz.prog 27 #[.agg #[.int .i64 k,.string key,.string dst,.int .i64 n,.bool had,u0,u1,u2,u3,u4,u5,.bool has,v0,v1,v2,v3,v4,v5,.slice a ln c],.agg #[.int .i64 k',.string key',.string dst',.int .i64 n',.bool had',u0',u1',u2',u3',u4',u5',.bool has',v0',v1',v2',v3',v4',v5',.slice a' ln' c']] w (Ba p w):=by
 by_cases h1:k=k';rotate_left
 . have e:(k==k')=false:=by simpa using h1
   clear h h1;go_enter Tryz.func27,Tryz.ntmps27;go_wp2;go_ret;exact Ba.no hp (Bj _ _ _)
 subst h1;by_cases h1:key=key';rotate_left
 . have e:(key.toList != key'.toList)=true:=by simp only[bne_iff_ne];exact fun e=>h1 (by rw[Lib.toList_data,Lib.toList_data]at e;exact ByteArray.ext (Array.ext' e))
   have e2:(key.toList==key'.toList)=false:=by simpa using e
   have e3: ¬key.toList=key'.toList:=by simpa using e
   clear h h1;go_enter Tryz.func27,Tryz.ntmps27;go_wp2;go_ret;exact Ba.no hp (Bj _ _ _)
 subst h1;by_cases h1:dst=dst';rotate_left
 . have e:(dst.toList != dst'.toList)=true:=by simp only[bne_iff_ne];exact fun e=>h1 (by rw[Lib.toList_data,Lib.toList_data]at e;exact ByteArray.ext (Array.ext' e))
   have e2:(dst.toList==dst'.toList)=false:=by simpa using e
   have e3: ¬dst.toList=dst'.toList:=by simpa using e
   clear h h1;go_enter Tryz.func27,Tryz.ntmps27;go_wp2;go_ret;exact Ba.no hp (Bj _ _ _)
 subst h1;by_cases h1:n=n';rotate_left
 . have e:(n==n')=false:=by simpa using h1
   clear h h1;go_enter Tryz.func27,Tryz.ntmps27;go_wp2;go_ret;exact Ba.no hp (Bj _ _ _)
 subst h1;by_cases h1:had=had';rotate_left
 . clear h
   cases had<;>cases had'<;>first|exact absurd rfl h1|(clear h1;go_enter Tryz.func27,Tryz.ntmps27;go_wp2;go_ret;exact Ba.no hp (Bj _ _ _))
 subst h1;by_cases h1:has=has';rotate_left
 . clear h
   cases has<;>cases has'<;>first|exact absurd rfl h1|(clear h1;go_enter Tryz.func27,Tryz.ntmps27;go_wp2;go_ret;exact Ba.no hp (Bj _ _ _))
 subst h1;simp at h
set_option maxRecDepth 100000 in
theorem Aoy (b b':Bool) (n n':Int) (t t':ByteArray) (l l':List (ByteArray×Val)) (ln ln':Nat) (la oa la' oa':Option Addr) (lc oc lc' oc':Nat) (w:World) (IH: ∀m ∈ l,Akl m.2) (p:Prop) (hp:Mf l l'=true ↔ p)
 (hl:l= []\/ ∃g off,oa=some ⟨g,off,none⟩/\g<w.heap.size/\A5 w w.heap.size l g off) (hl':l'= []\/ ∃g off,oa'=some ⟨g,off,none⟩/\g<w.heap.size/\A5 w w.heap.size l' g off)
 (hb:Av l<=100000000) (hb':Av l'<=100000000):
 Calls Tryz.prog 54 #[.agg #[.int .i64 6,.bool b,.int .i64 n,.string t,.slice la ln lc,.slice oa l.length oc],.agg #[.int .i64 6,.bool b',.int .i64 n',.string t',.slice la' ln' lc',.slice oa' l'.length oc']] w (Bh p w):=by
 have hln:=Dj l;have hln':=Dj l';obtain⟨HI,Hp⟩:=hid2 IH hp;have H0:Hid (∀j x y,j<0->l[j]? =some x->l'[j]? =some y->Pa x y=true):=fun _ _ _ e=>absurd e (Nat.not_lt_zero _);clear IH hp;obtain⟨w2,hw2⟩: ∃w2,(w.alloc (Aie 6 b n t (.slice la ln lc) (.slice oa l.length oc))).alloc (Aie 6 b' n' t' (.slice la' ln' lc') (.slice oa' l'.length oc'))=w2:=⟨_,rfl⟩;have hbw:Below w.heap.size w w2:=by rw[<-hw2];exact Cj _ _ _
 have hx1:w2.heap[w.heap.size]? =some (.cells #[.int .i64 6,.bool b,.int .i64 n,.string t,.slice la ln lc,.slice oa l.length oc] 27 (0,0)):=by
  rw[<-hw2,Lib.alloc_old _ _ _ (by simp)];exact heap_alloc_new _ _
 have hx2:w2.heap[w.heap.size+1]? =some (.cells #[.int .i64 6,.bool b',.int .i64 n',.string t',.slice la' ln' lc',.slice oa' l'.length oc'] 27 (0,0)):=by
  rw[<-hw2];have:=heap_alloc_new (w.alloc (Aie 6 b n t (.slice la ln lc) (.slice oa l.length oc))) (.cells #[.int .i64 6,.bool b',.int .i64 n',.string t',.slice la' ln' lc',.slice oa' l'.length oc'] 27);simpa using this
 obtain⟨HBW,HX1,HX2⟩:=hid3 hbw hx1 hx2;clear hbw hx1 hx2;subst hw2;go_enter Tryz.func54,Tryz.ntmps54;go_wp2_with (fail);go_loopw [7] (fun i wr=> ∃k:Nat,i=.int .i64 k/\k<=l.length/\k<=l'.length/\Hid (∀j x y,j<k->l[j]? =some x->l'[j]? =some y->Pa x y=true)/\Hid (Below w.heap.size w wr)/\
  Hid (wr.heap[w.heap.size]? =some (.cells #[.int .i64 6,.bool b,.int .i64 n,.string t,.slice la ln lc,.slice oa l.length oc] 27 (0,0)))/\
  Hid (wr.heap[w.heap.size+1]? =some (.cells #[.int .i64 6,.bool b',.int .i64 n',.string t',.slice la' ln' lc',.slice oa' l'.length oc'] 27 (0,0)))) (fun i _=>l.length - (intOf i).toNat)
 case atStart=>exact⟨0,rfl,Nat.zero_le _,Nat.zero_le _,H0,HBW,HX1,HX2⟩
 case round=>
  obtain⟨k,rfl,hk,hk',ht,hbw,hx1,hx2⟩:=hrel;clear H0 HBW HX1 HX2;have b1:wr.cell? ⟨w.heap.size,5,none⟩=some (.slice oa l.length oc):=by rw[Lib.cell_of_heap hx1.out];rfl
  have b2:wr.cell? ⟨w.heap.size+1,5,none⟩=some (.slice oa' l'.length oc'):=by rw[Lib.cell_of_heap hx2.out];rfl
  have z2:w.heap.size+1<wr.heap.size:=(Array.getElem?_eq_some_iff.1 hx2.out).1;by_cases hlt:k<l.length
  . by_cases hlt2:k<l'.length
    . obtain⟨g,off,rfl,hg,hL⟩: ∃g off,oa=some ⟨g,off,none⟩/\g<w.heap.size/\A5 w w.heap.size l g off:=by
       rcases hl with rfl|h
       . simp at hlt
       . exact h
      obtain⟨g',off',rfl,hg',hL'⟩: ∃g off,oa'=some ⟨g,off,none⟩/\g<w.heap.size/\A5 w w.heap.size l' g off:=by
       rcases hl' with rfl|h
       . simp at hlt2
       . exact h
      obtain⟨⟨key,x⟩,hx⟩: ∃v,l[k]? =some v:=⟨_,List.getElem?_eq_getElem hlt⟩;obtain⟨⟨key',y⟩,hy⟩: ∃v,l'[k]? =some v:=⟨_,List.getElem?_eq_getElem hlt2⟩;have hxm:=List.mem_of_getElem? hx;have hym:=List.mem_of_getElem? hy;have hxb:=Ef hxm;have hyb:=Ef hym;simp only at hxb hyb;have IHx:=HI.out _ hxm;simp only at IHx;have hxy:key=key'->Do x y=true->(∀j x y,j<k+1->l[j]? =some x->l'[j]? =some y->Pa x y=true):=by
       intro e e' j x' y' hj h1 h2;rcases Nat.lt_succ_iff_lt_or_eq.1 hj with hj|rfl
       . exact ht.out j x' y' hj h1 h2
       . rw[hx]at h1;rw[hy]at h2;rw[<-Option.some.inj h1,<-Option.some.inj h2];simp[Pa,e,e']
      have hkn:key≠key'-> ¬Mf l l'=true:=fun e h=>by
       have:=(Jz.1 h).2 k _ _ hx hy;simp only[Pa,Bool.and_eq_true,decide_eq_true_eq]at this;exact e this.1
      have hxn: ¬Do x y=true-> ¬Mf l l'=true:=fun e h=>by
       have:=(Jz.1 h).2 k _ _ hx hy;simp only[Pa,Bool.and_eq_true,decide_eq_true_eq]at this;exact e this.2
      obtain⟨Hkn,Hxn⟩:=hid2 hkn hxn;have hz:=hbw.out.size;have c0:=((hL.below hg hbw.out).at_ hx).1;have e0:=((hL'.below hg' hbw.out).at_ hy).1;simp only at c0 e0;have CT:=T0 key key' wr.drew (by omega) (by omega);have HT:=Lib.hid CT;have HL:Hid (∀w',Below w.heap.size w w'->A5 w' w.heap.size l g off):=fun w' h=>hL.below hg h;have HL':Hid (∀w',Below w.heap.size w w'->A5 w' w.heap.size l' g' off'):=fun w' h=>hL'.below hg' h;obtain⟨Hx,Hy⟩:=hid2 hx hy;obtain⟨Q,hQ⟩: ∃Q:Prop,(Do x y=true)=Q:=⟨_,rfl⟩;have CC: ∀(w':World) (ca cb:List Value),Ab w' w'.heap.size x ca->Ab w' w'.heap.size y cb->Calls Tryz.prog 54 #[.agg ca.toArray,.agg cb.toArray] w' (Bh Q w'):=by
       intro w' ca cb h1 h2;rw[<-hQ];exact IHx y ca cb w' h1 h2 (by omega) (by omega)
      rw[hQ]at hxy;have Hxy:=Lib.hid hxy;have Hxn':Hid (¬Q-> ¬Mf l l'=true):=by rw[<-hQ];exact Hxn
      have HC:=Lib.hid CC;clear CT CC hQ hxy hkn hxn Hxn IHx hxb hyb hxm hym hx hy hL hL' hg hg' ht;go_wp2_with (fail)
      go_still_tail 12,(by kernel_rfl)
      change wpList _ _ _ _ _ wr.drew;go_wp2_with (fail);(with_reducible refine(HT.out).mono ?_);rintro e w4 ⟨c,rfl,hc,hb4⟩
      all_goals
       have Hc:=Lib.hid hc;have hb4':Below wr.heap.size wr w4:=(Below.drew (Below.refl _ _)).trans hb4;have hbw4:=Lib.hid (hbw.out.trans (hb4'.mono hz));have hx1':=Lib.hid ((hb4'.block _ (by omega)).trans hx1.out);have hx2':=Lib.hid ((hb4'.block _ z2).trans hx2.out);have hz4:w.heap.size<=w4.heap.size:=hbw4.out.size;have z4:w.heap.size+1<w4.heap.size:=(Array.getElem?_eq_some_iff.1 hx2'.out).1;clear hc hb4 hb4' hbw hx1 hx2 HT c0 e0 b1 b2;by_cases hc0:c=0
       . have hkk:=Lib.hid (Hc.out.1 hc0);subst hc0;clear Hc;have b1:w4.cell? ⟨w.heap.size,5,none⟩=some (.slice (some ⟨g,off,none⟩) l.length oc):=by rw[Lib.cell_of_heap hx1'.out];rfl
         have b2:w4.cell? ⟨w.heap.size+1,5,none⟩=some (.slice (some ⟨g',off',none⟩) l'.length oc'):=by rw[Lib.cell_of_heap hx2'.out];rfl
         obtain⟨k1,b1',n1,t1,l1,o1⟩:=x;obtain⟨k2,b2',n2,t2,l2,o2⟩:=y;obtain⟨la1,lc1,oa1,oc1,hv1,_,c1,c2,c3,c4,c5,c6⟩:=(HL.out _ hbw4.out).seven Hx.out;obtain⟨la2,lc2,oa2,oc2,hv2,_,e1,e2,e3,e4,e5,e6⟩:=(HL'.out _ hbw4.out).seven Hy.out;have hC4:=Lib.hid (HC.out w4.drew _ _ (Ab.more hz4 _ _ (hv1.below (Below.drew (Below.refl _ _)))) (Ab.more hz4 _ _ (hv2.below (Below.drew (Below.refl _ _)))));clear HC hv1 hv2 HL HL' Hx Hy;go_wp2_with (fail)
         go_still_tail 12,(by kernel_rfl)
         change wpList _ _ _ _ _ w4.drew;go_wp2_with (fail);(with_reducible refine(hC4.out).mono ?_);rintro e w5 ⟨c',rfl,hc',hb5⟩
         all_goals
          have Hc:=Lib.hid hc';have hb5':Below w4.heap.size w4 w5:=(Below.drew (Below.refl _ _)).trans hb5;have hbw5:=Lib.hid (hbw4.out.trans (hb5'.mono hz4));have hx1'':=Lib.hid ((hb5'.block _ (by omega)).trans hx1'.out);have hx2'':=Lib.hid ((hb5'.block _ z4).trans hx2'.out);clear hc' hb5 hb5' hbw4 hx1' hx2' hC4 c1 c2 c3 c4 c5 c6 e1 e2 e3 e4 e5 e6 b1 b2;by_cases hc0:c'=0
          . have Hn:=Lib.hid (Hxy.out hkk.out (Hc.out.1 hc0));subst hc0;clear Hc;go_wp2;go_roundw
            case rel=>exact⟨k+1,by go_num,by omega,by omega,Hn,hbw5,hx1'',hx2''⟩
            case measure=>simp only[intOf];omega
          . have hne:=Hxn'.out (fun e=>hc0 (Hc.out.2 e));have f1:(c'==0)=false:=by simpa using hc0
            have f2:(c' != 0)=true:=by simpa using hc0
            have Hf:Hid (c'=0 ↔ p):=⟨fun e=>absurd e hc0,fun e=>absurd (Hp.out.2 e) hne⟩;clear Hc hne hc0;go_wp2;go_ret;exact Bh.of Hf.out hbw5.out
       . have hne:=Hkn.out (fun e=>hc0 (Hc.out.2 e));have f1:(c==0)=false:=by simpa using hc0
         have f2:(c != 0)=true:=by simpa using hc0
         have Hf:Hid (c=0 ↔ p):=⟨fun e=>absurd e hc0,fun e=>absurd (Hp.out.2 e) hne⟩;clear Hc hne hc0;go_wp2;go_ret;exact Bh.of Hf.out hbw4.out
    . have hk2:k=l'.length:=by omega
      subst hk2;have hne: ¬Mf l l'=true:=fun h=>by have:=(Jz.1 h).1;omega
      obtain⟨C,hC⟩: ∃C,Kj (l.length:Int) (l'.length:Int)=C:=⟨_,rfl⟩;have cN:=fun w=>Ig (l.length:Int) (l'.length:Int) w;rw[hC]at cN;have HN:=Lib.hid cN;have hcz:C≠0:=by rw[<-hC,Ne,Ej];omega
      have Hf:Hid (C=0 ↔ p):=⟨fun e=>absurd e hcz,fun e=>absurd (Hp.out.2 e) hne⟩;clear cN hC hcz hne ht hl hl';go_wp2_with (fail);(with_reducible refine(HN.out _).mono ?_);rintro e w' ⟨rfl,rfl⟩;go_wp2;go_ret;exact Bh.of Hf.out hbw.out
  . have hk2:k=l.length:=by omega
    subst hk2;obtain⟨C,hC⟩: ∃C,Kj (l.length:Int) (l'.length:Int)=C:=⟨_,rfl⟩;have cN:=fun w=>Ig (l.length:Int) (l'.length:Int) w;rw[hC]at cN;have HN:=Lib.hid cN;have Hf:Hid (C=0 ↔ p):=by
     show _ ↔ _;rw[<-hC,Ej,<-Hp.out];constructor
     . intro h;exact Jz.2 ⟨by omega,fun j x y h1 h2=>ht.out j x y (List.getElem?_eq_some_iff.1 h1).1 h1 h2⟩
     . intro h;have:=(Jz.1 h).1;omega
    clear cN hC ht hl hl';go_wp2_with (fail);(with_reducible refine(HN.out _).mono ?_);rintro e w' ⟨rfl,rfl⟩;go_wp2;go_ret;exact Bh.of Hf.out hbw.out
theorem Zt: ∀a,Akl a:=by
 refine Val.ind ?_;intro k b n t l o IHl IHo v cs cs' w hV hV' hb hb';obtain⟨k',b',n',t',l',o'⟩:=v;simp only[Ab]at hV hV';obtain⟨la,lc,oa,oc,rfl,hla,hoa⟩:=hV;obtain⟨la',lc',oa',oc',rfl,hla',hoa'⟩:=hV';simp only[Val.bulk]at hb hb';by_cases hkk:k≠k'
 . exact Ak3 k k' b b' n n' t t' _ _ _ _ w hkk _ (fun e=>by simp only[Do,Bool.and_eq_true,decide_eq_true_eq]at e;exact hkk e.1)
 obtain rfl:k=k':=by omega
 by_cases h2:k=2
 . subst h2;exact Ak2 b b' n n' t t' _ _ _ _ w _ (by simp[Do])
 by_cases h3:k=3
 . subst h3;exact Ann b b' n n' t t' _ _ _ _ w _ (by simp[Do])
 by_cases h4:k=4
 . subst h4;exact Ak4 b b' n n' t t' _ _ _ _ w _ (by omega) (by omega) (by simp[Do])
 by_cases h5:k=5
 . subst h5;exact Am0 b b' n n' t t' l l' _ _ la oa la' oa' lc oc lc' oc' w IHl _ (by simp[Do]) hla hla' (by omega) (by omega)
 by_cases h6:k=6
 . subst h6;exact Aoy b b' n n' t t' o o' _ _ la oa la' oa' lc oc lc' oc' w IHo _ (by simp[Do]) hoa hoa' (by omega) (by omega)
 exact Anp k h2 h3 h4 h5 h6 b b' n n' t t' _ _ _ _ w _ (by simp[Do,h2,h3,h4,h5,h6])
set_option maxRecDepth 100000 in
theorem Al6 (k k':Int) (key key' dst dst':ByteArray) (n n':Int) (had had' has has':Bool) (u0 u1 u2 u3 u4 u5 v0 v1 v2 v3 v4 v5 u0' u1' u2' u3' u4' u5' v0' v1' v2' v3' v4' v5':Value) (a a':Option Addr) (ln c ln' c':Nat) (w:World) (p:Prop) (hp: ¬p)
 (h:k≠k'\/key≠key'\/dst≠dst'\/n≠n'\/had≠had'\/has≠has'\/ln≠ln'):
 Calls Tryz.prog 26 #[.agg #[.int .i64 k,.string key,.string dst,.int .i64 n,.bool had,u0,u1,u2,u3,u4,u5,.bool has,v0,v1,v2,v3,v4,v5,.slice a ln c],.agg #[.int .i64 k',.string key',.string dst',.int .i64 n',.bool had',u0',u1',u2',u3',u4',u5',.bool has',v0',v1',v2',v3',v4',v5',.slice a' ln' c']] w (Ba p w):=by
 by_cases h1:k=k';rotate_left
 . have e:(k != k')=true:=by simpa using h1
   clear h h1;go_enter Tryz.func26,Tryz.ntmps26;go_wp2;go_ret;exact Ba.no hp (Bj _ _ _)
 subst h1;by_cases h1:key=key';rotate_left
 . have e:(key.toList != key'.toList)=true:=by simp only[bne_iff_ne];exact fun e=>h1 (by rw[Lib.toList_data,Lib.toList_data]at e;exact ByteArray.ext (Array.ext' e))
   have e2:(key.toList==key'.toList)=false:=by simpa using e
   have e3: ¬key.toList=key'.toList:=by simpa using e
   clear h h1;go_enter Tryz.func26,Tryz.ntmps26;go_wp2;go_ret;exact Ba.no hp (Bj _ _ _)
 subst h1;by_cases h1:dst=dst';rotate_left
 . have e:(dst.toList != dst'.toList)=true:=by simp only[bne_iff_ne];exact fun e=>h1 (by rw[Lib.toList_data,Lib.toList_data]at e;exact ByteArray.ext (Array.ext' e))
   have e2:(dst.toList==dst'.toList)=false:=by simpa using e
   have e3: ¬dst.toList=dst'.toList:=by simpa using e
   clear h h1;go_enter Tryz.func26,Tryz.ntmps26;go_wp2;go_ret;exact Ba.no hp (Bj _ _ _)
 subst h1;by_cases h1:n=n';rotate_left
 . have e:(n != n')=true:=by simpa using h1
   clear h h1;go_enter Tryz.func26,Tryz.ntmps26;go_wp2;go_ret;exact Ba.no hp (Bj _ _ _)
 subst h1;by_cases h1:had=had';rotate_left
 . clear h
   cases had<;>cases had'<;>first|exact absurd rfl h1|(clear h1;go_enter Tryz.func26,Tryz.ntmps26;go_wp2;go_ret;exact Ba.no hp (Bj _ _ _))
 subst h1;by_cases h1:has=has';rotate_left
 . clear h
   cases has<;>cases has'<;>first|exact absurd rfl h1|(clear h1;go_enter Tryz.func26,Tryz.ntmps26;go_wp2;go_ret;exact Ba.no hp (Bj _ _ _))
 subst h1;by_cases h1:ln=ln';rotate_left
 . have e:((ln:Int) != (ln':Int))=true:=by simp;omega
   clear h h1;go_enter Tryz.func26,Tryz.ntmps26;go_wp2;go_ret;exact Ba.no hp (Bj _ _ _)
 subst h1;simp at h
theorem Kn: ∀{l l':List Mut},Fz l l'=true ↔ l.length=l'.length/\ ∀(j:Nat) x y,l[j]? =some x->l'[j]? =some y->Jy x y=true
 | [], []=>by simp[Fz]
 | [],_::_=>by simp[Fz]
 |_::_, []=>by simp[Fz]
 |a::r,b::s=>by
  simp only[Fz,Bool.and_eq_true,Kn (l:=r) (l':=s),List.length_cons,Nat.add_right_cancel_iff];constructor
  . rintro⟨h1,h2,h3⟩;refine⟨h2,fun j x y e1 e2=> ?_⟩
    cases j with
    |zero=>simp only[List.getElem?_cons_zero,Option.some.injEq]at e1 e2;rw[<-e1,<-e2];exact h1
    |succ j=>simp only[List.getElem?_cons_succ]at e1 e2;exact h3 j x y e1 e2
  . rintro⟨h2,h3⟩;exact⟨h3 0 a b rfl rfl,h2,fun j x y e1 e2=>h3 (j+1) x y (by simpa using e1) (by simpa using e2)⟩
def Aqk (m:Mut):Prop:= ∀(m':Mut) (cs cs':List Value) (w:World),Ah w w.heap.size (dM m) cs->Ah w w.heap.size (dM m') cs'->Bm m<=100000000->Bm m'<=100000000->
 Calls Tryz.prog 26 #[.agg cs.toArray,.agg cs'.toArray] w (Ba (Jy m m'=true) w)
set_option maxRecDepth 100000 in
theorem Al7 (k:Int) (key dst:ByteArray) (n:Int) (had has:Bool) (k1:Int) (b1:Bool) (n1:Int) (t1:ByteArray) (l1:List Val) (o1:List (ByteArray×Val)) (k2:Int) (b2:Bool) (n2:Int) (t2:ByteArray) (l2:List Val) (o2:List (ByteArray×Val)) (k1':Int) (b1':Bool) (n1':Int) (t1':ByteArray) (l1':List Val) (o1':List (ByteArray×Val)) (k2':Int) (b2':Bool) (n2':Int) (t2':ByteArray) (l2':List Val) (o2':List (ByteArray×Val)) (la1 oa1:Option Addr) (lc1 oc1:Nat) (la2 oa2:Option Addr) (lc2 oc2:Nat) (la1' oa1':Option Addr) (lc1' oc1':Nat) (la2' oa2':Option Addr) (lc2' oc2':Nat) (l l':List Mut) (a a':Option Addr) (c c':Nat) (w:World)
 (hv1:Ab w w.heap.size (.mk k1 b1 n1 t1 l1 o1) [.int .i64 k1,.bool b1,.int .i64 n1,.string t1,.slice la1 l1.length lc1,.slice oa1 o1.length oc1]) (hv2:Ab w w.heap.size (.mk k2 b2 n2 t2 l2 o2) [.int .i64 k2,.bool b2,.int .i64 n2,.string t2,.slice la2 l2.length lc2,.slice oa2 o2.length oc2]) (hv1':Ab w w.heap.size (.mk k1' b1' n1' t1' l1' o1') [.int .i64 k1',.bool b1',.int .i64 n1',.string t1',.slice la1' l1'.length lc1',.slice oa1' o1'.length oc1']) (hv2':Ab w w.heap.size (.mk k2' b2' n2' t2' l2' o2') [.int .i64 k2',.bool b2',.int .i64 n2',.string t2',.slice la2' l2'.length lc2',.slice oa2' o2'.length oc2'])
 (hb1:(Val.mk k1 b1 n1 t1 l1 o1).bulk<=100000000) (hb2:(Val.mk k2 b2 n2 t2 l2 o2).bulk<=100000000) (hb1':(Val.mk k1' b1' n1' t1' l1' o1').bulk<=100000000) (hb2':(Val.mk k2' b2' n2' t2' l2' o2').bulk<=100000000)
 (hl:Ah w w.heap.size (.row 19 (Gw l)) [.slice a l.length c]) (hl':Ah w w.heap.size (.row 19 (Gw l')) [.slice a' l'.length c']) (hln:l.length=l'.length) (hbl:C3 l<=100000000) (hbl':C3 l'<=100000000) (ih: ∀x ∈ l,Aqk x):
 Calls Tryz.prog 26 #[.agg #[.int .i64 k,.string key,.string dst,.int .i64 n,.bool had,.int .i64 k1,.bool b1,.int .i64 n1,.string t1,.slice la1 l1.length lc1,.slice oa1 o1.length oc1,.bool has,.int .i64 k2,.bool b2,.int .i64 n2,.string t2,.slice la2 l2.length lc2,.slice oa2 o2.length oc2,.slice a l.length c],.agg #[.int .i64 k,.string key,.string dst,.int .i64 n,.bool had,.int .i64 k1',.bool b1',.int .i64 n1',.string t1',.slice la1' l1'.length lc1',.slice oa1' o1'.length oc1',.bool has,.int .i64 k2',.bool b2',.int .i64 n2',.string t2',.slice la2' l2'.length lc2',.slice oa2' o2'.length oc2',.slice a' l.length c']] w (Ba ((Do (Val.mk k1 b1 n1 t1 l1 o1) (.mk k1' b1' n1' t1' l1' o1')=true/\Do (Val.mk k2 b2 n2 t2 l2 o2) (.mk k2' b2' n2' t2' l2' o2')=true)/\Fz l l'=true) w):=by
 have hls:=Fm l;have hQ1:=fun(W:World) (hB:Below w.heap.size w W)=>Zt (.mk k1 b1 n1 t1 l1 o1) (.mk k1' b1' n1' t1' l1' o1') _ _ W (Ab.more hB.size _ _ (hv1.below hB)) (Ab.more hB.size _ _ (hv1'.below hB)) hb1 hb1';have hQ2:=fun(W:World) (hB:Below w.heap.size w W)=>Zt (.mk k2 b2 n2 t2 l2 o2) (.mk k2' b2' n2' t2' l2' o2') _ _ W (Ab.more hB.size _ _ (hv2.below hB)) (Ab.more hB.size _ _ (hv2'.below hB)) hb2 hb2';generalize (Do (Val.mk k1 b1 n1 t1 l1 o1) (.mk k1' b1' n1' t1' l1' o1')=true)=P1 at hQ1 ⊢;generalize (Do (Val.mk k2 b2 n2 t2 l2 o2) (.mk k2' b2' n2' t2' l2' o2')=true)=P2 at hQ2 ⊢;have hA0:EMA w #[.int .i64 k,.string key,.string dst,.int .i64 n,.bool had,.int .i64 k1,.bool b1,.int .i64 n1,.string t1,.slice la1 l1.length lc1,.slice oa1 o1.length oc1,.bool has,.int .i64 k2,.bool b2,.int .i64 n2,.string t2,.slice la2 l2.length lc2,.slice oa2 o2.length oc2,.slice a l.length c] #[.int .i64 k,.string key,.string dst,.int .i64 n,.bool had,.int .i64 k1',.bool b1',.int .i64 n1',.string t1',.slice la1' l1'.length lc1',.slice oa1' o1'.length oc1',.bool has,.int .i64 k2',.bool b2',.int .i64 n2',.string t2',.slice la2' l2'.length lc2',.slice oa2' o2'.length oc2',.slice a' l.length c'] ((w.alloc (.cells #[.int .i64 k,.string key,.string dst,.int .i64 n,.bool had,.int .i64 k1,.bool b1,.int .i64 n1,.string t1,.slice la1 l1.length lc1,.slice oa1 o1.length oc1,.bool has,.int .i64 k2,.bool b2,.int .i64 n2,.string t2,.slice la2 l2.length lc2,.slice oa2 o2.length oc2,.slice a l.length c] 30)).alloc (.cells #[.int .i64 k,.string key,.string dst,.int .i64 n,.bool had,.int .i64 k1',.bool b1',.int .i64 n1',.string t1',.slice la1' l1'.length lc1',.slice oa1' o1'.length oc1',.bool has,.int .i64 k2',.bool b2',.int .i64 n2',.string t2',.slice la2' l2'.length lc2',.slice oa2' o2'.length oc2',.slice a' l.length c'] 30)):=by
  refine⟨Bj _ _ _,(Al.new w 30 #[.int .i64 k,.string key,.string dst,.int .i64 n,.bool had,.int .i64 k1,.bool b1,.int .i64 n1,.string t1,.slice la1 l1.length lc1,.slice oa1 o1.length oc1,.bool has,.int .i64 k2,.bool b2,.int .i64 n2,.string t2,.slice la2 l2.length lc2,.slice oa2 o2.length oc2,.slice a l.length c]).alloc _, ?_⟩;have:=Al.new (w.alloc (.cells #[.int .i64 k,.string key,.string dst,.int .i64 n,.bool had,.int .i64 k1,.bool b1,.int .i64 n1,.string t1,.slice la1 l1.length lc1,.slice oa1 o1.length oc1,.bool has,.int .i64 k2,.bool b2,.int .i64 n2,.string t2,.slice la2 l2.length lc2,.slice oa2 o2.length oc2,.slice a l.length c] 30)) 30 #[.int .i64 k,.string key,.string dst,.int .i64 n,.bool had,.int .i64 k1',.bool b1',.int .i64 n1',.string t1',.slice la1' l1'.length lc1',.slice oa1' o1'.length oc1',.bool has,.int .i64 k2',.bool b2',.int .i64 n2',.string t2',.slice la2' l2'.length lc2',.slice oa2' o2'.length oc2',.slice a' l.length c']
  rwa [World.size_alloc]at this
 have h00: ∀j x y,j<0->l[j]? =some x->l'[j]? =some y->Jy x y=true:=fun _ _ _ e=>absurd e (Nat.not_lt_zero _);obtain⟨HQ1,HQ2,HA0,H00,Hl,Hl',Hln,Ih⟩:=hid8 hQ1 hQ2 hA0 h00 hl hl' hln ih;clear hQ1 hQ2 hA0 h00 hl hl' hln ih;clear hv1 hv2 hv1' hv2';go_enter Tryz.func26,Tryz.ntmps26;go_wp2_with (fail);have hA01:=HA0.out.1;(with_reducible refine(HQ1.out _ hA01).mono ?_);rintro e w1 ⟨B1,rfl,hB1,hb1w⟩;have hA1:=HA0.out.step hb1w;by_cases hc1:B1=0;rotate_left
 . have f11:(B1==0)=false:=by simpa using hc1
   have f21:(B1 != 0)=true:=by simpa using hc1
   have hno: ¬((P1/\P2)/\Fz l l'=true):=fun h=>hc1 (hB1.2 h.1.1);obtain⟨HA1,Hno,HB1,Hb1w⟩:=hid4 hA1 hno hB1 hb1w;clear hA1 hno hB1 hb1w;go_wp2;go_ret;exact Ba.no Hno.out HA1.out.1
 . subst hc1;have hp1:=hB1.1 rfl;have x12:=hA1.2.1.cell 12;have y12:=hA1.2.2.cell 12;have x13:=hA1.2.1.cell 13;have y13:=hA1.2.2.cell 13;have x14:=hA1.2.1.cell 14;have y14:=hA1.2.2.cell 14;have x15:=hA1.2.1.cell 15;have y15:=hA1.2.2.cell 15;have x16:=hA1.2.1.cell 16;have y16:=hA1.2.2.cell 16;have x17:=hA1.2.1.cell 17;have y17:=hA1.2.2.cell 17;have x18:=hA1.2.1.cell 18;have y18:=hA1.2.2.cell 18;have gx:=hA1.2.1.lt;have gy:=hA1.2.2.lt;obtain⟨HA1,Hp1,HB1,Hb1w⟩:=hid4 hA1 hp1 hB1 hb1w;clear hA1 hp1 hB1 hb1w;go_wp2_with (fail);have hA11:=HA1.out.1;(with_reducible refine(HQ2.out _ hA11).mono ?_);rintro e w2 ⟨B2,rfl,hB2,hb2w⟩;have hA2:=HA1.out.step hb2w;clear x12 y12 x13 y13 x14 y14 x15 y15 x16 y16 x17 y17 x18 y18 gx gy;by_cases hc2:B2=0;rotate_left
   . have f12:(B2==0)=false:=by simpa using hc2
     have f22:(B2 != 0)=true:=by simpa using hc2
     have hno: ¬((P1/\P2)/\Fz l l'=true):=fun h=>hc2 (hB2.2 h.1.2);obtain⟨HA2,Hno,HB2,Hb2w⟩:=hid4 hA2 hno hB2 hb2w;clear hA2 hno hB2 hb2w;go_wp2;go_ret;exact Ba.no Hno.out HA2.out.1
   . subst hc2;have hp2:=hB2.1 rfl;have x18:=hA2.2.1.cell 18;have gx:=hA2.2.1.lt;obtain⟨HA2,Hp2,HB2,Hb2w⟩:=hid4 hA2 hp2 hB2 hb2w;clear hA2 hp2 hB2 hb2w;go_wp2_with (fail);clear x18 gx;go_loopw [5] (fun i wr=> ∃q:Nat,i=.int .i64 q/\q<=l.length/\Hid (∀j x y,j<q->l[j]? =some x->l'[j]? =some y->Jy x y=true)/\Hid (EMA w #[.int .i64 k,.string key,.string dst,.int .i64 n,.bool had,.int .i64 k1,.bool b1,.int .i64 n1,.string t1,.slice la1 l1.length lc1,.slice oa1 o1.length oc1,.bool has,.int .i64 k2,.bool b2,.int .i64 n2,.string t2,.slice la2 l2.length lc2,.slice oa2 o2.length oc2,.slice a l.length c] #[.int .i64 k,.string key,.string dst,.int .i64 n,.bool had,.int .i64 k1',.bool b1',.int .i64 n1',.string t1',.slice la1' l1'.length lc1',.slice oa1' o1'.length oc1',.bool has,.int .i64 k2',.bool b2',.int .i64 n2',.string t2',.slice la2' l2'.length lc2',.slice oa2' o2'.length oc2',.slice a' l.length c'] wr)) (fun i _=>l.length - (intOf i).toNat)
     case atStart=>exact⟨0,rfl,Nat.zero_le _,H00,HA2⟩
     case round=>
      obtain⟨q,rfl,hq,htk,hea⟩:=hrel;clear H00 HA2;have m1:=hea.out.2.1.cell 18;have m2:=hea.out.2.2.cell 18;have gx:=hea.out.2.1.lt;have gy:=hea.out.2.2.lt;by_cases hlt:q<l.length
      . have hlt':q<l'.length:=by have:=Hln.out;omega
        obtain⟨x,hx⟩: ∃v,l[q]? =some v:=⟨_,List.getElem?_eq_getElem hlt⟩;obtain⟨x',hx'⟩: ∃v,l'[q]? =some v:=⟨_,List.getElem?_eq_getElem hlt'⟩;have ihx:=Ih.out _ (List.mem_of_getElem? hx);have hbv:=D1 (List.mem_of_getElem? hx);have hbv':=D1 (List.mem_of_getElem? hx');have hbw:=hea.out.1;have hz:=hbw.size;have hT:=fun(e:Jy x x'=true)=>(fun j y y' hj h1 h2=>by
         rcases Nat.lt_succ_iff_lt_or_eq.1 hj with hj|rfl
         . exact htk.out j y y' hj h1 h2
         . rw[hx]at h1;rw[hx']at h2;rw[<-Option.some.inj h1,<-Option.some.inj h2];exact e: ∀j y y',j<q+1->l[j]? =some y->l'[j]? =some y'->Jy y y'=true)
        have hNe:=fun(e: ¬Jy x x'=true) (h:Fz l l'=true)=>e ((Kn.1 h).2 q x x' hx hx');obtain⟨g,off,rfl,hg,cs1,hcs1,hn1l,hcell1⟩:=Ki (Hl.out.below hbw) hx;obtain⟨g',off',rfl,hg',cs2,hcs2,hn2l,hcell2⟩:=Ki (Hl'.out.below hbw) hx';have hC: ∀W,Below wr.heap.size wr W->Calls Tryz.prog 26 #[.agg cs1.toArray,.agg cs2.toArray] W (Ba (Jy x x'=true) W):=fun W hW=>
         ihx _ _ _ W ((hcs1.below (hW.mono hz)).more (Nat.le_trans hz hW.size)) ((hcs2.below (hW.mono hz)).more (Nat.le_trans hz hW.size)) (by omega) (by omega)
        have hr1:wr.rangeAt g (off+q*19) cs1:=hcell1;have hr2:wr.rangeAt g' (off'+q*19) cs2:=hcell2;have hn1:(Tryz.prog.info? 30).map (·.size)=some cs1.length:=by rw[hn1l];kernel_rfl
        have hn2:(Tryz.prog.info? 30).map (·.size)=some cs2.length:=by rw[hn2l];kernel_rfl
        have z1:g<wr.heap.size:=by omega
        have z2:g'<wr.heap.size:=by omega
        have z5:(q:Int)<(l.length:Int):=by omega
        have z6:(0:Int)<=q:=by omega
        have hkeep: ∀W,Below wr.heap.size wr W->(fun X=>X.cell? ⟨w.heap.size,18,none⟩=some (.slice (some ⟨g,off,none⟩) l.length c)/\X.cell? ⟨w.heap.size+1,18,none⟩=some (.slice (some ⟨g',off',none⟩) l.length c')/\X.rangeAt g (off+q*19) cs1/\X.rangeAt g' (off'+q*19) cs2) W:=fun W hW=>⟨(hW.cell (p:=⟨w.heap.size,18,none⟩) gx).trans m1,(hW.cell (p:=⟨w.heap.size+1,18,none⟩) gy).trans m2,fun j v hv=>(hW.cell (p:=⟨g,off+q*19+j,none⟩) z1).trans (hr1 j v hv),fun j v hv=>(hW.cell (p:=⟨g',off'+q*19+j,none⟩) z2).trans (hr2 j v hv)⟩;obtain⟨HC,HT,HNe,Hkeep,Hr1,Hr2,Hn1l,Hn2l⟩:=hid8 hC hT hNe hkeep hr1 hr2 hn1l hn2l;clear hC hT hNe hkeep hr1 hr2 hn1l hn2l;clear hbw hcs1 hcs2 hx hx' ihx hcell1 hcell2 htk;go_upto_region 6 with(fail);refine wp_region_held_drew (S:=(fun X=>X.cell? ⟨w.heap.size,18,none⟩=some (.slice (some ⟨g,off,none⟩) l.length c)/\X.cell? ⟨w.heap.size+1,18,none⟩=some (.slice (some ⟨g',off',none⟩) l.length c')/\X.rangeAt g (off+q*19) cs1/\X.rangeAt g' (off'+q*19) cs2)) (by kernel_rfl) (Hkeep.out _ (Below.drew (Below.refl _ _))) (fun hHeld=> ?_);refine tkH 0 hHeld ?_;refine wpAnyH_take (i:=1) (v:= ?_) rfl (by kernel_rfl) (by kernel_rfl) (by kernel_rfl) (fun _ _ _ h=>h) (Or.inl ⟨by kernel_rfl, ?_⟩) hHeld ?_;rotate_left
        . intro X hSw;have e4:=hSw.1
          first|(go_simp;done)|(go_simp;with_reducible rfl)
        try simp only[Act.put,tk1,tk2,tk3,tk4,tk5,tk6]
        refine tkH 2 hHeld ?_;refine tkH 3 hHeld ?_;refine wpAnyH_take (i:=4) rfl (by kernel_rfl) (by kernel_rfl) (by kernel_rfl) (fun _ _ _ h=>h) (yieldsIf_load_mid (by kernel_rfl) 30 (.tmp 81) rfl g (off+q*19) rfl cs1 _ (fun X hX=>hX.2.2.1) Tryz.underlying30 rfl hn1) hHeld ?_
        try simp only[Act.put,tk1,tk2,tk3,tk4,tk5,tk6]
        refine tkH 5 hHeld ?_;refine wpAnyH_take (i:=6) (v:= ?_) rfl (by kernel_rfl) (by kernel_rfl) (by kernel_rfl) (fun _ _ _ h=>h) (Or.inl ⟨by kernel_rfl, ?_⟩) hHeld ?_;rotate_left
        . intro X hSw;have e4:=hSw.2.1
          first|(go_simp;done)|(go_simp;with_reducible rfl)
        try simp only[Act.put,tk1,tk2,tk3,tk4,tk5,tk6]
        refine tkH 7 hHeld ?_;refine tkH 8 hHeld ?_;refine wpAnyH_take (i:=9) rfl (by kernel_rfl) (by kernel_rfl) (by kernel_rfl) (fun _ _ _ h=>h) (yieldsIf_load_mid (by kernel_rfl) 30 (.tmp 86) rfl g' (off'+q*19) rfl cs2 _ (fun X hX=>hX.2.2.2) Tryz.underlying30 rfl hn2) hHeld ?_
        try simp only[Act.put,tk1,tk2,tk3,tk4,tk5,tk6]
        refine wpAnyH_ready (rs:= [10]) (by kernel_rfl) (by simp) ?_;refine AllReadyH.cons rfl (fun K hK=> ?_) AllReadyH.nil;go_simp
        (with_reducible refine(HC.out _ (Below.drew (Below.refl _ _))).mono ?_)
        rintro e w4 ⟨B,rfl,hB,hb4⟩;have hbr:Below wr.heap.size wr w4:=(Below.drew (Below.refl _ _)).trans hb4;have HE4:=Lib.hid (hea.out.step hbr);refine hK.out _ _ (Hkeep.out _ hbr) (fun hHeld=> ?_);clear hK K
        try simp only[Act.put,tk1,tk2,tk3,tk4,tk5,tk6]
        refine tkH 11 hHeld ?_;refine wpAnyH_done (by kernel_rfl) ?_ _;clear hHeld hb4 hbr hea m1 m2
        cases B with
        |true=>
         have HT':=Lib.hid (HT.out (hB.1 rfl));clear hB HT HNe;go_wp2;go_roundw
         case rel=>exact⟨q+1,by go_num,by omega,HT',HE4⟩
         case measure=>simp only[intOf];omega
        |false=>
         have hno: ¬((P1/\P2)/\Fz l l'=true):=fun h=>HNe.out (fun e=>by have:=hB.2 e;cases this) h.2;have Hno:=Lib.hid hno;clear hB HT HNe hno;go_wp2;go_ret;exact Ba.no Hno.out HE4.out.1
      . obtain rfl:q=l.length:=by omega
        have hE:Fz l l'=true:=Kn.2 ⟨Hln.out,fun j x y h1 h2=>htk.out j x y (List.getElem?_eq_some_iff.1 h1).1 h1 h2⟩;have HE:=Lib.hid hE;clear hE;clear htk;go_wp2;go_ret;exact Ba.yes ⟨⟨Hp1.out,Hp2.out⟩,HE.out⟩ hea.out.1
theorem Ajc: ∀m,Aqk m:=by
 refine Mut.ind ?_;intro k key dst n had was has v l IH m' cs cs' w hM hM' hb hb';obtain⟨k1,b1,n1,t1,l1,o1⟩:=was;obtain⟨k2,b2,n2,t2,l2,o2⟩:=v;obtain⟨la1,lc1,oa1,oc1,la2,lc2,oa2,oc2,a,c,rfl,hv1,hv2,hl⟩:=Bq hM;obtain⟨k',key',dst',n',had',⟨k1',b1',n1',t1',l1',o1'⟩,has',⟨k2',b2',n2',t2',l2',o2'⟩,l'⟩:=m';obtain⟨la1',lc1',oa1',oc1',la2',lc2',oa2',oc2',a',c',rfl,hv1',hv2',hl'⟩:=Bq hM';simp only[Bm]at hb hb';by_cases hd:k≠k'\/key≠key'\/dst≠dst'\/n≠n'\/had≠had'\/has≠has'\/l.length≠l'.length
 . refine Al6 _ _ _ _ _ _ _ _ _ _ _ _ _ _ _ _ _ _ _ _ _ _ _ _ _ _ _ _ _ _ _ _ _ _ _ _ _ _ _ _ _ _ w _ (fun e=> ?_) hd;simp only[Jy,Bool.and_eq_true,decide_eq_true_eq,beq_iff_eq]at e;obtain⟨⟨⟨⟨⟨⟨⟨⟨e1,e2⟩,e3⟩,e4⟩,e5⟩,e7⟩,_⟩,_⟩,e9⟩:=e;rcases hd with h|h|h|h|h|h|h
   . exact h e1
   . exact h e2
   . exact h e3
   . exact h e4
   . exact h e5
   . exact h e7
   . exact h (Kn.1 e9).1
 . obtain⟨rfl,rfl,rfl,rfl,rfl,rfl,hln⟩:k=k'/\key=key'/\dst=dst'/\n=n'/\had=had'/\has=has'/\l.length=l'.length:=by
    refine⟨Classical.byContradiction fun e=>hd (.inl e),Classical.byContradiction fun e=>hd (.inr (.inl e)),Classical.byContradiction fun e=>hd (.inr (.inr (.inl e))),Classical.byContradiction fun e=>hd (.inr (.inr (.inr (.inl e)))),Classical.byContradiction fun e=>hd (.inr (.inr (.inr (.inr (.inl e))))),Classical.byContradiction fun e=>hd (.inr (.inr (.inr (.inr (.inr (.inl e)))))),Classical.byContradiction fun e=>hd (.inr (.inr (.inr (.inr (.inr (.inr e))))))⟩
   have h:=Al7 k key dst n had has k1 b1 n1 t1 l1 o1 k2 b2 n2 t2 l2 o2 k1' b1' n1' t1' l1' o1' k2' b2' n2' t2' l2' o2' la1 oa1 lc1 oc1 la2 oa2 lc2 oc2 la1' oa1' lc1' oc1' la2' oa2' lc2' oc2' l l' a a' c c' w hv1 hv2 hv1' hv2' (by omega) (by omega) (by omega) (by omega) hl hl' hln (by omega) (by omega) IH;rw[<-hln];refine h.mono ?_;rintro e w' ⟨B,rfl,hB,hbw⟩;exact⟨B,rfl,hB.trans (by simp[Jy,and_assoc]),hbw⟩
end Go.Proofs.YtmglfdckpjegdaaGreatDoor
