/- Parts: Digits, and what strconv.ParseInt says of them. Plain. No condition. -/
import Derived.Deep.RegionHeld
import Derived.Test.YtjgfchcldhmjcaaGreatDoorZPpShelfN
import Derived.Test.YtjgfchcldhmjcaaGreatDoorZPpShelfS
import Derived.Shelf.SlSortCmp.WholeK
import Derived.Lib.ParseIntBCases
import Derived.Test.YtjgfchcldhmjcaaGreatDoorKPp17
set_option maxHeartbeats 20000000
set_option maxRecDepth 100000
namespace Go.Proofs.YtjgfchcldhmjcaaGreatDoor
open Go Go.RowKit
def Ahl (a:Val):Prop:= ∀(b:Val) (cs cs':List Value) (w:World),Ab w w.heap.size a cs->Ab w w.heap.size b cs'->a.bulk<=100000000->b.bulk<=100000000->
    Calls Tryz.prog 336 #[.agg cs.toArray,.agg cs'.toArray] w (Aal (Fs a b=true) w)
theorem Aca (key a:ByteArray) (j a1 k l m n o p q r s t:Value) (w:World) (Q:Prop)
 (u: ∀W,Below w.heap.size w W->Calls Tryz.prog 336 #[.agg #[j,a1,k,l,m,n],.agg #[o,p,q,r,s,t]] W (Aal Q W)):
 Calls Tryz.prog 365 #[.agg #[.string key,j,a1,k,l,m,n],.agg #[.string a,o,p,q,r,s,t]] w (Aal (key=a/\Q) w):=by
 have x:=qz (fun W=>Ub key a W);have y:=qz u;clear u;go_enter Tryz.func365,Tryz.ntmps365;go_wp2_with (fail);(with_reducible refine(x.out _).mono ?_);rintro e w1 ⟨c,rfl,h,rfl⟩;by_cases b:c=0
 . have v:=h.1 b;subst b;have z:=qz v;clear v;clear h;go_wp2_with (fail);(with_reducible refine(y.out _ (Abv _ _ _)).mono ?_);rintro e w' ⟨B,rfl,d,f⟩;have g:B=0 ↔ key=a/\Q:=⟨fun e=>⟨z.out,d.1 e⟩,fun e=>d.2 e.2⟩;have A:=qz ((Abv w (.cells #[.string key,j,a1,k,l,m,n] 111) (.cells #[.string a,o,p,q,r,s,t] 111)).trans (f.mono (by simp;omega)));have i:=qz g;clear g;clear d f;go_wp2;go_ret;exact Aal.of i.out A.out
 . have g:c=0 ↔ key=a/\Q:=⟨fun e=>absurd e b,fun e=>absurd (h.2 e.1) b⟩;have C:(c==0)=false:=by simpa using b
   have D:(c != 0)=true:=by simpa using b
   have i:=qz g;clear g;clear h b;go_wp2;go_ret;exact Aal.of i.out (Abv _ _ _)
theorem Xu (l l':List Val) (la s:Option Addr) (lc ai m:Nat) (w:World) (d:m<=w.heap.size) (IH: ∀v ∈ l,Ahl v)
 (hl:l= []\/ ∃g a,la=some ⟨g,a,none⟩/\g<m/\Aq w m l g a) (J:l'= []\/ ∃g a,s=some ⟨g,a,none⟩/\g<m/\Aq w m l' g a)
 (hb:A5 l<=100000000) (ap:A5 l'<=100000000):
 Calls Tryz.prog 363 #[.slice la l.length lc,.slice s l'.length ai,.func (.func 336) #[] #[]] w (Aal (Abd l l'=true) w):=by
 have ar:=C9 l;have ak:=C9 l';have HI:=qz IH;have H0:Hid (∀j x y,j<0->l[j]? =some x->l'[j]? =some y->Fs x y=true):=fun _ _ _ e=>absurd e (Nat.not_lt_zero _);have z:Hid (Below w.heap.size w w):=Below.refl _ _;obtain⟨p,hp⟩: ∃p:Prop,(Abd l l'=true)=p:=⟨_,rfl⟩;rw[hp];have Hp:=qz hp;clear IH hp;obtain⟨M,⟨am,an,ao⟩,hM⟩: ∃M:Nat,(M<=l.length/\M<=l'.length/\(M=l.length\/M=l'.length))/\(min (l.length:Int) (l'.length:Int))=M:=⟨min l.length l'.length,⟨by omega,by omega,by omega⟩,by omega⟩;have ae:(if(l'.length:Int)<(l.length:Int)then(l'.length:Int)else(l.length:Int))=M:=by rw[<-hM];split<;>omega
 have E:(if(l.length:Int)<(l'.length:Int)then(l.length:Int)else(l'.length:Int))=M:=by rw[<-hM];split<;>omega
 go_enter Tryz.func363,Tryz.ntmps363;go_wp2_with (fail);go_loopw [14] (fun i wr=> ∃k:Nat,i=.int .i64 k/\k<=M/\Hid (∀j x y,j<k->l[j]? =some x->l'[j]? =some y->Fs x y=true)/\Hid (Below w.heap.size w wr)) (fun i _=>M - (intOf i).toNat)
 case atStart=>exact⟨0,rfl,Nat.zero_le _,H0,z⟩
 case round=>
  obtain⟨k,rfl,hk,X,f⟩:=hrel;clear H0 z hM ae E;by_cases au:k<M
  . have H:k<l.length:=by omega
    have I:k<l'.length:=by omega
    have T:=f.out.size;obtain⟨g,a,rfl,hg,hL⟩: ∃g a,la=some ⟨g,a,none⟩/\g<m/\Aq w m l g a:=by
     rcases hl with rfl|h
     . simp at H
     . exact h
    obtain⟨g',al,rfl,G,D⟩: ∃g a,s=some ⟨g,a,none⟩/\g<m/\Aq w m l' g a:=by
     rcases J with rfl|h
     . simp at I
     . exact h
    obtain⟨x,O⟩: ∃v,l[k]? =some v:=⟨_,List.getElem?_eq_getElem H⟩;obtain⟨y,R⟩: ∃v,l'[k]? =some v:=⟨_,List.getElem?_eq_getElem I⟩;have q:=List.mem_of_getElem? O;have S:=List.mem_of_getElem? R;have ag:=Dp q;have ah:=Dp S;have A:=HI.out _ q;have r:Fs x y=true->(∀j x y,j<k+1->l[j]? =some x->l'[j]? =some y->Fs x y=true):=by
     intro e j x' y' hj t B;rcases Nat.lt_succ_iff_lt_or_eq.1 hj with hj|rfl
     . exact X.out j x' y' hj t B
     . rw[O]at t;rw[R]at B;rw[<-Option.some.inj t,<-Option.some.inj B];exact e
    have P: ¬Fs x y=true-> ¬p:=fun e h=>by
     rw[<-Hp.out]at h;exact e ((Ac7.1 h).2 k x y O R)
    obtain⟨k1,ac,n1,t1,l1,o1⟩:=x;obtain⟨k2,ad,n2,t2,l2,o2⟩:=y;obtain⟨ay,a0,a2,a4,L,c0,c1,c2,c3,c4,c5⟩:=(hL.below hg (f.out.mono d)).six O;obtain⟨az,a1,a3,a5,N,e0,e1,e2,e3,e4,e5⟩:=(D.below G (f.out.mono d)).six R;have Y:=fun(W:World) (V:Below wr.heap.size wr W)=>A _ _ _ W (Ab.more (Nat.le_trans d (Nat.le_trans T V.size)) _ _ (L.below (V.mono (Nat.le_trans d T)))) (Ab.more (Nat.le_trans d (Nat.le_trans T V.size)) _ _ (N.below (V.mono (Nat.le_trans d T)))) (by omega) (by omega);obtain⟨Q,hQ⟩: ∃Q:Prop,(Fs (Val.mk k1 ac n1 t1 l1 o1) (Val.mk k2 ad n2 t2 l2 o2)=true)=Q:=⟨_,rfl⟩;rw[hQ]at Y r;have aa:Hid (¬Q-> ¬p):=by rw[<-hQ];exact P
    have aq:g<wr.heap.size:=by omega
    have aj:g'<wr.heap.size:=by omega
    have af:(k:Int)<(M:Int):=by omega
    have aw:(k:Int)<(l.length:Int):=by omega
    have ax:(k:Int)<(l'.length:Int):=by omega
    have av:(0:Int)<=k:=by omega
    obtain⟨u,ab⟩:=hid2 Y r;clear Y r;clear hQ P A ag ah q S L N O R hL D hg G X;go_upto_region 4 with(fail)
    go_region_with (go_at_call 336;(with_reducible refine(u.out _ (Below.drew (Below.refl _ _))).mono ?_);rintro e w4 ⟨c,rfl,hc,F⟩)
    all_goals
     have U:=qz hc;have n:Below wr.heap.size wr w4:=(Below.drew (Below.refl _ _)).trans F;have o:=qz (f.out.trans (n.mono T));clear hc F n f u c0 c1 c2 c3 c4 c5 e0 e1 e2 e3 e4 e5;by_cases b:c=0
     . have Hn:=qz (ab.out (U.out.1 b));subst b;clear U;go_wp2;go_roundw
       case rel=>exact⟨k+1,by go_num,by omega,Hn,o⟩
       case measure=>simp only[intOf];omega
     . have K:=aa.out (fun e=>b (U.out.2 e));have f1:(c==0)=false:=by simpa using b
       have f2:(c != 0)=true:=by simpa using b
       have Z:Hid (c=0 ↔ p):=⟨fun e=>absurd e b,fun e=>absurd e K⟩;clear U K b;go_wp2;go_ret;exact Aal.of Z.out o.out
  . obtain rfl:k=M:=by omega
    have af: ¬(k:Int)<(k:Int):=by omega
    have cN:=fun w=>Tg (l.length:Int) (l'.length:Int) w;obtain⟨C,hC⟩: ∃C,Abx (l.length:Int) (l'.length:Int)=C:=⟨_,rfl⟩;rw[hC]at cN;have HN:=qz cN;have Z:Hid (C=0 ↔ p):=by
     show _ ↔ _;rw[<-hC,Abw,<-Hp.out];constructor
     . intro h;exact Ac7.2 ⟨by omega,fun j x y t B=>X.out j x y (by have:=(List.getElem?_eq_some_iff.1 t).1;omega) t B⟩
     . intro h;have:=(Ac7.1 h).1;omega
    clear cN hC X hl J;go_wp2_with (fail);(with_reducible refine(HN.out _).mono ?_);rintro e w' ⟨rfl,rfl⟩;go_wp2;go_ret;exact Aal.of Z.out f.out
theorem Xv (l l':List (ByteArray×Val)) (la B:Option Addr) (lc ah o:Nat) (w:World) (b:o<=w.heap.size) (IH: ∀m ∈ l,Ahl m.2)
 (hl:l= []\/ ∃g a,la=some ⟨g,a,none⟩/\g<o/\An w o l g a) (T:l'= []\/ ∃g a,B=some ⟨g,a,none⟩/\g<o/\An w o l' g a)
 (hb:Af l<=100000000) (ao:Af l'<=100000000):
 Calls Tryz.prog 364 #[.slice la l.length lc,.slice B l'.length ah,.func (.func 365) #[] #[]] w (Aal (Abe l l'=true) w):=by
 have aq:=B5 l;have aj:=B5 l';have HI:=qz IH;have H0:Hid (∀j x y,j<0->l[j]? =some x->l'[j]? =some y->Ym x y=true):=fun _ _ _ e=>absurd e (Nat.not_lt_zero _);have G:Hid (Below w.heap.size w w):=Below.refl _ _;obtain⟨p,hp⟩: ∃p:Prop,(Abe l l'=true)=p:=⟨_,rfl⟩;rw[hp];have Hp:=qz hp;clear IH hp;obtain⟨M,⟨al,am,an⟩,hM⟩: ∃M:Nat,(M<=l.length/\M<=l'.length/\(M=l.length\/M=l'.length))/\(min (l.length:Int) (l'.length:Int))=M:=⟨min l.length l'.length,⟨by omega,by omega,by omega⟩,by omega⟩;have af:(if(l'.length:Int)<(l.length:Int)then(l'.length:Int)else(l.length:Int))=M:=by rw[<-hM];split<;>omega
 have L:(if(l.length:Int)<(l'.length:Int)then(l.length:Int)else(l'.length:Int))=M:=by rw[<-hM];split<;>omega
 go_enter Tryz.func364,Tryz.ntmps364;go_wp2_with (fail);go_loopw [14] (fun i wr=> ∃k:Nat,i=.int .i64 k/\k<=M/\Hid (∀j x y,j<k->l[j]? =some x->l'[j]? =some y->Ym x y=true)/\Hid (Below w.heap.size w wr)) (fun i _=>M - (intOf i).toNat)
 case atStart=>exact⟨0,rfl,Nat.zero_le _,H0,G⟩
 case round=>
  obtain⟨k,rfl,hk,ht,f⟩:=hrel;clear H0 G hM af L;by_cases ar:k<M
  . have R:k<l.length:=by omega
    have S:k<l'.length:=by omega
    have A:=f.out.size;obtain⟨g,a,rfl,hg,hL⟩: ∃g a,la=some ⟨g,a,none⟩/\g<o/\An w o l g a:=by
     rcases hl with rfl|h
     . simp at R
     . exact h
    obtain⟨g',ak,rfl,P,K⟩: ∃g a,B=some ⟨g,a,none⟩/\g<o/\An w o l' g a:=by
     rcases T with rfl|h
     . simp at S
     . exact h
    obtain⟨x,Y⟩: ∃v,l[k]? =some v:=⟨_,List.getElem?_eq_getElem R⟩;obtain⟨y,hy⟩: ∃v,l'[k]? =some v:=⟨_,List.getElem?_eq_getElem S⟩;have u:=List.mem_of_getElem? Y;have ac:=List.mem_of_getElem? hy;have Z:=C4 u;have ab:=C4 ac;have t:=HI.out _ u;have z:Ym x y=true->(∀j x y,j<k+1->l[j]? =some x->l'[j]? =some y->Ym x y=true):=by
     intro e j x' y' hj D J;rcases Nat.lt_succ_iff_lt_or_eq.1 hj with hj|rfl
     . exact ht.out j x' y' hj D J
     . rw[Y]at D;rw[hy]at J;rw[<-Option.some.inj D,<-Option.some.inj J];exact e
    have aa: ¬Ym x y=true-> ¬p:=fun e h=>by
     rw[<-Hp.out]at h;exact e ((Aee.1 h).2 k x y Y hy)
    obtain⟨key,⟨k1,H,n1,t1,l1,o1⟩⟩:=x;obtain⟨n,⟨k2,I,n2,t2,l2,o2⟩⟩:=y;obtain⟨ax,az,a1,a3,V,c0,c1,c2,c3,c4,c5,c6⟩:=(hL.below hg (f.out.mono b)).seven Y;obtain⟨ay,a0,a2,a4,X,e0,e1,e2,e3,e4,e5,e6⟩:=(K.below P (f.out.mono b)).seven hy;simp only at t Z ab;have CC:=fun(W:World) (E:Below wr.heap.size wr W)=>Aca key n _ _ _ _ _ _ _ _ _ _ _ _ W _ (fun W' q=>t _ _ _ W' (Ab.more (Nat.le_trans b (Nat.le_trans A (Nat.le_trans E.size q.size))) _ _ ((V.below (E.mono (Nat.le_trans b A))).below (q.mono (Nat.le_trans b (Nat.le_trans A E.size))))) (Ab.more (Nat.le_trans b (Nat.le_trans A (Nat.le_trans E.size q.size))) _ _ ((X.below (E.mono (Nat.le_trans b A))).below (q.mono (Nat.le_trans b (Nat.le_trans A E.size))))) (by omega) (by omega));obtain⟨Q,hQ⟩: ∃Q:Prop,(Ym (key,Val.mk k1 H n1 t1 l1 o1) (n,Val.mk k2 I n2 t2 l2 o2)=true)=Q:=⟨_,rfl⟩;have N:(key=n/\Fs (Val.mk k1 H n1 t1 l1 o1) (Val.mk k2 I n2 t2 l2 o2)=true)=Q:=by rw[<-hQ];simp[Ym]
    rw[N]at CC;clear N;rw[hQ]at z;have ad:Hid (¬Q-> ¬p):=by rw[<-hQ];exact aa
    have ap:g<wr.heap.size:=by omega
    have ai:g'<wr.heap.size:=by omega
    have ag:(k:Int)<(M:Int):=by omega
    have av:(k:Int)<(l.length:Int):=by omega
    have aw:(k:Int)<(l'.length:Int):=by omega
    have au:(0:Int)<=k:=by omega
    obtain⟨F,ae⟩:=hid2 CC z;clear CC z;clear hQ aa t Z ab u ac V X Y hy hL K hg P ht;go_upto_region 4 with(fail)
    go_region_with (go_at_call 365;(with_reducible refine(F.out _ (Below.drew (Below.refl _ _))).mono ?_);rintro e w4 ⟨c,rfl,hc,O⟩)
    all_goals
     have Hc:=qz hc;have r:Below wr.heap.size wr w4:=(Below.drew (Below.refl _ _)).trans O;have s:=qz (f.out.trans (r.mono A));clear hc O r f F c0 c1 c2 c3 c4 c5 c6 e0 e1 e2 e3 e4 e5 e6;by_cases d:c=0
     . have Hn:=qz (ae.out (Hc.out.1 d));subst d;clear Hc;go_wp2;go_roundw
       case rel=>exact⟨k+1,by go_num,by omega,Hn,s⟩
       case measure=>simp only[intOf];omega
     . have U:=ad.out (fun e=>d (Hc.out.2 e));have f1:(c==0)=false:=by simpa using d
       have f2:(c != 0)=true:=by simpa using d
       have Hf:Hid (c=0 ↔ p):=⟨fun e=>absurd e d,fun e=>absurd e U⟩;clear Hc U d;go_wp2;go_ret;exact Aal.of Hf.out s.out
  . obtain rfl:k=M:=by omega
    have ag: ¬(k:Int)<(k:Int):=by omega
    have cN:=fun w=>Tg (l.length:Int) (l'.length:Int) w;obtain⟨C,hC⟩: ∃C,Abx (l.length:Int) (l'.length:Int)=C:=⟨_,rfl⟩;rw[hC]at cN;have HN:=qz cN;have Hf:Hid (C=0 ↔ p):=by
     show _ ↔ _;rw[<-hC,Abw,<-Hp.out];constructor
     . intro h;exact Aee.2 ⟨by omega,fun j x y D J=>ht.out j x y (by have:=(List.getElem?_eq_some_iff.1 D).1;omega) D J⟩
     . intro h;have:=(Aee.1 h).1;omega
    clear cN hC ht hl T;go_wp2_with (fail);(with_reducible refine(HN.out _).mono ?_);rintro e w' ⟨rfl,rfl⟩;go_wp2;go_ret;exact Aal.of Hf.out f.out
theorem Ajn (k a:Int) (b b':Bool) (n j:Int) (t l:ByteArray) (x y m o:Value) (w:World) (p:Prop) (h:k≠a) (f: ¬p):
 Calls Tryz.prog 336 #[.agg #[.int .i64 k,.bool b,.int .i64 n,.string t,x,y],.agg #[.int .i64 a,.bool b',.int .i64 j,.string l,m,o]] w (Aal p w):=by
 have q:(k==a)=false:=by simpa using h
 have r:(k != a)=true:=by simpa using h
 obtain⟨C,d⟩: ∃C,Abx k a=C:=⟨_,rfl⟩;have c:=fun w=>Acu k a w;rw[d]at c;have g:=qz c;have i:Hid (C=0 ↔ p):=by
  show _ ↔ _;rw[<-d,Abw];exact⟨fun e=>absurd e h,fun e=>absurd e f⟩
 clear c d h f;go_enter Tryz.func336,Tryz.ntmps336;go_wp2_with (fail);(with_reducible refine(g.out _).mono ?_);rintro e w' ⟨rfl,rfl⟩;go_wp2;go_ret;exact Aal.of i.out (Abv _ _ _)
theorem Ale (k:Int) (d:k≠2) (e:k≠3) (f:k≠4) (g:k≠5) (h:k≠6) (b b':Bool) (n i:Int) (t j:ByteArray) (x y l m:Value) (w:World) (p:Prop) (a:p):
 Calls Tryz.prog 336 #[.agg #[.int .i64 k,.bool b,.int .i64 n,.string t,x,y],.agg #[.int .i64 k,.bool b',.int .i64 i,.string j,l,m]] w (Aal p w):=by
 have c:=qz a;have o:(k==2)=false:=by simpa using d
 have q:(k==3)=false:=by simpa using e
 have r:(k==4)=false:=by simpa using f
 have s:(k==5)=false:=by simpa using g
 have u:(k==6)=false:=by simpa using h
 clear a;go_enter Tryz.func336,Tryz.ntmps336;go_wp2;go_ret;exact Aal.of ⟨fun _=>c.out,fun _=>rfl⟩ (Abv _ _ _)
theorem Alc (b b':Bool) (n a:Int) (t i:ByteArray) (x y j k:Value) (w:World) (p:Prop) (f:n=a ↔ p):
 Calls Tryz.prog 336 #[.agg #[.int .i64 3,.bool b,.int .i64 n,.string t,x,y],.agg #[.int .i64 3,.bool b',.int .i64 a,.string i,j,k]] w (Aal p w):=by
 obtain⟨C,d⟩: ∃C,Abx n a=C:=⟨_,rfl⟩;have c:=fun w=>Tl n a w;rw[d]at c;have g:=qz c;have h:Hid (C=0 ↔ p):=by
  show _ ↔ _;rw[<-d,Abw];exact f
 clear c d f;go_enter Tryz.func336,Tryz.ntmps336;go_wp2_with (fail);(with_reducible refine(g.out _).mono ?_);rintro e w' ⟨rfl,rfl⟩;go_wp2;go_ret;exact Aal.of h.out (Abv _ _ _)
theorem Ajp (b b':Bool) (n j:Int) (t a:ByteArray) (x y k l:Value) (w:World) (p:Prop) (f:t=a ↔ p):
 Calls Tryz.prog 336 #[.agg #[.int .i64 4,.bool b,.int .i64 n,.string t,x,y],.agg #[.int .i64 4,.bool b',.int .i64 j,.string a,k,l]] w (Aal p w):=by
 have g:=qz (fun w=>Ub t a w);have i:=qz f;clear f;go_enter Tryz.func336,Tryz.ntmps336;go_wp2_with (fail);(with_reducible refine(g.out _).mono ?_);rintro e w' ⟨c,rfl,d,rfl⟩;have h:=qz (d.trans i.out);clear d;go_wp2;go_ret;exact Aal.of h.out (Abv _ _ _)
theorem Ajm (b b':Bool) (n s:Int) (t u:ByteArray) (x y v z:Value) (w:World) (p:Prop) (j:b=b' ↔ p):
 Calls Tryz.prog 336 #[.agg #[.int .i64 2,.bool b,.int .i64 n,.string t,x,y],.agg #[.int .i64 2,.bool b',.int .i64 s,.string u,v,z]] w (Aal p w):=by
 have i:=fun b w=>Adh b w;have l:=qz (fun m q w=>Tl m q w);have f:Abx (if b then 1 else 0) (if b' then 1 else 0)=0 ↔ p:=by
  rw[Abw,<-j]
  cases b<;>cases b'<;>simp
 obtain⟨r,k⟩: ∃r:Int,(if b=true then 1 else 0)=r:=⟨_,rfl⟩;obtain⟨A,d⟩: ∃r:Int,(if b'=true then 1 else 0)=r:=⟨_,rfl⟩;have a:=fun w=>i b w;have c:=fun w=>i b' w;rw[k]at f a;rw[d]at f c;obtain⟨g,h,o⟩:=hid3 a c f;clear a c f;clear i j k d;go_enter Tryz.func336,Tryz.ntmps336;go_upto_region 9 with(fail)
 go_region_with (first|(go_at_call 361;first|((with_reducible refine(g.out _).mono ?_);rintro e w1 ⟨rfl,rfl⟩)|((with_reducible refine(h.out _).mono ?_);rintro e w1 ⟨rfl,rfl⟩)))
 all_goals
  go_wp2_with (fail);(with_reducible refine(l.out _ _ _).mono ?_);rintro e w' ⟨rfl,rfl⟩;go_wp2;go_ret;exact Aal.of o.out (Below.drew (Abv _ _ _))
theorem Ajo (b b':Bool) (n D:Int) (t F:ByteArray) (l l':List Val) (on r:Nat) (s E d o:Option Addr) (y oc f q:Nat) (w:World) (p:Prop) (z: ∀v ∈ l,Ahl v) (C:Abd l l'=true ↔ p)
 (B:l= []\/ ∃g a,s=some ⟨g,a,none⟩/\g<w.heap.size/\Aq w w.heap.size l g a) (m:l'= []\/ ∃g a,d=some ⟨g,a,none⟩/\g<w.heap.size/\Aq w w.heap.size l' g a)
 (i:A5 l<=100000000) (j:A5 l'<=100000000):
 Calls Tryz.prog 336 #[.agg #[.int .i64 5,.bool b,.int .i64 n,.string t,.slice s l.length y,.slice E on oc],.agg #[.int .i64 5,.bool b',.int .i64 D,.string F,.slice d l'.length f,.slice o r q]] w (Aal p w):=by
 have x:=fun(W:World) (u:Below w.heap.size w W)=>Xu l l' s d y f w.heap.size W u.size z
  (B.imp id fun⟨g,a,e,k,h⟩=>⟨g,a,e,k,h.below k u⟩) (m.imp id fun⟨g,a,e,k,h⟩=>⟨g,a,e,k,h.below k u⟩) i j
 simp only[propext C]at x;have G:=qz x;clear x;clear z C B m i j;go_enter Tryz.func336,Tryz.ntmps336;go_wp2_with (fail);(with_reducible refine(G.out _ (Abv _ _ _)).mono ?_);rintro e w' ⟨c,rfl,A,i⟩;have I:=qz ((Abv w (.cells #[.int .i64 5,.bool b,.int .i64 n,.string t,.slice s l.length y,.slice E on oc] 42) (.cells #[.int .i64 5,.bool b',.int .i64 D,.string F,.slice d l'.length f,.slice o r q] 42)).trans (i.mono (by simp;omega)));have H:=qz A;clear A;clear i;go_wp2;go_ret;exact Aal.of H.out I.out
theorem Ald (b b':Bool) (n F:Int) (t G:ByteArray) (l l':List (ByteArray×Val)) (E s:Nat) (C u q d:Option Addr) (D oc r f:Nat) (w:World) (p:Prop) (y: ∀m ∈ l,Ahl m.2) (B:Abe l l'=true ↔ p)
 (A:l= []\/ ∃g a,u=some ⟨g,a,none⟩/\g<w.heap.size/\An w w.heap.size l g a) (o:l'= []\/ ∃g a,d=some ⟨g,a,none⟩/\g<w.heap.size/\An w w.heap.size l' g a)
 (i:Af l<=100000000) (j:Af l'<=100000000):
 Calls Tryz.prog 336 #[.agg #[.int .i64 6,.bool b,.int .i64 n,.string t,.slice C E D,.slice u l.length oc],.agg #[.int .i64 6,.bool b',.int .i64 F,.string G,.slice q s r,.slice d l'.length f]] w (Aal p w):=by
 have x:=fun(W:World) (v:Below w.heap.size w W)=>Xv l l' u d oc f w.heap.size W v.size y
  (A.imp id fun⟨g,a,e,k,h⟩=>⟨g,a,e,k,h.below k v⟩) (o.imp id fun⟨g,a,e,k,h⟩=>⟨g,a,e,k,h.below k v⟩) i j
 simp only[propext B]at x;have H:=qz x;clear x;clear y B A o i j;go_enter Tryz.func336,Tryz.ntmps336;go_wp2_with (fail);(with_reducible refine(H.out _ (Abv _ _ _)).mono ?_);rintro e w' ⟨c,rfl,z,i⟩;have J:=qz ((Abv w (.cells #[.int .i64 6,.bool b,.int .i64 n,.string t,.slice C E D,.slice u l.length oc] 42) (.cells #[.int .i64 6,.bool b',.int .i64 F,.string G,.slice q s r,.slice d l'.length f] 42)).trans (i.mono (by simp;omega)));have I:=qz z;clear z;clear i;go_wp2;go_ret;exact Aal.of I.out J.out
theorem Add: ∀a,Ahl a:=by
 refine Val.ind ?_;intro k b n t l o r s v cs J w F f K B;obtain⟨E,b',c,d,l',o'⟩:=v;simp only[Ab]at F f;obtain⟨G,H,I,oc,rfl,C,D⟩:=F;obtain⟨j,m,p,q,rfl,h,i⟩:=f;simp only[Val.bulk]at K B;by_cases g:k≠E
 . exact Ajn k E b b' n c t d _ _ _ _ w _ g (fun e=>by simp only[Fs,Bool.and_eq_true,decide_eq_true_eq]at e;exact g e.1)
 obtain rfl:k=E:=by omega
 by_cases u:k=2
 . subst u;exact Ajm b b' n c t d _ _ _ _ w _ (by simp[Fs])
 by_cases x:k=3
 . subst x;exact Alc b b' n c t d _ _ _ _ w _ (by simp[Fs])
 by_cases y:k=4
 . subst y;exact Ajp b b' n c t d _ _ _ _ w _ (by simp[Fs])
 by_cases z:k=5
 . subst z;exact Ajo b b' n c t d l l' _ _ G I j p H oc m q w _ r (by simp[Fs]) C h (by omega) (by omega)
 by_cases A:k=6
 . subst A;exact Ald b b' n c t d o o' _ _ G I j p H oc m q w _ s (by simp[Fs]) D i (by omega) (by omega)
 exact Ale k u x y z A b b' n c t d _ _ _ _ w _ (by simp[Fs,u,x,y,z,A])
theorem Abn (v v':Val) (cs a:List Value) (w:World) (u:Ab w w.heap.size v cs) (d:Ab w w.heap.size v' a) (G:v.bulk<=100000000) (x:v'.bulk<=100000000):
 Calls Tryz.prog 285 #[.agg cs.toArray,.agg a.toArray] w (Cn (Fs v v'=true) w):=by
 have s:=fun(W:World) (j:Below w.heap.size w W)=>Add v v' cs a W (Ab.more j.size _ _ (u.below j)) (Ab.more j.size _ _ (d.below j)) G x;generalize Fs v v'=B at s ⊢;obtain⟨k,b,n,t,l,o⟩:=v;obtain⟨H,b',K,M,l',o'⟩:=v';simp only[Ab]at u d;obtain⟨I,J,L,oc,rfl,y,z⟩:=u;obtain⟨A,C,D,E,rfl,h,i⟩:=d;have F:=qz s;clear s;clear y z h i;go_enter Tryz.func285,Tryz.ntmps285;go_wp2_with (fail);(with_reducible refine(F.out _ (D3 _ _ _)).mono ?_);rintro e w1 ⟨c,rfl,m,f⟩;have p:=(D3 w (.cells #[.int .i64 k,.bool b,.int .i64 n,.string t,.slice I l.length J,.slice L o.length oc] 42) (.cells #[.int .i64 H,.bool b',.int .i64 K,.string M,.slice A l'.length C,.slice D o'.length E] 42)).trans (f.mono (by simp;omega));by_cases h0:c=0
 . have g:=m.1 h0;subst h0;obtain⟨r,q⟩:=hid2 p g;clear p g;clear m f;go_wp2;go_ret;exact Cn.yes q.out r.out
 . have g: ¬(B=true):=fun e=>h0 (m.2 e);have N:(c==0)=false:=by simpa using h0
   obtain⟨r,q⟩:=hid2 p g;clear p g;clear m f h0;go_wp2;go_ret;exact Cn.no q.out r.out
end Go.Proofs.YtjgfchcldhmjcaaGreatDoor
namespace Go.Proofs.YtjgfchcldhmjcaaGreatDoor
abbrev Ls:Val:=.mk 0 false 0 Lf [] []
abbrev Dj:POp:=⟨0,Lf,Ls⟩
def Ch (v:Val):Int×POp:=
 if Bo v≠6 then(9,Dj)else
 match Av Cf (Bx v)with
 |none=>(10,Dj)
 |some nm=>
  if Bo nm≠4 then(9,Dj)
  else if Ea nm=Du then(if(Bx v).length=1 then(0,⟨3,Lf,Ls⟩)else(10,Dj))
  else if Ea nm=G6 then
   (match Bx v with
   | [(a,x),(b,_),(c,y)]=>if a=Aw/\b=Cf/\c=Bu then(if Bo x=4 then(0,⟨1,Ea x,y⟩)else(9,Dj))else(10,Dj)
   |_=>(10,Dj))
  else if Ea nm=Ic then
   (match Bx v with
   | [(a,x),(b,_)]=>if a=Aw/\b=Cf then(if Bo x=4 then(0,⟨2,Ea x,Ls⟩)else(9,Dj))else(10,Dj)
   |_=>(10,Dj))
  else(12,Dj)
theorem Adl (key:ByteArray) (v:Val):Ch (I7 ⟨1,key,v⟩)=(0,⟨1,key,v⟩):=by
 unfold I7;rw[if_pos rfl]
 kernel_rfl
theorem Adj (key:ByteArray) (v:Val):Ch (I7 ⟨2,key,v⟩)=(0,⟨2,key,Ls⟩):=by
 unfold I7;rw[if_neg (show ¬(2:Int)=1 by omega),if_pos rfl]
 kernel_rfl
theorem Yd (key:ByteArray) (v:Val):Ch (I7 ⟨3,key,v⟩)=(0,⟨3,Lf,Ls⟩):=by
 unfold I7;rw[if_neg (show ¬(3:Int)=1 by omega),if_neg (show ¬(3:Int)=2 by omega)]
 kernel_rfl
def Am:List Val->Int×List POp
 | []=>(0, [])
 |v::r=>if(Ch v).1≠0 then((Ch v).1, [])else if(Am r).1≠0 then((Am r).1, [])else(0,(Ch v).2::(Am r).2)
def Cx (v:Val):Int×List POp:=
 if A0 v 1≠0 then(A0 v 1, [])else if Bo v≠5 then(9, [])else if(Am (Q5 v)).1≠0 then((Am (Q5 v)).1, [])
 else if A8 none (Am (Q5 v)).2=0 then(0,(Am (Q5 v)).2)else(A8 none (Am (Q5 v)).2, [])
theorem Rg: ∀{l:List POp},(∀p ∈ l,Ch (I7 p)=(0,p))->Am (l.map I7)=(0,l)
 | [],_=>rfl
 |p::l,h=>by
  have a:=h p (List.mem_cons_self ..);have b:=Rg fun q c=>h q (List.mem_cons_of_mem _ c);rw[List.map_cons];unfold Am;rw[a,b];rfl
theorem Wy {v:Val} (h:Pu v=true):v=Ls:=by
 obtain⟨k,b,n,t,l,o⟩:=v;have a:I8 k b n t l.length o.length=true:=h;unfold I8 at a;simp only[Bool.and_eq_true,decide_eq_true_eq,Bool.not_eq_true',List.length_eq_zero_iff,List.isEmpty_iff]at a;obtain⟨⟨⟨⟨⟨rfl,rfl⟩,rfl⟩,c⟩,rfl⟩,rfl⟩:=a;have:t=Lf:=toList_inj (by rw[c];simp[Lib.toList_data]);subst this;rfl
theorem Adk {p:POp} (h:Cy p=false):Ch (I7 p)=(0,p):=by
 obtain⟨k,key,v⟩:=p;unfold Cy at h;simp only at h;by_cases c:k=1
 . subst c;exact Adl key v
 rw[if_neg c]at h;by_cases d:k=2
 . subst d;rw[if_pos rfl]at h;have b:=Wy (v:=v) (by simpa using h);subst b;exact Adj key Ls
 rw[if_neg d]at h;by_cases e:k=3
 . subst e;rw[if_pos rfl]at h;simp only[Bool.or_eq_false_iff,Bool.not_eq_false',List.isEmpty_iff]at h;obtain⟨f,g⟩:=h;have b:=Wy g;have a:key=Lf:=toList_inj (by rw[f];simp[Lib.toList_data]);subst b a;exact Yd Lf Ls
 . rw[if_neg e]at h;cases h
theorem Pb: ∀{l:List POp} {prev:Option POp},A8 prev l=0-> ∀p ∈ l,Cy p=false
 | [],_,_,p,a=>by cases a
 |q::l,prev,h,p,a=>by
  unfold A8 at h
  split at h
  . cases h
  rename_i b;have e:Cy q=false:=by
   cases hq:Cy q with
   |false=>rfl
   |true=>exact absurd (by rw[hq];simp) b
  rcases List.mem_cons.1 a with rfl|a
  . exact e
  have key:A8 (some q) l=0->Cy p=false:=fun d=>Pb d p a
  split at h
  . exact key h
  . split at h
    . cases h
    . split at h
      . exact key h
      . split at h
        . exact key h
        . rename_i c;exact absurd h c
theorem Tx {l:List POp} (a:A8 none l=0) (d:A0 (E0 l) 1=0):Cx (E0 l)=(0,l):=by
 have c:=Rg fun p b=>Adk (Pb a p b);unfold Cx;rw[if_neg (by rw[d];omega),if_neg (show ¬Bo (E0 l)≠5 from fun h=>h rfl),show Q5 (E0 l)=l.map I7 from rfl,c];simp only;rw[if_neg (by omega),if_pos a]
end Go.Proofs.YtjgfchcldhmjcaaGreatDoor
namespace Go.Proofs.YtjgfchcldhmjcaaGreatDoor
open Go Go.RowKit
theorem Aiq {S:Nat->Prop} {s n c g a:Nat} {w:World} {l:List D} {q:Nat} {d:D} {o v1:Value} (h:Ai S w (.row s l) [.slice (some ⟨g,a,none⟩) n c]) (z:l[q]? =some d) (G: ∀(w:World) (B:Nat) cs,Ag w B d cs->cs[0]? =some o) (R:v1≠o):
 S g/\ ∀cs:List Value,(∀j u,cs[j]? =some u->w.cell? ⟨g,a+q*s+j,none⟩=some u)->cs.length=s->Ai S w d cs:=by
 obtain⟨V,H,e,N,I,L,O,t⟩:=h.now.at_ z
 cases e
 have M:=t 0 o (G _ _ _ L);have f:S g:=by
  refine Classical.byContradiction fun A=>R ?_;obtain⟨K,m,e,_,J,r,_,v⟩:=(h (w.setCell ⟨g,a+q*s+0,none⟩ v1) (by simp[World.setCell]) (fun p T Y=>World.cell?_setCell_far _ _ _ _ (by show g≠p.block;intro e;exact A (e▸T)))).at_ z
  cases e
  have:=v 0 o (G _ _ _ r);rw[World.cell?_setCell_same _ _ _ M]at this;exact Option.some.inj this
 refine⟨f,fun cs y X C Q F=> ?_⟩;obtain⟨K,m,e,_,b,r,P,x⟩:=(h C Q F).at_ z
 cases e
 have:b=cs:=by
  refine List.ext_getElem? fun j=> ?_;by_cases W:j<s
  . obtain⟨u,i⟩: ∃u,b[j]? =some u:=⟨_,List.getElem?_eq_getElem (by omega)⟩;obtain⟨U,k⟩: ∃u,cs[j]? =some u:=⟨_,List.getElem?_eq_getElem (by omega)⟩;have E:=x j u i;rw[F _ f N,y j U k]at E;rw[i,k,Option.some.inj E]
  . rw[List.getElem?_eq_none (by omega),List.getElem?_eq_none (by omega)]
 rw[<-this];exact r
theorem Aky {S:Nat->Prop} {w:World} {e:Int} {b':Bool} {f:Int} {g:ByteArray} {l':List Val} {o':List (ByteArray×Val)} {i j k l m b:Value} (h:Ai S w (dV (.mk e b' f g l' o')) [i,j,k,l,m,b]):Ai S w (.row 7 (dO o')) [b]:=fun a c d=>Ae0 (h a c d)
theorem Akw {S:Nat->Prop} {w:World} {e:Int} {b':Bool} {f:Int} {g:ByteArray} {l':List Val} {o':List (ByteArray×Val)} {i j k l b m:Value} (h:Ai S w (dV (.mk e b' f g l' o')) [i,j,k,l,b,m]):Ai S w (.row 6 (dL l')) [b]:=fun a c d=>Z6 (h a c d)
theorem Ah7 {b:Int} {b':Bool} {c:Int} {d:ByteArray} {l':List Val} {o':List (ByteArray×Val)} (w:World) (B:Nat) (cs:List Value) (h:Ag w B (dV (.mk b b' c d l' o')) cs):cs[0]? =some (.int .i64 b):=by
 have a:=Be _ _ h;simp only[Ab]at a;obtain⟨e,f,g,oc,rfl,_,_⟩:=a;rfl
theorem Aad {S:Nat->Prop} {w:World} {n c:Nat} {l:List (ByteArray×Val)} {a:Option Addr} (h:Ai S w (.row 7 (dO l)) [.slice a n c]) {q:Nat} {key:ByteArray} {f:Int} {b':Bool} {i:Int} {k:ByteArray} {l':List Val} {o':List (ByteArray×Val)} (t:l[q]? =some (key,.mk f b' i k l' o')):
 ∃g b,a=some ⟨g,b,none⟩/\g<w.heap.size/\ ∃m o p oc,Ai S w (dV (.mk f b' i k l' o')) [.int .i64 f,.bool b',.int .i64 i,.string k,.slice m l'.length o,.slice p o'.length oc]/\
  w.cell? ⟨g,b+q*7,none⟩=some (.string key)/\w.cell? ⟨g,b+q*7+1,none⟩=some (.int .i64 f)/\w.cell? ⟨g,b+q*7+2,none⟩=some (.bool b')/\
  w.cell? ⟨g,b+q*7+3,none⟩=some (.int .i64 i)/\w.cell? ⟨g,b+q*7+4,none⟩=some (.string k)/\w.cell? ⟨g,b+q*7+5,none⟩=some (.slice m l'.length o)/\w.cell? ⟨g,b+q*7+6,none⟩=some (.slice p o'.length oc):=by
 obtain⟨g,b,rfl,y,m,o,p,oc,_,c0,c1,c2,c3,c4,c5,s⟩:=Xx h.now t;refine⟨g,b,rfl,y,m,o,p,oc, ?_,c0,c1,c2,c3,c4,c5,s⟩;have z:=(Aiq (v1:=.bool false) h (d:=dP (key,.mk f b' i k l' o')) (by rw[Dx,List.getElem?_map,t];rfl) Ah5 (by simp)).2 [.string key,.int .i64 f,.bool b',.int .i64 i,.string k,.slice m l'.length o,.slice p o'.length oc] (fun j u e=>by
  match j with
  |0=>cases e;exact c0
  |1=>cases e;exact c1
  |2=>cases e;exact c2
  |3=>cases e;exact c3
  |4=>cases e;exact c4
  |5=>cases e;exact c5
  |6=>cases e;exact s
  |j+7=>simp at e) rfl
 exact fun r v x=>Amf (z r v x)
theorem Akt {S:Nat->Prop} {w:World} {n c:Nat} {l:List Val} {a:Option Addr} (h:Ai S w (.row 6 (dL l)) [.slice a n c]) {q:Nat} {k:Int} {b':Bool} {m:Int} {o:ByteArray} {l':List Val} {o':List (ByteArray×Val)} (v:l[q]? =some (.mk k b' m o l' o')):
 ∃g b,a=some ⟨g,b,none⟩/\g<w.heap.size/\ ∃p r s oc,Ai S w (dV (.mk k b' m o l' o')) [.int .i64 k,.bool b',.int .i64 m,.string o,.slice p l'.length r,.slice s o'.length oc]/\
  w.cell? ⟨g,b+q*6,none⟩=some (.int .i64 k)/\w.cell? ⟨g,b+q*6+1,none⟩=some (.bool b')/\
  w.cell? ⟨g,b+q*6+2,none⟩=some (.int .i64 m)/\w.cell? ⟨g,b+q*6+3,none⟩=some (.string o)/\w.cell? ⟨g,b+q*6+4,none⟩=some (.slice p l'.length r)/\w.cell? ⟨g,b+q*6+5,none⟩=some (.slice s o'.length oc):=by
 obtain⟨g,b,x,z,cs,y,_,f⟩:=h.now.at_ (i:=q) (d:=dV (.mk k b' m o l' o')) (by rw[Gz,List.getElem?_map,v];rfl);have t:=Be _ _ y;simp only[Ab]at t;obtain⟨p,r,s,oc,rfl,_,_⟩:=t;subst x;have c0:=f 0 _ rfl;have c1:=f 1 _ rfl;have c2:=f 2 _ rfl;have c3:=f 3 _ rfl;have c4:=f 4 _ rfl;have c5:=f 5 _ rfl;refine⟨g,b,rfl,z,p,r,s,oc, ?_,c0,c1,c2,c3,c4,c5⟩;exact(Aiq (v1:=.bool false) h (d:=dV (.mk k b' m o l' o')) (by rw[Gz,List.getElem?_map,v];rfl) Ah7 (by simp)).2 _ (fun j u e=>by
  match j with
  |0=>cases e;exact c0
  |1=>cases e;exact c1
  |2=>cases e;exact c2
  |3=>cases e;exact c3
  |4=>cases e;exact c4
  |5=>cases e;exact c5
  |j+6=>simp at e) rfl
theorem Ai.base {S:Nat->Prop} {w0 w:World} {d:D} {cs:List Value} (h:Ai S w0 d cs) (a:Below w0.heap.size w0 w):Ai (fun i=>S i/\i<w0.heap.size) w d cs:=fun c e f=>
 (h c (Nat.le_trans a.size e) fun p g b=>(f p ⟨g,b⟩ (Nat.lt_of_lt_of_le b a.size)).trans (a.cell b)).more a.size
theorem Ai.old_now {S:Nat->Prop} {w0 w:World} {d:D} {cs:List Value} (h:Ai S w0 d cs) (a:Below w0.heap.size w0 w):Ag w w.heap.size d cs:=(h.below a).now
theorem Kk {S:Nat->Prop} {w4:World} {k:Int} {b:Bool} {n:Int} {t:ByteArray} {l:List Val} {o:List (ByteArray×Val)} {cs:List Value} (h:Ai S w4 (dV (.mk k b n t l o)) cs): ∃a c d oc,cs= [.int .i64 k,.bool b,.int .i64 n,.string t,.slice a l.length c,.slice d o.length oc]:=by
 have f:=Be _ _ h.now;simp only[Ab]at f;obtain⟨a,c,d,oc,e,_,_⟩:=f;exact⟨a,c,d,oc,e⟩
theorem Xt (S:Nat->Prop) (w:World):Ai S w (dV Ls) [.int .i64 0,.bool false,.int .i64 0,.string ⟨#[]⟩,.slice none 0 0,.slice none 0 0]:=fun a _ _=>by
 show Ag a w.heap.size (dV (.mk 0 false 0 ⟨#[]⟩ [] [])) _;simp only[dV,Ag];exact Ah.six.2 ⟨[.slice none 0 0], [.slice none 0 0],rfl,rfl,rfl,rfl,rfl,⟨none,0,rfl,by simp[dL], [],rfl,by simp[dL]⟩,⟨none,0,rfl,by simp[dO], [],rfl,by simp[dO]⟩⟩
end Go.Proofs.YtjgfchcldhmjcaaGreatDoor
namespace Go.Proofs.YtjgfchcldhmjcaaGreatDoor
theorem Fu {k:ByteArray} {o:List (ByteArray×Val)}:(Av k o).isSome=true ↔ k ∈ o.map (·.1):=by
 cases h:Av k o with
 |none=>simp only[Option.isSome_none,Bool.false_eq_true,false_iff];exact N4.1 h
 |some v=>
  simp only[Option.isSome_some,true_iff];exact List.mem_map.2 ⟨_,Ia h,rfl⟩
theorem Al9:Sn [Aw,Cf,Bu]:=by
 have a:Er Aw Cf=true:=by decide+kernel
 have b:Er Aw Bu=true:=by decide+kernel
 have c:Er Cf Bu=true:=by decide+kernel
 simp only[Sn,List.pairwise_cons,List.mem_cons,List.not_mem_nil,or_false,forall_eq_or_imp,forall_eq,List.Pairwise.nil,and_true,false_imp_iff,implies_true];exact⟨⟨a,b⟩,c⟩
theorem Al8:Sn [Aw,Cf]:=by
 have a:Er Aw Cf=true:=by decide+kernel
 simp only[Sn,List.pairwise_cons,List.mem_cons,List.not_mem_nil,or_false,forall_eq,List.Pairwise.nil,and_true,false_imp_iff,implies_true];exact a
theorem Alt {o:List (ByteArray×Val)} (h:o.map (·.1)= [Aw,Cf,Bu]): ∃x z y,o= [(Aw,x),(Cf,z),(Bu,y)]:=by
 match o,h with
 | [(a,x),(b,z),(c,y)],h=>
   simp only[List.map_cons,List.map_nil,List.cons.injEq,and_true]at h;obtain⟨rfl,rfl,rfl⟩:=h;exact⟨x,z,y,rfl⟩
theorem Als {o:List (ByteArray×Val)} (h:o.map (·.1)= [Aw,Cf]): ∃x z,o= [(Aw,x),(Cf,z)]:=by
 match o,h with
 | [(a,x),(b,z)],h=>
   simp only[List.map_cons,List.map_nil,List.cons.injEq,and_true]at h;obtain⟨rfl,rfl⟩:=h;exact⟨x,z,rfl⟩
theorem Anf {o:List (ByteArray×Val)} (a:Dg o):(3=o.length/\(Av Aw o).isSome=true/\(Av Cf o).isSome=true/\(Av Bu o).isSome=true) ↔ o.map (·.1)= [Aw,Cf,Bu]:=by
 rw[<-P9 a Al9,Fu,Fu,Fu];simp
theorem Ane {o:List (ByteArray×Val)} (a:Dg o):(2=o.length/\(Av Aw o).isSome=true/\(Av Cf o).isSome=true) ↔ o.map (·.1)= [Aw,Cf]:=by
 rw[<-P9 a Al8,Fu,Fu];simp
def Ka (s:ByteArray):Option (Int×Bool×Bool):=if s=G6 then some (1,true,true)else if s=Ic then some (2,true,false)else if s=Du then some (3,false,false)else none
def Ed (v:Val):Int×POp:=
 if Bo v≠6 then(9,Dj)else
 match Av Cf (Bx v)with
 |none=>(10,Dj)
 |some nm=>if Bo nm≠4 then(9,Dj)else
  match Ka (Ea nm)with
  |none=>(12,Dj)
  |some (k,fk,fv)=>
   if(Av Aw (Bx v)).isSome≠fk\/(Av Bu (Bx v)).isSome≠fv\/(Bx v).length≠1+(if fk then 1 else 0)+(if fv then 1 else 0)then(10,Dj)
   else if fk=true/\Bo ((Av Aw (Bx v)).getD Ls)≠4 then(9,Dj)
   else(0,⟨k,Ea ((Av Aw (Bx v)).getD Ls),(Av Bu (Bx v)).getD Ls⟩)
theorem Agn:(G6=Du)=False:=eq_false (by decide)
theorem Afj:(Ic=Du)=False:=eq_false (by decide)
theorem Wi {v:Val} {d:Int} (B:A0 v d=0):Ed v=Ch v:=by
 have s:Dg (Bx v):=by
  obtain⟨k,b,n,t,l,o⟩:=v;exact(Mw (Fm B).2.2.2.2).1
 unfold Ed Ch;by_cases p:Bo v≠6
 . rw[if_pos p,if_pos p]
 rw[if_neg p,if_neg p];generalize Bx v=o at s
 cases hnm:Av Cf o with
 |none=>rfl
 |some nm=>
  simp only;by_cases m:Bo nm≠4
  . rw[if_pos m,if_pos m]
  rw[if_neg m,if_neg m];have j:(Av Cf o).isSome=true:=by rw[hnm];rfl
  unfold Ka;by_cases A:Ea nm=G6
  . simp only[A,if_true,Agn,if_false];by_cases e:o.map (·.1)= [Aw,Cf,Bu]
    . obtain⟨x,z,y,rfl⟩:=Alt e;have g:Av Aw [(Aw,x),(Cf,z),(Bu,y)]=some x:=by kernel_rfl
      have h:Av Bu [(Aw,x),(Cf,z),(Bu,y)]=some y:=by kernel_rfl
      rw[g,h];simp
    . have u:(Av Aw o).isSome≠true\/(Av Bu o).isSome≠true\/o.length≠1+1+1:=by
       refine Classical.byContradiction fun f=>e ((Anf s).1 ?_);simp only[not_or,Classical.not_not]at f;exact⟨by omega,f.1,j,f.2.1⟩
      rw[if_pos u]
      split
      . rename_i a x b z c y;rw[if_neg];rintro⟨rfl,rfl,rfl⟩;exact e rfl
      . rfl
  . simp only[A,if_false];by_cases w:Ea nm=Ic
    . simp only[w,if_true,Afj,if_false];by_cases e:o.map (·.1)= [Aw,Cf]
      . obtain⟨x,z,rfl⟩:=Als e;have g:Av Aw [(Aw,x),(Cf,z)]=some x:=by kernel_rfl
        have h:Av Bu [(Aw,x),(Cf,z)]=none:=by kernel_rfl
        rw[g,h];simp
      . have u:(Av Aw o).isSome≠true\/(Av Bu o).isSome≠false\/o.length≠1+1+0:=by
         refine Classical.byContradiction fun f=>e ((Ane s).1 ?_);simp only[not_or,Classical.not_not]at f;exact⟨by omega,f.1,j⟩
        rw[if_pos (by simpa using u)]
        split
        . rename_i a x b z;rw[if_neg];rintro⟨rfl,rfl⟩;exact e rfl
        . rfl
    . simp only[w,if_false];by_cases i:Ea nm=Du
      . simp only[i,if_true];by_cases r:o.length=1
        . rw[if_pos r];obtain⟨q,rfl⟩:=List.length_eq_one_iff.1 r;have C:=List.mem_singleton.1 (Ia hnm);subst C;have g:Av Aw [(Cf,nm)]=none:=by kernel_rfl
          have h:Av Bu [(Cf,nm)]=none:=by kernel_rfl
          rw[g,h];simp[Ls,Ea]
        . rw[if_neg r,if_pos (Or.inr (Or.inr (by simpa using r)))]
      . simp only[i,if_false]
end Go.Proofs.YtjgfchcldhmjcaaGreatDoor
namespace Go.Proofs.YtjgfchcldhmjcaaGreatDoor
open Go Go.RowKit
structure RdI (w0 w:World) (R g:Nat) (s:ByteArray) (k:Nat):Prop where
 below:Below w0.heap.size w0 w
 ge:w0.heap.size<=R
 rd:Vj w R g s k
 map:Co (Value.int .u8) w g (KV R)
theorem RdI.ne {w0 w:World} {R g k:Nat} {s:ByteArray} (h:RdI w0 w R g s k):g≠R:=by
 rintro rfl;have b:=h.rd;have a:=h.map;unfold Vj Ap at b;unfold Co at a;rw[b]at a;simp at a
theorem RdI.to {w0 w w':World} {R g k a:Nat} {s:ByteArray} (h:RdI w0 w R g s k) (t:Bj R g s a w w'):RdI w0 w' R g s a:=
 ⟨h.below.grown t.1 h.below.size fun r e=>by have:=Option.some.inj e;have:=h.ge;omega,h.ge,t.2,h.map.keep (t.1.block g h.map.lt (by intro e;exact h.ne (Option.some.inj e)))⟩
theorem RdI.later {w0 w w':World} {R g k:Nat} {s:ByteArray} (h:RdI w0 w R g s k) (t:Below w.heap.size w w'):RdI w0 w' R g s k:=
 ⟨h.below.trans (t.mono h.below.size),h.ge,Ap.below h.rd t (Ap.lt h.rd),h.map.below t h.map.lt⟩
def Akh (w0:World) (R g:Nat) (s:ByteArray) (f:Nat):Prop:= ∀(w:World) (k:Nat) (d:Int),RdI w0 w R g s k->k<=s.size->4*(s.size - k)+1<=f->0<=d->d<=65->
    Calls Tryz.prog 81 #[.pointer (some ⟨R,0,none⟩),.int .i64 d] w (Gu R g s w (Bb f s.data.toList k d))
theorem Bj.undrew {w w1:World} {R g k:Nat} {s:ByteArray} (h:Bj R g s k w.drew w1):Bj R g s k w w1:=⟨⟨h.1.os,h.1.tape,h.1.output,h.1.size,h.1.block⟩,h.2⟩
theorem Ii {w w1:World} {R:Nat} (f:R<w.heap.size) (h:w.grownBy w1 (some R)): ∃b:World,b.heap.size=w.heap.size/\(∀i,i≠R->b.heap[i]? =w.heap[i]?)/\Below b.heap.size b w1:=by
 have c:R<w1.heap.size:=by have:=h.size;omega
 refine⟨{w with heap:=w.heap.setIfInBounds R w1.heap[R]},by simp,fun i a=> ?_, ?_⟩
 . simp only[Array.getElem?_setIfInBounds];rw[if_neg (fun e=>a e.symm)]
 . refine⟨h.os,h.tape,h.output,by simpa using h.size,fun i a=> ?_⟩;simp only[Array.size_setIfInBounds]at a;simp only[Array.getElem?_setIfInBounds];by_cases e:R=i
   . subst e;rw[if_pos rfl,if_pos a,Array.getElem?_eq_getElem c]
   . rw[if_neg e];exact h.block i a (fun d=>e (Option.some.inj d).symm)
theorem Bj.app {w f w6:World} {R g k b:Nat} {s:ByteArray} {e:TypeId} {o:Nat} {l:List D} {V:Value} {wr:World} (h:Bj R g s k w f) (a:f.grownBy w6 V.ownBlock) (n:C3 b e o wr l V) (p:w.heap.size<=b) (j:R<w.heap.size):Bj R g s k w w6:=by
 have c: ∀i,i<w.heap.size->some i≠V.ownBlock:=fun i d e=>by have:=(n.base i e.symm).1;omega
 exact⟨⟨a.os.trans h.1.os,a.tape.trans h.1.tape,a.output.trans h.1.output,Nat.le_trans h.1.size a.size,fun i d m=>(a.block i (by have:=h.1.size;omega) (c i d)).trans (h.1.block i d m)⟩,Ap.grown h.2 a (c R j)⟩
theorem Bj.setN {w w1:World} {R g k:Nat} {s:ByteArray} (h:Bj R g s k w w1) (p:Addr) (a:w.heap.size<=p.block) (b:R<w.heap.size) (v:Value):Bj R g s k w (w1.setCell p v):=
 ⟨L4 h.1 p (.inr a) v,Ap.far h.2 (by omega) v⟩
theorem D5 (R g:Nat) (s:ByteArray) (k:Nat) (c:UInt8) (n:Int) (d:(c.toNat:Int)=n) {B:Bool} (w:World) (f:s.size<=1000000000) (b:k<=s.size) (h:Vj w R g s k) (a:decide (s.data.toList[Ak s.data.toList k]? =some c)=B):
 Calls Tryz.prog 201 #[.pointer (some ⟨R,0,none⟩),.int .u8 n] w fun e w'=>e=.returned (.bool B)/\Bj R g s (if B=true then Ak s.data.toList k+1 else Ak s.data.toList k) w w':=by
 subst d;exact Zi R g s k c w f b h a
structure RdL (w wr:World) (R g:Nat) (s:ByteArray) (j:Nat) (cs:Array Value):Prop where
 went:Bj R g s j w wr
 res:Ap wr w.heap.size 42 Al
 var:Ap wr (w.heap.size+1) 42 cs
theorem RdL.to_ {w wr w':World} {R g j a:Nat} {s:ByteArray} {cs:Array Value} (h:RdL w wr R g s j cs) (b:R<w.heap.size) (t:Bj R g s a wr w'):RdL w w' R g s a cs:=
 ⟨h.went.trans t,h.res.grown t.1 (by intro e;have:=Option.some.inj e;omega),h.var.grown t.1 (by intro e;have:=Option.some.inj e;omega)⟩
theorem RdL.leave {w wr:World} {R g j:Nat} {s:ByteArray} {cs:Array Value} (h:RdL w wr R g s j cs) (f:R<w.heap.size) (a a1 b c d e:Value):
 Ap (A4 wr w.heap.size 0 [a,a1,b,c,d,e]) w.heap.size 42 #[a,a1,b,c,d,e]/\Bj R g s j w (A4 wr w.heap.size 0 [a,a1,b,c,d,e]):=
 ⟨((((((h.res.set_ 0 a).set_ 1 a1).set_ 2 b).set_ 3 c).set_ 4 d).set_ 5 e),Bj.many (Nat.le_refl _) f _ 0 h.went⟩
theorem V1 {b:Nat} {w:World} {vs:List Val} {a:Option Addr} {n c:Nat} (h:A7 b w (.row 6 (dL vs)) [.slice a n c]):A7 b w (dV (R3 vs)) [.int .i64 5,.bool false,.int .i64 0,.string ⟨#[]⟩,.slice a n c,.slice none 0 0]:=fun d e f=>by
 simp only[R3,Fi,dV,Ag];exact Ah.six.2 ⟨[.slice a n c], [.slice none 0 0],rfl,rfl,rfl,rfl,rfl,h d e f,⟨none,0,rfl,by simp[dO], [],rfl,by simp[dO]⟩⟩
theorem Afz {b:Nat} {w:World} {o:List (ByteArray×Val)} {a:Option Addr} {n c:Nat} (h:A7 b w (.row 7 (dO o)) [.slice a n c]):A7 b w (dV (Oc o)) [.int .i64 6,.bool false,.int .i64 0,.string ⟨#[]⟩,.slice none 0 0,.slice a n c]:=fun d e f=>by
 simp only[Oc,Fi,dV,Ag];exact Ah.six.2 ⟨[.slice none 0 0], [.slice a n c],rfl,rfl,rfl,rfl,rfl,⟨none,0,rfl,by simp[dL], [],rfl,by simp[dL]⟩,h d e f⟩
abbrev Am6:TypeId:=283
theorem Qd:MKey Tryz.prog 9 Value.string:=Ra Tryz.underlying9
def Tk (acc:List (ByteArray×Val)):List (ByteArray×Value):=acc.map fun m=>(m.1,Value.agg #[])
theorem Af2 (a:ByteArray) (m:ByteArray×Val) (r:List (ByteArray×Val)):Gf a (m::r)=(decide (m.1=a)||Gf a r):=rfl
theorem S9 (a:ByteArray): ∀acc:List (ByteArray×Val),Dw a (Tk acc)=if Gf a acc=true then some (.agg #[])else none
 | []=>rfl
 |m::r=>by
  have b:=S9 a r;show(if a=m.1 then some (Value.agg #[])else Dw a (Tk r))=_;rw[Af2];by_cases h:a=m.1
  . rw[if_pos h,decide_eq_true h.symm,Bool.true_or,if_pos rfl]
  . rw[if_neg h,b,decide_eq_false (fun e=>h e.symm),Bool.false_or]
def Ahh (R g G:Nat) (s:ByteArray) (acc:List (ByteArray×Val)) (w:World) (r:Rd (List UInt8)) (p:Nat) (e:Ending) (w':World):Prop:=match r with
 | .bad c q=>e=La c q/\w.grownBy w' (some R)
 | .ok k q=>if Gf ⟨k.toArray⟩ acc=true then e=La 8 p/\w.grownBy w' (some R)
   else e=.returned (.string ⟨k.toArray⟩)/\ ∃w1,Bj R g s q w w1/\w1.grownBy w' (some G)/\Co Value.string w' G (Tk acc++ [(⟨k.toArray⟩,.agg #[])])
theorem Co.grown {b:Type} {f:b->Value} {w w':World} {g:Nat} {a:List (b×Value)} {r:Option Nat} (h:Co f w g a) (t:w.grownBy w' r) (c:some g≠r):Co f w' g a:=h.keep (t.block g h.lt c)
theorem Wz (w:World):(zeroValue 359).run Tryz.prog w=.ok (.agg #[]) w:=by kernel_rfl
theorem Aa1 (R g G:Nat) (s:ByteArray) (acc:List (ByteArray×Val)) (k:Nat) (w:World) (u: ∀W,w.grownBy W (some R)->Cj W) (J:s.size<=1000000000) (Q:k<=s.size) (h:Vj w R g s k) (t:Co Value.string w G (Tk acc)) (U:G≠R):
 Calls Tryz.prog 202 #[.pointer (some ⟨R,0,none⟩),.map (some G)] w (Ahh R g G s acc w (Cs s.data.toList (Ak s.data.toList k)) (Ak s.data.toList k)):=by
 have o:=Gj R g s k w J Q h;have I:=Bq Q;generalize Ak s.data.toList k=p at o I ⊢;have l:some G≠some R:=fun e=>U (Option.some.inj e)
 cases hr:Cs s.data.toList p with
 |bad c q=>
  obtain⟨x,y,F,z⟩:=hid4 o u t hr;clear o u t hr;clear h;go_enter Tryz.func202,Tryz.ntmps202;go_wp2_with (fail);(with_reducible refine(x.out).mono ?_);rintro e w1 ⟨rfl,a⟩;obtain⟨c0,c1,_,O,P⟩:=a.2.cells;have i:=Ij R g s p w1 (y.out w1 a.1) J I a.2;rw[z.out]at i;obtain⟨m,v⟩:=hid2 a i;clear a i;go_wp2_with (fail);(with_reducible refine(v.out).mono ?_);rintro e S ⟨rfl,j⟩;exact⟨rfl,rfl,B2 m.out.1 j⟩
 |ok kk q=>
  unfold Ahh;dsimp only;obtain⟨H,f⟩: ∃K:ByteArray,(⟨kk.toArray⟩:ByteArray)=K:=⟨_,rfl⟩;rw[f];have r:=S9 H acc
  cases hh:Gf H acc with
  |true=>
   rw[hh,if_pos rfl]at r;simp only[if_true];obtain⟨x,y,F,z,E,n⟩:=hid6 o u t hr r f;clear o u t hr r f;clear h;go_enter Tryz.func202,Tryz.ntmps202;go_wp2_with (fail);(with_reducible refine(x.out).mono ?_);rintro e w1 ⟨rfl,a⟩;obtain⟨c0,c1,_,O,P⟩:=a.2.cells;have i:=Ij R g s p w1 (y.out w1 a.1) J I a.2;rw[z.out]at i;obtain⟨m,v⟩:=hid2 a i;clear a i;go_wp2_with (fail);(with_reducible refine(v.out).mono ?_);rintro e S ⟨A,j⟩;rw[n.out]at A;subst A;have d:=(F.out.grown m.out.1 l).grown j.1 l;have b:=Jp Qd Tryz.underlying283 d H Wz true;rw[E.out]at b;simp only[Option.getD_some,Option.isSome_some,if_true]at b;have L:=qz (B2 m.out.1 j.1);have T:=qz d;clear d;clear j;go_wp2_with (fail);(with_reducible refine(Cc _ _ _ _).mono ?_);rintro e V ⟨rfl,rfl⟩;exact⟨rfl,rfl,Ig L.out _⟩
  |false=>
   rw[hh,if_neg (by decide)]at r;simp only[Bool.false_eq_true,if_false];obtain⟨x,y,F,z,E,n⟩:=hid6 o u t hr r f;clear o u t hr r f;clear h;go_enter Tryz.func202,Tryz.ntmps202;go_wp2_with (fail);(with_reducible refine(x.out).mono ?_);rintro e w1 ⟨rfl,a⟩;obtain⟨c0,c1,_,O,P⟩:=a.2.cells;have i:=Ij R g s p w1 (y.out w1 a.1) J I a.2;rw[z.out]at i;obtain⟨m,v⟩:=hid2 a i;clear a i;go_wp2_with (fail);(with_reducible refine(v.out).mono ?_);rintro e S ⟨A,j⟩;rw[n.out]at A;subst A;have d:=(F.out.grown m.out.1 l).grown j.1 l;have b:=Jp Qd Tryz.underlying283 d H Wz true;rw[E.out]at b;simp only[Option.getD_none,Option.isSome_none,if_true]at b;obtain⟨w4,N,C,D,_⟩:=Mg Qd Tryz.underlying283 (d.alloc (.cells #[] 359)) E.out (.agg #[]);have B:=(m.out.trans j).alloc (.cells #[] 359);have M:=qz (And.intro B (And.intro D C));clear j d C D B;go_wp2;go_ret;exact⟨rfl,_,M.out.1,M.out.2.1,M.out.2.2⟩
theorem Qt: ∀a b:List UInt8,Lib.compareBytes a b<0 ↔ Op.bytesLess a b=true
 | [], []=>by decide
 | [],_::_=>by simp[Lib.compareBytes,Op.bytesLess]
 |_::_, []=>by simp[Lib.compareBytes,Op.bytesLess]
 |a::x,b::y=>by
  have i:=Qt x y;have f:Lib.compareBytes (a::x) (b::y)=if a<b then -1 else if b<a then 1 else Lib.compareBytes x y:=rfl;have g:Op.bytesLess (a::x) (b::y)=(decide (a<b)||(a==b&&Op.bytesLess x y)):=rfl;rw[f,g];by_cases h:a<b
  . rw[if_pos h];simp[h]
  . rw[if_neg h];by_cases c:b<a
    . rw[if_pos c];have e:(a==b)=false:=by rw[beq_eq_false_iff_ne];rintro rfl;exact absurd c h
      simp[h,e]
    . rw[if_neg c,i];have d:a=b:=UInt8.toNat_inj.1 (by rw[UInt8.lt_iff_toNat_lt]at h c;omega);subst d;simp[h]
theorem Ako (a b:List UInt8):decide (Lib.compareBytes a b<0)=Op.bytesLess a b:=by
 rw[Bool.eq_iff_iff,decide_eq_true_iff];exact Qt a b
structure MC where
 key:ByteArray
 val:Val
 cs:List Value
 len:cs.length=6
 one: ∀v ∈ cs,v.oneCell'=true
instance:Inhabited MC:=⟨⟨Fi,L7, [.int .i64 0,.int .i64 0,.int .i64 0,.int .i64 0,.int .i64 0,.int .i64 0],rfl,by simp[Value.oneCell']⟩⟩
def MC.enc (x:MC):List Value:=.string x.key::x.cs
def MC.pair (x:MC):ByteArray×Val:=(x.key,x.val)
def cfM (x y:MC):Int:=Lib.compareBytes x.key.data.toList y.key.data.toList
theorem Ak2 (x y:MC):ltOf cfM x y=Er x.key y.key:=by
 unfold ltOf cfM Er;rw[Ako,Lib.toList_data,Lib.toList_data]
theorem Anu:Sort.SWO (ltOf cfM) where
 irrefl x:=by rw[Ak2];exact Ds _
 trans x y z:=by simp only[Ak2];exact Dq
 ntrans x y z:=by
  simp only[Ak2];intro b a
  cases h3:Er x.key z.key with
  |false=>rfl
  |true=>
   exfalso
   rcases Kb y.key x.key with h|h|h
   . have:=Dq h h3;rw[a]at this;cases this
   . rw[<-h]at h3;rw[a]at h3;cases h3
   . rw[b]at h;cases h
theorem Mr (x:MC):x.enc.length=7:=by simp[MC.enc,x.len]
theorem Afr (x:MC): ∀v ∈ x.enc,v.oneCell'=true:=by
 intro v a;rcases List.mem_cons.1 a with rfl|a
 . rfl
 . exact x.one v a
theorem Abg {l:List Value} (h:l.length=6): ∃a b c d e f,l= [a,b,c,d,e,f]:=by
 match l,h with
 | [a,b,c,d,e,f],_=>exact⟨a,b,c,d,e,f,rfl⟩
theorem Amc (x y:MC) (W:World):Calls Tryz.prog 204 #[.agg x.enc.toArray,.agg y.enc.toArray] W fun e w'=>e=.returned (.int .i64 (cfM x y))/\ ∃q os,w'=Sort.grow (W.drewN q) os:=by
 obtain⟨d,N,z,v,a⟩:=x;obtain⟨f,O,A,w,b⟩:=y;obtain⟨h,a1,i,j,k,l,rfl⟩:=Abg v;obtain⟨m,n,o,p,s,t,rfl⟩:=Abg w;have c:=fun W=>Tryz.strings_Compare d f W;have g:=qz Sort.alloc_eq_grow;simp only[MC.enc,cfM];generalize Lib.compareBytes d.data.toList f.data.toList=r at c ⊢;have H:=a h (by simp);have I:=a a1 (by simp);have J:=a i (by simp);have K:=a j (by simp);have L:=a k (by simp);have M:=a l (by simp);have B:=b m (by simp);have C:=b n (by simp);have D:=b o (by simp);have E:=b p (by simp);have F:=b s (by simp);have G:=b t (by simp);have u:=qz c;clear c;go_enter Tryz.func204,Tryz.ntmps204;go_wp2_with (fail);(with_reducible refine(u.out _).mono ?_);rintro e P ⟨rfl,rfl⟩;go_wp2;go_ret;refine⟨rfl,0, #[.cells #[.string d,h,a1,i,j,k,l] 111,.cells #[.string f,m,n,o,p,s,t] 111], ?_⟩;rw[g.out,g.out,Sort.grow_grow];rfl
theorem Aeo (k:Nat) (a:0<k): ∀(l:List MC) (t:Nat),(∀x ∈ l,x.enc.length=k)->(l.flatMap MC.enc)[t]? =(l[t / k]?).bind fun x=>x.enc[t % k]?
 | [],t,_=>by simp
 |x::r,t,h=>by
  have e:=h x (by simp);rw[List.flatMap_cons];by_cases b:t<k
  . rw[List.getElem?_append_left (by omega),Nat.div_eq_of_lt b,Nat.mod_eq_of_lt b];simp
  . rw[List.getElem?_append_right (by omega),e,Aeo k a r (t - k) (fun y f=>h y (by simp[f]))];have c:t / k=(t - k) / k+1:=by rw[Nat.div_eq_sub_div a (by omega)]
    have d:t % k=(t - k) % k:=Nat.mod_eq_sub_mod (by omega);rw[c,d,List.getElem?_cons_succ]
theorem N6: ∀l:List MC,(l.flatMap MC.enc).length=l.length*7
 | []=>rfl
 |x::r=>by rw[List.flatMap_cons,List.length_append,N6 r,Mr,List.length_cons];omega
theorem Zv (l:List MC):Sort.flatK MC.enc 7 l.toArray=(l.flatMap MC.enc).toArray:=by
 apply Array.ext
 . rw[Sort.size_flatK,List.size_toArray,List.size_toArray,N6]
 . intro t b d;rw[Sort.size_flatK,List.size_toArray]at b;have c:=Sort.get_flatK MC.enc 7 l.toArray t (by simpa using b);have a:=Aeo 7 (by decide) l t (fun x _=>Mr x);have e:t / 7<l.length:=by omega
   have f:t % 7<(l[t / 7]).enc.length:=by rw[Mr];omega
   rw[List.getElem?_eq_getElem e,Option.bind_some,List.getElem?_eq_getElem f]at a;have g:(l.flatMap MC.enc)[t]'(by simpa using d)=(l[t / 7]).enc[t % 7]:=by
    rw[List.getElem?_eq_getElem (by simpa using d)]at a;exact Option.some.inj a
   rw[getElem!_pos _ t (by rw[Sort.size_flatK];simpa using b)]at c;rw[c,tk1,g];have h:(l.toArray)[t / 7]! =l[t / 7]:=by rw[getElem!_pos _ _ (by simpa using e)];simp
   rw[h,getElem!_pos (l[t / 7]).enc (t % 7) f]
theorem Zf {F:World->Prop} {B:Nat}: ∀(acc:List (ByteArray×Val)) (ns:List Value),(∃w,F w)->(∀a,F a->Ah a B (dO acc) ns)->
 ∃d:List MC,d.map MC.pair=acc/\ns=d.flatMap MC.enc/\ ∀a,F a-> ∀x ∈ d,Ag a B (dP x.pair) x.enc
 | [],ns,⟨w,hw⟩,h=>⟨[],rfl,h w hw,by simp⟩
 |m::r,ns,⟨w,hw⟩,h=>by
  have h0:=h w hw;simp only[dO,Ah]at h0;obtain⟨c1,c2,rfl,l,D⟩:=h0;have i:=l.len;rw[D6]at i;have c:=l;obtain⟨k,v⟩:=m;simp only[dP,Ag,Ah]at c;obtain⟨t,y,rfl,⟨rfl,_⟩,f,z,rfl,E,rfl⟩:=c;rw[List.append_nil]at*
  have p:f.length=6:=by have:=i.1;simp at this;omega
  have key: ∀a,F a->Ag a B (dP (k,v)) (.string k::f)/\Ah a B (dO r) c2:=by
   intro a b;have n:=h a b;simp only[dO,Ah]at n;obtain⟨A,C,e,j,q⟩:=n;have o:=j.len.1;rw[D6]at o;obtain⟨rfl,rfl⟩:=List.append_inj e (by rw[o];simpa using p);exact⟨j,q⟩
  obtain⟨d,d1,d2,d3⟩:=Zf r c2 ⟨w,hw⟩ (fun a b=>(key a b).2);refine⟨⟨k,v,f,p,fun u s=>i.2 u (by simp[s])⟩::d,by simp[MC.pair,d1],by simp[MC.enc,d2],fun a b x g=> ?_⟩;rcases List.mem_cons.1 g with rfl|g
  . exact(key a b).1
  . exact d3 a b x g
theorem L5 {w:World} {B:Nat}: ∀(d:List MC),(∀x ∈ d,Ag w B (dP x.pair) x.enc)->Ah w B (dO (d.map MC.pair)) (d.flatMap MC.enc)
 | [],_=>rfl
 |x::r,h=>by
  simp only[List.map_cons,dO,List.flatMap_cons,Ah];exact⟨x.enc,_,rfl,h x (by simp),L5 r (fun y a=>h y (by simp[a]))⟩
theorem Yn {d a:List MC} (k:a.Perm d) (g:((d.map MC.pair).map (·.1)).Nodup) (l: ∀i j,(b:i<j)->(h:j<a.length)->Er (a[j]).key (a[i]'(by omega)).key=false):a.map MC.pair=Gr (d.map MC.pair):=by
 obtain⟨_,m,n⟩:=Og g;refine Nv ?_ m ((k.map MC.pair).trans n.symm);have c:((a.map MC.pair).map (·.1)).Nodup:=(((k.map MC.pair).map (·.1)).nodup_iff).2 g;unfold Dg;rw[List.pairwise_iff_getElem];intro i j f e b;simp only[List.length_map]at f e;simp only[List.getElem_map,MC.pair];rcases Kb (a[i]).key (a[j]).key with h|h|h
 . exact h
 . rw[List.map_map,List.nodup_iff_pairwise_ne,List.pairwise_iff_getElem]at c;exact absurd (by rw[List.getElem_map,List.getElem_map];exact h) (c i j (by simpa using f) (by simpa using e) b)
 . rw[l i j b e]at h;cases h
theorem Aju {w:World} {g n:Nat} {os:Array Obj} {a F:Array Value} {e:TypeId} {fr:Nat×Nat} (b:w.heap[g]? =some (.cells a e fr)):
 (Sort.grow (Sort.putRow id (Sort.ahead w n) g 0 F) os).heap[g]? =some (.cells (Sort.putCells id 0 F a) e fr):=by
 have c:g<w.heap.size:=(Array.getElem?_eq_some_iff.1 b).1;rw[Sort.heap_grow_old _ _ (by simpa using c)];simp[Sort.putRow,Sort.mapBlock,Sort.ahead,Array.getElem?_modify,b,Sort.onCells]
theorem Aax {w:World} {g n:Nat} {os:Array Obj} (F:Array Value):w.grownBy (Sort.grow (Sort.putRow id (Sort.ahead w n) g 0 F) os) (some g):=by
 refine⟨rfl,rfl,rfl,by simp,fun k b a=> ?_⟩;rw[Sort.heap_grow_old _ _ (by simpa using b)];have:g≠k:=fun e=>a (by rw[e]);simp[Sort.putRow,Sort.mapBlock,Sort.ahead,Array.getElem?_modify,this]
theorem Vd {b:Nat} {w:World} {acc:List (ByteArray×Val)} {V:Value} (I:C3 b 111 7 w (dO acc) V) (hb:b<=w.heap.size) (Y:(acc.map (·.1)).Nodup) (q:acc.length<=1000000000):
 Calls Tryz.prog 203 #[V,.func (.func 204) #[] #[]] w fun e w'=>e=.returned (.tuple #[])/\w.grownBy w' V.ownBlock/\A7 b w' (.row 7 (dO (Gr acc))) [V]:=by
 have aa:=I;obtain⟨ns,G,h2,P⟩:=I;rcases G.2 with⟨rfl,h0⟩|⟨g,cap,cur,rfl,hbg,hg,hnc,_,hsz,htk⟩
 . have X:acc= []:=by rw[Cb]at h0;exact List.eq_nil_of_length_eq_zero h0
   subst X;refine(AnyF.slices_SortFunc_none Tryz.sortFunc none 0 (.func (.func 204) #[] #[]) w).mono ?_;rintro e w' ⟨rfl,rfl⟩;exact⟨rfl,World.grownBy.refl _ _,fun _ _ _=>⟨none,0,rfl,by simp[Gr,Bg,dO], [],rfl,by simp[Gr,Bg,dO]⟩⟩
 . have l:=(Array.getElem?_eq_some_iff.1 hg).1;obtain⟨d,rfl,rfl,d3⟩:=Zf (F:=fun f=>w.heap.size<=f.heap.size/\ ∀p:Addr,b<=p.block->p.block<w.heap.size->(Value.slice (some ⟨g,0,none⟩) (dO acc).length cap).ownBlock≠some p.block->f.cell? p=w.cell? p) acc ns ⟨w,Nat.le_refl _,fun _ _ _ _=>rfl⟩ (fun f K=>P f K.1 K.2);have o:(dO (d.map MC.pair)).length=d.toArray.size:=by rw[Cb];simp
   have S:Sort.HoldsK MC.enc 7 w g 0 d.toArray:=by
    unfold Sort.HoldsK;rw[Zv];intro j k;have z:j<(d.flatMap MC.enc).length:=by simpa using k
    have H:=G.cells (g:=g) rfl j ((d.flatMap MC.enc)[j]) (List.getElem?_eq_getElem z);rw[De]at H;rw[getElem!_pos _ j k];exact⟨H,(show Ap w g 111 cur from hg).frozen _⟩
   have O: ∀args w,(callFunc 204 args).run Tryz.prog w=.ok (.enter 204 args) w:=enters_of Tryz.func204 (by kernel_rfl) rfl;have Q:CmpLays Tryz.prog 204 #[] MC.enc 7 cfM g 0 d.toArray.size w:=fun m os dk _ x y=>Amc x y _;have T:=AnyQ.slices_SortFunc Tryz.sortFunc 7 (fun w=>by kernel_rfl) (fun w=>by kernel_rfl) MC.enc Mr Afr cfM Anu 204 #[] g 0 cap d.toArray w O Q S l (by simp at q ⊢;omega);rw[o];refine T.mono ?_;rintro e w' ⟨rfl,h,n,os,Z,D,rfl⟩;obtain⟨t,_,M⟩:=Z;rw[Array.extract_size,<-t,Array.extract_size]at M;have r:h.toList.Perm d:=by simpa using M
   have s:=Yn r Y (fun i j v k=>by
    have:=D i j (Nat.zero_le _) v (by rw[<-t];simpa using k);rw[Ak2,getElem!_pos h j (by simpa using k),getElem!_pos h i (by have:j<h.size:=(by simpa using k);omega)]at this;simpa using this)
   have R:Sort.flatK MC.enc 7 h=(h.toList.flatMap MC.enc).toArray:=by rw[<-Zv]
   have c:w.grownBy (sortWorldK MC.enc 7 w g 0 n h os) (some g):=Aax _;refine⟨rfl,c,fun f k1 L=> ?_⟩;have C:(Gr (d.map MC.pair)).length=d.toArray.size:=by rw[<-s,List.length_map,Array.length_toList,t]
   refine⟨_,cap,by rw[Cb,C],L0 _,h.toList.flatMap MC.enc, ?_,.inr ⟨g,0,rfl,Nat.lt_of_lt_of_le l c.size,fun j u J=> ?_⟩⟩
   . rw[<-s];refine L5 _ fun x hx=> ?_;have E:x ∈ d:=r.mem_iff.1 hx;refine Ag.more (d3 f ⟨Nat.le_trans c.size k1,fun p q1 N q3=> ?_⟩ x E) c.size;exact(L p q1 (Nat.lt_of_lt_of_le N c.size)).trans (World.cell?_of_block (c.block p.block N (fun e=>q3 e.symm)))
   . rw[Nat.zero_add];have k:j<(h.toList.flatMap MC.enc).length:=(List.getElem?_eq_some_iff.1 J).1;have B:j<cur.size:=by
      rw[N6,Array.length_toList,t]at k;rw[hsz];have:d.toArray.size<=cap:=by rw[<-o];exact hnc
      have:=Nat.mul_le_mul_right 7 this;omega
     refine(L ⟨g,j,none⟩ hbg (Nat.lt_of_lt_of_le l c.size)).trans ?_;have W:=Aju (n:=n) (os:=os) (F:=Sort.flatK MC.enc 7 h) hg;have U:=(show Ap (Sort.grow (Sort.putRow id (Sort.ahead w n) g 0 (Sort.flatK MC.enc 7 h)) os) g 111 _ from W).cell j;refine U.trans ?_;rw[R];have A:j<(h.toList.map fun a=>a.enc.length).sum:=by rw[<-List.length_flatMap];exact k
     simp[Sort.putCells,B,A];exact(List.getElem?_eq_some_iff.1 J).2
def Ru (acc:Nat) (l:List UInt8):Nat:=l.foldl (fun a c=>a*10+(c.toNat - 48)) acc
theorem Sc: ∀(l:List UInt8) (a:Nat),a<=Ru a l
 | [],a=>Nat.le_refl a
 |c::r,a=>by
  have:=Sc r (a*10+(c.toNat - 48));show a<=Ru (a*10+(c.toNat - 48)) r;omega
theorem Pr: ∀(l:List UInt8) (acc:Nat),(∀c ∈ l,Ck c=true)->Lib.parseUintM 18446744073709551615 acc l=if 18446744073709551615<Ru acc l/\l≠ []then .range else .ok (Ru acc l)
 | [],acc,_=>by simp[Lib.parseUintM,Ru]
 |c::r,acc,h=>by
  have b:=h c (by simp);unfold Ck at b;rw[decide_eq_true_iff]at b;have j:=Pr r (acc*10+(c.toNat - 48)) (fun x i=>h x (by simp[i]));have e:Ru acc (c::r)=Ru (acc*10+(c.toNat - 48)) r:=rfl;have k:=Sc r (acc*10+(c.toNat - 48));unfold Lib.parseUintM;rw[if_pos b,e];by_cases d:1844674407370955162<=acc
  . rw[if_pos d,if_pos ⟨by omega,by simp⟩]
  . rw[if_neg d];by_cases f:18446744073709551615<acc*10+(c.toNat - 48)
    . rw[if_pos f,if_pos ⟨by omega,by simp⟩]
    . rw[if_neg f,j];by_cases g:r= []
      . subst g;rw[if_neg (by simp)];have:Ru (acc*10+(c.toNat - 48)) []=acc*10+(c.toNat - 48):=rfl;rw[if_neg (by rw[this];omega)]
      . by_cases a:18446744073709551615<Ru (acc*10+(c.toNat - 48)) r
        . rw[if_pos ⟨a,g⟩,if_pos ⟨a,by simp⟩]
        . rw[if_neg (fun q=>a q.1),if_neg (fun q=>a q.1)]
theorem Pq {l:List UInt8} (h: ∀c ∈ l,Ck c=true) (b:l≠ []):Lib.parseUintB 64 l=if 18446744073709551615<Ff l then .range else .ok (Ff l):=by
 unfold Lib.parseUintB;rw[if_neg b];have:=Pr l 0 h;have e:Ru 0 l=Ff l:=rfl;rw[e]at this;show Lib.parseUintM 18446744073709551615 0 l=_;rw[this];by_cases a:18446744073709551615<Ff l
 . rw[if_pos ⟨a,b⟩,if_pos a]
 . rw[if_neg (fun q=>a q.1),if_neg a]
theorem Aiu {l:List UInt8} (h: ∀c ∈ l,Ck c=true) (e:l≠ []):Lib.parseIntB 64 l=if 9223372036854775807<Ff l then .range else .ok (Ff l:Int):=by
 obtain⟨c,r,rfl⟩: ∃c r,l=c::r:=by cases l with|nil=>exact absurd rfl e|cons c r=>exact⟨c,r,rfl⟩
 have d:=h c (by simp);unfold Ck at d;rw[decide_eq_true_iff]at d;unfold Lib.parseIntB;simp only;rw[if_neg (show ¬(c.toNat=43\/c.toNat=45)by omega),Pq h e];have f: ¬(c.toNat=45):=by omega
 by_cases a:18446744073709551615<Ff (c::r)
 . rw[if_pos a,if_pos (by omega)]
 . rw[if_neg a];by_cases b:9223372036854775807<Ff (c::r)
   . simp only[f,not_false_eq_true,true_and,false_and,if_false];rw[if_pos b,if_pos (by show 9223372036854775808<=_;omega)]
   . simp only[f,not_false_eq_true,true_and,false_and,if_false];rw[if_neg b,if_neg (by show ¬(9223372036854775808<=_);omega)]
theorem Ait {l:List UInt8} (h: ∀c ∈ l,Ck c=true) (e:l≠ []):Lib.parseIntB 64 (45::l)=if 9223372036854775808<Ff l then .range else .ok (-(Ff l:Int)):=by
 unfold Lib.parseIntB;simp only;rw[if_pos (by decide),Pq h e];by_cases a:18446744073709551615<Ff l
 . rw[if_pos a,if_pos (by omega)]
 . rw[if_neg a];have b:(45:UInt8).toNat=45:=by decide
   by_cases d:9223372036854775808<Ff l
   . simp only[b,not_true_eq_false,true_and,false_and,if_false];rw[if_pos d,if_pos (by show 9223372036854775808<_;omega)]
   . simp only[b,not_true_eq_false,true_and,false_and,if_false,if_true]
theorem Afp (s:List UInt8) (f:Nat): ∀c ∈ (s.drop f).take (B6 s f - f),Ck c=true:=by
 intro c d;obtain⟨i,a⟩:=List.mem_iff_getElem?.1 d;have b:i<B6 s f - f:=by
  by_cases h:i<B6 s f - f
  . exact h
  . rw[List.getElem?_take_eq_none (by omega)]at a;cases a
 rw[List.getElem?_take_of_lt b,List.getElem?_drop]at a;exact N1 s f (f+i) c (by omega) (by omega) a
theorem Acg {s:List UInt8} {f e:Nat} {x:UInt8} (b:s[f]? =some x) (i: ¬x=48) (g:f<B6 s f) (d:B6 s f=e):Ff ((s.drop f).take (e - f))≠0:=by
 subst d;have a:=N1 s f f x (Nat.le_refl _) g b;unfold Ck at a;rw[decide_eq_true_iff]at a;have c:x.toNat≠48:=fun q=>i (UInt8.toNat_inj.1 q);obtain⟨n,h⟩: ∃n,B6 s f - f=n+1:=⟨B6 s f - f - 1,by omega⟩;rw[h,Ep b,List.take_succ_cons];have j:=Sc ((s.drop (f+1)).take n) (0*10+(x.toNat - 48));have e:Ff (x::(s.drop (f+1)).take n)=Ru (0*10+(x.toNat - 48)) ((s.drop (f+1)).take n):=rfl;rw[e];omega
end Go.Proofs.YtjgfchcldhmjcaaGreatDoor
