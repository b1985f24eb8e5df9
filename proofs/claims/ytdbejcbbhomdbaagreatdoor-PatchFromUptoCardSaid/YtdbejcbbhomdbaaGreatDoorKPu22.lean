/- Parts: The tables and the two errors that the rows list: a world for the witnesses. No condition. -/
import Derived.Test.YtdbejcbbhomdbaaGreatDoorChecked
import Derived.Test.YtdbejcbbhomdbaaGreatDoorRows
import Derived.Lay
import Derived.Lib.LaidIn
import Derived.Lib.LaidU8T
import Derived.LaidSub
import Derived.Lib.ItoaNum
import Derived.Deep.DeepHandedRow
import Derived.ProofKit
import Derived.Test.YtdbejcbbhomdbaaGreatDoorKPu20
set_option maxHeartbeats 20000000
set_option maxRecDepth 100000
namespace Go.Proofs.YtdbejcbbhomdbaaGreatDoor
open Go.RowKit
abbrev Abz:ByteArray:=⟨#[97,114,103,115]⟩
abbrev Ab1:ByteArray:=⟨#[110,97,109,101]⟩
abbrev kBy:ByteArray:=⟨#[98,121]⟩
abbrev kIs:ByteArray:=⟨#[105,115]⟩
abbrev Ac0:ByteArray:=⟨#[119,97,115]⟩
abbrev Ab0:ByteArray:=⟨#[102,114,111,109]⟩
abbrev kTo:ByteArray:=⟨#[116,111]⟩
abbrev kDo:ByteArray:=⟨#[100,111]⟩
abbrev kIf:ByteArray:=⟨#[105,102]⟩
abbrev Ac7:ByteArray:=⟨#[112,117,116]⟩
abbrev Ac5:ByteArray:=⟨#[100,101,108]⟩
abbrev Ac6:ByteArray:=⟨#[105,110,99]⟩
abbrev Ac4:ByteArray:=⟨#[99,97,115]⟩
abbrev Ac3:ByteArray:=⟨#[97,112,112,101,110,100]⟩
abbrev Ab8:ByteArray:=⟨#[109,111,118,101]⟩
abbrev Ac8:ByteArray:=⟨#[115,101,113]⟩
def Ab9 (k:Int):ByteArray:=if k=1 then Ac7 else if k=2 then Ac5 else if k=3 then Ac6 else if k=4 then Ac4 else if k=5 then Ac3 else if k=6 then Ab8 else Ac8
def X6 (key:ByteArray) (had:Bool) (was:Val):List (ByteArray×Val):=(Dc,tv key)::(if had then [(Ac0,was)]else [])
mutual
def Ac2:Mut->Val
 | .mk k key dst n had was has v l=>ov [(Abz,ov (if k=1\/k=5 then [(Dc,tv key),(Gd,v)]else if k=2 then [(Dc,tv key)]else if k=3 then [(kBy,iv n),(Dc,tv key)]
    else if k=4 then(if has then [(kIs,v)]else [])++X6 key had was
    else if k=6 then [(Ab0,tv key),(kTo,tv dst)]
    else(kDo,lv (Aar l))::(if key.toList.isEmpty then []else [(kIf,ov (X6 key had was))]))),(Ab1,tv (Ab9 k))]
def Aar:List Mut->List Val
 | []=> []
 |m::r=>Ac2 m::Aar r
end
abbrev A6:Val:=.mk 0 false 0 ⟨#[]⟩ [] []
theorem Tm (w:World) (B:Nat):Ae w B A6 [.int .i64 0,.bool false,.int .i64 0,.string ⟨#[]⟩,.slice none 0 0,.slice none 0 0]:=by
 simp only[Ae];exact⟨none,0,none,0,rfl,by simp,by simp⟩
mutual
def Bt:Val->Val->Bool
 | .mk k b n t l o,.mk k' b' n' t' l' o'=>decide (k=k')&&(if k=2 then b==b' else if k=3 then decide (n=n')else if k=4 then decide (t=t')else if k=5 then Ib l l' else if k=6 then G1 o o' else true)
def Ib:List Val->List Val->Bool
 | [], []=>true
 | [],_::_=>false
 |_::_, []=>false
 |x::r,y::s=>Bt x y&&Ib r s
def G1:List (ByteArray×Val)->List (ByteArray×Val)->Bool
 | [], []=>true
 | [],_::_=>false
 |_::_, []=>false
 |p::r,q::s=>I5 p q&&G1 r s
def I5:ByteArray×Val->ByteArray×Val->Bool
 |(k,x),(k',y)=>decide (k=k')&&Bt x y
end
theorem Pd: ∀{l:List Val},(∀v ∈ l,Bt v v=true)->Ib l l=true
 | [],_=>by simp[Ib]
 |v::r,h=>by simp only[Ib,h v (by simp),Pd (l:=r) fun x hx=>h x (by simp[hx]),Bool.and_self]
theorem Pe: ∀{o:List (ByteArray×Val)},(∀m ∈ o,Bt m.2 m.2=true)->G1 o o=true
 | [],_=>by simp[G1]
 |(k,v)::r,h=>by
  have h1:Bt v v=true:=h (k,v) (by simp);simp only[G1,I5,h1,Pe (o:=r) fun x hx=>h x (by simp[hx]),Bool.and_self,decide_true]
theorem Pf: ∀v,Bt v v=true:=by
 refine Val.ind ?_;intro k b n t l o hl ho;simp only[Bt,Pd hl,Pe ho,decide_true,Bool.true_and,beq_self_eq_true]
 split
 . rfl
 split
 . rfl
 split
 . rfl
 split
 . rfl
 split<;>rfl
mutual
def Adb:Mut->Mut->Bool
 | .mk k key dst n had was has v l,.mk k' key' dst' n' had' was' has' v' l'=>decide (k=k')&&decide (key=key')&&decide (dst=dst')&&decide (n=n')&&(had==had')&&(has==has')&&Bt was was'&&Bt v v'&&Aas l l'
def Aas:List Mut->List Mut->Bool
 | [], []=>true
 | [],_::_=>false
 |_::_, []=>false
 |x::r,y::s=>Adb x y&&Aas r s
end
theorem Es: ∀{l l':List Val},Ib l l'=true ↔ l.length=l'.length/\ ∀(j:Nat) x y,l[j]? =some x->l'[j]? =some y->Bt x y=true
 | [], []=>by simp[Ib]
 | [],_::_=>by simp[Ib]
 |_::_, []=>by simp[Ib]
 |a::r,b::s=>by
  simp only[Ib,Bool.and_eq_true,Es (l:=r) (l':=s),List.length_cons,Nat.add_right_cancel_iff];constructor
  . rintro⟨h1,h2,h3⟩;refine⟨h2,fun j x y e1 e2=> ?_⟩
    cases j with
    |zero=>simp only[List.getElem?_cons_zero,Option.some.injEq]at e1 e2;rw[<-e1,<-e2];exact h1
    |succ j=>simp only[List.getElem?_cons_succ]at e1 e2;exact h3 j x y e1 e2
  . rintro⟨h2,h3⟩;exact⟨h3 0 a b rfl rfl,h2,fun j x y e1 e2=>h3 (j+1) x y (by simpa using e1) (by simpa using e2)⟩
theorem Ec: ∀{l l':List (ByteArray×Val)},G1 l l'=true ↔ l.length=l'.length/\ ∀(j:Nat) x y,l[j]? =some x->l'[j]? =some y->I5 x y=true
 | [], []=>by simp[G1]
 | [],_::_=>by simp[G1]
 |_::_, []=>by simp[G1]
 |a::r,b::s=>by
  simp only[G1,Bool.and_eq_true,Ec (l:=r) (l':=s),List.length_cons,Nat.add_right_cancel_iff];constructor
  . rintro⟨h1,h2,h3⟩;refine⟨h2,fun j x y e1 e2=> ?_⟩
    cases j with
    |zero=>simp only[List.getElem?_cons_zero,Option.some.injEq]at e1 e2;rw[<-e1,<-e2];exact h1
    |succ j=>simp only[List.getElem?_cons_succ]at e1 e2;exact h3 j x y e1 e2
  . rintro⟨h2,h3⟩;exact⟨h3 0 a b rfl rfl,h2,fun j x y e1 e2=>h3 (j+1) x y (by simpa using e1) (by simpa using e2)⟩
def Xa (a:Val):Prop:= ∀(b:Val) (cs cs':List Value) (w:World),Ae w w.heap.size a cs->Ae w w.heap.size b cs'->a.bulk<=100000000->b.bulk<=100000000->
    Calls Tryz.prog 64 #[.agg cs.toArray,.agg cs'.toArray] w (Ap (Bt a b=true) w)
theorem Zv (k:Int) (h2:k≠2) (h3:k≠3) (h4:k≠4) (h5:k≠5) (h6:k≠6) (b b':Bool) (n n':Int) (t t':ByteArray) (x y x' y':Value) (w:World) (p:Prop) (hp:p):
 Calls Tryz.prog 64 #[.agg #[.int .i64 k,.bool b,.int .i64 n,.string t,x,y],.agg #[.int .i64 k,.bool b',.int .i64 n',.string t',x',y']] w (Ap p w):=by
 have Hp:=qz hp;have e2:(k==2)=false:=by simpa using h2
 have e3:(k==3)=false:=by simpa using h3
 have e4:(k==4)=false:=by simpa using h4
 have e5:(k==5)=false:=by simpa using h5
 have e6:(k==6)=false:=by simpa using h6
 clear hp;go_enter Tryz.func64,Tryz.ntmps64;go_wp2;go_ret;exact Ap.of ⟨fun _=>Hp.out,fun _=>rfl⟩ (A8 _ _ _)
theorem No (a b:Int):Lib.compareInt a b=Ei a b:=by
 unfold Lib.compareInt Ei;rfl
theorem Ft: ∀a b:List UInt8,Lib.compareBytes a b=0 ↔ a=b
 | [], []=>by simp[Lib.compareBytes]
 | [],_::_=>by simp[Lib.compareBytes]
 |_::_, []=>by simp[Lib.compareBytes]
 |a::x,b::y=>by
  have e1:Lib.compareBytes (a::x) (b::y)=if a<b then -1 else if b<a then 1 else Lib.compareBytes x y:=rfl;rw[e1]
  split
  . rename_i h;simp only[List.cons.injEq];exact⟨fun e=>absurd e (by decide),fun e=>by rw[e.1]at h;exact absurd h (UInt8.lt_irrefl _)⟩
  . split
    . rename_i h;simp only[List.cons.injEq];exact⟨fun e=>absurd e (by decide),fun e=>by rw[e.1]at h;exact absurd h (UInt8.lt_irrefl _)⟩
    . rename_i h1 h2;rw[Ft x y,List.cons.injEq];have:a=b:=UInt8.le_antisymm (UInt8.not_lt.1 h2) (UInt8.not_lt.1 h1);simp[this]
theorem Nh (a b:ByteArray) (w:World):Calls Tryz.prog 154 #[.string a,.string b] w fun e w'=> ∃c:Int,e=.returned (.int .i64 c)/\(c=0 ↔ a=b)/\w'=w:=by
 refine(Tryz.strings_Compare a b w).mono ?_;rintro e w' ⟨rfl,rfl⟩;refine⟨_,rfl, ?_,rfl⟩;rw[Ft];exact⟨fun h=>ByteArray.ext (Array.ext' h),fun h=>by rw[h]⟩
theorem Mr (a b:Int) (w:World):Calls Tryz.prog 189 #[.int .i64 a,.int .i64 b] w fun e w'=>e=.returned (.int .i64 (Ei a b))/\w'=w:=by
 refine(Tryz.cmp_Compare_int a b w).mono ?_;rintro e w' ⟨rfl,rfl⟩;rw[No];exact⟨rfl,rfl⟩
theorem My (a:Int) (w:World):Calls Tryz.prog 186 #[.int .i64 a] w fun e w'=>e=.returned (.bool false)/\w'=w:=by
 go_enter Tryz.func186,Tryz.ntmps186;go_wp2;go_ret;exact⟨rfl,rfl⟩
theorem Mw (a:Int) (w:World):Calls Tryz.prog 187 #[.int .i64 a] w fun e w'=>e=.returned (.bool false)/\w'=w:=by
 go_enter Tryz.func187,Tryz.ntmps187;go_wp2;go_ret;exact⟨rfl,rfl⟩
theorem Tp (a b:Int) (w:World):Calls Tryz.prog 151 #[.int .i64 a,.int .i64 b] w fun e w'=>e=.returned (.int .i64 (Ei a b))/\w'=w:=by
 have HA:=qz (My a w);have HB:=qz (My b w);unfold Ei;by_cases h1:a<b
 . rw[if_pos h1];go_enter Tryz.func151,Tryz.ntmps151;go_wp2_with (go_at_call 186;first|(with_reducible refine(HA.out).mono ?_;rintro e w' ⟨rfl,rfl⟩)|(with_reducible refine(HB.out).mono ?_;rintro e w' ⟨rfl,rfl⟩));go_ret;exact⟨rfl,rfl⟩
 rw[if_neg h1];by_cases h2:b<a
 . rw[if_pos h2];go_enter Tryz.func151,Tryz.ntmps151;go_wp2_with (go_at_call 186;first|(with_reducible refine(HA.out).mono ?_;rintro e w' ⟨rfl,rfl⟩)|(with_reducible refine(HB.out).mono ?_;rintro e w' ⟨rfl,rfl⟩));go_ret;exact⟨rfl,rfl⟩
 . rw[if_neg h2];go_enter Tryz.func151,Tryz.ntmps151;go_wp2_with (go_at_call 186;first|(with_reducible refine(HA.out).mono ?_;rintro e w' ⟨rfl,rfl⟩)|(with_reducible refine(HB.out).mono ?_;rintro e w' ⟨rfl,rfl⟩));go_ret;exact⟨rfl,rfl⟩
theorem Mt (a b:Int) (w:World):Calls Tryz.prog 153 #[.int .i64 a,.int .i64 b] w fun e w'=>e=.returned (.int .i64 (Ei a b))/\w'=w:=by
 have HA:=qz (Mw a w);have HB:=qz (Mw b w);unfold Ei;by_cases h1:a<b
 . rw[if_pos h1];go_enter Tryz.func153,Tryz.ntmps153;go_wp2_with (go_at_call 187;first|(with_reducible refine(HA.out).mono ?_;rintro e w' ⟨rfl,rfl⟩)|(with_reducible refine(HB.out).mono ?_;rintro e w' ⟨rfl,rfl⟩));go_ret;exact⟨rfl,rfl⟩
 rw[if_neg h1];by_cases h2:b<a
 . rw[if_pos h2];go_enter Tryz.func153,Tryz.ntmps153;go_wp2_with (go_at_call 187;first|(with_reducible refine(HA.out).mono ?_;rintro e w' ⟨rfl,rfl⟩)|(with_reducible refine(HB.out).mono ?_;rintro e w' ⟨rfl,rfl⟩));go_ret;exact⟨rfl,rfl⟩
 . rw[if_neg h2];go_enter Tryz.func153,Tryz.ntmps153;go_wp2_with (go_at_call 187;first|(with_reducible refine(HA.out).mono ?_;rintro e w' ⟨rfl,rfl⟩)|(with_reducible refine(HB.out).mono ?_;rintro e w' ⟨rfl,rfl⟩));go_ret;exact⟨rfl,rfl⟩
theorem T9 (b:Bool) (w:World):Calls Tryz.prog 152 #[.bool b] w fun e w'=>e=.returned (.int .i64 (if b then 1 else 0))/\w'=w:=by
 cases b
 all_goals
  go_enter Tryz.func152,Tryz.ntmps152;go_wp2;go_ret;exact⟨rfl,rfl⟩
def W9 (a:Val):Prop:= ∀(b:Val) (cs cs':List Value) (w:World),Ae w w.heap.size a cs->Ae w w.heap.size b cs'->a.bulk<=100000000->b.bulk<=100000000->
    Calls Tryz.prog 104 #[.agg cs.toArray,.agg cs'.toArray] w (Ap (Bt a b=true) w)
theorem Te (key key':ByteArray) (a0 a1 a2 a3 a4 a5 b0 b1 b2 b3 b4 b5:Value) (w:World) (Q:Prop)
 (hC: ∀W,Below w.heap.size w W->Calls Tryz.prog 104 #[.agg #[a0,a1,a2,a3,a4,a5],.agg #[b0,b1,b2,b3,b4,b5]] W (Ap Q W)):
 Calls Tryz.prog 157 #[.agg #[.string key,a0,a1,a2,a3,a4,a5],.agg #[.string key',b0,b1,b2,b3,b4,b5]] w (Ap (key=key'/\Q) w):=by
 have HA:=qz (fun W=>Nh key key' W);have HC:=qz hC;clear hC;go_enter Tryz.func157,Tryz.ntmps157;go_wp2_with (fail);(with_reducible refine(HA.out _).mono ?_);rintro e w1 ⟨c,rfl,hc,rfl⟩;by_cases hc0:c=0
 . have hk:=hc.1 hc0;subst hc0;have Hk:=qz hk;clear hk;clear hc;go_wp2_with (fail);(with_reducible refine(HC.out _ (A8 _ _ _)).mono ?_);rintro e w' ⟨c',rfl,hc',hb'⟩;have hf:c'=0 ↔ key=key'/\Q:=⟨fun e=>⟨Hk.out,hc'.1 e⟩,fun e=>hc'.2 e.2⟩;have Hw:=qz ((A8 w (.cells #[.string key,a0,a1,a2,a3,a4,a5] 88) (.cells #[.string key',b0,b1,b2,b3,b4,b5] 88)).trans (hb'.mono (by simp;omega)));have Hf:=qz hf;clear hf;clear hc' hb';go_wp2;go_ret;exact Ap.of Hf.out Hw.out
 . have hf:c=0 ↔ key=key'/\Q:=⟨fun e=>absurd e hc0,fun e=>absurd (hc.2 e.1) hc0⟩;have f1:(c==0)=false:=by simpa using hc0
   have f2:(c != 0)=true:=by simpa using hc0
   have Hf:=qz hf;clear hf;clear hc hc0;go_wp2;go_ret;exact Ap.of Hf.out (A8 _ _ _)
theorem P2 (l l':List Val) (la la':Option Addr) (lc lc' B0:Nat) (w:World) (hB0:B0<=w.heap.size) (IH: ∀v ∈ l,W9 v)
 (hl:l= []\/ ∃g off,la=some ⟨g,off,none⟩/\g<B0/\Aj w B0 l g off) (hl':l'= []\/ ∃g off,la'=some ⟨g,off,none⟩/\g<B0/\Aj w B0 l' g off)
 (hb:Bd l<=100000000) (hb':Bd l'<=100000000):
 Calls Tryz.prog 155 #[.slice la l.length lc,.slice la' l'.length lc',.func (.func 104) #[] #[]] w (Ap (Ib l l'=true) w):=by
 have hln:=Df l;have hln':=Df l';have HI:=qz IH;have H0:Hid (∀j x y,j<0->l[j]? =some x->l'[j]? =some y->Bt x y=true):=fun _ _ _ e=>absurd e (Nat.not_lt_zero _);have HBB:Hid (Below w.heap.size w w):=Below.refl _ _;obtain⟨p,hp⟩: ∃p:Prop,(Ib l l'=true)=p:=⟨_,rfl⟩;rw[hp];have Hp:=qz hp;clear IH hp;obtain⟨M,⟨hM1,hM2,hM3⟩,hM⟩: ∃M:Nat,(M<=l.length/\M<=l'.length/\(M=l.length\/M=l'.length))/\(min (l.length:Int) (l'.length:Int))=M:=⟨min l.length l'.length,⟨by omega,by omega,by omega⟩,by omega⟩;have hM':(if(l'.length:Int)<(l.length:Int)then(l'.length:Int)else(l.length:Int))=M:=by rw[<-hM];split<;>omega
 have hM'':(if(l.length:Int)<(l'.length:Int)then(l.length:Int)else(l'.length:Int))=M:=by rw[<-hM];split<;>omega
 go_enter Tryz.func155,Tryz.ntmps155;go_wp2_with (fail);go_loopw [14] (fun i wr=> ∃k:Nat,i=.int .i64 k/\k<=M/\Hid (∀j x y,j<k->l[j]? =some x->l'[j]? =some y->Bt x y=true)/\Hid (Below w.heap.size w wr)) (fun i _=>M - (intOf i).toNat)
 case atStart=>exact⟨0,rfl,Nat.zero_le _,H0,HBB⟩
 case round=>
  obtain⟨k,rfl,hk,ht,hbw⟩:=hrel;clear H0 HBB hM hM' hM'';by_cases hlt:k<M
  . have hk1:k<l.length:=by omega
    have hk2:k<l'.length:=by omega
    have hz:=hbw.out.size;obtain⟨g,off,rfl,hg,hL⟩: ∃g off,la=some ⟨g,off,none⟩/\g<B0/\Aj w B0 l g off:=by
     rcases hl with rfl|h
     . simp at hk1
     . exact h
    obtain⟨g',off',rfl,hg',hL'⟩: ∃g off,la'=some ⟨g,off,none⟩/\g<B0/\Aj w B0 l' g off:=by
     rcases hl' with rfl|h
     . simp at hk2
     . exact h
    obtain⟨x,hx⟩: ∃v,l[k]? =some v:=⟨_,List.getElem?_eq_getElem hk1⟩;obtain⟨y,hy⟩: ∃v,l'[k]? =some v:=⟨_,List.getElem?_eq_getElem hk2⟩;have hxm:=List.mem_of_getElem? hx;have hym:=List.mem_of_getElem? hy;have hxb:=Dg hxm;have hyb:=Dg hym;have IHx:=HI.out _ hxm;have hxy:Bt x y=true->(∀j x y,j<k+1->l[j]? =some x->l'[j]? =some y->Bt x y=true):=by
     intro e j x' y' hj h1 h2;rcases Nat.lt_succ_iff_lt_or_eq.1 hj with hj|rfl
     . exact ht.out j x' y' hj h1 h2
     . rw[hx]at h1;rw[hy]at h2;rw[<-Option.some.inj h1,<-Option.some.inj h2];exact e
    have hxn: ¬Bt x y=true-> ¬p:=fun e h=>by
     rw[<-Hp.out]at h;exact e ((Es.1 h).2 k x y hx hy)
    obtain⟨k1,b1',n1,t1,l1,o1⟩:=x;obtain⟨k2,b2',n2,t2,l2,o2⟩:=y;obtain⟨la1,lc1,oa1,oc1,hv1,c0,c1,c2,c3,c4,c5⟩:=(hL.below hg (hbw.out.mono hB0)).six hx;obtain⟨la2,lc2,oa2,oc2,hv2,e0,e1,e2,e3,e4,e5⟩:=(hL'.below hg' (hbw.out.mono hB0)).six hy;have CC:=fun(W:World) (hW:Below wr.heap.size wr W)=>IHx _ _ _ W (Ae.more (Nat.le_trans hB0 (Nat.le_trans hz hW.size)) _ _ (hv1.below (hW.mono (Nat.le_trans hB0 hz)))) (Ae.more (Nat.le_trans hB0 (Nat.le_trans hz hW.size)) _ _ (hv2.below (hW.mono (Nat.le_trans hB0 hz)))) (by omega) (by omega);obtain⟨Q,hQ⟩: ∃Q:Prop,(Bt (Val.mk k1 b1' n1 t1 l1 o1) (Val.mk k2 b2' n2 t2 l2 o2)=true)=Q:=⟨_,rfl⟩;rw[hQ]at CC hxy;have Hxn:Hid (¬Q-> ¬p):=by rw[<-hQ];exact hxn
    have hgr:g<wr.heap.size:=by omega
    have hgr':g'<wr.heap.size:=by omega
    have hq1:(k:Int)<(M:Int):=by omega
    have hq2:(k:Int)<(l.length:Int):=by omega
    have hq3:(k:Int)<(l'.length:Int):=by omega
    have hq0:(0:Int)<=k:=by omega
    obtain⟨CC',Hxy⟩:=hid2 CC hxy;clear CC hxy;clear hQ hxn IHx hxb hyb hxm hym hv1 hv2 hx hy hL hL' hg hg' ht;go_upto_region 4 with(fail)
    go_region_with (go_at_call 104;(with_reducible refine(CC'.out _ (Below.drew (Below.refl _ _))).mono ?_);rintro e w4 ⟨c,rfl,hc,hb4⟩)
    all_goals
     have Hc:=qz hc;have hb4':Below wr.heap.size wr w4:=(Below.drew (Below.refl _ _)).trans hb4;have hbw4:=qz (hbw.out.trans (hb4'.mono hz));clear hc hb4 hb4' hbw CC' c0 c1 c2 c3 c4 c5 e0 e1 e2 e3 e4 e5;by_cases hc0:c=0
     . have Hn:=qz (Hxy.out (Hc.out.1 hc0));subst hc0;clear Hc;go_wp2;go_roundw
       case rel=>exact⟨k+1,by go_num,by omega,Hn,hbw4⟩
       case measure=>simp only[intOf];omega
     . have hne:=Hxn.out (fun e=>hc0 (Hc.out.2 e));have f1:(c==0)=false:=by simpa using hc0
       have f2:(c != 0)=true:=by simpa using hc0
       have Hf:Hid (c=0 ↔ p):=⟨fun e=>absurd e hc0,fun e=>absurd e hne⟩;clear Hc hne hc0;go_wp2;go_ret;exact Ap.of Hf.out hbw4.out
  . obtain rfl:k=M:=by omega
    have hq1: ¬(k:Int)<(k:Int):=by omega
    have cN:=fun w=>Mr (l.length:Int) (l'.length:Int) w;obtain⟨C,hC⟩: ∃C,Ei (l.length:Int) (l'.length:Int)=C:=⟨_,rfl⟩;rw[hC]at cN;have HN:=qz cN;have Hf:Hid (C=0 ↔ p):=by
     show _ ↔ _;rw[<-hC,B3,<-Hp.out];constructor
     . intro h;exact Es.2 ⟨by omega,fun j x y h1 h2=>ht.out j x y (by have:=(List.getElem?_eq_some_iff.1 h1).1;omega) h1 h2⟩
     . intro h;have:=(Es.1 h).1;omega
    clear cN hC ht hl hl';go_wp2_with (fail);(with_reducible refine(HN.out _).mono ?_);rintro e w' ⟨rfl,rfl⟩;go_wp2;go_ret;exact Ap.of Hf.out hbw.out
theorem P3 (l l':List (ByteArray×Val)) (la la':Option Addr) (lc lc' B0:Nat) (w:World) (hB0:B0<=w.heap.size) (IH: ∀m ∈ l,W9 m.2)
 (hl:l= []\/ ∃g off,la=some ⟨g,off,none⟩/\g<B0/\Ak w B0 l g off) (hl':l'= []\/ ∃g off,la'=some ⟨g,off,none⟩/\g<B0/\Ak w B0 l' g off)
 (hb:Af l<=100000000) (hb':Af l'<=100000000):
 Calls Tryz.prog 156 #[.slice la l.length lc,.slice la' l'.length lc',.func (.func 157) #[] #[]] w (Ap (G1 l l'=true) w):=by
 have hln:=Aw l;have hln':=Aw l';have HI:=qz IH;have H0:Hid (∀j x y,j<0->l[j]? =some x->l'[j]? =some y->I5 x y=true):=fun _ _ _ e=>absurd e (Nat.not_lt_zero _);have HBB:Hid (Below w.heap.size w w):=Below.refl _ _;obtain⟨p,hp⟩: ∃p:Prop,(G1 l l'=true)=p:=⟨_,rfl⟩;rw[hp];have Hp:=qz hp;clear IH hp;obtain⟨M,⟨hM1,hM2,hM3⟩,hM⟩: ∃M:Nat,(M<=l.length/\M<=l'.length/\(M=l.length\/M=l'.length))/\(min (l.length:Int) (l'.length:Int))=M:=⟨min l.length l'.length,⟨by omega,by omega,by omega⟩,by omega⟩;have hM':(if(l'.length:Int)<(l.length:Int)then(l'.length:Int)else(l.length:Int))=M:=by rw[<-hM];split<;>omega
 have hM'':(if(l.length:Int)<(l'.length:Int)then(l.length:Int)else(l'.length:Int))=M:=by rw[<-hM];split<;>omega
 go_enter Tryz.func156,Tryz.ntmps156;go_wp2_with (fail);go_loopw [14] (fun i wr=> ∃k:Nat,i=.int .i64 k/\k<=M/\Hid (∀j x y,j<k->l[j]? =some x->l'[j]? =some y->I5 x y=true)/\Hid (Below w.heap.size w wr)) (fun i _=>M - (intOf i).toNat)
 case atStart=>exact⟨0,rfl,Nat.zero_le _,H0,HBB⟩
 case round=>
  obtain⟨k,rfl,hk,ht,hbw⟩:=hrel;clear H0 HBB hM hM' hM'';by_cases hlt:k<M
  . have hk1:k<l.length:=by omega
    have hk2:k<l'.length:=by omega
    have hz:=hbw.out.size;obtain⟨g,off,rfl,hg,hL⟩: ∃g off,la=some ⟨g,off,none⟩/\g<B0/\Ak w B0 l g off:=by
     rcases hl with rfl|h
     . simp at hk1
     . exact h
    obtain⟨g',off',rfl,hg',hL'⟩: ∃g off,la'=some ⟨g,off,none⟩/\g<B0/\Ak w B0 l' g off:=by
     rcases hl' with rfl|h
     . simp at hk2
     . exact h
    obtain⟨x,hx⟩: ∃v,l[k]? =some v:=⟨_,List.getElem?_eq_getElem hk1⟩;obtain⟨y,hy⟩: ∃v,l'[k]? =some v:=⟨_,List.getElem?_eq_getElem hk2⟩;have hxm:=List.mem_of_getElem? hx;have hym:=List.mem_of_getElem? hy;have hxb:=C3 hxm;have hyb:=C3 hym;have IHx:=HI.out _ hxm;have hxy:I5 x y=true->(∀j x y,j<k+1->l[j]? =some x->l'[j]? =some y->I5 x y=true):=by
     intro e j x' y' hj h1 h2;rcases Nat.lt_succ_iff_lt_or_eq.1 hj with hj|rfl
     . exact ht.out j x' y' hj h1 h2
     . rw[hx]at h1;rw[hy]at h2;rw[<-Option.some.inj h1,<-Option.some.inj h2];exact e
    have hxn: ¬I5 x y=true-> ¬p:=fun e h=>by
     rw[<-Hp.out]at h;exact e ((Ec.1 h).2 k x y hx hy)
    obtain⟨key,⟨k1,b1',n1,t1,l1,o1⟩⟩:=x;obtain⟨key',⟨k2,b2',n2,t2,l2,o2⟩⟩:=y;obtain⟨la1,lc1,oa1,oc1,hv1,c0,c1,c2,c3,c4,c5,c6⟩:=(hL.below hg (hbw.out.mono hB0)).seven hx;obtain⟨la2,lc2,oa2,oc2,hv2,e0,e1,e2,e3,e4,e5,e6⟩:=(hL'.below hg' (hbw.out.mono hB0)).seven hy;simp only at IHx hxb hyb;have CC:=fun(W:World) (hW:Below wr.heap.size wr W)=>Te key key' _ _ _ _ _ _ _ _ _ _ _ _ W _ (fun W' hW'=>IHx _ _ _ W' (Ae.more (Nat.le_trans hB0 (Nat.le_trans hz (Nat.le_trans hW.size hW'.size))) _ _ ((hv1.below (hW.mono (Nat.le_trans hB0 hz))).below (hW'.mono (Nat.le_trans hB0 (Nat.le_trans hz hW.size))))) (Ae.more (Nat.le_trans hB0 (Nat.le_trans hz (Nat.le_trans hW.size hW'.size))) _ _ ((hv2.below (hW.mono (Nat.le_trans hB0 hz))).below (hW'.mono (Nat.le_trans hB0 (Nat.le_trans hz hW.size))))) (by omega) (by omega));obtain⟨Q,hQ⟩: ∃Q:Prop,(I5 (key,Val.mk k1 b1' n1 t1 l1 o1) (key',Val.mk k2 b2' n2 t2 l2 o2)=true)=Q:=⟨_,rfl⟩;have hQ2:(key=key'/\Bt (Val.mk k1 b1' n1 t1 l1 o1) (Val.mk k2 b2' n2 t2 l2 o2)=true)=Q:=by rw[<-hQ];simp[I5]
    rw[hQ2]at CC;clear hQ2;rw[hQ]at hxy;have Hxn:Hid (¬Q-> ¬p):=by rw[<-hQ];exact hxn
    have hgr:g<wr.heap.size:=by omega
    have hgr':g'<wr.heap.size:=by omega
    have hq1:(k:Int)<(M:Int):=by omega
    have hq2:(k:Int)<(l.length:Int):=by omega
    have hq3:(k:Int)<(l'.length:Int):=by omega
    have hq0:(0:Int)<=k:=by omega
    obtain⟨CC',Hxy⟩:=hid2 CC hxy;clear CC hxy;clear hQ hxn IHx hxb hyb hxm hym hv1 hv2 hx hy hL hL' hg hg' ht;go_upto_region 4 with(fail)
    go_region_with (go_at_call 157;(with_reducible refine(CC'.out _ (Below.drew (Below.refl _ _))).mono ?_);rintro e w4 ⟨c,rfl,hc,hb4⟩)
    all_goals
     have Hc:=qz hc;have hb4':Below wr.heap.size wr w4:=(Below.drew (Below.refl _ _)).trans hb4;have hbw4:=qz (hbw.out.trans (hb4'.mono hz));clear hc hb4 hb4' hbw CC' c0 c1 c2 c3 c4 c5 c6 e0 e1 e2 e3 e4 e5 e6;by_cases hc0:c=0
     . have Hn:=qz (Hxy.out (Hc.out.1 hc0));subst hc0;clear Hc;go_wp2;go_roundw
       case rel=>exact⟨k+1,by go_num,by omega,Hn,hbw4⟩
       case measure=>simp only[intOf];omega
     . have hne:=Hxn.out (fun e=>hc0 (Hc.out.2 e));have f1:(c==0)=false:=by simpa using hc0
       have f2:(c != 0)=true:=by simpa using hc0
       have Hf:Hid (c=0 ↔ p):=⟨fun e=>absurd e hc0,fun e=>absurd e hne⟩;clear Hc hne hc0;go_wp2;go_ret;exact Ap.of Hf.out hbw4.out
  . obtain rfl:k=M:=by omega
    have hq1: ¬(k:Int)<(k:Int):=by omega
    have cN:=fun w=>Mr (l.length:Int) (l'.length:Int) w;obtain⟨C,hC⟩: ∃C,Ei (l.length:Int) (l'.length:Int)=C:=⟨_,rfl⟩;rw[hC]at cN;have HN:=qz cN;have Hf:Hid (C=0 ↔ p):=by
     show _ ↔ _;rw[<-hC,B3,<-Hp.out];constructor
     . intro h;exact Ec.2 ⟨by omega,fun j x y h1 h2=>ht.out j x y (by have:=(List.getElem?_eq_some_iff.1 h1).1;omega) h1 h2⟩
     . intro h;have:=(Ec.1 h).1;omega
    clear cN hC ht hl hl';go_wp2_with (fail);(with_reducible refine(HN.out _).mono ?_);rintro e w' ⟨rfl,rfl⟩;go_wp2;go_ret;exact Ap.of Hf.out hbw.out
end Go.Proofs.YtdbejcbbhomdbaaGreatDoor
namespace Go.Proofs.YtdbejcbbhomdbaaGreatDoor
end Go.Proofs.YtdbejcbbhomdbaaGreatDoor
namespace Go.Proofs.YtdbejcbbhomdbaaGreatDoor
open Go.RowKit
end Go.Proofs.YtdbejcbbhomdbaaGreatDoor
namespace Go.Proofs.YtdbejcbbhomdbaaGreatDoor
open Go.RowKit Go.ChangeShapes Go.WideShapes Go.ChangeAt
theorem Y0:ownKnob Tryz.prog.godebug=none:=by kernel_rfl
noncomputable def Kz (os:Os):World:=World.laidAll Tryz.prog os Rows.patchMayRow.laid
theorem Tr:Rows.laid_unicode_utf8_first=Lib.firstData:=by kernel_rfl
theorem Ry:Rows.laid_unicode_utf8_acceptRanges (H:=Unit)=Lib.acceptData:=by kernel_rfl
theorem Ts:Rows.laid_internal_strconv_uint64pow10 (H:=Unit)=Lib.tabData .u64 Lib.pow10Tab:=by kernel_rfl
theorem Ym (os:Os) (args:Array Value):laidMet Tryz.prog Rows.patchMayRow.laid ((Kz os).forCall (fun _ _=>0) ⟨#[],args, []⟩).memory:=
 laidMet_laidAll _ (by kernel_rfl) (by kernel_rfl)
end Go.Proofs.YtdbejcbbhomdbaaGreatDoor
