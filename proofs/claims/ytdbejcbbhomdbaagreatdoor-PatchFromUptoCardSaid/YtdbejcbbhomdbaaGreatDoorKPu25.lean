/- Parts: The patch from entries to others may be, and so may the reset, where they may be in a text. Plain. No condition. -/
import Derived.Test.YtdbejcbbhomdbaaGreatDoorKPu22
set_option maxHeartbeats 20000000
set_option maxRecDepth 100000
namespace Go.Proofs.YtdbejcbbhomdbaaGreatDoor
abbrev Lv:=ByteArray×Option Val×Option Val
def Bx:List A0->List A0->List Lv
 | [], []=> []
 | [],(k,v)::s=>(k,none,some v)::Bx [] s
 |(k,v)::r, []=>(k,some v,none)::Bx r []
 |(a,x)::r,(b,y)::s=>
  if Bq a b then(a,some x,none)::Bx r ((b,y)::s)else if Bq b a then(b,none,some y)::Bx ((a,x)::r) s
  else if Bt x y then Bx r s else(a,some x,some y)::Bx r s
termination_by a b=>a.length+b.length
theorem Q6 (A B:List A0): ∀X:List A0,Bx (X++A) (X++B)=Bx A B
 | []=>rfl
 |(k,v)::r=>by
  rw[List.cons_append,List.cons_append,Bx,if_neg (by rw[Cm];simp),if_neg (by rw[Cm];simp),if_pos (Pf v),Q6 A B r]
theorem Mf {k:ByteArray} {v:Val} {r:List A0}: ∀{s:List A0},(∀e ∈ s,Bq k e.1=true)->Bx ((k,v)::r) s=(k,some v,none)::Bx r s
 | [],_=>by rw[Bx]
 |(b,y)::s,h=>by
  have h1:Bq k b=true:=h (b,y) (by simp);rw[Bx,if_pos h1]
theorem Me {k:ByteArray} {v:Val} {s:List A0}: ∀{r:List A0},(∀e ∈ r,Bq k e.1=true)->Bx r ((k,v)::s)=(k,none,some v)::Bx r s
 | [],_=>by rw[Bx]
 |(a,x)::r,h=>by
  have h1:Bq k a=true:=h (a,x) (by simp);rw[Bx,if_neg (by rw[J8 h1];simp),if_pos h1]
theorem Td {k:ByteArray} {x y:Val} {r s:List A0}:Bx ((k,x)::r) ((k,y)::s)=if Bt x y then Bx r s else(k,some x,some y)::Bx r s:=by
 rw[Bx,if_neg (by rw[Cm];simp),if_neg (by rw[Cm];simp)]
end Go.Proofs.YtdbejcbbhomdbaaGreatDoor
namespace Go.Proofs.YtdbejcbbhomdbaaGreatDoor
open Go Go.RowKit
theorem Y5 (k k':Int) (b b':Bool) (n n':Int) (t t':ByteArray) (x y x' y':Value) (w:World) (p:Prop) (h:k≠k') (hp: ¬p):
 Calls Tryz.prog 104 #[.agg #[.int .i64 k,.bool b,.int .i64 n,.string t,x,y],.agg #[.int .i64 k',.bool b',.int .i64 n',.string t',x',y']] w (Ap p w):=by
 have h1:(k==k')=false:=by simpa using h
 have h2:(k != k')=true:=by simpa using h
 obtain⟨C,hC⟩: ∃C,Ei k k'=C:=⟨_,rfl⟩;have cN:=fun w=>Tp k k' w;rw[hC]at cN;have HN:=qz cN;have Hc:Hid (C=0 ↔ p):=by
  show _ ↔ _;rw[<-hC,B3];exact⟨fun e=>absurd e h,fun e=>absurd e hp⟩
 clear cN hC h hp;go_enter Tryz.func104,Tryz.ntmps104;go_wp2_with (fail);(with_reducible refine(HN.out _).mono ?_);rintro e w' ⟨rfl,rfl⟩;go_wp2;go_ret;exact Ap.of Hc.out (A8 _ _ _)
theorem Aad (k:Int) (h2:k≠2) (h3:k≠3) (h4:k≠4) (h5:k≠5) (h6:k≠6) (b b':Bool) (n n':Int) (t t':ByteArray) (x y x' y':Value) (w:World) (p:Prop) (hp:p):
 Calls Tryz.prog 104 #[.agg #[.int .i64 k,.bool b,.int .i64 n,.string t,x,y],.agg #[.int .i64 k,.bool b',.int .i64 n',.string t',x',y']] w (Ap p w):=by
 have Hp:=qz hp;have e2:(k==2)=false:=by simpa using h2
 have e3:(k==3)=false:=by simpa using h3
 have e4:(k==4)=false:=by simpa using h4
 have e5:(k==5)=false:=by simpa using h5
 have e6:(k==6)=false:=by simpa using h6
 clear hp;go_enter Tryz.func104,Tryz.ntmps104;go_wp2;go_ret;exact Ap.of ⟨fun _=>Hp.out,fun _=>rfl⟩ (A8 _ _ _)
theorem Aab (b b':Bool) (n n':Int) (t t':ByteArray) (x y x' y':Value) (w:World) (p:Prop) (hp:n=n' ↔ p):
 Calls Tryz.prog 104 #[.agg #[.int .i64 3,.bool b,.int .i64 n,.string t,x,y],.agg #[.int .i64 3,.bool b',.int .i64 n',.string t',x',y']] w (Ap p w):=by
 obtain⟨C,hC⟩: ∃C,Ei n n'=C:=⟨_,rfl⟩;have cN:=fun w=>Mt n n' w;rw[hC]at cN;have HN:=qz cN;have Hc:Hid (C=0 ↔ p):=by
  show _ ↔ _;rw[<-hC,B3];exact hp
 clear cN hC hp;go_enter Tryz.func104,Tryz.ntmps104;go_wp2_with (fail);(with_reducible refine(HN.out _).mono ?_);rintro e w' ⟨rfl,rfl⟩;go_wp2;go_ret;exact Ap.of Hc.out (A8 _ _ _)
theorem Y7 (b b':Bool) (n n':Int) (t t':ByteArray) (x y x' y':Value) (w:World) (p:Prop) (hp:t=t' ↔ p):
 Calls Tryz.prog 104 #[.agg #[.int .i64 4,.bool b,.int .i64 n,.string t,x,y],.agg #[.int .i64 4,.bool b',.int .i64 n',.string t',x',y']] w (Ap p w):=by
 have HN:=qz (fun w=>Nh t t' w);have Hp:=qz hp;clear hp;go_enter Tryz.func104,Tryz.ntmps104;go_wp2_with (fail);(with_reducible refine(HN.out _).mono ?_);rintro e w' ⟨c,rfl,hc,rfl⟩;have Hc:=qz (hc.trans Hp.out);clear hc;go_wp2;go_ret;exact Ap.of Hc.out (A8 _ _ _)
theorem Y4 (b b':Bool) (n n':Int) (t t':ByteArray) (x y x' y':Value) (w:World) (p:Prop) (hp:b=b' ↔ p):
 Calls Tryz.prog 104 #[.agg #[.int .i64 2,.bool b,.int .i64 n,.string t,x,y],.agg #[.int .i64 2,.bool b',.int .i64 n',.string t',x',y']] w (Ap p w):=by
 have hR:=fun b w=>T9 b w;have HN:=qz (fun m m' w=>Mt m m' w);have hz:Ei (if b then 1 else 0) (if b' then 1 else 0)=0 ↔ p:=by
  rw[B3,<-hp]
  cases b<;>cases b'<;>simp
 obtain⟨r,hr⟩: ∃r:Int,(if b=true then 1 else 0)=r:=⟨_,rfl⟩;obtain⟨r',hr'⟩: ∃r:Int,(if b'=true then 1 else 0)=r:=⟨_,rfl⟩;have hR1:=fun w=>hR b w;have hR2:=fun w=>hR b' w;rw[hr]at hz hR1;rw[hr']at hz hR2;obtain⟨HR1,HR2,Hz⟩:=hid3 hR1 hR2 hz;clear hR1 hR2 hz;clear hR hp hr hr';go_enter Tryz.func104,Tryz.ntmps104;go_upto_region 9 with(fail)
 go_region_with (first|(go_at_call 152;first|((with_reducible refine(HR1.out _).mono ?_);rintro e w1 ⟨rfl,rfl⟩)|((with_reducible refine(HR2.out _).mono ?_);rintro e w1 ⟨rfl,rfl⟩)))
 all_goals
  go_wp2_with (fail);(with_reducible refine(HN.out _ _ _).mono ?_);rintro e w' ⟨rfl,rfl⟩;go_wp2;go_ret;exact Ap.of Hz.out (Below.drew (A8 _ _ _))
theorem Y6 (b b':Bool) (n n':Int) (t t':ByteArray) (l l':List Val) (on on':Nat) (la oa la' oa':Option Addr) (lc oc lc' oc':Nat) (w:World) (p:Prop) (IH: ∀v ∈ l,W9 v) (hp:Ib l l'=true ↔ p)
 (hl:l= []\/ ∃g off,la=some ⟨g,off,none⟩/\g<w.heap.size/\Aj w w.heap.size l g off) (hl':l'= []\/ ∃g off,la'=some ⟨g,off,none⟩/\g<w.heap.size/\Aj w w.heap.size l' g off)
 (hb:Bd l<=100000000) (hb':Bd l'<=100000000):
 Calls Tryz.prog 104 #[.agg #[.int .i64 5,.bool b,.int .i64 n,.string t,.slice la l.length lc,.slice oa on oc],.agg #[.int .i64 5,.bool b',.int .i64 n',.string t',.slice la' l'.length lc',.slice oa' on' oc']] w (Ap p w):=by
 have hC:=fun(W:World) (hB:Below w.heap.size w W)=>P2 l l' la la' lc lc' w.heap.size W hB.size IH
  (hl.imp id fun⟨g,off,e,hg,h⟩=>⟨g,off,e,hg,h.below hg hB⟩) (hl'.imp id fun⟨g,off,e,hg,h⟩=>⟨g,off,e,hg,h.below hg hB⟩) hb hb'
 simp only[propext hp]at hC;have HC:=qz hC;clear hC;clear IH hp hl hl' hb hb';go_enter Tryz.func104,Tryz.ntmps104;go_wp2_with (fail);(with_reducible refine(HC.out _ (A8 _ _ _)).mono ?_);rintro e w' ⟨c,rfl,hc,hb⟩;have Hw:=qz ((A8 w (.cells #[.int .i64 5,.bool b,.int .i64 n,.string t,.slice la l.length lc,.slice oa on oc] 33) (.cells #[.int .i64 5,.bool b',.int .i64 n',.string t',.slice la' l'.length lc',.slice oa' on' oc'] 33)).trans (hb.mono (by simp;omega)));have Hc:=qz hc;clear hc;clear hb;go_wp2;go_ret;exact Ap.of Hc.out Hw.out
theorem Aac (b b':Bool) (n n':Int) (t t':ByteArray) (l l':List (ByteArray×Val)) (ln ln':Nat) (la oa la' oa':Option Addr) (lc oc lc' oc':Nat) (w:World) (p:Prop) (IH: ∀m ∈ l,W9 m.2) (hp:G1 l l'=true ↔ p)
 (hl:l= []\/ ∃g off,oa=some ⟨g,off,none⟩/\g<w.heap.size/\Ak w w.heap.size l g off) (hl':l'= []\/ ∃g off,oa'=some ⟨g,off,none⟩/\g<w.heap.size/\Ak w w.heap.size l' g off)
 (hb:Af l<=100000000) (hb':Af l'<=100000000):
 Calls Tryz.prog 104 #[.agg #[.int .i64 6,.bool b,.int .i64 n,.string t,.slice la ln lc,.slice oa l.length oc],.agg #[.int .i64 6,.bool b',.int .i64 n',.string t',.slice la' ln' lc',.slice oa' l'.length oc']] w (Ap p w):=by
 have hC:=fun(W:World) (hB:Below w.heap.size w W)=>P3 l l' oa oa' oc oc' w.heap.size W hB.size IH
  (hl.imp id fun⟨g,off,e,hg,h⟩=>⟨g,off,e,hg,h.below hg hB⟩) (hl'.imp id fun⟨g,off,e,hg,h⟩=>⟨g,off,e,hg,h.below hg hB⟩) hb hb'
 simp only[propext hp]at hC;have HC:=qz hC;clear hC;clear IH hp hl hl' hb hb';go_enter Tryz.func104,Tryz.ntmps104;go_wp2_with (fail);(with_reducible refine(HC.out _ (A8 _ _ _)).mono ?_);rintro e w' ⟨c,rfl,hc,hb⟩;have Hw:=qz ((A8 w (.cells #[.int .i64 6,.bool b,.int .i64 n,.string t,.slice la ln lc,.slice oa l.length oc] 33) (.cells #[.int .i64 6,.bool b',.int .i64 n',.string t',.slice la' ln' lc',.slice oa' l'.length oc'] 33)).trans (hb.mono (by simp;omega)));have Hc:=qz hc;clear hc;clear hb;go_wp2;go_ret;exact Ap.of Hc.out Hw.out
theorem T7: ∀a,W9 a:=by
 refine Val.ind ?_;intro k b n t l o IHl IHo v cs cs' w hV hV' hb hb';obtain⟨k',b',n',t',l',o'⟩:=v;simp only[Ae]at hV hV';obtain⟨la,lc,oa,oc,rfl,hla,hoa⟩:=hV;obtain⟨la',lc',oa',oc',rfl,hla',hoa'⟩:=hV';simp only[Val.bulk]at hb hb';by_cases hkk:k≠k'
 . exact Y5 k k' b b' n n' t t' _ _ _ _ w _ hkk (fun e=>by simp only[Bt,Bool.and_eq_true,decide_eq_true_eq]at e;exact hkk e.1)
 obtain rfl:k=k':=by omega
 by_cases h2:k=2
 . subst h2;exact Y4 b b' n n' t t' _ _ _ _ w _ (by simp[Bt])
 by_cases h3:k=3
 . subst h3;exact Aab b b' n n' t t' _ _ _ _ w _ (by simp[Bt])
 by_cases h4:k=4
 . subst h4;exact Y7 b b' n n' t t' _ _ _ _ w _ (by simp[Bt])
 by_cases h5:k=5
 . subst h5;exact Y6 b b' n n' t t' l l' _ _ la oa la' oa' lc oc lc' oc' w _ IHl (by simp[Bt]) hla hla' (by omega) (by omega)
 by_cases h6:k=6
 . subst h6;exact Aac b b' n n' t t' o o' _ _ la oa la' oa' lc oc lc' oc' w _ IHo (by simp[Bt]) hoa hoa' (by omega) (by omega)
 exact Aad k h2 h3 h4 h5 h6 b b' n n' t t' _ _ _ _ w _ (by simp[Bt,h2,h3,h4,h5,h6])
theorem Sm (v v':Val) (cs cs':List Value) (w:World) (hV:Ae w w.heap.size v cs) (hV':Ae w w.heap.size v' cs') (hb:v.bulk<=100000000) (hb':v'.bulk<=100000000):
 Calls Tryz.prog 70 #[.agg cs.toArray,.agg cs'.toArray] w (Bp (Bt v v'=true) w):=by
 have hC:=fun(W:World) (hB:Below w.heap.size w W)=>T7 v v' cs cs' W (Ae.more hB.size _ _ (hV.below hB)) (Ae.more hB.size _ _ (hV'.below hB)) hb hb';generalize Bt v v'=B at hC ⊢;obtain⟨k,b,n,t,l,o⟩:=v;obtain⟨k',b',n',t',l',o'⟩:=v';simp only[Ae]at hV hV';obtain⟨la,lc,oa,oc,rfl,hla,hoa⟩:=hV;obtain⟨la',lc',oa',oc',rfl,hla',hoa'⟩:=hV';have HC:=qz hC;clear hC;clear hla hoa hla' hoa';go_enter Tryz.func70,Tryz.ntmps70;go_wp2_with (fail);(with_reducible refine(HC.out _ (Ce _ _ _)).mono ?_);rintro e w1 ⟨c,rfl,hc,hb1⟩;have hw:=(Ce w (.cells #[.int .i64 k,.bool b,.int .i64 n,.string t,.slice la l.length lc,.slice oa o.length oc] 33) (.cells #[.int .i64 k',.bool b',.int .i64 n',.string t',.slice la' l'.length lc',.slice oa' o'.length oc'] 33)).trans (hb1.mono (by simp;omega));by_cases h0:c=0
 . have h1:=hc.1 h0;subst h0;obtain⟨Hw,H1⟩:=hid2 hw h1;clear hw h1;clear hc hb1;go_wp2;go_ret;exact Bp.yes H1.out Hw.out
 . have h1: ¬(B=true):=fun e=>h0 (hc.2 e);have f1:(c==0)=false:=by simpa using h0
   obtain⟨Hw,H1⟩:=hid2 hw h1;clear hw h1;clear hc hb1 h0;go_wp2;go_ret;exact Bp.no H1.out Hw.out
end Go.Proofs.YtdbejcbbhomdbaaGreatDoor
namespace Go.Proofs.YtdbejcbbhomdbaaGreatDoor
def B8:Lv->POp
 |(k,_,some v)=>⟨1,k,v⟩
 |(k,_,none)=>⟨2,k,A6⟩
def Ay (b:List A0):List POp:=⟨3,⟨#[]⟩,A6⟩::b.map fun e=>⟨1,e.1,e.2⟩
def Bh (k:ByteArray):List A0->Option Val
 | []=>none
 |(a,x)::r=>if a=k then some x else Bh k r
theorem Kv {k:ByteArray}: ∀{l:List A0},(∀e ∈ l,e.1≠k)->Bh k l=none
 | [],_=>rfl
 |(a,x)::r,h=>by
  have h1:a≠k:=h (a,x) (by simp);rw[Bh,if_neg h1,Kv fun e he=>h e (List.mem_cons_of_mem _ he)]
theorem Rn {q k:ByteArray} {v:Val}: ∀{l:List A0},Bh q (A7 k v l)=if k=q then some v else Bh q l
 | []=>by simp[A7,Bh]
 |(a,x)::r=>by
  simp only[A7];by_cases h1:Bq a k=true
  . rw[if_pos h1,Bh,Rn,Bh];by_cases h2:a=q
    . subst h2;rw[if_pos rfl,if_pos rfl,if_neg (Yq h1).symm]
    . rw[if_neg h2,if_neg h2]
  rw[if_neg h1];by_cases h2:a=k
  . subst h2;rw[if_pos rfl,Bh,Bh];by_cases h3:a=q
    . rw[if_pos h3,if_pos h3]
    . rw[if_neg h3,if_neg h3,if_neg h3]
  . rw[if_neg h2,Bh]
def Oc:Option Val->Option Val->Bool
 |none,none=>true
 |some x,some y=>Bt x y
 |_,_=>false
theorem Fc {k:ByteArray} {l:List A0} (h: ∀e ∈ l,Bq k e.1=true):Bh k l=none:=Kv fun e he=>(Yq (h e he)).symm
theorem Oy {a q:ByteArray} {x:Val} {l:List A0} (h:a≠q):Bh q ((a,x)::l)=Bh q l:=by rw[Bh,if_neg h]
end Go.Proofs.YtdbejcbbhomdbaaGreatDoor
namespace Go.Proofs.YtdbejcbbhomdbaaGreatDoor
open Go.RowKit
theorem Uo (k:Int) (b:Bool) (n:Int) (t:ByteArray) (la oa:Option Addr) (ln lc on oc:Nat) (B:Bool) (w:World) (h:Gy k b n t ln on=B):
 Calls Tryz.prog 72 #[.agg #[.int .i64 k,.bool b,.int .i64 n,.string t,.slice la ln lc,.slice oa on oc]] w fun e w'=>e=.returned (.bool B)/\Below w.heap.size w w':=by
 have Fin:Hid (∀X:Bool,X=Gy k b n t ln on->Ending.returned (.bool X)=.returned (.bool B)):=fun X hX=>by rw[hX,h]
 clear h;go_enter Tryz.func72,Tryz.ntmps72;go_wp2
 all_goals(go_ret;refine⟨Fin.out _ ?_,Ac _ _⟩;simp_all[Gy,Xh])
theorem Np (k k':Int) (s s':ByteArray) (a0 a1 a2 a3 a4 a5 b0 b1 b2 b3 b4 b5:Value) (B:Bool) (w:World) (h:(decide (k'≠3)&&(decide (k=3)||Op.bytesLess s.toList s'.toList))=B):
 Calls Tryz.prog 37 #[.agg #[.int .i64 k,.string s,a0,a1,a2,a3,a4,a5],.agg #[.int .i64 k',.string s',b0,b1,b2,b3,b4,b5]] w fun e w'=>e=.returned (.bool B)/\Below w.heap.size w w':=by
 have Fin:Hid (∀X:Bool,X=(decide (k'≠3)&&(decide (k=3)||Op.bytesLess s.toList s'.toList))->Ending.returned (.bool X)=.returned (.bool B)):=fun X hX=>by rw[hX,h]
 clear h;go_enter Tryz.func37,Tryz.ntmps37;go_wp2
 all_goals(go_ret;refine⟨Fin.out _ ?_,(Ac _ _).alloc (by simp) _⟩;first|(simp_all;done)|(simp only[Zt,Zs]))
theorem Oe (k:Int) (s:ByteArray) (k':Int) (b:Bool) (n:Int) (t:ByteArray) (la oa:Option Addr) (ln lc on oc:Nat) (B:Bool) (w:World)
 (h:(if k=1 then false else if k=2 then !Gy k' b n t ln on else if k=3 then !s.toList.isEmpty|| !Gy k' b n t ln on else true)=B):
 Calls Tryz.prog 36 #[.agg #[.int .i64 k,.string s,.int .i64 k',.bool b,.int .i64 n,.string t,.slice la ln lc,.slice oa on oc]] w fun e w'=>e=.returned (.bool B)/\Below w.heap.size w w':=by
 obtain⟨Z,hZ⟩: ∃Z,Gy k' b n t ln on=Z:=⟨_,rfl⟩;rw[hZ]at h;have Fin:Hid (∀X:Bool,X=(if k=1 then false else if k=2 then !Z else if k=3 then !s.toList.isEmpty|| !Z else true)->Ending.returned (.bool X)=.returned (.bool B)):=fun X hX=>by rw[hX,h]
 have Hcz:=qz (fun W=>Uo k' b n t la oa ln lc on oc Z W hZ);clear hZ h;go_enter Tryz.func36,Tryz.ntmps36;go_wp2_with (go_at_call 72;refine(Hcz.out _).mono ?_;rintro e w1 ⟨rfl,hb1⟩)
 all_goals first
  |(go_ret;refine⟨Fin.out _ ?_,Ac _ _⟩;(by_cases e1:k=1<;>by_cases e2:k=2<;>by_cases e3:k=3<;>cases Z<;>simp_all))
  |(go_ret;refine⟨Fin.out _ ?_,(Ac _ _).trans (hb1.mono (by simp))⟩;(by_cases e1:k=1<;>by_cases e2:k=2<;>by_cases e3:k=3<;>cases Z<;>simp_all))
theorem Do (s:ByteArray) (w:World):Calls Tryz.prog 78 #[.string s] w fun e w'=>e=.returned (.agg #[.int .i64 4,.bool false,.int .i64 0,.string s,.slice none 0 0,.slice none 0 0])/\Below w.heap.size w w':=by
 go_enter Tryz.func78,Tryz.ntmps78;go_wp2;exact bodyPost_ret (v:=.agg #[.int .i64 4,.bool false,.int .i64 0,.string s,.slice none 0 0,.slice none 0 0]) (by simp[results,Tryz.results78,go_sem]) rfl ⟨rfl,(Below.refl _ _).alloc (Nat.le_refl _) _⟩
end Go.Proofs.YtdbejcbbhomdbaaGreatDoor
namespace Go.Proofs.YtdbejcbbhomdbaaGreatDoor
end Go.Proofs.YtdbejcbbhomdbaaGreatDoor
