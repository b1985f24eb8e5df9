/- Parts: The object of a patch's op, the list of a patch: they may be. Plain. No condition. -/
import Derived.Test.YtkmcjfkokoidcaaGreatDoorKFa17
import Derived.Test.YtkmcjfkokoidcaaGreatDoorKFa22
set_option maxHeartbeats 20000000
set_option maxRecDepth 100000
namespace Go.Proofs.YtkmcjfkokoidcaaGreatDoor
open Go.RowKit
theorem Aa2 (v:Val) (cs:List Value) (w:World) (hT:Cm w) (hV:Ac w w.heap.size v cs) (hb:v.bulk<=1000000000) (hok:okV v):
 Calls Tryz.prog 136 #[.agg cs.toArray] w fun e w'=>e=.returned (.int .i64 (Am v).length)/\Below w.heap.size w w':=by
 have hV':=hV;obtain⟨k,b,n,t,l,o⟩:=v;simp only[Ac]at hV';obtain⟨la,lc,oa,oc,rfl,_,_⟩:=hV';obtain⟨w1,hw1⟩: ∃w1,w.alloc (.cells (Ei k b n t la l.length lc oa o.length oc).toArray 37)=w1:=⟨_,rfl⟩;have hb1:Below w.heap.size w w1:=hw1▸(Below.refl _ _).alloc (Nat.le_refl _) _;have hz1:w1.heap.size=w.heap.size+1:=by rw[<-hw1];simp
 have hc:=Qu k b n t l o la oa lc oc false w1 (hT.below hb1) (Ac.more hb1.size _ _ (hV.below hb1)) hb hok;have HO:=qz (fun w=>N8 k b n t la oa l.length lc o.length oc w);rw[hz1]at hc;generalize Am (.mk k b n t l o)=L at*
 have ent:=Kr;obtain⟨HC,HAB⟩:=hid2 hc hb1;subst hw1;clear hc hV hb hok hT hz1 hb1;go_enter Tryz.func136,Tryz.ntmps136;go_wp2_with (first|(go_at_call 74;refine(HO.out _).mono ?_;rintro e w2 ⟨rfl,rfl⟩)|(go_at_fn (Oh k);refine(HC.out).mono ?_;rintro e w4 ⟨rfl,h6,h7⟩;have hW4:=h6;obtain⟨pp,vv,hbld⟩:=hW4;have g3:w4.cell? ⟨w.heap.size+1,3,none⟩=some (.int .i64 (L.length:Int)):=by(rw[Lib.cell_of_heap hbld.2.1];rfl)));go_ret;exact⟨rfl,HAB.out.trans (h7.mono (by simp))⟩
theorem Aex: ∀(v:Val),Aje v:=by
 refine Val.ind ?_;intro k b n t l o ihl iho cs d w hV hb h0 h65;simp only[Ac]at hV;obtain⟨la,lc,oa,oc,rfl,hL,hO⟩:=hV;simp only[Val.bulk]at hb;by_cases hodd:Gm k b n t l.length o.length=true
 . have hm:Au (.mk k b n t l o) d=9:=by simp only[Au,hodd,if_true]
   rw[hm];clear hm ihl iho hL hO;go_enter Tryz.func95,Tryz.ntmps95;go_wp2_with (go_at_call 160;refine(I8 hodd _).mono ?_;rintro e w' ⟨rfl,hb1⟩);go_ret;exact⟨rfl,((Below.refl _ _).alloc (Nat.le_refl _) _).trans (hb1.mono (by simp))⟩
 have hodd':Gm k b n t l.length o.length=false:=by simpa using hodd
 clear hodd;by_cases h64:64<d
 . have hm:Au (.mk k b n t l o) d=5:=by simp only[Au,hodd',Bool.false_eq_true,if_false,h64,if_true]
   rw[hm];clear hm ihl iho hL hO;go_enter Tryz.func95,Tryz.ntmps95;go_wp2_with (go_at_call 160;refine(I8 hodd' _).mono ?_;rintro e w' ⟨rfl,hb1⟩);go_ret;exact⟨rfl,((Below.refl _ _).alloc (Nat.le_refl _) _).trans (hb1.mono (by simp))⟩
 by_cases hval:A9 t=true
 . obtain⟨hk,ht,hl,ho⟩:=Fa hodd';by_cases hl0:l= []
   . subst hl0;have hm:Au (.mk k b n t [] o) d=Ep o none (d+1):=by
      simp only[Au,hodd',Bool.false_eq_true,if_false,h64,hval,if_true,C2]
     rw[hm];rcases hO with rfl|⟨g,off,rfl,hg,hO⟩
     . exact Ab3 k b n t [] la oa lc oc d w 0 0 (.inl rfl) (by simp only[Ab]at hb ⊢;omega) h0 (by omega) iho hodd' hval
     . exact Ab3 k b n t o la _ lc oc d w g off (.inr ⟨rfl,hg,hO⟩) (by omega) h0 (by omega) iho hodd' hval
   . have hl1:0<l.length:=List.length_pos_iff.2 hl0;obtain rfl:o= []:=List.eq_nil_of_length_eq_zero (by omega);have hm:Au (.mk k b n t l []) d=C2 l (d+1):=by
      simp only[Au,hodd',Bool.false_eq_true,if_false,h64,hval,if_true,Ep]
      split<;>simp_all
     rw[hm];rcases hL with rfl|⟨g,off,rfl,hg,hL⟩
     . exact absurd rfl hl0
     . exact Ah7 k b n t l _ oa lc oc d w g off (.inr ⟨rfl,hg,hL⟩) (by omega) h0 (by omega) ihl hodd' hval
 . have hval':A9 t=false:=by simpa using hval
   have hm:Au (.mk k b n t l o) d=3:=by simp only[Au,hodd',Bool.false_eq_true,if_false,h64,hval']
   rw[hm];clear hm ihl iho hL hO hval;go_enter Tryz.func95,Tryz.ntmps95;go_wp2_with (first|(go_at_call 160;refine(I8 hodd' _).mono ?_;rintro e w1 ⟨rfl,hb1⟩;obtain⟨hc1,hf1⟩:=Gy hb1;have hz1:=hb1.size;simp only[World.size_alloc]at hz1;have hbw1:Below w.heap.size w w1:=((Below.refl _ _).alloc (Nat.le_refl _) _).trans (hb1.mono (by simp)))|(go_at_call 112;refine(Cw hval' _ (by omega)).mono ?_;rintro e w2 ⟨rfl,rfl⟩));go_ret;exact⟨rfl,hbw1⟩
theorem Ti (v:Val) (cs:List Value) (w:World) (hV:Ac w w.heap.size v cs) (hb:v.bulk<=1000000000):
 Calls Tryz.prog 53 #[.agg cs.toArray] w fun e w'=>e=.returned (.int .i64 (Au v 1))/\Below w.heap.size w w':=by
 have hV':=hV;obtain⟨k,b,n,t,l,o⟩:=v;simp only[Ac]at hV';obtain⟨la,lc,oa,oc,rfl,_,_⟩:=hV';have hc:=Aex _ _ 1 (w.alloc (.cells #[.int .i64 k,.bool b,.int .i64 n,.string t,.slice la l.length lc,.slice oa o.length oc] 37)) (Ac.more (by simp) _ _ (hV.below ((Below.refl _ _).alloc (Nat.le_refl _) _))) hb (by omega) (by omega);generalize Au _ _=m at hc ⊢;have H:=qz hc;clear hc hV;go_enter Tryz.func53,Tryz.ntmps53;go_wp2_with (go_at_call 95;refine(H.out).mono ?_;rintro e w' ⟨rfl,hb1⟩);go_ret;exact⟨rfl,((Below.refl _ _).alloc (Nat.le_refl _) _).trans (hb1.mono (by simp))⟩
def Ls (w:World) (g:Nat) (v:Val) (c:List Value) (w':World):Prop:=
 Below w.heap.size w w'/\w'.heap[g]? =some (.cells c.toArray 37 (0,0))/\Cm w'/\Ac w' w'.heap.size v c
theorem Ls.step {w w' w'':World} {g:Nat} {v:Val} {c:List Value} (h:Ls w g v c w') (hb:Below w'.heap.size w' w''):Ls w g v c w'':=by
 obtain⟨h1,h2,h3,h4⟩:=h;exact⟨h1.trans (hb.mono h1.size),(hb.block _ (Array.getElem?_eq_some_iff.1 h2).1).trans h2,h3.below hb,Ac.more hb.size _ _ (h4.below hb)⟩
theorem Ls.start {w:World} {v:Val} {c:List Value} (hT:Cm w) (hV:Ac w w.heap.size v c):Ls w w.heap.size v c (w.alloc (.cells c.toArray 37)):=by
 have hb:Below w.heap.size w (w.alloc (.cells c.toArray 37)):=(Below.refl _ _).alloc (Nat.le_refl _) _;exact⟨hb,heap_alloc_new _ _,hT.below hb,Ac.more hb.size _ _ (hV.below hb)⟩
theorem Ls.cells {w w':World} {g:Nat} {v:Val} {k:Int} {b:Bool} {n:Int} {t:ByteArray} {x y:Value} (h:Ls w g v [.int .i64 k,.bool b,.int .i64 n,.string t,x,y] w'):
 w'.cell? ⟨g,0,none⟩=some (.int .i64 k)/\w'.cell? ⟨g,1,none⟩=some (.bool b)/\w'.cell? ⟨g,2,none⟩=some (.int .i64 n)/\w'.cell? ⟨g,3,none⟩=some (.string t)/\w'.cell? ⟨g,4,none⟩=some x/\w'.cell? ⟨g,5,none⟩=some y:=
 Wn h.2.1
theorem Ls.tabs {w w':World} {g:Nat} {v:Val} {c:List Value} (h:Ls w g v c w'):Cm w':=h.2.2.1
theorem Ls.below {w w':World} {g:Nat} {v:Val} {c:List Value} (h:Ls w g v c w'):Below w.heap.size w w':=h.1
def Gu (v:Val):Int:=if Au v 1=0 then(if 16<Ev v then 5 else if 1024<(Am v).length then 6 else 0)else Au v 1
theorem Adr (v:Val) (cs:List Value) (w:World) (hT:Cm w) (hV:Ac w w.heap.size v cs) (hb:v.bulk<=100000000) (hi:J9 v):
 Calls Tryz.prog 77 #[.agg cs.toArray] w fun e w'=>e=.returned (.int .i64 (Gu v))/\Below w.heap.size w w':=by
 have hV':=hV;obtain⟨k,b,n,t,l,o⟩:=v;simp only[Ac]at hV';obtain⟨la,lc,oa,oc,rfl,_,_⟩:=hV';have H1:=qz (Ls.start hT hV);obtain⟨v,hv⟩: ∃v,Val.mk k b n t l o=v:=⟨_,rfl⟩;rw[hv]at hi hb H1 ⊢;have CM:=fun w' (h:Ls w w.heap.size v (Ei k b n t la l.length lc oa o.length oc) w')=>Qw v _ w' h.tabs h.2.2.2 (by omega);unfold Gu;by_cases hm:Au v 1=0
 . have hok:=Zn v 1 hm hi;have CB:=fun w' (h:Ls w w.heap.size v (Ei k b n t la l.length lc oa o.length oc) w')=>Aa2 v _ w' h.tabs h.2.2.2 (by omega) hok;have CD:=fun w' (h:Ls w w.heap.size v (Ei k b n t la l.length lc oa o.length oc) w')=>Ad8 v _ w' h.2.2.2 (by omega);rw[if_pos hm];rw[hm]at CM;generalize (Am v).length=L at CB ⊢;generalize Ev v=D at CD ⊢;obtain⟨HB,HD,HM⟩:=hid3 CB CD CM;clear CB CM CD hm hi hb hT hV hv hok;by_cases hd:16<D
   . rw[if_pos hd];go_enter Tryz.func77,Tryz.ntmps77;go_wp2_with (fail);(with_reducible refine(HM.out _ H1.out).mono ?_);rintro e w2 ⟨rfl,hb2⟩;have H2:=qz (H1.out.step hb2);obtain⟨d0,d1,d2,d3,d4,d5⟩:=H2.out.cells;clear hb2 H1;go_wp2_with (fail);(with_reducible refine(HD.out _ H2.out).mono ?_);rintro e w3 ⟨rfl,hb3⟩;have H3:=qz (H2.out.step hb3);clear d0 d1 d2 d3 d4 d5 hb3 H2;go_wp2;go_ret;exact⟨rfl,H3.out.below⟩
   . rw[if_neg hd];by_cases hl:1024<L
     all_goals
      (first|rw[if_pos hl]|rw[if_neg hl])
      go_enter Tryz.func77,Tryz.ntmps77;go_wp2_with (fail);(with_reducible refine(HM.out _ H1.out).mono ?_);rintro e w2 ⟨rfl,hb2⟩;have H2:=qz (H1.out.step hb2);obtain⟨d0,d1,d2,d3,d4,d5⟩:=H2.out.cells;clear hb2 H1;go_wp2_with (fail);(with_reducible refine(HD.out _ H2.out).mono ?_);rintro e w3 ⟨rfl,hb3⟩;have H3:=qz (H2.out.step hb3);clear d0 d1 d2 d3 d4 d5 hb3 H2;obtain⟨d0,d1,d2,d3,d4,d5⟩:=H3.out.cells;go_wp2_with (fail);(with_reducible refine(HB.out _ H3.out).mono ?_);rintro e w4 ⟨rfl,hb4⟩;have H4:=qz (H3.out.step hb4);clear d0 d1 d2 d3 d4 d5 hb4 H3;go_wp2;go_ret;exact⟨rfl,H4.out.below⟩
 . rw[if_neg hm];have hmb:(Au v 1==0)=false:=by simpa using hm
   have hmn:(Au v 1 != 0)=true:=by simpa using hm
   generalize Au v 1=m at*
   have HM:=qz CM;clear CM hm hi hb hT hV hv;go_enter Tryz.func77,Tryz.ntmps77;go_wp2_with (fail);(with_reducible refine(HM.out _ H1.out).mono ?_);rintro e w2 ⟨rfl,hb2⟩;have H2:=qz (H1.out.step hb2);clear hb2 H1;go_wp2;go_ret;exact⟨rfl,H2.out.below⟩
theorem Aao (v:Val) (cs:List Value) (w:World) (hT:Cm w) (hV:Ac w w.heap.size v cs) (hb:v.bulk<=100000000) (hi:J9 v):
 Calls Tryz.prog 64 #[.agg cs.toArray] w fun e w'=>e=.returned (.int .i64 (Gu v))/\Below w.heap.size w w':=by
 have hV':=hV;obtain⟨k,b,n,t,l,o⟩:=v;simp only[Ac]at hV';obtain⟨la,lc,oa,oc,rfl,_,_⟩:=hV';have H1:=qz (Ls.start hT hV);obtain⟨v,hv⟩: ∃v,Val.mk k b n t l o=v:=⟨_,rfl⟩;rw[hv]at hi hb H1 ⊢;have CM:=fun w' (h:Ls w w.heap.size v (Ei k b n t la l.length lc oa o.length oc) w')=>Ti v _ w' h.2.2.2 (by omega);unfold Gu;by_cases hm:Au v 1=0
 . have CB:=fun w' (h:Ls w w.heap.size v (Ei k b n t la l.length lc oa o.length oc) w')=>R9 v _ w' 1 h.2.2.2 (by omega) hm hi;have CD:=fun w' (h:Ls w w.heap.size v (Ei k b n t la l.length lc oa o.length oc) w')=>Acv v _ w' h.2.2.2 (by omega);obtain⟨S,hS⟩: ∃S:ByteArray,(⟨(Am v).toArray⟩:ByteArray)=S:=⟨_,rfl⟩;have hL:(Am v).length=S.size:=by rw[<-hS,Ob]
   rw[if_pos hm,hL];rw[hm]at CM;rw[hS]at CB;generalize Ev v=D at CD ⊢;obtain⟨HB,HD,HM⟩:=hid3 CB CD CM;clear CB CM CD hm hi hb hT hV hv hS hL;by_cases hd:16<D
   . rw[if_pos hd];go_enter Tryz.func64,Tryz.ntmps64;go_wp2_with (fail);(with_reducible refine(HM.out _ H1.out).mono ?_);rintro e w2 ⟨rfl,hb2⟩;have H2:=qz (H1.out.step hb2);obtain⟨d0,d1,d2,d3,d4,d5⟩:=H2.out.cells;clear hb2 H1;go_wp2_with (fail);(with_reducible refine(HD.out _ H2.out).mono ?_);rintro e w3 ⟨rfl,hb3⟩;have H3:=qz (H2.out.step hb3);clear d0 d1 d2 d3 d4 d5 hb3 H2;go_wp2;go_ret;exact⟨rfl,H3.out.below⟩
   . rw[if_neg hd];by_cases hl:1024<S.size
     all_goals
      (first|rw[if_pos hl]|rw[if_neg hl])
      go_enter Tryz.func64,Tryz.ntmps64;go_wp2_with (fail);(with_reducible refine(HM.out _ H1.out).mono ?_);rintro e w2 ⟨rfl,hb2⟩;have H2:=qz (H1.out.step hb2);obtain⟨d0,d1,d2,d3,d4,d5⟩:=H2.out.cells;clear hb2 H1;go_wp2_with (fail);(with_reducible refine(HD.out _ H2.out).mono ?_);rintro e w3 ⟨rfl,hb3⟩;have H3:=qz (H2.out.step hb3);clear d0 d1 d2 d3 d4 d5 hb3 H2;obtain⟨d0,d1,d2,d3,d4,d5⟩:=H3.out.cells;go_wp2_with (fail);(with_reducible refine(HB.out _ H3.out).mono ?_);rintro e w4 ⟨rfl,hb4⟩;have H4:=qz (H3.out.step hb4);clear d0 d1 d2 d3 d4 d5 hb4 H3;go_wp2;go_ret;exact⟨rfl,H4.out.below⟩
 . rw[if_neg hm];have hmb:(Au v 1==0)=false:=by simpa using hm
   have hmn:(Au v 1 != 0)=true:=by simpa using hm
   generalize Au v 1=m at*
   have HM:=qz CM;clear CM hm hi hb hT hV hv;go_enter Tryz.func64,Tryz.ntmps64;go_wp2_with (fail);(with_reducible refine(HM.out _ H1.out).mono ?_);rintro e w2 ⟨rfl,hb2⟩;have H2:=qz (H1.out.step hb2);clear hb2 H1;go_wp2;go_ret;exact⟨rfl,H2.out.below⟩
structure POp where
 k:Int
 key:ByteArray
 v:Val
def Ze (k:ByteArray):Bool:= !k.toList.isEmpty&&(decide (k.size<=64)&&A9 k)
def Oe (k:ByteArray):Int:=if k.toList.isEmpty then 8 else if 64<k.size then 6 else if A9 k then 0 else 3
theorem Xc (k:ByteArray):Oe k=0 ↔ Ze k=true:=by
 unfold Oe Ze
 cases k.toList.isEmpty<;>by_cases h:64<k.size<;>cases A9 k<;>simp[h]<;>omega
def Anl:Val->Bool
 | .mk k b n t l o=>Aod k b n t l.length o.length
theorem Ry: ∀{l:List Val},(∀v ∈ l,∀d d':Int,Au v d'=0->d+Ev v<=65->Au v d=0)-> ∀{d d':Int},C2 l d'=0->(l= []\/d+E7 l<=65)->C2 l d=0
 | [],_,_,_,_,_=>by simp[C2]
 |v::r,ih,d,d',h,hd=>by
  have hd:=hd.resolve_left (by simp);simp only[E7]at hd;simp only[C2]at h ⊢;by_cases h0:Au v d'=0
  . rw[if_pos h0]at h;rw[if_pos (ih v (by simp) d d' h0 (by omega))];exact Ry (fun x hx=>ih x (by simp[hx])) h (.inr (by omega))
  . rw[if_neg h0]at h;exact absurd h h0
theorem Rz: ∀{l:List (ByteArray×Val)},(∀m ∈ l,∀d d':Int,Au m.2 d'=0->d+Ev m.2<=65->Au m.2 d=0)-> ∀{last:Option ByteArray} {d d':Int},Ep l last d'=0->(l= []\/d+Ja l<=65)->Ep l last d=0
 | [],_,_,_,_,_,_=>by simp[Ep]
 |(key,v)::r,ih,last,d,d',h,hd=>by
  have hd:=hd.resolve_left (by simp);simp only[Ja,Abc]at hd;simp only[Ep]at h ⊢;by_cases h0:Q6 (key,v) last d'=0
  . rw[if_pos h0]at h;have h1:Q6 (key,v) last d=0:=by
     simp only[Q6]at h0 ⊢;by_cases hv:A9 key=true
     . rw[if_pos hv]at h0 ⊢
       cases last with
       |none=>exact ih (key,v) (by simp) d d' h0 (by simp only;omega)
       |some q=>
        simp only at h0 ⊢;by_cases hl:leB key q=true
        . rw[if_pos hl]at h0;cases h0
        . rw[if_neg hl]at h0 ⊢;exact ih (key,v) (by simp) d d' h0 (by simp only;omega)
     . rw[if_neg hv]at h0;cases h0
    rw[if_pos h1];exact Rz (fun x hx=>ih x (by simp[hx])) h (.inr (by omega))
  . rw[if_neg h0]at h;exact absurd h h0
theorem Ab4: ∀(v:Val) (d d':Int),Au v d'=0->d+Ev v<=65->Au v d=0:=by
 refine Val.ind ?_;intro k b n t l o hl ho d d' h hd;obtain⟨h1,_,h3,h4,h5⟩:=Em h;obtain⟨_,_,k5,k6⟩:=Fa h1;simp only[Ev]at hd;have hL:C2 l (d+1)=0:=by
  refine Ry hl h4 ?_;rcases k5 with e|e
  . rw[if_pos e]at hd;exact .inr (by omega)
  . exact .inl (List.length_eq_zero_iff.1 e)
 have hO:Ep o none (d+1)=0:=by
  refine Rz ho h5 ?_;rcases k6 with e|e
  . rw[if_neg (by omega),if_pos e]at hd;exact .inr (by omega)
  . exact .inl (List.length_eq_zero_iff.1 e)
 have h64: ¬64<d:=by
  have:0<=(if k=5 then E7 l else if k=6 then Ja o else 0):=Nat.zero_le _;omega
 simp only[Au];rw[if_neg (by rw[h1];simp),if_neg h64,if_pos h3,if_pos hL,hO]
abbrev Ae4:ByteArray:=⟨#[]⟩
abbrev Ams:ByteArray:=⟨#[107,101,121]⟩
abbrev Apf:ByteArray:=⟨#[118,97,108,117,101]⟩
def tv (s:ByteArray):Val:=.mk 4 false 0 s [] []
def iv (n:Int):Val:=.mk 3 false n Ae4 [] []
def lv (l:List Val):Val:=.mk 5 false 0 Ae4 l []
def ov (o:List (ByteArray×Val)):Val:=.mk 6 false 0 Ae4 [] o
theorem Ae5:A9 Ae4=true:=by decide
theorem An9 (n:Nat):Gm 6 false 0 Ae4 0 n=false:=by simp[Gm,Lib.toList_data]
theorem An7 {k:Int} {b:Bool} {n:Int} {t:ByteArray} {l:List Val} {o:List (ByteArray×Val)} {d:Int} (h1:Gm k b n t l.length o.length=false) (h2:d<=64) (h3:A9 t=true) (h4:C2 l (d+1)=0) (h5:Ep o none (d+1)=0):Au (.mk k b n t l o) d=0:=by
 simp only[Au];rw[if_neg (by rw[h1];simp),if_neg (by omega),if_pos h3,if_pos h4];exact h5
theorem An8 {o:List (ByteArray×Val)} {d:Int} (hd:d<=64) (h:Ep o none (d+1)=0):Au (ov o) d=0:=An7 (An9 _) hd Ae5 (by simp[C2]) h
theorem O6 {v:Val} (h:Gu v=0):Au v 1=0/\Ev v<=16/\(Am v).length<=1024:=by
 unfold Gu at h;by_cases h1:Au v 1=0
 . rw[if_pos h1]at h;by_cases h2:16<Ev v
   . rw[if_pos h2]at h;cases h
   rw[if_neg h2]at h;by_cases h3:1024<(Am v).length
   . rw[if_pos h3]at h;cases h
   exact⟨h1,by omega,by omega⟩
 . rw[if_neg h1]at h;exact absurd h h1
end Go.Proofs.YtkmcjfkokoidcaaGreatDoor
