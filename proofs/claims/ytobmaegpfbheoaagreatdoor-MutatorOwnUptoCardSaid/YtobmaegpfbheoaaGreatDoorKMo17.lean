/- Parts: Digits, and what strconv.ParseInt says of them. Plain. No condition. -/
import Derived.Lib.ParseIntBCases
import Derived.Test.YtobmaegpfbheoaaGreatDoorKMo14
set_option maxHeartbeats 20000000
set_option maxRecDepth 100000
namespace Go.Proofs.YtobmaegpfbheoaaGreatDoor
open Go Go.RowKit
theorem Aio {w:World} {B n c:Nat} {l:List (ByteArray×Val)} {a:Option Addr} (h:Ai w B (.row 7 (dO l)) [.slice a n c]) {q:Nat} {key:ByteArray} {k':Int} {b':Bool} {n':Int} {t':ByteArray} {l':List Val} {o':List (ByteArray×Val)} (hi:l[q]? =some (key,.mk k' b' n' t' l' o')):
 ∃g off,a=some ⟨g,off,none⟩/\g<B/\ ∃la lc oa oc,Ai w B (dV (.mk k' b' n' t' l' o')) [.int .i64 k',.bool b',.int .i64 n',.string t',.slice la l'.length lc,.slice oa o'.length oc]/\
  w.cell? ⟨g,off+q*7,none⟩=some (.string key)/\w.cell? ⟨g,off+q*7+1,none⟩=some (.int .i64 k')/\w.cell? ⟨g,off+q*7+2,none⟩=some (.bool b')/\
  w.cell? ⟨g,off+q*7+3,none⟩=some (.int .i64 n')/\w.cell? ⟨g,off+q*7+4,none⟩=some (.string t')/\w.cell? ⟨g,off+q*7+5,none⟩=some (.slice la l'.length lc)/\w.cell? ⟨g,off+q*7+6,none⟩=some (.slice oa o'.length oc):=by
 obtain⟨g,off,ea,hg,cs,h1,_,h3⟩:=h.at_ (i:=q) (d:=dP (key,.mk k' b' n' t' l' o')) (by rw[D4,List.getElem?_map,hi];rfl);unfold dP at h1;simp only[Ai]at h1;obtain⟨_,_,rfl,⟨rfl,_⟩,cv,_,rfl,h4,rfl⟩:=h1;have h6:=Co _ _ h4;simp only[Ac]at h6;obtain⟨la,lc,oa,oc,rfl,_,_⟩:=h6;exact⟨g,off,ea,hg,la,lc,oa,oc,h4,h3 0 _ rfl,h3 1 _ rfl,h3 2 _ rfl,h3 3 _ rfl,h3 4 _ rfl,h3 5 _ rfl,h3 6 _ rfl⟩
theorem Air {w:World} {B:Nat} {k':Int} {b':Bool} {n':Int} {t':ByteArray} {l':List Val} {o':List (ByteArray×Val)} {x0 x1 x2 x3 x4 oa:Value} (h:Ai w B (dV (.mk k' b' n' t' l' o')) [x0,x1,x2,x3,x4,oa]):Ai w B (.row 7 (dO o')) [oa]:=by
 have h':Ah w B [.leaf (.int .i64 k'),.leaf (.bool b'),.leaf (.int .i64 n'),.leaf (.string t'),.row 6 (dL l'),.row 7 (dO o')] [x0,x1,x2,x3,x4,oa]:=by
  unfold dV Ai at h;exact h
 obtain⟨c4,c5,e,_,_,_,_,h4,h5⟩:=Ah.six.1 h';have l4:=h4.len.1;have l5:=h5.len.1
 match c4,l4,c5,l5,e with
 | [u],_, [v],_,e=>
   simp only[List.cons_append,List.nil_append,List.cons.injEq,and_true]at e;obtain⟨_,_,_,_,_,rfl⟩:=e;exact h5
theorem Agk {w:World} {B:Nat} {k':Int} {b':Bool} {n':Int} {t':ByteArray} {l':List Val} {o':List (ByteArray×Val)} {x0 x1 x2 x3 la x5:Value} (h:Ai w B (dV (.mk k' b' n' t' l' o')) [x0,x1,x2,x3,la,x5]):Ai w B (.row 6 (dL l')) [la]:=by
 have h':Ah w B [.leaf (.int .i64 k'),.leaf (.bool b'),.leaf (.int .i64 n'),.leaf (.string t'),.row 6 (dL l'),.row 7 (dO o')] [x0,x1,x2,x3,la,x5]:=by
  unfold dV Ai at h;exact h
 obtain⟨c4,c5,e,_,_,_,_,h4,h5⟩:=Ah.six.1 h';have l4:=h4.len.1;have l5:=h5.len.1
 match c4,l4,c5,l5,e with
 | [u],_, [v],_,e=>
   simp only[List.cons_append,List.nil_append,List.cons.injEq,and_true]at e;obtain⟨_,_,_,_,rfl,_⟩:=e;exact h4
theorem Afu {key:ByteArray} {v:Val} (w:World) (B:Nat) (cs:List Value) (h:Ai w B (dP (key,v)) cs):cs[0]? =some (.string key):=by
 unfold dP at h;simp only[Ai]at h;obtain⟨_,_,rfl,⟨rfl,_⟩,_⟩:=h;rfl
theorem Ajn {key:ByteArray} {v:Val} {w:World} {B:Nat} {u:Value} {cs:List Value} (h:Ai w B (dP (key,v)) (u::cs)):Ai w B (dV v) cs:=by
 unfold dP at h;simp only[Ai]at h;obtain⟨_,_,e,⟨rfl,_⟩,cv,_,rfl,h4,rfl⟩:=h;simp only[List.cons_append,List.nil_append,List.append_nil,List.cons.injEq]at e;rw[e.2];exact h4
theorem Sd {k:ByteArray}: ∀{o:List (ByteArray×Val)} {q:Nat} {p:ByteArray×Val},(∀x ∈ o.take q,x.1≠k)->o[q]? =some p->p.1=k->Av k o=some p.2
 | [],q,p,_,h,_=>by simp at h
 |x::r,0,p,_,h,e=>by
  simp only[List.getElem?_cons_zero,Option.some.injEq]at h;subst h;unfold Av;rw[if_pos e]
 |x::r,q+1,p,ht,h,e=>by
  unfold Av;rw[if_neg (ht x (by simp))];exact Sd (fun y hy=>ht y (by rw[List.take_succ_cons];exact List.mem_cons_of_mem _ hy)) (by simpa using h) e
theorem Adx {k:ByteArray} {o:List (ByteArray×Val)} (h: ∀x ∈ o,x.1≠k):Av k o=none:=by
 rw[Sc];intro hm;obtain⟨p,hp,e⟩:=List.mem_map.1 hm;exact h p hp e
theorem Xy (v:Val) (cs:List Value) (w:World) (hT:Cl w) (hV:Ac w w.heap.size v cs) (hb:v.bulk<=1000000000) (hok:okV v):
 Calls Tryz.prog 164 #[.agg cs.toArray] w fun e w'=>e=.returned (.int .i64 (Cs v).length)/\Below w.heap.size w w':=by
 have hV':=hV;obtain⟨k,b,n,t,l,o⟩:=v;simp only[Ac]at hV';obtain⟨la,lc,oa,oc,rfl,_,_⟩:=hV';obtain⟨w1,hw1⟩: ∃w1,w.alloc (.cells (Fb k b n t la l.length lc oa o.length oc).toArray 42)=w1:=⟨_,rfl⟩;have hb1:Below w.heap.size w w1:=hw1▸(Below.refl _ _).alloc (Nat.le_refl _) _;have hz1:w1.heap.size=w.heap.size+1:=by rw[<-hw1];simp
 have hc:=Pr k b n t l o la oa lc oc false w1 (hT.below hb1) (Ac.more hb1.size _ _ (hV.below hb1)) hb hok;have HO:=qz (fun w=>Nd k b n t la oa l.length lc o.length oc w);rw[hz1]at hc;generalize Cs (.mk k b n t l o)=L at*
 have ent:=Kj;obtain⟨HC,HAB⟩:=hid2 hc hb1;subst hw1;clear hc hV hb hok hT hz1 hb1;go_enter Tryz.func164,Tryz.ntmps164;go_wp2_with (first|(go_at_call 53;refine(HO.out _).mono ?_;rintro e w2 ⟨rfl,rfl⟩)|(go_at_fn (Nt k);refine(HC.out).mono ?_;rintro e w4 ⟨rfl,h6,h7⟩;have hW4:=h6;obtain⟨pp,vv,hbld⟩:=hW4;have g3:w4.cell? ⟨w.heap.size+1,3,none⟩=some (.int .i64 (L.length:Int)):=by(rw[Lib.cell_of_heap hbld.2.1];rfl)));go_ret;exact⟨rfl,HAB.out.trans (h7.mono (by simp))⟩
theorem Abo: ∀(v:Val),Afa v:=by
 refine Val.ind ?_;intro k b n t l o ihl iho cs d w hV hb h0 h65;simp only[Ac]at hV;obtain⟨la,lc,oa,oc,rfl,hL,hO⟩:=hV;simp only[Val.bulk]at hb;by_cases hodd:F8 k b n t l.length o.length=true
 . have hm:Bb (.mk k b n t l o) d=9:=by simp only[Bb,hodd,if_true]
   rw[hm];clear hm ihl iho hL hO;go_enter Tryz.func166,Tryz.ntmps166;go_wp2_with (go_at_call 209;refine(Jg hodd _).mono ?_;rintro e w' ⟨rfl,hb1⟩);go_ret;exact⟨rfl,((Below.refl _ _).alloc (Nat.le_refl _) _).trans (hb1.mono (by simp))⟩
 have hodd':F8 k b n t l.length o.length=false:=by simpa using hodd
 clear hodd;by_cases h64:64<d
 . have hm:Bb (.mk k b n t l o) d=5:=by simp only[Bb,hodd',Bool.false_eq_true,if_false,h64,if_true]
   rw[hm];clear hm ihl iho hL hO;go_enter Tryz.func166,Tryz.ntmps166;go_wp2_with (go_at_call 209;refine(Jg hodd' _).mono ?_;rintro e w' ⟨rfl,hb1⟩);go_ret;exact⟨rfl,((Below.refl _ _).alloc (Nat.le_refl _) _).trans (hb1.mono (by simp))⟩
 by_cases hval:Az t=true
 . obtain⟨hk,ht,hl,ho⟩:=Qc hodd';by_cases hl0:l= []
   . subst hl0;have hm:Bb (.mk k b n t [] o) d=C5 o none (d+1):=by
      simp only[Bb,hodd',Bool.false_eq_true,if_false,h64,hval,if_true,Ds]
     rw[hm];rcases hO with rfl|⟨g,off,rfl,hg,hO⟩
     . exact Yt k b n t [] la oa lc oc d w 0 0 (.inl rfl) (by simp only[Au]at hb ⊢;omega) h0 (by omega) iho hodd' hval
     . exact Yt k b n t o la _ lc oc d w g off (.inr ⟨rfl,hg,hO⟩) (by omega) h0 (by omega) iho hodd' hval
   . have hl1:0<l.length:=List.length_pos_iff.2 hl0;obtain rfl:o= []:=List.eq_nil_of_length_eq_zero (by omega);have hm:Bb (.mk k b n t l []) d=Ds l (d+1):=by
      simp only[Bb,hodd',Bool.false_eq_true,if_false,h64,hval,if_true,C5]
      split<;>simp_all
     rw[hm];rcases hL with rfl|⟨g,off,rfl,hg,hL⟩
     . exact absurd rfl hl0
     . exact Ad9 k b n t l _ oa lc oc d w g off (.inr ⟨rfl,hg,hL⟩) (by omega) h0 (by omega) ihl hodd' hval
 . have hval':Az t=false:=by simpa using hval
   have hm:Bb (.mk k b n t l o) d=3:=by simp only[Bb,hodd',Bool.false_eq_true,if_false,h64,hval']
   rw[hm];clear hm ihl iho hL hO hval;go_enter Tryz.func166,Tryz.ntmps166;go_wp2_with (first|(go_at_call 209;refine(Jg hodd' _).mono ?_;rintro e w1 ⟨rfl,hb1⟩;obtain⟨hc1,hf1⟩:=Hz hb1;have hz1:=hb1.size;simp only[World.size_alloc]at hz1;have hbw1:Below w.heap.size w w1:=((Below.refl _ _).alloc (Nat.le_refl _) _).trans (hb1.mono (by simp)))|(go_at_call 111;refine(Cj hval' _ (by omega)).mono ?_;rintro e w2 ⟨rfl,rfl⟩));go_ret;exact⟨rfl,hbw1⟩
theorem Aak (v:Val) (cs:List Value) (w:World) (hV:Ac w w.heap.size v cs) (hb:v.bulk<=1000000000):
 Calls Tryz.prog 132 #[.agg cs.toArray] w fun e w'=>e=.returned (.int .i64 (Bb v 1))/\Below w.heap.size w w':=by
 have hV':=hV;obtain⟨k,b,n,t,l,o⟩:=v;simp only[Ac]at hV';obtain⟨la,lc,oa,oc,rfl,_,_⟩:=hV';have hc:=Abo _ _ 1 (w.alloc (.cells #[.int .i64 k,.bool b,.int .i64 n,.string t,.slice la l.length lc,.slice oa o.length oc] 42)) (Ac.more (by simp) _ _ (hV.below ((Below.refl _ _).alloc (Nat.le_refl _) _))) hb (by omega) (by omega);generalize Bb _ _=m at hc ⊢;have H:=qz hc;clear hc hV;go_enter Tryz.func132,Tryz.ntmps132;go_wp2_with (go_at_call 166;refine(H.out).mono ?_;rintro e w' ⟨rfl,hb1⟩);go_ret;exact⟨rfl,((Below.refl _ _).alloc (Nat.le_refl _) _).trans (hb1.mono (by simp))⟩
def Ld (w:World) (g:Nat) (v:Val) (c:List Value) (w':World):Prop:=
 Below w.heap.size w w'/\w'.heap[g]? =some (.cells c.toArray 42 (0,0))/\Cl w'/\Ac w' w'.heap.size v c
theorem Ld.step {w w' w'':World} {g:Nat} {v:Val} {c:List Value} (h:Ld w g v c w') (hb:Below w'.heap.size w' w''):Ld w g v c w'':=by
 obtain⟨h1,h2,h3,h4⟩:=h;exact⟨h1.trans (hb.mono h1.size),(hb.block _ (Array.getElem?_eq_some_iff.1 h2).1).trans h2,h3.below hb,Ac.more hb.size _ _ (h4.below hb)⟩
theorem Ld.start {w:World} {v:Val} {c:List Value} (hT:Cl w) (hV:Ac w w.heap.size v c):Ld w w.heap.size v c (w.alloc (.cells c.toArray 42)):=by
 have hb:Below w.heap.size w (w.alloc (.cells c.toArray 42)):=(Below.refl _ _).alloc (Nat.le_refl _) _;exact⟨hb,heap_alloc_new _ _,hT.below hb,Ac.more hb.size _ _ (hV.below hb)⟩
theorem Ld.cells {w w':World} {g:Nat} {v:Val} {k:Int} {b:Bool} {n:Int} {t:ByteArray} {x y:Value} (h:Ld w g v [.int .i64 k,.bool b,.int .i64 n,.string t,x,y] w'):
 w'.cell? ⟨g,0,none⟩=some (.int .i64 k)/\w'.cell? ⟨g,1,none⟩=some (.bool b)/\w'.cell? ⟨g,2,none⟩=some (.int .i64 n)/\w'.cell? ⟨g,3,none⟩=some (.string t)/\w'.cell? ⟨g,4,none⟩=some x/\w'.cell? ⟨g,5,none⟩=some y:=
 Uj h.2.1
theorem Ld.tabs {w w':World} {g:Nat} {v:Val} {c:List Value} (h:Ld w g v c w'):Cl w':=h.2.2.1
theorem Ld.below {w w':World} {g:Nat} {v:Val} {c:List Value} (h:Ld w g v c w'):Below w.heap.size w w':=h.1
def Ex (v:Val):Int:=if Bb v 1=0 then(if 16<E5 v then 5 else if 1024<(Cs v).length then 6 else 0)else Bb v 1
theorem Rr (v:Val) (cs:List Value) (w:World) (hT:Cl w) (hV:Ac w w.heap.size v cs) (hb:v.bulk<=100000000) (hi:It v):
 Calls Tryz.prog 119 #[.agg cs.toArray] w fun e w'=>e=.returned (.int .i64 (Ex v))/\Below w.heap.size w w':=by
 have hV':=hV;obtain⟨k,b,n,t,l,o⟩:=v;simp only[Ac]at hV';obtain⟨la,lc,oa,oc,rfl,_,_⟩:=hV';have H1:=qz (Ld.start hT hV);obtain⟨v,hv⟩: ∃v,Val.mk k b n t l o=v:=⟨_,rfl⟩;rw[hv]at hi hb H1 ⊢;have CM:=fun w' (h:Ld w w.heap.size v (Fb k b n t la l.length lc oa o.length oc) w')=>Ps v _ w' h.tabs h.2.2.2 (by omega);unfold Ex;by_cases hm:Bb v 1=0
 . have hok:=Abw v 1 hm hi;have CB:=fun w' (h:Ld w w.heap.size v (Fb k b n t la l.length lc oa o.length oc) w')=>Xy v _ w' h.tabs h.2.2.2 (by omega) hok;have CD:=fun w' (h:Ld w w.heap.size v (Fb k b n t la l.length lc oa o.length oc) w')=>Aa0 v _ w' h.2.2.2 (by omega);rw[if_pos hm];rw[hm]at CM;generalize (Cs v).length=L at CB ⊢;generalize E5 v=D at CD ⊢;obtain⟨HB,HD,HM⟩:=hid3 CB CD CM;clear CB CM CD hm hi hb hT hV hv hok;by_cases hd:16<D
   . rw[if_pos hd];go_enter Tryz.func119,Tryz.ntmps119;go_wp2_with (fail);(with_reducible refine(HM.out _ H1.out).mono ?_);rintro e w2 ⟨rfl,hb2⟩;have H2:=qz (H1.out.step hb2);obtain⟨d0,d1,d2,d3,d4,d5⟩:=H2.out.cells;clear hb2 H1;go_wp2_with (fail);(with_reducible refine(HD.out _ H2.out).mono ?_);rintro e w3 ⟨rfl,hb3⟩;have H3:=qz (H2.out.step hb3);clear d0 d1 d2 d3 d4 d5 hb3 H2;go_wp2;go_ret;exact⟨rfl,H3.out.below⟩
   . rw[if_neg hd];by_cases hl:1024<L
     all_goals
      (first|rw[if_pos hl]|rw[if_neg hl])
      go_enter Tryz.func119,Tryz.ntmps119;go_wp2_with (fail);(with_reducible refine(HM.out _ H1.out).mono ?_);rintro e w2 ⟨rfl,hb2⟩;have H2:=qz (H1.out.step hb2);obtain⟨d0,d1,d2,d3,d4,d5⟩:=H2.out.cells;clear hb2 H1;go_wp2_with (fail);(with_reducible refine(HD.out _ H2.out).mono ?_);rintro e w3 ⟨rfl,hb3⟩;have H3:=qz (H2.out.step hb3);clear d0 d1 d2 d3 d4 d5 hb3 H2;obtain⟨d0,d1,d2,d3,d4,d5⟩:=H3.out.cells;go_wp2_with (fail);(with_reducible refine(HB.out _ H3.out).mono ?_);rintro e w4 ⟨rfl,hb4⟩;have H4:=qz (H3.out.step hb4);clear d0 d1 d2 d3 d4 d5 hb4 H3;go_wp2;go_ret;exact⟨rfl,H4.out.below⟩
 . rw[if_neg hm];have hmb:(Bb v 1==0)=false:=by simpa using hm
   have hmn:(Bb v 1 != 0)=true:=by simpa using hm
   generalize Bb v 1=m at*
   have HM:=qz CM;clear CM hm hi hb hT hV hv;go_enter Tryz.func119,Tryz.ntmps119;go_wp2_with (fail);(with_reducible refine(HM.out _ H1.out).mono ?_);rintro e w2 ⟨rfl,hb2⟩;have H2:=qz (H1.out.step hb2);clear hb2 H1;go_wp2;go_ret;exact⟨rfl,H2.out.below⟩
theorem Qi (v:Val) (cs:List Value) (w:World) (hT:Cl w) (hV:Ac w w.heap.size v cs) (hb:v.bulk<=100000000) (hi:It v):
 Calls Tryz.prog 85 #[.agg cs.toArray] w fun e w'=>e=.returned (.int .i64 (Ex v))/\Below w.heap.size w w':=by
 have hV':=hV;obtain⟨k,b,n,t,l,o⟩:=v;simp only[Ac]at hV';obtain⟨la,lc,oa,oc,rfl,_,_⟩:=hV';have H1:=qz (Ld.start hT hV);obtain⟨v,hv⟩: ∃v,Val.mk k b n t l o=v:=⟨_,rfl⟩;rw[hv]at hi hb H1 ⊢;have CM:=fun w' (h:Ld w w.heap.size v (Fb k b n t la l.length lc oa o.length oc) w')=>Aak v _ w' h.2.2.2 (by omega);unfold Ex;by_cases hm:Bb v 1=0
 . have CB:=fun w' (h:Ld w w.heap.size v (Fb k b n t la l.length lc oa o.length oc) w')=>Zq v _ w' 1 h.2.2.2 (by omega) hm hi;have CD:=fun w' (h:Ld w w.heap.size v (Fb k b n t la l.length lc oa o.length oc) w')=>Zi v _ w' h.2.2.2 (by omega);obtain⟨S,hS⟩: ∃S:ByteArray,(⟨(Cs v).toArray⟩:ByteArray)=S:=⟨_,rfl⟩;have hL:(Cs v).length=S.size:=by rw[<-hS,Nk]
   rw[if_pos hm,hL];rw[hm]at CM;rw[hS]at CB;generalize E5 v=D at CD ⊢;obtain⟨HB,HD,HM⟩:=hid3 CB CD CM;clear CB CM CD hm hi hb hT hV hv hS hL;by_cases hd:16<D
   . rw[if_pos hd];go_enter Tryz.func85,Tryz.ntmps85;go_wp2_with (fail);(with_reducible refine(HM.out _ H1.out).mono ?_);rintro e w2 ⟨rfl,hb2⟩;have H2:=qz (H1.out.step hb2);obtain⟨d0,d1,d2,d3,d4,d5⟩:=H2.out.cells;clear hb2 H1;go_wp2_with (fail);(with_reducible refine(HD.out _ H2.out).mono ?_);rintro e w3 ⟨rfl,hb3⟩;have H3:=qz (H2.out.step hb3);clear d0 d1 d2 d3 d4 d5 hb3 H2;go_wp2;go_ret;exact⟨rfl,H3.out.below⟩
   . rw[if_neg hd];by_cases hl:1024<S.size
     all_goals
      (first|rw[if_pos hl]|rw[if_neg hl])
      go_enter Tryz.func85,Tryz.ntmps85;go_wp2_with (fail);(with_reducible refine(HM.out _ H1.out).mono ?_);rintro e w2 ⟨rfl,hb2⟩;have H2:=qz (H1.out.step hb2);obtain⟨d0,d1,d2,d3,d4,d5⟩:=H2.out.cells;clear hb2 H1;go_wp2_with (fail);(with_reducible refine(HD.out _ H2.out).mono ?_);rintro e w3 ⟨rfl,hb3⟩;have H3:=qz (H2.out.step hb3);clear d0 d1 d2 d3 d4 d5 hb3 H2;obtain⟨d0,d1,d2,d3,d4,d5⟩:=H3.out.cells;go_wp2_with (fail);(with_reducible refine(HB.out _ H3.out).mono ?_);rintro e w4 ⟨rfl,hb4⟩;have H4:=qz (H3.out.step hb4);clear d0 d1 d2 d3 d4 d5 hb4 H3;go_wp2;go_ret;exact⟨rfl,H4.out.below⟩
 . rw[if_neg hm];have hmb:(Bb v 1==0)=false:=by simpa using hm
   have hmn:(Bb v 1 != 0)=true:=by simpa using hm
   generalize Bb v 1=m at*
   have HM:=qz CM;clear CM hm hi hb hT hV hv;go_enter Tryz.func85,Tryz.ntmps85;go_wp2_with (fail);(with_reducible refine(HM.out _ H1.out).mono ?_);rintro e w2 ⟨rfl,hb2⟩;have H2:=qz (H1.out.step hb2);clear hb2 H1;go_wp2;go_ret;exact⟨rfl,H2.out.below⟩
def G4 (k:Int) (b:Bool) (n:Int) (t:ByteArray) (ln on:Nat):Bool:=decide (k=0)&& !b&&decide (n=0)&&t.toList.isEmpty&&decide (ln=0)&&decide (on=0)
structure POp where
 k:Int
 key:ByteArray
 v:Val
def Agg (k:ByteArray):Bool:= !k.toList.isEmpty&&(decide (k.size<=64)&&Az k)
def Rh (k:ByteArray):Int:=if k.toList.isEmpty then 8 else if 64<k.size then 6 else if Az k then 0 else 3
theorem U0 (k:ByteArray):Rh k=0 ↔ Agg k=true:=by
 unfold Rh Agg
 cases k.toList.isEmpty<;>by_cases h:64<k.size<;>cases Az k<;>simp[h]<;>omega
def Es:Val->Bool
 | .mk k b n t l o=>G4 k b n t l.length o.length
theorem Km (k:Int) (b:Bool) (n:Int) (t:ByteArray) (la oa:Option Addr) (ln lc on oc:Nat) (B:Bool) (w:World) (h:G4 k b n t ln on=B):
 Calls Tryz.prog 159 #[.agg #[.int .i64 k,.bool b,.int .i64 n,.string t,.slice la ln lc,.slice oa on oc]] w fun e w'=>e=.returned (.bool B)/\Below w.heap.size w w':=by
 have Fin:Hid (∀X:Bool,X=G4 k b n t ln on->Ending.returned (.bool X)=.returned (.bool B)):=fun X hX=>by rw[hX,h]
 clear h;go_enter Tryz.func159,Tryz.ntmps159;go_wp2
 all_goals(go_ret;refine⟨Fin.out _ ?_,Aa _ _⟩;simp_all[G4,Afh])
def Tm (c:Int):Ending:=if c=0 then .returned (.tuple #[])else .panicked [{v:=.iface 172 (.agg #[.int .i64 c]),recovered:=false}]
theorem K4:Tm 0=.returned (.tuple #[]):=rfl
theorem Dy {c:Int} (h:c≠0):Tm c=.panicked [{v:=.iface 172 (.agg #[.int .i64 c]),recovered:=false}]:=by unfold Tm;rw[if_neg h]
theorem Dh (c:Int) (w:World):Calls Tryz.prog 74 #[.bool true,.int .i64 c] w fun e w'=>e=.returned (.tuple #[])/\w'=w:=by
 go_enter Tryz.func74,Tryz.ntmps74;go_wp2
 go_end0
 exact⟨rfl,rfl⟩
theorem Ia (c:Int) (w:World):Calls Tryz.prog 74 #[.bool false,.int .i64 c] w fun e w'=>e=.panicked [{v:=.iface 172 (.agg #[.int .i64 c]),recovered:=false}]/\w'=w:=by
 go_enter Tryz.func74,Tryz.ntmps74;go_wp2;exact⟨rfl,rfl,rfl⟩
theorem Zc (w:World):Calls Tryz.prog 118 #[.int .i64 0] w fun e w'=>e=.returned (.tuple #[])/\w'=w:=by
 have h:=fun W=>Dh 0 W;go_enter Tryz.func118,Tryz.ntmps118;go_wp2_with (go_at_call 74;(with_reducible refine(h _).mono ?_);rintro e w1 ⟨rfl,rfl⟩)
 go_end0
 exact⟨rfl,rfl⟩
theorem Ade (c:Int) (hc:c≠0) (w:World):Calls Tryz.prog 118 #[.int .i64 c] w fun e w'=>e=.panicked [{v:=.iface 172 (.agg #[.int .i64 c]),recovered:=false}]/\w'=w:=by
 have h:=fun W=>Ia c W;have t0:(c==0)=false:=by simpa using hc
 go_enter Tryz.func118,Tryz.ntmps118;go_wp2_with (go_at_call 74;(with_reducible refine(h _).mono ?_);rintro e w1 ⟨rfl,rfl⟩);exact⟨rfl,rfl,rfl⟩
inductive Mut where
 |mk (k:Int) (key dst:ByteArray) (n:Int) (had:Bool) (was:Val) (has:Bool) (v:Val) (l:List Mut)
theorem Mut.ind {p:Mut->Prop} (h: ∀k key dst n had was has v l,(∀m ∈ l,p m)->p (.mk k key dst n had was has v l)): ∀m,p m:=by
 intro m;refine Mut.rec (motive_1:=p) (motive_2:=fun l=> ∀m ∈ l,p m) ?_ ?_ ?_ m
 . intro k key dst n had was has v l hl;exact h _ _ _ _ _ _ _ _ _ hl
 . intro m hm
   cases hm
 . intro m r hm hr x hx;rcases List.mem_cons.1 hx with rfl|hx
   . exact hm
   . exact hr x hx
mutual
def dM:Mut->D
 | .mk k key dst n had was has v l=> .agg [.leaf (.int .i64 k),.leaf (.string key),.leaf (.string dst),.leaf (.int .i64 n),.leaf (.bool had),dV was,.leaf (.bool has),dV v,.row 19 (E2 l)]
def E2:List Mut->List D
 | []=> []
 |m::r=>dM m::E2 r
end
theorem C9 (m:Mut):(dM m).cells=19:=by
 cases m
 simp only[dM,D.cells,Kp,Cw]
theorem H8: ∀l:List Mut,E2 l=l.map dM
 | []=>rfl
 |m::r=>by simp only[E2,List.map_cons,H8 r]
theorem Px (l:List Mut): ∀d ∈ E2 l,d.cells=19:=by
 intro d hd;rw[H8]at hd;obtain⟨m,_,rfl⟩:=List.mem_map.1 hd;exact C9 m
theorem Gb (l:List Mut):(E2 l).length=l.length:=by rw[H8,List.length_map]
mutual
def Bm:Mut->Nat
 | .mk _ key dst _ _ was _ v l=>8+key.size+dst.size+was.bulk+v.bulk+Db l
def Db:List Mut->Nat
 | []=>0
 |m::r=>Bm m+Db r
end
theorem D3 {l:List Mut} {m:Mut} (h:m ∈ l):Bm m<=Db l:=by
 induction l with
 |nil=>cases h
 |cons x r ih=>
  simp only[Db];rcases List.mem_cons.1 h with rfl|h
  . omega
  . have:=ih h;omega
theorem El (l:List Mut):8*l.length<=Db l:=by
 induction l with
 |nil=>simp[Db]
 |cons x r ih=>
  simp only[Db,List.length_cons];have:8<=Bm x:=by cases x;simp only[Bm];omega
  omega
mutual
def Nv:Mut->Prop
 | .mk _ _ _ n _ was _ v l=>(-9223372036854775808<=n/\n<=9223372036854775807)/\It was/\It v/\Sf l
def Sf:List Mut->Prop
 | []=>True
 |m::r=>Nv m/\Sf r
end
theorem Sg {l:List Mut} {m:Mut} (h:m ∈ l) (hi:Sf l):Nv m:=by
 induction l with
 |nil=>cases h
 |cons x r ih=>
  simp only[Sf]at hi;rcases List.mem_cons.1 h with rfl|h
  . exact hi.1
  . exact ih h hi.2
mutual
def Cy:Mut->Nat
 | .mk _ _ _ _ _ _ _ _ l=>1+Bs l
def Bs:List Mut->Nat
 | []=>0
 |m::r=>Cy m+Bs r
end
theorem S5: ∀(a b:List Mut),Bs (a++b)=Bs a+Bs b
 | [],b=>by simp[Bs]
 |x::r,b=>by simp only[List.cons_append,Bs,S5 r b];omega
theorem Iz: ∀m,8*Cy m<=Bm m:=by
 refine Mut.ind ?_;intro k key dst n had was has v l hl;have:8*Bs l<=Db l:=by
  induction l with
  |nil=>simp[Bs,Db]
  |cons x r ih=>
   have h1:=hl x (by simp);have h2:=ih (fun m hm=>hl m (by simp[hm]));simp only[Bs,Db];omega
 simp only[Cy,Bm];omega
def Al (k:Int) (dst:ByteArray) (n:Int) (had wasZ has valZ:Bool) (ln:Nat):Bool:=
 decide (1<=k)&&decide (k<=7)&&(decide (k=6)||dst.toList.isEmpty)&&(decide (k=3)||decide (n=0))&&(decide (k=4)||decide (k=7)|| !had)&&(decide (k=4)|| !has)&&(had||wasZ)&&(decide (k=1)||decide (k=5)||(decide (k=4)&&has)||valZ)&&(decide (k=7)||decide (ln=0))
def Ee (s:ByteArray):Bool:=decide (s.size<=64)&&Az s
def Dq (k:Int) (key dst:ByteArray) (had:Bool):Bool:=if k=6 then Ee key&&Ee dst else if k=7/\key.toList.isEmpty=true then !had else Agg key
mutual
def Gi:Mut->Int->Int
 | .mk k key dst n had was has v l,d=>
   if Al k dst n had (Es was) has (Es v) l.length=false then 9 else if 6<d then 5 else if Dq k key dst had=false then 8
   else if had=true/\Ex was≠0 then Ex was else if(has||decide (k=1)||decide (k=5))=true/\Ex v≠0 then Ex v else Ml l (d+1)
def Ml:List Mut->Int->Int
 | [],_=>0
 |m::r,d=>if Gi m d=0 then Ml r d else Gi m d
end
def Di (m:Mut):Int:=if 64<Cy m then 6 else Gi m 1
theorem Sn {l:List Mut} {q:Nat} {m:Mut} (h:l[q]? =some m) (d:Int):Ml (l.drop q) d=if Gi m d=0 then Ml (l.drop (q+1)) d else Gi m d:=by
 obtain⟨hlt,rfl⟩:=List.getElem?_eq_some_iff.1 h;rw[List.drop_eq_getElem_cons hlt];rfl
structure Num where
 id:Int
 m:Mut
end Go.Proofs.YtobmaegpfbheoaaGreatDoor
namespace Go.Proofs.YtobmaegpfbheoaaGreatDoor
end Go.Proofs.YtobmaegpfbheoaaGreatDoor
namespace Go.Proofs.YtobmaegpfbheoaaGreatDoor
open Go Go.RowKit
def R6 (acc:Nat) (l:List UInt8):Nat:=l.foldl (fun a c=>a*10+(c.toNat - 48)) acc
theorem V3: ∀(l:List UInt8) (a:Nat),a<=R6 a l
 | [],a=>Nat.le_refl a
 |c::r,a=>by
  have:=V3 r (a*10+(c.toNat - 48));show a<=R6 (a*10+(c.toNat - 48)) r;omega
theorem Pk: ∀(l:List UInt8) (acc:Nat),(∀c ∈ l,G6 c=true)->Lib.parseUintM 18446744073709551615 acc l=if 18446744073709551615<R6 acc l/\l≠ []then .range else .ok (R6 acc l)
 | [],acc,_=>by simp[Lib.parseUintM,R6]
 |c::r,acc,h=>by
  have hc:=h c (by simp);unfold G6 at hc;rw[decide_eq_true_iff]at hc;have ih:=Pk r (acc*10+(c.toNat - 48)) (fun x hx=>h x (by simp[hx]));have e:R6 acc (c::r)=R6 (acc*10+(c.toNat - 48)) r:=rfl;have hg:=V3 r (acc*10+(c.toNat - 48));unfold Lib.parseUintM;rw[if_pos hc,e];by_cases h1:1844674407370955162<=acc
  . rw[if_pos h1,if_pos ⟨by omega,by simp⟩]
  . rw[if_neg h1];by_cases h2:18446744073709551615<acc*10+(c.toNat - 48)
    . rw[if_pos h2,if_pos ⟨by omega,by simp⟩]
    . rw[if_neg h2,ih];by_cases hr:r= []
      . subst hr;rw[if_neg (by simp)];have:R6 (acc*10+(c.toNat - 48)) []=acc*10+(c.toNat - 48):=rfl;rw[if_neg (by rw[this];omega)]
      . by_cases h3:18446744073709551615<R6 (acc*10+(c.toNat - 48)) r
        . rw[if_pos ⟨h3,hr⟩,if_pos ⟨h3,by simp⟩]
        . rw[if_neg (fun q=>h3 q.1),if_neg (fun q=>h3 q.1)]
theorem Pj {l:List UInt8} (h: ∀c ∈ l,G6 c=true) (hl:l≠ []):Lib.parseUintB 64 l=if 18446744073709551615<J6 l then .range else .ok (J6 l):=by
 unfold Lib.parseUintB;rw[if_neg hl];have:=Pk l 0 h;have e:R6 0 l=J6 l:=rfl;rw[e]at this;show Lib.parseUintM 18446744073709551615 0 l=_;rw[this];by_cases h3:18446744073709551615<J6 l
 . rw[if_pos ⟨h3,hl⟩,if_pos h3]
 . rw[if_neg (fun q=>h3 q.1),if_neg h3]
theorem Agf {l:List UInt8} (h: ∀c ∈ l,G6 c=true) (hl:l≠ []):Lib.parseIntB 64 l=if 9223372036854775807<J6 l then .range else .ok (J6 l:Int):=by
 obtain⟨c,r,rfl⟩: ∃c r,l=c::r:=by cases l with|nil=>exact absurd rfl hl|cons c r=>exact⟨c,r,rfl⟩
 have hc:=h c (by simp);unfold G6 at hc;rw[decide_eq_true_iff]at hc;unfold Lib.parseIntB;simp only;rw[if_neg (show ¬(c.toNat=43\/c.toNat=45)by omega),Pj h hl];have hn: ¬(c.toNat=45):=by omega
 by_cases h1:18446744073709551615<J6 (c::r)
 . rw[if_pos h1,if_pos (by omega)]
 . rw[if_neg h1];by_cases h2:9223372036854775807<J6 (c::r)
   . simp only[hn,not_false_eq_true,true_and,false_and,if_false];rw[if_pos h2,if_pos (by show 9223372036854775808<=_;omega)]
   . simp only[hn,not_false_eq_true,true_and,false_and,if_false];rw[if_neg h2,if_neg (by show ¬(9223372036854775808<=_);omega)]
theorem Age {l:List UInt8} (h: ∀c ∈ l,G6 c=true) (hl:l≠ []):Lib.parseIntB 64 (45::l)=if 9223372036854775808<J6 l then .range else .ok (-(J6 l:Int)):=by
 unfold Lib.parseIntB;simp only;rw[if_pos (by decide),Pj h hl];by_cases h1:18446744073709551615<J6 l
 . rw[if_pos h1,if_pos (by omega)]
 . rw[if_neg h1];have hn:(45:UInt8).toNat=45:=by decide
   by_cases h2:9223372036854775808<J6 l
   . simp only[hn,not_true_eq_false,true_and,false_and,if_false];rw[if_pos h2,if_pos (by show 9223372036854775808<_;omega)]
   . simp only[hn,not_true_eq_false,true_and,false_and,if_false,if_true]
theorem Adu (s:List UInt8) (f:Nat): ∀c ∈ (s.drop f).take (Dc s f - f),G6 c=true:=by
 intro c hc;obtain⟨i,hi⟩:=List.mem_iff_getElem?.1 hc;have hlt:i<Dc s f - f:=by
  by_cases h:i<Dc s f - f
  . exact h
  . rw[List.getElem?_take_eq_none (by omega)]at hi;cases hi
 rw[List.getElem?_take_of_lt hlt,List.getElem?_drop]at hi;exact R5 s f (f+i) c (by omega) (by omega) hi
theorem Aa2 {s:List UInt8} {f e:Nat} {x:UInt8} (hx:s[f]? =some x) (hz: ¬x=48) (hf:f<Dc s f) (he:Dc s f=e):J6 ((s.drop f).take (e - f))≠0:=by
 subst he;have hd:=R5 s f f x (Nat.le_refl _) hf hx;unfold G6 at hd;rw[decide_eq_true_iff]at hd;have hx48:x.toNat≠48:=fun q=>hz (UInt8.toNat_inj.1 q);obtain⟨n,hn⟩: ∃n,Dc s f - f=n+1:=⟨Dc s f - f - 1,by omega⟩;rw[hn,I7 hx,List.take_succ_cons];have h1:=V3 ((s.drop (f+1)).take n) (0*10+(x.toNat - 48));have e:J6 (x::(s.drop (f+1)).take n)=R6 (0*10+(x.toNat - 48)) ((s.drop (f+1)).take n):=rfl;rw[e];omega
end Go.Proofs.YtobmaegpfbheoaaGreatDoor
