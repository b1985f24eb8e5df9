/- Parts: A range over an iterator that writes blocks of its own (T) between its yields, and asks the body to keep what is its (K). No condition. -/
import Derived.Test.YtnkmhaachfgaoaaGreatDoorKPq13
import Derived.Test.YtnkmhaachfgaoaaGreatDoorKPq17
set_option maxHeartbeats 20000000
set_option maxRecDepth 100000
namespace Go.Proofs.YtnkmhaachfgaoaaGreatDoor
open Go.RowKit
def J3 (w:World) (g:Nat) (v:Val) (c:List Value) (w':World):Prop:=
 Below w.heap.size w w'/\w'.heap[g]? =some (.cells c.toArray 40 (0,0))/\Cr w'/\Ab w' w'.heap.size v c
theorem J3.step {w w' w'':World} {g:Nat} {v:Val} {c:List Value} (h:J3 w g v c w') (hb:Below w'.heap.size w' w''):J3 w g v c w'':=by
 obtain⟨h1,h2,h3,h4⟩:=h;exact⟨h1.trans (hb.mono h1.size),(hb.block _ (Array.getElem?_eq_some_iff.1 h2).1).trans h2,h3.below hb,Ab.more hb.size _ _ (h4.below hb)⟩
theorem J3.start {w:World} {v:Val} {c:List Value} (hT:Cr w) (hV:Ab w w.heap.size v c):J3 w w.heap.size v c (w.alloc (.cells c.toArray 40)):=by
 have hb:Below w.heap.size w (w.alloc (.cells c.toArray 40)):=(Below.refl _ _).alloc (Nat.le_refl _) _;exact⟨hb,heap_alloc_new _ _,hT.below hb,Ab.more hb.size _ _ (hV.below hb)⟩
theorem J3.cells {w w':World} {g:Nat} {v:Val} {k:Int} {b:Bool} {n:Int} {t:ByteArray} {x y:Value} (h:J3 w g v [.int .i64 k,.bool b,.int .i64 n,.string t,x,y] w'):
 w'.cell? ⟨g,0,none⟩=some (.int .i64 k)/\w'.cell? ⟨g,1,none⟩=some (.bool b)/\w'.cell? ⟨g,2,none⟩=some (.int .i64 n)/\w'.cell? ⟨g,3,none⟩=some (.string t)/\w'.cell? ⟨g,4,none⟩=some x/\w'.cell? ⟨g,5,none⟩=some y:=
 Tf h.2.1
theorem J3.tabs {w w':World} {g:Nat} {v:Val} {c:List Value} (h:J3 w g v c w'):Cr w':=h.2.2.1
theorem J3.below {w w':World} {g:Nat} {v:Val} {c:List Value} (h:J3 w g v c w'):Below w.heap.size w w':=h.1
def C6 (v:Val):Int:=if Bb v 1=0 then(if 16<Dy v then 5 else if 1024<(Cg v).length then 6 else 0)else Bb v 1
theorem Zh (v:Val) (cs:List Value) (w:World) (hT:Cr w) (hV:Ab w w.heap.size v cs) (hb:v.bulk<=100000000) (hi:M4 v):
 Calls Tryz.prog 64 #[.agg cs.toArray] w fun e w'=>e=.returned (.int .i64 (C6 v))/\Below w.heap.size w w':=by
 have hV':=hV;obtain⟨k,b,n,t,l,o⟩:=v;simp only[Ab]at hV';obtain⟨la,lc,oa,oc,rfl,_,_⟩:=hV';have H1:=qz (J3.start hT hV);obtain⟨v,hv⟩: ∃v,Val.mk k b n t l o=v:=⟨_,rfl⟩;rw[hv]at hi hb H1 ⊢;have CM:=fun w' (h:J3 w w.heap.size v (Dk k b n t la l.length lc oa o.length oc) w')=>Ta v _ w' h.tabs h.2.2.2 (by omega);unfold C6;by_cases hm:Bb v 1=0
 . have hok:=Aau v 1 hm hi;have CB:=fun w' (h:J3 w w.heap.size v (Dk k b n t la l.length lc oa o.length oc) w')=>Wx v _ w' h.tabs h.2.2.2 (by omega) hok;have CD:=fun w' (h:J3 w w.heap.size v (Dk k b n t la l.length lc oa o.length oc) w')=>Z0 v _ w' h.2.2.2 (by omega);rw[if_pos hm];rw[hm]at CM;generalize (Cg v).length=L at CB ⊢;generalize Dy v=D at CD ⊢;obtain⟨HB,HD,HM⟩:=hid3 CB CD CM;clear CB CM CD hm hi hb hT hV hv hok;by_cases hd:16<D
   . rw[if_pos hd];go_enter Tryz.func64,Tryz.ntmps64;go_wp2_with (fail);(with_reducible refine(HM.out _ H1.out).mono ?_);rintro e w2 ⟨rfl,hb2⟩;have H2:=qz (H1.out.step hb2);obtain⟨d0,d1,d2,d3,d4,d5⟩:=H2.out.cells;clear hb2 H1;go_wp2_with (fail);(with_reducible refine(HD.out _ H2.out).mono ?_);rintro e w3 ⟨rfl,hb3⟩;have H3:=qz (H2.out.step hb3);clear d0 d1 d2 d3 d4 d5 hb3 H2;go_wp2;go_ret;exact⟨rfl,H3.out.below⟩
   . rw[if_neg hd];by_cases hl:1024<L
     all_goals
      (first|rw[if_pos hl]|rw[if_neg hl])
      go_enter Tryz.func64,Tryz.ntmps64;go_wp2_with (fail);(with_reducible refine(HM.out _ H1.out).mono ?_);rintro e w2 ⟨rfl,hb2⟩;have H2:=qz (H1.out.step hb2);obtain⟨d0,d1,d2,d3,d4,d5⟩:=H2.out.cells;clear hb2 H1;go_wp2_with (fail);(with_reducible refine(HD.out _ H2.out).mono ?_);rintro e w3 ⟨rfl,hb3⟩;have H3:=qz (H2.out.step hb3);clear d0 d1 d2 d3 d4 d5 hb3 H2;obtain⟨d0,d1,d2,d3,d4,d5⟩:=H3.out.cells;go_wp2_with (fail);(with_reducible refine(HB.out _ H3.out).mono ?_);rintro e w4 ⟨rfl,hb4⟩;have H4:=qz (H3.out.step hb4);clear d0 d1 d2 d3 d4 d5 hb4 H3;go_wp2;go_ret;exact⟨rfl,H4.out.below⟩
 . rw[if_neg hm];have hmb:(Bb v 1==0)=false:=by simpa using hm
   have hmn:(Bb v 1 != 0)=true:=by simpa using hm
   generalize Bb v 1=m at*
   have HM:=qz CM;clear CM hm hi hb hT hV hv;go_enter Tryz.func64,Tryz.ntmps64;go_wp2_with (fail);(with_reducible refine(HM.out _ H1.out).mono ?_);rintro e w2 ⟨rfl,hb2⟩;have H2:=qz (H1.out.step hb2);clear hb2 H1;go_wp2;go_ret;exact⟨rfl,H2.out.below⟩
theorem O6 (v:Val) (cs:List Value) (w:World) (hT:Cr w) (hV:Ab w w.heap.size v cs) (hb:v.bulk<=100000000) (hi:M4 v):
 Calls Tryz.prog 37 #[.agg cs.toArray] w fun e w'=>e=.returned (.int .i64 (C6 v))/\Below w.heap.size w w':=by
 have hV':=hV;obtain⟨k,b,n,t,l,o⟩:=v;simp only[Ab]at hV';obtain⟨la,lc,oa,oc,rfl,_,_⟩:=hV';have H1:=qz (J3.start hT hV);obtain⟨v,hv⟩: ∃v,Val.mk k b n t l o=v:=⟨_,rfl⟩;rw[hv]at hi hb H1 ⊢;have CM:=fun w' (h:J3 w w.heap.size v (Dk k b n t la l.length lc oa o.length oc) w')=>Zj v _ w' h.2.2.2 (by omega);unfold C6;by_cases hm:Bb v 1=0
 . have CB:=fun w' (h:J3 w w.heap.size v (Dk k b n t la l.length lc oa o.length oc) w')=>Yr v _ w' 1 h.2.2.2 (by omega) hm hi;have CD:=fun w' (h:J3 w w.heap.size v (Dk k b n t la l.length lc oa o.length oc) w')=>Yl v _ w' h.2.2.2 (by omega);obtain⟨S,hS⟩: ∃S:ByteArray,(⟨(Cg v).toArray⟩:ByteArray)=S:=⟨_,rfl⟩;have hL:(Cg v).length=S.size:=by rw[<-hS,Qi]
   rw[if_pos hm,hL];rw[hm]at CM;rw[hS]at CB;generalize Dy v=D at CD ⊢;obtain⟨HB,HD,HM⟩:=hid3 CB CD CM;clear CB CM CD hm hi hb hT hV hv hS hL;by_cases hd:16<D
   . rw[if_pos hd];go_enter Tryz.func37,Tryz.ntmps37;go_wp2_with (fail);(with_reducible refine(HM.out _ H1.out).mono ?_);rintro e w2 ⟨rfl,hb2⟩;have H2:=qz (H1.out.step hb2);obtain⟨d0,d1,d2,d3,d4,d5⟩:=H2.out.cells;clear hb2 H1;go_wp2_with (fail);(with_reducible refine(HD.out _ H2.out).mono ?_);rintro e w3 ⟨rfl,hb3⟩;have H3:=qz (H2.out.step hb3);clear d0 d1 d2 d3 d4 d5 hb3 H2;go_wp2;go_ret;exact⟨rfl,H3.out.below⟩
   . rw[if_neg hd];by_cases hl:1024<S.size
     all_goals
      (first|rw[if_pos hl]|rw[if_neg hl])
      go_enter Tryz.func37,Tryz.ntmps37;go_wp2_with (fail);(with_reducible refine(HM.out _ H1.out).mono ?_);rintro e w2 ⟨rfl,hb2⟩;have H2:=qz (H1.out.step hb2);obtain⟨d0,d1,d2,d3,d4,d5⟩:=H2.out.cells;clear hb2 H1;go_wp2_with (fail);(with_reducible refine(HD.out _ H2.out).mono ?_);rintro e w3 ⟨rfl,hb3⟩;have H3:=qz (H2.out.step hb3);clear d0 d1 d2 d3 d4 d5 hb3 H2;obtain⟨d0,d1,d2,d3,d4,d5⟩:=H3.out.cells;go_wp2_with (fail);(with_reducible refine(HB.out _ H3.out).mono ?_);rintro e w4 ⟨rfl,hb4⟩;have H4:=qz (H3.out.step hb4);clear d0 d1 d2 d3 d4 d5 hb4 H3;go_wp2;go_ret;exact⟨rfl,H4.out.below⟩
 . rw[if_neg hm];have hmb:(Bb v 1==0)=false:=by simpa using hm
   have hmn:(Bb v 1 != 0)=true:=by simpa using hm
   generalize Bb v 1=m at*
   have HM:=qz CM;clear CM hm hi hb hT hV hv;go_enter Tryz.func37,Tryz.ntmps37;go_wp2_with (fail);(with_reducible refine(HM.out _ H1.out).mono ?_);rintro e w2 ⟨rfl,hb2⟩;have H2:=qz (H1.out.step hb2);clear hb2 H1;go_wp2;go_ret;exact⟨rfl,H2.out.below⟩
structure POp where
 k:Int
 key:ByteArray
 v:Val
def dQ (p:POp):D:=.agg [.leaf (.int .i64 p.k),.leaf (.string p.key),dV p.v]
theorem Jq (p:POp):(dQ p).cells=8:=by simp only[dQ,D.cells,Jf,Ey]
def Ex (l:List POp):List D:=l.map dQ
theorem Ot (l:List POp): ∀d ∈ Ex l,d.cells=8:=by
 intro d hd;obtain⟨v,_,rfl⟩:=List.mem_map.1 hd;exact Jq v
theorem Ee (l:List POp):(Ex l).length=l.length:=List.length_map ..
def Bo:List POp->Nat
 | []=>0
 |p::r=>2+p.key.size+p.v.bulk+Bo r
theorem Lv {l:List POp} {p:POp} (h:p ∈ l):2+p.key.size+p.v.bulk<=Bo l:=by
 induction l with
 |nil=>cases h
 |cons x r ih=>
  simp only[Bo];rcases List.mem_cons.1 h with rfl|h
  . omega
  . have:=ih h;omega
theorem Em (l:List POp):8*l.length<=Bo l:=by
 induction l with
 |nil=>simp[Bo]
 |cons x r ih=>simp only[Bo,List.length_cons];have:=x.v.bulk_pos;omega
def inQ (l:List POp):Prop:= ∀p ∈ l,M4 p.v
def Iv (k:ByteArray):Bool:= !k.toList.isEmpty&&(decide (k.size<=64)&&A4 k)
def Ju (k:ByteArray):Int:=if k.toList.isEmpty then 8 else if 64<k.size then 6 else if A4 k then 0 else 3
theorem Ib (k:ByteArray):Ju k=0 ↔ Iv k=true:=by
 unfold Ju Iv
 cases k.toList.isEmpty<;>by_cases h:64<k.size<;>cases A4 k<;>simp[h]<;>omega
def P3:Val->Bool
 | .mk k b n t l o=>Jk k b n t l.length o.length
def Cq (p:POp):Bool:=if p.k=1 then false else if p.k=2 then !P3 p.v else if p.k=3 then !p.key.toList.isEmpty|| !P3 p.v else true
def Di (q p:POp):Bool:=decide (p.k≠3)&&(decide (q.k=3)||Op.bytesLess q.key.toList p.key.toList)
def Aq:Option POp->List POp->Int
 |_, []=>0
 |prev,p::r=>
  if Cq p||prev.any (fun q=> !Di q p)then 2
  else if p.k=3 then Aq (some p) r
  else if Iv p.key=false then 8
  else if p.k=2 then Aq (some p) r
  else if C6 p.v=0 then Aq (some p) r else C6 p.v
theorem Pe: ∀{l:List Val},(∀v ∈ l,∀d d':Int,Bb v d'=0->d+Dy v<=65->Bb v d=0)-> ∀{d d':Int},Dd l d'=0->(l= []\/d+Ea l<=65)->Dd l d=0
 | [],_,_,_,_,_=>by simp[Dd]
 |v::r,ih,d,d',h,hd=>by
  have hd:=hd.resolve_left (by simp);simp only[Ea]at hd;simp only[Dd]at h ⊢;by_cases h0:Bb v d'=0
  . rw[if_pos h0]at h;rw[if_pos (ih v (by simp) d d' h0 (by omega))];exact Pe (fun x hx=>ih x (by simp[hx])) h (.inr (by omega))
  . rw[if_neg h0]at h;exact absurd h h0
theorem Pf: ∀{l:List (ByteArray×Val)},(∀m ∈ l,∀d d':Int,Bb m.2 d'=0->d+Dy m.2<=65->Bb m.2 d=0)-> ∀{last:Option ByteArray} {d d':Int},Dx l last d'=0->(l= []\/d+Gs l<=65)->Dx l last d=0
 | [],_,_,_,_,_,_=>by simp[Dx]
 |(key,v)::r,ih,last,d,d',h,hd=>by
  have hd:=hd.resolve_left (by simp);simp only[Gs,W9]at hd;simp only[Dx]at h ⊢;by_cases h0:Rf (key,v) last d'=0
  . rw[if_pos h0]at h;have h1:Rf (key,v) last d=0:=by
     simp only[Rf]at h0 ⊢;by_cases hv:A4 key=true
     . rw[if_pos hv]at h0 ⊢
       cases last with
       |none=>exact ih (key,v) (by simp) d d' h0 (by simp only;omega)
       |some q=>
        simp only at h0 ⊢;by_cases hl:leB key q=true
        . rw[if_pos hl]at h0;cases h0
        . rw[if_neg hl]at h0 ⊢;exact ih (key,v) (by simp) d d' h0 (by simp only;omega)
     . rw[if_neg hv]at h0;cases h0
    rw[if_pos h1];exact Pf (fun x hx=>ih x (by simp[hx])) h (.inr (by omega))
  . rw[if_neg h0]at h;exact absurd h h0
theorem X5: ∀(v:Val) (d d':Int),Bb v d'=0->d+Dy v<=65->Bb v d=0:=by
 refine Val.ind ?_;intro k b n t l o hl ho d d' h hd;obtain⟨h1,_,h3,h4,h5⟩:=Kj h;obtain⟨_,_,k5,k6⟩:=Jv h1;simp only[Dy]at hd;have hL:Dd l (d+1)=0:=by
  refine Pe hl h4 ?_;rcases k5 with e|e
  . rw[if_pos e]at hd;exact .inr (by omega)
  . exact .inl (List.length_eq_zero_iff.1 e)
 have hO:Dx o none (d+1)=0:=by
  refine Pf ho h5 ?_;rcases k6 with e|e
  . rw[if_neg (by omega),if_pos e]at hd;exact .inr (by omega)
  . exact .inl (List.length_eq_zero_iff.1 e)
 have h64: ¬64<d:=by
  have:0<=(if k=5 then Ea l else if k=6 then Gs o else 0):=Nat.zero_le _;omega
 simp only[Bb];rw[if_neg (by rw[h1];simp),if_neg h64,if_pos h3,if_pos hL,hO]
theorem Afr {k:Int} {b:Bool} {n:Int} {t:ByteArray} {ln on:Nat} (h:Fg k b n t ln on=false):(k=2\/b=false)/\(k=3\/n=0):=by
 unfold Fg at h;by_cases h1:k=1
 . subst h1;simp at h;exact⟨.inr h.1.1.1.1,.inr h.1.1.1.2⟩
 by_cases h2:k=2
 . subst h2;simp at h;exact⟨.inl rfl,.inr h.1.1.1⟩
 by_cases h3:k=3
 . subst h3;simp at h;exact⟨.inr h.1.1.1,.inl rfl⟩
 by_cases h4:k=4
 . subst h4;simp at h;exact⟨.inr h.1.1.1,.inr h.1.1.2⟩
 by_cases h5:k=5
 . subst h5;simp at h;exact⟨.inr h.1.1.1,.inr h.1.1.2⟩
 by_cases h6:k=6
 . subst h6;simp at h;exact⟨.inr h.1.1.1,.inr h.1.1.2⟩
 simp[h1,h2,h3,h4,h5,h6]at h
theorem Ry (s:ByteArray) (w:World) (hs:s.size<=1000000000):Calls Tryz.prog 36 #[.string s] w fun e w'=>e=.returned (.int .i64 (Ju s))/\w=w':=by
 obtain⟨B,hB⟩: ∃B,A4 s=B:=⟨_,rfl⟩;have HC:=qz (fun W=>Cf hB W hs);have e0:s.toList.isEmpty=decide (s.size=0):=by
  rw[Lib.toList_data,Lib.size_eq];cases s.data.toList<;>simp
 have hE:Ju s=if s.size=0 then 8 else if 64<s.size then 6 else if B then 0 else 3:=by
  unfold Ju;rw[e0,hB];simp
 clear hB e0;by_cases h0:s.size=0
 . rw[if_pos h0]at hE;have t0:((s.size:Int)==0)=true:=by rw[beq_iff_eq];omega
   have HE:=qz hE;clear hE;clear h0;go_enter Tryz.func36,Tryz.ntmps36;go_wp2;go_ret;exact⟨by rw[HE.out];rfl,rfl⟩
 rw[if_neg h0]at hE;have t0:((s.size:Int)==0)=false:=by rw[beq_eq_false_iff_ne];omega
 by_cases h1:64<s.size
 . rw[if_pos h1]at hE;have t1:(64:Int)<(s.size:Int):=by omega
   have HE:=qz hE;clear hE;clear h0 h1;go_enter Tryz.func36,Tryz.ntmps36;go_wp2;go_ret;exact⟨by rw[HE.out];rfl,rfl⟩
 rw[if_neg h1]at hE;have t1:(s.size:Int)<=64:=by omega
 have HE:=qz hE;clear hE;clear h0 h1
 cases B with
 |true=>
  go_enter Tryz.func36,Tryz.ntmps36;go_wp2_with (go_at_call 65;(with_reducible refine(HC.out _).mono ?_);rintro e w2 ⟨rfl,rfl⟩);go_ret;exact⟨by rw[HE.out];rfl,rfl⟩
 |false=>
  go_enter Tryz.func36,Tryz.ntmps36;go_wp2_with (go_at_call 65;(with_reducible refine(HC.out _).mono ?_);rintro e w2 ⟨rfl,rfl⟩);go_ret;exact⟨by rw[HE.out];rfl,rfl⟩
abbrev Fy:Val:=.mk 0 false 0 ⟨#[]⟩ [] []
theorem Adw (v:Val):P3 v=true ↔ v=Fy:=by
 obtain⟨k,b,n,t,l,o⟩:=v;simp only[P3,Jk,Bool.and_eq_true,decide_eq_true_eq,Bool.not_eq_true',List.length_eq_zero_iff,List.isEmpty_iff,Val.mk.injEq];constructor
 . rintro⟨⟨⟨⟨⟨rfl,rfl⟩,rfl⟩,ht⟩,rfl⟩,rfl⟩;refine⟨rfl,rfl,rfl, ?_,rfl,rfl⟩;rw[Lib.toList_data]at ht;exact ByteArray.ext (Array.ext' ht)
 . rintro⟨rfl,rfl,rfl,rfl,rfl,rfl⟩;exact⟨⟨⟨⟨⟨rfl,rfl⟩,rfl⟩,by rw[Lib.toList_data]⟩,rfl⟩,rfl⟩
theorem M0 (w:World) (B:Nat):Ab w B Fy [.int .i64 0,.bool false,.int .i64 0,.string ⟨#[]⟩,.slice none 0 0,.slice none 0 0]:=by
 simp only[Ab];exact⟨none,0,none,0,rfl,by simp,by simp⟩
theorem Yu (v:Val) (cs:List Value) (w:World) (hV:Ab w w.heap.size v cs) (hb:v.bulk<=100000000) {B:Bool} (hB:P3 v=B):
 Calls Tryz.prog 28 #[.agg cs.toArray,.agg #[.int .i64 0,.bool false,.int .i64 0,.string ⟨#[]⟩,.slice none 0 0,.slice none 0 0]] w fun e w'=>e=.returned (.bool B)/\Below w.heap.size w w':=by
 refine(Adf v Fy cs _ w hV (M0 _ _) hb (by simp[Val.bulk,Bc,Ac,ByteArray.size])).mono ?_;rintro e w' ⟨X,rfl,hX,hb'⟩;refine⟨?_,hb'⟩;rw[<-Adw,hB]at hX
 cases X<;>cases B<;>simp_all
theorem Aim (x y:List UInt8):(Op.bytesLess x y||x==y)= !Op.bytesLess y x:=by
 rcases Up x y with h|h|h
 . have:Op.bytesLess y x=false:=by
    cases h2:Op.bytesLess y x with
    |false=>rfl
    |true=>have:=K8 h h2;rw[El]at this;cases this
   simp[h,this]
 . subst h;simp[El]
 . have h1:Op.bytesLess x y=false:=by
    cases h2:Op.bytesLess x y with
    |false=>rfl
    |true=>have:=K8 h h2;rw[El]at this;cases this
   have h3:(x==y)=false:=by
    rw[beq_eq_false_iff_ne];rintro rfl;rw[El]at h;cases h
   simp[h,h1,h3]
def Gl (a b:Int):Int:=if a<b then -1 else if b<a then 1 else 0
theorem Cv {a b:Int}:Gl a b=0 ↔ a=b:=by
 unfold Gl
 split
 . constructor<;>intro h<;>omega
 split
 . constructor<;>intro h<;>omega
 . constructor<;>intro h<;>omega
theorem Ep (a b:Int) (w:World):Calls Tryz.prog 73 #[.int .i64 a,.int .i64 b] w fun e w'=>e=.returned (.int .i64 (Gl a b))/\w'=w:=by
 unfold Gl;by_cases h1:a<b
 . rw[if_pos h1];go_enter Tryz.func73,Tryz.ntmps73;go_wp2;go_ret;exact⟨rfl,rfl⟩
 rw[if_neg h1];by_cases h2:b<a
 . rw[if_pos h2];go_enter Tryz.func73,Tryz.ntmps73;go_wp2;go_ret;exact⟨rfl,rfl⟩
 . rw[if_neg h2];go_enter Tryz.func73,Tryz.ntmps73;go_wp2;go_ret;exact⟨rfl,rfl⟩
def H8 (a b:ByteArray) (w:World) (e:Ending) (w':World):Prop:= ∃c:Int,e=.returned (.int .i64 c)/\(c=0 ↔ a=b)/\Below w.heap.size w w'
theorem H8.of {a b:ByteArray} {w w':World} {c:Int} (h:c=0 ↔ a=b) (hb:Below w.heap.size w w'):H8 a b w (.returned (.int .i64 c)) w':=⟨c,rfl,h,hb⟩
theorem Pw (a b:ByteArray) (w:World) (ha:a.size<=1000000000) (hb:b.size<=1000000000):
 Calls Tryz.prog 74 #[.string a,.string b] w (H8 a b w):=by
 have H0:Hid (a.data.toList.take 0=b.data.toList.take 0):=by show _=_;simp
 have HB:Hid (Below w.heap.size w w):=Below.refl _ _;go_enter Tryz.func74,Tryz.ntmps74;go_wp2_with (fail);go_loopw [5] (fun i wr=> ∃k:Nat,i=.int .i64 k/\k<=a.size/\k<=b.size/\Hid (a.data.toList.take k=b.data.toList.take k)/\Hid (Below w.heap.size w wr)) (fun i _=>a.size - (intOf i).toNat)
 case atStart=>exact⟨0,rfl,Nat.zero_le _,Nat.zero_le _,H0,HB⟩
 case round=>
  obtain⟨k,rfl,hka,hkb,ht,hbw⟩:=hrel;clear H0 HB;by_cases hlt:k<a.size
  . by_cases hlt2:k<b.size
    . obtain⟨x,hx⟩: ∃x,a[k]=x:=⟨_,rfl⟩;obtain⟨y,hy⟩: ∃y,b[k]=y:=⟨_,rfl⟩;have hax:a.data.toList[k]? =some x:=by
       rw[Array.getElem?_toList,<-hx];exact Array.getElem?_eq_getElem (by exact hlt)
      have hby:b.data.toList[k]? =some y:=by
       rw[Array.getElem?_toList,<-hy];exact Array.getElem?_eq_getElem (by exact hlt2)
      have hxb:(x.toNat:Int)<256:=by have:=x.toNat_lt;omega
      have hyb:(y.toNat:Int)<256:=by have:=y.toNat_lt;omega
      by_cases hxy:x=y
      . subst hxy;have Hn:Hid (a.data.toList.take (k+1)=b.data.toList.take (k+1)):=by
         show _=_;rw[List.take_add_one,List.take_add_one,ht.out,hax,hby]
        clear ht hax hby;go_wp2_with (fail);go_quiet (fail);have hbw2:=qz (Be hbw.out nq);clear hbw;go_wp2;go_roundw
        case rel=>exact⟨k+1,by go_num,by omega,by omega,Hn,hbw2⟩
        case measure=>simp only[intOf];omega
      . have hxn:x.toNat≠y.toNat:=fun e=>hxy (UInt8.toNat_inj.1 e);have h1:((x.toNat:Int)==(y.toNat:Int))=false:=by simp;omega
        have h2:((x.toNat:Int) != (y.toNat:Int))=true:=by simp[bne];omega
        have hab:a≠b:=by
         rintro rfl;rw[hax]at hby;exact hxy (Option.some.inj hby)
        have hc:Gl (x.toNat:Int) (y.toNat:Int)≠0:=by rw[Ne,Cv];omega
        obtain⟨C,hC⟩: ∃C,Gl (x.toNat:Int) (y.toNat:Int)=C:=⟨_,rfl⟩;have cN:=fun w=>Ep (x.toNat:Int) (y.toNat:Int) w;rw[hC]at cN hc;have HN:=qz cN;have Hc:Hid (C=0 ↔ a=b):=⟨fun e=>absurd e hc,fun e=>absurd e hab⟩;clear ht hax hby hxy hxn hab hc hC cN;go_wp2_with (fail);go_quiet (fail);have hbw2:=Be hbw.out nq;clear hbw;generalize wr.drewN nq=w9 at hbw2 ⊢;have Hbw2:=qz hbw2;clear hbw2;go_wp2_with (fail);go_quiet ((go_at_call 73;exact Calls.quiet_of_same (HN.out _)));have hbw3:=qz (Be Hbw2.out nq);clear Hbw2;go_wp2;go_ret;exact H8.of Hc.out hbw3.out
    . have hkb':k=b.size:=by omega
      subst hkb';have hc:Gl (a.size:Int) (b.size:Int)≠0:=by rw[Ne,Cv];omega
      have hab:a≠b:=by rintro rfl;omega
      obtain⟨C,hC⟩: ∃C,Gl (a.size:Int) (b.size:Int)=C:=⟨_,rfl⟩;have cN:=fun w=>Ep (a.size:Int) (b.size:Int) w;rw[hC]at cN hc;have HN:=qz cN;have Hc:Hid (C=0 ↔ a=b):=⟨fun e=>absurd e hc,fun e=>absurd e hab⟩;clear ht hab hc hC cN;go_wp2_with (fail);(with_reducible refine(HN.out _).mono ?_);rintro e w' ⟨rfl,rfl⟩;go_wp2;go_ret;exact H8.of Hc.out hbw.out
  . have hka':k=a.size:=by omega
    subst hka';obtain⟨C,hC⟩: ∃C,Gl (a.size:Int) (b.size:Int)=C:=⟨_,rfl⟩;have cN:=fun w=>Ep (a.size:Int) (b.size:Int) w;rw[hC]at cN;have HN:=qz cN;have Hc:Hid (C=0 ↔ a=b):=by
     show _ ↔ _;rw[<-hC,Cv];constructor
     . intro h;have hs:a.size=b.size:=by omega
       have:=ht.out;rw[hs,List.take_of_length_le (by rw[Array.length_toList];exact Nat.le_of_eq hs),List.take_of_length_le (by rw[Array.length_toList];exact Nat.le_refl _)]at this;exact ByteArray.ext (Array.ext' this)
     . rintro rfl;rfl
    clear ht hC cN;go_wp2_with (fail);(with_reducible refine(HN.out _).mono ?_);rintro e w' ⟨rfl,rfl⟩;go_wp2;go_ret;exact H8.of Hc.out hbw.out
def Au (p:Prop) (w:World) (e:Ending) (w':World):Prop:= ∃c:Int,e=.returned (.int .i64 c)/\(c=0 ↔ p)/\Below w.heap.size w w'
theorem Au.of {p:Prop} {w w':World} {c:Int} (h:c=0 ↔ p) (hb:Below w.heap.size w w'):Au p w (.returned (.int .i64 c)) w':=⟨c,rfl,h,hb⟩
abbrev Aci (k:Int) (b:Bool) (n:Int) (t:ByteArray) (x y:Value):Obj:=.cells #[.int .i64 k,.bool b,.int .i64 n,.string t,x,y] 40
theorem Bg (w:World) (o o':Obj):Below w.heap.size w ((w.alloc o).alloc o'):=((Below.refl _ _).alloc (Nat.le_refl _) _).alloc (by simp) _
theorem Aeo (k k':Int) (b b':Bool) (n n':Int) (t t':ByteArray) (x y x' y':Value) (w:World) (h:k≠k') (p:Prop) (hp: ¬p):
 Calls Tryz.prog 44 #[.agg #[.int .i64 k,.bool b,.int .i64 n,.string t,x,y],.agg #[.int .i64 k',.bool b',.int .i64 n',.string t',x',y']] w (Au p w):=by
 have h1:(k==k')=false:=by simpa using h
 have h2:(k != k')=true:=by simpa using h
 obtain⟨C,hC⟩: ∃C,Gl k k'=C:=⟨_,rfl⟩;have cN:=fun w=>Ep k k' w;rw[hC]at cN;have HN:=qz cN;have Hc:Hid (C=0 ↔ p):=by
  show _ ↔ _;rw[<-hC,Cv];exact⟨fun e=>absurd e h,fun e=>absurd e hp⟩
 clear cN hC h hp;go_enter Tryz.func44,Tryz.ntmps44;go_wp2_with (fail);(with_reducible refine(HN.out _).mono ?_);rintro e w' ⟨rfl,rfl⟩;go_wp2;go_ret;exact Au.of Hc.out (Bg _ _ _)
theorem Aen (b b':Bool) (n n':Int) (t t':ByteArray) (x y x' y':Value) (w:World) (p:Prop) (hp:b=b' ↔ p):
 Calls Tryz.prog 44 #[.agg #[.int .i64 2,.bool b,.int .i64 n,.string t,x,y],.agg #[.int .i64 2,.bool b',.int .i64 n',.string t',x',y']] w (Au p w):=by
 cases b<;>cases b'
 . have Hp:Hid p:=hp.1 rfl;clear hp;go_enter Tryz.func44,Tryz.ntmps44;go_wp2;go_ret;exact Au.of ⟨fun _=>Hp.out,fun _=>rfl⟩ (Bg _ _ _)
 . have Hp:Hid (¬p):=fun h=>by cases hp.2 h
   clear hp;go_enter Tryz.func44,Tryz.ntmps44;go_wp2;go_ret;exact Au.of (c:= -1) ⟨fun h=>absurd h (by decide),fun h=>absurd h Hp.out⟩ (Bg _ _ _)
 . have Hp:Hid (¬p):=fun h=>by cases hp.2 h
   clear hp;go_enter Tryz.func44,Tryz.ntmps44;go_wp2;go_ret;exact Au.of (c:=1) ⟨fun h=>absurd h (by decide),fun h=>absurd h Hp.out⟩ (Bg _ _ _)
 . have Hp:Hid p:=hp.1 rfl;clear hp;go_enter Tryz.func44,Tryz.ntmps44;go_wp2;go_ret;exact Au.of ⟨fun _=>Hp.out,fun _=>rfl⟩ (Bg _ _ _)
theorem Agv (b b':Bool) (n n':Int) (t t':ByteArray) (x y x' y':Value) (w:World) (p:Prop) (hp:n=n' ↔ p):
 Calls Tryz.prog 44 #[.agg #[.int .i64 3,.bool b,.int .i64 n,.string t,x,y],.agg #[.int .i64 3,.bool b',.int .i64 n',.string t',x',y']] w (Au p w):=by
 obtain⟨C,hC⟩: ∃C,Gl n n'=C:=⟨_,rfl⟩;have cN:=fun w=>Ep n n' w;rw[hC]at cN;have HN:=qz cN;have Hc:Hid (C=0 ↔ p):=by
  show _ ↔ _;rw[<-hC,Cv];exact hp
 clear cN hC hp;go_enter Tryz.func44,Tryz.ntmps44;go_wp2_with (fail);(with_reducible refine(HN.out _).mono ?_);rintro e w' ⟨rfl,rfl⟩;go_wp2;go_ret;exact Au.of Hc.out (Bg _ _ _)
theorem Aep (b b':Bool) (n n':Int) (t t':ByteArray) (x y x' y':Value) (w:World) (p:Prop) (h1:t.size<=1000000000) (h2:t'.size<=1000000000) (hp:t=t' ↔ p):
 Calls Tryz.prog 44 #[.agg #[.int .i64 4,.bool b,.int .i64 n,.string t,x,y],.agg #[.int .i64 4,.bool b',.int .i64 n',.string t',x',y']] w (Au p w):=by
 have HN:=qz (fun w=>Pw t t' w h1 h2);have Hp:=qz hp;clear hp;go_enter Tryz.func44,Tryz.ntmps44;go_wp2_with (fail);(with_reducible refine(HN.out _).mono ?_);rintro e w' ⟨c,rfl,hc,hb⟩;have Hc:=qz hc;clear hc;go_wp2;go_ret;exact Au.of (Hc.out.trans Hp.out) ((Bg _ _ _).trans (hb.mono (by simp;omega)))
theorem eb:Ov.size=0:=rfl
theorem le_of_lt {a b:ByteArray} (h:Bn b a=true):leB a b=false:=by
 unfold leB;have h1:=Nz h;unfold Bn at h1;rw[h1,Bool.false_or]
 cases e:(a.toList==b.toList)with
 |false=>rfl
 |true=>
  have:a=b:=Fk (by simpa using e);subst this;rw[Dc]at h;cases h
def Abo {α β:Type} (P:Program) (gf:Nat) (lb:Array Value) (encs:α->β->Array Value) (E:α->β->(Nat->Prop)->World->Prop) (K0:Nat->Prop) (xs:List α) (N:World->Prop):Prop:=
 ∀(n l:Nat) (J:List α->(Nat->Prop)->(Nat->Prop)->World->Prop) (W:World),
  (∀s T K A T' K' B,J s T K A->KB T A B->(∀i,i<A.heap.size->(T' i ↔ T i)/\(K' i ↔ K i))->(∀i,K' i->i<B.heap.size)->J s T' K' B)->
  (∀pre x rest q T K A,xs=pre++x::rest->J pre T K A->E x q (fun i=>K i/\ ¬T i) A->(∀i,T i->K i)->(∀i,K i->i<A.heap.size)->YieldAt Fence.wide n P l (encs x q) A fun e B=>e=.returned (.bool true)/\J (pre++ [x]) T K B/\KB (fun i=> ¬K i) A B)->
  N W->J [] (fun _=>False) K0 W->CallsIn Fence.wide (n+1) P gf (#[.func (.yield l) #[] #[]]++lb) W fun e B=>(∃v,e=.returned v)/\ ∃T K,J xs T K B
theorem KB.put {S:Nat->Prop} (w:World) {k:Nat} (hk:S k) (o:Obj):KB S w (w.putObj k o):=⟨rfl,rfl,rfl,by simp[World.putObj],fun j _ h2=>World.putObj_heap_other (fun e=>h2 (e▸hk))⟩
theorem Abe {α β:Type} {P:Program} {g:Operand} {ps:Array Tmp} {assign body:Code} {Q:Exit->Act->World->Prop} {a:Act} {w:World} {n:Nat}
 {gf:Nat} {lb:Array Value} (hg:a.eval g=.func (.func gf) #[] lb) (eg: ∀args w,(callFunc gf args).run P w=.ok (.enter gf args) w)
 {encs:α->β->Array Value} {E:α->β->(Nat->Prop)->World->Prop} {K0:Nat->Prop} {xs:List α} {N:World->Prop} (hit:Abo P gf lb encs E K0 xs N) (hps: ∀x q,(encs x q).size=ps.size)
 (hEp: ∀x q D A k o',E x q D A-> ¬D k->E x q D (A.putObj k o')) (hK0: ∀i,K0 i->i<w.heap.size)
 (I:List α->(Nat->Prop)->(Nat->Prop)->World->Prop)
 (hIn: ∀s T K A T' K' B,I s T K A->KB T A B->(∀i,i<A.heap.size->(T' i ↔ T i)/\(K' i ↔ K i))->(∀i,K' i->i<B.heap.size)->I s T' K' B)
 (hIp: ∀s T K A k o o',I s T K A->A.heap[k]? =some o->o.isCells=false-> ¬K k->w.heap.size<=k->I s T K (A.putObj k o'))
 (hEb: ∀x q D A B,E x q D A->Below A.heap.size A B->E x q D B) (hN: ∀W,Below w.heap.size w W->N W) (h0:I [] (fun _=>False) K0 w) (RB:α->β->Act->World->Prop)
 (hRp: ∀x q a' A k o o',RB x q a' A->A.heap[k]? =some o->o.isCells=false->RB x q a' (A.putObj k o'))
 (hassign: ∀(l:Nat) (x:α) (q:β) (D:Nat->Prop) (W:World) (K:Act->World->Prop),E x q D W->(∀a' W',Below W.heap.size W W'->RB x q a' W'->K a' W')->
   assign.wpIn (Fence.wide.inRound l) n P (Exit.then K (fun _ _ _=>False)) {tmps:=(ps.zip (encs x q)).foldl (fun t (p,v)=>t.setIfInBounds p v) a.tmps,defers:= []} W)
 (hbody: ∀(l:Nat) (pre:List α) (x:α) (rest:List α) (q:β) (T K:Nat->Prop) (a':Act) (W:World),RB x q a' W->xs=pre++x::rest->I pre T K W->E x q (fun i=>K i/\ ¬T i) W->(∀i,T i->K i)->(∀i,K i->i<W.heap.size)->
   ¬K w.heap.size-> ¬K (w.heap.size+1)->(∃ds,W.heap[w.heap.size]? =some (.deferred ds))->(∃r,W.heap[w.heap.size+1]? =some (.loop r))->
   body.wpIn (Fence.wide.inRound l) n P (Ow (fun B=>I (pre++ [x]) T K B/\KB (fun i=> ¬K i) W B) w.heap.size W) a' W)
 (hdone: ∀(T K:Nat->Prop) (W:World),I xs T K W-> ¬K w.heap.size->W.heap[w.heap.size]? =some (.deferred (some []))->Q .normal {a with defers:={target:=.collected w.heap.size,args:= #[]}::a.defers} W):
 (Code.rangeFunc g ps assign body).wpIn Fence.wide (n+1+1) P Q a w:=by
 refine wpIn_rangeFunc ?_;intro fn hfn;have hro:Fence.wide.round=none:=rfl;rw[hro];obtain⟨rec,hrec⟩: ∃rec:LoopState->Option Code->Loop,rec=fun st pe=>{state:=st,pending:=pe,fn,tmps:=a.tmps,params:=ps,assign,body,defers:=w.heap.size}:=⟨_,rfl⟩;obtain⟨W1,hW1⟩: ∃W1,(w.alloc (.deferred (some []))).alloc (.loop (rec .ready none))=W1:=⟨_,rfl⟩;have hL1:W1.heap[w.heap.size+1]? =some (.loop (rec .ready none)):=by
  rw[<-hW1];have:=World.alloc_heap_new (w.alloc (.deferred (some []))) (.loop (rec .ready none));rwa [World.size_alloc]at this
 have hK1:W1.heap[w.heap.size]? =some (.deferred (some [])):=by
  rw[<-hW1];exact(Below.heap_alloc _ _ _ (by simp)).trans (World.alloc_heap_new w _)
 have hbW:Below w.heap.size w W1:=hW1▸((Below.refl _ w).alloc (Nat.le_refl _) _).alloc (by simp) _;have hI1:I [] (fun _=>False) K0 W1:=hIn _ _ _ _ _ _ _ h0 (KB.of_below hbW) (fun _ _=>⟨Iff.rfl,Iff.rfl⟩) fun i hi=>Nat.lt_of_lt_of_le (hK0 i hi) hbW.size;refine⟨w.heap.size+1, [{target:=.collected w.heap.size,args:= #[]}],W1,{target:=.fn (.func gf) lb,args:= #[.func (.yield (w.heap.size+1)) #[] #[]]},W1,gf,
  #[.func (.yield (w.heap.size+1)) #[] #[]]++lb,W1, ?_, ?_, ?_, ?_,fun h=>by simp[Fence.wide]at h, ?_⟩
 . rw[<-hW1,hrec];exact run_enterLoop_outer _ _ _ _ _
 . simp only[resolve,hg];simp[go_sem]
 . intro f' _;trivial
 . simp[invoke,go_sem,eg]
 . refine(hit n (w.heap.size+1)
    (fun pre T K W=>I pre T K W/\W.heap[w.heap.size+1]? =some (.loop (rec .ready none))/\W.heap[w.heap.size]? =some (.deferred (some []))/\ ¬T w.heap.size/\ ¬T (w.heap.size+1)/\ ¬K w.heap.size/\ ¬K (w.heap.size+1)/\ ∀i,K i->i<W.heap.size)
    W1 ?_ ?_ (hN _ hbW) ⟨hI1,hL1,hK1,fun h=>h,fun h=>h,fun h=>by have:=hK0 _ h;omega,fun h=>by have:=hK0 _ h;omega,fun i hi=>Nat.lt_of_lt_of_le (hK0 i hi) hbW.size⟩).mono ?_
   . rintro s T K A T' K' B ⟨j1,j2,j3,j4,j5,j6,j7,j8⟩ hb hTK hKB;have z2:=(Array.getElem?_eq_some_iff.1 j2).1;have z3:=(Array.getElem?_eq_some_iff.1 j3).1;exact⟨hIn _ _ _ _ _ _ _ j1 hb hTK hKB,(hb.block _ z2 j5).trans j2,(hb.block _ z3 j4).trans j3,fun h=>j4 ((hTK _ z3).1.1 h),fun h=>j5 ((hTK _ z2).1.1 h),fun h=>j6 ((hTK _ z3).2.1 h),fun h=>j7 ((hTK _ z2).2.1 h),hKB⟩
   ·
    rintro pre x rest q T K W hx ⟨hi,hl,hk,j4,j5,j6,j7,j8⟩ hE hTK _;have hlt:w.heap.size+1<W.heap.size:=(Array.getElem?_eq_some_iff.1 hl).1;have hy:=run_yield (P:=P) (args:=encs x q) hl (by rw[hrec];exact hps x q);rw[hrec]at hy;refine⟨fn,_,assign,body,hy,roundIn_of_wpIn trivial (hassign _ x q _ W _ hE fun a' W' hbW hRB=>⟨_,run_beginRound ((hbW.block _ hlt).trans hl) (by rw[hrec]), ?_⟩)⟩;have hlt':=Nat.lt_of_lt_of_le hlt hbW.size;have hlW:=(hbW.block _ hlt).trans hl;have hkW:=(hbW.block _ (by omega)).trans hk;have hiW:=hIn _ _ _ _ T K _ hi (KB.of_below hbW) (fun _ _=>⟨Iff.rfl,Iff.rfl⟩) fun i h=>Nat.lt_of_lt_of_le (j8 i h) hbW.size;have hEW:=hEb _ _ _ _ _ hE hbW;have hl2:(W'.putObj (w.heap.size+1) (.loop {rec .ready none with state:=.busy})).heap[w.heap.size+1]? =some (.loop {rec .ready none with state:=.busy}):=World.putObj_heap_same hlt';have hk2:(W'.putObj (w.heap.size+1) (.loop {rec .ready none with state:=.busy})).heap[w.heap.size]? =some (.deferred (some [])):=(World.putObj_heap_other (by omega)).trans hkW;have hkb1:=(KB.of_below (S:=fun i=> ¬K i) hbW).trans (KB.put (S:=fun i=> ¬K i) W' (k:=w.heap.size+1) j7 (.loop {rec .ready none with state:=.busy})) fun _ _ h=>h;refine wpIn_mono (hbody _ pre x rest q T K a' _ (hRp _ _ _ _ _ _ _ hRB hlW rfl) hx (hIp _ _ _ _ _ _ _ hiW hlW rfl j7 (by omega)) (hEp _ _ _ _ _ _ hEW fun h=>j7 h.1) hTK (fun i hi=>Nat.lt_of_lt_of_le (j8 i hi) hkb1.size) j6 j7 ⟨_,hk2⟩ ⟨_,hl2⟩) ?_;rintro e a3 W3 hp
    cases e with
    |normal=>
     obtain⟨h1,h2,hi3,hkb2⟩:=hp;have hl3:=h2.trans hl2;have hk3:=h1.trans hk2;have hr:=run_endRound (P:=P) none hl3;rw[hrec]at hr;have hkb3:=(hkb1.trans hkb2 fun _ _ h=>h).trans (KB.put (S:=fun i=> ¬K i) W3 (k:=w.heap.size+1) j7 (.loop {rec .ready none with state:=.ready})) fun _ _ h=>h;refine⟨_,_,hr,rfl,⟨hIp _ _ _ _ _ _ _ hi3 hl3 rfl j7 (by omega), ?_, ?_,j4,j5,j6,j7,fun i hi=>Nat.lt_of_lt_of_le (j8 i hi) ?_⟩, ?_⟩
     . rw[World.putObj_heap_same (Array.getElem?_eq_some_iff.1 hl3).1,hrec];rfl
     . exact(World.putObj_heap_other (by omega)).trans hk3
     . rw[hrec]at hkb3;exact hkb3.size
     . rw[hrec]at hkb3;exact hkb3
    |ret=>exact hp.elim
    |exit id=>exact hp.elim
    |goto t=>exact hp.elim
    |panic ch=>exact hp.elim
    |outgrown=>exact hp.elim
   ·
    rintro e W2 ⟨⟨v,rfl⟩,T,K,hi,hl,hk,_,_,j6,j7,_⟩;exact⟨none,_,by have:=run_endLoop (P:=P) hl (by rw[hrec];simp);rw[hrec]at this;exact this,hdone T K _ (hIp _ _ _ _ _ _ _ hi hl rfl j7 (by omega)) j6 ((World.putObj_heap_other (by omega)).trans hk)⟩
end Go.Proofs.YtnkmhaachfgaoaaGreatDoor
