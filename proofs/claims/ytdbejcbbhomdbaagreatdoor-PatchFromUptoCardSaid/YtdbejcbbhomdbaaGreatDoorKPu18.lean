/- Parts: What may stand deep may stand higher; what is within a value that may be, may be. Plain. No condition. -/
import Derived.Shelf.AbstractIn
import Derived.Deep.RegionWith
import Derived.Test.YtdbejcbbhomdbaaGreatDoorKPu15
set_option maxHeartbeats 20000000
set_option maxRecDepth 100000
namespace Go.Proofs.YtdbejcbbhomdbaaGreatDoor
open Go.RowKit
attribute [local go_sem] Oper.semAt_some
theorem Lb: ∀(o:List (ByteArray×Val)) (f:Bool) {pre:List (Bool×(ByteArray×Val))} {x:Bool×(ByteArray×Val)} {rest:List (Bool×(ByteArray×Val))},E2 o f=pre++x::rest->
 x.1=(f&&(pre.map (·.2)).isEmpty)/\o=pre.map (·.2)++x.2::rest.map (·.2)
 | [],f,pre,x,rest,h=>by simp[E2]at h
 |p::r,f, [],x,rest,h=>by
  simp only[E2,List.nil_append,List.cons.injEq]at h;obtain⟨rfl,h⟩:=h;have: ∀(l:List (ByteArray×Val)) (f:Bool),(E2 l f).map (·.2)=l:=by
   intro l
   induction l with
   |nil=>intro f;rfl
   |cons a l ih=>intro f;simp[E2,ih]
  rw[<-h,this];simp
 |p::r,f,y::pre,x,rest,h=>by
  simp only[E2,List.cons_append,List.cons.injEq]at h;obtain⟨rfl,h⟩:=h;obtain⟨h1,h2⟩:=Lb r false h;exact⟨by simpa using h1,by simp[<-h2]⟩
theorem O6: ∀(l:List (ByteArray×Val)) (f:Bool),(E2 l f).map (·.2)=l
 | [],_=>rfl
 |a::l,f=>by simp[E2,O6 l]
theorem C9.of_below {g:Nat} {A W:World} (h:Below A.heap.size A W):C9 g A W:=fun j _ hj _ _=>(h.block j (Array.getElem?_eq_some_iff.1 hj).1).trans hj
theorem U7: ∀{a:List (ByteArray×Val)} {b:List (ByteArray×Val)},T2 (a++b)->T2 a
 | [],_,_=>by simp[T2]
 |x::r,b,h=>by simp only[List.cons_append,T2]at h ⊢;exact⟨h.1,U7 h.2⟩
theorem Ou: ∀(a:List (ByteArray×Val)) (p:ByteArray×Val) (b:List (ByteArray×Val)),Af a+Cp p<=Af (a++p::b)
 | [],p,b=>by simp[Af]
 |x::r,p,b=>by have:=Ou r p b;simp only[List.cons_append,Af];omega
def OI (W:World) (B g b pm:Nat) (keeps:Bool) (acc:List UInt8) (sl:Value) (pre:List (Bool×(ByteArray×Val))) (A:World):Prop:=
 Wr A B g keeps (acc++123::Ev (pre.map (·.2)) true)/\Below B W A/\C9 g W A/\A.heap[b]? =some (.cells #[.pointer (some ⟨g,0,none⟩)] 134 (0,0))/\A.heap[pm]? =some (.cells #[sl] 31 (0,0))
theorem Jf (o:List (ByteArray×Val)) (IH: ∀m ∈ o,Pn m.2) (W:World) (B g p:Nat) (h5:5<=B) (keeps:Bool) (acc:List UInt8) (oa:Option Addr) (oc:Nat) (v0 v1 v2 v3 v4:Value)
 (hp:W.heap[p]? =some (.cells #[v0,v1,v2,v3,v4,.slice oa o.length oc] 33 (0,0)))
 (gl off:Nat) (hoa:o= []\/(oa=some ⟨gl,off,none⟩/\gl<B/\Ak W B o gl off)) (hT:Cl W) (hpg:p≠g) (hW:Wr W B g keeps acc) (hok:T2 o) (hlen:acc.length+6*(6+Af o)<=20000000000) (hb:Af o<=1000000000):
 Calls Tryz.prog 123 #[.pointer (some ⟨g,0,none⟩),.pointer (some ⟨p,0,none⟩)] W fun e W'=>e=.returned (.tuple #[])/\Wr W' B g keeps (acc++123::(Ev o true++ [125]))/\Below B W W'/\C9 g W W':=by
 have hoo:o.length<=1000000000:=by have:=Aw o;omega
 have hgW:=hW.lt;have hBg:=hW.base;have hpW:=(Array.getElem?_eq_some_iff.1 hp).1;have hW0:Wr (W.alloc (.cells #[.pointer (some ⟨g,0,none⟩)] 134)) B g keeps acc:=hW.below ((Below.refl _ _).alloc (Nat.le_refl _) _);have Hb0:Hid (Below W.heap.size W (W.alloc (.cells #[.pointer (some ⟨g,0,none⟩)] 134))):=(Below.refl _ _).alloc (Nat.le_refl _) _;have hB0:=heap_alloc_new W (.cells #[.pointer (some ⟨g,0,none⟩)] 134);have hz0:(W.alloc (.cells #[.pointer (some ⟨g,0,none⟩)] 134)).heap.size=W.heap.size+1:=by simp
 have hj1:=Dl [⟨#[123]⟩] 1 hW0 (by simp[Db];omega) (by simp);rw[hz0]at hj1;obtain⟨HJ1,HB0,HP,HOA,HIH,HOK,HT⟩:=hid7 hj1 hB0 hp hoa IH hok hT;clear hj1 hB0 hp hoa IH hok hT hW0;refine(callsIn_wide (n:=12)).1 ?_;refine callsIn_of_wp_marks Tryz.func123 rfl trivial ?_ rfl;simp only[Tryz.ntmps123,List.size_toArray,List.length_cons,List.length_nil,Nat.reduceAdd,Nat.reduceSub,Array.replicate_succ,Array.replicate_zero,List.push_toArray,List.append_toArray,List.nil_append,List.cons_append]
 gi_wp2_with (first|(refine⟨trivial, ?_⟩;gi_at_call 115;refine(callsIn_wide.2 HJ1.out).mono ?_;rintro e w1 ⟨rfl,hw1,hb1,hk1⟩;have hp1:=hk1.cells ((Hb0.out.block p hpW).trans HP.out) hpg (by decide);have c5:w1.cell? ⟨p,5,none⟩=some (.slice oa o.length oc):=(Lib.cell_of_heap hp1 5).trans rfl)|(refine⟨trivial, ?_⟩;gi_at_call 124;refine(callsIn_wide.2 (Nv oa o.length oc w1)).mono ?_;rintro e w2 ⟨rfl,hw2⟩))
 have hz1:=hw1.lt;have hbW1:Below B W w1:=(Hb0.out.mono (by omega)).trans hb1;have hkW1:C9 g W w1:=(C9.of_below Hb0.out).trans hk1;have hbx1:=hk1.cells HB0.out (by omega) (by decide);have hs1:=hb1.size;have hWs:W.heap.size<w1.heap.size:=(Array.getElem?_eq_some_iff.1 hbx1).1;have hg2:Below w1.heap.size w1 w2:=hw2▸(Below.refl _ _).alloc (Nat.le_refl _) _;have hpm:w2.heap[w1.heap.size]? =some (.cells #[.slice oa o.length oc] 31 (0,0)):=hw2▸heap_alloc_new _ _;have hbx2:=(hg2.block W.heap.size hWs).trans hbx1;have hW2:Wr w2 B g keeps (acc++123::Ev [] true):=by
  have:=hw1.below hg2;simpa[Db,Ev]using this
 have hb2:Below B W w2:=hbW1.trans (hg2.mono (by omega));have hk2:C9 g W w2:=hkW1.trans (C9.of_below hg2);have hz2:=(Array.getElem?_eq_some_iff.1 hpm).1;clear hw2 hw1 hb1 hk1 hp1 c5 hbW1 hkW1 hbx1 hg2 hs1;refine Je (n:=10) (gf:=168) (lb:= #[.pointer (some ⟨w1.heap.size,0,none⟩)]) rfl (enters_of Tryz.func168 (by kernel_rfl) rfl) (Mv o W B g w1.heap.size oa oc gl off h5 HT.out HOA.out HOK.out hb) (fun _ _=>rfl)
  ?hEp (OI W B g W.heap.size w1.heap.size keeps acc (.slice oa o.length oc)) ?hIn ?hIp ?hIb ?h0 ?a1 ?assign ?body ?done
 case assign=>
  intro l x q W K hK;dsimp only[Tw]
  gi_wp2
  exact hK
 case h0=>exact⟨hW2,hb2,hk2,hbx2,hpm⟩
 case hIb=>
  rintro pre A ⟨h1,h2,h3,h4,h6⟩;exact⟨h6,h2,h1.lt⟩
 case hIn=>
  rintro pre A A' ⟨h1,h2,h3,h4,h6⟩ hb';exact⟨h1.below hb',h2.trans (hb'.mono (Nat.le_trans h1.base (Nat.le_of_lt h1.lt))),h3.trans (C9.of_below hb'),(hb'.block _ (Array.getElem?_eq_some_iff.1 h4).1).trans h4,(hb'.block _ (Array.getElem?_eq_some_iff.1 h6).1).trans h6⟩
 case hEp=>
  rintro x q A k u u' ⟨h1,cs,h2,h3⟩ ho hc;refine⟨h1,cs, ?_,h3⟩;rw[World.putObj_heap_other (by rintro rfl;rw[h2]at ho;injection ho with ho;subst ho;simp[Obj.isCells]at hc)];exact h2
 case hIp=>
  rintro pre A k u u' ⟨h1,h2,h3,h4,h6⟩ ho hc hk;refine⟨h1.put ho hc,h2.grown (grownBy_putObj' A k u') (by have:=h2.size;omega) (fun j e=>by cases e;omega),fun j v hj hg hv=> ?_, ?_, ?_⟩
  . have:=(Array.getElem?_eq_some_iff.1 hj).1;rw[World.putObj_heap_other (by omega)];exact h3 j v hj hg hv
  . rw[World.putObj_heap_other (by omega)];exact h4
  . rw[World.putObj_heap_other (by omega)];exact h6
 case body=>
  rintro l pre x rest q A hx ⟨h1,h2,h3,h4,h6⟩ ⟨hq,cs,hqc,hqv⟩ ⟨ds,hds⟩ ⟨rc,hrc⟩;obtain⟨hf,ho⟩:=Lb o true hx;have htl:=Iw (pre.map (·.2)) (fun m _=>Ix m.2) (U7 (ho▸HOK.out)) true;have hbk:Af (pre.map (·.2))+Cp x.2<=Af o:=by rw[ho];exact Ou _ _ _
  have hxm:x.2 ∈ o:=by rw[ho];simp
  have hokx:=U6 HOK.out hxm;have hsn:Ev ((pre++ [x]).map (·.2)) true=Ev (pre.map (·.2)) true++((Dp x).data.toList++(58::C8 x.2.2)):=by
   rw[List.map_append,List.map_cons,List.map_nil,Nj];obtain⟨f,key,v⟩:=x;simp only at hf;simp only[Vc,Dp,hf];simp[List.append_assoc]
  obtain⟨f,key,v⟩:=x;obtain⟨k',b',n',t',l',o'⟩:=v;have hqk:=Fl key;have hmt:(Dp (f,key,.mk k' b' n' t' l' o')).data.toList.length<=6*key.size+3:=by
   simp only[Dp]
   split<;>simp<;>omega
  simp only[Cp]at hbk;have hfl:Db [Dp (f,key,.mk k' b' n' t' l' o'),⟨#[58]⟩]=(Dp (f,key,.mk k' b' n' t' l' o')).data.toList++ [58]:=by simp[Db]
  have hlA:(acc++123::Ev (pre.map (·.2)) true).length+6*(Val.mk k' b' n' t' l' o').bulk+6*key.size+7<=20000000000:=by
   rw[List.length_append,List.length_cons];omega
  have hqb:(Val.mk k' b' n' t' l' o').bulk<=1000000000:=by omega
  have hM1:((Dp (f,key,.mk k' b' n' t' l' o')).data.toList++ [58]).length=(Dp (f,key,.mk k' b' n' t' l' o')).data.toList.length+1:=by simp
  have IHv:=qz (HIH.out _ hxm);obtain⟨HOKx,Hsn⟩:=hid2 hokx hsn;have hj:=Dl [Dp (f,key,.mk k' b' n' t' l' o'),⟨#[58]⟩] 2 h1 (by rw[hfl];omega) (by simp);rw[hfl]at hj;obtain⟨HJ,HQ,HV⟩:=hid3 hj hqc hqv;have h4c:A.cell? ⟨W.heap.size,0,none⟩=some (.pointer (some ⟨g,0,none⟩)):=(Lib.cell_of_heap h4 0).trans rfl;have H2:=qz h2;have hA:=h1.lt;have hAb:=(Array.getElem?_eq_some_iff.1 h4).1;have hl3:((acc++123::Ev (pre.map (fun y:Bool×(ByteArray×Val)=>y.2)) true)++((Dp (f,key,.mk k' b' n' t' l' o')).data.toList++ [58])).length+6*(Val.mk k' b' n' t' l' o').bulk<=20000000000:=by
   rw[List.length_append];omega
  have ent:=Fu;simp only[Val.kind];clear hj hsn hokx hxm ho hf htl hbk hx hfl hqc hqv
  gi_wp2_with (first|(refine⟨trivial, ?_⟩;gi_at_call 115;refine(CallsIn.inRound l (callsIn_wide.2 HJ.out)).mono ?_;rintro e A2 ⟨rfl,g1,g2,g3⟩;have g4:=g3.cells h4 (by omega) (by decide);have g5:A2.cell? ⟨W.heap.size,0,none⟩=some (.pointer (some ⟨g,0,none⟩)):=(Lib.cell_of_heap g4 0).trans rfl)|(refine⟨trivial, ?_⟩;gi_at_fn (I0 k');refine(CallsIn.inRound l (callsIn_wide.2 (IHv.out A2 B g q keeps _ cs k' b' n' t' l' o' rfl h5 (HT.out.keep (H2.out.trans g2) h5) (HV.out.below (H2.out.trans g2)) (g3.cells HQ.out (by omega) (by decide)) (by omega) g1 HOKx.out.2 hqb hl3))).mono ?_;rintro e A3 ⟨rfl,g6,g7,g8⟩))
  have hkk:C9 g A A3:=g3.trans g8;refine⟨?_, ?_, ?_,h2.trans (g2.trans g7),h3.trans hkk,hkk.cells h4 (by omega) (by decide),hkk.cells h6 (by omega) (by decide)⟩
  . exact(hkk _ _ hds (by simp;omega) (fun c fz e=>by cases e)).trans hds.symm
  . exact(hkk _ _ hrc (by simp;omega) (fun c fz e=>by cases e)).trans hrc.symm
  . rw[Hsn.out];simpa[List.append_assoc]using g6
 case done=>
  rintro A ⟨h1,h2,h3,h4,h6⟩ hds;rw[O6]at h1;have htl:=Iw o (fun m _=>Ix m.2) HOK.out true;have HJ:=qz (Dl [⟨#[125]⟩] 1 h1 (by rw[List.length_append,List.length_cons];simp[Db];omega) (by simp));have h4c:A.cell? ⟨W.heap.size,0,none⟩=some (.pointer (some ⟨g,0,none⟩)):=(Lib.cell_of_heap h4 0).trans rfl;have hA:=h1.lt;have hAb:=(Array.getElem?_eq_some_iff.1 h4).1;have e:Db [⟨#[125]⟩]= [125]:=by simp[Db]
  clear htl
  gi_wp2_with (refine⟨trivial, ?_⟩;gi_at_call 115;refine(callsIn_wide.2 HJ.out).mono ?_;rintro e A2 ⟨rfl,g1,g2,g3⟩)
  have hd:=g3 _ _ hds (by simp;omega) (fun c fz e=>by cases e);refine⟨by simp,.inl ⟨_,_,rfl,run_takeDeferred hd, ?_⟩⟩;rw[e,List.append_assoc,List.cons_append]at g1;refine⟨_,results_none rfl _ _ _,rfl, ?_⟩;have hbA:=h2.trans g2;refine⟨g1.put hd rfl,hbA.grown (grownBy_putObj' A2 w2.heap.size _) (by have:=hbA.size;omega) (fun j e=>by cases e;omega),fun j v hj hg hv=> ?_⟩;have:=(Array.getElem?_eq_some_iff.1 hj).1;rw[World.putObj_heap_other (by omega)];exact g3 j v (h3 j v hj hg hv) hg hv
theorem Um: ∀v,Pn v:=by
 refine Val.ind ?_;intro k b n t l o IHl IHo W B g p keeps acc cs k' b' n' t' l' o' hv h5 hT hH hp hpg hW hok hbk hlen
 injection hv with e1 e2 e3 e4 e5 e6
 subst e1 e2 e3 e4 e5 e6;simp only[Ae]at hH;obtain⟨la,lc,oa,oc,rfl,hla,hoa⟩:=hH;simp only[Su]at hok;simp only[Val.bulk]at hbk hlen;by_cases h2:k=2
 . subst h2;exact Sp W B g p keeps acc b _ _ _ _ _ hp hW (by omega)
 by_cases h3:k=3
 . subst h3;exact Un W B g p keeps acc n _ _ _ _ _ hp hT hok.2.1.1 hok.2.1.2 hpg hW (by omega)
 by_cases h4:k=4
 . subst h4;exact Sr W B g p keeps acc t _ _ _ _ _ hp hT hok.1 (by omega) hpg hW (by omega)
 by_cases h5':k=5
 . subst h5';rcases hla with rfl|⟨gl,off,rfl,hg,hL⟩
   . exact Lu [] IHl W B g p h5 keeps acc la lc _ _ _ _ _ hp 0 0 (.inl rfl) hT hpg hW hok.2.2.1 (by omega) (by omega)
   . exact Lu l IHl W B g p h5 keeps acc _ lc _ _ _ _ _ hp gl off (.inr ⟨rfl,hg,hL⟩) hT hpg hW hok.2.2.1 (by omega) (by omega)
 by_cases h6:k=6
 . subst h6;rcases hoa with rfl|⟨gl,off,rfl,hg,hL⟩
   . exact Jf [] IHo W B g p h5 keeps acc oa oc _ _ _ _ _ hp 0 0 (.inl rfl) hT hpg hW hok.2.2.2 (by omega) (by omega)
   . exact Jf o IHo W B g p h5 keeps acc _ oc _ _ _ _ _ hp gl off (.inr ⟨rfl,hg,hL⟩) hT hpg hW hok.2.2.2 (by omega) (by omega)
 . have ef:I0 k=125:=by simp[I0,h2,h3,h4,h5',h6]
   have ec:E5 k p= #[]:=by simp[E5,h2,h3,h4,h5',h6]
   have et:C8 (.mk k b n t l o)= [110,117,108,108]:=by simp[C8,h2,h3,h4,h5',h6]
   rw[ef,ec,et];exact Sq W B g keeps acc hW (by omega)
theorem Yv: ∀(l:List Val),(∀v ∈ l,∀d,Br v d=0->Nq v->Su v)-> ∀d,Dz l d=0->Tn l->St l
 | [],_,_,_,_=>by simp[St]
 |v::r,ih,d,h,hi=>by
  simp only[Dz]at h;simp only[Tn]at hi;simp only[St]
  split at h
  . rename_i h0;exact⟨ih v (by simp) d h0 hi.1,Yv r (fun x hx=>ih x (by simp[hx])) d h hi.2⟩
  . rename_i h0;exact absurd h h0
theorem Yx: ∀(l:List (ByteArray×Val)),(∀m ∈ l,∀d,Br m.2 d=0->Nq m.2->Su m.2)-> ∀last d,Ea l last d=0->O2 l->T2 l
 | [],_,_,_,_,_=>by simp[T2]
 |(key,v)::r,ih,last,d,h,hi=>by
  simp only[Ea]at h;simp only[O2,inP]at hi;simp only[T2,okP]
  split at h
  . rename_i h0;refine⟨?_,Yx r (fun x hx=>ih x (by simp[hx])) _ d h hi.2⟩;simp only[P4]at h0
    split at h0
    . rename_i hv;refine⟨hv, ?_⟩
      cases last with
      |none=>exact ih (key,v) (by simp) d h0 hi.1
      |some q=>
       simp only at h0
       split at h0
       . cases h0
       . exact ih (key,v) (by simp) d h0 hi.1
    . cases h0
  . rename_i h0;exact absurd h h0
theorem Yy: ∀v d,Br v d=0->Nq v->Su v:=by
 refine Val.ind ?_;intro k b n t l o hl ho d h hi;simp only[Br]at h;simp only[Nq]at hi;simp only[Su]
 split at h
 . cases h
 split at h
 . cases h
 split at h
 . rename_i hv
   split at h
   . rename_i h0;exact⟨hv,hi.1,Yv l hl _ h0 hi.2.1,Yx o ho _ _ h hi.2.2⟩
   . rename_i h0;exact absurd h h0
 . cases h
theorem Z2 (n:Int):Lib.itoa n≠ []:=by
 unfold Lib.itoa
 split
 . simp
 . intro h;have:=congrArg List.length h;rw[Lib.decDigits_length]at this;have h1:=Lib.nDigits_pos n.toNat;simp at this;omega
theorem Zk (v:Val):C8 v≠ []:=by
 obtain⟨k,b,n,t,l,o⟩:=v;simp only[C8]
 split
 . cases b<;>decide
 split
 . intro h;exact Z2 n h
 split
 . simp[Dd]
 split
 . simp
 split
 . simp
 . simp
theorem Aa1 (W:World) (B:Nat) (keeps:Bool) (h:B<=W.heap.size):Wr (W.alloc (.cells #[.bool keeps,.pointer none,.slice none 0 0,.int .i64 0] 131)) B W.heap.size keeps []:=
 ⟨.pointer none,.slice none 0 0,h,heap_alloc_new _ _,by decide,by simp,.inl rfl,.slice none 0 0,rfl,by cases keeps<;>exact World.ownsRow_nil _ _ _ _⟩
theorem Ko (k:Int) (b:Bool) (n:Int) (t:ByteArray) (l:List Val) (o:List (ByteArray×Val)) (la oa:Option Addr) (lc oc:Nat) (keeps:Bool) (w:World) (hT:Cl w)
 (hV:Ae w w.heap.size (.mk k b n t l o) (Dr k b n t la l.length lc oa o.length oc)) (hb:(Val.mk k b n t l o).bulk<=1000000000) (hok:Su (.mk k b n t l o)):
 Calls Tryz.prog (I0 k) (#[.pointer (some ⟨w.heap.size,0,none⟩)]++E5 k (w.heap.size+1))
  ((w.alloc (.cells #[.bool keeps,.pointer none,.slice none 0 0,.int .i64 0] 131)).alloc (.cells #[.int .i64 k,.bool b,.int .i64 n,.string t,.slice la l.length lc,.slice oa o.length oc] 33))
  fun e w'=>e=.returned (.tuple #[])/\Wr w' w.heap.size w.heap.size keeps (C8 (.mk k b n t l o))/\Below w.heap.size w w':=by
 have hw:=Um (.mk k b n t l o);have h5:=hT.1;have hWA:Wr (w.alloc (.cells #[.bool keeps,.pointer none,.slice none 0 0,.int .i64 0] 131)) w.heap.size w.heap.size keeps []:=Aa1 w _ keeps (Nat.le_refl _);obtain⟨wA,hA⟩: ∃wA,w.alloc (.cells #[.bool keeps,.pointer none,.slice none 0 0,.int .i64 0] 131)=wA:=⟨_,rfl⟩;have hAb:Below w.heap.size w wA:=hA▸(Below.refl _ _).alloc (Nat.le_refl _) _;have hAz:wA.heap.size=w.heap.size+1:=by rw[<-hA];simp
 rw[hA]at hWA ⊢;have hBb:Below wA.heap.size wA (wA.alloc (.cells #[.int .i64 k,.bool b,.int .i64 n,.string t,.slice la l.length lc,.slice oa o.length oc] 33)):=(Below.refl _ _).alloc (Nat.le_refl _) _;have hAB:Below w.heap.size w (wA.alloc (.cells #[.int .i64 k,.bool b,.int .i64 n,.string t,.slice la l.length lc,.slice oa o.length oc] 33)):=hAb.trans (hBb.mono (by omega));have hc:=hw _ w.heap.size w.heap.size wA.heap.size keeps [] _ k b n t l o rfl h5 (hT.below hAB) (hV.below hAB) (heap_alloc_new wA (.cells #[.int .i64 k,.bool b,.int .i64 n,.string t,.slice la l.length lc,.slice oa o.length oc] 33)) (by omega) (hWA.below hBb) hok hb (by simp;omega);rw[hAz,List.nil_append]at hc;refine hc.mono ?_;rintro e w' ⟨he,h1,h2,h3⟩;exact⟨he,h1,hAB.trans h2⟩
theorem Ot {w:World} {g:Nat} {k:Int} {b:Bool} {n:Int} {t:ByteArray} {x y:Value} (h:w.heap[g]? =some (.cells #[.int .i64 k,.bool b,.int .i64 n,.string t,x,y] 33 (0,0))):
 w.cell? ⟨g,0,none⟩=some (.int .i64 k)/\w.cell? ⟨g,1,none⟩=some (.bool b)/\w.cell? ⟨g,2,none⟩=some (.int .i64 n)/\w.cell? ⟨g,3,none⟩=some (.string t)/\w.cell? ⟨g,4,none⟩=some x/\w.cell? ⟨g,5,none⟩=some y:=by
 refine⟨?_, ?_, ?_, ?_, ?_, ?_⟩<;>(rw[Lib.cell_of_heap h];rfl)
def Lp (v:Val):ByteArray:=if Br v 1=0 then⟨(C8 v).toArray⟩else⟨#[]⟩
theorem S5 (v:Val) (cs:List Value) (w:World) (hT:Cl w) (hV:Ae w w.heap.size v cs) (hb:v.bulk<=1000000000) (hi:Nq v):
 Calls Tryz.prog 45 #[.agg cs.toArray] w fun e w'=>e=.returned (.tuple #[.string (Lp v),.int .i64 (Br v 1)])/\Below w.heap.size w w':=by
 have hV':=hV;obtain⟨k,b,n,t,l,o⟩:=v;simp only[Ae]at hV';obtain⟨la,lc,oa,oc,rfl,_,_⟩:=hV';obtain⟨w1,hw1⟩: ∃w1,w.alloc (.cells (Dr k b n t la l.length lc oa o.length oc).toArray 33)=w1:=⟨_,rfl⟩;have hb1:Below w.heap.size w w1:=hw1▸(Below.refl _ _).alloc (Nat.le_refl _) _;have hz1:w1.heap.size=w.heap.size+1:=by rw[<-hw1];simp
 have hbx:w1.heap[w.heap.size]? =some (.cells #[.int .i64 k,.bool b,.int .i64 n,.string t,.slice la l.length lc,.slice oa o.length oc] 33 (0,0)):=by rw[<-hw1];exact heap_alloc_new _ _
 have hT1:=hT.below hb1;have hV1:=Ae.more (hb1.size) _ _ (hV.below hb1);have hM:=Ol _ _ w1 hT1 hV1 hb;obtain⟨HX,HW⟩:=hid2 hbx hb1;by_cases hm:Br (.mk k b n t l o) 1=0
 . have hok:=Yy _ 1 hm hi;have hB:=fun w' (h:Below w1.heap.size w1 w')=>Ko k b n t l o la oa lc oc true w' (hT1.below h) (Ae.more h.size _ _ (hV1.below h)) hb hok;have hne:=Zk (.mk k b n t l o);have HO:=qz (fun w=>It k b n t la oa l.length lc o.length oc w);unfold Lp;rw[hm]at hM ⊢;rw[if_pos rfl];generalize C8 (.mk k b n t l o)=L at hB hne ⊢;have ent:=Fu;obtain⟨HB,HM,HZ⟩:=hid3 hB hM hz1;clear hB hM hm hok hi hb hT hV hT1 hV1 hbx hb1 hz1;subst hw1;go_enter Tryz.func45,Tryz.ntmps45;go_wp2_with (first|(go_at_call 56;refine(HM.out).mono ?_;rintro e w2 ⟨rfl,hb2⟩;have hz2:=hb2.size;rw[HZ.out]at hz2;have hlt2:w.heap.size<w2.heap.size:=(by omega);have hbox:w2.heap[w.heap.size]? =some (.cells #[.int .i64 k,.bool b,.int .i64 n,.string t,.slice la l.length lc,.slice oa o.length oc] 33 (0,0)):=(hb2.block _ (by simp)).trans HX.out;obtain⟨d0,d1,d2,d3,d4,d5⟩:=Ot hbox)|(go_at_call 81;refine(HO.out _).mono ?_;rintro e w3 ⟨rfl,rfl⟩)|(go_at_fn (I0 k);refine(HB.out _ hb2).mono ?_;rintro e w4 ⟨rfl,h6,h7⟩;obtain⟨pp,vv,hbld⟩:=h6)|(go_at_call 82;refine(J0 _ _ _ _ _ _ _ hbld hne).mono ?_;rintro e w5 ⟨rfl,hb5,hk5⟩));go_ret2;exact⟨rfl,HW.out.trans ((hb2.trans ((h7.trans hb5).mono hb2.size)).mono (by simp))⟩
 . unfold Lp;rw[if_neg hm];have hmb:(Br (.mk k b n t l o) 1==0)=false:=by simpa using hm
   generalize Br (.mk k b n t l o) 1=m at*
   have HM:=qz hM;clear hM hm hi hb hT hV hT1 hV1 hbx hb1 hz1;subst hw1;go_enter Tryz.func45,Tryz.ntmps45;go_wp2_with (go_at_call 56;refine(HM.out).mono ?_;rintro e w2 ⟨rfl,hb2⟩);go_ret2;exact⟨rfl,HW.out.trans (hb2.mono (by simp))⟩
theorem Q5 (v:Val) (cs:List Value) (w:World) (hT:Cl w) (hV:Ae w w.heap.size v cs) (hb:v.bulk<=1000000000) (hok:Su v):
 Calls Tryz.prog 75 #[.agg cs.toArray] w fun e w'=>e=.returned (.int .i64 (C8 v).length)/\Below w.heap.size w w':=by
 have hV':=hV;obtain⟨k,b,n,t,l,o⟩:=v;simp only[Ae]at hV';obtain⟨la,lc,oa,oc,rfl,_,_⟩:=hV';obtain⟨w1,hw1⟩: ∃w1,w.alloc (.cells (Dr k b n t la l.length lc oa o.length oc).toArray 33)=w1:=⟨_,rfl⟩;have hb1:Below w.heap.size w w1:=hw1▸(Below.refl _ _).alloc (Nat.le_refl _) _;have hz1:w1.heap.size=w.heap.size+1:=by rw[<-hw1];simp
 have hc:=Ko k b n t l o la oa lc oc false w1 (hT.below hb1) (Ae.more hb1.size _ _ (hV.below hb1)) hb hok;have HO:=qz (fun w=>It k b n t la oa l.length lc o.length oc w);rw[hz1]at hc;generalize C8 (.mk k b n t l o)=L at*
 have ent:=Fu;obtain⟨HC,HAB⟩:=hid2 hc hb1;subst hw1;clear hc hV hb hok hT hz1 hb1;go_enter Tryz.func75,Tryz.ntmps75;go_wp2_with (first|(go_at_call 81;refine(HO.out _).mono ?_;rintro e w2 ⟨rfl,rfl⟩)|(go_at_fn (I0 k);refine(HC.out).mono ?_;rintro e w4 ⟨rfl,h6,h7⟩;have hW4:=h6;obtain⟨pp,vv,hbld⟩:=hW4;have g3:w4.cell? ⟨w.heap.size+1,3,none⟩=some (.int .i64 (L.length:Int)):=by(rw[Lib.cell_of_heap hbld.2.1];rfl)));go_ret;exact⟨rfl,HAB.out.trans (h7.mono (by simp))⟩
def K5 (v1 v2:Value):Prop:= ∀g,v1.ownBlock=some g->v2.ownBlock≠some g
theorem K5.ne {v1 v2:Value} (h:K5 v1 v2):v1.ownBlock=none\/v1.ownBlock≠v2.ownBlock:=by
 cases e:v1.ownBlock with
 |none=>exact .inl rfl
 |some g=>exact .inr fun e'=>h g e (by rw[<-e'])
theorem K5.symm {v1 v2:Value} (h:K5 v1 v2):K5 v2 v1:=fun g e e'=>h g e' e
theorem K5.step {v1 v1' v2:Value} {w:World} {B n N:Nat} {e:TypeId} {size:Nat} {xs:List Value} (h:K5 v1 v2) (h2:w.ownsRow B e size v2 n xs) (h4:v1'.ownBlock=v1.ownBlock\/v1'.ownBlock=some N) (hN:w.heap.size<=N):K5 v1' v2:=by
 intro g e1 e2;rcases h4 with h4|h4
 . exact h g (by rw[<-h4];exact e1) e2
 . rw[h4]at e1;obtain rfl:=Option.some.inj e1;have:=(h2.lt _ e2).2;omega
def Qr (r:Nat) (j:Nat):Prop:= ∀i:Nat,i<j->i≠2->Pu.getD i 0≠(r:Int)
theorem Qr.all {r:Nat} (h:Qr r 8):r≠34/\r≠92/\r≠8/\r≠12/\r≠10/\r≠13/\r≠9:=by
 have h0:=h 0 (by omega) (by omega);have h1:=h 1 (by omega) (by omega);have h3:=h 3 (by omega) (by omega);have h4:=h 4 (by omega) (by omega);have h5:=h 5 (by omega) (by omega);have h6:=h 6 (by omega) (by omega);have h7:=h 7 (by omega) (by omega);simp[Pu]at h0 h1 h3 h4 h5 h6 h7;omega
theorem Qr.step {r j:Nat} (h:Qr r j) (hj:j=2\/Pu.getD j 0≠(r:Int)):Qr r (j+1):=by
 intro i hi h2;by_cases he:i=j
 . subst he;rcases hj with hj|hj
   . exact absurd hj h2
   . exact hj
 . exact h i (by omega) h2
theorem Tu {k:Int} {b:Bool} {n:Int} {t:ByteArray} {l:List Val} {o:List (ByteArray×Val)} {d:Int} (h:Br (.mk k b n t l o) d=0):
 Gr k b n t l.length o.length=false/\d<=64/\Bc t=true/\Dz l (d+1)=0/\Ea o none (d+1)=0:=by
 simp only[Br]at h
 split at h
 . cases h
 rename_i h1
 split at h
 . cases h
 split at h
 . rename_i hv
   split at h
   . rename_i h0;exact⟨by simpa using h1,by omega,hv,h0,h⟩
   . rename_i h0;exact absurd h h0
 . cases h
end Go.Proofs.YtdbejcbbhomdbaaGreatDoor
