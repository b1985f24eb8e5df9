/- Parts: What may stand deep may stand higher; what is within a value that may be, may be. Plain. No condition. -/
import Derived.Shelf.AbstractIn
import Derived.Deep.RegionWith
import Derived.Test.YtobmaegpfbheoaaGreatDoorKPf12
set_option maxHeartbeats 20000000
set_option maxRecDepth 100000
namespace Go.Proofs.YtobmaegpfbheoaaGreatDoor
open Go.RowKit
attribute [local go_sem] Oper.semAt_some
theorem Mb: ∀(o:List (ByteArray×Val)) (f:Bool) {pre:List (Bool×(ByteArray×Val))} {x:Bool×(ByteArray×Val)} {rest:List (Bool×(ByteArray×Val))},Fp o f=pre++x::rest->
 x.1=(f&&(pre.map (·.2)).isEmpty)/\o=pre.map (·.2)++x.2::rest.map (·.2)
 | [],f,pre,x,rest,h=>by simp[Fp]at h
 |p::r,f, [],x,rest,h=>by
  simp only[Fp,List.nil_append,List.cons.injEq]at h;obtain⟨rfl,h⟩:=h;have: ∀(l:List (ByteArray×Val)) (f:Bool),(Fp l f).map (·.2)=l:=by
   intro l
   induction l with
   |nil=>intro f;rfl
   |cons a l ih=>intro f;simp[Fp,ih]
  rw[<-h,this];simp
 |p::r,f,y::pre,x,rest,h=>by
  simp only[Fp,List.cons_append,List.cons.injEq]at h;obtain⟨rfl,h⟩:=h;obtain⟨h1,h2⟩:=Mb r false h;exact⟨by simpa using h1,by simp[<-h2]⟩
theorem P6: ∀(l:List (ByteArray×Val)) (f:Bool),(Fp l f).map (·.2)=l
 | [],_=>rfl
 |a::l,f=>by simp[Fp,P6 l]
theorem Du.of_below {g:Nat} {A W:World} (h:Below A.heap.size A W):Du g A W:=fun j _ hj _ _=>(h.block j (Array.getElem?_eq_some_iff.1 hj).1).trans hj
theorem W9: ∀{a:List (ByteArray×Val)} {b:List (ByteArray×Val)},V4 (a++b)->V4 a
 | [],_,_=>by simp[V4]
 |x::r,b,h=>by simp only[List.cons_append,V4]at h ⊢;exact⟨h.1,W9 h.2⟩
theorem Pv: ∀(a:List (ByteArray×Val)) (p:ByteArray×Val) (b:List (ByteArray×Val)),Av a+Ds p<=Av (a++p::b)
 | [],p,b=>by simp[Av]
 |x::r,p,b=>by have:=Pv r p b;simp only[List.cons_append,Av];omega
def OI (W:World) (B g b pm:Nat) (keeps:Bool) (acc:List UInt8) (sl:Value) (pre:List (Bool×(ByteArray×Val))) (A:World):Prop:=
 Wr A B g keeps (acc++123::Cc (pre.map (·.2)) true)/\Below B W A/\Du g W A/\A.heap[b]? =some (.cells #[.pointer (some ⟨g,0,none⟩)] 103 (0,0))/\A.heap[pm]? =some (.cells #[sl] 40 (0,0))
theorem Jr (o:List (ByteArray×Val)) (IH: ∀m ∈ o,Qo m.2) (W:World) (B g p:Nat) (h5:5<=B) (keeps:Bool) (acc:List UInt8) (oa:Option Addr) (oc:Nat) (v0 v1 v2 v3 v4:Value)
 (hp:W.heap[p]? =some (.cells #[v0,v1,v2,v3,v4,.slice oa o.length oc] 42 (0,0)))
 (gl off:Nat) (hoa:o= []\/(oa=some ⟨gl,off,none⟩/\gl<B/\As W B o gl off)) (hT:B7 W) (hpg:p≠g) (hW:Wr W B g keeps acc) (hok:V4 o) (hlen:acc.length+6*(6+Av o)<=20000000000) (hb:Av o<=1000000000):
 Calls Tryz.prog 105 #[.pointer (some ⟨g,0,none⟩),.pointer (some ⟨p,0,none⟩)] W fun e W'=>e=.returned (.tuple #[])/\Wr W' B g keeps (acc++123::(Cc o true++ [125]))/\Below B W W'/\Du g W W':=by
 have hoo:o.length<=1000000000:=by have:=Do o;omega
 have hgW:=hW.lt;have hBg:=hW.base;have hpW:=(Array.getElem?_eq_some_iff.1 hp).1;have hW0:Wr (W.alloc (.cells #[.pointer (some ⟨g,0,none⟩)] 103)) B g keeps acc:=hW.below ((Below.refl _ _).alloc (Nat.le_refl _) _);have Hb0:Hid (Below W.heap.size W (W.alloc (.cells #[.pointer (some ⟨g,0,none⟩)] 103))):=(Below.refl _ _).alloc (Nat.le_refl _) _;have hB0:=heap_alloc_new W (.cells #[.pointer (some ⟨g,0,none⟩)] 103);have hz0:(W.alloc (.cells #[.pointer (some ⟨g,0,none⟩)] 103)).heap.size=W.heap.size+1:=by simp
 have hj1:=D5 [⟨#[123]⟩] 1 hW0 (by simp[Dv];omega) (by simp);rw[hz0]at hj1;obtain⟨HJ1,HB0,HP,HOA,HIH,HOK,HT⟩:=hid7 hj1 hB0 hp hoa IH hok hT;clear hj1 hB0 hp hoa IH hok hT hW0;refine(callsIn_wide (n:=12)).1 ?_;refine callsIn_of_wp_marks Tryz.func105 rfl trivial ?_ rfl;simp only[Tryz.ntmps105,List.size_toArray,List.length_cons,List.length_nil,Nat.reduceAdd,Nat.reduceSub,Array.replicate_succ,Array.replicate_zero,List.push_toArray,List.append_toArray,List.nil_append,List.cons_append]
 gi_wp2_with (first|(refine⟨trivial, ?_⟩;gi_at_call 97;refine(callsIn_wide.2 HJ1.out).mono ?_;rintro e w1 ⟨rfl,hw1,hb1,hk1⟩;have hp1:=hk1.cells ((Hb0.out.block p hpW).trans HP.out) hpg (by decide);have c5:w1.cell? ⟨p,5,none⟩=some (.slice oa o.length oc):=(Lib.cell_of_heap hp1 5).trans rfl)|(refine⟨trivial, ?_⟩;gi_at_call 106;refine(callsIn_wide.2 (O4 oa o.length oc w1)).mono ?_;rintro e w2 ⟨rfl,hw2⟩))
 have hz1:=hw1.lt;have hbW1:Below B W w1:=(Hb0.out.mono (by omega)).trans hb1;have hkW1:Du g W w1:=(Du.of_below Hb0.out).trans hk1;have hbx1:=hk1.cells HB0.out (by omega) (by decide);have hs1:=hb1.size;have hWs:W.heap.size<w1.heap.size:=(Array.getElem?_eq_some_iff.1 hbx1).1;have hg2:Below w1.heap.size w1 w2:=hw2▸(Below.refl _ _).alloc (Nat.le_refl _) _;have hpm:w2.heap[w1.heap.size]? =some (.cells #[.slice oa o.length oc] 40 (0,0)):=hw2▸heap_alloc_new _ _;have hbx2:=(hg2.block W.heap.size hWs).trans hbx1;have hW2:Wr w2 B g keeps (acc++123::Cc [] true):=by
  have:=hw1.below hg2;simpa[Dv,Cc]using this
 have hb2:Below B W w2:=hbW1.trans (hg2.mono (by omega));have hk2:Du g W w2:=hkW1.trans (Du.of_below hg2);have hz2:=(Array.getElem?_eq_some_iff.1 hpm).1;clear hw2 hw1 hb1 hk1 hp1 c5 hbW1 hkW1 hbx1 hg2 hs1;refine Pp (n:=10) (gf:=155) (lb:= #[.pointer (some ⟨w1.heap.size,0,none⟩)]) rfl (enters_of Tryz.func155 (by kernel_rfl) rfl) (N9 o W B g w1.heap.size oa oc gl off h5 HT.out HOA.out HOK.out hb) (fun _ _=>rfl)
  ?hEp (OI W B g W.heap.size w1.heap.size keeps acc (.slice oa o.length oc)) ?hIn ?hIp ?hIb ?h0 ?a1 ?assign ?body ?done
 case assign=>
  intro l x q W K hK;dsimp only[Vy]
  gi_wp2
  exact hK
 case h0=>exact⟨hW2,hb2,hk2,hbx2,hpm⟩
 case hIb=>
  rintro pre A ⟨h1,h2,h3,h4,h6⟩;exact⟨h6,h2,h1.lt⟩
 case hIn=>
  rintro pre A A' ⟨h1,h2,h3,h4,h6⟩ hb';exact⟨h1.below hb',h2.trans (hb'.mono (Nat.le_trans h1.base (Nat.le_of_lt h1.lt))),h3.trans (Du.of_below hb'),(hb'.block _ (Array.getElem?_eq_some_iff.1 h4).1).trans h4,(hb'.block _ (Array.getElem?_eq_some_iff.1 h6).1).trans h6⟩
 case hEp=>
  rintro x q A k u u' ⟨h1,cs,h2,h3⟩ ho hc;refine⟨h1,cs, ?_,h3⟩;rw[World.putObj_heap_other (by rintro rfl;rw[h2]at ho;injection ho with ho;subst ho;simp[Obj.isCells]at hc)];exact h2
 case hIp=>
  rintro pre A k u u' ⟨h1,h2,h3,h4,h6⟩ ho hc hk;refine⟨h1.put ho hc,h2.grown (grownBy_putObj' A k u') (by have:=h2.size;omega) (fun j e=>by cases e;omega),fun j v hj hg hv=> ?_, ?_, ?_⟩
  . have:=(Array.getElem?_eq_some_iff.1 hj).1;rw[World.putObj_heap_other (by omega)];exact h3 j v hj hg hv
  . rw[World.putObj_heap_other (by omega)];exact h4
  . rw[World.putObj_heap_other (by omega)];exact h6
 case body=>
  rintro l pre x rest q A hx ⟨h1,h2,h3,h4,h6⟩ ⟨hq,cs,hqc,hqv⟩ ⟨ds,hds⟩ ⟨rc,hrc⟩;obtain⟨hf,ho⟩:=Mb o true hx;have htl:=Jb (pre.map (·.2)) (fun m _=>Fd m.2) (W9 (ho▸HOK.out)) true;have hbk:Av (pre.map (·.2))+Ds x.2<=Av o:=by rw[ho];exact Pv _ _ _
  have hxm:x.2 ∈ o:=by rw[ho];simp
  have hokx:=W8 HOK.out hxm;have hsn:Cc ((pre++ [x]).map (·.2)) true=Cc (pre.map (·.2)) true++((D9 x).data.toList++(58::Bd x.2.2)):=by
   rw[List.map_append,List.map_cons,List.map_nil,J0];obtain⟨f,key,v⟩:=x;simp only at hf;simp only[T3,D9,hf];simp[List.append_assoc]
  obtain⟨f,key,v⟩:=x;obtain⟨k',b',n',t',l',o'⟩:=v;have hqk:=F2 key;have hmt:(D9 (f,key,.mk k' b' n' t' l' o')).data.toList.length<=6*key.size+3:=by
   simp only[D9]
   split<;>simp<;>omega
  simp only[Ds]at hbk;have hfl:Dv [D9 (f,key,.mk k' b' n' t' l' o'),⟨#[58]⟩]=(D9 (f,key,.mk k' b' n' t' l' o')).data.toList++ [58]:=by simp[Dv]
  have hlA:(acc++123::Cc (pre.map (·.2)) true).length+6*(Val.mk k' b' n' t' l' o').bulk+6*key.size+7<=20000000000:=by
   rw[List.length_append,List.length_cons];omega
  have hqb:(Val.mk k' b' n' t' l' o').bulk<=1000000000:=by omega
  have hM1:((D9 (f,key,.mk k' b' n' t' l' o')).data.toList++ [58]).length=(D9 (f,key,.mk k' b' n' t' l' o')).data.toList.length+1:=by simp
  have IHv:=qz (HIH.out _ hxm);obtain⟨HOKx,Hsn⟩:=hid2 hokx hsn;have hj:=D5 [D9 (f,key,.mk k' b' n' t' l' o'),⟨#[58]⟩] 2 h1 (by rw[hfl];omega) (by simp);rw[hfl]at hj;obtain⟨HJ,HQ,HV⟩:=hid3 hj hqc hqv;have h4c:A.cell? ⟨W.heap.size,0,none⟩=some (.pointer (some ⟨g,0,none⟩)):=(Lib.cell_of_heap h4 0).trans rfl;have H2:=qz h2;have hA:=h1.lt;have hAb:=(Array.getElem?_eq_some_iff.1 h4).1;have hl3:((acc++123::Cc (pre.map (fun y:Bool×(ByteArray×Val)=>y.2)) true)++((D9 (f,key,.mk k' b' n' t' l' o')).data.toList++ [58])).length+6*(Val.mk k' b' n' t' l' o').bulk<=20000000000:=by
   rw[List.length_append];omega
  have ent:=Ga;simp only[Val.kind];clear hj hsn hokx hxm ho hf htl hbk hx hfl hqc hqv
  gi_wp2_with (first|(refine⟨trivial, ?_⟩;gi_at_call 97;refine(CallsIn.inRound l (callsIn_wide.2 HJ.out)).mono ?_;rintro e A2 ⟨rfl,g1,g2,g3⟩;have g4:=g3.cells h4 (by omega) (by decide);have g5:A2.cell? ⟨W.heap.size,0,none⟩=some (.pointer (some ⟨g,0,none⟩)):=(Lib.cell_of_heap g4 0).trans rfl)|(refine⟨trivial, ?_⟩;gi_at_fn (Jd k');refine(CallsIn.inRound l (callsIn_wide.2 (IHv.out A2 B g q keeps _ cs k' b' n' t' l' o' rfl h5 (HT.out.keep (H2.out.trans g2) h5) (HV.out.below (H2.out.trans g2)) (g3.cells HQ.out (by omega) (by decide)) (by omega) g1 HOKx.out.2 hqb hl3))).mono ?_;rintro e A3 ⟨rfl,g6,g7,g8⟩))
  have hkk:Du g A A3:=g3.trans g8;refine⟨?_, ?_, ?_,h2.trans (g2.trans g7),h3.trans hkk,hkk.cells h4 (by omega) (by decide),hkk.cells h6 (by omega) (by decide)⟩
  . exact(hkk _ _ hds (by simp;omega) (fun c fz e=>by cases e)).trans hds.symm
  . exact(hkk _ _ hrc (by simp;omega) (fun c fz e=>by cases e)).trans hrc.symm
  . rw[Hsn.out];simpa[List.append_assoc]using g6
 case done=>
  rintro A ⟨h1,h2,h3,h4,h6⟩ hds;rw[P6]at h1;have htl:=Jb o (fun m _=>Fd m.2) HOK.out true;have HJ:=qz (D5 [⟨#[125]⟩] 1 h1 (by rw[List.length_append,List.length_cons];simp[Dv];omega) (by simp));have h4c:A.cell? ⟨W.heap.size,0,none⟩=some (.pointer (some ⟨g,0,none⟩)):=(Lib.cell_of_heap h4 0).trans rfl;have hA:=h1.lt;have hAb:=(Array.getElem?_eq_some_iff.1 h4).1;have e:Dv [⟨#[125]⟩]= [125]:=by simp[Dv]
  clear htl
  gi_wp2_with (refine⟨trivial, ?_⟩;gi_at_call 97;refine(callsIn_wide.2 HJ.out).mono ?_;rintro e A2 ⟨rfl,g1,g2,g3⟩)
  have hd:=g3 _ _ hds (by simp;omega) (fun c fz e=>by cases e);refine⟨by simp,.inl ⟨_,_,rfl,run_takeDeferred hd, ?_⟩⟩;rw[e,List.append_assoc,List.cons_append]at g1;refine⟨_,results_none rfl _ _ _,rfl, ?_⟩;have hbA:=h2.trans g2;refine⟨g1.put hd rfl,hbA.grown (grownBy_putObj' A2 w2.heap.size _) (by have:=hbA.size;omega) (fun j e=>by cases e;omega),fun j v hj hg hv=> ?_⟩;have:=(Array.getElem?_eq_some_iff.1 hj).1;rw[World.putObj_heap_other (by omega)];exact g3 j v (h3 j v hj hg hv) hg hv
theorem Ws: ∀v,Qo v:=by
 refine Val.ind ?_;intro k b n t l o IHl IHo W B g p keeps acc cs k' b' n' t' l' o' hv h5 hT hH hp hpg hW hok hbk hlen
 injection hv with e1 e2 e3 e4 e5 e6
 subst e1 e2 e3 e4 e5 e6;simp only[Ab]at hH;obtain⟨la,lc,oa,oc,rfl,hla,hoa⟩:=hH;simp only[Ui]at hok;simp only[Val.bulk]at hbk hlen;by_cases h2:k=2
 . subst h2;exact Ub W B g p keeps acc b _ _ _ _ _ hp hW (by omega)
 by_cases h3:k=3
 . subst h3;exact Wt W B g p keeps acc n _ _ _ _ _ hp hT hok.2.1.1 hok.2.1.2 hpg hW (by omega)
 by_cases h4:k=4
 . subst h4;exact Ud W B g p keeps acc t _ _ _ _ _ hp hT hok.1 (by omega) hpg hW (by omega)
 by_cases h5':k=5
 . subst h5';rcases hla with rfl|⟨gl,off,rfl,hg,hL⟩
   . exact Mp [] IHl W B g p h5 keeps acc la lc _ _ _ _ _ hp 0 0 (.inl rfl) hT hpg hW hok.2.2.1 (by omega) (by omega)
   . exact Mp l IHl W B g p h5 keeps acc _ lc _ _ _ _ _ hp gl off (.inr ⟨rfl,hg,hL⟩) hT hpg hW hok.2.2.1 (by omega) (by omega)
 by_cases h6:k=6
 . subst h6;rcases hoa with rfl|⟨gl,off,rfl,hg,hL⟩
   . exact Jr [] IHo W B g p h5 keeps acc oa oc _ _ _ _ _ hp 0 0 (.inl rfl) hT hpg hW hok.2.2.2 (by omega) (by omega)
   . exact Jr o IHo W B g p h5 keeps acc _ oc _ _ _ _ _ hp gl off (.inr ⟨rfl,hg,hL⟩) hT hpg hW hok.2.2.2 (by omega) (by omega)
 . have ef:Jd k=107:=by simp[Jd,h2,h3,h4,h5',h6]
   have ec:Ft k p= #[]:=by simp[Ft,h2,h3,h4,h5',h6]
   have et:Bd (.mk k b n t l o)= [110,117,108,108]:=by simp[Bd,h2,h3,h4,h5',h6]
   rw[ef,ec,et];exact Uc W B g keeps acc hW (by omega)
theorem Zt: ∀(l:List Val),(∀v ∈ l,∀d,A9 v d=0->Jg v->Ui v)-> ∀d,Cy l d=0->Oz l->Uh l
 | [],_,_,_,_=>by simp[Uh]
 |v::r,ih,d,h,hi=>by
  simp only[Cy]at h;simp only[Oz]at hi;simp only[Uh]
  split at h
  . rename_i h0;exact⟨ih v (by simp) d h0 hi.1,Zt r (fun x hx=>ih x (by simp[hx])) d h hi.2⟩
  . rename_i h0;exact absurd h h0
theorem Zv: ∀(l:List (ByteArray×Val)),(∀m ∈ l,∀d,A9 m.2 d=0->Jg m.2->Ui m.2)-> ∀last d,Cf l last d=0->P2 l->V4 l
 | [],_,_,_,_,_=>by simp[V4]
 |(key,v)::r,ih,last,d,h,hi=>by
  simp only[Cf]at h;simp only[P2,inP]at hi;simp only[V4,okP]
  split at h
  . rename_i h0;refine⟨?_,Zv r (fun x hx=>ih x (by simp[hx])) _ d h hi.2⟩;simp only[N3]at h0
    split at h0
    . rename_i hv;refine⟨hv, ?_⟩
      cases last with
      |none=>exact ih (key,v) (by simp) d h0 hi.1
      |some q=>
       simp only at h0
       split at h0
       . cases h0
       . exact ih (key,v) (by simp) d h0 hi.1
    . cases h0
  . rename_i h0;exact absurd h h0
theorem Oc: ∀v d,A9 v d=0->Jg v->Ui v:=by
 refine Val.ind ?_;intro k b n t l o hl ho d h hi;simp only[A9]at h;simp only[Jg]at hi;simp only[Ui]
 split at h
 . cases h
 split at h
 . cases h
 split at h
 . rename_i hv
   split at h
   . rename_i h0;exact⟨hv,hi.1,Zt l hl _ h0 hi.2.1,Zv o ho _ _ h hi.2.2⟩
   . rename_i h0;exact absurd h h0
 . cases h
theorem Aar (n:Int):Lib.itoa n≠ []:=by
 unfold Lib.itoa
 split
 . simp
 . intro h;have:=congrArg List.length h;rw[Lib.decDigits_length]at this;have h1:=Lib.nDigits_pos n.toNat;simp at this;omega
theorem Z8 (v:Val):Bd v≠ []:=by
 obtain⟨k,b,n,t,l,o⟩:=v;simp only[Bd]
 split
 . cases b<;>decide
 split
 . intro h;exact Aar n h
 split
 . simp[Cp]
 split
 . simp
 split
 . simp
 . simp
theorem Abu (W:World) (B:Nat) (keeps:Bool) (h:B<=W.heap.size):Wr (W.alloc (.cells #[.bool keeps,.pointer none,.slice none 0 0,.int .i64 0] 100)) B W.heap.size keeps []:=
 ⟨.pointer none,.slice none 0 0,h,heap_alloc_new _ _,by decide,by simp,.inl rfl,.slice none 0 0,rfl,by cases keeps<;>exact World.ownsRow_nil _ _ _ _⟩
theorem K4 (k:Int) (b:Bool) (n:Int) (t:ByteArray) (l:List Val) (o:List (ByteArray×Val)) (la oa:Option Addr) (lc oc:Nat) (keeps:Bool) (w:World) (hT:B7 w)
 (hV:Ab w w.heap.size (.mk k b n t l o) (Df k b n t la l.length lc oa o.length oc)) (hb:(Val.mk k b n t l o).bulk<=1000000000) (hok:Ui (.mk k b n t l o)):
 Calls Tryz.prog (Jd k) (#[.pointer (some ⟨w.heap.size,0,none⟩)]++Ft k (w.heap.size+1))
  ((w.alloc (.cells #[.bool keeps,.pointer none,.slice none 0 0,.int .i64 0] 100)).alloc (.cells #[.int .i64 k,.bool b,.int .i64 n,.string t,.slice la l.length lc,.slice oa o.length oc] 42))
  fun e w'=>e=.returned (.tuple #[])/\Wr w' w.heap.size w.heap.size keeps (Bd (.mk k b n t l o))/\Below w.heap.size w w':=by
 have hw:=Ws (.mk k b n t l o);have h5:=hT.1;have hWA:Wr (w.alloc (.cells #[.bool keeps,.pointer none,.slice none 0 0,.int .i64 0] 100)) w.heap.size w.heap.size keeps []:=Abu w _ keeps (Nat.le_refl _);obtain⟨wA,hA⟩: ∃wA,w.alloc (.cells #[.bool keeps,.pointer none,.slice none 0 0,.int .i64 0] 100)=wA:=⟨_,rfl⟩;have hAb:Below w.heap.size w wA:=hA▸(Below.refl _ _).alloc (Nat.le_refl _) _;have hAz:wA.heap.size=w.heap.size+1:=by rw[<-hA];simp
 rw[hA]at hWA ⊢;have hBb:Below wA.heap.size wA (wA.alloc (.cells #[.int .i64 k,.bool b,.int .i64 n,.string t,.slice la l.length lc,.slice oa o.length oc] 42)):=(Below.refl _ _).alloc (Nat.le_refl _) _;have hAB:Below w.heap.size w (wA.alloc (.cells #[.int .i64 k,.bool b,.int .i64 n,.string t,.slice la l.length lc,.slice oa o.length oc] 42)):=hAb.trans (hBb.mono (by omega));have hc:=hw _ w.heap.size w.heap.size wA.heap.size keeps [] _ k b n t l o rfl h5 (hT.below hAB) (hV.below hAB) (heap_alloc_new wA (.cells #[.int .i64 k,.bool b,.int .i64 n,.string t,.slice la l.length lc,.slice oa o.length oc] 42)) (by omega) (hWA.below hBb) hok hb (by simp;omega);rw[hAz,List.nil_append]at hc;refine hc.mono ?_;rintro e w' ⟨he,h1,h2,h3⟩;exact⟨he,h1,hAB.trans h2⟩
theorem Pt {w:World} {g:Nat} {k:Int} {b:Bool} {n:Int} {t:ByteArray} {x y:Value} (h:w.heap[g]? =some (.cells #[.int .i64 k,.bool b,.int .i64 n,.string t,x,y] 42 (0,0))):
 w.cell? ⟨g,0,none⟩=some (.int .i64 k)/\w.cell? ⟨g,1,none⟩=some (.bool b)/\w.cell? ⟨g,2,none⟩=some (.int .i64 n)/\w.cell? ⟨g,3,none⟩=some (.string t)/\w.cell? ⟨g,4,none⟩=some x/\w.cell? ⟨g,5,none⟩=some y:=by
 refine⟨?_, ?_, ?_, ?_, ?_, ?_⟩<;>(rw[Lib.cell_of_heap h];rfl)
def T4 (v:Val):ByteArray:=if A9 v 1=0 then⟨(Bd v).toArray⟩else⟨#[]⟩
theorem Us (v:Val) (cs:List Value) (w:World) (hT:B7 w) (hV:Ab w w.heap.size v cs) (hb:v.bulk<=1000000000) (hi:Jg v):
 Calls Tryz.prog 26 #[.agg cs.toArray] w fun e w'=>e=.returned (.tuple #[.string (T4 v),.int .i64 (A9 v 1)])/\Below w.heap.size w w':=by
 have hV':=hV;obtain⟨k,b,n,t,l,o⟩:=v;simp only[Ab]at hV';obtain⟨la,lc,oa,oc,rfl,_,_⟩:=hV';obtain⟨w1,hw1⟩: ∃w1,w.alloc (.cells (Df k b n t la l.length lc oa o.length oc).toArray 42)=w1:=⟨_,rfl⟩;have hb1:Below w.heap.size w w1:=hw1▸(Below.refl _ _).alloc (Nat.le_refl _) _;have hz1:w1.heap.size=w.heap.size+1:=by rw[<-hw1];simp
 have hbx:w1.heap[w.heap.size]? =some (.cells #[.int .i64 k,.bool b,.int .i64 n,.string t,.slice la l.length lc,.slice oa o.length oc] 42 (0,0)):=by rw[<-hw1];exact heap_alloc_new _ _
 have hT1:=hT.below hb1;have hV1:=Ab.more (hb1.size) _ _ (hV.below hb1);have hM:=Pq _ _ w1 hT1 hV1 hb;obtain⟨HX,HW⟩:=hid2 hbx hb1;by_cases hm:A9 (.mk k b n t l o) 1=0
 . have hok:=Oc _ 1 hm hi;have hB:=fun w' (h:Below w1.heap.size w1 w')=>K4 k b n t l o la oa lc oc true w' (hT1.below h) (Ab.more h.size _ _ (hV1.below h)) hb hok;have hne:=Z8 (.mk k b n t l o);have HO:=qz (fun w=>Iz k b n t la oa l.length lc o.length oc w);unfold T4;rw[hm]at hM ⊢;rw[if_pos rfl];generalize Bd (.mk k b n t l o)=L at hB hne ⊢;have ent:=Ga;obtain⟨HB,HM,HZ⟩:=hid3 hB hM hz1;clear hB hM hm hok hi hb hT hV hT1 hV1 hbx hb1 hz1;subst hw1;go_enter Tryz.func26,Tryz.ntmps26;go_wp2_with (first|(go_at_call 52;refine(HM.out).mono ?_;rintro e w2 ⟨rfl,hb2⟩;have hz2:=hb2.size;rw[HZ.out]at hz2;have hlt2:w.heap.size<w2.heap.size:=(by omega);have hbox:w2.heap[w.heap.size]? =some (.cells #[.int .i64 k,.bool b,.int .i64 n,.string t,.slice la l.length lc,.slice oa o.length oc] 42 (0,0)):=(hb2.block _ (by simp)).trans HX.out;obtain⟨d0,d1,d2,d3,d4,d5⟩:=Pt hbox)|(go_at_call 53;refine(HO.out _).mono ?_;rintro e w3 ⟨rfl,rfl⟩)|(go_at_fn (Jd k);refine(HB.out _ hb2).mono ?_;rintro e w4 ⟨rfl,h6,h7⟩;obtain⟨pp,vv,hbld⟩:=h6)|(go_at_call 54;refine(J5 _ _ _ _ _ _ _ hbld hne).mono ?_;rintro e w5 ⟨rfl,hb5,hk5⟩));go_ret2;exact⟨rfl,HW.out.trans ((hb2.trans ((h7.trans hb5).mono hb2.size)).mono (by simp))⟩
 . unfold T4;rw[if_neg hm];have hmb:(A9 (.mk k b n t l o) 1==0)=false:=by simpa using hm
   generalize A9 (.mk k b n t l o) 1=m at*
   have HM:=qz hM;clear hM hm hi hb hT hV hT1 hV1 hbx hb1 hz1;subst hw1;go_enter Tryz.func26,Tryz.ntmps26;go_wp2_with (go_at_call 52;refine(HM.out).mono ?_;rintro e w2 ⟨rfl,hb2⟩);go_ret2;exact⟨rfl,HW.out.trans (hb2.mono (by simp))⟩
theorem S5: ∀{l:List Val} {d:Int},Cy l d=0-> ∀v ∈ l,A9 v d=0
 |v::r,d,h,x,hx=>by
  simp only[Cy]at h
  split at h
  . rename_i h0;rcases List.mem_cons.1 hx with rfl|hx
    . exact h0
    . exact S5 h x hx
  . rename_i h0;exact absurd h h0
theorem S7: ∀{l:List (ByteArray×Val)} {last:Option ByteArray} {d:Int},Cf l last d=0-> ∀m ∈ l,Al m.1=true/\A9 m.2 d=0
 |(key,v)::r,last,d,h,x,hx=>by
  simp only[Cf]at h
  split at h
  . rename_i h0;rcases List.mem_cons.1 hx with rfl|hx
    . simp only[N3]at h0
      split at h0
      . rename_i hv;refine⟨hv, ?_⟩
        cases last with
        |none=>exact h0
        |some q=>
         simp only at h0
         split at h0
         . cases h0
         . exact h0
      . cases h0
    . exact S7 h x hx
  . rename_i h0;exact absurd h h0
theorem N4 {k:Int} {b:Bool} {n:Int} {t:ByteArray} {l:List Val} {o:List (ByteArray×Val)} {d:Int} (h:A9 (.mk k b n t l o) d=0):
 Ec k b n t l.length o.length=false/\d<=64/\Al t=true/\Cy l (d+1)=0/\Cf o none (d+1)=0:=by
 simp only[A9]at h
 split at h
 . cases h
 rename_i h1
 split at h
 . cases h
 split at h
 . rename_i hv
   split at h
   . rename_i h0;exact⟨by simpa using h1,by omega,hv,h0,h⟩
   . rename_i h0;exact absurd h h0
 . cases h
theorem Aao {l:List Val} (h:Oz l) {x:Val} (hx:x ∈ l):Jg x:=by
 induction l with
 |nil=>cases hx
 |cons y r ih=>
  simp only[Oz]at h;rcases List.mem_cons.1 hx with rfl|hx
  . exact h.1
  . exact ih h.2 hx
theorem Aap {l:List (ByteArray×Val)} (h:P2 l) {x:ByteArray×Val} (hx:x ∈ l):Jg x.2:=by
 induction l with
 |nil=>cases hx
 |cons y r ih=>
  obtain⟨key,v⟩:=y;simp only[P2,inP]at h;rcases List.mem_cons.1 hx with rfl|hx
  . exact h.1
  . exact ih h.2 hx
theorem Qj: ∀(a b:List Val) (f:Bool),Cb (a++b) f=Cb a f++Cb b (f&&a.isEmpty)
 | [],b,f=>by simp[Cb]
 |x::r,b,f=>by simp only[List.cons_append,Cb,Qj r b false];simp
theorem Ik (l:List Val) (k:Nat) (f:Bool):(Cb (l.take k) f).length<=(Cb l f).length:=by
 have:=Qj (l.take k) (l.drop k) f;rw[List.take_append_drop]at this;rw[this];simp
theorem Qk: ∀(a b:List (ByteArray×Val)) (f:Bool),Cc (a++b) f=Cc a f++Cc b (f&&a.isEmpty)
 | [],b,f=>by simp[Cc]
 |x::r,b,f=>by simp only[List.cons_append,Cc,Qk r b false];simp
theorem Il (l:List (ByteArray×Val)) (k:Nat) (f:Bool):(Cc (l.take k) f).length<=(Cc l f).length:=by
 have:=Qk (l.take k) (l.drop k) f;rw[List.take_append_drop]at this;rw[this];simp
theorem Qe (s:ByteArray):s.data.toList.length=s.size:=by rw[Array.length_toList];rfl
theorem M7 (l:List UInt8):(⟨l.toArray⟩:ByteArray).size=l.length:=rfl
end Go.Proofs.YtobmaegpfbheoaaGreatDoor
