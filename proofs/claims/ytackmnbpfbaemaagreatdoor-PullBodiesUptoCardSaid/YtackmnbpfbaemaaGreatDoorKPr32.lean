/- Parts: commonplaceref18.DecodeRequest: which pull's frame bytes are, or why of none. Condition: at most 1.5 * 10^7 bytes. -/
import Derived.Test.YtackmnbpfbaemaaGreatDoorKPr30
import Derived.Test.YtackmnbpfbaemaaGreatDoorKPr31
set_option maxHeartbeats 20000000
namespace Go.Proofs.YtackmnbpfbaemaaGreatDoor
open Go Go.RowKit
def Fx (l:List UInt8) (w:World) (e:Ending) (w':World):Prop:=Below w.heap.size w w'/\
 if(A7 l).1≠0 then e=.returned (.tuple #[.agg #[.int .u64 0,.int .u64 0,.int .u64 0,.int .u64 0,.slice none 0 0],.int .i64 (A7 l).1])else ∃a n,e=.returned (.tuple #[.agg #[.int .u64 (A7 l).2.1,.int .u64 (A7 l).2.2.1,.int .u64 (A7 l).2.2.2.1,.int .u64 (A7 l).2.2.2.2.1,.slice a (A7 l).2.2.2.2.2.length n],.int .i64 0])/\
  Ap w.heap.size w' (.row 8 (Je (A7 l).2.2.2.2.2)) [.slice a (A7 l).2.2.2.2.2.length n]
theorem Fx.no {l:List UInt8} {w w':World} {x:Int} (h:A7 l=Fv x) (hx:x≠0) (hb:Below w.heap.size w w'):Fx l w (.returned (.tuple #[.agg #[.int .u64 0,.int .u64 0,.int .u64 0,.int .u64 0,.slice none 0 0],.int .i64 x])) w':=by
 refine⟨hb, ?_⟩;rw[h,if_pos (show(Fv x).1≠0 from hx)]
theorem Aeg {g:Nat} {W:World} {X:Nat} (h:B9 W g 4 (O0 X)):Says 101 (.map (some g)) 4 (fun k=> .pointer (npR X k)) W:=by
 have:=Xf h;have e:(fun k=>(O0 X k).getD (.pointer none))=fun k=> .pointer (npR X k):=by
  funext k
  unfold O0 npR Jt;by_cases h0:k=Cc
  . rw[if_pos h0,if_pos h0];rfl
  rw[if_neg h0,if_neg h0];by_cases h1:k=Ah
  . rw[if_pos h1,if_pos h1];rfl
  rw[if_neg h1,if_neg h1];by_cases h2:k=Ai
  . rw[if_pos h2,if_pos h2];rfl
  rw[if_neg h2,if_neg h2];by_cases h3:k=B8
  . rw[if_pos h3,if_pos h3];rfl
  . rw[if_neg h3,if_neg h3];rfl
 rwa [e]at this
theorem Aeh {g Q:Nat} {W:World} (h:B9 W g 1 (fun k=>if k=A4 then some (Akg Q)else none)):Says 103 (.map (some g)) 1 (S6 (Akg Q)) W:=by
 have:=Abw h;have e:(fun k=>(if k=A4 then some (Akg Q)else none).getD .nilFunc)=S6 (Akg Q):=by
  funext k
  unfold S6;by_cases h0:k=A4
  . rw[if_pos h0,if_pos h0];rfl
  . rw[if_neg h0,if_neg h0];rfl
 rwa [e]at this
def Ae8 (v:Val) (X b:Nat) (code:Int) (w':World):Prop:=(By Bx 4 v≠0/\code=By Bx 4 v)\/(By Bx 4 v=0/\ ∃xb xc xk xs x,At v= [(Cc,xb),(Ah,xc),(Ai,xk),(B8,xs),(A4,x)]/\code=(Be x).1/\
    ((Be x).1=0-> ∃la lc,An w' X 47 #[.int .u64 (Bo (Bd xc)),.int .u64 (Bo (Bd xb)),.int .u64 (Bo (Bd xk)),.int .u64 (Bo (Bd xs)),.slice la (Be x).2.length lc]/\Ap b w' (.row 8 (Je (Be x).2)) [.slice la (Be x).2.length lc]))
theorem Dd.res {v:Val} {X b:Nat} {w w':World} {e:Ending} (h:Dd v X b w e w'): ∃code:Int,e=.returned (.int .i64 code)/\w.grownBy w' (some X)/\Ae8 v X b code w':=by
 obtain⟨hg,h⟩:=h;by_cases hn:By Bx 4 v=0
 . rw[if_neg (by omega)]at h;obtain⟨xb,xc,xk,xs,x,h1,rfl,h3⟩:=h;exact⟨_,rfl,hg,.inr ⟨hn,xb,xc,xk,xs,x,h1,rfl,h3⟩⟩
 . rw[if_pos hn]at h;exact⟨_,h,hg,.inl ⟨hn,rfl⟩⟩
structure DR (w wr:World):Prop where
 below:Below w.heap.size w wr
 res:An wr w.heap.size 47 #[.int .u64 0,.int .u64 0,.int .u64 0,.int .u64 0,.slice none 0 0]
 nil:An wr (w.heap.size+1+1) 47 #[.int .u64 0,.int .u64 0,.int .u64 0,.int .u64 0,.slice none 0 0]
theorem DR.call {w wr w':World} (h:DR w wr) (hb:Below wr.heap.size wr w'):DR w w':=
 ⟨h.below.trans (hb.mono h.below.size),h.res.below hb h.res.lt,h.nil.below hb h.nil.lt⟩
theorem DR.fill {w wr w':World} (h:DR w wr) (hg:wr.grownBy w' (some (w.heap.size+1))):DR w w':=
 ⟨h.below.grown hg h.below.size (fun k e=>by cases e;omega),h.res.grown hg (by simp),h.nil.grown hg (by simp)⟩
theorem An.drewR {w:World} {g:Nat} {t:TypeId} {cs:Array Value} (h:An w g t cs):An w.drew g t cs:=h
theorem Uj {x:Val} (hi:Ga x) (h:(Be x).1=0):D5 (Be x).2<=3*x.bulk/\inQ (Be x).2:=by
 obtain⟨k,b,n,t,l,o⟩:=x;unfold Be at h ⊢;by_cases h1:Ay (.mk k b n t l o) 1≠0
 . rw[if_pos h1]at h;exact absurd h h1
 rw[if_neg h1]at h ⊢;by_cases h2:Av (.mk k b n t l o)≠5
 . rw[if_pos h2]at h;exact absurd h (show ¬(9:Int)=0 by omega)
 rw[if_neg h2]at h ⊢;by_cases h3:(Am (P0 (.mk k b n t l o))).1≠0
 . rw[if_pos h3]at h;exact absurd h h3
 rw[if_neg h3]at h ⊢;by_cases h4:Bm none (Am (P0 (.mk k b n t l o))).2=0
 . rw[if_pos h4];obtain⟨a,b⟩:=Jw (l:=l) (fun v hv=>⟨Te hi.2.1 hv,Lj (Ck (by simpa using h1)).2.2.2.1 v hv⟩) (Decidable.byContradiction fun e=>h3 e);refine⟨?_,b⟩;show D5 (Am l).2<=_;simp only[Val.bulk];omega
 . rw[if_neg h4]at h;exact absurd h h4
theorem Aio {k':Int} {b':Bool} {n':Int} {t':ByteArray} {l':List Val} {o':List (ByteArray×Val)} (h:Ay (.mk k' b' n' t' l' o') 1=0):Ej o':=(Lk (Ck h).2.2.2.2).1
theorem Wh {l:List UInt8} (h:Cm 3 l≠0):A7 l=Fv (Cm 3 l):=by
 unfold A7;rw[if_pos h]
theorem Aaa {l:List UInt8} {x:Int} {q:Nat} (h:Cm 3 l=0) (hx:Da (Cx l)=.bad x q):A7 l=Fv x:=by
 unfold A7;rw[if_neg (by omega),hx]
theorem Afh {l:List UInt8} {v:Val} {q:Nat} (h:Cm 3 l=0) (hx:Da (Cx l)=.ok v q):A7 l=Ke v:=by
 unfold A7;rw[if_neg (by omega),hx]
theorem Xd {v:Val} (h:By Bx 4 v≠0):Ke v=Fv (By Bx 4 v):=by
 unfold Ke;rw[if_pos h]
theorem Sb {v xb xc xk xs x:Val} (h:By Bx 4 v=0) (ho:At v= [(Cc,xb),(Ah,xc),(Ai,xk),(B8,xs),(A4,x)]):Ke v=Sc (Bo (Bd xc)) (Bo (Bd xb)) (Bo (Bd xk)) (Bo (Bd xs)) (Be x):=by
 unfold Ke;rw[if_neg (by omega),ho]
set_option maxRecDepth 100000 in
theorem U8 (l:List UInt8) (a:Option Addr) (n c:Nat) (w:World) (hT:Cf w) (hNT:N8 w) (h:Ae w w.heap.size (.row 1 (dB l)) [.slice a n c]) (hc:n<=c) (hlen:l.length<=100000000) (hvb: ∀v q,Da (Cx l)=.ok v q->v.bulk<=24000000):
 Calls Tryz.prog 35 #[.int .u8 3,.slice a n c,.func (.func 36) #[] #[],.func (.func 37) #[] #[],.func (.func 38) #[] #[]] w (Fx l w):=by
 obtain⟨w0,hw0⟩: ∃w0,((w.alloc (.cells #[.int .u64 0,.int .u64 0,.int .u64 0,.int .u64 0,.slice none 0 0] 47)).alloc (.cells #[.int .u64 0,.int .u64 0,.int .u64 0,.int .u64 0,.slice none 0 0] 47)).alloc (.cells #[.int .u64 0,.int .u64 0,.int .u64 0,.int .u64 0,.slice none 0 0] 47)=w0:=⟨_,rfl⟩;have hz0:w0.heap.size=w.heap.size+3:=by rw[<-hw0];simp
 have hb0:Below w.heap.size w w0:=hw0▸(((Below.refl _ _).alloc (Nat.le_refl _) _).alloc (by simp) _).alloc (by simp;omega) _;have hD0:DR w w0:=⟨hb0,hw0▸((An.new w _ _).alloc _).alloc _,hw0▸by simpa using An.new ((w.alloc (.cells #[.int .u64 0,.int .u64 0,.int .u64 0,.int .u64 0,.slice none 0 0] 47)).alloc (.cells #[.int .u64 0,.int .u64 0,.int .u64 0,.int .u64 0,.slice none 0 0] 47)) 47 #[.int .u64 0,.int .u64 0,.int .u64 0,.int .u64 0,.slice none 0 0]⟩;have hX0:An w0 (w.heap.size+1) 47 #[.int .u64 0,.int .u64 0,.int .u64 0,.int .u64 0,.slice none 0 0]:=hw0▸by simpa using(An.new (w.alloc (.cells #[.int .u64 0,.int .u64 0,.int .u64 0,.int .u64 0,.slice none 0 0] 47)) 47 #[.int .u64 0,.int .u64 0,.int .u64 0,.int .u64 0,.slice none 0 0]).alloc (.cells #[.int .u64 0,.int .u64 0,.int .u64 0,.int .u64 0,.slice none 0 0] 47)
 have hB:Calls Tryz.prog 49 #[.int .u8 3,.slice a n c] w0 (Iy 3 l w0):=Tp 3 l a n c w0 ((h.below hb0).more hb0.size) hc (by omega);obtain⟨HB,HD0,HX0,H,HT,HNT⟩:=hid6 hB hD0 hX0 h hT hNT;clear hB hD0 hX0 h hT hNT;go_enter Tryz.func35,Tryz.ntmps35;go_upto_region 2 with(fail);clear hw0;go_wp2_with (fail);(with_reducible refine(HB.out).mono ?_);rintro e w1 ⟨hb1,hr⟩;have hD1:=HD0.out.call hb1;have hX1:=HX0.out.below hb1 HX0.out.lt;by_cases hE:Cm 3 l=0;rotate_left
 . rw[if_neg hE]at hr;obtain rfl:=hr;have tE:(Cm 3 l != 0)=true:=by simpa using hE
   have hP:=fun W hW=>Fx.no (w:=w) (w':=W) (Wh hE) hE hW;generalize Cm 3 l=x at tE hP;have r0:=hD1.res.cell 0;have r1:=hD1.res.cell 1;have r2:=hD1.res.cell 2;have r3:=hD1.res.cell 3;have r4:=hD1.res.cell 4;have x0:=hD1.nil.cell 0;have x1:=hD1.nil.cell 1;have x2:=hD1.nil.cell 2;have x3:=hD1.nil.cell 3;have x4:=hD1.nil.cell 4;have fz:=hD1.res.frozen;have lt1:=hD1.res.lt;have lt2:=hD1.nil.lt;obtain⟨Hb1,HD1,HX1,HP⟩:=hid4 hb1 hD1 hX1 hP;clear hb1 hD1 hX1 hP;clear hE;go_upto_region 4 with(fail)
   repeat go_step
   have hxf:=((((HD1.out.res.set_ 0 (.int .u64 0)).set_ 1 (.int .u64 0)).set_ 2 (.int .u64 0)).set_ 3 (.int .u64 0)).set_ 4 (.slice none 0 0);have hbf:=Ak [.int .u64 0,.int .u64 0,.int .u64 0,.int .u64 0,.slice none 0 0] HD1.out.below (Nat.le_refl w.heap.size) (o:=0);exact bodyPost_ret (Dh rfl rfl hxf) rfl (HP.out _ hbf)
 rw[if_pos hE]at hr;obtain⟨a1,c1,rfl,hf1⟩:=hr;have hz1:=hb1.size;have hlB:=Ic l;obtain⟨s,hs⟩: ∃s:ByteArray,⟨(Cx l).toArray⟩=s:=⟨_,rfl⟩;have hst:=Uo hf1.now;rw[hs]at hst;have hsd:s.data.toList=Cx l:=by rw[<-hs]
 have hEx:=Rt s w1 (HT.out.below hD1.below) (HNT.out.below hD1.below) (by rw[Lib.size_eq,hsd];omega);rw[hsd]at hEx;have e0:Cm 3 l=0:=hE;obtain⟨Hb1,HD1,HX1,Hf1,HEx,HE,Hs,Hsd,HlB⟩:=hid9 hb1 hD1 hX1 hf1 hEx hE hs hsd hlB;clear hb1 hD1 hX1 hf1 hEx hE hs hsd hlB;clear e0;go_wp2_with (fail);(with_reducible refine(HEx.out).mono ?_);rintro e w2 ⟨hb2,hr2⟩;have hD2:=HD1.out.call hb2;have hX2:=HX1.out.below hb2 HX1.out.lt;obtain⟨RES,hRES⟩: ∃r,Da (Cx l)=r:=⟨_,rfl⟩;rw[hRES]at hr2
 cases RES with
 |bad x q=>
  simp only at hr2;obtain rfl:=hr2;have hx0:x≠0:=fun e=>I6 e hRES;have tE:(x != 0)=true:=by simpa using hx0
  have hP:=fun W hW=>Fx.no (w:=w) (w':=W) (Aaa HE.out hRES) hx0 hW;have hD3:=hD2.call (Aa w2 (.cells Aj 39));have r0:=hD3.res.cell 0;have r1:=hD3.res.cell 1;have r2:=hD3.res.cell 2;have r3:=hD3.res.cell 3;have r4:=hD3.res.cell 4;have x0:=hD3.nil.cell 0;have x1:=hD3.nil.cell 1;have x2:=hD3.nil.cell 2;have x3:=hD3.nil.cell 3;have x4:=hD3.nil.cell 4;have fz:=hD3.res.frozen;have lt1:=hD3.res.lt;have lt2:=hD3.nil.lt;obtain⟨Hb2,HD2,HX2,HP,HD3⟩:=hid5 hb2 hD2 hX2 hP hD3;clear hb2 hD2 hX2 hP hD3;clear hRES hx0;go_upto_region 7 with(fail)
  repeat go_step
  have hxf:=((((HD3.out.res.set_ 0 (.int .u64 0)).set_ 1 (.int .u64 0)).set_ 2 (.int .u64 0)).set_ 3 (.int .u64 0)).set_ 4 (.slice none 0 0);have hbf:=Ak [.int .u64 0,.int .u64 0,.int .u64 0,.int .u64 0,.slice none 0 0] HD3.out.below (Nat.le_refl w.heap.size) (o:=0);exact bodyPost_ret (Dh rfl rfl hxf) rfl (HP.out _ hbf)
 |ok v q=>
  obtain⟨cs,rfl,hf2⟩:=hr2;obtain⟨hmv,hiv,_,_⟩:=Ii hRES;have hbv:=hvb _ _ hRES;have hres:=Afh HE.out hRES;obtain⟨k',b',n',t',l',o'⟩:=v;obtain⟨la,lc,oa,oc,rfl⟩:=Ct hf2;have hz2:=hb2.size;have ho:=Aio hmv;have hl:o'.length<=100000000:=by
   have h1:=Cg o';have h2:Al o'<=(Val.mk k' b' n' t' l' o').bulk:=by simp only[Val.bulk];omega
   have h3:=HlB.out;omega
  have hD3:=hD2.call (Aa w2 (.cells #[.int .i64 k',.bool b',.int .i64 n',.string t',.slice la l'.length lc,.slice oa o'.length oc] 39));have hR3:=hX2.alloc (.cells #[.int .i64 k',.bool b',.int .i64 n',.string t',.slice la l'.length lc,.slice oa o'.length oc] 39);have hX3:=An.new w2 39 #[.int .i64 k',.bool b',.int .i64 n',.string t',.slice la l'.length lc,.slice oa o'.length oc];have hF3:=hf2.later (Aa w2 (.cells #[.int .i64 k',.bool b',.int .i64 n',.string t',.slice la l'.length lc,.slice oa o'.length oc] 39));have hXb:w.heap.size+1<w1.heap.size:=by omega
  have hge3:w.heap.size+1<w2.heap.size/\w2.heap.size<(w2.alloc (.cells #[.int .i64 k',.bool b',.int .i64 n',.string t',.slice la l'.length lc,.slice oa o'.length oc] 39)).heap.size:=⟨by omega,by simp⟩;obtain⟨Hb2,HD2,HX2,Hres,Hmv,Hiv,Hbv,Hf2,Ho,Hl,HXb⟩:=hid11 hb2 hD2 hX2 hres hmv hiv hbv hf2 ho hl hXb;clear hb2 hD2 hX2 hres hmv hiv hbv hf2 ho hl hXb;clear hRES;go_upto_region 8 with(fail);generalize w2.alloc (.cells #[.int .i64 k',.bool b',.int .i64 n',.string t',.slice la l'.length lc,.slice oa o'.length oc] 39)=w3 at hD3 hR3 hX3 hF3 hge3 ⊢;obtain⟨HD3,HR3,HX3,HF3,Hge3⟩:=hid5 hD3 hR3 hX3 hF3 hge3;clear hD3 hR3 hX3 hF3 hge3;go_cut [17] (fun s wx=> ∃code:Int,s=.int .i64 code/\Hid (DR w wx/\Ae8 (.mk k' b' n' t' l' o') (w.heap.size+1) w1.heap.size code wx))
  case first=>
   refine wp_region_held_drew (S:=fun W=>W.cell? ⟨w2.heap.size,0,none⟩=some (.int .i64 k')/\W.cell? ⟨w2.heap.size,1,none⟩=some (.bool b')/\W.cell? ⟨w2.heap.size,2,none⟩=some (.int .i64 n')/\W.cell? ⟨w2.heap.size,3,none⟩=some (.string t')/\W.cell? ⟨w2.heap.size,4,none⟩=some (.slice la l'.length lc)/\W.cell? ⟨w2.heap.size,5,none⟩=some (.slice oa o'.length oc)) (by kernel_rfl) (Ao (An.drewR HX3.out)) (fun hHeld=> ?_);refine tkH 0 hHeld ?_;refine tkH 1 hHeld ?_;refine tkH 3 hHeld ?_;refine wpAnyH_ready (rs:= [2]) (by kernel_rfl) (by simp) ?_;refine AllReadyH.cons rfl (fun K hK=> ?_) AllReadyH.nil;go_simp;(with_reducible refine(Abm _ _).mono ?_);rintro e w4 ⟨g,rfl,hge,hLk,hb⟩;have hb':Below w3.heap.size w3 w4:=(Below.drew (Below.refl _ _)).trans hb;have hge':w3.heap.size<=g:=hge;refine hK.out _ _ (Ao (HX3.out.below hb' HX3.out.lt)) (fun hHeld=> ?_);clear hK K
   try simp only[Act.put,tk4,tk5,tk6]
   refine wpAnyH_ready (rs:= [4]) (by kernel_rfl) (by simp) ?_;refine AllReadyH.cons rfl (fun K hK=> ?_) AllReadyH.nil;go_simp;(with_reducible refine(Vr _ _).mono ?_);rintro e w5 ⟨gO,Q,rfl,hgO,hQg,hQn,hQ,hLO,hb5⟩;have hz4:=hb'.size;have hb5':Below w3.heap.size w3 w5:=hb'.trans (hb5.mono hz4);have hLk5:=hLk.below hb5 hLk.lt;refine hK.out _ _ (Ao (HX3.out.below hb5' HX3.out.lt)) (fun hHeld=> ?_);clear hK K
   try simp only[Act.put,tk4,tk5,tk6]
   refine wpAnyH_ready (rs:= [5]) (by kernel_rfl) (by simp) ?_;refine AllReadyH.cons rfl (fun K hK=> ?_) AllReadyH.nil;go_simp;have hz5:=hb5'.size;have hC: ∀x,(A4,x) ∈ o'-> ∀(W:World) (cs:List Value) (c0 c1 c2 c3 c4:Value),w5.grownBy W (some (w.heap.size+1))->Ap w1.heap.size W (dV x) cs->An W (w.heap.size+1) 47 #[c0,c1,c2,c3,c4]->
    Calls Tryz.prog 59 #[.agg cs.toArray,.pointer (some ⟨Q,0,none⟩)] W fun e W'=>e=.returned (.int .i64 (Be x).1)/\W.grownBy W' (some (w.heap.size+1))/\((Be x).1=0-> ∃la lc,An W' (w.heap.size+1) 47 #[c0,c1,c2,c3,.slice la (Be x).2.length lc]/\Ap w1.heap.size W' (.row 8 (Je (Be x).2)) [.slice la (Be x).2.length lc]):=by
    intro x hx W cs c0 c1 c2 c3 c4 hW hfW hXW;have hDw:=(HD3.out.call hb5').below;have hlo:=Hge3.out;have hbx:=C9 hx;have h2:Al o'<=(Val.mk k' b' n' t' l' o').bulk:=by simp only[Val.bulk];omega
    have h3:=HlB.out;have h4:=Hbv.out;have h5:=hW.size;simp only at hbx;exact Yw x cs w1.heap.size (w.heap.size+1) Q c0 c1 c2 c3 c4 W (HT.out.below (hDw.grown hW hDw.size (fun k e=>by cases e;omega))) hfW (by omega) HXb.out hXW (hQ.grown hW (by simp;omega)) (Yh Hiv.out.2.2 hx) (by omega)
   (with_reducible refine(Aai k' b' n' t' l' o' la lc oa oc (w.heap.size+1) w1.heap.size (.map (some g)) (.map (some gO)) Q (.int .u64 0) (.int .u64 0) (.int .u64 0) (.int .u64 0) (.slice none 0 0) w5 (HF3.out.later hb5') HXb.out Ho.out Hl.out (fun W hW=>Aeg (hLk5.keep (hW.block g hLk5.lt (by have:=Hge3.out;simp;omega)))) (fun W hW=>Aeh (hLO.keep (hW.block gO hLO.lt (by have:=Hge3.out;simp;omega)))) (HR3.out.below hb5' HR3.out.lt) hC).mono ?_);rintro e w6 hfp;obtain⟨code,rfl,hg6,hres6⟩:=hfp.res;have hD6:=(HD3.out.call hb5').fill hg6;have hx6:=(HX3.out.below hb5' HX3.out.lt).grown hg6 (by have:=Hge3.out;simp;omega);refine hK.out _ _ (Ao hx6) (fun hHeld=> ?_);clear hK K
   try simp only[Act.put,tk4,tk5,tk6]
   refine tkH 6 hHeld ?_;refine wpAnyH_done (by kernel_rfl) ?_ _;have HG:=Lib.hid (And.intro hD6 hres6);clear hHeld hb hb' hb5 hb5' hLk hLk5 hLO hQ hg6 hres6 hfp hx6 hD6 hC;go_wp2;go_meet;exact⟨code,rfl,HG⟩
  case rest=>
   obtain⟨code,rfl,hG⟩:=hcut;obtain⟨hDx,hfr⟩:=hG.out;clear hG;rcases hfr with⟨hn,rfl⟩|⟨hn,xb,xc,xk,xs,x,hov,rfl,hend⟩
   . have tE:(By Bx 4 (.mk k' b' n' t' l' o') != 0)=true:=by simpa using hn
     have hP:=fun W hW=>Fx.no (w:=w) (w':=W) (Hres.out.trans (Xd hn)) hn hW;generalize By Bx 4 (.mk k' b' n' t' l' o')=x at tE hP;clear hn;have r0:=hDx.res.cell 0;have r1:=hDx.res.cell 1;have r2:=hDx.res.cell 2;have r3:=hDx.res.cell 3;have r4:=hDx.res.cell 4;have x0:=hDx.nil.cell 0;have x1:=hDx.nil.cell 1;have x2:=hDx.nil.cell 2;have x3:=hDx.nil.cell 3;have x4:=hDx.nil.cell 4;have fz:=hDx.res.frozen;have lt1:=hDx.res.lt;have lt2:=hDx.nil.lt;obtain⟨HDD,HP⟩:=hid2 hDx hP;clear hP;go_upto_region 10 with(fail)
     repeat go_step
     have hxf:=((((HDD.out.res.set_ 0 (.int .u64 0)).set_ 1 (.int .u64 0)).set_ 2 (.int .u64 0)).set_ 3 (.int .u64 0)).set_ 4 (.slice none 0 0);have hbf:=Ak [.int .u64 0,.int .u64 0,.int .u64 0,.int .u64 0,.slice none 0 0] HDD.out.below (Nat.le_refl w.heap.size) (o:=0);exact bodyPost_ret (Dh rfl rfl hxf) rfl (HP.out _ hbf)
   have hres':=Hres.out.trans (Sb hn hov);by_cases hc:(Be x).1=0;rotate_left
   . have tE:((Be x).1 != 0)=true:=by simpa using hc
     have hP:=fun W hW=>Fx.no (w:=w) (w':=W) (hres'.trans (by unfold Sc;rw[if_pos hc])) hc hW;generalize (Be x).1=y at tE hP;clear hc hend hov hn;have r0:=hDx.res.cell 0;have r1:=hDx.res.cell 1;have r2:=hDx.res.cell 2;have r3:=hDx.res.cell 3;have r4:=hDx.res.cell 4;have x0:=hDx.nil.cell 0;have x1:=hDx.nil.cell 1;have x2:=hDx.nil.cell 2;have x3:=hDx.nil.cell 3;have x4:=hDx.nil.cell 4;have fz:=hDx.res.frozen;have lt1:=hDx.res.lt;have lt2:=hDx.nil.lt;obtain⟨HDD,HP⟩:=hid2 hDx hP;clear hP;go_upto_region 10 with(fail)
     repeat go_step
     have hxf:=((((HDD.out.res.set_ 0 (.int .u64 0)).set_ 1 (.int .u64 0)).set_ 2 (.int .u64 0)).set_ 3 (.int .u64 0)).set_ 4 (.slice none 0 0);have hbf:=Ak [.int .u64 0,.int .u64 0,.int .u64 0,.int .u64 0,.slice none 0 0] HDD.out.below (Nat.le_refl w.heap.size) (o:=0);exact bodyPost_ret (Dh rfl rfl hxf) rfl (HP.out _ hbf)
   obtain⟨pla,plc,hbx,hfo⟩:=hend hc;have hxm:(A4,x) ∈ o':=by
    have:At (.mk k' b' n' t' l' o')=o':=rfl;rw[<-this,hov];simp
   have hbk:=Uj (x:=x) (Yh Hiv.out.2.2 hxm) hc;have hxb:=C9 hxm;have hbo:Al o'<=(Val.mk k' b' n' t' l' o').bulk:=by simp only[Val.bulk];omega
   have h3:=HlB.out;have h4:=Hbv.out;simp only at hxb;unfold Sc at hres';rw[if_neg (fun h=>h hc)]at hres';rw[hc];generalize Bo (Bd xc)=C at hbx hres';generalize Bo (Bd xb)=Bb at hbx hres';generalize Bo (Bd xk)=Kk at hbx hres';generalize Bo (Bd xs)=Ss at hbx hres';generalize (Be x).2=OPS at hbx hres' hfo hbk;have hMay:=Kj C Bb Kk Ss OPS pla OPS.length plc wc (HT.out.below hDx.below) hfo.now (by omega) hbk.2;have q0:=hbx.cell 0;have q1:=hbx.cell 1;have q2:=hbx.cell 2;have q3:=hbx.cell 3;have q4:=hbx.cell 4;have ql:=hbx.lt;obtain⟨HDx,Hbx,Hres',HMay,Hfo⟩:=hid5 hDx hbx hres' hMay hfo;clear hDx hbx hres' hMay hfo;clear hn hov hend hc hxm hbk hxb hbo h3 h4;go_wp2_with (fail);(with_reducible refine(HMay.out).mono ?_);rintro e w7 ⟨rfl,hb7⟩;have hD7:=HDx.out.call hb7;have hbx7:=Hbx.out.below hb7 Hbx.out.lt;have hfo7:=Hfo.out.later hb7;clear q0 q1 q2 q3 q4 ql;by_cases hm:Bu C Bb Kk Ss OPS=0
   . have hres2:=Hres'.out;rw[if_pos hm]at hres2;rw[hm];have r0:=hD7.res.cell 0;have r1:=hD7.res.cell 1;have r2:=hD7.res.cell 2;have r3:=hD7.res.cell 3;have r4:=hD7.res.cell 4;have q0:=hbx7.cell 0;have q1:=hbx7.cell 1;have q2:=hbx7.cell 2;have q3:=hbx7.cell 3;have q4:=hbx7.cell 4;have fz:=hD7.res.frozen;have lt1:=hD7.res.lt;have lt3:=hbx7.lt;obtain⟨HD7,Hres2,Hbx7,Hfo7⟩:=hid4 hD7 hres2 hbx7 hfo7;clear hD7 hres2 hbx7 hfo7;clear hm hb7;go_upto_region 14 with(fail)
     repeat go_step
     have hxf:=((((HD7.out.res.set_ 0 (.int .u64 C)).set_ 1 (.int .u64 Bb)).set_ 2 (.int .u64 Kk)).set_ 3 (.int .u64 Ss)).set_ 4 (.slice pla OPS.length plc);have hbf:=Ak [.int .u64 C,.int .u64 Bb,.int .u64 Kk,.int .u64 Ss,.slice pla OPS.length plc] HD7.out.below (Nat.le_refl w.heap.size) (o:=0);have hff:=Hfo7.out.keep (b':=w.heap.size) (w':=A1 w7 w.heap.size 0 [.int .u64 C,.int .u64 Bb,.int .u64 Kk,.int .u64 Ss,.slice pla OPS.length plc]) (by have:=HXb.out;omega) (by rw[Ba];exact Nat.le_refl _) (fun p p1 _=>World.cell?_of_block (Aw _ _ _ _ _ (by have:=HXb.out;omega)));refine bodyPost_ret (Dh rfl rfl hxf) rfl ⟨hbf, ?_⟩;rw[Hres2.out,if_neg (fun h=>h rfl)];exact⟨pla,plc,rfl,hff⟩
   . have tE:(Bu C Bb Kk Ss OPS != 0)=true:=by simpa using hm
     have hres2:=Hres'.out;rw[if_neg hm]at hres2;have hP:=fun W hW=>Fx.no (w:=w) (w':=W) hres2 hm hW;generalize Bu C Bb Kk Ss OPS=y at tE hP;clear hres2 hm;have r0:=hD7.res.cell 0;have r1:=hD7.res.cell 1;have r2:=hD7.res.cell 2;have r3:=hD7.res.cell 3;have r4:=hD7.res.cell 4;have x0:=hD7.nil.cell 0;have x1:=hD7.nil.cell 1;have x2:=hD7.nil.cell 2;have x3:=hD7.nil.cell 3;have x4:=hD7.nil.cell 4;have fz:=hD7.res.frozen;have lt1:=hD7.res.lt;have lt2:=hD7.nil.lt;obtain⟨HDD,HP⟩:=hid2 hD7 hP;clear hP;go_upto_region 13 with(fail)
     repeat go_step
     have hxf:=((((HDD.out.res.set_ 0 (.int .u64 0)).set_ 1 (.int .u64 0)).set_ 2 (.int .u64 0)).set_ 3 (.int .u64 0)).set_ 4 (.slice none 0 0);have hbf:=Ak [.int .u64 0,.int .u64 0,.int .u64 0,.int .u64 0,.slice none 0 0] HDD.out.below (Nat.le_refl w.heap.size) (o:=0);exact bodyPost_ret (Dh rfl rfl hxf) rfl (HP.out _ hbf)
set_option maxRecDepth 100000 in
theorem Lf (l:List UInt8) (a:Option Addr) (n c:Nat) (w:World) (hT:Cf w) (hNT:N8 w) (h:Ae w w.heap.size (.row 1 (dB l)) [.slice a n c]) (hc:n<=c) (hl:l.length<=100000000) (hvb: ∀v q,Da (Cx l)=.ok v q->v.bulk<=24000000):
 Calls Tryz.prog 16 #[.slice a n c] w (Fx l w):=by
 obtain⟨w0,hw0⟩: ∃w0,w.alloc (.cells #[.int .u64 0,.int .u64 0,.int .u64 0,.int .u64 0,.slice none 0 0] 47)=w0:=⟨_,rfl⟩;have hb0:Below w.heap.size w w0:=hw0▸Aa _ _;have hR:An w0 w.heap.size 47 #[.int .u64 0,.int .u64 0,.int .u64 0,.int .u64 0,.slice none 0 0]:=hw0▸An.new w _ _;have hB:=U8 l a n c w0 (hT.below hb0) (hNT.below hb0) ((h.below hb0).more hb0.size) hc hl hvb;obtain⟨HB,Hb0,HR,H⟩:=hid4 hB hb0 hR h;clear hB hb0 hR h;go_enter Tryz.func16,Tryz.ntmps16;go_upto_region 1 with(fail);clear hw0;go_wp2_with (fail);(with_reducible refine(HB.out).mono ?_);rintro e w1 ⟨hb1,hr⟩;have hw1:=Hb0.out.trans (hb1.mono Hb0.out.size);have hR1:=HR.out.below hb1 HR.out.lt;have r0:=hR1.cell 0;have r1:=hR1.cell 1;have r2:=hR1.cell 2;have r3:=hR1.cell 3;have r4:=hR1.cell 4;have fz:=hR1.frozen;have lt1:=hR1.lt;have hlow:=HR.out.lt;obtain⟨⟨dx,dc,db,dk,ds,dl⟩,hd⟩: ∃r,A7 l=r:=⟨_,rfl⟩;rw[hd]at hr;simp only at hr;by_cases hx:dx=0
 . rw[if_neg (fun h=>h hx)]at hr;obtain⟨ra,rc,rfl,hfr⟩:=hr;subst hx;obtain⟨Hb1,Hw1,HR1,Hd,Hfr⟩:=hid5 hb1 hw1 hR1 hd hfr;clear hb1 hw1 hR1 hd hfr;dsimp only
   repeat go_step
   have hxf:=((((HR1.out.set_ 0 (.int .u64 dc)).set_ 1 (.int .u64 db)).set_ 2 (.int .u64 dk)).set_ 3 (.int .u64 ds)).set_ 4 (.slice ra dl.length rc);have hbf:=Ak [.int .u64 dc,.int .u64 db,.int .u64 dk,.int .u64 ds,.slice ra dl.length rc] Hw1.out (Nat.le_refl w.heap.size) (o:=0);have hff:=Hfr.out.keep (b':=w.heap.size) (w':=A1 w1 w.heap.size 0 [.int .u64 dc,.int .u64 db,.int .u64 dk,.int .u64 ds,.slice ra dl.length rc]) (by omega) (by rw[Ba];exact Nat.le_refl _) (fun p p1 _=>World.cell?_of_block (Aw _ _ _ _ _ (by omega)));refine bodyPost_ret (Dh rfl rfl hxf) rfl ⟨hbf, ?_⟩;rw[Hd.out,if_neg (fun h=>h rfl)];exact⟨ra,rc,rfl,hff⟩
 . rw[if_pos hx]at hr;obtain rfl:=hr;obtain⟨Hb1,Hw1,HR1,Hd⟩:=hid4 hb1 hw1 hR1 hd;clear hb1 hw1 hR1 hd;dsimp only
   repeat go_step
   have hxf:=((((HR1.out.set_ 0 (.int .u64 0)).set_ 1 (.int .u64 0)).set_ 2 (.int .u64 0)).set_ 3 (.int .u64 0)).set_ 4 (.slice none 0 0);have hbf:=Ak [.int .u64 0,.int .u64 0,.int .u64 0,.int .u64 0,.slice none 0 0] Hw1.out (Nat.le_refl w.heap.size) (o:=0);refine bodyPost_ret (Dh rfl rfl hxf) rfl ⟨hbf, ?_⟩;rw[Hd.out,if_pos hx];rfl
theorem C0 {fn:Func} {t u:Tmp} {tmps:Array Value} {W:World} {R:Nat} {a0 a1:Value} (h:fn.results= #[.cell t 24,.tmp u]) (hp:tmps.getD t undef=.pointer (some ⟨R,0,none⟩)) (hx:An W R 24 #[a0,a1]):
 (results fn tmps).run Tryz.prog W=.ok (.tuple #[.agg #[a0,a1],tmps.getD u undef]) W:=by
 have c0:=hx.cell 0;have c1:=hx.cell 1;clear hx;have hp':tmps[t]?.getD undef=.pointer (some ⟨R,0,none⟩):=by simpa using hp
 simp[results,h,hp',go_sem,c0,c1]
def Mh (l:List UInt8) (w:World) (e:Ending) (w':World):Prop:=e=.returned (.tuple #[.agg #[.int .u64 (G0 l).2.1,.int .u64 (G0 l).2.2],.int .i64 (G0 l).1])/\Below w.heap.size w w'
theorem Yt (v:Value) (w:World):Calls Tryz.prog 28 #[v] w fun e w'=>e=.returned (.map none)/\w=w':=by
 go_enter Tryz.func28,Tryz.ntmps28;go_wp2;go_ret;exact⟨rfl,rfl⟩
theorem Ahp {g:Nat} {W:World} {X:Nat} (h:B9 W g 2 (Ul X)):Says 101 (.map (some g)) 2 (fun k=> .pointer (npQ X k)) W:=by
 have:=Xf h;have e:(fun k=>(Ul X k).getD (.pointer none))=fun k=> .pointer (npQ X k):=by
  funext k
  unfold Ul npQ Ow;by_cases h0:k=Ah
  . rw[if_pos h0,if_pos h0];rfl
  . rw[if_neg h0,if_neg h0];by_cases h1:k=Ai
    . rw[if_pos h1,if_pos h1];rfl
    . rw[if_neg h1,if_neg h1];rfl
 rwa [e]at this
structure DQ (w wr:World):Prop where
 below:Below w.heap.size w wr
 res:An wr w.heap.size 24 #[.int .u64 0,.int .u64 0]
 nil:An wr (w.heap.size+1+1) 24 #[.int .u64 0,.int .u64 0]
theorem DQ.call {w wr w':World} (h:DQ w wr) (hb:Below wr.heap.size wr w'):DQ w w':=
 ⟨h.below.trans (hb.mono h.below.size),h.res.below hb h.res.lt,h.nil.below hb h.nil.lt⟩
theorem DQ.fill {w wr w':World} (h:DQ w wr) (hg:wr.grownBy w' (some (w.heap.size+1))):DQ w w':=
 ⟨h.below.grown hg h.below.size (fun k e=>by cases e;omega),h.res.grown hg (by simp),h.nil.grown hg (by simp)⟩
theorem An.drewQ {w:World} {g:Nat} {t:TypeId} {cs:Array Value} (h:An w g t cs):An w.drew g t cs:=h
theorem Xt {k':Int} {b':Bool} {n':Int} {t':ByteArray} {l':List Val} {o':List (ByteArray×Val)} (h:Ay (.mk k' b' n' t' l' o') 1=0):Ej o':=(Lk (Ck h).2.2.2.2).1
theorem Wg {l:List UInt8} (h:Cm 2 l≠0):G0 l=(Cm 2 l,0,0):=by
 unfold G0;rw[if_pos h]
theorem Z9 {l:List UInt8} {x:Int} {q:Nat} (h:Cm 2 l=0) (hx:Da (Cx l)=.bad x q):G0 l=(x,0,0):=by
 unfold G0;rw[if_neg (by omega),hx]
theorem Afg {l:List UInt8} {v:Val} {q:Nat} (h:Cm 2 l=0) (hx:Da (Cx l)=.ok v q):G0 l=N2 v:=by
 unfold G0;rw[if_neg (by omega),hx]
theorem Abl {v:Val} (h:By Dv 2 v≠0):N2 v=(By Dv 2 v,0,0):=by
 unfold N2;rw[if_pos h]
theorem Ahr {v xc xk:Val} (h:By Dv 2 v=0) (ho:At v= [(Ah,xc),(Ai,xk)]):N2 v=if Cv (Bo (Bd xc)) (Bo (Bd xk))=0 then(0,Bo (Bd xc),Bo (Bd xk))else(Cv (Bo (Bd xc)) (Bo (Bd xk)),0,0):=by
 unfold N2;rw[if_neg (show ¬By [Ah,Ai] 2 v≠0 from fun h'=>h' h)];have:Wy 2 v= [Bo (Bd xc),Bo (Bd xk)]:=by unfold Wy;rw[ho];rfl
 rw[this]
set_option maxRecDepth 100000 in
theorem U7 (l:List UInt8) (a:Option Addr) (n c:Nat) (w:World) (hT:Cf w) (hNT:N8 w) (h:Ae w w.heap.size (.row 1 (dB l)) [.slice a n c]) (hc:n<=c) (hl:l.length<=100000000):
 Calls Tryz.prog 26 #[.int .u8 2,.slice a n c,.func (.func 27) #[] #[],.func (.func 28) #[] #[],.func (.func 23) #[] #[]] w (Mh l w):=by
 obtain⟨w0,hw0⟩: ∃w0,((w.alloc (.cells #[.int .u64 0,.int .u64 0] 24)).alloc (.cells #[.int .u64 0,.int .u64 0] 24)).alloc (.cells #[.int .u64 0,.int .u64 0] 24)=w0:=⟨_,rfl⟩;have hz0:w0.heap.size=w.heap.size+3:=by rw[<-hw0];simp
 have hb0:Below w.heap.size w w0:=hw0▸(((Below.refl _ _).alloc (Nat.le_refl _) _).alloc (by simp) _).alloc (by simp;omega) _;have hD0:DQ w w0:=⟨hb0,hw0▸((An.new w _ _).alloc _).alloc _,hw0▸by simpa using An.new ((w.alloc (.cells #[.int .u64 0,.int .u64 0] 24)).alloc (.cells #[.int .u64 0,.int .u64 0] 24)) 24 #[.int .u64 0,.int .u64 0]⟩;have hX0:An w0 (w.heap.size+1) 24 #[.int .u64 0,.int .u64 0]:=hw0▸by simpa using(An.new (w.alloc (.cells #[.int .u64 0,.int .u64 0] 24)) 24 #[.int .u64 0,.int .u64 0]).alloc (.cells #[.int .u64 0,.int .u64 0] 24)
 have hB:Calls Tryz.prog 49 #[.int .u8 2,.slice a n c] w0 (Iy 2 l w0):=Tp 2 l a n c w0 ((h.below hb0).more hb0.size) hc (by omega);obtain⟨HB,HD0,HX0,H,HT,HNT⟩:=hid6 hB hD0 hX0 h hT hNT;clear hB hD0 hX0 h hT hNT;go_enter Tryz.func26,Tryz.ntmps26;go_upto_region 2 with(fail);clear hw0;go_wp2_with (fail);(with_reducible refine(HB.out).mono ?_);rintro e w1 ⟨hb1,hr⟩;have hD1:=HD0.out.call hb1;have hX1:=HX0.out.below hb1 HX0.out.lt;by_cases hE:Cm 2 l=0;rotate_left
 . rw[if_neg hE]at hr;obtain rfl:=hr;have tE:(Cm 2 l != 0)=true:=by simpa using hE
   have hres:=Wg hE;generalize Cm 2 l=x at tE hres;have r0:=hD1.res.cell 0;have r1:=hD1.res.cell 1;have x0:=hD1.nil.cell 0;have x1:=hD1.nil.cell 1;have fz:=hD1.res.frozen;have lt1:=hD1.res.lt;have lt2:=hD1.nil.lt;obtain⟨Hb1,HD1,HX1,Hres⟩:=hid4 hb1 hD1 hX1 hres;clear hb1 hD1 hX1 hres;clear hE;go_upto_region 4 with(fail)
   repeat go_step
   have hxf:=(HD1.out.res.set_ 0 (.int .u64 0)).set_ 1 (.int .u64 0);have hbf:=Ak [.int .u64 0,.int .u64 0] HD1.out.below (Nat.le_refl w.heap.size) (o:=0);exact bodyPost_ret (C0 rfl rfl hxf) rfl ⟨by rw[Hres.out];rfl,hbf⟩
 rw[if_pos hE]at hr;obtain⟨a1,c1,rfl,hf1⟩:=hr;have hz1:=hb1.size;have hlB:=Ic l;obtain⟨s,hs⟩: ∃s:ByteArray,⟨(Cx l).toArray⟩=s:=⟨_,rfl⟩;have hst:=Uo hf1.now;rw[hs]at hst;have hsd:s.data.toList=Cx l:=by rw[<-hs]
 have hEx:=Rt s w1 (HT.out.below hD1.below) (HNT.out.below hD1.below) (by rw[Lib.size_eq,hsd];omega);rw[hsd]at hEx;have e0:Cm 2 l=0:=hE;obtain⟨Hb1,HD1,HX1,Hf1,HEx,HE,Hs,Hsd,HlB⟩:=hid9 hb1 hD1 hX1 hf1 hEx hE hs hsd hlB;clear hb1 hD1 hX1 hf1 hEx hE hs hsd hlB;clear e0;go_wp2_with (fail);(with_reducible refine(HEx.out).mono ?_);rintro e w2 ⟨hb2,hr2⟩;have hD2:=HD1.out.call hb2;have hX2:=HX1.out.below hb2 HX1.out.lt;obtain⟨RES,hRES⟩: ∃r,Da (Cx l)=r:=⟨_,rfl⟩;rw[hRES]at hr2
 cases RES with
 |bad x q=>
  simp only at hr2;obtain rfl:=hr2;have hx0:x≠0:=fun e=>I6 e hRES;have tE:(x != 0)=true:=by simpa using hx0
  have hres:=Z9 HE.out hRES;have hD3:=hD2.call (Aa w2 (.cells Aj 39));have r0:=hD3.res.cell 0;have r1:=hD3.res.cell 1;have x0:=hD3.nil.cell 0;have x1:=hD3.nil.cell 1;have fz:=hD3.res.frozen;have lt1:=hD3.res.lt;have lt2:=hD3.nil.lt;obtain⟨Hb2,HD2,HX2,Hres,HD3⟩:=hid5 hb2 hD2 hX2 hres hD3;clear hb2 hD2 hX2 hres hD3;clear hRES hx0;go_upto_region 7 with(fail)
  repeat go_step
  have hxf:=(HD3.out.res.set_ 0 (.int .u64 0)).set_ 1 (.int .u64 0);have hbf:=Ak [.int .u64 0,.int .u64 0] HD3.out.below (Nat.le_refl w.heap.size) (o:=0);exact bodyPost_ret (C0 rfl rfl hxf) rfl ⟨by rw[Hres.out];rfl,hbf⟩
 |ok v q=>
  obtain⟨cs,rfl,hf2⟩:=hr2;obtain⟨hmv,hiv,hbv,_⟩:=Ii hRES;have hres:=Afg HE.out hRES;obtain⟨k',b',n',t',l',o'⟩:=v;obtain⟨la,lc,oa,oc,rfl⟩:=Ct hf2;have hz2:=hb2.size;have ho:=Xt hmv;have hl:o'.length<=100000000:=by
   have h1:=Cg o';have h2:Al o'<=(Val.mk k' b' n' t' l' o').bulk:=by simp only[Val.bulk];omega
   have h3:=HlB.out;omega
  have hD3:=hD2.call (Aa w2 (.cells #[.int .i64 k',.bool b',.int .i64 n',.string t',.slice la l'.length lc,.slice oa o'.length oc] 39));have hR3:=hX2.alloc (.cells #[.int .i64 k',.bool b',.int .i64 n',.string t',.slice la l'.length lc,.slice oa o'.length oc] 39);have hX3:=An.new w2 39 #[.int .i64 k',.bool b',.int .i64 n',.string t',.slice la l'.length lc,.slice oa o'.length oc];have hF3:=hf2.later (Aa w2 (.cells #[.int .i64 k',.bool b',.int .i64 n',.string t',.slice la l'.length lc,.slice oa o'.length oc] 39));have hXb:w.heap.size+1<w1.heap.size:=by omega
  have hge3:w.heap.size+1<w2.heap.size/\w2.heap.size<(w2.alloc (.cells #[.int .i64 k',.bool b',.int .i64 n',.string t',.slice la l'.length lc,.slice oa o'.length oc] 39)).heap.size:=⟨by omega,by simp⟩;obtain⟨Hb2,HD2,HX2,Hres,Hmv,Hiv,Hbv,Hf2,Ho,Hl,HXb⟩:=hid11 hb2 hD2 hX2 hres hmv hiv hbv hf2 ho hl hXb;clear hb2 hD2 hX2 hres hmv hiv hbv hf2 ho hl hXb;clear hRES;go_upto_region 8 with(fail);generalize w2.alloc (.cells #[.int .i64 k',.bool b',.int .i64 n',.string t',.slice la l'.length lc,.slice oa o'.length oc] 39)=w3 at hD3 hR3 hX3 hF3 hge3 ⊢;obtain⟨HD3,HR3,HX3,HF3,Hge3⟩:=hid5 hD3 hR3 hX3 hF3 hge3;clear hD3 hR3 hX3 hF3 hge3;go_cut [17] (fun s wx=>s=.int .i64 (By Dv 2 (.mk k' b' n' t' l' o'))/\Hid (DQ w wx/\(By Dv 2 (.mk k' b' n' t' l' o')=0-> ∃xc xk,At (.mk k' b' n' t' l' o')= [(Ah,xc),(Ai,xk)]/\An wx (w.heap.size+1) 24 #[.int .u64 (Bo (Bd xc)),.int .u64 (Bo (Bd xk))])))
  case first=>
   refine wp_region_held_drew (S:=fun W=>W.cell? ⟨w2.heap.size,0,none⟩=some (.int .i64 k')/\W.cell? ⟨w2.heap.size,1,none⟩=some (.bool b')/\W.cell? ⟨w2.heap.size,2,none⟩=some (.int .i64 n')/\W.cell? ⟨w2.heap.size,3,none⟩=some (.string t')/\W.cell? ⟨w2.heap.size,4,none⟩=some (.slice la l'.length lc)/\W.cell? ⟨w2.heap.size,5,none⟩=some (.slice oa o'.length oc)) (by kernel_rfl) (Ao (An.drewQ HX3.out)) (fun hHeld=> ?_);refine tkH 0 hHeld ?_;refine tkH 1 hHeld ?_;refine tkH 3 hHeld ?_;refine wpAnyH_ready (rs:= [2]) (by kernel_rfl) (by simp) ?_;refine AllReadyH.cons rfl (fun K hK=> ?_) AllReadyH.nil
   . go_simp;(with_reducible refine(Aef _ _).mono ?_);rintro e w4 ⟨g,rfl,hge,hLk,hb⟩;have hb':Below w3.heap.size w3 w4:=(Below.drew (Below.refl _ _)).trans hb;have hge':w3.heap.size<=g:=hge;refine hK.out _ _ (Ao (HX3.out.below hb' HX3.out.lt)) (fun hHeld=> ?_);clear hK K
     try simp only[Act.put,tk4,tk5,tk6]
     refine wpAnyH_ready (rs:= [4]) (by kernel_rfl) (by simp) ?_;refine AllReadyH.cons rfl (fun K hK=> ?_) AllReadyH.nil;go_simp;(with_reducible refine(Yt _ _).mono ?_);rintro e w4' ⟨rfl,rfl⟩;refine hK.out _ _ (hHeld) (fun hHeld=> ?_);clear hK K
     try simp only[Act.put,tk4,tk5,tk6]
     refine wpAnyH_ready (rs:= [5]) (by kernel_rfl) (by simp) ?_;refine AllReadyH.cons rfl (fun K hK=> ?_) AllReadyH.nil;go_simp;have hz4:=hb'.size;(with_reducible refine(Aah k' b' n' t' l' o' la lc oa oc (w.heap.size+1) w1.heap.size (.map (some g)) (.map none) (.int .u64 0) (.int .u64 0) w4 (HF3.out.later hb') HXb.out Ho.out Hl.out (fun W hW=>Ahp (hLk.keep (hW.block g hLk.lt (by have:=Hge3.out;simp;omega)))) (fun W _=>Ahy W) (HR3.out.below hb' HR3.out.lt)).mono ?_);rintro e w5 ⟨hg5,rfl,hz5⟩;have hD5:=(HD3.out.call hb').fill hg5;have hx5:=(HX3.out.below hb' HX3.out.lt).grown hg5 (by have:=Hge3.out;simp;omega);refine hK.out _ _ (Ao hx5) (fun hHeld=> ?_);clear hK K
     try simp only[Act.put,tk4,tk5,tk6]
     refine tkH 6 hHeld ?_;refine wpAnyH_done (by kernel_rfl) ?_ _;have HG:=Lib.hid (And.intro hD5 hz5);clear hHeld hb hb' hLk hg5 hz5 hx5 hD5;go_wp2;go_meet;exact⟨rfl,HG⟩
  case rest=>
   obtain⟨rfl,hG⟩:=hcut;obtain⟨hDx,hzx⟩:=hG.out;by_cases hnum:By Dv 2 (.mk k' b' n' t' l' o')=0;rotate_left
   . have tE:(By Dv 2 (.mk k' b' n' t' l' o') != 0)=true:=by simpa using hnum
     have hres':=Hres.out.trans (Abl hnum);generalize By Dv 2 (.mk k' b' n' t' l' o')=x at tE hres';have r0:=hDx.res.cell 0;have r1:=hDx.res.cell 1;have x0:=hDx.nil.cell 0;have x1:=hDx.nil.cell 1;have fz:=hDx.res.frozen;have lt1:=hDx.res.lt;have lt2:=hDx.nil.lt;obtain⟨HDx,Hres'⟩:=hid2 hDx hres';clear hDx hres';clear hnum hG hzx;go_upto_region 10 with(fail)
     repeat go_step
     have hxf:=(HDx.out.res.set_ 0 (.int .u64 0)).set_ 1 (.int .u64 0);have hbf:=Ak [.int .u64 0,.int .u64 0] HDx.out.below (Nat.le_refl w.heap.size) (o:=0);exact bodyPost_ret (C0 rfl rfl hxf) rfl ⟨by rw[Hres'.out];rfl,hbf⟩
   obtain⟨xc,xk,hov,hbx⟩:=hzx hnum;have hres':=Hres.out.trans (Ahr hnum hov);rw[hnum];generalize Bo (Bd xc)=C at hbx hres';generalize Bo (Bd xk)=Kk at hbx hres';have hMay:=K6 C Kk wc;have q0:=hbx.cell 0;have q1:=hbx.cell 1;have ql:=hbx.lt;obtain⟨HDx,Hbx,Hres',HMay⟩:=hid4 hDx hbx hres' hMay;clear hDx hbx hres' hMay;clear hnum hG hzx hov;go_wp2_with (fail);(with_reducible refine(HMay.out).mono ?_);rintro e w6 ⟨rfl,hb6⟩;have hD6:=HDx.out.call hb6;have hb6x:=Hbx.out.below hb6 Hbx.out.lt;have r0:=hD6.res.cell 0;have r1:=hD6.res.cell 1;have x0:=hD6.nil.cell 0;have x1:=hD6.nil.cell 1;have y0:=hb6x.cell 0;have y1:=hb6x.cell 1;have fz:=hD6.res.frozen;have lt1:=hD6.res.lt;have lt2:=hD6.nil.lt;have lt3:=hb6x.lt;by_cases hm:Cv C Kk=0
   . have hres2:=Hres'.out;rw[if_pos hm]at hres2;rw[hm];obtain⟨HD6,Hres2,Hb6x⟩:=hid3 hD6 hres2 hb6x;clear hD6 hres2 hb6x;clear q0 q1 ql hm hb6;go_upto_region 14 with(fail)
     repeat go_step
     have hxf:=(HD6.out.res.set_ 0 (.int .u64 C)).set_ 1 (.int .u64 Kk);have hbf:=Ak [.int .u64 C,.int .u64 Kk] HD6.out.below (Nat.le_refl w.heap.size) (o:=0);exact bodyPost_ret (C0 rfl rfl hxf) rfl ⟨by rw[Hres2.out];rfl,hbf⟩
   . have tE:(Cv C Kk != 0)=true:=by simpa using hm
     have hres2:=Hres'.out;rw[if_neg hm]at hres2;generalize Cv C Kk=x at tE hres2;obtain⟨HD6,Hres2,Hb6x⟩:=hid3 hD6 hres2 hb6x;clear hD6 hres2 hb6x;clear q0 q1 ql hm hb6;go_upto_region 13 with(fail)
     repeat go_step
     have hxf:=(HD6.out.res.set_ 0 (.int .u64 0)).set_ 1 (.int .u64 0);have hbf:=Ak [.int .u64 0,.int .u64 0] HD6.out.below (Nat.le_refl w.heap.size) (o:=0);exact bodyPost_ret (C0 rfl rfl hxf) rfl ⟨by rw[Hres2.out];rfl,hbf⟩
set_option maxRecDepth 100000 in
theorem Mc (l:List UInt8) (a:Option Addr) (n c:Nat) (w:World) (hT:Cf w) (hNT:N8 w) (h:Ae w w.heap.size (.row 1 (dB l)) [.slice a n c]) (hc:n<=c) (hl:l.length<=100000000):
 Calls Tryz.prog 10 #[.slice a n c] w (Mh l w):=by
 obtain⟨w0,hw0⟩: ∃w0,w.alloc (.cells #[.int .u64 0,.int .u64 0] 24)=w0:=⟨_,rfl⟩;have hb0:Below w.heap.size w w0:=hw0▸Aa _ _;have hR:An w0 w.heap.size 24 #[.int .u64 0,.int .u64 0]:=hw0▸An.new w _ _;have hB:=U7 l a n c w0 (hT.below hb0) (hNT.below hb0) ((h.below hb0).more hb0.size) hc hl;obtain⟨HB,Hb0,HR,H⟩:=hid4 hB hb0 hR h;clear hB hb0 hR h;go_enter Tryz.func10,Tryz.ntmps10;go_upto_region 1 with(fail);clear hw0;go_wp2_with (fail);(with_reducible refine(HB.out).mono ?_);rintro e w1 ⟨rfl,hb1⟩;have hw1:=Hb0.out.trans (hb1.mono Hb0.out.size);have hR1:=HR.out.below hb1 HR.out.lt;have r0:=hR1.cell 0;have r1:=hR1.cell 1;have fz:=hR1.frozen;have lt1:=hR1.lt;generalize hd:G0 l=dr;obtain⟨dx,dc,dk⟩:=dr;obtain⟨Hb1,Hw1,HR1,Hd⟩:=hid4 hb1 hw1 hR1 hd;clear hb1 hw1 hR1 hd;dsimp only
 repeat go_step
 have hxf:=(HR1.out.set_ 0 (.int .u64 dc)).set_ 1 (.int .u64 dk);have hbf:=Ak [.int .u64 dc,.int .u64 dk] Hw1.out (Nat.le_refl w.heap.size) (o:=0);exact bodyPost_ret (C0 rfl rfl hxf) rfl ⟨by rw[Hd.out];rfl,hbf⟩
theorem R5 (HCp: ∀v,Mb v) (k:UInt8) (l:List UInt8) (a:Option Addr) (n c:Nat) (w:World) (h:Ae w w.heap.size (.row 1 (dB l)) [.slice a n c]) (hc:n<=c) (hl:l.length<=15000000):
 (∃C:Int,C≠0/\(Cm k l=C\/(Cm k l=0/\ ∃q,Da (Cx l)=.bad C q))/\Calls Tryz.prog 33 #[.int .u8 k.toNat,.slice a n c] w fun e w'=>Below w.heap.size w w'/\e=.returned (.tuple #[.agg Aj,.int .i64 C]))\/
 (Cm k l=0/\ ∃v q,Da (Cx l)=.ok v q/\Calls Tryz.prog 33 #[.int .u8 k.toNat,.slice a n c] w fun e w'=>Below w.heap.size w w'/\ ∃cs:List Value,e=.returned (.tuple #[.agg cs.toArray,.int .i64 0])/\Ap w.heap.size w' (dV v) cs):=by
 have hB:=Vl HCp k l a n c w h hc hl;unfold Acl at hB;by_cases hE:Cm k l=0
 . simp only[if_neg (show ¬Cm k l≠0 from fun h=>h hE)]at hB
   cases hx:Da (Cx l)with
   |bad x q=>
    simp only[hx]at hB;exact .inl ⟨x,fun e=>I6 e hx,.inr ⟨hE,q,rfl⟩,hB⟩
   |ok v q=>
    simp only[hx]at hB;exact .inr ⟨hE,v,q,rfl,hB⟩
 . simp only[if_pos (show Cm k l≠0 from hE)]at hB;exact .inl ⟨_,hE,.inl rfl,hB⟩
structure X1 (T:TypeId) (cs:Array Value) (w wr:World):Prop where
 below:Below w.heap.size w wr
 res:An wr w.heap.size T cs
theorem X1.start (T:TypeId) (cs:Array Value) (w:World):X1 T cs w (w.alloc (.cells cs T)):=⟨Aa _ _,An.new _ _ _⟩
theorem X1.call {T:TypeId} {cs:Array Value} {w wr w':World} (h:X1 T cs w wr) (hb:Below wr.heap.size wr w'):X1 T cs w w':=⟨h.below.trans (hb.mono h.below.size),h.res.below hb h.res.lt⟩
theorem X1.two {T:TypeId} {b0 b1:Value} {w wr:World} (h:X1 T #[b0,b1] w wr) (a0 a1:Value):X1 T #[a0,a1] w (A1 wr w.heap.size 0 [a0,a1]):=
 ⟨Ak _ h.below (Nat.le_refl _),(h.res.set_ 0 a0).set_ 1 a1⟩
theorem Aml:Kz [Ah,Ai]:=by
 have h1:Md Ah Ai=true:=by decide+kernel
 simp only[Kz,List.pairwise_cons,List.mem_cons,List.not_mem_nil,or_false,forall_eq,List.Pairwise.nil,and_true,false_imp_iff,implies_true];exact h1
theorem Aho {v:Val} {x:Int} (ha:Ej (At v)) (h:Bz [Ah,Ai] 2 v=x) (h0:x≠0):N2 v=(x,0,0):=by
 rw[Kw ha Aml]at h;have:=Abl (v:=v) (by rw[show By Dv 2 v=x from h];exact h0);rw[this,show By Dv 2 v=x from h]
theorem Aed {v:Val} (ha:Ej (At v)) (h:Bz [Ah,Ai] 2 v=0): ∃C K:Int,I9 [Ah,Ai] 2 v= [C,K]/\0<=C/\N2 v=if Cv C K=0 then(0,C,K)else(Cv C K,0,0):=by
 refine⟨Bo (Bd (Co Ah (At v))),Bo (Bd (Co Ai (At v))),rfl,Ab3 _, ?_⟩;rw[Kw ha Aml]at h;obtain⟨_,hn,_⟩:=Ov h;have hl:Wy 2 v= [Bo (Bd (Co Ah (At v))),Bo (Bd (Co Ai (At v)))]:=(Abk (m:=2) ha hn).symm;unfold N2;rw[if_neg (fun h'=>h' h),hl]
set_option maxRecDepth 100000 in
theorem R6 (HCp: ∀v,Mb v) (l:List UInt8) (a:Option Addr) (n c:Nat) (w:World) (h:Ae w w.heap.size (.row 1 (dB l)) [.slice a n c]) (hc:n<=c) (hl:l.length<=15000000):
 Calls Tryz.prog 15 #[.slice a n c] w (Mh l w):=by
 have hX0:=X1.start 24 #[.int .u64 0,.int .u64 0] w;obtain⟨wi,hwi⟩: ∃wi,w.alloc (.cells #[.int .u64 0,.int .u64 0] 24)=wi:=⟨_,rfl⟩;rw[hwi]at hX0;have hlB:=Ic l;rcases R5 HCp 2 l a n c wi ((h.below hX0.below).more hX0.below.size) hc hl with⟨C,hC0,hwhy,hB⟩|⟨hE,v,q,hx,hB⟩
 . have e1:(C != 0)=true:=by simpa using hC0
   have hd:G0 l=(C,0,0):=by
    rcases hwhy with hE|⟨hE,q,hq⟩
    . rw[Wg (by omega),hE]
    . exact Z9 hE hq
   have hB':Calls Tryz.prog 33 #[.int .u8 2,.slice a n c] wi fun e w'=>Below wi.heap.size wi w'/\e=.returned (.tuple #[.agg Aj,.int .i64 C]):=hB;obtain⟨HX0,H,HB',Hd⟩:=hid4 hX0 h hB' hd;clear hX0 h hB' hd;clear hC0 hwhy hB;go_enter Tryz.func15,Tryz.ntmps15;go_upto_region 1 with(fail);clear hwi;go_wp2_with (fail);(with_reducible refine(HB'.out).mono ?_);rintro e w2 ⟨hb2,rfl⟩;have hX3:=(HX0.out.call hb2).call (Aa w2 (.cells Aj 39));have hxf:=hX3.two (.int .u64 0) (.int .u64 0);have r0:=hX3.res.cell 0;have r1:=hX3.res.cell 1;have fz:=hX3.res.frozen;have lt1:=hX3.res.lt;obtain⟨HX3,Hxf⟩:=hid2 hX3 hxf;clear hX3 hxf;clear hb2;go_upto_region 3 with(fail)
   repeat go_step
   exact bodyPost_ret (C0 rfl rfl Hxf.out.res) rfl ⟨by rw[Hd.out];rfl,Hxf.out.below⟩
 . have hd:G0 l=N2 v:=Afg hE hx;obtain⟨hmv,hiv,hbv,_⟩:=Ii hx;obtain⟨k',b',n',t',l',o'⟩:=v;have ha:Ej o':=Xt hmv;have hol:o'.length<=100000000:=by
    have h1:=Cg o';have h2:Al o'<=(Val.mk k' b' n' t' l' o').bulk:=by simp only[Val.bulk];omega
    omega
   have hB':Calls Tryz.prog 33 #[.int .u8 2,.slice a n c] wi fun e w'=>Below wi.heap.size wi w'/\ ∃cs:List Value,e=.returned (.tuple #[.agg cs.toArray,.int .i64 0])/\Ap wi.heap.size w' (dV (.mk k' b' n' t' l' o')) cs:=hB;obtain⟨HX0,H,HB',Hd,Ha⟩:=hid5 hX0 h hB' hd ha;clear hX0 h hB' hd ha;clear hE hx hmv hiv hbv hB;go_enter Tryz.func15,Tryz.ntmps15;go_upto_region 1 with(fail);clear hwi;go_wp2_with (fail);(with_reducible refine(HB'.out).mono ?_);rintro e w2 ⟨hb2,cs,rfl,hf2⟩;obtain⟨la,lc,oa,oc,rfl⟩:=Ct hf2;have hb3:=Aa w2 (.cells #[.int .i64 k',.bool b',.int .i64 n',.string t',.slice la l'.length lc,.slice oa o'.length oc] 39);have hb4:=Aa (w2.alloc (.cells #[.int .i64 k',.bool b',.int .i64 n',.string t',.slice la l'.length lc,.slice oa o'.length oc] 39)) (.cells #[.string Ah,.string Ai] 9);have hX4:=((HX0.out.call hb2).call hb3).call hb4;have hN:Ae ((w2.alloc (.cells #[.int .i64 k',.bool b',.int .i64 n',.string t',.slice la l'.length lc,.slice oa o'.length oc] 39)).alloc (.cells #[.string Ah,.string Ai] 9)) ((w2.alloc (.cells #[.int .i64 k',.bool b',.int .i64 n',.string t',.slice la l'.length lc,.slice oa o'.length oc] 39)).alloc (.cells #[.string Ah,.string Ai] 9)).heap.size (.row 1 (dX [Ah,Ai])) [.slice (some ⟨w2.heap.size+1,0,none⟩) 2 2]:=by
    have:=Ac4 (c:=2) (n:=2) (names:= [Ah,Ai]) (An.new (w2.alloc (.cells #[.int .i64 k',.bool b',.int .i64 n',.string t',.slice la l'.length lc,.slice oa o'.length oc] 39)) 9 #[.string Ah,.string Ai]) rfl (Nat.lt_succ_self _);simpa using this
   have hNu:Calls Tryz.prog 34 #[.agg #[.int .i64 k',.bool b',.int .i64 n',.string t',.slice la l'.length lc,.slice oa o'.length oc],.slice (some ⟨w2.heap.size+1,0,none⟩) 2 2,.int .i64 2] ((w2.alloc (.cells #[.int .i64 k',.bool b',.int .i64 n',.string t',.slice la l'.length lc,.slice oa o'.length oc] 39)).alloc (.cells #[.string Ah,.string Ai] 9)) (Fb [Ah,Ai] 2 (.mk k' b' n' t' l' o') ((w2.alloc (.cells #[.int .i64 k',.bool b',.int .i64 n',.string t',.slice la l'.length lc,.slice oa o'.length oc] 39)).alloc (.cells #[.string Ah,.string Ai] 9))):=M3 k' b' n' t' l' o' la lc oa oc [Ah,Ai] (some ⟨w2.heap.size+1,0,none⟩) 2 2 2 (fun i=>wi.heap.size<=i) w2 ((w2.alloc (.cells #[.int .i64 k',.bool b',.int .i64 n',.string t',.slice la l'.length lc,.slice oa o'.length oc] 39)).alloc (.cells #[.string Ah,.string Ai] 9)) (hb3.trans (hb4.mono (by simp))) (Aq.of_fresh hf2) hN hol (by simp) (by simp);unfold Fb at hNu;by_cases hz:Bz [Ah,Ai] 2 (.mk k' b' n' t' l' o')=0;rotate_left
   . have hd2:=Hd.out.trans (Aho (v:=.mk k' b' n' t' l' o') Ha.out rfl hz);simp only[if_pos (show Bz [Ah,Ai] 2 (.mk k' b' n' t' l' o')≠0 from hz)]at hNu;have e1:(Bz [Ah,Ai] 2 (.mk k' b' n' t' l' o') != 0)=true:=by simpa using hz
     generalize Bz [Ah,Ai] 2 (.mk k' b' n' t' l' o')=C at hd2 hNu e1;obtain⟨HX4,HNu,Hd2,Hb3,Hb4⟩:=hid5 hX4 hNu hd2 hb3 hb4;clear hX4 hNu hd2 hb3 hb4;clear hz hf2 hb2 hN;go_wp2_with (fail);(with_reducible refine(HNu.out).mono ?_);rintro e w5 ⟨hb5,rfl⟩;have hX5:=HX4.out.call hb5;have hxf:=hX5.two (.int .u64 0) (.int .u64 0);have r0:=hX5.res.cell 0;have r1:=hX5.res.cell 1;have fz:=hX5.res.frozen;have lt1:=hX5.res.lt;obtain⟨HX5,Hxf⟩:=hid2 hX5 hxf;clear hX5 hxf;clear hb5;go_upto_region 6 with(fail)
     repeat go_step
     exact bodyPost_ret (C0 rfl rfl Hxf.out.res) rfl ⟨by rw[Hd2.out];rfl,Hxf.out.below⟩
   simp only[if_neg (show ¬Bz [Ah,Ai] 2 (.mk k' b' n' t' l' o')≠0 from fun h=>h hz)]at hNu;obtain⟨C,K,hnr,hC0,hro⟩:=Aed (v:=.mk k' b' n' t' l' o') Ha.out hz;have hd2:=Hd.out.trans hro;simp only[hnr]at hNu;have hMay:=fun W=>Pb C K W hC0;obtain⟨HX4,HNu,Hd2,Hb3,Hb4,HMay⟩:=hid6 hX4 hNu hd2 hb3 hb4 hMay;clear hX4 hNu hd2 hb3 hb4 hMay;clear hz hf2 hb2 hN hnr hro hC0;go_wp2_with (fail);(with_reducible refine(HNu.out).mono ?_);rintro e w5 ⟨hb5,A,cN,rfl,hfr⟩;have hX5:=HX4.out.call hb5;obtain⟨g,off,rfl,hg,n0⟩:=Wf hfr.now (q:=0) rfl;obtain⟨g',off',e',_,n1⟩:=Wf hfr.now (q:=1) rfl;simp only[Option.some.injEq,Addr.mk.injEq,and_true]at e';obtain⟨rfl,rfl⟩:=e';have n0:w5.cell? ⟨g,off,none⟩=some (.int .u64 C):=n0;have HX5:=Lib.hid hX5;clear hX5;clear hb5 hfr;go_upto_region 7 with(fail);go_cut [8] (fun p wx=> ∃R,p=.pointer (some ⟨R,0,none⟩)/\Hid (Below w5.heap.size w5 wx/\An wx R 24 #[.int .u64 C,.int .u64 K]))
   case first=>
    go_region
    all_goals
     go_wp2;go_meet
     first
      |exact⟨_,rfl,Lib.hid ⟨(Below.drew (Below.refl _ _)).alloc (Nat.le_refl _) _,An.new _ _ _⟩⟩
      |exact⟨_,rfl,Lib.hid ⟨((Below.refl _ _).alloc (Nat.le_refl _) _).drew,An.new _ _ _⟩⟩
      |exact⟨_,rfl,Lib.hid ⟨Aa _ _,An.new _ _ _⟩⟩
   case rest=>
    obtain⟨R,rfl,hR⟩:=hcut;obtain⟨hbx,hxx⟩:=hR.out;have hX6:=HX5.out.call hbx;have q0:=hxx.cell 0;have q1:=hxx.cell 1;have ql:=hxx.lt;obtain⟨HX6,Hxx⟩:=hid2 hX6 hxx;clear hX6 hxx;clear n0 n1 hR hbx hg;go_wp2_with (fail);(with_reducible refine(HMay.out _).mono ?_);rintro e w7 ⟨rfl,hb7⟩;have hX7:=HX6.out.call hb7;have hx7:=Hxx.out.below hb7 Hxx.out.lt;have q0:=hx7.cell 0;have q1:=hx7.cell 1;have ql:=hx7.lt;have r0:=hX7.res.cell 0;have r1:=hX7.res.cell 1;have fz:=hX7.res.frozen;have lt1:=hX7.res.lt;by_cases hm:Cv C K=0
    . have hd3:=Hd2.out;rw[if_pos hm]at hd3;rw[hm];have hxf:=hX7.two (.int .u64 C) (.int .u64 K);obtain⟨HX7,Hxf,Hd3,Hx7⟩:=hid4 hX7 hxf hd3 hx7;clear hX7 hxf hd3 hx7;clear hb7 hm;go_upto_region 11 with(fail)
      repeat go_step
      exact bodyPost_ret (C0 rfl rfl Hxf.out.res) rfl ⟨by rw[Hd3.out];rfl,Hxf.out.below⟩
    . have hd3:=Hd2.out;rw[if_neg hm]at hd3;have e1:(Cv C K != 0)=true:=by simpa using hm
      generalize Cv C K=M at hd3 e1;have hxf:=hX7.two (.int .u64 0) (.int .u64 0);obtain⟨HX7,Hxf,Hd3,Hx7⟩:=hid4 hX7 hxf hd3 hx7;clear hX7 hxf hd3 hx7;clear hb7 hm;go_upto_region 10 with(fail)
      repeat go_step
      exact bodyPost_ret (C0 rfl rfl Hxf.out.res) rfl ⟨by rw[Hd3.out];rfl,Hxf.out.below⟩
end Go.Proofs.YtackmnbpfbaemaaGreatDoor
