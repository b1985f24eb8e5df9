/- Parts: What is read of a value is bounded by it. Plain. No condition. -/
import Derived.ChangeSame
import Derived.WideKeyArgs
import Derived.OpenShut
import Derived.Test.YtdbejcbbhomdbaaGreatDoorKPt36
import Derived.Test.YtdbejcbbhomdbaaGreatDoorKPt37
set_option maxHeartbeats 20000000
set_option maxRecDepth 100000
namespace Go.Proofs.YtdbejcbbhomdbaaGreatDoor
open Go Go.RowKit
theorem M7 (s:ByteArray) (w:World):Calls Tryz.prog 48 #[.string s] w fun e w'=>e=.returned (.agg #[.string Bh,.int .i64 4,.bool false,.int .i64 0,.string s,.slice none 0 0,.slice none 0 0])/\Below w.heap.size w w':=by
 have HC:=qz (fun W=>Me s W);go_enter Tryz.func48,Tryz.ntmps48;go_wp2_with (fail);(with_reducible refine(HC.out _).mono ?_);rintro e w2 ⟨rfl,hb2⟩;have hx:=(Aj.new w 88 Aew).below hb2 (Aj.lt (Aj.new _ _ _));have Hbw:=qz ((Ab w (.cells Aew 88)).trans (hb2.mono (by simp)));obtain⟨c0,c1,c2,c3,c4,c5,c6⟩:=Y4 hx;have fz:=hx.frozen;obtain⟨Hx,Hb2⟩:=hid2 hx hb2;clear hx hb2;go_wp2;have hxf:=((((((Hx.out.set_ 0 (.string Bh)).set_ 1 (.int .i64 4)).set_ 2 (.bool false)).set_ 3 (.int .i64 0)).set_ 4 (.string s)).set_ 5 (.slice none 0 0)).set_ 6 (.slice none 0 0);exact bodyPost_ret (Q0 rfl rfl hxf) rfl ⟨rfl,Am [.string Bh,.int .i64 4,.bool false,.int .i64 0,.string s,.slice none 0 0,.slice none 0 0] Hbw.out (Nat.le_refl _) (o:=0)⟩
structure LX (w:World) (B0:Nat) (l:List POp) (q:Nat) (wr:World) (V:Value):Prop where
 below:Below w.heap.size w wr
 res:Aj wr w.heap.size 33 A0
 row:As (fun i=>i<B0\/w.heap.size<i) (w.heap.size+1) 33 6 wr (D5 l q) V
theorem Td {R B0:Nat} {wr W:World} {V:Value} {l:List D} {B g:Nat} {e:TypeId} {cs:Array Value} {o:List (ByteArray×Val)} {n:Nat} {v:Val} (hrow:As (fun i=>i<B0\/R<i) B e 6 wr l V) (hR:R<wr.heap.size) (hx:Aj W g 88 cs) (hg:wr.heap.size<=g) (hA:Ax (fun i=>(i<B0\/R<i)/\V.ownBlock≠some i) W (dO o) cs.toList) (hn:n=o.length) (hv:v=ov o):
 Ac (fun i=>(i<B0\/R<i)/\V.ownBlock≠some i) W (dV v) [.int .i64 6,.bool false,.int .i64 0,.string ⟨#[]⟩,.slice none 0 0,.slice (some ⟨g,0,none⟩) n n]:=by
 subst hv;exact Xh (Ac.blk hx ⟨.inr (by omega),fun e=>by have:=(hrow.base _ e).2;omega⟩ (Jl _) hA (by rw[Cb];exact hn))
theorem Z4 (k:Int) (key:ByteArray) (v:Val) (e1:k≠1) (e2:k≠2):G5 ⟨k,key,v⟩=ov [(Bh,tv B3)]:=by
 unfold G5;rw[if_neg e1,if_neg e2]
theorem Afq {B0:Nat} {w wr W:World} {V:Value} {l:List D} {B:Nat} {e:TypeId} {v:Val} {cs:List Value} (hrow:As (fun i=>i<B0\/w.heap.size<i) B e 6 wr l V) (hv:Aa w B0 v cs) (h0:B0<=w.heap.size) (hB:w.heap.size<=B) (hb:Below w.heap.size w W):Ac (fun i=>(i<B0\/w.heap.size<i)/\V.ownBlock≠some i) W (dV v) cs:=
 (Ac.of_old (D0 _ _ hv) h0 (hb.mono h0)).mono fun i _ hi=>⟨.inl hi,fun e=>by have:=(hrow.base i e).1;omega⟩
theorem Abw {B0:Nat} {w w2:World} {l:List POp} {aV:Option Addr} {cV B:Nat} {vs:List Value} (h:Ac (fun i=>(i<B0\/w.heap.size<i)\/(Value.slice aV l.length cV).ownBlock=some i) w2 (.row 6 (D5 l l.length)) [.slice aV l.length cV])
 (hb: ∀g,(Value.slice aV l.length cV).ownBlock=some g->w.heap.size+1<=g/\g<B) (h0:B0<=w.heap.size):
 Ac (fun i=>i<B0\/w.heap.size<i) (Bd w2 w.heap.size 0 vs) (dV (Dt l)) [.int .i64 5,.bool false,.int .i64 0,.string ⟨#[]⟩,.slice aV l.length cV,.slice none 0 0]:=by
 intro w'' k1 k2;rw[B4]at k1 k2;have h1:=h w'' k1 fun p p1 p2=>(k2 p (by
  rcases p1 with p1|p1
  . exact p1
  . exact .inr (by have:=(hb _ p1).1;omega)) p2).trans (World.cell?_of_block (Bw vs _ _ _ _ (by
  rcases p1 with p1|p1
  . omega
  . have:=(hb _ p1).1;omega)))
 unfold D5 at h1;rw[List.take_length]at h1;rw[B4];simp only[Dt,lv,dV,Ae];exact Af.six.2 ⟨[.slice aV l.length cV], [.slice none 0 0],rfl,rfl,rfl,rfl,rfl,h1,⟨none,0,rfl,by simp[dO], [],rfl,by simp[dO]⟩⟩
def Ze (B0:Nat) (l:List POp) (w:World) (e:Ending) (w':World):Prop:=Below w.heap.size w w'/\
 ∃la lc,e=.returned (.agg #[.int .i64 5,.bool false,.int .i64 0,.string ⟨#[]⟩,.slice la l.length lc,.slice none 0 0])/\Ac (fun i=>i<B0\/w.heap.size<i) w' (dV (Dt l)) [.int .i64 5,.bool false,.int .i64 0,.string ⟨#[]⟩,.slice la l.length lc,.slice none 0 0]
theorem Qv (B0:Nat) (l:List POp) (a:Option Addr) (n c:Nat) (w:World) (h0:B0<=w.heap.size) (h:Ae w B0 (.row 8 (Db l)) [.slice a n c]) (hb:Cd l<=100000000):
 Calls Tryz.prog 18 #[.slice a n c] w (Ze B0 l w):=by
 have hlq:=Ep l;have hn:=h.row_len;rw[Ds]at hn;subst hn;obtain⟨j0,hj,hy0,hy1,hy2⟩:=info_parts Wa;have HI0:Hid (LX w B0 l 0 (w.alloc (.cells A0 33)) (.slice none 0 0)):=⟨(Below.refl _ _).alloc (Nat.le_refl _) _,Aj.new _ _ _,by simpa[D5,dL]using As.nil _ _ _ _ _⟩;have HO:=qz (fun a n c W=>Qu a n c W);have HP1:=qz (fun W=>M7 D6 W);have HP2:=qz (fun W=>M7 Ef W);have HP3:=qz (fun W=>M7 B3 W);obtain⟨H,Hj,Hy0,Hy1,Hy2⟩:=hid5 h hj hy0 hy1 hy2;clear h hj hy0 hy1 hy2;go_enter Tryz.func18,Tryz.ntmps18;go_wp2_with (fail);go_loopw [3,4] (fun V i wr=> ∃q:Nat,i=.int .i64 q/\q<=l.length/\Hid (LX w B0 l q wr V)) (fun _ i _=>l.length - (intOf i).toNat)
 case atStart=>exact⟨0,rfl,Nat.zero_le _,HI0⟩
 case round=>
  obtain⟨q,rfl,hq,hI⟩:=hrel;clear HI0;by_cases hlt:q<l.length
  . obtain⟨p,hp⟩: ∃p,l[q]? =some p:=⟨_,List.getElem?_eq_getElem hlt⟩;have hmem:=List.mem_of_getElem? hp;have hbq:=Fa hmem;have htk:D5 l q++ [dV (G5 p)]=D5 l (q+1):=by
     unfold D5;rw[List.take_add_one,hp,F3,F3];simp
    obtain⟨k,key,⟨k',b',n',t',l',o'⟩⟩:=p;simp only at hbq;have hbw:=hI.out.below;have hz:=hbw.size;obtain⟨gl,off,rfl,hgl,la',lc',oa',oc',hv,c0,c1,c2,c3,c4,c5,c6,c7⟩:=Iz H.out hp;have hgl:gl<w.heap.size:=by omega
    have hgr:gl<wr.heap.size:=by omega
    obtain⟨hcr,hfr⟩:=Cn hbw;have HT:=qz (fun W=>Me key W);have hdl:(D5 l q).length=q:=by unfold D5;rw[Jk,List.length_map,List.length_take];omega
    have hLo:Hid ((D5 l q).length+1<=maxLen/\((D5 l q).length+1)*88<=140737488355328):=by rw[hdl];exact⟨by simp only[maxLen];omega,by omega⟩
    have hq1:(q:Int)<(l.length:Int):=by omega
    have hq0:(0:Int)<=q:=by omega
    obtain⟨Hp,Hv,Hbw,Htk⟩:=hid4 hp hv hbw htk;clear hp hv hbw htk;clear hmem hdl;go_upto_region 6 with(go_at_call 46;(with_reducible refine(HT.out _).mono ?_);rintro e w1 ⟨rfl,hb1⟩);have hs1:=hb1.size;have hw1k:Below wr.heap.size wr (w1.alloc (.cells #[.string Ao,.int .i64 4,.bool false,.int .i64 0,.string key,.slice none 0 0,.slice none 0 0] 88)):=hb1.alloc hb1.size _;obtain⟨aV,cV,rfl⟩:=hI.out.row.slice;have hxk:=Aj.new w1 88 #[.string Ao,.int .i64 4,.bool false,.int .i64 0,.string key,.slice none 0 0,.slice none 0 0];obtain⟨wi,hwi⟩: ∃wi,w1.alloc (.cells #[.string Ao,.int .i64 4,.bool false,.int .i64 0,.string key,.slice none 0 0,.slice none 0 0] 88)=wi:=⟨_,rfl⟩;rw[hwi]at hxk hw1k ⊢;have hwi2:=Hbw.out.trans (hw1k.mono hz);have Hrow:=qz (hI.out.row.below hw1k);have Hrow0:=qz hI.out.row;have Hres:=qz (hI.out.res.below hw1k hI.out.res.lt);have hB1:w.heap.size+1<=wi.heap.size:=Nat.le_trans hI.out.res.lt hw1k.size;have hki:=hxk.lt;obtain⟨m0,m1,m2,m3,m4,m5,m6⟩:=Y4 hxk;obtain⟨hci,hfi⟩:=Cn hwi2;have hgi:gl<wi.heap.size:=by omega
    obtain⟨Hwi2,Hxk⟩:=hid2 hwi2 hxk;clear hwi2 hxk;clear hwi hb1 hw1k hcr hfr;by_cases e1:k=1
    . subst e1;go_upto_region 9 with(fail)
      go_region_held3 (fun W=>W.cell? ⟨w1.heap.size,0,none⟩=some (.string Ao)/\W.cell? ⟨w1.heap.size,1,none⟩=some (.int .i64 4)/\W.cell? ⟨w1.heap.size,2,none⟩=some (.bool false)/\W.cell? ⟨w1.heap.size,3,none⟩=some (.int .i64 0)/\W.cell? ⟨w1.heap.size,4,none⟩=some (.string key)/\W.cell? ⟨w1.heap.size,5,none⟩=some (.slice none 0 0)/\W.cell? ⟨w1.heap.size,6,none⟩=some (.slice none 0 0)/\W.cell? ⟨gl,off+q*8+2,none⟩=some (.int .i64 k')/\W.cell? ⟨gl,off+q*8+3,none⟩=some (.bool b')/\W.cell? ⟨gl,off+q*8+4,none⟩=some (.int .i64 n')/\W.cell? ⟨gl,off+q*8+5,none⟩=some (.string t')/\W.cell? ⟨gl,off+q*8+6,none⟩=some (.slice la' l'.length lc')/\W.cell? ⟨gl,off+q*8+7,none⟩=some (.slice oa' o'.length oc')) (go_keep) (first
       |(refine Hd (d:=dV (G5 ⟨1,key,.mk k' b' n' t' l' o'⟩)) (V:=(.slice aV (D5 l q).length cV)) (by rfl) (.tmp 32) (.tmp 43) 30 (by rfl) Tryz.underlying30 Hj.out Hy0.out Hy1.out Hy2.out rfl (by omega) (by rfl) Hrow4.out (Nat.le_trans hB1 (Nat.le_trans hbr4.size (by simp))) (C6 _) HX4.out (by rfl) (Kg w4 _ _ _ _ _ _) hLo.out.1 hLo.out.2 ?_;intro V6 w6 hrow6 hg6 hat6;have hk6:=Ht Hk4.out hg6 Hrow0.out (.inr hs1);obtain⟨u0,u1,u2,u3,u4,u5,u6⟩:=Y4 hk6;have hw6:=Ip Hw4.out hg6 Hrow0.out (by omega) Hw4.out.size;obtain⟨hc6,hf6⟩:=Cn hw6;have hr6:=Ht Hr4.out hg6 Hrow0.out (.inl (by omega));rw[Htk.out]at hrow6;have HG6:=qz (And.intro hrow6 (And.intro hw6 hr6));clear hrow6 hg6 hat6 hw6 hr6 hk6)
       |(go_at_call 48;refine(HP1.out _).mono ?_;rintro e w2 ⟨rfl,hb2⟩;have hbr2:Below wi.heap.size wi w2:=((Below.drew (Below.refl _ _)).trans hb2);obtain⟨hc2,hf2⟩:=Cn hbr2)
       |(go_at_call 47;refine(HO.out _ _ _ _).mono ?_;rintro e w4 ⟨rfl,hb4⟩;have hz2:=hbr2.size;have hbr4:Below wi.heap.size wi w4:=(hbr2.alloc hz2 _).trans (hb4.mono (by simp;omega));obtain⟨hc4,hf4⟩:=Cn hbr4;have Hw4:=qz ((Hwi2.out.trans (hbr4.mono Hwi2.out.size)).alloc (Nat.le_trans Hwi2.out.size hbr4.size) (.cells #[.int .i64 6,.bool false,.int .i64 0,.string ⟨#[]⟩,.slice none 0 0,.slice (some ⟨w2.heap.size,0,none⟩) 3 3] 33));have Hk4:=qz ((Hxk.out.below hbr4 Hxk.out.lt).alloc (.cells #[.int .i64 6,.bool false,.int .i64 0,.string ⟨#[]⟩,.slice none 0 0,.slice (some ⟨w2.heap.size,0,none⟩) 3 3] 33));have Hr4:=qz ((Hres.out.below hbr4 Hres.out.lt).alloc (.cells #[.int .i64 6,.bool false,.int .i64 0,.string ⟨#[]⟩,.slice none 0 0,.slice (some ⟨w2.heap.size,0,none⟩) 3 3] 33));have hrow4:=Hrow.out.below (hbr4.alloc hbr4.size (.cells #[.int .i64 6,.bool false,.int .i64 0,.string ⟨#[]⟩,.slice none 0 0,.slice (some ⟨w2.heap.size,0,none⟩) 3 3] 33));have hxm:Aj (w4.alloc (.cells #[.int .i64 6,.bool false,.int .i64 0,.string ⟨#[]⟩,.slice none 0 0,.slice (some ⟨w2.heap.size,0,none⟩) 3 3] 33)) w2.heap.size 88 #[.string Ao,.int .i64 4,.bool false,.int .i64 0,.string key,.slice none 0 0,.slice none 0 0,.string Bh,.int .i64 4,.bool false,.int .i64 0,.string D6,.slice none 0 0,.slice none 0 0,.string Bc,.int .i64 k',.bool b',.int .i64 n',.string t',.slice la' l'.length lc',.slice oa' o'.length oc']:=((Aj.new w2 88 #[.string Ao,.int .i64 4,.bool false,.int .i64 0,.string key,.slice none 0 0,.slice none 0 0,.string Bh,.int .i64 4,.bool false,.int .i64 0,.string D6,.slice none 0 0,.slice none 0 0,.string Bc,.int .i64 k',.bool b',.int .i64 n',.string t',.slice la' l'.length lc',.slice oa' o'.length oc']).below hb4 (Aj.lt (Aj.new _ _ _))).alloc _;have hx4:Ac (fun i=>(i<B0\/w.heap.size<i)/\Value.ownBlock (.slice aV (D5 l q).length cV)≠some i) (w4.alloc (.cells #[.int .i64 6,.bool false,.int .i64 0,.string ⟨#[]⟩,.slice none 0 0,.slice (some ⟨w2.heap.size,0,none⟩) 3 3] 33)) (dV (G5 ⟨1,key,.mk k' b' n' t' l' o'⟩)) [.int .i64 6,.bool false,.int .i64 0,.string ⟨#[]⟩,.slice none 0 0,.slice (some ⟨w2.heap.size,0,none⟩) 3 3]:=Td (o:= [(Ao,tv key),(Bh,tv D6),(Bc,.mk k' b' n' t' l' o')]) Hrow.out (by omega) hxm (Nat.le_trans (Nat.le_refl _) hz2) ((Ax.one (Fw _ _ Ao key)).app ((Ax.one (Fw _ _ Bh D6)).app (Ax.one (Zu (Afq Hrow.out Hv.out h0 (by omega) Hw4.out))))) rfl rfl;have HX4:=qz hx4;have Hrow4:=qz hrow4;clear hx4 hrow4 hxm hb4))
      all_goals
       obtain⟨k1,k2,k3⟩:=HG6.out;have HN:Hid (LX w B0 l (q+1) w6 V6):=⟨k2,k3,k1⟩;clear k1 k2 k3 HG6 HX4 Hrow4 Hw4 Hk4 Hr4 hc6 hf6 hc4 hf4 hc2 hf2 hb2 hbr2 hbr4;go_wp2;go_roundw
       case rel=>exact⟨q+1,by go_num,by omega,HN⟩
       case measure=>simp only[intOf];omega
    have t1:(k==1)=false:=by simpa using e1
    by_cases e2:k=2
    . subst e2;go_upto_region 11 with(fail)
      go_region_held3 (fun W=>W.cell? ⟨w1.heap.size,0,none⟩=some (.string Ao)/\W.cell? ⟨w1.heap.size,1,none⟩=some (.int .i64 4)/\W.cell? ⟨w1.heap.size,2,none⟩=some (.bool false)/\W.cell? ⟨w1.heap.size,3,none⟩=some (.int .i64 0)/\W.cell? ⟨w1.heap.size,4,none⟩=some (.string key)/\W.cell? ⟨w1.heap.size,5,none⟩=some (.slice none 0 0)/\W.cell? ⟨w1.heap.size,6,none⟩=some (.slice none 0 0)) (go_keep) (first
       |(refine Hd (d:=dV (G5 ⟨2,key,.mk k' b' n' t' l' o'⟩)) (V:=(.slice aV (D5 l q).length cV)) (by rfl) (.tmp 47) (.tmp 52) 30 (by rfl) Tryz.underlying30 Hj.out Hy0.out Hy1.out Hy2.out rfl (by omega) (by rfl) Hrow4.out (Nat.le_trans hB1 (Nat.le_trans hbr4.size (by simp))) (C6 _) HX4.out (by rfl) (Kg w4 _ _ _ _ _ _) hLo.out.1 hLo.out.2 ?_;intro V6 w6 hrow6 hg6 hat6;have hk6:=Ht Hk4.out hg6 Hrow0.out (.inr hs1);obtain⟨u0,u1,u2,u3,u4,u5,u6⟩:=Y4 hk6;have hw6:=Ip Hw4.out hg6 Hrow0.out (by omega) Hw4.out.size;obtain⟨hc6,hf6⟩:=Cn hw6;have hr6:=Ht Hr4.out hg6 Hrow0.out (.inl (by omega));rw[Htk.out]at hrow6;have HG6:=qz (And.intro hrow6 (And.intro hw6 hr6));clear hrow6 hg6 hat6 hw6 hr6 hk6)
       |(go_at_call 48;refine(HP2.out _).mono ?_;rintro e w2 ⟨rfl,hb2⟩;have hbr2:Below wi.heap.size wi w2:=((Below.drew (Below.refl _ _)).trans hb2);obtain⟨hc2,hf2⟩:=Cn hbr2)
       |(go_at_call 47;refine(HO.out _ _ _ _).mono ?_;rintro e w4 ⟨rfl,hb4⟩;have hz2:=hbr2.size;have hbr4:Below wi.heap.size wi w4:=(hbr2.alloc hz2 _).trans (hb4.mono (by simp;omega));obtain⟨hc4,hf4⟩:=Cn hbr4;have Hw4:=qz ((Hwi2.out.trans (hbr4.mono Hwi2.out.size)).alloc (Nat.le_trans Hwi2.out.size hbr4.size) (.cells #[.int .i64 6,.bool false,.int .i64 0,.string ⟨#[]⟩,.slice none 0 0,.slice (some ⟨w2.heap.size,0,none⟩) 2 2] 33));have Hk4:=qz ((Hxk.out.below hbr4 Hxk.out.lt).alloc (.cells #[.int .i64 6,.bool false,.int .i64 0,.string ⟨#[]⟩,.slice none 0 0,.slice (some ⟨w2.heap.size,0,none⟩) 2 2] 33));have Hr4:=qz ((Hres.out.below hbr4 Hres.out.lt).alloc (.cells #[.int .i64 6,.bool false,.int .i64 0,.string ⟨#[]⟩,.slice none 0 0,.slice (some ⟨w2.heap.size,0,none⟩) 2 2] 33));have hrow4:=Hrow.out.below (hbr4.alloc hbr4.size (.cells #[.int .i64 6,.bool false,.int .i64 0,.string ⟨#[]⟩,.slice none 0 0,.slice (some ⟨w2.heap.size,0,none⟩) 2 2] 33));have hxm:Aj (w4.alloc (.cells #[.int .i64 6,.bool false,.int .i64 0,.string ⟨#[]⟩,.slice none 0 0,.slice (some ⟨w2.heap.size,0,none⟩) 2 2] 33)) w2.heap.size 88 #[.string Ao,.int .i64 4,.bool false,.int .i64 0,.string key,.slice none 0 0,.slice none 0 0,.string Bh,.int .i64 4,.bool false,.int .i64 0,.string Ef,.slice none 0 0,.slice none 0 0]:=((Aj.new w2 88 #[.string Ao,.int .i64 4,.bool false,.int .i64 0,.string key,.slice none 0 0,.slice none 0 0,.string Bh,.int .i64 4,.bool false,.int .i64 0,.string Ef,.slice none 0 0,.slice none 0 0]).below hb4 (Aj.lt (Aj.new _ _ _))).alloc _;have hx4:Ac (fun i=>(i<B0\/w.heap.size<i)/\Value.ownBlock (.slice aV (D5 l q).length cV)≠some i) (w4.alloc (.cells #[.int .i64 6,.bool false,.int .i64 0,.string ⟨#[]⟩,.slice none 0 0,.slice (some ⟨w2.heap.size,0,none⟩) 2 2] 33)) (dV (G5 ⟨2,key,.mk k' b' n' t' l' o'⟩)) [.int .i64 6,.bool false,.int .i64 0,.string ⟨#[]⟩,.slice none 0 0,.slice (some ⟨w2.heap.size,0,none⟩) 2 2]:=Td (o:= [(Ao,tv key),(Bh,tv Ef)]) Hrow.out (by omega) hxm (Nat.le_trans (Nat.le_refl _) hz2) ((Ax.one (Fw _ _ Ao key)).app (Ax.one (Fw _ _ Bh Ef))) rfl rfl;have HX4:=qz hx4;have Hrow4:=qz hrow4;clear hx4 hrow4 hxm hb4))
      all_goals
       obtain⟨k1,k2,k3⟩:=HG6.out;have HN:Hid (LX w B0 l (q+1) w6 V6):=⟨k2,k3,k1⟩;clear k1 k2 k3 HG6 HX4 Hrow4 Hw4 Hk4 Hr4 hc6 hf6 hc4 hf4 hc2 hf2 hb2 hbr2 hbr4;go_wp2;go_roundw
       case rel=>exact⟨q+1,by go_num,by omega,HN⟩
       case measure=>simp only[intOf];omega
    have t2:(k==2)=false:=by simpa using e2
    go_wp2_with (first
     |(at_builtin;refine Ej (d:=dV (G5 ⟨k,key,.mk k' b' n' t' l' o'⟩)) (V:=(.slice aV (D5 l q).length cV)) rfl (.tmp 24) (.tmp 28) 30 rfl Tryz.underlying30 Hj.out Hy0.out Hy1.out Hy2.out rfl (by omega) rfl Hrow4.out (Nat.le_trans hB1 (Nat.le_trans hbr4.size (by simp))) (C6 _) HX4.out rfl (Kg w4 _ _ _ _ _ _) hLo.out.1 hLo.out.2 ?_;intro V6 w6 hrow6 hg6 hat6;have hw6:=Ip Hw4.out hg6 Hrow0.out (by omega) Hw4.out.size;obtain⟨hc6,hf6⟩:=Cn hw6;have hr6:=Ht Hr4.out hg6 Hrow0.out (.inl (by omega));rw[Htk.out]at hrow6;have HG6:=qz (And.intro hrow6 (And.intro hw6 hr6));clear hrow6 hg6 hat6 hw6 hr6)
     |(go_at_call 48;refine(HP3.out _).mono ?_;rintro e w2 ⟨rfl,hb2⟩;have hbr2:Below wi.heap.size wi w2:=hb2)
     |(go_at_call 47;refine(HO.out _ _ _ _).mono ?_;rintro e w4 ⟨rfl,hb4⟩;have hz2:=hbr2.size;have hbr4:Below wi.heap.size wi w4:=(hbr2.alloc hz2 _).trans (hb4.mono (by simp;omega));obtain⟨hc4,hf4⟩:=Cn hbr4;have Hw4:=qz ((Hwi2.out.trans (hbr4.mono Hwi2.out.size)).alloc (Nat.le_trans Hwi2.out.size hbr4.size) (.cells #[.int .i64 6,.bool false,.int .i64 0,.string ⟨#[]⟩,.slice none 0 0,.slice (some ⟨w2.heap.size,0,none⟩) 1 1] 33));have Hk4:=qz ((Hxk.out.below hbr4 Hxk.out.lt).alloc (.cells #[.int .i64 6,.bool false,.int .i64 0,.string ⟨#[]⟩,.slice none 0 0,.slice (some ⟨w2.heap.size,0,none⟩) 1 1] 33));have Hr4:=qz ((Hres.out.below hbr4 Hres.out.lt).alloc (.cells #[.int .i64 6,.bool false,.int .i64 0,.string ⟨#[]⟩,.slice none 0 0,.slice (some ⟨w2.heap.size,0,none⟩) 1 1] 33));have hrow4:=Hrow.out.below (hbr4.alloc hbr4.size (.cells #[.int .i64 6,.bool false,.int .i64 0,.string ⟨#[]⟩,.slice none 0 0,.slice (some ⟨w2.heap.size,0,none⟩) 1 1] 33));have hxm:Aj (w4.alloc (.cells #[.int .i64 6,.bool false,.int .i64 0,.string ⟨#[]⟩,.slice none 0 0,.slice (some ⟨w2.heap.size,0,none⟩) 1 1] 33)) w2.heap.size 88 #[.string Bh,.int .i64 4,.bool false,.int .i64 0,.string B3,.slice none 0 0,.slice none 0 0]:=((Aj.new w2 88 #[.string Bh,.int .i64 4,.bool false,.int .i64 0,.string B3,.slice none 0 0,.slice none 0 0]).below hb4 (Aj.lt (Aj.new _ _ _))).alloc _;have hx4:Ac (fun i=>(i<B0\/w.heap.size<i)/\Value.ownBlock (.slice aV (D5 l q).length cV)≠some i) (w4.alloc (.cells #[.int .i64 6,.bool false,.int .i64 0,.string ⟨#[]⟩,.slice none 0 0,.slice (some ⟨w2.heap.size,0,none⟩) 1 1] 33)) (dV (G5 ⟨k,key,.mk k' b' n' t' l' o'⟩)) [.int .i64 6,.bool false,.int .i64 0,.string ⟨#[]⟩,.slice none 0 0,.slice (some ⟨w2.heap.size,0,none⟩) 1 1]:=Td (o:= [(Bh,tv B3)]) Hrow.out (by omega) hxm (Nat.le_trans (Nat.le_refl _) hz2) (Ax.one (Fw _ _ Bh B3)) rfl (Z4 _ _ _ e1 e2);have HX4:=qz hx4;have Hrow4:=qz hrow4;clear hx4 hrow4 hxm hb4))
    obtain⟨k1,k2,k3⟩:=HG6.out;have HN:Hid (LX w B0 l (q+1) w6 V6):=⟨k2,k3,k1⟩;go_roundw
    case rel=>exact⟨q+1,by go_num,by omega,HN⟩
    case measure=>simp only[intOf];omega
  . obtain rfl:q=l.length:=by omega
    have hln:(D5 l l.length).length=l.length:=by unfold D5;rw[Jk,List.length_map,List.take_length]
    obtain⟨aV,cV,rfl⟩:=hI.out.row.slice_n hln;obtain⟨i1,i2,i3⟩:=hI.out;have HL:=qz (fun W=>Vp aV l.length cV W);obtain⟨I1,I2,I3,Hln⟩:=hid4 i1 i2 i3 hln;clear i1 i2 i3 hln;clear hI;go_upto_region 12 with(fail);go_wp2_with (fail);(with_reducible refine(HL.out _).mono ?_);rintro e w2 ⟨rfl,hb2⟩;have hx2:=I2.out.below hb2 I2.out.lt;have Hbw2:=qz (I1.out.trans (hb2.mono I1.out.size));obtain⟨r0,r1,r2,r3,r4,r5⟩:=A7 hx2;have fz:=hx2.frozen;have Hq:=qz (I3.out.closeIn.below hb2);have Hbs:=qz I3.out.base;have hR2:w.heap.size<w2.heap.size:=hx2.lt;obtain⟨Hx2,Hb2⟩:=hid2 hx2 hb2;clear hx2 hb2;go_wp2;have hxf:=((((((Hx2.out.set_ 0 (.int .i64 5)).set_ 1 (.bool false)).set_ 2 (.int .i64 0)).set_ 3 (.string ⟨#[]⟩)).set_ 4 (.slice aV l.length cV)).set_ 5 (.slice none 0 0));have hbf:=Am [.int .i64 5,.bool false,.int .i64 0,.string ⟨#[]⟩,.slice aV l.length cV,.slice none 0 0] Hbw2.out (Nat.le_refl _) (o:=0);have hff:=Abw (B0:=B0) (vs:= [.int .i64 5,.bool false,.int .i64 0,.string ⟨#[]⟩,.slice aV l.length cV,.slice none 0 0]) (l:=l) Hq.out Hbs.out h0;exact bodyPost_ret (Fk rfl rfl hxf) rfl ⟨hbf,aV,cV,rfl,hff⟩
theorem Zq {B:Nat} {w:World} {p:POp} {cs:List Value} (h:Bb B w (dQ p) cs): ∃z2 z3 z4 z5 la lc oa oc ll ol,cs= [.int .i64 p.k,.string p.key,.int .i64 z2,.bool z3,.int .i64 z4,.string z5,.slice la ll lc,.slice oa ol oc]:=by
 obtain⟨k,key,⟨a,b,n,t,l,o⟩⟩:=p;have h1:=h.now;unfold dQ at h1;simp only[Ae]at h1;obtain⟨_,_,rfl,⟨rfl,_⟩,_,_,rfl,⟨rfl,_⟩,cv,_,rfl,h4,rfl⟩:=h1;have h6:=Az _ _ h4;simp only[Aa]at h6;obtain⟨la,lc,oa,oc,rfl,_,_⟩:=h6;exact⟨_,_,_,_,_,_,_,_,_,_,rfl⟩
structure PatI (w:World) (b0 gF:Nat) (l:List Val) (q:Nat) (wr:World) (V:Value):Prop where
 below:Below w.heap.size w wr
 fld:Dx wr gF 3 Jm
 ge:w.heap.size<=b0/\gF<b0/\b0<=wr.heap.size
 row:Cz b0 64 8 wr (Db (Ah (l.take q)).2) V
theorem PatI.call {w:World} {b0 gF:Nat} {l:List Val} {q:Nat} {wr w':World} {V:Value} (h:PatI w b0 gF l q wr V) (hb:Below wr.heap.size wr w'):PatI w b0 gF l q w' V:=
 ⟨h.below.trans (hb.mono h.below.size),h.fld.below hb h.fld.lt,⟨h.ge.1,h.ge.2.1,Nat.le_trans h.ge.2.2 hb.size⟩,h.row.below hb⟩
def Jf (v:Val) (w:World) (e:Ending) (w':World):Prop:=Below w.heap.size w w'/\
 if(C9 v).1≠0 then e=.returned (.tuple #[.slice none 0 0,.int .i64 (C9 v).1])else
  ∃a c,e=.returned (.tuple #[.slice a (C9 v).2.length c,.int .i64 0])/\Bb w.heap.size w' (.row 8 (Db (C9 v).2)) [.slice a (C9 v).2.length c]
theorem Jf.no {v:Val} {w w':World} {c:Int} (h:(C9 v).1=c) (hc:c≠0) (hb:Below w.heap.size w w'):Jf v w (.returned (.tuple #[.slice none 0 0,.int .i64 c])) w':=
 ⟨hb,by rw[if_pos (by omega),h]⟩
theorem Ns {k':Int} {b':Bool} {n':Int} {t':ByteArray} {l':List Val} {o':List (ByteArray×Val)} (hm:A5 (.mk k' b' n' t' l' o') 1=0) (hk:k'=5):C9 (.mk k' b' n' t' l' o')=if(Ah l').1≠0 then((Ah l').1, [])else if A4 none (Ah l').2=0 then(0,(Ah l').2)else(A4 none (Ah l').2, []):=by
 unfold C9;rw[if_neg (by omega),if_neg (show ¬Bf (.mk k' b' n' t' l' o')≠5 from fun h=>h hk)];rfl
theorem Ju: ∀(l:List Val),(Ah l).2.length<=l.length
 | []=>Nat.le_refl _
 |v::l=>by
  unfold Ah;have:=Ju l
  split
  . exact Nat.zero_le _
  split
  . exact Nat.zero_le _
  . simp only[List.length_cons];omega
theorem Gd: ∀{l:List Val},(∀v ∈ l,Jc v/\A5 v 2=0)->(Ah l).1=0->Cd (Ah l).2<=3*A6 l/\Xi (Ah l).2
 | [],_,_=>⟨Nat.zero_le _,fun p h=>by cases h⟩
 |v::l,hm,h=>by
  unfold Ah at h ⊢;by_cases h1:(Cf v).1≠0
  . rw[if_pos h1]at h;exact absurd h h1
  rw[if_neg h1]at h ⊢;by_cases h2:(Ah l).1≠0
  . rw[if_pos h2]at h;exact absurd h h2
  rw[if_neg h2];obtain⟨i1,i2⟩:=Gd (fun x hx=>hm x (List.mem_cons_of_mem _ hx)) (by simpa using h2);obtain⟨m1,m2⟩:=hm v (List.mem_cons_self ..);have e:=Rw m2;obtain⟨b1,b2⟩:=Z8 m1 (by rw[e];simpa using h1);rw[e]at b1 b2;refine⟨by simp only[Cd,A6];omega,fun p hp=> ?_⟩;rcases List.mem_cons.1 hp with rfl|hp
  . exact b2
  . exact i2 p hp
theorem Acr (k':Int) (b':Bool) (n':Int) (t':ByteArray) (l':List Val) (o':List (ByteArray×Val)) (la lc oa oc) (w:World) (hT:Ck w)
 (h:Ae w w.heap.size (dV (.mk k' b' n' t' l' o')) [.int .i64 k',.bool b',.int .i64 n',.string t',.slice la l'.length lc,.slice oa o'.length oc]) (hb:(Val.mk k' b' n' t' l' o').bulk<=30000000) (hi:Jc (.mk k' b' n' t' l' o')):
 Calls Tryz.prog 27 #[.agg #[.int .i64 k',.bool b',.int .i64 n',.string t',.slice la l'.length lc,.slice oa o'.length oc]] w (Jf (.mk k' b' n' t' l' o') w):=by
 obtain⟨wi,hwi⟩: ∃wi,w.alloc (.cells #[.int .i64 k',.bool b',.int .i64 n',.string t',.slice la l'.length lc,.slice oa o'.length oc] 33)=wi:=⟨_,rfl⟩;have hbi:Below w.heap.size w wi:=hwi▸Ab _ _;have hxi:Aj wi w.heap.size 33 #[.int .i64 k',.bool b',.int .i64 n',.string t',.slice la l'.length lc,.slice oa o'.length oc]:=hwi▸Aj.new _ _ _;have hMay:=Mo (.mk k' b' n' t' l' o') [.int .i64 k',.bool b',.int .i64 n',.string t',.slice la l'.length lc,.slice oa o'.length oc] wi (hT.below hbi) (Az _ _ ((h.below hbi).more hbi.size)) (by omega);obtain⟨x0,x1,x2,x3,x4,x5⟩:=A7 hxi;have xl:=hxi.lt;obtain⟨M,hM⟩: ∃M,A5 (.mk k' b' n' t' l' o') 1=M:=⟨_,rfl⟩;rw[hM]at hMay;obtain⟨HMay,Hbi,Hxi,H,HT,Hi⟩:=hid6 hMay hbi hxi h hT hi;clear hMay hbi hxi h hT hi;go_enter Tryz.func27,Tryz.ntmps27;go_upto_region 1 with(fail);clear hwi;go_wp2_with (fail);(with_reducible refine(HMay.out).mono ?_);rintro e w1 ⟨rfl,hb1⟩;have hw1:=Hbi.out.trans (hb1.mono Hbi.out.size);have hx1:=Hxi.out.below hb1 Hxi.out.lt;by_cases hm:M=0;rotate_left
 . have tM:(M != 0)=true:=by simpa using hm
   have HP:=qz (Jf.no (v:=.mk k' b' n' t' l' o') (show(C9 (.mk k' b' n' t' l' o')).1=M by unfold C9;rw[if_pos (by omega)];exact hM) hm hw1);clear hm hM;go_wp2;go_ret2;exact HP.out
 subst hm;have y0:=hx1.cell 0;have y4:=hx1.cell 4;have yl:=hx1.lt;by_cases hk:k'=5;rotate_left
 . have e5:(k' != 5)=true:=by simpa using hk
   have HP:=qz (Jf.no (v:=.mk k' b' n' t' l' o') (show(C9 (.mk k' b' n' t' l' o')).1=9 by unfold C9;rw[if_neg (by omega),if_pos (show Bf (.mk k' b' n' t' l' o')≠5 from hk)]) (by omega) hw1);obtain⟨Hb1,Hw1,Hx1⟩:=hid3 hb1 hw1 hx1;clear hb1 hw1 hx1;clear hk hM x0 x1 x2 x3 x4 x5 xl;go_wp2;go_ret2;exact HP.out
 subst hk;have hop:=Ns hM rfl;have Hel:Hid (∀v ∈ l',Jc v/\A5 v 2=0):=fun v hv=>⟨Oo Hi.out.2.1 hv,Jp (El hM).2.2.2.1 v hv⟩;have HF:=qz (fun W=>Ss W);obtain⟨j0,hj,hy0,hy1,hy2⟩:=info_parts Ot;have hbl:3*A6 l'<=90000000:=by simp only[Val.bulk]at hb;omega
 have hll:l'.length<=30000000:=by have:=Ch l';omega
 obtain⟨Hb1,Hw1,Hx1,Hop,HM,Hj,Hy0,Hy1,Hy2,Hbl⟩:=hid10 hb1 hw1 hx1 hop hM hj hy0 hy1 hy2 hbl;clear hb1 hw1 hx1 hop hM hj hy0 hy1 hy2 hbl;clear x0 x1 x2 x3 x4 x5 xl;go_wp2_with (fail);(with_reducible refine(HF.out _).mono ?_);rintro e w2 ⟨gF,rfl,hge,hLk,hb2⟩;have hx2:=Hx1.out.below hb2 Hx1.out.lt;have hw2:=Hw1.out.trans (hb2.mono Hw1.out.size);have HI0:Hid (PatI w w2.heap.size gF l' 0 w2 (.slice none 0 0)):=⟨hw2,hLk,⟨hw2.size,hLk.lt,Nat.le_refl _⟩,Cz.nil _ _ _ _⟩;have Hr0:Hid ((Ah (l'.take 0)).1=0):=rfl;have u4:=hx2.cell 4;have ul:=hx2.lt;have Hhi:Hid (w.heap.size<=w2.heap.size):=hw2.size;obtain⟨Hx2,HLk,Hb2,Hw2⟩:=hid4 hx2 hLk hb2 hw2;clear hx2 hLk hb2 hw2;clear y0 y4 yl hge;go_wp2_with (fail);go_loopw [6,24] (fun V i wr=> ∃q:Nat,i=.int .i64 q/\q<=l'.length/\Hid ((Ah (l'.take q)).1=0)/\Hid (PatI w w2.heap.size gF l' q wr V)) (fun _ i _=>l'.length - (intOf i).toNat)
 case atStart=>exact⟨0,rfl,Nat.zero_le _,Hr0,HI0⟩
 case round=>
  obtain⟨q,rfl,hq,hr,hI⟩:=hrel;clear HI0 Hr0;have hq0:(0:Int)<=q:=by omega
  by_cases hlt:q<l'.length
  . obtain⟨x,hx⟩: ∃v,l'[q]? =some v:=⟨_,List.getElem?_eq_getElem hlt⟩;have hmem:=List.mem_of_getElem? hx;have hbe:=Cp hmem;obtain⟨i1,i2⟩:=Hel.out x hmem;have hpo:=Rw i2;have htk:l'.take (q+1)=l'.take q++ [x]:=by rw[List.take_add_one,hx];simp
    have hone:=Jv (v:=x) hr.out;obtain⟨ek,eb,en,et,el,eo⟩:=x;have hz:=hI.out.below.size;obtain⟨g,off,rfl,hg,ela,elc,eoa,eoc,hv,c0,c1,c2,c3,c4,c5⟩:=Afa (U8 ((H.out.below hI.out.below).more hz)) hx;have hq1:(q:Int)<(l'.length:Int):=by omega
    have hIa:=hI.out.call (Ab wr (.cells #[.int .i64 ek,.bool eb,.int .i64 en,.string et,.slice ela el.length elc,.slice eoa eo.length eoc] 33));have HC:=qz (X3 ek eb en et el eo ela elc eoa eoc gF (wr.alloc (.cells #[.int .i64 ek,.bool eb,.int .i64 en,.string et,.slice ela el.length elc,.slice eoa eo.length eoc] 33)) (hv.later (Ab _ _)) (by have:=Hbl.out;omega) hIa.fld);have Hsz:=qz (show wr.heap.size<=(wr.alloc (.cells #[.int .i64 ek,.bool eb,.int .i64 en,.string et,.slice ela el.length elc,.slice eoa eo.length eoc] 33)).heap.size from by simp);obtain⟨HIa,Hv,Hx,Htk,Hone,Hpo⟩:=hid6 hIa hv hx htk hone hpo;clear hIa hv hx htk hone hpo;clear hmem hbe i1 i2 hz;go_wp2_with (fail);(with_reducible refine(HC.out).mono ?_);rintro e w4 ⟨hb4,cs8,rfl,hn8,hf8⟩;rw[Hpo.out]at hf8 hn8 ⊢;have hI4:=HIa.out.call hb4;by_cases hc:(Cf (.mk ek eb en et el eo)).1=0;rotate_left
    . have tC:((Cf (.mk ek eb en et el eo)).1 != 0)=true:=by simpa using hc
      have hP:=Jf.no (v:=.mk 5 b' n' t' l' o') (w:=w) (w':=w4.alloc (.cells F8 64)) (c:=(Cf (.mk ek eb en et el eo)).1) (by
       have h1:=Hone.out;rw[if_pos hc,<-Htk.out]at h1;have h2:=Jw (l:=l'.take (q+1)) (r:=l'.drop (q+1)) (by rw[h1];exact hc);rw[List.take_append_drop,h1]at h2;rw[Hop.out,if_pos (by rw[h2];exact hc),h2]) hc (hI4.call (Ab _ _)).below
      obtain rfl:=hn8 hc;generalize (Cf (.mk ek eb en et el eo)).1=C at tC hP;obtain⟨HP,HI4⟩:=hid2 hP hI4;clear hP hI4;clear hc hf8 hb4;go_wp2;go_ret2;exact HP.out
    have hf9:=hf8 hc;obtain⟨z2,z3,z4,z5,xla,xlc,xoa,xoc,xll,xol,rfl⟩:=Zq hf9;rw[hc];have htk2:Db (Ah (l'.take q)).2++ [dQ (Cf (.mk ek eb en et el eo)).2]=Db (Ah (l'.take (q+1))).2:=by
     rw[Htk.out,Hone.out,if_neg (by omega)];simp[Db]
    have hr1:(Ah (l'.take (q+1))).1=0:=by rw[Htk.out,Hone.out,if_neg (by omega)]
    generalize (Cf (.mk ek eb en et el eo)).2=OP at hf9 htk2 ⊢;obtain⟨aV,cV,rfl⟩:=hI.out.row.slice;have hrow:=hI.out.row;have hdl:(Db (Ah (l'.take q)).2).length<=q:=by
     have:=Ju (l'.take q);rw[Ds];rw[List.length_take]at this;omega
    have hLo:(Db (Ah (l'.take q)).2).length+1<=maxLen/\((Db (Ah (l'.take q)).2).length+1)*112<=140737488355328:=⟨by simp only[maxLen];omega,by omega⟩;have hfe:Bb wr.heap.size ((w4.alloc (.cells #[.int .i64 OP.k,.string OP.key,.int .i64 z2,.bool z3,.int .i64 z4,.string z5,.slice xla xll xlc,.slice xoa xol xoc] 64)).alloc (.cells #[.int .i64 OP.k,.string OP.key,.int .i64 z2,.bool z3,.int .i64 z4,.string z5,.slice xla xll xlc,.slice xoa xol xoc] 64)) (dQ OP) [.int .i64 OP.k,.string OP.key,.int .i64 z2,.bool z3,.int .i64 z4,.string z5,.slice xla xll xlc,.slice xoa xol xoc]:=
     ((hf9.keep (b':=wr.heap.size) Hsz.out (Nat.le_refl _) (fun _ _ _=>rfl)).later (Ab _ _)).later (Ab _ _)
    have hb4':Below wr.heap.size wr w4:=(Ab wr (.cells #[.int .i64 ek,.bool eb,.int .i64 en,.string et,.slice ela el.length elc,.slice eoa eo.length eoc] 33)).trans (hb4.mono Hsz.out);have Hbe:Hid (Below wr.heap.size wr ((w4.alloc (.cells #[.int .i64 OP.k,.string OP.key,.int .i64 z2,.bool z3,.int .i64 z4,.string z5,.slice xla xll xlc,.slice xoa xol xoc] 64)).alloc (.cells #[.int .i64 OP.k,.string OP.key,.int .i64 z2,.bool z3,.int .i64 z4,.string z5,.slice xla xll xlc,.slice xoa xol xoc] 64))):=(hb4'.alloc hb4'.size _).alloc (by have:=hb4'.size;simp;omega) _;have HI5:=qz ((hI4.call (Ab w4 (.cells #[.int .i64 OP.k,.string OP.key,.int .i64 z2,.bool z3,.int .i64 z4,.string z5,.slice xla xll xlc,.slice xoa xol xoc] 64))).call (Ab (w4.alloc (.cells #[.int .i64 OP.k,.string OP.key,.int .i64 z2,.bool z3,.int .i64 z4,.string z5,.slice xla xll xlc,.slice xoa xol xoc] 64)) (.cells #[.int .i64 OP.k,.string OP.key,.int .i64 z2,.bool z3,.int .i64 z4,.string z5,.slice xla xll xlc,.slice xoa xol xoc] 64)));have hgeb:=hI.out.ge.2.2;have hRd:=Jx (w4.alloc (.cells #[.int .i64 OP.k,.string OP.key,.int .i64 z2,.bool z3,.int .i64 z4,.string z5,.slice xla xll xlc,.slice xoa xol xoc] 64)) (.int .i64 OP.k) (.string OP.key) (.int .i64 z2) (.bool z3) (.int .i64 z4) (.string z5) (.slice xla xll xlc) (.slice xoa xol xoc);rw[World.size_alloc]at hRd;have HRd:=qz hRd;clear hRd;obtain⟨Hrow,HLo,Hfe,Htk2,Hr1,HI4⟩:=hid6 hrow hLo hfe htk2 hr1 hI4;clear hrow hLo hfe htk2 hr1 hI4;clear hf8 hf9 hn8 hb4 hb4' hc;go_wp2_with (at_builtin;apply Shut.out);unfold Shut;refine Ei (d:=dQ OP) (V:=.slice aV (Db (Ah (l'.take q)).2).length cV) rfl (.tmp 37) (.tmp 39) 22 rfl Tryz.underlying22 Hj.out Hy0.out Hy1.out Hy2.out rfl (by omega) rfl Hrow.out hgeb Hbe.out (Hy _) Hfe.out rfl HRd.out HLo.out.1 HLo.out.2 ?_;intro V6 w6 hrow6 hg6 hat6;have HN:=qz (And.intro hrow6 hg6);clear hrow6 hg6 hat6;go_wp2;have hN:Hid (PatI w w2.heap.size gF l' (q+1) w6 V6):=by
     refine qz ?_;obtain⟨hrow6,hg6⟩:=HN.out;rw[Htk2.out]at hrow6;have hne:some gF≠(Value.slice aV (Db (Ah (l'.take q)).2).length cV).ownBlock:=by
      intro e;have:=Hrow.out.base gF e.symm;have:=HI5.out.ge.2.1;omega
     exact⟨Gh HI5.out.below hg6 Hrow.out HI5.out.ge.1 HI5.out.below.size,HI5.out.fld.keep (hg6.block gF HI5.out.fld.lt hne),⟨HI5.out.ge.1,HI5.out.ge.2.1,Nat.le_trans HI5.out.ge.2.2 hg6.size⟩,hrow6⟩
    clear HN;go_roundw
    case rel=>exact⟨q+1,by go_num,by omega,Hr1,hN⟩
    case measure=>simp only[intOf];omega
  . obtain rfl:q=l'.length:=by omega
    rw[List.take_length]at hr;have hln:(Db (Ah (l'.take l'.length)).2).length=(Ah l').2.length:=by rw[List.take_length,Ds]
    obtain⟨aV,cV,rfl⟩:=hI.out.row.slice_n hln;obtain⟨a',c',e',_,hfr,_⟩:=hI.out.row.close;rw[hln]at e' hfr;rw[List.take_length]at hfr;obtain⟨rfl,rfl⟩:aV=a'/\cV=c':=by simpa using e'
    obtain⟨hbq,hiq⟩:=Gd Hel.out hr.out;have hMy:=Gc (Ah l').2 aV (Ah l').2.length cV wr (HT.out.below hI.out.below) hfr.now (by have:=Hbl.out;omega) hiq;have Hbw:=qz hI.out.below;have hop:=Hop.out;rw[if_neg (show ¬(Ah l').1≠0 from fun h=>h hr.out)]at hop;obtain⟨X,hX⟩: ∃X,A4 none (Ah l').2=X:=⟨_,rfl⟩;rw[hX]at hMy hop;generalize (Ah l').2=OPS at hMy hfr hop;obtain⟨HMy,Hfr,Hop⟩:=hid3 hMy hfr hop;clear hMy hfr hop;clear hI hr hln hbq hiq hX e';go_wp2_with (fail);(with_reducible refine(HMy.out).mono ?_);rintro e w9 ⟨rfl,hb9⟩;have hwf:=Hbw.out.trans (hb9.mono Hbw.out.size);have hff:=Hfr.out.later hb9;by_cases hX0:X=0
    . subst hX0;have hop2:=Hop.out;rw[if_pos rfl]at hop2;obtain⟨Hop2,Hff,Hwf⟩:=hid3 hop2 hff hwf;clear hop2 hff hwf;clear hb9;go_wp2;go_ret2;refine⟨Hwf.out, ?_⟩;rw[Hop2.out,if_neg (fun h=>h rfl)];exact⟨aV,cV,rfl,Hff.out.keep (by have:=Hhi.out;omega) (Nat.le_refl _) (fun _ _ _=>rfl)⟩
    . have tX:(X != 0)=true:=by simpa using hX0
      have hop2:=Hop.out;rw[if_neg hX0]at hop2;have HP:=qz (Jf.no (v:=.mk 5 b' n' t' l' o') (c:=X) (by rw[hop2]) hX0 hwf);clear hb9 hX0 hff hwf hop2;go_wp2;go_ret2;exact HP.out
theorem Abt {S:Nat->Prop} {w:World} {p:POp} {cs:List Value} (h:Ac S w (dQ p) cs): ∃z2 z3 z4 z5 la lc oa oc ll ol,cs= [.int .i64 p.k,.string p.key,.int .i64 z2,.bool z3,.int .i64 z4,.string z5,.slice la ll lc,.slice oa ol oc]:=by
 obtain⟨k,key,⟨a,b,n,t,l,o⟩⟩:=p;have h1:=h.now;unfold dQ at h1;simp only[Ae]at h1;obtain⟨_,_,rfl,⟨rfl,_⟩,_,_,rfl,⟨rfl,_⟩,cv,_,rfl,h4,rfl⟩:=h1;have h6:=Az _ _ h4;simp only[Aa]at h6;obtain⟨la,lc,oa,oc,rfl,_,_⟩:=h6;exact⟨_,_,_,_,_,_,_,_,_,_,rfl⟩
structure PatX (w:World) (S:Nat->Prop) (w0:World) (six:Array Value) (l:List Val) (q:Nat) (wr:World) (V:Value):Prop where
 ji:JI w six wr
 row:As (fun i=>S i/\i<w0.heap.size) (w.heap.size+1) 64 8 wr (Db (Ah (l.take q)).2) V
def Gs (v:Val) (S:Nat->Prop) (w0 w:World) (e:Ending) (w':World):Prop:=Below w.heap.size w w'/\
 if(C9 v).1≠0 then e=.returned (.tuple #[.slice none 0 0,.int .i64 (C9 v).1])else
  ∃a c,e=.returned (.tuple #[.slice a (C9 v).2.length c,.int .i64 0])/\Ac (fun i=>(S i/\i<w0.heap.size)\/w.heap.size<i) w' (.row 8 (Db (C9 v).2)) [.slice a (C9 v).2.length c]
theorem Gs.no {v:Val} {S:Nat->Prop} {w0 w w':World} {c:Int} (h:(C9 v).1=c) (hc:c≠0) (hb:Below w.heap.size w w'):Gs v S w0 w (.returned (.tuple #[.slice none 0 0,.int .i64 c])) w':=
 ⟨hb,by rw[if_pos (by omega),h]⟩
theorem Aai (k':Int) (b':Bool) (n':Int) (t':ByteArray) (l':List Val) (o':List (ByteArray×Val)) (la lc oa oc) (S:Nat->Prop) (w0 w:World) (hT:Ck w) (hw:Below w0.heap.size w0 w)
 (h:Ac S w0 (dV (.mk k' b' n' t' l' o')) [.int .i64 k',.bool b',.int .i64 n',.string t',.slice la l'.length lc,.slice oa o'.length oc]) (hb:(Val.mk k' b' n' t' l' o').bulk<=30000000) (hiv:Jc (.mk k' b' n' t' l' o')):
 Calls Tryz.prog 28 #[.agg #[.int .i64 k',.bool b',.int .i64 n',.string t',.slice la l'.length lc,.slice oa o'.length oc]] w (Gs (.mk k' b' n' t' l' o') S w0 w):=by
 obtain⟨wi,hwi⟩: ∃wi,w.alloc (.cells #[.int .i64 k',.bool b',.int .i64 n',.string t',.slice la l'.length lc,.slice oa o'.length oc] 33)=wi:=⟨_,rfl⟩;have hI0:JI w #[.int .i64 k',.bool b',.int .i64 n',.string t',.slice la l'.length lc,.slice oa o'.length oc] wi:=hwi▸⟨Ab _ _,Aj.new w _ _⟩;have hMay:=Oz (.mk k' b' n' t' l' o') [.int .i64 k',.bool b',.int .i64 n',.string t',.slice la l'.length lc,.slice oa o'.length oc] wi (Az _ _ (h.old_now (hw.trans (hI0.below.mono hw.size)))) (by omega);obtain⟨x0,x1,x2,x3,x4,x5⟩:=A7 hI0.box;have xl:=hI0.box.lt;obtain⟨M,hM⟩: ∃M,A5 (.mk k' b' n' t' l' o') 1=M:=⟨_,rfl⟩;rw[hM]at hMay;obtain⟨HMay,HI0,H,HT,Hiv⟩:=hid5 hMay hI0 h hT hiv;clear hMay hI0 h hT hiv;go_enter Tryz.func28,Tryz.ntmps28;go_upto_region 1 with(fail);clear hwi;go_wp2_with (fail);(with_reducible refine(HMay.out).mono ?_);rintro e w1 ⟨rfl,hb1⟩;have hI1:=HI0.out.call hb1;by_cases hm:M=0;rotate_left
 . have tM:(M != 0)=true:=by simpa using hm
   have HP:=qz (Gs.no (S:=S) (w0:=w0) (v:=.mk k' b' n' t' l' o') (show(C9 (.mk k' b' n' t' l' o')).1=M by unfold C9;rw[if_pos (by omega)];exact hM) hm hI1.below);clear hm hM;go_wp2;go_ret2;exact HP.out
 subst hm;have y0:=hI1.box.cell 0;have yl:=hI1.box.lt;by_cases hk:k'=5;rotate_left
 . have e5:(k' != 5)=true:=by simpa using hk
   have HP:=qz (Gs.no (S:=S) (w0:=w0) (v:=.mk k' b' n' t' l' o') (show(C9 (.mk k' b' n' t' l' o')).1=9 by unfold C9;rw[if_neg (by omega),if_pos (show Bf (.mk k' b' n' t' l' o')≠5 from hk)]) (by omega) hI1.below);obtain⟨Hb1,HI1⟩:=hid2 hb1 hI1;clear hb1 hI1;clear hk hM x0 x1 x2 x3 x4 x5 xl;go_wp2;go_ret2;exact HP.out
 subst hk;have hop:=Ns hM rfl;have Hel:Hid (∀v ∈ l',Jc v/\A5 v 2=0):=fun v hv=>⟨Oo Hiv.out.2.1 hv,Jp (El hM).2.2.2.1 v hv⟩;obtain⟨j0,hj,hy0,hy1,hy2⟩:=info_parts Ot;have hbl:3*A6 l'<=90000000:=by simp only[Val.bulk]at hb;omega
 have hll:l'.length<=30000000:=by have:=Ch l';omega
 have hN0:Hid (PatX w S w0 #[.int .i64 5,.bool b',.int .i64 n',.string t',.slice la l'.length lc,.slice oa o'.length oc] l' 0 w1 (.slice none 0 0)):=qz ⟨hI1,As.nil _ _ _ _ _⟩;have Hr0:Hid ((Ah (l'.take 0)).1=0):=rfl;obtain⟨Hb1,HI1,Hop,HM,Hj,Hy0,Hy1,Hy2,Hbl⟩:=hid9 hb1 hI1 hop hM hj hy0 hy1 hy2 hbl;clear hb1 hI1 hop hM hj hy0 hy1 hy2 hbl;clear x0 x1 x2 x3 x4 x5 xl;go_wp2_with (fail);clear y0 yl;go_loopw [5,6] (fun V i wr=> ∃q:Nat,i=.int .i64 q/\q<=l'.length/\Hid ((Ah (l'.take q)).1=0)/\Hid (PatX w S w0 #[.int .i64 5,.bool b',.int .i64 n',.string t',.slice la l'.length lc,.slice oa o'.length oc] l' q wr V)) (fun _ i _=>l'.length - (intOf i).toNat)
 case atStart=>exact⟨0,rfl,Nat.zero_le _,Hr0,hN0⟩
 case round=>
  obtain⟨q,rfl,hq,hr,hI⟩:=hrel;clear hN0 Hr0;have hq0:(0:Int)<=q:=by omega
  have z4:=hI.out.ji.box.cell 4;have zl:=hI.out.ji.box.lt;by_cases hlt:q<l'.length
  . obtain⟨x,hx⟩: ∃v,l'[q]? =some v:=⟨_,List.getElem?_eq_getElem hlt⟩;have hmem:=List.mem_of_getElem? hx;have hbe:=Cp hmem;obtain⟨i1,i2⟩:=Hel.out x hmem;have hpo:=Ac3 i2;have htk:l'.take (q+1)=l'.take q++ [x]:=by rw[List.take_add_one,hx];simp
    have hone:=Jv (v:=x) hr.out;obtain⟨ek,eb,en,et,el,eo⟩:=x;have hz:=hI.out.ji.below.size;obtain⟨g,off,rfl,hg,ela,elc,eoa,eoc,hv,c0,c1,c2,c3,c4,c5⟩:=Adq (Adu H.out) hx;have hbw:Below w0.heap.size w0 wr:=hw.trans (hI.out.ji.below.mono hw.size);have hgr:g<wr.heap.size:=Nat.lt_of_lt_of_le hg hbw.size;have c0:=(hbw.cell (p:=⟨g,off+q*6,none⟩) hg).trans c0;have c1:=(hbw.cell (p:=⟨g,off+q*6+1,none⟩) hg).trans c1;have c2:=(hbw.cell (p:=⟨g,off+q*6+2,none⟩) hg).trans c2;have c3:=(hbw.cell (p:=⟨g,off+q*6+3,none⟩) hg).trans c3;have c4:=(hbw.cell (p:=⟨g,off+q*6+4,none⟩) hg).trans c4;have c5:=(hbw.cell (p:=⟨g,off+q*6+5,none⟩) hg).trans c5;have hq1:(q:Int)<(l'.length:Int):=by omega
    have hC:=X5 ek eb en et el eo ela elc eoa eoc S w0 wr hbw hv (by
     have h1:=Bu eo;have h2:Ag eo<=(Val.mk ek eb en et el eo).bulk:=by simp only[Val.bulk];omega
     have:=Hbl.out;omega)
    unfold B7 at hC;rw[hpo]at hC;obtain⟨HC,Hv,Hx,Htk,Hone,Hpo⟩:=hid6 hC hv hx htk hone hpo;clear hC hv hx htk hone hpo;clear hmem hbe i1 i2;go_wp2_with (fail);(with_reducible refine(HC.out).mono ?_);rintro e w4 ⟨hb4,cs8,rfl,hh8⟩;obtain⟨z2,z3,z4',z5,xla,xlc,xoa,xoc,xll,xol,rfl⟩:=Abt hh8;have hJ4:=hI.out.ji.call hb4;obtain⟨OP,hOP⟩: ∃p,(Cf (.mk ek eb en et el eo)).2=p:=⟨_,rfl⟩;rw[hOP]at hh8 ⊢;by_cases hc:(Cf (.mk ek eb en et el eo)).1=0;rotate_left
    . have tC:((Cf (.mk ek eb en et el eo)).1 != 0)=true:=by simpa using hc
      have hP:=fun W (hW:Below w.heap.size w W)=>Gs.no (S:=S) (w0:=w0) (v:=.mk 5 b' n' t' l' o') (w:=w) (w':=W) (c:=(Cf (.mk ek eb en et el eo)).1) (by
       have h1:=Hone.out;rw[if_pos hc,<-Htk.out]at h1;have h2:=Jw (l:=l'.take (q+1)) (r:=l'.drop (q+1)) (by rw[h1];exact hc);rw[List.take_append_drop,h1]at h2;rw[Hop.out,if_pos (by rw[h2];exact hc),h2]) hc hW
      have hPa:=hP _ (hJ4.call (Ab w4 (.cells #[.int .i64 OP.k,.string OP.key,.int .i64 z2,.bool z3,.int .i64 z4',.string z5,.slice xla xll xlc,.slice xoa xol xoc] 64))).below;generalize (Cf (.mk ek eb en et el eo)).1=C at tC hPa;obtain⟨HPa,HJ4⟩:=hid2 hPa hJ4;clear hPa hJ4;clear hc hh8 hb4 hP hOP;go_wp2;go_ret2;exact HPa.out
    rw[hc];have htk2:Db (Ah (l'.take q)).2++ [dQ OP]=Db (Ah (l'.take (q+1))).2:=by
     rw[Htk.out,Hone.out,if_neg (by omega),<-hOP];simp[Db]
    have hr1:(Ah (l'.take (q+1))).1=0:=by rw[Htk.out,Hone.out,if_neg (by omega)]
    obtain⟨aV,cV,rfl⟩:=hI.out.row.slice;have hdl:(Db (Ah (l'.take q)).2).length<=q:=by
     have:=Ju (l'.take q);rw[Ds];rw[List.length_take]at this;omega
    have hLo:(Db (Ah (l'.take q)).2).length+1<=maxLen/\((Db (Ah (l'.take q)).2).length+1)*112<=140737488355328:=⟨by simp only[maxLen];omega,by omega⟩;have hb6:Below wr.heap.size wr ((w4.alloc (.cells #[.int .i64 OP.k,.string OP.key,.int .i64 z2,.bool z3,.int .i64 z4',.string z5,.slice xla xll xlc,.slice xoa xol xoc] 64)).alloc (.cells #[.int .i64 OP.k,.string OP.key,.int .i64 z2,.bool z3,.int .i64 z4',.string z5,.slice xla xll xlc,.slice xoa xol xoc] 64)):=(hb4.alloc hb4.size _).alloc (by have:=hb4.size;simp;omega) _;have HJ6:=qz (hI.out.ji.call hb6);have Hrow:=qz (hI.out.row.below hb6);have hrow0:=hI.out.row;have hgeb:w.heap.size+1<=((w4.alloc (.cells #[.int .i64 OP.k,.string OP.key,.int .i64 z2,.bool z3,.int .i64 z4',.string z5,.slice xla xll xlc,.slice xoa xol xoc] 64)).alloc (.cells #[.int .i64 OP.k,.string OP.key,.int .i64 z2,.bool z3,.int .i64 z4',.string z5,.slice xla xll xlc,.slice xoa xol xoc] 64)).heap.size:=Nat.le_trans hI.out.ji.box.lt hb6.size;have hin:Ac (fun i=>(S i/\i<w0.heap.size)/\(Value.slice aV (Db (Ah (l'.take q)).2).length cV).ownBlock≠some i) ((w4.alloc (.cells #[.int .i64 OP.k,.string OP.key,.int .i64 z2,.bool z3,.int .i64 z4',.string z5,.slice xla xll xlc,.slice xoa xol xoc] 64)).alloc (.cells #[.int .i64 OP.k,.string OP.key,.int .i64 z2,.bool z3,.int .i64 z4',.string z5,.slice xla xll xlc,.slice xoa xol xoc] 64)) (dQ OP) [.int .i64 OP.k,.string OP.key,.int .i64 z2,.bool z3,.int .i64 z4',.string z5,.slice xla xll xlc,.slice xoa xol xoc]:=
     (hh8.base (hbw.trans (hb6.mono hbw.size))).mono fun i _ hi=>⟨hi,fun e=>by have:=(hI.out.row.base i e).1;have:=hw.size;omega⟩
    have hRd:=Jx (w4.alloc (.cells #[.int .i64 OP.k,.string OP.key,.int .i64 z2,.bool z3,.int .i64 z4',.string z5,.slice xla xll xlc,.slice xoa xol xoc] 64)) (.int .i64 OP.k) (.string OP.key) (.int .i64 z2) (.bool z3) (.int .i64 z4') (.string z5) (.slice xla xll xlc) (.slice xoa xol xoc);rw[World.size_alloc]at hRd;obtain⟨HRd,HLo,Hin,Htk2,Hr1,HJ4,Hgeb,Hrow0⟩:=hid8 hRd hLo hin htk2 hr1 hJ4 hgeb hrow0;clear hRd hLo hin htk2 hr1 hJ4 hgeb hrow0;clear hh8 hb4 hb6 hc hdl z4 zl hI hOP;go_wp2_with (at_builtin;apply Shut.out);unfold Shut;refine Ej (d:=dQ OP) (V:=.slice aV (Db (Ah (l'.take q)).2).length cV) rfl (.tmp 37) (.tmp 39) 22 rfl Tryz.underlying22 Hj.out Hy0.out Hy1.out Hy2.out rfl (by omega) rfl Hrow.out Hgeb.out (Hy _) Hin.out rfl HRd.out HLo.out.1 HLo.out.2 ?_;intro V6 w6 hrow6 hg6 hat6;have hN:Hid (PatX w S w0 #[.int .i64 5,.bool b',.int .i64 n',.string t',.slice (some ⟨g,off,none⟩) l'.length lc,.slice oa o'.length oc] l' (q+1) w6 V6):=by
     refine qz ⟨⟨Ip HJ6.out.below hg6 Hrow0.out (Nat.le_succ _) HJ6.out.below.size,Ht HJ6.out.box hg6 Hrow0.out (.inl (Nat.lt_succ_self _))⟩, ?_⟩;rw[<-Htk2.out];exact hrow6
    clear hrow6 hg6 hat6;go_wp2;go_roundw
    case rel=>exact⟨q+1,by go_num,by omega,Hr1,hN⟩
    case measure=>simp only[intOf];omega
  . obtain rfl:q=l'.length:=by omega
    have hrw:=hI.out.row;have hbw:=hI.out.ji.below;have hr':=hr.out;rw[List.take_length]at hr' hrw;obtain⟨aV,cV,rfl⟩:=hrw.slice_n (n:=(Ah l').2.length) (Ds _);have hown:=hrw.base;have hhI:=hrw.closeIn;have hhI:Ac (fun i=>(S i/\i<w0.heap.size)\/w.heap.size<i) wr _ _:=hhI.mono fun i _ hi=>by
     rcases hi with hi|hi
     . exact .inl hi
     . exact .inr (hown i hi).1
    have hh:=hhI.now;obtain⟨hbq,hiq⟩:=Gd Hel.out hr';have hMy:=Fl (Ah l').2 aV (Ah l').2.length cV wr (HT.out.below hbw) hh (by have:=Hbl.out;omega) hiq;have hop:=Hop.out;rw[if_neg (show ¬(Ah l').1≠0 from fun h=>h hr')]at hop;obtain⟨X,hX⟩: ∃X,A4 none (Ah l').2=X:=⟨_,rfl⟩;rw[hX]at hMy hop;generalize (Ah l').2=OPS at hMy hhI hop;obtain⟨HMy,HhI,Hbw,Hop⟩:=hid4 hMy hhI hbw hop;clear hMy hhI hbw hop;clear hI hr hrw hbq hiq hX hr' hh hown;go_wp2_with (fail);(with_reducible refine(HMy.out).mono ?_);rintro e w9 ⟨rfl,hb9⟩;have hwf:=Hbw.out.trans (hb9.mono Hbw.out.size);have hff:=HhI.out.below hb9;by_cases hX0:X=0
    . subst hX0;have hop2:=Hop.out;rw[if_pos rfl]at hop2;obtain⟨Hop2,Hff,Hwf⟩:=hid3 hop2 hff hwf;clear hop2 hff hwf;clear hb9;go_wp2;go_ret2;refine⟨Hwf.out, ?_⟩;rw[Hop2.out,if_neg (fun h=>h rfl)];exact⟨aV,cV,rfl,Hff.out⟩
    . have tX:(X != 0)=true:=by simpa using hX0
      have hop2:=Hop.out;rw[if_neg hX0]at hop2;have HP:=qz (Gs.no (S:=S) (w0:=w0) (v:=.mk 5 b' n' t' l' o') (c:=X) (by rw[hop2]) hX0 hwf);clear hb9 hX0 hff hwf hop2;go_wp2;go_ret2;exact HP.out
end Go.Proofs.YtdbejcbbhomdbaaGreatDoor
namespace Go.Proofs.YtdbejcbbhomdbaaGreatDoor
open Go.RowKit Go.ChangeShapes Go.WideShapes Go.ChangeAt
theorem Aau {W:World} (h:Lib.VarReads Tryz.prog W "internal/strconv.uint64pow10" (Lib.tabData .u64 Lib.pow10Tab)):Lib.TabIs Tryz.prog W "internal/strconv.uint64pow10" .u64 Lib.pow10Tab:=by
 obtain⟨g',t',cs,fuel,p,hg',ht',hvar,hd⟩:=h;have hg:Tryz.prog.globalNamed "internal/strconv.uint64pow10" =some 4:=by kernel_rfl
 have hty:(Tryz.prog.globals[4]?).map (·.type)=some 291:=by kernel_rfl
 obtain rfl:=Option.some.inj (hg.symm.trans hg');obtain rfl:=Option.some.inj (hty.symm.trans ht');unfold Lib.TabIs;rw[hvar,<-Lib.cells_of_tab Tryz.underlying291 Tryz.underlying260 (by kernel_rfl) (by kernel_rfl) hd]
theorem Acp {W:World} (h:Lib.VarReads Tryz.prog W "commonplace/patch.names" Rows.laid_commonplace_patch_names):Fm W:=by
 obtain⟨g',t',cs,fuel,p,hg',ht',hvar,hd⟩:=h;have hg:Tryz.prog.globalNamed "commonplace/patch.names" =some 0:=by kernel_rfl
 have hty:(Tryz.prog.globals[0]?).map (·.type)=some 124:=by kernel_rfl
 obtain rfl:=Option.some.inj (hg.symm.trans hg');obtain rfl:=Option.some.inj (hty.symm.trans ht');obtain⟨xs,m,_,hx,hl,hxl,hf⟩:=DataW.trod_array Tryz.underlying124 hd;have hc1:Tryz.prog.cellsOf 9=1:=by kernel_rfl
 have hc4:Tryz.prog.cellsOf 124=4:=by kernel_rfl
 rw[hc4]at hl;have hxs:=congrArg Prod.fst hx;simp only[Rows.laid_commonplace_patch_names,DataW.agg.injEq]at hxs;have key: ∀i,i<4-> ∀l:List UInt8,([[], [112,117,116], [100,101,108], [99,108,101,97,114]]:List (List UInt8))[i]? =some l->cs[i]? =some (.string ⟨l.toArray⟩):=by
  intro i hi l hl';have h1:=hf i hi;rw[hc1,Nat.mul_one]at h1;have h2:((cs.toList.drop i).take 1)= [cs[i]'(by simpa[Array.length_toList]using(by omega:i<cs.toList.length))]:=by
   rw[List.drop_eq_getElem_cons (by omega)];simp
  rw[h2,List.getElem?_eq_getElem (by omega)]at h1;obtain⟨s,hs,hx1,_⟩:=DataW.trod_string Tryz.underlying9 h1;simp only[List.cons.injEq,and_true]at hs;have h3:(xs.map (·.1))[i]? =some (DataW.lit (.string s.data.toList):DataW Unit):=by
   rw[List.getElem?_map,List.getElem?_eq_getElem (by omega),Option.map_some,hx1]
  rw[<-hxs]at h3;have h4:s.data.toList=l:=by
   rcases(by omega:i=0\/i=1\/i=2\/i=3)with rfl|rfl|rfl|rfl<;>exact(Lit.string.inj (DataW.lit.inj (Option.some.inj h3))).symm.trans (Option.some.inj hl')
  have h5:i<cs.size:=by rw[<-Array.length_toList];omega
  rw[Array.getElem?_eq_getElem h5,hs];have h6:s=⟨l.toArray⟩:=by
   apply ByteArray.ext;apply Array.ext';rw[h4]
  rw[h6]
 unfold World.var? at hvar;rw[hg]at hvar;simp only[Option.bind_some]at hvar
 split at hvar
 . rename_i cs' t' fz hh;simp only[Option.some.injEq]at hvar;subst hvar;have hcell: ∀i,W.cell? ⟨0,i,none⟩=cs'[i]? :=fun i=>by unfold World.cell?;rw[hh];rfl
   exact⟨(hcell 1).trans (key 1 (by omega) _ rfl),(hcell 2).trans (key 2 (by omega) _ rfl),(hcell 3).trans (key 3 (by omega) _ rfl),(Array.getElem?_eq_some_iff.1 hh).1⟩
 . cases hvar
theorem Tn {W:World} (h:laidMetH Tryz.prog Rows.patchMayRow.laid W):Ck W:=by
 have hL:laidMet Tryz.prog Rows.patchMayRow.laid W:=by
  have:=(laidMetH_iff.1 h).1;have e:(Rows.patchMayRow.laid.filter fun x=>x.2.handleName?.isNone)=Rows.patchMayRow.laid:=by kernel_rfl
  rwa [e]at this
 have hu:Lib.Utf8Tabs 1 2 W:=
  utf8Tabs_of_readsT (U8Types.of196 Tryz.lays196) ⟨by kernel_rfl,by kernel_rfl,by kernel_rfl,by kernel_rfl,by kernel_rfl,by kernel_rfl,by kernel_rfl⟩
   (Lib.laidMet.reads hL (n:= "unicode/utf8.first") (d:=Lib.firstData) (by rw[<-Xn];simp[Rows.patchMayRow])) (Lib.laidMet.reads hL (n:= "unicode/utf8.acceptRanges") (d:=Lib.acceptData) (by rw[<-U7];simp[Rows.patchMayRow]))
 have hp:=Aau (Lib.laidMet.reads hL (n:= "internal/strconv.uint64pow10") (d:=Lib.tabData .u64 Lib.pow10Tab) (by rw[<-Xo];simp[Rows.patchMayRow]));have h64:Lib.VarReads Tryz.prog W "math/bits.deBruijn64tab" Rows.laid_math_bits_deBruijn64tab:=Lib.laidMet.reads hL (by simp[Rows.patchMayRow]);refine⟨?_,hu,hp⟩;obtain⟨g',t',cs,fuel,p,hg',ht',hvar,hd⟩:=h64;have hg:Tryz.prog.globalNamed "math/bits.deBruijn64tab" =some 6:=by kernel_rfl
 obtain rfl:=Option.some.inj (hg.symm.trans hg');unfold World.var? at hvar;rw[hg]at hvar;simp only[Option.bind_some]at hvar;rcases Nat.lt_or_ge 6 W.heap.size with h'|h'
 . omega
 . rw[Array.getElem?_eq_none h']at hvar
   cases hvar
theorem Ld {W:World} (h:laidMetH Tryz.prog Rows.patchMayRow.laid W):Fm W:=by
 have hL:laidMet Tryz.prog Rows.patchMayRow.laid W:=by
  have:=(laidMetH_iff.1 h).1;have e:(Rows.patchMayRow.laid.filter fun x=>x.2.handleName?.isNone)=Rows.patchMayRow.laid:=by kernel_rfl
  rwa [e]at this
 exact Acp (Lib.laidMet.reads hL (by simp[Rows.patchMayRow]))
theorem i64_in {n:Int} (hwf:(Lit.int .i64 n).wf=true): -9223372036854775808<=n/\n<=9223372036854775807:=by
 have h1:IntKind.i64.min= -9223372036854775808:=by decide
 have h2:IntKind.i64.max=9223372036854775807:=by decide
 simp only[Lit.wf,h1,h2,Bool.and_eq_true,decide_eq_true_eq]at hwf;exact hwf
section
variable {H:Type} {enc:TypeId×Value->H} {P:Program}
theorem G7 {f:Func} {s:ChangeSpec} {apart fresh handsOn again:Bool} {W W':World} {args:Array Value} {v:Value} {ds gs:List (DataW H)} {before pa pv:List MemPlace}
 (hW:DataW.Whole enc P f.params.toList s.vars apart W args.toList ds gs before)
 (hres: ∀(b:Nat) (sp:Nat->Bool) (hd:Bool),DataW.TrodAll enc P W' b sp hd f.resultTypes.toList (v.resultList f.resultTypes.size) (s.fn H (ds++gs)).results [])
 (hargs: ∀sp:Nat->Bool,(∀p ∈ before,sp p.block=true)->DataW.TrodAll enc P W' 0 sp true f.params.toList args.toList (s.fn H (ds++gs)).args pa)
 (hvars: ∀sp:Nat->Bool,(∀p ∈ before,sp p.block=true)->DataW.TrodVars enc P W' sp s.vars (s.fn H (ds++gs)).vars pv)
 (hps:before=pa++pv) (hb:Below W.heap.size W W')
 (hok: ∀(j:Nat) (t:TypeId) (r:Value),f.resultTypes[j]? =some t->(v.resultList f.resultTypes.size)[j]? =some r->Value.okWide P W' .any 0 t r):
 s.post enc P f apart fresh handsOn again W args v W':=by
 have hlt: ∀p ∈ before,p.block<W.heap.size:=fun p hp=>hW.lt p hp;have hold: ∀p ∈ before,(fun b=>decide (b<W.heap.size)) p.block=true:=fun p hp=>by simpa using hlt p hp
 refine⟨ds,gs,before, [],pa,pv,hW,hres _ _ _,hargs _ hold,hvars _ hold,World.keptBut_mono (fun p hp=>⟨hp, ?_⟩) (hb.frame (· ∈ before)),fun _=> ?_⟩
 . rw[hps,List.mem_append]at hp;exact Or.inr hp
 . obtain⟨_,_,_,_,_,hz,hn⟩:=hW;refine⟨hok,_,_,([]++pa)++pv,⟨[]++pa,pv,trodAll_append (hargs _ (fun _ _=>rfl)) (hres _ _ _),hvars _ (fun _ _=>rfl),rfl, ?_, ?_⟩, ?_⟩
   . intro b off hp;have hin:MemPlace.cell b off ∈ before:=by rw[hps];simpa using hp
     rw[hb.frozen (hlt _ hin)];exact hz b off hin
   . intro ha;have:=hn ha;rw[hps]at this;simpa using this
   . intro p hp _;rw[hps];simpa using hp
end
end Go.Proofs.YtdbejcbbhomdbaaGreatDoor
namespace Go.Proofs.YtdbejcbbhomdbaaGreatDoor
open Go Go.RowKit
theorem Xy {x:Val} (hi:Jc x) (h:(C9 x).1=0):Cd (C9 x).2<=3*x.bulk/\Xi (C9 x).2:=by
 obtain⟨k,b,n,t,l,o⟩:=x;unfold C9 at h ⊢;by_cases h1:A5 (.mk k b n t l o) 1≠0
 . rw[if_pos h1]at h;exact absurd h h1
 rw[if_neg h1]at h ⊢;by_cases h2:Bf (.mk k b n t l o)≠5
 . rw[if_pos h2]at h;exact absurd h (show ¬(9:Int)=0 by omega)
 rw[if_neg h2]at h ⊢;by_cases h3:(Ah (Pr (.mk k b n t l o))).1≠0
 . rw[if_pos h3]at h;exact absurd h h3
 rw[if_neg h3]at h ⊢;by_cases h4:A4 none (Ah (Pr (.mk k b n t l o))).2=0
 . rw[if_pos h4];obtain⟨a,b⟩:=Gd (l:=l) (fun v hv=>⟨Oo hi.2.1 hv,Jp (El (by simpa using h1)).2.2.2.1 v hv⟩) (Decidable.byContradiction fun e=>h3 e);refine⟨?_,b⟩;show Cd (Ah l).2<=_;simp only[Val.bulk];omega
 . rw[if_neg h4]at h;exact absurd h h4
end Go.Proofs.YtdbejcbbhomdbaaGreatDoor
