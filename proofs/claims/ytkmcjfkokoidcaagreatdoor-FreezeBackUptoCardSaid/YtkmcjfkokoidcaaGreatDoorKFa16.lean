/- Parts: utf.Runes: the iterator over a text's runes and their places, by rounds that may end it. Condition: a text shorter than 10^9. -/
import Derived.Test.YtkmcjfkokoidcaaGreatDoorKFa12
set_option maxHeartbeats 20000000
set_option maxRecDepth 100000
namespace Go.Proofs.YtkmcjfkokoidcaaGreatDoor
open Go.RowKit
theorem I8 {k:Int} {b:Bool} {n:Int} {t:ByteArray} {la oa:Option Addr} {ln lc on oc:Nat} {B:Bool} (h:Gm k b n t ln on=B) (w:World):
 Calls Tryz.prog 160 #[.agg #[.int .i64 k,.bool b,.int .i64 n,.string t,.slice la ln lc,.slice oa on oc]] w fun e w'=>e=.returned (.bool (!B))/\Below w.heap.size w w':=by
 subst h;exact Adx _ _ _ _ _ _ _ _ _ _ _
theorem Cw {s:ByteArray} {B:Bool} (h:A9 s=B) (w:World) (hs:s.size<=1000000000):
 Calls Tryz.prog 112 #[.string s] w fun e w'=>e=.returned (.bool B)/\w=w':=by
 subst h;exact Pr _ _ hs
def Aje (v:Val):Prop:= ∀(cs:List Value) (d:Int) (w:World),Ac w w.heap.size v cs->v.bulk<=1000000000->0<=d->d<=65->
    Calls Tryz.prog 95 #[.agg cs.toArray,.int .i64 d] w fun e w'=>e=.returned (.int .i64 (Au v d))/\Below w.heap.size w w'
theorem Ah7 (k:Int) (b:Bool) (n:Int) (t:ByteArray) (l:List Val) (la oa:Option Addr) (lc oc:Nat) (d:Int) (w:World) (g off:Nat) (hla:l= []\/(la=some ⟨g,off,none⟩/\g<w.heap.size/\Ao w w.heap.size l g off))
 (hb:Bf l+t.size<=1000000000) (h0:0<=d) (h64:d<=64) (IH: ∀v ∈ l,Aje v) (hodd:Gm k b n t l.length 0=false) (hval:A9 t=true):
 Calls Tryz.prog 95 #[.agg #[.int .i64 k,.bool b,.int .i64 n,.string t,.slice la l.length lc,.slice oa 0 oc],.int .i64 d] w fun e w'=>e=.returned (.int .i64 (C2 l (d+1)))/\Below w.heap.size w w':=by
 have hlen:l.length<=1000000000:=by have:=Dt l;omega
 have h64': ¬(64<d):=by omega
 have H:Hid (C2 (l.drop 0) (d+1)=C2 l (d+1)):=by rw[List.drop_zero];exact rfl
 go_enter Tryz.func95,Tryz.ntmps95;go_wp2_with (first|(go_at_call 160;refine(I8 hodd _).mono ?_;rintro e w1 ⟨rfl,hb1⟩;obtain⟨hc1,hf1⟩:=Gy hb1;have hz1:=hb1.size;simp only[World.size_alloc]at hz1;have hbw1:Below w.heap.size w w1:=((Below.refl _ _).alloc (Nat.le_refl _) _).trans (hb1.mono (by simp));have hbox1:w1.heap[w.heap.size]? =some (.cells #[.int .i64 k,.bool b,.int .i64 n,.string t,.slice la l.length lc,.slice oa 0 oc] 37 (0,0)):=(hb1.block _ (by simp)).trans (heap_alloc_new _ _))|(go_at_call 112;refine(Cw hval _ (by omega)).mono ?_;rintro e w2 ⟨rfl,rfl⟩));clear hb1 hodd hc1 hf1 hz1;go_loopw [5] (fun i wr=> ∃j:Nat,j<=l.length/\i=.int .i64 j/\Hid (C2 (l.drop j) (d+1)=C2 l (d+1))/\Below w.heap.size w wr/\wr.heap[w.heap.size]? =some (.cells #[.int .i64 k,.bool b,.int .i64 n,.string t,.slice la l.length lc,.slice oa 0 oc] 37 (0,0))) (fun i _=>l.length - (intOf i).toNat)
 case atStart=>exact⟨0,Nat.zero_le _,rfl,H,hbw1,hbox1⟩
 case round=>
  obtain⟨j,hj,rfl,hm,hbw,hbox⟩:=hrel;clear H hbw1 hbox1;have hbx:w.heap.size<wr.heap.size:=(Array.getElem?_eq_some_iff.1 hbox).1;have b4:wr.cell? ⟨w.heap.size,4,none⟩=some (.slice la l.length lc):=by rw[Lib.cell_of_heap hbox];rfl
  have b5:wr.cell? ⟨w.heap.size,5,none⟩=some (.slice oa 0 oc):=by rw[Lib.cell_of_heap hbox];rfl
  by_cases hlt:j<l.length
  . obtain⟨rfl,hg,hL⟩:la=some ⟨g,off,none⟩/\g<w.heap.size/\Ao w w.heap.size l g off:=by
     rcases hla with rfl|h
     . simp at hlt
     . exact h
    obtain⟨v,hv⟩: ∃v,l[j]? =some v:=⟨_,List.getElem?_eq_getElem hlt⟩;have hdrop:l.drop j=v::l.drop (j+1):=Ds hv;have hmem:v ∈ l:=List.mem_of_getElem? hv;have hbv:=D9 hmem;have IHv:=qz (IH v hmem);have hm':=hm.out;rw[hdrop]at hm';simp only[C2]at hm';clear hm hdrop hmem IH;obtain⟨m,hmv⟩: ∃m,Au v (d+1)=m:=⟨_,rfl⟩;rw[hmv]at hm';have Hmv:=qz hmv;clear hmv;obtain⟨k',b',n',t',l',o'⟩:=v;obtain⟨la',lc',oa',oc',hvs,c0,c1,c2,c3,c4,c5⟩:=(hL.below hg hbw).six hv;clear hla hL hv;have hz:=hbw.size;by_cases hm0:m=0
    . rw[if_pos hm0]at hm';subst hm0;have Hk:=qz hm';clear hm';go_wp2_with (go_at_call 95;refine(IHv.out _ (d+1) _ (Ac.more (by omega) _ _ hvs) (by omega) (by omega) (by omega)).mono ?_;rintro e w2 ⟨he,hb2⟩;rw[Hmv.out]at he;subst he;have hbw2:Below w.heap.size w w2:=hbw.trans (hb2.mono hz);have hbox2:=(hb2.block _ hbx).trans hbox);go_roundw
      case rel=>exact⟨j+1,by omega,by go_num,Hk,hbw2,hbox2⟩
      case measure=>simp[intOf];omega
    . rw[if_neg hm0]at hm';have Hk:=qz hm';clear hm';have hm1:(m==0)=false:=by simpa using hm0
      have hm2:(m != 0)=true:=by simpa using hm0
      go_wp2_with (go_at_call 95;refine(IHv.out _ (d+1) _ (Ac.more (by omega) _ _ hvs) (by omega) (by omega) (by omega)).mono ?_;rintro e w2 ⟨he,hb2⟩;rw[Hmv.out]at he;subst he;have hbw2:Below w.heap.size w w2:=hbw.trans (hb2.mono hz));go_ret;exact⟨by rw[<-Hk.out];rfl,hbw2⟩
  . obtain rfl:j=l.length:=by omega
    have hm':=hm.out;rw[List.drop_length]at hm';have Hm:=qz hm';clear hm hm';go_wp2;go_loopw [8] (fun i wx=>i=.int .i64 0/\wx=wr) (fun _ _=>0)
    case atStart=>exact⟨rfl,rfl⟩
    case round=>
     obtain⟨rfl,rfl⟩:=hrel;go_wp2;go_ret;exact⟨by rw[<-Hm.out];rfl,hbw⟩
theorem Ab3 (k:Int) (b:Bool) (n:Int) (t:ByteArray) (o:List (ByteArray×Val)) (la oa:Option Addr) (lc oc:Nat) (d:Int) (w:World) (g off:Nat) (hoa:o= []\/(oa=some ⟨g,off,none⟩/\g<w.heap.size/\Ap w w.heap.size o g off))
 (hb:Ab o+t.size<=1000000000) (h0:0<=d) (h64:d<=64) (IH: ∀m ∈ o,Aje m.2) (hodd:Gm k b n t 0 o.length=false) (hval:A9 t=true):
 Calls Tryz.prog 95 #[.agg #[.int .i64 k,.bool b,.int .i64 n,.string t,.slice la 0 lc,.slice oa o.length oc],.int .i64 d] w fun e w'=>e=.returned (.int .i64 (Ep o none (d+1)))/\Below w.heap.size w w':=by
 have hlen:o.length<=1000000000:=by have:=Bc o;omega
 have h64': ¬(64<d):=by omega
 have H:Hid (Ep (o.drop 0) (Fx o 0) (d+1)=Ep o none (d+1)):=by rw[List.drop_zero];exact rfl
 go_enter Tryz.func95,Tryz.ntmps95;go_wp2_with (first|(go_at_call 160;refine(I8 hodd _).mono ?_;rintro e w1 ⟨rfl,hb1⟩;obtain⟨hc1,hf1⟩:=Gy hb1;have hz1:=hb1.size;simp only[World.size_alloc]at hz1;have hbw1:Below w.heap.size w w1:=((Below.refl _ _).alloc (Nat.le_refl _) _).trans (hb1.mono (by simp));have hbox1:w1.heap[w.heap.size]? =some (.cells #[.int .i64 k,.bool b,.int .i64 n,.string t,.slice la 0 lc,.slice oa o.length oc] 37 (0,0)):=(hb1.block _ (by simp)).trans (heap_alloc_new _ _))|(go_at_call 112;refine(Cw hval _ (by omega)).mono ?_;rintro e w2 ⟨rfl,rfl⟩));clear hb1 hodd hc1 hf1 hz1;go_loopw [5] (fun i wx=>i=.int .i64 0/\wx=w1) (fun _ _=>0)
 case atStart=>exact⟨rfl,rfl⟩
 case round=>
  obtain⟨rfl,rfl⟩:=hrel;have hbx0:w.heap.size<wr.heap.size:=(Array.getElem?_eq_some_iff.1 hbox1).1;have b40:wr.cell? ⟨w.heap.size,4,none⟩=some (.slice la 0 lc):=by rw[Lib.cell_of_heap hbox1];rfl
  go_wp2;clear b40 hbx0
  rename World=>w1
  go_loopw [7,8] (fun q i wr=> ∃j:Nat,∃lk:ByteArray,j<=o.length/\i=.int .i64 j/\q=.string lk/\(0<j->Fx o j=some lk)/\Hid (Ep (o.drop j) (Fx o j) (d+1)=Ep o none (d+1))/\Below w.heap.size w wr/\wr.heap[w.heap.size]? =some (.cells #[.int .i64 k,.bool b,.int .i64 n,.string t,.slice la 0 lc,.slice oa o.length oc] 37 (0,0))) (fun _ i _=>o.length - (intOf i).toNat)
  case atStart=>exact⟨0,ByteArray.empty,Nat.zero_le _,rfl,rfl,fun h=>absurd h (by omega),H,hbw1,hbox1⟩
  case round=>
   obtain⟨j,q,hj,rfl,rfl,hlk,hm,hbw,hbox⟩:=hrel;clear H hbw1 hbox1;have hbx:w.heap.size<wr.heap.size:=(Array.getElem?_eq_some_iff.1 hbox).1;have b5:wr.cell? ⟨w.heap.size,5,none⟩=some (.slice oa o.length oc):=by rw[Lib.cell_of_heap hbox];rfl
   have hz:=hbw.size;by_cases hlt:j<o.length
   . obtain⟨rfl,hg,hL⟩:oa=some ⟨g,off,none⟩/\g<w.heap.size/\Ap w w.heap.size o g off:=by
      rcases hoa with rfl|h
      . simp at hlt
      . exact h
     obtain⟨⟨key,v⟩,hv⟩: ∃v,o[j]? =some v:=⟨_,List.getElem?_eq_getElem hlt⟩;have hdrop:o.drop j=(key,v)::o.drop (j+1):=Ds hv;have hmem:(key,v) ∈ o:=List.mem_of_getElem? hv;have hbv:=Bz hmem;simp only at hbv;have IHv:=qz (IH (key,v) hmem);have hlast:Fx o (j+1)=some key:=by simp[Fx,hv]
     have Hlast:=qz hlast;have hm':=hm.out;rw[hdrop]at hm';simp only[Ep,Q6,<-hlast]at hm';clear hm hdrop hmem IH hlast;have hLr:=hL.below hg hbw;have hgr:g<wr.heap.size:=by omega
     obtain⟨k',b',n',t',l',o'⟩:=v;obtain⟨la',lc',oa',oc',hvs,c0,c1,c2,c3,c4,c5,c6⟩:=hLr.seven hv;clear hL hLr hv hoa;by_cases hval2:A9 key=true
     . rw[hval2]at hm';simp only[if_true]at hm';by_cases hjp:0<j
       . rw[hlk hjp]at hm';simp only at hm';have hgd:decide (0<j)=true:=by simpa using hjp
         clear hlk;by_cases hle:leB key q=true
         . rw[if_pos hle]at hm';unfold leB at hle;have Hm:=qz hm';clear hm';go_wp2_with (go_at_call 112;refine(Cw hval2 _ (by omega)).mono ?_;rintro e wv ⟨rfl,rfl⟩);go_ret;exact⟨by rw[<-Hm.out];rfl,hbw⟩
         . rw[if_neg hle]at hm';have hle':(Op.bytesLess key.toList q.toList||key.toList==q.toList)=false:=by simpa[leB]using hle
           clear hle;obtain⟨m,hmv⟩: ∃m,Au (.mk k' b' n' t' l' o') (d+1)=m:=⟨_,rfl⟩;rw[hmv]at hm';have Hmv:=qz hmv;clear hmv;by_cases hm0:m=0
           . rw[if_pos hm0]at hm';subst hm0;have Hm:=qz hm';clear hm';go_wp2_with (first|(go_at_call 112;refine(Cw hval2 _ (by omega)).mono ?_;rintro e wv ⟨rfl,rfl⟩)|(go_at_call 95;refine(IHv.out _ (d+1) _ (Ac.more (by omega) _ _ hvs) (by omega) (by omega) (by omega)).mono ?_;rintro e w3 ⟨he,hb3⟩;rw[Hmv.out]at he;subst he;have hbw3:Below w.heap.size w w3:=hbw.trans (hb3.mono hz);have hbox3:=(hb3.block _ hbx).trans hbox));go_roundw
             case rel=>exact⟨j+1,key,by omega,by go_num,rfl,fun _=>Hlast.out,Hm,hbw3,hbox3⟩
             case measure=>simp[intOf];omega
           . rw[if_neg hm0]at hm';have hm1:(m==0)=false:=by simpa using hm0
             have hm2:(m != 0)=true:=by simpa using hm0
             have Hm:=qz hm';clear hm';go_wp2_with (first|(go_at_call 112;refine(Cw hval2 _ (by omega)).mono ?_;rintro e wv ⟨rfl,rfl⟩)|(go_at_call 95;refine(IHv.out _ (d+1) _ (Ac.more (by omega) _ _ hvs) (by omega) (by omega) (by omega)).mono ?_;rintro e w3 ⟨he,hb3⟩;rw[Hmv.out]at he;subst he;have hbw3:Below w.heap.size w w3:=hbw.trans (hb3.mono hz);have hbox3:=(hb3.block _ hbx).trans hbox));go_ret;exact⟨by rw[<-Hm.out];rfl,hbw3⟩
       . have hlk0:Fx o j=none:=by
          obtain rfl:j=0:=by omega
          rfl
         rw[hlk0]at hm';simp only at hm';have hgd:decide (0<j)=false:=by simpa using hjp
         have hk0:j<=0:=by omega
         clear hlk hlk0;obtain⟨m,hmv⟩: ∃m,Au (.mk k' b' n' t' l' o') (d+1)=m:=⟨_,rfl⟩;rw[hmv]at hm';have Hmv:=qz hmv;clear hmv;by_cases hm0:m=0
         . rw[if_pos hm0]at hm';subst hm0;have Hm:=qz hm';clear hm';go_wp2_with (first|(go_at_call 112;refine(Cw hval2 _ (by omega)).mono ?_;rintro e wv ⟨rfl,rfl⟩)|(go_at_call 95;refine(IHv.out _ (d+1) _ (Ac.more (by omega) _ _ hvs) (by omega) (by omega) (by omega)).mono ?_;rintro e w3 ⟨he,hb3⟩;rw[Hmv.out]at he;subst he;have hbw3:Below w.heap.size w w3:=hbw.trans (hb3.mono hz);have hbox3:=(hb3.block _ hbx).trans hbox));go_roundw
           case rel=>exact⟨j+1,key,by omega,by go_num,rfl,fun _=>Hlast.out,Hm,hbw3,hbox3⟩
           case measure=>simp[intOf];omega
         . rw[if_neg hm0]at hm';have hm1:(m==0)=false:=by simpa using hm0
           have hm2:(m != 0)=true:=by simpa using hm0
           have Hm:=qz hm';clear hm';go_wp2_with (first|(go_at_call 112;refine(Cw hval2 _ (by omega)).mono ?_;rintro e wv ⟨rfl,rfl⟩)|(go_at_call 95;refine(IHv.out _ (d+1) _ (Ac.more (by omega) _ _ hvs) (by omega) (by omega) (by omega)).mono ?_;rintro e w3 ⟨he,hb3⟩;rw[Hmv.out]at he;subst he;have hbw3:Below w.heap.size w w3:=hbw.trans (hb3.mono hz);have hbox3:=(hb3.block _ hbx).trans hbox));go_ret;exact⟨by rw[<-Hm.out];rfl,hbw3⟩
     . have hvf:A9 key=false:=by simpa using hval2
       rw[hvf]at hm';have Hm:=qz hm';clear hm' hval2 hlk;go_wp2_with (go_at_call 112;refine(Cw hvf _ (by omega)).mono ?_;rintro e wv ⟨rfl,rfl⟩);go_ret;exact⟨by rw[<-Hm.out];simp,hbw⟩
   . obtain rfl:j=o.length:=by omega
     have hm':=hm.out;rw[List.drop_length]at hm';have Hm:=qz hm';clear hm hm' hlk hoa IH;go_wp2;go_ret;exact⟨by rw[<-Hm.out];rfl,hbw⟩
theorem Ag.cutL {w:World} {B s n c:Nat} {l:List D} {a:Option Addr} (h:Ag w B (.row s l) [.slice a n c]) {i:Nat} (hi:i<=l.length) (c':Nat):Ag w B (.row s (l.take i)) [.slice a i c']:=by
 obtain⟨a',c2,e,hs,ns,h1,h2⟩:=h;simp only[List.cons.injEq,Value.slice.injEq,and_true]at e;obtain⟨rfl,_,rfl⟩:=e;refine⟨a,c',by rw[List.length_take,Nat.min_eq_left hi],fun d hd=>hs d (List.mem_of_mem_take hd),ns.take (i*s),(h1.split i hs).1, ?_⟩;rcases h2 with h2|⟨g,off,ea,hg,hc⟩
 . exact .inl (by rw[h2];simp)
 . refine .inr ⟨g,off,ea,hg,fun j u hj=> ?_⟩;rw[List.getElem?_take]at hj;by_cases hlt:j<i*s
   . rw[if_pos hlt]at hj;exact hc j u hj
   . rw[if_neg hlt]at hj;cases hj
theorem Ag.cutR {w:World} {B s n c g off:Nat} {l:List D} (h:Ag w B (.row s l) [.slice (some ⟨g,off,none⟩) n c]) {i m:Nat} (hm:i+m=l.length) (c':Nat):Ag w B (.row s (l.drop i)) [.slice (some ⟨g,off+i*s,none⟩) m c']:=by
 obtain⟨a',c2,e,hs,ns,h1,h2⟩:=h;simp only[List.cons.injEq,Value.slice.injEq,and_true]at e;obtain⟨rfl,_,rfl⟩:=e;refine⟨_,c',by rw[List.length_drop,show l.length - i=m from by omega],fun d hd=>hs d (List.mem_of_mem_drop hd),ns.drop (i*s),(h1.split i hs).2, ?_⟩;rcases h2 with h2|⟨g',off',ea,hg,hc⟩
 . exact .inl (by rw[h2];simp)
 . cases ea
   refine .inr ⟨g,off+i*s,rfl,hg,fun j u hj=> ?_⟩;rw[List.getElem?_drop]at hj;rw[Nat.add_assoc];exact hc _ u hj
theorem Aw.split {S:Nat->Prop} {w:World} {l:List D} {ns:List Value} {s:Nat} (h:Aw S w l ns) (hs: ∀d ∈ l,d.cells=s) (i:Nat):Aw S w (l.take i) (ns.take (i*s))/\Aw S w (l.drop i) (ns.drop (i*s)):=
 ⟨fun w'' k1 k2=>((h w'' k1 k2).split i hs).1,fun w'' k1 k2=>((h w'' k1 k2).split i hs).2⟩
theorem Aw.grow {S0:Nat->Prop} {w w':World} {V V':Value} {l:List D} {ns:List Value} (h:Aw (fun i=>S0 i/\V.ownBlock≠some i) w l ns) (hg:w.grownBy w' V.ownBlock) (ha:V'.ownBlock=V.ownBlock\/V'.ownBlock=some w.heap.size):Aw (fun i=>S0 i/\V'.ownBlock≠some i) w' l ns:=fun w'' k1 k2=>by
 refine Af.more (h w'' (Nat.le_trans hg.size k1) fun p p1 p2=> ?_) hg.size;have hn:V'.ownBlock≠some p.block:=by
  rcases ha with e|e
  . rw[e];exact p1.2
  . rw[e];intro e4;have:=Option.some.inj e4;omega
 rw[k2 p ⟨p1.1,hn⟩ (Nat.lt_of_lt_of_le p2 hg.size)];exact World.cell?_of_block (hg.block p.block p2 (fun e=>p1.2 e.symm))
theorem Ah.grow {S0:Nat->Prop} {w w':World} {V V':Value} {d:D} {cs:List Value} (h:Ah (fun i=>S0 i/\V.ownBlock≠some i) w d cs) (hg:w.grownBy w' V.ownBlock) (ha:V'.ownBlock=V.ownBlock\/V'.ownBlock=some w.heap.size):Ah (fun i=>S0 i/\V'.ownBlock≠some i) w' d cs:=fun w'' k1 k2=>by
 refine Ag.more (h w'' (Nat.le_trans hg.size k1) fun p p1 p2=> ?_) hg.size;have hn:V'.ownBlock≠some p.block:=by
  rcases ha with e|e
  . rw[e];exact p1.2
  . rw[e];intro e4;have:=Option.some.inj e4;omega
 rw[k2 p ⟨p1.1,hn⟩ (Nat.lt_of_lt_of_le p2 hg.size)];exact World.cell?_of_block (hg.block p.block p2 (fun e=>p1.2 e.symm))
theorem At.of_ins {S0:Nat->Prop} {b s n i:Nat} {e:TypeId} {w w':World} {l:List D} {d:D} {ns ys:List Value} {V V':Value} (h1:w'.ownsRow b e s V' n (ns.take (i*s)++ys++ns.drop (i*s))) (hs: ∀x ∈ l,x.cells=s) (hd:d.cells=s) (hA:Aw (fun i=>S0 i/\V.ownBlock≠some i) w l ns) (hx:Ah (fun i=>S0 i/\V.ownBlock≠some i) w d ys)
 (hg:w.grownBy w' V.ownBlock) (ha:V'.ownBlock=V.ownBlock\/V'.ownBlock=some w.heap.size) (hn:n=l.length+1):At S0 b e s w' (l.take i++ [d]++l.drop i) V':=by
 obtain⟨a1,a2⟩:=(hA.grow hg ha).split hs i;refine⟨_, ?_,fun x hx'=> ?_,(a1.app (Aw.one (hx.grow hg ha))).app a2⟩
 . rw[show(l.take i++ [d]++l.drop i).length=n from by rw[hn];simp;omega];exact h1
 . rcases List.mem_append.1 hx' with hx'|hx'
   . rcases List.mem_append.1 hx' with hx'|hx'
     . exact hs x (List.mem_of_mem_take hx')
     . rw[List.mem_singleton.1 hx'];exact hd
   . exact hs x (List.mem_of_mem_drop hx')
theorem Re {cs:Array Value} {ns ys:List Value} {m o:Nat} (hc:cs.toList.take m=ns) (hn:ns.length=m) (ho:o+ys.length<=m):(Pb cs o ys).toList.take m=ns.take o++ys++ns.drop (o+ys.length):=by
 have hm:m<=cs.size:=by
  rw[<-hc,List.length_take,Array.length_toList]at hn;omega
 refine List.ext_getElem? fun j=> ?_;have hcj: ∀j,j<m->cs[j]? =ns[j]? :=fun j hj=>by rw[<-hc,List.getElem?_take,if_pos hj,Array.getElem?_toList]
 rw[List.getElem?_take];by_cases hj:j<m
 . rw[if_pos hj,Array.getElem?_toList,Ut _ _ _ _ (by omega)];by_cases h1:j<o
   . rw[if_neg (by omega),hcj j hj,List.append_assoc,List.getElem?_append_left (by rw[List.length_take];omega),List.getElem?_take,if_pos h1]
   by_cases h2:j<o+ys.length
   . rw[if_pos ⟨by omega,h2⟩,List.append_assoc,List.getElem?_append_right (by rw[List.length_take];omega),List.length_take,Nat.min_eq_left (by omega),List.getElem?_append_left (by omega)]
   . rw[if_neg (by omega),hcj j hj,List.getElem?_append_right (by rw[List.length_append,List.length_take];omega),List.getElem?_drop,List.length_append,List.length_take,Nat.min_eq_left (by omega)]
     congr 1
     omega
 . rw[if_neg hj,List.getElem?_eq_none (by rw[List.length_append,List.length_append,List.length_take,List.length_drop];omega)]
theorem At.put {S0:Nat->Prop} {b s:Nat} {e:TypeId} {w:World} {l:List D} {d:D} {ys:List Value} {g i n c:Nat} (h:At S0 b e s w l (.slice (some ⟨g,0,none⟩) n c)) (hi:i<l.length) (hd:d.cells=s) (hx:Ah (fun i=>S0 i/\g≠i) w d ys):
 At S0 b e s (Ak w g (i*s) ys) (l.set i d) (.slice (some ⟨g,0,none⟩) n c):=by
 obtain⟨ns,h1,h2,h3⟩:=h;have hyl:ys.length=s:=hx.now.len.1.trans hd;have hnl:ns.length=l.length*s:=by rw[h3.now.len.1,Fj h2]
 have hos:i*s+s<=l.length*s:=by
  have:=Nat.mul_le_mul_right s (show i+1<=l.length by omega)
  rwa [Nat.add_mul,Nat.one_mul]at this
 have hsz:=Ca ys w g (i*s);have hf:=fun c (hc:c≠g)=>A0 ys w g (i*s) c hc;rcases h1.2 with⟨e1,_⟩|⟨g',cap,cur,e1,hbg,hg,hnc,hcm,hcs,hcx⟩
 . cases e1
 . cases e1
   have hmv: ∀w'':World,w.heap.size<=w''.heap.size->(∀p:Addr,S0 p.block/\(Value.slice (some ⟨g,0,none⟩) l.length c).ownBlock≠some p.block->p.block<w.heap.size->w''.cell? p=(Ak w g (i*s) ys).cell? p)-> ∀p:Addr,S0 p.block/\g≠p.block->p.block<w.heap.size->w''.cell? p=w.cell? p:=fun w'' k1 k2 p p1 p2=>by
    rw[k2 p ⟨p1.1,fun e=>p1.2 (Option.some.inj e)⟩ p2];exact World.cell?_of_block (hf p.block fun e=>p1.2 e.symm)
   have hA:=h3.split h2;have hval:l.set i d=l.take i++ [d]++l.drop (i+1):=by
    rw[List.set_eq_take_append_cons_drop,if_pos hi];simp
   refine⟨ns.take (i*s)++ys++ns.drop (i*s+ys.length),⟨?_,.inr ⟨g,c,Pb cur (i*s) ys,by rw[List.length_set],hbg,Ki ys hg,by rw[List.length_set];exact hnc,hcm,by rw[J2];exact hcs, ?_⟩⟩,fun x hx'=> ?_,fun w'' k1 k2=> ?_⟩
   . rw[List.length_set,List.length_append,List.length_append,List.length_take,List.length_drop];omega
   . rw[List.length_set];exact Re hcx hnl (by omega)
   . rcases List.mem_or_eq_of_mem_set hx' with hx'|rfl
     . exact h2 x hx'
     . exact hd
   . rw[hsz]at k1 k2 ⊢;have hk:=hmv w'' k1 k2;rw[hval,hyl,show i*s+s=(i+1)*s from by rw[Nat.add_mul,Nat.one_mul]];exact(((hA i).1 w'' k1 fun p p1 p2=>hk p ⟨p1.1,fun e=>p1.2 (by rw[e];rfl)⟩ p2).app (Af.one (hx w'' k1 hk))).app ((hA (i+1)).2 w'' k1 fun p p1 p2=>hk p ⟨p1.1,fun e=>p1.2 (by rw[e];rfl)⟩ p2)
end Go.Proofs.YtkmcjfkokoidcaaGreatDoor
namespace Go.Proofs.YtkmcjfkokoidcaaGreatDoor
open Go Go.RowKit Go.Lib
theorem Abv:(Tryz.prog.info? 63).map (fun i=>(i.zero,i.size,i.bytes))=some (some (.agg #[.string ⟨#[]⟩,.int .i64 0,.bool false,.int .i64 0,.string ⟨#[]⟩,.slice none 0 0,.slice none 0 0]),7,104):=by kernel_rfl
theorem Abw (b:Nat) (w:World) (V:Value) (n:Nat) (xs:List Value) (hV:w.ownsRow b 63 7 V n xs) (hb:b<=w.heap.size) (hn:n<=1000) (vb:Nat) (ys:List Value) (hl:ys.length=7) (hvs: ∀j v,ys[j]? =some v->w.cell? ⟨vb,j,none⟩=some v) (h1: ∀u ∈ ys,u.oneCell'=true):
 Calls Tryz.prog 98 #[V,.int .i64 n,.slice (some ⟨vb,0,none⟩) 1 1] w fun e w'=> ∃V',e=.returned V'/\w'.ownsRow b 63 7 V' (n+1) (xs++ys)/\w.grownBy w' V.ownBlock/\(V'.ownBlock=V.ownBlock\/V'.ownBlock=some w.heap.size):=by
 obtain⟨i0,hi0,hz0,hzs,hzb⟩:=info_parts Abv;obtain⟨V',w',hrun,k1,k2,_,k3⟩:=run_append_own_at (P:=Tryz.prog) (w:=w) b 22 22 63 i0 _ 7 104 Tryz.underlying22 hi0 hz0 hzs hzb rfl (by omega) V n xs hV ⟨vb,0,none⟩ 1 1 ys (by omega) (fun j u hj=>by rw[Bn,Nat.zero_add];exact hvs j u hj) h1 (by simp only[maxLen];omega) (by omega) hb;have hV':=hV;rcases hV'.2 with⟨rfl,rfl⟩|⟨g,cap,cur,rfl,hbg,hg,hnc,hcm,_⟩
 . have hP: ∃V2,Ending.returned V'=.returned V2/\w'.ownsRow b 63 7 V2 (0+1) (xs++ys)/\w.grownBy w' (Value.slice none 0 0).ownBlock/\(V2.ownBlock=(Value.slice none 0 0).ownBlock\/V2.ownBlock=some w.heap.size):=⟨V',rfl,k1,k2,k3⟩;have HP:=qz hP;clear hV hV' k1 k2 k3 hP hvs h1;go_enter Tryz.func98,Tryz.ntmps98;go_wp2_with (at_builtin;refine Lib.wpList_append_run _ rfl _ _ _ _ rfl _ _ rfl rfl _ _ hrun ?_);go_ret;exact HP.out
 . have hP: ∃V2,Ending.returned V'=.returned V2/\w'.ownsRow b 63 7 V2 (n+1) (xs++ys)/\w.grownBy w' (Value.slice (some ⟨g,0,none⟩) n cap).ownBlock/\(V2.ownBlock=(Value.slice (some ⟨g,0,none⟩) n cap).ownBlock\/V2.ownBlock=some w.heap.size):=⟨V',rfl,k1,k2,k3⟩;have HP:=qz hP;have hc63:cap<=9223372036854775807:=by simp only[maxLen]at hcm;omega
   clear hV hV' k1 k2 k3 hP hvs h1 hg hcm;go_enter Tryz.func98,Tryz.ntmps98;go_wp2_with (at_builtin;refine Lib.wpList_append_run _ rfl _ _ _ _ rfl _ _ rfl rfl _ _ hrun ?_)
   all_goals(go_ret;exact HP.out)
theorem Ahz (b:Nat) (w:World) (g n i:Nat) (cur:Array Value) (xs:List Value) (hb:b<=w.heap.size) (hg:w.heap[g]? =some (.cells cur 63 (0,0))) (hcs:cur.size=n*7) (hx:cur.toList.take (n*7)=xs) (hi:i<n) (hn:n<=1000) (h1x: ∀u ∈ xs,u.oneCell'=true)
 (vb:Nat) (ys:List Value) (hl:ys.length=7) (hvs: ∀j v,ys[j]? =some v->w.cell? ⟨vb,j,none⟩=some v) (h1: ∀u ∈ ys,u.oneCell'=true):
 Calls Tryz.prog 98 #[.slice (some ⟨g,0,none⟩) n n,.int .i64 i,.slice (some ⟨vb,0,none⟩) 1 1] w fun e w'=> ∃V',e=.returned V'/\w'.ownsRow b 63 7 V' (n+1) (xs.take (i*7)++ys++xs.drop (i*7))/\Below w.heap.size w w'/\V'.ownBlock=some w.heap.size:=by
 obtain⟨i0,hi0,hz0,hzs,hzb⟩:=info_parts Abv;have hxl:xs.length=n*7:=by rw[<-hx,List.length_take,Array.length_toList,hcs];omega
 have hcl:cur.toList=xs:=by rw[<-hx,List.take_of_length_le];rw[Array.length_toList,hcs];exact Nat.le_refl _
 have hgw:g<w.heap.size:=(Array.getElem?_eq_some_iff.1 hg).1;have hvw:vb<w.heap.size:=World.block_lt_of_cell? w _ (hvs 0 _ (List.getElem?_eq_getElem (by omega)));have hxc: ∀(W:World),W.heap[g]? =w.heap[g]? -> ∀j u,xs[j]? =some u->W.cell? ⟨g,j,none⟩=some u:=fun W hW j u hu=>by
  refine(cell_of_row _ _ _ _ _ _ (hW.trans hg)).trans ?_;rw[<-Array.getElem?_toList,hcl];exact hu
 have hsz:(Tryz.prog.info? 63).map (·.size)=some 7:=by rw[hi0];simp[hzs]
 have hz2: ¬((i:Int)=(n:Int)):=by omega
 have hz3:(n:Int)<(n:Int)+1:=by omega
 have hkk:(n:Int)+1 - (i:Int)=((n+1 - i:Nat):Int):=by omega
 have hik:i+(n+1 - i)=n+1:=by omega
 have hold:(Builtin.firstCells i0.size i (.slice (some ⟨g,0,none⟩) i n)).run Tryz.prog w.drew=.ok (xs.take (i*7)).toArray w.drew:=by
  rw[hzs];refine run_firstCells_some w.drew 7 i ⟨g,0,none⟩ i n (xs.take (i*7)) (by rw[List.length_take];omega) (fun j v hj=> ?_);rw[Bn,Nat.zero_add];rw[List.getElem?_take]at hj
  split at hj
  . exact hxc w.drew rfl j v hj
  . cases hj
 have hrz: ∀ty,(Builtin.append_ #[22,3] ty #[.slice (some ⟨g,0,none⟩) i n,.int .i64 ((n:Int)+1 - (i:Int))]).run Tryz.prog w=.ok (.slice (some ⟨w.heap.size,0,none⟩) (n+1) (grownCap w (n+1) n 63)) (w.drew.alloc (.cells ((xs.take (i*7)).toArray++Builtin.zeroCells (Value.cells (.agg #[.string ⟨#[]⟩,.int .i64 0,.bool false,.int .i64 0,.string ⟨#[]⟩,.slice none 0 0,.slice none 0 0])) (n+1 - i)++Builtin.zeroCells (Value.cells (.agg #[.string ⟨#[]⟩,.int .i64 0,.bool false,.int .i64 0,.string ⟨#[]⟩,.slice none 0 0,.slice none 0 0])) (grownCap w (n+1) n 63 - (n+1))) 63)):=fun ty=>by
  have h:=Lib.run_append_grow_zeros (P:=Tryz.prog) w 22 3 ty 63 i0 _ .i64 .i64 Tryz.underlying22 Tryz.underlying3 hi0 hz0 (some ⟨g,0,none⟩) i n (xs.take (i*7)) hold (n+1 - i) (by omega) (by omega) (by omega) (by omega) (by rw[hzb];omega) (by rw[hzb,hik];exact growslice_fits (by omega) (by omega));rw[hik]at h;rw[hkk];exact h
 obtain⟨G,hG⟩: ∃G,G=grownCap w (n+1) n 63:=⟨_,rfl⟩;have hGn:n+1<=G:=by rw[hG];exact grownCap_ge w _ _ _
 have hG63:G<=maxLen:=by rw[hG];exact grownCap_le_maxLen w (n+1) n 63 (by unfold maxLen;omega)
 have hGm:G<=9223372036854775807:=by simp only[maxLen]at hG63;omega
 rw[<-hG]at hrz;obtain⟨MM,hMM⟩: ∃MM:List Value,(Builtin.zeroCells (Value.cells (.agg #[.string ⟨#[]⟩,.int .i64 0,.bool false,.int .i64 0,.string ⟨#[]⟩,.slice none 0 0,.slice none 0 0])) (n+1 - i)).toList=MM:=⟨_,rfl⟩;obtain⟨ZZ,hZZ⟩: ∃ZZ:List Value,(Builtin.zeroCells (Value.cells (.agg #[.string ⟨#[]⟩,.int .i64 0,.bool false,.int .i64 0,.string ⟨#[]⟩,.slice none 0 0,.slice none 0 0])) (G - (n+1))).toList=ZZ:=⟨_,rfl⟩;have hMl:MM.length=(n+1 - i)*7:=by rw[<-hMM];simp[Builtin.zeroCells,Value.cells];try omega
 have hZl:ZZ.length=(G - (n+1))*7:=by rw[<-hZZ];simp[Builtin.zeroCells,Value.cells];try omega
 have hROW:(xs.take (i*7)).toArray++Builtin.zeroCells (Value.cells (.agg #[.string ⟨#[]⟩,.int .i64 0,.bool false,.int .i64 0,.string ⟨#[]⟩,.slice none 0 0,.slice none 0 0])) (n+1 - i)++Builtin.zeroCells (Value.cells (.agg #[.string ⟨#[]⟩,.int .i64 0,.bool false,.int .i64 0,.string ⟨#[]⟩,.slice none 0 0,.slice none 0 0])) (G - (n+1))=(xs.take (i*7)++MM++ZZ).toArray:=by
  apply Array.ext';simp[<-hMM,<-hZZ]
 rw[hROW]at hrz;obtain⟨R0,hR0⟩: ∃R:List Value,xs.take (i*7)++MM++ZZ=R:=⟨_,rfl⟩;rw[hR0]at hrz;have hRl:R0.length=G*7:=by
  rw[<-hR0,List.length_append,List.length_append,List.length_take,hMl,hZl,hxl];omega
 obtain⟨R1,hR1⟩: ∃R:List Value,R0.take (i*7)++ys++R0.drop (i*7+ys.length)=R:=⟨_,rfl⟩;obtain⟨R2,hR2⟩: ∃R:List Value,R1.take ((i+1)*7)++xs.drop (i*7)++R1.drop ((i+1)*7+(xs.drop (i*7)).length)=R:=⟨_,rfl⟩;have hR1l:R1.length=G*7:=by
  rw[<-hR1,List.length_append,List.length_append,List.length_take,List.length_drop,hRl,hl];omega
 have hRes:R2=xs.take (i*7)++ys++xs.drop (i*7)++ZZ:=by
  rw[<-hR2,<-hR1,<-hR0];exact U0 _ _ _ ys (xs.drop (i*7)) (i*7) ((i+1)*7) (by rw[List.length_take,hxl];omega) (by rw[hMl,hl,List.length_drop,hxl];omega) (by rw[hl];omega)
 have hR2l:R2.length=G*7:=by
  rw[<-hR2,List.length_append,List.length_append,List.length_take,List.length_drop,List.length_drop,hR1l,hxl];omega
 have hcA: ∀(W:World),W.heap[w.heap.size]? =some (.cells R0.toArray 63 (0,0))->(∀j,j<w.heap.size->W.heap[j]? =w.heap[j]?)-> ∀ty o dl dc,o=i*7->dl=n+1 - i->(Builtin.copy_ #[22,22] ty #[.slice (some ⟨w.heap.size,o,none⟩) dl dc,.slice (some ⟨vb,0,none⟩) 1 1]).run Tryz.prog W=.ok (goInt 1) (W.setRow w.heap.size R1.toArray):=fun W hW hk ty o dl dc ho hd=>by
  subst ho hd;have hmin:Nat.min 1 (n+1 - i)=1:=by show min 1 (n+1 - i)=1;omega
  have:=Fc (P:=Tryz.prog) W 22 22 ty 63 7 w.heap.size (i*7) (n+1 - i) dc ⟨vb,0,none⟩ 1 1 R0.toArray 63 ys Tryz.underlying22 hsz hW (by rw[hl,hmin]) (fun j v hj=>by rw[Bn,Nat.zero_add];exact(World.cell?_of_block (hk vb hvw)).trans (hvs j v hj)) (by rw[hl];simp only[List.size_toArray,hRl];omega) h1;rw[hmin]at this;refine this.trans ?_;rw[<-hR1];rfl
 have hcB: ∀(W:World),W.heap[w.heap.size]? =some (.cells R1.toArray 63 (0,0))->(∀j,j<w.heap.size->W.heap[j]? =w.heap[j]?)-> ∀ty o so dl dc sl sc,o=(i+1)*7->so=i*7->dl=n - i->sl=n - i->(Builtin.copy_ #[22,22] ty #[.slice (some ⟨w.heap.size,o,none⟩) dl dc,.slice (some ⟨g,so,none⟩) sl sc]).run Tryz.prog W=.ok (goInt (n - i:Nat)) (W.setRow w.heap.size R2.toArray):=fun W hW hk ty o so dl dc sl sc ho hso hd hs=>by
  subst ho hso hd hs;have hmin:Nat.min (n - i) (n - i)=n - i:=Nat.min_self _;have:=Fc (P:=Tryz.prog) W 22 22 ty 63 7 w.heap.size ((i+1)*7) (n - i) dc ⟨g,i*7,none⟩ (n - i) sc R1.toArray 63 (xs.drop (i*7)) Tryz.underlying22 hsz hW (by rw[List.length_drop,hxl,hmin];omega) (fun j v hj=>by rw[Bn];exact hxc W (hk g hgw) _ v (by rwa [List.getElem?_drop]at hj)) (by rw[List.length_drop,hxl];simp only[List.size_toArray,hR1l];omega) (fun v hv=>h1x v (List.mem_of_mem_drop hv));rw[hmin]at this;refine this.trans ?_;rw[<-hR2]
 have hP: ∀W:World,Below w.heap.size w W->W.heap[w.heap.size]? =some (.cells R2.toArray 63 (0,0))-> ∃V',Ending.returned (.slice (some ⟨w.heap.size,0,none⟩) (n+1) G)=.returned V'/\W.ownsRow b 63 7 V' (n+1) (xs.take (i*7)++ys++xs.drop (i*7))/\Below w.heap.size w W/\V'.ownBlock=some w.heap.size:=fun W hB hW=>
  ⟨_,rfl,Pc hb hW hGn hG63 (by simpa using hR2l) (by
    show List.take _ R2=_;rw[hRes,List.take_left'];rw[List.length_append,List.length_append,List.length_take,List.length_drop,hxl,hl];omega),hB,rfl⟩
 have hGi: ¬(G=i):=by omega
 have hGim: ¬(G=i+1):=by omega
 have hci: ¬(n=i):=by omega
 have hw1:IntKind.i64.wrap ((i:Int)+1)=(i:Int)+1:=by rw[IntKind.wrap_i64];omega
 have hb1:(0:Int)<=(i:Int)+1:=by omega
 have hin:i<=n:=by omega
 have htn:((i:Int)+1).toNat=i+1:=by omega
 have hb3:(i:Int)<=(n:Int):=by omega
 obtain⟨W0,hW0⟩: ∃W:World,(w.alloc (.cells R0.toArray 63)).drew=W:=⟨_,rfl⟩;have hB0:Below w.heap.size w W0:=hW0▸Below.drew ((Below.refl _ _).alloc (Nat.le_refl _) _);have hR0h:W0.heap[w.heap.size]? =some (.cells R0.toArray 63 (0,0)):=hW0▸heap_alloc_new w _;have hcA1:=fun ty dc=>hcA W0 hR0h (fun j hj=>hB0.block j hj) ty _ _ dc rfl rfl;obtain⟨W1,hW1⟩: ∃W:World,W0.setRow w.heap.size R1.toArray=W:=⟨_,rfl⟩;rw[hW1]at hcA1;have hB1:Below w.heap.size w W1.drew:=hW1▸Below.drew (Nu hB0 (Nat.le_refl _) _);have hR1h:W1.drew.heap[w.heap.size]? =some (.cells R1.toArray 63 (0,0)):=hW1▸setRow_heap W0 _ _ _ _ _ hR0h;have hcB1:=fun ty dc sc=>hcB W1.drew hR1h (fun j hj=>hB1.block j hj) ty _ _ _ dc _ sc rfl rfl rfl rfl;have HPf:=qz (hP (W1.drew.setRow w.heap.size R2.toArray) (Nu hB1 (Nat.le_refl _) _) (setRow_heap W1.drew _ _ _ _ _ hR1h));skip;clear hcA hcB hP hold hRes hR2 hR1 hR0 hROW hMM hZZ hMl hZl hxc hcl hx hg hvs h1 h1x hi0 hz0 hzs hzb hRl hR1l hR2l hG hsz hkk hik hxl hcs hG63 hB0 hR0h hB1 hR1h hW1;go_enter Tryz.func98,Tryz.ntmps98;go_wp2_with (at_builtin;refine Lib.wpList_append_run _ rfl _ _ _ _ rfl _ _ rfl rfl _ _ (hrz _) ?_);refine wp_region_held_drew (S:=fun _=>True) (by kernel_rfl) trivial (fun hHeld=> ?_);refine tkH 0 hHeld ?_;refine tkH 1 hHeld ?_;refine tkH 2 hHeld ?_;refine tkH 3 hHeld ?_;refine tkH 4 hHeld ?_;refine tkH 5 hHeld ?_;refine tkH 6 hHeld ?_;refine tkH 7 hHeld ?_;refine Ee 8 fun K hK=> ?_;go_simp;refine hK.out _ _ trivial (fun hHeld=> ?_);clear hK K;refine wpAnyH_done (by kernel_rfl) ?_ _;clear hHeld;go_wp2;go_ret;exact HPf.out
end Go.Proofs.YtkmcjfkokoidcaaGreatDoor
namespace Go.Proofs.YtkmcjfkokoidcaaGreatDoor
open Go.RowKit
attribute [local go_sem] Oper.semAt_some
theorem Ac2 (s:ByteArray) (b:Nat) (hs:s.size<=1000000000):
 Af6 Tryz.prog 282 #[.pointer (some ⟨b,0,none⟩)] (fun x:Nat×Nat=> #[.int .i64 x.1,.int .i32 x.2]) (Bw s) (fun A=>A.cell? ⟨b,0,none⟩=some (.string s)/\Cm A):=by
 intro n l J Jx W hJn hJx hJb hY h0;refine callsIn_of_wp Tryz.func282 rfl trivial ?_ rfl;simp only[Tryz.ntmps282,List.size_toArray,List.length_cons,List.length_nil,Nat.reduceAdd,Nat.reduceSub,Array.replicate_succ,Array.replicate_zero,List.push_toArray,List.append_toArray,List.nil_append,List.cons_append]
 gi_wp2
 gi_loopw [3] (fun i wr=> ∃(pre:List (Nat×Nat)) (f k:Nat),i=.int .i64 k/\k<=s.size/\s.size - k<=f/\Hid (Bw s=pre++Ax f (s.data.toList.drop k) k)/\J pre wr) (fun i _=>s.size - (intOf i).toNat)
 case atStart=>exact⟨[],s.size,0,rfl,Nat.zero_le _,by omega,rfl,h0⟩
 case round=>
  obtain⟨pre,f,k,rfl,hk,hf,hr,hJ⟩:=hrel;have hcr:wr.cell? ⟨b,0,none⟩=some (.string s):=(hJb _ _ hJ).1;have hTr:Cm wr:=(hJb _ _ hJ).2;by_cases hlt:k<s.size
  . have hne:s.data.toList.drop k≠ []:=by
     intro e;have:=congrArg List.length e;rw[List.length_drop,<-Lib.size_eq]at this;simp at this;omega
    obtain⟨f,rfl⟩: ∃f',f=f'+1:=⟨f - 1,by omega⟩;have cD:=Tryz.utf8_DecodeRuneInString (s.extract k s.size) wr hTr.2.1;have hdc:Lib.decodeGo (s.extract k s.size)=Lib.decodeL (s.data.toList.drop k):=Rr s k hlt;have hw1:=Lib.decodeL_width (s.data.toList.drop k);have hw2:=Lib.decodeL_le _ hne;have hw3:=Lib.decodeL_rune (s.data.toList.drop k);rw[List.length_drop,<-Lib.size_eq]at hw2;have hr':=hr.out;simp only[Ax]at hr';rw[if_neg hne,List.drop_drop]at hr';rw[hdc]at cD;generalize Lib.decodeL (s.data.toList.drop k)=D at cD hw1 hw2 hw3 hr';obtain⟨r,z⟩:=D;simp only at cD hw1 hw2 hw3 hr';have CD:=qz cD;clear cD hdc hne hr;by_cases hbad:r=65533/\z=1
    . rw[if_pos hbad,List.append_nil]at hr';have Hr:=qz hr';obtain⟨hr1,hz1⟩:=hbad;have e1:((r:Int)==65533)=true:=by simp;omega
      have e2:((z:Int)==1)=true:=by simp;omega
      clear hr' hr1 hz1
      gi_wp2_with (refine⟨trivial, ?_⟩;gi_at_call 283;refine(callsIn_wide.2 CD.out).mono ?_;rintro e w2 ⟨rfl,hb2⟩;have hJ2:=hJn _ _ _ hJ hb2)
      refine bodyPost_ret (results_none rfl _ _ _) rfl ?_;exact⟨⟨_,rfl⟩,.inl (by rw[Hr.out];exact hJ2)⟩
    . rw[if_neg hbad]at hr';have Hr:=qz hr';have Hr2:Hid (Bw s=(pre++ [(k,r)])++Ax f (s.data.toList.drop (k+z)) (k+z)):=by
       show Bw s=_;rw[hr'];simp
      clear hr';rcases(by omega:r≠65533\/(r=65533/\z≠1))with h1|⟨h1,h2⟩
      . have e1:((r:Int)==65533)=false:=by simp;omega
        clear h1 hbad
        gi_wp2_with (refine⟨trivial, ?_⟩;gi_at_call 283;refine(callsIn_wide.2 CD.out).mono ?_;rintro e w2 ⟨rfl,hb2⟩;obtain⟨fn,tmps,assign,body,hy,hR⟩:=hY pre (k,r) _ w2 Hr.out (hJn _ _ _ hJ hb2);dsimp only at hy)
        refine hR.mono ?_;rintro e W3 (⟨rfl,hJ3⟩|⟨rfl,hJ3⟩);rotate_left
        . clear hy hR
          gi_wp2
          refine bodyPost_ret (results_none rfl _ _ _) rfl ?_;exact⟨⟨_,rfl⟩,.inr hJ3⟩
        clear hy hR
        gi_wp2
        go_roundw
        case rel=>exact⟨pre++ [(k,r)],f,k+z,by go_num,by omega,by omega,Hr2,hJ3⟩
        case measure=>simp[intOf];omega
      . have e1:((r:Int)==65533)=true:=by simp;omega
        have e2:((z:Int)==1)=false:=by simp;omega
        clear h1 h2 hbad
        gi_wp2_with (refine⟨trivial, ?_⟩;gi_at_call 283;refine(callsIn_wide.2 CD.out).mono ?_;rintro e w2 ⟨rfl,hb2⟩;obtain⟨fn,tmps,assign,body,hy,hR⟩:=hY pre (k,r) _ w2 Hr.out (hJn _ _ _ hJ hb2);dsimp only at hy)
        refine hR.mono ?_;rintro e W3 (⟨rfl,hJ3⟩|⟨rfl,hJ3⟩);rotate_left
        . clear hy hR
          gi_wp2
          refine bodyPost_ret (results_none rfl _ _ _) rfl ?_;exact⟨⟨_,rfl⟩,.inr hJ3⟩
        clear hy hR
        gi_wp2
        go_roundw
        case rel=>exact⟨pre++ [(k,r)],f,k+z,by go_num,by omega,by omega,Hr2,hJ3⟩
        case measure=>simp[intOf];omega
  . obtain rfl:k=s.size:=by omega
    have hr':=hr.out;rw[List.drop_eq_nil_of_le (by rw[<-Lib.size_eq];omega)]at hr';have hz:Ax f [] s.size= []:=by cases f<;>simp[Ax]
    rw[hz,List.append_nil]at hr';have Hr:=qz hr';clear hr hr'
    gi_wp2
    go_end0
    exact⟨⟨_,rfl⟩,.inl (by rw[Hr.out];exact hJ)⟩
end Go.Proofs.YtkmcjfkokoidcaaGreatDoor
