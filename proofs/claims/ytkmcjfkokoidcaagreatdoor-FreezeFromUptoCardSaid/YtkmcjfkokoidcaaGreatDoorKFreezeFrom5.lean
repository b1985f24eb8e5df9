/- Parts: commonplaceref02.Compare of objects, and of every value: 0 just where they have the same order. Printed by mksam.py. Condition: a bulk of at most 10^8. -/
import Derived.StillTailTactics
import Derived.Test.YtkmcjfkokoidcaaGreatDoorKFreezeFrom4
set_option maxHeartbeats 20000000
set_option maxRecDepth 100000
namespace Go.Proofs.YtkmcjfkokoidcaaGreatDoor
open Go.RowKit
theorem Alt (b b':Bool) (n n':Int) (t t':ByteArray) (l l':List Val) (on on':Nat) (la oa la' oa':Option Addr) (lc oc lc' oc':Nat) (w:World) (IH: ∀v ∈ l,Ajk v) (p:Prop) (hp:Lc l l'=true ↔ p)
 (hl:l= []\/ ∃g off,la=some ⟨g,off,none⟩/\g<w.heap.size/\Ao w w.heap.size l g off) (hl':l'= []\/ ∃g off,la'=some ⟨g,off,none⟩/\g<w.heap.size/\Ao w w.heap.size l' g off)
 (hb:Bf l<=100000000) (hb':Bf l'<=100000000):
 Calls Tryz.prog 50 #[.agg #[.int .i64 5,.bool b,.int .i64 n,.string t,.slice la l.length lc,.slice oa on oc],.agg #[.int .i64 5,.bool b',.int .i64 n',.string t',.slice la' l'.length lc',.slice oa' on' oc']] w (Az p w):=by
 have hln:=Dt l;have hln':=Dt l';obtain⟨HI,Hp⟩:=hid2 IH hp;have H0:Hid (∀j x y,j<0->l[j]? =some x->l'[j]? =some y->Dj x y=true):=fun _ _ _ e=>absurd e (Nat.not_lt_zero _);clear IH hp;obtain⟨w2,hw2⟩: ∃w2,(w.alloc (Ag9 5 b n t (.slice la l.length lc) (.slice oa on oc))).alloc (Ag9 5 b' n' t' (.slice la' l'.length lc') (.slice oa' on' oc'))=w2:=⟨_,rfl⟩;have HBW:=qz (show Below w.heap.size w w2 from by rw[<-hw2];exact B6 _ _ _);have hx1:w2.heap[w.heap.size]? =some (.cells #[.int .i64 5,.bool b,.int .i64 n,.string t,.slice la l.length lc,.slice oa on oc] 37 (0,0)):=by
  rw[<-hw2,Lib.alloc_old _ _ _ (by simp)];exact heap_alloc_new _ _
 have hx2:w2.heap[w.heap.size+1]? =some (.cells #[.int .i64 5,.bool b',.int .i64 n',.string t',.slice la' l'.length lc',.slice oa' on' oc'] 37 (0,0)):=by
  rw[<-hw2];have:=heap_alloc_new (w.alloc (Ag9 5 b n t (.slice la l.length lc) (.slice oa on oc))) (.cells #[.int .i64 5,.bool b',.int .i64 n',.string t',.slice la' l'.length lc',.slice oa' on' oc'] 37);simpa using this
 obtain⟨HX1,HX2⟩:=hid2 hx1 hx2;clear hx1 hx2;subst hw2;go_enter Tryz.func50,Tryz.ntmps50;go_wp2_with (fail);go_loopw [5] (fun i wr=> ∃k:Nat,i=.int .i64 k/\k<=l.length/\k<=l'.length/\Hid (∀j x y,j<k->l[j]? =some x->l'[j]? =some y->Dj x y=true)/\Hid (Below w.heap.size w wr)/\
  Hid (wr.heap[w.heap.size]? =some (.cells #[.int .i64 5,.bool b,.int .i64 n,.string t,.slice la l.length lc,.slice oa on oc] 37 (0,0)))/\
  Hid (wr.heap[w.heap.size+1]? =some (.cells #[.int .i64 5,.bool b',.int .i64 n',.string t',.slice la' l'.length lc',.slice oa' on' oc'] 37 (0,0)))) (fun i _=>l.length - (intOf i).toNat)
 case atStart=>exact⟨0,rfl,Nat.zero_le _,Nat.zero_le _,H0,HBW,HX1,HX2⟩
 case round=>
  obtain⟨k,rfl,hk,hk',ht,hbw,hx1,hx2⟩:=hrel;clear H0 HBW HX1 HX2;have b1:wr.cell? ⟨w.heap.size,4,none⟩=some (.slice la l.length lc):=by rw[Lib.cell_of_heap hx1.out];rfl
  have b2:wr.cell? ⟨w.heap.size+1,4,none⟩=some (.slice la' l'.length lc'):=by rw[Lib.cell_of_heap hx2.out];rfl
  have z2:w.heap.size+1<wr.heap.size:=(Array.getElem?_eq_some_iff.1 hx2.out).1;by_cases hlt:k<l.length
  . by_cases hlt2:k<l'.length
    . obtain⟨g,off,rfl,hg,hL⟩: ∃g off,la=some ⟨g,off,none⟩/\g<w.heap.size/\Ao w w.heap.size l g off:=by
       rcases hl with rfl|h
       . simp at hlt
       . exact h
      obtain⟨g',off',rfl,hg',hL'⟩: ∃g off,la'=some ⟨g,off,none⟩/\g<w.heap.size/\Ao w w.heap.size l' g off:=by
       rcases hl' with rfl|h
       . simp at hlt2
       . exact h
      obtain⟨x,hx⟩: ∃v,l[k]? =some v:=⟨_,List.getElem?_eq_getElem hlt⟩;obtain⟨y,hy⟩: ∃v,l'[k]? =some v:=⟨_,List.getElem?_eq_getElem hlt2⟩;have hxm:=List.mem_of_getElem? hx;have hym:=List.mem_of_getElem? hy;have hxb:=D9 hxm;have hyb:=D9 hym;have IHx:=HI.out x hxm;have hxy:Dj x y=true->(∀j x y,j<k+1->l[j]? =some x->l'[j]? =some y->Dj x y=true):=by
       intro e j x' y' hj h1 h2;rcases Nat.lt_succ_iff_lt_or_eq.1 hj with hj|rfl
       . exact ht.out j x' y' hj h1 h2
       . rw[hx]at h1;rw[hy]at h2;rw[<-Option.some.inj h1,<-Option.some.inj h2];exact e
      have Hxn:Hid (¬Dj x y=true-> ¬Lc l l'=true):=fun e h=>e ((Jh.1 h).2 k x y hx hy);have Hxy:=qz hxy;have hz:=hbw.out.size;obtain⟨k1,b1',n1,t1,l1,o1⟩:=x;obtain⟨k2,b2',n2,t2,l2,o2⟩:=y;obtain⟨la1,lc1,oa1,oc1,hv1,c0,c1,c2,c3,c4,c5⟩:=(hL.below hg hbw.out).six hx;obtain⟨la2,lc2,oa2,oc2,hv2,e0,e1,e2,e3,e4,e5⟩:=(hL'.below hg' hbw.out).six hy;have hbd:=Below.drew hbw.out;have CC:=IHx _ _ _ wr.drew (Ac.more hz _ _ (hv1.below (Below.drew (Below.refl _ _)))) (Ac.more hz _ _ (hv2.below (Below.drew (Below.refl _ _)))) (by omega) (by omega);obtain⟨Q,hQ⟩: ∃Q:Prop,(Dj (Val.mk k1 b1' n1 t1 l1 o1) (Val.mk k2 b2' n2 t2 l2 o2)=true)=Q:=⟨_,rfl⟩;rw[hQ]at CC Hxy;have Hxn':Hid (¬Q-> ¬Lc l l'=true):=by rw[<-hQ];exact Hxn
      have HC:=qz CC;clear CC hQ Hxn hxy IHx hxb hyb hxm hym hv1 hv2 hx hy hL hL' hbd hg hg' ht;go_wp2_with (fail)
      go_region_with (go_at_call 50;refine(HC.out).mono ?_;rintro e w4 ⟨c,rfl,hc,hb4⟩)
      all_goals
       have Hc:=qz hc;have hb4':Below wr.heap.size wr w4:=(Below.drew (Below.refl _ _)).trans hb4;have hbw4:=qz (hbw.out.trans (hb4'.mono hz));have hx1':=qz ((hb4'.block _ (by omega)).trans hx1.out);have hx2':=qz ((hb4'.block _ z2).trans hx2.out);clear hc hb4 hb4' hbw hx1 hx2 HC c0 c1 c2 c3 c4 c5 e0 e1 e2 e3 e4 e5 b1 b2;by_cases hc0:c=0
       . have Hn:=qz (Hxy.out (Hc.out.1 hc0));subst hc0;clear Hc;go_wp2;go_roundw
         case rel=>exact⟨k+1,by go_num,by omega,by omega,Hn,hbw4,hx1',hx2'⟩
         case measure=>simp only[intOf];omega
       . have hne:=Hxn'.out (fun e=>hc0 (Hc.out.2 e));have f1:(c==0)=false:=by simpa using hc0
         have f2:(c != 0)=true:=by simpa using hc0
         have Hf:Hid (c=0 ↔ p):=⟨fun e=>absurd e hc0,fun e=>absurd (Hp.out.2 e) hne⟩;clear Hc hne hc0;go_wp2;go_ret;exact Az.of Hf.out hbw4.out
    . have hk2:k=l'.length:=by omega
      subst hk2;have hne: ¬Lc l l'=true:=fun h=>by have:=(Jh.1 h).1;omega
      obtain⟨C,hC⟩: ∃C,Iq (l.length:Int) (l'.length:Int)=C:=⟨_,rfl⟩;have cN:=fun w=>Fz (l.length:Int) (l'.length:Int) w;rw[hC]at cN;have HN:=qz cN;have hcz:C≠0:=by rw[<-hC,Ne,Dn];omega
      have Hf:Hid (C=0 ↔ p):=⟨fun e=>absurd e hcz,fun e=>absurd (Hp.out.2 e) hne⟩;clear cN hC hcz hne ht hl hl';go_wp2_with (fail);(with_reducible refine(HN.out _).mono ?_);rintro e w' ⟨rfl,rfl⟩;go_wp2;go_ret;exact Az.of Hf.out hbw.out
  . have hk2:k=l.length:=by omega
    subst hk2;obtain⟨C,hC⟩: ∃C,Iq (l.length:Int) (l'.length:Int)=C:=⟨_,rfl⟩;have cN:=fun w=>Fz (l.length:Int) (l'.length:Int) w;rw[hC]at cN;have HN:=qz cN;have Hf:Hid (C=0 ↔ p):=by
     show _ ↔ _;rw[<-hC,Dn,<-Hp.out];constructor
     . intro h;exact Jh.2 ⟨by omega,fun j x y h1 h2=>ht.out j x y (List.getElem?_eq_some_iff.1 h1).1 h1 h2⟩
     . intro h;have:=(Jh.1 h).1;omega
    clear cN hC ht hl hl';go_wp2_with (fail);(with_reducible refine(HN.out _).mono ?_);rintro e w' ⟨rfl,rfl⟩;go_wp2;go_ret;exact Az.of Hf.out hbw.out
theorem Anb (b b':Bool) (n n':Int) (t t':ByteArray) (l l':List (ByteArray×Val)) (ln ln':Nat) (la oa la' oa':Option Addr) (lc oc lc' oc':Nat) (w:World) (IH: ∀m ∈ l,Ajk m.2) (p:Prop) (hp:Km l l'=true ↔ p)
 (hl:l= []\/ ∃g off,oa=some ⟨g,off,none⟩/\g<w.heap.size/\Ap w w.heap.size l g off) (hl':l'= []\/ ∃g off,oa'=some ⟨g,off,none⟩/\g<w.heap.size/\Ap w w.heap.size l' g off)
 (hb:Ab l<=100000000) (hb':Ab l'<=100000000):
 Calls Tryz.prog 50 #[.agg #[.int .i64 6,.bool b,.int .i64 n,.string t,.slice la ln lc,.slice oa l.length oc],.agg #[.int .i64 6,.bool b',.int .i64 n',.string t',.slice la' ln' lc',.slice oa' l'.length oc']] w (Az p w):=by
 have hln:=Bc l;have hln':=Bc l';obtain⟨HI,Hp⟩:=hid2 IH hp;have H0:Hid (∀j x y,j<0->l[j]? =some x->l'[j]? =some y->Nm x y=true):=fun _ _ _ e=>absurd e (Nat.not_lt_zero _);clear IH hp;obtain⟨w2,hw2⟩: ∃w2,(w.alloc (Ag9 6 b n t (.slice la ln lc) (.slice oa l.length oc))).alloc (Ag9 6 b' n' t' (.slice la' ln' lc') (.slice oa' l'.length oc'))=w2:=⟨_,rfl⟩;have HBW:=qz (show Below w.heap.size w w2 from by rw[<-hw2];exact B6 _ _ _);have hx1:w2.heap[w.heap.size]? =some (.cells #[.int .i64 6,.bool b,.int .i64 n,.string t,.slice la ln lc,.slice oa l.length oc] 37 (0,0)):=by
  rw[<-hw2,Lib.alloc_old _ _ _ (by simp)];exact heap_alloc_new _ _
 have hx2:w2.heap[w.heap.size+1]? =some (.cells #[.int .i64 6,.bool b',.int .i64 n',.string t',.slice la' ln' lc',.slice oa' l'.length oc'] 37 (0,0)):=by
  rw[<-hw2];have:=heap_alloc_new (w.alloc (Ag9 6 b n t (.slice la ln lc) (.slice oa l.length oc))) (.cells #[.int .i64 6,.bool b',.int .i64 n',.string t',.slice la' ln' lc',.slice oa' l'.length oc'] 37);simpa using this
 obtain⟨HX1,HX2⟩:=hid2 hx1 hx2;clear hx1 hx2;subst hw2;go_enter Tryz.func50,Tryz.ntmps50;go_wp2_with (fail);go_loopw [7] (fun i wr=> ∃k:Nat,i=.int .i64 k/\k<=l.length/\k<=l'.length/\Hid (∀j x y,j<k->l[j]? =some x->l'[j]? =some y->Nm x y=true)/\Hid (Below w.heap.size w wr)/\
  Hid (wr.heap[w.heap.size]? =some (.cells #[.int .i64 6,.bool b,.int .i64 n,.string t,.slice la ln lc,.slice oa l.length oc] 37 (0,0)))/\
  Hid (wr.heap[w.heap.size+1]? =some (.cells #[.int .i64 6,.bool b',.int .i64 n',.string t',.slice la' ln' lc',.slice oa' l'.length oc'] 37 (0,0)))) (fun i _=>l.length - (intOf i).toNat)
 case atStart=>exact⟨0,rfl,Nat.zero_le _,Nat.zero_le _,H0,HBW,HX1,HX2⟩
 case round=>
  obtain⟨k,rfl,hk,hk',ht,hbw,hx1,hx2⟩:=hrel;clear H0 HBW HX1 HX2;have b1:wr.cell? ⟨w.heap.size,5,none⟩=some (.slice oa l.length oc):=by rw[Lib.cell_of_heap hx1.out];rfl
  have b2:wr.cell? ⟨w.heap.size+1,5,none⟩=some (.slice oa' l'.length oc'):=by rw[Lib.cell_of_heap hx2.out];rfl
  have z2:w.heap.size+1<wr.heap.size:=(Array.getElem?_eq_some_iff.1 hx2.out).1;by_cases hlt:k<l.length
  . by_cases hlt2:k<l'.length
    . obtain⟨g,off,rfl,hg,hL⟩: ∃g off,oa=some ⟨g,off,none⟩/\g<w.heap.size/\Ap w w.heap.size l g off:=by
       rcases hl with rfl|h
       . simp at hlt
       . exact h
      obtain⟨g',off',rfl,hg',hL'⟩: ∃g off,oa'=some ⟨g,off,none⟩/\g<w.heap.size/\Ap w w.heap.size l' g off:=by
       rcases hl' with rfl|h
       . simp at hlt2
       . exact h
      obtain⟨⟨key,x⟩,hx⟩: ∃v,l[k]? =some v:=⟨_,List.getElem?_eq_getElem hlt⟩;obtain⟨⟨key',y⟩,hy⟩: ∃v,l'[k]? =some v:=⟨_,List.getElem?_eq_getElem hlt2⟩;have hxm:=List.mem_of_getElem? hx;have hym:=List.mem_of_getElem? hy;have hxb:=Bz hxm;have hyb:=Bz hym;simp only at hxb hyb;have IHx:=HI.out _ hxm;simp only at IHx;have hxy:key=key'->Dj x y=true->(∀j x y,j<k+1->l[j]? =some x->l'[j]? =some y->Nm x y=true):=by
       intro e e' j x' y' hj h1 h2;rcases Nat.lt_succ_iff_lt_or_eq.1 hj with hj|rfl
       . exact ht.out j x' y' hj h1 h2
       . rw[hx]at h1;rw[hy]at h2;rw[<-Option.some.inj h1,<-Option.some.inj h2];simp[Nm,e,e']
      have hkn:key≠key'-> ¬Km l l'=true:=fun e h=>by
       have:=(G6.1 h).2 k _ _ hx hy;simp only[Nm,Bool.and_eq_true,decide_eq_true_eq]at this;exact e this.1
      have hxn: ¬Dj x y=true-> ¬Km l l'=true:=fun e h=>by
       have:=(G6.1 h).2 k _ _ hx hy;simp only[Nm,Bool.and_eq_true,decide_eq_true_eq]at this;exact e this.2
      obtain⟨Hkn,Hxn⟩:=hid2 hkn hxn;have hz:=hbw.out.size;have c0:=((hL.below hg hbw.out).at_ hx).1;have e0:=((hL'.below hg' hbw.out).at_ hy).1;simp only at c0 e0;have HT:=qz (Si key key' wr.drew (by omega) (by omega));have HL:Hid (∀w',Below w.heap.size w w'->Ap w' w.heap.size l g off):=fun w' h=>hL.below hg h;have HL':Hid (∀w',Below w.heap.size w w'->Ap w' w.heap.size l' g' off'):=fun w' h=>hL'.below hg' h;obtain⟨Hx,Hy⟩:=hid2 hx hy;obtain⟨Q,hQ⟩: ∃Q:Prop,(Dj x y=true)=Q:=⟨_,rfl⟩;have CC: ∀(w':World) (ca cb:List Value),Ac w' w'.heap.size x ca->Ac w' w'.heap.size y cb->Calls Tryz.prog 50 #[.agg ca.toArray,.agg cb.toArray] w' (Az Q w'):=by
       intro w' ca cb h1 h2;rw[<-hQ];exact IHx y ca cb w' h1 h2 (by omega) (by omega)
      rw[hQ]at hxy;have Hxy:=qz hxy;have Hxn':Hid (¬Q-> ¬Km l l'=true):=by rw[<-hQ];exact Hxn
      have HC:=qz CC;clear CC hQ hxy hkn hxn Hxn IHx hxb hyb hxm hym hx hy hL hL' hg hg' ht;go_wp2_with (fail)
      go_still_tail 12,(by kernel_rfl)
      change wpList _ _ _ _ _ wr.drew;go_wp2_with (fail);(with_reducible refine(HT.out).mono ?_);rintro e w4 ⟨c,rfl,hc,hb4⟩
      all_goals
       have Hc:=qz hc;have hb4':Below wr.heap.size wr w4:=(Below.drew (Below.refl _ _)).trans hb4;have hbw4:=qz (hbw.out.trans (hb4'.mono hz));have hx1':=qz ((hb4'.block _ (by omega)).trans hx1.out);have hx2':=qz ((hb4'.block _ z2).trans hx2.out);have hz4:w.heap.size<=w4.heap.size:=hbw4.out.size;have z4:w.heap.size+1<w4.heap.size:=(Array.getElem?_eq_some_iff.1 hx2'.out).1;clear hc hb4 hb4' hbw hx1 hx2 HT c0 e0 b1 b2;by_cases hc0:c=0
       . have hkk:=qz (Hc.out.1 hc0);subst hc0;clear Hc;have b1:w4.cell? ⟨w.heap.size,5,none⟩=some (.slice (some ⟨g,off,none⟩) l.length oc):=by rw[Lib.cell_of_heap hx1'.out];rfl
         have b2:w4.cell? ⟨w.heap.size+1,5,none⟩=some (.slice (some ⟨g',off',none⟩) l'.length oc'):=by rw[Lib.cell_of_heap hx2'.out];rfl
         obtain⟨k1,b1',n1,t1,l1,o1⟩:=x;obtain⟨k2,b2',n2,t2,l2,o2⟩:=y;obtain⟨la1,lc1,oa1,oc1,hv1,_,c1,c2,c3,c4,c5,c6⟩:=(HL.out _ hbw4.out).seven Hx.out;obtain⟨la2,lc2,oa2,oc2,hv2,_,e1,e2,e3,e4,e5,e6⟩:=(HL'.out _ hbw4.out).seven Hy.out;have hC4:=qz (HC.out w4.drew _ _ (Ac.more hz4 _ _ (hv1.below (Below.drew (Below.refl _ _)))) (Ac.more hz4 _ _ (hv2.below (Below.drew (Below.refl _ _)))));clear HC hv1 hv2 HL HL' Hx Hy;go_wp2_with (fail)
         go_still_tail 12,(by kernel_rfl)
         change wpList _ _ _ _ _ w4.drew;go_wp2_with (fail);(with_reducible refine(hC4.out).mono ?_);rintro e w5 ⟨c',rfl,hc',hb5⟩
         all_goals
          have Hc:=qz hc';have hb5':Below w4.heap.size w4 w5:=(Below.drew (Below.refl _ _)).trans hb5;have hbw5:=qz (hbw4.out.trans (hb5'.mono hz4));have hx1'':=qz ((hb5'.block _ (by omega)).trans hx1'.out);have hx2'':=qz ((hb5'.block _ z4).trans hx2'.out);clear hc' hb5 hb5' hbw4 hx1' hx2' hC4 c1 c2 c3 c4 c5 c6 e1 e2 e3 e4 e5 e6 b1 b2;by_cases hc0:c'=0
          . have Hn:=qz (Hxy.out hkk.out (Hc.out.1 hc0));subst hc0;clear Hc;go_wp2;go_roundw
            case rel=>exact⟨k+1,by go_num,by omega,by omega,Hn,hbw5,hx1'',hx2''⟩
            case measure=>simp only[intOf];omega
          . have hne:=Hxn'.out (fun e=>hc0 (Hc.out.2 e));have f1:(c'==0)=false:=by simpa using hc0
            have f2:(c' != 0)=true:=by simpa using hc0
            have Hf:Hid (c'=0 ↔ p):=⟨fun e=>absurd e hc0,fun e=>absurd (Hp.out.2 e) hne⟩;clear Hc hne hc0;go_wp2;go_ret;exact Az.of Hf.out hbw5.out
       . have hne:=Hkn.out (fun e=>hc0 (Hc.out.2 e));have f1:(c==0)=false:=by simpa using hc0
         have f2:(c != 0)=true:=by simpa using hc0
         have Hf:Hid (c=0 ↔ p):=⟨fun e=>absurd e hc0,fun e=>absurd (Hp.out.2 e) hne⟩;clear Hc hne hc0;go_wp2;go_ret;exact Az.of Hf.out hbw4.out
    . have hk2:k=l'.length:=by omega
      subst hk2;have hne: ¬Km l l'=true:=fun h=>by have:=(G6.1 h).1;omega
      obtain⟨C,hC⟩: ∃C,Iq (l.length:Int) (l'.length:Int)=C:=⟨_,rfl⟩;have cN:=fun w=>Fz (l.length:Int) (l'.length:Int) w;rw[hC]at cN;have HN:=qz cN;have hcz:C≠0:=by rw[<-hC,Ne,Dn];omega
      have Hf:Hid (C=0 ↔ p):=⟨fun e=>absurd e hcz,fun e=>absurd (Hp.out.2 e) hne⟩;clear cN hC hcz hne ht hl hl';go_wp2_with (fail);(with_reducible refine(HN.out _).mono ?_);rintro e w' ⟨rfl,rfl⟩;go_wp2;go_ret;exact Az.of Hf.out hbw.out
  . have hk2:k=l.length:=by omega
    subst hk2;obtain⟨C,hC⟩: ∃C,Iq (l.length:Int) (l'.length:Int)=C:=⟨_,rfl⟩;have cN:=fun w=>Fz (l.length:Int) (l'.length:Int) w;rw[hC]at cN;have HN:=qz cN;have Hf:Hid (C=0 ↔ p):=by
     show _ ↔ _;rw[<-hC,Dn,<-Hp.out];constructor
     . intro h;exact G6.2 ⟨by omega,fun j x y h1 h2=>ht.out j x y (List.getElem?_eq_some_iff.1 h1).1 h1 h2⟩
     . intro h;have:=(G6.1 h).1;omega
    clear cN hC ht hl hl';go_wp2_with (fail);(with_reducible refine(HN.out _).mono ?_);rintro e w' ⟨rfl,rfl⟩;go_wp2;go_ret;exact Az.of Hf.out hbw.out
theorem Ais: ∀a,Ajk a:=by
 refine Val.ind ?_;intro k b n t l o IHl IHo v cs cs' w hV hV' hb hb';obtain⟨k',b',n',t',l',o'⟩:=v;simp only[Ac]at hV hV';obtain⟨la,lc,oa,oc,rfl,hla,hoa⟩:=hV;obtain⟨la',lc',oa',oc',rfl,hla',hoa'⟩:=hV';simp only[Val.bulk]at hb hb';by_cases hkk:k≠k'
 . exact Ajw k k' b b' n n' t t' _ _ _ _ w hkk _ (fun e=>by simp only[Dj,Bool.and_eq_true,decide_eq_true_eq]at e;exact hkk e.1)
 obtain rfl:k=k':=by omega
 by_cases h2:k=2
 . subst h2;exact Ajv b b' n n' t t' _ _ _ _ w _ (by simp[Dj])
 by_cases h3:k=3
 . subst h3;exact Amb b b' n n' t t' _ _ _ _ w _ (by simp[Dj])
 by_cases h4:k=4
 . subst h4;exact Ajx b b' n n' t t' _ _ _ _ w _ (by omega) (by omega) (by simp[Dj])
 by_cases h5:k=5
 . subst h5;exact Alt b b' n n' t t' l l' _ _ la oa la' oa' lc oc lc' oc' w IHl _ (by simp[Dj]) hla hla' (by omega) (by omega)
 by_cases h6:k=6
 . subst h6;exact Anb b b' n n' t t' o o' _ _ la oa la' oa' lc oc lc' oc' w IHo _ (by simp[Dj]) hoa hoa' (by omega) (by omega)
 exact Amd k h2 h3 h4 h5 h6 b b' n n' t t' _ _ _ _ w _ (by simp[Dj,h2,h3,h4,h5,h6])
end Go.Proofs.YtkmcjfkokoidcaaGreatDoor
