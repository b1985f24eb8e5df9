/- Parts: commonplaceref04: Parse, Exact; parse.Exact. Condition: a text of at most 1.6*10^7 bytes. -/
import Derived.Test.YtackmnbpfbaemaaGreatDoorKPr25
import Derived.Test.YtackmnbpfbaemaaGreatDoorKPr26
set_option maxHeartbeats 20000000
namespace Go.Proofs.YtackmnbpfbaemaaGreatDoor
open Go Go.RowKit
theorem Aea {s t:ByteArray} {k:Nat} (_h:k+t.size<=s.size):((s.extract k (k+t.size)).toList==t.toList)=t.data.toList.isPrefixOf (s.data.toList.drop k):=by
 have e1:(s.extract k (k+t.size)).toList=(s.data.toList.drop k).take t.data.toList.length:=by
  rw[ByteArray.toList_eq,Lib.extract_data,Ab,Nat.add_sub_cancel_left]
 rw[e1,ByteArray.toList_eq,Bool.eq_iff_iff,beq_iff_eq,List.isPrefixOf_iff_prefix];constructor
 . intro e;rw[<-e];exact List.take_prefix _ _
 . intro e;exact(List.prefix_iff_eq_take.1 e).symm
theorem Abc {s t:ByteArray} {k:Nat} (h: ¬(k+t.size<=s.size)) (hk:k<=s.size):t.data.toList.isPrefixOf (s.data.toList.drop k)=false:=by
 rw[Bool.eq_false_iff];intro e;have:=(List.isPrefixOf_iff_prefix.1 e).length_le;rw[List.length_drop,Ab,Ab]at this;omega
set_option maxRecDepth 100000 in
theorem Bj {s t:ByteArray} {k:Nat} {B:Bool} (h:t.data.toList.isPrefixOf (s.data.toList.drop k)=B) (w:World) (hs:s.size<=1000000000) (hk:k<=s.size) (ht:t.size<=100):
 Calls Tryz.prog 178 #[.string s,.int .i64 k,.string t] w fun e w'=>e=.returned (.bool B)/\w=w':=by
 have i0:(0:Int)<=(k:Int):=by omega
 have i1:(k:Int)<=(s.size:Int):=by omega
 by_cases hle:k+t.size<=s.size
 . rw[<-Aea hle]at h;have w1:IntKind.i64.wrap ((k:Int)+(t.size:Int))=(k:Int)+(t.size:Int):=IntWalk.i64_in _ (by omega);have w2:IntKind.i64.wrap ((s.size:Int) - (k:Int))=(s.size:Int) - (k:Int):=IntWalk.i64_in _ (by omega);have d1:decide ((t.size:Int)<=(s.size:Int) - (k:Int))=true:=decide_eq_true (by omega);have i2:(k:Int)<=(k:Int)+(t.size:Int):=by omega
   have i3:(k:Int)+(t.size:Int)<=(s.size:Int):=by omega
   have n1:((k:Int)+(t.size:Int)).toNat=k+t.size:=by omega
   clear hle;go_enter Tryz.func178,Tryz.ntmps178;go_wp2;go_ret;exact⟨rfl,rfl⟩
 . have hp:=Abc hle hk;rw[hp]at h;subst h;have w2:IntKind.i64.wrap ((s.size:Int) - (k:Int))=(s.size:Int) - (k:Int):=IntWalk.i64_in _ (by omega);have d1:decide ((t.size:Int)<=(s.size:Int) - (k:Int))=false:=decide_eq_false (by omega);have i2: ¬((t.size:Int)<=(s.size:Int) - (k:Int)):=by omega
   clear hle hp;go_enter Tryz.func178,Tryz.ntmps178;go_wp2;go_ret;exact⟨rfl,rfl⟩
theorem Gv.up {w wb w':World} {RES:Rd Val} {e:Ending} (hB:RBx w wb Aj) (h:Gv wb RES e w'): ∃(k:Int) (b:Bool) (n:Int) (t:ByteArray) (la:Option Addr) (ln lc:Nat) (oa:Option Addr) (on oc:Nat) (q c:Int),
 e=.returned (.tuple #[.agg #[.int .i64 k,.bool b,.int .i64 n,.string t,.slice la ln lc,.slice oa on oc],.int .i64 q,.int .i64 c])/\RBx w w' Aj/\
 An (A1 w' w.heap.size 0 [.int .i64 k,.bool b,.int .i64 n,.string t,.slice la ln lc,.slice oa on oc]) w.heap.size 39 #[.int .i64 k,.bool b,.int .i64 n,.string t,.slice la ln lc,.slice oa on oc]/\
 Gv w RES (.returned (.tuple #[.agg #[.int .i64 k,.bool b,.int .i64 n,.string t,.slice la ln lc,.slice oa on oc],.int .i64 q,.int .i64 c])) (A1 w' w.heap.size 0 [.int .i64 k,.bool b,.int .i64 n,.string t,.slice la ln lc,.slice oa on oc]):=by
 obtain⟨hb,h⟩:=h;have hB':=hB.later hb;have hlt:=hB.blk.lt;have hbs:=hB.below.size
 cases RES with
 |bad c q=>
  subst h;have hm:=hB'.many (.int .i64 0) (.bool false) (.int .i64 0) (.string ⟨#[]⟩) (.slice none 0 0) (.slice none 0 0);exact⟨0,false,0,⟨#[]⟩,none,0,0,none,0,0,q,c,rfl,hB',hm.blk,hm.below,rfl⟩
 |ok v q=>
  obtain⟨cs,rfl,hf⟩:=h;obtain⟨k',b',n',t',l',o'⟩:=v;obtain⟨la,lc,oa,oc,rfl⟩:=Ct hf;have hm:=hB'.many (.int .i64 k') (.bool b') (.int .i64 n') (.string t') (.slice la l'.length lc) (.slice oa o'.length oc);exact⟨k',b',n',t',la,l'.length,lc,oa,o'.length,oc,q,0,rfl,hB',hm.blk,hm.below,_,rfl,hf.keep (b':=w.heap.size) (by omega) (by rw[Ba];exact Nat.le_refl _) (fun p p1 p2=>World.cell?_of_block (Aw _ _ _ _ _ (by have p1':wb.heap.size<=p.block:=p1;omega)))⟩
set_option maxRecDepth 100000 in
theorem Aep (HC: ∀v,Mb v) (s:ByteArray) (hs:s.size<=16000000): ∀f,Afa s f:=by
 intro f
 induction f using Nat.strongRecOn with
 |_ f ih=>
  intro w k d hk hf hd0 hd;obtain⟨f,rfl⟩: ∃n,f=n+1:=⟨f - 1,by omega⟩;have ih': ∀f',f'<f->Afa s f':=fun f' h'=>ih f' (by omega);have hP:=B3 hk;have hP1:=B6 s.data.toList k;have hpast:=fun W=>Em s k W (by omega) hk;have hB0:=RBx.start w;obtain⟨RES,hRES⟩: ∃r,Bq (f+1) s.data.toList k d=r:=⟨_,rfl⟩;rw[hRES];unfold Bq at hRES;generalize Ar s.data.toList k=p at hRES hP hP1 hpast;have p0:(0:Int)<=(p:Int):=by omega
  cases hc:s.data.toList[p]? with
  |none=>
   rw[hc]at hRES;simp only at hRES;subst hRES;have hp:p=s.size:=by rw[List.getElem?_eq_none_iff,Ab]at hc;omega
   have e1:((p:Int)==(s.size:Int))=true:=by rw[hp];simp
   clear ih ih' hc;obtain⟨Hpast,HB0,Hp⟩:=hid3 hpast hB0 hp;clear hpast hB0 hp;go_enter Tryz.func129,Tryz.ntmps129;go_wp2_with (fail);generalize w.alloc (.cells Aj 39)=wb at HB0 ⊢;(with_reducible refine(Hpast.out _).mono ?_);rintro e w1 ⟨rfl,rfl⟩;obtain⟨r0,r1,r2,r3,r4,r5⟩:=Ao HB0.out.blk;have fz:=HB0.out.blk.frozen;have hlb:=HB0.out.blk.lt;have hxz:=HB0.out.many (.int .i64 0) (.bool false) (.int .i64 0) (.string ⟨#[]⟩) (.slice none 0 0) (.slice none 0 0);have Hxz:=Lib.hid hxz;clear hxz;go_wp2;exact bodyPost_ret (Af rfl rfl Hxz.out.blk) rfl ⟨Hxz.out.below,rfl⟩
  |some c=>
   rw[hc]at hRES;simp only at hRES;have hlt:p<s.size:=by have:=De hc;rwa [Ab]at this
   have hx:s[p]=c:=by rw[Bh s hlt]at hc;exact Option.some.inj hc
   have hcl:=Bn c;have p1:(p:Int)<(s.size:Int):=by omega
   have e1:((p:Int)==(s.size:Int))=false:=by rw[beq_eq_false_iff_ne];omega
   obtain⟨M,hM⟩: ∃M,(c==45||Dj c)=M:=⟨_,rfl⟩;obtain⟨Z,hZ⟩: ∃Z,(!Fs c)=Z:=⟨_,rfl⟩;have q: ∀n:Nat,n<256->((c.toNat:Int)==(n:Int))=(c==UInt8.ofNat n):=fun n hn=>Iq hn;have q45:((c.toNat:Int)==45)=(c==45):=q 45 (by decide);have q34:((c.toNat:Int)==34)=(c==34):=q 34 (by decide);have q91:((c.toNat:Int)==91)=(c==91):=q 91 (by decide);have q123:((c.toNat:Int)==123)=(c==123):=q 123 (by decide);have q110:((c.toNat:Int)==110)=(c==110):=q 110 (by decide);have q116:((c.toNat:Int)==116)=(c==116):=q 116 (by decide);have q102:((c.toNat:Int)==102)=(c==102):=q 102 (by decide);clear q;obtain⟨HM,HZ,Hpast,HB0,HRES,Ih,Ih',Hc⟩:=hid8 hM hZ hpast hB0 hRES ih ih' hc;clear hpast hB0 hRES ih ih' hc;go_enter Tryz.func129,Tryz.ntmps129;go_wp2_with (fail);generalize w.alloc (.cells Aj 39)=wb at HB0 ⊢;(with_reducible refine(Hpast.out _).mono ?_);rintro e w1 ⟨rfl,rfl⟩;clear hM hZ;go_upto_region 5 with(fail);go_cut [10] (fun x wx=>x=.bool M/\wx=wb)
   case first=>
    have hM:=HM.out
    cases h45:(c==45)with
    |true=>
     rw[h45]at q45 hM;simp only[Bool.true_or]at hM;subst hM;go_wp2;go_meet;exact⟨rfl,rfl⟩
    |false=>
     rw[h45]at q45 hM;simp only[Bool.false_or]at hM;unfold Dj at hM;by_cases h48:48<=c.toNat
     . have l1:decide ((48:Int)<=(c.toNat:Int))=true:=decide_eq_true (by omega);by_cases h57:c.toNat<=57
       . have l2:decide ((c.toNat:Int)<=57)=true:=decide_eq_true (by omega);rw[decide_eq_true ⟨h48,h57⟩]at hM;subst hM;go_wp2;go_meet;exact⟨rfl,rfl⟩
       . have l2:decide ((c.toNat:Int)<=57)=false:=decide_eq_false (by omega);rw[decide_eq_false (fun q=>h57 q.2)]at hM;subst hM;go_wp2;go_meet;exact⟨rfl,rfl⟩
     . have l1:decide ((48:Int)<=(c.toNat:Int))=false:=decide_eq_false (by omega);rw[decide_eq_false (fun q=>h48 q.1)]at hM;subst hM;go_wp2;go_meet;exact⟨rfl,rfl⟩
   obtain⟨rfl,rfl⟩:=hcut;go_upto_region 6 with(fail);go_cut [61] (fun x wx=>x=.bool Z/\wx=wc)
   case first=>
    have hZ:=HZ.out;have hM:=HM.out;unfold Fs at hZ
    cases M with
    |true=>
     have hst:(Dj c||c==45)=true:=by rw[Bool.or_comm];exact hM
     rw[hst]at hZ;simp only[Bool.true_or,Bool.not_true]at hZ;subst hZ;clear hst hM;go_wp2;go_meet;exact⟨rfl,rfl⟩
    |false=>
     have hst:(Dj c||c==45)=false:=by rw[Bool.or_comm];exact hM
     rw[hst]at hZ;simp only[Bool.false_or]at hZ;clear hst hM
     cases h34:(c==34)with
     |true=>
      rw[h34]at hZ;simp only[Bool.true_or,Bool.not_true]at hZ;subst hZ;obtain rfl:c=34:=by simpa using h34
      clear q45 q34 q91 q123 q110 q116 q102;go_wp2;go_meet;exact⟨rfl,rfl⟩
     |false=>
      rw[h34]at q34 hZ;simp only[Bool.false_or]at hZ
      cases h91:(c==91)with
      |true=>
       rw[h91]at hZ;simp only[Bool.true_or,Bool.not_true]at hZ;subst hZ;obtain rfl:c=91:=by simpa using h91
       clear q45 q34 q91 q123 q110 q116 q102;go_wp2;go_meet;exact⟨rfl,rfl⟩
      |false=>
       rw[h91]at q91 hZ;simp only[Bool.false_or]at hZ
       cases h123:(c==123)with
       |true=>
        rw[h123]at hZ;simp only[Bool.true_or,Bool.not_true]at hZ;subst hZ;obtain rfl:c=123:=by simpa using h123
        clear q45 q34 q91 q123 q110 q116 q102;go_wp2;go_meet;exact⟨rfl,rfl⟩
       |false=>
        rw[h123]at q123 hZ;simp only[Bool.false_or]at hZ
        cases h110:(c==110)with
        |true=>
         rw[h110]at hZ;simp only[Bool.true_or,Bool.not_true]at hZ;subst hZ;obtain rfl:c=110:=by simpa using h110
         clear q45 q34 q91 q123 q110 q116 q102;go_wp2;go_meet;exact⟨rfl,rfl⟩
        |false=>
         rw[h110]at q110 hZ;simp only[Bool.false_or]at hZ
         cases h116:(c==116)with
         |true=>
          rw[h116]at hZ;simp only[Bool.true_or,Bool.not_true]at hZ;subst hZ;obtain rfl:c=116:=by simpa using h116
          clear q45 q34 q91 q123 q110 q116 q102;go_wp2;go_meet;exact⟨rfl,rfl⟩
         |false=>
          rw[h116]at q116 hZ;simp only[Bool.false_or]at hZ
          cases h102:(c==102)with
          |true=>
           rw[h102]at hZ;simp only[Bool.not_true]at hZ;subst hZ;obtain rfl:c=102:=by simpa using h102
           clear q45 q34 q91 q123 q110 q116 q102;go_wp2;go_meet;exact⟨rfl,rfl⟩
          |false=>
           rw[h102]at q102 hZ;simp only[Bool.not_false]at hZ;subst hZ;have m34:((c.toNat:Int) != 34)=true:=by rw[bne,q34];rfl
           have k34: ¬((c.toNat:Int)=34):=by have:=q34;rw[beq_eq_false_iff_ne]at this;exact this
           have j34: ¬(c.toNat=34):=by omega
           have m91:((c.toNat:Int) != 91)=true:=by rw[bne,q91];rfl
           have k91: ¬((c.toNat:Int)=91):=by have:=q91;rw[beq_eq_false_iff_ne]at this;exact this
           have j91: ¬(c.toNat=91):=by omega
           have m123:((c.toNat:Int) != 123)=true:=by rw[bne,q123];rfl
           have k123: ¬((c.toNat:Int)=123):=by have:=q123;rw[beq_eq_false_iff_ne]at this;exact this
           have j123: ¬(c.toNat=123):=by omega
           have m110:((c.toNat:Int) != 110)=true:=by rw[bne,q110];rfl
           have k110: ¬((c.toNat:Int)=110):=by have:=q110;rw[beq_eq_false_iff_ne]at this;exact this
           have j110: ¬(c.toNat=110):=by omega
           have m116:((c.toNat:Int) != 116)=true:=by rw[bne,q116];rfl
           have k116: ¬((c.toNat:Int)=116):=by have:=q116;rw[beq_eq_false_iff_ne]at this;exact this
           have j116: ¬(c.toNat=116):=by omega
           have m102:((c.toNat:Int) != 102)=true:=by rw[bne,q102];rfl
           have k102: ¬((c.toNat:Int)=102):=by have:=q102;rw[beq_eq_false_iff_ne]at this;exact this
           have j102: ¬(c.toNat=102):=by omega
           go_wp2;go_meet;exact⟨rfl,rfl⟩
   obtain⟨rfl,rfl⟩:=hcut;obtain⟨r0,r1,r2,r3,r4,r5⟩:=Ao HB0.out.blk;have fz:=HB0.out.blk.frozen;have hlb:=HB0.out.blk.lt;have hxz:=HB0.out.many (.int .i64 0) (.bool false) (.int .i64 0) (.string ⟨#[]⟩) (.slice none 0 0) (.slice none 0 0);have hRES:=HRES.out;have hZ:=HZ.out;clear q45 q34 q91 q123 q110 q116 q102 HRES;have Hxz:=Lib.hid hxz;clear hxz
   cases Z with
   |true=>
    rw[if_pos (by simpa using hZ)]at hRES;subst hRES;clear hZ HZ HM;go_wp2;exact bodyPost_ret (Af rfl rfl Hxz.out.blk) rfl ⟨Hxz.out.below,rfl⟩
   |false=>
    have hst:Fs c=true:=by simpa using hZ
    rw[if_neg (by rw[hst];decide)]at hRES;clear hZ HZ;by_cases hdp:64<d
    . rw[if_pos hdp]at hRES;subst hRES;have l64:decide (64<d)=true:=decide_eq_true hdp;clear hst HM;go_wp2;exact bodyPost_ret (Af rfl rfl Hxz.out.blk) rfl ⟨Hxz.out.below,rfl⟩
    rw[if_neg hdp]at hRES;have l64:decide (64<d)=false:=decide_eq_false hdp;have hd64:d<=64:=by omega
    have hlt':=hlt
    cases M with
    |true=>
     have hM:=HM.out;have hnum:Dj c=true\/c=45:=by simp only[Bool.or_eq_true,beq_iff_eq]at hM;exact hM.symm
     obtain⟨_,_,n1,n2,n3,n4,n5,n6⟩:=Aeu hnum;rw[if_neg n1,if_neg n2,if_neg n3,if_neg n4,if_neg n5,if_neg n6]at hRES;have hCa:=Vt s p wc (by omega) hlt;rw[hRES]at hCa;clear hM hnum n1 n2 n3 n4 n5 n6 hst hRES HM;have HCa:=Lib.hid hCa;clear hCa;go_wp2_with (fail);(with_reducible refine(HCa.out).mono ?_);rintro e w4 hh;obtain⟨k',b',n',t',la,ln,lc,oa,on,oc,qq,cc,rfl,hB4,hblk,hRo⟩:=Gv.up HB0.out hh;obtain⟨z0,z1,z2,z3,z4,z5⟩:=Ao hB4.blk;have fz4:=hB4.blk.frozen;have hlt4:=hB4.blk.lt;obtain⟨HB4,Hblk,HRo⟩:=hid3 hB4 hblk hRo;clear hB4 hblk hRo;clear hh r0 r1 r2 r3 r4 r5 fz;go_wp2;exact bodyPost_ret (Af rfl rfl Hblk.out) rfl HRo.out
    |false=>
     have hM:=HM.out;have hc6:c=91\/c=123\/c=34\/c=110\/c=116\/c=102:=by
      unfold Fs at hst;rw[show(Dj c||c==45)=false by rw[Bool.or_comm];exact hM]at hst;simp only[Bool.false_or,Bool.or_eq_true,beq_iff_eq]at hst;rcases hst with((((h|h)|h)|h)|h)|h
      . exact Or.inr (Or.inr (Or.inl h))
      . exact Or.inl h
      . exact Or.inr (Or.inl h)
      . exact Or.inr (Or.inr (Or.inr (Or.inl h)))
      . exact Or.inr (Or.inr (Or.inr (Or.inr (Or.inl h))))
      . exact Or.inr (Or.inr (Or.inr (Or.inr (Or.inr (h)))))
     clear hM hst HM;rcases hc6 with rfl|rfl|rfl|rfl|rfl|rfl
     . rw[if_pos rfl]at hRES;have hCa:=Abp s f Ih'.out wc p d hs hlt (by omega) hd0 hd64;rw[hRES,show((p+1:Nat):Int)=(p:Int)+1 by omega]at hCa;clear hRES;have HCa:=Lib.hid hCa;clear hCa;go_wp2_with (fail);(with_reducible refine(HCa.out).mono ?_);rintro e w4 hh;obtain⟨k',b',n',t',la,ln,lc,oa,on,oc,qq,cc,rfl,hB4,hblk,hRo⟩:=Gv.up HB0.out hh;obtain⟨z0,z1,z2,z3,z4,z5⟩:=Ao hB4.blk;have fz4:=hB4.blk.frozen;have hlt4:=hB4.blk.lt;obtain⟨HB4,Hblk,HRo⟩:=hid3 hB4 hblk hRo;clear hB4 hblk hRo;clear hh r0 r1 r2 r3 r4 r5 fz;go_wp2;exact bodyPost_ret (Af rfl rfl Hblk.out) rfl HRo.out
     . rw[if_neg (by decide),if_pos rfl]at hRES;have hCa:=Aek HC s f Ih'.out wc p d hs hlt (by omega) hd0 hd64;rw[hRES,show((p+1:Nat):Int)=(p:Int)+1 by omega]at hCa;clear hRES;have HCa:=Lib.hid hCa;clear hCa;go_wp2_with (fail);(with_reducible refine(HCa.out).mono ?_);rintro e w4 hh;obtain⟨k',b',n',t',la,ln,lc,oa,on,oc,qq,cc,rfl,hB4,hblk,hRo⟩:=Gv.up HB0.out hh;obtain⟨z0,z1,z2,z3,z4,z5⟩:=Ao hB4.blk;have fz4:=hB4.blk.frozen;have hlt4:=hB4.blk.lt;obtain⟨HB4,Hblk,HRo⟩:=hid3 hB4 hblk hRo;clear hB4 hblk hRo;clear hh r0 r1 r2 r3 r4 r5 fz;go_wp2;exact bodyPost_ret (Af rfl rfl Hblk.out) rfl HRo.out
     . rw[if_neg (by decide),if_neg (by decide),if_pos rfl]at hRES;have hU:=Uq s p wc (by omega) (by omega);have hw:=Ex (s:=s.data.toList) (p:=p) (by rw[Ab];omega)
       cases hr:Di s.data.toList p with
       |bad c2 q2=>
        rw[hr]at hU hRES hw;simp only[Rf]at hU;simp only[Rd.map]at hRES;subst hRES;have hc1:(c2 != 0)=true:=by have:=hw.2.2.1;simp only[bne_iff_ne,ne_eq];omega
        clear hr hw;have HU:=Lib.hid hU;clear hU;go_wp2_with (fail);(with_reducible refine(HU.out).mono ?_);rintro e w4 ⟨rfl,hb4⟩;have hB4:=HB0.out.later hb4;obtain⟨z0,z1,z2,z3,z4,z5⟩:=Ao hB4.blk;have fz4:=hB4.blk.frozen;have hlt4:=hB4.blk.lt;have hxf:=hB4.many (.int .i64 0) (.bool false) (.int .i64 0) (.string ⟨#[]⟩) (.slice none 0 0) (.slice none 0 0);obtain⟨HB4,Hxf⟩:=hid2 hB4 hxf;clear hB4 hxf;clear hb4 r0 r1 r2 r3 r4 r5 fz;go_wp2;exact bodyPost_ret (Af rfl rfl Hxf.out.blk) rfl ⟨Hxf.out.below,rfl⟩
       |ok a q2=>
        rw[hr]at hU hRES;simp only[Rf]at hU;simp only[Rd.map]at hRES;subst hRES;clear hr hw;have HU:=Lib.hid hU;clear hU;go_wp2_with (fail);(with_reducible refine(HU.out).mono ?_);rintro e w4 ⟨rfl,hb4⟩;have hB4:=HB0.out.later hb4;obtain⟨z0,z1,z2,z3,z4,z5⟩:=Ao hB4.blk;have fz4:=hB4.blk.frozen;have hlt4:=hB4.blk.lt;have hxf:=hB4.many (.int .i64 4) (.bool false) (.int .i64 0) (.string ⟨a.toArray⟩) (.slice none 0 0) (.slice none 0 0);obtain⟨HB4,Hxf⟩:=hid2 hB4 hxf;clear hB4 hxf;clear hb4 r0 r1 r2 r3 r4 r5 fz;go_wp2;exact bodyPost_ret (Af rfl rfl Hxf.out.blk) rfl ⟨Hxf.out.below,⟨_,rfl,Cb 4 false 0 _⟩⟩
     . rw[if_neg (by decide),if_neg (by decide),if_neg (by decide),if_pos rfl]at hRES;have hdr:=Er Hc.out;unfold Du at hRES
       cases hp:List.isPrefixOf ([110,117,108,108]:List UInt8) (s.data.toList.drop p)with
       |true=>
        rw[hp]at hRES;rw[if_pos rfl]at hRES;subst hRES;have hth: ∀W,Calls Tryz.prog 178 #[.string s,.int .i64 (p:Nat),.string ⟨#[110,117,108,108]⟩] W fun e w'=>e=.returned (.bool true)/\W=w':=fun W=>Bj (t:=⟨#[110,117,108,108]⟩) hp W (by omega) (by omega) (by decide);clear hdr hp;have Hth:=Lib.hid hth;clear hth;go_wp2_with (fail);(with_reducible refine(Hth.out _).mono ?_);rintro e w4 ⟨rfl,rfl⟩;have hxf:=HB0.out.many (.int .i64 1) (.bool false) (.int .i64 0) (.string ⟨#[]⟩) (.slice none 0 0) (.slice none 0 0);have Hxf:=Lib.hid hxf;clear hxf;go_wp2;exact bodyPost_ret (Af rfl rfl Hxf.out.blk) rfl ⟨Hxf.out.below,⟨_,rfl,Cb 1 false 0 _⟩⟩
       |false=>
        rw[hp]at hRES;rw[if_neg (by decide)]at hRES;subst hRES;have hth: ∀W,Calls Tryz.prog 178 #[.string s,.int .i64 (p:Nat),.string ⟨#[110,117,108,108]⟩] W fun e w'=>e=.returned (.bool false)/\W=w':=fun W=>Bj (t:=⟨#[110,117,108,108]⟩) hp W (by omega) (by omega) (by decide);have hdtrue: ∀W,Calls Tryz.prog 178 #[.string s,.int .i64 (p:Nat),.string ⟨#[116,114,117,101]⟩] W fun e w'=>e=.returned (.bool false)/\W=w':=fun W=>Bj (t:=⟨#[116,114,117,101]⟩) (by rw[hdr];rfl) W (by omega) (by omega) (by decide);have hdfalse: ∀W,Calls Tryz.prog 178 #[.string s,.int .i64 (p:Nat),.string ⟨#[102,97,108,115,101]⟩] W fun e w'=>e=.returned (.bool false)/\W=w':=fun W=>Bj (t:=⟨#[102,97,108,115,101]⟩) (by rw[hdr];rfl) W (by omega) (by omega) (by decide);clear hdr hp;obtain⟨Hth,Hdtrue,Hdfalse⟩:=hid3 hth hdtrue hdfalse;clear hth hdtrue hdfalse;go_wp2_with (fail);(with_reducible refine(Hth.out _).mono ?_);rintro e w4 ⟨rfl,rfl⟩;go_wp2_with (fail);(with_reducible refine(Hdtrue.out _).mono ?_);rintro e w4 ⟨rfl,rfl⟩;go_wp2_with (fail);(with_reducible refine(Hdfalse.out _).mono ?_);rintro e w4 ⟨rfl,rfl⟩;go_wp2;exact bodyPost_ret (Af rfl rfl Hxz.out.blk) rfl ⟨Hxz.out.below,rfl⟩
     . rw[if_neg (by decide),if_neg (by decide),if_neg (by decide),if_neg (by decide),if_pos rfl]at hRES;have hdr:=Er Hc.out;unfold Du at hRES
       cases hp:List.isPrefixOf ([116,114,117,101]:List UInt8) (s.data.toList.drop p)with
       |true=>
        rw[hp]at hRES;rw[if_pos rfl]at hRES;subst hRES;have hdnull: ∀W,Calls Tryz.prog 178 #[.string s,.int .i64 (p:Nat),.string ⟨#[110,117,108,108]⟩] W fun e w'=>e=.returned (.bool false)/\W=w':=fun W=>Bj (t:=⟨#[110,117,108,108]⟩) (by rw[hdr];rfl) W (by omega) (by omega) (by decide);have hth: ∀W,Calls Tryz.prog 178 #[.string s,.int .i64 (p:Nat),.string ⟨#[116,114,117,101]⟩] W fun e w'=>e=.returned (.bool true)/\W=w':=fun W=>Bj (t:=⟨#[116,114,117,101]⟩) hp W (by omega) (by omega) (by decide);clear hdr hp;obtain⟨Hdnull,Hth⟩:=hid2 hdnull hth;clear hdnull hth;go_wp2_with (fail);(with_reducible refine(Hdnull.out _).mono ?_);rintro e w4 ⟨rfl,rfl⟩;go_wp2_with (fail);(with_reducible refine(Hth.out _).mono ?_);rintro e w4 ⟨rfl,rfl⟩;have hxf:=HB0.out.many (.int .i64 2) (.bool true) (.int .i64 0) (.string ⟨#[]⟩) (.slice none 0 0) (.slice none 0 0);have Hxf:=Lib.hid hxf;clear hxf;go_wp2;exact bodyPost_ret (Af rfl rfl Hxf.out.blk) rfl ⟨Hxf.out.below,⟨_,rfl,Cb 2 true 0 _⟩⟩
       |false=>
        rw[hp]at hRES;rw[if_neg (by decide)]at hRES;subst hRES;have hdnull: ∀W,Calls Tryz.prog 178 #[.string s,.int .i64 (p:Nat),.string ⟨#[110,117,108,108]⟩] W fun e w'=>e=.returned (.bool false)/\W=w':=fun W=>Bj (t:=⟨#[110,117,108,108]⟩) (by rw[hdr];rfl) W (by omega) (by omega) (by decide);have hth: ∀W,Calls Tryz.prog 178 #[.string s,.int .i64 (p:Nat),.string ⟨#[116,114,117,101]⟩] W fun e w'=>e=.returned (.bool false)/\W=w':=fun W=>Bj (t:=⟨#[116,114,117,101]⟩) hp W (by omega) (by omega) (by decide);have hdfalse: ∀W,Calls Tryz.prog 178 #[.string s,.int .i64 (p:Nat),.string ⟨#[102,97,108,115,101]⟩] W fun e w'=>e=.returned (.bool false)/\W=w':=fun W=>Bj (t:=⟨#[102,97,108,115,101]⟩) (by rw[hdr];rfl) W (by omega) (by omega) (by decide);clear hdr hp;obtain⟨Hdnull,Hth,Hdfalse⟩:=hid3 hdnull hth hdfalse;clear hdnull hth hdfalse;go_wp2_with (fail);(with_reducible refine(Hdnull.out _).mono ?_);rintro e w4 ⟨rfl,rfl⟩;go_wp2_with (fail);(with_reducible refine(Hth.out _).mono ?_);rintro e w4 ⟨rfl,rfl⟩;go_wp2_with (fail);(with_reducible refine(Hdfalse.out _).mono ?_);rintro e w4 ⟨rfl,rfl⟩;go_wp2;exact bodyPost_ret (Af rfl rfl Hxz.out.blk) rfl ⟨Hxz.out.below,rfl⟩
     . rw[if_neg (by decide),if_neg (by decide),if_neg (by decide),if_neg (by decide),if_neg (by decide),if_pos rfl]at hRES;have hdr:=Er Hc.out;unfold Du at hRES
       cases hp:List.isPrefixOf ([102,97,108,115,101]:List UInt8) (s.data.toList.drop p)with
       |true=>
        rw[hp]at hRES;rw[if_pos rfl]at hRES;subst hRES;have hdnull: ∀W,Calls Tryz.prog 178 #[.string s,.int .i64 (p:Nat),.string ⟨#[110,117,108,108]⟩] W fun e w'=>e=.returned (.bool false)/\W=w':=fun W=>Bj (t:=⟨#[110,117,108,108]⟩) (by rw[hdr];rfl) W (by omega) (by omega) (by decide);have hdtrue: ∀W,Calls Tryz.prog 178 #[.string s,.int .i64 (p:Nat),.string ⟨#[116,114,117,101]⟩] W fun e w'=>e=.returned (.bool false)/\W=w':=fun W=>Bj (t:=⟨#[116,114,117,101]⟩) (by rw[hdr];rfl) W (by omega) (by omega) (by decide);have hth: ∀W,Calls Tryz.prog 178 #[.string s,.int .i64 (p:Nat),.string ⟨#[102,97,108,115,101]⟩] W fun e w'=>e=.returned (.bool true)/\W=w':=fun W=>Bj (t:=⟨#[102,97,108,115,101]⟩) hp W (by omega) (by omega) (by decide);clear hdr hp;obtain⟨Hdnull,Hdtrue,Hth⟩:=hid3 hdnull hdtrue hth;clear hdnull hdtrue hth;go_wp2_with (fail);(with_reducible refine(Hdnull.out _).mono ?_);rintro e w4 ⟨rfl,rfl⟩;go_wp2_with (fail);(with_reducible refine(Hdtrue.out _).mono ?_);rintro e w4 ⟨rfl,rfl⟩;go_wp2_with (fail);(with_reducible refine(Hth.out _).mono ?_);rintro e w4 ⟨rfl,rfl⟩;have hxf:=HB0.out.many (.int .i64 2) (.bool false) (.int .i64 0) (.string ⟨#[]⟩) (.slice none 0 0) (.slice none 0 0);have Hxf:=Lib.hid hxf;clear hxf;go_wp2;exact bodyPost_ret (Af rfl rfl Hxf.out.blk) rfl ⟨Hxf.out.below,⟨_,rfl,Cb 2 false 0 _⟩⟩
       |false=>
        rw[hp]at hRES;rw[if_neg (by decide)]at hRES;subst hRES;have hdnull: ∀W,Calls Tryz.prog 178 #[.string s,.int .i64 (p:Nat),.string ⟨#[110,117,108,108]⟩] W fun e w'=>e=.returned (.bool false)/\W=w':=fun W=>Bj (t:=⟨#[110,117,108,108]⟩) (by rw[hdr];rfl) W (by omega) (by omega) (by decide);have hdtrue: ∀W,Calls Tryz.prog 178 #[.string s,.int .i64 (p:Nat),.string ⟨#[116,114,117,101]⟩] W fun e w'=>e=.returned (.bool false)/\W=w':=fun W=>Bj (t:=⟨#[116,114,117,101]⟩) (by rw[hdr];rfl) W (by omega) (by omega) (by decide);have hth: ∀W,Calls Tryz.prog 178 #[.string s,.int .i64 (p:Nat),.string ⟨#[102,97,108,115,101]⟩] W fun e w'=>e=.returned (.bool false)/\W=w':=fun W=>Bj (t:=⟨#[102,97,108,115,101]⟩) hp W (by omega) (by omega) (by decide);clear hdr hp;obtain⟨Hdnull,Hdtrue,Hth⟩:=hid3 hdnull hdtrue hth;clear hdnull hdtrue hth;go_wp2_with (fail);(with_reducible refine(Hdnull.out _).mono ?_);rintro e w4 ⟨rfl,rfl⟩;go_wp2_with (fail);(with_reducible refine(Hdtrue.out _).mono ?_);rintro e w4 ⟨rfl,rfl⟩;go_wp2_with (fail);(with_reducible refine(Hth.out _).mono ?_);rintro e w4 ⟨rfl,rfl⟩;go_wp2;exact bodyPost_ret (Af rfl rfl Hxz.out.blk) rfl ⟨Hxz.out.below,rfl⟩
set_option maxRecDepth 100000 in
theorem Y8 (HC: ∀v,Mb v) (s:ByteArray) (w:World) (hs:s.size<=16000000):
 Calls Tryz.prog 90 #[.string s] w (Gv w (Il s.data.toList)):=by
 obtain⟨RES,hRES⟩: ∃r,Il s.data.toList=r:=⟨_,rfl⟩;rw[hRES];unfold Il at hRES;have hV:Calls Tryz.prog 129 #[.string s,.int .i64 0,.int .i64 1] (w.alloc (.cells Aj 39)) (Gv (w.alloc (.cells Aj 39)) (Bq (4*s.data.toList.length+4) s.data.toList 0 1)):=by
  have:=Aep HC s hs (4*s.data.toList.length+4) (w.alloc (.cells Aj 39)) 0 1 (Nat.zero_le _) (by rw[Ab];omega) (by omega) (by omega);simpa using this
 have hB0:=RBx.start w;have hwi:=(Eb (4*s.data.toList.length+4)).1 s.data.toList 0 1 (Nat.zero_le _)
 cases hr:Bq (4*s.data.toList.length+4) s.data.toList 0 1 with
 |bad c q=>
  rw[hr]at hRES hV hwi;simp only at hRES;subst hRES;have hc1:(c != 0)=true:=by have:=hwi.2.2.1;simp only[bne_iff_ne,ne_eq];omega
  clear hwi hr;obtain⟨HV,HB0⟩:=hid2 hV hB0;clear hV hB0;go_enter Tryz.func90,Tryz.ntmps90;go_wp2_with (fail);(with_reducible refine(HV.out).mono ?_);rintro e w4 ⟨hb4,rfl⟩;have hI4:=HB0.out.later hb4;have hxf:=(hI4.many (.int .i64 0) (.bool false) (.int .i64 0) (.string ⟨#[]⟩) (.slice none 0 0) (.slice none 0 0)).later (Aa _ (.cells Aj 39));obtain⟨r0,r1,r2,r3,r4,r5⟩:=Ao hI4.blk;have fz4:=hI4.blk.frozen;have hlt4:=hI4.blk.lt;obtain⟨Hxf,HI4⟩:=hid2 hxf hI4;clear hxf hI4;clear hb4;go_wp2;exact bodyPost_ret (Af rfl rfl Hxf.out.blk) rfl ⟨Hxf.out.below,rfl⟩
 |ok v q=>
  rw[hr]at hRES hV hwi;simp only at hRES;obtain⟨hw1,hw2⟩:=hwi;rw[Ab]at hw2;have hp:=B3 hw2;have hpast:=fun W=>Em s q W (by omega) hw2;generalize Ar s.data.toList q=p at hRES hp hpast;obtain⟨k',b',n',t',l',o'⟩:=v;rw[Ab]at hRES;clear hr;obtain⟨HV,HB0,HRES,Hpast⟩:=hid4 hV hB0 hRES hpast;clear hV hB0 hRES hpast;go_enter Tryz.func90,Tryz.ntmps90;go_wp2_with (fail);(with_reducible refine(HV.out).mono ?_);rintro e w4 ⟨hb4,cs,rfl,hf4⟩;obtain⟨la4,lc4,oa4,oc4,rfl⟩:=Ct hf4;have hI4:=HB0.out.later hb4;obtain⟨r0,r1,r2,r3,r4,r5⟩:=Ao hI4.blk;have fz4:=hI4.blk.frozen;have hlt4:=hI4.blk.lt;have hz4:=hb4.size;have hRES:=HRES.out;obtain⟨HI4,Hf4⟩:=hid2 hI4 hf4;clear hI4 hf4;clear hb4 HRES;go_wp2_with (fail);(with_reducible refine(Hpast.out _).mono ?_);rintro e w5 ⟨rfl,rfl⟩;by_cases hlt:p<s.size
  . rw[if_pos hlt]at hRES;subst hRES;have e1:decide ((p:Int)<(s.size:Int))=true:=decide_eq_true (by omega);have e2:(p:Int)<(s.size:Int):=by omega
    have hxf:=(HI4.out.many (.int .i64 0) (.bool false) (.int .i64 0) (.string ⟨#[]⟩) (.slice none 0 0) (.slice none 0 0)).later (Aa _ (.cells #[.int .i64 k',.bool b',.int .i64 n',.string t',.slice la4 l'.length lc4,.slice oa4 o'.length oc4] 39));have Hxf:=Lib.hid hxf;clear hxf;go_wp2;exact bodyPost_ret (Af rfl rfl Hxf.out.blk) rfl ⟨Hxf.out.below,rfl⟩
  . rw[if_neg hlt]at hRES;subst hRES;have e1:decide ((p:Int)<(s.size:Int))=false:=decide_eq_false (by omega);have e2: ¬((p:Int)<(s.size:Int)):=by omega
    have hxf:=(HI4.out.many (.int .i64 k') (.bool b') (.int .i64 n') (.string t') (.slice la4 l'.length lc4) (.slice oa4 o'.length oc4)).later (Aa _ (.cells #[.int .i64 k',.bool b',.int .i64 n',.string t',.slice la4 l'.length lc4,.slice oa4 o'.length oc4] 39));have hff:=(Hf4.out.keep (b':=w.heap.size) (w':=A1 w4 w.heap.size 0 [.int .i64 k',.bool b',.int .i64 n',.string t',.slice la4 l'.length lc4,.slice oa4 o'.length oc4]) (by simp) (by rw[Ba];exact Nat.le_refl _) (fun p p1 p2=>World.cell?_of_block (Aw _ _ _ _ _ (by have p1':(w.alloc (.cells Aj 39)).heap.size<=p.block:=p1;simp at p1';omega)))).later (Aa _ (.cells #[.int .i64 k',.bool b',.int .i64 n',.string t',.slice la4 l'.length lc4,.slice oa4 o'.length oc4] 39));obtain⟨Hxf,Hff⟩:=hid2 hxf hff;clear hxf hff;go_wp2;exact bodyPost_ret (Af rfl rfl Hxf.out.blk) rfl ⟨Hxf.out.below,⟨_,rfl,Hff.out⟩⟩
set_option maxRecDepth 100000 in
theorem Y5 (HC: ∀v,Mb v) (s:ByteArray) (w:World) (hs:s.size<=16000000):
 Calls Tryz.prog 57 #[.string s] w (Amh w (Da s.data.toList)):=by
 have hV:=Y8 HC s (w.alloc (.cells Aj 39)) hs;have hB0:=RBx.start w;obtain⟨RES,hRES⟩: ∃r,Da s.data.toList=r:=⟨_,rfl⟩;rw[hRES];unfold Da at hRES
 cases hr:Il s.data.toList with
 |bad c q=>
  rw[hr]at hV hRES;simp only at hRES;subst hRES;have hc1:(c != 0)=true:=by have:=Q0 hr;simp only[bne_iff_ne,ne_eq];omega
  clear hr;obtain⟨HV,HB0⟩:=hid2 hV hB0;clear hV hB0;go_enter Tryz.func57,Tryz.ntmps57;go_wp2_with (fail);(with_reducible refine(HV.out).mono ?_);rintro e w4 ⟨hb4,rfl⟩;have hI4:=HB0.out.later hb4;have hxf:=(hI4.many (.int .i64 0) (.bool false) (.int .i64 0) (.string ⟨#[]⟩) (.slice none 0 0) (.slice none 0 0)).later (Aa _ (.cells Aj 39));obtain⟨r0,r1,r2,r3,r4,r5⟩:=Ao hI4.blk;have fz4:=hI4.blk.frozen;have hlt4:=hI4.blk.lt;obtain⟨Hxf,HI4⟩:=hid2 hxf hI4;clear hxf hI4;clear hb4;go_wp2;exact bodyPost_ret (A9 rfl rfl Hxf.out.blk) rfl ⟨Hxf.out.below,rfl⟩
 |ok v q=>
  rw[hr]at hV hRES;simp only at hRES;obtain⟨hm1,hm2,hm3,hm4⟩:=Q1 hr;obtain⟨k',b',n',t',l',o'⟩:=v;have hT:=fun cs W h=>Sg (.mk k' b' n' t' l' o') cs W 1 h (by rw[Ab]at hm3;omega) hm1 hm4;clear hr hm1 hm2 hm3 hm4;have hcmp:=Pi (t:=Bk (.mk k' b' n' t' l' o')) (s:=s);generalize Bk (.mk k' b' n' t' l' o')=TT at hcmp hRES hT;obtain⟨HV,HB0,HT,HRES⟩:=hid4 hV hB0 hT hRES;clear hV hB0 hT hRES;go_enter Tryz.func57,Tryz.ntmps57;go_wp2_with (fail);(with_reducible refine(HV.out).mono ?_);rintro e w4 ⟨hb4,cs,rfl,hf4⟩;obtain⟨la4,lc4,oa4,oc4,rfl⟩:=Ct hf4;have hI4:=HB0.out.later hb4;have hz4:=hb4.size;have hI5:=hI4.later (Aa w4 (.cells #[.int .i64 k',.bool b',.int .i64 n',.string t',.slice la4 l'.length lc4,.slice oa4 o'.length oc4] 39));have hf5:=hf4.later (Aa w4 (.cells #[.int .i64 k',.bool b',.int .i64 n',.string t',.slice la4 l'.length lc4,.slice oa4 o'.length oc4] 39));have hx5:=An.new w4 39 #[.int .i64 k',.bool b',.int .i64 n',.string t',.slice la4 l'.length lc4,.slice oa4 o'.length oc4];have hT5:=HT.out _ _ (Bv _ _ hf5.now);obtain⟨HI4,Hf4,HI5,Hf5,Hx5,HT5⟩:=hid6 hI4 hf4 hI5 hf5 hx5 hT5;clear hI4 hf4 hI5 hf5 hx5 hT5;clear hb4;obtain⟨r0,r1,r2,r3,r4,r5⟩:=Ao HI5.out.blk;have fz5:=HI5.out.blk.frozen;have hlt5:=HI5.out.blk.lt;obtain⟨x0,x1,x2,x3,x4,x5⟩:=Ao Hx5.out;have hltx:=Hx5.out.lt;go_wp2_with (fail);generalize w4.alloc (.cells #[.int .i64 k',.bool b',.int .i64 n',.string t',.slice la4 l'.length lc4,.slice oa4 o'.length oc4] 39)=w5 at HI5 Hf5 Hx5 HT5 r0 r1 r2 r3 r4 r5 fz5 hlt5 x0 x1 x2 x3 x4 x5 hltx ⊢;(with_reducible refine(HT5.out).mono ?_);rintro e w6 ⟨rfl,hb6⟩;have hI6:=HI5.out.later hb6;have hf6:=Hf5.out.later hb6;have hx6:=Hx5.out.below hb6 Hx5.out.lt;obtain⟨z0,z1,z2,z3,z4,z5⟩:=Ao hI6.blk;have fz6:=hI6.blk.frozen;have hlt6:=hI6.blk.lt;obtain⟨y0,y1,y2,y3,y4,y5⟩:=Ao hx6;have hs6:=hb6.size;have hRES:=HRES.out;clear HRES r0 r1 r2 r3 r4 r5 x0 x1 x2 x3 x4 x5 fz5;by_cases ht:TT=s.data.toList
  . rw[if_pos ht]at hRES;rw[decide_eq_true ht]at hcmp;subst hRES;have hxf:=hI6.many (.int .i64 k') (.bool b') (.int .i64 n') (.string t') (.slice la4 l'.length lc4) (.slice oa4 o'.length oc4);have hff:=hf6.keep (b':=w.heap.size) (w':=A1 w6 w.heap.size 0 [.int .i64 k',.bool b',.int .i64 n',.string t',.slice la4 l'.length lc4,.slice oa4 o'.length oc4]) (by simp) (by rw[Ba];exact Nat.le_refl _) (fun p p1 p2=>World.cell?_of_block (Aw _ _ _ _ _ (by have p1':(w.alloc (.cells Aj 39)).heap.size<=p.block:=p1;simp at p1';omega)));have hne:(TT != s.toList)=false:=by rw[bne,hcmp];rfl
    obtain⟨Hxf,Hff,HI6,Hf6,Hx6,Ht⟩:=hid6 hxf hff hI6 hf6 hx6 ht;clear hxf hff hI6 hf6 hx6 ht;clear hb6;go_wp2;exact bodyPost_ret (A9 rfl rfl Hxf.out.blk) rfl ⟨Hxf.out.below,⟨_,rfl,Hff.out⟩⟩
  . rw[if_neg ht]at hRES;rw[decide_eq_false ht]at hcmp;subst hRES;have hxf:=hI6.many (.int .i64 0) (.bool false) (.int .i64 0) (.string ⟨#[]⟩) (.slice none 0 0) (.slice none 0 0);have hne:(TT != s.toList)=true:=by rw[bne,hcmp];rfl
    obtain⟨Hxf,HI6,Hf6,Hx6,Ht⟩:=hid5 hxf hI6 hf6 hx6 ht;clear hxf hI6 hf6 hx6 ht;clear hb6;go_wp2;exact bodyPost_ret (A9 rfl rfl Hxf.out.blk) rfl ⟨Hxf.out.below,rfl⟩
end Go.Proofs.YtackmnbpfbaemaaGreatDoor
