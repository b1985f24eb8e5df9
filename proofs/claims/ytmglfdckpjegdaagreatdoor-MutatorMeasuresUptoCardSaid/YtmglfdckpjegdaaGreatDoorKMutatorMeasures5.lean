/- Parts: The law MutatorMeasures returns true. Printed by mkmms.py. Condition: a mutator of a bulk of at most 1048576. -/
import Derived.Test.YtmglfdckpjegdaaGreatDoorKMu42
import Derived.Test.YtmglfdckpjegdaaGreatDoorKMutatorMeasures2
import Derived.Test.YtmglfdckpjegdaaGreatDoorKMutatorMeasures4
set_option maxHeartbeats 20000000
namespace Go.Proofs.YtmglfdckpjegdaaGreatDoor
open Go Go.RowKit
set_option maxRecDepth 100000 in
theorem Api (m:Mut) (cs:List Value) (w:World) (hT:Cq w) (hNT:P4 w) (hN:Fs w) (h:Holds w w.heap.size (dM m) cs) (hb:Bm m<=1048576):
 Calls Tryz.prog 8 #[.agg cs.toArray] w fun e w'=>e=.returned (.bool true)/\Below w.heap.size w w':=by
 have h1:=fun(W:World) (hB:Below w.heap.size w W)=>Adh m cs W ((h.below hB).more hB.size) (by omega);have h2:=fun(W:World) (hB:Below w.heap.size w W)=>Tr m cs W ((h.below hB).more hB.size) (by omega);have h3:=fun(W:World) (hB:Below w.heap.size w W)=>Ars m cs W ((h.below hB).more hB.size) (by omega);have h4:=fun(W:World) (hB:Below w.heap.size w W)=>Abb m cs W ((h.below hB).more hB.size) (by omega);have h5:=fun(W:World) (hB:Below w.heap.size w W)=>Arz m cs W ((h.below hB).more hB.size) (by omega);have h6:=fun(W:World) (hB:Below w.heap.size w W)=>Art m cs W ((h.below hB).more hB.size) (by omega);have gK:=fun(W:World) (hB:Below w.heap.size w W)=>Ku W (hT.below hB) (hNT.below hB) (hN.below hB);have hs19:cs.length=19:=by have:=h.len.1;rwa [Ct]at this
 have hrl:=Arg m;unfold Aqt at h5 h6;generalize (Cd m:Int)=SZ at h1 h2;generalize (F6 m:Int)=DP at h3 h4;generalize Ani m=rk at h5 h6 hrl;obtain⟨ca,hca⟩: ∃ca,cs.toArray=ca:=⟨_,rfl⟩;have hs1:ca.size=19:=by rw[<-hca];simpa using hs19
 rw[hca]at h1 h2 h3 h4 h5 h6 ⊢;obtain⟨wi,hwi⟩: ∃wi,w.alloc (.cells ca Ag)=wi:=⟨_,rfl⟩;have hx0:Al wi w.heap.size Ag ca:=by rw[<-hwi];exact Al.new _ _ _
 have hw0:Below w.heap.size w wi:=by rw[<-hwi];exact Aa _ _
 have hrg:=Cz hx0;obtain⟨H1,H2,H3,H4,H5,H6,GK,Hx0,Hw0⟩:=hid9 h1 h2 h3 h4 h5 h6 gK hx0 hw0;clear h1 h2 h3 h4 h5 h6 gK hx0 hw0;clear hT hNT hN h hca;go_enter Tryz.func8,Tryz.ntmps8;go_upto_region 1 with(fail);clear hwi;refine wp_region_held_drew (S:=fun X=>X.rangeAt w.heap.size 0 ca.toList) (by kernel_rfl) hrg (fun hHeld=> ?_);clear hrg;refine wpAnyH_take (i:=0) rfl (by kernel_rfl) (by kernel_rfl) (by kernel_rfl) (fun _ _ _ h=>h) (yieldsIf_load_mid (by kernel_rfl) Ag (.tmp 1) rfl w.heap.size 0 rfl ca.toList _ (fun X hX=>hX) Tryz.underlying30 rfl (by rw[Array.length_toList,hs1];kernel_rfl)) hHeld ?_
 try simp only[Act.put,tk1,tk3,tk4,tk5,tk6]
 refine wpAnyH_take (i:=2) rfl (by kernel_rfl) (by kernel_rfl) (by kernel_rfl) (fun _ _ _ h=>h) (yieldsIf_load_mid (by kernel_rfl) Ag (.tmp 1) rfl w.heap.size 0 rfl ca.toList _ (fun X hX=>hX) Tryz.underlying30 rfl (by rw[Array.length_toList,hs1];kernel_rfl)) hHeld ?_
 try simp only[Act.put,tk1,tk2,tk3,tk4,tk5,tk6]
 refine wpAnyH_ready (rs:= [1]) (by kernel_rfl) (by simp) ?_;refine AllReadyH.cons rfl (fun K hK=> ?_) AllReadyH.nil;go_simp;(with_reducible refine(H1.out _ (Hw0.out.trans ((Below.drew (Below.refl _ _)).mono Hw0.out.size))).mono ?_);rintro e w1 ⟨rfl,hb1⟩;have hbr1:Below wi.heap.size wi w1:=(Below.drew (Below.refl _ _)).trans hb1;have hx1:=Hx0.out.below hbr1 Hx0.out.lt;have hw1:=Hw0.out.trans (hbr1.mono Hw0.out.size);obtain⟨Hw1,Hx1⟩:=hid2 hw1 hx1;clear hw1 hx1;refine hK.out _ _ (Cz Hx1.out) (fun hHeld=> ?_);clear hK K hb1 hbr1
 try simp only[Act.put,tk1,tk2,tk3,tk4,tk5,tk6]
 refine wpAnyH_ready (rs:= [3]) (by kernel_rfl) (by simp) ?_;refine AllReadyH.cons rfl (fun K hK=> ?_) AllReadyH.nil;go_simp;(with_reducible refine(H2.out _ Hw1.out).mono ?_);rintro e w2 ⟨rfl,hb2⟩;have hbr2:=hb2;have hx2:=Hx1.out.below hbr2 Hx1.out.lt;have hw2:=Hw1.out.trans (hbr2.mono Hw1.out.size);obtain⟨Hw2,Hx2⟩:=hid2 hw2 hx2;clear hw2 hx2;refine hK.out _ _ (Cz Hx2.out) (fun hHeld=> ?_);clear hK K hb2 hbr2
 try simp only[Act.put,tk1,tk2,tk3,tk4,tk5,tk6]
 refine tkH 4 hHeld ?_;refine tkH 5 hHeld ?_;refine wpAnyH_take (i:=6) rfl (by kernel_rfl) (by kernel_rfl) (by kernel_rfl) (fun _ _ _ h=>h) (yieldsIf_load_mid (by kernel_rfl) Ag (.tmp 1) rfl w.heap.size 0 rfl ca.toList _ (fun X hX=>hX) Tryz.underlying30 rfl (by rw[Array.length_toList,hs1];kernel_rfl)) hHeld ?_
 try simp only[Act.put,tk1,tk2,tk3,tk4,tk5,tk6]
 refine wpAnyH_take (i:=8) rfl (by kernel_rfl) (by kernel_rfl) (by kernel_rfl) (fun _ _ _ h=>h) (yieldsIf_load_mid (by kernel_rfl) Ag (.tmp 1) rfl w.heap.size 0 rfl ca.toList _ (fun X hX=>hX) Tryz.underlying30 rfl (by rw[Array.length_toList,hs1];kernel_rfl)) hHeld ?_
 try simp only[Act.put,tk1,tk2,tk3,tk4,tk5,tk6]
 refine wpAnyH_ready (rs:= [7]) (by kernel_rfl) (by simp) ?_;refine AllReadyH.cons rfl (fun K hK=> ?_) AllReadyH.nil;go_simp;(with_reducible refine(H3.out _ Hw2.out).mono ?_);rintro e w3 ⟨rfl,hb3⟩;have hbr3:=hb3;have hx3:=Hx2.out.below hbr3 Hx2.out.lt;have hw3:=Hw2.out.trans (hbr3.mono Hw2.out.size);obtain⟨Hw3,Hx3⟩:=hid2 hw3 hx3;clear hw3 hx3;refine hK.out _ _ (Cz Hx3.out) (fun hHeld=> ?_);clear hK K hb3 hbr3
 try simp only[Act.put,tk1,tk2,tk3,tk4,tk5,tk6]
 refine wpAnyH_ready (rs:= [9]) (by kernel_rfl) (by simp) ?_;refine AllReadyH.cons rfl (fun K hK=> ?_) AllReadyH.nil;go_simp;(with_reducible refine(H4.out _ Hw3.out).mono ?_);rintro e w4 ⟨rfl,hb4⟩;have hbr4:=hb4;have hx4:=Hx3.out.below hbr4 Hx3.out.lt;have hw4:=Hw3.out.trans (hbr4.mono Hw3.out.size);obtain⟨Hw4,Hx4⟩:=hid2 hw4 hx4;clear hw4 hx4;refine hK.out _ _ (Cz Hx4.out) (fun hHeld=> ?_);clear hK K hb4 hbr4
 try simp only[Act.put,tk1,tk2,tk3,tk4,tk5,tk6]
 refine tkH 10 hHeld ?_;refine tkH 11 hHeld ?_;refine wpAnyH_done (by kernel_rfl) ?_ _;clear hHeld;go_upto_region 3 with(fail);refine wp_region_held_drew (S:=fun X=>X.rangeAt w.heap.size 0 ca.toList) (by kernel_rfl) (Cz Hx4.out) (fun hHeld=> ?_);refine wpAnyH_take (i:=0) rfl (by kernel_rfl) (by kernel_rfl) (by kernel_rfl) (fun _ _ _ h=>h) (yieldsIf_load_mid (by kernel_rfl) Ag (.tmp 1) rfl w.heap.size 0 rfl ca.toList _ (fun X hX=>hX) Tryz.underlying30 rfl (by rw[Array.length_toList,hs1];kernel_rfl)) hHeld ?_
 try simp only[Act.put,tk1,tk3,tk4,tk5,tk6]
 refine wpAnyH_take (i:=2) rfl (by kernel_rfl) (by kernel_rfl) (by kernel_rfl) (fun _ _ _ h=>h) (yieldsIf_load_mid (by kernel_rfl) Ag (.tmp 1) rfl w.heap.size 0 rfl ca.toList _ (fun X hX=>hX) Tryz.underlying30 rfl (by rw[Array.length_toList,hs1];kernel_rfl)) hHeld ?_
 try simp only[Act.put,tk1,tk2,tk3,tk4,tk5,tk6]
 refine wpAnyH_ready (rs:= [1]) (by kernel_rfl) (by simp) ?_;refine AllReadyH.cons rfl (fun K hK=> ?_) AllReadyH.nil;go_simp;(with_reducible refine(H5.out _ (Hw4.out.trans ((Below.drew (Below.refl _ _)).mono Hw4.out.size))).mono ?_);rintro e w5 ⟨hb5,a1,c1,rfl,hr5⟩;have hbr5:Below w4.heap.size w4 w5:=(Below.drew (Below.refl _ _)).trans hb5;have hx5:=Hx4.out.below hbr5 Hx4.out.lt;have hw5:=Hw4.out.trans (hbr5.mono Hw4.out.size);obtain⟨Hw5,Hx5⟩:=hid2 hw5 hx5;clear hw5 hx5;refine hK.out _ _ (Cz Hx5.out) (fun hHeld=> ?_);clear hK K hb5 hbr5
 try simp only[Act.put,tk1,tk2,tk3,tk4,tk5,tk6]
 refine wpAnyH_ready (rs:= [3]) (by kernel_rfl) (by simp) ?_;refine AllReadyH.cons rfl (fun K hK=> ?_) AllReadyH.nil;go_simp;(with_reducible refine(H6.out _ Hw5.out).mono ?_);rintro e w6 ⟨hb6,a2,c2,rfl,hr6⟩;have hbr6:=hb6;have hx6:=Hx5.out.below hbr6 Hx5.out.lt;have hw6:=Hw5.out.trans (hbr6.mono Hw5.out.size);have hr5':=(hr5.below hb6).more hb6.size;obtain⟨Hr5',Hr6⟩:=hid2 hr5' hr6;clear hr5' hr6;obtain⟨Hw6,Hx6⟩:=hid2 hw6 hx6;clear hw6 hx6;refine hK.out _ _ (Cz Hx6.out) (fun hHeld=> ?_);clear hK K hb6 hbr6
 try simp only[Act.put,tk1,tk2,tk3,tk4,tk5,tk6]
 refine tkH 4 hHeld ?_;refine tkH 5 hHeld ?_;refine wpAnyH_done (by kernel_rfl) ?_ _;clear hHeld hr5;go_wp2_with (fail);go_loopw [5] (fun i wr=> ∃j:Nat,i=.int .i64 j/\j<=rk.length/\Hid (Below w.heap.size w wr)/\Hid (Holds wr wr.heap.size (.row 1 (dK rk)) [.slice a1 rk.length c1])/\Hid (Holds wr wr.heap.size (.row 1 (dK rk)) [.slice a2 rk.length c2])) (fun i _=>rk.length - (intOf i).toNat)
 case atStart=>exact⟨0,rfl,Nat.zero_le _,Hw6,Hr5',Hr6⟩
 case round=>
  obtain⟨j,rfl,hj,hbw,hA,hB⟩:=hrel;clear Hw6 Hr5' Hr6;by_cases hlt:j<rk.length
  . obtain⟨s,hs⟩: ∃s,rk[j]? =some s:=⟨_,List.getElem?_eq_getElem hlt⟩;obtain⟨g1,o1,rfl,hg1,c0⟩:=Arp hA.out hs;obtain⟨g2,o2,rfl,hg2,c0'⟩:=Arp hB.out hs;have y5:(j:Int)<(rk.length:Int):=by omega
    have y6:(0:Int)<=j:=by omega
    generalize bsK s=t at c0 c0';clear hs;go_wp2_with (fail);go_quiet (fail);have hbd:Below wr.heap.size wr (wr.drewN nq):=Cb (Below.refl _ _) nq;have HB1:=Lib.hid (Cb hbw.out nq);have HA1:=Lib.hid ((hA.out.below hbd).more hbd.size);have HA2:=Lib.hid ((hB.out.below hbd).more hbd.size);clear hbw hA hB c0 c0' hbd;go_wp2;go_roundw
    case rel=>exact⟨j+1,by go_num,by omega,HB1,HA1,HA2⟩
    case measure=>simp only[intOf];omega
  . obtain rfl:j=rk.length:=by omega
    clear hA hB;go_wp2_with (fail);(with_reducible refine(GK.out _ hbw.out).mono ?_);rintro e w9 ⟨rfl,hb9⟩;have hw9:=hbw.out.trans (hb9.mono hbw.out.size);have Hw9:=Lib.hid hw9;clear hw9;clear hb9;go_wp2;go_ret;exact⟨rfl,Hw9.out⟩
end Go.Proofs.YtmglfdckpjegdaaGreatDoor
