/- Parts: The law MutatorUnlike returns true. Condition: mutators of a bulk of at most 1048576. -/
import Derived.Test.YtmglfdckpjegdaaGreatDoorKMu37
import Derived.Test.YtmglfdckpjegdaaGreatDoorKMu42
import Derived.Test.YtmglfdckpjegdaaGreatDoorKMutatorUnlike3
set_option maxHeartbeats 20000000
namespace Go.Proofs.YtmglfdckpjegdaaGreatDoor
open Go Go.RowKit
theorem Aj0 {m m':Mut} (h:Bk m=0) (h':Bk m'=0):Eo (Bb m)=Eo (Bb m') ↔ Jy m m'=true:=by
 rw[<-Xm h h'];unfold Eo;rw[if_pos (Js h),if_pos (Js h')];constructor
 . intro e;have e1:=congrArg (fun t=>t.data.toList) e;simpa using e1
 . intro e;rw[e]
set_option maxRecDepth 100000 in
theorem Q5 (m m':Mut) (cs cs':List Value) (w:World) (hT:Cq w) (hNT:P4 w) (hN:Fs w) (h:Ah w w.heap.size (dM m) cs) (h':Ah w w.heap.size (dM m') cs') (hb:Bm m<=1048576) (hb':Bm m'<=1048576) (hin:Mu m) (hin':Mu m'):
 Calls Tryz.prog 7 #[.agg cs.toArray,.agg cs'.toArray] w fun e w'=>e=.returned (.bool true)/\Below w.heap.size w w':=by
 have h1:=fun(W:World) hB=>Gq m cs W (hT.below (w':=W) hB) ((h.below hB).more hB.size) (by omega) hin;have h1':=fun(W:World) hB=>Gq m' cs' W (hT.below (w':=W) hB) ((h'.below hB).more hB.size) (by omega) hin';have h2:=fun(W:World) hB=>D6 m cs W (hT.below (w':=W) hB) (hN.below hB) ((h.below hB).more hB.size) (by omega) hin;have h2':=fun(W:World) hB=>D6 m' cs' W (hT.below (w':=W) hB) (hN.below hB) ((h'.below hB).more hB.size) (by omega) hin';have gK:=fun(W:World) (hB:Below w.heap.size w W)=>Ku W (hT.below hB) (hNT.below hB) (hN.below hB);have gR:=fun(W:World) (hB:Below w.heap.size w W)=>Ajc m m' cs cs' W ((h.below hB).more hB.size) ((h'.below hB).more hB.size) (by omega) (by omega);have gP:=fun(W:World) (hB:Below w.heap.size w W)=>Ajj m m' cs cs' W ((h.below hB).more hB.size) ((h'.below hB).more hB.size) (by omega) (by omega);have hs19:cs.length=19:=by have:=h.len.1;rwa [Ct]at this
 have hs19':cs'.length=19:=by have:=h'.len.1;rwa [Ct]at this
 have hts:= @Aj0 m m';unfold Gl at h2 h2';generalize Jy m m'=B at gR gP hts;obtain⟨ca,hca⟩: ∃ca,cs.toArray=ca:=⟨_,rfl⟩;have hs1:ca.size=19:=by rw[<-hca];simpa using hs19
 obtain⟨cb,hcb⟩: ∃ca,cs'.toArray=ca:=⟨_,rfl⟩;have hs2:cb.size=19:=by rw[<-hcb];simpa using hs19'
 rw[hca]at h1 h2 gR gP ⊢;rw[hcb]at h1' h2' gR gP ⊢;obtain⟨wi,hwi⟩: ∃wi,(w.alloc (.cells ca Ag)).alloc (.cells cb Ag)=wi:=⟨_,rfl⟩;have hxa:Al wi w.heap.size Ag ca:=by rw[<-hwi];exact(Al.new _ _ _).alloc _
 have hxb:Al wi (w.heap.size+1) Ag cb:=by rw[<-hwi];simpa using Al.new (w.alloc (.cells ca Ag)) Ag cb
 have hbi:Below w.heap.size w wi:=by rw[<-hwi];exact Bj _ _ _
 obtain⟨H1,H2,H1',H2',GK,GR,GP,Hxa,Hxb,Hbi,Hts⟩:=hid11 h1 h2 h1' h2' gK gR gP hxa hxb hbi hts;clear h1 h2 h1' h2' gK gR gP hxa hxb hbi hts;clear hT hNT hN h h' hca hcb;go_enter Tryz.func7,Tryz.ntmps7;go_upto_region 1 with(fail);clear hwi
 iterate 2 go_step
 refine Ac Ag (.tmp 2) rfl w.heap.size _ Hxa.out rfl _ Tryz.underlying30 rfl (by rw[hs1];kernel_rfl) ?_
 iterate 2 go_step
 refine Ac Ag (.tmp 3) rfl (w.heap.size+1) _ Hxb.out rfl _ Tryz.underlying30 rfl (by rw[hs2];kernel_rfl) ?_;go_wp2_with (fail);(with_reducible refine(GR.out _ Hbi.out).mono ?_);rintro e w1 ⟨B1,rfl,hB1,hb1⟩;obtain rfl:B1=B:=Bool.eq_iff_iff.2 hB1;have hw1:=Hbi.out.trans (hb1.mono Hbi.out.size);have hx1:=Hxa.out.below hb1 Hxa.out.lt;have hy1:=Hxb.out.below hb1 Hxb.out.lt;obtain⟨Hw1,Hx1,Hy1⟩:=hid3 hw1 hx1 hy1;clear hw1 hx1 hy1;clear hb1 hB1;dsimp only;go_upto_region 2 with(fail)
 iterate 2 go_step
 refine Ac Ag (.tmp 2) rfl w.heap.size _ Hx1.out rfl _ Tryz.underlying30 rfl (by rw[hs1];kernel_rfl) ?_
 iterate 2 go_step
 refine Ac Ag (.tmp 3) rfl (w.heap.size+1) _ Hy1.out rfl _ Tryz.underlying30 rfl (by rw[hs2];kernel_rfl) ?_;go_wp2_with (fail);(with_reducible refine(GP.out _ Hw1.out).mono ?_);rintro e w2 ⟨B2,rfl,hB2,hb2⟩;obtain rfl:B2=B1:=Bool.eq_iff_iff.2 hB2;have hw2:=Hw1.out.trans (hb2.mono Hw1.out.size);have hx2:=Hx1.out.below hb2 Hx1.out.lt;have hy2:=Hy1.out.below hb2 Hy1.out.lt;have f0:(B2 != B2)=false:=by simp
 obtain⟨Hw2,Hx2,Hy2⟩:=hid3 hw2 hx2 hy2;clear hw2 hx2 hy2;clear hb2 hB2;dsimp only;go_upto_region 4 with(fail)
 iterate 2 go_step
 refine Ac Ag (.tmp 2) rfl w.heap.size _ Hx2.out rfl _ Tryz.underlying30 rfl (by rw[hs1];kernel_rfl) ?_;go_wp2_with (fail);(with_reducible refine(H1.out _ Hw2.out).mono ?_);rintro e w3 ⟨rfl,hb3⟩;have hw3:=Hw2.out.trans (hb3.mono Hw2.out.size);have hx3:=Hx2.out.below hb3 Hx2.out.lt;have hy3:=Hy2.out.below hb3 Hy2.out.lt;obtain⟨Hw3,Hx3,Hy3⟩:=hid3 hw3 hx3 hy3;clear hw3 hx3 hy3;clear hb3 f0;by_cases hm:Bk m=0;rotate_left
 . generalize Bk m=c at hm ⊢;have t0:(c != 0)=true:=by simpa using hm
   clear hm;go_wp2_with (fail);(with_reducible refine(GK.out _ Hw3.out).mono ?_);rintro e w9 ⟨rfl,hb9⟩;have hw9:=Hw3.out.trans (hb9.mono Hw3.out.size);have Hw9:=Lib.hid hw9;clear hw9;clear hb9;go_wp2;go_ret;exact⟨rfl,Hw9.out⟩
 rw[hm];have g2:=H2.out;rw[hm]at g2;simp only[if_true]at g2;dsimp only
 repeat (first|(refine wpList_step fun K' hK'=> ?_;refine D7 rfl Ag (.tmp 3) rfl (w.heap.size+1) cb Hy3.out rfl _ Tryz.underlying30 rfl (by rw[hs2];kernel_rfl) ?_;refine hK' _ _ ?_;clear hK' K')|go_step)
 (with_reducible refine(H1'.out _ Hw3.out).mono ?_);rintro e w4 ⟨rfl,hb4⟩;have hw4:=Hw3.out.trans (hb4.mono Hw3.out.size);have hx4:=Hx3.out.below hb4 Hx3.out.lt;have hy4:=Hy3.out.below hb4 Hy3.out.lt;obtain⟨Hw4,Hx4,Hy4,G2⟩:=hid4 hw4 hx4 hy4 g2;clear hw4 hx4 hy4 g2;clear hb4;by_cases hm':Bk m'=0;rotate_left
 . generalize Bk m'=c at hm' ⊢;have t0:(c != 0)=true:=by simpa using hm'
   clear hm';go_wp2_with (fail);(with_reducible refine(GK.out _ Hw4.out).mono ?_);rintro e w9 ⟨rfl,hb9⟩;have hw9:=Hw4.out.trans (hb9.mono Hw4.out.size);have Hw9:=Lib.hid hw9;clear hw9;clear hb9;go_wp2;go_ret;exact⟨rfl,Hw9.out⟩
 rw[hm'];have g2':=H2'.out;rw[hm']at g2';simp only[if_true]at g2';have hts:=Hts.out hm hm';generalize Eo (Bb m)=Ta at G2 hts;generalize Eo (Bb m')=Tb at g2' hts;have G2':=Lib.hid g2';clear g2';clear hm hm';dsimp only;go_upto_region 6 with(fail)
 iterate 2 go_step
 refine Ac Ag (.tmp 2) rfl w.heap.size _ Hx4.out rfl _ Tryz.underlying30 rfl (by rw[hs1];kernel_rfl) ?_;go_wp2_with (fail);(with_reducible refine(G2.out _ Hw4.out).mono ?_);rintro e w5 ⟨hb5,rfl⟩;have hw5:=Hw4.out.trans (hb5.mono Hw4.out.size);have hy5:=Hy4.out.below hb5 Hy4.out.lt;obtain⟨Hw5,Hy5⟩:=hid2 hw5 hy5;clear hw5 hy5;clear hb5;dsimp only;go_upto_region 7 with(fail)
 iterate 2 go_step
 refine Ac Ag (.tmp 3) rfl (w.heap.size+1) _ Hy5.out rfl _ Tryz.underlying30 rfl (by rw[hs2];kernel_rfl) ?_;go_wp2_with (fail);(with_reducible refine(G2'.out _ Hw5.out).mono ?_);rintro e w6 ⟨hb6,rfl⟩;have hw6:=Hw5.out.trans (hb6.mono Hw5.out.size);have Hw6:=Lib.hid hw6;clear hw6;clear hb6;dsimp only
 cases B2 with
 |true=>
  obtain rfl:=hts.2 rfl;clear hts;go_wp2_with (fail);(with_reducible refine(GK.out _ Hw6.out).mono ?_);rintro e w9 ⟨rfl,hb9⟩;have hw9:=Hw6.out.trans (hb9.mono Hw6.out.size);have Hw9:=Lib.hid hw9;clear hw9;clear hb9;go_wp2;go_ret;exact⟨rfl,Hw9.out⟩
 |false=>
  have hne: ¬Ta=Tb:=fun e=>by have:=hts.1 e;cases this
  have e1:(Ta.toList==Tb.toList)=false:=by
   rw[beq_eq_false_iff_ne];intro e;rw[Lib.toList_data,Lib.toList_data]at e;exact hne (ByteArray.ext (Array.ext' e))
  have e3: ¬Ta.toList=Tb.toList:=by simpa using e1
  clear hts hne;go_wp2_with (fail);(with_reducible refine(GK.out _ Hw6.out).mono ?_);rintro e w9 ⟨rfl,hb9⟩;have hw9:=Hw6.out.trans (hb9.mono Hw6.out.size);have Hw9:=Lib.hid hw9;clear hw9;clear hb9;go_wp2;go_ret;exact⟨rfl,Hw9.out⟩
end Go.Proofs.YtmglfdckpjegdaaGreatDoor
