/- Parts: The law PushForms returns true. Condition: a bulk of at most 2 * 10^6. -/
import Derived.Test.YtobmaegpfbheoaaGreatDoorKPf38
import Derived.Test.YtobmaegpfbheoaaGreatDoorKPushForms2
import Derived.Test.YtobmaegpfbheoaaGreatDoorKPushForms3
import Derived.Test.YtobmaegpfbheoaaGreatDoorKPushForms9
set_option maxHeartbeats 20000000
set_option maxRecDepth 100000
namespace Go.Proofs.YtobmaegpfbheoaaGreatDoor
open Go Go.RowKit
def Rv (r:Option (List UInt8)) (w:World) (e:Ending) (w':World):Prop:=Below w.heap.size w w'/\match r with
 |none=>e=.returned (.tuple #[.slice none 0 0,.bool false])
 |some x=> ∃a c,e=.returned (.tuple #[.slice a x.length (x.length+c),.bool true])/\Ax w.heap.size w' (.row 1 (dB x)) [.slice a x.length (x.length+c)]
theorem Rv.no {w w':World} {r:Option (List UInt8)} (h:r=none) (hb:Below w.heap.size w w'):Rv r w (.returned (.tuple #[.slice none 0 0,.bool false])) w':=by
 subst h;exact⟨hb,rfl⟩
def Rt (k:UInt8) (l:List UInt8) (w:World) (e:Ending) (w':World):Prop:=Below w.heap.size w w'/\
 if Yy k l=0 then ∃a c,e=.returned (.tuple #[.slice a (R8 l).length ((R8 l).length+c),.int .i64 0])/\Ax w.heap.size w' (.row 1 (dB (R8 l))) [.slice a (R8 l).length ((R8 l).length+c)]
 else e=.returned (.tuple #[.slice none 0 0,.int .i64 (Yy k l)])
theorem Rt.no {k:UInt8} {l:List UInt8} {w w':World} {c:Int} (h:Yy k l=c) (hc:c≠0) (hb:Below w.heap.size w w'):Rt k l w (.returned (.tuple #[.slice none 0 0,.int .i64 c])) w':=by
 subst h;refine⟨hb, ?_⟩;rw[if_neg hc]
theorem V5 (c:Int) (l:List Num) (a:Option Addr) (n cc:Nat) (w:World) (hc0:0<=c) (hT:B7 w) (h:Ag w w.heap.size (.row 20 (Si l)) [.slice a n cc]) (hb:Dj l<=2000000) (hin:Xq l) (hm:B9 c l≠0):
 Calls Tryz.prog 7 #[.agg #[.int .u64 c,.slice a n cc]] w fun e w'=>e=.returned (.tuple #[.slice none 0 0,.int .i64 (B9 c l)])/\Below w.heap.size w w':=by
 have hM:=fun(W:World) (hB:Below w.heap.size w W)=>Jm c l a n cc W hc0 (hT.below hB) ((h.below hB).more hB.size) (by omega) hin;generalize B9 c l=X at hm hM ⊢;have tX:(X != 0)=true:=by simpa using hm
 obtain⟨wi,hwi⟩: ∃wi,w.alloc (.cells #[.int .u64 c,.slice a n cc] 25)=wi:=⟨_,rfl⟩;have Hbi:Hid (Below w.heap.size w wi):=hwi▸Aa _ _;have hxi:Aj wi w.heap.size 25 #[.int .u64 c,.slice a n cc]:=hwi▸Aj.new _ _ _;have d0:=hxi.cell 0;have d1:=hxi.cell 1;have hgi:=hxi.lt;obtain⟨HT,H,HM,Hxi⟩:=hid4 hT h hM hxi;clear hT h hM hxi;clear hm;go_enter Tryz.func7,Tryz.ntmps7;go_upto_region 1 with(fail);clear hwi;go_wp2_with (fail);(with_reducible refine(HM.out _ Hbi.out).mono ?_);rintro e w1 ⟨rfl,hb1⟩;have hw1:=Hbi.out.trans (hb1.mono Hbi.out.size);go_wp2;go_ret2;exact⟨rfl,hw1⟩
theorem X0 (c:Int) (l:List Num) (hc:0<=c) (hm:B9 c l≠0) (a:Option Addr) (n cc:Nat) (w:World) (hT:B7 w) (hN:C0 w) (h:Ag w w.heap.size (.row 20 (Si l)) [.slice a n cc]) (hb:Dj l<=2000000) (hin:Xq l):
 Calls Tryz.prog 3 #[.agg #[.int .u64 c,.slice a n cc]] w fun e w'=>e=.returned (.bool true)/\Below w.heap.size w w':=by
 have h2:=fun(W:World) hB=>V5 c l a n cc W hc (hT.below (w':=W) hB) ((h.below hB).more hB.size) hb hin hm;have h3:=fun(W:World) hB=>Ig c l a n cc W hc (hT.below (w':=W) hB) ((h.below hB).more hB.size) (by omega) hin;have H4:=qz (fun(W:World) hB=>Ji W (hT.below (w':=W) hB) (hN.below hB));generalize B9 c l=X at hm h2 h3;have tX:(X != 0)=true:=by simpa using hm
 obtain⟨wi,hwi⟩: ∃wi,w.alloc (.cells #[.int .u64 c,.slice a n cc] 25)=wi:=⟨_,rfl⟩;have hxb:Aj wi w.heap.size 25 #[.int .u64 c,.slice a n cc]:=hwi▸Aj.new _ _ _;have Hbi:Hid (Below w.heap.size w wi):=hwi▸Aa _ _;have d0:=hxb.cell 0;have d1:=hxb.cell 1;have g0:=hxb.lt;obtain⟨H2,H3,Hxb,HT,HN,H⟩:=hid6 h2 h3 hxb hT hN h;clear h2 h3 hxb hT hN h;clear hm;go_enter Tryz.func3,Tryz.ntmps3;go_upto_region 1 with(fail);clear hwi;go_wp2_with (fail);(with_reducible refine(H2.out _ Hbi.out).mono ?_);rintro e w2 ⟨rfl,hb2⟩;have Hw2:=qz (Hbi.out.trans (hb2.mono Hbi.out.size));have hx2:=Hxb.out.below hb2 Hxb.out.lt;clear d0 d1 g0;have d0:=hx2.cell 0;have d1:=hx2.cell 1;have g0:=hx2.lt;obtain⟨Hb2,Hx2⟩:=hid2 hb2 hx2;clear hb2 hx2;go_wp2_with (fail);(with_reducible refine(H3.out _ Hw2.out).mono ?_);rintro e w3 ⟨rfl,hb3⟩;have Hw3:=qz (Hw2.out.trans (hb3.mono Hw2.out.size));have Hb3:=qz hb3;clear hb3;clear d0 d1 g0;go_wp2_with (fail);(with_reducible refine(H4.out _ Hw3.out).mono ?_);rintro e w4 ⟨rfl,hb4⟩;have hw4:=Hw3.out.trans (hb4.mono Hw3.out.size);go_wp2;go_ret;exact⟨rfl,hw4⟩
theorem V7 (c:Int) (l:List Num) (hc:0<=c) (hm:B9 c l=0) (a:Option Addr) (n cc:Nat) (w:World) (hT:B7 w) (hN:C0 w) (h:Ag w w.heap.size (.row 20 (Si l)) [.slice a n cc]) (hb:Dj l<=2000000) (hin:Xq l):
 Calls Tryz.prog 3 #[.agg #[.int .u64 c,.slice a n cc]] w fun e w'=>e=.returned (.bool true)/\Below w.heap.size w w':=by
 obtain⟨hc1,hmn⟩:c<=4611686018427387903/\Fq l=0:=by
  have hm':=hm;unfold B9 at hm'
  split at hm'
  . cases hm'
  . split at hm'
    . cases hm'
    . exact⟨by omega,hm'⟩
 have hmv:=N7 (c:=c) hmn;have hiv:=Qy hc hc1 hmn hin;have hbv:=Lc c l hb;have hln:=Fd _ (Oc _ 1 hmv hiv);have h2:=fun(W:World) hB=>Jk c l a n cc W hc (hT.below (w':=W) hB) (hN.below hB) ((h.below hB).more hB.size) hb hin hm;have h3:=fun(W:World) hB=>Ig c l a n cc W hc (hT.below (w':=W) hB) ((h.below hB).more hB.size) (by omega) hin;have H4:=qz (fun(W:World) hB=>Ji W (hT.below (w':=W) hB) (hN.below hB));have h5:=fun(W:World) hB=>Tl c l a n cc W hc hc1 ((h.below (w':=W) hB).more hB.size) hb hin hmn;have hFr: ∀(W:World) (a:Option Addr) (n c':Nat),Ag W W.heap.size (.row 1 (dB (Bd (ov (Db c l))))) [.slice a n c']->Calls Tryz.prog 10 #[.int .u8 1,.slice a n c'] W (Ex (Ew (1::Bd (ov (Db c l)))) W):=fun W a n c' hh=>Kq 1 (by decide) (Bd (ov (Db c l))) a n c' W hh (by omega);rw[hm]at h3;obtain⟨S,hS⟩: ∃S:ByteArray,⟨(Bd (ov (Db c l))).toArray⟩=S:=⟨_,rfl⟩;have hSe:Bd (ov (Db c l))=S.data.toList:=by rw[<-hS]
 rw[hS]at h5;have hlM:(Ew (1::Bd (ov (Db c l)))).length<=2000000000:=by unfold Ew;simp[Ij];omega
 rw[hSe]at hFr h2 hlM;generalize Ew (1::S.data.toList)=M at h2 hFr hlM;have H7:=qz (fun(W:World) a n c a' n' c' h h'=>Oh M M a a' n c n' c' true W h h' hlM hlM (by simp));obtain⟨wi,hwi⟩: ∃wi,w.alloc (.cells #[.int .u64 c,.slice a n cc] 25)=wi:=⟨_,rfl⟩;have hxb:Aj wi w.heap.size 25 #[.int .u64 c,.slice a n cc]:=hwi▸Aj.new _ _ _;have Hbi:Hid (Below w.heap.size w wi):=hwi▸Aa _ _;have d0:=hxb.cell 0;have d1:=hxb.cell 1;have g0:=hxb.lt;obtain⟨H2,H3,H5,HFr,Hxb,HT,HN,H⟩:=hid8 h2 h3 h5 hFr hxb hT hN h;clear h2 h3 h5 hFr hxb hT hN h;clear hm hmn hmv hiv hbv hln hlM hS hSe;go_enter Tryz.func3,Tryz.ntmps3;go_upto_region 1 with(fail);clear hwi;go_wp2_with (fail);(with_reducible refine(H2.out _ Hbi.out).mono ?_);rintro e w2 ⟨a2,c2,rfl,hf2,hb2⟩;have Hw2:=qz (Hbi.out.trans (hb2.mono Hbi.out.size));have hx2:=Hxb.out.below hb2 Hxb.out.lt;clear d0 d1 g0;have d0:=hx2.cell 0;have d1:=hx2.cell 1;have g0:=hx2.lt;obtain⟨Hb2,Hx2⟩:=hid2 hb2 hx2;clear hb2 hx2;go_wp2_with (fail);(with_reducible refine(H3.out _ Hw2.out).mono ?_);rintro e w3 ⟨rfl,hb3⟩;have Hw3:=qz (Hw2.out.trans (hb3.mono Hw2.out.size));have hx3:=Hx2.out.below hb3 Hx2.out.lt;have Hf3:=qz (hf2.later hb3);clear d0 d1 g0;have d0:=hx3.cell 0;have d1:=hx3.cell 1;have g0:=hx3.lt;obtain⟨Hb3,Hx3⟩:=hid2 hb3 hx3;clear hb3 hx3;go_wp2_with (fail);(with_reducible refine(H5.out _ Hw3.out).mono ?_);rintro e w4 ⟨rfl,hb4⟩;have Hw4:=qz (Hw3.out.trans (hb4.mono Hw3.out.size));have Hf4:=qz (Hf3.out.later hb4);clear d0 d1 g0;go_wp2_with (first
  |(refine G9 rfl 9 26 5 (.tmp 30) rfl Tryz.underlying9 Tryz.underlying26 Tryz.underlying5 S rfl ?_;intro cap w5 hb5 hf5)
  |(go_at_call 10;(with_reducible refine(HFr.out _ _ _ _ hf5.now).mono ?_);rintro e w6 ⟨a6,c6,rfl,hf6,hb6⟩;have hf16:=(Hf4.out.later hb5).later hb6;have hw6:=Hw4.out.trans ((hb5.trans (hb6.mono hb5.size)).mono Hw4.out.size))
  |(go_at_call 12;(with_reducible refine(H7.out _ _ _ _ _ _ _ hf16.now hf6.now).mono ?_);rintro e w7 ⟨rfl,hb7⟩;have hw7:=hw6.trans (hb7.mono hw6.size))
  |(go_at_call 9;(with_reducible refine(H4.out _ hw7).mono ?_);rintro e w8 ⟨rfl,hb8⟩;have hw8:=hw7.trans (hb8.mono hw7.size)))
 go_ret;exact⟨rfl,hw8⟩
theorem Ou (c:Int) (l:List Num) (hc:0<=c) (a:Option Addr) (n cc:Nat) (w:World) (hT:B7 w) (hN:C0 w) (h:Ag w w.heap.size (.row 20 (Si l)) [.slice a n cc]) (hb:Dj l<=2000000) (hin:Xq l):
 Calls Tryz.prog 3 #[.agg #[.int .u64 c,.slice a n cc]] w fun e w'=>e=.returned (.bool true)/\Below w.heap.size w w':=by
 by_cases hm:B9 c l=0
 . exact V7 c l hc hm a n cc w hT hN h hb hin
 . exact X0 c l hc hm a n cc w hT hN h hb hin
end Go.Proofs.YtobmaegpfbheoaaGreatDoor
