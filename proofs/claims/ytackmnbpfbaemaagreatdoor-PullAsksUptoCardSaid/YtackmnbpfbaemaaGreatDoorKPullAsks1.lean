/- Parts, joined: The law PullAsks returns true. No condition. -/
import Derived.Test.YtackmnbpfbaemaaGreatDoorProg
import Derived.Test.YtackmnbpfbaemaaGreatDoorKAs34
import Derived.Test.YtackmnbpfbaemaaGreatDoorKAs40
import Derived.Test.YtackmnbpfbaemaaGreatDoorKAs43
import Derived.Test.YtackmnbpfbaemaaGreatDoorKAs44
namespace Go.Proofs.YtackmnbpfbaemaaGreatDoor
open Go Go.RowKit
set_option maxRecDepth 100000 in
set_option maxHeartbeats 2000000 in
theorem asks_no (c k:Int) (h0:0≤c) (hm:mayReq c k≠0) (w:World) (hT:Tabs w) (hN:Names w):
 Calls Tryz.prog 3 #[.agg #[.int .u64 c, .int .u64 k]] w fun e w'=>e= .returned (.bool true)∧Below w.heap.size w w':=by
 have h2:=fun(W:World)=>encReq_no c k hm W
 have h3:=fun(W:World)=>RMayRequest_calls c k W h0
 have h4:=fun(W:World) hB=>known18_calls W (hT.below (w':=W) hB) (hN.below hB)
 generalize mayReq c k=X at hm h2 h3
 have tX:(X != 0)=true:=by simpa using hm
 have eX:(X==X)=true:=by simp
 obtain⟨wi,hwi⟩: ∃wi,w.alloc (.cells #[.int .u64 c, .int .u64 k] 24)=wi:=⟨_,rfl⟩
 have hxb:Blk wi w.heap.size 24 #[.int .u64 c, .int .u64 k]:=hwi▸Blk.new _ _ _
 have hbi:Below w.heap.size w wi:=hwi▸alloc_below _ _
 have d0:=hxb.cell 0
 have d1:=hxb.cell 1
 have g0:=hxb.lt
 have H2:=Lib.hid h2
 have H3:=Lib.hid h3
 have H4:=Lib.hid h4
 have Hxb:=Lib.hid hxb
 have Hbi:=Lib.hid hbi
 have HT:=Lib.hid hT
 have HN:=Lib.hid hN
 clear h2 h3 h4 hxb hbi hT hN
 clear hm
 go_enter Tryz.func3,Tryz.ntmps3
 go_upto_region 1 with(fail)
 clear hwi
 go_wp2_with (fail)
 refine(H2.out _).mono ?_
 rintro e w2 ⟨rfl,hb2⟩
 have hbw2:=Hbi.out.trans (hb2.mono Hbi.out.size)
 obtain⟨hc2,hg2⟩:=bcellM hb2
 go_wp2_with (fail)
 refine(H3.out _).mono ?_
 rintro e w3 ⟨rfl,hb3⟩
 have hbw3:=hbw2.trans (hb3.mono hbw2.size)
 go_wp2_with (fail)
 refine(H4.out _ hbw3).mono ?_
 rintro e w4 ⟨rfl,hb4⟩
 have hbw4:=hbw3.trans (hb4.mono hbw3.size)
 go_wp2
 go_ret
 exact⟨rfl,hbw4⟩
set_option maxRecDepth 100000 in
set_option maxHeartbeats 4000000 in
theorem asks_yes (c k:Int) (h0:0≤c∧0≤k) (hm:mayReq c k=0) (w:World) (hT:Tabs w) (hN:Names w) (hNT:NumT w):
 Calls Tryz.prog 3 #[.agg #[.int .u64 c, .int .u64 k]] w fun e w'=>e= .returned (.bool true)∧Below w.heap.size w w':=by
 obtain⟨y1,y2,y3⟩:0<c∧c≤4611686018427387903∧k≤4611686018427387903:=by
  have hm':=hm
  unfold mayReq at hm'
  split at hm'
  · assumption
  · cases hm'
 have hmv:=may_req c k
 have hiv:=in_req (c:=c) (k:=k) (by omega) y2 h0.2 y3
 have hbv:=bulk_req c k
 have hbo:(ov (reqO c k)).bulk≤1000:=by simp only[ov,Val.bulk,bulkL];have:nil0.size=0:=rfl;omega
 have hln:=textV_len _ (okV_of _ 1 hmv hiv)
 have h2:=fun(W:World) hB=>encReq_calls c k y1 y2 h0.2 y3 W (hT.below (w':=W) hB)
 have h3:=fun(W:World)=>RMayRequest_calls c k W h0.1
 have h4:=fun(W:World) hB=>known18_calls W (hT.below (w':=W) hB) (hN.below hB)
 have h5:=fun(W:World)=>refReq_calls c k h0 ⟨y2,y3⟩ W
 have h6: ∀(W:World) a' c',HoldsV W W.heap.size (ov (reqO c k)) [.int .i64 6, .bool false, .int .i64 0, .string ⟨#[]⟩, .slice none 0 0, .slice a' 2 c']→Calls Tryz.prog 12 #[.int .u8 2, .agg #[.int .i64 6, .bool false, .int .i64 0, .string ⟨#[]⟩, .slice none 0 0, .slice a' 2 c']] W (BytesPost (sealL (2::textV (ov (reqO c k)))) W):=
  fun W a' c' hh=>rFrame_calls 2 (by decide) 6 false 0 nil0 [] (reqO c k) none a' 0 c' W hh (by simp only[ov]at hbo;omega) hmv hiv
 rw[hm]at h3
 have hlM:(sealL (2::textV (ov (reqO c k)))).length≤10000:=by rw[sealL_len,List.length_cons];omega
 have hdec:=decReq_frame h0.1 h0.2 hm hmv hiv
 generalize sealL (2::textV (ov (reqO c k)))=M at h2 h6 hlM hdec
 have h8: ∀(W:World) a n cc,Below w.heap.size w W→Holds W W.heap.size (.row 1 (dB M)) [.slice a n cc]→n≤cc→Calls Tryz.prog 10 #[.slice a n cc] W fun e w'=>e= .returned (.tuple #[.agg #[.int .u64 c, .int .u64 k], .int .i64 0])∧Below W.heap.size W w':=fun W a n cc hB hh hc=>by
  have:=decodeReq_calls M a n cc W (hT.below hB) (hNT.below hB) hh hc (by omega)
  unfold DecPostQ at this
  rw[hdec]at this
  exact this
 have h7:=fun(W:World) a n c a' n' c' h h'=>same_calls M M a a' n c n' c' true W h h' (by omega) (by omega) (by simp)
 obtain⟨wi,hwi⟩: ∃wi,w.alloc (.cells #[.int .u64 c, .int .u64 k] 24)=wi:=⟨_,rfl⟩
 have hxb:Blk wi w.heap.size 24 #[.int .u64 c, .int .u64 k]:=hwi▸Blk.new _ _ _
 have hbi:Below w.heap.size w wi:=hwi▸alloc_below _ _
 have d0:=hxb.cell 0
 have d1:=hxb.cell 1
 have g0:=hxb.lt
 have ec:(c==c)=true:=by simp
 have ek:(k==k)=true:=by simp
 have H2:=Lib.hid h2
 have H3:=Lib.hid h3
 have H4:=Lib.hid h4
 have H5:=Lib.hid h5
 have H6:=Lib.hid h6
 have H7:=Lib.hid h7
 have H8:=Lib.hid h8
 have Hxb:=Lib.hid hxb
 have Hbi:=Lib.hid hbi
 have HT:=Lib.hid hT
 have HN:=Lib.hid hN
 clear h2 h3 h4 h5 h6 h7 h8 hxb hbi hT hN
 clear hm hmv hiv hbv hbo hln hlM hdec hNT
 go_enter Tryz.func3,Tryz.ntmps3
 go_upto_region 1 with(fail)
 clear hwi
 go_wp2_with (fail)
 refine(H2.out _ Hbi.out).mono ?_
 rintro e w2 ⟨a2,c2,rfl,hf2,hb2⟩
 have hbw2:=Hbi.out.trans (hb2.mono Hbi.out.size)
 obtain⟨hc2,hg2⟩:=bcellM hb2
 go_wp2_with (fail)
 refine(H3.out _).mono ?_
 rintro e w3 ⟨rfl,hb3⟩
 have hbw3:=hbw2.trans (hb3.mono hbw2.size)
 have hbr3:Below wi.heap.size wi w3:=hb2.trans (hb3.mono hb2.size)
 clear hc2 hg2
 go_wp2_with (fail)
 refine(H8.out _ _ _ _ hbw3 (hf2.later hb3).now (by omega)).mono ?_
 rintro e w4 ⟨rfl,hb4⟩
 have hbw4:=hbw3.trans (hb4.mono hbw3.size)
 have hbr4:=hbr3.trans (hb4.mono hbr3.size)
 obtain⟨wj,hwj⟩: ∃wj,w4.alloc (.cells #[.int .u64 c, .int .u64 k] 24)=wj:=⟨_,rfl⟩
 have hpb:Blk wj w4.heap.size 24 #[.int .u64 c, .int .u64 k]:=hwj▸Blk.new _ _ _
 have hbj:Below w4.heap.size w4 wj:=hwj▸alloc_below _ _
 have hqb:=(Hxb.out.below hbr4 g0).below hbj (Nat.lt_of_lt_of_le g0 hbr4.size)
 have q0:=hqb.cell 0
 have q1:=hqb.cell 1
 have ql:=hqb.lt
 have hfj:=((hf2.later hb3).later hb4).later hbj
 have hbwj:=hbw4.trans (hbj.mono hbw4.size)
 have Hpb:=Lib.hid hpb
 have Hbj:=Lib.hid hbj
 have Hqb:=Lib.hid hqb
 have Hfj:=Lib.hid hfj
 have Hbwj:=Lib.hid hbwj
 have Hbr4:=Lib.hid hbr4
 have Hbw4:=Lib.hid hbw4
 have Hbw3:=Lib.hid hbw3
 have Hbw2:=Lib.hid hbw2
 have Hbr3:=Lib.hid hbr3
 have Hf2:=Lib.hid hf2
 clear hpb hbj hqb hfj hbwj hbr4 hbw4 hbw3 hbw2 hbr3 hf2
 clear hb2 hb3 hb4 d0 d1
 go_upto_region 6 with(fail)
 clear hwj
 go_wp2_with (fail)
 refine(H5.out _).mono ?_
 rintro e w5 ⟨hb5,a5,c5,rfl,hv5⟩
 go_wp2_with (fail)
 refine(H6.out _ _ _ hv5).mono ?_
 rintro e w6 ⟨a6,c6,rfl,hf6,hb6⟩
 go_wp2_with (fail)
 refine(H7.out _ _ _ _ _ _ _ ((Hfj.out.later hb5).later hb6).now hf6.now).mono ?_
 rintro e w7 ⟨rfl,hb7⟩
 have hr7:=(hb5.trans (hb6.mono hb5.size)).trans (hb7.mono (Nat.le_trans hb5.size hb6.size))
 have hp7:=Hpb.out.below hr7 Hpb.out.lt
 have hq7:=Hqb.out.below hr7 Hqb.out.lt
 have p0:=hp7.cell 0
 have p1:=hp7.cell 1
 have u0:=hq7.cell 0
 have u1:=hq7.cell 1
 have pl:=hp7.lt
 have ul:=hq7.lt
 have hbw7:=Hbwj.out.trans (hr7.mono Hbwj.out.size)
 have Hp7:=Lib.hid hp7
 have Hq7:=Lib.hid hq7
 have Hr7:=Lib.hid hr7
 have Hf6:=Lib.hid hf6
 have Hv5:=Lib.hid hv5
 clear hp7 hq7 hr7 hf6 hv5
 clear hb5 hb6 hb7 q0 q1 ql
 go_wp2_with (fail)
 refine(H4.out _ hbw7).mono ?_
 rintro e w8 ⟨rfl,hb8⟩
 have hbw8:=hbw7.trans (hb8.mono hbw7.size)
 go_wp2
 go_ret
 exact⟨rfl,hbw8⟩
theorem PullAsks_law (c k:Int) (h0:0≤c∧0≤k) (w:World) (hT:Tabs w) (hN:Names w) (hNT:NumT w):
 Calls Tryz.prog 3 #[.agg #[.int .u64 c, .int .u64 k]] w fun e w'=>e= .returned (.bool true)∧Below w.heap.size w w':=by
 by_cases hm:mayReq c k=0
 · exact asks_yes c k h0 hm w hT hN hNT
 · exact asks_no c k h0.1 hm w hT hN
end Go.Proofs.YtackmnbpfbaemaaGreatDoor
