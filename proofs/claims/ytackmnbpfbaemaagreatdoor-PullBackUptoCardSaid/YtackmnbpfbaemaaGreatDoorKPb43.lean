/- Parts, joined: pull.EncodeRequest, pull.EncodeResponse of what may be. Condition: a bulk of at most 7 * 10^6. commonplacelaw18.known: the chapter's rows are so. No condition. commonplaceref18.Frame: the frame of a kind and a value that may be. Condition: a bulk of at most 10^8. What the rows' listed tables give the walks. No condition. The last step of a law's row: the answer is true and the arguments read as they did. No condition. What the pulls' rows' listed errors give the walks. No condition. commonplacelaw18.own: bytes in memory of their own. Condition: at most 10^9 bytes. -/
import Derived.Test.YtackmnbpfbaemaaGreatDoorProg
import Derived.Deep.RegionHeld3
import Derived.Below
import Derived.ChangeSame
import Derived.WideKeyArgs
import Derived.OpenShut
import Derived.Test.YtackmnbpfbaemaaGreatDoorKPb4
import Derived.Test.YtackmnbpfbaemaaGreatDoorKPb15
import Derived.Test.YtackmnbpfbaemaaGreatDoorKPb19
import Derived.Test.YtackmnbpfbaemaaGreatDoorKPb27
import Derived.Test.YtackmnbpfbaemaaGreatDoorKPb31
import Derived.Test.YtackmnbpfbaemaaGreatDoorKPb37
import Derived.Test.YtackmnbpfbaemaaGreatDoorKPb40
namespace Go.Proofs.YtackmnbpfbaemaaGreatDoor
open Go Go.RowKit
theorem req_all (c k:Int):objAll (reqO c k) []=some (reqO c k):=by kernel_rfl
theorem resp_all (c b k s:Int) (l:List POp):objAll (respO c b k s l) []=some (respO c b k s l):=by kernel_rfl
theorem may_req (c k:Int):mayV (ov (reqO c k)) 1=0:=by
 have v1:validB kClient=true:=by decide
 have v2:validB kCookie=true:=by decide
 have l1:leB kCookie kClient=false:=by decide+kernel
 exact may_ov (by omega) (mayO_cons v1 (may_iv (by omega)) (last_none _) (mayO_cons v2 (may_iv (by omega)) (last_some l1) (by simp[mayO])))
theorem may_resp (c b k s:Int) {l:List POp} (h:mayOps none l=0):mayV (ov (respO c b k s l)) 1=0:=by
 have v0:validB kBase=true:=by decide
 have v1:validB kClient=true:=by decide
 have v2:validB kCookie=true:=by decide
 have v3:validB kLast=true:=by decide
 have v4:validB kPatch=true:=by decide
 have l0:leB kClient kBase=false:=by decide+kernel
 have l1:leB kCookie kClient=false:=by decide+kernel
 have l2:leB kLast kCookie=false:=by decide+kernel
 have l3:leB kPatch kLast=false:=by decide+kernel
 exact may_ov (by omega) (mayO_cons v0 (may_iv (by omega)) (last_none _) (mayO_cons v1 (may_iv (by omega)) (last_some l0) (mayO_cons v2 (may_iv (by omega)) (last_some l1) (mayO_cons v3 (may_iv (by omega)) (last_some l2) (mayO_cons v4 (may_listQ (mayOps_all h) (by omega)) (last_some l3) (by simp[mayO]))))))
theorem in_req {c k:Int} (h0:0≤c) (h1:c≤4611686018427387903) (h2:0≤k) (h3:k≤4611686018427387903):inV (ov (reqO c k)):=by
 simp only[ov,reqO,inV,inL,inO,inP]
 exact⟨by omega,trivial,in_iv h0 h1,in_iv h2 h3,trivial⟩
theorem in_resp {c b k s:Int} {l:List POp} (h0:0≤c) (h1:c≤4611686018427387903) (h2:0≤k) (h3:k≤4611686018427387903) (h4:0≤b) (h5:b≤4611686018427387903) (h6:0≤s) (h7:s≤4611686018427387903) (hl:inQ l):inV (ov (respO c b k s l)):=by
 simp only[ov,respO,inV,inL,inO,inP]
 exact⟨by omega,trivial,in_iv h4 h5,in_iv h0 h1,in_iv h2 h3,in_iv h6 h7,in_listQ hl,trivial⟩
theorem bulk_req (c k:Int):bulkO (reqO c k)≤100:=by
 have e1:kClient.size=6:=rfl
 have e2:kCookie.size=6:=rfl
 simp only[reqO,bulkO,bulkP,bulk_iv,e1,e2];omega
theorem bulk_resp (c b k s:Int) {l:List POp} (h:bulkQ l≤7000000):bulkO (respO c b k s l)≤60000000:=by
 have e0:kBase.size=4:=rfl
 have e1:kClient.size=6:=rfl
 have e2:kCookie.size=6:=rfl
 have e3:kLast.size=4:=rfl
 have e4:kPatch.size=5:=rfl
 have h1:=bulk_listQ l
 have h2:=bulkQ_len l
 simp only[respO,bulkO,bulkP,bulk_iv,e0,e1,e2,e3,e4];omega
theorem holds_req (w:World) (c k:Int):Holds (w.alloc (.cells #[.string kClient, .int .i64 3, .bool false, .int .i64 c, .string ⟨#[]⟩, .slice none 0 0, .slice none 0 0, .string kCookie, .int .i64 3, .bool false, .int .i64 k, .string ⟨#[]⟩, .slice none 0 0, .slice none 0 0] 63)) (w.alloc (.cells #[.string kClient, .int .i64 3, .bool false, .int .i64 c, .string ⟨#[]⟩, .slice none 0 0, .slice none 0 0, .string kCookie, .int .i64 3, .bool false, .int .i64 k, .string ⟨#[]⟩, .slice none 0 0, .slice none 0 0] 63)).heap.size (.row 7 (dO (reqO c k))) [.slice (some ⟨w.heap.size,0,none⟩) 2 2]:=
 holds_blk (Blk.new _ _ _) (dO_cells _) ((HoldsA.one (holds_ivP _ _ kClient c)).app (HoldsA.one (holds_ivP _ _ kCookie k))) rfl
set_option maxRecDepth 100000 in
set_option maxHeartbeats 2000000 in
theorem encReq_calls (c k:Int) (h1:0<c) (h2:c≤4611686018427387903) (h3:0≤k) (h4:k≤4611686018427387903) (w:World) (hT:Tabs w):
 Calls Tryz.prog 7 #[.agg #[.int .u64 c, .int .u64 k]] w (BytesPost0 (sealL (2::textV (ov (reqO c k)))) w):=by
 have hm:mayReq c k=0:=by unfold mayReq;rw[if_pos ⟨h1,h2,h4⟩]
 have hM:=fun W=>MayRequest_calls c k W
 rw[hm]at hM
 have hn1:=fun W=>number_calls kClient c (by omega) h2 W
 have hn2:=fun W=>number_calls kCookie k h3 h4 W
 have hF:=fun(W:World) a n cc hB h=>pframed_calls 2 (by decide) (reqO c k) _ a n cc W (hT.below hB) h (by have:=bulk_req c k;omega) (req_all c k) (may_req c k) (in_req (by omega) h2 h3 h4)
 have hH:=fun W=>holds_req W c k
 generalize sealL (2::textV (ov (reqO c k)))=L at hF ⊢
 have HM:=Lib.hid hM
 have Hn1:=Lib.hid hn1
 have Hn2:=Lib.hid hn2
 have HF:=Lib.hid hF
 have HH:=Lib.hid hH
 have Hm:=Lib.hid hm
 clear hM hn1 hn2 hF hH hm
 go_enter Tryz.func7,Tryz.ntmps7
 go_upto_region 4 with(go_at_call 23;(with_reducible refine(HM.out _).mono ?_);rintro e w1 ⟨rfl,hb1⟩)
 have hb0:Below w.heap.size w (w.alloc (.cells #[.int .u64 c, .int .u64 k] 24)):=(Below.refl _ _).alloc (Nat.le_refl _) _
 have hx1:=(Blk.new w 24 #[.int .u64 c, .int .u64 k]).below hb1 (Blk.lt (Blk.new _ _ _))
 have d0:=hx1.cell 0
 have d1:=hx1.cell 1
 have hb01:=hb0.trans (hb1.mono hb0.size)
 have hgx:=hx1.lt
 have Hx1:=Lib.hid hx1
 have Hb0:=Lib.hid hb0
 have Hb01:=Lib.hid hb01
 clear hx1 hb0 hb01
 clear hb1
 go_region_held3 (fun W=>W.cell? ⟨w.heap.size,0,none⟩=some (.int .u64 c)∧W.cell? ⟨w.heap.size,1,none⟩=some (.int .u64 k)) (go_keep) (first
  |(go_at_call 25;refine(Hn1.out _).mono ?_;rintro e w2 ⟨rfl,hb2⟩;have hbr2:Below w1.heap.size w1 w2:=((Below.drew (Below.refl _ _)).trans hb2);obtain⟨hc2,hf2⟩:=bcellM hbr2)
  |(go_at_call 25;refine(Hn2.out _).mono ?_;rintro e w3 ⟨rfl,hb3⟩;have hbr3:=hbr2.trans (hb3.mono hbr2.size);obtain⟨hc3,hf3⟩:=bcellM hbr3)
  |(go_at_call 24;refine(HF.out _ _ _ _ ((Hb01.out.trans (hbr3.mono Hb01.out.size)).alloc (Nat.le_trans Hb01.out.size hbr3.size) _) (HH.out _)).mono ?_;rintro e w4 ⟨a2,c2,rfl,hf4,hb4⟩;have hbr4:=(hbr3.alloc hbr3.size _).trans (hb4.mono (by have:=hbr3.size;simp;omega));obtain⟨hc4,hf4'⟩:=bcellM hbr4))
 all_goals
  have HP:=Lib.hid (And.intro hf4 (And.intro hbr4 hbr3.size))
  clear hc2 hf2 hc3 hf3 hc4 hf4' hb2 hb3 hb4 hbr2 hbr3 hbr4 hf4
  go_wp2
  go_ret2
  obtain⟨p1,p2,p3⟩:=HP.out
  have hzz:=Hb01.out.size
  exact⟨a2,c2,rfl,p1.keep (by simp;omega) (Nat.le_refl _) (fun _ _ _=>rfl),Hb01.out.trans (p2.mono hzz)⟩
theorem holds_resp (w:World) (c b k s:Int) (l:List POp) (la:Option Addr) (lc:Nat) (h:Fresh w.heap.size w (dV (listQ l)) [.int .i64 5, .bool false, .int .i64 0, .string ⟨#[]⟩, .slice la l.length lc, .slice none 0 0]∨ ∃B,∃w0,Fresh B w0 (dV (listQ l)) [.int .i64 5, .bool false, .int .i64 0, .string ⟨#[]⟩, .slice la l.length lc, .slice none 0 0]∧Below w0.heap.size w0 w):
 Holds (w.alloc (.cells #[.string kBase, .int .i64 3, .bool false, .int .i64 b, .string ⟨#[]⟩, .slice none 0 0, .slice none 0 0, .string kClient, .int .i64 3, .bool false, .int .i64 c, .string ⟨#[]⟩, .slice none 0 0, .slice none 0 0, .string kCookie, .int .i64 3, .bool false, .int .i64 k, .string ⟨#[]⟩, .slice none 0 0, .slice none 0 0, .string kLast, .int .i64 3, .bool false, .int .i64 s, .string ⟨#[]⟩, .slice none 0 0, .slice none 0 0, .string kPatch, .int .i64 5, .bool false, .int .i64 0, .string ⟨#[]⟩, .slice la l.length lc, .slice none 0 0] 63)) (w.alloc (.cells #[.string kBase, .int .i64 3, .bool false, .int .i64 b, .string ⟨#[]⟩, .slice none 0 0, .slice none 0 0, .string kClient, .int .i64 3, .bool false, .int .i64 c, .string ⟨#[]⟩, .slice none 0 0, .slice none 0 0, .string kCookie, .int .i64 3, .bool false, .int .i64 k, .string ⟨#[]⟩, .slice none 0 0, .slice none 0 0, .string kLast, .int .i64 3, .bool false, .int .i64 s, .string ⟨#[]⟩, .slice none 0 0, .slice none 0 0, .string kPatch, .int .i64 5, .bool false, .int .i64 0, .string ⟨#[]⟩, .slice la l.length lc, .slice none 0 0] 63)).heap.size (.row 7 (dO (respO c b k s l))) [.slice (some ⟨w.heap.size,0,none⟩) 5 5]:=by
 have hv:Holds (w.alloc (.cells #[.string kBase, .int .i64 3, .bool false, .int .i64 b, .string ⟨#[]⟩, .slice none 0 0, .slice none 0 0, .string kClient, .int .i64 3, .bool false, .int .i64 c, .string ⟨#[]⟩, .slice none 0 0, .slice none 0 0, .string kCookie, .int .i64 3, .bool false, .int .i64 k, .string ⟨#[]⟩, .slice none 0 0, .slice none 0 0, .string kLast, .int .i64 3, .bool false, .int .i64 s, .string ⟨#[]⟩, .slice none 0 0, .slice none 0 0, .string kPatch, .int .i64 5, .bool false, .int .i64 0, .string ⟨#[]⟩, .slice la l.length lc, .slice none 0 0] 63)) (w.alloc (.cells #[.string kBase, .int .i64 3, .bool false, .int .i64 b, .string ⟨#[]⟩, .slice none 0 0, .slice none 0 0, .string kClient, .int .i64 3, .bool false, .int .i64 c, .string ⟨#[]⟩, .slice none 0 0, .slice none 0 0, .string kCookie, .int .i64 3, .bool false, .int .i64 k, .string ⟨#[]⟩, .slice none 0 0, .slice none 0 0, .string kLast, .int .i64 3, .bool false, .int .i64 s, .string ⟨#[]⟩, .slice none 0 0, .slice none 0 0, .string kPatch, .int .i64 5, .bool false, .int .i64 0, .string ⟨#[]⟩, .slice la l.length lc, .slice none 0 0] 63)).heap.size (dV (listQ l)) [.int .i64 5, .bool false, .int .i64 0, .string ⟨#[]⟩, .slice la l.length lc, .slice none 0 0]:=by
  rcases h with h|⟨B,w0,h,hb⟩
  · exact(h.later (alloc_below _ _)).now
  · have hb':=hb.alloc hb.size (.cells #[.string kBase, .int .i64 3, .bool false, .int .i64 b, .string ⟨#[]⟩, .slice none 0 0, .slice none 0 0, .string kClient, .int .i64 3, .bool false, .int .i64 c, .string ⟨#[]⟩, .slice none 0 0, .slice none 0 0, .string kCookie, .int .i64 3, .bool false, .int .i64 k, .string ⟨#[]⟩, .slice none 0 0, .slice none 0 0, .string kLast, .int .i64 3, .bool false, .int .i64 s, .string ⟨#[]⟩, .slice none 0 0, .slice none 0 0, .string kPatch, .int .i64 5, .bool false, .int .i64 0, .string ⟨#[]⟩, .slice la l.length lc, .slice none 0 0] 63)
    exact(h.later hb').now
 have hp:Holds (w.alloc (.cells #[.string kBase, .int .i64 3, .bool false, .int .i64 b, .string ⟨#[]⟩, .slice none 0 0, .slice none 0 0, .string kClient, .int .i64 3, .bool false, .int .i64 c, .string ⟨#[]⟩, .slice none 0 0, .slice none 0 0, .string kCookie, .int .i64 3, .bool false, .int .i64 k, .string ⟨#[]⟩, .slice none 0 0, .slice none 0 0, .string kLast, .int .i64 3, .bool false, .int .i64 s, .string ⟨#[]⟩, .slice none 0 0, .slice none 0 0, .string kPatch, .int .i64 5, .bool false, .int .i64 0, .string ⟨#[]⟩, .slice la l.length lc, .slice none 0 0] 63)) (w.alloc (.cells #[.string kBase, .int .i64 3, .bool false, .int .i64 b, .string ⟨#[]⟩, .slice none 0 0, .slice none 0 0, .string kClient, .int .i64 3, .bool false, .int .i64 c, .string ⟨#[]⟩, .slice none 0 0, .slice none 0 0, .string kCookie, .int .i64 3, .bool false, .int .i64 k, .string ⟨#[]⟩, .slice none 0 0, .slice none 0 0, .string kLast, .int .i64 3, .bool false, .int .i64 s, .string ⟨#[]⟩, .slice none 0 0, .slice none 0 0, .string kPatch, .int .i64 5, .bool false, .int .i64 0, .string ⟨#[]⟩, .slice la l.length lc, .slice none 0 0] 63)).heap.size (dP (kPatch,listQ l)) [.string kPatch, .int .i64 5, .bool false, .int .i64 0, .string ⟨#[]⟩, .slice la l.length lc, .slice none 0 0]:=⟨[.string kPatch],_,rfl,⟨rfl,rfl⟩,_, [],by simp,hv,rfl⟩
 exact holds_blk (Blk.new _ _ _) (dO_cells _) ((HoldsA.one (holds_ivP _ _ kBase b)).app ((HoldsA.one (holds_ivP _ _ kClient c)).app ((HoldsA.one (holds_ivP _ _ kCookie k)).app ((HoldsA.one (holds_ivP _ _ kLast s)).app (HoldsA.one hp))))) rfl
set_option maxRecDepth 100000 in
set_option maxHeartbeats 8000000 in
theorem encResp_calls (c b k s:Int) (l:List POp) (h0:0≤b∧0≤k∧0≤s) (hm:mayResp c b k s l=0) (a:Option Addr) (n cc:Nat) (w:World) (hT:Tabs w) (hN:Names w) (h:Holds w w.heap.size (.row 8 (dQs l)) [.slice a n cc]) (hb:bulkQ l≤7000000) (hin:inQ l):
 Calls Tryz.prog 21 #[.agg #[.int .u64 c, .int .u64 b, .int .u64 k, .int .u64 s, .slice a n cc]] w (BytesPost0 (sealL (3::textV (ov (respO c b k s l)))) w):=by
 obtain⟨h1,h2,h3,h4,h5,hml⟩:0<c∧c≤4611686018427387903∧b≤4611686018427387903∧k≤4611686018427387903∧s≤4611686018427387903∧mayOps none l=0:=by
  unfold mayResp at hm
  split at hm
  · rename_i hc
    exact⟨hc.1,hc.2.1,hc.2.2.1,hc.2.2.2.1,hc.2.2.2.2,hm⟩
  · cases hm
 obtain⟨h6,h7,h8⟩:=h0
 have hb0:Below w.heap.size w (w.alloc (.cells #[.int .u64 c, .int .u64 b, .int .u64 k, .int .u64 s, .slice a n cc] 47)):=(Below.refl _ _).alloc (Nat.le_refl _) _
 have hM:=MayResponse_calls c b k s l a n cc (w.alloc (.cells #[.int .u64 c, .int .u64 b, .int .u64 k, .int .u64 s, .slice a n cc] 47)) (hT.below hb0) ((h.below hb0).more hb0.size) (by omega) hin
 rw[hm]at hM
 have hL:=fun(W:World) hB=>patList_calls l a n cc W (hT.below (w':=W) hB) (hN.below hB) ((h.below hB).more hB.size) (by omega) hin hml
 have hn1:=fun W=>number_calls kBase b h6 h3 W
 have hn2:=fun W=>number_calls kClient c (by omega) h2 W
 have hn3:=fun W=>number_calls kCookie k h7 h4 W
 have hn4:=fun W=>number_calls kLast s h8 h5 W
 have hF:=fun(W:World) a n cc hB h=>pframed_calls 3 (by decide) (respO c b k s l) _ a n cc W (hT.below hB) h (by have:=bulk_resp c b k s hb;omega) (resp_all c b k s l) (may_resp c b k s hml) (in_resp (by omega) h2 h7 h4 h6 h3 h8 h5 hin)
 generalize sealL (3::textV (ov (respO c b k s l)))=L at hF ⊢
 have HM:=Lib.hid hM
 have Hn1:=Lib.hid hn1
 have Hn2:=Lib.hid hn2
 have Hn3:=Lib.hid hn3
 have Hn4:=Lib.hid hn4
 have HF:=Lib.hid hF
 have Hm:=Lib.hid hm
 have HL:=Lib.hid hL
 have Hb0:=Lib.hid hb0
 have HT:=Lib.hid hT
 have HN:=Lib.hid hN
 have H:=Lib.hid h
 clear hM hn1 hn2 hn3 hn4 hF hm hL hb0 hT hN h
 go_enter Tryz.func21,Tryz.ntmps21
 go_upto_region 4 with(go_at_call 38;(with_reducible refine(HM.out).mono ?_);rintro e w1 ⟨rfl,hb1⟩)
 have hx1:=(Blk.new w 47 #[.int .u64 c, .int .u64 b, .int .u64 k, .int .u64 s, .slice a n cc]).below hb1 (Blk.lt (Blk.new _ _ _))
 have d4:=hx1.cell 4
 have hb01:=Hb0.out.trans (hb1.mono Hb0.out.size)
 have Hx1:=Lib.hid hx1
 have Hb01:=Lib.hid hb01
 clear hx1 hb01
 clear hb1
 go_upto_region 7 with(go_at_call 43;(with_reducible refine(HL.out _ Hb01.out).mono ?_);rintro e w2 ⟨hb2,la,lc,rfl,hf2⟩)
 obtain⟨wi,hwi⟩: ∃wi,w2.alloc (.cells #[.int .i64 5, .bool false, .int .i64 0, .string ⟨#[]⟩, .slice la l.length lc, .slice none 0 0] 39)=wi:=⟨_,rfl⟩
 have hxi:Blk wi w2.heap.size 39 #[.int .i64 5, .bool false, .int .i64 0, .string ⟨#[]⟩, .slice la l.length lc, .slice none 0 0]:=by rw[←hwi];exact Blk.new _ _ _
 have hb2i:Below w2.heap.size w2 wi:=hwi▸alloc_below _ _
 have hx2:=(Hx1.out.below hb2 Hx1.out.lt).below hb2i (Nat.lt_of_lt_of_le Hx1.out.lt hb2.size)
 have hbi:=(Hb01.out.trans (hb2.mono Hb01.out.size)).trans (hb2i.mono (Nat.le_trans Hb01.out.size hb2.size))
 have hfi:=hf2.later hb2i
 have d0:=hx2.cell 0
 have d1:=hx2.cell 1
 have d2:=hx2.cell 2
 have d3:=hx2.cell 3
 obtain⟨r0,r1,r2,r3,r4,r5⟩:=vcell hxi
 have hgx:=hx2.lt
 have hgi:=hxi.lt
 rw[hwi]
 have Hx2:=Lib.hid hx2
 have Hxi:=Lib.hid hxi
 have Hbi:=Lib.hid hbi
 have Hfi:=Lib.hid hfi
 clear hx2 hxi hbi hfi
 clear hb2 hf2 hb2i hwi d4
 go_region_held3 (fun W=>W.cell? ⟨w.heap.size,0,none⟩=some (.int .u64 c)∧W.cell? ⟨w.heap.size,1,none⟩=some (.int .u64 b)∧W.cell? ⟨w.heap.size,2,none⟩=some (.int .u64 k)∧W.cell? ⟨w.heap.size,3,none⟩=some (.int .u64 s)∧W.cell? ⟨w2.heap.size,0,none⟩=some (.int .i64 5)∧W.cell? ⟨w2.heap.size,1,none⟩=some (.bool false)∧W.cell? ⟨w2.heap.size,2,none⟩=some (.int .i64 0)∧W.cell? ⟨w2.heap.size,3,none⟩=some (.string ⟨#[]⟩)∧W.cell? ⟨w2.heap.size,4,none⟩=some (.slice la l.length lc)∧W.cell? ⟨w2.heap.size,5,none⟩=some (.slice none 0 0)) (go_keep) (first
  |(go_at_call 25;refine(Hn1.out _).mono ?_;rintro e w3 ⟨rfl,hb3⟩;have hbr3:Below wi.heap.size wi w3:=((Below.drew (Below.refl _ _)).trans hb3);obtain⟨hc3,hg3⟩:=bcellM hbr3)
  |(go_at_call 25;refine(Hn2.out _).mono ?_;rintro e w4 ⟨rfl,hb4⟩;have hbr4:=hbr3.trans (hb4.mono hbr3.size);obtain⟨hc4,hg4⟩:=bcellM hbr4)
  |(go_at_call 25;refine(Hn3.out _).mono ?_;rintro e w5 ⟨rfl,hb5⟩;have hbr5:=hbr4.trans (hb5.mono hbr4.size);obtain⟨hc5,hg5⟩:=bcellM hbr5)
  |(go_at_call 25;refine(Hn4.out _).mono ?_;rintro e w6 ⟨rfl,hb6⟩;have hbr6:=hbr5.trans (hb6.mono hbr5.size);obtain⟨hc6,hg6⟩:=bcellM hbr6)
  |(go_at_call 24;refine(HF.out _ _ _ _ ((Hbi.out.trans (hbr6.mono Hbi.out.size)).alloc (Nat.le_trans Hbi.out.size hbr6.size) _) (holds_resp w6 c b k s l la lc (.inr ⟨_,_,Hfi.out,hbr6⟩))).mono ?_;rintro e w7 ⟨a2,c2,rfl,hf7,hb7⟩;have hbr7:=(hbr6.alloc hbr6.size _).trans (hb7.mono (by have:=hbr6.size;simp;omega));obtain⟨hc7,hg7⟩:=bcellM hbr7))
 all_goals
  have HP:=Lib.hid (And.intro hf7 (And.intro hbr7 hbr6.size))
  clear hc3 hg3 hc4 hg4 hc5 hg5 hc6 hg6 hc7 hg7 hb3 hb4 hb5 hb6 hb7 hbr3 hbr4 hbr5 hbr6 hbr7 hf7
  go_wp2
  go_ret2
  obtain⟨p1,p2,p3⟩:=HP.out
  have hzz:=Hbi.out.size
  exact⟨a2,c2,rfl,p1.keep (by simp;omega) (Nat.le_refl _) (fun _ _ _=>rfl),Hbi.out.trans (p2.mono hzz)⟩
end Go.Proofs.YtackmnbpfbaemaaGreatDoor

namespace Go.Proofs.YtackmnbpfbaemaaGreatDoor
open Go Go.RowKit
abbrev sReq:ByteArray:=⟨#[123,34,99,108,105,101,110,116,34,58,55,44,34,99,111,111,107,105,101,34,58,51,125]⟩
abbrev sResp:ByteArray:=⟨([123,34,98,97,115,101,34,58,51,44,34,99,108,105,101,110,116,34,58,55,44,34,99,111,111,107,105,101,34,58,53,44,34,108,97,115,116].append [34,58,50,44,34,112,97,116,99,104,34,58,91,123,34,107,101,121,34,58,34,97,34,44,34,111,112,34,58,34,100,101,108,34,125,93,125]).toArray⟩
def knownOps:List POp:= [⟨2,⟨#[97]⟩,zeroV⟩]
theorem known_req:textV (ov (reqO 7 3))=sReq.data.toList:=by kernel_rfl
theorem known_resp:textV (ov (respO 7 3 5 2 knownOps))=sResp.data.toList:=by kernel_rfl
theorem known_may:mayResp 7 3 5 2 knownOps=0:=by decide+kernel
theorem known_holds (w:World):Holds (w.alloc (.cells #[.int .i64 2, .string ⟨#[97]⟩, .int .i64 0, .bool false, .int .i64 0, .string ⟨#[]⟩, .slice none 0 0, .slice none 0 0] 67)) (w.alloc (.cells #[.int .i64 2, .string ⟨#[97]⟩, .int .i64 0, .bool false, .int .i64 0, .string ⟨#[]⟩, .slice none 0 0, .slice none 0 0] 67)).heap.size (.row 8 (dQs knownOps)) [.slice (some ⟨w.heap.size,0,none⟩) 1 1]:=
 holds_blk (Blk.new _ _ _) (dQs_cells _) (HoldsA.one ⟨[.int .i64 2],_,rfl,⟨rfl,rfl⟩, [.string ⟨#[97]⟩],_,rfl,⟨rfl,rfl⟩,_, [],by simp,holds_of_V _ _ (holds_zero _ _),rfl⟩) rfl
set_option maxRecDepth 100000 in
set_option maxHeartbeats 2000000 in
theorem known18_calls (w:World) (hT:Tabs w) (hN:Names w):Calls Tryz.prog 9 #[] w fun e w'=>e= .returned (.bool true)∧Below w.heap.size w w':=by
 have hQ:=encReq_calls 7 3 (by omega) (by omega) (by omega) (by omega) w hT
 have hR:=fun(W:World) hB=>encResp_calls 7 3 5 2 knownOps (by omega) known_may _ 1 1 _ (hT.below (w':=W.alloc _) hB) (hN.below hB) (known_holds W) (by decide) (by intro p hp;simp[knownOps]at hp;subst hp;simp[inV,inL,inO])
 have hF:=fun W=>lframed_calls 2 (by decide) sReq (by decide) W
 have hG:=fun W=>lframed_calls 3 (by decide) sResp (by decide) W
 rw[known_req]at hQ
 rw[known_resp]at hR
 obtain⟨L,hL⟩: ∃L,sealL (2::sReq.data.toList)=L:=⟨_,rfl⟩
 obtain⟨M,hM⟩: ∃M,sealL (3::sResp.data.toList)=M:=⟨_,rfl⟩
 rw[hL]at hQ hF
 rw[hM]at hR hG
 have hl:L.length≤2000000000:=by rw[←hL];unfold sealL;simp[sumBytes]
 have hm:M.length≤2000000000:=by rw[←hM];unfold sealL;simp[sumBytes]
 have hS:=fun(W:World) a n c a' n' c' h h'=>same_calls L L a a' n c n' c' true W h h' hl hl (by simp)
 have hS':=fun(W:World) a n c a' n' c' h h'=>same_calls M M a a' n c n' c' true W h h' hm hm (by simp)
 have HQ:=Lib.hid hQ
 have HR:=Lib.hid hR
 have HF:=Lib.hid hF
 have HG:=Lib.hid hG
 have HL:=Lib.hid hL
 have HM:=Lib.hid hM
 have HS:=Lib.hid hS
 have HS':=Lib.hid hS'
 clear hQ hR hF hG hL hM hS hS'
 clear hl hm
 go_enter Tryz.func9,Tryz.ntmps9
 go_wp2_with (fail)
 refine(HQ.out).mono ?_
 rintro e w1 ⟨a1,c1,rfl,hf1,hb1⟩
 go_wp2_with (fail)
 refine(HR.out w1 (hb1.alloc hb1.size _)).mono ?_
 rintro e w2 ⟨a2,c2,rfl,hf2,hb2⟩
 have hb2':=(hb1.alloc hb1.size _).trans (hb2.mono (Nat.le_trans hb1.size (by simp)))
 have hb12:=(alloc_below w1 _).trans (hb2.mono (by simp))
 go_wp2_with (fail)
 refine(HF.out _).mono ?_
 rintro e w3 ⟨a3,c3,rfl,hf3,hb3⟩
 go_wp2_with (fail)
 refine(HS.out _ _ _ _ _ _ _ ((hf1.later hb12).later hb3).now hf3.now).mono ?_
 rintro e w4 ⟨rfl,hb4⟩
 go_wp2_with (fail)
 refine(HG.out _).mono ?_
 rintro e w5 ⟨a5,c5,rfl,hf5,hb5⟩
 go_wp2_with (fail)
 refine(HS'.out _ _ _ _ _ _ _ (((hf2.later hb3).later hb4).later hb5).now hf5.now).mono ?_
 rintro e w6 ⟨rfl,hb6⟩
 go_wp2
 go_ret
 have z2:=hb2'.size
 have z3:=hb3.size
 have z4:=hb4.size
 have z5:=hb5.size
 exact⟨rfl,(((hb2'.trans (hb3.mono z2)).trans (hb4.mono (by omega))).trans (hb5.mono (by omega))).trans (hb6.mono (by omega))⟩
end Go.Proofs.YtackmnbpfbaemaaGreatDoor

namespace Go.Proofs.YtackmnbpfbaemaaGreatDoor
open Go Go.RowKit
end Go.Proofs.YtackmnbpfbaemaaGreatDoor

namespace Go.Proofs.YtackmnbpfbaemaaGreatDoor
open Go.RowKit Go.ChangeShapes Go.WideShapes Go.ChangeAt
theorem tab_pow10 {W:World} (h:Lib.VarReads Tryz.prog W "internal/strconv.uint64pow10" (Lib.tabData .u64 Lib.pow10Tab)):Lib.TabIs Tryz.prog W "internal/strconv.uint64pow10" .u64 Lib.pow10Tab:=by
 obtain⟨g',t',cs,fuel,p,hg',ht',hvar,hd⟩:=h
 have hg:Tryz.prog.globalNamed "internal/strconv.uint64pow10" =some 3:=by kernel_rfl
 have hty:(Tryz.prog.globals[3]?).map (·.type)=some 287:=by kernel_rfl
 obtain rfl:=Option.some.inj (hg.symm.trans hg')
 obtain rfl:=Option.some.inj (hty.symm.trans ht')
 unfold Lib.TabIs
 rw[hvar,←Lib.cells_of_tab Tryz.underlying287 Tryz.underlying22 (by kernel_rfl) (by kernel_rfl) hd]
theorem names_of {W:World} (h:Lib.VarReads Tryz.prog W "commonplace/patch.names" Rows.laid_commonplace_patch_names):Names W:=by
 obtain⟨g',t',cs,fuel,p,hg',ht',hvar,hd⟩:=h
 have hg:Tryz.prog.globalNamed "commonplace/patch.names" =some 0:=by kernel_rfl
 have hty:(Tryz.prog.globals[0]?).map (·.type)=some 168:=by kernel_rfl
 obtain rfl:=Option.some.inj (hg.symm.trans hg')
 obtain rfl:=Option.some.inj (hty.symm.trans ht')
 obtain⟨xs,m,_,hx,hl,hxl,hf⟩:=DataW.trod_array Tryz.underlying168 hd
 have hc1:Tryz.prog.cellsOf 9=1:=by kernel_rfl
 have hc4:Tryz.prog.cellsOf 168=4:=by kernel_rfl
 rw[hc4]at hl
 have hxs:=congrArg Prod.fst hx
 simp only[Rows.laid_commonplace_patch_names,DataW.agg.injEq]at hxs
 have key: ∀i,i<4→ ∀l:List UInt8,([[], [112,117,116], [100,101,108], [99,108,101,97,114]]:List (List UInt8))[i]? =some l→cs[i]? =some (.string ⟨l.toArray⟩):=by
  intro i hi l hl'
  have h1:=hf i hi
  rw[hc1,Nat.mul_one]at h1
  have h2:((cs.toList.drop i).take 1)= [cs[i]'(by simpa[Array.length_toList]using(by omega:i<cs.toList.length))]:=by
   rw[List.drop_eq_getElem_cons (by omega)]
   simp
  rw[h2,List.getElem?_eq_getElem (by omega)]at h1
  obtain⟨s,hs,hx1,_⟩:=DataW.trod_string Tryz.underlying9 h1
  simp only[List.cons.injEq,and_true]at hs
  have h3:(xs.map (·.1))[i]? =some (DataW.lit (.string s.data.toList):DataW Unit):=by
   rw[List.getElem?_map,List.getElem?_eq_getElem (by omega),Option.map_some,hx1]
  rw[←hxs]at h3
  have h4:s.data.toList=l:=by
   rcases(by omega:i=0∨i=1∨i=2∨i=3)with rfl|rfl|rfl|rfl<;>exact(Lit.string.inj (DataW.lit.inj (Option.some.inj h3))).symm.trans (Option.some.inj hl')
  have h5:i<cs.size:=by rw[←Array.length_toList];omega
  rw[Array.getElem?_eq_getElem h5,hs]
  have h6:s=⟨l.toArray⟩:=by
   apply ByteArray.ext
   apply Array.ext'
   rw[h4]
  rw[h6]
 unfold World.var? at hvar
 rw[hg]at hvar
 simp only[Option.bind_some]at hvar
 split at hvar
 · rename_i cs' t' fz hh
   simp only[Option.some.injEq]at hvar
   subst hvar
   have hcell: ∀i,W.cell? ⟨0,i,none⟩=cs'[i]? :=fun i=>by unfold World.cell?;rw[hh];rfl
   exact⟨(hcell 1).trans (key 1 (by omega) _ rfl),(hcell 2).trans (key 2 (by omega) _ rfl),(hcell 3).trans (key 3 (by omega) _ rfl),(Array.getElem?_eq_some_iff.1 hh).1⟩
 · cases hvar
theorem tabs_of {W:World} (h:laidMetH Tryz.prog Rows.pullReadsRow.laid W):Tabs W:=by
 have hL:laidMet Tryz.prog Rows.pullReadsRow.laid W:=by
  have:=(laidMetH_iff.1 h).1
  have e:(Rows.pullReadsRow.laid.filter fun x=>x.2.handleName?.isNone)=Rows.pullReadsRow.laid:=by kernel_rfl
  rwa [e]at this
 have hu:Lib.Utf8Tabs 1 2 W:=
  utf8Tabs_of_readsT (U8Types.of196 Tryz.lays196) ⟨by kernel_rfl,by kernel_rfl,by kernel_rfl,by kernel_rfl,by kernel_rfl,by kernel_rfl,by kernel_rfl⟩
   (Lib.laidMet.reads hL (n:= "unicode/utf8.first") (d:=Lib.firstData) (by rw[←laid_first];simp[Rows.pullReadsRow])) (Lib.laidMet.reads hL (n:= "unicode/utf8.acceptRanges") (d:=Lib.acceptData) (by rw[←laid_accept];simp[Rows.pullReadsRow]))
 have hp:=tab_pow10 (Lib.laidMet.reads hL (n:= "internal/strconv.uint64pow10") (d:=Lib.tabData .u64 Lib.pow10Tab) (by rw[←laid_pow10];simp[Rows.pullReadsRow]))
 have h64:Lib.VarReads Tryz.prog W "math/bits.deBruijn64tab" Rows.laid_math_bits_deBruijn64tab:=Lib.laidMet.reads hL (by simp[Rows.pullReadsRow])
 refine⟨?_,hu,hp⟩
 obtain⟨g',t',cs,fuel,p,hg',ht',hvar,hd⟩:=h64
 have hg:Tryz.prog.globalNamed "math/bits.deBruijn64tab" =some 6:=by kernel_rfl
 obtain rfl:=Option.some.inj (hg.symm.trans hg')
 unfold World.var? at hvar
 rw[hg]at hvar
 simp only[Option.bind_some]at hvar
 rcases Nat.lt_or_ge 6 W.heap.size with h'|h'
 · omega
 · rw[Array.getElem?_eq_none h']at hvar
   cases hvar
theorem names_laid {W:World} (h:laidMetH Tryz.prog Rows.pullReadsRow.laid W):Names W:=by
 have hL:laidMet Tryz.prog Rows.pullReadsRow.laid W:=by
  have:=(laidMetH_iff.1 h).1
  have e:(Rows.pullReadsRow.laid.filter fun x=>x.2.handleName?.isNone)=Rows.pullReadsRow.laid:=by kernel_rfl
  rwa [e]at this
 exact names_of (Lib.laidMet.reads hL (by simp[Rows.pullReadsRow]))
end Go.Proofs.YtackmnbpfbaemaaGreatDoor

namespace Go.Proofs.YtackmnbpfbaemaaGreatDoor
open Go.RowKit Go.ChangeShapes Go.WideShapes Go.ChangeAt
theorem i64_in {n:Int} (hwf:(Lit.int .i64 n).wf=true): -9223372036854775808≤n∧n≤9223372036854775807:=by
 have h1:IntKind.i64.min= -9223372036854775808:=by decide
 have h2:IntKind.i64.max=9223372036854775807:=by decide
 simp only[Lit.wf,h1,h2,Bool.and_eq_true,decide_eq_true_eq]at hwf
 exact hwf
section
variable {H:Type} {enc:TypeId×Value→H} {P:Program}
theorem post_of_below {f:Func} {s:ChangeSpec} {apart fresh handsOn again:Bool} {W W':World} {args:Array Value} {v:Value} {ds gs:List (DataW H)} {before pa pv:List MemPlace}
 (hW:DataW.Whole enc P f.params.toList s.vars apart W args.toList ds gs before)
 (hres: ∀(b:Nat) (sp:Nat→Bool) (hd:Bool),DataW.TrodAll enc P W' b sp hd f.resultTypes.toList (v.resultList f.resultTypes.size) (s.fn H (ds++gs)).results [])
 (hargs: ∀sp:Nat→Bool,(∀p ∈ before,sp p.block=true)→DataW.TrodAll enc P W' 0 sp true f.params.toList args.toList (s.fn H (ds++gs)).args pa)
 (hvars: ∀sp:Nat→Bool,(∀p ∈ before,sp p.block=true)→DataW.TrodVars enc P W' sp s.vars (s.fn H (ds++gs)).vars pv)
 (hps:before=pa++pv) (hb:Below W.heap.size W W')
 (hok: ∀(j:Nat) (t:TypeId) (r:Value),f.resultTypes[j]? =some t→(v.resultList f.resultTypes.size)[j]? =some r→Value.okWide P W' .any 0 t r):
 s.post enc P f apart fresh handsOn again W args v W':=by
 have hlt: ∀p ∈ before,p.block<W.heap.size:=fun p hp=>hW.lt p hp
 have hold: ∀p ∈ before,(fun b=>decide (b<W.heap.size)) p.block=true:=fun p hp=>by simpa using hlt p hp
 refine⟨ds,gs,before, [],pa,pv,hW,hres _ _ _,hargs _ hold,hvars _ hold,World.keptBut_mono (fun p hp=>⟨hp, ?_⟩) (hb.frame (· ∈ before)),fun _=> ?_⟩
 · rw[hps,List.mem_append]at hp
   exact Or.inr hp
 · obtain⟨_,_,_,_,_,hz,hn⟩:=hW
   refine⟨hok,_,_,([]++pa)++pv,⟨[]++pa,pv,trodAll_append (hargs _ (fun _ _=>rfl)) (hres _ _ _),hvars _ (fun _ _=>rfl),rfl, ?_, ?_⟩, ?_⟩
   · intro b off hp
     have hin:MemPlace.cell b off ∈ before:=by rw[hps];simpa using hp
     rw[hb.frozen (hlt _ hin)]
     exact hz b off hin
   · intro ha
     have:=hn ha
     rw[hps]at this
     simpa using this
   · intro p hp _
     rw[hps]
     simpa using hp
end
end Go.Proofs.YtackmnbpfbaemaaGreatDoor

namespace Go.Proofs.YtackmnbpfbaemaaGreatDoor
open Go.RowKit Go.ChangeShapes Go.WideShapes Go.ChangeAt
theorem trod_iface {H:Type} {enc:TypeId×Value→H} {P:Program} {w:World} {base fuel:Nat} {sp:Nat→Bool} {t:TypeId} {ms:Array (String×TypeId)} {cs:List Value} {name:String} {d:DataW H} {p:List MemPlace} (ht:P.underlying t=some (.interface ms))
 (h:DataW.trod enc P w base sp false fuel t cs=some (.iface name d,p)): ∃u v,cs= [.iface u v]:=by
 cases fuel with
 |zero=>simp[DataW.trod]at h
 |succ n=>
  unfold DataW.trod at h
  rw[ht]at h
  split at h<;>first|exact⟨_,_,rfl⟩|simp_all
theorem numT_of {W:World} (h:Lib.VarReads Tryz.prog W "strconv.ErrRange" Rows.laid_strconv_ErrRange):NumT W:=by
 obtain⟨g',t',cs,fuel,p,hg',ht',hvar,hd⟩:=h
 have hg:Tryz.prog.globalNamed "strconv.ErrRange" =some 8:=by kernel_rfl
 have hty:(Tryz.prog.globals[8]?).map (·.type)=some 232:=by kernel_rfl
 obtain rfl:=Option.some.inj (hg.symm.trans hg')
 obtain rfl:=Option.some.inj (hty.symm.trans ht')
 unfold World.var? at hvar
 rw[hg]at hvar
 simp only[Option.bind_some]at hvar
 split at hvar
 · rename_i cs' t' fz hh
   simp only[Option.some.injEq]at hvar
   subst hvar
   obtain⟨u,v,e⟩:=trod_iface Tryz.underlying232 hd
   obtain⟨l⟩:=cs'
   simp only at e
   subst e
   refine⟨u,v, ?_⟩
   unfold World.cell?
   rw[hh]
   rfl
 · cases hvar
theorem num_laid {W:World} (h:laidMetH Tryz.prog Rows.pullReadsRow.laid W):NumT W:=by
 have hL:laidMet Tryz.prog Rows.pullReadsRow.laid W:=by
  have:=(laidMetH_iff.1 h).1
  have e:(Rows.pullReadsRow.laid.filter fun x=>x.2.handleName?.isNone)=Rows.pullReadsRow.laid:=by kernel_rfl
  rwa [e]at this
 exact numT_of (Lib.laidMet.reads hL (n:= "strconv.ErrRange") (by simp[Rows.pullReadsRow]))
end Go.Proofs.YtackmnbpfbaemaaGreatDoor

namespace Go.Proofs.YtackmnbpfbaemaaGreatDoor
open Go Go.RowKit
set_option maxRecDepth 100000 in
set_option maxHeartbeats 2000000 in
theorem own18_calls (l:List UInt8) (a:Option Addr) (n c:Nat) (w:World) (h:Holds w w.heap.size (.row 1 (dB l)) [.slice a n c]) (hl:l.length≤1000000000):
 Calls Tryz.prog 14 #[.slice a n c] w (BytesPost l w):=by
 obtain⟨hn,hR⟩:=dB_reads h
 subst hn
 have hown0:w.ownsRow w.heap.size 5 1 (.slice none 0 0) ([]:List UInt8).length (bcells []):=World.ownsRow_nil _ _ _ _
 have H:=Lib.hid h
 have HR:=Lib.hid hR
 have Hown0:=Lib.hid hown0
 clear h hR hown0
 go_enter Tryz.func14,Tryz.ntmps14
 go_wp2_with (at_builtin;apply Shut.out)
 unfold Shut
 refine wpList_append_by rfl (.const (.slice none 0 0)) (.tmp 3) 25 25 5 rfl Tryz.underlying25 Tryz.underlying25 w.heap.size (.slice none 0 0) [] rfl Hown0.out w.heap.size a l.length c l rfl HR.out (by simp;omega) (by simp) ?_
 intro v1 w4 hown4 hg4 hat4
 rw[List.nil_append]at hown4
 have hb4:Below w.heap.size w w4:=(Below.refl _ _).grown hg4 (Nat.le_refl _) (by simp[Value.ownBlock])
 have hP:=BytesPost.of hown4 hb4
 have HP:=Lib.hid hP
 clear hP
 clear hown4 hg4 hat4 hb4
 go_wp2
 go_ret
 exact HP.out
end Go.Proofs.YtackmnbpfbaemaaGreatDoor
