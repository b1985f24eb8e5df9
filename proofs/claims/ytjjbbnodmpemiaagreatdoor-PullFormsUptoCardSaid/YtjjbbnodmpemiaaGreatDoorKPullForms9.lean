/- Parts, joined: The law PullForms returns true. Condition: a bulk of at most 5 * 10^6. -/
import Derived.Test.YtjjbbnodmpemiaaGreatDoorProg
import Derived.Test.YtjjbbnodmpemiaaGreatDoorKPull40
import Derived.Test.YtjjbbnodmpemiaaGreatDoorKPullForms3
import Derived.Test.YtjjbbnodmpemiaaGreatDoorKPullForms4
import Derived.Test.YtjjbbnodmpemiaaGreatDoorKPullForms5
import Derived.Test.YtjjbbnodmpemiaaGreatDoorKPullForms8
/- The law PullForms returns true. Condition: a bulk of at most 5 * 10^6. -/
namespace Go.Proofs.YtjjbbnodmpemiaaGreatDoor
open Go Go.RowKit

set_option maxRecDepth 100000 in
set_option maxHeartbeats 2000000 in
theorem forms_no (c b k s : Int) (l : List POp) (h0 : 0 ≤ c) (hm : mayResp c b k s l ≠ 0) (a : Option Addr) (n cc : Nat) (w : World) (hT : Tabs w) (hN : Names w) (h : Holds w w.heap.size (.row 8 (dQs l)) [.slice a n cc]) (hb : bulkQ l ≤ 5000000) (hin : inQ l) :
    Calls Tryz.prog 4 #[.agg #[.int .u64 c, .int .u64 b, .int .u64 k, .int .u64 s, .slice a n cc]] w fun e w' => e = .returned (.bool true) ∧ Below w.heap.size w w' := by
  have h1 := fun (W : World) hB => answer_calls c b k s l a n cc W ((h.below (w' := W) hB).more hB.size) (by omega)
  have h2 := fun (W : World) hB a' n' c' hh => encResp_no c b k s l hm a' n' c' W (hT.below (w' := W) hB) hh (by omega) hin
  have h3 := fun (W : World) hB => RMayResponse_calls c b k s h0 l a n cc W (hT.below (w' := W) hB) ((h.below hB).more hB.size) (by omega) hin
  have h4 := fun (W : World) hB => known18_calls W (hT.below (w' := W) hB) (hN.below hB)
  generalize mayResp c b k s l = X at hm h2 h3
  have tX : (X != 0) = true := by simpa using hm
  obtain ⟨wi, hwi⟩ : ∃ wi, w.alloc (.cells #[.int .u64 c, .int .u64 b, .int .u64 k, .int .u64 s, .slice a n cc] 27) = wi := ⟨_, rfl⟩
  have hxb : Blk wi w.heap.size 27 #[.int .u64 c, .int .u64 b, .int .u64 k, .int .u64 s, .slice a n cc] := hwi ▸ Blk.new _ _ _
  have hbi : Below w.heap.size w wi := hwi ▸ alloc_below _ _
  have d0 := hxb.cell 0
  have d1 := hxb.cell 1
  have d2 := hxb.cell 2
  have d3 := hxb.cell 3
  have d4 := hxb.cell 4
  have g0 := hxb.lt
  have H1 := Lib.hid h1
  have H2 := Lib.hid h2
  have H3 := Lib.hid h3
  have H4 := Lib.hid h4
  have Hxb := Lib.hid hxb
  have Hbi := Lib.hid hbi
  have HT := Lib.hid hT
  have HN := Lib.hid hN
  have H := Lib.hid h
  clear h1 h2 h3 h4 hxb hbi hT hN h
  clear hm
  go_enter Tryz.func4, Tryz.ntmps4
  go_upto_region 1 with (fail)
  clear hwi
  go_wp2_with (fail)
  refine (H1.out _ Hbi.out).mono ?_
  rintro e w1 ⟨hb1, a1, c1, rfl, hf1⟩
  have hbw1 := Hbi.out.trans (hb1.mono Hbi.out.size)
  go_wp2_with (fail)
  refine (H2.out _ hbw1 _ _ _ hf1.now).mono ?_
  rintro e w2 ⟨rfl, hb2⟩
  have hbw2 := hbw1.trans (hb2.mono hbw1.size)
  have hbr2 : Below wi.heap.size wi w2 := hb1.trans (hb2.mono hb1.size)
  obtain ⟨hc2, hg2⟩ := bcellM hbr2
  go_wp2_with (fail)
  refine (H3.out _ hbw2).mono ?_
  rintro e w3 ⟨rfl, hb3⟩
  have hbw3 := hbw2.trans (hb3.mono hbw2.size)
  go_wp2_with (fail)
  refine (H4.out _ hbw3).mono ?_
  rintro e w4 ⟨rfl, hb4⟩
  have hbw4 := hbw3.trans (hb4.mono hbw3.size)
  go_wp2
  go_ret
  exact ⟨rfl, hbw4⟩

set_option maxRecDepth 100000 in
set_option maxHeartbeats 4000000 in
theorem forms_yes (c b k s : Int) (l : List POp) (h0 : 0 ≤ c ∧ 0 ≤ b ∧ 0 ≤ k ∧ 0 ≤ s) (hm : mayResp c b k s l = 0) (a : Option Addr) (n cc : Nat) (w : World) (hT : Tabs w) (hN : Names w) (h : Holds w w.heap.size (.row 8 (dQs l)) [.slice a n cc]) (hb : bulkQ l ≤ 5000000) (hin : inQ l) :
    Calls Tryz.prog 4 #[.agg #[.int .u64 c, .int .u64 b, .int .u64 k, .int .u64 s, .slice a n cc]] w fun e w' => e = .returned (.bool true) ∧ Below w.heap.size w w' := by
  obtain ⟨y1, y2, y3, y4, y5, hml⟩ : 0 < c ∧ c ≤ 4611686018427387903 ∧ b ≤ 4611686018427387903 ∧ k ≤ 4611686018427387903 ∧ s ≤ 4611686018427387903 ∧ mayOps none l = 0 := by
    have hm' := hm
    unfold mayResp at hm'
    split at hm'
    · rename_i hc
      exact ⟨hc.1, hc.2.1, hc.2.2.1, hc.2.2.2.1, hc.2.2.2.2, hm'⟩
    · cases hm'
  have hmv := may_resp c b k s hml
  have hiv : inV (ov (respO c b k s l)) := in_resp (by omega) y2 h0.2.2.1 y4 h0.2.1 y3 h0.2.2.2 y5 hin
  have hbv := bulk_resp c b k s hb
  have hbo : (ov (respO c b k s l)).bulk ≤ 100000000 := by simp only [ov, Val.bulk, bulkL]; have : nil0.size = 0 := rfl; omega
  have hln := textV_len _ (okV_of _ 1 hmv hiv)
  have h1 := fun (W : World) hB => answer_calls c b k s l a n cc W ((h.below (w' := W) hB).more hB.size) (by omega)
  have h2 := fun (W : World) hB a' n' c' hh => encResp_calls c b k s l ⟨h0.2.1, h0.2.2.1, h0.2.2.2⟩ hm a' n' c' W (hT.below (w' := W) hB) (hN.below hB) hh hb hin
  have h3 := fun (W : World) hB => RMayResponse_calls c b k s h0.1 l a n cc W (hT.below (w' := W) hB) ((h.below hB).more hB.size) (by omega) hin
  have h4 := fun (W : World) hB => known18_calls W (hT.below (w' := W) hB) (hN.below hB)
  have h5 := fun (W : World) hB => refResp_calls w.heap.size c b k s l h0 ⟨y2, y3, y4, y5⟩ a n cc W (Below.size hB) (h.below (w' := W) hB) (by omega)
  have h6 : ∀ (W : World) a' c', HoldsV W W.heap.size (ov (respO c b k s l)) [.int .i64 6, .bool false, .int .i64 0, .string ⟨#[]⟩, .slice none 0 0, .slice a' 5 c'] → Calls Tryz.prog 13 #[.int .u8 3, .agg #[.int .i64 6, .bool false, .int .i64 0, .string ⟨#[]⟩, .slice none 0 0, .slice a' 5 c']] W (BytesPost (sealL (3 :: textV (ov (respO c b k s l)))) W) :=
    fun W a' c' hh => rFrame_calls 3 (by decide) 6 false 0 nil0 [] (respO c b k s l) none a' 0 c' W hh hbo hmv hiv
  rw [hm] at h3
  have hlM : (sealL (3 :: textV (ov (respO c b k s l)))).length ≤ 2000000000 := by unfold sealL; simp [sumBytes]; omega
  generalize sealL (3 :: textV (ov (respO c b k s l))) = M at h2 h6 hlM
  have h7 := fun (W : World) a n c a' n' c' h h' => same_calls M M a a' n c n' c' true W h h' hlM hlM (by simp)
  obtain ⟨wi, hwi⟩ : ∃ wi, w.alloc (.cells #[.int .u64 c, .int .u64 b, .int .u64 k, .int .u64 s, .slice a n cc] 27) = wi := ⟨_, rfl⟩
  have hxb : Blk wi w.heap.size 27 #[.int .u64 c, .int .u64 b, .int .u64 k, .int .u64 s, .slice a n cc] := hwi ▸ Blk.new _ _ _
  have hbi : Below w.heap.size w wi := hwi ▸ alloc_below _ _
  have d0 := hxb.cell 0
  have d1 := hxb.cell 1
  have d2 := hxb.cell 2
  have d3 := hxb.cell 3
  have d4 := hxb.cell 4
  have g0 := hxb.lt
  have H1 := Lib.hid h1
  have H2 := Lib.hid h2
  have H3 := Lib.hid h3
  have H4 := Lib.hid h4
  have H5 := Lib.hid h5
  have H6 := Lib.hid h6
  have H7 := Lib.hid h7
  have Hxb := Lib.hid hxb
  have Hbi := Lib.hid hbi
  have HT := Lib.hid hT
  have HN := Lib.hid hN
  have H := Lib.hid h
  clear h1 h2 h3 h4 h5 h6 h7 hxb hbi hT hN h
  clear hm hml hmv hiv hbv hbo hln hlM
  go_enter Tryz.func4, Tryz.ntmps4
  go_upto_region 1 with (fail)
  clear hwi
  go_wp2_with (fail)
  refine (H1.out _ Hbi.out).mono ?_
  rintro e w1 ⟨hb1, a1, c1, rfl, hf1⟩
  have hbw1 := Hbi.out.trans (hb1.mono Hbi.out.size)
  go_wp2_with (fail)
  refine (H2.out _ hbw1 _ _ _ hf1.now).mono ?_
  rintro e w2 ⟨a2, c2, rfl, hf2, hb2⟩
  have hbw2 := hbw1.trans (hb2.mono hbw1.size)
  have hbr2 : Below wi.heap.size wi w2 := hb1.trans (hb2.mono hb1.size)
  obtain ⟨hc2, hg2⟩ := bcellM hbr2
  go_wp2_with (fail)
  refine (H3.out _ hbw2).mono ?_
  rintro e w3 ⟨rfl, hb3⟩
  have hbw3 := hbw2.trans (hb3.mono hbw2.size)
  have hbr3 := hbr2.trans (hb3.mono hbr2.size)
  obtain ⟨hc3, hg3⟩ := bcellM hbr3
  clear hc2 hg2
  go_wp2_with (fail)
  refine (H5.out _ hbw3).mono ?_
  rintro e w4 ⟨hb4, a4, c4, rfl, hv4⟩
  have hbw4 := hbw3.trans (hb4.mono hbw3.size)
  go_wp2_with (fail)
  refine (H6.out _ _ _ hv4).mono ?_
  rintro e w5 ⟨a5, c5, rfl, hf5, hb5⟩
  have hbw5 := hbw4.trans (hb5.mono hbw4.size)
  go_wp2_with (fail)
  refine (H7.out _ _ _ _ _ _ _ (((hf2.later hb3).later hb4).later hb5).now hf5.now).mono ?_
  rintro e w6 ⟨rfl, hb6⟩
  have hbw6 := hbw5.trans (hb6.mono hbw5.size)
  go_wp2_with (fail)
  refine (H4.out _ hbw6).mono ?_
  rintro e w7 ⟨rfl, hb7⟩
  have hbw7 := hbw6.trans (hb7.mono hbw6.size)
  go_wp2
  go_ret
  exact ⟨rfl, hbw7⟩

theorem PullForms_law (c b k s : Int) (l : List POp) (h0 : 0 ≤ c ∧ 0 ≤ b ∧ 0 ≤ k ∧ 0 ≤ s) (a : Option Addr) (n cc : Nat) (w : World) (hT : Tabs w) (hN : Names w) (h : Holds w w.heap.size (.row 8 (dQs l)) [.slice a n cc]) (hb : bulkQ l ≤ 5000000) (hin : inQ l) :
    Calls Tryz.prog 4 #[.agg #[.int .u64 c, .int .u64 b, .int .u64 k, .int .u64 s, .slice a n cc]] w fun e w' => e = .returned (.bool true) ∧ Below w.heap.size w w' := by
  by_cases hm : mayResp c b k s l = 0
  · exact forms_yes c b k s l h0 hm a n cc w hT hN h hb hin
  · exact forms_no c b k s l h0.1 hm a n cc w hT hN h hb hin
end Go.Proofs.YtjjbbnodmpemiaaGreatDoor
