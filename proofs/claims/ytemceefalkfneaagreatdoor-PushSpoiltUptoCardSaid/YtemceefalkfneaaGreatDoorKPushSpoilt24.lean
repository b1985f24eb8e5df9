/- Parts, joined: push.Encode: the frame of a push that may be, or why it has none. Condition: a bulk of at most 2 * 10^6, numbers of 64 bits. commonplacelaw17.known: the chapter's row is so. No condition. The law PushSpoilt returns true. Condition: a bulk of at most 2 * 10^6. -/
import Derived.Test.YtemceefalkfneaaGreatDoorProg
import Derived.Lib.SlBytesConst
import Derived.Test.YtemceefalkfneaaGreatDoorKCm17
import Derived.Test.YtemceefalkfneaaGreatDoorKCm19
import Derived.Test.YtemceefalkfneaaGreatDoorKCm27
import Derived.Test.YtemceefalkfneaaGreatDoorKPushSpoilt6
import Derived.Test.YtemceefalkfneaaGreatDoorKPushSpoilt22
import Derived.Test.YtemceefalkfneaaGreatDoorKPushSpoilt23
/- push.Encode: the frame of a push that may be, or why it has none. Condition: a bulk of at most 2 * 10^6, numbers of 64 bits. -/
namespace Go.Proofs.YtemceefalkfneaaGreatDoor
open Go Go.RowKit

theorem pw_lt : (0 : Int) ≤ 4611686018427387903 := by omega
theorem may_push {c : Int} {l : List Num} (h : mayNs l = 0) : mayV (ov (pushO c l)) 1 = 0 := by
  have v1 : validB kCli = true := by decide
  have v2 : validB kList = true := by decide
  have v3 : validB kId = true := by decide
  have v4 : validB kMut = true := by decide
  have l1 : leB kList kCli = false := by decide +kernel
  have l2 : leB kMut kId = false := by decide +kernel
  refine may_ov (by omega) (mayO_cons v1 (may_iv (by omega)) (no_last _) (mayO_cons v2 (may_lv (by omega) (mayL_ofQ fun x hx => ?_)) (a_last l1) (by simp [mayO])))
  obtain ⟨p, hp, rfl⟩ := List.mem_map.1 hx
  obtain ⟨_, hm⟩ := mayNs_all h p hp
  exact may_ov (by omega) (mayO_cons v3 (may_iv (by omega)) (no_last _) (mayO_cons v4 (may_mutV p.m 1 _ (mutMay_zero hm) (by omega) (by omega)) (a_last l2) (by simp [mayO])))
theorem in_push {c : Int} {l : List Num} (h0 : 0 ≤ c) (h1 : c ≤ 4611686018427387903) (h : mayNs l = 0) (hin : inN l) : inV (ov (pushO c l)) := by
  have key : ∀ r : List Num, (∀ p ∈ r, p ∈ l) → inL (r.map numV) := by
    intro r
    induction r with
    | nil => intro _; trivial
    | cons p r ih =>
      intro hr
      obtain ⟨⟨a, b⟩, _⟩ := mayNs_all h p (hr p (by simp))
      exact ⟨in_ov ⟨in_iv (by omega) b, in_mutV p.m (hin p (hr p (by simp))).2, trivial⟩, ih fun q hq => hr q (by simp [hq])⟩
  exact in_ov ⟨in_iv h0 h1, in_lv (key l fun _ hp => hp), trivial⟩
theorem bulk_push (c : Int) (l : List Num) (h : bulkN l ≤ 2000000) : (ov (pushO c l)).bulk ≤ 90000010 := by
  have h1 := bulk_two kCli kList c (lv (l.map numV)) (by decide) (by decide)
  have h2 := bulk_nums l
  have e : (⟨#[]⟩ : ByteArray).size = 0 := rfl
  simp only [ov, lv, pushO, Val.bulk, bulkL, bulkO, e] at h1 ⊢
  omega

set_option maxRecDepth 100000 in
set_option maxHeartbeats 2000000 in
theorem pencode_calls (c : Int) (l : List Num) (a : Option Addr) (n cc : Nat) (w : World) (hc0 : 0 ≤ c) (hT : Tabs w) (hN : MNames w) (h : Holds w w.heap.size (.row 20 (dNs l)) [.slice a n cc]) (hb : bulkN l ≤ 2000000) (hin : inN l) (hm : mayPush c l = 0) :
    Calls Tryz.prog 12 #[.agg #[.int .u64 c, .slice a n cc]] w (BytesPost0 (sealL (1 :: textV (ov (pushO c l)))) w) := by
  have hn := h.row_len
  rw [dNs_len] at hn
  subst hn
  have hM := fun (W : World) (hB : Below w.heap.size w W) => pushMay_calls c l a l.length cc W hc0 (hT.below hB) ((h.below hB).more hB.size) (by omega) hin
  rw [hm] at hM
  obtain ⟨hc1, hmn⟩ : c ≤ 4611686018427387903 ∧ mayNs l = 0 := by
    unfold mayPush at hm
    split at hm
    · cases hm
    · split at hm
      · cases hm
      · exact ⟨by omega, hm⟩
  have hO := fun (W : World) (hB : Below w.heap.size w W) => pobject_calls c l a l.length cc W hc0 hc1 (hT.below hB) (hN.below hB) ((h.below hB).more hB.size) hb hin hmn
  have hmv := may_push (c := c) hmn
  have hiv := in_push hc0 hc1 hmn hin
  have hbv := bulk_push c l hb
  have hok := okV_of _ 1 hmv hiv
  have hlen := textV_len (ov (pushO c l)) hok
  have hT2 := fun (W : World) (hB : Below w.heap.size w W) cs hv => Text_calls (ov (pushO c l)) cs W (hT.below hB) hv (by omega) hiv
  have hts : textS (ov (pushO c l)) = ⟨(textV (ov (pushO c l))).toArray⟩ := by unfold textS; rw [if_pos hmv]
  simp only [hts, hmv] at hT2
  clear hts
  have hFr : ∀ (W : World) (a : Option Addr) (n c' : Nat), Holds W W.heap.size (.row 1 (dB (textV (ov (pushO c l))))) [.slice a n c'] → Calls Tryz.prog 37 #[.int .u8 1, .slice a n c'] W (BytesPost0 (sealL (1 :: textV (ov (pushO c l)))) W) := fun W a n c' hh => frame_calls 1 (by decide) (textV (ov (pushO c l))) a n c' W hh (by omega)
  obtain ⟨S, hS⟩ : ∃ S : ByteArray, ⟨(textV (ov (pushO c l))).toArray⟩ = S := ⟨_, rfl⟩
  have hSe : textV (ov (pushO c l)) = S.data.toList := by rw [← hS]
  rw [hS] at hT2
  rw [hSe] at hFr hlen ⊢
  generalize sealL (1 :: S.data.toList) = L at hFr ⊢
  obtain ⟨wi, hwi⟩ : ∃ wi, w.alloc (.cells #[.int .u64 c, .slice a l.length cc] 40) = wi := ⟨_, rfl⟩
  have hbi : Below w.heap.size w wi := hwi ▸ alloc_below _ _
  have hxi : Blk wi w.heap.size 40 #[.int .u64 c, .slice a l.length cc] := hwi ▸ Blk.new _ _ _
  have d0 := hxi.cell 0
  have d1 := hxi.cell 1
  have hgi := hxi.lt
  have HO := Lib.hid hO
  have HT2 := Lib.hid hT2
  have HFr := Lib.hid hFr
  have HT := Lib.hid hT
  have HN := Lib.hid hN
  have H := Lib.hid h
  have HS := Lib.hid hS
  have HSe := Lib.hid hSe
  have HM := Lib.hid hM
  have Hbi := Lib.hid hbi
  have Hxi := Lib.hid hxi
  clear hO hT2 hFr hT hN h hS hSe hM hbi hxi
  clear hm hmn hmv hiv hok hin
  go_enter Tryz.func12, Tryz.ntmps12
  go_upto_region 1 with (fail)
  clear hwi
  go_wp2_with (fail)
  with_reducible refine (HM.out _ Hbi.out).mono ?_
  rintro e w1 ⟨rfl, hb1⟩
  have hw1 := Hbi.out.trans (hb1.mono Hbi.out.size)
  have hx1 := Hxi.out.below hb1 hgi
  have d2 := hx1.cell 0
  have d3 := hx1.cell 1
  have Hb1 := Lib.hid hb1
  have Hw1 := Lib.hid hw1
  have Hx1 := Lib.hid hx1
  clear hb1 hw1 hx1
  clear d0 d1
  go_wp2_with (fail)
  with_reducible refine (HO.out _ Hw1.out).mono ?_
  rintro e w2 ⟨hb2, la, lc, oa, oc, rfl, hf2⟩
  have hw2 := Hw1.out.trans (hb2.mono Hw1.out.size)
  have hw2' := hw2.alloc hw2.size (.cells #[.int .i64 6, .bool false, .int .i64 0, .string ⟨#[]⟩, .slice la 0 lc, .slice oa 2 oc] 52)
  have hf2' := (hf2.later (alloc_below w2 (.cells #[.int .i64 6, .bool false, .int .i64 0, .string ⟨#[]⟩, .slice la 0 lc, .slice oa 2 oc] 52))).now
  have Hb2 := Lib.hid hb2
  have Hw2 := Lib.hid hw2
  have Hw2' := Lib.hid hw2'
  have Hf2 := Lib.hid hf2
  have Hf2' := Lib.hid hf2'
  clear hb2 hw2 hw2' hf2 hf2'
  clear d2 d3
  go_wp2_with (fail)
  with_reducible refine (HT2.out _ Hw2'.out _ (holdsV_of _ _ Hf2'.out)).mono ?_
  rintro e w3 ⟨rfl, hb3⟩
  have hw3 := Hw2'.out.trans (hb3.mono Hw2'.out.size)
  have Hb3 := Lib.hid hb3
  have Hw3 := Lib.hid hw3
  clear hb3 hw3
  go_wp2_with (first
    | (refine wpList_to_bytes rfl 9 26 5 (.tmp 29) rfl Tryz.underlying9 Tryz.underlying26 Tryz.underlying5 S rfl ?_; intro cap w4 hb4 hf4)
    | (go_at_call 37; (with_reducible refine (HFr.out _ _ _ _ hf4.now).mono ?_); rintro e w5 ⟨a2, c2, rfl, hf5, hb5⟩))
  go_ret2
  have hw4 := Hw3.out.trans (hb4.mono Hw3.out.size)
  have hw5 := hw4.trans (hb5.mono hw4.size)
  exact ⟨a2, c2, rfl, hf5.keep hw4.size (Nat.le_refl _) (fun _ _ _ => rfl), hw5⟩
end Go.Proofs.YtemceefalkfneaaGreatDoor

/- commonplacelaw17.known: the chapter's row is so. No condition. -/
namespace Go.Proofs.YtemceefalkfneaaGreatDoor
open Go Go.RowKit

def knownNums : List Num := [⟨1, .mk 2 ⟨#[97]⟩ ⟨#[]⟩ 0 false zeroV false zeroV []⟩]
abbrev knownB : List UInt8 := [123, 34, 99, 108, 105, 101, 110, 116, 34, 58, 55, 44, 34, 108, 105, 115, 116, 34, 58, 91, 123, 34, 105, 100, 34, 58, 49, 44, 34, 109, 117, 116, 97, 116, 111, 114, 34, 58, 123, 34, 97, 114, 103, 115, 34, 58, 123, 34, 107, 101, 121, 34, 58, 34, 97, 34, 125, 44, 34, 110, 97, 109, 101, 34, 58, 34, 100, 101, 108, 34, 125, 125, 93, 125]
theorem known_push : textV (ov (pushO 7 knownNums)) = knownB := by kernel_rfl
theorem known_mayP : mayPush 7 knownNums = 0 := by decide +kernel
abbrev knownC : Array Value := #[.int .u64 1, .int .i64 2, .string ⟨#[97]⟩, .string ⟨#[]⟩, .int .i64 0, .bool false, .int .i64 0, .bool false, .int .i64 0, .string ⟨#[]⟩, .slice none 0 0, .slice none 0 0, .bool false, .int .i64 0, .bool false, .int .i64 0, .string ⟨#[]⟩, .slice none 0 0, .slice none 0 0, .slice none 0 0]
theorem known_holdsP (w : World) : Holds (w.alloc (.cells knownC 87)) (w.alloc (.cells knownC 87)).heap.size (.row 20 (dNs knownNums)) [.slice (some ⟨w.heap.size, 0, none⟩) 1 1] := by
  have hz := fun (W : World) => holds_of_V _ _ (holds_zero W W.heap.size)
  exact holds_blk (Blk.new _ _ _) (dNs_cells _) (HoldsA.one ⟨[.int .u64 1], _, rfl, ⟨rfl, rfl⟩, _, [], (List.append_nil _).symm, ⟨[.int .i64 2], _, rfl, ⟨rfl, rfl⟩, [.string ⟨#[97]⟩], _, rfl, ⟨rfl, rfl⟩, [.string ⟨#[]⟩], _, rfl, ⟨rfl, rfl⟩, [.int .i64 0], _, rfl, ⟨rfl, rfl⟩, [.bool false], _, rfl, ⟨rfl, rfl⟩, _, _, rfl, hz _, [.bool false], _, rfl, ⟨rfl, rfl⟩, _, _, rfl, hz _, [.slice none 0 0], [], rfl, ⟨none, 0, rfl, (fun d hd => by cases hd), [], rfl, .inl rfl⟩, rfl⟩, rfl⟩) rfl

set_option maxRecDepth 100000 in
theorem knownA_eq : (#[.int .u8 123, .int .u8 34, .int .u8 99, .int .u8 108, .int .u8 105, .int .u8 101, .int .u8 110, .int .u8 116, .int .u8 34, .int .u8 58, .int .u8 55, .int .u8 44, .int .u8 34, .int .u8 108, .int .u8 105, .int .u8 115, .int .u8 116, .int .u8 34, .int .u8 58, .int .u8 91, .int .u8 123, .int .u8 34, .int .u8 105, .int .u8 100, .int .u8 34, .int .u8 58, .int .u8 49, .int .u8 44, .int .u8 34, .int .u8 109, .int .u8 117, .int .u8 116, .int .u8 97, .int .u8 116, .int .u8 111, .int .u8 114, .int .u8 34, .int .u8 58, .int .u8 123, .int .u8 34, .int .u8 97, .int .u8 114, .int .u8 103, .int .u8 115, .int .u8 34, .int .u8 58, .int .u8 123, .int .u8 34, .int .u8 107, .int .u8 101, .int .u8 121, .int .u8 34, .int .u8 58, .int .u8 34, .int .u8 97, .int .u8 34, .int .u8 125, .int .u8 44, .int .u8 34, .int .u8 110, .int .u8 97, .int .u8 109, .int .u8 101, .int .u8 34, .int .u8 58, .int .u8 34, .int .u8 100, .int .u8 101, .int .u8 108, .int .u8 34, .int .u8 125, .int .u8 125, .int .u8 93, .int .u8 125] : Array Value) = (bcells knownB).toArray := by kernel_rfl
theorem known_bytes (w : World) : Holds (w.alloc (.cells (bcells knownB).toArray 5 (74, 75))) (w.alloc (.cells (bcells knownB).toArray 5 (74, 75))).heap.size (.row 1 (dB knownB)) [.slice (some ⟨w.heap.size, 0, none⟩) 74 74] := by
  have hn := heap_alloc_new w (.cells (bcells knownB).toArray 5 (74, 75))
  have hl : 74 = knownB.length := by rfl
  generalize knownB = B at hn hl ⊢
  refine (dB_fresh (b := 0) (l := B) (n := 74) (cap := 74) (g := w.heap.size) hl (Nat.zero_le _) (by simp) fun j x hx => ?_).now
  refine (cell_of_row _ _ _ _ _ _ hn).trans ?_
  rw [← Array.getElem?_toList]
  show (bcells B)[j]? = _
  unfold bcells
  rw [List.getElem?_map, hx]
  rfl

set_option maxRecDepth 100000 in
set_option maxHeartbeats 2000000 in
theorem known17_calls (w : World) (hT : Tabs w) (hN : MNames w) : Calls Tryz.prog 14 #[] w fun e w' => e = .returned (.bool true) ∧ Below w.heap.size w w' := by
  have hQ := fun (W : World) (hB : Below w.heap.size w W) => pencode_calls 7 knownNums _ 1 1 (W.alloc (.cells knownC 87)) (by omega) (hT.below (hB.alloc hB.size _)) (hN.below (hB.alloc hB.size _)) (known_holdsP W) (by decide) (by intro p hp; simp [knownNums] at hp; subst hp; exact ⟨by decide, by simp [inM, inMs, inV, inL, inO]⟩) known_mayP
  have hG : ∀ (W : World) (a : Option Addr) (n c : Nat), Holds W W.heap.size (.row 1 (dB knownB)) [.slice a n c] → Calls Tryz.prog 39 #[.int .u8 1, .slice a n c] W (BytesPost0 (sealL (1 :: knownB)) W) := fun W a n c h => rframe_calls 1 (by decide) knownB a n c W h (by decide)
  rw [known_push] at hQ
  obtain ⟨L, hL⟩ : ∃ L, sealL (1 :: knownB) = L := ⟨_, rfl⟩
  rw [hL] at hQ hG
  have hl : L.length ≤ 2000000000 := by rw [← hL]; unfold sealL; simp [sumBytes]
  have hS := fun (W : World) a n c a' n' c' h h' => same_calls L L a a' n c n' c' true W h h' hl hl (by simp)
  have hK := fun (W : World) => known_bytes W
  have hcv := fun (w : World) (cs : Array Value) => Lib.run_convert_bytes_const w 26 5 cs 74 74 Tryz.underlying26 Tryz.underlying5
  have HQ := Lib.hid hQ
  have HG := Lib.hid hG
  have HL := Lib.hid hL
  have HS := Lib.hid hS
  have HK := Lib.hid hK
  clear hQ hG hL hS hK
  clear hl
  go_enter Tryz.func14, Tryz.ntmps14
  go_wp2_with (fail)
  refine (HQ.out w (Below.refl _ _)).mono ?_
  rintro e w1 ⟨a1, c1, rfl, hf1, hb1⟩
  go_wp2_with (fail)
  have hb2 := hb1.alloc hb1.size (.cells (bcells knownB).toArray 5 (74, 75))
  have hf2 := hf1.later (alloc_below w1 (.cells (bcells knownB).toArray 5 (74, 75)))
  refine (HG.out _ _ _ _ (HK.out w1)).mono ?_
  rintro e w3 ⟨a3, c3, rfl, hf3, hb3⟩
  have hb3' := hb2.trans (hb3.mono hb2.size)
  have hf23 := hf2.later hb3
  have Hb1 := Lib.hid hb1
  have Hb2 := Lib.hid hb2
  have Hf2 := Lib.hid hf2
  have Hf1 := Lib.hid hf1
  have Hb3 := Lib.hid hb3
  have Hb3' := Lib.hid hb3'
  have Hf23 := Lib.hid hf23
  have Hf3 := Lib.hid hf3
  clear hb1 hb2 hf2 hf1 hb3 hb3' hf23 hf3
  go_wp2_with (fail)
  refine (HS.out _ _ _ _ _ _ _ Hf23.out.now Hf3.out.now).mono ?_
  rintro e w4 ⟨rfl, hb4⟩
  go_wp2
  go_ret
  have hz := alloc_below w (.cells knownC 87)
  have hb4' := Hb3'.out.trans (hb4.mono Hb3'.out.size)
  exact ⟨rfl, hz.trans (hb4'.mono hz.size)⟩
end Go.Proofs.YtemceefalkfneaaGreatDoor

/- The law PushSpoilt returns true. Condition: a bulk of at most 2 * 10^6. -/
namespace Go.Proofs.YtemceefalkfneaaGreatDoor
open Go Go.RowKit

set_option maxRecDepth 100000 in
set_option maxHeartbeats 2000000 in
theorem pspoilt_no (c : Int) (l : List Num) (i : Int) (m : UInt8) (hc : 0 ≤ c) (hm : mayPush c l ≠ 0) (a : Option Addr) (n cc : Nat) (w : World) (hT : Tabs w) (hN : MNames w) (h : Holds w w.heap.size (.row 20 (dNs l)) [.slice a n cc]) (hb : bulkN l ≤ 2000000) (hin : inN l) :
    Calls Tryz.prog 4 #[.agg #[.int .u64 c, .slice a n cc], .int .i64 i, .int .u8 m.toNat] w fun e w' => e = .returned (.bool true) ∧ Below w.heap.size w w' := by
  have h2 := fun (W : World) hB => pencode_no c l a n cc W hc (hT.below (w' := W) hB) ((h.below hB).more hB.size) hb hin hm
  have h3 := fun (W : World) hB => rpushMay_calls c l a n cc W hc (hT.below (w' := W) hB) ((h.below hB).more hB.size) (by omega) hin
  have h4 := fun (W : World) hB => known17_calls W (hT.below (w' := W) hB) (hN.below hB)
  generalize mayPush c l = X at hm h2 h3
  have tX : (X != 0) = true := by simpa using hm
  obtain ⟨wi, hwi⟩ : ∃ wi, w.alloc (.cells #[.int .u64 c, .slice a n cc] 40) = wi := ⟨_, rfl⟩
  have hxb : Blk wi w.heap.size 40 #[.int .u64 c, .slice a n cc] := hwi ▸ Blk.new _ _ _
  have hbi : Below w.heap.size w wi := hwi ▸ alloc_below _ _
  have d0 := hxb.cell 0
  have d1 := hxb.cell 1
  have g0 := hxb.lt
  have H2 := Lib.hid h2
  have H3 := Lib.hid h3
  have H4 := Lib.hid h4
  have Hxb := Lib.hid hxb
  have Hbi := Lib.hid hbi
  have HT := Lib.hid hT
  have HN := Lib.hid hN
  have H := Lib.hid h
  clear h2 h3 h4 hxb hbi hT hN h
  clear hm
  go_enter Tryz.func4, Tryz.ntmps4
  go_upto_region 1 with (fail)
  clear hwi
  go_wp2_with (fail)
  with_reducible refine (H2.out _ Hbi.out).mono ?_
  rintro e w2 ⟨rfl, hb2⟩
  have hbw2 := Hbi.out.trans (hb2.mono Hbi.out.size)
  obtain ⟨hc2, hg2⟩ := bcellM hb2
  go_wp2_with (fail)
  with_reducible refine (H3.out _ hbw2).mono ?_
  rintro e w3 ⟨rfl, hb3⟩
  have hbw3 := hbw2.trans (hb3.mono hbw2.size)
  go_wp2_with (fail)
  with_reducible refine (H4.out _ hbw3).mono ?_
  rintro e w4 ⟨rfl, hb4⟩
  have hbw4 := hbw3.trans (hb4.mono hbw3.size)
  go_wp2
  go_ret
  exact ⟨rfl, hbw4⟩

set_option maxRecDepth 100000 in
set_option maxHeartbeats 4000000 in
theorem pspoilt_yes (c : Int) (l : List Num) (i : Int) (m : UInt8) (hi64 : -9223372036854775808 ≤ i ∧ i ≤ 9223372036854775807) (hc : 0 ≤ c) (hm : mayPush c l = 0) (a : Option Addr) (n cc : Nat) (w : World) (hT : Tabs w) (hN : MNames w) (h : Holds w w.heap.size (.row 20 (dNs l)) [.slice a n cc]) (hb : bulkN l ≤ 2000000) (hin : inN l) :
    Calls Tryz.prog 4 #[.agg #[.int .u64 c, .slice a n cc], .int .i64 i, .int .u8 m.toNat] w fun e w' => e = .returned (.bool true) ∧ Below w.heap.size w w' := by
  have hmn : mayNs l = 0 := by
    have h := hm
    unfold mayPush at h
    split at h
    · cases h
    · split at h
      · cases h
      · exact h
  have h2 := fun (W : World) hB => pencode_calls c l a n cc W hc (hT.below (w' := W) hB) (hN.below hB) ((h.below hB).more hB.size) hb hin hm
  have h3 := fun (W : World) hB => rpushMay_calls c l a n cc W hc (hT.below (w' := W) hB) ((h.below hB).more hB.size) (by omega) hin
  have h4 := fun (W : World) hB => known17_calls W (hT.below (w' := W) hB) (hN.below hB)
  have h7 := fun W => same17_zero W
  rw [hm] at h3
  have hlM : (sealL (1 :: textV (ov (pushO c l)))).length ≤ 1000000000 := by
    have := textV_len _ (okV_of _ 1 (may_push (c := c) hmn) (in_push hc (by unfold mayPush at hm; split at hm; cases hm; omega) hmn hin))
    have := bulk_push c l hb
    rw [sealL_len, List.length_cons]; omega
  have hBE : ∀ (j : Nat) (x : UInt8), (sealL (1 :: textV (ov (pushO c l))))[j]? = some x → m ≠ 0 → bodyE 1 ((sealL (1 :: textV (ov (pushO c l)))).set j (x ^^^ m)) = 11 := fun j x hx hm => bodyE_spoilt 1 _ j x _ hx (mask_ne hm)
  generalize sealL (1 :: textV (ov (pushO c l))) = M at h2 hlM hBE
  have h5 := fun (W : World) a n c h => spoil_calls M i m a n c W h hlM
  have h6 : ∀ (j : Nat) (x : UInt8), M[j]? = some x → m ≠ 0 → ∀ (W : World) (a : Option Addr) (n c : Nat), Holds W W.heap.size (.row 1 (dB (M.set j (x ^^^ m)))) [.slice a n c] → n ≤ c → Calls Tryz.prog 15 #[.slice a n c] W fun e w' => e = .returned (.tuple #[.agg #[.int .u64 0, .slice none 0 0], .int .i64 11]) ∧ Below W.heap.size W w' := fun j x hx hm W a n c hh hc => pdecode_no _ 11 (hBE j x hx hm) (by omega) a n c W hh hc (by rw [List.length_set]; exact hlM)
  obtain ⟨wi, hwi⟩ : ∃ wi, w.alloc (.cells #[.int .u64 c, .slice a n cc] 40) = wi := ⟨_, rfl⟩
  have hxb : Blk wi w.heap.size 40 #[.int .u64 c, .slice a n cc] := hwi ▸ Blk.new _ _ _
  have hbi : Below w.heap.size w wi := hwi ▸ alloc_below _ _
  have d0 := hxb.cell 0
  have d1 := hxb.cell 1
  have g0 := hxb.lt
  have H2 := Lib.hid h2
  have H3 := Lib.hid h3
  have H4 := Lib.hid h4
  have H5 := Lib.hid h5
  have H6 := Lib.hid h6
  have H7 := Lib.hid h7
  have Hxb := Lib.hid hxb
  have Hbi := Lib.hid hbi
  have HT := Lib.hid hT
  have HN := Lib.hid hN
  have H := Lib.hid h
  clear h2 h3 h4 h5 h6 h7 hxb hbi hT hN h
  clear hm hmn hBE
  go_enter Tryz.func4, Tryz.ntmps4
  go_upto_region 1 with (fail)
  clear hwi
  go_wp2_with (fail)
  with_reducible refine (H2.out _ Hbi.out).mono ?_
  rintro e w2 ⟨a2, c2, rfl, hf2, hb2⟩
  have hbw2 := Hbi.out.trans (hb2.mono Hbi.out.size)
  obtain ⟨hc2, hg2⟩ := bcellM hb2
  go_wp2_with (fail)
  with_reducible refine (H3.out _ hbw2).mono ?_
  rintro e w3 ⟨rfl, hb3⟩
  have hbw3 := hbw2.trans (hb3.mono hbw2.size)
  clear hc2 hg2
  go_wp2_with (fail)
  refine (H5.out _ _ _ _ (hf2.later hb3).now).mono ?_
  rintro e w4 ⟨hb4, hr⟩
  have hbw4 := hbw3.trans (hb4.mono hbw3.size)
  by_cases hE : spoilE i m M.length = 0
  · rw [if_pos hE] at hr
    obtain ⟨a4, c4, x, hx, rfl, hf4⟩ := hr
    have hm0 : m ≠ 0 := by
      unfold spoilE at hE
      intro e
      rw [if_pos e] at hE
      split at hE <;> cases hE
    go_wp2_with (fail)
    refine (H6.out _ _ hx hm0 _ _ _ _ (by simpa using hf4.now) (by omega)).mono ?_
    rintro e w5 ⟨rfl, hb5⟩
    have hbw5 := hbw4.trans (hb5.mono hbw4.size)
    have hbA := hbw5.alloc hbw5.size (.cells #[.int .u64 0, .slice none 0 0] 40)
    go_wp2_with (fail)
    refine (H7.out _).mono ?_
    rintro e w6 ⟨rfl, hb6⟩
    have hbw6 := hbA.trans (hb6.mono hbA.size)
    go_wp2_with (fail)
    refine (H4.out _ hbw6).mono ?_
    rintro e w7 ⟨rfl, hb7⟩
    have hbw7 := hbw6.trans (hb7.mono hbw6.size)
    go_wp2
    go_ret
    exact ⟨rfl, hbw7⟩
  · rw [if_neg hE] at hr
    obtain rfl := hr
    have tE : (spoilE i m M.length != 0) = true := by simpa using hE
    have hK : i < 0 ∨ (¬ i < 0 ∧ (M.length : Int) ≤ i) ∨ (¬ i < 0 ∧ ¬ (M.length : Int) ≤ i ∧ m = 0) := by
      by_cases h1 : i < 0
      · exact .inl h1
      · by_cases h2 : (M.length : Int) ≤ i
        · exact .inr (.inl ⟨h1, h2⟩)
        · refine .inr (.inr ⟨h1, h2, ?_⟩)
          unfold spoilE at hE
          rw [if_pos ⟨by omega, by omega⟩] at hE
          by_cases hm : m = 0
          · exact hm
          · rw [if_neg hm] at hE
            exact absurd rfl hE
    generalize spoilE i m M.length = V at tE
    have hmz := u8_ne0 m
    clear hE
    rcases hK with e1 | ⟨e1, e2⟩ | ⟨e1, e2, e3⟩
    · have t1 : decide (i < 0) = true := decide_eq_true e1
      go_wp2_with (fail)
      refine (H4.out _ hbw4).mono ?_
      rintro e w7 ⟨rfl, hb7⟩
      have hbw7 := hbw4.trans (hb7.mono hbw4.size)
      go_wp2
      go_ret
      exact ⟨rfl, hbw7⟩
    · have t1 : decide (i < 0) = false := decide_eq_false e1
      have t2 : decide ((M.length : Int) ≤ i) = true := decide_eq_true e2
      go_wp2_with (fail)
      refine (H4.out _ hbw4).mono ?_
      rintro e w7 ⟨rfl, hb7⟩
      have hbw7 := hbw4.trans (hb7.mono hbw4.size)
      go_wp2
      go_ret
      exact ⟨rfl, hbw7⟩
    · have t1 : decide (i < 0) = false := decide_eq_false e1
      have t2 : decide ((M.length : Int) ≤ i) = false := decide_eq_false e2
      have t3 : (((m.toNat : Nat) : Int) == 0) = true := by rw [e3]; decide
      go_wp2_with (fail)
      refine (H4.out _ hbw4).mono ?_
      rintro e w7 ⟨rfl, hb7⟩
      have hbw7 := hbw4.trans (hb7.mono hbw4.size)
      go_wp2
      go_ret
      exact ⟨rfl, hbw7⟩

theorem PushSpoilt_law (c : Int) (l : List Num) (i : Int) (m : UInt8) (hi64 : -9223372036854775808 ≤ i ∧ i ≤ 9223372036854775807) (hc : 0 ≤ c) (a : Option Addr) (n cc : Nat) (w : World) (hT : Tabs w) (hN : MNames w) (h : Holds w w.heap.size (.row 20 (dNs l)) [.slice a n cc]) (hb : bulkN l ≤ 2000000) (hin : inN l) :
    Calls Tryz.prog 4 #[.agg #[.int .u64 c, .slice a n cc], .int .i64 i, .int .u8 m.toNat] w fun e w' => e = .returned (.bool true) ∧ Below w.heap.size w w' := by
  by_cases hm : mayPush c l = 0
  · exact pspoilt_yes c l i m hi64 hc hm a n cc w hT hN h hb hin
  · exact pspoilt_no c l i m hc hm a n cc w hT hN h hb hin
end Go.Proofs.YtemceefalkfneaaGreatDoor
