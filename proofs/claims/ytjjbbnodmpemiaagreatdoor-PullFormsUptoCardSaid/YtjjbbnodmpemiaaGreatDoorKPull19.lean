/- Parts, joined: crc: sums and sealed bytes, the program's and the reference's; are bytes the same; the reference's frame. Condition: at most 10^9 bytes. commonplaceref02.Within: the values at once within one. Condition: a bulk of at most 10^8. -/
import Derived.Test.YtjjbbnodmpemiaaGreatDoorProg
import Derived.BigQuiet
import Derived.Deep.QuietTactic
import Derived.Maps.AppendAt
import Derived.Test.YtjjbbnodmpemiaaGreatDoorKPull6
import Derived.Test.YtjjbbnodmpemiaaGreatDoorKPull8
import Derived.Test.YtjjbbnodmpemiaaGreatDoorKPull17
/- crc: sums and sealed bytes, the program's and the reference's; are bytes the same; the reference's frame. Condition: at most 10^9 bytes. -/
namespace Go.Proofs.YtjjbbnodmpemiaaGreatDoor
open Go.RowKit

theorem go1_at (r c : Nat) (hr : r < 4294967296) (w : World) : Calls Tryz.prog 126 #[.int .u32 r, .int .u32 ((c : Int) % 2)] w fun e w' => e = .returned (.int .u32 (go1N r (c % 2) : Nat)) ∧ w = w' := by
  have h := go1_calls r (c % 2) hr (by omega) w
  rw [show ((c % 2 : Nat) : Int) = (c : Int) % 2 from by omega] at h
  exact h
theorem rbN_st8 (r : Nat) (x : UInt8) : rbN 8 r x.toNat = st8 (r ^^^ x.toNat) := by rw [rbN_eq 8 r _ (by have := x.toNat_lt; omega), st8_eq]
theorem go1N_lt {r b : Nat} (hr : r < 4294967296) (hb : b < 2) : go1N r b < 4294967296 := by
  rw [go1N_eq r b hb]
  exact st1_lt (Nat.xor_lt_two_pow (n := 32) hr (by omega))

set_option maxRecDepth 100000 in
set_option maxHeartbeats 2000000 in
theorem rmore_calls (s : Nat) (hs : s < 4294967296) (l : List UInt8) (a : Option Addr) (n c : Nat) (w : World) (h : Holds w w.heap.size (.row 1 (dB l)) [.slice a n c]) (hl : l.length ≤ 1000000000) :
    Calls Tryz.prog 97 #[.int .u32 s, .slice a n c] w fun e w' => e = .returned (.int .u32 (crcMore s l : Nat)) ∧ w = w' := by
  obtain rfl := dB_n h
  obtain ⟨r0, hr0⟩ : ∃ r, 4294967295 - s = r := ⟨_, rfl⟩
  have e0 : (4294967295 : Int) - (s : Int) = (r0 : Int) := by omega
  have hr0l : r0 < 4294967296 := by omega
  have hm : crcMore s l = 4294967295 - crcGo r0 l := by unfold crcMore; rw [hr0]
  have E0 := Lib.hid e0
  have H := Lib.hid h
  have Hm := Lib.hid hm
  clear h hm
  clear e0 hr0
  go_enter Tryz.func97, Tryz.ntmps97
  go_wp2_with (fail)
  go_loop [5, 6] (fun r i => ∃ k : Nat, k ≤ l.length ∧ i = .int .i64 k ∧ r = .int .u32 (crcGo r0 (l.take k) : Nat)) (fun _ i => l.length - (intOf i).toNat)
  case atStart => exact ⟨0, Nat.zero_le _, rfl, by rw [E0.out]; rfl⟩
  case round =>
    obtain ⟨k, hk, rfl, rfl⟩ := hrel
    by_cases hlt : k < l.length
    · obtain ⟨x, hx⟩ : ∃ x, l[k]? = some x := ⟨_, List.getElem?_eq_getElem hlt⟩
      obtain ⟨g, off, rfl, hg, hcell⟩ := dB_at H.out hx
      have htk : l.take (k + 1) = l.take k ++ [x] := by
        obtain ⟨_, rfl⟩ := List.getElem?_eq_some_iff.1 hx
        exact List.take_succ_eq_append_getElem hlt
      have hfin : rbN 8 (crcGo r0 (l.take k)) x.toNat = crcGo r0 (l.take (k + 1)) := by rw [htk, crcGo_snoc, rbN_st8]
      have hRl := crcGo_lt (l.take k) hr0l
      have hXl : x.toNat < 256 := x.toNat_lt
      obtain ⟨R9, hR9⟩ : ∃ R9, crcGo r0 (l.take (k + 1)) = R9 := ⟨_, rfl⟩
      rw [hR9] at hfin
      generalize crcGo r0 (l.take k) = R at hfin hRl ⊢
      generalize x.toNat = C at hfin hXl hcell
      have Hfin := Lib.hid hfin
      have Htk := Lib.hid htk
      have Hx := Lib.hid hx
      have HR9 := Lib.hid hR9
      clear hfin htk hx hR9
      go_wp2_with (fail)
      go_loop [5, 7, 8] (fun r c k => ∃ q r' c' : Nat, q ≤ 8 ∧ k = .int .i64 q ∧ r = .int .u32 r' ∧ c = .int .u32 c' ∧ r' < 4294967296 ∧ c' < 256 ∧ Hid (rbN (8 - q) r' c' = R9)) (fun _ _ i => 8 - (intOf i).toNat)
      case atStart => exact ⟨0, R, C, by omega, rfl, rfl, rfl, hRl, hXl, Hfin⟩
      case round =>
        obtain ⟨q, r', c', hq, rfl, rfl, rfl, hrl, hcl, hR⟩ := hrel
        by_cases hq8 : q < 8
        · have hn : Hid (rbN (8 - (q + 1)) (go1N r' (c' % 2)) (c' / 2) = R9) := by
            have := hR.out
            rw [show 8 - q = (8 - (q + 1)) + 1 from by omega] at this
            simp only [rbN] at this
            exact this
          have hl2 := go1N_lt (b := c' % 2) hrl (by omega)
          have hC := Lib.hid (fun W => go1_at r' c' hrl W)
          clear hR
          go_wp2_with (go_at_call 126; with_reducible refine (hC.out _).mono ?_; rintro e w2 ⟨rfl, rfl⟩)
          go_round
          case rel => exact ⟨q + 1, go1N r' (c' % 2), c' / 2, by omega, by go_num, rfl, by go_num, hl2, by omega, hn⟩
          case measure => simp [intOf]; omega
        · obtain rfl : q = 8 := by omega
          obtain rfl : r' = R9 := hR.out
          clear hR
          go_wp2
          go_round
          case rel => exact ⟨k + 1, by omega, by go_num, by rw [HR9.out]⟩
          case measure => simp [intOf]; omega
    · obtain rfl : k = l.length := by omega
      rw [List.take_length]
      have hcl := crcGo_lt l hr0l
      have e9 : (4294967295 : Int) - (crcGo r0 l : Int) = ((crcMore s l : Nat) : Int) := by rw [Hm.out]; omega
      have E9 := Lib.hid e9
      clear e9
      go_wp2
      go_ret
      exact ⟨by rw [← E9.out]; rfl, rfl⟩

theorem sum_calls (l : List UInt8) (a : Option Addr) (n c : Nat) (w : World) (h : Holds w w.heap.size (.row 1 (dB l)) [.slice a n c]) (hl : l.length ≤ 1000000000) :
    Calls Tryz.prog 96 #[.slice a n c] w fun e w' => e = .returned (.int .u32 (crcMore 0 l : Nat)) ∧ Below w.heap.size w w' := by
  have hC := more_calls 0 (by omega) l a n c w h hl
  rw [show ((0 : Nat) : Int) = 0 from rfl] at hC
  have HC := Lib.hid hC
  have H := Lib.hid h
  clear hC h
  go_enter Tryz.func96, Tryz.ntmps96
  go_wp2_with (go_at_call 125; with_reducible refine (HC.out).mono ?_; rintro e w2 ⟨rfl, hb⟩)
  go_ret
  exact ⟨rfl, hb⟩
theorem rsum_calls (l : List UInt8) (a : Option Addr) (n c : Nat) (w : World) (h : Holds w w.heap.size (.row 1 (dB l)) [.slice a n c]) (hl : l.length ≤ 1000000000) :
    Calls Tryz.prog 66 #[.slice a n c] w fun e w' => e = .returned (.int .u32 (crcMore 0 l : Nat)) ∧ w = w' := by
  have hC := rmore_calls 0 (by omega) l a n c w h hl
  rw [show ((0 : Nat) : Int) = 0 from rfl] at hC
  have HC := Lib.hid hC
  have H := Lib.hid h
  clear hC h
  go_enter Tryz.func66, Tryz.ntmps66
  go_wp2_with (go_at_call 97; with_reducible refine (HC.out).mono ?_; rintro e w2 ⟨rfl, rfl⟩)
  go_ret
  exact ⟨rfl, rfl⟩

/-- Bytes of the call's own, given back. -/
def BytesPost (l : List UInt8) (w : World) (e : Ending) (w' : World) : Prop := ∃ a c, e = .returned (.slice a l.length c) ∧ Fresh w.heap.size w' (.row 1 (dB l)) [.slice a l.length c] ∧ Below w.heap.size w w'
theorem BytesPost.of {l : List UInt8} {w w' : World} {v : Value} (h : w'.ownsRow w.heap.size 5 1 v l.length (bcells l)) (hb : Below w.heap.size w w') : BytesPost l w (.returned v) w' := by
  obtain ⟨a, c, rfl, hf⟩ := own_bytes h
  exact ⟨a, c, rfl, hf, hb⟩

/-- The i-th byte of a sum. -/
def sumB (s : Nat) : Nat → List UInt8
  | 0 => []
  | n + 1 => UInt8.ofNat (s % 256) :: sumB (s / 256) n
theorem sumB_four (s : Nat) : sumB s 4 = sumBytes s := by
  simp only [sumB, sumBytes, Nat.div_div_eq_div_mul]
theorem sumB_snoc : ∀ (n s : Nat), sumB s (n + 1) = sumB s n ++ [UInt8.ofNat (s / 256 ^ n % 256)]
  | 0, s => by simp [sumB]
  | n + 1, s => by
    rw [sumB, sumB_snoc n (s / 256), sumB]
    rw [Nat.div_div_eq_div_mul, ← Nat.pow_succ', List.cons_append]
theorem sumB_len : ∀ (n s : Nat), (sumB s n).length = n
  | 0, _ => rfl
  | n + 1, s => by simp [sumB, sumB_len n]
theorem u8_cell (x : Nat) (h : x < 256) : Value.int .u8 (x : Int) = .int .u8 ((UInt8.ofNat x).toNat : Nat) := by
  have : (UInt8.ofNat x).toNat = x := by simp [UInt8.toNat_ofNat']; omega
  rw [this]

set_option maxRecDepth 100000 in
set_option maxHeartbeats 2000000 in
theorem rseal_calls (l : List UInt8) (a : Option Addr) (n c : Nat) (w : World) (h : Holds w w.heap.size (.row 1 (dB l)) [.slice a n c]) (hl : l.length ≤ 1000000000) :
    Calls Tryz.prog 40 #[.slice a n c] w (BytesPost (sealL l) w) := by
  obtain ⟨hn, hR⟩ := dB_reads h
  subst hn
  have H := Lib.hid h
  have HR := Lib.hid hR
  clear h hR
  go_enter Tryz.func40, Tryz.ntmps40
  go_wp2_with (at_builtin; refine wpList_append_by rfl (.tmp 6) (.tmp 7) 35 35 5 rfl Tryz.underlying35 Tryz.underlying35 w.heap.size (.slice none 0 0) [] rfl (World.ownsRow_nil _ _ _ _) _ a _ c l rfl HR.out (by simp; omega) (Nat.le_refl _) ?_; intro v1 w1 hown1 hg1 hat1)
  have hb1 : Below w.heap.size w w1 := (Below.refl _ _).grown hg1 (Nat.le_refl _) (by simp [Value.ownBlock])
  rw [List.nil_append] at hown1
  have hC := rsum_calls l a l.length c w1 ((H.out.below hb1).more hb1.size) hl
  have hcl := crcMore_lt 0 l
  have hsf := sumB_four (crcMore 0 l)
  obtain ⟨s0, hs0⟩ : ∃ s0, crcMore 0 l = s0 := ⟨_, rfl⟩
  rw [hs0] at hC hcl hsf
  have hfin : sealL l = l ++ sumB s0 4 := by unfold sealL; rw [hsf, hs0]
  have HC := Lib.hid hC
  have Hown1 := Lib.hid hown1
  have Hg1 := Lib.hid hg1
  have Hb1 := Lib.hid hb1
  have Hat1 := Lib.hid hat1
  have Hfin := Lib.hid hfin
  have Hsf := Lib.hid hsf
  have Hs0 := Lib.hid hs0
  clear hC hown1 hg1 hb1 hat1 hfin hsf hs0
  go_wp2_with (go_at_call 66; with_reducible refine (HC.out).mono ?_; rintro e w2 ⟨rfl, rfl⟩)
  go_loopw [3, 4, 5] (fun v s i wr => ∃ k : Nat, k ≤ 4 ∧ i = .int .i64 k ∧ s = .int .u32 (s0 / 256 ^ k : Nat) ∧ Hid (wr.ownsRow w.heap.size 5 1 v (l ++ sumB s0 k).length (bcells (l ++ sumB s0 k))) ∧ Hid (Below w.heap.size w wr)) (fun _ _ i _ => 4 - (intOf i).toNat)
  case atStart => exact ⟨0, by omega, rfl, by simp, by rw [show l ++ sumB s0 0 = l from by simp [sumB]]; exact Hown1, Hb1⟩
  case round =>
    obtain ⟨k, hk, rfl, rfl, hown, hb⟩ := hrel
    by_cases hlt : k < 4
    · obtain ⟨s1, hs1⟩ : ∃ s1, s0 / 256 ^ k = s1 := ⟨_, rfl⟩
      have hs1l : s1 < 4294967296 := by rw [← hs1]; exact Nat.lt_of_le_of_lt (Nat.div_le_self _ _) hcl
      have hnx : s0 / 256 ^ (k + 1) = s1 / 256 := by rw [← hs1, Nat.div_div_eq_div_mul, Nat.pow_succ]
      have hsn : (l ++ sumB s0 k) ++ [UInt8.ofNat (s1 % 256)] = l ++ sumB s0 (k + 1) := by rw [sumB_snoc, hs1, List.append_assoc]
      rw [hs1]
      have hz := hb.out.size
      have hlen := sumB_len k s0
      have ecell : Value.int .u8 ((s1 : Int) % 256) = .int .u8 ((UInt8.ofNat (s1 % 256)).toNat : Nat) := by rw [← u8_cell _ (by omega)]; go_num
      have hlit := (reads_lit (ecell ▸ Blk.new wr 5 #[.int .u8 ((s1 : Int) % 256)] : Blk _ _ _ #[.int .u8 ((UInt8.ofNat (s1 % 256)).toNat : Nat)]))
      rw [← ecell] at hlit
      have Hsn := Lib.hid hsn
      have Hnx := Lib.hid hnx
      have Hs1 := Lib.hid hs1
      have Hlen := Lib.hid hlen
      have Hlit := Lib.hid hlit
      have Ecell := Lib.hid ecell
      clear hsn hnx hs1 hlen hlit ecell
      clear Hown1 Hb1
      go_wp2_with (at_builtin; refine wpList_append_by rfl (.tmp 15) (.tmp 19) 35 35 5 rfl Tryz.underlying35 Tryz.underlying35 w.heap.size u3 _ rfl (hown.out.alloc _) _ _ _ _ [UInt8.ofNat (s1 % 256)] rfl Hlit.out (by have := Hlen.out; simp; omega) (by simp; omega) ?_; intro v3 w3 hown3 hg3 hat3)
      have hb3 : Below w.heap.size w w3 := (hb.out.alloc (by omega) _).grown hg3 (by simp; omega) (fun j e => (hown.out.lt j e).1)
      rw [Hsn.out] at hown3
      have Hown3 := Lib.hid hown3
      have Hb3 := Lib.hid hb3
      clear hown3 hb3
      clear hown hb hg3 hat3 Hsn
      go_wp2
      go_roundw
      case rel => exact ⟨k + 1, by omega, by go_num, by rw [Hnx.out]; go_num, Hown3, Hb3⟩
      case measure => simp [intOf]; omega
    · obtain rfl : k = 4 := by omega
      rw [← Hfin.out] at hown
      go_wp2
      go_ret
      exact BytesPost.of hown.out hb.out
end Go.Proofs.YtjjbbnodmpemiaaGreatDoor

/- commonplaceref02.Within: the values at once within one. Condition: a bulk of at most 10^8. -/
namespace Go.Proofs.YtjjbbnodmpemiaaGreatDoor
open Go.RowKit


/-- What an owned row of values is, as a slice. -/
theorem own_slice {w : World} {B m : Nat} {v : Value} {ns : List Value} (h : w.ownsRow B 45 6 v m ns) :
    ∃ la lc, v = .slice la m lc ∧ (m = 0 ∨ ∃ g, la = some ⟨g, 0, none⟩ ∧ B ≤ g ∧ g < w.heap.size ∧ ∀ j u, ns[j]? = some u → w.cell? ⟨g, 0 + j, none⟩ = some u) := by
  rcases h.2 with ⟨rfl, hz⟩ | ⟨g, cap, cur, rfl, hbg, hg, _, _, _, _⟩
  · subst hz
    exact ⟨none, 0, rfl, .inl rfl⟩
  · refine ⟨_, cap, rfl, .inr ⟨g, rfl, hbg, (Array.getElem?_eq_some_iff.1 hg).1, fun j u hu => ?_⟩⟩
    have := h.cells (g := g) rfl j u hu
    rw [Go.WideShapes.add_plain] at this
    exact this

/-- What Within hands back. -/
def WithinPost (w : World) (v : Val) (e : Ending) (w' : World) : Prop :=
  (∃ la lc, e = .returned (.slice la (within v).length lc) ∧ (within v = [] ∨ ∃ g off, la = some ⟨g, off, none⟩ ∧ g < w'.heap.size ∧ HoldsL w' w'.heap.size (within v) g off)) ∧ Below w.heap.size w w'

set_option maxRecDepth 100000 in
set_option maxHeartbeats 2000000 in
theorem within_list (b : Bool) (n : Int) (t : ByteArray) (l : List Val) (o : List (ByteArray × Val)) (la oa : Option Addr) (oc lc : Nat) (w : World) (hl : l = [] ∨ ∃ g off, la = some ⟨g, off, none⟩ ∧ g < w.heap.size ∧ HoldsL w w.heap.size l g off)
    (hb : bulkL l ≤ 100000000) :
    Calls Tryz.prog 77 #[.agg #[.int .i64 5, .bool b, .int .i64 n, .string t, .slice la l.length lc, .slice oa o.length oc]] w (WithinPost w (.mk 5 b n t l o)) := by
  have hln := bulkL_len l
  have hw : within (.mk 5 b n t l o) = l := by simp [within]
  by_cases h0 : l = []
  · subst h0
    clear hl
    go_enter Tryz.func77, Tryz.ntmps77
    have Hw := Lib.hid hw
    clear hw
    cases la
    · go_wp2
      go_ret
      exact ⟨⟨none, 0, by rw [Hw.out]; rfl, .inl Hw.out⟩, (Below.refl _ _).alloc (Nat.le_refl _) _⟩
    · go_wp2
      go_ret
      exact ⟨⟨none, 0, by rw [Hw.out]; rfl, .inl Hw.out⟩, (Below.refl _ _).alloc (Nat.le_refl _) _⟩
  · obtain ⟨g, off, rfl, hg, hL⟩ := hl.resolve_left h0
    obtain ⟨i0, hi, hz0, hz1, hz2⟩ := info_parts info_val
    obtain ⟨ns, hrow, hcells⟩ := HoldsL.row hL
    obtain ⟨hnl, hno⟩ := hrow.len
    have HI := Lib.hid hi
    have HZ0 := Lib.hid hz0
    have HZ1 := Lib.hid hz1
    have HZ2 := Lib.hid hz2
    have Hrow := Lib.hid hrow
    have Hcells := Lib.hid hcells
    have Hw := Lib.hid hw
    have HN := Lib.hid hnl
    have HO := Lib.hid hno
    clear hi hz0 hz1 hz2 hrow hcells hw hnl hno hl hL
    obtain ⟨w1, hw1⟩ : ∃ w1, w.alloc (.cells #[.int .i64 5, .bool b, .int .i64 n, .string t, .slice (some ⟨g, off, none⟩) l.length lc, .slice oa o.length oc] 45) = w1 := ⟨_, rfl⟩
    have hb1 : Below w.heap.size w w1 := hw1 ▸ (Below.refl _ _).alloc (Nat.le_refl _) _
    have hbx1 : w1.heap[w.heap.size]? = some (.cells #[.int .i64 5, .bool b, .int .i64 n, .string t, .slice (some ⟨g, off, none⟩) l.length lc, .slice oa o.length oc] 45 (0, 0)) := by rw [← hw1]; exact heap_alloc_new _ _
    have hz1 : w1.heap.size = w.heap.size + 1 := by rw [← hw1]; simp
    have HB1 := Lib.hid hb1
    have HX1 := Lib.hid hbx1
    have HS1 := Lib.hid hz1
    have Hown : Hid (w1.ownsRow (w.heap.size + 1) 45 6 (.slice none 0 0) 0 []) := World.ownsRow_nil _ _ _ _
    clear hb1 hbx1 hz1
    subst hw1
    go_enter Tryz.func77, Tryz.ntmps77
    go_wp2_with (at_builtin; refine wpList_append_own _ rfl (.tmp 8) (.tmp 10) 42 rfl (w.heap.size + 1) 45 i0 (.agg #[.int .i64 0, .bool false, .int .i64 0, .string ⟨#[]⟩, .slice none 0 0, .slice none 0 0]) 6 88 Tryz.underlying42 HI.out HZ0.out HZ1.out HZ2.out rfl (by decide) (.slice none 0 0) 0 [] rfl Hown.out ⟨g, off, none⟩ l.length lc ns rfl HN.out ?c1 ?c2 ?c3 ?c4 ?c5 ?_)
    case c1 =>
      intro j u hj
      rw [Go.WideShapes.add_plain]
      exact (HB1.out.cell (p := ⟨g, off + j, none⟩) hg).trans (Hcells.out j u hj)
    case c2 => exact HO.out
    case c3 => unfold maxLen; omega
    case c4 => omega
    case c5 => simp
    intro v' w2 hown' hgrow _
    obtain ⟨la', lc', rfl, hsl⟩ := own_slice hown'
    have hbA := ((HB1.out).grown hgrow (by rw [HS1.out]; omega) (fun k hk => by simp [Value.ownBlock] at hk))
    have hbox2 : w2.heap[w.heap.size]? = some (.cells #[.int .i64 5, .bool b, .int .i64 n, .string t, .slice (some ⟨g, off, none⟩) l.length lc, .slice oa o.length oc] 45 (0, 0)) := (hgrow.block _ (by rw [HS1.out]; omega) (by simp [Value.ownBlock])).trans HX1.out
    have d0 : w2.cell? ⟨w.heap.size, 0, none⟩ = some (.int .i64 5) := by rw [Lib.cell_of_heap hbox2]; rfl
    have Hsl := Lib.hid hsl
    have HbA := Lib.hid hbA
    clear hown' hgrow hsl hbA hbox2
    go_wp2
    go_ret
    refine ⟨⟨la', lc', by rw [Hw.out]; rfl, ?_⟩, HbA.out⟩
    rw [Hw.out]
    refine .inr ?_
    rcases Hsl.out with h | ⟨g', rfl, _, hg', hc'⟩
    · exact absurd (List.length_eq_zero_iff.1 h) h0
    · exact ⟨g', 0, rfl, hg', Hrow.out.holds (fun v cs h => HoldsV.more HbA.out.size _ _ (h.below HbA.out)) hc'⟩

set_option maxRecDepth 100000 in
set_option maxHeartbeats 2000000 in
theorem within_obj (b : Bool) (n : Int) (t : ByteArray) (l : List Val) (o : List (ByteArray × Val)) (la oa : Option Addr) (oc lc : Nat) (w : World) (hl : o = [] ∨ ∃ g off, oa = some ⟨g, off, none⟩ ∧ g < w.heap.size ∧ HoldsO w w.heap.size o g off)
    (hb : bulkO o ≤ 100000000) :
    Calls Tryz.prog 77 #[.agg #[.int .i64 6, .bool b, .int .i64 n, .string t, .slice la l.length lc, .slice oa o.length oc]] w (WithinPost w (.mk 6 b n t l o)) := by
  have hln := bulkO_len o
  have hw : within (.mk 6 b n t l o) = o.map (·.2) := by simp [within]
  obtain ⟨i0, hi, hz0, hz1, hz2⟩ := info_parts info_val
  have HI := Lib.hid hi
  have HZ0 := Lib.hid hz0
  have HZ1 := Lib.hid hz1
  have HZ2 := Lib.hid hz2
  have Hw := Lib.hid hw
  clear hi hz0 hz1 hz2 hw
  obtain ⟨w1, hw1⟩ : ∃ w1, w.alloc (.cells #[.int .i64 6, .bool b, .int .i64 n, .string t, .slice la l.length lc, .slice oa o.length oc] 45) = w1 := ⟨_, rfl⟩
  have hb1 : Below w.heap.size w w1 := hw1 ▸ (Below.refl _ _).alloc (Nat.le_refl _) _
  have hbx1 : w1.heap[w.heap.size]? = some (.cells #[.int .i64 6, .bool b, .int .i64 n, .string t, .slice la l.length lc, .slice oa o.length oc] 45 (0, 0)) := by rw [← hw1]; exact heap_alloc_new _ _
  have HB1 := Lib.hid hb1
  have HX1 := Lib.hid hbx1
  have Hown : Hid (w1.ownsRow (w.heap.size + 1) 45 6 (.slice none 0 0) 0 []) := World.ownsRow_nil _ _ _ _
  have HR0 : Hid (RowL w w.heap.size ((o.take 0).map (·.2)) []) := rfl
  clear hb1 hbx1
  subst hw1
  go_enter Tryz.func77, Tryz.ntmps77
  go_wp2_with (fail)
  go_loopw [3, 4] (fun v1 i wr => ∃ (k : Nat) (ns : List Value), i = .int .i64 k ∧ k ≤ o.length ∧ Hid (wr.ownsRow (w.heap.size + 1) 45 6 v1 k ns) ∧ Hid (RowL w w.heap.size ((o.take k).map (·.2)) ns) ∧ Hid (Below w.heap.size w wr) ∧
    Hid (wr.heap[w.heap.size]? = some (.cells #[.int .i64 6, .bool b, .int .i64 n, .string t, .slice la l.length lc, .slice oa o.length oc] 45 (0, 0)))) (fun _ i _ => o.length - (intOf i).toNat)
  case atStart => exact ⟨0, [], rfl, Nat.zero_le _, Hown, HR0, HB1, HX1⟩
  case round =>
    obtain ⟨k, ns, rfl, hk, hown, hrow, hbw, hbx⟩ := hrel
    clear Hown HR0 HB1 HX1
    have b5 : wr.cell? ⟨w.heap.size, 5, none⟩ = some (.slice oa o.length oc) := by rw [Lib.cell_of_heap hbx.out]; rfl
    have hz : w.heap.size < wr.heap.size := (Array.getElem?_eq_some_iff.1 hbx.out).1
    by_cases hlt : k < o.length
    · obtain ⟨g, off, rfl, hg, hL⟩ : ∃ g off, oa = some ⟨g, off, none⟩ ∧ g < w.heap.size ∧ HoldsO w w.heap.size o g off := by
        rcases hl with rfl | h
        · simp at hlt
        · exact h
      obtain ⟨⟨key, x⟩, hx⟩ : ∃ v, o[k]? = some v := ⟨_, List.getElem?_eq_getElem hlt⟩
      have htk : (o.take (k + 1)).map (·.2) = (o.take k).map (·.2) ++ [x] := by rw [List.take_add_one, hx]; simp
      obtain ⟨k', b', n', t', l', o'⟩ := x
      obtain ⟨la', lc', oa', oc', hvs, _, e1, e2, e3, e4, e5, e6⟩ := hL.seven hx
      have cc := fun j (u : Value) (h : w.cell? ⟨g, j, none⟩ = some u) => (hbw.out.cell (p := ⟨g, j, none⟩) hg).trans h
      have c1 := cc _ _ e1
      have c2 := cc _ _ e2
      have c3 := cc _ _ e3
      have c4 := cc _ _ e4
      have c5 := cc _ _ e5
      have c6 := cc _ _ e6
      have hrow' := hrow.out.snoc hvs
      rw [← htk] at hrow'
      have Hrow := Lib.hid hrow'
      have hno := Lib.hid hvs.len.2
      clear hrow' hrow htk hx hL hg e1 e2 e3 e4 e5 e6 cc hvs
      go_wp2_with (at_builtin; refine wpList_append_own _ rfl (.tmp 22) (.tmp 29) 42 rfl (w.heap.size + 1) 45 i0 (.agg #[.int .i64 0, .bool false, .int .i64 0, .string ⟨#[]⟩, .slice none 0 0, .slice none 0 0]) 6 88 Tryz.underlying42 HI.out HZ0.out HZ1.out HZ2.out rfl (by decide) u3 k ns rfl (hown.out.alloc _) ⟨wr.heap.size, 0, none⟩ 1 1 (cells6 k' b' n' t' la' l'.length lc' oa' o'.length oc') rfl rfl ?c1 ?c2 ?c3 ?c4 ?c5 ?_)
      case c1 =>
        intro j u hj
        rw [Go.WideShapes.add_plain]
        rw [Lib.cell_of_heap (heap_alloc_new wr (.cells #[.int .i64 k', .bool b', .int .i64 n', .string t', .slice la' l'.length lc', .slice oa' o'.length oc'] 45)), Nat.zero_add]
        simpa using hj
      case c2 => exact hno.out
      case c3 => unfold maxLen; omega
      case c4 => omega
      case c5 => simp; omega
      intro v' w2 hown' hgrow _
      have ho' := Lib.hid hown'
      have hbA := Lib.hid ((hbw.out.alloc (by omega) (.cells #[.int .i64 k', .bool b', .int .i64 n', .string t', .slice la' l'.length lc', .slice oa' o'.length oc'] 45)).grown hgrow (by simp; omega) (fun q hq => by have := (hown.out.lt q hq).1; omega))
      have hbx2 : Hid (w2.heap[w.heap.size]? = some (.cells #[.int .i64 6, .bool b, .int .i64 n, .string t, .slice la l.length lc, .slice (some ⟨g, off, none⟩) o.length oc] 45 (0, 0))) := by
        show _ = _
        rw [hgrow.block _ (by simp; omega) (fun e => by have := (hown.out.lt _ e.symm).1; omega), Lib.alloc_old wr _ _ hz]
        exact hbx.out
      clear hown' hgrow hown hbw hbx b5 c1 c2 c3 c4 c5 c6 hno
      go_wp2
      go_roundw
      case rel => exact ⟨k + 1, _, by go_num, by omega, ho', Hrow, hbA, hbx2⟩
      case measure => simp only [intOf]; omega
    · obtain rfl : k = o.length := by omega
      have hr' := hrow.out
      rw [List.take_length] at hr'
      obtain ⟨la', lc', rfl, hsl⟩ := own_slice hown.out
      have Hsl := Lib.hid hsl
      have HR := Lib.hid hr'
      have Hlm : Hid (o.length = (o.map (·.2)).length) := by show _ = _; simp
      clear hr' hrow hsl hown hl
      go_wp2
      go_ret
      refine ⟨⟨la', lc', by rw [Hw.out, ← Hlm.out]; rfl, ?_⟩, hbw.out⟩
      rw [Hw.out]
      rcases Hsl.out with h | ⟨g', rfl, _, hg', hc'⟩
      · exact .inl (by rw [List.length_eq_zero_iff.1 h]; rfl)
      · exact .inr ⟨g', 0, rfl, hg', HR.out.holds (fun v cs h => HoldsV.more hbw.out.size _ _ (h.below hbw.out)) hc'⟩

end Go.Proofs.YtjjbbnodmpemiaaGreatDoor
