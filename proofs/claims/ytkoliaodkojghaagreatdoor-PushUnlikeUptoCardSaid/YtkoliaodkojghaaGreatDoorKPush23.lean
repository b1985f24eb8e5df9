/- Parts, joined: crc.Seal; are bytes the same; frames, the program's and the reference's. Condition: at most 10^9 bytes. -/
import Derived.Test.YtkoliaodkojghaaGreatDoorProg
import Derived.Laws.MakeOwn
import Derived.Laws.Entries
import Derived.Laws.Shifts
import Derived.BigQuiet
import Derived.Deep.QuietTactic
import Derived.Test.YtkoliaodkojghaaGreatDoorKPush19
/- crc.Seal; are bytes the same; frames, the program's and the reference's. Condition: at most 10^9 bytes. -/
namespace Go.Proofs.YtkoliaodkojghaaGreatDoor
open Go.RowKit

theorem run_make_rowN {P : Program} (t e : TypeId) (i : TypeInfo) (z : Value) (ht : P.underlying t = some (.slice e)) (hi : P.info? e = some i) (hz : i.zero = some z)
    (kl kc : IntKind) (n c : Nat) (hnc : n ≤ c) (hbytes : i.bytes * c ≤ 281474976710656) (h63 : c ≤ 9223372036854775807) (w : World) :
    (Instr.makeSlice t (.int kl (n : Int)) (.int kc (c : Int))).run P w = .ok (.slice (some ⟨w.heap.size, 0, none⟩) n c) (w.alloc (.cells (madeCells z.cells (c * i.size)) e)) := by
  have hb : (i.bytes : Int) * (c : Int) ≤ 281474976710656 := by
    have h : ((i.bytes * c : Nat) : Int) ≤ 281474976710656 := by omega
    rwa [Int.natCast_mul] at h
  have hr := run_make (P := P) w t e i z ht hi hz kl kc n c (by omega) (by omega) hb (by omega)
  simp only [Int.toNat_natCast] at hr
  exact hr

theorem below_draws {B : Nat} {a w : World} (h : Below B a w) (n : Nat) : Below B a (w.drewN n) := ⟨h.os, h.tape, h.output, h.size, h.block⟩

set_option maxRecDepth 100000 in
set_option maxHeartbeats 2000000 in
theorem seal_calls (l : List UInt8) (a : Option Addr) (n c : Nat) (w : World) (h : Holds w w.heap.size (.row 1 (dB l)) [.slice a n c]) (hl : l.length ≤ 1000000000) :
    Calls Tryz.prog 41 #[.slice a n c] w (BytesPost (sealL l) w) := by
  obtain ⟨hn, hR⟩ := dB_reads h
  subst hn
  obtain ⟨i0, hi, hz, hz1, hz2⟩ := info_parts u8_info
  have hmk : ∀ W : World, ∃ cur : Array Value, cur.size = l.length + 4 ∧ (Instr.makeSlice 31 (.int .i64 0) (.int .i64 ((l.length : Int) + 4))).run Tryz.prog W = .ok (.slice (some ⟨W.heap.size, 0, none⟩) 0 (l.length + 4)) (W.alloc (.cells cur 5)) := by
    intro W
    have := run_make_rowN (P := Tryz.prog) 31 5 i0 _ Tryz.underlying31 hi hz .i64 .i64 0 (l.length + 4) (by omega) (by rw [hz2]; omega) (by omega) W
    refine ⟨_, ?_, by rw [show (((l.length + 4 : Nat)) : Int) = (l.length : Int) + 4 from by omega] at this; exact this⟩
    rw [hz1]
    simp [madeCells]
  obtain ⟨cur, hcs, hm⟩ := hmk w
  have hown0 : (w.alloc (.cells cur 5)).ownsRow w.heap.size 5 1 (.slice (some ⟨w.heap.size, 0, none⟩) 0 (l.length + 4)) ([] : List UInt8).length (bcells []) := World.ownsRow_made w cur (l.length + 4) (Nat.le_refl _) (by simp only [maxLen]; omega) (by omega)
  have hR0 := hR.alloc (Nat.le_refl _) (.cells cur 5)
  have H := Lib.hid h
  have HR := Lib.hid hR
  have Hown0 := Lib.hid hown0
  have HR0 := Lib.hid hR0
  have Hi := Lib.hid hi
  have Hz := Lib.hid hz
  have Hz1 := Lib.hid hz1
  have Hz2 := Lib.hid hz2
  have Hcs := Lib.hid hcs
  clear h hR hown0 hR0 hi hz hz1 hz2 hcs
  clear hmk
  go_enter Tryz.func41, Tryz.ntmps41
  go_wp2_with (at_builtin; refine wpList_append_by rfl (.tmp 10) (.tmp 11) 31 31 5 rfl Tryz.underlying31 Tryz.underlying31 w.heap.size (.slice (some ⟨w.heap.size, 0, none⟩) 0 (l.length + 4)) [] rfl Hown0.out _ a _ c l rfl HR0.out (by simp; omega) (by simp) ?_; intro v1 w1 hown1 hg1 hat1)
  have hb1 : Below w.heap.size w w1 := ((Below.refl _ _).alloc (Nat.le_refl _) _).grown hg1 (by simp) (by simp [Value.ownBlock])
  rw [List.nil_append] at hown1
  have hC := sum_calls l a l.length c w1 ((H.out.below hb1).more hb1.size) hl
  have hcl := crcMore_lt 0 l
  have hsf := sumB_four (crcMore 0 l)
  obtain ⟨s0, hs0⟩ : ∃ s0, crcMore 0 l = s0 := ⟨_, rfl⟩
  rw [hs0] at hC hcl hsf
  have hfin : sealL l = l ++ sumB s0 4 := by unfold sealL; rw [hsf, hs0]
  have HC := Lib.hid hC
  have Hown1 := Lib.hid hown1
  have Hg1 := Lib.hid hg1
  have Hb1 := Lib.hid hb1
  have Hat1 := Lib.hid hat1
  have Hfin := Lib.hid hfin
  have Hsf := Lib.hid hsf
  have Hs0 := Lib.hid hs0
  clear hC hown1 hg1 hb1 hat1 hfin hsf hs0
  clear hm
  go_wp2_with (go_at_call 80; with_reducible refine (HC.out).mono ?_; rintro e w2 ⟨rfl, hb2⟩)
  have hb12 := Hb1.out.trans (hb2.mono Hb1.out.size)
  have hown2 : w2.ownsRow w.heap.size 5 1 v1 l.length (bcells l) := Hown1.out.kept (row := none) ⟨hb2.os, hb2.tape, hb2.output, hb2.size, fun i hi _ => hb2.block i hi⟩ (by cases hv : v1.ownBlock <;> simp) 
  have Hb12 := Lib.hid hb12
  have Hown2 := Lib.hid hown2
  clear hb12 hown2
  clear hb2
  go_loopw [3, 15] (fun v i wr => ∃ k : Nat, k ≤ 4 ∧ i = .int .i64 k ∧ Hid (wr.ownsRow w.heap.size 5 1 v (l ++ sumB s0 k).length (bcells (l ++ sumB s0 k))) ∧ Hid (Below w.heap.size w wr)) (fun _ i _ => 4 - (intOf i).toNat)
  case atStart => exact ⟨0, by omega, rfl, by rw [show l ++ sumB s0 0 = l from by simp [sumB]]; exact Hown2, Hb12⟩
  case round =>
    obtain ⟨k, hk, rfl, hown, hb⟩ := hrel
    by_cases hlt : k < 4
    · have hz := hb.out.size
      have hlen := sumB_len k s0
      have Hlen := Lib.hid hlen
      clear hlen
      clear Hown2 Hb12
      have hk4 : k = 0 ∨ k = 1 ∨ k = 2 ∨ k = 3 := by omega
      rcases hk4 with rfl | rfl | rfl | rfl
      · have ecell : Value.int .u8 ((s0 : Int) % 256) = .int .u8 ((UInt8.ofNat (s0 / 256 ^ 0 % 256)).toNat : Nat) := by rw [← u8_cell _ (by omega)]; simp only [Nat.reducePow, Nat.div_one]; go_num
        have hlit := (reads_lit (ecell ▸ Blk.new wr 5 #[.int .u8 ((s0 : Int) % 256)] : Blk _ _ _ #[.int .u8 ((UInt8.ofNat (s0 / 256 ^ 0 % 256)).toNat : Nat)]))
        rw [← ecell] at hlit
        have hsn := sumB_snoc 0 s0
        have Hlit := Lib.hid hlit
        have Hsn := Lib.hid hsn
        have Ecell := Lib.hid ecell
        clear hlit hsn ecell
        go_wp2_with (at_builtin; refine wpList_append_by rfl (.tmp 18) (.tmp 24) 31 31 5 rfl Tryz.underlying31 Tryz.underlying31 w.heap.size u3 _ rfl (hown.out.alloc _) _ _ _ _ [UInt8.ofNat (s0 / 256 ^ 0 % 256)] rfl Hlit.out (by have := Hlen.out; simp; omega) (by simp; omega) ?_; intro v3 w3 hown3 hg3 hat3)
        have hb3 : Below w.heap.size w w3 := (hb.out.alloc (by omega) _).grown hg3 (by simp; omega) (fun j e => (hown.out.lt j e).1)
        rw [List.append_assoc, ← Hsn.out] at hown3
        have Hown3 := Lib.hid hown3
        have Hb3 := Lib.hid hb3
        clear hown3 hb3
        clear hown hb hg3 hat3 Hsn
        go_wp2
        go_roundw
        case rel => exact ⟨0 + 1, by omega, by go_num, Hown3, Hb3⟩
        case measure => simp [intOf]
      · have ecell : Value.int .u8 ((s0 : Int) / 256 % 256) = .int .u8 ((UInt8.ofNat (s0 / 256 ^ 1 % 256)).toNat : Nat) := by rw [← u8_cell _ (by omega)]; simp only [Nat.reducePow]; go_num
        have hlit := (reads_lit (ecell ▸ Blk.new wr 5 #[.int .u8 ((s0 : Int) / 256 % 256)] : Blk _ _ _ #[.int .u8 ((UInt8.ofNat (s0 / 256 ^ 1 % 256)).toNat : Nat)]))
        rw [← ecell] at hlit
        have hsn := sumB_snoc 1 s0
        have Hlit := Lib.hid hlit
        have Hsn := Lib.hid hsn
        have Ecell := Lib.hid ecell
        clear hlit hsn ecell
        go_wp2_with (at_builtin; refine wpList_append_by rfl (.tmp 18) (.tmp 24) 31 31 5 rfl Tryz.underlying31 Tryz.underlying31 w.heap.size u3 _ rfl (hown.out.alloc _) _ _ _ _ [UInt8.ofNat (s0 / 256 ^ 1 % 256)] rfl Hlit.out (by have := Hlen.out; simp; omega) (by simp; omega) ?_; intro v3 w3 hown3 hg3 hat3)
        have hb3 : Below w.heap.size w w3 := (hb.out.alloc (by omega) _).grown hg3 (by simp; omega) (fun j e => (hown.out.lt j e).1)
        rw [List.append_assoc, ← Hsn.out] at hown3
        have Hown3 := Lib.hid hown3
        have Hb3 := Lib.hid hb3
        clear hown3 hb3
        clear hown hb hg3 hat3 Hsn
        go_wp2
        go_roundw
        case rel => exact ⟨1 + 1, by omega, by go_num, Hown3, Hb3⟩
        case measure => simp [intOf]
      · have ecell : Value.int .u8 ((s0 : Int) / 65536 % 256) = .int .u8 ((UInt8.ofNat (s0 / 256 ^ 2 % 256)).toNat : Nat) := by rw [← u8_cell _ (by omega)]; simp only [Nat.reducePow]; go_num
        have hlit := (reads_lit (ecell ▸ Blk.new wr 5 #[.int .u8 ((s0 : Int) / 65536 % 256)] : Blk _ _ _ #[.int .u8 ((UInt8.ofNat (s0 / 256 ^ 2 % 256)).toNat : Nat)]))
        rw [← ecell] at hlit
        have hsn := sumB_snoc 2 s0
        have Hlit := Lib.hid hlit
        have Hsn := Lib.hid hsn
        have Ecell := Lib.hid ecell
        clear hlit hsn ecell
        go_wp2_with (at_builtin; refine wpList_append_by rfl (.tmp 18) (.tmp 24) 31 31 5 rfl Tryz.underlying31 Tryz.underlying31 w.heap.size u3 _ rfl (hown.out.alloc _) _ _ _ _ [UInt8.ofNat (s0 / 256 ^ 2 % 256)] rfl Hlit.out (by have := Hlen.out; simp; omega) (by simp; omega) ?_; intro v3 w3 hown3 hg3 hat3)
        have hb3 : Below w.heap.size w w3 := (hb.out.alloc (by omega) _).grown hg3 (by simp; omega) (fun j e => (hown.out.lt j e).1)
        rw [List.append_assoc, ← Hsn.out] at hown3
        have Hown3 := Lib.hid hown3
        have Hb3 := Lib.hid hb3
        clear hown3 hb3
        clear hown hb hg3 hat3 Hsn
        go_wp2
        go_roundw
        case rel => exact ⟨2 + 1, by omega, by go_num, Hown3, Hb3⟩
        case measure => simp [intOf]
      · have ecell : Value.int .u8 ((s0 : Int) / 16777216) = .int .u8 ((UInt8.ofNat (s0 / 256 ^ 3 % 256)).toNat : Nat) := by rw [← u8_cell _ (by omega)]; simp only [Nat.reducePow]; go_num
        have hlit := (reads_lit (ecell ▸ Blk.new wr 5 #[.int .u8 ((s0 : Int) / 16777216)] : Blk _ _ _ #[.int .u8 ((UInt8.ofNat (s0 / 256 ^ 3 % 256)).toNat : Nat)]))
        rw [← ecell] at hlit
        have hsn := sumB_snoc 3 s0
        have Hlit := Lib.hid hlit
        have Hsn := Lib.hid hsn
        have Ecell := Lib.hid ecell
        clear hlit hsn ecell
        go_wp2_with (at_builtin; refine wpList_append_by rfl (.tmp 18) (.tmp 24) 31 31 5 rfl Tryz.underlying31 Tryz.underlying31 w.heap.size u3 _ rfl (hown.out.alloc _) _ _ _ _ [UInt8.ofNat (s0 / 256 ^ 3 % 256)] rfl Hlit.out (by have := Hlen.out; simp; omega) (by simp; omega) ?_; intro v3 w3 hown3 hg3 hat3)
        have hb3 : Below w.heap.size w w3 := (hb.out.alloc (by omega) _).grown hg3 (by simp; omega) (fun j e => (hown.out.lt j e).1)
        rw [List.append_assoc, ← Hsn.out] at hown3
        have Hown3 := Lib.hid hown3
        have Hb3 := Lib.hid hb3
        clear hown3 hb3
        clear hown hb hg3 hat3 Hsn
        go_wp2
        go_roundw
        case rel => exact ⟨3 + 1, by omega, by go_num, Hown3, Hb3⟩
        case measure => simp [intOf]
    · obtain rfl : k = 4 := by omega
      rw [← Hfin.out] at hown
      go_wp2
      go_ret
      exact BytesPost.of hown.out hb.out

set_option maxRecDepth 100000 in
set_option maxHeartbeats 2000000 in
/-- Are bytes the same? -/
theorem same_calls (l r : List UInt8) (a a' : Option Addr) (n c n' c' : Nat) (B : Bool) (w : World) (h : Holds w w.heap.size (.row 1 (dB l)) [.slice a n c]) (h' : Holds w w.heap.size (.row 1 (dB r)) [.slice a' n' c']) (hl : l.length ≤ 2000000000) (_ : r.length ≤ 2000000000) (hB : decide (l = r) = B) :
    Calls Tryz.prog 12 #[.slice a n c, .slice a' n' c'] w fun e w' => e = .returned (.bool B) ∧ Below w.heap.size w w' := by
  obtain rfl := dB_n h
  obtain rfl := dB_n h'
  by_cases hlen : l.length = r.length
  · have hlen' : Hid (l.length = r.length) := hlen
    have hw0 : Below w.heap.size w w := Below.refl _ _
    have ht0 : l.take 0 = r.take 0 := by simp
    have hn : ((l.length : Int) != (r.length : Int)) = false := by simp; omega
    have H := Lib.hid h
    have H' := Lib.hid h'
    have HB := Lib.hid hB
    have Hw0 := Lib.hid hw0
    have Ht0 := Lib.hid ht0
    clear h h' hB hw0 ht0
    clear hlen
    go_enter Tryz.func12, Tryz.ntmps12
    go_wp2
    go_loopw [5] (fun i wr => ∃ k : Nat, k ≤ l.length ∧ i = .int .i64 k ∧ Hid (l.take k = r.take k) ∧ Hid (Below w.heap.size w wr)) (fun i _ => l.length - (intOf i).toNat)
    case atStart => exact ⟨0, by omega, rfl, Ht0, Hw0⟩
    case round =>
      obtain ⟨k, hk, rfl, ht, hb⟩ := hrel
      by_cases hlt : k < l.length
      · have hlt' : k < r.length := by have := hlen'.out; omega
        obtain ⟨x, hx⟩ : ∃ x, l[k]? = some x := ⟨_, List.getElem?_eq_getElem hlt⟩
        obtain ⟨y, hy⟩ : ∃ y, r[k]? = some y := ⟨_, List.getElem?_eq_getElem hlt'⟩
        obtain ⟨g, off, rfl, hg, hcell⟩ := dB_at (H.out.below hb.out) hx
        obtain ⟨g', off', rfl, hg', hcell'⟩ := dB_at (H'.out.below hb.out) hy
        have htk : ∀ (m : List UInt8) (z : UInt8), m[k]? = some z → m.take (k + 1) = m.take k ++ [z] := by
          intro m z hz
          obtain ⟨hm, rfl⟩ := List.getElem?_eq_some_iff.1 hz
          exact List.take_succ_eq_append_getElem hm
        have i1 : (0 : Int) ≤ k := by omega
        have i2 : (k : Int) < (l.length : Int) := by omega
        have i3 : (k : Int) < (r.length : Int) := by omega
        by_cases he : x = y
        · subst he
          have ht' : l.take (k + 1) = r.take (k + 1) := by rw [htk l x hx, htk r x hy, ht.out]
          have hE : ((x.toNat : Int) != (x.toNat : Int)) = false := by simp
          have Ht' := Lib.hid ht'
          have Hx := Lib.hid hx
          have Hy := Lib.hid hy
          clear ht' hx hy
          clear htk ht
          go_wp2
          go_quiet (fail)
          go_wp2
          go_roundw
          case rel => exact ⟨k + 1, by omega, by go_num, Ht', below_draws hb.out _⟩
          case measure => simp [intOf]; omega
        · have hf : B = false := by
            rw [← HB.out, decide_eq_false_iff_not]
            intro e
            rw [e, hy] at hx
            exact he (Option.some.inj hx).symm
          have hE : ((x.toNat : Int) != (y.toNat : Int)) = true := by
            simp only [bne_iff_ne, ne_eq]
            intro e
            exact he (UInt8.toNat_inj.1 (by omega))
          subst hf
          have Hx := Lib.hid hx
          have Hy := Lib.hid hy
          clear hx hy
          clear htk ht he HB
          go_wp2
          go_quiet (fail)
          go_wp2
          go_ret
          exact ⟨rfl, below_draws hb.out _⟩
      · obtain rfl : k = l.length := by omega
        have hf : B = true := by
          have := ht.out
          rw [List.take_length, hlen'.out, List.take_length] at this
          rw [← HB.out, this]
          simp
        subst hf
        clear HB
        go_wp2
        go_ret
        exact ⟨rfl, hb.out⟩
  · have hf : B = false := by
      rw [← hB, decide_eq_false_iff_not]
      intro e
      exact hlen (by rw [e])
    subst hf
    have hn : ((l.length : Int) != (r.length : Int)) = true := by simp; omega
    have H := Lib.hid h
    have H' := Lib.hid h'
    clear h h'
    clear hlen hB
    go_enter Tryz.func12, Tryz.ntmps12
    go_wp2
    go_ret
    exact ⟨rfl, Below.refl _ _⟩
end Go.Proofs.YtkoliaodkojghaaGreatDoor
