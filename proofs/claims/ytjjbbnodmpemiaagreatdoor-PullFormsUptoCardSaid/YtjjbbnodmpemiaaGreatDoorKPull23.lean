/- Parts, joined: crc.Seal; are bytes the same; frames, the program's and the reference's. Condition: at most 10^9 bytes. slices.Clone of members. Condition: at most 10^8 of them. commonplaceref02.Deep: how deep a value is. Condition: a bulk of at most 10^8. patch.zero, patch.follows, patch.strange. No condition. -/
import Derived.Test.YtjjbbnodmpemiaaGreatDoorProg
import Derived.Laws.MakeOwn
import Derived.Laws.Entries
import Derived.Laws.Shifts
import Derived.BigQuiet
import Derived.Deep.QuietTactic
import Derived.WalkSpells
import Derived.Lib.Hide
import Derived.WalkKit
import Derived.Test.YtjjbbnodmpemiaaGreatDoorKPull4
import Derived.Test.YtjjbbnodmpemiaaGreatDoorKPull11
import Derived.Test.YtjjbbnodmpemiaaGreatDoorKPull19
import Derived.Test.YtjjbbnodmpemiaaGreatDoorKPull20
/- crc.Seal; are bytes the same; frames, the program's and the reference's. Condition: at most 10^9 bytes. -/
namespace Go.Proofs.YtjjbbnodmpemiaaGreatDoor
open Go.RowKit

theorem run_make_rowN {P : Program} (t e : TypeId) (i : TypeInfo) (z : Value) (ht : P.underlying t = some (.slice e)) (hi : P.info? e = some i) (hz : i.zero = some z)
    (kl kc : IntKind) (n c : Nat) (hnc : n ≤ c) (hbytes : i.bytes * c ≤ 281474976710656) (h63 : c ≤ 9223372036854775807) (w : World) :
    (Instr.makeSlice t (.int kl (n : Int)) (.int kc (c : Int))).run P w = .ok (.slice (some ⟨w.heap.size, 0, none⟩) n c) (w.alloc (.cells (madeCells z.cells (c * i.size)) e)) := by
  have hb : (i.bytes : Int) * (c : Int) ≤ 281474976710656 := by
    have h : ((i.bytes * c : Nat) : Int) ≤ 281474976710656 := by omega
    rwa [Int.natCast_mul] at h
  have hr := run_make (P := P) w t e i z ht hi hz kl kc n c (by omega) (by omega) hb (by omega)
  simp only [Int.toNat_natCast] at hr
  exact hr

theorem below_draws {B : Nat} {a w : World} (h : Below B a w) (n : Nat) : Below B a (w.drewN n) := ⟨h.os, h.tape, h.output, h.size, h.block⟩

set_option maxRecDepth 100000 in
set_option maxHeartbeats 2000000 in
theorem seal_calls (l : List UInt8) (a : Option Addr) (n c : Nat) (w : World) (h : Holds w w.heap.size (.row 1 (dB l)) [.slice a n c]) (hl : l.length ≤ 1000000000) :
    Calls Tryz.prog 64 #[.slice a n c] w (BytesPost (sealL l) w) := by
  obtain ⟨hn, hR⟩ := dB_reads h
  subst hn
  obtain ⟨i0, hi, hz, hz1, hz2⟩ := info_parts u8_info
  have hmk : ∀ W : World, ∃ cur : Array Value, cur.size = l.length + 4 ∧ (Instr.makeSlice 35 (.int .i64 0) (.int .i64 ((l.length : Int) + 4))).run Tryz.prog W = .ok (.slice (some ⟨W.heap.size, 0, none⟩) 0 (l.length + 4)) (W.alloc (.cells cur 5)) := by
    intro W
    have := run_make_rowN (P := Tryz.prog) 35 5 i0 _ Tryz.underlying35 hi hz .i64 .i64 0 (l.length + 4) (by omega) (by rw [hz2]; omega) (by omega) W
    refine ⟨_, ?_, by rw [show (((l.length + 4 : Nat)) : Int) = (l.length : Int) + 4 from by omega] at this; exact this⟩
    rw [hz1]
    simp [madeCells]
  obtain ⟨cur, hcs, hm⟩ := hmk w
  have hown0 : (w.alloc (.cells cur 5)).ownsRow w.heap.size 5 1 (.slice (some ⟨w.heap.size, 0, none⟩) 0 (l.length + 4)) ([] : List UInt8).length (bcells []) := World.ownsRow_made w cur (l.length + 4) (Nat.le_refl _) (by simp only [maxLen]; omega) (by omega)
  have hR0 := hR.alloc (Nat.le_refl _) (.cells cur 5)
  have H := Lib.hid h
  have HR := Lib.hid hR
  have Hown0 := Lib.hid hown0
  have HR0 := Lib.hid hR0
  have Hi := Lib.hid hi
  have Hz := Lib.hid hz
  have Hz1 := Lib.hid hz1
  have Hz2 := Lib.hid hz2
  have Hcs := Lib.hid hcs
  clear h hR hown0 hR0 hi hz hz1 hz2 hcs
  clear hmk
  go_enter Tryz.func64, Tryz.ntmps64
  go_wp2_with (at_builtin; refine wpList_append_by rfl (.tmp 10) (.tmp 11) 35 35 5 rfl Tryz.underlying35 Tryz.underlying35 w.heap.size (.slice (some ⟨w.heap.size, 0, none⟩) 0 (l.length + 4)) [] rfl Hown0.out _ a _ c l rfl HR0.out (by simp; omega) (by simp) ?_; intro v1 w1 hown1 hg1 hat1)
  have hb1 : Below w.heap.size w w1 := ((Below.refl _ _).alloc (Nat.le_refl _) _).grown hg1 (by simp) (by simp [Value.ownBlock])
  rw [List.nil_append] at hown1
  have hC := sum_calls l a l.length c w1 ((H.out.below hb1).more hb1.size) hl
  have hcl := crcMore_lt 0 l
  have hsf := sumB_four (crcMore 0 l)
  obtain ⟨s0, hs0⟩ : ∃ s0, crcMore 0 l = s0 := ⟨_, rfl⟩
  rw [hs0] at hC hcl hsf
  have hfin : sealL l = l ++ sumB s0 4 := by unfold sealL; rw [hsf, hs0]
  have HC := Lib.hid hC
  have Hown1 := Lib.hid hown1
  have Hg1 := Lib.hid hg1
  have Hb1 := Lib.hid hb1
  have Hat1 := Lib.hid hat1
  have Hfin := Lib.hid hfin
  have Hsf := Lib.hid hsf
  have Hs0 := Lib.hid hs0
  clear hC hown1 hg1 hb1 hat1 hfin hsf hs0
  clear hm
  go_wp2_with (go_at_call 96; with_reducible refine (HC.out).mono ?_; rintro e w2 ⟨rfl, hb2⟩)
  have hb12 := Hb1.out.trans (hb2.mono Hb1.out.size)
  have hown2 : w2.ownsRow w.heap.size 5 1 v1 l.length (bcells l) := Hown1.out.kept (row := none) ⟨hb2.os, hb2.tape, hb2.output, hb2.size, fun i hi _ => hb2.block i hi⟩ (by cases hv : v1.ownBlock <;> simp) 
  have Hb12 := Lib.hid hb12
  have Hown2 := Lib.hid hown2
  clear hb12 hown2
  clear hb2
  go_loopw [3, 15] (fun v i wr => ∃ k : Nat, k ≤ 4 ∧ i = .int .i64 k ∧ Hid (wr.ownsRow w.heap.size 5 1 v (l ++ sumB s0 k).length (bcells (l ++ sumB s0 k))) ∧ Hid (Below w.heap.size w wr)) (fun _ i _ => 4 - (intOf i).toNat)
  case atStart => exact ⟨0, by omega, rfl, by rw [show l ++ sumB s0 0 = l from by simp [sumB]]; exact Hown2, Hb12⟩
  case round =>
    obtain ⟨k, hk, rfl, hown, hb⟩ := hrel
    by_cases hlt : k < 4
    · have hz := hb.out.size
      have hlen := sumB_len k s0
      have Hlen := Lib.hid hlen
      clear hlen
      clear Hown2 Hb12
      have hk4 : k = 0 ∨ k = 1 ∨ k = 2 ∨ k = 3 := by omega
      rcases hk4 with rfl | rfl | rfl | rfl
      · have ecell : Value.int .u8 ((s0 : Int) % 256) = .int .u8 ((UInt8.ofNat (s0 / 256 ^ 0 % 256)).toNat : Nat) := by rw [← u8_cell _ (by omega)]; simp only [Nat.reducePow, Nat.div_one]; go_num
        have hlit := (reads_lit (ecell ▸ Blk.new wr 5 #[.int .u8 ((s0 : Int) % 256)] : Blk _ _ _ #[.int .u8 ((UInt8.ofNat (s0 / 256 ^ 0 % 256)).toNat : Nat)]))
        rw [← ecell] at hlit
        have hsn := sumB_snoc 0 s0
        have Hlit := Lib.hid hlit
        have Hsn := Lib.hid hsn
        have Ecell := Lib.hid ecell
        clear hlit hsn ecell
        go_wp2_with (at_builtin; refine wpList_append_by rfl (.tmp 18) (.tmp 24) 35 35 5 rfl Tryz.underlying35 Tryz.underlying35 w.heap.size u3 _ rfl (hown.out.alloc _) _ _ _ _ [UInt8.ofNat (s0 / 256 ^ 0 % 256)] rfl Hlit.out (by have := Hlen.out; simp; omega) (by simp; omega) ?_; intro v3 w3 hown3 hg3 hat3)
        have hb3 : Below w.heap.size w w3 := (hb.out.alloc (by omega) _).grown hg3 (by simp; omega) (fun j e => (hown.out.lt j e).1)
        rw [List.append_assoc, ← Hsn.out] at hown3
        have Hown3 := Lib.hid hown3
        have Hb3 := Lib.hid hb3
        clear hown3 hb3
        clear hown hb hg3 hat3 Hsn
        go_wp2
        go_roundw
        case rel => exact ⟨0 + 1, by omega, by go_num, Hown3, Hb3⟩
        case measure => simp [intOf]
      · have ecell : Value.int .u8 ((s0 : Int) / 256 % 256) = .int .u8 ((UInt8.ofNat (s0 / 256 ^ 1 % 256)).toNat : Nat) := by rw [← u8_cell _ (by omega)]; simp only [Nat.reducePow]; go_num
        have hlit := (reads_lit (ecell ▸ Blk.new wr 5 #[.int .u8 ((s0 : Int) / 256 % 256)] : Blk _ _ _ #[.int .u8 ((UInt8.ofNat (s0 / 256 ^ 1 % 256)).toNat : Nat)]))
        rw [← ecell] at hlit
        have hsn := sumB_snoc 1 s0
        have Hlit := Lib.hid hlit
        have Hsn := Lib.hid hsn
        have Ecell := Lib.hid ecell
        clear hlit hsn ecell
        go_wp2_with (at_builtin; refine wpList_append_by rfl (.tmp 18) (.tmp 24) 35 35 5 rfl Tryz.underlying35 Tryz.underlying35 w.heap.size u3 _ rfl (hown.out.alloc _) _ _ _ _ [UInt8.ofNat (s0 / 256 ^ 1 % 256)] rfl Hlit.out (by have := Hlen.out; simp; omega) (by simp; omega) ?_; intro v3 w3 hown3 hg3 hat3)
        have hb3 : Below w.heap.size w w3 := (hb.out.alloc (by omega) _).grown hg3 (by simp; omega) (fun j e => (hown.out.lt j e).1)
        rw [List.append_assoc, ← Hsn.out] at hown3
        have Hown3 := Lib.hid hown3
        have Hb3 := Lib.hid hb3
        clear hown3 hb3
        clear hown hb hg3 hat3 Hsn
        go_wp2
        go_roundw
        case rel => exact ⟨1 + 1, by omega, by go_num, Hown3, Hb3⟩
        case measure => simp [intOf]
      · have ecell : Value.int .u8 ((s0 : Int) / 65536 % 256) = .int .u8 ((UInt8.ofNat (s0 / 256 ^ 2 % 256)).toNat : Nat) := by rw [← u8_cell _ (by omega)]; simp only [Nat.reducePow]; go_num
        have hlit := (reads_lit (ecell ▸ Blk.new wr 5 #[.int .u8 ((s0 : Int) / 65536 % 256)] : Blk _ _ _ #[.int .u8 ((UInt8.ofNat (s0 / 256 ^ 2 % 256)).toNat : Nat)]))
        rw [← ecell] at hlit
        have hsn := sumB_snoc 2 s0
        have Hlit := Lib.hid hlit
        have Hsn := Lib.hid hsn
        have Ecell := Lib.hid ecell
        clear hlit hsn ecell
        go_wp2_with (at_builtin; refine wpList_append_by rfl (.tmp 18) (.tmp 24) 35 35 5 rfl Tryz.underlying35 Tryz.underlying35 w.heap.size u3 _ rfl (hown.out.alloc _) _ _ _ _ [UInt8.ofNat (s0 / 256 ^ 2 % 256)] rfl Hlit.out (by have := Hlen.out; simp; omega) (by simp; omega) ?_; intro v3 w3 hown3 hg3 hat3)
        have hb3 : Below w.heap.size w w3 := (hb.out.alloc (by omega) _).grown hg3 (by simp; omega) (fun j e => (hown.out.lt j e).1)
        rw [List.append_assoc, ← Hsn.out] at hown3
        have Hown3 := Lib.hid hown3
        have Hb3 := Lib.hid hb3
        clear hown3 hb3
        clear hown hb hg3 hat3 Hsn
        go_wp2
        go_roundw
        case rel => exact ⟨2 + 1, by omega, by go_num, Hown3, Hb3⟩
        case measure => simp [intOf]
      · have ecell : Value.int .u8 ((s0 : Int) / 16777216) = .int .u8 ((UInt8.ofNat (s0 / 256 ^ 3 % 256)).toNat : Nat) := by rw [← u8_cell _ (by omega)]; simp only [Nat.reducePow]; go_num
        have hlit := (reads_lit (ecell ▸ Blk.new wr 5 #[.int .u8 ((s0 : Int) / 16777216)] : Blk _ _ _ #[.int .u8 ((UInt8.ofNat (s0 / 256 ^ 3 % 256)).toNat : Nat)]))
        rw [← ecell] at hlit
        have hsn := sumB_snoc 3 s0
        have Hlit := Lib.hid hlit
        have Hsn := Lib.hid hsn
        have Ecell := Lib.hid ecell
        clear hlit hsn ecell
        go_wp2_with (at_builtin; refine wpList_append_by rfl (.tmp 18) (.tmp 24) 35 35 5 rfl Tryz.underlying35 Tryz.underlying35 w.heap.size u3 _ rfl (hown.out.alloc _) _ _ _ _ [UInt8.ofNat (s0 / 256 ^ 3 % 256)] rfl Hlit.out (by have := Hlen.out; simp; omega) (by simp; omega) ?_; intro v3 w3 hown3 hg3 hat3)
        have hb3 : Below w.heap.size w w3 := (hb.out.alloc (by omega) _).grown hg3 (by simp; omega) (fun j e => (hown.out.lt j e).1)
        rw [List.append_assoc, ← Hsn.out] at hown3
        have Hown3 := Lib.hid hown3
        have Hb3 := Lib.hid hb3
        clear hown3 hb3
        clear hown hb hg3 hat3 Hsn
        go_wp2
        go_roundw
        case rel => exact ⟨3 + 1, by omega, by go_num, Hown3, Hb3⟩
        case measure => simp [intOf]
    · obtain rfl : k = 4 := by omega
      rw [← Hfin.out] at hown
      go_wp2
      go_ret
      exact BytesPost.of hown.out hb.out

set_option maxRecDepth 100000 in
set_option maxHeartbeats 2000000 in
/-- Are bytes the same? -/
theorem same_calls (l r : List UInt8) (a a' : Option Addr) (n c n' c' : Nat) (B : Bool) (w : World) (h : Holds w w.heap.size (.row 1 (dB l)) [.slice a n c]) (h' : Holds w w.heap.size (.row 1 (dB r)) [.slice a' n' c']) (hl : l.length ≤ 2000000000) (_ : r.length ≤ 2000000000) (hB : decide (l = r) = B) :
    Calls Tryz.prog 12 #[.slice a n c, .slice a' n' c'] w fun e w' => e = .returned (.bool B) ∧ Below w.heap.size w w' := by
  obtain rfl := dB_n h
  obtain rfl := dB_n h'
  by_cases hlen : l.length = r.length
  · have hlen' : Hid (l.length = r.length) := hlen
    have hw0 : Below w.heap.size w w := Below.refl _ _
    have ht0 : l.take 0 = r.take 0 := by simp
    have hn : ((l.length : Int) != (r.length : Int)) = false := by simp; omega
    have H := Lib.hid h
    have H' := Lib.hid h'
    have HB := Lib.hid hB
    have Hw0 := Lib.hid hw0
    have Ht0 := Lib.hid ht0
    clear h h' hB hw0 ht0
    clear hlen
    go_enter Tryz.func12, Tryz.ntmps12
    go_wp2
    go_loopw [5] (fun i wr => ∃ k : Nat, k ≤ l.length ∧ i = .int .i64 k ∧ Hid (l.take k = r.take k) ∧ Hid (Below w.heap.size w wr)) (fun i _ => l.length - (intOf i).toNat)
    case atStart => exact ⟨0, by omega, rfl, Ht0, Hw0⟩
    case round =>
      obtain ⟨k, hk, rfl, ht, hb⟩ := hrel
      by_cases hlt : k < l.length
      · have hlt' : k < r.length := by have := hlen'.out; omega
        obtain ⟨x, hx⟩ : ∃ x, l[k]? = some x := ⟨_, List.getElem?_eq_getElem hlt⟩
        obtain ⟨y, hy⟩ : ∃ y, r[k]? = some y := ⟨_, List.getElem?_eq_getElem hlt'⟩
        obtain ⟨g, off, rfl, hg, hcell⟩ := dB_at (H.out.below hb.out) hx
        obtain ⟨g', off', rfl, hg', hcell'⟩ := dB_at (H'.out.below hb.out) hy
        have htk : ∀ (m : List UInt8) (z : UInt8), m[k]? = some z → m.take (k + 1) = m.take k ++ [z] := by
          intro m z hz
          obtain ⟨hm, rfl⟩ := List.getElem?_eq_some_iff.1 hz
          exact List.take_succ_eq_append_getElem hm
        have i1 : (0 : Int) ≤ k := by omega
        have i2 : (k : Int) < (l.length : Int) := by omega
        have i3 : (k : Int) < (r.length : Int) := by omega
        by_cases he : x = y
        · subst he
          have ht' : l.take (k + 1) = r.take (k + 1) := by rw [htk l x hx, htk r x hy, ht.out]
          have hE : ((x.toNat : Int) != (x.toNat : Int)) = false := by simp
          have Ht' := Lib.hid ht'
          have Hx := Lib.hid hx
          have Hy := Lib.hid hy
          clear ht' hx hy
          clear htk ht
          go_wp2
          go_quiet (fail)
          go_wp2
          go_roundw
          case rel => exact ⟨k + 1, by omega, by go_num, Ht', below_draws hb.out _⟩
          case measure => simp [intOf]; omega
        · have hf : B = false := by
            rw [← HB.out, decide_eq_false_iff_not]
            intro e
            rw [e, hy] at hx
            exact he (Option.some.inj hx).symm
          have hE : ((x.toNat : Int) != (y.toNat : Int)) = true := by
            simp only [bne_iff_ne, ne_eq]
            intro e
            exact he (UInt8.toNat_inj.1 (by omega))
          subst hf
          have Hx := Lib.hid hx
          have Hy := Lib.hid hy
          clear hx hy
          clear htk ht he HB
          go_wp2
          go_quiet (fail)
          go_wp2
          go_ret
          exact ⟨rfl, below_draws hb.out _⟩
      · obtain rfl : k = l.length := by omega
        have hf : B = true := by
          have := ht.out
          rw [List.take_length, hlen'.out, List.take_length] at this
          rw [← HB.out, this]
          simp
        subst hf
        clear HB
        go_wp2
        go_ret
        exact ⟨rfl, hb.out⟩
  · have hf : B = false := by
      rw [← hB, decide_eq_false_iff_not]
      intro e
      exact hlen (by rw [e])
    subst hf
    have hn : ((l.length : Int) != (r.length : Int)) = true := by simp; omega
    have H := Lib.hid h
    have H' := Lib.hid h'
    clear h h'
    clear hlen hB
    go_enter Tryz.func12, Tryz.ntmps12
    go_wp2
    go_ret
    exact ⟨rfl, Below.refl _ _⟩
end Go.Proofs.YtjjbbnodmpemiaaGreatDoor

/- slices.Clone of members. Condition: at most 10^8 of them. -/
namespace Go.Proofs.YtjjbbnodmpemiaaGreatDoor
open Go.RowKit

def ClonePost (w : World) (o : List (ByteArray × Val)) (e : Ending) (w' : World) : Prop := ∃ V ns, e = .returned V ∧ w'.ownsRow w.heap.size 60 7 V o.length ns ∧ HoldsA w w.heap.size (dO o) ns ∧ Below w.heap.size w w'

set_option maxRecDepth 100000 in
theorem clone_calls (o : List (ByteArray × Val)) (a : Option Addr) (n c : Nat) (w : World) (h : Holds w w.heap.size (.row 7 (dO o)) [.slice a n c]) (hn : o.length ≤ 100000000) :
    Calls Tryz.prog 57 #[.slice a n c] w (ClonePost w o) := by
  have hl := h.row_len
  rw [dO_len] at hl
  subst hl
  obtain ⟨ns, hr, hA, ho⟩ := h.reads
  have hnil := fun W => Lib.run_eql_slice_nil (P := Tryz.prog) W 43 60 a o.length c 0 0 Tryz.underlying43
  cases a with
  | none =>
    have h0 : o.length = 0 := by
      rcases Nat.eq_zero_or_pos o.length with h0 | h0
      · exact h0
      · obtain ⟨ad, e, _⟩ := hr.2 h0
        cases e
    have hns : ns = [] := List.eq_nil_of_length_eq_zero (by rw [hr.1, h0])
    subst hns
    have H0 := Lib.hid h0
    have HA := Lib.hid hA
    clear h0 hA
    clear h hr ho
    go_enter Tryz.func57, Tryz.ntmps57
    go_wp2
    go_ret
    exact ⟨.slice none 0 0, [], rfl, by rw [H0.out]; exact World.ownsRow_nil _ _ _ _, HA.out, Below.refl _ _⟩
  | some ad =>
    obtain ⟨j0, hj, hy0, hy1, hy2⟩ := info_parts info_mem
    have Hj := Lib.hid hj
    have Hy0 := Lib.hid hy0
    have Hy1 := Lib.hid hy1
    have Hy2 := Lib.hid hy2
    have Hr := Lib.hid hr
    have HA := Lib.hid hA
    have Ho := Lib.hid ho
    clear hj hy0 hy1 hy2 hr hA ho
    clear h
    go_enter Tryz.func57, Tryz.ntmps57
    have HOwn : Hid ((w.alloc (.cells #[] 60)).ownsRow w.heap.size 60 7 (.slice (some ⟨w.heap.size, 0, none⟩) 0 0) 0 []) :=
      ⟨by simp, .inr ⟨w.heap.size, 0, #[], rfl, Nat.le_refl _, heap_alloc_new _ _, Nat.le_refl _, by unfold maxLen; omega, by simp, by simp⟩⟩
    go_wp2_with (at_builtin; refine wpList_append_any _ rfl (.tmp 5) (.tmp 6) 43 rfl w.heap.size 60 j0 (.agg #[.string ⟨#[]⟩, .int .i64 0, .bool false, .int .i64 0, .string ⟨#[]⟩, .slice none 0 0, .slice none 0 0]) 7 104 Tryz.underlying43 Hj.out Hy0.out Hy1.out Hy2.out rfl (by omega) (.slice (some ⟨w.heap.size, 0, none⟩) 0 0) 0 [] rfl HOwn.out w.heap.size _ o.length _ ns rfl ?c0 ?c1 ?c2 ?c3 ?c4 ?_)
    case c0 => exact Hr.out.alloc (Nat.le_refl _) _
    case c1 => exact Ho.out
    case c2 => unfold maxLen; omega
    case c3 => omega
    case c4 => simp
    intro v1 w1 hown1 hgrow1 _
    have hb : Below w.heap.size w w1 := ((Below.refl _ _).alloc (Nat.le_refl _) _).grown hgrow1 (by simp) (fun g hg => by simp [Value.ownBlock] at hg; omega)
    have Hown1 := Lib.hid hown1
    have Hb := Lib.hid hb
    clear hown1 hb
    clear hgrow1
    go_wp2
    go_ret
    exact ⟨v1, ns, rfl, by simpa using Hown1.out, HA.out, Hb.out⟩
end Go.Proofs.YtjjbbnodmpemiaaGreatDoor

/- commonplaceref02.Deep: how deep a value is. Condition: a bulk of at most 10^8. -/
namespace Go.Proofs.YtjjbbnodmpemiaaGreatDoor
open Go.RowKit

theorem RWithin_calls (v : Val) (cs : List Value) (w : World) (hV : HoldsV w w.heap.size v cs) (hb : v.bulk ≤ 100000000) :
    Calls Tryz.prog 77 #[.agg cs.toArray] w (WithinPost w v) := by
  obtain ⟨k, b, n, t, l, o⟩ := v
  simp only [HoldsV] at hV
  obtain ⟨la, lc, oa, oc, rfl, hla, hoa⟩ := hV
  simp only [Val.bulk] at hb
  by_cases h5 : k = 5
  · subst h5
    exact within_list b n t l o la oa oc lc w hla (by omega)
  by_cases h6 : k = 6
  · subst h6
    exact within_obj b n t l o la oa oc lc w hoa (by omega)
  have hw : within (.mk k b n t l o) = [] := by simp [within, h5, h6]
  have Hw := Lib.hid hw
  have e5 : (k == 5) = false := by simpa using h5
  have e6 : (k == 6) = false := by simpa using h6
  clear hw hla hoa hb h5 h6
  go_enter Tryz.func77, Tryz.ntmps77
  go_wp2
  go_ret
  exact ⟨⟨none, 0, by rw [Hw.out]; rfl, .inl Hw.out⟩, (Below.refl _ _).alloc (Nat.le_refl _) _⟩

theorem deepO_map : ∀ o : List (ByteArray × Val), deepO o = deepL (o.map (·.2))
  | [] => rfl
  | (k, v) :: r => by simp only [deepO, deepP, List.map_cons, deepL, deepO_map r]
theorem deepV_within (v : Val) : deepV v = 1 + deepL (within v) := by
  obtain ⟨k, b, n, t, l, o⟩ := v
  simp only [deepV, within]
  by_cases h5 : k = 5
  · simp [h5]
  by_cases h6 : k = 6
  · simp [h6, deepO_map]
  · simp [h5, h6, deepL]
theorem bulkO_map : ∀ o : List (ByteArray × Val), bulkL (o.map (·.2)) ≤ bulkO o
  | [] => by simp [bulkL]
  | (k, v) :: r => by
    have := bulkO_map r
    simp only [List.map_cons, bulkL, bulkO, bulkP]
    omega
theorem within_bulk (v : Val) : bulkL (within v) ≤ v.bulk := by
  obtain ⟨k, b, n, t, l, o⟩ := v
  have := bulkO_map o
  simp only [within, Val.bulk]
  split
  · omega
  split
  · omega
  · simp [bulkL]

/-- What the reference's Deep does with a value. -/
def RDeepC (v : Val) : Prop := ∀ (cs : List Value) (w : World), HoldsV w w.heap.size v cs → v.bulk ≤ 100000000 →
    Calls Tryz.prog 54 #[.agg cs.toArray] w fun e w' => e = .returned (.int .i64 (deepV v)) ∧ Below w.heap.size w w'

set_option maxRecDepth 100000 in
set_option maxHeartbeats 2000000 in
theorem rdeep_step (v : Val) (IH : ∀ x ∈ within v, RDeepC x) : RDeepC v := by
  intro cs w hV hb
  have hV' := hV
  have hbw := within_bulk v
  have hlw := bulkL_len (within v)
  have hdw := deepL_le (within v) (fun x _ => deepV_le x)
  have hW0 := fun w' (h : Below w.heap.size w w') => RWithin_calls v cs w' (HoldsV.more h.size _ _ (hV.below h)) hb
  rw [deepV_within]
  unfold WithinPost at hW0
  generalize within v = L at *
  obtain ⟨k, b, n, t, l, o⟩ := v
  simp only [HoldsV] at hV'
  obtain ⟨la, lc, oa, oc, rfl, _, _⟩ := hV'
  have HI := Lib.hid IH
  have HW := Lib.hid hW0
  obtain ⟨M, hM⟩ : ∃ M, deepL L = M := ⟨_, rfl⟩
  rw [hM] at hdw ⊢
  have H0 : Hid (max 0 (deepL (L.drop 0)) = M) := by show _ = _; rw [List.drop_zero, hM]; simp
  have HB1 : Hid (Below w.heap.size w (w.alloc (.cells (cells6 k b n t la l.length lc oa o.length oc).toArray 45))) := (Below.refl _ _).alloc (Nat.le_refl _) _
  clear IH hW0 hM hV
  go_enter Tryz.func54, Tryz.ntmps54
  go_wp2_with (fail)
  with_reducible refine (HW.out _ HB1.out).mono ?_
  rintro e w2 ⟨⟨la', lc', rfl, hsl⟩, hb2⟩
  have Hsl := Lib.hid hsl
  have HB2 := Lib.hid (HB1.out.trans (hb2.mono HB1.out.size))
  clear hsl hb2 HB1 HW
  go_wp2_with (fail)
  have HBr : Hid (Below w2.heap.size w2 w2) := Below.refl _ _
  go_loopw [3, 5] (fun m i wr => ∃ D k : Nat, m = .int .i64 D ∧ i = .int .i64 k ∧ k ≤ L.length ∧ Hid (max D (deepL (L.drop k)) = M) ∧ D ≤ M ∧ Hid (Below w2.heap.size w2 wr)) (fun _ i _ => L.length - (intOf i).toNat)
  case atStart => exact ⟨0, 0, rfl, rfl, Nat.zero_le _, H0, Nat.zero_le _, HBr⟩
  case round =>
    obtain ⟨D, k, rfl, rfl, hk, hD, hDM, hbw⟩ := hrel
    clear H0 HBr
    by_cases hlt : k < L.length
    · obtain ⟨g, off, rfl, hg, hL⟩ : ∃ g off, la' = some ⟨g, off, none⟩ ∧ g < w2.heap.size ∧ HoldsL w2 w2.heap.size L g off := by
        rcases Hsl.out with h | h
        · rw [h] at hlt; simp at hlt
        · exact h
      obtain ⟨x, hx⟩ : ∃ v, L[k]? = some v := ⟨_, List.getElem?_eq_getElem hlt⟩
      have hmem : x ∈ L := List.mem_of_getElem? hx
      have hbv := bulkL_mem hmem
      have hdv := deepV_le x
      have hdrop : L.drop k = x :: L.drop (k + 1) := drop_of_get hx
      have hD' := hD.out
      rw [hdrop] at hD'
      simp only [deepL] at hD'
      have IHx := HI.out x hmem
      have hz := hbw.out.size
      obtain ⟨m, hm⟩ : ∃ m, deepV x = m := ⟨_, rfl⟩
      obtain ⟨k', b', n', t', l', o'⟩ := x
      obtain ⟨la', lc', oa', oc', hvs, c0, c1, c2, c3, c4, c5⟩ := (hL.below hg hbw.out).six hx
      have CT := IHx _ wr (HoldsV.more hz _ _ hvs) (by omega)
      rw [hm] at CT hD' hdv
      have hCT := Lib.hid CT
      have Hn : Hid (max (max D m) (deepL (L.drop (k + 1))) = M) := by show _ = _; omega
      have hmM : max D m ≤ M := by omega
      clear CT hD hD' hdrop IHx hm hvs hx hmem hL hg hdv hbv
      by_cases hgt : D < m
      · have e1 : max D m = m := by omega
        rw [e1] at Hn hmM
        clear e1
        go_wp2_with (fail)
        with_reducible refine hCT.out.mono ?_
        rintro e w4 ⟨rfl, hb4⟩
        have hbw4 := Lib.hid (hbw.out.trans (hb4.mono hz))
        clear hb4 hbw hCT
        go_wp2
        go_roundw
        case rel => exact ⟨m, k + 1, rfl, by go_num, by omega, Hn, hmM, hbw4⟩
        case measure => simp only [intOf]; omega
      · have e1 : max D m = D := by omega
        rw [e1] at Hn hmM
        clear e1
        go_wp2_with (fail)
        with_reducible refine hCT.out.mono ?_
        rintro e w4 ⟨rfl, hb4⟩
        have hbw4 := Lib.hid (hbw.out.trans (hb4.mono hz))
        clear hb4 hbw hCT
        go_wp2
        go_roundw
        case rel => exact ⟨D, k + 1, rfl, by go_num, by omega, Hn, hmM, hbw4⟩
        case measure => simp only [intOf]; omega
    · obtain rfl : k = L.length := by omega
      have hD' := hD.out
      rw [List.drop_length] at hD'
      simp only [deepL] at hD'
      obtain rfl : D = M := by omega
      have hc : (D : Int) + 1 = ((1 + D : Nat) : Int) := by omega
      have Hc := Lib.hid hc
      clear hD hD' hc
      go_wp2
      go_ret
      exact ⟨by rw [← Hc.out]; rfl, HB2.out.trans (hbw.out.mono HB2.out.size)⟩

theorem rdeep_calls : ∀ v, RDeepC v := by
  refine Val.ind ?_
  intro k b n t l o IHl IHo
  refine rdeep_step _ (fun x hx => ?_)
  simp only [within] at hx
  split at hx
  · exact IHl x hx
  split at hx
  · obtain ⟨m, hm, rfl⟩ := List.mem_map.1 hx
    exact IHo m hm
  · cases hx

end Go.Proofs.YtjjbbnodmpemiaaGreatDoor

/- patch.zero, patch.follows, patch.strange. No condition. -/
namespace Go.Proofs.YtjjbbnodmpemiaaGreatDoor
open Go.RowKit

theorem alloc_below (w : World) (o : Obj) : Below w.heap.size w (w.alloc o) := (Below.refl _ _).alloc (Nat.le_refl _) _
theorem beq_cast (n : Nat) : ((n : Int) == 0) = decide (n = 0) := by rw [Bool.eq_iff_iff]; simp

set_option maxRecDepth 100000 in
theorem zero_calls (k : Int) (b : Bool) (n : Int) (t : ByteArray) (la oa : Option Addr) (ln lc on oc : Nat) (B : Bool) (w : World) (h : zero6B k b n t ln on = B) :
    Calls Tryz.prog 47 #[.agg #[.int .i64 k, .bool b, .int .i64 n, .string t, .slice la ln lc, .slice oa on oc]] w fun e w' => e = .returned (.bool B) ∧ Below w.heap.size w w' := by
  have fin : ∀ X : Bool, X = zero6B k b n t ln on → Ending.returned (.bool X) = .returned (.bool B) := fun X hX => by rw [hX, h]
  have Fin := Lib.hid fin
  clear fin h
  go_enter Tryz.func47, Tryz.ntmps47
  go_wp2
  all_goals (go_ret; refine ⟨Fin.out _ ?_, alloc_below _ _⟩; simp_all [zero6B, beq_cast])

theorem bne_dec (a b : Int) : (a != b) = decide (a ≠ b) := by rw [Bool.eq_iff_iff]; simp
theorem beq_dec (a b : Int) : (a == b) = decide (a = b) := by rw [Bool.eq_iff_iff]; simp
set_option maxRecDepth 100000 in
theorem follows_calls (k k' : Int) (s s' : ByteArray) (a0 a1 a2 a3 a4 a5 b0 b1 b2 b3 b4 b5 : Value) (B : Bool) (w : World) (h : (decide (k' ≠ 3) && (decide (k = 3) || Op.bytesLess s.toList s'.toList)) = B) :
    Calls Tryz.prog 30 #[.agg #[.int .i64 k, .string s, a0, a1, a2, a3, a4, a5], .agg #[.int .i64 k', .string s', b0, b1, b2, b3, b4, b5]] w fun e w' => e = .returned (.bool B) ∧ Below w.heap.size w w' := by
  have fin : ∀ X : Bool, X = (decide (k' ≠ 3) && (decide (k = 3) || Op.bytesLess s.toList s'.toList)) → Ending.returned (.bool X) = .returned (.bool B) := fun X hX => by rw [hX, h]
  have Fin := Lib.hid fin
  clear fin h
  go_enter Tryz.func30, Tryz.ntmps30
  go_wp2
  all_goals (go_ret; refine ⟨Fin.out _ ?_, (alloc_below _ _).alloc (by simp) _⟩; first | (simp_all; done) | (simp only [bne_dec, beq_dec]))

set_option maxRecDepth 100000 in
theorem strange_calls (k : Int) (s : ByteArray) (k' : Int) (b : Bool) (n : Int) (t : ByteArray) (la oa : Option Addr) (ln lc on oc : Nat) (B : Bool) (w : World)
    (h : (if k = 1 then false else if k = 2 then !zero6B k' b n t ln on else if k = 3 then !s.toList.isEmpty || !zero6B k' b n t ln on else true) = B) :
    Calls Tryz.prog 29 #[.agg #[.int .i64 k, .string s, .int .i64 k', .bool b, .int .i64 n, .string t, .slice la ln lc, .slice oa on oc]] w fun e w' => e = .returned (.bool B) ∧ Below w.heap.size w w' := by
  obtain ⟨Z, hZ⟩ : ∃ Z, zero6B k' b n t ln on = Z := ⟨_, rfl⟩
  rw [hZ] at h
  have fin : ∀ X : Bool, X = (if k = 1 then false else if k = 2 then !Z else if k = 3 then !s.toList.isEmpty || !Z else true) → Ending.returned (.bool X) = .returned (.bool B) := fun X hX => by rw [hX, h]
  have hcz := fun W => zero_calls k' b n t la oa ln lc on oc Z W hZ
  have Fin := Lib.hid fin
  have Hcz := Lib.hid hcz
  clear fin hcz
  clear hZ h
  go_enter Tryz.func29, Tryz.ntmps29
  go_wp2_with (go_at_call 47; refine (Hcz.out _).mono ?_; rintro e w1 ⟨rfl, hb1⟩)
  all_goals first
    | (go_ret; refine ⟨Fin.out _ ?_, alloc_below _ _⟩; (by_cases e1 : k = 1 <;> by_cases e2 : k = 2 <;> by_cases e3 : k = 3 <;> cases Z <;> simp_all))
    | (go_ret; refine ⟨Fin.out _ ?_, (alloc_below _ _).trans (hb1.mono (by simp))⟩; (by_cases e1 : k = 1 <;> by_cases e2 : k = 2 <;> by_cases e3 : k = 3 <;> cases Z <;> simp_all))
end Go.Proofs.YtjjbbnodmpemiaaGreatDoor
