/- Parts, joined: crc.Seal; are bytes the same; frames, the program's and the reference's. Condition: at most 10^9 bytes. Frames, the program's and the reference's. Condition: at most 10^8 bytes, a kind that is not 0. The data that the walks speak of: values as trees, and how they lie in memory. No condition. Rows of values, cell by cell. No condition. commonplaceref02.Copy: what its contract says; rows of members. Plain. No condition. Values as data of any make. Plain. No condition. Rows of members, joined and parted. Plain. No condition. What commonplaceref02.Object comes to: members put where they belong. Plain. No condition. -/
import Derived.Test.YtjjbbnodmpemiaaGreatDoorProg
import Derived.Laws.MakeOwn
import Derived.Laws.Entries
import Derived.Laws.Shifts
import Derived.BigQuiet
import Derived.Deep.QuietTactic
import Derived.Laws.EntriesVeiled
import Derived.LoopN
import Derived.WalkKit
import Derived.Below
import Derived.Laws.AppendOwn
import Derived.Lib.Hide
import Derived.Lib.Builder
import Derived.Test.YtjjbbnodmpemiaaGreatDoorKPull2
/- crc.Seal; are bytes the same; frames, the program's and the reference's. Condition: at most 10^9 bytes. -/
namespace Go.Proofs.YtjjbbnodmpemiaaGreatDoor
open Go.RowKit

theorem run_make_rowN {P : Program} (t e : TypeId) (i : TypeInfo) (z : Value) (ht : P.underlying t = some (.slice e)) (hi : P.info? e = some i) (hz : i.zero = some z)
    (kl kc : IntKind) (n c : Nat) (hnc : n ≤ c) (hbytes : i.bytes * c ≤ 281474976710656) (h63 : c ≤ 9223372036854775807) (w : World) :
    (Instr.makeSlice t (.int kl (n : Int)) (.int kc (c : Int))).run P w = .ok (.slice (some ⟨w.heap.size, 0, none⟩) n c) (w.alloc (.cells (madeCells z.cells (c * i.size)) e)) := by
  have hb : (i.bytes : Int) * (c : Int) ≤ 281474976710656 := by
    have h : ((i.bytes * c : Nat) : Int) ≤ 281474976710656 := by omega
    rwa [Int.natCast_mul] at h
  have hr := run_make (P := P) w t e i z ht hi hz kl kc n c (by omega) (by omega) hb (by omega)
  simp only [Int.toNat_natCast] at hr
  exact hr

theorem below_draws {B : Nat} {a w : World} (h : Below B a w) (n : Nat) : Below B a (w.drewN n) := ⟨h.os, h.tape, h.output, h.size, h.block⟩

set_option maxRecDepth 100000 in
set_option maxHeartbeats 2000000 in
theorem seal_calls (l : List UInt8) (a : Option Addr) (n c : Nat) (w : World) (h : Holds w w.heap.size (.row 1 (dB l)) [.slice a n c]) (hl : l.length ≤ 1000000000) :
    Calls Tryz.prog 64 #[.slice a n c] w (BytesPost (sealL l) w) := by
  obtain ⟨hn, hR⟩ := dB_reads h
  subst hn
  obtain ⟨i0, hi, hz, hz1, hz2⟩ := info_parts u8_info
  have hmk : ∀ W : World, ∃ cur : Array Value, cur.size = l.length + 4 ∧ (Instr.makeSlice 35 (.int .i64 0) (.int .i64 ((l.length : Int) + 4))).run Tryz.prog W = .ok (.slice (some ⟨W.heap.size, 0, none⟩) 0 (l.length + 4)) (W.alloc (.cells cur 5)) := by
    intro W
    have := run_make_rowN (P := Tryz.prog) 35 5 i0 _ Tryz.underlying35 hi hz .i64 .i64 0 (l.length + 4) (by omega) (by rw [hz2]; omega) (by omega) W
    refine ⟨_, ?_, by rw [show (((l.length + 4 : Nat)) : Int) = (l.length : Int) + 4 from by omega] at this; exact this⟩
    rw [hz1]
    simp [madeCells]
  obtain ⟨cur, hcs, hm⟩ := hmk w
  have hown0 : (w.alloc (.cells cur 5)).ownsRow w.heap.size 5 1 (.slice (some ⟨w.heap.size, 0, none⟩) 0 (l.length + 4)) ([] : List UInt8).length (bcells []) := World.ownsRow_made w cur (l.length + 4) (Nat.le_refl _) (by simp only [maxLen]; omega) (by omega)
  have hR0 := hR.alloc (Nat.le_refl _) (.cells cur 5)
  have H := Lib.hid h
  have HR := Lib.hid hR
  have Hown0 := Lib.hid hown0
  have HR0 := Lib.hid hR0
  have Hi := Lib.hid hi
  have Hz := Lib.hid hz
  have Hz1 := Lib.hid hz1
  have Hz2 := Lib.hid hz2
  have Hcs := Lib.hid hcs
  clear h hR hown0 hR0 hi hz hz1 hz2 hcs
  clear hmk
  go_enter Tryz.func64, Tryz.ntmps64
  go_wp2_with (at_builtin; refine wpList_append_by rfl (.tmp 10) (.tmp 11) 35 35 5 rfl Tryz.underlying35 Tryz.underlying35 w.heap.size (.slice (some ⟨w.heap.size, 0, none⟩) 0 (l.length + 4)) [] rfl Hown0.out _ a _ c l rfl HR0.out (by simp; omega) (by simp) ?_; intro v1 w1 hown1 hg1 hat1)
  have hb1 : Below w.heap.size w w1 := ((Below.refl _ _).alloc (Nat.le_refl _) _).grown hg1 (by simp) (by simp [Value.ownBlock])
  rw [List.nil_append] at hown1
  have hC := sum_calls l a l.length c w1 ((H.out.below hb1).more hb1.size) hl
  have hcl := crcMore_lt 0 l
  have hsf := sumB_four (crcMore 0 l)
  obtain ⟨s0, hs0⟩ : ∃ s0, crcMore 0 l = s0 := ⟨_, rfl⟩
  rw [hs0] at hC hcl hsf
  have hfin : sealL l = l ++ sumB s0 4 := by unfold sealL; rw [hsf, hs0]
  have HC := Lib.hid hC
  have Hown1 := Lib.hid hown1
  have Hg1 := Lib.hid hg1
  have Hb1 := Lib.hid hb1
  have Hat1 := Lib.hid hat1
  have Hfin := Lib.hid hfin
  have Hsf := Lib.hid hsf
  have Hs0 := Lib.hid hs0
  clear hC hown1 hg1 hb1 hat1 hfin hsf hs0
  clear hm
  go_wp2_with (go_at_call 96; with_reducible refine (HC.out).mono ?_; rintro e w2 ⟨rfl, hb2⟩)
  have hb12 := Hb1.out.trans (hb2.mono Hb1.out.size)
  have hown2 : w2.ownsRow w.heap.size 5 1 v1 l.length (bcells l) := Hown1.out.kept (row := none) ⟨hb2.os, hb2.tape, hb2.output, hb2.size, fun i hi _ => hb2.block i hi⟩ (by cases hv : v1.ownBlock <;> simp) 
  have Hb12 := Lib.hid hb12
  have Hown2 := Lib.hid hown2
  clear hb12 hown2
  clear hb2
  go_loopw [3, 15] (fun v i wr => ∃ k : Nat, k ≤ 4 ∧ i = .int .i64 k ∧ Hid (wr.ownsRow w.heap.size 5 1 v (l ++ sumB s0 k).length (bcells (l ++ sumB s0 k))) ∧ Hid (Below w.heap.size w wr)) (fun _ i _ => 4 - (intOf i).toNat)
  case atStart => exact ⟨0, by omega, rfl, by rw [show l ++ sumB s0 0 = l from by simp [sumB]]; exact Hown2, Hb12⟩
  case round =>
    obtain ⟨k, hk, rfl, hown, hb⟩ := hrel
    by_cases hlt : k < 4
    · have hz := hb.out.size
      have hlen := sumB_len k s0
      have Hlen := Lib.hid hlen
      clear hlen
      clear Hown2 Hb12
      have hk4 : k = 0 ∨ k = 1 ∨ k = 2 ∨ k = 3 := by omega
      rcases hk4 with rfl | rfl | rfl | rfl
      · have ecell : Value.int .u8 ((s0 : Int) % 256) = .int .u8 ((UInt8.ofNat (s0 / 256 ^ 0 % 256)).toNat : Nat) := by rw [← u8_cell _ (by omega)]; simp only [Nat.reducePow, Nat.div_one]; go_num
        have hlit := (reads_lit (ecell ▸ Blk.new wr 5 #[.int .u8 ((s0 : Int) % 256)] : Blk _ _ _ #[.int .u8 ((UInt8.ofNat (s0 / 256 ^ 0 % 256)).toNat : Nat)]))
        rw [← ecell] at hlit
        have hsn := sumB_snoc 0 s0
        have Hlit := Lib.hid hlit
        have Hsn := Lib.hid hsn
        have Ecell := Lib.hid ecell
        clear hlit hsn ecell
        go_wp2_with (at_builtin; refine wpList_append_by rfl (.tmp 18) (.tmp 24) 35 35 5 rfl Tryz.underlying35 Tryz.underlying35 w.heap.size u3 _ rfl (hown.out.alloc _) _ _ _ _ [UInt8.ofNat (s0 / 256 ^ 0 % 256)] rfl Hlit.out (by have := Hlen.out; simp; omega) (by simp; omega) ?_; intro v3 w3 hown3 hg3 hat3)
        have hb3 : Below w.heap.size w w3 := (hb.out.alloc (by omega) _).grown hg3 (by simp; omega) (fun j e => (hown.out.lt j e).1)
        rw [List.append_assoc, ← Hsn.out] at hown3
        have Hown3 := Lib.hid hown3
        have Hb3 := Lib.hid hb3
        clear hown3 hb3
        clear hown hb hg3 hat3 Hsn
        go_wp2
        go_roundw
        case rel => exact ⟨0 + 1, by omega, by go_num, Hown3, Hb3⟩
        case measure => simp [intOf]
      · have ecell : Value.int .u8 ((s0 : Int) / 256 % 256) = .int .u8 ((UInt8.ofNat (s0 / 256 ^ 1 % 256)).toNat : Nat) := by rw [← u8_cell _ (by omega)]; simp only [Nat.reducePow]; go_num
        have hlit := (reads_lit (ecell ▸ Blk.new wr 5 #[.int .u8 ((s0 : Int) / 256 % 256)] : Blk _ _ _ #[.int .u8 ((UInt8.ofNat (s0 / 256 ^ 1 % 256)).toNat : Nat)]))
        rw [← ecell] at hlit
        have hsn := sumB_snoc 1 s0
        have Hlit := Lib.hid hlit
        have Hsn := Lib.hid hsn
        have Ecell := Lib.hid ecell
        clear hlit hsn ecell
        go_wp2_with (at_builtin; refine wpList_append_by rfl (.tmp 18) (.tmp 24) 35 35 5 rfl Tryz.underlying35 Tryz.underlying35 w.heap.size u3 _ rfl (hown.out.alloc _) _ _ _ _ [UInt8.ofNat (s0 / 256 ^ 1 % 256)] rfl Hlit.out (by have := Hlen.out; simp; omega) (by simp; omega) ?_; intro v3 w3 hown3 hg3 hat3)
        have hb3 : Below w.heap.size w w3 := (hb.out.alloc (by omega) _).grown hg3 (by simp; omega) (fun j e => (hown.out.lt j e).1)
        rw [List.append_assoc, ← Hsn.out] at hown3
        have Hown3 := Lib.hid hown3
        have Hb3 := Lib.hid hb3
        clear hown3 hb3
        clear hown hb hg3 hat3 Hsn
        go_wp2
        go_roundw
        case rel => exact ⟨1 + 1, by omega, by go_num, Hown3, Hb3⟩
        case measure => simp [intOf]
      · have ecell : Value.int .u8 ((s0 : Int) / 65536 % 256) = .int .u8 ((UInt8.ofNat (s0 / 256 ^ 2 % 256)).toNat : Nat) := by rw [← u8_cell _ (by omega)]; simp only [Nat.reducePow]; go_num
        have hlit := (reads_lit (ecell ▸ Blk.new wr 5 #[.int .u8 ((s0 : Int) / 65536 % 256)] : Blk _ _ _ #[.int .u8 ((UInt8.ofNat (s0 / 256 ^ 2 % 256)).toNat : Nat)]))
        rw [← ecell] at hlit
        have hsn := sumB_snoc 2 s0
        have Hlit := Lib.hid hlit
        have Hsn := Lib.hid hsn
        have Ecell := Lib.hid ecell
        clear hlit hsn ecell
        go_wp2_with (at_builtin; refine wpList_append_by rfl (.tmp 18) (.tmp 24) 35 35 5 rfl Tryz.underlying35 Tryz.underlying35 w.heap.size u3 _ rfl (hown.out.alloc _) _ _ _ _ [UInt8.ofNat (s0 / 256 ^ 2 % 256)] rfl Hlit.out (by have := Hlen.out; simp; omega) (by simp; omega) ?_; intro v3 w3 hown3 hg3 hat3)
        have hb3 : Below w.heap.size w w3 := (hb.out.alloc (by omega) _).grown hg3 (by simp; omega) (fun j e => (hown.out.lt j e).1)
        rw [List.append_assoc, ← Hsn.out] at hown3
        have Hown3 := Lib.hid hown3
        have Hb3 := Lib.hid hb3
        clear hown3 hb3
        clear hown hb hg3 hat3 Hsn
        go_wp2
        go_roundw
        case rel => exact ⟨2 + 1, by omega, by go_num, Hown3, Hb3⟩
        case measure => simp [intOf]
      · have ecell : Value.int .u8 ((s0 : Int) / 16777216) = .int .u8 ((UInt8.ofNat (s0 / 256 ^ 3 % 256)).toNat : Nat) := by rw [← u8_cell _ (by omega)]; simp only [Nat.reducePow]; go_num
        have hlit := (reads_lit (ecell ▸ Blk.new wr 5 #[.int .u8 ((s0 : Int) / 16777216)] : Blk _ _ _ #[.int .u8 ((UInt8.ofNat (s0 / 256 ^ 3 % 256)).toNat : Nat)]))
        rw [← ecell] at hlit
        have hsn := sumB_snoc 3 s0
        have Hlit := Lib.hid hlit
        have Hsn := Lib.hid hsn
        have Ecell := Lib.hid ecell
        clear hlit hsn ecell
        go_wp2_with (at_builtin; refine wpList_append_by rfl (.tmp 18) (.tmp 24) 35 35 5 rfl Tryz.underlying35 Tryz.underlying35 w.heap.size u3 _ rfl (hown.out.alloc _) _ _ _ _ [UInt8.ofNat (s0 / 256 ^ 3 % 256)] rfl Hlit.out (by have := Hlen.out; simp; omega) (by simp; omega) ?_; intro v3 w3 hown3 hg3 hat3)
        have hb3 : Below w.heap.size w w3 := (hb.out.alloc (by omega) _).grown hg3 (by simp; omega) (fun j e => (hown.out.lt j e).1)
        rw [List.append_assoc, ← Hsn.out] at hown3
        have Hown3 := Lib.hid hown3
        have Hb3 := Lib.hid hb3
        clear hown3 hb3
        clear hown hb hg3 hat3 Hsn
        go_wp2
        go_roundw
        case rel => exact ⟨3 + 1, by omega, by go_num, Hown3, Hb3⟩
        case measure => simp [intOf]
    · obtain rfl : k = 4 := by omega
      rw [← Hfin.out] at hown
      go_wp2
      go_ret
      exact BytesPost.of hown.out hb.out

set_option maxRecDepth 100000 in
set_option maxHeartbeats 2000000 in
/-- Are bytes the same? -/
theorem same_calls (l r : List UInt8) (a a' : Option Addr) (n c n' c' : Nat) (B : Bool) (w : World) (h : Holds w w.heap.size (.row 1 (dB l)) [.slice a n c]) (h' : Holds w w.heap.size (.row 1 (dB r)) [.slice a' n' c']) (hl : l.length ≤ 2000000000) (_ : r.length ≤ 2000000000) (hB : decide (l = r) = B) :
    Calls Tryz.prog 12 #[.slice a n c, .slice a' n' c'] w fun e w' => e = .returned (.bool B) ∧ Below w.heap.size w w' := by
  obtain rfl := dB_n h
  obtain rfl := dB_n h'
  by_cases hlen : l.length = r.length
  · have hlen' : Hid (l.length = r.length) := hlen
    have hw0 : Below w.heap.size w w := Below.refl _ _
    have ht0 : l.take 0 = r.take 0 := by simp
    have hn : ((l.length : Int) != (r.length : Int)) = false := by simp; omega
    have H := Lib.hid h
    have H' := Lib.hid h'
    have HB := Lib.hid hB
    have Hw0 := Lib.hid hw0
    have Ht0 := Lib.hid ht0
    clear h h' hB hw0 ht0
    clear hlen
    go_enter Tryz.func12, Tryz.ntmps12
    go_wp2
    go_loopw [5] (fun i wr => ∃ k : Nat, k ≤ l.length ∧ i = .int .i64 k ∧ Hid (l.take k = r.take k) ∧ Hid (Below w.heap.size w wr)) (fun i _ => l.length - (intOf i).toNat)
    case atStart => exact ⟨0, by omega, rfl, Ht0, Hw0⟩
    case round =>
      obtain ⟨k, hk, rfl, ht, hb⟩ := hrel
      by_cases hlt : k < l.length
      · have hlt' : k < r.length := by have := hlen'.out; omega
        obtain ⟨x, hx⟩ : ∃ x, l[k]? = some x := ⟨_, List.getElem?_eq_getElem hlt⟩
        obtain ⟨y, hy⟩ : ∃ y, r[k]? = some y := ⟨_, List.getElem?_eq_getElem hlt'⟩
        obtain ⟨g, off, rfl, hg, hcell⟩ := dB_at (H.out.below hb.out) hx
        obtain ⟨g', off', rfl, hg', hcell'⟩ := dB_at (H'.out.below hb.out) hy
        have htk : ∀ (m : List UInt8) (z : UInt8), m[k]? = some z → m.take (k + 1) = m.take k ++ [z] := by
          intro m z hz
          obtain ⟨hm, rfl⟩ := List.getElem?_eq_some_iff.1 hz
          exact List.take_succ_eq_append_getElem hm
        have i1 : (0 : Int) ≤ k := by omega
        have i2 : (k : Int) < (l.length : Int) := by omega
        have i3 : (k : Int) < (r.length : Int) := by omega
        by_cases he : x = y
        · subst he
          have ht' : l.take (k + 1) = r.take (k + 1) := by rw [htk l x hx, htk r x hy, ht.out]
          have hE : ((x.toNat : Int) != (x.toNat : Int)) = false := by simp
          have Ht' := Lib.hid ht'
          have Hx := Lib.hid hx
          have Hy := Lib.hid hy
          clear ht' hx hy
          clear htk ht
          go_wp2
          go_quiet (fail)
          go_wp2
          go_roundw
          case rel => exact ⟨k + 1, by omega, by go_num, Ht', below_draws hb.out _⟩
          case measure => simp [intOf]; omega
        · have hf : B = false := by
            rw [← HB.out, decide_eq_false_iff_not]
            intro e
            rw [e, hy] at hx
            exact he (Option.some.inj hx).symm
          have hE : ((x.toNat : Int) != (y.toNat : Int)) = true := by
            simp only [bne_iff_ne, ne_eq]
            intro e
            exact he (UInt8.toNat_inj.1 (by omega))
          subst hf
          have Hx := Lib.hid hx
          have Hy := Lib.hid hy
          clear hx hy
          clear htk ht he HB
          go_wp2
          go_quiet (fail)
          go_wp2
          go_ret
          exact ⟨rfl, below_draws hb.out _⟩
      · obtain rfl : k = l.length := by omega
        have hf : B = true := by
          have := ht.out
          rw [List.take_length, hlen'.out, List.take_length] at this
          rw [← HB.out, this]
          simp
        subst hf
        clear HB
        go_wp2
        go_ret
        exact ⟨rfl, hb.out⟩
  · have hf : B = false := by
      rw [← hB, decide_eq_false_iff_not]
      intro e
      exact hlen (by rw [e])
    subst hf
    have hn : ((l.length : Int) != (r.length : Int)) = true := by simp; omega
    have H := Lib.hid h
    have H' := Lib.hid h'
    clear h h'
    clear hlen hB
    go_enter Tryz.func12, Tryz.ntmps12
    go_wp2
    go_ret
    exact ⟨rfl, Below.refl _ _⟩
end Go.Proofs.YtjjbbnodmpemiaaGreatDoor

/- Frames, the program's and the reference's. Condition: at most 10^8 bytes, a kind that is not 0. -/
namespace Go.Proofs.YtjjbbnodmpemiaaGreatDoor
open Go.RowKit

theorem unless_calls (b : Bool) (n : Int) (w : World) : Calls Tryz.prog 95 #[.bool b, .int .i64 n] w fun e w' => e = .returned (.int .i64 (if b then 0 else n)) ∧ w = w' := by
  cases b <;> (go_enter Tryz.func95, Tryz.ntmps95; go_wp2; go_ret; exact ⟨rfl, rfl⟩)
theorem named_calls (k : UInt8) (hk : k ≠ 0) (w : World) : Calls Tryz.prog 62 #[.int .u8 k.toNat] w fun e w' => e = .returned (.int .i64 0) ∧ w = w' := by
  have h : (((k.toNat : Nat) : Int) != 0) = true := by
    simp only [bne_iff_ne, ne_eq]
    intro e
    exact hk (UInt8.toNat_inj.1 (by simpa using e))
  have hC := fun W => unless_calls true 2 W
  have HC := Lib.hid hC
  clear hC
  go_enter Tryz.func62, Tryz.ntmps62
  go_wp2_with (go_at_call 95; (with_reducible refine (HC.out _).mono ?_); rintro e w2 ⟨rfl, rfl⟩)
  go_ret
  exact ⟨rfl, rfl⟩
theorem first_named (k : UInt8) (hk : k ≠ 0) (g : Nat) (w : World) (hc : w.cell? ⟨g, 0, none⟩ = some (.func (.func 62) #[.int .u8 k.toNat] #[])) :
    Calls Tryz.prog 63 #[.slice (some ⟨g, 0, none⟩) 1 1] w fun e w' => e = .returned (.int .i64 0) ∧ w = w' := by
  have hC := fun W => named_calls k hk W
  have HC := Lib.hid hC
  clear hC
  go_enter Tryz.func63, Tryz.ntmps63
  go_wp2_with (fail)
  refine wp_loop_rounds 2 ?_
  rw [rounds_succ]
  go_wp2_with (go_at_call 62; (with_reducible refine (HC.out _).mono ?_); rintro e w2 ⟨rfl, rfl⟩)
  rw [rounds_succ]
  go_wp2
  go_ret
  exact ⟨rfl, rfl⟩

theorem joined_calls (k : UInt8) (l : List UInt8) (a : Option Addr) (n c : Nat) (w : World) (h : Holds w w.heap.size (.row 1 (dB l)) [.slice a n c]) (hl : l.length ≤ 1000000000) :
    Calls Tryz.prog 65 #[.slice a n c, .int .u8 k.toNat] w (BytesPost (k :: l) w) := by
  obtain ⟨hn, hR⟩ := dB_reads h
  subst hn
  have hR0 := hR.alloc (Nat.le_refl _) (.cells #[.int .u8 k.toNat] 5)
  have hown0 : (w.alloc (.cells #[.int .u8 k.toNat] 5)).ownsRow w.heap.size 5 1 (.slice (some ⟨w.heap.size, 0, none⟩) 1 1) [k].length (bcells [k]) := World.ownsRow_lit w #[.int .u8 k.toNat] 1 (Nat.le_refl _) (by simp [maxLen]) rfl
  have H := Lib.hid h
  have HR := Lib.hid hR
  have HR0 := Lib.hid hR0
  have Hown0 := Lib.hid hown0
  clear h hR hR0 hown0
  go_enter Tryz.func65, Tryz.ntmps65
  go_wp2_with (at_builtin; refine wpList_append_by rfl (.tmp 6) (.tmp 7) 35 108 5 rfl Tryz.underlying35 Tryz.underlying108 w.heap.size (.slice (some ⟨w.heap.size, 0, none⟩) 1 1) [k] rfl Hown0.out _ a _ c l rfl HR0.out (by simp; omega) (by simp) ?_; intro v1 w1 hown1 hg1 hat1)
  have hb1 : Below w.heap.size w w1 := ((Below.refl _ _).alloc (Nat.le_refl _) _).grown hg1 (by simp) (by simp [Value.ownBlock])
  have hF := BytesPost.of (l := k :: l) hown1 hb1
  go_ret
  exact hF

/-- Bytes of the call's own, given back with no error. -/
def BytesPost0 (l : List UInt8) (w : World) (e : Ending) (w' : World) : Prop := ∃ a c, e = .returned (.tuple #[.slice a l.length c, .int .i64 0]) ∧ Fresh w.heap.size w' (.row 1 (dB l)) [.slice a l.length c] ∧ Below w.heap.size w w'

set_option maxHeartbeats 1000000 in
theorem frame_calls (k : UInt8) (hk : k ≠ 0) (l : List UInt8) (a : Option Addr) (n c : Nat) (w : World) (h : Holds w w.heap.size (.row 1 (dB l)) [.slice a n c]) (hl : l.length ≤ 900000000) :
    Calls Tryz.prog 39 #[.int .u8 k.toNat, .slice a n c] w (BytesPost0 (sealL (k :: l)) w) := by
  have hF := fun W g hc => first_named k hk g W hc
  have hb0 : ∀ o o', Below w.heap.size w ((w.alloc o).alloc o') := fun o o' => ((Below.refl _ _).alloc (Nat.le_refl _) _).alloc (by simp) _
  have hJ := fun (W : World) hb => joined_calls k l a n c W ((h.below (w' := W) hb).more hb.size) (by omega)
  have hl' : (k :: l).length ≤ 1000000000 := by simp; omega
  generalize k :: l = L at hJ hl' ⊢
  have HF := Lib.hid hF
  have HJ := Lib.hid hJ
  have H := Lib.hid h
  clear hF hJ h
  go_enter Tryz.func39, Tryz.ntmps39
  go_wp2_with (fail)
  go_at_call 63
  with_reducible refine (HF.out _ _ ?_).mono ?_
  · simp
  rintro e w2 ⟨rfl, rfl⟩
  go_wp2_with (fail)
  (with_reducible refine (HJ.out _ (hb0 _ _)).mono ?_); rintro e w2 ⟨a1, c1, rfl, hf1, hb1⟩
  go_wp2_with (fail)
  (with_reducible refine (seal_calls L a1 _ c1 _ hf1.now hl').mono ?_); rintro e w3 ⟨a2, c2, rfl, hf2, hb2⟩
  go_wp2
  go_ret2
  have hz1 := hb1.size
  refine ⟨a2, c2, rfl, hf2.keep (by simp at hz1; omega) (Nat.le_refl _) (fun _ _ _ => rfl), ((hb0 _ _).trans (hb1.mono (by simp; omega))).trans (hb2.mono (by simp at hz1; omega))⟩

theorem rframe_calls (k : UInt8) (hk : k ≠ 0) (l : List UInt8) (a : Option Addr) (n c : Nat) (w : World) (h : Holds w w.heap.size (.row 1 (dB l)) [.slice a n c]) (hl : l.length ≤ 900000000) :
    Calls Tryz.prog 24 #[.int .u8 k.toNat, .slice a n c] w (BytesPost0 (sealL (k :: l)) w) := by
  obtain ⟨hn, hR⟩ := dB_reads h
  subst hn
  have hne : (((k.toNat : Nat) : Int) == 0) = false := by
    simp only [beq_eq_false_iff_ne, ne_eq]
    intro e
    exact hk (UInt8.toNat_inj.1 (by simpa using e))
  have hR0 := hR.alloc (Nat.le_refl _) (.cells #[.int .u8 k.toNat] 5)
  have hown0 : (w.alloc (.cells #[.int .u8 k.toNat] 5)).ownsRow w.heap.size 5 1 (.slice (some ⟨w.heap.size, 0, none⟩) 1 1) [k].length (bcells [k]) := World.ownsRow_lit w #[.int .u8 k.toNat] 1 (Nat.le_refl _) (by simp [maxLen]) rfl
  have hl' : (k :: l).length ≤ 1000000000 := by simp; omega
  obtain ⟨L, hL⟩ : ∃ L, k :: l = L := ⟨_, rfl⟩
  rw [hL] at hl' ⊢
  have H := Lib.hid h
  have HR := Lib.hid hR
  have HR0 := Lib.hid hR0
  have Hown0 := Lib.hid hown0
  have HL := Lib.hid hL
  clear h hR hR0 hown0 hL
  go_enter Tryz.func24, Tryz.ntmps24
  go_wp2_with (at_builtin; refine wpList_append_by rfl (.tmp 9) (.tmp 10) 35 35 5 rfl Tryz.underlying35 Tryz.underlying35 w.heap.size (.slice (some ⟨w.heap.size, 0, none⟩) 1 1) [k] rfl Hown0.out _ a _ c l rfl HR0.out (by simp; omega) (by simp) ?_; intro v1 w1 hown1 hg1 hat1)
  have hb1 : Below w.heap.size w w1 := ((Below.refl _ _).alloc (Nat.le_refl _) _).grown hg1 (by simp) (by simp [Value.ownBlock])
  rw [show [k] ++ l = L from HL.out] at hown1
  obtain ⟨a1, c1, rfl, hf1⟩ := own_bytes (l := L) hown1
  have hz1 := hb1.size
  clear hown1 hg1 hat1
  go_wp2_with (go_at_call 40; (with_reducible refine (rseal_calls L a1 _ c1 _ hf1.now hl').mono ?_); rintro e w3 ⟨a2, c2, rfl, hf2, hb2⟩)
  go_ret2
  exact ⟨a2, c2, rfl, hf2.keep hz1 (Nat.le_refl _) (fun _ _ _ => rfl), hb1.trans (hb2.mono hz1)⟩
end Go.Proofs.YtjjbbnodmpemiaaGreatDoor

/- The data that the walks speak of: values as trees, and how they lie in memory. No condition. -/
namespace Go.Proofs.YtjjbbnodmpemiaaGreatDoor
open Go.RowKit

/-- A value of package api, as data. -/
inductive Val where
  | mk (k : Int) (b : Bool) (n : Int) (t : ByteArray) (l : List Val) (o : List (ByteArray × Val))

/-- The six cells of a value whose slices lie there. -/
abbrev cells6 (k : Int) (b : Bool) (n : Int) (t : ByteArray) (la : Option Addr) (ln lc : Nat) (oa : Option Addr) (on oc : Nat) : List Value :=
  [.int .i64 k, .bool b, .int .i64 n, .string t, .slice la ln lc, .slice oa on oc]

mutual
/-- These six cells hold this value; all that it leads to lies below block B. -/
def HoldsV (w : World) (B : Nat) : Val → List Value → Prop
  | .mk k b n t l o, cs => ∃ la lc oa oc, cs = cells6 k b n t la l.length lc oa o.length oc ∧
      (l = [] ∨ ∃ g off, la = some ⟨g, off, none⟩ ∧ g < B ∧ HoldsL w B l g off) ∧
      (o = [] ∨ ∃ g off, oa = some ⟨g, off, none⟩ ∧ g < B ∧ HoldsO w B o g off)
def HoldsL (w : World) (B : Nat) : List Val → Nat → Nat → Prop
  | [], _, _ => True
  | v :: r, g, off => (∃ cs, HoldsV w B v cs ∧ ∀ j u, cs[j]? = some u → w.cell? ⟨g, off + j, none⟩ = some u) ∧ HoldsL w B r g (off + 6)
def HoldsO (w : World) (B : Nat) : List (ByteArray × Val) → Nat → Nat → Prop
  | [], _, _ => True
  | p :: r, g, off => HoldsP w B p g off ∧ HoldsO w B r g (off + 7)
def HoldsP (w : World) (B : Nat) : ByteArray × Val → Nat → Nat → Prop
  | (key, v), g, off => w.cell? ⟨g, off, none⟩ = some (.string key) ∧ ∃ cs, HoldsV w B v cs ∧ ∀ j u, cs[j]? = some u → w.cell? ⟨g, off + 1 + j, none⟩ = some u
end

mutual
/-- How many values and letters. -/
def Val.bulk : Val → Nat
  | .mk _ _ _ t l o => 6 + t.size + bulkL l + bulkO o
def bulkL : List Val → Nat
  | [] => 0
  | v :: r => v.bulk + bulkL r
def bulkO : List (ByteArray × Val) → Nat
  | [] => 0
  | p :: r => bulkP p + bulkO r
def bulkP : ByteArray × Val → Nat
  | (key, v) => 1 + key.size + v.bulk
end

/-- To prove something of all values: of each, given that it holds of those within. -/
theorem Val.ind {p : Val → Prop} (h : ∀ k b n t l o, (∀ v ∈ l, p v) → (∀ m ∈ o, p m.2) → p (.mk k b n t l o)) : ∀ v, p v := by
  intro v
  refine Val.rec (motive_1 := p) (motive_2 := fun l => ∀ v ∈ l, p v) (motive_3 := fun o => ∀ m ∈ o, p m.2) (motive_4 := fun m => p m.2) ?_ ?_ ?_ ?_ ?_ ?_ v
  · intro k b n t l o hl ho
    exact h k b n t l o hl ho
  · intro v hv
    cases hv
  · intro v r hv hr x hx
    rcases List.mem_cons.1 hx with rfl | hx
    · exact hv
    · exact hr x hx
  · intro m hm
    cases hm
  · intro m r hm hr x hx
    rcases List.mem_cons.1 hx with rfl | hx
    · exact hm
    · exact hr x hx
  · intro k v hv
    exact hv

theorem HoldsL.of_keep {w w' : World} {B : Nat} (hk : ∀ p : Addr, p.block < B → w'.cell? p = w.cell? p) :
    ∀ (l : List Val), (∀ v ∈ l, ∀ cs, HoldsV w B v cs → HoldsV w' B v cs) → ∀ g off, g < B → HoldsL w B l g off → HoldsL w' B l g off
  | [], _, _, _, _, _ => by simp [HoldsL]
  | v :: r, ih, g, off, hg, h => by
    simp only [HoldsL] at h ⊢
    obtain ⟨⟨cs, hv, hc⟩, hr⟩ := h
    exact ⟨⟨cs, ih v (by simp) cs hv, fun j u hu => (hk _ hg).trans (hc j u hu)⟩, HoldsL.of_keep hk r (fun x hx => ih x (by simp [hx])) g _ hg hr⟩
theorem HoldsO.of_keep {w w' : World} {B : Nat} (hk : ∀ p : Addr, p.block < B → w'.cell? p = w.cell? p) :
    ∀ (l : List (ByteArray × Val)), (∀ m ∈ l, ∀ cs, HoldsV w B m.2 cs → HoldsV w' B m.2 cs) → ∀ g off, g < B → HoldsO w B l g off → HoldsO w' B l g off
  | [], _, _, _, _, _ => by simp [HoldsO]
  | (key, v) :: r, ih, g, off, hg, h => by
    simp only [HoldsO, HoldsP] at h ⊢
    obtain ⟨⟨h0, cs, hv, hc⟩, hr⟩ := h
    exact ⟨⟨(hk _ hg).trans h0, cs, ih (key, v) (by simp) cs hv, fun j u hu => (hk _ hg).trans (hc j u hu)⟩, HoldsO.of_keep hk r (fun x hx => ih x (by simp [hx])) g _ hg hr⟩

theorem HoldsV.keep {w w' : World} {B : Nat} (hk : ∀ p : Addr, p.block < B → w'.cell? p = w.cell? p) : ∀ (v : Val) cs, HoldsV w B v cs → HoldsV w' B v cs := by
  refine Val.ind ?_
  intro k b n t l o hl ho cs h
  simp only [HoldsV] at h ⊢
  obtain ⟨la, lc, oa, oc, hcs, h1, h2⟩ := h
  refine ⟨la, lc, oa, oc, hcs, ?_, ?_⟩
  · rcases h1 with h1 | ⟨g, off, ha, hg, h1⟩
    · exact .inl h1
    · exact .inr ⟨g, off, ha, hg, HoldsL.of_keep hk l hl g off hg h1⟩
  · rcases h2 with h2 | ⟨g, off, ha, hg, h2⟩
    · exact .inl h2
    · exact .inr ⟨g, off, ha, hg, HoldsO.of_keep hk o ho g off hg h2⟩
theorem HoldsV.below {w w' : World} {B : Nat} {v : Val} {cs : List Value} (h : HoldsV w B v cs) (hb : Below B w w') : HoldsV w' B v cs := HoldsV.keep (fun _ hp => hb.cell hp) v cs h
theorem HoldsL.keep {w w' : World} {B : Nat} (hk : ∀ p : Addr, p.block < B → w'.cell? p = w.cell? p) {l : List Val} {g off : Nat} (hg : g < B) (h : HoldsL w B l g off) : HoldsL w' B l g off :=
  HoldsL.of_keep hk l (fun v _ => HoldsV.keep hk v) g off hg h
theorem HoldsO.keep {w w' : World} {B : Nat} (hk : ∀ p : Addr, p.block < B → w'.cell? p = w.cell? p) {l : List (ByteArray × Val)} {g off : Nat} (hg : g < B) (h : HoldsO w B l g off) : HoldsO w' B l g off :=
  HoldsO.of_keep hk l (fun m _ => HoldsV.keep hk m.2) g off hg h
theorem HoldsL.below {w w' : World} {B : Nat} {l : List Val} {g off : Nat} (hg : g < B) (h : HoldsL w B l g off) (hb : Below B w w') : HoldsL w' B l g off := HoldsL.keep (fun _ hp => hb.cell hp) hg h
theorem HoldsO.below {w w' : World} {B : Nat} {l : List (ByteArray × Val)} {g off : Nat} (hg : g < B) (h : HoldsO w B l g off) (hb : Below B w w') : HoldsO w' B l g off := HoldsO.keep (fun _ hp => hb.cell hp) hg h

theorem HoldsL.of_more {w : World} {B B' : Nat} : ∀ (l : List Val), (∀ v ∈ l, ∀ cs, HoldsV w B v cs → HoldsV w B' v cs) → ∀ g off, HoldsL w B l g off → HoldsL w B' l g off
  | [], _, _, _, _ => by simp [HoldsL]
  | v :: r, ih, g, off, h => by
    simp only [HoldsL] at h ⊢
    obtain ⟨⟨cs, hv, hc⟩, hr⟩ := h
    exact ⟨⟨cs, ih v (by simp) cs hv, hc⟩, HoldsL.of_more r (fun x hx => ih x (by simp [hx])) g _ hr⟩
theorem HoldsO.of_more {w : World} {B B' : Nat} : ∀ (l : List (ByteArray × Val)), (∀ m ∈ l, ∀ cs, HoldsV w B m.2 cs → HoldsV w B' m.2 cs) → ∀ g off, HoldsO w B l g off → HoldsO w B' l g off
  | [], _, _, _, _ => by simp [HoldsO]
  | (key, v) :: r, ih, g, off, h => by
    simp only [HoldsO, HoldsP] at h ⊢
    obtain ⟨⟨h0, cs, hv, hc⟩, hr⟩ := h
    exact ⟨⟨h0, cs, ih (key, v) (by simp) cs hv, hc⟩, HoldsO.of_more r (fun x hx => ih x (by simp [hx])) g _ hr⟩
theorem HoldsV.more {w : World} {B B' : Nat} (hB : B ≤ B') : ∀ (v : Val) cs, HoldsV w B v cs → HoldsV w B' v cs := by
  refine Val.ind ?_
  intro k b n t l o hl ho cs h
  simp only [HoldsV] at h ⊢
  obtain ⟨la, lc, oa, oc, hcs, h1, h2⟩ := h
  refine ⟨la, lc, oa, oc, hcs, ?_, ?_⟩
  · rcases h1 with h1 | ⟨g, off, ha, hg, h1⟩
    · exact .inl h1
    · exact .inr ⟨g, off, ha, by omega, HoldsL.of_more l hl g off h1⟩
  · rcases h2 with h2 | ⟨g, off, ha, hg, h2⟩
    · exact .inl h2
    · exact .inr ⟨g, off, ha, by omega, HoldsO.of_more o ho g off h2⟩

/-- The k-th value of a list: its cells, one by one. -/
theorem HoldsL.at_ {w : World} {B : Nat} : ∀ {l : List Val} {g off : Nat}, HoldsL w B l g off → ∀ {i : Nat} {v : Val}, l[i]? = some v →
    ∃ cs, HoldsV w B v cs ∧ ∀ j u, cs[j]? = some u → w.cell? ⟨g, off + i * 6 + j, none⟩ = some u
  | [], _, _, _, i, v, hi => by simp at hi
  | x :: r, g, off, h, 0, v, hi => by
    simp only [HoldsL] at h
    obtain ⟨h, _⟩ := h
    simp at hi
    subst hi
    simpa using h
  | x :: r, g, off, h, i + 1, v, hi => by
    simp only [HoldsL] at h
    obtain ⟨cs, hv, hc⟩ := HoldsL.at_ h.2 (i := i) (v := v) (by simpa using hi)
    exact ⟨cs, hv, fun j u hu => by rw [show off + (i + 1) * 6 + j = off + 6 + i * 6 + j from by omega]; exact hc j u hu⟩
theorem HoldsO.at_ {w : World} {B : Nat} : ∀ {l : List (ByteArray × Val)} {g off : Nat}, HoldsO w B l g off → ∀ {i : Nat} {m : ByteArray × Val}, l[i]? = some m →
    w.cell? ⟨g, off + i * 7, none⟩ = some (.string m.1) ∧ ∃ cs, HoldsV w B m.2 cs ∧ ∀ j u, cs[j]? = some u → w.cell? ⟨g, off + i * 7 + 1 + j, none⟩ = some u
  | [], _, _, _, i, v, hi => by simp at hi
  | x :: r, g, off, h, 0, v, hi => by
    simp only [HoldsO] at h
    obtain ⟨h, _⟩ := h
    simp at hi
    subst hi
    obtain ⟨key, v⟩ := x
    simpa only [HoldsP, Nat.zero_mul, Nat.add_zero] using h
  | x :: r, g, off, h, i + 1, m, hi => by
    simp only [HoldsO] at h
    obtain ⟨h0, cs, hv, hc⟩ := HoldsO.at_ h.2 (i := i) (m := m) (by simpa using hi)
    exact ⟨by rw [show off + (i + 1) * 7 = off + 7 + i * 7 from by omega]; exact h0, cs, hv, fun j u hu => by rw [show off + (i + 1) * 7 + 1 + j = off + 7 + i * 7 + 1 + j from by omega]; exact hc j u hu⟩

/-- The k-th value of a list, cell by cell. -/
theorem HoldsL.six {w : World} {B : Nat} {l : List Val} {g off : Nat} (h : HoldsL w B l g off) {i : Nat} {k : Int} {b : Bool} {n : Int} {t : ByteArray} {l' : List Val} {o' : List (ByteArray × Val)} (hi : l[i]? = some (.mk k b n t l' o')) :
    ∃ la lc oa oc, HoldsV w B (.mk k b n t l' o') (cells6 k b n t la l'.length lc oa o'.length oc) ∧ w.cell? ⟨g, off + i * 6, none⟩ = some (.int .i64 k) ∧ w.cell? ⟨g, off + i * 6 + 1, none⟩ = some (.bool b) ∧
      w.cell? ⟨g, off + i * 6 + 2, none⟩ = some (.int .i64 n) ∧ w.cell? ⟨g, off + i * 6 + 3, none⟩ = some (.string t) ∧ w.cell? ⟨g, off + i * 6 + 4, none⟩ = some (.slice la l'.length lc) ∧
      w.cell? ⟨g, off + i * 6 + 5, none⟩ = some (.slice oa o'.length oc) := by
  obtain ⟨cs, hv, hc⟩ := h.at_ hi
  have hv' := hv
  simp only [HoldsV] at hv'
  obtain ⟨la, lc, oa, oc, rfl, _, _⟩ := hv'
  exact ⟨la, lc, oa, oc, hv, hc 0 _ rfl, hc 1 _ rfl, hc 2 _ rfl, hc 3 _ rfl, hc 4 _ rfl, hc 5 _ rfl⟩
theorem HoldsO.seven {w : World} {B : Nat} {l : List (ByteArray × Val)} {g off : Nat} (h : HoldsO w B l g off) {i : Nat} {key : ByteArray} {k : Int} {b : Bool} {n : Int} {t : ByteArray} {l' : List Val} {o' : List (ByteArray × Val)} (hi : l[i]? = some (key, .mk k b n t l' o')) :
    ∃ la lc oa oc, HoldsV w B (.mk k b n t l' o') (cells6 k b n t la l'.length lc oa o'.length oc) ∧ w.cell? ⟨g, off + i * 7, none⟩ = some (.string key) ∧ w.cell? ⟨g, off + i * 7 + 1, none⟩ = some (.int .i64 k) ∧ w.cell? ⟨g, off + i * 7 + 2, none⟩ = some (.bool b) ∧
      w.cell? ⟨g, off + i * 7 + 3, none⟩ = some (.int .i64 n) ∧ w.cell? ⟨g, off + i * 7 + 4, none⟩ = some (.string t) ∧ w.cell? ⟨g, off + i * 7 + 5, none⟩ = some (.slice la l'.length lc) ∧
      w.cell? ⟨g, off + i * 7 + 6, none⟩ = some (.slice oa o'.length oc) := by
  obtain ⟨h0, cs, hv, hc⟩ := h.at_ hi
  have hv' := hv
  simp only [HoldsV] at hv'
  obtain ⟨la, lc, oa, oc, rfl, _, _⟩ := hv'
  exact ⟨la, lc, oa, oc, hv, h0, hc 0 _ rfl, hc 1 _ rfl, hc 2 _ rfl, hc 3 _ rfl, hc 4 _ rfl, hc 5 _ rfl⟩

theorem bulkL_mem {l : List Val} {v : Val} (h : v ∈ l) : v.bulk ≤ bulkL l := by
  induction l with
  | nil => cases h
  | cons x r ih =>
    simp only [bulkL]
    rcases List.mem_cons.1 h with rfl | h
    · omega
    · have := ih h; omega
theorem bulkO_mem {l : List (ByteArray × Val)} {m : ByteArray × Val} (h : m ∈ l) : 1 + m.1.size + m.2.bulk ≤ bulkO l := by
  induction l with
  | nil => cases h
  | cons x r ih =>
    obtain ⟨k, v⟩ := x
    simp only [bulkO, bulkP]
    rcases List.mem_cons.1 h with rfl | h
    · simp only; omega
    · have := ih h; omega
theorem Val.bulk_pos (v : Val) : 6 ≤ v.bulk := by
  obtain ⟨k, b, n, t, l, o⟩ := v
  simp only [Val.bulk]; omega
theorem bulkL_len (l : List Val) : 6 * l.length ≤ bulkL l := by
  induction l with
  | nil => simp [bulkL]
  | cons x r ih => simp only [bulkL, List.length_cons]; have := x.bulk_pos; omega
theorem bulkO_len (l : List (ByteArray × Val)) : 7 * l.length ≤ bulkO l := by
  induction l with
  | nil => simp [bulkO]
  | cons x r ih => obtain ⟨k, v⟩ := x; simp only [bulkO, bulkP, List.length_cons]; have := v.bulk_pos; omega

mutual
/-- All its Ints are of 64 bits. -/
def inV : Val → Prop
  | .mk _ _ n _ l o => (-9223372036854775808 ≤ n ∧ n ≤ 9223372036854775807) ∧ inL l ∧ inO o
def inL : List Val → Prop
  | [] => True
  | v :: r => inV v ∧ inL r
def inO : List (ByteArray × Val) → Prop
  | [] => True
  | p :: r => inP p ∧ inO r
def inP : ByteArray × Val → Prop
  | (_, v) => inV v
end

end Go.Proofs.YtjjbbnodmpemiaaGreatDoor

/- Rows of values, cell by cell. No condition. -/
namespace Go.Proofs.YtjjbbnodmpemiaaGreatDoor
open Go.RowKit

/-- These cells are those of these values, one behind the other. -/
def RowL (w : World) (B : Nat) : List Val → List Value → Prop
  | [], ns => ns = []
  | v :: r, ns => ∃ cs rest, ns = cs ++ rest ∧ HoldsV w B v cs ∧ RowL w B r rest

theorem HoldsV.len {w : World} {B : Nat} {v : Val} {cs : List Value} (h : HoldsV w B v cs) : cs.length = 6 ∧ ∀ u ∈ cs, u.oneCell' = true := by
  obtain ⟨k, b, n, t, l, o⟩ := v
  simp only [HoldsV] at h
  obtain ⟨la, lc, oa, oc, rfl, _, _⟩ := h
  refine ⟨rfl, fun u hu => ?_⟩
  simp only [List.mem_cons, List.not_mem_nil, or_false] at hu
  rcases hu with rfl | rfl | rfl | rfl | rfl | rfl <;> rfl
theorem RowL.len {w : World} {B : Nat} : ∀ {l : List Val} {ns : List Value}, RowL w B l ns → ns.length = l.length * 6 ∧ ∀ u ∈ ns, u.oneCell' = true
  | [], ns, h => by
    have : ns = [] := h
    subst this
    exact ⟨rfl, fun u hu => by cases hu⟩
  | v :: r, ns, h => by
    obtain ⟨cs, rest, rfl, h1, h2⟩ := h
    obtain ⟨a1, a2⟩ := h1.len
    obtain ⟨b1, b2⟩ := RowL.len h2
    refine ⟨by rw [List.length_append, a1, b1, List.length_cons]; omega, fun u hu => ?_⟩
    rcases List.mem_append.1 hu with hu | hu
    · exact a2 u hu
    · exact b2 u hu
theorem HoldsL.row {w : World} {B : Nat} : ∀ {l : List Val} {g off : Nat}, HoldsL w B l g off → ∃ ns, RowL w B l ns ∧ ∀ j u, ns[j]? = some u → w.cell? ⟨g, off + j, none⟩ = some u
  | [], _, _, _ => ⟨[], rfl, fun j u h => by simp at h⟩
  | v :: r, g, off, h => by
    simp only [HoldsL] at h
    obtain ⟨⟨cs, h1, h2⟩, h3⟩ := h
    obtain ⟨ns, h4, h5⟩ := HoldsL.row h3
    refine ⟨cs ++ ns, ⟨cs, ns, rfl, h1, h4⟩, fun j u hu => ?_⟩
    have hl := h1.len.1
    by_cases hj : j < 6
    · rw [List.getElem?_append_left (by omega)] at hu
      exact h2 j u hu
    · rw [List.getElem?_append_right (by omega), hl] at hu
      have := h5 (j - 6) u hu
      rwa [show off + 6 + (j - 6) = off + j from by omega] at this
theorem RowL.holds {w w' : World} {B B' : Nat} (hk : ∀ v cs, HoldsV w B v cs → HoldsV w' B' v cs) {g : Nat} : ∀ {l : List Val} {ns : List Value} {off : Nat}, RowL w B l ns → (∀ j u, ns[j]? = some u → w'.cell? ⟨g, off + j, none⟩ = some u) → HoldsL w' B' l g off
  | [], _, _, _, _ => by simp [HoldsL]
  | v :: r, ns, off, h, hc => by
    obtain ⟨cs, rest, rfl, h1, h2⟩ := h
    have hl := h1.len.1
    simp only [HoldsL]
    refine ⟨⟨cs, hk v cs h1, fun j u hu => hc j u ?_⟩, RowL.holds hk h2 (fun j u hu => ?_)⟩
    · have := (List.getElem?_eq_some_iff.1 hu).1
      rw [List.getElem?_append_left this]
      exact hu
    · rw [show off + 6 + j = off + (6 + j) from by omega]
      refine hc (6 + j) u ?_
      rw [List.getElem?_append_right (by omega), hl, show 6 + j - 6 = j from by omega]
      exact hu
theorem RowL.snoc {w : World} {B : Nat} {v : Val} {cs : List Value} (hv : HoldsV w B v cs) : ∀ {l : List Val} {ns : List Value}, RowL w B l ns → RowL w B (l ++ [v]) (ns ++ cs)
  | [], ns, h => by
    have : ns = [] := h
    subst this
    exact ⟨cs, [], by simp, hv, rfl⟩
  | x :: r, ns, h => by
    obtain ⟨c1, rest, rfl, h1, h2⟩ := h
    exact ⟨c1, rest ++ cs, by simp, h1, RowL.snoc hv h2⟩

/-- The values at once within one. -/
def within : Val → List Val
  | .mk k _ _ _ l o => if k = 5 then l else if k = 6 then o.map (·.2) else []

end Go.Proofs.YtjjbbnodmpemiaaGreatDoor

/- commonplaceref02.Copy: what its contract says; rows of members. Plain. No condition. -/
namespace Go.Proofs.YtjjbbnodmpemiaaGreatDoor
open Go.RowKit

theorem six_vals {cs : List Value} (h : cs.length = 6) : ∃ c0 c1 c2 c3 c4 c5, cs = [c0, c1, c2, c3, c4, c5] := by
  match cs, h with
  | [c0, c1, c2, c3, c4, c5], _ => exact ⟨_, _, _, _, _, _, rfl⟩

/-- These cells hold this value whatever becomes of the blocks that were there before. -/
def FreshV (w w' : World) (v : Val) (cs : List Value) : Prop := ∀ w'' : World, w'.heap.size ≤ w''.heap.size → (∀ p : Addr, w.heap.size ≤ p.block → p.block < w'.heap.size → w''.cell? p = w'.cell? p) → HoldsV w'' w'.heap.size v cs
/-- What Copy does with a value. -/
def CopyC (v : Val) : Prop := ∀ (cs : List Value) (w : World), HoldsV w w.heap.size v cs → v.bulk ≤ 100000000 →
    Calls Tryz.prog 23 #[.agg cs.toArray] w fun e w' => (∃ cs', e = .returned (.agg (cs' : List Value).toArray) ∧ cs'.length = 6 ∧ FreshV w w' v cs') ∧ Below w.heap.size w w'

theorem RowL.more {w : World} {B B' : Nat} (h : B ≤ B') : ∀ {l : List Val} {ns : List Value}, RowL w B l ns → RowL w B' l ns
  | [], _, e => e
  | _ :: _, _, ⟨cs, rest, e, h1, h2⟩ => ⟨cs, rest, e, HoldsV.more h _ _ h1, RowL.more h h2⟩

theorem one_key (key : ByteArray) {cs : List Value} (h : ∀ u ∈ cs, u.oneCell' = true) : ∀ u ∈ Value.string key :: cs, u.oneCell' = true := by
  intro u hu
  rcases List.mem_cons.1 hu with rfl | hu
  · rfl
  · exact h u hu

theorem box_cells2 {w : World} {g : Nat} {a0 a1 a2 a3 a4 a5 : Value} (h : w.heap[g]? = some (.cells #[a0, a1, a2, a3, a4, a5] 45 (0, 0))) :
    w.cell? ⟨g, 0, none⟩ = some a0 ∧ w.cell? ⟨g, 1, none⟩ = some a1 ∧ w.cell? ⟨g, 2, none⟩ = some a2 ∧ w.cell? ⟨g, 3, none⟩ = some a3 ∧ w.cell? ⟨g, 4, none⟩ = some a4 ∧ w.cell? ⟨g, 5, none⟩ = some a5 := by
  refine ⟨?_, ?_, ?_, ?_, ?_, ?_⟩ <;> (rw [Lib.cell_of_heap h]; rfl)

/-- The same of members. -/
def RowO (w : World) (B : Nat) : List (ByteArray × Val) → List Value → Prop
  | [], ns => ns = []
  | (key, v) :: r, ns => ∃ cs rest, ns = .string key :: (cs ++ rest) ∧ HoldsV w B v cs ∧ RowO w B r rest
theorem RowO.more {w : World} {B B' : Nat} (h : B ≤ B') : ∀ {l : List (ByteArray × Val)} {ns : List Value}, RowO w B l ns → RowO w B' l ns
  | [], _, e => e
  | (_, _) :: _, _, ⟨cs, rest, e, h1, h2⟩ => ⟨cs, rest, e, HoldsV.more h _ _ h1, RowO.more h h2⟩
theorem RowO.holds {w : World} {B : Nat} {g : Nat} : ∀ {l : List (ByteArray × Val)} {ns : List Value} {off : Nat}, RowO w B l ns → (∀ j u, ns[j]? = some u → w.cell? ⟨g, off + j, none⟩ = some u) → HoldsO w B l g off
  | [], _, _, _, _ => by simp [HoldsO]
  | (key, v) :: r, ns, off, h, hc => by
    obtain ⟨cs, rest, rfl, h1, h2⟩ := h
    have hl := h1.len.1
    simp only [HoldsO, HoldsP]
    refine ⟨⟨hc 0 _ rfl, cs, h1, fun j u hu => ?_⟩, RowO.holds h2 (fun j u hu => ?_)⟩
    · have h3 := (List.getElem?_eq_some_iff.1 hu).1
      rw [show off + 1 + j = off + (j + 1) from by omega]
      refine hc (j + 1) u ?_
      rw [List.getElem?_cons_succ, List.getElem?_append_left h3]
      exact hu
    · rw [show off + 7 + j = off + (6 + j + 1) from by omega]
      refine hc (6 + j + 1) u ?_
      rw [List.getElem?_cons_succ, List.getElem?_append_right (by omega), hl, show 6 + j - 6 = j from by omega]
      exact hu
theorem RowO.snoc {w : World} {B : Nat} {key : ByteArray} {v : Val} {cs : List Value} (hv : HoldsV w B v cs) : ∀ {l : List (ByteArray × Val)} {ns : List Value}, RowO w B l ns → RowO w B (l ++ [(key, v)]) (ns ++ (.string key :: cs))
  | [], ns, h => by
    have : ns = [] := h
    subst this
    exact ⟨cs, [], by simp, hv, rfl⟩
  | (k', x) :: r, ns, h => by
    obtain ⟨c1, rest, rfl, h1, h2⟩ := h
    exact ⟨c1, rest ++ (.string key :: cs), by simp, h1, RowO.snoc hv h2⟩
theorem info_val : (Tryz.prog.info? 45).map (fun i => (i.zero, i.size, i.bytes)) = some (some (.agg #[.int .i64 0, .bool false, .int .i64 0, .string ⟨#[]⟩, .slice none 0 0, .slice none 0 0]), 6, 88) := by kernel_rfl
theorem info_mem : (Tryz.prog.info? 60).map (fun i => (i.zero, i.size, i.bytes)) = some (some (.agg #[.string ⟨#[]⟩, .int .i64 0, .bool false, .int .i64 0, .string ⟨#[]⟩, .slice none 0 0, .slice none 0 0]), 7, 104) := by kernel_rfl

theorem setCell_far (w : World) (b i : Nat) (V : Value) {c : Nat} (h : c ≠ b) : (w.setCell ⟨b, i, none⟩ V).heap[c]? = w.heap[c]? := by
  simp only [World.setCell, Array.getElem?_modify]
  rw [if_neg (fun e => h e.symm)]


end Go.Proofs.YtjjbbnodmpemiaaGreatDoor

/- Values as data of any make. Plain. No condition. -/
namespace Go.Proofs.YtjjbbnodmpemiaaGreatDoor
open Go.RowKit

mutual
def dV : Val → D
  | .mk k b n t l o => .agg [.leaf (.int .i64 k), .leaf (.bool b), .leaf (.int .i64 n), .leaf (.string t), .row 6 (dL l), .row 7 (dO o)]
def dL : List Val → List D
  | [] => []
  | v :: r => dV v :: dL r
def dO : List (ByteArray × Val) → List D
  | [] => []
  | p :: r => dP p :: dO r
def dP : ByteArray × Val → D
  | (key, v) => .agg [.leaf (.string key), dV v]
end

theorem dL_map : ∀ l, dL l = l.map dV
  | [] => rfl
  | v :: r => by simp [dL, dL_map r]
theorem dO_map : ∀ l, dO l = l.map dP
  | [] => rfl
  | v :: r => by simp [dO, dO_map r]
theorem dV_cells (v : Val) : (dV v).cells = 6 := by
  obtain ⟨k, b, n, t, l, o⟩ := v
  rfl
theorem dP_cells (p : ByteArray × Val) : (dP p).cells = 7 := by
  obtain ⟨k, v⟩ := p
  simp only [dP, D.cells, cellsA, dV_cells]
theorem dL_cells (l : List Val) : ∀ d ∈ dL l, d.cells = 6 := by
  rw [dL_map]
  intro d hd
  obtain ⟨v, _, rfl⟩ := List.mem_map.1 hd
  exact dV_cells v
theorem dO_cells (l : List (ByteArray × Val)) : ∀ d ∈ dO l, d.cells = 7 := by
  rw [dO_map]
  intro d hd
  obtain ⟨v, _, rfl⟩ := List.mem_map.1 hd
  exact dP_cells v
theorem dL_len (l : List Val) : (dL l).length = l.length := by rw [dL_map, List.length_map]
theorem dO_len (l : List (ByteArray × Val)) : (dO l).length = l.length := by rw [dO_map, List.length_map]

theorem HoldsA.six {w : World} {B : Nat} {a b c d : Value} {e f : D} {cs : List Value} :
    HoldsA w B [.leaf a, .leaf b, .leaf c, .leaf d, e, f] cs ↔ ∃ c4 c5, cs = [a, b, c, d] ++ (c4 ++ c5) ∧ a.oneCell' = true ∧ b.oneCell' = true ∧ c.oneCell' = true ∧ d.oneCell' = true ∧ Holds w B e c4 ∧ Holds w B f c5 := by
  constructor
  · rintro ⟨_, _, rfl, ⟨rfl, ha⟩, _, _, rfl, ⟨rfl, hb⟩, _, _, rfl, ⟨rfl, hc⟩, _, _, rfl, ⟨rfl, hd⟩, c4, _, rfl, h4, c5, _, rfl, h5, rfl⟩
    exact ⟨c4, c5, by simp, ha, hb, hc, hd, h4, h5⟩
  · rintro ⟨c4, c5, rfl, ha, hb, hc, hd, h4, h5⟩
    exact ⟨[a], _, rfl, ⟨rfl, ha⟩, [b], _, rfl, ⟨rfl, hb⟩, [c], _, rfl, ⟨rfl, hc⟩, [d], _, rfl, ⟨rfl, hd⟩, c4, _, rfl, h4, c5, [], by simp, h5, rfl⟩

theorem HoldsA.toL {w : World} {B : Nat} {g : Nat} : ∀ {l : List Val}, (∀ v ∈ l, ∀ cs, Holds w B (dV v) cs → HoldsV w B v cs) → ∀ {ns : List Value} {off : Nat}, HoldsA w B (dL l) ns → (∀ j u, ns[j]? = some u → w.cell? ⟨g, off + j, none⟩ = some u) → HoldsL w B l g off
  | [], _, _, _, _, _ => by simp [HoldsL]
  | v :: r, ih, ns, off, h, hc => by
    obtain ⟨c1, c2, rfl, h1, h2⟩ := h
    have hl : c1.length = 6 := h1.len.1.trans (dV_cells v)
    simp only [HoldsL]
    refine ⟨⟨c1, ih v (by simp) c1 h1, fun j u hu => hc j u (by rw [List.getElem?_append_left (List.getElem?_eq_some_iff.1 hu).1]; exact hu)⟩, HoldsA.toL (fun x hx => ih x (by simp [hx])) h2 (fun j u hu => ?_)⟩
    rw [show off + 6 + j = off + (6 + j) from by omega]
    refine hc (6 + j) u ?_
    rw [List.getElem?_append_right (by omega), hl, show 6 + j - 6 = j from by omega]
    exact hu
theorem HoldsA.toO {w : World} {B : Nat} {g : Nat} : ∀ {l : List (ByteArray × Val)}, (∀ m ∈ l, ∀ cs, Holds w B (dV m.2) cs → HoldsV w B m.2 cs) → ∀ {ns : List Value} {off : Nat}, HoldsA w B (dO l) ns → (∀ j u, ns[j]? = some u → w.cell? ⟨g, off + j, none⟩ = some u) → HoldsO w B l g off
  | [], _, _, _, _, _ => by simp [HoldsO]
  | (key, v) :: r, ih, ns, off, h, hc => by
    obtain ⟨c1, c2, rfl, h1, h2⟩ := h
    obtain ⟨_, c3, rfl, ⟨rfl, _⟩, cv, c4, rfl, h3, rfl⟩ := h1
    have hl : cv.length = 6 := h3.len.1.trans (dV_cells v)
    simp only [HoldsO, HoldsP]
    refine ⟨⟨by have := hc 0 (.string key) rfl; simpa using this, cv, ih (key, v) (by simp) cv h3, fun j u hu => ?_⟩, HoldsA.toO (fun x hx => ih x (by simp [hx])) h2 (fun j u hu => ?_)⟩
    · have h5 := (List.getElem?_eq_some_iff.1 hu).1
      rw [show off + 1 + j = off + (j + 1) from by omega]
      refine hc (j + 1) u ?_
      simp only [List.append_nil, List.cons_append, List.nil_append, List.getElem?_cons_succ]
      rw [List.getElem?_append_left h5]; exact hu
    · rw [show off + 7 + j = off + (6 + j + 1) from by omega]
      refine hc (6 + j + 1) u ?_
      simp only [List.append_nil, List.cons_append, List.nil_append, List.getElem?_cons_succ]
      rw [List.getElem?_append_right (by omega), hl, show 6 + j - 6 = j from by omega]
      exact hu
theorem holdsV_of {w : World} {B : Nat} : ∀ (v : Val) cs, Holds w B (dV v) cs → HoldsV w B v cs := by
  refine Val.ind ?_
  intro k b n t l o hl ho cs h
  simp only [dV, Holds] at h
  obtain ⟨c4, c5, rfl, _, _, _, _, ⟨a4, n4, rfl, _, ns4, h4, i4⟩, ⟨a5, n5, rfl, _, ns5, h5, i5⟩⟩ := HoldsA.six.1 h
  simp only [HoldsV]
  refine ⟨a4, n4, a5, n5, by simp [cells6, dL_len, dO_len], ?_, ?_⟩
  · rcases i4 with e | ⟨g, off, e, hg, hc⟩
    · refine .inl ?_
      cases l with
      | nil => rfl
      | cons x r => simp [dL] at e
    · exact .inr ⟨g, off, e, hg, HoldsA.toL hl h4 hc⟩
  · rcases i5 with e | ⟨g, off, e, hg, hc⟩
    · refine .inl ?_
      cases o with
      | nil => rfl
      | cons x r => simp [dO] at e
    · exact .inr ⟨g, off, e, hg, HoldsA.toO ho h5 hc⟩

theorem HoldsA.ofL {w : World} {B : Nat} {g : Nat} : ∀ {l : List Val}, (∀ v ∈ l, ∀ cs, HoldsV w B v cs → Holds w B (dV v) cs) → ∀ {off : Nat}, HoldsL w B l g off → ∃ ns, HoldsA w B (dL l) ns ∧ ∀ j u, ns[j]? = some u → w.cell? ⟨g, off + j, none⟩ = some u
  | [], _, _, _ => ⟨[], rfl, fun j u h => by simp at h⟩
  | v :: r, ih, off, h => by
    simp only [HoldsL] at h
    obtain ⟨⟨cs, h1, hc⟩, h2⟩ := h
    have h1' := ih v (by simp) cs h1
    have hl : cs.length = 6 := h1'.len.1.trans (dV_cells v)
    obtain ⟨ns, h3, h4⟩ := HoldsA.ofL (fun x hx => ih x (by simp [hx])) h2
    refine ⟨cs ++ ns, ⟨cs, ns, rfl, h1', h3⟩, fun j u hu => ?_⟩
    by_cases hj : j < 6
    · rw [List.getElem?_append_left (by omega)] at hu
      exact hc j u hu
    · rw [List.getElem?_append_right (by omega), hl] at hu
      have := h4 (j - 6) u hu
      rwa [show off + 6 + (j - 6) = off + j from by omega] at this
theorem HoldsA.ofO {w : World} {B : Nat} {g : Nat} : ∀ {l : List (ByteArray × Val)}, (∀ m ∈ l, ∀ cs, HoldsV w B m.2 cs → Holds w B (dV m.2) cs) → ∀ {off : Nat}, HoldsO w B l g off → ∃ ns, HoldsA w B (dO l) ns ∧ ∀ j u, ns[j]? = some u → w.cell? ⟨g, off + j, none⟩ = some u
  | [], _, _, _ => ⟨[], rfl, fun j u h => by simp at h⟩
  | (key, v) :: r, ih, off, h => by
    simp only [HoldsO, HoldsP] at h
    obtain ⟨⟨h0, cs, h1, hc⟩, h2⟩ := h
    have h1' := ih (key, v) (by simp) cs h1
    have hl : cs.length = 6 := h1'.len.1.trans (dV_cells v)
    obtain ⟨ns, h3, h4⟩ := HoldsA.ofO (fun x hx => ih x (by simp [hx])) h2
    refine ⟨(.string key :: cs) ++ ns, ⟨.string key :: cs, ns, rfl, ⟨[.string key], cs, rfl, ⟨rfl, rfl⟩, cs, [], by simp, h1', rfl⟩, h3⟩, fun j u hu => ?_⟩
    match j, hu with
    | 0, hu =>
      simp at hu
      subst hu
      exact h0
    | j + 1, hu =>
      simp only [List.cons_append, List.getElem?_cons_succ] at hu
      by_cases hj : j < 6
      · rw [List.getElem?_append_left (by omega)] at hu
        have := hc j u hu
        rwa [show off + 1 + j = off + (j + 1) from by omega] at this
      · rw [List.getElem?_append_right (by omega), hl] at hu
        have := h4 (j - 6) u hu
        rwa [show off + 7 + (j - 6) = off + (j + 1) from by omega] at this
theorem holds_of_V {w : World} {B : Nat} : ∀ (v : Val) cs, HoldsV w B v cs → Holds w B (dV v) cs := by
  refine Val.ind ?_
  intro k b n t l o hl ho cs h
  simp only [HoldsV] at h
  obtain ⟨la, lc, oa, oc, rfl, h1, h2⟩ := h
  simp only [dV, Holds]
  refine HoldsA.six.2 ⟨[.slice la l.length lc], [.slice oa o.length oc], rfl, rfl, rfl, rfl, rfl, ?_, ?_⟩
  · rcases h1 with rfl | ⟨g, off, e, hg, h1⟩
    · exact ⟨la, lc, rfl, dL_cells _, [], rfl, .inl rfl⟩
    · obtain ⟨ns, h3, h4⟩ := HoldsA.ofL hl h1
      exact ⟨la, lc, by rw [dL_len], dL_cells _, ns, h3, .inr ⟨g, off, e, hg, h4⟩⟩
  · rcases h2 with rfl | ⟨g, off, e, hg, h2⟩
    · exact ⟨oa, oc, rfl, dO_cells _, [], rfl, .inl rfl⟩
    · obtain ⟨ns, h3, h4⟩ := HoldsA.ofO ho h2
      exact ⟨oa, oc, by rw [dO_len], dO_cells _, ns, h3, .inr ⟨g, off, e, hg, h4⟩⟩
theorem fresh_of_V {w w' : World} {v : Val} {cs : List Value} (h : FreshV w w' v cs) : Fresh w.heap.size w' (dV v) cs := fun w'' h1 h2 => holds_of_V v cs (h w'' h1 h2)
theorem freshV_of {w w' : World} {v : Val} {cs : List Value} (h : Fresh w.heap.size w' (dV v) cs) : FreshV w w' v cs := fun w'' h1 h2 => holdsV_of v cs (h w'' h1 h2)
end Go.Proofs.YtjjbbnodmpemiaaGreatDoor

/- Rows of members, joined and parted. Plain. No condition. -/
namespace Go.Proofs.YtjjbbnodmpemiaaGreatDoor
open Go.RowKit

theorem RowO.app {w : World} {B : Nat} : ∀ {a b : List (ByteArray × Val)} {ns ms : List Value}, RowO w B a ns → RowO w B b ms → RowO w B (a ++ b) (ns ++ ms)
  | [], b, ns, ms, h, h' => by
    have : ns = [] := h
    subst this
    exact h'
  | (k, v) :: r, b, ns, ms, ⟨cs, rest, e, h1, h2⟩, h' => by
    subst e
    exact ⟨cs, rest ++ ms, by simp, h1, RowO.app h2 h'⟩
theorem RowO.len {w : World} {B : Nat} : ∀ {l : List (ByteArray × Val)} {ns : List Value}, RowO w B l ns → ns.length = l.length * 7 ∧ ∀ u ∈ ns, u.oneCell' = true
  | [], ns, h => by
    have : ns = [] := h
    subst this
    exact ⟨rfl, fun u hu => by cases hu⟩
  | (k, v) :: r, ns, ⟨cs, rest, e, h1, h2⟩ => by
    subst e
    obtain ⟨a1, a2⟩ := h1.len
    obtain ⟨b1, b2⟩ := RowO.len h2
    refine ⟨by rw [List.length_cons, List.length_append, a1, b1, List.length_cons]; omega, fun u hu => ?_⟩
    rcases List.mem_cons.1 hu with rfl | hu
    · rfl
    rcases List.mem_append.1 hu with hu | hu
    · exact a2 u hu
    · exact b2 u hu
theorem RowO.split {w : World} {B : Nat} : ∀ {l : List (ByteArray × Val)} {ns : List Value} (k : Nat), RowO w B l ns → RowO w B (l.take k) (ns.take (k * 7)) ∧ RowO w B (l.drop k) (ns.drop (k * 7))
  | [], ns, k, h => by
    have : ns = [] := h
    subst this
    simp [RowO]
  | (key, v) :: r, ns, 0, h => by
    simp only [List.take_zero, Nat.zero_mul, List.drop_zero]
    exact ⟨rfl, h⟩
  | (key, v) :: r, ns, k + 1, ⟨cs, rest, e, h1, h2⟩ => by
    subst e
    obtain ⟨a, b⟩ := RowO.split k h2
    have hl := h1.len.1
    have e1 : (Value.string key :: (cs ++ rest)).take ((k + 1) * 7) = .string key :: (cs ++ rest.take (k * 7)) := by
      rw [show (k + 1) * 7 = (6 + k * 7) + 1 from by omega, List.take_succ_cons, List.take_append, hl, List.take_of_length_le (by omega), show 6 + k * 7 - 6 = k * 7 from by omega]
    have e2 : (Value.string key :: (cs ++ rest)).drop ((k + 1) * 7) = rest.drop (k * 7) := by
      rw [show (k + 1) * 7 = (6 + k * 7) + 1 from by omega, List.drop_succ_cons, List.drop_append, hl, List.drop_eq_nil_of_le (by omega), show 6 + k * 7 - 6 = k * 7 from by omega, List.nil_append]
    rw [e1, e2]
    exact ⟨⟨cs, rest.take (k * 7), rfl, h1, a⟩, b⟩
theorem bulkO_app : ∀ (a b : List (ByteArray × Val)), bulkO (a ++ b) = bulkO a + bulkO b
  | [], b => by simp [bulkO]
  | x :: r, b => by simp only [List.cons_append, bulkO, bulkO_app r b]; omega
theorem inO_app : ∀ {a b : List (ByteArray × Val)}, inO a → inO b → inO (a ++ b)
  | [], _, _, h => h
  | x :: r, b, h, h' => by
    simp only [List.cons_append, inO] at h ⊢
    exact ⟨h.1, inO_app h.2 h'⟩

end Go.Proofs.YtjjbbnodmpemiaaGreatDoor

/- What commonplaceref02.Object comes to: members put where they belong. Plain. No condition. -/
namespace Go.Proofs.YtjjbbnodmpemiaaGreatDoor
open Go.RowKit

def ltB (a b : ByteArray) : Bool := Op.bytesLess a.toList b.toList

/-- Where a key belongs: how many at the front have a less one. -/
def atO (k : ByteArray) : List (ByteArray × Val) → Nat
  | [] => 0
  | p :: r => if ltB p.1 k then atO k r + 1 else 0
/-- Is that key at its place already? -/
def hitO (k : ByteArray) (acc : List (ByteArray × Val)) : Bool := (acc[atO k acc]?).any fun p => p.1.toList == k.toList
def putO (m : ByteArray × Val) (acc : List (ByteArray × Val)) : List (ByteArray × Val) := acc.take (atO m.1 acc) ++ ([m] ++ acc.drop (atO m.1 acc))
/-- All members put, one behind the other; none where a key comes twice. -/
def objAll : List (ByteArray × Val) → List (ByteArray × Val) → Option (List (ByteArray × Val))
  | [], acc => some acc
  | m :: r, acc => if hitO m.1 acc then none else objAll r (putO m acc)

theorem atO_le (k : ByteArray) : ∀ acc, atO k acc ≤ acc.length
  | [] => Nat.zero_le _
  | p :: r => by
    have := atO_le k r
    simp only [atO, List.length_cons]
    split <;> omega
theorem atO_lt (k : ByteArray) : ∀ {acc : List (ByteArray × Val)} {j : Nat} {p : ByteArray × Val}, j < atO k acc → acc[j]? = some p → ltB p.1 k = true
  | [], j, p, h, hp => by simp at hp
  | q :: r, 0, p, h, hp => by
    simp only [atO] at h
    simp only [List.getElem?_cons_zero, Option.some.injEq] at hp
    subst hp
    by_cases hq : ltB q.1 k = true
    · exact hq
    · rw [if_neg hq] at h; omega
  | q :: r, j + 1, p, h, hp => by
    simp only [atO] at h
    by_cases hq : ltB q.1 k = true
    · rw [if_pos hq] at h
      exact atO_lt k (acc := r) (j := j) (by omega) (by simpa using hp)
    · rw [if_neg hq] at h; omega
theorem atO_at (k : ByteArray) : ∀ {acc : List (ByteArray × Val)} {p : ByteArray × Val}, acc[atO k acc]? = some p → ltB p.1 k = false
  | [], p, hp => by simp at hp
  | q :: r, p, hp => by
    by_cases hq : ltB q.1 k = true
    · simp only [atO, if_pos hq, List.getElem?_cons_succ] at hp
      exact atO_at k hp
    · simp only [atO, if_neg hq, List.getElem?_cons_zero, Option.some.injEq] at hp
      subst hp
      simpa using hq
theorem putO_len (m : ByteArray × Val) (acc : List (ByteArray × Val)) : (putO m acc).length = acc.length + 1 := by
  have := atO_le m.1 acc
  simp only [putO, List.length_append, List.length_take, List.length_drop, List.length_cons, List.length_nil]
  omega
theorem bulkO_put (m : ByteArray × Val) (acc : List (ByteArray × Val)) : bulkO (putO m acc) = bulkO acc + bulkP m := by
  have h := congrArg bulkO (List.take_append_drop (atO m.1 acc) acc)
  rw [bulkO_app] at h
  simp only [putO, bulkO_app, bulkO]
  omega
theorem inO_take : ∀ {l : List (ByteArray × Val)} (k : Nat), inO l → inO (l.take k)
  | [], k, _ => by simp [inO]
  | _ :: _, 0, _ => by simp [inO]
  | x :: r, k + 1, h => by
    simp only [List.take_succ_cons, inO] at h ⊢
    exact ⟨h.1, inO_take k h.2⟩
theorem inO_drop : ∀ {l : List (ByteArray × Val)} (k : Nat), inO l → inO (l.drop k)
  | [], k, _ => by simp [inO]
  | _ :: _, 0, h => h
  | x :: r, k + 1, h => by
    simp only [List.drop_succ_cons, inO] at h ⊢
    exact inO_drop k h.2
theorem inO_put {m : ByteArray × Val} {acc : List (ByteArray × Val)} (h : inO acc) (hm : inV m.2) : inO (putO m acc) := by
  obtain ⟨k, v⟩ := m
  exact inO_app (inO_take _ h) (inO_app ⟨hm, trivial⟩ (inO_drop _ h))
theorem objAll_bulk : ∀ {l acc o : List (ByteArray × Val)}, objAll l acc = some o → bulkO o = bulkO acc + bulkO l
  | [], acc, o, h => by
    simp only [objAll, Option.some.injEq] at h
    subst h
    simp [bulkO]
  | m :: r, acc, o, h => by
    simp only [objAll] at h
    by_cases hh : hitO m.1 acc = true
    · rw [if_pos hh] at h; cases h
    · rw [if_neg hh] at h
      rw [objAll_bulk h, bulkO_put]
      simp only [bulkO]
      omega
theorem objAll_in : ∀ {l acc o : List (ByteArray × Val)}, objAll l acc = some o → inO acc → inO l → inO o
  | [], acc, o, h, ha, _ => by
    simp only [objAll, Option.some.injEq] at h
    exact h ▸ ha
  | (k, v) :: r, acc, o, h, ha, hl => by
    simp only [objAll] at h
    by_cases hh : hitO k acc = true
    · rw [if_pos hh] at h; cases h
    · rw [if_neg hh] at h
      exact objAll_in h (inO_put ha hl.1) hl.2

end Go.Proofs.YtjjbbnodmpemiaaGreatDoor
