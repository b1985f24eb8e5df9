/- Parts, joined: Rows that a call makes and fills, of data of any make. Plain. No condition. crc: sums and sealed bytes, the program's and the reference's; are bytes the same; the reference's frame. Condition: at most 10^9 bytes. crc.Seal; are bytes the same; frames, the program's and the reference's. Condition: at most 10^9 bytes. Frames, the program's and the reference's. Condition: at most 10^8 bytes, a kind that is not 0. -/
import Derived.Test.YtemceefalkfneaaGreatDoorProg
import Derived.BigQuiet
import Derived.Deep.QuietTactic
import Derived.Laws.MakeOwn
import Derived.Laws.Entries
import Derived.Laws.Shifts
import Derived.Laws.EntriesVeiled
import Derived.LoopN
import Derived.Test.YtemceefalkfneaaGreatDoorKCm1
import Derived.Test.YtemceefalkfneaaGreatDoorKCm3
import Derived.Test.YtemceefalkfneaaGreatDoorKCm12
/- Rows that a call makes and fills, of data of any make. Plain. No condition. -/
namespace Go.Proofs.YtemceefalkfneaaGreatDoor
open Go Go.RowKit

/-- Cells of one block stored one behind the other. -/
def setMany (w : World) (g o : Nat) : List Value → World
  | [] => w
  | v :: r => setMany (w.setCell ⟨g, o, none⟩ v) g (o + 1) r
def over (cs : Array Value) (o : Nat) : List Value → Array Value
  | [] => cs
  | v :: r => over (cs.setIfInBounds o v) (o + 1) r
theorem setMany_size : ∀ (vs : List Value) (w : World) (g o : Nat), (setMany w g o vs).heap.size = w.heap.size
  | [], _, _, _ => rfl
  | v :: r, w, g, o => by simp only [setMany]; rw [setMany_size r]; simp [World.setCell]
theorem setMany_far : ∀ (vs : List Value) (w : World) (g o c : Nat), c ≠ g → (setMany w g o vs).heap[c]? = w.heap[c]?
  | [], _, _, _, _, _ => rfl
  | v :: r, w, g, o, c, h => by
    simp only [setMany]
    rw [setMany_far r _ _ _ _ h]
    simp only [World.setCell, Array.getElem?_modify]
    rw [if_neg (fun e => h e.symm)]
theorem setMany_at : ∀ (vs : List Value) {w : World} {g o : Nat} {cs : Array Value} {t : TypeId}, w.heap[g]? = some (.cells cs t (0, 0)) → (setMany w g o vs).heap[g]? = some (.cells (over cs o vs) t (0, 0))
  | [], _, _, _, _, _, h => h
  | v :: r, w, g, o, cs, t, h => by
    simp only [setMany, over]
    exact setMany_at r (by simp [World.setCell, Array.getElem?_modify, h])
theorem setMany_below {B : Nat} {a : World} : ∀ (vs : List Value) {w : World} {g o : Nat}, Below B a w → B ≤ g → Below B a (setMany w g o vs)
  | [], _, _, _, h, _ => h
  | v :: r, w, g, o, h, hg => by
    simp only [setMany]
    exact setMany_below r (h.setCell hg _) hg
theorem over_size : ∀ (vs : List Value) (cs : Array Value) (o : Nat), (over cs o vs).size = cs.size
  | [], _, _ => rfl
  | v :: r, cs, o => by simp only [over]; rw [over_size r]; simp
theorem over_get : ∀ (vs : List Value) (cs : Array Value) (o i : Nat), o + vs.length ≤ cs.size → (over cs o vs)[i]? = if o ≤ i ∧ i < o + vs.length then vs[i - o]? else cs[i]?
  | [], cs, o, i, _ => by
    simp only [over, List.length_nil]
    rw [if_neg (by omega)]
  | v :: r, cs, o, i, h => by
    simp only [List.length_cons] at h
    simp only [over]
    rw [over_get r _ _ _ (by simp; omega)]
    by_cases h1 : o + 1 ≤ i ∧ i < o + 1 + r.length
    · rw [if_pos h1, if_pos ⟨by omega, by simp only [List.length_cons]; omega⟩, show i - o = (i - (o + 1)) + 1 from by omega, List.getElem?_cons_succ]
    · rw [if_neg h1]
      by_cases h2 : i = o
      · subst h2
        rw [if_pos ⟨Nat.le_refl _, by simp⟩]
        simp only [Nat.sub_self, List.getElem?_cons_zero]
        rw [Array.getElem?_setIfInBounds_self_of_lt (by omega)]
      · rw [if_neg (by simp only [List.length_cons]; omega), Array.getElem?_setIfInBounds_ne (by omega)]

/-- A block of N elements of s cells that the call has made, filled so far with these data; they hold in every world that agrees on the blocks from b on, but for the block itself. -/
def FillD (b g : Nat) (t : TypeId) (s N : Nat) (wr : World) (l : List D) : Prop :=
  b ≤ g ∧ l.length ≤ N ∧ (∀ d ∈ l, d.cells = s) ∧ ∃ (cs : Array Value) (ns : List Value), wr.heap[g]? = some (.cells cs t (0, 0)) ∧ cs.size = N * s ∧ (∀ (j : Nat) (u : Value), ns[j]? = some u → cs[j]? = some u) ∧
    ∀ w'' : World, wr.heap.size ≤ w''.heap.size → (∀ p : Addr, b ≤ p.block → p.block < wr.heap.size → p.block ≠ g → w''.cell? p = wr.cell? p) → HoldsA w'' wr.heap.size l ns
theorem FillD.start {b g : Nat} {t : TypeId} {s N : Nat} {wr : World} {cs : Array Value} (hb : b ≤ g) (hg : wr.heap[g]? = some (.cells cs t (0, 0))) (hs : cs.size = N * s) : FillD b g t s N wr [] :=
  ⟨hb, Nat.zero_le _, fun d hd => (by cases hd), cs, [], hg, hs, fun j u h => (by simp at h), fun _ _ _ => rfl⟩
theorem FillD.lt {b g : Nat} {t : TypeId} {s N : Nat} {wr : World} {l : List D} (h : FillD b g t s N wr l) : g < wr.heap.size := by
  obtain ⟨_, _, _, cs, ns, h4, _⟩ := h
  exact (Array.getElem?_eq_some_iff.1 h4).1
theorem FillD.cell {b g : Nat} {t : TypeId} {s N : Nat} {wr : World} {l : List D} (h : FillD b g t s N wr l) : (∀ j, j < N * s → ∃ u, wr.cell? ⟨g, j, none⟩ = some u) ∧ ∀ j, wr.frozen? ⟨g, j, none⟩ = false := by
  obtain ⟨_, _, _, cs, ns, h4, h5, _⟩ := h
  refine ⟨fun j hj => ?_, fun j => ?_⟩
  · exact ⟨cs[j], by rw [cell_of_row wr g j cs t (0, 0) h4]; exact Array.getElem?_eq_getElem (by omega)⟩
  · simp [World.frozen?, h4]
/-- The world has grown and none of the call's blocks was written. -/
theorem FillD.keep {b g : Nat} {t : TypeId} {s N : Nat} {wr w' : World} {l : List D} (h : FillD b g t s N wr l) (hs : wr.heap.size ≤ w'.heap.size) (hk : ∀ i, b ≤ i → i < wr.heap.size → w'.heap[i]? = wr.heap[i]?) : FillD b g t s N w' l := by
  have hlt := h.lt
  obtain ⟨h1, h2, h3, cs, ns, h4, h5, h6, h7⟩ := h
  exact ⟨h1, h2, h3, cs, ns, (hk g h1 hlt).trans h4, h5, h6, fun w'' k1 k2 => HoldsA.more (h7 w'' (by omega) (fun p p1 p2 p3 => (k2 p p1 (by omega) p3).trans (World.cell?_of_block (hk p.block p1 p2)))) hs⟩
theorem FillD.below {b g : Nat} {t : TypeId} {s N : Nat} {wr w' : World} {l : List D} (h : FillD b g t s N wr l) (hb : Below wr.heap.size wr w') : FillD b g t s N w' l := h.keep hb.size fun i _ hi => hb.block i hi
/-- One more: made behind wr, stored behind the others. -/
theorem FillD.step {b g : Nat} {t : TypeId} {s N : Nat} {wr w4 : World} {l : List D} {d : D} {cs' : List Value} (h : FillD b g t s N wr l) (hl : l.length < N) (hd : d.cells = s) (hx : Fresh wr.heap.size w4 d cs') (h4 : Below wr.heap.size wr w4) :
    FillD b g t s N (setMany w4 g (l.length * s) cs') (l ++ [d]) := by
  have hlt := h.lt
  have h' := h.below h4
  obtain ⟨h1, h2, h3, cs, ns, k4, h5, h6, h7⟩ := h'
  have hcl : cs'.length = s := hx.now.len.1.trans hd
  have hnl : ns.length = l.length * s := by
    have hA := h7 w4 (Nat.le_refl _) (fun _ _ _ _ => rfl)
    rw [hA.len.1, cellsA_all h3]
  have hN : l.length * s + s ≤ N * s := by
    have := Nat.mul_le_mul_right s (show l.length + 1 ≤ N by omega)
    rw [Nat.add_mul, Nat.one_mul] at this
    exact this
  have hsz := h4.size
  refine ⟨h1, by rw [List.length_append, List.length_cons, List.length_nil]; omega, ?_, over cs (l.length * s) cs', ns ++ cs', setMany_at cs' k4, by rw [over_size]; exact h5, ?_, ?_⟩
  · intro x hx'
    rcases List.mem_append.1 hx' with hx' | hx'
    · exact h3 x hx'
    · simp only [List.mem_cons, List.not_mem_nil, or_false] at hx'
      rw [hx']; exact hd
  · intro j u hj
    rw [over_get cs' cs (l.length * s) j (by omega)]
    by_cases hjn : j < ns.length
    · rw [List.getElem?_append_left hjn] at hj
      rw [if_neg (by omega)]
      exact h6 j u hj
    · rw [List.getElem?_append_right (by omega)] at hj
      have := (List.getElem?_eq_some_iff.1 hj).1
      rw [if_pos ⟨by omega, by omega⟩, ← hnl]
      exact hj
  · intro w'' k1 k2
    rw [setMany_size] at k1 k2 ⊢
    have hfar : ∀ p : Addr, b ≤ p.block → p.block < w4.heap.size → p.block ≠ g → w''.cell? p = w4.cell? p := fun p p1 p2 p3 => (k2 p p1 p2 p3).trans (World.cell?_of_block (setMany_far cs' w4 g _ _ p3))
    exact (h7 w'' k1 hfar).snoc (hx w'' k1 (fun p p1 p2 => hfar p (by omega) p2 (by omega)))
/-- The row, done. -/
theorem FillD.close {b g : Nat} {t : TypeId} {s : Nat} {wr : World} {l : List D} (h : FillD b g t s l.length wr l) (c : Nat) : Fresh b wr (.row s l) [.slice (some ⟨g, 0, none⟩) l.length c] := by
  have hlt := h.lt
  obtain ⟨h1, h2, h3, cs, ns, h4, h5, h6, h7⟩ := h
  intro w'' k1 k2
  refine ⟨_, c, rfl, h3, ns, h7 w'' k1 (fun p p1 p2 _ => k2 p p1 p2), .inr ⟨g, 0, rfl, hlt, fun j u hu => ?_⟩⟩
  rw [k2 _ h1 hlt, Nat.zero_add, cell_of_row wr g j cs t (0, 0) h4]
  exact h6 j u hu
end Go.Proofs.YtemceefalkfneaaGreatDoor

/- crc: sums and sealed bytes, the program's and the reference's; are bytes the same; the reference's frame. Condition: at most 10^9 bytes. -/
namespace Go.Proofs.YtemceefalkfneaaGreatDoor
open Go.RowKit

theorem go1_at (r c : Nat) (hr : r < 4294967296) (w : World) : Calls Tryz.prog 234 #[.int .u32 r, .int .u32 ((c : Int) % 2)] w fun e w' => e = .returned (.int .u32 (go1N r (c % 2) : Nat)) ∧ w = w' := by
  have h := go1_calls r (c % 2) hr (by omega) w
  rw [show ((c % 2 : Nat) : Int) = (c : Int) % 2 from by omega] at h
  exact h
theorem rbN_st8 (r : Nat) (x : UInt8) : rbN 8 r x.toNat = st8 (r ^^^ x.toNat) := by rw [rbN_eq 8 r _ (by have := x.toNat_lt; omega), st8_eq]
theorem go1N_lt {r b : Nat} (hr : r < 4294967296) (hb : b < 2) : go1N r b < 4294967296 := by
  rw [go1N_eq r b hb]
  exact st1_lt (Nat.xor_lt_two_pow (n := 32) hr (by omega))

set_option maxRecDepth 100000 in
set_option maxHeartbeats 2000000 in
theorem rmore_calls (s : Nat) (hs : s < 4294967296) (l : List UInt8) (a : Option Addr) (n c : Nat) (w : World) (h : Holds w w.heap.size (.row 1 (dB l)) [.slice a n c]) (hl : l.length ≤ 1000000000) :
    Calls Tryz.prog 173 #[.int .u32 s, .slice a n c] w fun e w' => e = .returned (.int .u32 (crcMore s l : Nat)) ∧ w = w' := by
  obtain rfl := dB_n h
  obtain ⟨r0, hr0⟩ : ∃ r, 4294967295 - s = r := ⟨_, rfl⟩
  have e0 : (4294967295 : Int) - (s : Int) = (r0 : Int) := by omega
  have hr0l : r0 < 4294967296 := by omega
  have hm : crcMore s l = 4294967295 - crcGo r0 l := by unfold crcMore; rw [hr0]
  have E0 := Lib.hid e0
  have H := Lib.hid h
  have Hm := Lib.hid hm
  clear h hm
  clear e0 hr0
  go_enter Tryz.func173, Tryz.ntmps173
  go_wp2_with (fail)
  go_loop [5, 6] (fun r i => ∃ k : Nat, k ≤ l.length ∧ i = .int .i64 k ∧ r = .int .u32 (crcGo r0 (l.take k) : Nat)) (fun _ i => l.length - (intOf i).toNat)
  case atStart => exact ⟨0, Nat.zero_le _, rfl, by rw [E0.out]; rfl⟩
  case round =>
    obtain ⟨k, hk, rfl, rfl⟩ := hrel
    by_cases hlt : k < l.length
    · obtain ⟨x, hx⟩ : ∃ x, l[k]? = some x := ⟨_, List.getElem?_eq_getElem hlt⟩
      obtain ⟨g, off, rfl, hg, hcell⟩ := dB_at H.out hx
      have htk : l.take (k + 1) = l.take k ++ [x] := by
        obtain ⟨_, rfl⟩ := List.getElem?_eq_some_iff.1 hx
        exact List.take_succ_eq_append_getElem hlt
      have hfin : rbN 8 (crcGo r0 (l.take k)) x.toNat = crcGo r0 (l.take (k + 1)) := by rw [htk, crcGo_snoc, rbN_st8]
      have hRl := crcGo_lt (l.take k) hr0l
      have hXl : x.toNat < 256 := x.toNat_lt
      obtain ⟨R9, hR9⟩ : ∃ R9, crcGo r0 (l.take (k + 1)) = R9 := ⟨_, rfl⟩
      rw [hR9] at hfin
      generalize crcGo r0 (l.take k) = R at hfin hRl ⊢
      generalize x.toNat = C at hfin hXl hcell
      have Hfin := Lib.hid hfin
      have Htk := Lib.hid htk
      have Hx := Lib.hid hx
      have HR9 := Lib.hid hR9
      clear hfin htk hx hR9
      go_wp2_with (fail)
      go_loop [5, 7, 8] (fun r c k => ∃ q r' c' : Nat, q ≤ 8 ∧ k = .int .i64 q ∧ r = .int .u32 r' ∧ c = .int .u32 c' ∧ r' < 4294967296 ∧ c' < 256 ∧ Hid (rbN (8 - q) r' c' = R9)) (fun _ _ i => 8 - (intOf i).toNat)
      case atStart => exact ⟨0, R, C, by omega, rfl, rfl, rfl, hRl, hXl, Hfin⟩
      case round =>
        obtain ⟨q, r', c', hq, rfl, rfl, rfl, hrl, hcl, hR⟩ := hrel
        by_cases hq8 : q < 8
        · have hn : Hid (rbN (8 - (q + 1)) (go1N r' (c' % 2)) (c' / 2) = R9) := by
            have := hR.out
            rw [show 8 - q = (8 - (q + 1)) + 1 from by omega] at this
            simp only [rbN] at this
            exact this
          have hl2 := go1N_lt (b := c' % 2) hrl (by omega)
          have hC := Lib.hid (fun W => go1_at r' c' hrl W)
          clear hR
          go_wp2_with (go_at_call 234; with_reducible refine (hC.out _).mono ?_; rintro e w2 ⟨rfl, rfl⟩)
          go_round
          case rel => exact ⟨q + 1, go1N r' (c' % 2), c' / 2, by omega, by go_num, rfl, by go_num, hl2, by omega, hn⟩
          case measure => simp [intOf]; omega
        · obtain rfl : q = 8 := by omega
          obtain rfl : r' = R9 := hR.out
          clear hR
          go_wp2
          go_round
          case rel => exact ⟨k + 1, by omega, by go_num, by rw [HR9.out]⟩
          case measure => simp [intOf]; omega
    · obtain rfl : k = l.length := by omega
      rw [List.take_length]
      have hcl := crcGo_lt l hr0l
      have e9 : (4294967295 : Int) - (crcGo r0 l : Int) = ((crcMore s l : Nat) : Int) := by rw [Hm.out]; omega
      have E9 := Lib.hid e9
      clear e9
      go_wp2
      go_ret
      exact ⟨by rw [← E9.out]; rfl, rfl⟩

theorem sum_calls (l : List UInt8) (a : Option Addr) (n c : Nat) (w : World) (h : Holds w w.heap.size (.row 1 (dB l)) [.slice a n c]) (hl : l.length ≤ 1000000000) :
    Calls Tryz.prog 111 #[.slice a n c] w fun e w' => e = .returned (.int .u32 (crcMore 0 l : Nat)) ∧ Below w.heap.size w w' := by
  have hC := more_calls 0 (by omega) l a n c w h hl
  rw [show ((0 : Nat) : Int) = 0 from rfl] at hC
  have HC := Lib.hid hC
  have H := Lib.hid h
  clear hC h
  go_enter Tryz.func111, Tryz.ntmps111
  go_wp2_with (go_at_call 170; with_reducible refine (HC.out).mono ?_; rintro e w2 ⟨rfl, hb⟩)
  go_ret
  exact ⟨rfl, hb⟩
theorem rsum_calls (l : List UInt8) (a : Option Addr) (n c : Nat) (w : World) (h : Holds w w.heap.size (.row 1 (dB l)) [.slice a n c]) (hl : l.length ≤ 1000000000) :
    Calls Tryz.prog 114 #[.slice a n c] w fun e w' => e = .returned (.int .u32 (crcMore 0 l : Nat)) ∧ w = w' := by
  have hC := rmore_calls 0 (by omega) l a n c w h hl
  rw [show ((0 : Nat) : Int) = 0 from rfl] at hC
  have HC := Lib.hid hC
  have H := Lib.hid h
  clear hC h
  go_enter Tryz.func114, Tryz.ntmps114
  go_wp2_with (go_at_call 173; with_reducible refine (HC.out).mono ?_; rintro e w2 ⟨rfl, rfl⟩)
  go_ret
  exact ⟨rfl, rfl⟩

/-- Bytes of the call's own, given back. -/
def BytesPost (l : List UInt8) (w : World) (e : Ending) (w' : World) : Prop := ∃ a c, e = .returned (.slice a l.length (l.length + c)) ∧ Fresh w.heap.size w' (.row 1 (dB l)) [.slice a l.length (l.length + c)] ∧ Below w.heap.size w w'
theorem BytesPost.of {l : List UInt8} {w w' : World} {v : Value} (h : w'.ownsRow w.heap.size 5 1 v l.length (bcells l)) (hb : Below w.heap.size w w') : BytesPost l w (.returned v) w' := by
  obtain ⟨a, c, rfl, hf⟩ := own_bytes h
  exact ⟨a, c, rfl, hf, hb⟩

/-- The i-th byte of a sum. -/
def sumB (s : Nat) : Nat → List UInt8
  | 0 => []
  | n + 1 => UInt8.ofNat (s % 256) :: sumB (s / 256) n
theorem sumB_four (s : Nat) : sumB s 4 = sumBytes s := by
  simp only [sumB, sumBytes, Nat.div_div_eq_div_mul]
theorem sumB_snoc : ∀ (n s : Nat), sumB s (n + 1) = sumB s n ++ [UInt8.ofNat (s / 256 ^ n % 256)]
  | 0, s => by simp [sumB]
  | n + 1, s => by
    rw [sumB, sumB_snoc n (s / 256), sumB]
    rw [Nat.div_div_eq_div_mul, ← Nat.pow_succ', List.cons_append]
theorem sumB_len : ∀ (n s : Nat), (sumB s n).length = n
  | 0, _ => rfl
  | n + 1, s => by simp [sumB, sumB_len n]
theorem u8_cell (x : Nat) (h : x < 256) : Value.int .u8 (x : Int) = .int .u8 ((UInt8.ofNat x).toNat : Nat) := by
  have : (UInt8.ofNat x).toNat = x := by simp [UInt8.toNat_ofNat']; omega
  rw [this]

set_option maxRecDepth 100000 in
set_option maxHeartbeats 2000000 in
theorem rseal_calls (l : List UInt8) (a : Option Addr) (n c : Nat) (w : World) (h : Holds w w.heap.size (.row 1 (dB l)) [.slice a n c]) (hl : l.length ≤ 1000000000) :
    Calls Tryz.prog 68 #[.slice a n c] w (BytesPost (sealL l) w) := by
  obtain ⟨hn, hR⟩ := dB_reads h
  subst hn
  have H := Lib.hid h
  have HR := Lib.hid hR
  clear h hR
  go_enter Tryz.func68, Tryz.ntmps68
  go_wp2_with (at_builtin; refine wpList_append_by rfl (.tmp 6) (.tmp 7) 26 26 5 rfl Tryz.underlying26 Tryz.underlying26 w.heap.size (.slice none 0 0) [] rfl (World.ownsRow_nil _ _ _ _) _ a _ c l rfl HR.out (by simp; omega) (Nat.le_refl _) ?_; intro v1 w1 hown1 hg1 hat1)
  have hb1 : Below w.heap.size w w1 := (Below.refl _ _).grown hg1 (Nat.le_refl _) (by simp [Value.ownBlock])
  rw [List.nil_append] at hown1
  have hC := rsum_calls l a l.length c w1 ((H.out.below hb1).more hb1.size) hl
  have hcl := crcMore_lt 0 l
  have hsf := sumB_four (crcMore 0 l)
  obtain ⟨s0, hs0⟩ : ∃ s0, crcMore 0 l = s0 := ⟨_, rfl⟩
  rw [hs0] at hC hcl hsf
  have hfin : sealL l = l ++ sumB s0 4 := by unfold sealL; rw [hsf, hs0]
  have HC := Lib.hid hC
  have Hown1 := Lib.hid hown1
  have Hg1 := Lib.hid hg1
  have Hb1 := Lib.hid hb1
  have Hat1 := Lib.hid hat1
  have Hfin := Lib.hid hfin
  have Hsf := Lib.hid hsf
  have Hs0 := Lib.hid hs0
  clear hC hown1 hg1 hb1 hat1 hfin hsf hs0
  go_wp2_with (go_at_call 114; with_reducible refine (HC.out).mono ?_; rintro e w2 ⟨rfl, rfl⟩)
  go_loopw [3, 4, 5] (fun v s i wr => ∃ k : Nat, k ≤ 4 ∧ i = .int .i64 k ∧ s = .int .u32 (s0 / 256 ^ k : Nat) ∧ Hid (wr.ownsRow w.heap.size 5 1 v (l ++ sumB s0 k).length (bcells (l ++ sumB s0 k))) ∧ Hid (Below w.heap.size w wr)) (fun _ _ i _ => 4 - (intOf i).toNat)
  case atStart => exact ⟨0, by omega, rfl, by simp, by rw [show l ++ sumB s0 0 = l from by simp [sumB]]; exact Hown1, Hb1⟩
  case round =>
    obtain ⟨k, hk, rfl, rfl, hown, hb⟩ := hrel
    by_cases hlt : k < 4
    · obtain ⟨s1, hs1⟩ : ∃ s1, s0 / 256 ^ k = s1 := ⟨_, rfl⟩
      have hs1l : s1 < 4294967296 := by rw [← hs1]; exact Nat.lt_of_le_of_lt (Nat.div_le_self _ _) hcl
      have hnx : s0 / 256 ^ (k + 1) = s1 / 256 := by rw [← hs1, Nat.div_div_eq_div_mul, Nat.pow_succ]
      have hsn : (l ++ sumB s0 k) ++ [UInt8.ofNat (s1 % 256)] = l ++ sumB s0 (k + 1) := by rw [sumB_snoc, hs1, List.append_assoc]
      rw [hs1]
      have hz := hb.out.size
      have hlen := sumB_len k s0
      have ecell : Value.int .u8 ((s1 : Int) % 256) = .int .u8 ((UInt8.ofNat (s1 % 256)).toNat : Nat) := by rw [← u8_cell _ (by omega)]; go_num
      have hlit := (reads_lit (ecell ▸ Blk.new wr 5 #[.int .u8 ((s1 : Int) % 256)] : Blk _ _ _ #[.int .u8 ((UInt8.ofNat (s1 % 256)).toNat : Nat)]))
      rw [← ecell] at hlit
      have Hsn := Lib.hid hsn
      have Hnx := Lib.hid hnx
      have Hs1 := Lib.hid hs1
      have Hlen := Lib.hid hlen
      have Hlit := Lib.hid hlit
      have Ecell := Lib.hid ecell
      clear hsn hnx hs1 hlen hlit ecell
      clear Hown1 Hb1
      go_wp2_with (at_builtin; refine wpList_append_by rfl (.tmp 15) (.tmp 19) 26 26 5 rfl Tryz.underlying26 Tryz.underlying26 w.heap.size u3 _ rfl (hown.out.alloc _) _ _ _ _ [UInt8.ofNat (s1 % 256)] rfl Hlit.out (by have := Hlen.out; simp; omega) (by simp; omega) ?_; intro v3 w3 hown3 hg3 hat3)
      have hb3 : Below w.heap.size w w3 := (hb.out.alloc (by omega) _).grown hg3 (by simp; omega) (fun j e => (hown.out.lt j e).1)
      rw [Hsn.out] at hown3
      have Hown3 := Lib.hid hown3
      have Hb3 := Lib.hid hb3
      clear hown3 hb3
      clear hown hb hg3 hat3 Hsn
      go_wp2
      go_roundw
      case rel => exact ⟨k + 1, by omega, by go_num, by rw [Hnx.out]; go_num, Hown3, Hb3⟩
      case measure => simp [intOf]; omega
    · obtain rfl : k = 4 := by omega
      rw [← Hfin.out] at hown
      go_wp2
      go_ret
      exact BytesPost.of hown.out hb.out
end Go.Proofs.YtemceefalkfneaaGreatDoor

/- crc.Seal; are bytes the same; frames, the program's and the reference's. Condition: at most 10^9 bytes. -/
namespace Go.Proofs.YtemceefalkfneaaGreatDoor
open Go.RowKit

theorem run_make_rowN {P : Program} (t e : TypeId) (i : TypeInfo) (z : Value) (ht : P.underlying t = some (.slice e)) (hi : P.info? e = some i) (hz : i.zero = some z)
    (kl kc : IntKind) (n c : Nat) (hnc : n ≤ c) (hbytes : i.bytes * c ≤ 281474976710656) (h63 : c ≤ 9223372036854775807) (w : World) :
    (Instr.makeSlice t (.int kl (n : Int)) (.int kc (c : Int))).run P w = .ok (.slice (some ⟨w.heap.size, 0, none⟩) n c) (w.alloc (.cells (madeCells z.cells (c * i.size)) e)) := by
  have hb : (i.bytes : Int) * (c : Int) ≤ 281474976710656 := by
    have h : ((i.bytes * c : Nat) : Int) ≤ 281474976710656 := by omega
    rwa [Int.natCast_mul] at h
  have hr := run_make (P := P) w t e i z ht hi hz kl kc n c (by omega) (by omega) hb (by omega)
  simp only [Int.toNat_natCast] at hr
  exact hr

theorem below_draws {B : Nat} {a w : World} (h : Below B a w) (n : Nat) : Below B a (w.drewN n) := ⟨h.os, h.tape, h.output, h.size, h.block⟩

set_option maxRecDepth 100000 in
set_option maxHeartbeats 2000000 in
theorem seal_calls (l : List UInt8) (a : Option Addr) (n c : Nat) (w : World) (h : Holds w w.heap.size (.row 1 (dB l)) [.slice a n c]) (hl : l.length ≤ 1000000000) :
    Calls Tryz.prog 64 #[.slice a n c] w (BytesPost (sealL l) w) := by
  obtain ⟨hn, hR⟩ := dB_reads h
  subst hn
  obtain ⟨i0, hi, hz, hz1, hz2⟩ := info_parts u8_info
  have hmk : ∀ W : World, ∃ cur : Array Value, cur.size = l.length + 4 ∧ (Instr.makeSlice 26 (.int .i64 0) (.int .i64 ((l.length : Int) + 4))).run Tryz.prog W = .ok (.slice (some ⟨W.heap.size, 0, none⟩) 0 (l.length + 4)) (W.alloc (.cells cur 5)) := by
    intro W
    have := run_make_rowN (P := Tryz.prog) 26 5 i0 _ Tryz.underlying26 hi hz .i64 .i64 0 (l.length + 4) (by omega) (by rw [hz2]; omega) (by omega) W
    refine ⟨_, ?_, by rw [show (((l.length + 4 : Nat)) : Int) = (l.length : Int) + 4 from by omega] at this; exact this⟩
    rw [hz1]
    simp [madeCells]
  obtain ⟨cur, hcs, hm⟩ := hmk w
  have hown0 : (w.alloc (.cells cur 5)).ownsRow w.heap.size 5 1 (.slice (some ⟨w.heap.size, 0, none⟩) 0 (l.length + 4)) ([] : List UInt8).length (bcells []) := World.ownsRow_made w cur (l.length + 4) (Nat.le_refl _) (by simp only [maxLen]; omega) (by omega)
  have hR0 := hR.alloc (Nat.le_refl _) (.cells cur 5)
  have H := Lib.hid h
  have HR := Lib.hid hR
  have Hown0 := Lib.hid hown0
  have HR0 := Lib.hid hR0
  have Hi := Lib.hid hi
  have Hz := Lib.hid hz
  have Hz1 := Lib.hid hz1
  have Hz2 := Lib.hid hz2
  have Hcs := Lib.hid hcs
  clear h hR hown0 hR0 hi hz hz1 hz2 hcs
  clear hmk
  go_enter Tryz.func64, Tryz.ntmps64
  go_wp2_with (at_builtin; refine wpList_append_by rfl (.tmp 10) (.tmp 11) 26 26 5 rfl Tryz.underlying26 Tryz.underlying26 w.heap.size (.slice (some ⟨w.heap.size, 0, none⟩) 0 (l.length + 4)) [] rfl Hown0.out _ a _ c l rfl HR0.out (by simp; omega) (by simp) ?_; intro v1 w1 hown1 hg1 hat1)
  have hb1 : Below w.heap.size w w1 := ((Below.refl _ _).alloc (Nat.le_refl _) _).grown hg1 (by simp) (by simp [Value.ownBlock])
  rw [List.nil_append] at hown1
  have hC := sum_calls l a l.length c w1 ((H.out.below hb1).more hb1.size) hl
  have hcl := crcMore_lt 0 l
  have hsf := sumB_four (crcMore 0 l)
  obtain ⟨s0, hs0⟩ : ∃ s0, crcMore 0 l = s0 := ⟨_, rfl⟩
  rw [hs0] at hC hcl hsf
  have hfin : sealL l = l ++ sumB s0 4 := by unfold sealL; rw [hsf, hs0]
  have HC := Lib.hid hC
  have Hown1 := Lib.hid hown1
  have Hg1 := Lib.hid hg1
  have Hb1 := Lib.hid hb1
  have Hat1 := Lib.hid hat1
  have Hfin := Lib.hid hfin
  have Hsf := Lib.hid hsf
  have Hs0 := Lib.hid hs0
  clear hC hown1 hg1 hb1 hat1 hfin hsf hs0
  clear hm
  go_wp2_with (go_at_call 111; with_reducible refine (HC.out).mono ?_; rintro e w2 ⟨rfl, hb2⟩)
  have hb12 := Hb1.out.trans (hb2.mono Hb1.out.size)
  have hown2 : w2.ownsRow w.heap.size 5 1 v1 l.length (bcells l) := Hown1.out.kept (row := none) ⟨hb2.os, hb2.tape, hb2.output, hb2.size, fun i hi _ => hb2.block i hi⟩ (by cases hv : v1.ownBlock <;> simp) 
  have Hb12 := Lib.hid hb12
  have Hown2 := Lib.hid hown2
  clear hb12 hown2
  clear hb2
  go_loopw [3, 15] (fun v i wr => ∃ k : Nat, k ≤ 4 ∧ i = .int .i64 k ∧ Hid (wr.ownsRow w.heap.size 5 1 v (l ++ sumB s0 k).length (bcells (l ++ sumB s0 k))) ∧ Hid (Below w.heap.size w wr)) (fun _ i _ => 4 - (intOf i).toNat)
  case atStart => exact ⟨0, by omega, rfl, by rw [show l ++ sumB s0 0 = l from by simp [sumB]]; exact Hown2, Hb12⟩
  case round =>
    obtain ⟨k, hk, rfl, hown, hb⟩ := hrel
    by_cases hlt : k < 4
    · have hz := hb.out.size
      have hlen := sumB_len k s0
      have Hlen := Lib.hid hlen
      clear hlen
      clear Hown2 Hb12
      have hk4 : k = 0 ∨ k = 1 ∨ k = 2 ∨ k = 3 := by omega
      rcases hk4 with rfl | rfl | rfl | rfl
      · have ecell : Value.int .u8 ((s0 : Int) % 256) = .int .u8 ((UInt8.ofNat (s0 / 256 ^ 0 % 256)).toNat : Nat) := by rw [← u8_cell _ (by omega)]; simp only [Nat.reducePow, Nat.div_one]; go_num
        have hlit := (reads_lit (ecell ▸ Blk.new wr 5 #[.int .u8 ((s0 : Int) % 256)] : Blk _ _ _ #[.int .u8 ((UInt8.ofNat (s0 / 256 ^ 0 % 256)).toNat : Nat)]))
        rw [← ecell] at hlit
        have hsn := sumB_snoc 0 s0
        have Hlit := Lib.hid hlit
        have Hsn := Lib.hid hsn
        have Ecell := Lib.hid ecell
        clear hlit hsn ecell
        go_wp2_with (at_builtin; refine wpList_append_by rfl (.tmp 18) (.tmp 24) 26 26 5 rfl Tryz.underlying26 Tryz.underlying26 w.heap.size u3 _ rfl (hown.out.alloc _) _ _ _ _ [UInt8.ofNat (s0 / 256 ^ 0 % 256)] rfl Hlit.out (by have := Hlen.out; simp; omega) (by simp; omega) ?_; intro v3 w3 hown3 hg3 hat3)
        have hb3 : Below w.heap.size w w3 := (hb.out.alloc (by omega) _).grown hg3 (by simp; omega) (fun j e => (hown.out.lt j e).1)
        rw [List.append_assoc, ← Hsn.out] at hown3
        have Hown3 := Lib.hid hown3
        have Hb3 := Lib.hid hb3
        clear hown3 hb3
        clear hown hb hg3 hat3 Hsn
        go_wp2
        go_roundw
        case rel => exact ⟨0 + 1, by omega, by go_num, Hown3, Hb3⟩
        case measure => simp [intOf]
      · have ecell : Value.int .u8 ((s0 : Int) / 256 % 256) = .int .u8 ((UInt8.ofNat (s0 / 256 ^ 1 % 256)).toNat : Nat) := by rw [← u8_cell _ (by omega)]; simp only [Nat.reducePow]; go_num
        have hlit := (reads_lit (ecell ▸ Blk.new wr 5 #[.int .u8 ((s0 : Int) / 256 % 256)] : Blk _ _ _ #[.int .u8 ((UInt8.ofNat (s0 / 256 ^ 1 % 256)).toNat : Nat)]))
        rw [← ecell] at hlit
        have hsn := sumB_snoc 1 s0
        have Hlit := Lib.hid hlit
        have Hsn := Lib.hid hsn
        have Ecell := Lib.hid ecell
        clear hlit hsn ecell
        go_wp2_with (at_builtin; refine wpList_append_by rfl (.tmp 18) (.tmp 24) 26 26 5 rfl Tryz.underlying26 Tryz.underlying26 w.heap.size u3 _ rfl (hown.out.alloc _) _ _ _ _ [UInt8.ofNat (s0 / 256 ^ 1 % 256)] rfl Hlit.out (by have := Hlen.out; simp; omega) (by simp; omega) ?_; intro v3 w3 hown3 hg3 hat3)
        have hb3 : Below w.heap.size w w3 := (hb.out.alloc (by omega) _).grown hg3 (by simp; omega) (fun j e => (hown.out.lt j e).1)
        rw [List.append_assoc, ← Hsn.out] at hown3
        have Hown3 := Lib.hid hown3
        have Hb3 := Lib.hid hb3
        clear hown3 hb3
        clear hown hb hg3 hat3 Hsn
        go_wp2
        go_roundw
        case rel => exact ⟨1 + 1, by omega, by go_num, Hown3, Hb3⟩
        case measure => simp [intOf]
      · have ecell : Value.int .u8 ((s0 : Int) / 65536 % 256) = .int .u8 ((UInt8.ofNat (s0 / 256 ^ 2 % 256)).toNat : Nat) := by rw [← u8_cell _ (by omega)]; simp only [Nat.reducePow]; go_num
        have hlit := (reads_lit (ecell ▸ Blk.new wr 5 #[.int .u8 ((s0 : Int) / 65536 % 256)] : Blk _ _ _ #[.int .u8 ((UInt8.ofNat (s0 / 256 ^ 2 % 256)).toNat : Nat)]))
        rw [← ecell] at hlit
        have hsn := sumB_snoc 2 s0
        have Hlit := Lib.hid hlit
        have Hsn := Lib.hid hsn
        have Ecell := Lib.hid ecell
        clear hlit hsn ecell
        go_wp2_with (at_builtin; refine wpList_append_by rfl (.tmp 18) (.tmp 24) 26 26 5 rfl Tryz.underlying26 Tryz.underlying26 w.heap.size u3 _ rfl (hown.out.alloc _) _ _ _ _ [UInt8.ofNat (s0 / 256 ^ 2 % 256)] rfl Hlit.out (by have := Hlen.out; simp; omega) (by simp; omega) ?_; intro v3 w3 hown3 hg3 hat3)
        have hb3 : Below w.heap.size w w3 := (hb.out.alloc (by omega) _).grown hg3 (by simp; omega) (fun j e => (hown.out.lt j e).1)
        rw [List.append_assoc, ← Hsn.out] at hown3
        have Hown3 := Lib.hid hown3
        have Hb3 := Lib.hid hb3
        clear hown3 hb3
        clear hown hb hg3 hat3 Hsn
        go_wp2
        go_roundw
        case rel => exact ⟨2 + 1, by omega, by go_num, Hown3, Hb3⟩
        case measure => simp [intOf]
      · have ecell : Value.int .u8 ((s0 : Int) / 16777216) = .int .u8 ((UInt8.ofNat (s0 / 256 ^ 3 % 256)).toNat : Nat) := by rw [← u8_cell _ (by omega)]; simp only [Nat.reducePow]; go_num
        have hlit := (reads_lit (ecell ▸ Blk.new wr 5 #[.int .u8 ((s0 : Int) / 16777216)] : Blk _ _ _ #[.int .u8 ((UInt8.ofNat (s0 / 256 ^ 3 % 256)).toNat : Nat)]))
        rw [← ecell] at hlit
        have hsn := sumB_snoc 3 s0
        have Hlit := Lib.hid hlit
        have Hsn := Lib.hid hsn
        have Ecell := Lib.hid ecell
        clear hlit hsn ecell
        go_wp2_with (at_builtin; refine wpList_append_by rfl (.tmp 18) (.tmp 24) 26 26 5 rfl Tryz.underlying26 Tryz.underlying26 w.heap.size u3 _ rfl (hown.out.alloc _) _ _ _ _ [UInt8.ofNat (s0 / 256 ^ 3 % 256)] rfl Hlit.out (by have := Hlen.out; simp; omega) (by simp; omega) ?_; intro v3 w3 hown3 hg3 hat3)
        have hb3 : Below w.heap.size w w3 := (hb.out.alloc (by omega) _).grown hg3 (by simp; omega) (fun j e => (hown.out.lt j e).1)
        rw [List.append_assoc, ← Hsn.out] at hown3
        have Hown3 := Lib.hid hown3
        have Hb3 := Lib.hid hb3
        clear hown3 hb3
        clear hown hb hg3 hat3 Hsn
        go_wp2
        go_roundw
        case rel => exact ⟨3 + 1, by omega, by go_num, Hown3, Hb3⟩
        case measure => simp [intOf]
    · obtain rfl : k = 4 := by omega
      rw [← Hfin.out] at hown
      go_wp2
      go_ret
      exact BytesPost.of hown.out hb.out

set_option maxRecDepth 100000 in
set_option maxHeartbeats 2000000 in
/-- Are bytes the same? -/
theorem same_calls (l r : List UInt8) (a a' : Option Addr) (n c n' c' : Nat) (B : Bool) (w : World) (h : Holds w w.heap.size (.row 1 (dB l)) [.slice a n c]) (h' : Holds w w.heap.size (.row 1 (dB r)) [.slice a' n' c']) (hl : l.length ≤ 2000000000) (_ : r.length ≤ 2000000000) (hB : decide (l = r) = B) :
    Calls Tryz.prog 24 #[.slice a n c, .slice a' n' c'] w fun e w' => e = .returned (.bool B) ∧ Below w.heap.size w w' := by
  obtain rfl := dB_n h
  obtain rfl := dB_n h'
  by_cases hlen : l.length = r.length
  · have hlen' : Hid (l.length = r.length) := hlen
    have hw0 : Below w.heap.size w w := Below.refl _ _
    have ht0 : l.take 0 = r.take 0 := by simp
    have hn : ((l.length : Int) != (r.length : Int)) = false := by simp; omega
    have H := Lib.hid h
    have H' := Lib.hid h'
    have HB := Lib.hid hB
    have Hw0 := Lib.hid hw0
    have Ht0 := Lib.hid ht0
    clear h h' hB hw0 ht0
    clear hlen
    go_enter Tryz.func24, Tryz.ntmps24
    go_wp2
    go_loopw [5] (fun i wr => ∃ k : Nat, k ≤ l.length ∧ i = .int .i64 k ∧ Hid (l.take k = r.take k) ∧ Hid (Below w.heap.size w wr)) (fun i _ => l.length - (intOf i).toNat)
    case atStart => exact ⟨0, by omega, rfl, Ht0, Hw0⟩
    case round =>
      obtain ⟨k, hk, rfl, ht, hb⟩ := hrel
      by_cases hlt : k < l.length
      · have hlt' : k < r.length := by have := hlen'.out; omega
        obtain ⟨x, hx⟩ : ∃ x, l[k]? = some x := ⟨_, List.getElem?_eq_getElem hlt⟩
        obtain ⟨y, hy⟩ : ∃ y, r[k]? = some y := ⟨_, List.getElem?_eq_getElem hlt'⟩
        obtain ⟨g, off, rfl, hg, hcell⟩ := dB_at (H.out.below hb.out) hx
        obtain ⟨g', off', rfl, hg', hcell'⟩ := dB_at (H'.out.below hb.out) hy
        have htk : ∀ (m : List UInt8) (z : UInt8), m[k]? = some z → m.take (k + 1) = m.take k ++ [z] := by
          intro m z hz
          obtain ⟨hm, rfl⟩ := List.getElem?_eq_some_iff.1 hz
          exact List.take_succ_eq_append_getElem hm
        have i1 : (0 : Int) ≤ k := by omega
        have i2 : (k : Int) < (l.length : Int) := by omega
        have i3 : (k : Int) < (r.length : Int) := by omega
        by_cases he : x = y
        · subst he
          have ht' : l.take (k + 1) = r.take (k + 1) := by rw [htk l x hx, htk r x hy, ht.out]
          have hE : ((x.toNat : Int) != (x.toNat : Int)) = false := by simp
          have Ht' := Lib.hid ht'
          have Hx := Lib.hid hx
          have Hy := Lib.hid hy
          clear ht' hx hy
          clear htk ht
          go_wp2
          go_quiet (fail)
          go_wp2
          go_roundw
          case rel => exact ⟨k + 1, by omega, by go_num, Ht', below_draws hb.out _⟩
          case measure => simp [intOf]; omega
        · have hf : B = false := by
            rw [← HB.out, decide_eq_false_iff_not]
            intro e
            rw [e, hy] at hx
            exact he (Option.some.inj hx).symm
          have hE : ((x.toNat : Int) != (y.toNat : Int)) = true := by
            simp only [bne_iff_ne, ne_eq]
            intro e
            exact he (UInt8.toNat_inj.1 (by omega))
          subst hf
          have Hx := Lib.hid hx
          have Hy := Lib.hid hy
          clear hx hy
          clear htk ht he HB
          go_wp2
          go_quiet (fail)
          go_wp2
          go_ret
          exact ⟨rfl, below_draws hb.out _⟩
      · obtain rfl : k = l.length := by omega
        have hf : B = true := by
          have := ht.out
          rw [List.take_length, hlen'.out, List.take_length] at this
          rw [← HB.out, this]
          simp
        subst hf
        clear HB
        go_wp2
        go_ret
        exact ⟨rfl, hb.out⟩
  · have hf : B = false := by
      rw [← hB, decide_eq_false_iff_not]
      intro e
      exact hlen (by rw [e])
    subst hf
    have hn : ((l.length : Int) != (r.length : Int)) = true := by simp; omega
    have H := Lib.hid h
    have H' := Lib.hid h'
    clear h h'
    clear hlen hB
    go_enter Tryz.func24, Tryz.ntmps24
    go_wp2
    go_ret
    exact ⟨rfl, Below.refl _ _⟩
end Go.Proofs.YtemceefalkfneaaGreatDoor

/- Frames, the program's and the reference's. Condition: at most 10^8 bytes, a kind that is not 0. -/
namespace Go.Proofs.YtemceefalkfneaaGreatDoor
open Go.RowKit

theorem unless_calls (b : Bool) (n : Int) (w : World) : Calls Tryz.prog 27 #[.bool b, .int .i64 n] w fun e w' => e = .returned (.int .i64 (if b then 0 else n)) ∧ w = w' := by
  cases b <;> (go_enter Tryz.func27, Tryz.ntmps27; go_wp2; go_ret; exact ⟨rfl, rfl⟩)
theorem named_calls (k : UInt8) (hk : k ≠ 0) (w : World) : Calls Tryz.prog 63 #[.int .u8 k.toNat] w fun e w' => e = .returned (.int .i64 0) ∧ w = w' := by
  have h : (((k.toNat : Nat) : Int) != 0) = true := by
    simp only [bne_iff_ne, ne_eq]
    intro e
    exact hk (UInt8.toNat_inj.1 (by simpa using e))
  have hC := fun W => unless_calls true 2 W
  have HC := Lib.hid hC
  clear hC
  go_enter Tryz.func63, Tryz.ntmps63
  go_wp2_with (go_at_call 27; (with_reducible refine (HC.out _).mono ?_); rintro e w2 ⟨rfl, rfl⟩)
  go_ret
  exact ⟨rfl, rfl⟩
theorem first_named (k : UInt8) (hk : k ≠ 0) (g : Nat) (w : World) (hc : w.cell? ⟨g, 0, none⟩ = some (.func (.func 63) #[.int .u8 k.toNat] #[])) :
    Calls Tryz.prog 29 #[.slice (some ⟨g, 0, none⟩) 1 1] w fun e w' => e = .returned (.int .i64 0) ∧ w = w' := by
  have hC := fun W => named_calls k hk W
  have HC := Lib.hid hC
  clear hC
  go_enter Tryz.func29, Tryz.ntmps29
  go_wp2_with (fail)
  refine wp_loop_rounds 2 ?_
  rw [rounds_succ]
  go_wp2_with (go_at_call 63; (with_reducible refine (HC.out _).mono ?_); rintro e w2 ⟨rfl, rfl⟩)
  rw [rounds_succ]
  go_wp2
  go_ret
  exact ⟨rfl, rfl⟩

theorem joined_calls (k : UInt8) (l : List UInt8) (a : Option Addr) (n c : Nat) (w : World) (h : Holds w w.heap.size (.row 1 (dB l)) [.slice a n c]) (hl : l.length ≤ 1000000000) :
    Calls Tryz.prog 65 #[.slice a n c, .int .u8 k.toNat] w (BytesPost (k :: l) w) := by
  obtain ⟨hn, hR⟩ := dB_reads h
  subst hn
  have hR0 := hR.alloc (Nat.le_refl _) (.cells #[.int .u8 k.toNat] 5)
  have hown0 : (w.alloc (.cells #[.int .u8 k.toNat] 5)).ownsRow w.heap.size 5 1 (.slice (some ⟨w.heap.size, 0, none⟩) 1 1) [k].length (bcells [k]) := World.ownsRow_lit w #[.int .u8 k.toNat] 1 (Nat.le_refl _) (by simp [maxLen]) rfl
  have H := Lib.hid h
  have HR := Lib.hid hR
  have HR0 := Lib.hid hR0
  have Hown0 := Lib.hid hown0
  clear h hR hR0 hown0
  go_enter Tryz.func65, Tryz.ntmps65
  go_wp2_with (at_builtin; refine wpList_append_by rfl (.tmp 6) (.tmp 7) 26 127 5 rfl Tryz.underlying26 Tryz.underlying127 w.heap.size (.slice (some ⟨w.heap.size, 0, none⟩) 1 1) [k] rfl Hown0.out _ a _ c l rfl HR0.out (by simp; omega) (by simp) ?_; intro v1 w1 hown1 hg1 hat1)
  have hb1 : Below w.heap.size w w1 := ((Below.refl _ _).alloc (Nat.le_refl _) _).grown hg1 (by simp) (by simp [Value.ownBlock])
  have hF := BytesPost.of (l := k :: l) hown1 hb1
  go_ret
  exact hF

/-- Bytes of the call's own, given back with no error. -/
def BytesPost0 (l : List UInt8) (w : World) (e : Ending) (w' : World) : Prop := ∃ a c, e = .returned (.tuple #[.slice a l.length (l.length + c), .int .i64 0]) ∧ Fresh w.heap.size w' (.row 1 (dB l)) [.slice a l.length (l.length + c)] ∧ Below w.heap.size w w'

set_option maxHeartbeats 1000000 in
theorem frame_calls (k : UInt8) (hk : k ≠ 0) (l : List UInt8) (a : Option Addr) (n c : Nat) (w : World) (h : Holds w w.heap.size (.row 1 (dB l)) [.slice a n c]) (hl : l.length ≤ 900000000) :
    Calls Tryz.prog 37 #[.int .u8 k.toNat, .slice a n c] w (BytesPost0 (sealL (k :: l)) w) := by
  have hF := fun W g hc => first_named k hk g W hc
  have hb0 : ∀ o o', Below w.heap.size w ((w.alloc o).alloc o') := fun o o' => ((Below.refl _ _).alloc (Nat.le_refl _) _).alloc (by simp) _
  have hJ := fun (W : World) hb => joined_calls k l a n c W ((h.below (w' := W) hb).more hb.size) (by omega)
  have hl' : (k :: l).length ≤ 1000000000 := by simp; omega
  generalize k :: l = L at hJ hl' ⊢
  have HF := Lib.hid hF
  have HJ := Lib.hid hJ
  have H := Lib.hid h
  clear hF hJ h
  go_enter Tryz.func37, Tryz.ntmps37
  go_wp2_with (fail)
  go_at_call 29
  with_reducible refine (HF.out _ _ ?_).mono ?_
  · simp
  rintro e w2 ⟨rfl, rfl⟩
  go_wp2_with (fail)
  (with_reducible refine (HJ.out _ (hb0 _ _)).mono ?_); rintro e w2 ⟨a1, c1, rfl, hf1, hb1⟩
  go_wp2_with (fail)
  (with_reducible refine (seal_calls L a1 _ _ _ hf1.now hl').mono ?_); rintro e w3 ⟨a2, c2, rfl, hf2, hb2⟩
  go_wp2
  go_ret2
  have hz1 := hb1.size
  refine ⟨a2, c2, rfl, hf2.keep (by simp at hz1; omega) (Nat.le_refl _) (fun _ _ _ => rfl), ((hb0 _ _).trans (hb1.mono (by simp; omega))).trans (hb2.mono (by simp at hz1; omega))⟩

theorem rframe_calls (k : UInt8) (hk : k ≠ 0) (l : List UInt8) (a : Option Addr) (n c : Nat) (w : World) (h : Holds w w.heap.size (.row 1 (dB l)) [.slice a n c]) (hl : l.length ≤ 900000000) :
    Calls Tryz.prog 39 #[.int .u8 k.toNat, .slice a n c] w (BytesPost0 (sealL (k :: l)) w) := by
  obtain ⟨hn, hR⟩ := dB_reads h
  subst hn
  have hne : (((k.toNat : Nat) : Int) == 0) = false := by
    simp only [beq_eq_false_iff_ne, ne_eq]
    intro e
    exact hk (UInt8.toNat_inj.1 (by simpa using e))
  have hR0 := hR.alloc (Nat.le_refl _) (.cells #[.int .u8 k.toNat] 5)
  have hown0 : (w.alloc (.cells #[.int .u8 k.toNat] 5)).ownsRow w.heap.size 5 1 (.slice (some ⟨w.heap.size, 0, none⟩) 1 1) [k].length (bcells [k]) := World.ownsRow_lit w #[.int .u8 k.toNat] 1 (Nat.le_refl _) (by simp [maxLen]) rfl
  have hl' : (k :: l).length ≤ 1000000000 := by simp; omega
  obtain ⟨L, hL⟩ : ∃ L, k :: l = L := ⟨_, rfl⟩
  rw [hL] at hl' ⊢
  have H := Lib.hid h
  have HR := Lib.hid hR
  have HR0 := Lib.hid hR0
  have Hown0 := Lib.hid hown0
  have HL := Lib.hid hL
  clear h hR hR0 hown0 hL
  go_enter Tryz.func39, Tryz.ntmps39
  go_wp2_with (at_builtin; refine wpList_append_by rfl (.tmp 9) (.tmp 10) 26 26 5 rfl Tryz.underlying26 Tryz.underlying26 w.heap.size (.slice (some ⟨w.heap.size, 0, none⟩) 1 1) [k] rfl Hown0.out _ a _ c l rfl HR0.out (by simp; omega) (by simp) ?_; intro v1 w1 hown1 hg1 hat1)
  have hb1 : Below w.heap.size w w1 := ((Below.refl _ _).alloc (Nat.le_refl _) _).grown hg1 (by simp) (by simp [Value.ownBlock])
  rw [show [k] ++ l = L from HL.out] at hown1
  obtain ⟨a1, c1, rfl, hf1⟩ := own_bytes (l := L) hown1
  have hz1 := hb1.size
  clear hown1 hg1 hat1
  go_wp2_with (go_at_call 68; (with_reducible refine (rseal_calls L a1 _ _ _ hf1.now hl').mono ?_); rintro e w3 ⟨a2, c2, rfl, hf2, hb2⟩)
  go_ret2
  exact ⟨a2, c2, rfl, hf2.keep hz1 (Nat.le_refl _) (fun _ _ _ => rfl), hb1.trans (hb2.mono hz1)⟩
end Go.Proofs.YtemceefalkfneaaGreatDoor
