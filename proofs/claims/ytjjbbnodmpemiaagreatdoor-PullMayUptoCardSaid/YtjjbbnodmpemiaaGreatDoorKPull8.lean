/- Parts, joined: utf.Quote: the walk. Condition: a text shorter than 10^9. What writes a value's text: the functions that own hands back. Condition: a bulk of at most 10^9. How the reference writes a rune, against how the program does. Plain. No condition. commonplaceref01.Quote: the quote of a text. Condition: a text of at most 10^9 bytes. What writes a value's text: the plain kinds. Condition: a bulk of at most 10^9. -/
import Derived.Test.YtjjbbnodmpemiaaGreatDoorProg
import Derived.Deep.QuietTactic
import Derived.Lib.ItoaLen
import Derived.Test.YtjjbbnodmpemiaaGreatDoorKPull7
/- utf.Quote: the walk. Condition: a text shorter than 10^9. -/
namespace Go.Proofs.YtjjbbnodmpemiaaGreatDoor
open Go.RowKit
attribute [local go_sem] Oper.semAt_some

/-- What holds between two rounds: w: where the call began; g: the builder's block; lb: the box of 'letters'; d: where the loop began. -/
def QI (w : World) (g lb d : Nat) (pre : List (Nat × Nat)) (W : World) : Prop :=
  Below w.heap.size w W ∧ BB W w.heap.size g (34 :: quoteRunes pre) ∧ ∃ m, Letters W lb d m

set_option maxRecDepth 100000 in
set_option maxHeartbeats 2000000 in
theorem Quote_valid (s : ByteArray) (w : World) (hT : Tabs w) (hs : s.size ≤ 1000000000) (hv : validB s = true) :
    Calls Tryz.prog 123 #[.string s] w fun e w' => e = .returned (.tuple #[.string ⟨(34 :: quoteRunes (runes s) ++ [34]).toArray⟩, .int .i64 0]) ∧ Below w.heap.size w w' := by
  refine (callsIn_wide (n := 12)).1 ?_
  refine callsIn_of_wp_marks Tryz.func123 rfl trivial ?_ rfl
  simp only [Tryz.ntmps123, List.size_toArray, List.length_cons, List.length_nil, Nat.reduceAdd, Nat.reduceSub, Array.replicate_succ, Array.replicate_zero, List.push_toArray, List.append_toArray, List.nil_append, List.cons_append]
  gi_wp2_with (refine ⟨trivial, ?_⟩; gi_at_call 73; refine (callsIn_wide.2 (utfValid_calls2 hv _ (by omega) hT)).mono ?_; rintro e w1 ⟨rfl, hb1⟩)
  have hz1 := hb1.size
  have hB1 : BB ((w1.alloc (.cells #[.map none] 186)).alloc (.cells #[.pointer none, .slice none 0 0] 100)) w.heap.size (w1.heap.size + 1) [] :=
    ⟨_, _, by omega, by rw [← World.size_alloc w1 (.cells #[.map none] 186)]; exact heap_alloc_new _ _, by decide, by simp, .inl rfl, .slice none 0 0, rfl, World.ownsRow_nil _ _ _ _⟩
  have hL1 : ((w1.alloc (.cells #[.map none] 186)).alloc (.cells #[.pointer none, .slice none 0 0] 100)).heap[w1.heap.size]? = some (.cells #[.map none] 186 (0, 0)) :=
    (Below.heap_alloc _ _ _ (by simp)).trans (heap_alloc_new _ _)
  have hbx : Below w.heap.size w ((w1.alloc (.cells #[.map none] 186)).alloc (.cells #[.pointer none, .slice none 0 0] 100)) := (hb1.alloc hz1 _).alloc (by simp; omega) _
  gi_wp2_with (first | (refine ⟨trivial, ?_⟩; gi_at_call 138; refine (callsIn_wide.2 (bb_WriteByte 34 (by omega) (by omega) hB1 (by simp))).mono ?_; rintro e w2 ⟨rfl, hB2, hb2, hk2⟩) | (refine ⟨trivial, ?_⟩; gi_at_call 139; refine (callsIn_wide.2 (Runes_calls _ _)).mono ?_; rintro e w3 ⟨rfl, rfl⟩))
  have hz2 := hb2.size
  simp only [World.size_alloc] at hz2
  have hL2 : w2.heap[w1.heap.size]? = some (.cells #[.map none] 186 (0, 0)) := hk2 _ _ hL1 (by simp) (fun c fz e => by cases e)
  have hbw2 : Below w.heap.size w w2 := hbx.trans hb2
  clear hB1 hL1 hb1 hk2 hb2 hbx
  have hnew := heap_alloc_new w2 (.cells #[.string s] 9)
  have hT3 : Tabs (w2.alloc (.cells #[.string s] 9)) := hT.below (hbw2.alloc (by omega) _)
  have hyld := runes_yields s w2.heap.size hs
  have hB3 : BB (w2.alloc (.cells #[.string s] 9)) w.heap.size (w1.heap.size + 1) (34 :: quoteRunes []) := hB2.below ((Below.refl _ _).alloc (Nat.le_refl _) _)
  have hL3 := (Below.heap_alloc w2 (.cells #[.string s] 9) w1.heap.size (by omega)).trans hL2
  have hbw3 : Below w.heap.size w (w2.alloc (.cells #[.string s] 9)) := hbw2.alloc (by omega) _
  have hz3 : w2.heap.size + 1 = (w2.alloc (.cells #[.string s] 9)).heap.size := by simp
  generalize w2.alloc (.cells #[.string s] 9) = w3 at *
  refine wp_range_all (n := 10) (gf := 151) (lb := #[.pointer (some ⟨w2.heap.size, 0, none⟩)]) rfl (enters_of Tryz.func151 (by kernel_rfl) rfl) hyld (fun _ => rfl)
    (fun pre W => QI w (w1.heap.size + 1) w1.heap.size w3.heap.size pre W ∧ W.heap[w2.heap.size]? = some (.cells #[.string s] 9 (0, 0))) ?hIn ?hIp ?hIb ?h0 ?a1 ?assign ?body ?done
  case assign =>
    intro l x W K hK
    gi_wp2
    exact hK
  case h0 => exact ⟨⟨hbw3, hB3, none, hL3, fun _ h => by cases h⟩, hnew⟩
  case hIb =>
    rintro pre A ⟨⟨h1, h2, h3⟩, h4⟩
    exact ⟨(Lib.cell_of_heap h4 0).trans rfl, hT.below h1⟩
  case hIn =>
    rintro pre A B ⟨⟨h1, h2, m, h3, h5⟩, h4⟩ hb
    refine ⟨⟨h1.trans (hb.mono h1.size), h2.below hb, m, (hb.block _ (Array.getElem?_eq_some_iff.1 h3).1).trans h3, fun mb e => ⟨(h5 mb e).1, (hb.block _ (Array.getElem?_eq_some_iff.1 (h5 mb e).2).1).trans (h5 mb e).2⟩⟩, (hb.block _ (Array.getElem?_eq_some_iff.1 h4).1).trans h4⟩
  case hIp =>
    rintro pre A k o o' ⟨⟨h1, h2, m, h3, h5⟩, h4⟩ ho hc hk
    have hkw : w.heap.size ≤ k := by omega
    have hk1 : k < A.heap.size := (Array.getElem?_eq_some_iff.1 ho).1
    refine ⟨⟨h1.grown (grownBy_putObj' A k o') (by omega) (fun j e => by cases e; exact hkw), h2.put ho hc, m, ?_, fun mb e => ⟨(h5 mb e).1, ?_⟩⟩, ?_⟩
    · rw [World.putObj_heap_other (by omega)]; exact h3
    · have := (h5 mb e).1
      rw [World.putObj_heap_other (by omega)]; exact (h5 mb e).2
    · rw [World.putObj_heap_other (by omega)]; exact h4
  case body =>
    rintro l pre x rest W hx ⟨⟨h1, h2, m, h3, h5⟩, h4⟩ ⟨ds, hds⟩ ⟨rc, hrc⟩
    have hlen : (quoteRunes pre).length ≤ 6000000000 := by
      have e1 := quoteRunes_len pre
      have e2 := congrArg List.length hx
      have e3 := runesFrom_len s.size s.data.toList 0
      simp only [List.length_append, List.length_cons] at e2
      unfold runes at e2
      omega
    have hr : x.2 ≤ 1114111 := runesFrom_le s.size s.data.toList 0 x (by show x ∈ runes s; rw [hx]; simp)
    have hsn : quoteRunes (pre ++ [x]) = quoteRunes pre ++ quoteRune x.2 := by simp [quoteRunes]
    obtain ⟨p, r⟩ := x
    simp only at hr hsn
    have hz := h1.size
    have hDm : w3.heap.size + 1 < W.heap.size := (Array.getElem?_eq_some_iff.1 hrc).1
    have hdt : w1.heap.size + 1 < w3.heap.size := by omega
    have hsb : w2.heap.size < w3.heap.size := by omega
    have hsa : w1.heap.size + 1 < w2.heap.size := by omega
    have fin : ∀ (a : Act) (X : World) (bs : List UInt8), BB X w.heap.size (w1.heap.size + 1) bs → bs = 34 :: quoteRunes (pre ++ [(p, r)]) → Below w.heap.size w X → (∃ m, Letters X w1.heap.size w3.heap.size m) →
        X.heap[w3.heap.size]? = some (.deferred ds) → X.heap[w3.heap.size + 1]? = some (.loop rc) → X.heap[w2.heap.size]? = some (.cells #[.string s] 9 (0, 0)) →
        goesOn (fun X => QI w (w1.heap.size + 1) w1.heap.size w3.heap.size (pre ++ [(p, r)]) X ∧ X.heap[w2.heap.size]? = some (.cells #[.string s] 9 (0, 0))) w3.heap.size W .normal a X := by
      intro a X bs hb e hbw hl hd hr2 hbox
      subst e
      exact ⟨hd.trans hds.symm, hr2.trans hrc.symm, ⟨hbw, hb, hl⟩, hbox⟩
    have Fin := Lib.hid fin
    clear fin
    by_cases hst : 32 ≤ r ∧ r ≠ 34 ∧ r ≠ 92
    · have hq : quoteRune r = Lib.encodeRune r := by unfold quoteRune; rw [if_pos hst]
      have hB : decide (32 ≤ (r : Int) ∧ (r : Int) ≠ 34 ∧ (r : Int) ≠ 92) = true := by simp; omega
      have Hq : Hid ((34 :: quoteRunes pre) ++ Lib.encodeRune r = 34 :: quoteRunes (pre ++ [(p, r)])) := by
        show _ = _
        rw [hsn, hq]; rfl
      clear hsn hq hst hx
      gi_wp2_with (first | (refine ⟨trivial, ?_⟩; gi_at_call 140; refine (CallsIn.inRound l (callsIn_wide.2 (standsFor_calls2 hB _))).mono ?_; rintro e wx ⟨rfl, rfl⟩) | (refine ⟨trivial, ?_⟩; gi_at_call 141; refine (CallsIn.inRound l (callsIn_wide.2 (bb_WriteRune (r : Int) (by omega) (by omega) h2 (by simp; omega)))).mono ?_; rintro e w4 ⟨⟨kk, rfl⟩, hB4, hb4, hk4⟩))
      exact Fin.out _ _ _ hB4 Hq.out (h1.trans hb4) ⟨m, hk4 _ _ h3 (by simp) (fun c fz e => by cases e), fun mb e => ⟨(h5 mb e).1, hk4 _ _ (h5 mb e).2 (by have := (h5 mb e).1; simp; omega) (fun c fz e => by cases e)⟩⟩
        (hk4 _ _ hds (by simp; omega) (fun c fz e => by cases e)) (hk4 _ _ hrc (by simp; omega) (fun c fz e => by cases e)) (hk4 _ _ h4 (by simp; omega) (fun c fz e => by cases e))
    · have hB : decide (32 ≤ (r : Int) ∧ (r : Int) ≠ 34 ∧ (r : Int) ≠ 92) = false := by simp; omega
      have hnil := fun (wx : World) (m0 : Option Nat) => run_eql_map_nil (P := Tryz.prog) wx 186 _ _ m0 Tryz.underlying186
      rcases m with _ | mb
      · -- 'letters' is nil: it is made
        obtain ⟨X, hX⟩ : ∃ X, (W.setCell ⟨w1.heap.size, 0, none⟩ (.map (some W.heap.size))).alloc (.map (ents letterTab 0).toArray letterTab.length) = X := ⟨_, rfl⟩
        have hsz : (W.setCell ⟨w1.heap.size, 0, none⟩ (.map (some W.heap.size))).heap.size = W.heap.size := by simp [World.setCell]
        have hXk : ∀ k, k ≠ w1.heap.size → k < W.heap.size → X.heap[k]? = W.heap[k]? := fun k hk hk' => by
          rw [← hX, Below.heap_alloc _ _ _ (by omega), Below.heap_setCell _ _ _ _ hk]
        have hXB : BB X w.heap.size (w1.heap.size + 1) (34 :: quoteRunes pre) := by
          rw [← hX]
          exact (h2.store h3 (by decide) (by omega) 0 _).below ((Below.refl _ _).alloc (Nat.le_refl _) _)
        have hXw : Below w.heap.size w X := by
          rw [← hX]
          exact (h1.setCell (p := ⟨w1.heap.size, 0, none⟩) hz1 _).alloc (by omega) _
        have hXl : X.heap[w1.heap.size]? = some (.cells #[.map (some W.heap.size)] 186 (0, 0)) := by
          rw [← hX, Below.heap_alloc _ _ _ (by omega)]
          exact setCell_heap h3 _
        have hXm : X.heap[W.heap.size]? = some (.map (ents letterTab 0).toArray letterTab.length) := by
          rw [← hX]
          have := heap_alloc_new (W.setCell ⟨w1.heap.size, 0, none⟩ (.map (some W.heap.size))) (.map (ents letterTab 0).toArray letterTab.length)
          rwa [hsz] at this
        have hXd := (hXk _ (by omega) (by omega)).trans hds
        have hXr := (hXk _ (by omega) (by omega)).trans hrc
        have hX4 := (hXk _ (by omega) (by omega)).trans h4
        have c3 : W.cell? ⟨w1.heap.size, 0, none⟩ = some (.map none) := (Lib.cell_of_heap h3 0).trans rfl
        have f3 : W.frozen? ⟨w1.heap.size, 0, none⟩ = false := Lib.frozen_of_heap h3 0
        have hlb : w1.heap.size < W.heap.size := by omega
        have hlk := run_look X W.heap.size letterTab r hXm
        have hmb : w3.heap.size + 1 < W.heap.size := hDm
        subst hX
        cases hf : findKV (r : Int) letterTab with
        | some c =>
          rw [hf] at hlk
          simp only [Option.getD_some, Option.isSome_some] at hlk
          have hc := letters_range hf
          have hc0 := hc.1
          have hc1 := hc.2
          have hq : quoteRune r = [92, UInt8.ofNat c.toNat] := by unfold quoteRune; rw [if_neg hst, hf]
          have Hq : Hid (((34 :: quoteRunes pre) ++ [UInt8.ofNat (Int.toNat 92)]) ++ Lib.encodeRune c = 34 :: quoteRunes (pre ++ [(p, r)])) := by
            show _ = _
            rw [hsn, hq, encode_small (by omega) hc1]; simp
          clear hsn hq hst hx hf hc h5 h2
          gi_wp2_with (first | (refine ⟨trivial, ?_⟩; gi_at_call 140; refine (CallsIn.inRound l (callsIn_wide.2 (standsFor_calls2 hB _))).mono ?_; rintro e wx ⟨rfl, rfl⟩) | (refine ⟨trivial, ?_⟩; gi_at_call 142; refine (CallsIn.inRound l (callsIn_wide.2 (letters_calls2 _))).mono ?_; rintro e wx ⟨rfl, rfl⟩) | (refine ⟨trivial, ?_⟩; gi_at_call 138; refine (CallsIn.inRound l (callsIn_wide.2 (bb_WriteByte 92 (by omega) (by omega) hXB (by simp; omega)))).mono ?_; rintro e w4 ⟨rfl, hB4, hb4, hk4⟩) | (refine ⟨trivial, ?_⟩; gi_at_call 141; refine (CallsIn.inRound l (callsIn_wide.2 (bb_WriteRune c (by omega) (by omega) hB4 (by simp; omega)))).mono ?_; rintro e w5 ⟨⟨kk, rfl⟩, hB5, hb5, hk5⟩))
          have hkk := hk4.trans hk5
          exact Fin.out _ _ _ hB5 Hq.out ((hXw.trans hb4).trans hb5) ⟨some W.heap.size, hkk _ _ hXl (by simp) (fun c fz e => by cases e), fun m' e => by cases e; exact ⟨hmb, hkk _ _ hXm (by simp; omega) (fun c fz e => by cases e)⟩⟩
            (hkk _ _ hXd (by simp; omega) (fun c fz e => by cases e)) (hkk _ _ hXr (by simp; omega) (fun c fz e => by cases e)) (hkk _ _ hX4 (by simp; omega) (fun c fz e => by cases e))
        | none =>
          rw [hf] at hlk
          simp only [Option.getD_none, Option.isSome_none] at hlk
          have hr32 := letters_none hf hst
          have hq : quoteRune r = [92, 117, 48, 48, hexd (r / 16), hexd (r % 16)] := by unfold quoteRune; rw [if_neg hst, hf]
          gi_wp2_with (first | (refine ⟨trivial, ?_⟩; gi_at_call 140; refine (CallsIn.inRound l (callsIn_wide.2 (standsFor_calls2 hB _))).mono ?_; rintro e wx ⟨rfl, rfl⟩) | (refine ⟨trivial, ?_⟩; gi_at_call 142; refine (CallsIn.inRound l (callsIn_wide.2 (letters_calls2 _))).mono ?_; rintro e wx ⟨rfl, rfl⟩) | (refine ⟨trivial, ?_⟩; gi_at_call 120; refine (CallsIn.inRound l (callsIn_wide.2 (bb_WriteString ⟨#[92, 117, 48, 48]⟩ hXB (by simp [ByteArray.size]; omega)))).mono ?_; rintro e w4 ⟨rfl, hB4, hb4, hk4⟩))
          refine ⟨trivial, ?_⟩
          refine (CallsIn.inRound l (callsIn_wide.2 (bb_WriteB _ hB4 (by simp; omega)))).mono ?_
          rintro e w5 ⟨rfl, hB5, hb5, hk5⟩
          rw [hexd_at ⟨r / 16, by omega⟩] at hB5
          have hand := and15 ⟨r, hr32⟩
          dsimp only at hand
          have hm0 : 0 ≤ (r : Int) % 16 := by omega
          have hm1 : (r : Int) % 16 < 16 := by omega
          have hm2 : r % 16 < 16 := by omega
          gi_wp2_with fail
          refine ⟨trivial, ?_⟩
          refine (CallsIn.inRound l (callsIn_wide.2 (bb_WriteB _ hB5 (by simp; omega)))).mono ?_
          rintro e w6 ⟨rfl, hB6, hb6, hk6⟩
          rw [hexd_at ⟨r % 16, by omega⟩] at hB6
          gi_wp2_with fail
          have hkk := (hk4.trans hk5).trans hk6
          have Hq : (((34 :: quoteRunes pre) ++ [92, 117, 48, 48]) ++ [hexd (r / 16)]) ++ [hexd (r % 16)] = 34 :: quoteRunes (pre ++ [(p, r)]) := by
            rw [hsn, hq]; simp
          exact Fin.out _ _ _ hB6 Hq (((hXw.trans hb4).trans hb5).trans hb6) ⟨some W.heap.size, hkk _ _ hXl (by simp) (fun c fz e => by cases e), fun m' e => by cases e; exact ⟨hmb, hkk _ _ hXm (by simp; omega) (fun c fz e => by cases e)⟩⟩
            (hkk _ _ hXd (by simp; omega) (fun c fz e => by cases e)) (hkk _ _ hXr (by simp; omega) (fun c fz e => by cases e)) (hkk _ _ hX4 (by simp; omega) (fun c fz e => by cases e))
      · -- 'letters' was made
        have hXm := (h5 mb rfl).2
        have hmb := (h5 mb rfl).1
        have c3 : W.cell? ⟨w1.heap.size, 0, none⟩ = some (.map (some mb)) := (Lib.cell_of_heap h3 0).trans rfl
        have hlk := run_look W mb letterTab r hXm
        have hXB := h2
        have hXw := h1
        have hXl := h3
        have hXd := hds
        have hXr := hrc
        have hX4 := h4
        cases hf : findKV (r : Int) letterTab with
        | some c =>
          rw [hf] at hlk
          simp only [Option.getD_some, Option.isSome_some] at hlk
          have hc := letters_range hf
          have hc0 := hc.1
          have hc1 := hc.2
          have hq : quoteRune r = [92, UInt8.ofNat c.toNat] := by unfold quoteRune; rw [if_neg hst, hf]
          have Hq : Hid (((34 :: quoteRunes pre) ++ [UInt8.ofNat (Int.toNat 92)]) ++ Lib.encodeRune c = 34 :: quoteRunes (pre ++ [(p, r)])) := by
            show _ = _
            rw [hsn, hq, encode_small (by omega) hc1]; simp
          clear hsn hq hst hx hf hc h5 h2
          gi_wp2_with (first | (refine ⟨trivial, ?_⟩; gi_at_call 140; refine (CallsIn.inRound l (callsIn_wide.2 (standsFor_calls2 hB _))).mono ?_; rintro e wx ⟨rfl, rfl⟩) | (refine ⟨trivial, ?_⟩; gi_at_call 138; refine (CallsIn.inRound l (callsIn_wide.2 (bb_WriteByte 92 (by omega) (by omega) hXB (by simp; omega)))).mono ?_; rintro e w4 ⟨rfl, hB4, hb4, hk4⟩) | (refine ⟨trivial, ?_⟩; gi_at_call 141; refine (CallsIn.inRound l (callsIn_wide.2 (bb_WriteRune c (by omega) (by omega) hB4 (by simp; omega)))).mono ?_; rintro e w5 ⟨⟨kk, rfl⟩, hB5, hb5, hk5⟩))
          have hkk := hk4.trans hk5
          exact Fin.out _ _ _ hB5 Hq.out ((hXw.trans hb4).trans hb5) ⟨some mb, hkk _ _ hXl (by simp) (fun c fz e => by cases e), fun m' e => by cases e; exact ⟨hmb, hkk _ _ hXm (by simp; omega) (fun c fz e => by cases e)⟩⟩
            (hkk _ _ hXd (by simp; omega) (fun c fz e => by cases e)) (hkk _ _ hXr (by simp; omega) (fun c fz e => by cases e)) (hkk _ _ hX4 (by simp; omega) (fun c fz e => by cases e))
        | none =>
          rw [hf] at hlk
          simp only [Option.getD_none, Option.isSome_none] at hlk
          have hr32 := letters_none hf hst
          have hq : quoteRune r = [92, 117, 48, 48, hexd (r / 16), hexd (r % 16)] := by unfold quoteRune; rw [if_neg hst, hf]
          gi_wp2_with (first | (refine ⟨trivial, ?_⟩; gi_at_call 140; refine (CallsIn.inRound l (callsIn_wide.2 (standsFor_calls2 hB _))).mono ?_; rintro e wx ⟨rfl, rfl⟩) | (refine ⟨trivial, ?_⟩; gi_at_call 120; refine (CallsIn.inRound l (callsIn_wide.2 (bb_WriteString ⟨#[92, 117, 48, 48]⟩ hXB (by simp [ByteArray.size]; omega)))).mono ?_; rintro e w4 ⟨rfl, hB4, hb4, hk4⟩))
          refine ⟨trivial, ?_⟩
          refine (CallsIn.inRound l (callsIn_wide.2 (bb_WriteB _ hB4 (by simp; omega)))).mono ?_
          rintro e w5 ⟨rfl, hB5, hb5, hk5⟩
          rw [hexd_at ⟨r / 16, by omega⟩] at hB5
          have hand := and15 ⟨r, hr32⟩
          dsimp only at hand
          have hm0 : 0 ≤ (r : Int) % 16 := by omega
          have hm1 : (r : Int) % 16 < 16 := by omega
          have hm2 : r % 16 < 16 := by omega
          gi_wp2_with fail
          refine ⟨trivial, ?_⟩
          refine (CallsIn.inRound l (callsIn_wide.2 (bb_WriteB _ hB5 (by simp; omega)))).mono ?_
          rintro e w6 ⟨rfl, hB6, hb6, hk6⟩
          rw [hexd_at ⟨r % 16, by omega⟩] at hB6
          gi_wp2_with fail
          have hkk := (hk4.trans hk5).trans hk6
          have Hq : (((34 :: quoteRunes pre) ++ [92, 117, 48, 48]) ++ [hexd (r / 16)]) ++ [hexd (r % 16)] = 34 :: quoteRunes (pre ++ [(p, r)]) := by
            rw [hsn, hq]; simp
          exact Fin.out _ _ _ hB6 Hq (((hXw.trans hb4).trans hb5).trans hb6) ⟨some mb, hkk _ _ hXl (by simp) (fun c fz e => by cases e), fun m' e => by cases e; exact ⟨hmb, hkk _ _ hXm (by simp; omega) (fun c fz e => by cases e)⟩⟩
            (hkk _ _ hXd (by simp; omega) (fun c fz e => by cases e)) (hkk _ _ hXr (by simp; omega) (fun c fz e => by cases e)) (hkk _ _ hX4 (by simp; omega) (fun c fz e => by cases e))
  case done =>
    rintro W ⟨⟨h1, h2, m, h3, h5⟩, h4⟩ hds
    have hdt : w1.heap.size + 1 < w3.heap.size := by omega
    have hlen : (quoteRunes (runes s)).length ≤ 6000000000 := by
      have e1 := quoteRunes_len (runes s)
      have e3 := runesFrom_len s.size s.data.toList 0
      unfold runes at e1 ⊢
      omega
    gi_wp2_with (first | (refine ⟨trivial, ?_⟩; gi_at_call 138; refine (callsIn_wide.2 (bb_WriteByte 34 (by omega) (by omega) h2 (by simp; omega))).mono ?_; rintro e w4 ⟨rfl, hB4, hb4, hk4⟩) | (refine ⟨trivial, ?_⟩; gi_at_call 61; refine (callsIn_wide.2 (bb_String hB4 (by simp))).mono ?_; rintro e w5 ⟨rfl, hb5, hk5⟩))
    have hd4 := hk4 _ _ hds (by simp; omega) (fun c fz e => by cases e)
    have hd5 := hk5 _ _ hd4 (by simp; omega) (fun c fz e => by cases e)
    refine ⟨by simp, .inl ⟨_, _, rfl, run_takeDeferred hd5, ?_⟩⟩
    have hbw5 : Below w.heap.size w w5 := (h1.trans hb4).trans hb5
    refine ⟨_, results_tmp2 rfl _ _ _, rfl, hbw5.grown (grownBy_putObj' w5 _ _) hbw5.size (fun k e => by cases e; omega)⟩

end Go.Proofs.YtjjbbnodmpemiaaGreatDoor

/- What writes a value's text: the functions that own hands back. Condition: a bulk of at most 10^9. -/
namespace Go.Proofs.YtjjbbnodmpemiaaGreatDoor
open Go.RowKit

def quoteB (s : ByteArray) : List UInt8 := 34 :: quoteRunes (runes s) ++ [34]

mutual
/-- A value's text. -/
def textV : Val → List UInt8
  | .mk k b n t l o =>
    if k = 2 then Lib.formatBool b else if k = 3 then Lib.itoa n else if k = 4 then quoteB t
    else if k = 5 then 91 :: (textL l true ++ [93]) else if k = 6 then 123 :: (textO o true ++ [125]) else [110, 117, 108, 108]
def textL : List Val → Bool → List UInt8
  | [], _ => []
  | v :: r, f => (if f then [] else [44]) ++ (textV v ++ textL r false)
def textO : List (ByteArray × Val) → Bool → List UInt8
  | [], _ => []
  | p :: r, f => (if f then [] else [44]) ++ (textP p ++ textO r false)
def textP : ByteArray × Val → List UInt8
  | (key, v) => quoteB key ++ (58 :: textV v)
end

mutual
/-- All texts and keys in a value are texts; its Ints are of 64 bits. -/
def okV : Val → Prop
  | .mk _ _ n t l o => validB t = true ∧ (-9223372036854775808 ≤ n ∧ n ≤ 9223372036854775807) ∧ okL l ∧ okO o
def okL : List Val → Prop
  | [] => True
  | v :: r => okV v ∧ okL r
def okO : List (ByteArray × Val) → Prop
  | [] => True
  | p :: r => okP p ∧ okO r
def okP : ByteArray × Val → Prop
  | (key, v) => validB key = true ∧ okV v
end

/-- Which function writes a value of this kind, and what it has captured. -/
def ownF (k : Int) : Nat :=
  if k = 2 then 83 else if k = 3 then 86 else if k = 4 then 88 else if k = 5 then 90 else if k = 6 then 92 else 94
def ownCaps (k : Int) (p : Nat) : Array Value :=
  if k = 2 ∨ k = 3 ∨ k = 4 ∨ k = 5 ∨ k = 6 then #[.pointer (some ⟨p, 0, none⟩)] else #[]

theorem enters_ownF (k : Int) (args : Array Value) (w : World) : (callFunc (ownF k) args).run Tryz.prog w = .ok (.enter (ownF k) args) w := by
  unfold ownF
  split
  · exact enters_of Tryz.func83 (by kernel_rfl) rfl args w
  split
  · exact enters_of Tryz.func86 (by kernel_rfl) rfl args w
  split
  · exact enters_of Tryz.func88 (by kernel_rfl) rfl args w
  split
  · exact enters_of Tryz.func90 (by kernel_rfl) rfl args w
  split
  · exact enters_of Tryz.func92 (by kernel_rfl) rfl args w
  · exact enters_of Tryz.func94 (by kernel_rfl) rfl args w

set_option maxHeartbeats 1000000 in
theorem own_calls (k : Int) (b : Bool) (n : Int) (t : ByteArray) (la oa : Option Addr) (ln lc on oc : Nat) (w : World) :
    Calls Tryz.prog 60 #[.agg #[.int .i64 k, .bool b, .int .i64 n, .string t, .slice la ln lc, .slice oa on oc]] w fun e w' =>
      e = .returned (.func (.func (ownF k)) #[] (ownCaps k w.heap.size)) ∧ w.alloc (.cells #[.int .i64 k, .bool b, .int .i64 n, .string t, .slice la ln lc, .slice oa on oc] 45) = w' := by
  rcases (by omega : k = 2 ∨ k = 3 ∨ k = 4 ∨ k = 5 ∨ k = 6 ∨ (k ≠ 2 ∧ k ≠ 3 ∧ k ≠ 4 ∧ k ≠ 5 ∧ k ≠ 6)) with rfl | rfl | rfl | rfl | rfl | ⟨h2, h3, h4, h5, h6⟩
  all_goals
    try have e2 : (k == 2) = false := by simpa using h2
    try have e3 : (k == 3) = false := by simpa using h3
    try have e4 : (k == 4) = false := by simpa using h4
    try have e5 : (k == 5) = false := by simpa using h5
    try have e6 : (k == 6) = false := by simpa using h6
    try have hf : Hid (ownF k = 94) := by show _ = _; simp [ownF, h2, h3, h4, h5, h6]
    try have hc : Hid (ownCaps k w.heap.size = #[]) := by show _ = _; simp [ownCaps, h2, h3, h4, h5, h6]
    try clear h2 h3 h4 h5 h6
    go_enter Tryz.func60, Tryz.ntmps60
    go_wp2
    go_ret
  all_goals first | exact ⟨rfl, rfl⟩ | exact ⟨by rw [hf.out, hc.out]; rfl, rfl⟩

/-- What is to be shown of the function that writes v. -/
def WritesC (v : Val) : Prop := ∀ (W : World) (B g p : Nat) (keeps : Bool) (acc : List UInt8) (cs : List Value) (k : Int) (b : Bool) (n : Int) (t : ByteArray) (l : List Val) (o : List (ByteArray × Val)), v = .mk k b n t l o → 5 ≤ B → Tabs W → HoldsV W B v cs →
    W.heap[p]? = some (.cells cs.toArray 45 (0, 0)) → p ≠ g → Wr W B g keeps acc → okV v → v.bulk ≤ 1000000000 → acc.length + 6 * v.bulk ≤ 20000000000 →
    Calls Tryz.prog (ownF k) (#[.pointer (some ⟨g, 0, none⟩)] ++ ownCaps k p) W fun e W' => e = .returned (.tuple #[]) ∧ Wr W' B g keeps (acc ++ textV v) ∧ Below B W W' ∧ Kept g W W'

end Go.Proofs.YtjjbbnodmpemiaaGreatDoor

/- How the reference writes a rune, against how the program does. Plain. No condition. -/
namespace Go.Proofs.YtjjbbnodmpemiaaGreatDoor
open Go.RowKit

/-- The escapes' letters. -/
def letTab : List UInt8 := [34, 92, 47, 98, 102, 110, 114, 116]

theorem quoteRune_let : ∀ j : Fin 8, j.val ≠ 2 → quoteRune ((codeTab.getD j.val 0).toNat) = [92, letTab.getD j.val 0] := by decide

/-- No escape of one letter. -/
def NoLet (r : Nat) (j : Nat) : Prop := ∀ i : Nat, i < j → i ≠ 2 → codeTab.getD i 0 ≠ (r : Int)

theorem NoLet.all {r : Nat} (h : NoLet r 8) : r ≠ 34 ∧ r ≠ 92 ∧ r ≠ 8 ∧ r ≠ 12 ∧ r ≠ 10 ∧ r ≠ 13 ∧ r ≠ 9 := by
  have h0 := h 0 (by omega) (by omega)
  have h1 := h 1 (by omega) (by omega)
  have h3 := h 3 (by omega) (by omega)
  have h4 := h 4 (by omega) (by omega)
  have h5 := h 5 (by omega) (by omega)
  have h6 := h 6 (by omega) (by omega)
  have h7 := h 7 (by omega) (by omega)
  simp [codeTab] at h0 h1 h3 h4 h5 h6 h7
  omega

theorem quoteRune_no {r : Nat} (h : NoLet r 8) : quoteRune r = if r < 32 then [92, 117, 48, 48, hexd (r / 16), hexd (r % 16)] else Lib.encodeRune r := by
  obtain ⟨a1, a2, a3, a4, a5, a6, a7⟩ := h.all
  unfold quoteRune
  by_cases h32 : r < 32
  · rw [if_neg (by omega), if_pos h32]
    have : findKV (r : Int) letterTab = none := by
      simp only [letterTab, findKV]
      repeat rw [if_neg (by omega)]
    rw [this]
  · rw [if_pos (by omega), if_neg h32]

theorem NoLet.step {r j : Nat} (h : NoLet r j) (hj : j = 2 ∨ codeTab.getD j 0 ≠ (r : Int)) : NoLet r (j + 1) := by
  intro i hi h2
  by_cases he : i = j
  · subst he
    rcases hj with hj | hj
    · exact absurd hj h2
    · exact hj
  · exact h i (by omega) h2

/-- What a rune of a text is. -/
def scalar (r : Nat) : Prop := r ≤ 1114111 ∧ ¬(55296 ≤ r ∧ r < 57344)

theorem atEnd_range (F : Option Int) (n : Nat) (least : Int) : (atEnd F n least).2 = 0 ∨ ((atEnd F n least).1 ≤ 1114111 ∧ ¬(55296 ≤ (atEnd F n least).1 ∧ (atEnd F n least).1 < 57344)) := by
  unfold atEnd
  split
  · simp
  · split
    · simp
    · rename_i h
      right
      simp only
      omega

theorem atTail_range (rest : List UInt8) (n : Nat) (r0 least : Int) : (atTail rest n r0 least).2 = 0 ∨ ((atTail rest n r0 least).1 ≤ 1114111 ∧ ¬(55296 ≤ (atTail rest n r0 least).1 ∧ (atTail rest n r0 least).1 < 57344)) := by
  unfold atTail
  split
  · exact .inl rfl
  · exact atEnd_range _ _ _
theorem atSpec_range (l : List UInt8) : (atSpec l).2 = 0 ∨ ((atSpec l).1 ≤ 1114111 ∧ ¬(55296 ≤ (atSpec l).1 ∧ (atSpec l).1 < 57344)) := by
  cases l with
  | nil => exact .inl rfl
  | cons c rest =>
    rw [atSpec_cons]
    by_cases h1 : (c.toNat : Int) < 128
    · rw [if_pos h1]
      right
      simp only
      omega
    rw [if_neg h1]
    split
    · exact atTail_range _ _ _ _
    split
    · exact atTail_range _ _ _ _
    split
    · exact atTail_range _ _ _ _
    · exact .inl rfl
theorem runesFrom_scalar : ∀ (n : Nat) (l : List UInt8) (p : Nat), ∀ x ∈ runesFrom n l p, scalar x.2
  | 0, _, _, x, hx => by simp [runesFrom] at hx
  | n + 1, l, p, x, hx => by
    by_cases h : l = []
    · subst h
      simp [runesFrom] at hx
    · rcases runesFrom_step h n p with ⟨_, e⟩ | ⟨m, r, hn, h1, _, e⟩
      · rw [e] at hx
        cases hx
      · rw [e] at hx
        rcases List.mem_cons.1 hx with rfl | hx
        · have := atSpec_range l
          rw [hn] at this
          unfold scalar
          simp only at this ⊢
          omega
        · exact runesFrom_scalar n _ _ x hx

theorem run_hex (d : Nat) (hd : d < 16) (w : World) : (Instr.slice 9 (.string ⟨#[48, 49, 50, 51, 52, 53, 54, 55, 56, 57, 97, 98, 99, 100, 101, 102]⟩) (some (.int .i64 d)) (some (.int .i64 ((d : Int) + 1))) none).run Tryz.prog w = .ok (.string ⟨#[hexd d]⟩) w := by
  have := run_cut ⟨#[48, 49, 50, 51, 52, 53, 54, 55, 56, 57, 97, 98, 99, 100, 101, 102]⟩ d (d + 1) (by omega) (by show d + 1 ≤ 16; omega) w
  have e : ∀ d : Fin 16, (⟨#[48, 49, 50, 51, 52, 53, 54, 55, 56, 57, 97, 98, 99, 100, 101, 102]⟩ : ByteArray).extract d.val (d.val + 1) = ⟨#[hexd d.val]⟩ := by decide
  rw [e ⟨d, hd⟩] at this
  exact this
theorem run_let (d : Nat) (hd : d < 8) (w : World) : (Instr.slice 9 (.string ⟨#[34, 92, 47, 98, 102, 110, 114, 116]⟩) (some (.int .i64 d)) (some (.int .i64 ((d : Int) + 1))) none).run Tryz.prog w = .ok (.string ⟨#[letTab.getD d 0]⟩) w := by
  have := run_cut ⟨#[34, 92, 47, 98, 102, 110, 114, 116]⟩ d (d + 1) (by omega) (by show d + 1 ≤ 8; omega) w
  have e : ∀ d : Fin 8, (⟨#[34, 92, 47, 98, 102, 110, 114, 116]⟩ : ByteArray).extract d.val (d.val + 1) = ⟨#[letTab.getD d.val 0]⟩ := by decide
  rw [e ⟨d, hd⟩] at this
  exact this

end Go.Proofs.YtjjbbnodmpemiaaGreatDoor

/- commonplaceref01.Quote: the quote of a text. Condition: a text of at most 10^9 bytes. -/
namespace Go.Proofs.YtjjbbnodmpemiaaGreatDoor
open Go.RowKit

theorem encodeRune_len4 (r : Int) : (Lib.encodeRune r).length ≤ 4 := by
  unfold Lib.encodeRune Lib.encodeRuneZ
  repeat' split
  all_goals simp

set_option maxRecDepth 100000 in
set_option maxHeartbeats 4000000 in
theorem RQuote_calls (s : ByteArray) (w : World) (hs : s.size ≤ 1000000000) (hv : validB s = true) :
    Calls Tryz.prog 42 #[.string s] w fun e w' => e = .returned (.tuple #[.string ⟨(quoteB s).toArray⟩, .int .i64 0]) ∧ Below w.heap.size w w' := by
  have cV := RValid_calls s w hs
  rw [hv] at cV
  have cR := RRunes_calls s w hs
  have hlr : (runes s).length ≤ s.size := runesFrom_len _ _ _
  have hsc : ∀ x ∈ runes s, scalar x.2 := runesFrom_scalar _ _ _
  unfold quoteB
  generalize runes s = L at *
  have HV := Lib.hid cV
  have HR := Lib.hid cR
  have HS := Lib.hid hsc
  clear cV cR hsc hv
  go_enter Tryz.func42, Tryz.ntmps42
  go_wp2_with (fail)
  with_reducible refine HV.out.mono ?_
  rintro e w' ⟨rfl, rfl⟩
  clear HV
  go_wp2_with (fail)
  with_reducible refine HR.out.mono ?_
  rintro e w1 ⟨⟨v1, v2, rfl, hown⟩, hb1⟩
  clear HR
  obtain ⟨la, lc, rfl, hcells⟩ : ∃ la lc, v1 = .slice la L.length lc ∧ Hid (∀ (k : Nat) (x : Nat × Nat), L[k]? = some x → ∃ g off, la = some ⟨g, off, none⟩ ∧ g < w1.heap.size ∧ w1.cell? ⟨g, off + k, none⟩ = some (.int .i64 x.2)) := by
    rcases hown.2 with ⟨hv, hz⟩ | ⟨g, cap, cur, rfl, hbg, hg, hnc, hcm, hcs, htake⟩
    · have hL : L = [] := List.length_eq_zero_iff.1 hz
      subst hL
      exact ⟨none, 0, hv, fun k x hx => by simp at hx⟩
    · refine ⟨some ⟨g, 0, none⟩, cap, rfl, fun k x hx => ⟨g, 0, rfl, (Array.getElem?_eq_some_iff.1 hg).1, ?_⟩⟩
      have := hown.cells (g := g) rfl k (.int .i64 x.2) (by simp [hx])
      rw [Go.WideShapes.add_plain, Nat.zero_add] at this
      rw [Nat.zero_add]
      exact this
  have hb1' := Lib.hid hb1
  have H0 : Hid ((⟨#[34]⟩ : ByteArray).data.toList = 34 :: quoteRunes (L.take 0)) := by show _ = _; simp [quoteRunes]
  clear hown hb1
  go_wp2_with (fail)
  go_loopw [4, 8] (fun o i wr => ∃ (T : ByteArray) (k : Nat), o = .string T ∧ i = .int .i64 k ∧ k ≤ L.length ∧ Hid (T.data.toList = 34 :: quoteRunes (L.take k)) ∧ Hid (Below w1.heap.size w1 wr)) (fun _ i _ => L.length - (intOf i).toNat)
  case atStart => exact ⟨_, 0, rfl, rfl, Nat.zero_le _, H0, Below.refl _ _⟩
  case round =>
    obtain ⟨T, k, rfl, rfl, hk, hT, hbw⟩ := hrel
    clear H0
    obtain ⟨wo, rfl⟩ : ∃ wo : World, wo = wr := ⟨_, rfl⟩
    have hTs : T.size ≤ 6 * L.length + 1 := by
      have h1 := congrArg List.length hT.out
      have h2 := quoteRunes_len (L.take k)
      have h3 : (L.take k).length ≤ L.length := by rw [List.length_take]; omega
      have h4 : T.data.toList.length = T.size := by rw [Array.length_toList]; rfl
      simp only [List.length_cons] at h1
      omega
    by_cases hlt : k < L.length
    · obtain ⟨⟨p, r⟩, hx⟩ : ∃ v, L[k]? = some v := ⟨_, List.getElem?_eq_getElem hlt⟩
      obtain ⟨g, off, rfl, hg, hc0⟩ := hcells.out k _ hx
      have hc : wo.cell? ⟨g, off + k, none⟩ = some (.int .i64 r) := (hbw.out.cell (p := ⟨g, off + k, none⟩) hg).trans hc0
      have hsc := HS.out _ (List.mem_of_getElem? hx)
      unfold scalar at hsc
      simp only at hsc
      obtain ⟨hsc1, hsc2⟩ := hsc
      have htk : L.take (k + 1) = L.take k ++ [(p, r)] := by rw [List.take_add_one, hx]; rfl
      have hsn : Hid (34 :: quoteRunes (L.take (k + 1)) = T.data.toList ++ quoteRune r) := by
        show _ = _
        rw [htk, hT.out]; simp [quoteRunes]
      have Hsc := Lib.hid hsc2
      have hB0 : Hid (Below w1.heap.size w1 wo) := hbw
      have hN0 : Hid (NoLet r 0) := fun i hi => by omega
      clear hT htk hx hc0 hsc2 hbw
      go_wp2_with (fail)
      go_loopw [10] (fun j wr => ∃ n : Nat, j = .int .i64 n ∧ n ≤ 8 ∧ Hid (NoLet r n) ∧ Hid (Below w1.heap.size w1 wr)) (fun j _ => 8 - (intOf j).toNat)
      case atStart => exact ⟨0, rfl, by omega, hN0, hB0⟩
      case round =>
        obtain ⟨n, rfl, hn, hno, hbw⟩ := hrel
        clear hN0 hB0
        rcases (by omega : n = 2 ∨ (n ≠ 2 ∧ n < 8) ∨ n = 8) with rfl | ⟨hn2, hn8⟩ | rfl
        · have hno' := Lib.hid (hno.out.step (.inl rfl))
          clear hno hsn hc
          go_wp2_with (fail)
          go_roundw
          case rel => exact ⟨2 + 1, rfl, by omega, hno', hbw⟩
          case measure => simp [intOf]
        · obtain ⟨c, hcc⟩ : ∃ c, codeTab[n]? = some c := ⟨_, List.getElem?_eq_getElem hn8⟩
          have hcd : codeTab.getD n 0 = c := by simp [List.getD, hcc]
          have cC := Lib.hid (RCode_calls n c hcc wr)
          have hn2' : ((n : Int) == 2) = false := by simp; omega
          by_cases hcr : c = (r : Int)
          · have hq : quoteRune r = [92, letTab.getD n 0] := by
              have := quoteRune_let ⟨n, hn8⟩ hn2
              simp only [hcd, hcr, Int.toNat_natCast] at this
              exact this
            rw [hq] at hsn
            subst hcr
            have hlet := fun w => run_let n hn8 w
            generalize letTab.getD n 0 = c8 at hsn hlet
            have hT' : Hid ((T ++ ⟨#[92]⟩ ++ ⟨#[c8]⟩).data.toList = 34 :: quoteRunes (L.take (k + 1))) := by
              show _ = _
              rw [hsn.out, ByteArray.data_append, Array.toList_append, ByteArray.data_append, Array.toList_append]
              simp
            clear hno hsn hcc hcd hc hq
            go_wp2_with (fail)
            with_reducible refine cC.out.mono ?_
            rintro e w2 ⟨rfl, hb2⟩
            have hbw2 := Lib.hid (hbw.out.trans (hb2.mono hbw.out.size))
            clear hb2 hbw cC
            have hl2 := hlet w2
            clear hlet
            go_wp2
            go_roundw
            case rel => exact ⟨_, k + 1, rfl, by go_num, by omega, hT', hbw2⟩
            case measure => simp only [intOf]; omega
          · have hno' := Lib.hid (hno.out.step (.inr (by rw [hcd]; exact hcr)))
            have hcr1 : (c == (r : Int)) = false := by simpa using hcr
            have hcr2 : (c != (r : Int)) = true := by simpa using hcr
            clear hno hsn hcc hcd hc hcr
            go_wp2_with (fail)
            with_reducible refine cC.out.mono ?_
            rintro e w2 ⟨rfl, hb2⟩
            have hbw2 := Lib.hid (hbw.out.trans (hb2.mono hbw.out.size))
            clear hb2 hbw cC
            go_wp2
            go_roundw
            case rel => exact ⟨n + 1, by go_num, by omega, hno', hbw2⟩
            case measure => simp only [intOf]; omega
        · have hq := quoteRune_no hno.out
          rw [hq] at hsn
          clear hno hc hq
          by_cases h32 : r < 32
          · rw [if_pos h32] at hsn
            have hT' : Hid ((T ++ ⟨#[92, 117, 48, 48]⟩ ++ ⟨#[hexd (r / 16)]⟩ ++ ⟨#[hexd (r % 16)]⟩).data.toList = 34 :: quoteRunes (L.take (k + 1))) := by
              show _ = _
              rw [hsn.out, ByteArray.data_append, Array.toList_append, ByteArray.data_append, Array.toList_append, ByteArray.data_append, Array.toList_append]
              simp
            have hx1 := fun w => run_hex (r / 16) (by omega) w
            have hx2 := fun w => run_hex (r % 16) (by omega) w
            have hq16 : (r : Int) / 16 = ((r / 16 : Nat) : Int) := by omega
            have hm16 : (r : Int) % 16 = ((r % 16 : Nat) : Int) := by omega
            have hq16' : (r : Int).tdiv 16 = ((r / 16 : Nat) : Int) := by rw [Int.tdiv_eq_ediv_of_nonneg (by omega)]; omega
            have hm16' : (r : Int).tmod 16 = ((r % 16 : Nat) : Int) := by rw [Int.tmod_eq_emod_of_nonneg (by omega)]; omega
            have hql : r / 16 < 2 := by omega
            have hml : r % 16 < 16 := by omega
            generalize hexd (r / 16) = e1 at *
            generalize hexd (r % 16) = e2 at *
            generalize r / 16 = q at *
            generalize r % 16 = m at *
            have hw1 : IntKind.i64.wrap ((q : Int) + 1) = (q : Int) + 1 := IntWalk.i64_in _ (by omega)
            have hw2 : IntKind.i64.wrap ((m : Int) + 1) = (m : Int) + 1 := IntWalk.i64_in _ (by omega)
            clear hsn
            go_wp2_with (fail)
            go_quiet (fail)
            have hbw2 := Lib.hid (below_drewN hbw.out nq)
            clear hx1 hx2 hq16 hm16 hq16' hm16' hw1 hw2 hbw
            go_wp2
            go_roundw
            case rel => exact ⟨_, k + 1, rfl, by go_num, by omega, hT', hbw2⟩
            case measure => simp only [intOf]; omega
          · rw [if_neg h32] at hsn
            have cB := Lib.hid (RBytes_calls r (by omega) (by omega) (by have := Hsc.out; omega) wr)
            have hel : (Lib.encodeRune (r : Int)).length ≤ 4 := encodeRune_len4 r
            obtain ⟨X, hX⟩ : ∃ X : ByteArray, (⟨(Lib.encodeRune (r : Int)).toArray⟩ : ByteArray) = X := ⟨_, rfl⟩
            have hXs : X.size ≤ 4 := by rw [← hX]; exact hel
            have hT' : Hid ((T ++ X).data.toList = 34 :: quoteRunes (L.take (k + 1))) := by
              show _ = _
              rw [hsn.out, ByteArray.data_append, Array.toList_append, ← hX]
            rw [hX] at cB
            clear hsn hel hX
            go_wp2_with (fail)
            with_reducible refine cB.out.mono ?_
            rintro e w2 ⟨rfl, hb2⟩
            have hbw2 := Lib.hid (hbw.out.trans (hb2.mono hbw.out.size))
            clear hb2 hbw cB
            go_wp2
            go_roundw
            case rel => exact ⟨_, k + 1, rfl, by go_num, by omega, hT', hbw2⟩
            case measure => simp only [intOf]; omega
    · obtain rfl : k = L.length := by omega
      have hT' := hT.out
      rw [List.take_length] at hT'
      have hE : (⟨(34 :: (quoteRunes L ++ [34])).toArray⟩ : ByteArray) = T ++ ⟨#[34]⟩ := by
        apply ByteArray.ext
        rw [ByteArray.data_append]
        apply Array.ext'
        rw [Array.toList_append, hT']
        simp
      have HE := Lib.hid hE
      clear hT hT' hE
      go_wp2
      go_ret2
      exact ⟨by rw [HE.out]; rfl, hb1'.out.trans (hbw.out.mono hb1'.out.size)⟩

end Go.Proofs.YtjjbbnodmpemiaaGreatDoor

/- What writes a value's text: the plain kinds. Condition: a bulk of at most 10^9. -/
namespace Go.Proofs.YtjjbbnodmpemiaaGreatDoor
open Go.RowKit

theorem Tabs.keep {w w' : World} {B : Nat} (h : Tabs w) (hb : Below B w w') (h5B : 5 ≤ B) : Tabs w' := by
  obtain ⟨h5, ⟨h1, h2⟩, h3⟩ := h
  refine ⟨Nat.le_trans h5 hb.size, ⟨fun c hc => ?_, fun i hi => ⟨?_, ?_⟩⟩, ?_⟩
  · exact (hb.cell (p := ⟨1, c, none⟩) (by show 1 < _; omega)).trans (h1 c hc)
  · exact (hb.cell (p := ⟨2, 2 * i, none⟩) (by show 2 < _; omega)).trans (h2 i hi).1
  · exact (hb.cell (p := ⟨2, 2 * i + 1, none⟩) (by show 2 < _; omega)).trans (h2 i hi).2
  · have hg : Tryz.prog.globalNamed "internal/strconv.uint64pow10" = some 3 := by kernel_rfl
    unfold Lib.TabIs World.var? at h3 ⊢
    rw [hg] at h3 ⊢
    simp only [Option.bind_some] at h3 ⊢
    rw [hb.block 3 (by omega)]
    exact h3

theorem grow_below (W : World) (k : Nat) (os : Array Obj) : Below W.heap.size W (Sort.grow (W.drewN k) os) :=
  ⟨rfl, rfl, rfl, by show W.heap.size ≤ (W.heap ++ os).size; simp, fun i hi => by show (W.heap ++ os)[i]? = W.heap[i]?; rw [Array.getElem?_append_left hi]⟩

theorem formatBool_len (b : Bool) : (Lib.formatBool b).length ≤ 5 := by cases b <;> decide
theorem flat_one (l : List UInt8) : flat [⟨l.toArray⟩] = l := by simp [flat]

/-- The block that a call of join is handed. -/
theorem join_new {B g : Nat} {keeps : Bool} {acc : List UInt8} {w : World} (ss : List ByteArray) (c : Nat) (h : Wr w B g keeps acc) (hlen : acc.length + (flat ss).length ≤ 50000000000) (hn : ss.length ≤ 1000) :
    Calls Tryz.prog 84 #[.pointer (some ⟨g, 0, none⟩), .slice (some ⟨w.heap.size, 0, none⟩) ss.length c] (w.alloc (.cells (ss.map Value.string).toArray 9 (0, 0))) fun e w' => e = .returned (.tuple #[]) ∧ Wr w' B g keeps (acc ++ flat ss) ∧ Below B w w' ∧ Kept g w w' := by
  have hlt := h.lt
  have hb := h.base
  refine (join_calls B g keeps acc ss w.heap.size c _ (h.below ((Below.refl _ _).alloc (Nat.le_refl _) _)) (heap_alloc_new _ _) (by omega) hlen hn).mono ?_
  rintro e w' ⟨rfl, h1, h2, h3⟩
  exact ⟨rfl, h1, ((Below.refl B w).alloc (by omega) _).trans h2, ((Lib.OthersKept.refl _ _ w).alloc _).trans h3⟩

set_option maxHeartbeats 1000000 in
theorem writes_bool (W : World) (B g p : Nat) (keeps : Bool) (acc : List UInt8) (b : Bool) (v2 v3 v4 v5 : Value) (k : Value) (hp : W.heap[p]? = some (.cells #[k, .bool b, v2, v3, v4, v5] 45 (0, 0)))
    (hW : Wr W B g keeps acc) (hlen : acc.length ≤ 20000000000) :
    Calls Tryz.prog 83 #[.pointer (some ⟨g, 0, none⟩), .pointer (some ⟨p, 0, none⟩)] W fun e W' => e = .returned (.tuple #[]) ∧ Wr W' B g keeps (acc ++ Lib.formatBool b) ∧ Below B W W' ∧ Kept g W W' := by
  have c1 : W.cell? ⟨p, 1, none⟩ = some (.bool b) := (Lib.cell_of_heap hp 1).trans rfl
  have hj := join_new [⟨(Lib.formatBool b).toArray⟩] 1 hW (by rw [flat_one]; have := formatBool_len b; omega) (by simp)
  rw [flat_one] at hj
  have cB := Tryz.strconv_FormatBool b W
  generalize Lib.formatBool b = L at hj cB ⊢
  have HJ := Lib.hid hj
  have CB := Lib.hid cB
  clear hj cB
  go_enter Tryz.func83, Tryz.ntmps83
  go_wp2_with (first | (go_at_call 85; refine (CB.out).mono ?_; rintro e wx ⟨rfl, hwx⟩; subst hwx) | (go_at_call 84; refine (HJ.out).mono ?_; rintro e w2 ⟨rfl, h1, h2, h3⟩))
  go_end0
  exact ⟨rfl, h1, h2, h3⟩

set_option maxHeartbeats 1000000 in
theorem writes_int (W : World) (B g p : Nat) (keeps : Bool) (acc : List UInt8) (n : Int) (v1 v3 v4 v5 : Value) (k : Value) (hp : W.heap[p]? = some (.cells #[k, v1, .int .i64 n, v3, v4, v5] 45 (0, 0)))
    (hT : Tabs W) (hn0 : -9223372036854775808 ≤ n) (hn1 : n ≤ 9223372036854775807) (_hpg : p ≠ g) (hW : Wr W B g keeps acc) (hlen : acc.length ≤ 20000000000) :
    Calls Tryz.prog 86 #[.pointer (some ⟨g, 0, none⟩), .pointer (some ⟨p, 0, none⟩)] W fun e W' => e = .returned (.tuple #[]) ∧ Wr W' B g keeps (acc ++ Lib.itoa n) ∧ Below B W W' ∧ Kept g W W' := by
  have c1 : W.cell? ⟨p, 2, none⟩ = some (.int .i64 n) := (Lib.cell_of_heap hp 2).trans rfl
  have hl := Lib.itoa_length_le n hn0 hn1
  have cB := Tryz.strconv_FormatInt_10 n hn0 hn1 W hT.2.2
  have hj : ∀ w1, Below W.heap.size W w1 → Calls Tryz.prog 84 #[.pointer (some ⟨g, 0, none⟩), .slice (some ⟨w1.heap.size, 0, none⟩) 1 1] (w1.alloc (.cells #[.string ⟨(Lib.itoa n).toArray⟩] 9 (0, 0))) fun e w' => e = .returned (.tuple #[]) ∧ Wr w' B g keeps (acc ++ Lib.itoa n) ∧ Below B w1 w' ∧ Kept g w1 w' := fun w1 hb => by
    have := join_new [⟨(Lib.itoa n).toArray⟩] 1 (hW.below hb) (by rw [flat_one]; omega) (by simp)
    rwa [flat_one] at this
  have hB := hW.base
  have hlt := hW.lt
  generalize Lib.itoa n = L at hj cB ⊢
  have HJ := Lib.hid hj
  have CB := Lib.hid cB
  clear hj cB hl hp
  go_enter Tryz.func86, Tryz.ntmps86
  go_wp2_with (first | (go_at_call 87; refine (CB.out).mono ?_; rintro e w1 ⟨rfl, kk, os, hwx⟩; have hb1 : Below W.heap.size W w1 := hwx ▸ grow_below W kk os; clear hwx) | (go_at_call 84; refine (HJ.out _ hb1).mono ?_; rintro e w2 ⟨rfl, h1, h2, h3⟩))
  go_end0
  exact ⟨rfl, h1, (hb1.mono (by omega)).trans h2, fun j o hj hg ho => h3 j o ((hb1.block j (Array.getElem?_eq_some_iff.1 hj).1).trans hj) hg ho⟩

set_option maxHeartbeats 1000000 in
theorem writes_null (W : World) (B g : Nat) (keeps : Bool) (acc : List UInt8) (hW : Wr W B g keeps acc) (hlen : acc.length ≤ 20000000000) :
    Calls Tryz.prog 94 #[.pointer (some ⟨g, 0, none⟩)] W fun e W' => e = .returned (.tuple #[]) ∧ Wr W' B g keeps (acc ++ [110, 117, 108, 108]) ∧ Below B W W' ∧ Kept g W W' := by
  have hj := join_new [⟨#[110, 117, 108, 108]⟩] 1 hW (by simp [flat]; omega) (by simp)
  have HJ := Lib.hid hj
  clear hj
  go_enter Tryz.func94, Tryz.ntmps94
  go_wp2_with (go_at_call 84; refine (HJ.out).mono ?_; rintro e w2 ⟨rfl, h1, h2, h3⟩)
  go_end0
  exact ⟨rfl, h1, h2, h3⟩

theorem quote_calls (s : ByteArray) (w : World) (hT : Tabs w) (hs : s.size ≤ 1000000000) (hv : validB s = true) :
    Calls Tryz.prog 89 #[.string s] w fun e w' => e = .returned (.string ⟨(quoteB s).toArray⟩) ∧ Below w.heap.size w w' := by
  have cQ := Quote_valid s w hT hs hv
  unfold quoteB
  generalize 34 :: quoteRunes (runes s) ++ [34] = L at cQ ⊢
  have CQ := Lib.hid cQ
  clear cQ
  go_enter Tryz.func89, Tryz.ntmps89
  go_wp2_with (go_at_call 123; refine (CQ.out).mono ?_; rintro e w2 ⟨rfl, h1⟩)
  go_ret
  exact ⟨rfl, h1⟩

theorem quoteB_len (s : ByteArray) : (quoteB s).length ≤ 6 * s.size + 2 := by
  have e1 := quoteRunes_len (runes s)
  have e3 := runesFrom_len s.size s.data.toList 0
  unfold runes at e1
  unfold quoteB runes
  simp only [List.length_cons, List.length_append, List.length_nil]
  omega

set_option maxHeartbeats 1000000 in
theorem writes_text (W : World) (B g p : Nat) (keeps : Bool) (acc : List UInt8) (t : ByteArray) (v1 v2 v4 v5 : Value) (k : Value) (hp : W.heap[p]? = some (.cells #[k, v1, v2, .string t, v4, v5] 45 (0, 0)))
    (hT : Tabs W) (hv : validB t = true) (ht : t.size ≤ 1000000000) (_hpg : p ≠ g) (hW : Wr W B g keeps acc) (hlen : acc.length ≤ 20000000000) :
    Calls Tryz.prog 88 #[.pointer (some ⟨g, 0, none⟩), .pointer (some ⟨p, 0, none⟩)] W fun e W' => e = .returned (.tuple #[]) ∧ Wr W' B g keeps (acc ++ quoteB t) ∧ Below B W W' ∧ Kept g W W' := by
  have c1 : W.cell? ⟨p, 3, none⟩ = some (.string t) := (Lib.cell_of_heap hp 3).trans rfl
  have hl := quoteB_len t
  have cB := quote_calls t W hT ht hv
  have hj : ∀ w1, Below W.heap.size W w1 → Calls Tryz.prog 84 #[.pointer (some ⟨g, 0, none⟩), .slice (some ⟨w1.heap.size, 0, none⟩) 1 1] (w1.alloc (.cells #[.string ⟨(quoteB t).toArray⟩] 9 (0, 0))) fun e w' => e = .returned (.tuple #[]) ∧ Wr w' B g keeps (acc ++ quoteB t) ∧ Below B w1 w' ∧ Kept g w1 w' := fun w1 hb => by
    have := join_new [⟨(quoteB t).toArray⟩] 1 (hW.below hb) (by rw [flat_one]; omega) (by simp)
    rwa [flat_one] at this
  have hB := hW.base
  have hlt := hW.lt
  generalize quoteB t = L at hj cB ⊢
  have HJ := Lib.hid hj
  have CB := Lib.hid cB
  clear hj cB hl hp
  go_enter Tryz.func88, Tryz.ntmps88
  go_wp2_with (first | (go_at_call 89; refine (CB.out).mono ?_; rintro e w1 ⟨rfl, hb1⟩) | (go_at_call 84; refine (HJ.out _ hb1).mono ?_; rintro e w2 ⟨rfl, h1, h2, h3⟩))
  go_end0
  exact ⟨rfl, h1, (hb1.mono (by omega)).trans h2, fun j o hj hg ho => h3 j o ((hb1.block j (Array.getElem?_eq_some_iff.1 hj).1).trans hj) hg ho⟩

theorem between_calls (i : Int) (w : World) : Calls Tryz.prog 91 #[.int .i64 i] w fun e w' => e = .returned (.string ⟨(if i = 0 then [] else [44] : List UInt8).toArray⟩) ∧ w = w' := by
  by_cases h : i = 0
  · subst h
    go_enter Tryz.func91, Tryz.ntmps91
    go_wp2
    go_ret
    exact ⟨rfl, rfl⟩
  · have e : (i == 0) = false := by simpa using h
    rw [if_neg h]
    clear h
    go_enter Tryz.func91, Tryz.ntmps91
    go_wp2
    go_ret
    exact ⟨rfl, rfl⟩

end Go.Proofs.YtjjbbnodmpemiaaGreatDoor
