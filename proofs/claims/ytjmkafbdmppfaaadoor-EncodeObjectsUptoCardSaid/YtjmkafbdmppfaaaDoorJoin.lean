/- The writer of texts: join. Condition: at most 10^11 bytes. -/
import Derived.Test.YtjmkafbdmppfaaaDoorProg
import Derived.Test.YtjmkafbdmppfaaaDoorQuote2
namespace Go.Proofs.YtjmkafbdmppfaaaDoor
open Go.RowKit

/-- A writer that has had acc: it keeps it, or counts it. -/
def Wr (W : World) (B g : Nat) (keeps : Bool) (acc : List UInt8) : Prop :=
  ∃ p v, Bld W B g 1 56 #[.bool keeps, p, v, .int .i64 (acc.length : Int)] (if keeps then acc else [])

theorem liesW : liesAt Tryd.prog Tryd.prog.depth 56 (4 / Tryd.prog.cellsOf 56) 1 54 1 = true := by kernel_rfl

theorem Bld.other {w : World} {B g o : Nat} {t : TypeId} {cs : Array Value} {bs : List UInt8} (h : Bld w B g o t cs bs) (i : Nat) (hi : i ≠ o) (hi2 : i ≠ o + 1) (u : Value) :
    Bld (w.setCell ⟨g, i, none⟩ u) B g o t (cs.setIfInBounds i u) bs := by
  obtain ⟨hB, hb, ht, hs, h0, v, h1, hown⟩ := h
  refine ⟨hB, setCell_heap hb _, ht, by simpa using hs, ?_, v, by rw [Array.getElem?_setIfInBounds, if_neg hi2]; exact h1, ?_⟩
  · rw [Array.getElem?_setIfInBounds, if_neg hi]; exact h0
  · exact hown.kept (row := some g) ⟨rfl, rfl, rfl, by simp [World.setCell], fun k _ hk => Below.heap_setCell _ _ _ _ (fun e => hk (by simp [e]))⟩ (Or.inr (Lib.ownBlock_ne hown hb ht))

theorem Wr.below {A W : World} {B g : Nat} {k : Bool} {acc : List UInt8} (h : Wr A B g k acc) (hb : Below A.heap.size A W) : Wr W B g k acc := by
  obtain ⟨p, v, h⟩ := h
  exact ⟨p, v, h.keep (below_grown hb) (fun k e => by cases e)⟩
theorem Wr.put {A : World} {B g k : Nat} {b : Bool} {acc : List UInt8} {o o' : Obj} (h : Wr A B g b acc) (ho : A.heap[k]? = some o) (hc : o.isCells = false) : Wr (A.putObj k o') B g b acc := by
  obtain ⟨p, v, h⟩ := h
  exact ⟨p, v, h.keep (grownBy_putObj' A k o') (fun j e => by cases e; exact ⟨o, ho, hc⟩)⟩
theorem Wr.lt {A : World} {B g : Nat} {k : Bool} {acc : List UInt8} (h : Wr A B g k acc) : g < A.heap.size := by
  obtain ⟨p, v, h⟩ := h
  exact h.lt
theorem Wr.base {A : World} {B g : Nat} {k : Bool} {acc : List UInt8} (h : Wr A B g k acc) : B ≤ g := by
  obtain ⟨p, v, h⟩ := h
  exact h.1

/-- The parts that were joined. -/
def flat (ss : List ByteArray) : List UInt8 := ss.flatMap fun s => s.data.toList
theorem flat_snoc (ss : List ByteArray) (s : ByteArray) : flat (ss ++ [s]) = flat ss ++ s.data.toList := by simp [flat]

set_option maxHeartbeats 2000000 in
set_option maxRecDepth 100000 in
theorem join_calls (B g : Nat) (keeps : Bool) (acc : List UInt8) (ss : List ByteArray) (b c : Nat) (w : World) (h : Wr w B g keeps acc) (hp : w.heap[b]? = some (.cells (ss.map Value.string).toArray 9 (0, 0))) (hbg : b ≠ g)
    (hlen : acc.length + (flat ss).length ≤ 50000000000) (hn : ss.length ≤ 1000) :
    Calls Tryd.prog 47 #[.pointer (some ⟨g, 0, none⟩), .slice (some ⟨b, 0, none⟩) ss.length c] w fun e w' => e = .returned (.tuple #[]) ∧ Wr w' B g keeps (acc ++ flat ss) ∧ Below B w w' ∧ Kept g w w' := by
  go_enter Tryd.func47, Tryd.ntmps47
  go_wp2
  go_loopw [8] (fun i wr => ∃ k : Nat, k ≤ ss.length ∧ i = .int .i64 k ∧ Wr wr B g keeps (acc ++ flat (ss.take k)) ∧ Below B w wr ∧ Kept g w wr) (fun i _ => ss.length - (intOf i).toNat)
  case atStart => exact ⟨0, Nat.zero_le _, rfl, by simpa [flat] using h, Below.refl _ _, Lib.OthersKept.refl _ _ _⟩
  case round =>
    obtain ⟨k, hk, rfl, hw, hb, hkp⟩ := hrel
    by_cases hlt : k < ss.length
    · obtain ⟨s, hs⟩ : ∃ s, ss[k]? = some s := ⟨_, List.getElem?_eq_getElem hlt⟩
      have htk : ss.take (k + 1) = ss.take k ++ [s] := by rw [List.take_add_one, hs]; rfl
      have hfl : (flat ss).length = (flat (ss.take k)).length + s.size + (flat (ss.drop (k + 1))).length := by
        have : ss = ss.take k ++ [s] ++ ss.drop (k + 1) := by rw [← htk, List.take_append_drop]
        have h2 := congrArg (fun l => (flat l).length) this
        simp only [flat, List.flatMap_append, List.length_append, List.flatMap_cons, List.flatMap_nil, List.append_nil] at h2 ⊢
        rw [h2, Lib.size_eq]
      have hpr := hkp _ _ hp (by simpa using hbg) (fun c fz e => by cases e)
      have cp : wr.cell? ⟨b, k, none⟩ = some (.string s) := by rw [Lib.cell_of_heap hpr]; simp [hs]
      obtain ⟨p, v, hbl⟩ := hw
      have hbl' := hbl
      obtain ⟨hB, hbk, ht, _, _, _⟩ := hbl'
      have g0 : wr.cell? ⟨g, 0, none⟩ = some (.bool keeps) := by rw [Lib.cell_of_heap hbk]; rfl
      have g3 : wr.cell? ⟨g, 3, none⟩ = some (.int .i64 ((acc ++ flat (ss.take k)).length : Int)) := by rw [Lib.cell_of_heap hbk]; rfl
      have f3 : wr.frozen? ⟨g, 3, none⟩ = false := Lib.frozen_of_heap hbk 3
      have hln : (acc ++ flat (ss.take k)).length ≤ 50000000000 := by rw [List.length_append]; omega
      have hln2 : (acc ++ flat (ss.take k)).length + s.size ≤ 50000000000 := by rw [List.length_append]; omega
      have hz := hbl.lt
      have hfin : acc ++ flat (ss.take (k + 1)) = (acc ++ flat (ss.take k)) ++ s.data.toList := by rw [htk, flat_snoc, List.append_assoc]
      generalize acc ++ flat (ss.take k) = L at *
      have Hfin := Lib.hid hfin
      have he : ((L.length : Int) + (s.size : Int)) = ((L ++ s.data.toList).length : Int) := by rw [List.length_append, ← Lib.size_eq]; omega
      have He := Lib.hid he
      clear hfin he hbk htk hfl
      cases keeps
      · have hbs : Bld (wr.setCell ⟨g, 3, none⟩ (.int .i64 ((L.length : Int) + (s.size : Int)))) B g 1 56 #[.bool false, p, v, .int .i64 ((L.length : Int) + (s.size : Int))] [] := hbl.other 3 (by omega) (by omega) _
        go_wp2
        go_roundw
        case rel =>
          refine ⟨k + 1, by omega, by go_num, ?_, hb.setCell (p := ⟨g, 3, none⟩) hB _, hkp.setCell ⟨g, 3, none⟩ rfl _⟩
          rw [Hfin.out]
          rw [He.out] at hbs ⊢
          exact ⟨p, v, hbs⟩
        case measure => simp [intOf]; omega
      · have hbs : Bld (wr.setCell ⟨g, 3, none⟩ (.int .i64 ((L.length : Int) + (s.size : Int)))) B g 1 56 #[.bool true, p, v, .int .i64 ((L.length : Int) + (s.size : Int))] L := hbl.other 3 (by omega) (by omega) _
        go_wp2_with (go_at_call 41; refine (WriteString_calls B g 1 _ _ L s _ hbs liesW (by omega) (by simp [World.setCell]; omega)).mono ?_; rintro e w2 ⟨rfl, ⟨v', hb2⟩, hbw2, hk2⟩)
        go_roundw
        case rel =>
          refine ⟨k + 1, by omega, by go_num, ?_, (hb.setCell (p := ⟨g, 3, none⟩) hB _).trans hbw2, (hkp.setCell ⟨g, 3, none⟩ rfl _).trans hk2⟩
          rw [Hfin.out]
          rw [He.out] at hb2
          exact ⟨_, v', hb2⟩
        case measure => simp [intOf]; omega
    · obtain rfl : k = ss.length := by omega
      rw [List.take_length] at hw
      have Hw := Lib.hid hw
      clear hw
      go_wp2
      go_end0
      exact ⟨rfl, Hw.out, hb, hkp⟩

end Go.Proofs.YtjmkafbdmppfaaaDoor
