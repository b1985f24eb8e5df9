/- Parts, joined: The writer of texts: join. Condition: at most 10^11 bytes. Plain Lean, no program: the reference's runes are the decoder's. -/
import Derived.Test.YtemceefalkfneaaGreatDoorProg
import Derived.Lib.ValidU
import Derived.Test.YtemceefalkfneaaGreatDoorKCm7
import Derived.Test.YtemceefalkfneaaGreatDoorKCm8
/- The writer of texts: join. Condition: at most 10^11 bytes. -/
namespace Go.Proofs.YtemceefalkfneaaGreatDoor
open Go.RowKit

/-- A writer that has had acc: it keeps it, or counts it. -/
def Wr (W : World) (B g : Nat) (keeps : Bool) (acc : List UInt8) : Prop :=
  ∃ p v, Bld W B g 1 121 #[.bool keeps, p, v, .int .i64 (acc.length : Int)] (if keeps then acc else [])

theorem liesW : liesAt Tryz.prog Tryz.prog.depth 121 (4 / Tryz.prog.cellsOf 121) 1 119 1 = true := by kernel_rfl

theorem Bld.other {w : World} {B g o : Nat} {t : TypeId} {cs : Array Value} {bs : List UInt8} (h : Bld w B g o t cs bs) (i : Nat) (hi : i ≠ o) (hi2 : i ≠ o + 1) (u : Value) :
    Bld (w.setCell ⟨g, i, none⟩ u) B g o t (cs.setIfInBounds i u) bs := by
  obtain ⟨hB, hb, ht, hs, h0, v, h1, hown⟩ := h
  refine ⟨hB, setCell_heap hb _, ht, by simpa using hs, ?_, v, by rw [Array.getElem?_setIfInBounds, if_neg hi2]; exact h1, ?_⟩
  · rw [Array.getElem?_setIfInBounds, if_neg hi]; exact h0
  · exact hown.kept (row := some g) ⟨rfl, rfl, rfl, by simp [World.setCell], fun k _ hk => Below.heap_setCell _ _ _ _ (fun e => hk (by simp [e]))⟩ (Or.inr (Lib.ownBlock_ne hown hb ht))

theorem Wr.below {A W : World} {B g : Nat} {k : Bool} {acc : List UInt8} (h : Wr A B g k acc) (hb : Below A.heap.size A W) : Wr W B g k acc := by
  obtain ⟨p, v, h⟩ := h
  exact ⟨p, v, h.keep (below_grown hb) (fun k e => by cases e)⟩
theorem Wr.put {A : World} {B g k : Nat} {b : Bool} {acc : List UInt8} {o o' : Obj} (h : Wr A B g b acc) (ho : A.heap[k]? = some o) (hc : o.isCells = false) : Wr (A.putObj k o') B g b acc := by
  obtain ⟨p, v, h⟩ := h
  exact ⟨p, v, h.keep (grownBy_putObj' A k o') (fun j e => by cases e; exact ⟨o, ho, hc⟩)⟩
theorem Wr.lt {A : World} {B g : Nat} {k : Bool} {acc : List UInt8} (h : Wr A B g k acc) : g < A.heap.size := by
  obtain ⟨p, v, h⟩ := h
  exact h.lt
theorem Wr.base {A : World} {B g : Nat} {k : Bool} {acc : List UInt8} (h : Wr A B g k acc) : B ≤ g := by
  obtain ⟨p, v, h⟩ := h
  exact h.1

/-- The parts that were joined. -/
def flat (ss : List ByteArray) : List UInt8 := ss.flatMap fun s => s.data.toList
theorem flat_snoc (ss : List ByteArray) (s : ByteArray) : flat (ss ++ [s]) = flat ss ++ s.data.toList := by simp [flat]

set_option maxHeartbeats 2000000 in
set_option maxRecDepth 100000 in
theorem join_calls (B g : Nat) (keeps : Bool) (acc : List UInt8) (ss : List ByteArray) (b c : Nat) (w : World) (h : Wr w B g keeps acc) (hp : w.heap[b]? = some (.cells (ss.map Value.string).toArray 9 (0, 0))) (hbg : b ≠ g)
    (hlen : acc.length + (flat ss).length ≤ 50000000000) (hn : ss.length ≤ 1000) :
    Calls Tryz.prog 100 #[.pointer (some ⟨g, 0, none⟩), .slice (some ⟨b, 0, none⟩) ss.length c] w fun e w' => e = .returned (.tuple #[]) ∧ Wr w' B g keeps (acc ++ flat ss) ∧ Below B w w' ∧ Kept g w w' := by
  go_enter Tryz.func100, Tryz.ntmps100
  go_wp2
  go_loopw [8] (fun i wr => ∃ k : Nat, k ≤ ss.length ∧ i = .int .i64 k ∧ Wr wr B g keeps (acc ++ flat (ss.take k)) ∧ Below B w wr ∧ Kept g w wr) (fun i _ => ss.length - (intOf i).toNat)
  case atStart => exact ⟨0, Nat.zero_le _, rfl, by simpa [flat] using h, Below.refl _ _, Lib.OthersKept.refl _ _ _⟩
  case round =>
    obtain ⟨k, hk, rfl, hw, hb, hkp⟩ := hrel
    by_cases hlt : k < ss.length
    · obtain ⟨s, hs⟩ : ∃ s, ss[k]? = some s := ⟨_, List.getElem?_eq_getElem hlt⟩
      have htk : ss.take (k + 1) = ss.take k ++ [s] := by rw [List.take_add_one, hs]; rfl
      have hfl : (flat ss).length = (flat (ss.take k)).length + s.size + (flat (ss.drop (k + 1))).length := by
        have : ss = ss.take k ++ [s] ++ ss.drop (k + 1) := by rw [← htk, List.take_append_drop]
        have h2 := congrArg (fun l => (flat l).length) this
        simp only [flat, List.flatMap_append, List.length_append, List.flatMap_cons, List.flatMap_nil, List.append_nil] at h2 ⊢
        rw [h2, Lib.size_eq]
      have hpr := hkp _ _ hp (by simpa using hbg) (fun c fz e => by cases e)
      have cp : wr.cell? ⟨b, k, none⟩ = some (.string s) := by rw [Lib.cell_of_heap hpr]; simp [hs]
      obtain ⟨p, v, hbl⟩ := hw
      have hbl' := hbl
      obtain ⟨hB, hbk, ht, _, _, _⟩ := hbl'
      have g0 : wr.cell? ⟨g, 0, none⟩ = some (.bool keeps) := by rw [Lib.cell_of_heap hbk]; rfl
      have g3 : wr.cell? ⟨g, 3, none⟩ = some (.int .i64 ((acc ++ flat (ss.take k)).length : Int)) := by rw [Lib.cell_of_heap hbk]; rfl
      have f3 : wr.frozen? ⟨g, 3, none⟩ = false := Lib.frozen_of_heap hbk 3
      have hln : (acc ++ flat (ss.take k)).length ≤ 50000000000 := by rw [List.length_append]; omega
      have hln2 : (acc ++ flat (ss.take k)).length + s.size ≤ 50000000000 := by rw [List.length_append]; omega
      have hz := hbl.lt
      have hfin : acc ++ flat (ss.take (k + 1)) = (acc ++ flat (ss.take k)) ++ s.data.toList := by rw [htk, flat_snoc, List.append_assoc]
      generalize acc ++ flat (ss.take k) = L at *
      have Hfin := Lib.hid hfin
      have he : ((L.length : Int) + (s.size : Int)) = ((L ++ s.data.toList).length : Int) := by rw [List.length_append, ← Lib.size_eq]; omega
      have He := Lib.hid he
      clear hfin he hbk htk hfl
      cases keeps
      · have hbs : Bld (wr.setCell ⟨g, 3, none⟩ (.int .i64 ((L.length : Int) + (s.size : Int)))) B g 1 121 #[.bool false, p, v, .int .i64 ((L.length : Int) + (s.size : Int))] [] := hbl.other 3 (by omega) (by omega) _
        go_wp2
        go_roundw
        case rel =>
          refine ⟨k + 1, by omega, by go_num, ?_, hb.setCell (p := ⟨g, 3, none⟩) hB _, hkp.setCell ⟨g, 3, none⟩ rfl _⟩
          rw [Hfin.out]
          rw [He.out] at hbs ⊢
          exact ⟨p, v, hbs⟩
        case measure => simp [intOf]; omega
      · have hbs : Bld (wr.setCell ⟨g, 3, none⟩ (.int .i64 ((L.length : Int) + (s.size : Int)))) B g 1 121 #[.bool true, p, v, .int .i64 ((L.length : Int) + (s.size : Int))] L := hbl.other 3 (by omega) (by omega) _
        go_wp2_with (go_at_call 165; refine (WriteString_calls B g 1 _ _ L s _ hbs liesW (by omega) (by simp [World.setCell]; omega)).mono ?_; rintro e w2 ⟨rfl, ⟨v', hb2⟩, hbw2, hk2⟩)
        go_roundw
        case rel =>
          refine ⟨k + 1, by omega, by go_num, ?_, (hb.setCell (p := ⟨g, 3, none⟩) hB _).trans hbw2, (hkp.setCell ⟨g, 3, none⟩ rfl _).trans hk2⟩
          rw [Hfin.out]
          rw [He.out] at hb2
          exact ⟨_, v', hb2⟩
        case measure => simp [intOf]; omega
    · obtain rfl : k = ss.length := by omega
      rw [List.take_length] at hw
      have Hw := Lib.hid hw
      clear hw
      go_wp2
      go_end0
      exact ⟨rfl, Hw.out, hb, hkp⟩

end Go.Proofs.YtemceefalkfneaaGreatDoor

/- Plain Lean, no program: the reference's runes are the decoder's. -/
namespace Go.Proofs.YtemceefalkfneaaGreatDoor

theorem get_mk (l : List UInt8) (k : Nat) : ((ByteArray.mk l.toArray).get! k) = l.getD k 0 := by
  show l.toArray[k]! = l.getD k 0
  rw [getElem!_def]
  simp only [List.getElem?_toArray, List.getD_eq_getElem?_getD]
  cases l[k]? <;> rfl

theorem decodeL_eq (l : List UInt8) : Lib.decodeL l = Lib.decodeN l.length (l.getD 0 0).toNat (l.getD 1 0).toNat (l.getD 2 0).toNat (l.getD 3 0).toNat := by
  unfold Lib.decodeL
  rw [Lib.decode_at]
  simp only [Nat.sub_zero, Nat.zero_add, get_mk]
  rfl

theorem contFold_zero (l : List UInt8) (r : Int) : contFold l 0 r = some r := by cases l <;> rfl
theorem contFold_nil (n : Nat) (r : Int) : contFold [] (n + 1) r = none := rfl

def goodAt (l : List UInt8) : Prop :=
  atSpec l = if (Lib.decodeL l).1 = 65533 ∧ (Lib.decodeL l).2 = 1 then (0, 0) else (((Lib.decodeL l).1 : Int), ((Lib.decodeL l).2 : Int))

theorem pair_eq {a b c d : Int} (h : a = c) (k : b = d) : (a, b) = (c, d) := by rw [h, k]

set_option maxHeartbeats 8000000 in
theorem atSpec_dec1 (a : UInt8) : goodAt [a] := by
  unfold goodAt
  rw [decodeL_eq]
  have ha := a.toNat_lt
  simp only [atSpec_cons, atTail, List.length_nil, List.length_cons, List.getD_cons_zero, Nat.zero_add]
  generalize a.toNat = x at ha ⊢
  unfold Lib.decodeN
  simp only [Nat.lt_irrefl, false_and, and_false, if_false]
  repeat' split
  all_goals first | rfl | (exfalso; omega) | (simp_all; done) | (simp_all; omega)

set_option maxHeartbeats 8000000 in
theorem atSpec_dec2 (a b : UInt8) : goodAt [a, b] := by
  unfold goodAt
  rw [decodeL_eq]
  have ha := a.toNat_lt
  have hb := b.toNat_lt
  simp only [atSpec_cons, atTail, List.length_nil, List.length_cons, List.getD_cons_zero, List.getD_cons_succ, Nat.zero_add, Nat.reduceAdd, Nat.reduceLT, if_false, if_true, Nat.reduceSub]
  rw [show contFold [b] 1 ((a.toNat : Int) - 192) = _ from contFold_cons b [] 0 _, contFold_zero]
  generalize a.toNat = x at ha ⊢
  generalize b.toNat = y at hb ⊢
  unfold Lib.decodeN atEnd
  simp only [Nat.lt_irrefl, false_and, and_false, if_false]
  repeat' split
  all_goals first | rfl | (exfalso; omega) | (apply pair_eq <;> omega) | (simp_all; done) | (simp_all; omega)

set_option maxHeartbeats 8000000 in
theorem atSpec_dec3 (a b c : UInt8) : goodAt [a, b, c] := by
  unfold goodAt
  rw [decodeL_eq]
  have ha := a.toNat_lt
  have hb := b.toNat_lt
  have hc := c.toNat_lt
  simp only [atSpec_cons, atTail, List.length_nil, List.length_cons, List.getD_cons_zero, List.getD_cons_succ, Nat.zero_add, Nat.reduceAdd, Nat.reduceLT, if_false, if_true, Nat.reduceSub]
  rw [show contFold [b, c] 1 ((a.toNat : Int) - 192) = _ from contFold_cons b [c] 0 _, contFold_zero,
    show contFold [b, c] 2 ((a.toNat : Int) - 224) = _ from contFold_cons b [c] 1 _, show contFold [c] 1 (64 * ((a.toNat : Int) - 224) + b.toNat - 128) = _ from contFold_cons c [] 0 _, contFold_zero]
  generalize a.toNat = x at ha ⊢
  generalize b.toNat = y at hb ⊢
  generalize c.toNat = z at hc ⊢
  unfold Lib.decodeN atEnd
  simp only [Nat.lt_irrefl, false_and, and_false, if_false]
  repeat' split
  all_goals first | rfl | (exfalso; omega) | (apply pair_eq <;> omega) | (simp_all; done) | (simp_all; omega)

set_option maxHeartbeats 8000000 in
theorem atSpec_dec4 (a b c d : UInt8) (r : List UInt8) : goodAt (a :: b :: c :: d :: r) := by
  unfold goodAt
  rw [decodeL_eq]
  have ha := a.toNat_lt
  have hb := b.toNat_lt
  have hc := c.toNat_lt
  have hd := d.toNat_lt
  rw [atSpec_cons]
  have l2 : ¬ (b :: c :: d :: r).length + 1 < 2 := by simp
  have l3 : ¬ (b :: c :: d :: r).length + 1 < 3 := by simp
  have l4 : ¬ (b :: c :: d :: r).length + 1 < 4 := by simp
  have e2 : atTail (b :: c :: d :: r) 2 ((a.toNat : Int) - 192) 128 = atEnd (if (b.toNat : Int) < 128 ∨ 192 ≤ (b.toNat : Int) then none else some (64 * ((a.toNat : Int) - 192) + b.toNat - 128)) 2 128 := by
    unfold atTail
    rw [if_neg l2, show (2 - 1 : Nat) = 0 + 1 from rfl, contFold_cons, contFold_zero]
  have e3 : atTail (b :: c :: d :: r) 3 ((a.toNat : Int) - 224) 2048 = atEnd (if (b.toNat : Int) < 128 ∨ 192 ≤ (b.toNat : Int) then none else if (c.toNat : Int) < 128 ∨ 192 ≤ (c.toNat : Int) then none else some (64 * (64 * ((a.toNat : Int) - 224) + b.toNat - 128) + c.toNat - 128)) 3 2048 := by
    unfold atTail
    rw [if_neg l3, show (3 - 1 : Nat) = 1 + 1 from rfl, contFold_cons, show (1 : Nat) = 0 + 1 from rfl, contFold_cons, contFold_zero]
  have e4 : atTail (b :: c :: d :: r) 4 ((a.toNat : Int) - 240) 65536 = atEnd (if (b.toNat : Int) < 128 ∨ 192 ≤ (b.toNat : Int) then none else if (c.toNat : Int) < 128 ∨ 192 ≤ (c.toNat : Int) then none else if (d.toNat : Int) < 128 ∨ 192 ≤ (d.toNat : Int) then none else some (64 * (64 * (64 * ((a.toNat : Int) - 240) + b.toNat - 128) + c.toNat - 128) + d.toNat - 128)) 4 65536 := by
    unfold atTail
    rw [if_neg l4, show (4 - 1 : Nat) = 2 + 1 from rfl, contFold_cons, show (2 : Nat) = 1 + 1 from rfl, contFold_cons, show (1 : Nat) = 0 + 1 from rfl, contFold_cons, contFold_zero]
  rw [e2, e3, e4]
  clear e2 e3 e4 l2 l3 l4
  have hl : 3 < (a :: b :: c :: d :: r).length := by simp
  generalize (a :: b :: c :: d :: r).length = n at hl
  simp only [List.getD_cons_zero, List.getD_cons_succ]
  generalize a.toNat = x at ha ⊢
  generalize b.toNat = y at hb ⊢
  generalize c.toNat = z at hc ⊢
  generalize d.toNat = u at hd ⊢
  unfold Lib.decodeN
  by_cases b1 : (y : Int) < 128 ∨ 192 ≤ (y : Int)
  · simp only [if_pos b1]
    unfold atEnd
    repeat' split
    all_goals first | rfl | (exfalso; omega) | (apply pair_eq <;> omega) | (simp_all; done) | (simp_all; omega)
  simp only [if_neg b1]
  by_cases b2 : (z : Int) < 128 ∨ 192 ≤ (z : Int)
  · simp only [if_pos b2]
    unfold atEnd
    repeat' split
    all_goals first | rfl | (exfalso; omega) | (apply pair_eq <;> omega) | (simp_all; done) | (simp_all; omega)
  simp only [if_neg b2]
  by_cases b3 : (u : Int) < 128 ∨ 192 ≤ (u : Int)
  · simp only [if_pos b3]
    unfold atEnd
    repeat' split
    all_goals first | rfl | (exfalso; omega) | (apply pair_eq <;> omega) | (simp_all; done) | (simp_all; omega)
  simp only [if_neg b3]
  unfold atEnd
  repeat' split
  all_goals first | rfl | (exfalso; omega) | (apply pair_eq <;> omega) | (simp_all; done) | (simp_all; omega)

theorem atSpec_dec (l : List UInt8) (h : l ≠ []) : goodAt l :=
  match l, h with
  | [a], _ => atSpec_dec1 a
  | [a, b], _ => atSpec_dec2 a b
  | [a, b, c], _ => atSpec_dec3 a b c
  | a :: b :: c :: d :: r, _ => atSpec_dec4 a b c d r

end Go.Proofs.YtemceefalkfneaaGreatDoor
