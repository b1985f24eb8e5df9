/- Plain Lean, no program: the reference's runes are the decoder's. -/
import Derived.Test.YtjmkafbdmppfaaaDoorUtf
import Derived.Lib.ValidU
namespace Go.Proofs.YtjmkafbdmppfaaaDoor

theorem get_mk (l : List UInt8) (k : Nat) : ((ByteArray.mk l.toArray).get! k) = l.getD k 0 := by
  show l.toArray[k]! = l.getD k 0
  rw [getElem!_def]
  simp only [List.getElem?_toArray, List.getD_eq_getElem?_getD]
  cases l[k]? <;> rfl

theorem decodeL_eq (l : List UInt8) : Lib.decodeL l = Lib.decodeN l.length (l.getD 0 0).toNat (l.getD 1 0).toNat (l.getD 2 0).toNat (l.getD 3 0).toNat := by
  unfold Lib.decodeL
  rw [Lib.decode_at]
  simp only [Nat.sub_zero, Nat.zero_add, get_mk]
  rfl

theorem contFold_zero (l : List UInt8) (r : Int) : contFold l 0 r = some r := by cases l <;> rfl
theorem contFold_nil (n : Nat) (r : Int) : contFold [] (n + 1) r = none := rfl

def goodAt (l : List UInt8) : Prop :=
  atSpec l = if (Lib.decodeL l).1 = 65533 ∧ (Lib.decodeL l).2 = 1 then (0, 0) else (((Lib.decodeL l).1 : Int), ((Lib.decodeL l).2 : Int))

theorem pair_eq {a b c d : Int} (h : a = c) (k : b = d) : (a, b) = (c, d) := by rw [h, k]

set_option maxHeartbeats 8000000 in
theorem atSpec_dec1 (a : UInt8) : goodAt [a] := by
  unfold goodAt
  rw [decodeL_eq]
  have ha := a.toNat_lt
  simp only [atSpec_cons, atTail, List.length_nil, List.length_cons, List.getD_cons_zero, Nat.zero_add]
  generalize a.toNat = x at ha ⊢
  unfold Lib.decodeN
  simp only [Nat.lt_irrefl, false_and, and_false, if_false]
  repeat' split
  all_goals first | rfl | (exfalso; omega) | (simp_all; done) | (simp_all; omega)

set_option maxHeartbeats 8000000 in
theorem atSpec_dec2 (a b : UInt8) : goodAt [a, b] := by
  unfold goodAt
  rw [decodeL_eq]
  have ha := a.toNat_lt
  have hb := b.toNat_lt
  simp only [atSpec_cons, atTail, List.length_nil, List.length_cons, List.getD_cons_zero, List.getD_cons_succ, Nat.zero_add, Nat.reduceAdd, Nat.reduceLT, if_false, if_true, Nat.reduceSub]
  rw [show contFold [b] 1 ((a.toNat : Int) - 192) = _ from contFold_cons b [] 0 _, contFold_zero]
  generalize a.toNat = x at ha ⊢
  generalize b.toNat = y at hb ⊢
  unfold Lib.decodeN atEnd
  simp only [Nat.lt_irrefl, false_and, and_false, if_false]
  repeat' split
  all_goals first | rfl | (exfalso; omega) | (apply pair_eq <;> omega) | (simp_all; done) | (simp_all; omega)

set_option maxHeartbeats 8000000 in
theorem atSpec_dec3 (a b c : UInt8) : goodAt [a, b, c] := by
  unfold goodAt
  rw [decodeL_eq]
  have ha := a.toNat_lt
  have hb := b.toNat_lt
  have hc := c.toNat_lt
  simp only [atSpec_cons, atTail, List.length_nil, List.length_cons, List.getD_cons_zero, List.getD_cons_succ, Nat.zero_add, Nat.reduceAdd, Nat.reduceLT, if_false, if_true, Nat.reduceSub]
  rw [show contFold [b, c] 1 ((a.toNat : Int) - 192) = _ from contFold_cons b [c] 0 _, contFold_zero,
    show contFold [b, c] 2 ((a.toNat : Int) - 224) = _ from contFold_cons b [c] 1 _, show contFold [c] 1 (64 * ((a.toNat : Int) - 224) + b.toNat - 128) = _ from contFold_cons c [] 0 _, contFold_zero]
  generalize a.toNat = x at ha ⊢
  generalize b.toNat = y at hb ⊢
  generalize c.toNat = z at hc ⊢
  unfold Lib.decodeN atEnd
  simp only [Nat.lt_irrefl, false_and, and_false, if_false]
  repeat' split
  all_goals first | rfl | (exfalso; omega) | (apply pair_eq <;> omega) | (simp_all; done) | (simp_all; omega)

set_option maxHeartbeats 8000000 in
theorem atSpec_dec4 (a b c d : UInt8) (r : List UInt8) : goodAt (a :: b :: c :: d :: r) := by
  unfold goodAt
  rw [decodeL_eq]
  have ha := a.toNat_lt
  have hb := b.toNat_lt
  have hc := c.toNat_lt
  have hd := d.toNat_lt
  rw [atSpec_cons]
  have l2 : ¬ (b :: c :: d :: r).length + 1 < 2 := by simp
  have l3 : ¬ (b :: c :: d :: r).length + 1 < 3 := by simp
  have l4 : ¬ (b :: c :: d :: r).length + 1 < 4 := by simp
  have e2 : atTail (b :: c :: d :: r) 2 ((a.toNat : Int) - 192) 128 = atEnd (if (b.toNat : Int) < 128 ∨ 192 ≤ (b.toNat : Int) then none else some (64 * ((a.toNat : Int) - 192) + b.toNat - 128)) 2 128 := by
    unfold atTail
    rw [if_neg l2, show (2 - 1 : Nat) = 0 + 1 from rfl, contFold_cons, contFold_zero]
  have e3 : atTail (b :: c :: d :: r) 3 ((a.toNat : Int) - 224) 2048 = atEnd (if (b.toNat : Int) < 128 ∨ 192 ≤ (b.toNat : Int) then none else if (c.toNat : Int) < 128 ∨ 192 ≤ (c.toNat : Int) then none else some (64 * (64 * ((a.toNat : Int) - 224) + b.toNat - 128) + c.toNat - 128)) 3 2048 := by
    unfold atTail
    rw [if_neg l3, show (3 - 1 : Nat) = 1 + 1 from rfl, contFold_cons, show (1 : Nat) = 0 + 1 from rfl, contFold_cons, contFold_zero]
  have e4 : atTail (b :: c :: d :: r) 4 ((a.toNat : Int) - 240) 65536 = atEnd (if (b.toNat : Int) < 128 ∨ 192 ≤ (b.toNat : Int) then none else if (c.toNat : Int) < 128 ∨ 192 ≤ (c.toNat : Int) then none else if (d.toNat : Int) < 128 ∨ 192 ≤ (d.toNat : Int) then none else some (64 * (64 * (64 * ((a.toNat : Int) - 240) + b.toNat - 128) + c.toNat - 128) + d.toNat - 128)) 4 65536 := by
    unfold atTail
    rw [if_neg l4, show (4 - 1 : Nat) = 2 + 1 from rfl, contFold_cons, show (2 : Nat) = 1 + 1 from rfl, contFold_cons, show (1 : Nat) = 0 + 1 from rfl, contFold_cons, contFold_zero]
  rw [e2, e3, e4]
  clear e2 e3 e4 l2 l3 l4
  have hl : 3 < (a :: b :: c :: d :: r).length := by simp
  generalize (a :: b :: c :: d :: r).length = n at hl
  simp only [List.getD_cons_zero, List.getD_cons_succ]
  generalize a.toNat = x at ha ⊢
  generalize b.toNat = y at hb ⊢
  generalize c.toNat = z at hc ⊢
  generalize d.toNat = u at hd ⊢
  unfold Lib.decodeN
  by_cases b1 : (y : Int) < 128 ∨ 192 ≤ (y : Int)
  · simp only [if_pos b1]
    unfold atEnd
    repeat' split
    all_goals first | rfl | (exfalso; omega) | (apply pair_eq <;> omega) | (simp_all; done) | (simp_all; omega)
  simp only [if_neg b1]
  by_cases b2 : (z : Int) < 128 ∨ 192 ≤ (z : Int)
  · simp only [if_pos b2]
    unfold atEnd
    repeat' split
    all_goals first | rfl | (exfalso; omega) | (apply pair_eq <;> omega) | (simp_all; done) | (simp_all; omega)
  simp only [if_neg b2]
  by_cases b3 : (u : Int) < 128 ∨ 192 ≤ (u : Int)
  · simp only [if_pos b3]
    unfold atEnd
    repeat' split
    all_goals first | rfl | (exfalso; omega) | (apply pair_eq <;> omega) | (simp_all; done) | (simp_all; omega)
  simp only [if_neg b3]
  unfold atEnd
  repeat' split
  all_goals first | rfl | (exfalso; omega) | (apply pair_eq <;> omega) | (simp_all; done) | (simp_all; omega)

theorem atSpec_dec (l : List UInt8) (h : l ≠ []) : goodAt l :=
  match l, h with
  | [a], _ => atSpec_dec1 a
  | [a, b], _ => atSpec_dec2 a b
  | [a, b, c], _ => atSpec_dec3 a b c
  | a :: b :: c :: d :: r, _ => atSpec_dec4 a b c d r

end Go.Proofs.YtjmkafbdmppfaaaDoor
