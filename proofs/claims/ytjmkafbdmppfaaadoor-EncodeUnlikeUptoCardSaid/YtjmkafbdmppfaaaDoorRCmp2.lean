/- commonplaceref02.Compare: 0 just for the same value. Condition: values that may be, a bulk of at most 10^8. -/
import Derived.Test.YtjmkafbdmppfaaaDoorProg
import Derived.Test.YtjmkafbdmppfaaaDoorRCmp
import Derived.Test.YtjmkafbdmppfaaaDoorUnlV
namespace Go.Proofs.YtjmkafbdmppfaaaDoor
open Go.RowKit

/-- What Compare hands back. -/
def CmpPost (p : Prop) (w : World) (e : Ending) (w' : World) : Prop := ∃ c : Int, e = .returned (.int .i64 c) ∧ (c = 0 ↔ p) ∧ Below w.heap.size w w'
theorem CmpPost.of {p : Prop} {w w' : World} {c : Int} (h : c = 0 ↔ p) (hb : Below w.heap.size w w') : CmpPost p w (.returned (.int .i64 c)) w' := ⟨c, rfl, h, hb⟩

/-- What Compare does with two values. -/
def CmpC (a : Val) : Prop := ∀ (b : Val) (cs cs' : List Value) (w : World) (d d' : Int), HoldsV w w.heap.size a cs → HoldsV w w.heap.size b cs' → a.bulk ≤ 100000000 → b.bulk ≤ 100000000 → mayV a d = 0 → mayV b d' = 0 →
    Calls Tryd.prog 16 #[.agg cs.toArray, .agg cs'.toArray] w (CmpPost (a = b) w)

abbrev box6 (k : Int) (b : Bool) (n : Int) (t : ByteArray) (x y : Value) : Obj := .cells #[.int .i64 k, .bool b, .int .i64 n, .string t, x, y] 26
theorem two_below (w : World) (o o' : Obj) : Below w.heap.size w ((w.alloc o).alloc o') := ((Below.refl _ _).alloc (Nat.le_refl _) _).alloc (by simp) _

set_option maxRecDepth 100000 in
set_option maxHeartbeats 1000000 in
theorem cmp_diff (k k' : Int) (b b' : Bool) (n n' : Int) (t t' : ByteArray) (x y x' y' : Value) (w : World) (h : k ≠ k') (p : Prop) (hp : ¬p) :
    Calls Tryd.prog 16 #[.agg #[.int .i64 k, .bool b, .int .i64 n, .string t, x, y], .agg #[.int .i64 k', .bool b', .int .i64 n', .string t', x', y']] w (CmpPost p w) := by
  have h1 : (k == k') = false := by simpa using h
  have h2 : (k != k') = true := by simpa using h
  obtain ⟨C, hC⟩ : ∃ C, numV k k' = C := ⟨_, rfl⟩
  have cN := fun w => num_calls k k' w
  rw [hC] at cN
  have HN := Lib.hid cN
  have Hc : Hid (C = 0 ↔ p) := by
    show _ ↔ _
    rw [← hC, numV_zero]
    exact ⟨fun e => absurd e h, fun e => absurd e hp⟩
  clear cN hC h hp
  go_enter Tryd.func16, Tryd.ntmps16
  go_wp2_with (fail)
  with_reducible refine (HN.out _).mono ?_
  rintro e w' ⟨rfl, rfl⟩
  go_wp2
  go_ret
  exact CmpPost.of Hc.out (two_below _ _ _)

set_option maxRecDepth 100000 in
set_option maxHeartbeats 1000000 in
theorem cmp_null (b b' : Bool) (n n' : Int) (t t' : ByteArray) (x y x' y' : Value) (w : World) (p : Prop) (hp : p) :
    Calls Tryd.prog 16 #[.agg #[.int .i64 1, .bool b, .int .i64 n, .string t, x, y], .agg #[.int .i64 1, .bool b', .int .i64 n', .string t', x', y']] w (CmpPost p w) := by
  have Hp := Lib.hid hp
  clear hp
  go_enter Tryd.func16, Tryd.ntmps16
  go_wp2
  go_ret
  exact CmpPost.of ⟨fun _ => Hp.out, fun _ => rfl⟩ (two_below _ _ _)

set_option maxRecDepth 100000 in
set_option maxHeartbeats 1000000 in
theorem cmp_bool (b b' : Bool) (n n' : Int) (t t' : ByteArray) (x y x' y' : Value) (w : World) (p : Prop) (hp : b = b' ↔ p) :
    Calls Tryd.prog 16 #[.agg #[.int .i64 2, .bool b, .int .i64 n, .string t, x, y], .agg #[.int .i64 2, .bool b', .int .i64 n', .string t', x', y']] w (CmpPost p w) := by
  cases b <;> cases b'
  · have Hp : Hid p := hp.1 rfl
    clear hp
    go_enter Tryd.func16, Tryd.ntmps16
    go_wp2
    go_ret
    exact CmpPost.of ⟨fun _ => Hp.out, fun _ => rfl⟩ (two_below _ _ _)
  · have Hp : Hid (¬p) := fun h => by cases hp.2 h
    clear hp
    go_enter Tryd.func16, Tryd.ntmps16
    go_wp2
    go_ret
    exact CmpPost.of (c := -1) ⟨fun h => absurd h (by decide), fun h => absurd h Hp.out⟩ (two_below _ _ _)
  · have Hp : Hid (¬p) := fun h => by cases hp.2 h
    clear hp
    go_enter Tryd.func16, Tryd.ntmps16
    go_wp2
    go_ret
    exact CmpPost.of (c := 1) ⟨fun h => absurd h (by decide), fun h => absurd h Hp.out⟩ (two_below _ _ _)
  · have Hp : Hid p := hp.1 rfl
    clear hp
    go_enter Tryd.func16, Tryd.ntmps16
    go_wp2
    go_ret
    exact CmpPost.of ⟨fun _ => Hp.out, fun _ => rfl⟩ (two_below _ _ _)

set_option maxRecDepth 100000 in
set_option maxHeartbeats 1000000 in
theorem cmp_int (b b' : Bool) (n n' : Int) (t t' : ByteArray) (x y x' y' : Value) (w : World) (p : Prop) (hp : n = n' ↔ p) :
    Calls Tryd.prog 16 #[.agg #[.int .i64 3, .bool b, .int .i64 n, .string t, x, y], .agg #[.int .i64 3, .bool b', .int .i64 n', .string t', x', y']] w (CmpPost p w) := by
  obtain ⟨C, hC⟩ : ∃ C, numV n n' = C := ⟨_, rfl⟩
  have cN := fun w => num_calls n n' w
  rw [hC] at cN
  have HN := Lib.hid cN
  have Hc : Hid (C = 0 ↔ p) := by
    show _ ↔ _
    rw [← hC, numV_zero]
    exact hp
  clear cN hC hp
  go_enter Tryd.func16, Tryd.ntmps16
  go_wp2_with (fail)
  with_reducible refine (HN.out _).mono ?_
  rintro e w' ⟨rfl, rfl⟩
  go_wp2
  go_ret
  exact CmpPost.of Hc.out (two_below _ _ _)

set_option maxRecDepth 100000 in
set_option maxHeartbeats 1000000 in
theorem cmp_text (b b' : Bool) (n n' : Int) (t t' : ByteArray) (x y x' y' : Value) (w : World) (p : Prop) (h1 : t.size ≤ 1000000000) (h2 : t'.size ≤ 1000000000) (hp : t = t' ↔ p) :
    Calls Tryd.prog 16 #[.agg #[.int .i64 4, .bool b, .int .i64 n, .string t, x, y], .agg #[.int .i64 4, .bool b', .int .i64 n', .string t', x', y']] w (CmpPost p w) := by
  have HN := Lib.hid (fun w => texts_calls t t' w h1 h2)
  have Hp := Lib.hid hp
  clear hp
  go_enter Tryd.func16, Tryd.ntmps16
  go_wp2_with (fail)
  with_reducible refine (HN.out _).mono ?_
  rintro e w' ⟨c, rfl, hc, hb⟩
  have Hc := Lib.hid hc
  clear hc
  go_wp2
  go_ret
  exact CmpPost.of (Hc.out.trans Hp.out) ((two_below _ _ _).trans (hb.mono (by simp; omega)))

end Go.Proofs.YtjmkafbdmppfaaaDoor
