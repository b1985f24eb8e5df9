/- Parts, joined: The reference's runes: At, Valid. Plain Lean, no program: the reference's runes are the decoder's. The reference's Valid, and why it holds a value for one that may not be. utf.Runes: the iterator over a text's runes and their places. Condition: a text shorter than 10^9. commonplaceref01.Runes: a text's runes and their places. Condition: a text of at most 10^9 bytes. commonplaceref01.Code: an escape's rune. No condition. commonplaceref01.Bytes: a rune's bytes. Condition: a rune of Unicode, no surrogate. -/
import Derived.Test.YtjjbbnodmpemiaaGreatDoorProg
import Derived.Lib.ValidU
import Derived.Lib.MapLaws
import Derived.Lib.TrimUEq
import Derived.LoopIn
import Derived.LoopNIn
import Derived.Maps.AppendAt
import Derived.WalkKit
import Derived.Below
import Derived.Lib.RuneBytes
import Derived.Lib.Hide
import Derived.IntWalk
import Derived.Laws.IdiomStrings
import Derived.Lib.Builder
import Derived.Test.YtjjbbnodmpemiaaGreatDoorKPull5
/- The reference's runes: At, Valid. -/
namespace Go.Proofs.YtjjbbnodmpemiaaGreatDoor
open Go.RowKit

def contFold : List UInt8 → Nat → Int → Option Int
  | _, 0, r => some r
  | [], _ + 1, _ => none
  | d :: l, n + 1, r => if (d.toNat : Int) < 128 ∨ 192 ≤ (d.toNat : Int) then none else contFold l n (64 * r + d.toNat - 128)

def atEnd (F : Option Int) (n : Nat) (least : Int) : Int × Int :=
  match F with
  | none => (0, 0)
  | some r => if r < least ∨ 1114111 < r ∨ (55296 ≤ r ∧ r < 57344) then (0, 0) else (r, n)

def atTail (rest : List UInt8) (n : Nat) (r0 least : Int) : Int × Int :=
  if rest.length + 1 < n then (0, 0) else atEnd (contFold rest (n - 1) r0) n least

def atSpec : List UInt8 → Int × Int
  | [] => (0, 0)
  | c :: rest =>
    if (c.toNat : Int) < 128 then (c.toNat, 1)
    else if 192 ≤ (c.toNat : Int) ∧ (c.toNat : Int) < 224 then atTail rest 2 (c.toNat - 192) 128
    else if 224 ≤ (c.toNat : Int) ∧ (c.toNat : Int) < 240 then atTail rest 3 (c.toNat - 224) 2048
    else if 240 ≤ (c.toNat : Int) ∧ (c.toNat : Int) < 248 then atTail rest 4 (c.toNat - 240) 65536
    else (0, 0)

theorem drop_byte (s : ByteArray) (a : Nat) (h : a < s.size) : s.data.toList.drop a = s[a] :: s.data.toList.drop (a + 1) := by
  rw [List.drop_eq_getElem_cons (by rw [← Lib.size_eq]; exact h)]
  rfl
theorem contFold_cons (d : UInt8) (l : List UInt8) (n : Nat) (r : Int) : contFold (d :: l) (n + 1) r = if (d.toNat : Int) < 128 ∨ 192 ≤ (d.toNat : Int) then none else contFold l n (64 * r + d.toNat - 128) := rfl
theorem atSpec_cons (c : UInt8) (rest : List UInt8) : atSpec (c :: rest) =
    (if (c.toNat : Int) < 128 then ((c.toNat : Int), (1 : Int))
    else if 192 ≤ (c.toNat : Int) ∧ (c.toNat : Int) < 224 then atTail rest 2 (c.toNat - 192) 128
    else if 224 ≤ (c.toNat : Int) ∧ (c.toNat : Int) < 240 then atTail rest 3 (c.toNat - 224) 2048
    else if 240 ≤ (c.toNat : Int) ∧ (c.toNat : Int) < 248 then atTail rest 4 (c.toNat - 240) 65536
    else (0, 0)) := rfl

set_option maxRecDepth 1000000 in
set_option maxHeartbeats 2000000 in
theorem At_two (s : ByteArray) (a : Nat) (w : World) (hs : s.size ≤ 4611686018427387904) (h : a < s.size) (x : UInt8) (hx : s[a] = x) (h1 : 192 ≤ (x.toNat : Int)) (h2 : (x.toNat : Int) < 224) (h3 : a + 2 ≤ s.size) :
    Calls Tryz.prog 75 #[.string s, .int .i64 a] w fun e w' => e = .returned (.tuple #[.int .i64 (atTail (s.data.toList.drop (a + 1)) 2 (x.toNat - 192) 128).1, .int .i64 (atTail (s.data.toList.drop (a + 1)) 2 (x.toNat - 192) 128).2]) ∧ w = w' := by
  have hlen : ¬ (s.data.toList.drop (a + 1)).length + 1 < 2 := by
    rw [List.length_drop, ← Lib.size_eq]; omega
  obtain ⟨F, hF⟩ : ∃ F, contFold (s.data.toList.drop (a + 1)) (2 - 1) (x.toNat - 192) = F := ⟨_, rfl⟩
  have hat : atTail (s.data.toList.drop (a + 1)) 2 (x.toNat - 192) 128 = atEnd F 2 128 := by
    unfold atTail atEnd
    rw [if_neg hlen, hF]
  rw [hat]
  have H0 := Lib.hid hF
  clear hat hlen hF
  have e1 : decide (s.size ≤ a) = false := by simp; omega
  have e2 : decide ((x.toNat : Int) < 128) = false := by simp; omega
  have e3 : (a : Int) + 2 ≤ (s.size : Int) := by omega
  go_enter Tryz.func75, Tryz.ntmps75
  go_wp2
  go_loop [8, 10] (fun r i => ∃ k : Nat, ∃ rr : Int, 1 ≤ k ∧ k ≤ 2 ∧ i = .int .i64 k ∧ r = .int .i64 rr ∧ 0 ≤ rr ∧ (k ≤ 1 → rr ≤ 31) ∧ (k ≤ 2 → rr ≤ 2047) ∧ (k ≤ 3 → rr ≤ 131071) ∧ rr ≤ 8388607 ∧ Hid (contFold (s.data.toList.drop (a + k)) (2 - k) rr = F)) (fun _ i => 2 - (intOf i).toNat)
  case atStart => exact ⟨1, (x.toNat : Int) - 192, by omega, by omega, rfl, rfl, by omega, by omega, by omega, by omega, by omega, H0⟩
  case round =>
    obtain ⟨k, rr, hk1, hk2, rfl, rfl, hr0, hr1, hr2, hr3, hr4, hf⟩ := hrel
    clear H0
    by_cases hlt : k < 2
    · obtain rfl : k = 1 := by omega
      have hak : a + 1 < s.size := by omega
      obtain ⟨y, hy⟩ : ∃ y, s[a + 1] = y := ⟨_, rfl⟩
      have hyl : (y.toNat : Int) < 256 := by have := y.toNat_lt; omega
      have hf' := hf.out
      rw [drop_byte s (a + 1) hak, hy, show 2 - 1 = (2 - (1 + 1)) + 1 from by omega] at hf'
      rw [contFold_cons] at hf'
      by_cases hc : (y.toNat : Int) < 128 ∨ 192 ≤ (y.toNat : Int)
      · rw [if_pos hc] at hf'
        subst hf'
        clear hf
        rcases hc with hc | hc
        all_goals
          go_wp2
          all_goals go_ret2
          all_goals exact ⟨rfl, rfl⟩
      · rw [if_neg hc] at hf'
        have Hf := Lib.hid hf'
        clear hf hf'
        have hc1 : 128 ≤ (y.toNat : Int) := by omega
        have hc2 : (y.toNat : Int) < 192 := by omega
        clear hc
        go_wp2
        go_round
        case rel => exact ⟨1 + 1, 64 * rr + y.toNat - 128, by omega, by omega, by go_num, rfl, by omega, by omega, by omega, by omega, by omega, Hf⟩
        case measure => first | (simp [intOf]; done) | (simp [intOf]; omega)
    · obtain rfl : k = 2 := by omega
      have hf' := hf.out
      rw [Nat.sub_self] at hf'
      rw [show contFold (s.data.toList.drop (a + 2)) 0 rr = some rr from by cases (s.data.toList.drop (a + 2)) <;> rfl] at hf'
      subst hf'
      clear hf
      by_cases hbad : rr < 128 ∨ 1114111 < rr ∨ (55296 ≤ rr ∧ rr < 57344)
      · have hv : atEnd (some rr) 2 128 = (0, 0) := by unfold atEnd; simp only; rw [if_pos hbad]
        have Hv := Lib.hid hv
        clear hv
        have hb : (rr < 128) ∨ (¬ rr < 128 ∧ 1114111 < rr) ∨ (¬ rr < 128 ∧ ¬ 1114111 < rr ∧ 55296 ≤ rr ∧ rr < 57344) := by omega
        clear hbad
        rcases hb with b1 | ⟨b1, b2⟩ | ⟨b1, b2, b3, b4⟩
        all_goals
          go_wp2
          all_goals go_ret2
          all_goals exact ⟨by rw [Hv.out]; rfl, rfl⟩
      · have hv : atEnd (some rr) 2 128 = (rr, 2) := by unfold atEnd; simp only; rw [if_neg hbad]; rfl
        have Hv := Lib.hid hv
        clear hv
        have hb : (¬ rr < 128 ∧ ¬ 1114111 < rr ∧ rr < 55296) ∨ (¬ rr < 128 ∧ ¬ 1114111 < rr ∧ 55296 ≤ rr ∧ ¬ rr < 57344) := by omega
        clear hbad
        rcases hb with ⟨b1, b2, b3⟩ | ⟨b1, b2, b3, b4⟩
        all_goals
          go_wp2
          all_goals go_ret2
          all_goals exact ⟨by rw [Hv.out]; rfl, rfl⟩

set_option maxRecDepth 1000000 in
set_option maxHeartbeats 2000000 in
theorem At_three (s : ByteArray) (a : Nat) (w : World) (hs : s.size ≤ 4611686018427387904) (h : a < s.size) (x : UInt8) (hx : s[a] = x) (h1 : 224 ≤ (x.toNat : Int)) (h2 : (x.toNat : Int) < 240) (h3 : a + 3 ≤ s.size) :
    Calls Tryz.prog 75 #[.string s, .int .i64 a] w fun e w' => e = .returned (.tuple #[.int .i64 (atTail (s.data.toList.drop (a + 1)) 3 (x.toNat - 224) 2048).1, .int .i64 (atTail (s.data.toList.drop (a + 1)) 3 (x.toNat - 224) 2048).2]) ∧ w = w' := by
  have hlen : ¬ (s.data.toList.drop (a + 1)).length + 1 < 3 := by
    rw [List.length_drop, ← Lib.size_eq]; omega
  obtain ⟨F, hF⟩ : ∃ F, contFold (s.data.toList.drop (a + 1)) (3 - 1) (x.toNat - 224) = F := ⟨_, rfl⟩
  have hat : atTail (s.data.toList.drop (a + 1)) 3 (x.toNat - 224) 2048 = atEnd F 3 2048 := by
    unfold atTail atEnd
    rw [if_neg hlen, hF]
  rw [hat]
  have H0 := Lib.hid hF
  clear hat hlen hF
  have e1 : decide (s.size ≤ a) = false := by simp; omega
  have e2 : decide ((x.toNat : Int) < 128) = false := by simp; omega
  have e3 : (a : Int) + 3 ≤ (s.size : Int) := by omega
  go_enter Tryz.func75, Tryz.ntmps75
  go_wp2
  go_loop [8, 10] (fun r i => ∃ k : Nat, ∃ rr : Int, 1 ≤ k ∧ k ≤ 3 ∧ i = .int .i64 k ∧ r = .int .i64 rr ∧ 0 ≤ rr ∧ (k ≤ 1 → rr ≤ 31) ∧ (k ≤ 2 → rr ≤ 2047) ∧ (k ≤ 3 → rr ≤ 131071) ∧ rr ≤ 8388607 ∧ Hid (contFold (s.data.toList.drop (a + k)) (3 - k) rr = F)) (fun _ i => 3 - (intOf i).toNat)
  case atStart => exact ⟨1, (x.toNat : Int) - 224, by omega, by omega, rfl, rfl, by omega, by omega, by omega, by omega, by omega, H0⟩
  case round =>
    obtain ⟨k, rr, hk1, hk2, rfl, rfl, hr0, hr1, hr2, hr3, hr4, hf⟩ := hrel
    clear H0
    by_cases hlt : k < 3
    · have hak : a + k < s.size := by omega
      obtain ⟨y, hy⟩ : ∃ y, s[a + k] = y := ⟨_, rfl⟩
      have hyl : (y.toNat : Int) < 256 := by have := y.toNat_lt; omega
      have hf' := hf.out
      rw [drop_byte s (a + k) hak, hy, show 3 - k = (3 - (k + 1)) + 1 from by omega] at hf'
      rw [contFold_cons] at hf'
      by_cases hc : (y.toNat : Int) < 128 ∨ 192 ≤ (y.toNat : Int)
      · rw [if_pos hc] at hf'
        subst hf'
        clear hf
        rcases hc with hc | hc
        all_goals
          go_wp2
          all_goals go_ret2
          all_goals exact ⟨rfl, rfl⟩
      · rw [if_neg hc] at hf'
        have Hf := Lib.hid hf'
        clear hf hf'
        have hc1 : 128 ≤ (y.toNat : Int) := by omega
        have hc2 : (y.toNat : Int) < 192 := by omega
        clear hc
        go_wp2
        go_round
        case rel => exact ⟨k + 1, 64 * rr + y.toNat - 128, by omega, by omega, by go_num, rfl, by omega, by omega, by omega, by omega, by omega, Hf⟩
        case measure => first | (simp [intOf]; done) | (simp [intOf]; omega)
    · obtain rfl : k = 3 := by omega
      have hf' := hf.out
      rw [Nat.sub_self] at hf'
      rw [show contFold (s.data.toList.drop (a + 3)) 0 rr = some rr from by cases (s.data.toList.drop (a + 3)) <;> rfl] at hf'
      subst hf'
      clear hf
      by_cases hbad : rr < 2048 ∨ 1114111 < rr ∨ (55296 ≤ rr ∧ rr < 57344)
      · have hv : atEnd (some rr) 3 2048 = (0, 0) := by unfold atEnd; simp only; rw [if_pos hbad]
        have Hv := Lib.hid hv
        clear hv
        have hb : (rr < 2048) ∨ (¬ rr < 2048 ∧ 1114111 < rr) ∨ (¬ rr < 2048 ∧ ¬ 1114111 < rr ∧ 55296 ≤ rr ∧ rr < 57344) := by omega
        clear hbad
        rcases hb with b1 | ⟨b1, b2⟩ | ⟨b1, b2, b3, b4⟩
        all_goals
          go_wp2
          all_goals go_ret2
          all_goals exact ⟨by rw [Hv.out]; rfl, rfl⟩
      · have hv : atEnd (some rr) 3 2048 = (rr, 3) := by unfold atEnd; simp only; rw [if_neg hbad]; rfl
        have Hv := Lib.hid hv
        clear hv
        have hb : (¬ rr < 2048 ∧ ¬ 1114111 < rr ∧ rr < 55296) ∨ (¬ rr < 2048 ∧ ¬ 1114111 < rr ∧ 55296 ≤ rr ∧ ¬ rr < 57344) := by omega
        clear hbad
        rcases hb with ⟨b1, b2, b3⟩ | ⟨b1, b2, b3, b4⟩
        all_goals
          go_wp2
          all_goals go_ret2
          all_goals exact ⟨by rw [Hv.out]; rfl, rfl⟩

set_option maxRecDepth 1000000 in
set_option maxHeartbeats 2000000 in
theorem At_four (s : ByteArray) (a : Nat) (w : World) (hs : s.size ≤ 4611686018427387904) (h : a < s.size) (x : UInt8) (hx : s[a] = x) (h1 : 240 ≤ (x.toNat : Int)) (h2 : (x.toNat : Int) < 248) (h3 : a + 4 ≤ s.size) :
    Calls Tryz.prog 75 #[.string s, .int .i64 a] w fun e w' => e = .returned (.tuple #[.int .i64 (atTail (s.data.toList.drop (a + 1)) 4 (x.toNat - 240) 65536).1, .int .i64 (atTail (s.data.toList.drop (a + 1)) 4 (x.toNat - 240) 65536).2]) ∧ w = w' := by
  have hlen : ¬ (s.data.toList.drop (a + 1)).length + 1 < 4 := by
    rw [List.length_drop, ← Lib.size_eq]; omega
  obtain ⟨F, hF⟩ : ∃ F, contFold (s.data.toList.drop (a + 1)) (4 - 1) (x.toNat - 240) = F := ⟨_, rfl⟩
  have hat : atTail (s.data.toList.drop (a + 1)) 4 (x.toNat - 240) 65536 = atEnd F 4 65536 := by
    unfold atTail atEnd
    rw [if_neg hlen, hF]
  rw [hat]
  have H0 := Lib.hid hF
  clear hat hlen hF
  have e1 : decide (s.size ≤ a) = false := by simp; omega
  have e2 : decide ((x.toNat : Int) < 128) = false := by simp; omega
  have e3 : (a : Int) + 4 ≤ (s.size : Int) := by omega
  go_enter Tryz.func75, Tryz.ntmps75
  go_wp2
  go_loop [8, 10] (fun r i => ∃ k : Nat, ∃ rr : Int, 1 ≤ k ∧ k ≤ 4 ∧ i = .int .i64 k ∧ r = .int .i64 rr ∧ 0 ≤ rr ∧ (k ≤ 1 → rr ≤ 31) ∧ (k ≤ 2 → rr ≤ 2047) ∧ (k ≤ 3 → rr ≤ 131071) ∧ rr ≤ 8388607 ∧ Hid (contFold (s.data.toList.drop (a + k)) (4 - k) rr = F)) (fun _ i => 4 - (intOf i).toNat)
  case atStart => exact ⟨1, (x.toNat : Int) - 240, by omega, by omega, rfl, rfl, by omega, by omega, by omega, by omega, by omega, H0⟩
  case round =>
    obtain ⟨k, rr, hk1, hk2, rfl, rfl, hr0, hr1, hr2, hr3, hr4, hf⟩ := hrel
    clear H0
    by_cases hlt : k < 4
    · have hak : a + k < s.size := by omega
      obtain ⟨y, hy⟩ : ∃ y, s[a + k] = y := ⟨_, rfl⟩
      have hyl : (y.toNat : Int) < 256 := by have := y.toNat_lt; omega
      have hf' := hf.out
      rw [drop_byte s (a + k) hak, hy, show 4 - k = (4 - (k + 1)) + 1 from by omega] at hf'
      rw [contFold_cons] at hf'
      by_cases hc : (y.toNat : Int) < 128 ∨ 192 ≤ (y.toNat : Int)
      · rw [if_pos hc] at hf'
        subst hf'
        clear hf
        rcases hc with hc | hc
        all_goals
          go_wp2
          all_goals go_ret2
          all_goals exact ⟨rfl, rfl⟩
      · rw [if_neg hc] at hf'
        have Hf := Lib.hid hf'
        clear hf hf'
        have hc1 : 128 ≤ (y.toNat : Int) := by omega
        have hc2 : (y.toNat : Int) < 192 := by omega
        clear hc
        go_wp2
        go_round
        case rel => exact ⟨k + 1, 64 * rr + y.toNat - 128, by omega, by omega, by go_num, rfl, by omega, by omega, by omega, by omega, by omega, Hf⟩
        case measure => first | (simp [intOf]; done) | (simp [intOf]; omega)
    · obtain rfl : k = 4 := by omega
      have hf' := hf.out
      rw [Nat.sub_self] at hf'
      rw [show contFold (s.data.toList.drop (a + 4)) 0 rr = some rr from by cases (s.data.toList.drop (a + 4)) <;> rfl] at hf'
      subst hf'
      clear hf
      by_cases hbad : rr < 65536 ∨ 1114111 < rr ∨ (55296 ≤ rr ∧ rr < 57344)
      · have hv : atEnd (some rr) 4 65536 = (0, 0) := by unfold atEnd; simp only; rw [if_pos hbad]
        have Hv := Lib.hid hv
        clear hv
        have hb : (rr < 65536) ∨ (¬ rr < 65536 ∧ 1114111 < rr) ∨ (¬ rr < 65536 ∧ ¬ 1114111 < rr ∧ 55296 ≤ rr ∧ rr < 57344) := by omega
        clear hbad
        rcases hb with b1 | ⟨b1, b2⟩ | ⟨b1, b2, b3, b4⟩
        all_goals
          go_wp2
          all_goals go_ret2
          all_goals exact ⟨by rw [Hv.out]; rfl, rfl⟩
      · have hv : atEnd (some rr) 4 65536 = (rr, 4) := by unfold atEnd; simp only; rw [if_neg hbad]; rfl
        have Hv := Lib.hid hv
        clear hv
        have hb : (¬ rr < 65536 ∧ ¬ 1114111 < rr ∧ rr < 55296) ∨ (¬ rr < 65536 ∧ ¬ 1114111 < rr ∧ 55296 ≤ rr ∧ ¬ rr < 57344) := by omega
        clear hbad
        rcases hb with ⟨b1, b2, b3⟩ | ⟨b1, b2, b3, b4⟩
        all_goals
          go_wp2
          all_goals go_ret2
          all_goals exact ⟨by rw [Hv.out]; rfl, rfl⟩


set_option maxRecDepth 1000000 in
set_option maxHeartbeats 2000000 in
theorem At_none (s : ByteArray) (a : Nat) (w : World) (_hs : s.size ≤ 4611686018427387904) (_ha : a ≤ 4611686018427387904) (h : s.size ≤ a) :
    Calls Tryz.prog 75 #[.string s, .int .i64 a] w fun e w' => e = .returned (.tuple #[.int .i64 0, .int .i64 0]) ∧ w = w' := by
  have e1 : (s.size : Int) ≤ a := by omega
  have e2 : decide (s.size ≤ a) = true := by simpa using h
  go_enter Tryz.func75, Tryz.ntmps75
  go_wp2
  all_goals go_ret2
  all_goals exact ⟨rfl, rfl⟩

set_option maxRecDepth 1000000 in
set_option maxHeartbeats 2000000 in
theorem At_one (s : ByteArray) (a : Nat) (w : World) (_hs : s.size ≤ 4611686018427387904) (h : a < s.size) (x : UInt8) (hx : s[a] = x) (h1 : (x.toNat : Int) < 128) :
    Calls Tryz.prog 75 #[.string s, .int .i64 a] w fun e w' => e = .returned (.tuple #[.int .i64 x.toNat, .int .i64 1]) ∧ w = w' := by
  go_enter Tryz.func75, Tryz.ntmps75
  go_wp2
  all_goals go_ret2
  all_goals exact ⟨rfl, rfl⟩

set_option maxRecDepth 1000000 in
set_option maxHeartbeats 20000000 in
/-- No lead byte, or one that lacks bytes behind it. -/
theorem At_bad (s : ByteArray) (a : Nat) (w : World) (hs : s.size ≤ 4611686018427387904) (h : a < s.size) (x : UInt8) (hx : s[a] = x) (h0 : 128 ≤ (x.toNat : Int))
    (h1 : (x.toNat : Int) < 192 ∨ 248 ≤ (x.toNat : Int) ∨ (192 ≤ (x.toNat : Int) ∧ (x.toNat : Int) < 224 ∧ s.size < a + 2) ∨ (224 ≤ (x.toNat : Int) ∧ (x.toNat : Int) < 240 ∧ s.size < a + 3) ∨ (240 ≤ (x.toNat : Int) ∧ (x.toNat : Int) < 248 ∧ s.size < a + 4)) :
    Calls Tryz.prog 75 #[.string s, .int .i64 a] w fun e w' => e = .returned (.tuple #[.int .i64 0, .int .i64 0]) ∧ w = w' := by
  have hxl : (x.toNat : Int) < 256 := by have := x.toNat_lt; omega
  rcases h1 with h1 | h1 | ⟨h1, h2, h3⟩ | ⟨h1, h2, h3⟩ | ⟨h1, h2, h3⟩
  · go_enter Tryz.func75, Tryz.ntmps75
    go_wp2
    all_goals go_ret2
    all_goals exact ⟨rfl, rfl⟩
  · have g1 : 192 ≤ (x.toNat : Int) := by omega
    have g2 : ¬ ((x.toNat : Int) < 224) := by omega
    have g3 : 224 ≤ (x.toNat : Int) := by omega
    have g4 : ¬ ((x.toNat : Int) < 240) := by omega
    have g5 : 240 ≤ (x.toNat : Int) := by omega
    have g6 : ¬ ((x.toNat : Int) < 248) := by omega
    go_enter Tryz.func75, Tryz.ntmps75
    go_wp2
    all_goals go_ret2
    all_goals exact ⟨rfl, rfl⟩
  · have h4 : (s.size : Int) < (a : Int) + 2 := by omega
    go_enter Tryz.func75, Tryz.ntmps75
    go_wp2
    all_goals go_ret2
    all_goals exact ⟨rfl, rfl⟩
  · have h4 : (s.size : Int) < (a : Int) + 3 := by omega
    go_enter Tryz.func75, Tryz.ntmps75
    go_wp2
    all_goals go_ret2
    all_goals exact ⟨rfl, rfl⟩
  · have h4 : (s.size : Int) < (a : Int) + 4 := by omega
    go_enter Tryz.func75, Tryz.ntmps75
    go_wp2
    all_goals go_ret2
    all_goals exact ⟨rfl, rfl⟩

/-- commonplaceref01.At -/
theorem At_calls (s : ByteArray) (a : Nat) (w : World) (hs : s.size ≤ 4611686018427387904) (ha : a ≤ 4611686018427387904) :
    Calls Tryz.prog 75 #[.string s, .int .i64 a] w fun e w' => e = .returned (.tuple #[.int .i64 (atSpec (s.data.toList.drop a)).1, .int .i64 (atSpec (s.data.toList.drop a)).2]) ∧ w = w' := by
  by_cases h : a < s.size
  · rw [drop_byte s a h]
    obtain ⟨x, hx⟩ : ∃ x, s[a] = x := ⟨_, rfl⟩
    rw [hx]
    have hl : (s.data.toList.drop (a + 1)).length = s.size - (a + 1) := by rw [List.length_drop, ← Lib.size_eq]
    have hxl := x.toNat_lt
    rw [atSpec_cons]
    by_cases h1 : (x.toNat : Int) < 128
    · rw [if_pos h1]; exact At_one s a w hs h x hx h1
    rw [if_neg h1]
    by_cases h2 : 192 ≤ (x.toNat : Int) ∧ (x.toNat : Int) < 224
    · rw [if_pos h2]
      by_cases h3 : a + 2 ≤ s.size
      · exact At_two s a w hs h x hx h2.1 h2.2 h3
      · unfold atTail; rw [if_pos (by omega)]; exact At_bad s a w hs h x hx (by omega) (by omega)
    rw [if_neg h2]
    by_cases h2 : 224 ≤ (x.toNat : Int) ∧ (x.toNat : Int) < 240
    · rw [if_pos h2]
      by_cases h3 : a + 3 ≤ s.size
      · exact At_three s a w hs h x hx h2.1 h2.2 h3
      · unfold atTail; rw [if_pos (by omega)]; exact At_bad s a w hs h x hx (by omega) (by omega)
    rw [if_neg h2]
    by_cases h2 : 240 ≤ (x.toNat : Int) ∧ (x.toNat : Int) < 248
    · rw [if_pos h2]
      by_cases h3 : a + 4 ≤ s.size
      · exact At_four s a w hs h x hx h2.1 h2.2 h3
      · unfold atTail; rw [if_pos (by omega)]; exact At_bad s a w hs h x hx (by omega) (by omega)
    rw [if_neg h2]
    exact At_bad s a w hs h x hx (by omega) (by omega)
  · rw [List.drop_eq_nil_of_le (by rw [← Lib.size_eq]; omega)]
    exact At_none s a w hs ha (by omega)

end Go.Proofs.YtjjbbnodmpemiaaGreatDoor

/- Plain Lean, no program: the reference's runes are the decoder's. -/
namespace Go.Proofs.YtjjbbnodmpemiaaGreatDoor

theorem get_mk (l : List UInt8) (k : Nat) : ((ByteArray.mk l.toArray).get! k) = l.getD k 0 := by
  show l.toArray[k]! = l.getD k 0
  rw [getElem!_def]
  simp only [List.getElem?_toArray, List.getD_eq_getElem?_getD]
  cases l[k]? <;> rfl

theorem decodeL_eq (l : List UInt8) : Lib.decodeL l = Lib.decodeN l.length (l.getD 0 0).toNat (l.getD 1 0).toNat (l.getD 2 0).toNat (l.getD 3 0).toNat := by
  unfold Lib.decodeL
  rw [Lib.decode_at]
  simp only [Nat.sub_zero, Nat.zero_add, get_mk]
  rfl

theorem contFold_zero (l : List UInt8) (r : Int) : contFold l 0 r = some r := by cases l <;> rfl
theorem contFold_nil (n : Nat) (r : Int) : contFold [] (n + 1) r = none := rfl

def goodAt (l : List UInt8) : Prop :=
  atSpec l = if (Lib.decodeL l).1 = 65533 ∧ (Lib.decodeL l).2 = 1 then (0, 0) else (((Lib.decodeL l).1 : Int), ((Lib.decodeL l).2 : Int))

theorem pair_eq {a b c d : Int} (h : a = c) (k : b = d) : (a, b) = (c, d) := by rw [h, k]

set_option maxHeartbeats 8000000 in
theorem atSpec_dec1 (a : UInt8) : goodAt [a] := by
  unfold goodAt
  rw [decodeL_eq]
  have ha := a.toNat_lt
  simp only [atSpec_cons, atTail, List.length_nil, List.length_cons, List.getD_cons_zero, Nat.zero_add]
  generalize a.toNat = x at ha ⊢
  unfold Lib.decodeN
  simp only [Nat.lt_irrefl, false_and, and_false, if_false]
  repeat' split
  all_goals first | rfl | (exfalso; omega) | (simp_all; done) | (simp_all; omega)

set_option maxHeartbeats 8000000 in
theorem atSpec_dec2 (a b : UInt8) : goodAt [a, b] := by
  unfold goodAt
  rw [decodeL_eq]
  have ha := a.toNat_lt
  have hb := b.toNat_lt
  simp only [atSpec_cons, atTail, List.length_nil, List.length_cons, List.getD_cons_zero, List.getD_cons_succ, Nat.zero_add, Nat.reduceAdd, Nat.reduceLT, if_false, if_true, Nat.reduceSub]
  rw [show contFold [b] 1 ((a.toNat : Int) - 192) = _ from contFold_cons b [] 0 _, contFold_zero]
  generalize a.toNat = x at ha ⊢
  generalize b.toNat = y at hb ⊢
  unfold Lib.decodeN atEnd
  simp only [Nat.lt_irrefl, false_and, and_false, if_false]
  repeat' split
  all_goals first | rfl | (exfalso; omega) | (apply pair_eq <;> omega) | (simp_all; done) | (simp_all; omega)

set_option maxHeartbeats 8000000 in
theorem atSpec_dec3 (a b c : UInt8) : goodAt [a, b, c] := by
  unfold goodAt
  rw [decodeL_eq]
  have ha := a.toNat_lt
  have hb := b.toNat_lt
  have hc := c.toNat_lt
  simp only [atSpec_cons, atTail, List.length_nil, List.length_cons, List.getD_cons_zero, List.getD_cons_succ, Nat.zero_add, Nat.reduceAdd, Nat.reduceLT, if_false, if_true, Nat.reduceSub]
  rw [show contFold [b, c] 1 ((a.toNat : Int) - 192) = _ from contFold_cons b [c] 0 _, contFold_zero,
    show contFold [b, c] 2 ((a.toNat : Int) - 224) = _ from contFold_cons b [c] 1 _, show contFold [c] 1 (64 * ((a.toNat : Int) - 224) + b.toNat - 128) = _ from contFold_cons c [] 0 _, contFold_zero]
  generalize a.toNat = x at ha ⊢
  generalize b.toNat = y at hb ⊢
  generalize c.toNat = z at hc ⊢
  unfold Lib.decodeN atEnd
  simp only [Nat.lt_irrefl, false_and, and_false, if_false]
  repeat' split
  all_goals first | rfl | (exfalso; omega) | (apply pair_eq <;> omega) | (simp_all; done) | (simp_all; omega)

set_option maxHeartbeats 8000000 in
theorem atSpec_dec4 (a b c d : UInt8) (r : List UInt8) : goodAt (a :: b :: c :: d :: r) := by
  unfold goodAt
  rw [decodeL_eq]
  have ha := a.toNat_lt
  have hb := b.toNat_lt
  have hc := c.toNat_lt
  have hd := d.toNat_lt
  rw [atSpec_cons]
  have l2 : ¬ (b :: c :: d :: r).length + 1 < 2 := by simp
  have l3 : ¬ (b :: c :: d :: r).length + 1 < 3 := by simp
  have l4 : ¬ (b :: c :: d :: r).length + 1 < 4 := by simp
  have e2 : atTail (b :: c :: d :: r) 2 ((a.toNat : Int) - 192) 128 = atEnd (if (b.toNat : Int) < 128 ∨ 192 ≤ (b.toNat : Int) then none else some (64 * ((a.toNat : Int) - 192) + b.toNat - 128)) 2 128 := by
    unfold atTail
    rw [if_neg l2, show (2 - 1 : Nat) = 0 + 1 from rfl, contFold_cons, contFold_zero]
  have e3 : atTail (b :: c :: d :: r) 3 ((a.toNat : Int) - 224) 2048 = atEnd (if (b.toNat : Int) < 128 ∨ 192 ≤ (b.toNat : Int) then none else if (c.toNat : Int) < 128 ∨ 192 ≤ (c.toNat : Int) then none else some (64 * (64 * ((a.toNat : Int) - 224) + b.toNat - 128) + c.toNat - 128)) 3 2048 := by
    unfold atTail
    rw [if_neg l3, show (3 - 1 : Nat) = 1 + 1 from rfl, contFold_cons, show (1 : Nat) = 0 + 1 from rfl, contFold_cons, contFold_zero]
  have e4 : atTail (b :: c :: d :: r) 4 ((a.toNat : Int) - 240) 65536 = atEnd (if (b.toNat : Int) < 128 ∨ 192 ≤ (b.toNat : Int) then none else if (c.toNat : Int) < 128 ∨ 192 ≤ (c.toNat : Int) then none else if (d.toNat : Int) < 128 ∨ 192 ≤ (d.toNat : Int) then none else some (64 * (64 * (64 * ((a.toNat : Int) - 240) + b.toNat - 128) + c.toNat - 128) + d.toNat - 128)) 4 65536 := by
    unfold atTail
    rw [if_neg l4, show (4 - 1 : Nat) = 2 + 1 from rfl, contFold_cons, show (2 : Nat) = 1 + 1 from rfl, contFold_cons, show (1 : Nat) = 0 + 1 from rfl, contFold_cons, contFold_zero]
  rw [e2, e3, e4]
  clear e2 e3 e4 l2 l3 l4
  have hl : 3 < (a :: b :: c :: d :: r).length := by simp
  generalize (a :: b :: c :: d :: r).length = n at hl
  simp only [List.getD_cons_zero, List.getD_cons_succ]
  generalize a.toNat = x at ha ⊢
  generalize b.toNat = y at hb ⊢
  generalize c.toNat = z at hc ⊢
  generalize d.toNat = u at hd ⊢
  unfold Lib.decodeN
  by_cases b1 : (y : Int) < 128 ∨ 192 ≤ (y : Int)
  · simp only [if_pos b1]
    unfold atEnd
    repeat' split
    all_goals first | rfl | (exfalso; omega) | (apply pair_eq <;> omega) | (simp_all; done) | (simp_all; omega)
  simp only [if_neg b1]
  by_cases b2 : (z : Int) < 128 ∨ 192 ≤ (z : Int)
  · simp only [if_pos b2]
    unfold atEnd
    repeat' split
    all_goals first | rfl | (exfalso; omega) | (apply pair_eq <;> omega) | (simp_all; done) | (simp_all; omega)
  simp only [if_neg b2]
  by_cases b3 : (u : Int) < 128 ∨ 192 ≤ (u : Int)
  · simp only [if_pos b3]
    unfold atEnd
    repeat' split
    all_goals first | rfl | (exfalso; omega) | (apply pair_eq <;> omega) | (simp_all; done) | (simp_all; omega)
  simp only [if_neg b3]
  unfold atEnd
  repeat' split
  all_goals first | rfl | (exfalso; omega) | (apply pair_eq <;> omega) | (simp_all; done) | (simp_all; omega)

theorem atSpec_dec (l : List UInt8) (h : l ≠ []) : goodAt l :=
  match l, h with
  | [a], _ => atSpec_dec1 a
  | [a, b], _ => atSpec_dec2 a b
  | [a, b, c], _ => atSpec_dec3 a b c
  | a :: b :: c :: d :: r, _ => atSpec_dec4 a b c d r

end Go.Proofs.YtjjbbnodmpemiaaGreatDoor

/- The reference's Valid, and why it holds a value for one that may not be. -/
namespace Go.Proofs.YtjjbbnodmpemiaaGreatDoor
open Go.RowKit

theorem validGoD_more : ∀ (n m : Nat) (l : List UInt8), l.length ≤ n → l.length ≤ m → Lib.validGoD n l = Lib.validGoD m l
  | 0, m, l, hn, hm => by
    obtain rfl : l = [] := List.eq_nil_of_length_eq_zero (by omega)
    cases m <;> simp [Lib.validGoD]
  | n + 1, 0, l, hn, hm => by
    obtain rfl : l = [] := List.eq_nil_of_length_eq_zero (by omega)
    simp [Lib.validGoD]
  | n + 1, m + 1, l, hn, hm => by
    simp only [Lib.validGoD]
    by_cases h : l = []
    · simp [h]
    · rw [if_neg h, if_neg h]
      split
      · rfl
      · have hw := Lib.decodeL_width l
        have hl : 0 < l.length := List.length_pos_iff.2 h
        exact validGoD_more n m _ (by rw [List.length_drop]; omega) (by rw [List.length_drop]; omega)

theorem validD_step {l : List UInt8} (h : l ≠ []) : Lib.validD l = if (Lib.decodeL l).1 = 65533 ∧ (Lib.decodeL l).2 = 1 then false else Lib.validD (l.drop (Lib.decodeL l).2) := by
  have hw := Lib.decodeL_width l
  have hl : 0 < l.length := List.length_pos_iff.2 h
  unfold Lib.validD
  obtain ⟨n, hn⟩ : ∃ n, l.length = n + 1 := ⟨l.length - 1, by omega⟩
  rw [hn]
  simp only [Lib.validGoD]
  rw [if_neg h]
  split
  · rfl
  · exact validGoD_more _ _ _ (by rw [List.length_drop]; omega) (Nat.le_refl _)

/-- A step of the reference's runes. -/
theorem validD_at {l : List UInt8} (h : l ≠ []) : ((atSpec l).2 = 0 ∧ Lib.validD l = false) ∨ (∃ n : Nat, (atSpec l).2 = (n : Int) ∧ 1 ≤ n ∧ n ≤ l.length ∧ Lib.validD l = Lib.validD (l.drop n)) := by
  have hg := atSpec_dec l h
  unfold goodAt at hg
  rw [validD_step h]
  by_cases hb : (Lib.decodeL l).1 = 65533 ∧ (Lib.decodeL l).2 = 1
  · rw [if_pos hb] at hg ⊢
    rw [hg]
    exact .inl ⟨rfl, rfl⟩
  · rw [if_neg hb] at hg ⊢
    rw [hg]
    have hw := Lib.decodeL_width l
    exact .inr ⟨(Lib.decodeL l).2, rfl, hw, Lib.decodeL_le l h, rfl⟩

set_option maxHeartbeats 1000000 in
/-- commonplaceref01.Valid -/
theorem RValid_calls (s : ByteArray) (w : World) (hs : s.size ≤ 1000000000) :
    Calls Tryz.prog 52 #[.string s] w fun e w' => e = .returned (.bool (validB s)) ∧ w = w' := by
  obtain ⟨V, hV⟩ : ∃ V, validB s = V := ⟨_, rfl⟩
  rw [hV]
  have H0 := Lib.hid hV
  clear hV
  go_enter Tryz.func52, Tryz.ntmps52
  go_wp2
  go_loop [3] (fun i => ∃ k : Nat, k ≤ s.size ∧ i = .int .i64 k ∧ Hid (Lib.validD (s.data.toList.drop k) = V)) (fun i => s.size - (intOf i).toNat)
  case atStart => exact ⟨0, Nat.zero_le _, rfl, H0⟩
  case round =>
    obtain ⟨k, hk, rfl, hf⟩ := hrel
    clear H0
    by_cases hlt : k < s.size
    · have hne : s.data.toList.drop k ≠ [] := by
        intro e
        have := congrArg List.length e
        rw [List.length_drop, ← Lib.size_eq] at this
        simp at this
        omega
      have hA := At_calls s k w (by omega) (by omega)
      rcases validD_at hne with ⟨h0, hv⟩ | ⟨n, hn, hn1, hn2, hv⟩
      · have hf' := hf.out
        rw [hv] at hf'
        subst hf'
        rw [h0] at hA
        generalize (atSpec (s.data.toList.drop k)).1 = R at hA
        have HA := Lib.hid hA
        clear hA h0 hv hne hf
        go_wp2_with (go_at_call 75; refine (HA.out).mono ?_; rintro e w' ⟨rfl, rfl⟩)
        go_ret
        exact ⟨rfl, rfl⟩
      · have hf' := hf.out
        rw [hv, List.drop_drop] at hf'
        have Hf := Lib.hid hf'
        rw [hn] at hA
        rw [List.length_drop, ← Lib.size_eq] at hn2
        generalize (atSpec (s.data.toList.drop k)).1 = R at hA
        have HA := Lib.hid hA
        clear hA hn hv hne hf hf'
        have e0 : ((n : Int) == 0) = false := by simp; omega
        go_wp2_with (go_at_call 75; refine (HA.out).mono ?_; rintro e w' ⟨rfl, rfl⟩)
        go_round
        case rel => exact ⟨k + n, by omega, by go_num, Hf⟩
        case measure => simp [intOf]; omega
    · obtain rfl : k = s.size := by omega
      have hf' := hf.out
      rw [List.drop_eq_nil_of_le (by rw [← Lib.size_eq]; omega)] at hf'
      have : V = true := by rw [← hf']; rfl
      subst this
      clear hf hf'
      go_wp2
      go_ret
      exact ⟨rfl, rfl⟩

end Go.Proofs.YtjjbbnodmpemiaaGreatDoor

/- utf.Runes: the iterator over a text's runes and their places. Condition: a text shorter than 10^9. -/
namespace Go.Proofs.YtjjbbnodmpemiaaGreatDoor
open Go.RowKit
attribute [local go_sem] Oper.semAt_some

/-- The runes of what stands from a place on, and their places. -/
def runesFrom : Nat → List UInt8 → Nat → List (Nat × Nat)
  | 0, _, _ => []
  | n + 1, l, p => if l = [] then [] else if (Lib.decodeL l).1 = 65533 ∧ (Lib.decodeL l).2 = 1 then [] else (p, (Lib.decodeL l).1) :: runesFrom n (l.drop (Lib.decodeL l).2) (p + (Lib.decodeL l).2)
def runes (s : ByteArray) : List (Nat × Nat) := runesFrom s.size s.data.toList 0

theorem decode_tail (s : ByteArray) (k : Nat) (h : k < s.size) : (if (s.extract k s.size).size = 0 then (65533, 0) else Utf8.decode (s.extract k s.size) 0) = Lib.decodeL (s.data.toList.drop k) := by
  have e : (s.extract k s.size) = ⟨(s.data.toList.drop k).toArray⟩ := by
    apply ByteArray.ext
    apply Array.ext'
    rw [Lib.extract_data]
    dsimp only
    rw [List.take_of_length_le (by rw [List.length_drop, ← Lib.size_eq]; omega)]
  rw [if_neg (by rw [ByteArray.size_extract]; omega), e]
  rfl

theorem Runes_calls (s : ByteArray) (w : World) :
    Calls Tryz.prog 139 #[.string s] w fun e w' => e = .returned (.func (.func 151) #[] #[.pointer (some ⟨w.heap.size, 0, none⟩)]) ∧ w.alloc (.cells #[.string s] 9) = w' := by
  go_enter Tryz.func139, Tryz.ntmps139
  go_wp2
  go_ret
  exact ⟨rfl, rfl⟩

set_option maxRecDepth 100000 in
set_option maxHeartbeats 2000000 in
theorem runes_yields (s : ByteArray) (b : Nat) (hs : s.size ≤ 1000000000) :
    Yields Tryz.prog 151 #[.pointer (some ⟨b, 0, none⟩)] (fun x : Nat × Nat => #[.int .i64 x.1, .int .i32 x.2]) (runes s) (fun A => A.cell? ⟨b, 0, none⟩ = some (.string s) ∧ Tabs A) := by
  intro n l J W hJn hJb hY h0
  refine callsIn_of_wp Tryz.func151 rfl trivial ?_ rfl
  simp only [Tryz.ntmps151, List.size_toArray, List.length_cons, List.length_nil, Nat.reduceAdd, Nat.reduceSub, Array.replicate_succ, Array.replicate_zero, List.push_toArray, List.append_toArray, List.nil_append, List.cons_append]
  gi_wp2
  gi_loopw [3] (fun i wr => ∃ (pre : List (Nat × Nat)) (f k : Nat), i = .int .i64 k ∧ k ≤ s.size ∧ s.size - k ≤ f ∧ Hid (runes s = pre ++ runesFrom f (s.data.toList.drop k) k) ∧ J pre wr) (fun i _ => s.size - (intOf i).toNat)
  case atStart => exact ⟨[], s.size, 0, rfl, Nat.zero_le _, by omega, rfl, h0⟩
  case round =>
    obtain ⟨pre, f, k, rfl, hk, hf, hr, hJ⟩ := hrel
    have hcr : wr.cell? ⟨b, 0, none⟩ = some (.string s) := (hJb _ _ hJ).1
    have hTr : Tabs wr := (hJb _ _ hJ).2
    by_cases hlt : k < s.size
    · have hne : s.data.toList.drop k ≠ [] := by
        intro e
        have := congrArg List.length e
        rw [List.length_drop, ← Lib.size_eq] at this
        simp at this
        omega
      obtain ⟨f, rfl⟩ : ∃ f', f = f' + 1 := ⟨f - 1, by omega⟩
      have cD := Tryz.utf8_DecodeRuneInString (s.extract k s.size) wr hTr.2.1
      have hdc : Lib.decodeGo (s.extract k s.size) = Lib.decodeL (s.data.toList.drop k) := decode_tail s k hlt
      have hw1 := Lib.decodeL_width (s.data.toList.drop k)
      have hw2 := Lib.decodeL_le _ hne
      have hw3 := Lib.decodeL_rune (s.data.toList.drop k)
      rw [List.length_drop, ← Lib.size_eq] at hw2
      have hr' := hr.out
      simp only [runesFrom] at hr'
      rw [if_neg hne, List.drop_drop] at hr'
      rw [hdc] at cD
      generalize Lib.decodeL (s.data.toList.drop k) = D at cD hw1 hw2 hw3 hr'
      obtain ⟨r, z⟩ := D
      simp only at cD hw1 hw2 hw3 hr'
      have CD := Lib.hid cD
      clear cD hdc hne hr
      by_cases hbad : r = 65533 ∧ z = 1
      · rw [if_pos hbad, List.append_nil] at hr'
        have Hr := Lib.hid hr'
        obtain ⟨hr1, hz1⟩ := hbad
        have e1 : ((r : Int) == 65533) = true := by simp; omega
        have e2 : ((z : Int) == 1) = true := by simp; omega
        clear hr' hr1 hz1
        gi_wp2_with (refine ⟨trivial, ?_⟩; gi_at_call 152; refine (callsIn_wide.2 CD.out).mono ?_; rintro e w2 ⟨rfl, hb2⟩; have hJ2 := hJn _ _ _ hJ hb2)
        refine bodyPost_ret (results_none rfl _ _ _) rfl ?_
        exact ⟨⟨_, rfl⟩, by rw [Hr.out]; exact hJ2⟩
      · rw [if_neg hbad] at hr'
        have Hr := Lib.hid hr'
        have Hr2 : Hid (runes s = (pre ++ [(k, r)]) ++ runesFrom f (s.data.toList.drop (k + z)) (k + z)) := by
          show runes s = _
          rw [hr']; simp
        clear hr'
        rcases (by omega : r ≠ 65533 ∨ (r = 65533 ∧ z ≠ 1)) with h1 | ⟨h1, h2⟩
        · have e1 : ((r : Int) == 65533) = false := by simp; omega
          clear h1 hbad
          gi_wp2_with (refine ⟨trivial, ?_⟩; gi_at_call 152; refine (callsIn_wide.2 CD.out).mono ?_; rintro e w2 ⟨rfl, hb2⟩; obtain ⟨fn, tmps, assign, body, hy, hR⟩ := hY pre (k, r) _ w2 Hr.out (hJn _ _ _ hJ hb2); dsimp only at hy)
          refine hR.mono ?_
          rintro e W3 ⟨rfl, hJ3⟩
          clear hy hR
          gi_wp2
          go_roundw
          case rel => exact ⟨pre ++ [(k, r)], f, k + z, by go_num, by omega, by omega, Hr2, hJ3⟩
          case measure => simp [intOf]; omega
        · have e1 : ((r : Int) == 65533) = true := by simp; omega
          have e2 : ((z : Int) == 1) = false := by simp; omega
          clear h1 h2 hbad
          gi_wp2_with (refine ⟨trivial, ?_⟩; gi_at_call 152; refine (callsIn_wide.2 CD.out).mono ?_; rintro e w2 ⟨rfl, hb2⟩; obtain ⟨fn, tmps, assign, body, hy, hR⟩ := hY pre (k, r) _ w2 Hr.out (hJn _ _ _ hJ hb2); dsimp only at hy)
          refine hR.mono ?_
          rintro e W3 ⟨rfl, hJ3⟩
          clear hy hR
          gi_wp2
          go_roundw
          case rel => exact ⟨pre ++ [(k, r)], f, k + z, by go_num, by omega, by omega, Hr2, hJ3⟩
          case measure => simp [intOf]; omega
    · obtain rfl : k = s.size := by omega
      have hr' := hr.out
      rw [List.drop_eq_nil_of_le (by rw [← Lib.size_eq]; omega)] at hr'
      have hz : runesFrom f [] s.size = [] := by cases f <;> simp [runesFrom]
      rw [hz, List.append_nil] at hr'
      have Hr := Lib.hid hr'
      clear hr hr'
      gi_wp2
      go_end0
      exact ⟨⟨_, rfl⟩, by rw [Hr.out]; exact hJ⟩

end Go.Proofs.YtjjbbnodmpemiaaGreatDoor

/- commonplaceref01.Runes: a text's runes and their places. Condition: a text of at most 10^9 bytes. -/
namespace Go.Proofs.YtjjbbnodmpemiaaGreatDoor
open Go.RowKit

theorem runesFrom_step {l : List UInt8} (h : l ≠ []) (f p : Nat) :
    ((atSpec l).2 = 0 ∧ runesFrom (f + 1) l p = []) ∨ (∃ n r : Nat, atSpec l = ((r : Int), (n : Int)) ∧ 1 ≤ n ∧ n ≤ l.length ∧ runesFrom (f + 1) l p = (p, r) :: runesFrom f (l.drop n) (p + n)) := by
  have hg := atSpec_dec l h
  unfold goodAt at hg
  by_cases hb : (Lib.decodeL l).1 = 65533 ∧ (Lib.decodeL l).2 = 1
  · rw [if_pos hb] at hg
    rw [hg]
    refine .inl ⟨rfl, ?_⟩
    simp only [runesFrom]
    rw [if_neg h, if_pos hb]
  · rw [if_neg hb] at hg
    have hw := Lib.decodeL_width l
    refine .inr ⟨(Lib.decodeL l).2, (Lib.decodeL l).1, hg, hw, Lib.decodeL_le l h, ?_⟩
    simp only [runesFrom]
    rw [if_neg h, if_neg hb]

/-- Two slices of the call's own that do not share a block. -/
def Apart (v1 v2 : Value) : Prop := ∀ g, v1.ownBlock = some g → v2.ownBlock ≠ some g

theorem Apart.ne {v1 v2 : Value} (h : Apart v1 v2) : v1.ownBlock = none ∨ v1.ownBlock ≠ v2.ownBlock := by
  cases e : v1.ownBlock with
  | none => exact .inl rfl
  | some g => exact .inr fun e' => h g e (by rw [← e'])
theorem Apart.symm {v1 v2 : Value} (h : Apart v1 v2) : Apart v2 v1 := fun g e e' => h g e' e
theorem Apart.step {v1 v1' v2 : Value} {w : World} {B n N : Nat} {e : TypeId} {size : Nat} {xs : List Value} (h : Apart v1 v2) (h2 : w.ownsRow B e size v2 n xs) (h4 : v1'.ownBlock = v1.ownBlock ∨ v1'.ownBlock = some N) (hN : w.heap.size ≤ N) : Apart v1' v2 := by
  intro g e1 e2
  rcases h4 with h4 | h4
  · exact h g (by rw [← h4]; exact e1) e2
  · rw [h4] at e1
    obtain rfl := Option.some.inj e1
    have := (h2.lt _ e2).2
    omega

theorem info_int : (Tryz.prog.info? 3).map (fun i => (i.zero, i.size, i.bytes)) = some (some (.int .i64 0), 1, 8) := by kernel_rfl

set_option maxRecDepth 20000 in
set_option maxHeartbeats 2000000 in
theorem RRunes_calls (s : ByteArray) (w : World) (hs : s.size ≤ 1000000000) :
    Calls Tryz.prog 67 #[.string s] w fun e w' => (∃ v1 v2, e = .returned (.tuple #[v1, v2]) ∧ w'.ownsRow w.heap.size 3 1 v1 (runes s).length ((runes s).map fun x => Value.int .i64 x.2)) ∧ Below w.heap.size w w' := by
  obtain ⟨i0, hi, hz0, hz1, hz2⟩ := info_parts info_int
  have HI := Lib.hid hi
  have HZ0 := Lib.hid hz0
  have HZ1 := Lib.hid hz1
  have HZ2 := Lib.hid hz2
  clear hi hz0 hz1 hz2
  have Hown0 : Hid (w.ownsRow w.heap.size 3 1 (.slice none 0 0) 0 []) := World.ownsRow_nil _ _ _ _
  have Hap0 : Hid (Apart (.slice none 0 0) (.slice none 0 0)) := Lib.hid (fun g e => by simp [Value.ownBlock] at e)
  go_enter Tryz.func67, Tryz.ntmps67
  go_wp2
  go_loopw [4, 5, 6] (fun v1 v2 i wr => ∃ (pre : List (Nat × Nat)) (f k : Nat), i = .int .i64 k ∧ k ≤ s.size ∧ s.size - k ≤ f ∧ Hid (runes s = pre ++ runesFrom f (s.data.toList.drop k) k) ∧ pre.length ≤ k ∧
    Hid (wr.ownsRow w.heap.size 3 1 v1 pre.length (pre.map fun x => Value.int .i64 x.2)) ∧ Hid (wr.ownsRow w.heap.size 3 1 v2 pre.length (pre.map fun x => Value.int .i64 x.1)) ∧ Hid (Apart v1 v2) ∧ Hid (Below w.heap.size w wr)) (fun _ _ i _ => s.size - (intOf i).toNat)
  case atStart => exact ⟨[], s.size, 0, rfl, Nat.zero_le _, by omega, rfl, Nat.le_refl _, Hown0, Hown0, Hap0, Below.refl _ _⟩
  case round =>
    obtain ⟨pre, f, k, rfl, hk, hf, hr, hpk, ho1, ho2, hap, hbw⟩ := hrel
    clear Hown0 Hap0
    by_cases hlt : k < s.size
    · have hne : s.data.toList.drop k ≠ [] := by
        intro e
        have := congrArg List.length e
        rw [List.length_drop, ← Lib.size_eq] at this
        simp at this
        omega
      obtain ⟨f, rfl⟩ : ∃ f', f = f' + 1 := ⟨f - 1, by omega⟩
      have hA := At_calls s k wr (by omega) (by omega)
      rcases runesFrom_step hne f k with ⟨h0, hv⟩ | ⟨n, r, hn, hn1, hn2, hv⟩
      · have hr' := hr.out
        rw [hv, List.append_nil] at hr'
        rw [h0] at hA
        generalize (atSpec (s.data.toList.drop k)).1 = R at hA
        have HA := Lib.hid hA
        have HR := Lib.hid hr'
        clear hA h0 hv hne hr hr'
        go_wp2_with (fail)
        with_reducible refine HA.out.mono ?_
        rintro e w' ⟨rfl, rfl⟩
        clear HA
        go_wp2
        go_ret2
        exact ⟨⟨u4, u5, rfl, by rw [HR.out]; exact ho1.out⟩, hbw.out⟩
      · have hr' := hr.out
        rw [hv, List.drop_drop] at hr'
        rw [hn] at hA
        rw [List.length_drop, ← Lib.size_eq] at hn2
        have HA := Lib.hid hA
        have HR := Lib.hid hr'
        have hb1 : w.heap.size ≤ wr.heap.size := hbw.out.size
        clear hA hn hv hne hr hr'
        have e0 : ((n : Int) == 0) = false := by simp; omega
        go_wp2_with (fail)
        with_reducible refine HA.out.mono ?_
        rintro e w' ⟨rfl, rfl⟩
        clear HA
        go_wp2_with (at_builtin; refine wpList_append_own_at _ rfl (.tmp 21) (.tmp 23) 117 rfl w.heap.size 3 i0 (.int .i64 0) 1 8 Tryz.underlying117 HI.out HZ0.out HZ1.out HZ2.out rfl (by decide) u4 pre.length _ rfl (ho1.out.alloc _) ⟨wr.heap.size, 0, none⟩ 1 1 [.int .i64 r] rfl rfl ?c1 ?c2 ?c3 ?c4 ?c5 ?_)
        case c1 =>
          intro j u hj
          match j, hj with
          | 0, hj => simp at hj; subst hj; simp [Addr.add]
        case c2 => intro u hu; simp at hu; subst hu; rfl
        case c3 => unfold maxLen; omega
        case c4 => omega
        case c5 => simp; omega
        intro v1' w2 hown1 hgrow1 _ hat1
        have ho1' := Lib.hid hown1
        have ho2' := Lib.hid ((ho2.out.alloc (.cells #[.int .i64 r] 3)).kept hgrow1 hap.out.symm.ne)
        have hap' := Lib.hid (Apart.step hap.out ho2.out hat1 (by omega))
        have hbw2 := Lib.hid ((hbw.out.alloc hb1 (.cells #[.int .i64 r] 3)).grown hgrow1 (by simp; omega) (fun k hk => (ho1.out.lt k hk).1))
        have hb2 : w.heap.size ≤ w2.heap.size := hbw2.out.size
        clear hown1 hgrow1 hat1 ho1 ho2 hap hbw hb1
        go_wp2_with (at_builtin; refine wpList_append_own_at _ rfl (.tmp 25) (.tmp 27) 117 rfl w.heap.size 3 i0 (.int .i64 0) 1 8 Tryz.underlying117 HI.out HZ0.out HZ1.out HZ2.out rfl (by decide) u5 pre.length _ rfl (ho2'.out.alloc _) ⟨w2.heap.size, 0, none⟩ 1 1 [.int .i64 k] rfl rfl ?d1 ?d2 ?d3 ?d4 ?d5 ?_)
        case d1 =>
          intro j u hj
          match j, hj with
          | 0, hj => simp at hj; subst hj; simp [Addr.add]
        case d2 => intro u hu; simp at hu; subst hu; rfl
        case d3 => unfold maxLen; omega
        case d4 => omega
        case d5 => simp; omega
        intro v2' w3 hown2 hgrow2 _ hat2
        have ho2'' := Lib.hid hown2
        have ho1'' := Lib.hid ((ho1'.out.alloc (.cells #[.int .i64 k] 3)).kept hgrow2 hap'.out.ne)
        have hap'' := Lib.hid (Apart.step hap'.out.symm ho1'.out hat2 (by omega)).symm
        have hbw3 := Lib.hid ((hbw2.out.alloc hb2 (.cells #[.int .i64 k] 3)).grown hgrow2 (by simp; omega) (fun k hk => (ho2'.out.lt k hk).1))
        clear hown2 hgrow2 hat2 ho1' ho2' hap' hbw2 hb2
        go_wp2
        go_roundw
        case rel => exact ⟨pre ++ [(k, r)], f, k + n, by go_num, by omega, by omega, Lib.hid (by rw [List.append_assoc]; exact HR.out), by simp; omega, Lib.hid (by rw [List.length_append, List.map_append]; exact ho1''.out), Lib.hid (by rw [List.length_append, List.map_append]; exact ho2''.out), hap'', hbw3⟩
        case measure => simp only [intOf]; omega
    · obtain rfl : k = s.size := by omega
      have hr' := hr.out
      have e : runesFrom f (s.data.toList.drop s.size) s.size = [] := by
        rw [List.drop_eq_nil_of_le (by rw [← Lib.size_eq]; omega)]
        cases f <;> simp [runesFrom]
      rw [e, List.append_nil] at hr'
      have HR := Lib.hid hr'
      clear hr hr' e
      go_wp2
      go_ret2
      exact ⟨⟨u4, u5, rfl, by rw [HR.out]; exact ho1.out⟩, hbw.out⟩

end Go.Proofs.YtjjbbnodmpemiaaGreatDoor

/- commonplaceref01.Code: an escape's rune. No condition. -/
namespace Go.Proofs.YtjjbbnodmpemiaaGreatDoor
open Go.RowKit

/-- What the k-th escape's letter stands for. -/
def codeTab : List Int := [34, 92, 47, 8, 12, 10, 13, 9]

set_option maxHeartbeats 1000000 in
theorem RCode_calls (k : Nat) (c : Int) (h : codeTab[k]? = some c) (w : World) :
    Calls Tryz.prog 68 #[.int .i64 k] w fun e w' => e = .returned (.int .i64 c) ∧ Below w.heap.size w w' := by
  have hk : k < 8 := (List.getElem?_eq_some_iff.1 h).1
  rcases (by omega : k = 0 ∨ k = 1 ∨ k = 2 ∨ k = 3 ∨ k = 4 ∨ k = 5 ∨ k = 6 ∨ k = 7) with rfl | rfl | rfl | rfl | rfl | rfl | rfl | rfl
  all_goals
    (obtain rfl := Option.some.inj h
     clear h hk
     go_enter Tryz.func68, Tryz.ntmps68
     go_wp2
     go_ret
     exact ⟨rfl, (Below.refl _ _).alloc (Nat.le_refl _) _⟩)

end Go.Proofs.YtjjbbnodmpemiaaGreatDoor

/- commonplaceref01.Bytes: a rune's bytes. Condition: a rune of Unicode, no surrogate. -/
namespace Go.Proofs.YtjjbbnodmpemiaaGreatDoor
open Go.RowKit

theorem u8_back {z : Int} (h0 : 0 ≤ z) (h1 : z < 256) : ((z.toNat.toUInt8).toNat : Int) = z := by
  have : z.toNat < 256 := by omega
  simp [Nat.toUInt8, UInt8.toNat_ofNat', Nat.mod_eq_of_lt this]
  omega

theorem run_bytes (w : World) (zs : List Int) (hz : ∀ z ∈ zs, 0 ≤ z ∧ z < 256) (t : TypeId) :
    (convert 35 9 (.slice (some ⟨w.heap.size, 0, none⟩) zs.length zs.length)).run Tryz.prog (w.alloc (.cells (zs.map (Value.int .u8)).toArray t)) = .ok (.string ⟨(zs.map fun z => z.toNat.toUInt8).toArray⟩) (w.alloc (.cells (zs.map (Value.int .u8)).toArray t)) := by
  have := run_convert_bytes_back (P := Tryz.prog) (w.alloc (.cells (zs.map (Value.int .u8)).toArray t)) 35 9 5 ⟨w.heap.size, 0, none⟩ zs.length (zs.map fun z => z.toNat.toUInt8) Tryz.underlying35 Tryz.underlying5 Tryz.underlying9 (by
    intro j hj
    rw [List.length_map] at hj
    have hh : (w.alloc (.cells (zs.map (Value.int .u8)).toArray t)).heap[w.heap.size]? = some (.cells (zs.map (Value.int .u8)).toArray t (0, 0)) := heap_alloc_new _ _
    rw [show (⟨w.heap.size, 0, none⟩ : Addr).add j = ⟨w.heap.size, j, none⟩ from by unfold Addr.add; split <;> simp_all]
    rw [Lib.cell_of_heap hh]
    simp only [List.getElem?_toArray, List.getElem?_map, List.getElem?_eq_getElem hj, Option.map_some, List.getElem_map]
    rw [u8_back (hz _ (List.getElem_mem hj)).1 (hz _ (List.getElem_mem hj)).2])
  rwa [List.length_map] at this

set_option maxRecDepth 20000 in
set_option maxHeartbeats 1000000 in
theorem RBytes_calls (r : Int) (h0 : 0 ≤ r) (h1 : r ≤ 1114111) (hs : ¬(55296 ≤ r ∧ r < 57344)) (w : World) :
    Calls Tryz.prog 69 #[.int .i64 r] w fun e w' => e = .returned (.string ⟨(Lib.encodeRune r).toArray⟩) ∧ Below w.heap.size w w' := by
  by_cases c1 : r < 128
  · have e : Lib.encodeRune r = [r].map fun z => z.toNat.toUInt8 := by unfold Lib.encodeRune; rw [Lib.encodeRuneZ_one h0 (by omega)]
    have hB := run_bytes w [r] (by intro z hz; simp at hz; omega) 5
    rw [e]
    simp only [List.map_cons, List.map_nil, List.length_cons, List.length_nil] at hB ⊢
    go_enter Tryz.func69, Tryz.ntmps69
    go_wp2
    go_ret
    exact ⟨rfl, (Below.refl _ _).alloc (Nat.le_refl _) _⟩
  by_cases c2 : r < 2048
  · have e : Lib.encodeRune r = [192 + r / 64, 128 + r % 64].map fun z => z.toNat.toUInt8 := by unfold Lib.encodeRune; rw [Lib.encodeRuneZ_two (by omega) (by omega)]
    have hB := run_bytes w [192 + r / 64, 128 + r % 64] (by intro z hz; simp at hz; omega) 5
    rw [e]
    have b1 : 0 ≤ r / 64 := by omega
    have b2 : r / 64 < 32 := by omega
    have b3 : 0 ≤ r % 64 := by omega
    have b4 : r % 64 < 64 := by omega
    simp only [List.map_cons, List.map_nil, List.length_cons, List.length_nil] at hB ⊢
    obtain ⟨z1, hz1⟩ : ∃ z, 192 + r / 64 = z := ⟨_, rfl⟩
    obtain ⟨z2, hz2⟩ : ∃ z, 128 + r % 64 = z := ⟨_, rfl⟩
    have d1 : 0 ≤ z1 ∧ z1 < 256 := by omega
    have d2 : 0 ≤ z2 ∧ z2 < 256 := by omega
    rw [hz1, hz2] at hB ⊢
    go_enter Tryz.func69, Tryz.ntmps69
    go_wp2
    go_ret
    exact ⟨rfl, (Below.refl _ _).alloc (Nat.le_refl _) _⟩
  by_cases c3 : r < 65536
  · have e : Lib.encodeRune r = [224 + r / 4096, 128 + r / 64 % 64, 128 + r % 64].map fun z => z.toNat.toUInt8 := by unfold Lib.encodeRune; rw [Lib.encodeRuneZ_three (by omega)]
    have hB := run_bytes w [224 + r / 4096, 128 + r / 64 % 64, 128 + r % 64] (by intro z hz; simp at hz; omega) 5
    rw [e]
    have b1 : 0 ≤ r / 4096 := by omega
    have b2 : r / 4096 < 16 := by omega
    have b3 : 0 ≤ r % 64 := by omega
    have b4 : r % 64 < 64 := by omega
    have b5 : 0 ≤ r / 64 := by omega
    have b6 : 0 ≤ r / 64 % 64 := by omega
    have b7 : r / 64 % 64 < 64 := by omega
    simp only [List.map_cons, List.map_nil, List.length_cons, List.length_nil] at hB ⊢
    obtain ⟨z1, hz1⟩ : ∃ z, 224 + r / 4096 = z := ⟨_, rfl⟩
    obtain ⟨z2, hz2⟩ : ∃ z, 128 + r / 64 % 64 = z := ⟨_, rfl⟩
    obtain ⟨z3, hz3⟩ : ∃ z, 128 + r % 64 = z := ⟨_, rfl⟩
    have d1 : 0 ≤ z1 ∧ z1 < 256 := by omega
    have d2 : 0 ≤ z2 ∧ z2 < 256 := by omega
    have d3 : 0 ≤ z3 ∧ z3 < 256 := by omega
    rw [hz1, hz2, hz3] at hB ⊢
    go_enter Tryz.func69, Tryz.ntmps69
    go_wp2
    go_ret
    exact ⟨rfl, (Below.refl _ _).alloc (Nat.le_refl _) _⟩
  · have e : Lib.encodeRune r = [240 + r / 262144, 128 + r / 4096 % 64, 128 + r / 64 % 64, 128 + r % 64].map fun z => z.toNat.toUInt8 := by unfold Lib.encodeRune; rw [Lib.encodeRuneZ_four (by omega) (by omega)]
    have hB := run_bytes w [240 + r / 262144, 128 + r / 4096 % 64, 128 + r / 64 % 64, 128 + r % 64] (by intro z hz; simp at hz; omega) 5
    rw [e]
    have b1 : 0 ≤ r / 262144 := by omega
    have b2 : r / 262144 < 8 := by omega
    have b3 : 0 ≤ r % 64 := by omega
    have b4 : r % 64 < 64 := by omega
    have b5 : 0 ≤ r / 64 := by omega
    have b6 : 0 ≤ r / 64 % 64 := by omega
    have b7 : r / 64 % 64 < 64 := by omega
    have b8 : 0 ≤ r / 4096 := by omega
    have b9 : 0 ≤ r / 4096 % 64 := by omega
    have b10 : r / 4096 % 64 < 64 := by omega
    simp only [List.map_cons, List.map_nil, List.length_cons, List.length_nil] at hB ⊢
    obtain ⟨z0, hz0⟩ : ∃ z, 240 + r / 262144 = z := ⟨_, rfl⟩
    obtain ⟨z1, hz1⟩ : ∃ z, 128 + r / 4096 % 64 = z := ⟨_, rfl⟩
    obtain ⟨z2, hz2⟩ : ∃ z, 128 + r / 64 % 64 = z := ⟨_, rfl⟩
    obtain ⟨z3, hz3⟩ : ∃ z, 128 + r % 64 = z := ⟨_, rfl⟩
    have d0 : 0 ≤ z0 ∧ z0 < 256 := by omega
    have d1 : 0 ≤ z1 ∧ z1 < 256 := by omega
    have d2 : 0 ≤ z2 ∧ z2 < 256 := by omega
    have d3 : 0 ≤ z3 ∧ z3 < 256 := by omega
    rw [hz0, hz1, hz2, hz3] at hB ⊢
    go_enter Tryz.func69, Tryz.ntmps69
    go_wp2
    go_ret
    exact ⟨rfl, (Below.refl _ _).alloc (Nat.le_refl _) _⟩

end Go.Proofs.YtjjbbnodmpemiaaGreatDoor
