/- Parts, joined: The reference's runes: At, Valid. -/
import Derived.Test.YtemceefalkfneaaGreatDoorProg
import Derived.Test.YtemceefalkfneaaGreatDoorKCm4
/- The reference's runes: At, Valid. -/
namespace Go.Proofs.YtemceefalkfneaaGreatDoor
open Go.RowKit

def contFold : List UInt8 → Nat → Int → Option Int
  | _, 0, r => some r
  | [], _ + 1, _ => none
  | d :: l, n + 1, r => if (d.toNat : Int) < 128 ∨ 192 ≤ (d.toNat : Int) then none else contFold l n (64 * r + d.toNat - 128)

def atEnd (F : Option Int) (n : Nat) (least : Int) : Int × Int :=
  match F with
  | none => (0, 0)
  | some r => if r < least ∨ 1114111 < r ∨ (55296 ≤ r ∧ r < 57344) then (0, 0) else (r, n)

def atTail (rest : List UInt8) (n : Nat) (r0 least : Int) : Int × Int :=
  if rest.length + 1 < n then (0, 0) else atEnd (contFold rest (n - 1) r0) n least

def atSpec : List UInt8 → Int × Int
  | [] => (0, 0)
  | c :: rest =>
    if (c.toNat : Int) < 128 then (c.toNat, 1)
    else if 192 ≤ (c.toNat : Int) ∧ (c.toNat : Int) < 224 then atTail rest 2 (c.toNat - 192) 128
    else if 224 ≤ (c.toNat : Int) ∧ (c.toNat : Int) < 240 then atTail rest 3 (c.toNat - 224) 2048
    else if 240 ≤ (c.toNat : Int) ∧ (c.toNat : Int) < 248 then atTail rest 4 (c.toNat - 240) 65536
    else (0, 0)

theorem drop_byte (s : ByteArray) (a : Nat) (h : a < s.size) : s.data.toList.drop a = s[a] :: s.data.toList.drop (a + 1) := by
  rw [List.drop_eq_getElem_cons (by rw [← Lib.size_eq]; exact h)]
  rfl
theorem contFold_cons (d : UInt8) (l : List UInt8) (n : Nat) (r : Int) : contFold (d :: l) (n + 1) r = if (d.toNat : Int) < 128 ∨ 192 ≤ (d.toNat : Int) then none else contFold l n (64 * r + d.toNat - 128) := rfl
theorem atSpec_cons (c : UInt8) (rest : List UInt8) : atSpec (c :: rest) =
    (if (c.toNat : Int) < 128 then ((c.toNat : Int), (1 : Int))
    else if 192 ≤ (c.toNat : Int) ∧ (c.toNat : Int) < 224 then atTail rest 2 (c.toNat - 192) 128
    else if 224 ≤ (c.toNat : Int) ∧ (c.toNat : Int) < 240 then atTail rest 3 (c.toNat - 224) 2048
    else if 240 ≤ (c.toNat : Int) ∧ (c.toNat : Int) < 248 then atTail rest 4 (c.toNat - 240) 65536
    else (0, 0)) := rfl

set_option maxRecDepth 1000000 in
set_option maxHeartbeats 2000000 in
theorem At_two (s : ByteArray) (a : Nat) (w : World) (hs : s.size ≤ 4611686018427387904) (h : a < s.size) (x : UInt8) (hx : s[a] = x) (h1 : 192 ≤ (x.toNat : Int)) (h2 : (x.toNat : Int) < 224) (h3 : a + 2 ≤ s.size) :
    Calls Tryz.prog 129 #[.string s, .int .i64 a] w fun e w' => e = .returned (.tuple #[.int .i64 (atTail (s.data.toList.drop (a + 1)) 2 (x.toNat - 192) 128).1, .int .i64 (atTail (s.data.toList.drop (a + 1)) 2 (x.toNat - 192) 128).2]) ∧ w = w' := by
  have hlen : ¬ (s.data.toList.drop (a + 1)).length + 1 < 2 := by
    rw [List.length_drop, ← Lib.size_eq]; omega
  obtain ⟨F, hF⟩ : ∃ F, contFold (s.data.toList.drop (a + 1)) (2 - 1) (x.toNat - 192) = F := ⟨_, rfl⟩
  have hat : atTail (s.data.toList.drop (a + 1)) 2 (x.toNat - 192) 128 = atEnd F 2 128 := by
    unfold atTail atEnd
    rw [if_neg hlen, hF]
  rw [hat]
  have H0 := Lib.hid hF
  clear hat hlen hF
  have e1 : decide (s.size ≤ a) = false := by simp; omega
  have e2 : decide ((x.toNat : Int) < 128) = false := by simp; omega
  have e3 : (a : Int) + 2 ≤ (s.size : Int) := by omega
  go_enter Tryz.func129, Tryz.ntmps129
  go_wp2
  go_loop [8, 10] (fun r i => ∃ k : Nat, ∃ rr : Int, 1 ≤ k ∧ k ≤ 2 ∧ i = .int .i64 k ∧ r = .int .i64 rr ∧ 0 ≤ rr ∧ (k ≤ 1 → rr ≤ 31) ∧ (k ≤ 2 → rr ≤ 2047) ∧ (k ≤ 3 → rr ≤ 131071) ∧ rr ≤ 8388607 ∧ Hid (contFold (s.data.toList.drop (a + k)) (2 - k) rr = F)) (fun _ i => 2 - (intOf i).toNat)
  case atStart => exact ⟨1, (x.toNat : Int) - 192, by omega, by omega, rfl, rfl, by omega, by omega, by omega, by omega, by omega, H0⟩
  case round =>
    obtain ⟨k, rr, hk1, hk2, rfl, rfl, hr0, hr1, hr2, hr3, hr4, hf⟩ := hrel
    clear H0
    by_cases hlt : k < 2
    · obtain rfl : k = 1 := by omega
      have hak : a + 1 < s.size := by omega
      obtain ⟨y, hy⟩ : ∃ y, s[a + 1] = y := ⟨_, rfl⟩
      have hyl : (y.toNat : Int) < 256 := by have := y.toNat_lt; omega
      have hf' := hf.out
      rw [drop_byte s (a + 1) hak, hy, show 2 - 1 = (2 - (1 + 1)) + 1 from by omega] at hf'
      rw [contFold_cons] at hf'
      by_cases hc : (y.toNat : Int) < 128 ∨ 192 ≤ (y.toNat : Int)
      · rw [if_pos hc] at hf'
        subst hf'
        clear hf
        rcases hc with hc | hc
        all_goals
          go_wp2
          all_goals go_ret2
          all_goals exact ⟨rfl, rfl⟩
      · rw [if_neg hc] at hf'
        have Hf := Lib.hid hf'
        clear hf hf'
        have hc1 : 128 ≤ (y.toNat : Int) := by omega
        have hc2 : (y.toNat : Int) < 192 := by omega
        clear hc
        go_wp2
        go_round
        case rel => exact ⟨1 + 1, 64 * rr + y.toNat - 128, by omega, by omega, by go_num, rfl, by omega, by omega, by omega, by omega, by omega, Hf⟩
        case measure => first | (simp [intOf]; done) | (simp [intOf]; omega)
    · obtain rfl : k = 2 := by omega
      have hf' := hf.out
      rw [Nat.sub_self] at hf'
      rw [show contFold (s.data.toList.drop (a + 2)) 0 rr = some rr from by cases (s.data.toList.drop (a + 2)) <;> rfl] at hf'
      subst hf'
      clear hf
      by_cases hbad : rr < 128 ∨ 1114111 < rr ∨ (55296 ≤ rr ∧ rr < 57344)
      · have hv : atEnd (some rr) 2 128 = (0, 0) := by unfold atEnd; simp only; rw [if_pos hbad]
        have Hv := Lib.hid hv
        clear hv
        have hb : (rr < 128) ∨ (¬ rr < 128 ∧ 1114111 < rr) ∨ (¬ rr < 128 ∧ ¬ 1114111 < rr ∧ 55296 ≤ rr ∧ rr < 57344) := by omega
        clear hbad
        rcases hb with b1 | ⟨b1, b2⟩ | ⟨b1, b2, b3, b4⟩
        all_goals
          go_wp2
          all_goals go_ret2
          all_goals exact ⟨by rw [Hv.out]; rfl, rfl⟩
      · have hv : atEnd (some rr) 2 128 = (rr, 2) := by unfold atEnd; simp only; rw [if_neg hbad]; rfl
        have Hv := Lib.hid hv
        clear hv
        have hb : (¬ rr < 128 ∧ ¬ 1114111 < rr ∧ rr < 55296) ∨ (¬ rr < 128 ∧ ¬ 1114111 < rr ∧ 55296 ≤ rr ∧ ¬ rr < 57344) := by omega
        clear hbad
        rcases hb with ⟨b1, b2, b3⟩ | ⟨b1, b2, b3, b4⟩
        all_goals
          go_wp2
          all_goals go_ret2
          all_goals exact ⟨by rw [Hv.out]; rfl, rfl⟩

set_option maxRecDepth 1000000 in
set_option maxHeartbeats 2000000 in
theorem At_three (s : ByteArray) (a : Nat) (w : World) (hs : s.size ≤ 4611686018427387904) (h : a < s.size) (x : UInt8) (hx : s[a] = x) (h1 : 224 ≤ (x.toNat : Int)) (h2 : (x.toNat : Int) < 240) (h3 : a + 3 ≤ s.size) :
    Calls Tryz.prog 129 #[.string s, .int .i64 a] w fun e w' => e = .returned (.tuple #[.int .i64 (atTail (s.data.toList.drop (a + 1)) 3 (x.toNat - 224) 2048).1, .int .i64 (atTail (s.data.toList.drop (a + 1)) 3 (x.toNat - 224) 2048).2]) ∧ w = w' := by
  have hlen : ¬ (s.data.toList.drop (a + 1)).length + 1 < 3 := by
    rw [List.length_drop, ← Lib.size_eq]; omega
  obtain ⟨F, hF⟩ : ∃ F, contFold (s.data.toList.drop (a + 1)) (3 - 1) (x.toNat - 224) = F := ⟨_, rfl⟩
  have hat : atTail (s.data.toList.drop (a + 1)) 3 (x.toNat - 224) 2048 = atEnd F 3 2048 := by
    unfold atTail atEnd
    rw [if_neg hlen, hF]
  rw [hat]
  have H0 := Lib.hid hF
  clear hat hlen hF
  have e1 : decide (s.size ≤ a) = false := by simp; omega
  have e2 : decide ((x.toNat : Int) < 128) = false := by simp; omega
  have e3 : (a : Int) + 3 ≤ (s.size : Int) := by omega
  go_enter Tryz.func129, Tryz.ntmps129
  go_wp2
  go_loop [8, 10] (fun r i => ∃ k : Nat, ∃ rr : Int, 1 ≤ k ∧ k ≤ 3 ∧ i = .int .i64 k ∧ r = .int .i64 rr ∧ 0 ≤ rr ∧ (k ≤ 1 → rr ≤ 31) ∧ (k ≤ 2 → rr ≤ 2047) ∧ (k ≤ 3 → rr ≤ 131071) ∧ rr ≤ 8388607 ∧ Hid (contFold (s.data.toList.drop (a + k)) (3 - k) rr = F)) (fun _ i => 3 - (intOf i).toNat)
  case atStart => exact ⟨1, (x.toNat : Int) - 224, by omega, by omega, rfl, rfl, by omega, by omega, by omega, by omega, by omega, H0⟩
  case round =>
    obtain ⟨k, rr, hk1, hk2, rfl, rfl, hr0, hr1, hr2, hr3, hr4, hf⟩ := hrel
    clear H0
    by_cases hlt : k < 3
    · have hak : a + k < s.size := by omega
      obtain ⟨y, hy⟩ : ∃ y, s[a + k] = y := ⟨_, rfl⟩
      have hyl : (y.toNat : Int) < 256 := by have := y.toNat_lt; omega
      have hf' := hf.out
      rw [drop_byte s (a + k) hak, hy, show 3 - k = (3 - (k + 1)) + 1 from by omega] at hf'
      rw [contFold_cons] at hf'
      by_cases hc : (y.toNat : Int) < 128 ∨ 192 ≤ (y.toNat : Int)
      · rw [if_pos hc] at hf'
        subst hf'
        clear hf
        rcases hc with hc | hc
        all_goals
          go_wp2
          all_goals go_ret2
          all_goals exact ⟨rfl, rfl⟩
      · rw [if_neg hc] at hf'
        have Hf := Lib.hid hf'
        clear hf hf'
        have hc1 : 128 ≤ (y.toNat : Int) := by omega
        have hc2 : (y.toNat : Int) < 192 := by omega
        clear hc
        go_wp2
        go_round
        case rel => exact ⟨k + 1, 64 * rr + y.toNat - 128, by omega, by omega, by go_num, rfl, by omega, by omega, by omega, by omega, by omega, Hf⟩
        case measure => first | (simp [intOf]; done) | (simp [intOf]; omega)
    · obtain rfl : k = 3 := by omega
      have hf' := hf.out
      rw [Nat.sub_self] at hf'
      rw [show contFold (s.data.toList.drop (a + 3)) 0 rr = some rr from by cases (s.data.toList.drop (a + 3)) <;> rfl] at hf'
      subst hf'
      clear hf
      by_cases hbad : rr < 2048 ∨ 1114111 < rr ∨ (55296 ≤ rr ∧ rr < 57344)
      · have hv : atEnd (some rr) 3 2048 = (0, 0) := by unfold atEnd; simp only; rw [if_pos hbad]
        have Hv := Lib.hid hv
        clear hv
        have hb : (rr < 2048) ∨ (¬ rr < 2048 ∧ 1114111 < rr) ∨ (¬ rr < 2048 ∧ ¬ 1114111 < rr ∧ 55296 ≤ rr ∧ rr < 57344) := by omega
        clear hbad
        rcases hb with b1 | ⟨b1, b2⟩ | ⟨b1, b2, b3, b4⟩
        all_goals
          go_wp2
          all_goals go_ret2
          all_goals exact ⟨by rw [Hv.out]; rfl, rfl⟩
      · have hv : atEnd (some rr) 3 2048 = (rr, 3) := by unfold atEnd; simp only; rw [if_neg hbad]; rfl
        have Hv := Lib.hid hv
        clear hv
        have hb : (¬ rr < 2048 ∧ ¬ 1114111 < rr ∧ rr < 55296) ∨ (¬ rr < 2048 ∧ ¬ 1114111 < rr ∧ 55296 ≤ rr ∧ ¬ rr < 57344) := by omega
        clear hbad
        rcases hb with ⟨b1, b2, b3⟩ | ⟨b1, b2, b3, b4⟩
        all_goals
          go_wp2
          all_goals go_ret2
          all_goals exact ⟨by rw [Hv.out]; rfl, rfl⟩

set_option maxRecDepth 1000000 in
set_option maxHeartbeats 2000000 in
theorem At_four (s : ByteArray) (a : Nat) (w : World) (hs : s.size ≤ 4611686018427387904) (h : a < s.size) (x : UInt8) (hx : s[a] = x) (h1 : 240 ≤ (x.toNat : Int)) (h2 : (x.toNat : Int) < 248) (h3 : a + 4 ≤ s.size) :
    Calls Tryz.prog 129 #[.string s, .int .i64 a] w fun e w' => e = .returned (.tuple #[.int .i64 (atTail (s.data.toList.drop (a + 1)) 4 (x.toNat - 240) 65536).1, .int .i64 (atTail (s.data.toList.drop (a + 1)) 4 (x.toNat - 240) 65536).2]) ∧ w = w' := by
  have hlen : ¬ (s.data.toList.drop (a + 1)).length + 1 < 4 := by
    rw [List.length_drop, ← Lib.size_eq]; omega
  obtain ⟨F, hF⟩ : ∃ F, contFold (s.data.toList.drop (a + 1)) (4 - 1) (x.toNat - 240) = F := ⟨_, rfl⟩
  have hat : atTail (s.data.toList.drop (a + 1)) 4 (x.toNat - 240) 65536 = atEnd F 4 65536 := by
    unfold atTail atEnd
    rw [if_neg hlen, hF]
  rw [hat]
  have H0 := Lib.hid hF
  clear hat hlen hF
  have e1 : decide (s.size ≤ a) = false := by simp; omega
  have e2 : decide ((x.toNat : Int) < 128) = false := by simp; omega
  have e3 : (a : Int) + 4 ≤ (s.size : Int) := by omega
  go_enter Tryz.func129, Tryz.ntmps129
  go_wp2
  go_loop [8, 10] (fun r i => ∃ k : Nat, ∃ rr : Int, 1 ≤ k ∧ k ≤ 4 ∧ i = .int .i64 k ∧ r = .int .i64 rr ∧ 0 ≤ rr ∧ (k ≤ 1 → rr ≤ 31) ∧ (k ≤ 2 → rr ≤ 2047) ∧ (k ≤ 3 → rr ≤ 131071) ∧ rr ≤ 8388607 ∧ Hid (contFold (s.data.toList.drop (a + k)) (4 - k) rr = F)) (fun _ i => 4 - (intOf i).toNat)
  case atStart => exact ⟨1, (x.toNat : Int) - 240, by omega, by omega, rfl, rfl, by omega, by omega, by omega, by omega, by omega, H0⟩
  case round =>
    obtain ⟨k, rr, hk1, hk2, rfl, rfl, hr0, hr1, hr2, hr3, hr4, hf⟩ := hrel
    clear H0
    by_cases hlt : k < 4
    · have hak : a + k < s.size := by omega
      obtain ⟨y, hy⟩ : ∃ y, s[a + k] = y := ⟨_, rfl⟩
      have hyl : (y.toNat : Int) < 256 := by have := y.toNat_lt; omega
      have hf' := hf.out
      rw [drop_byte s (a + k) hak, hy, show 4 - k = (4 - (k + 1)) + 1 from by omega] at hf'
      rw [contFold_cons] at hf'
      by_cases hc : (y.toNat : Int) < 128 ∨ 192 ≤ (y.toNat : Int)
      · rw [if_pos hc] at hf'
        subst hf'
        clear hf
        rcases hc with hc | hc
        all_goals
          go_wp2
          all_goals go_ret2
          all_goals exact ⟨rfl, rfl⟩
      · rw [if_neg hc] at hf'
        have Hf := Lib.hid hf'
        clear hf hf'
        have hc1 : 128 ≤ (y.toNat : Int) := by omega
        have hc2 : (y.toNat : Int) < 192 := by omega
        clear hc
        go_wp2
        go_round
        case rel => exact ⟨k + 1, 64 * rr + y.toNat - 128, by omega, by omega, by go_num, rfl, by omega, by omega, by omega, by omega, by omega, Hf⟩
        case measure => first | (simp [intOf]; done) | (simp [intOf]; omega)
    · obtain rfl : k = 4 := by omega
      have hf' := hf.out
      rw [Nat.sub_self] at hf'
      rw [show contFold (s.data.toList.drop (a + 4)) 0 rr = some rr from by cases (s.data.toList.drop (a + 4)) <;> rfl] at hf'
      subst hf'
      clear hf
      by_cases hbad : rr < 65536 ∨ 1114111 < rr ∨ (55296 ≤ rr ∧ rr < 57344)
      · have hv : atEnd (some rr) 4 65536 = (0, 0) := by unfold atEnd; simp only; rw [if_pos hbad]
        have Hv := Lib.hid hv
        clear hv
        have hb : (rr < 65536) ∨ (¬ rr < 65536 ∧ 1114111 < rr) ∨ (¬ rr < 65536 ∧ ¬ 1114111 < rr ∧ 55296 ≤ rr ∧ rr < 57344) := by omega
        clear hbad
        rcases hb with b1 | ⟨b1, b2⟩ | ⟨b1, b2, b3, b4⟩
        all_goals
          go_wp2
          all_goals go_ret2
          all_goals exact ⟨by rw [Hv.out]; rfl, rfl⟩
      · have hv : atEnd (some rr) 4 65536 = (rr, 4) := by unfold atEnd; simp only; rw [if_neg hbad]; rfl
        have Hv := Lib.hid hv
        clear hv
        have hb : (¬ rr < 65536 ∧ ¬ 1114111 < rr ∧ rr < 55296) ∨ (¬ rr < 65536 ∧ ¬ 1114111 < rr ∧ 55296 ≤ rr ∧ ¬ rr < 57344) := by omega
        clear hbad
        rcases hb with ⟨b1, b2, b3⟩ | ⟨b1, b2, b3, b4⟩
        all_goals
          go_wp2
          all_goals go_ret2
          all_goals exact ⟨by rw [Hv.out]; rfl, rfl⟩


set_option maxRecDepth 1000000 in
set_option maxHeartbeats 2000000 in
theorem At_none (s : ByteArray) (a : Nat) (w : World) (_hs : s.size ≤ 4611686018427387904) (_ha : a ≤ 4611686018427387904) (h : s.size ≤ a) :
    Calls Tryz.prog 129 #[.string s, .int .i64 a] w fun e w' => e = .returned (.tuple #[.int .i64 0, .int .i64 0]) ∧ w = w' := by
  have e1 : (s.size : Int) ≤ a := by omega
  have e2 : decide (s.size ≤ a) = true := by simpa using h
  go_enter Tryz.func129, Tryz.ntmps129
  go_wp2
  all_goals go_ret2
  all_goals exact ⟨rfl, rfl⟩

set_option maxRecDepth 1000000 in
set_option maxHeartbeats 2000000 in
theorem At_one (s : ByteArray) (a : Nat) (w : World) (_hs : s.size ≤ 4611686018427387904) (h : a < s.size) (x : UInt8) (hx : s[a] = x) (h1 : (x.toNat : Int) < 128) :
    Calls Tryz.prog 129 #[.string s, .int .i64 a] w fun e w' => e = .returned (.tuple #[.int .i64 x.toNat, .int .i64 1]) ∧ w = w' := by
  go_enter Tryz.func129, Tryz.ntmps129
  go_wp2
  all_goals go_ret2
  all_goals exact ⟨rfl, rfl⟩

set_option maxRecDepth 1000000 in
set_option maxHeartbeats 20000000 in
/-- No lead byte, or one that lacks bytes behind it. -/
theorem At_bad (s : ByteArray) (a : Nat) (w : World) (hs : s.size ≤ 4611686018427387904) (h : a < s.size) (x : UInt8) (hx : s[a] = x) (h0 : 128 ≤ (x.toNat : Int))
    (h1 : (x.toNat : Int) < 192 ∨ 248 ≤ (x.toNat : Int) ∨ (192 ≤ (x.toNat : Int) ∧ (x.toNat : Int) < 224 ∧ s.size < a + 2) ∨ (224 ≤ (x.toNat : Int) ∧ (x.toNat : Int) < 240 ∧ s.size < a + 3) ∨ (240 ≤ (x.toNat : Int) ∧ (x.toNat : Int) < 248 ∧ s.size < a + 4)) :
    Calls Tryz.prog 129 #[.string s, .int .i64 a] w fun e w' => e = .returned (.tuple #[.int .i64 0, .int .i64 0]) ∧ w = w' := by
  have hxl : (x.toNat : Int) < 256 := by have := x.toNat_lt; omega
  rcases h1 with h1 | h1 | ⟨h1, h2, h3⟩ | ⟨h1, h2, h3⟩ | ⟨h1, h2, h3⟩
  · go_enter Tryz.func129, Tryz.ntmps129
    go_wp2
    all_goals go_ret2
    all_goals exact ⟨rfl, rfl⟩
  · have g1 : 192 ≤ (x.toNat : Int) := by omega
    have g2 : ¬ ((x.toNat : Int) < 224) := by omega
    have g3 : 224 ≤ (x.toNat : Int) := by omega
    have g4 : ¬ ((x.toNat : Int) < 240) := by omega
    have g5 : 240 ≤ (x.toNat : Int) := by omega
    have g6 : ¬ ((x.toNat : Int) < 248) := by omega
    go_enter Tryz.func129, Tryz.ntmps129
    go_wp2
    all_goals go_ret2
    all_goals exact ⟨rfl, rfl⟩
  · have h4 : (s.size : Int) < (a : Int) + 2 := by omega
    go_enter Tryz.func129, Tryz.ntmps129
    go_wp2
    all_goals go_ret2
    all_goals exact ⟨rfl, rfl⟩
  · have h4 : (s.size : Int) < (a : Int) + 3 := by omega
    go_enter Tryz.func129, Tryz.ntmps129
    go_wp2
    all_goals go_ret2
    all_goals exact ⟨rfl, rfl⟩
  · have h4 : (s.size : Int) < (a : Int) + 4 := by omega
    go_enter Tryz.func129, Tryz.ntmps129
    go_wp2
    all_goals go_ret2
    all_goals exact ⟨rfl, rfl⟩

/-- commonplaceref01.At -/
theorem At_calls (s : ByteArray) (a : Nat) (w : World) (hs : s.size ≤ 4611686018427387904) (ha : a ≤ 4611686018427387904) :
    Calls Tryz.prog 129 #[.string s, .int .i64 a] w fun e w' => e = .returned (.tuple #[.int .i64 (atSpec (s.data.toList.drop a)).1, .int .i64 (atSpec (s.data.toList.drop a)).2]) ∧ w = w' := by
  by_cases h : a < s.size
  · rw [drop_byte s a h]
    obtain ⟨x, hx⟩ : ∃ x, s[a] = x := ⟨_, rfl⟩
    rw [hx]
    have hl : (s.data.toList.drop (a + 1)).length = s.size - (a + 1) := by rw [List.length_drop, ← Lib.size_eq]
    have hxl := x.toNat_lt
    rw [atSpec_cons]
    by_cases h1 : (x.toNat : Int) < 128
    · rw [if_pos h1]; exact At_one s a w hs h x hx h1
    rw [if_neg h1]
    by_cases h2 : 192 ≤ (x.toNat : Int) ∧ (x.toNat : Int) < 224
    · rw [if_pos h2]
      by_cases h3 : a + 2 ≤ s.size
      · exact At_two s a w hs h x hx h2.1 h2.2 h3
      · unfold atTail; rw [if_pos (by omega)]; exact At_bad s a w hs h x hx (by omega) (by omega)
    rw [if_neg h2]
    by_cases h2 : 224 ≤ (x.toNat : Int) ∧ (x.toNat : Int) < 240
    · rw [if_pos h2]
      by_cases h3 : a + 3 ≤ s.size
      · exact At_three s a w hs h x hx h2.1 h2.2 h3
      · unfold atTail; rw [if_pos (by omega)]; exact At_bad s a w hs h x hx (by omega) (by omega)
    rw [if_neg h2]
    by_cases h2 : 240 ≤ (x.toNat : Int) ∧ (x.toNat : Int) < 248
    · rw [if_pos h2]
      by_cases h3 : a + 4 ≤ s.size
      · exact At_four s a w hs h x hx h2.1 h2.2 h3
      · unfold atTail; rw [if_pos (by omega)]; exact At_bad s a w hs h x hx (by omega) (by omega)
    rw [if_neg h2]
    exact At_bad s a w hs h x hx (by omega) (by omega)
  · rw [List.drop_eq_nil_of_le (by rw [← Lib.size_eq]; omega)]
    exact At_none s a w hs ha (by omega)

end Go.Proofs.YtemceefalkfneaaGreatDoor
