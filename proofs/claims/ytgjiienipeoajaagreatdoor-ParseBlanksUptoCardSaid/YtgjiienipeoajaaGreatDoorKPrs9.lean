/- Parts, joined: The reference's runes: At, Valid. Plain Lean, no program: the reference's runes are the decoder's. The reference's Valid, and why it holds a value for one that may not be. Rows of values, cell by cell. No condition. Why a value may not be: the reference's function. Condition: a bulk of at most 10^9. -/
import Derived.Test.YtgjiienipeoajaaGreatDoorProg
import Derived.Lib.ValidU
import Derived.Lib.MapLaws
import Derived.Laws.AppendOwn
import Derived.Test.YtgjiienipeoajaaGreatDoorKPrs1
import Derived.Test.YtgjiienipeoajaaGreatDoorKPrs5
/- The reference's runes: At, Valid. -/
namespace Go.Proofs.YtgjiienipeoajaaGreatDoor
open Go.RowKit

def contFold : List UInt8 → Nat → Int → Option Int
  | _, 0, r => some r
  | [], _ + 1, _ => none
  | d :: l, n + 1, r => if (d.toNat : Int) < 128 ∨ 192 ≤ (d.toNat : Int) then none else contFold l n (64 * r + d.toNat - 128)

def atEnd (F : Option Int) (n : Nat) (least : Int) : Int × Int :=
  match F with
  | none => (0, 0)
  | some r => if r < least ∨ 1114111 < r ∨ (55296 ≤ r ∧ r < 57344) then (0, 0) else (r, n)

def atTail (rest : List UInt8) (n : Nat) (r0 least : Int) : Int × Int :=
  if rest.length + 1 < n then (0, 0) else atEnd (contFold rest (n - 1) r0) n least

def atSpec : List UInt8 → Int × Int
  | [] => (0, 0)
  | c :: rest =>
    if (c.toNat : Int) < 128 then (c.toNat, 1)
    else if 192 ≤ (c.toNat : Int) ∧ (c.toNat : Int) < 224 then atTail rest 2 (c.toNat - 192) 128
    else if 224 ≤ (c.toNat : Int) ∧ (c.toNat : Int) < 240 then atTail rest 3 (c.toNat - 224) 2048
    else if 240 ≤ (c.toNat : Int) ∧ (c.toNat : Int) < 248 then atTail rest 4 (c.toNat - 240) 65536
    else (0, 0)

theorem drop_byte (s : ByteArray) (a : Nat) (h : a < s.size) : s.data.toList.drop a = s[a] :: s.data.toList.drop (a + 1) := by
  rw [List.drop_eq_getElem_cons (by rw [← Lib.size_eq]; exact h)]
  rfl
theorem contFold_cons (d : UInt8) (l : List UInt8) (n : Nat) (r : Int) : contFold (d :: l) (n + 1) r = if (d.toNat : Int) < 128 ∨ 192 ≤ (d.toNat : Int) then none else contFold l n (64 * r + d.toNat - 128) := rfl
theorem atSpec_cons (c : UInt8) (rest : List UInt8) : atSpec (c :: rest) =
    (if (c.toNat : Int) < 128 then ((c.toNat : Int), (1 : Int))
    else if 192 ≤ (c.toNat : Int) ∧ (c.toNat : Int) < 224 then atTail rest 2 (c.toNat - 192) 128
    else if 224 ≤ (c.toNat : Int) ∧ (c.toNat : Int) < 240 then atTail rest 3 (c.toNat - 224) 2048
    else if 240 ≤ (c.toNat : Int) ∧ (c.toNat : Int) < 248 then atTail rest 4 (c.toNat - 240) 65536
    else (0, 0)) := rfl

set_option maxRecDepth 1000000 in
set_option maxHeartbeats 2000000 in
theorem At_two (s : ByteArray) (a : Nat) (w : World) (hs : s.size ≤ 4611686018427387904) (h : a < s.size) (x : UInt8) (hx : s[a] = x) (h1 : 192 ≤ (x.toNat : Int)) (h2 : (x.toNat : Int) < 224) (h3 : a + 2 ≤ s.size) :
    Calls Tryz.prog 65 #[.string s, .int .i64 a] w fun e w' => e = .returned (.tuple #[.int .i64 (atTail (s.data.toList.drop (a + 1)) 2 (x.toNat - 192) 128).1, .int .i64 (atTail (s.data.toList.drop (a + 1)) 2 (x.toNat - 192) 128).2]) ∧ w = w' := by
  have hlen : ¬ (s.data.toList.drop (a + 1)).length + 1 < 2 := by
    rw [List.length_drop, ← Lib.size_eq]; omega
  obtain ⟨F, hF⟩ : ∃ F, contFold (s.data.toList.drop (a + 1)) (2 - 1) (x.toNat - 192) = F := ⟨_, rfl⟩
  have hat : atTail (s.data.toList.drop (a + 1)) 2 (x.toNat - 192) 128 = atEnd F 2 128 := by
    unfold atTail atEnd
    rw [if_neg hlen, hF]
  rw [hat]
  have H0 := Lib.hid hF
  clear hat hlen hF
  have e1 : decide (s.size ≤ a) = false := by simp; omega
  have e2 : decide ((x.toNat : Int) < 128) = false := by simp; omega
  have e3 : (a : Int) + 2 ≤ (s.size : Int) := by omega
  go_enter Tryz.func65, Tryz.ntmps65
  go_wp2
  go_loop [8, 10] (fun r i => ∃ k : Nat, ∃ rr : Int, 1 ≤ k ∧ k ≤ 2 ∧ i = .int .i64 k ∧ r = .int .i64 rr ∧ 0 ≤ rr ∧ (k ≤ 1 → rr ≤ 31) ∧ (k ≤ 2 → rr ≤ 2047) ∧ (k ≤ 3 → rr ≤ 131071) ∧ rr ≤ 8388607 ∧ Hid (contFold (s.data.toList.drop (a + k)) (2 - k) rr = F)) (fun _ i => 2 - (intOf i).toNat)
  case atStart => exact ⟨1, (x.toNat : Int) - 192, by omega, by omega, rfl, rfl, by omega, by omega, by omega, by omega, by omega, H0⟩
  case round =>
    obtain ⟨k, rr, hk1, hk2, rfl, rfl, hr0, hr1, hr2, hr3, hr4, hf⟩ := hrel
    clear H0
    by_cases hlt : k < 2
    · obtain rfl : k = 1 := by omega
      have hak : a + 1 < s.size := by omega
      obtain ⟨y, hy⟩ : ∃ y, s[a + 1] = y := ⟨_, rfl⟩
      have hyl : (y.toNat : Int) < 256 := by have := y.toNat_lt; omega
      have hf' := hf.out
      rw [drop_byte s (a + 1) hak, hy, show 2 - 1 = (2 - (1 + 1)) + 1 from by omega] at hf'
      rw [contFold_cons] at hf'
      by_cases hc : (y.toNat : Int) < 128 ∨ 192 ≤ (y.toNat : Int)
      · rw [if_pos hc] at hf'
        subst hf'
        clear hf
        rcases hc with hc | hc
        all_goals
          go_wp2
          all_goals go_ret2
          all_goals exact ⟨rfl, rfl⟩
      · rw [if_neg hc] at hf'
        have Hf := Lib.hid hf'
        clear hf hf'
        have hc1 : 128 ≤ (y.toNat : Int) := by omega
        have hc2 : (y.toNat : Int) < 192 := by omega
        clear hc
        go_wp2
        go_round
        case rel => exact ⟨1 + 1, 64 * rr + y.toNat - 128, by omega, by omega, by go_num, rfl, by omega, by omega, by omega, by omega, by omega, Hf⟩
        case measure => first | (simp [intOf]; done) | (simp [intOf]; omega)
    · obtain rfl : k = 2 := by omega
      have hf' := hf.out
      rw [Nat.sub_self] at hf'
      rw [show contFold (s.data.toList.drop (a + 2)) 0 rr = some rr from by cases (s.data.toList.drop (a + 2)) <;> rfl] at hf'
      subst hf'
      clear hf
      by_cases hbad : rr < 128 ∨ 1114111 < rr ∨ (55296 ≤ rr ∧ rr < 57344)
      · have hv : atEnd (some rr) 2 128 = (0, 0) := by unfold atEnd; simp only; rw [if_pos hbad]
        have Hv := Lib.hid hv
        clear hv
        have hb : (rr < 128) ∨ (¬ rr < 128 ∧ 1114111 < rr) ∨ (¬ rr < 128 ∧ ¬ 1114111 < rr ∧ 55296 ≤ rr ∧ rr < 57344) := by omega
        clear hbad
        rcases hb with b1 | ⟨b1, b2⟩ | ⟨b1, b2, b3, b4⟩
        all_goals
          go_wp2
          all_goals go_ret2
          all_goals exact ⟨by rw [Hv.out]; rfl, rfl⟩
      · have hv : atEnd (some rr) 2 128 = (rr, 2) := by unfold atEnd; simp only; rw [if_neg hbad]; rfl
        have Hv := Lib.hid hv
        clear hv
        have hb : (¬ rr < 128 ∧ ¬ 1114111 < rr ∧ rr < 55296) ∨ (¬ rr < 128 ∧ ¬ 1114111 < rr ∧ 55296 ≤ rr ∧ ¬ rr < 57344) := by omega
        clear hbad
        rcases hb with ⟨b1, b2, b3⟩ | ⟨b1, b2, b3, b4⟩
        all_goals
          go_wp2
          all_goals go_ret2
          all_goals exact ⟨by rw [Hv.out]; rfl, rfl⟩

set_option maxRecDepth 1000000 in
set_option maxHeartbeats 2000000 in
theorem At_three (s : ByteArray) (a : Nat) (w : World) (hs : s.size ≤ 4611686018427387904) (h : a < s.size) (x : UInt8) (hx : s[a] = x) (h1 : 224 ≤ (x.toNat : Int)) (h2 : (x.toNat : Int) < 240) (h3 : a + 3 ≤ s.size) :
    Calls Tryz.prog 65 #[.string s, .int .i64 a] w fun e w' => e = .returned (.tuple #[.int .i64 (atTail (s.data.toList.drop (a + 1)) 3 (x.toNat - 224) 2048).1, .int .i64 (atTail (s.data.toList.drop (a + 1)) 3 (x.toNat - 224) 2048).2]) ∧ w = w' := by
  have hlen : ¬ (s.data.toList.drop (a + 1)).length + 1 < 3 := by
    rw [List.length_drop, ← Lib.size_eq]; omega
  obtain ⟨F, hF⟩ : ∃ F, contFold (s.data.toList.drop (a + 1)) (3 - 1) (x.toNat - 224) = F := ⟨_, rfl⟩
  have hat : atTail (s.data.toList.drop (a + 1)) 3 (x.toNat - 224) 2048 = atEnd F 3 2048 := by
    unfold atTail atEnd
    rw [if_neg hlen, hF]
  rw [hat]
  have H0 := Lib.hid hF
  clear hat hlen hF
  have e1 : decide (s.size ≤ a) = false := by simp; omega
  have e2 : decide ((x.toNat : Int) < 128) = false := by simp; omega
  have e3 : (a : Int) + 3 ≤ (s.size : Int) := by omega
  go_enter Tryz.func65, Tryz.ntmps65
  go_wp2
  go_loop [8, 10] (fun r i => ∃ k : Nat, ∃ rr : Int, 1 ≤ k ∧ k ≤ 3 ∧ i = .int .i64 k ∧ r = .int .i64 rr ∧ 0 ≤ rr ∧ (k ≤ 1 → rr ≤ 31) ∧ (k ≤ 2 → rr ≤ 2047) ∧ (k ≤ 3 → rr ≤ 131071) ∧ rr ≤ 8388607 ∧ Hid (contFold (s.data.toList.drop (a + k)) (3 - k) rr = F)) (fun _ i => 3 - (intOf i).toNat)
  case atStart => exact ⟨1, (x.toNat : Int) - 224, by omega, by omega, rfl, rfl, by omega, by omega, by omega, by omega, by omega, H0⟩
  case round =>
    obtain ⟨k, rr, hk1, hk2, rfl, rfl, hr0, hr1, hr2, hr3, hr4, hf⟩ := hrel
    clear H0
    by_cases hlt : k < 3
    · have hak : a + k < s.size := by omega
      obtain ⟨y, hy⟩ : ∃ y, s[a + k] = y := ⟨_, rfl⟩
      have hyl : (y.toNat : Int) < 256 := by have := y.toNat_lt; omega
      have hf' := hf.out
      rw [drop_byte s (a + k) hak, hy, show 3 - k = (3 - (k + 1)) + 1 from by omega] at hf'
      rw [contFold_cons] at hf'
      by_cases hc : (y.toNat : Int) < 128 ∨ 192 ≤ (y.toNat : Int)
      · rw [if_pos hc] at hf'
        subst hf'
        clear hf
        rcases hc with hc | hc
        all_goals
          go_wp2
          all_goals go_ret2
          all_goals exact ⟨rfl, rfl⟩
      · rw [if_neg hc] at hf'
        have Hf := Lib.hid hf'
        clear hf hf'
        have hc1 : 128 ≤ (y.toNat : Int) := by omega
        have hc2 : (y.toNat : Int) < 192 := by omega
        clear hc
        go_wp2
        go_round
        case rel => exact ⟨k + 1, 64 * rr + y.toNat - 128, by omega, by omega, by go_num, rfl, by omega, by omega, by omega, by omega, by omega, Hf⟩
        case measure => first | (simp [intOf]; done) | (simp [intOf]; omega)
    · obtain rfl : k = 3 := by omega
      have hf' := hf.out
      rw [Nat.sub_self] at hf'
      rw [show contFold (s.data.toList.drop (a + 3)) 0 rr = some rr from by cases (s.data.toList.drop (a + 3)) <;> rfl] at hf'
      subst hf'
      clear hf
      by_cases hbad : rr < 2048 ∨ 1114111 < rr ∨ (55296 ≤ rr ∧ rr < 57344)
      · have hv : atEnd (some rr) 3 2048 = (0, 0) := by unfold atEnd; simp only; rw [if_pos hbad]
        have Hv := Lib.hid hv
        clear hv
        have hb : (rr < 2048) ∨ (¬ rr < 2048 ∧ 1114111 < rr) ∨ (¬ rr < 2048 ∧ ¬ 1114111 < rr ∧ 55296 ≤ rr ∧ rr < 57344) := by omega
        clear hbad
        rcases hb with b1 | ⟨b1, b2⟩ | ⟨b1, b2, b3, b4⟩
        all_goals
          go_wp2
          all_goals go_ret2
          all_goals exact ⟨by rw [Hv.out]; rfl, rfl⟩
      · have hv : atEnd (some rr) 3 2048 = (rr, 3) := by unfold atEnd; simp only; rw [if_neg hbad]; rfl
        have Hv := Lib.hid hv
        clear hv
        have hb : (¬ rr < 2048 ∧ ¬ 1114111 < rr ∧ rr < 55296) ∨ (¬ rr < 2048 ∧ ¬ 1114111 < rr ∧ 55296 ≤ rr ∧ ¬ rr < 57344) := by omega
        clear hbad
        rcases hb with ⟨b1, b2, b3⟩ | ⟨b1, b2, b3, b4⟩
        all_goals
          go_wp2
          all_goals go_ret2
          all_goals exact ⟨by rw [Hv.out]; rfl, rfl⟩

set_option maxRecDepth 1000000 in
set_option maxHeartbeats 2000000 in
theorem At_four (s : ByteArray) (a : Nat) (w : World) (hs : s.size ≤ 4611686018427387904) (h : a < s.size) (x : UInt8) (hx : s[a] = x) (h1 : 240 ≤ (x.toNat : Int)) (h2 : (x.toNat : Int) < 248) (h3 : a + 4 ≤ s.size) :
    Calls Tryz.prog 65 #[.string s, .int .i64 a] w fun e w' => e = .returned (.tuple #[.int .i64 (atTail (s.data.toList.drop (a + 1)) 4 (x.toNat - 240) 65536).1, .int .i64 (atTail (s.data.toList.drop (a + 1)) 4 (x.toNat - 240) 65536).2]) ∧ w = w' := by
  have hlen : ¬ (s.data.toList.drop (a + 1)).length + 1 < 4 := by
    rw [List.length_drop, ← Lib.size_eq]; omega
  obtain ⟨F, hF⟩ : ∃ F, contFold (s.data.toList.drop (a + 1)) (4 - 1) (x.toNat - 240) = F := ⟨_, rfl⟩
  have hat : atTail (s.data.toList.drop (a + 1)) 4 (x.toNat - 240) 65536 = atEnd F 4 65536 := by
    unfold atTail atEnd
    rw [if_neg hlen, hF]
  rw [hat]
  have H0 := Lib.hid hF
  clear hat hlen hF
  have e1 : decide (s.size ≤ a) = false := by simp; omega
  have e2 : decide ((x.toNat : Int) < 128) = false := by simp; omega
  have e3 : (a : Int) + 4 ≤ (s.size : Int) := by omega
  go_enter Tryz.func65, Tryz.ntmps65
  go_wp2
  go_loop [8, 10] (fun r i => ∃ k : Nat, ∃ rr : Int, 1 ≤ k ∧ k ≤ 4 ∧ i = .int .i64 k ∧ r = .int .i64 rr ∧ 0 ≤ rr ∧ (k ≤ 1 → rr ≤ 31) ∧ (k ≤ 2 → rr ≤ 2047) ∧ (k ≤ 3 → rr ≤ 131071) ∧ rr ≤ 8388607 ∧ Hid (contFold (s.data.toList.drop (a + k)) (4 - k) rr = F)) (fun _ i => 4 - (intOf i).toNat)
  case atStart => exact ⟨1, (x.toNat : Int) - 240, by omega, by omega, rfl, rfl, by omega, by omega, by omega, by omega, by omega, H0⟩
  case round =>
    obtain ⟨k, rr, hk1, hk2, rfl, rfl, hr0, hr1, hr2, hr3, hr4, hf⟩ := hrel
    clear H0
    by_cases hlt : k < 4
    · have hak : a + k < s.size := by omega
      obtain ⟨y, hy⟩ : ∃ y, s[a + k] = y := ⟨_, rfl⟩
      have hyl : (y.toNat : Int) < 256 := by have := y.toNat_lt; omega
      have hf' := hf.out
      rw [drop_byte s (a + k) hak, hy, show 4 - k = (4 - (k + 1)) + 1 from by omega] at hf'
      rw [contFold_cons] at hf'
      by_cases hc : (y.toNat : Int) < 128 ∨ 192 ≤ (y.toNat : Int)
      · rw [if_pos hc] at hf'
        subst hf'
        clear hf
        rcases hc with hc | hc
        all_goals
          go_wp2
          all_goals go_ret2
          all_goals exact ⟨rfl, rfl⟩
      · rw [if_neg hc] at hf'
        have Hf := Lib.hid hf'
        clear hf hf'
        have hc1 : 128 ≤ (y.toNat : Int) := by omega
        have hc2 : (y.toNat : Int) < 192 := by omega
        clear hc
        go_wp2
        go_round
        case rel => exact ⟨k + 1, 64 * rr + y.toNat - 128, by omega, by omega, by go_num, rfl, by omega, by omega, by omega, by omega, by omega, Hf⟩
        case measure => first | (simp [intOf]; done) | (simp [intOf]; omega)
    · obtain rfl : k = 4 := by omega
      have hf' := hf.out
      rw [Nat.sub_self] at hf'
      rw [show contFold (s.data.toList.drop (a + 4)) 0 rr = some rr from by cases (s.data.toList.drop (a + 4)) <;> rfl] at hf'
      subst hf'
      clear hf
      by_cases hbad : rr < 65536 ∨ 1114111 < rr ∨ (55296 ≤ rr ∧ rr < 57344)
      · have hv : atEnd (some rr) 4 65536 = (0, 0) := by unfold atEnd; simp only; rw [if_pos hbad]
        have Hv := Lib.hid hv
        clear hv
        have hb : (rr < 65536) ∨ (¬ rr < 65536 ∧ 1114111 < rr) ∨ (¬ rr < 65536 ∧ ¬ 1114111 < rr ∧ 55296 ≤ rr ∧ rr < 57344) := by omega
        clear hbad
        rcases hb with b1 | ⟨b1, b2⟩ | ⟨b1, b2, b3, b4⟩
        all_goals
          go_wp2
          all_goals go_ret2
          all_goals exact ⟨by rw [Hv.out]; rfl, rfl⟩
      · have hv : atEnd (some rr) 4 65536 = (rr, 4) := by unfold atEnd; simp only; rw [if_neg hbad]; rfl
        have Hv := Lib.hid hv
        clear hv
        have hb : (¬ rr < 65536 ∧ ¬ 1114111 < rr ∧ rr < 55296) ∨ (¬ rr < 65536 ∧ ¬ 1114111 < rr ∧ 55296 ≤ rr ∧ ¬ rr < 57344) := by omega
        clear hbad
        rcases hb with ⟨b1, b2, b3⟩ | ⟨b1, b2, b3, b4⟩
        all_goals
          go_wp2
          all_goals go_ret2
          all_goals exact ⟨by rw [Hv.out]; rfl, rfl⟩


set_option maxRecDepth 1000000 in
set_option maxHeartbeats 2000000 in
theorem At_none (s : ByteArray) (a : Nat) (w : World) (_hs : s.size ≤ 4611686018427387904) (_ha : a ≤ 4611686018427387904) (h : s.size ≤ a) :
    Calls Tryz.prog 65 #[.string s, .int .i64 a] w fun e w' => e = .returned (.tuple #[.int .i64 0, .int .i64 0]) ∧ w = w' := by
  have e1 : (s.size : Int) ≤ a := by omega
  have e2 : decide (s.size ≤ a) = true := by simpa using h
  go_enter Tryz.func65, Tryz.ntmps65
  go_wp2
  all_goals go_ret2
  all_goals exact ⟨rfl, rfl⟩

set_option maxRecDepth 1000000 in
set_option maxHeartbeats 2000000 in
theorem At_one (s : ByteArray) (a : Nat) (w : World) (_hs : s.size ≤ 4611686018427387904) (h : a < s.size) (x : UInt8) (hx : s[a] = x) (h1 : (x.toNat : Int) < 128) :
    Calls Tryz.prog 65 #[.string s, .int .i64 a] w fun e w' => e = .returned (.tuple #[.int .i64 x.toNat, .int .i64 1]) ∧ w = w' := by
  go_enter Tryz.func65, Tryz.ntmps65
  go_wp2
  all_goals go_ret2
  all_goals exact ⟨rfl, rfl⟩

set_option maxRecDepth 1000000 in
set_option maxHeartbeats 20000000 in
/-- No lead byte, or one that lacks bytes behind it. -/
theorem At_bad (s : ByteArray) (a : Nat) (w : World) (hs : s.size ≤ 4611686018427387904) (h : a < s.size) (x : UInt8) (hx : s[a] = x) (h0 : 128 ≤ (x.toNat : Int))
    (h1 : (x.toNat : Int) < 192 ∨ 248 ≤ (x.toNat : Int) ∨ (192 ≤ (x.toNat : Int) ∧ (x.toNat : Int) < 224 ∧ s.size < a + 2) ∨ (224 ≤ (x.toNat : Int) ∧ (x.toNat : Int) < 240 ∧ s.size < a + 3) ∨ (240 ≤ (x.toNat : Int) ∧ (x.toNat : Int) < 248 ∧ s.size < a + 4)) :
    Calls Tryz.prog 65 #[.string s, .int .i64 a] w fun e w' => e = .returned (.tuple #[.int .i64 0, .int .i64 0]) ∧ w = w' := by
  have hxl : (x.toNat : Int) < 256 := by have := x.toNat_lt; omega
  rcases h1 with h1 | h1 | ⟨h1, h2, h3⟩ | ⟨h1, h2, h3⟩ | ⟨h1, h2, h3⟩
  · go_enter Tryz.func65, Tryz.ntmps65
    go_wp2
    all_goals go_ret2
    all_goals exact ⟨rfl, rfl⟩
  · have g1 : 192 ≤ (x.toNat : Int) := by omega
    have g2 : ¬ ((x.toNat : Int) < 224) := by omega
    have g3 : 224 ≤ (x.toNat : Int) := by omega
    have g4 : ¬ ((x.toNat : Int) < 240) := by omega
    have g5 : 240 ≤ (x.toNat : Int) := by omega
    have g6 : ¬ ((x.toNat : Int) < 248) := by omega
    go_enter Tryz.func65, Tryz.ntmps65
    go_wp2
    all_goals go_ret2
    all_goals exact ⟨rfl, rfl⟩
  · have h4 : (s.size : Int) < (a : Int) + 2 := by omega
    go_enter Tryz.func65, Tryz.ntmps65
    go_wp2
    all_goals go_ret2
    all_goals exact ⟨rfl, rfl⟩
  · have h4 : (s.size : Int) < (a : Int) + 3 := by omega
    go_enter Tryz.func65, Tryz.ntmps65
    go_wp2
    all_goals go_ret2
    all_goals exact ⟨rfl, rfl⟩
  · have h4 : (s.size : Int) < (a : Int) + 4 := by omega
    go_enter Tryz.func65, Tryz.ntmps65
    go_wp2
    all_goals go_ret2
    all_goals exact ⟨rfl, rfl⟩

/-- commonplaceref01.At -/
theorem At_calls (s : ByteArray) (a : Nat) (w : World) (hs : s.size ≤ 4611686018427387904) (ha : a ≤ 4611686018427387904) :
    Calls Tryz.prog 65 #[.string s, .int .i64 a] w fun e w' => e = .returned (.tuple #[.int .i64 (atSpec (s.data.toList.drop a)).1, .int .i64 (atSpec (s.data.toList.drop a)).2]) ∧ w = w' := by
  by_cases h : a < s.size
  · rw [drop_byte s a h]
    obtain ⟨x, hx⟩ : ∃ x, s[a] = x := ⟨_, rfl⟩
    rw [hx]
    have hl : (s.data.toList.drop (a + 1)).length = s.size - (a + 1) := by rw [List.length_drop, ← Lib.size_eq]
    have hxl := x.toNat_lt
    rw [atSpec_cons]
    by_cases h1 : (x.toNat : Int) < 128
    · rw [if_pos h1]; exact At_one s a w hs h x hx h1
    rw [if_neg h1]
    by_cases h2 : 192 ≤ (x.toNat : Int) ∧ (x.toNat : Int) < 224
    · rw [if_pos h2]
      by_cases h3 : a + 2 ≤ s.size
      · exact At_two s a w hs h x hx h2.1 h2.2 h3
      · unfold atTail; rw [if_pos (by omega)]; exact At_bad s a w hs h x hx (by omega) (by omega)
    rw [if_neg h2]
    by_cases h2 : 224 ≤ (x.toNat : Int) ∧ (x.toNat : Int) < 240
    · rw [if_pos h2]
      by_cases h3 : a + 3 ≤ s.size
      · exact At_three s a w hs h x hx h2.1 h2.2 h3
      · unfold atTail; rw [if_pos (by omega)]; exact At_bad s a w hs h x hx (by omega) (by omega)
    rw [if_neg h2]
    by_cases h2 : 240 ≤ (x.toNat : Int) ∧ (x.toNat : Int) < 248
    · rw [if_pos h2]
      by_cases h3 : a + 4 ≤ s.size
      · exact At_four s a w hs h x hx h2.1 h2.2 h3
      · unfold atTail; rw [if_pos (by omega)]; exact At_bad s a w hs h x hx (by omega) (by omega)
    rw [if_neg h2]
    exact At_bad s a w hs h x hx (by omega) (by omega)
  · rw [List.drop_eq_nil_of_le (by rw [← Lib.size_eq]; omega)]
    exact At_none s a w hs ha (by omega)

end Go.Proofs.YtgjiienipeoajaaGreatDoor

/- Plain Lean, no program: the reference's runes are the decoder's. -/
namespace Go.Proofs.YtgjiienipeoajaaGreatDoor

theorem get_mk (l : List UInt8) (k : Nat) : ((ByteArray.mk l.toArray).get! k) = l.getD k 0 := by
  show l.toArray[k]! = l.getD k 0
  rw [getElem!_def]
  simp only [List.getElem?_toArray, List.getD_eq_getElem?_getD]
  cases l[k]? <;> rfl

theorem decodeL_eq (l : List UInt8) : Lib.decodeL l = Lib.decodeN l.length (l.getD 0 0).toNat (l.getD 1 0).toNat (l.getD 2 0).toNat (l.getD 3 0).toNat := by
  unfold Lib.decodeL
  rw [Lib.decode_at]
  simp only [Nat.sub_zero, Nat.zero_add, get_mk]
  rfl

theorem contFold_zero (l : List UInt8) (r : Int) : contFold l 0 r = some r := by cases l <;> rfl
theorem contFold_nil (n : Nat) (r : Int) : contFold [] (n + 1) r = none := rfl

def goodAt (l : List UInt8) : Prop :=
  atSpec l = if (Lib.decodeL l).1 = 65533 ∧ (Lib.decodeL l).2 = 1 then (0, 0) else (((Lib.decodeL l).1 : Int), ((Lib.decodeL l).2 : Int))

theorem pair_eq {a b c d : Int} (h : a = c) (k : b = d) : (a, b) = (c, d) := by rw [h, k]

set_option maxHeartbeats 8000000 in
theorem atSpec_dec1 (a : UInt8) : goodAt [a] := by
  unfold goodAt
  rw [decodeL_eq]
  have ha := a.toNat_lt
  simp only [atSpec_cons, atTail, List.length_nil, List.length_cons, List.getD_cons_zero, Nat.zero_add]
  generalize a.toNat = x at ha ⊢
  unfold Lib.decodeN
  simp only [Nat.lt_irrefl, false_and, and_false, if_false]
  repeat' split
  all_goals first | rfl | (exfalso; omega) | (simp_all; done) | (simp_all; omega)

set_option maxHeartbeats 8000000 in
theorem atSpec_dec2 (a b : UInt8) : goodAt [a, b] := by
  unfold goodAt
  rw [decodeL_eq]
  have ha := a.toNat_lt
  have hb := b.toNat_lt
  simp only [atSpec_cons, atTail, List.length_nil, List.length_cons, List.getD_cons_zero, List.getD_cons_succ, Nat.zero_add, Nat.reduceAdd, Nat.reduceLT, if_false, if_true, Nat.reduceSub]
  rw [show contFold [b] 1 ((a.toNat : Int) - 192) = _ from contFold_cons b [] 0 _, contFold_zero]
  generalize a.toNat = x at ha ⊢
  generalize b.toNat = y at hb ⊢
  unfold Lib.decodeN atEnd
  simp only [Nat.lt_irrefl, false_and, and_false, if_false]
  repeat' split
  all_goals first | rfl | (exfalso; omega) | (apply pair_eq <;> omega) | (simp_all; done) | (simp_all; omega)

set_option maxHeartbeats 8000000 in
theorem atSpec_dec3 (a b c : UInt8) : goodAt [a, b, c] := by
  unfold goodAt
  rw [decodeL_eq]
  have ha := a.toNat_lt
  have hb := b.toNat_lt
  have hc := c.toNat_lt
  simp only [atSpec_cons, atTail, List.length_nil, List.length_cons, List.getD_cons_zero, List.getD_cons_succ, Nat.zero_add, Nat.reduceAdd, Nat.reduceLT, if_false, if_true, Nat.reduceSub]
  rw [show contFold [b, c] 1 ((a.toNat : Int) - 192) = _ from contFold_cons b [c] 0 _, contFold_zero,
    show contFold [b, c] 2 ((a.toNat : Int) - 224) = _ from contFold_cons b [c] 1 _, show contFold [c] 1 (64 * ((a.toNat : Int) - 224) + b.toNat - 128) = _ from contFold_cons c [] 0 _, contFold_zero]
  generalize a.toNat = x at ha ⊢
  generalize b.toNat = y at hb ⊢
  generalize c.toNat = z at hc ⊢
  unfold Lib.decodeN atEnd
  simp only [Nat.lt_irrefl, false_and, and_false, if_false]
  repeat' split
  all_goals first | rfl | (exfalso; omega) | (apply pair_eq <;> omega) | (simp_all; done) | (simp_all; omega)

set_option maxHeartbeats 8000000 in
theorem atSpec_dec4 (a b c d : UInt8) (r : List UInt8) : goodAt (a :: b :: c :: d :: r) := by
  unfold goodAt
  rw [decodeL_eq]
  have ha := a.toNat_lt
  have hb := b.toNat_lt
  have hc := c.toNat_lt
  have hd := d.toNat_lt
  rw [atSpec_cons]
  have l2 : ¬ (b :: c :: d :: r).length + 1 < 2 := by simp
  have l3 : ¬ (b :: c :: d :: r).length + 1 < 3 := by simp
  have l4 : ¬ (b :: c :: d :: r).length + 1 < 4 := by simp
  have e2 : atTail (b :: c :: d :: r) 2 ((a.toNat : Int) - 192) 128 = atEnd (if (b.toNat : Int) < 128 ∨ 192 ≤ (b.toNat : Int) then none else some (64 * ((a.toNat : Int) - 192) + b.toNat - 128)) 2 128 := by
    unfold atTail
    rw [if_neg l2, show (2 - 1 : Nat) = 0 + 1 from rfl, contFold_cons, contFold_zero]
  have e3 : atTail (b :: c :: d :: r) 3 ((a.toNat : Int) - 224) 2048 = atEnd (if (b.toNat : Int) < 128 ∨ 192 ≤ (b.toNat : Int) then none else if (c.toNat : Int) < 128 ∨ 192 ≤ (c.toNat : Int) then none else some (64 * (64 * ((a.toNat : Int) - 224) + b.toNat - 128) + c.toNat - 128)) 3 2048 := by
    unfold atTail
    rw [if_neg l3, show (3 - 1 : Nat) = 1 + 1 from rfl, contFold_cons, show (1 : Nat) = 0 + 1 from rfl, contFold_cons, contFold_zero]
  have e4 : atTail (b :: c :: d :: r) 4 ((a.toNat : Int) - 240) 65536 = atEnd (if (b.toNat : Int) < 128 ∨ 192 ≤ (b.toNat : Int) then none else if (c.toNat : Int) < 128 ∨ 192 ≤ (c.toNat : Int) then none else if (d.toNat : Int) < 128 ∨ 192 ≤ (d.toNat : Int) then none else some (64 * (64 * (64 * ((a.toNat : Int) - 240) + b.toNat - 128) + c.toNat - 128) + d.toNat - 128)) 4 65536 := by
    unfold atTail
    rw [if_neg l4, show (4 - 1 : Nat) = 2 + 1 from rfl, contFold_cons, show (2 : Nat) = 1 + 1 from rfl, contFold_cons, show (1 : Nat) = 0 + 1 from rfl, contFold_cons, contFold_zero]
  rw [e2, e3, e4]
  clear e2 e3 e4 l2 l3 l4
  have hl : 3 < (a :: b :: c :: d :: r).length := by simp
  generalize (a :: b :: c :: d :: r).length = n at hl
  simp only [List.getD_cons_zero, List.getD_cons_succ]
  generalize a.toNat = x at ha ⊢
  generalize b.toNat = y at hb ⊢
  generalize c.toNat = z at hc ⊢
  generalize d.toNat = u at hd ⊢
  unfold Lib.decodeN
  by_cases b1 : (y : Int) < 128 ∨ 192 ≤ (y : Int)
  · simp only [if_pos b1]
    unfold atEnd
    repeat' split
    all_goals first | rfl | (exfalso; omega) | (apply pair_eq <;> omega) | (simp_all; done) | (simp_all; omega)
  simp only [if_neg b1]
  by_cases b2 : (z : Int) < 128 ∨ 192 ≤ (z : Int)
  · simp only [if_pos b2]
    unfold atEnd
    repeat' split
    all_goals first | rfl | (exfalso; omega) | (apply pair_eq <;> omega) | (simp_all; done) | (simp_all; omega)
  simp only [if_neg b2]
  by_cases b3 : (u : Int) < 128 ∨ 192 ≤ (u : Int)
  · simp only [if_pos b3]
    unfold atEnd
    repeat' split
    all_goals first | rfl | (exfalso; omega) | (apply pair_eq <;> omega) | (simp_all; done) | (simp_all; omega)
  simp only [if_neg b3]
  unfold atEnd
  repeat' split
  all_goals first | rfl | (exfalso; omega) | (apply pair_eq <;> omega) | (simp_all; done) | (simp_all; omega)

theorem atSpec_dec (l : List UInt8) (h : l ≠ []) : goodAt l :=
  match l, h with
  | [a], _ => atSpec_dec1 a
  | [a, b], _ => atSpec_dec2 a b
  | [a, b, c], _ => atSpec_dec3 a b c
  | a :: b :: c :: d :: r, _ => atSpec_dec4 a b c d r

end Go.Proofs.YtgjiienipeoajaaGreatDoor

/- The reference's Valid, and why it holds a value for one that may not be. -/
namespace Go.Proofs.YtgjiienipeoajaaGreatDoor
open Go.RowKit

theorem validGoD_more : ∀ (n m : Nat) (l : List UInt8), l.length ≤ n → l.length ≤ m → Lib.validGoD n l = Lib.validGoD m l
  | 0, m, l, hn, hm => by
    obtain rfl : l = [] := List.eq_nil_of_length_eq_zero (by omega)
    cases m <;> simp [Lib.validGoD]
  | n + 1, 0, l, hn, hm => by
    obtain rfl : l = [] := List.eq_nil_of_length_eq_zero (by omega)
    simp [Lib.validGoD]
  | n + 1, m + 1, l, hn, hm => by
    simp only [Lib.validGoD]
    by_cases h : l = []
    · simp [h]
    · rw [if_neg h, if_neg h]
      split
      · rfl
      · have hw := Lib.decodeL_width l
        have hl : 0 < l.length := List.length_pos_iff.2 h
        exact validGoD_more n m _ (by rw [List.length_drop]; omega) (by rw [List.length_drop]; omega)

theorem validD_step {l : List UInt8} (h : l ≠ []) : Lib.validD l = if (Lib.decodeL l).1 = 65533 ∧ (Lib.decodeL l).2 = 1 then false else Lib.validD (l.drop (Lib.decodeL l).2) := by
  have hw := Lib.decodeL_width l
  have hl : 0 < l.length := List.length_pos_iff.2 h
  unfold Lib.validD
  obtain ⟨n, hn⟩ : ∃ n, l.length = n + 1 := ⟨l.length - 1, by omega⟩
  rw [hn]
  simp only [Lib.validGoD]
  rw [if_neg h]
  split
  · rfl
  · exact validGoD_more _ _ _ (by rw [List.length_drop]; omega) (Nat.le_refl _)

/-- A step of the reference's runes. -/
theorem validD_at {l : List UInt8} (h : l ≠ []) : ((atSpec l).2 = 0 ∧ Lib.validD l = false) ∨ (∃ n : Nat, (atSpec l).2 = (n : Int) ∧ 1 ≤ n ∧ n ≤ l.length ∧ Lib.validD l = Lib.validD (l.drop n)) := by
  have hg := atSpec_dec l h
  unfold goodAt at hg
  rw [validD_step h]
  by_cases hb : (Lib.decodeL l).1 = 65533 ∧ (Lib.decodeL l).2 = 1
  · rw [if_pos hb] at hg ⊢
    rw [hg]
    exact .inl ⟨rfl, rfl⟩
  · rw [if_neg hb] at hg ⊢
    rw [hg]
    have hw := Lib.decodeL_width l
    exact .inr ⟨(Lib.decodeL l).2, rfl, hw, Lib.decodeL_le l h, rfl⟩

set_option maxHeartbeats 1000000 in
/-- commonplaceref01.Valid -/
theorem RValid_calls (s : ByteArray) (w : World) (hs : s.size ≤ 1000000000) :
    Calls Tryz.prog 35 #[.string s] w fun e w' => e = .returned (.bool (validB s)) ∧ w = w' := by
  obtain ⟨V, hV⟩ : ∃ V, validB s = V := ⟨_, rfl⟩
  rw [hV]
  have H0 := Lib.hid hV
  clear hV
  go_enter Tryz.func35, Tryz.ntmps35
  go_wp2
  go_loop [3] (fun i => ∃ k : Nat, k ≤ s.size ∧ i = .int .i64 k ∧ Hid (Lib.validD (s.data.toList.drop k) = V)) (fun i => s.size - (intOf i).toNat)
  case atStart => exact ⟨0, Nat.zero_le _, rfl, H0⟩
  case round =>
    obtain ⟨k, hk, rfl, hf⟩ := hrel
    clear H0
    by_cases hlt : k < s.size
    · have hne : s.data.toList.drop k ≠ [] := by
        intro e
        have := congrArg List.length e
        rw [List.length_drop, ← Lib.size_eq] at this
        simp at this
        omega
      have hA := At_calls s k w (by omega) (by omega)
      rcases validD_at hne with ⟨h0, hv⟩ | ⟨n, hn, hn1, hn2, hv⟩
      · have hf' := hf.out
        rw [hv] at hf'
        subst hf'
        rw [h0] at hA
        generalize (atSpec (s.data.toList.drop k)).1 = R at hA
        have HA := Lib.hid hA
        clear hA h0 hv hne hf
        go_wp2_with (go_at_call 65; refine (HA.out).mono ?_; rintro e w' ⟨rfl, rfl⟩)
        go_ret
        exact ⟨rfl, rfl⟩
      · have hf' := hf.out
        rw [hv, List.drop_drop] at hf'
        have Hf := Lib.hid hf'
        rw [hn] at hA
        rw [List.length_drop, ← Lib.size_eq] at hn2
        generalize (atSpec (s.data.toList.drop k)).1 = R at hA
        have HA := Lib.hid hA
        clear hA hn hv hne hf hf'
        have e0 : ((n : Int) == 0) = false := by simp; omega
        go_wp2_with (go_at_call 65; refine (HA.out).mono ?_; rintro e w' ⟨rfl, rfl⟩)
        go_round
        case rel => exact ⟨k + n, by omega, by go_num, Hf⟩
        case measure => simp [intOf]; omega
    · obtain rfl : k = s.size := by omega
      have hf' := hf.out
      rw [List.drop_eq_nil_of_le (by rw [← Lib.size_eq]; omega)] at hf'
      have : V = true := by rw [← hf']; rfl
      subst this
      clear hf hf'
      go_wp2
      go_ret
      exact ⟨rfl, rfl⟩

end Go.Proofs.YtgjiienipeoajaaGreatDoor

/- Rows of values, cell by cell. No condition. -/
namespace Go.Proofs.YtgjiienipeoajaaGreatDoor
open Go.RowKit

/-- These cells are those of these values, one behind the other. -/
def RowL (w : World) (B : Nat) : List Val → List Value → Prop
  | [], ns => ns = []
  | v :: r, ns => ∃ cs rest, ns = cs ++ rest ∧ HoldsV w B v cs ∧ RowL w B r rest

theorem HoldsV.len {w : World} {B : Nat} {v : Val} {cs : List Value} (h : HoldsV w B v cs) : cs.length = 6 ∧ ∀ u ∈ cs, u.oneCell' = true := by
  obtain ⟨k, b, n, t, l, o⟩ := v
  simp only [HoldsV] at h
  obtain ⟨la, lc, oa, oc, rfl, _, _⟩ := h
  refine ⟨rfl, fun u hu => ?_⟩
  simp only [List.mem_cons, List.not_mem_nil, or_false] at hu
  rcases hu with rfl | rfl | rfl | rfl | rfl | rfl <;> rfl
theorem RowL.len {w : World} {B : Nat} : ∀ {l : List Val} {ns : List Value}, RowL w B l ns → ns.length = l.length * 6 ∧ ∀ u ∈ ns, u.oneCell' = true
  | [], ns, h => by
    have : ns = [] := h
    subst this
    exact ⟨rfl, fun u hu => by cases hu⟩
  | v :: r, ns, h => by
    obtain ⟨cs, rest, rfl, h1, h2⟩ := h
    obtain ⟨a1, a2⟩ := h1.len
    obtain ⟨b1, b2⟩ := RowL.len h2
    refine ⟨by rw [List.length_append, a1, b1, List.length_cons]; omega, fun u hu => ?_⟩
    rcases List.mem_append.1 hu with hu | hu
    · exact a2 u hu
    · exact b2 u hu
theorem HoldsL.row {w : World} {B : Nat} : ∀ {l : List Val} {g off : Nat}, HoldsL w B l g off → ∃ ns, RowL w B l ns ∧ ∀ j u, ns[j]? = some u → w.cell? ⟨g, off + j, none⟩ = some u
  | [], _, _, _ => ⟨[], rfl, fun j u h => by simp at h⟩
  | v :: r, g, off, h => by
    simp only [HoldsL] at h
    obtain ⟨⟨cs, h1, h2⟩, h3⟩ := h
    obtain ⟨ns, h4, h5⟩ := HoldsL.row h3
    refine ⟨cs ++ ns, ⟨cs, ns, rfl, h1, h4⟩, fun j u hu => ?_⟩
    have hl := h1.len.1
    by_cases hj : j < 6
    · rw [List.getElem?_append_left (by omega)] at hu
      exact h2 j u hu
    · rw [List.getElem?_append_right (by omega), hl] at hu
      have := h5 (j - 6) u hu
      rwa [show off + 6 + (j - 6) = off + j from by omega] at this
theorem RowL.holds {w w' : World} {B B' : Nat} (hk : ∀ v cs, HoldsV w B v cs → HoldsV w' B' v cs) {g : Nat} : ∀ {l : List Val} {ns : List Value} {off : Nat}, RowL w B l ns → (∀ j u, ns[j]? = some u → w'.cell? ⟨g, off + j, none⟩ = some u) → HoldsL w' B' l g off
  | [], _, _, _, _ => by simp [HoldsL]
  | v :: r, ns, off, h, hc => by
    obtain ⟨cs, rest, rfl, h1, h2⟩ := h
    have hl := h1.len.1
    simp only [HoldsL]
    refine ⟨⟨cs, hk v cs h1, fun j u hu => hc j u ?_⟩, RowL.holds hk h2 (fun j u hu => ?_)⟩
    · have := (List.getElem?_eq_some_iff.1 hu).1
      rw [List.getElem?_append_left this]
      exact hu
    · rw [show off + 6 + j = off + (6 + j) from by omega]
      refine hc (6 + j) u ?_
      rw [List.getElem?_append_right (by omega), hl, show 6 + j - 6 = j from by omega]
      exact hu
theorem RowL.snoc {w : World} {B : Nat} {v : Val} {cs : List Value} (hv : HoldsV w B v cs) : ∀ {l : List Val} {ns : List Value}, RowL w B l ns → RowL w B (l ++ [v]) (ns ++ cs)
  | [], ns, h => by
    have : ns = [] := h
    subst this
    exact ⟨cs, [], by simp, hv, rfl⟩
  | x :: r, ns, h => by
    obtain ⟨c1, rest, rfl, h1, h2⟩ := h
    exact ⟨c1, rest ++ cs, by simp, h1, RowL.snoc hv h2⟩

/-- The values at once within one. -/
def within : Val → List Val
  | .mk k _ _ _ l o => if k = 5 then l else if k = 6 then o.map (·.2) else []

end Go.Proofs.YtgjiienipeoajaaGreatDoor

/- Why a value may not be: the reference's function. Condition: a bulk of at most 10^9. -/
namespace Go.Proofs.YtgjiienipeoajaaGreatDoor
open Go.RowKit

theorem bare_calls2 {k : Int} {b : Bool} {n : Int} {t : ByteArray} {la oa : Option Addr} {ln lc on oc : Nat} {B : Bool} (h : oddB k b n t ln on = B) (w : World) :
  Calls Tryz.prog 64 #[.agg #[.int .i64 k, .bool b, .int .i64 n, .string t, .slice la ln lc, .slice oa on oc]] w fun e w' => e = .returned (.bool (!B)) ∧ Below w.heap.size w w' := by
  subst h
  exact bare_calls _ _ _ _ _ _ _ _ _ _ _

theorem RValid_calls2 {s : ByteArray} {B : Bool} (h : validB s = B) (w : World) (hs : s.size ≤ 1000000000) :
    Calls Tryz.prog 35 #[.string s] w fun e w' => e = .returned (.bool B) ∧ w = w' := by
  subst h
  exact RValid_calls _ _ hs

def MayRC (v : Val) : Prop := ∀ (cs : List Value) (d : Int) (w : World), HoldsV w w.heap.size v cs → v.bulk ≤ 1000000000 → 0 ≤ d → d ≤ 65 →
    Calls Tryz.prog 34 #[.agg cs.toArray, .int .i64 d] w fun e w' => e = .returned (.int .i64 (mayV v d)) ∧ Below w.heap.size w w'

set_option maxHeartbeats 2000000 in
theorem mayR_list (k : Int) (b : Bool) (n : Int) (t : ByteArray) (l : List Val) (la oa : Option Addr) (lc oc : Nat) (d : Int) (w : World) (g off : Nat) (hla : l = [] ∨ (la = some ⟨g, off, none⟩ ∧ g < w.heap.size ∧ HoldsL w w.heap.size l g off))
    (hb : bulkL l + t.size ≤ 1000000000) (h0 : 0 ≤ d) (h64 : d ≤ 64) (IH : ∀ v ∈ l, MayRC v) (hodd : oddB k b n t l.length 0 = false) (hval : validB t = true) :
    Calls Tryz.prog 34 #[.agg #[.int .i64 k, .bool b, .int .i64 n, .string t, .slice la l.length lc, .slice oa 0 oc], .int .i64 d] w fun e w' => e = .returned (.int .i64 (mayL l (d + 1))) ∧ Below w.heap.size w w' := by
  have hlen : l.length ≤ 1000000000 := by have := bulkL_len l; omega
  have h64' : ¬ (64 < d) := by omega
  have H : Hid (mayL (l.drop 0) (d + 1) = mayL l (d + 1)) := by rw [List.drop_zero]; exact rfl
  go_enter Tryz.func34, Tryz.ntmps34
  go_wp2_with (first | (go_at_call 64; refine (bare_calls2 hodd _).mono ?_; rintro e w1 ⟨rfl, hb1⟩; obtain ⟨hc1, hf1⟩ := bcell hb1; have hz1 := hb1.size; simp only [World.size_alloc] at hz1; have hbw1 : Below w.heap.size w w1 := ((Below.refl _ _).alloc (Nat.le_refl _) _).trans (hb1.mono (by simp)); have hbox1 : w1.heap[w.heap.size]? = some (.cells #[.int .i64 k, .bool b, .int .i64 n, .string t, .slice la l.length lc, .slice oa 0 oc] 26 (0, 0)) := (hb1.block _ (by simp)).trans (heap_alloc_new _ _)) | (go_at_call 35; refine (RValid_calls2 hval _ (by omega)).mono ?_; rintro e w2 ⟨rfl, rfl⟩))
  clear hb1 hodd hc1 hf1 hz1
  go_loopw [5] (fun i wr => ∃ j : Nat, j ≤ l.length ∧ i = .int .i64 j ∧ Hid (mayL (l.drop j) (d + 1) = mayL l (d + 1)) ∧ Below w.heap.size w wr ∧ wr.heap[w.heap.size]? = some (.cells #[.int .i64 k, .bool b, .int .i64 n, .string t, .slice la l.length lc, .slice oa 0 oc] 26 (0, 0))) (fun i _ => l.length - (intOf i).toNat)
  case atStart => exact ⟨0, Nat.zero_le _, rfl, H, hbw1, hbox1⟩
  case round =>
    obtain ⟨j, hj, rfl, hm, hbw, hbox⟩ := hrel
    clear H hbw1 hbox1
    have hbx : w.heap.size < wr.heap.size := (Array.getElem?_eq_some_iff.1 hbox).1
    have b4 : wr.cell? ⟨w.heap.size, 4, none⟩ = some (.slice la l.length lc) := by rw [Lib.cell_of_heap hbox]; rfl
    have b5 : wr.cell? ⟨w.heap.size, 5, none⟩ = some (.slice oa 0 oc) := by rw [Lib.cell_of_heap hbox]; rfl
    by_cases hlt : j < l.length
    · obtain ⟨rfl, hg, hL⟩ : la = some ⟨g, off, none⟩ ∧ g < w.heap.size ∧ HoldsL w w.heap.size l g off := by
        rcases hla with rfl | h
        · simp at hlt
        · exact h
      obtain ⟨v, hv⟩ : ∃ v, l[j]? = some v := ⟨_, List.getElem?_eq_getElem hlt⟩
      have hdrop : l.drop j = v :: l.drop (j + 1) := drop_of_get hv
      have hmem : v ∈ l := List.mem_of_getElem? hv
      have hbv := bulkL_mem hmem
      have IHv := Lib.hid (IH v hmem)
      have hm' := hm.out
      rw [hdrop] at hm'
      simp only [mayL] at hm'
      clear hm hdrop hmem IH
      obtain ⟨m, hmv⟩ : ∃ m, mayV v (d + 1) = m := ⟨_, rfl⟩
      rw [hmv] at hm'
      have Hmv := Lib.hid hmv
      clear hmv
      obtain ⟨k', b', n', t', l', o'⟩ := v
      obtain ⟨la', lc', oa', oc', hvs, c0, c1, c2, c3, c4, c5⟩ := (hL.below hg hbw).six hv
      clear hla hL hv
      have hz := hbw.size
      by_cases hm0 : m = 0
      · rw [if_pos hm0] at hm'
        subst hm0
        have Hk := Lib.hid hm'
        clear hm'
        go_wp2_with (go_at_call 34; refine (IHv.out _ (d + 1) _ (HoldsV.more (by omega) _ _ hvs) (by omega) (by omega) (by omega)).mono ?_; rintro e w2 ⟨he, hb2⟩; rw [Hmv.out] at he; subst he; have hbw2 : Below w.heap.size w w2 := hbw.trans (hb2.mono hz); have hbox2 := (hb2.block _ hbx).trans hbox)
        go_roundw
        case rel => exact ⟨j + 1, by omega, by go_num, Hk, hbw2, hbox2⟩
        case measure => simp [intOf]; omega
      · rw [if_neg hm0] at hm'
        have Hk := Lib.hid hm'
        clear hm'
        have hm1 : (m == 0) = false := by simpa using hm0
        have hm2 : (m != 0) = true := by simpa using hm0
        go_wp2_with (go_at_call 34; refine (IHv.out _ (d + 1) _ (HoldsV.more (by omega) _ _ hvs) (by omega) (by omega) (by omega)).mono ?_; rintro e w2 ⟨he, hb2⟩; rw [Hmv.out] at he; subst he; have hbw2 : Below w.heap.size w w2 := hbw.trans (hb2.mono hz))
        go_ret
        exact ⟨by rw [← Hk.out]; rfl, hbw2⟩
    · obtain rfl : j = l.length := by omega
      have hm' := hm.out
      rw [List.drop_length] at hm'
      have Hm := Lib.hid hm'
      clear hm hm'
      go_wp2
      go_loopw [8] (fun i wx => i = .int .i64 0 ∧ wx = wr) (fun _ _ => 0)
      case atStart => exact ⟨rfl, rfl⟩
      case round =>
        obtain ⟨rfl, rfl⟩ := hrel
        go_wp2
        go_ret
        exact ⟨by rw [← Hm.out]; rfl, hbw⟩

end Go.Proofs.YtgjiienipeoajaaGreatDoor
