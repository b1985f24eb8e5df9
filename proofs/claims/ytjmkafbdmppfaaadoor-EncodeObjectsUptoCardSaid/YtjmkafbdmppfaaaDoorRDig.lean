/- commonplaceref03.digits: an Int's digits. No condition. -/
import Derived.Test.YtjmkafbdmppfaaaDoorProg
import Derived.WalkKit
import Derived.Below
import Derived.Lib.ItoaLen
import Derived.Lib.Hide
import Derived.IntWalk
namespace Go.Proofs.YtjmkafbdmppfaaaDoor
open Go.RowKit

/-- A digit's letter. -/
def dgt (d : Nat) : UInt8 := UInt8.ofNat (48 + d)

def digs (u : Nat) : List UInt8 := if h : u = 0 then [] else digs (u / 10) ++ [dgt (u % 10)]
termination_by u
decreasing_by omega

theorem digs_zero : digs 0 = [] := by rw [digs, dif_pos rfl]
theorem digs_pos {u : Nat} (h : u ≠ 0) : digs u = digs (u / 10) ++ [dgt (u % 10)] := by rw [digs, dif_neg h]
theorem digs_dec (u : Nat) : u ≠ 0 → digs u = Lib.decDigits u := by
  induction u using Nat.strongRecOn with
  | _ u ih =>
    intro h
    rw [digs_pos h, Lib.decDigits]
    unfold dgt
    by_cases h10 : u < 10
    · rw [dif_pos h10, show u / 10 = 0 from by omega, digs_zero, show u % 10 = u from by omega, List.nil_append]
    · rw [dif_neg h10, ih (u / 10) (by omega) (by omega)]
theorem digs_len {u : Nat} (h : (u : Int) ≤ 9223372036854775808) : (digs u).length ≤ 30 := by
  by_cases h0 : u = 0
  · subst h0; rw [digs_zero]; simp
  · rw [digs_dec u h0, Lib.decDigits_length]
    exact Nat.le_trans (Lib.nDigits_le20 u (by omega)) (by omega)

theorem run_cut (S : ByteArray) (d e : Nat) (hd : d ≤ e) (he : e ≤ S.size) (w : World) : (Instr.slice 9 (.string S) (some (.int .i64 d)) (some (.int .i64 e)) none).run Tryd.prog w = .ok (.string (S.extract d e)) w := by
  simp [Instr.slice, run_underlying Tryd.underlying9, Instr.sliceBounds, go_sem, hd, he]
theorem digit_at : ∀ d : Fin 10, (⟨#[48, 49, 50, 51, 52, 53, 54, 55, 56, 57]⟩ : ByteArray).extract d.val (d.val + 1) = ⟨#[dgt d.val]⟩ := by decide
theorem run_digit (d : Nat) (hd : d < 10) (w : World) : (Instr.slice 9 (.string ⟨#[48, 49, 50, 51, 52, 53, 54, 55, 56, 57]⟩) (some (.int .i64 d)) (some (.int .i64 ((d : Int) + 1))) none).run Tryd.prog w = .ok (.string ⟨#[dgt d]⟩) w := by
  have := run_cut ⟨#[48, 49, 50, 51, 52, 53, 54, 55, 56, 57]⟩ d (d + 1) (by omega) (by show d + 1 ≤ 10; omega) w
  rw [digit_at ⟨d, hd⟩] at this
  exact this

set_option maxRecDepth 20000 in
set_option maxHeartbeats 1000000 in
theorem digits_pos (a : Nat) (ha : a ≠ 0) (hm : (a : Int) ≤ 9223372036854775807) (w : World) :
    Calls Tryd.prog 29 #[.int .i64 a] w fun e w' => e = .returned (.string ⟨(Lib.itoa a).toArray⟩) ∧ w = w' := by
  have hi : Lib.itoa a = digs a := by
    rw [digs_dec a ha, Lib.itoa, if_neg (by omega)]; simp
  rw [hi]
  have hl := digs_len (u := a) (by omega)
  have H0 : Hid (digs a ++ (⟨#[]⟩ : ByteArray).data.toList = digs a) := by show _ = _; simp
  clear hi
  go_enter Tryd.func29, Tryd.ntmps29
  have ha1 : ((a : Int) == 0) = false := by simp; omega
  go_wp2
  go_loop [3, 4] (fun s m => ∃ (T : ByteArray) (u : Nat), s = .string T ∧ m = .int .i64 u ∧ u ≤ a ∧ Hid (digs u ++ T.data.toList = digs a)) (fun _ m => (intOf m).toNat)
  case atStart => exact ⟨_, a, rfl, rfl, Nat.le_refl _, H0⟩
  case round =>
    obtain ⟨T, u, rfl, rfl, hu, hT⟩ := hrel
    clear H0
    have hTs : T.size ≤ 30 := by
      have h1 := congrArg List.length hT.out
      rw [List.length_append] at h1
      have h2 : T.data.toList.length = T.size := by rw [Array.length_toList]; rfl
      omega
    by_cases hu0 : u = 0
    · subst hu0
      have hT' := hT.out
      rw [digs_zero, List.nil_append] at hT'
      have hE : (⟨(digs a).toArray⟩ : ByteArray) = T := by rw [← hT']
      have HE := Lib.hid hE
      clear hT hT' hE ha1 hl
      have h0 : ((a : Int) < 0) = False := by simp
      go_wp2
      go_ret
      exact ⟨by rw [HE.out]; rfl, rfl⟩
    · have hu1 : ((u : Int) == 0) = false := by simp; omega
      have hT' : Hid (digs (u / 10) ++ ((⟨#[dgt (u % 10)]⟩ : ByteArray) ++ T).data.toList = digs a) := by
        have := hT.out
        rw [digs_pos hu0] at this
        show _ = _
        rw [← this, ByteArray.data_append, Array.toList_append]
        simp
      have hd := run_digit (u % 10) (by omega) w
      have hm10 : (u : Int) % 10 = ((u % 10 : Nat) : Int) := by omega
      have hq10 : (u : Int) / 10 = ((u / 10 : Nat) : Int) := by omega
      have hlt : u % 10 < 10 := by omega
      have hqu : u / 10 < u := by omega
      generalize u % 10 = d at *
      generalize u / 10 = q at *
      have hdn : decide ((d : Int) < 0) = false := by simp
      clear hT ha1 hl
      go_wp2
      go_round
      case rel => exact ⟨_, q, rfl, rfl, by omega, hT'⟩
      case measure => simp [intOf]; omega

set_option maxRecDepth 20000 in
set_option maxHeartbeats 1000000 in
theorem digits_neg (a : Nat) (ha : a ≠ 0) (hm : (a : Int) ≤ 9223372036854775808) (n : Int) (hn : n = -(a : Int)) (w : World) :
    Calls Tryd.prog 29 #[.int .i64 n] w fun e w' => e = .returned (.string ⟨(Lib.itoa n).toArray⟩) ∧ w = w' := by
  have hi : Lib.itoa n = 45 :: digs a := by
    rw [digs_dec a ha, Lib.itoa, if_pos (by omega), hn]; simp
  rw [hi]
  have hl := digs_len (u := a) (by omega)
  have H0 : Hid (digs a ++ (⟨#[]⟩ : ByteArray).data.toList = digs a) := by show _ = _; simp
  have Hn := Lib.hid hn
  have hn1 : (n == 0) = false := by simp; omega
  have hn2 : n < 0 := by omega
  clear hi hn
  go_enter Tryd.func29, Tryd.ntmps29
  go_wp2
  go_loop [3, 4] (fun s m => ∃ (T : ByteArray) (M : Int) (u : Nat), s = .string T ∧ m = .int .i64 M ∧ Hid (M = -(u : Int)) ∧ u ≤ a ∧ Hid (digs u ++ T.data.toList = digs a)) (fun _ m => (-(intOf m)).toNat)
  case atStart => exact ⟨_, n, a, rfl, rfl, Hn, Nat.le_refl _, H0⟩
  case round =>
    obtain ⟨T, M, u, rfl, rfl, hM, hu, hT⟩ := hrel
    clear H0
    have hTs : T.size ≤ 30 := by
      have h1 := congrArg List.length hT.out
      rw [List.length_append] at h1
      have h2 : T.data.toList.length = T.size := by rw [Array.length_toList]; rfl
      omega
    have hMu := hM.out
    by_cases hu0 : u = 0
    · subst hu0
      obtain rfl : M = 0 := by simpa using hMu
      have hT' := hT.out
      rw [digs_zero, List.nil_append] at hT'
      have hE : (⟨(45 :: digs a).toArray⟩ : ByteArray) = ⟨#[45]⟩ ++ T := by
        apply ByteArray.ext
        rw [ByteArray.data_append]
        apply Array.ext'
        rw [Array.toList_append, hT']
        simp
      have HE := Lib.hid hE
      clear hT hT' hE hn1 hl hM hMu
      go_wp2
      go_ret
      exact ⟨by rw [HE.out]; rfl, rfl⟩
    · have hT' : Hid (digs (u / 10) ++ ((⟨#[dgt (u % 10)]⟩ : ByteArray) ++ T).data.toList = digs a) := by
        have := hT.out
        rw [digs_pos hu0] at this
        show _ = _
        rw [← this, ByteArray.data_append, Array.toList_append]
        simp
      have hM1 : (M == 0) = false := by simp; omega
      have hM2 : -9223372036854775808 ≤ M := by omega
      have hM3 : M < 0 := by omega
      have hd := run_digit (u % 10) (by omega) w
      obtain ⟨D, hD⟩ : ∃ D, M.tmod 10 = D := ⟨_, rfl⟩
      obtain ⟨Q, hQ⟩ : ∃ Q, M.tdiv 10 = Q := ⟨_, rfl⟩
      have hD' : D = -((u % 10 : Nat) : Int) := by
        rw [← hD, hMu, Int.neg_tmod, Int.tmod_eq_emod_of_nonneg (by omega)]; omega
      have hQ' : Q = -((u / 10 : Nat) : Int) := by
        rw [← hQ, hMu, Int.neg_tdiv, Int.tdiv_eq_ediv_of_nonneg (by omega)]; omega
      have hlt : u % 10 < 10 := by omega
      have hqu : u / 10 < u := by omega
      generalize u % 10 = d at *
      generalize u / 10 = q at *
      have HQ := Lib.hid hQ'
      have hMQ : M < Q := by omega
      have hQ1 : -9223372036854775808 ≤ Q := by omega
      have hQ2 : Q ≤ 0 := by omega
      have hQ3 : Q ≤ 9223372036854775807 := by omega
      by_cases hd0 : d = 0
      · subst hd0
        obtain rfl : D = 0 := by simpa using hD'
        have hd1 : (Instr.slice 9 (.string ⟨#[48, 49, 50, 51, 52, 53, 54, 55, 56, 57]⟩) (some (.int .i64 0)) (some (.int .i64 1)) none).run Tryd.prog w = .ok (.string ⟨#[dgt 0]⟩) w := hd
        clear hT hn1 hl hM hD' hQ' hMu hd
        go_wp2
        go_round
        case rel => exact ⟨_, Q, q, rfl, rfl, HQ, by omega, hT'⟩
        case measure => simp only [intOf]; omega
      · have hDn : D < 0 := by omega
        have hDb : -10 < D := by omega
        have hDd : -D = (d : Int) := by omega
        clear hT hn1 hl hM hD' hQ'
        clear hMu
        go_wp2
        go_round
        case rel => exact ⟨_, Q, q, rfl, rfl, HQ, by omega, hT'⟩
        case measure => simp only [intOf]; omega

/-- commonplaceref03.digits -/
theorem digits_calls (n : Int) (h1 : -9223372036854775808 ≤ n) (h2 : n ≤ 9223372036854775807) (w : World) :
    Calls Tryd.prog 29 #[.int .i64 n] w fun e w' => e = .returned (.string ⟨(Lib.itoa n).toArray⟩) ∧ w = w' := by
  by_cases h0 : n = 0
  · subst h0
    have e : (⟨(Lib.itoa 0).toArray⟩ : ByteArray) = ⟨#[48]⟩ := by
      have : Lib.itoa 0 = [48] := by
        rw [Lib.itoa, if_neg (by omega)]
        exact Lib.decDigits_one (i := 0) (by omega)
      rw [this]
    rw [e]
    go_enter Tryd.func29, Tryd.ntmps29
    go_wp2
    go_ret
    exact ⟨rfl, rfl⟩
  · rcases Int.lt_or_le n 0 with h | h
    · exact digits_neg n.natAbs (by omega) (by omega) n (by omega) w
    · have := digits_pos n.toNat (by omega) (by omega) w
      rwa [show ((n.toNat : Nat) : Int) = n from by omega] at this

end Go.Proofs.YtjmkafbdmppfaaaDoor
