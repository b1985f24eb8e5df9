/- How the reference writes a rune, against how the program does. Plain. No condition. -/
import Derived.Test.YtjmkafbdmppfaaaDoorProg
import Derived.Test.YtjmkafbdmppfaaaDoorRRun
import Derived.Test.YtjmkafbdmppfaaaDoorRCode
import Derived.Test.YtjmkafbdmppfaaaDoorRByt
import Derived.Test.YtjmkafbdmppfaaaDoorRDig
import Derived.Test.YtjmkafbdmppfaaaDoorOwn
namespace Go.Proofs.YtjmkafbdmppfaaaDoor
open Go.RowKit

/-- The escapes' letters. -/
def letTab : List UInt8 := [34, 92, 47, 98, 102, 110, 114, 116]

theorem quoteRune_let : ∀ j : Fin 8, j.val ≠ 2 → quoteRune ((codeTab.getD j.val 0).toNat) = [92, letTab.getD j.val 0] := by decide

/-- No escape of one letter. -/
def NoLet (r : Nat) (j : Nat) : Prop := ∀ i : Nat, i < j → i ≠ 2 → codeTab.getD i 0 ≠ (r : Int)

theorem NoLet.all {r : Nat} (h : NoLet r 8) : r ≠ 34 ∧ r ≠ 92 ∧ r ≠ 8 ∧ r ≠ 12 ∧ r ≠ 10 ∧ r ≠ 13 ∧ r ≠ 9 := by
  have h0 := h 0 (by omega) (by omega)
  have h1 := h 1 (by omega) (by omega)
  have h3 := h 3 (by omega) (by omega)
  have h4 := h 4 (by omega) (by omega)
  have h5 := h 5 (by omega) (by omega)
  have h6 := h 6 (by omega) (by omega)
  have h7 := h 7 (by omega) (by omega)
  simp [codeTab] at h0 h1 h3 h4 h5 h6 h7
  omega

theorem quoteRune_no {r : Nat} (h : NoLet r 8) : quoteRune r = if r < 32 then [92, 117, 48, 48, hexd (r / 16), hexd (r % 16)] else Lib.encodeRune r := by
  obtain ⟨a1, a2, a3, a4, a5, a6, a7⟩ := h.all
  unfold quoteRune
  by_cases h32 : r < 32
  · rw [if_neg (by omega), if_pos h32]
    have : findKV (r : Int) letterTab = none := by
      simp only [letterTab, findKV]
      repeat rw [if_neg (by omega)]
    rw [this]
  · rw [if_pos (by omega), if_neg h32]

theorem NoLet.step {r j : Nat} (h : NoLet r j) (hj : j = 2 ∨ codeTab.getD j 0 ≠ (r : Int)) : NoLet r (j + 1) := by
  intro i hi h2
  by_cases he : i = j
  · subst he
    rcases hj with hj | hj
    · exact absurd hj h2
    · exact hj
  · exact h i (by omega) h2

/-- What a rune of a text is. -/
def scalar (r : Nat) : Prop := r ≤ 1114111 ∧ ¬(55296 ≤ r ∧ r < 57344)

theorem atEnd_range (F : Option Int) (n : Nat) (least : Int) : (atEnd F n least).2 = 0 ∨ ((atEnd F n least).1 ≤ 1114111 ∧ ¬(55296 ≤ (atEnd F n least).1 ∧ (atEnd F n least).1 < 57344)) := by
  unfold atEnd
  split
  · simp
  · split
    · simp
    · rename_i h
      right
      simp only
      omega

theorem atTail_range (rest : List UInt8) (n : Nat) (r0 least : Int) : (atTail rest n r0 least).2 = 0 ∨ ((atTail rest n r0 least).1 ≤ 1114111 ∧ ¬(55296 ≤ (atTail rest n r0 least).1 ∧ (atTail rest n r0 least).1 < 57344)) := by
  unfold atTail
  split
  · exact .inl rfl
  · exact atEnd_range _ _ _
theorem atSpec_range (l : List UInt8) : (atSpec l).2 = 0 ∨ ((atSpec l).1 ≤ 1114111 ∧ ¬(55296 ≤ (atSpec l).1 ∧ (atSpec l).1 < 57344)) := by
  cases l with
  | nil => exact .inl rfl
  | cons c rest =>
    rw [atSpec_cons]
    by_cases h1 : (c.toNat : Int) < 128
    · rw [if_pos h1]
      right
      simp only
      omega
    rw [if_neg h1]
    split
    · exact atTail_range _ _ _ _
    split
    · exact atTail_range _ _ _ _
    split
    · exact atTail_range _ _ _ _
    · exact .inl rfl
theorem runesFrom_scalar : ∀ (n : Nat) (l : List UInt8) (p : Nat), ∀ x ∈ runesFrom n l p, scalar x.2
  | 0, _, _, x, hx => by simp [runesFrom] at hx
  | n + 1, l, p, x, hx => by
    by_cases h : l = []
    · subst h
      simp [runesFrom] at hx
    · rcases runesFrom_step h n p with ⟨_, e⟩ | ⟨m, r, hn, h1, _, e⟩
      · rw [e] at hx
        cases hx
      · rw [e] at hx
        rcases List.mem_cons.1 hx with rfl | hx
        · have := atSpec_range l
          rw [hn] at this
          unfold scalar
          simp only at this ⊢
          omega
        · exact runesFrom_scalar n _ _ x hx

theorem run_hex (d : Nat) (hd : d < 16) (w : World) : (Instr.slice 9 (.string ⟨#[48, 49, 50, 51, 52, 53, 54, 55, 56, 57, 97, 98, 99, 100, 101, 102]⟩) (some (.int .i64 d)) (some (.int .i64 ((d : Int) + 1))) none).run Tryd.prog w = .ok (.string ⟨#[hexd d]⟩) w := by
  have := run_cut ⟨#[48, 49, 50, 51, 52, 53, 54, 55, 56, 57, 97, 98, 99, 100, 101, 102]⟩ d (d + 1) (by omega) (by show d + 1 ≤ 16; omega) w
  have e : ∀ d : Fin 16, (⟨#[48, 49, 50, 51, 52, 53, 54, 55, 56, 57, 97, 98, 99, 100, 101, 102]⟩ : ByteArray).extract d.val (d.val + 1) = ⟨#[hexd d.val]⟩ := by decide
  rw [e ⟨d, hd⟩] at this
  exact this
theorem run_let (d : Nat) (hd : d < 8) (w : World) : (Instr.slice 9 (.string ⟨#[34, 92, 47, 98, 102, 110, 114, 116]⟩) (some (.int .i64 d)) (some (.int .i64 ((d : Int) + 1))) none).run Tryd.prog w = .ok (.string ⟨#[letTab.getD d 0]⟩) w := by
  have := run_cut ⟨#[34, 92, 47, 98, 102, 110, 114, 116]⟩ d (d + 1) (by omega) (by show d + 1 ≤ 8; omega) w
  have e : ∀ d : Fin 8, (⟨#[34, 92, 47, 98, 102, 110, 114, 116]⟩ : ByteArray).extract d.val (d.val + 1) = ⟨#[letTab.getD d.val 0]⟩ := by decide
  rw [e ⟨d, hd⟩] at this
  exact this

end Go.Proofs.YtjmkafbdmppfaaaDoor
