/- Values that may be and have the same text are the same. Plain. No condition. -/
import Derived.Test.YtjmkafbdmppfaaaDoorProg
import Derived.Test.YtjmkafbdmppfaaaDoorClnP
namespace Go.Proofs.YtjmkafbdmppfaaaDoor
open Go.RowKit

/-- What a rune's bytes are decoded as, whatever follows. -/
theorem dec_rune {r : Nat} (h : scalar r) (rest : List UInt8) : Lib.decodeL (Lib.encodeRune (r : Int) ++ rest) = (r, (Lib.encodeRune (r : Int)).length) := by
  unfold scalar at h
  by_cases c1 : r < 128
  · have e : Lib.encodeRune (r : Int) = [UInt8.ofNat r] := by
      rw [encode_small (by omega) (by omega)]; simp
    have hn : (UInt8.ofNat r).toNat = r := by simp [UInt8.toNat_ofNat']; omega
    rw [e, decodeL_eq]
    show Lib.decodeN _ _ _ _ _ = (r, 1)
    unfold Lib.decodeN
    simp only [List.cons_append, List.nil_append, List.getD_cons_zero, hn]
    rw [if_pos c1]
  unfold Lib.encodeRune
  by_cases c2 : r < 2048
  · rw [Lib.encodeRuneZ_two (by omega) (by omega)]
    simp only [List.map_cons, List.map_nil, List.cons_append, List.nil_append, List.length_cons, List.length_nil]
    have a1 : ((192 + (r : Int) / 64).toNat.toUInt8).toNat = 192 + r / 64 := by rw [u8_of (by omega) (by omega)]; omega
    have a2 : ((128 + (r : Int) % 64).toNat.toUInt8).toNat = 128 + r % 64 := by rw [u8_of (by omega) (by omega)]; omega
    generalize (192 + (r : Int) / 64).toNat.toUInt8 = x1 at *
    generalize (128 + (r : Int) % 64).toNat.toUInt8 = x2 at *
    rw [decodeL_eq]
    simp only [List.getD_cons_zero, List.getD_cons_succ, a1, a2, List.length_cons]
    unfold Lib.decodeN
    rw [if_neg (by omega), if_pos (by omega), if_pos (by omega)]
    exact Prod.ext (by simp only; omega) rfl
  by_cases c3 : r < 65536
  · rw [Lib.encodeRuneZ_three (by omega)]
    simp only [List.map_cons, List.map_nil, List.cons_append, List.nil_append, List.length_cons, List.length_nil]
    have a1 : ((224 + (r : Int) / 4096).toNat.toUInt8).toNat = 224 + r / 4096 := by rw [u8_of (by omega) (by omega)]; omega
    have a2 : ((128 + (r : Int) / 64 % 64).toNat.toUInt8).toNat = 128 + r / 64 % 64 := by rw [u8_of (by omega) (by omega)]; omega
    have a3 : ((128 + (r : Int) % 64).toNat.toUInt8).toNat = 128 + r % 64 := by rw [u8_of (by omega) (by omega)]; omega
    generalize (224 + (r : Int) / 4096).toNat.toUInt8 = x1 at *
    generalize (128 + (r : Int) / 64 % 64).toNat.toUInt8 = x2 at *
    generalize (128 + (r : Int) % 64).toNat.toUInt8 = x3 at *
    rw [decodeL_eq]
    simp only [List.getD_cons_zero, List.getD_cons_succ, a1, a2, a3, List.length_cons]
    unfold Lib.decodeN
    have d1 : r / 64 / 64 = r / 4096 := by omega
    rw [if_neg (by omega), if_neg (by omega), if_pos (by omega), if_pos (by omega)]
    exact Prod.ext (by simp only; omega) rfl
  · rw [Lib.encodeRuneZ_four (by omega) (by omega)]
    simp only [List.map_cons, List.map_nil, List.cons_append, List.nil_append, List.length_cons, List.length_nil]
    have a1 : ((240 + (r : Int) / 262144).toNat.toUInt8).toNat = 240 + r / 262144 := by rw [u8_of (by omega) (by omega)]; omega
    have a2 : ((128 + (r : Int) / 4096 % 64).toNat.toUInt8).toNat = 128 + r / 4096 % 64 := by rw [u8_of (by omega) (by omega)]; omega
    have a3 : ((128 + (r : Int) / 64 % 64).toNat.toUInt8).toNat = 128 + r / 64 % 64 := by rw [u8_of (by omega) (by omega)]; omega
    have a4 : ((128 + (r : Int) % 64).toNat.toUInt8).toNat = 128 + r % 64 := by rw [u8_of (by omega) (by omega)]; omega
    generalize (240 + (r : Int) / 262144).toNat.toUInt8 = x0 at *
    generalize (128 + (r : Int) / 4096 % 64).toNat.toUInt8 = x1 at *
    generalize (128 + (r : Int) / 64 % 64).toNat.toUInt8 = x2 at *
    generalize (128 + (r : Int) % 64).toNat.toUInt8 = x3 at *
    rw [decodeL_eq]
    simp only [List.getD_cons_zero, List.getD_cons_succ, a1, a2, a3, a4, List.length_cons]
    unfold Lib.decodeN
    rw [if_neg (by omega), if_neg (by omega), if_neg (by omega), if_pos (by omega), if_pos (by omega)]
    exact Prod.ext (by simp only; omega) rfl

theorem encode_ne (r : Int) : Lib.encodeRune r ≠ [] := by
  unfold Lib.encodeRune Lib.encodeRuneZ
  repeat' split
  all_goals simp

/-- A hexadecimal letter's number. -/
def unhex (c : UInt8) : Nat := if c.toNat < 58 then c.toNat - 48 else c.toNat - 87
/-- An escape's letter's rune. -/
def unlet (c : UInt8) : Nat := if c.toNat = 98 then 8 else if c.toNat = 116 then 9 else if c.toNat = 110 then 10 else if c.toNat = 102 then 12 else if c.toNat = 114 then 13 else c.toNat
/-- The first rune of what stands in quotes, and how many bytes it takes. -/
def readRune (l : List UInt8) : Nat × Nat :=
  if l.getD 0 0 = 92 then (if l.getD 1 0 = 117 then (unhex (l.getD 4 0) * 16 + unhex (l.getD 5 0), 6) else (unlet (l.getD 1 0), 2)) else Lib.decodeL l

theorem small_esc : ∀ r : Fin 128, (r.val < 32 ∨ r.val = 34 ∨ r.val = 92) → ((quoteRune r.val).getD 0 0 = 92 ∧ (((quoteRune r.val).length = 2 ∧ (quoteRune r.val).getD 1 0 ≠ 117 ∧ unlet ((quoteRune r.val).getD 1 0) = r.val) ∨
    ((quoteRune r.val).length = 6 ∧ (quoteRune r.val).getD 1 0 = 117 ∧ unhex ((quoteRune r.val).getD 4 0) * 16 + unhex ((quoteRune r.val).getD 5 0) = r.val))) := by decide +kernel

theorem getD_app {l x : List UInt8} {i : Nat} (h : i < l.length) : (l ++ x).getD i 0 = l.getD i 0 := by
  simp [List.getD, List.getElem?_append_left h]

theorem read_rune {r : Nat} (h : scalar r) (x : List UInt8) : readRune (quoteRune r ++ x) = (r, (quoteRune r).length) := by
  by_cases hp : 32 ≤ r ∧ r ≠ 34 ∧ r ≠ 92
  · have e : quoteRune r = Lib.encodeRune r := by unfold quoteRune; rw [if_pos hp]
    rw [e]
    unfold readRune
    have h0 : (Lib.encodeRune (r : Int) ++ x).getD 0 0 ≠ 92 := by
      have hb := encode_bytes h
      cases he : Lib.encodeRune (r : Int) with
      | nil => exact absurd he (encode_ne r)
      | cons c y =>
        rw [he] at hb
        have := hb c (by simp)
        show c ≠ 92
        intro e'
        subst e'
        have e2 : (92 : UInt8).toNat = 92 := rfl
        omega
    rw [if_neg h0]
    exact dec_rune h x
  · have hr : r < 128 := by omega
    obtain ⟨h0, h1⟩ := small_esc ⟨r, hr⟩ (by simp only; omega)
    simp only at h0 h1
    unfold readRune
    rcases h1 with ⟨hl, h1, h2⟩ | ⟨hl, h1, h2⟩
    · rw [getD_app (by omega), getD_app (by omega), if_pos h0, if_neg h1, h2, hl]
    · rw [getD_app (by omega), getD_app (by omega), getD_app (by omega), getD_app (by omega), if_pos h0, if_pos h1, h2, hl]

theorem quoteRune_cut {r r' : Nat} (h : scalar r) (h' : scalar r') {x x' : List UInt8} (e : quoteRune r ++ x = quoteRune r' ++ x') : r = r' ∧ x = x' := by
  have a := read_rune h x
  rw [e, read_rune h' x'] at a
  have : r' = r := congrArg Prod.fst a
  subst this
  exact ⟨rfl, List.append_cancel_left e⟩

theorem quoteRune_first {r : Nat} (h : scalar r) : ∃ c y, quoteRune r = c :: y ∧ c ≠ 34 := by
  by_cases hp : 32 ≤ r ∧ r ≠ 34 ∧ r ≠ 92
  · have e : quoteRune r = Lib.encodeRune r := by unfold quoteRune; rw [if_pos hp]
    rw [e]
    have hb := encode_bytes h
    cases he : Lib.encodeRune (r : Int) with
    | nil => exact absurd he (encode_ne r)
    | cons c y =>
      rw [he] at hb
      have := hb c (by simp)
      refine ⟨c, y, rfl, fun e' => ?_⟩
      subst e'
      have e2 : (34 : UInt8).toNat = 34 := rfl
      omega
  · obtain ⟨h0, h1⟩ := small_esc ⟨r, by omega⟩ (by simp only; omega)
    simp only at h0 h1
    cases he : quoteRune r with
    | nil => rw [he] at h1; simp at h1
    | cons c y =>
      rw [he] at h0
      have h0' : c = 92 := h0
      exact ⟨c, y, rfl, by rw [h0']; decide⟩

theorem quoteRunes_cut : ∀ (L L' : List (Nat × Nat)), (∀ x ∈ L, scalar x.2) → (∀ x ∈ L', scalar x.2) → ∀ {x x' : List UInt8}, quoteRunes L ++ 34 :: x = quoteRunes L' ++ 34 :: x' → L.map (·.2) = L'.map (·.2) ∧ x = x'
  | [], [], _, _, x, x', e => by
    have e' : (34 :: x : List UInt8) = 34 :: x' := e
    exact ⟨rfl, (List.cons.inj e').2⟩
  | [], b :: L', _, h', x, x', e => by
    obtain ⟨c, y, hc, hn⟩ := quoteRune_first (h' b (by simp))
    have e' : (34 :: x : List UInt8) = (quoteRune b.2 ++ quoteRunes L') ++ 34 :: x' := by
      have : quoteRunes (b :: L') = quoteRune b.2 ++ quoteRunes L' := by simp [quoteRunes]
      rw [← this]; exact e
    rw [hc] at e'
    exact absurd (List.cons.inj e').1.symm hn
  | a :: L, [], h, _, x, x', e => by
    obtain ⟨c, y, hc, hn⟩ := quoteRune_first (h a (by simp))
    have e' : (quoteRune a.2 ++ quoteRunes L) ++ 34 :: x = (34 :: x' : List UInt8) := by
      have : quoteRunes (a :: L) = quoteRune a.2 ++ quoteRunes L := by simp [quoteRunes]
      rw [← this]; exact e
    rw [hc] at e'
    exact absurd (List.cons.inj e').1 hn
  | a :: L, b :: L', h, h', x, x', e => by
    have e1 : quoteRunes (a :: L) = quoteRune a.2 ++ quoteRunes L := by simp [quoteRunes]
    have e2 : quoteRunes (b :: L') = quoteRune b.2 ++ quoteRunes L' := by simp [quoteRunes]
    rw [e1, e2, List.append_assoc, List.append_assoc] at e
    obtain ⟨h1, h2⟩ := quoteRune_cut (h a (by simp)) (h' b (by simp)) e
    obtain ⟨h3, h4⟩ := quoteRunes_cut L L' (fun y hy => h y (by simp [hy])) (fun y hy => h' y (by simp [hy])) h2
    exact ⟨by rw [List.map_cons, List.map_cons, h1, h3], h4⟩

/-- A text is its runes' bytes. -/
theorem runes_back : ∀ (n : Nat) (l : List UInt8) (p : Nat), l.length ≤ n → Lib.validD l = true → (runesFrom n l p).flatMap (fun x => Lib.encodeRune (x.2 : Int)) = l
  | 0, l, p, h, _ => by
    have : l = [] := List.length_eq_zero_iff.1 (by omega)
    subst this
    rfl
  | n + 1, l, p, h, hv => by
    by_cases hl : l = []
    · subst hl; simp [runesFrom]
    · rw [validD_step hl] at hv
      split at hv
      · cases hv
      rename_i hg
      have hw := Lib.decodeL_width l
      have hle := Lib.decodeL_le l hl
      simp only [runesFrom]
      rw [if_neg hl, if_neg hg, List.flatMap_cons, Lib.encode_decode l hl hg, runes_back n _ _ (by rw [List.length_drop]; omega) hv]
      exact List.take_append_drop _ _
theorem runes_inj {s s' : ByteArray} (h : validB s = true) (h' : validB s' = true) (e : (runes s).map (·.2) = (runes s').map (·.2)) : s = s' := by
  have a := runes_back s.size s.data.toList 0 (by rw [size_list]; exact Nat.le_refl _) h
  have b := runes_back s'.size s'.data.toList 0 (by rw [size_list]; exact Nat.le_refl _) h'
  have key : ∀ L : List (Nat × Nat), L.flatMap (fun x => Lib.encodeRune (x.2 : Int)) = (L.map (·.2)).flatMap (fun r => Lib.encodeRune ((r : Nat) : Int)) := by
    intro L
    induction L with
    | nil => rfl
    | cons x L ih => simp [List.flatMap_cons, ih]
  rw [key] at a b
  have e' : s.data.toList = s'.data.toList := by
    rw [← a, ← b]
    unfold runes at e
    rw [e]
  exact ByteArray.ext (Array.ext' e')

theorem quote_cut {s s' : ByteArray} (h : validB s = true) (h' : validB s' = true) {x x' : List UInt8} (e : quoteB s ++ x = quoteB s' ++ x') : s = s' ∧ x = x' := by
  unfold quoteB at e
  rw [List.append_assoc, List.append_assoc] at e
  have e' : quoteRunes (runes s) ++ 34 :: x = quoteRunes (runes s') ++ 34 :: x' := (List.cons.inj e).2
  obtain ⟨h1, h2⟩ := quoteRunes_cut _ _ (runesFrom_scalar _ _ _) (runesFrom_scalar _ _ _) e'
  exact ⟨runes_inj h h' h1, h2⟩

end Go.Proofs.YtjmkafbdmppfaaaDoor
