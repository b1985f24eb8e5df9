/- Parts, joined: Values that may be and have the same text are the same, the values. Plain. No condition. -/
import Derived.Test.YtgjiienipeoajaaGreatDoorProg
import Derived.Test.YtgjiienipeoajaaGreatDoorKPrs22
/- Values that may be and have the same text are the same, the values. Plain. No condition. -/
namespace Go.Proofs.YtgjiienipeoajaaGreatDoor
open Go.RowKit

theorem odd_bn {k : Int} {b : Bool} {n : Int} {t : ByteArray} {ln on : Nat} (h : oddB k b n t ln on = false) : (k = 2 ∨ b = false) ∧ (k = 3 ∨ n = 0) := by
  unfold oddB at h
  by_cases h1 : k = 1
  · subst h1; simp at h; exact ⟨.inr h.1.1.1.1, .inr h.1.1.1.2⟩
  by_cases h2 : k = 2
  · subst h2; simp at h; exact ⟨.inl rfl, .inr h.1.1.1⟩
  by_cases h3 : k = 3
  · subst h3; simp at h; exact ⟨.inr h.1.1.1, .inl rfl⟩
  by_cases h4 : k = 4
  · subst h4; simp at h; exact ⟨.inr h.1.1.1, .inr h.1.1.2⟩
  by_cases h5 : k = 5
  · subst h5; simp at h; exact ⟨.inr h.1.1.1, .inr h.1.1.2⟩
  by_cases h6 : k = 6
  · subst h6; simp at h; exact ⟨.inr h.1.1.1, .inr h.1.1.2⟩
  simp [h1, h2, h3, h4, h5, h6] at h

/-- What stands behind a value within one. -/
def stopC (c : UInt8) : Prop := c = 44 ∨ c = 93 ∨ c = 125
def stopR : List UInt8 → Prop
  | [] => True
  | c :: _ => stopC c

theorem tok_cut : ∀ (a b : List UInt8), (∀ c ∈ a, ¬stopC c) → (∀ c ∈ b, ¬stopC c) → ∀ {x y : List UInt8}, stopR x → stopR y → a ++ x = b ++ y → a = b ∧ x = y
  | [], [], _, _, x, y, _, _, e => ⟨rfl, e⟩
  | [], d :: b, _, hb, x, y, hx, _, e => by
    have e' : x = d :: (b ++ y) := e
    rw [e'] at hx
    exact absurd hx (hb d (by simp))
  | c :: a, [], ha, _, x, y, _, hy, e => by
    have e' : c :: (a ++ x) = y := e
    rw [← e'] at hy
    exact absurd hy (ha c (by simp))
  | c :: a, d :: b, ha, hb, x, y, hx, hy, e => by
    obtain ⟨h1, h2⟩ := List.cons.inj e
    obtain ⟨h3, h4⟩ := tok_cut a b (fun z hz => ha z (by simp [hz])) (fun z hz => hb z (by simp [hz])) hx hy h2
    exact ⟨by rw [h1, h3], h4⟩

theorem digs_range (u : Nat) : ∀ c ∈ digs u, 48 ≤ c.toNat ∧ c.toNat ≤ 57 := by
  induction u using Nat.strongRecOn with
  | _ u ih =>
    intro c hc
    by_cases h : u = 0
    · subst h
      rw [digs_zero] at hc
      cases hc
    · rw [digs_pos h] at hc
      rcases List.mem_append.1 hc with hc | hc
      · exact ih (u / 10) (by omega) c hc
      · simp only [List.mem_singleton] at hc
        subst hc
        have : ∀ d : Fin 10, 48 ≤ (dgt d.val).toNat ∧ (dgt d.val).toNat ≤ 57 := by decide
        exact this ⟨u % 10, by omega⟩
/-- Digits' number. -/
def numD (l : List UInt8) : Nat := l.foldl (fun a c => a * 10 + (c.toNat - 48)) 0
theorem numD_digs (u : Nat) : numD (digs u) = u := by
  induction u using Nat.strongRecOn with
  | _ u ih =>
    by_cases h : u = 0
    · subst h; rw [digs_zero]; rfl
    · rw [digs_pos h]
      unfold numD
      rw [List.foldl_append]
      have := ih (u / 10) (by omega)
      unfold numD at this
      rw [this]
      have hd : ∀ d : Fin 10, (dgt d.val).toNat - 48 = d.val := by decide
      have := hd ⟨u % 10, by omega⟩
      simp only [List.foldl_cons, List.foldl_nil]
      simp only at this
      omega
def numI : List UInt8 → Int
  | [] => 0
  | c :: r => if c = 45 then -(numD r : Int) else numD (c :: r)
theorem numI_itoa (n : Int) : numI (Lib.itoa n) = n := by
  by_cases h : n < 0
  · have e : Lib.itoa n = 45 :: digs n.natAbs := by rw [Lib.itoa, if_pos h, digs_dec _ (by omega)]
    rw [e]
    simp only [numI]
    rw [if_pos trivial, numD_digs]
    omega
  · by_cases h0 : n = 0
    · subst h0
      have e : Lib.itoa 0 = [48] := by
        rw [Lib.itoa, if_neg (by omega)]
        exact Lib.decDigits_one (i := 0) (by omega)
      rw [e]; rfl
    · have e : Lib.itoa n = digs n.toNat := by rw [Lib.itoa, if_neg h, digs_dec _ (by omega)]
      rw [e]
      have hr := digs_range n.toNat
      have hn := numD_digs n.toNat
      cases hd : digs n.toNat with
      | nil => rw [hd] at hn; unfold numI; have : numD [] = 0 := rfl; omega
      | cons c r =>
        rw [hd] at hr hn
        simp only [numI]
        have hc := hr c (by simp)
        have hc45 : c ≠ 45 := by
          intro e
          subst e
          have : (45 : UInt8).toNat = 45 := rfl
          omega
        rw [if_neg hc45, hn]
        omega
theorem itoa_inj {n m : Int} (h : Lib.itoa n = Lib.itoa m) : n = m := by rw [← numI_itoa n, h, numI_itoa]
theorem itoa_range (n : Int) : ∀ c ∈ Lib.itoa n, c.toNat = 45 ∨ (48 ≤ c.toNat ∧ c.toNat ≤ 57) := by
  intro c hc
  by_cases h : n < 0
  · have e : Lib.itoa n = 45 :: digs n.natAbs := by rw [Lib.itoa, if_pos h, digs_dec _ (by omega)]
    rw [e] at hc
    rcases List.mem_cons.1 hc with rfl | hc
    · exact .inl rfl
    · exact .inr (digs_range _ c hc)
  · by_cases h0 : n = 0
    · subst h0
      have e : Lib.itoa 0 = [48] := by
        rw [Lib.itoa, if_neg (by omega)]
        exact Lib.decDigits_one (i := 0) (by omega)
      rw [e] at hc
      simp only [List.mem_singleton] at hc
      subst hc
      exact .inr (by decide)
    · have e : Lib.itoa n = digs n.toNat := by rw [Lib.itoa, if_neg h, digs_dec _ (by omega)]
      rw [e] at hc
      exact .inr (digs_range _ c hc)
theorem not_stop {c : UInt8} (h : c.toNat = 45 ∨ (48 ≤ c.toNat ∧ c.toNat ≤ 57)) : ¬stopC c := by
  intro hs
  have e1 : (44 : UInt8).toNat = 44 := rfl
  have e2 : (93 : UInt8).toNat = 93 := rfl
  have e3 : (125 : UInt8).toNat = 125 := rfl
  rcases hs with rfl | rfl | rfl <;> omega

/-- How a text begins, by its value's kind. -/
def beginsK (k : Int) (c : UInt8) : Prop :=
  (k = 1 ∧ c.toNat = 110) ∨ (k = 2 ∧ (c.toNat = 116 ∨ c.toNat = 102)) ∨ (k = 3 ∧ (c.toNat = 45 ∨ (48 ≤ c.toNat ∧ c.toNat ≤ 57))) ∨ (k = 4 ∧ c.toNat = 34) ∨ (k = 5 ∧ c.toNat = 91) ∨ (k = 6 ∧ c.toNat = 123)
theorem begins {k : Int} (b : Bool) (n : Int) (t : ByteArray) (l : List Val) (o : List (ByteArray × Val)) (hk : k = 1 ∨ k = 2 ∨ k = 3 ∨ k = 4 ∨ k = 5 ∨ k = 6) : ∃ c y, textV (.mk k b n t l o) = c :: y ∧ beginsK k c := by
  unfold beginsK
  rcases hk with rfl | rfl | rfl | rfl | rfl | rfl
  · exact ⟨110, [117, 108, 108], by simp [textV], .inl ⟨rfl, rfl⟩⟩
  · cases b
    · exact ⟨102, [97, 108, 115, 101], by simp only [textV]; rfl, .inr (.inl ⟨rfl, .inr rfl⟩)⟩
    · exact ⟨116, [114, 117, 101], by simp only [textV]; rfl, .inr (.inl ⟨rfl, .inl rfl⟩)⟩
  · have e : textV (.mk 3 b n t l o) = Lib.itoa n := by simp [textV]
    rw [e]
    cases hi : Lib.itoa n with
    | nil => exact absurd hi (itoa_ne n)
    | cons c y =>
      have := itoa_range n c (by rw [hi]; simp)
      exact ⟨c, y, rfl, .inr (.inr (.inl ⟨rfl, this⟩))⟩
  · exact ⟨34, _, by simp only [textV]; rfl, .inr (.inr (.inr (.inl ⟨rfl, rfl⟩)))⟩
  · exact ⟨91, _, by simp only [textV]; rfl, .inr (.inr (.inr (.inr (.inl ⟨rfl, rfl⟩))))⟩
  · exact ⟨123, _, by simp only [textV]; rfl, .inr (.inr (.inr (.inr (.inr ⟨rfl, rfl⟩))))⟩
theorem begins_not {k : Int} {c : UInt8} (h : beginsK k c) : c ≠ 93 ∧ c ≠ 125 := by
  unfold beginsK at h
  have e2 : (93 : UInt8).toNat = 93 := rfl
  have e3 : (125 : UInt8).toNat = 125 := rfl
  constructor <;> (rintro rfl; omega)
theorem begins_kind {k k' : Int} {c : UInt8} (h : beginsK k c) (h' : beginsK k' c) : k = k' := by
  unfold beginsK at h h'
  omega

theorem may_kind {k : Int} {b : Bool} {n : Int} {t : ByteArray} {l : List Val} {o : List (ByteArray × Val)} {d : Int} (h : mayV (.mk k b n t l o) d = 0) : k = 1 ∨ k = 2 ∨ k = 3 ∨ k = 4 ∨ k = 5 ∨ k = 6 := (odd_parts (mayV_parts h).1).1
theorem text_begins (v : Val) {d : Int} (h : mayV v d = 0) : ∃ c y, textV v = c :: y ∧ c ≠ 93 ∧ c ≠ 125 := by
  obtain ⟨k, b, n, t, l, o⟩ := v
  obtain ⟨c, y, e, hc⟩ := begins b n t l o (may_kind h)
  exact ⟨c, y, e, begins_not hc⟩

/-- A value's text tells the value, whatever stands behind it. -/
def CutV (a : Val) : Prop := ∀ (b : Val) (d d' : Int) (x y : List UInt8), mayV a d = 0 → mayV b d' = 0 → stopR x → stopR y → textV a ++ x = textV b ++ y → a = b ∧ x = y

theorem stop_rest (l : List Val) (x : List UInt8) : stopR (textL l false ++ 93 :: x) := by
  cases l with
  | nil => exact .inr (.inl rfl)
  | cons v r => simp only [textL]; exact .inl rfl
theorem stop_restO (l : List (ByteArray × Val)) (x : List UInt8) : stopR (textO l false ++ 125 :: x) := by
  cases l with
  | nil => exact .inr (.inr rfl)
  | cons v r => simp only [textO]; exact .inl rfl

theorem cut_list : ∀ (l l' : List Val) (f : Bool), (∀ v ∈ l, CutV v) → ∀ {d d' : Int} {x y : List UInt8}, mayL l d = 0 → mayL l' d' = 0 → textL l f ++ 93 :: x = textL l' f ++ 93 :: y → l = l' ∧ x = y
  | [], [], f, _, d, d', x, y, _, _, e => ⟨rfl, by simpa [textL] using e⟩
  | [], v :: r, f, _, d, d', x, y, _, hm', e => by
    obtain ⟨c, z, hc, h1, _⟩ := text_begins v (mayL_all hm' v (by simp))
    exfalso
    cases f
    · simp [textL] at e
    · simp [textL, hc] at e
      exact h1 e.1.symm
  | v :: r, [], f, _, d, d', x, y, hm, _, e => by
    obtain ⟨c, z, hc, h1, _⟩ := text_begins v (mayL_all hm v (by simp))
    exfalso
    cases f
    · simp [textL] at e
    · simp [textL, hc] at e
      exact h1 e.1
  | v :: r, v' :: r', f, h, d, d', x, y, hm, hm', e => by
    have e' : textV v ++ (textL r false ++ 93 :: x) = textV v' ++ (textL r' false ++ 93 :: y) := by
      cases f
      · simp only [textL] at e
        have := (List.cons.inj (show (44 :: ((textV v ++ textL r false) ++ 93 :: x) : List UInt8) = 44 :: ((textV v' ++ textL r' false) ++ 93 :: y) from e)).2
        rwa [List.append_assoc, List.append_assoc] at this
      · simp only [textL] at e
        have : (textV v ++ textL r false) ++ 93 :: x = (textV v' ++ textL r' false) ++ 93 :: y := e
        rwa [List.append_assoc, List.append_assoc] at this
    obtain ⟨h1, h2⟩ := h v (by simp) v' d d' _ _ (mayL_all hm v (by simp)) (mayL_all hm' v' (by simp)) (stop_rest _ _) (stop_rest _ _) e'
    have hmr : mayL r d = 0 := by
      simp only [mayL] at hm
      rwa [if_pos (mayL_all (l := v :: r) (by simp only [mayL]; exact hm) v (by simp))] at hm
    have hmr' : mayL r' d' = 0 := by
      simp only [mayL] at hm'
      rwa [if_pos (mayL_all (l := v' :: r') (by simp only [mayL]; exact hm') v' (by simp))] at hm'
    obtain ⟨h3, h4⟩ := cut_list r r' false (fun u hu => h u (by simp [hu])) hmr hmr' h2
    exact ⟨by rw [h1, h3], h4⟩

theorem cut_obj : ∀ (l l' : List (ByteArray × Val)) (f : Bool), (∀ m ∈ l, CutV m.2) → ∀ {d d' : Int} {x y : List UInt8}, (∀ m ∈ l, validB m.1 = true ∧ mayV m.2 d = 0) → (∀ m ∈ l', validB m.1 = true ∧ mayV m.2 d' = 0) → textO l f ++ 125 :: x = textO l' f ++ 125 :: y → l = l' ∧ x = y
  | [], [], f, _, d, d', x, y, _, _, e => ⟨rfl, by simpa [textO] using e⟩
  | [], (k, v) :: r, f, _, d, d', x, y, _, _, e => by
    exfalso
    cases f <;> simp [textO, textP, quoteB] at e
  | (k, v) :: r, [], f, _, d, d', x, y, _, _, e => by
    exfalso
    cases f <;> simp [textO, textP, quoteB] at e
  | (k, v) :: r, (k', v') :: r', f, h, d, d', x, y, hm, hm', e => by
    have e' : quoteB k ++ (58 :: (textV v ++ (textO r false ++ 125 :: x))) = quoteB k' ++ (58 :: (textV v' ++ (textO r' false ++ 125 :: y))) := by
      cases f
      · simp only [textO, textP] at e
        have := (List.cons.inj (show (44 :: (((quoteB k ++ 58 :: textV v) ++ textO r false) ++ 125 :: x) : List UInt8) = 44 :: (((quoteB k' ++ 58 :: textV v') ++ textO r' false) ++ 125 :: y) from e)).2
        simpa [List.append_assoc] using this
      · simp only [textO, textP] at e
        have : ((quoteB k ++ 58 :: textV v) ++ textO r false) ++ 125 :: x = ((quoteB k' ++ 58 :: textV v') ++ textO r' false) ++ 125 :: y := e
        simpa [List.append_assoc] using this
    have m1 := hm (k, v) (by simp)
    have m2 := hm' (k', v') (by simp)
    simp only at m1 m2
    obtain ⟨h1, h2⟩ := quote_cut m1.1 m2.1 e'
    obtain ⟨h3, h4⟩ := h (k, v) (by simp) v' d d' _ _ m1.2 m2.2 (stop_restO _ _) (stop_restO _ _) (List.cons.inj h2).2
    simp only at h3
    obtain ⟨h5, h6⟩ := cut_obj r r' false (fun u hu => h u (by simp [hu])) (fun u hu => hm u (by simp [hu])) (fun u hu => hm' u (by simp [hu])) h4
    exact ⟨by rw [h1, h3, h5], h6⟩

theorem cutV : ∀ a, CutV a := by
  refine Val.ind ?_
  intro k b n t l o hl ho v d d' x y hm hm' hx hy e
  obtain ⟨k', b', n', t', l', o'⟩ := v
  obtain ⟨hodd, _, hvt, hmL, hmO⟩ := mayV_parts hm
  obtain ⟨hodd', _, hvt', hmL', hmO'⟩ := mayV_parts hm'
  obtain ⟨c, z, hc, hb⟩ := begins b n t l o (may_kind hm)
  obtain ⟨c', z', hc', hb'⟩ := begins b' n' t' l' o' (may_kind hm')
  have hkk : k = k' := by
    rw [hc, hc'] at e
    have : c = c' := (List.cons.inj e).1
    subst this
    exact begins_kind hb hb'
  subst hkk
  obtain ⟨hk, p1, p2, p3⟩ := odd_parts hodd
  obtain ⟨_, q1, q2, q3⟩ := odd_parts hodd'
  obtain ⟨p4, p5⟩ := odd_bn hodd
  obtain ⟨q4, q5⟩ := odd_bn hodd'
  have nl : ∀ {α : Type} {l : List α}, l.length = 0 → l = [] := fun h => List.length_eq_zero_iff.1 h
  clear hc hc' hb hb'
  rcases hk with rfl | rfl | rfl | rfl | rfl | rfl
  · have e1 : textV (.mk 1 b n t l o) = textV (.mk 1 b' n' t' l' o') := by simp [textV]
    rw [e1] at e
    refine ⟨?_, List.append_cancel_left e⟩
    rw [p4.resolve_left (by decide), q4.resolve_left (by decide), p5.resolve_left (by decide), q5.resolve_left (by decide), p1.resolve_left (by decide), q1.resolve_left (by decide), nl (p2.resolve_left (by decide)), nl (q2.resolve_left (by decide)), nl (p3.resolve_left (by decide)), nl (q3.resolve_left (by decide))]
  · have e1 : textV (.mk 2 b n t l o) = Lib.formatBool b := by simp [textV]
    have e2 : textV (.mk 2 b' n' t' l' o') = Lib.formatBool b' := by simp [textV]
    rw [e1, e2] at e
    have hbb : b = b' := by
      cases b <;> cases b' <;> first | rfl | (exfalso; have := (List.cons.inj e).1; revert this; decide)
    subst hbb
    refine ⟨?_, List.append_cancel_left e⟩
    rw [p5.resolve_left (by decide), q5.resolve_left (by decide), p1.resolve_left (by decide), q1.resolve_left (by decide), nl (p2.resolve_left (by decide)), nl (q2.resolve_left (by decide)), nl (p3.resolve_left (by decide)), nl (q3.resolve_left (by decide))]
  · have e1 : textV (.mk 3 b n t l o) = Lib.itoa n := by simp [textV]
    have e2 : textV (.mk 3 b' n' t' l' o') = Lib.itoa n' := by simp [textV]
    rw [e1, e2] at e
    obtain ⟨h1, h2⟩ := tok_cut _ _ (fun c hc => not_stop (itoa_range n c hc)) (fun c hc => not_stop (itoa_range n' c hc)) hx hy e
    have hnn := itoa_inj h1
    subst hnn
    refine ⟨?_, h2⟩
    rw [p4.resolve_left (by decide), q4.resolve_left (by decide), p1.resolve_left (by decide), q1.resolve_left (by decide), nl (p2.resolve_left (by decide)), nl (q2.resolve_left (by decide)), nl (p3.resolve_left (by decide)), nl (q3.resolve_left (by decide))]
  · have e1 : textV (.mk 4 b n t l o) = quoteB t := by simp [textV]
    have e2 : textV (.mk 4 b' n' t' l' o') = quoteB t' := by simp [textV]
    rw [e1, e2] at e
    obtain ⟨h1, h2⟩ := quote_cut hvt hvt' e
    subst h1
    refine ⟨?_, h2⟩
    rw [p4.resolve_left (by decide), q4.resolve_left (by decide), p5.resolve_left (by decide), q5.resolve_left (by decide), nl (p2.resolve_left (by decide)), nl (q2.resolve_left (by decide)), nl (p3.resolve_left (by decide)), nl (q3.resolve_left (by decide))]
  · have e1 : textV (.mk 5 b n t l o) = 91 :: (textL l true ++ [93]) := by simp [textV]
    have e2 : textV (.mk 5 b' n' t' l' o') = 91 :: (textL l' true ++ [93]) := by simp [textV]
    rw [e1, e2] at e
    have e3 := (List.cons.inj (show (91 :: ((textL l true ++ [93]) ++ x) : List UInt8) = 91 :: ((textL l' true ++ [93]) ++ y) from e)).2
    rw [List.append_assoc, List.append_assoc] at e3
    obtain ⟨h1, h2⟩ := cut_list l l' true hl hmL hmL' e3
    subst h1
    refine ⟨?_, h2⟩
    rw [p4.resolve_left (by decide), q4.resolve_left (by decide), p5.resolve_left (by decide), q5.resolve_left (by decide), p1.resolve_left (by decide), q1.resolve_left (by decide), nl (p3.resolve_left (by decide)), nl (q3.resolve_left (by decide))]
  · have e1 : textV (.mk 6 b n t l o) = 123 :: (textO o true ++ [125]) := by simp [textV]
    have e2 : textV (.mk 6 b' n' t' l' o') = 123 :: (textO o' true ++ [125]) := by simp [textV]
    rw [e1, e2] at e
    have e3 := (List.cons.inj (show (123 :: ((textO o true ++ [125]) ++ x) : List UInt8) = 123 :: ((textO o' true ++ [125]) ++ y) from e)).2
    rw [List.append_assoc, List.append_assoc] at e3
    obtain ⟨h1, h2⟩ := cut_obj o o' true ho (mayO_all hmO) (mayO_all hmO') e3
    subst h1
    refine ⟨?_, h2⟩
    rw [p4.resolve_left (by decide), q4.resolve_left (by decide), p5.resolve_left (by decide), q5.resolve_left (by decide), p1.resolve_left (by decide), q1.resolve_left (by decide), nl (p2.resolve_left (by decide)), nl (q2.resolve_left (by decide))]

/-- The same text: the same value. -/
theorem text_inj {a b : Val} {d d' : Int} (ha : mayV a d = 0) (hb : mayV b d' = 0) (e : textV a = textV b) : a = b := by
  refine (cutV a b d d' [] [] ha hb trivial trivial ?_).1
  rw [List.append_nil, List.append_nil]
  exact e

end Go.Proofs.YtgjiienipeoajaaGreatDoor
