/- Parts, joined: A value's text is a text, and clean. Plain. No condition. Values that may be and have the same text are the same. Plain. No condition. -/
import Derived.Test.YtgjiienipeoajaaGreatDoorProg
import Derived.Test.YtgjiienipeoajaaGreatDoorKPrs19
import Derived.Test.YtgjiienipeoajaaGreatDoorKPrs20
/- A value's text is a text, and clean. Plain. No condition. -/
namespace Go.Proofs.YtgjiienipeoajaaGreatDoor
open Go.RowKit

/-- What the law's loop finds. -/
def clean : Bool → List UInt8 → Bool
  | inn, [] => !inn
  | inn, c :: r => if c.toNat < 32 ∨ (c.toNat = 32 ∧ inn = false) then false else if inn = true ∧ c.toNat = 92 then (match r with | [] => !inn | _ :: r' => clean inn r') else if c.toNat = 34 then clean (!inn) r else clean inn r

theorem clean_cons (inn : Bool) (c : UInt8) (r : List UInt8) : clean inn (c :: r) = if c.toNat < 32 ∨ (c.toNat = 32 ∧ inn = false) then false else if inn = true ∧ c.toNat = 92 then (match r with | [] => !inn | _ :: r' => clean inn r') else if c.toNat = 34 then clean (!inn) r else clean inn r := by
  cases r with
  | nil => unfold clean; rfl
  | cons a b => rw [clean]

/-- Bytes outside texts. -/
theorem clean_out {c : UInt8} (h1 : 33 ≤ c.toNat) (h2 : c.toNat ≠ 34) (r : List UInt8) : clean false (c :: r) = clean false r := by
  rw [clean_cons, if_neg (by omega), if_neg (by simp), if_neg h2]
theorem clean_outs : ∀ (a : List UInt8), (∀ c ∈ a, 33 ≤ c.toNat ∧ c.toNat ≠ 34) → ∀ r, clean false (a ++ r) = clean false r
  | [], _, r => rfl
  | c :: a, h, r => by
    rw [List.cons_append, clean_out (h c (by simp)).1 (h c (by simp)).2]
    exact clean_outs a (fun x hx => h x (by simp [hx])) r
/-- Bytes in texts. -/
theorem clean_in {c : UInt8} (h1 : 32 ≤ c.toNat) (h2 : c.toNat ≠ 34) (h3 : c.toNat ≠ 92) (r : List UInt8) : clean true (c :: r) = clean true r := by
  rw [clean_cons, if_neg (by simp; omega), if_neg (by simp [h3]), if_neg h2]
theorem clean_ins : ∀ (a : List UInt8), (∀ c ∈ a, 32 ≤ c.toNat ∧ c.toNat ≠ 34 ∧ c.toNat ≠ 92) → ∀ r, clean true (a ++ r) = clean true r
  | [], _, r => rfl
  | c :: a, h, r => by
    rw [List.cons_append, clean_in (h c (by simp)).1 (h c (by simp)).2.1 (h c (by simp)).2.2]
    exact clean_ins a (fun x hx => h x (by simp [hx])) r
theorem clean_esc (c : UInt8) (r : List UInt8) : clean true (92 :: c :: r) = clean true r := by
  rw [clean_cons, if_neg (by decide), if_pos (by decide)]
theorem clean_open (r : List UInt8) : clean false (34 :: r) = clean true r := by
  rw [clean_cons, if_neg (by decide), if_neg (by decide), if_pos (by decide)]; rfl
theorem clean_close (r : List UInt8) : clean true (34 :: r) = clean false r := by
  rw [clean_cons, if_neg (by decide), if_neg (by decide), if_pos (by decide)]; rfl

theorem encode_bytes {r : Nat} (h : scalar r) : ∀ c ∈ Lib.encodeRune (r : Int), (r < 128 ∧ c.toNat = r) ∨ (128 ≤ r ∧ 128 ≤ c.toNat) := by
  intro c hc
  unfold scalar at h
  unfold Lib.encodeRune at hc
  obtain ⟨z, hz, rfl⟩ := List.mem_map.1 hc
  have key : (r < 128 ∧ z = r) ∨ (128 ≤ r ∧ 128 ≤ z ∧ z < 256) := by
    unfold Lib.encodeRuneZ at hz
    split at hz
    · simp at hz; omega
    split at hz
    · simp at hz; omega
    split at hz
    · simp at hz; omega
    split at hz
    · simp at hz; omega
    · omega
  have e : z.toNat.toUInt8.toNat = z.toNat := by
    have : z.toNat < 256 := by omega
    simp [Nat.toUInt8, UInt8.toNat_ofNat', Nat.mod_eq_of_lt this]
  rw [e]
  omega

theorem hexd_ok : ∀ d : Fin 16, 32 ≤ (hexd d.val).toNat ∧ (hexd d.val).toNat ≠ 34 ∧ (hexd d.val).toNat ≠ 92 ∧ (hexd d.val).toNat < 128 := by decide

theorem findKV_small {r : Nat} {c : Int} (h : findKV (r : Int) letterTab = some c) : r < 128 := by
  simp only [letterTab, findKV] at h
  repeat' split at h
  all_goals first | omega | cases h

/-- How a rune is written: three ways. -/
theorem quoteRune_ways {r : Nat} : (32 ≤ r ∧ r ≠ 34 ∧ r ≠ 92 ∧ quoteRune r = Lib.encodeRune r) ∨ (∃ c : UInt8, c.toNat < 128 ∧ quoteRune r = [92, c]) ∨ (r < 32 ∧ quoteRune r = [92, 117, 48, 48, hexd (r / 16), hexd (r % 16)]) := by
  unfold quoteRune
  by_cases h : 32 ≤ r ∧ r ≠ 34 ∧ r ≠ 92
  · rw [if_pos h]
    exact .inl ⟨h.1, h.2.1, h.2.2, rfl⟩
  · rw [if_neg h]
    cases hk : findKV (r : Int) letterTab with
    | none =>
      have := letters_none hk h
      exact .inr (.inr ⟨this, rfl⟩)
    | some c =>
      refine .inr (.inl ⟨_, ?_, rfl⟩)
      have := letters_range hk
      have e : (UInt8.ofNat c.toNat).toNat = c.toNat := by simp [UInt8.toNat_ofNat']; omega
      rw [e]; omega

theorem clean_rune {r : Nat} (h : scalar r) (rest : List UInt8) : clean true (quoteRune r ++ rest) = clean true rest := by
  rcases quoteRune_ways (r := r) with ⟨h1, h2, h3, e⟩ | ⟨c, _, e⟩ | ⟨h1, e⟩
  · rw [e]
    exact clean_ins _ (fun c hc => by have := encode_bytes h c hc; omega) rest
  · rw [e]
    exact clean_esc c rest
  · rw [e]
    have a1 := hexd_ok ⟨r / 16, by omega⟩
    have a2 := hexd_ok ⟨r % 16, by omega⟩
    show clean true (92 :: 117 :: 48 :: 48 :: hexd (r / 16) :: hexd (r % 16) :: rest) = _
    rw [clean_esc, clean_in (by decide) (by decide) (by decide), clean_in (by decide) (by decide) (by decide), clean_in a1.1 a1.2.1 a1.2.2.1, clean_in a2.1 a2.2.1 a2.2.2.1]
theorem clean_runes : ∀ (L : List (Nat × Nat)), (∀ x ∈ L, scalar x.2) → ∀ rest, clean true (quoteRunes L ++ rest) = clean true rest
  | [], _, rest => rfl
  | x :: L, h, rest => by
    have e : quoteRunes (x :: L) = quoteRune x.2 ++ quoteRunes L := by simp [quoteRunes]
    rw [e, List.append_assoc, clean_rune (h x (by simp))]
    exact clean_runes L (fun y hy => h y (by simp [hy])) rest
theorem clean_quote (s : ByteArray) (rest : List UInt8) : clean false (quoteB s ++ rest) = clean false rest := by
  have hs : ∀ x ∈ runes s, scalar x.2 := runesFrom_scalar _ _ _
  unfold quoteB
  rw [List.append_assoc]
  show clean false (34 :: (quoteRunes (runes s) ++ ([34] ++ rest))) = _
  rw [clean_open, clean_runes _ hs]
  exact clean_close rest

theorem formatBool_out (b : Bool) : ∀ c ∈ Lib.formatBool b, 33 ≤ c.toNat ∧ c.toNat ≠ 34 ∧ c.toNat < 128 := by cases b <;> decide
theorem digs_out (u : Nat) : ∀ c ∈ digs u, 33 ≤ c.toNat ∧ c.toNat ≠ 34 ∧ c.toNat < 128 := by
  induction u using Nat.strongRecOn with
  | _ u ih =>
    intro c hc
    by_cases h : u = 0
    · subst h
      rw [digs_zero] at hc
      cases hc
    · rw [digs_pos h] at hc
      rcases List.mem_append.1 hc with hc | hc
      · exact ih (u / 10) (by omega) c hc
      · simp only [List.mem_singleton] at hc
        subst hc
        have : ∀ d : Fin 10, 33 ≤ (dgt d.val).toNat ∧ (dgt d.val).toNat ≠ 34 ∧ (dgt d.val).toNat < 128 := by decide
        exact this ⟨u % 10, by omega⟩
theorem itoa_out (n : Int) : ∀ c ∈ Lib.itoa n, 33 ≤ c.toNat ∧ c.toNat ≠ 34 ∧ c.toNat < 128 := by
  intro c hc
  unfold Lib.itoa at hc
  have dec : ∀ u : Nat, ∀ c ∈ Lib.decDigits u, 33 ≤ c.toNat ∧ c.toNat ≠ 34 ∧ c.toNat < 128 := by
    intro u c hc
    by_cases h : u = 0
    · subst h
      rw [Lib.decDigits_one (by omega)] at hc
      simp only [List.mem_singleton] at hc
      subst hc
      decide
    · rw [← digs_dec u h] at hc
      exact digs_out u c hc
  split at hc
  · rcases List.mem_cons.1 hc with rfl | hc
    · decide
    · exact dec _ c hc
  · exact dec _ c hc

theorem cleanL : ∀ (l : List Val), (∀ v ∈ l, ∀ rest, clean false (textV v ++ rest) = clean false rest) → ∀ f rest, clean false (textL l f ++ rest) = clean false rest
  | [], _, f, rest => by simp [textL]
  | v :: r, h, f, rest => by
    simp only [textL]
    rw [List.append_assoc, List.append_assoc]
    have h1 := h v (by simp)
    have h2 := cleanL r (fun x hx => h x (by simp [hx])) false rest
    cases f
    · show clean false (44 :: (textV v ++ (textL r false ++ rest))) = _
      rw [clean_out (by decide) (by decide), h1, h2]
    · show clean false (textV v ++ (textL r false ++ rest)) = _
      rw [h1, h2]
theorem cleanO : ∀ (l : List (ByteArray × Val)), (∀ m ∈ l, ∀ rest, clean false (textV m.2 ++ rest) = clean false rest) → ∀ f rest, clean false (textO l f ++ rest) = clean false rest
  | [], _, f, rest => by simp [textO]
  | (k, v) :: r, h, f, rest => by
    simp only [textO, textP]
    have h1 := h (k, v) (by simp)
    simp only at h1
    have h2 := cleanO r (fun x hx => h x (by simp [hx])) false rest
    cases f
    · show clean false (44 :: (((quoteB k ++ 58 :: textV v) ++ textO r false) ++ rest)) = _
      rw [clean_out (by decide) (by decide), List.append_assoc, List.append_assoc, clean_quote]
      show clean false (58 :: (textV v ++ (textO r false ++ rest))) = _
      rw [clean_out (by decide) (by decide), h1, h2]
    · show clean false (((quoteB k ++ 58 :: textV v) ++ textO r false) ++ rest) = _
      rw [List.append_assoc, List.append_assoc, clean_quote]
      show clean false (58 :: (textV v ++ (textO r false ++ rest))) = _
      rw [clean_out (by decide) (by decide), h1, h2]
theorem cleanV : ∀ (v : Val) (rest : List UInt8), clean false (textV v ++ rest) = clean false rest := by
  refine Val.ind ?_
  intro k b n t l o hl ho rest
  simp only [textV]
  split
  · exact clean_outs _ (fun c hc => ⟨(formatBool_out b c hc).1, (formatBool_out b c hc).2.1⟩) rest
  split
  · exact clean_outs _ (fun c hc => ⟨(itoa_out n c hc).1, (itoa_out n c hc).2.1⟩) rest
  split
  · exact clean_quote t rest
  split
  · show clean false (91 :: ((textL l true ++ [93]) ++ rest)) = _
    rw [clean_out (by decide) (by decide), List.append_assoc, cleanL l hl]
    exact clean_out (c := 93) (by decide) (by decide) rest
  split
  · show clean false (123 :: ((textO o true ++ [125]) ++ rest)) = _
    rw [clean_out (by decide) (by decide), List.append_assoc, cleanO o ho]
    exact clean_out (c := 125) (by decide) (by decide) rest
  · exact clean_outs [110, 117, 108, 108] (by decide) rest
theorem clean_text (v : Val) : clean false (textV v) = true := by
  have := cleanV v []
  rw [List.append_nil] at this
  rw [this]; rfl

/-- ASCII bytes are texts. -/
theorem valid_ascii {c : UInt8} (h : c.toNat < 128) (rest : List UInt8) : Lib.validD (c :: rest) = Lib.validD rest := by
  rw [validD_step (by simp), decodeL_eq]
  have e : Lib.decodeN (c :: rest).length ((c :: rest).getD 0 0).toNat ((c :: rest).getD 1 0).toNat ((c :: rest).getD 2 0).toNat ((c :: rest).getD 3 0).toNat = (c.toNat, 1) := by
    unfold Lib.decodeN
    rw [if_pos (by simpa using h)]
    simp
  rw [e, if_neg (by simp only; omega)]
  rfl
theorem valid_asciis : ∀ (a : List UInt8), (∀ c ∈ a, c.toNat < 128) → ∀ rest, Lib.validD (a ++ rest) = Lib.validD rest
  | [], _, rest => rfl
  | c :: a, h, rest => by
    rw [List.cons_append, valid_ascii (h c (by simp))]
    exact valid_asciis a (fun x hx => h x (by simp [hx])) rest

theorem u8_of {z : Int} (h0 : 0 ≤ z) (h1 : z < 256) : (z.toNat.toUInt8).toNat = z.toNat := by
  have : z.toNat < 256 := by omega
  simp [Nat.toUInt8, UInt8.toNat_ofNat', Nat.mod_eq_of_lt this]

theorem valid_of_dec {l : List UInt8} {r n : Nat} (hne : l ≠ []) (h : Lib.decodeL l = (r, n)) (hn : n ≠ 1) : Lib.validD l = Lib.validD (l.drop n) := by
  rw [validD_step hne, h, if_neg (by simp only; omega)]

theorem valid_rune {r : Nat} (h : scalar r) (rest : List UInt8) : Lib.validD (Lib.encodeRune (r : Int) ++ rest) = Lib.validD rest := by
  unfold scalar at h
  by_cases c1 : r < 128
  · refine valid_asciis _ (fun c hc => ?_) rest
    have := encode_bytes (r := r) (by unfold scalar; exact h) c hc
    omega
  unfold Lib.encodeRune
  by_cases c2 : r < 2048
  · rw [Lib.encodeRuneZ_two (by omega) (by omega)]
    simp only [List.map_cons, List.map_nil, List.cons_append, List.nil_append]
    have a1 : ((192 + (r : Int) / 64).toNat.toUInt8).toNat = 192 + r / 64 := by rw [u8_of (by omega) (by omega)]; omega
    have a2 : ((128 + (r : Int) % 64).toNat.toUInt8).toNat = 128 + r % 64 := by rw [u8_of (by omega) (by omega)]; omega
    generalize (192 + (r : Int) / 64).toNat.toUInt8 = x1 at *
    generalize (128 + (r : Int) % 64).toNat.toUInt8 = x2 at *
    refine valid_of_dec (l := x1 :: x2 :: rest) (r := r) (n := 2) (by simp) ?_ (by decide)
    rw [decodeL_eq]
    simp only [List.getD_cons_zero, List.getD_cons_succ, a1, a2, List.length_cons]
    unfold Lib.decodeN
    rw [if_neg (by omega), if_pos (by omega), if_pos (by omega)]
    exact Prod.ext (by simp only; omega) rfl
  by_cases c3 : r < 65536
  · rw [Lib.encodeRuneZ_three (by omega)]
    simp only [List.map_cons, List.map_nil, List.cons_append, List.nil_append]
    have a1 : ((224 + (r : Int) / 4096).toNat.toUInt8).toNat = 224 + r / 4096 := by rw [u8_of (by omega) (by omega)]; omega
    have a2 : ((128 + (r : Int) / 64 % 64).toNat.toUInt8).toNat = 128 + r / 64 % 64 := by rw [u8_of (by omega) (by omega)]; omega
    have a3 : ((128 + (r : Int) % 64).toNat.toUInt8).toNat = 128 + r % 64 := by rw [u8_of (by omega) (by omega)]; omega
    generalize (224 + (r : Int) / 4096).toNat.toUInt8 = x1 at *
    generalize (128 + (r : Int) / 64 % 64).toNat.toUInt8 = x2 at *
    generalize (128 + (r : Int) % 64).toNat.toUInt8 = x3 at *
    refine valid_of_dec (l := x1 :: x2 :: x3 :: rest) (r := r) (n := 3) (by simp) ?_ (by decide)
    rw [decodeL_eq]
    simp only [List.getD_cons_zero, List.getD_cons_succ, a1, a2, a3, List.length_cons]
    unfold Lib.decodeN
    have d1 : r / 64 / 64 = r / 4096 := by omega
    rw [if_neg (by omega), if_neg (by omega), if_pos (by omega), if_pos (by omega)]
    exact Prod.ext (by simp only; omega) rfl
  · rw [Lib.encodeRuneZ_four (by omega) (by omega)]
    simp only [List.map_cons, List.map_nil, List.cons_append, List.nil_append]
    have a1 : ((240 + (r : Int) / 262144).toNat.toUInt8).toNat = 240 + r / 262144 := by rw [u8_of (by omega) (by omega)]; omega
    have a2 : ((128 + (r : Int) / 4096 % 64).toNat.toUInt8).toNat = 128 + r / 4096 % 64 := by rw [u8_of (by omega) (by omega)]; omega
    have a3 : ((128 + (r : Int) / 64 % 64).toNat.toUInt8).toNat = 128 + r / 64 % 64 := by rw [u8_of (by omega) (by omega)]; omega
    have a4 : ((128 + (r : Int) % 64).toNat.toUInt8).toNat = 128 + r % 64 := by rw [u8_of (by omega) (by omega)]; omega
    generalize (240 + (r : Int) / 262144).toNat.toUInt8 = x0 at *
    generalize (128 + (r : Int) / 4096 % 64).toNat.toUInt8 = x1 at *
    generalize (128 + (r : Int) / 64 % 64).toNat.toUInt8 = x2 at *
    generalize (128 + (r : Int) % 64).toNat.toUInt8 = x3 at *
    refine valid_of_dec (l := x0 :: x1 :: x2 :: x3 :: rest) (r := r) (n := 4) (by simp) ?_ (by decide)
    rw [decodeL_eq]
    simp only [List.getD_cons_zero, List.getD_cons_succ, a1, a2, a3, a4, List.length_cons]
    unfold Lib.decodeN
    rw [if_neg (by omega), if_neg (by omega), if_neg (by omega), if_pos (by omega), if_pos (by omega)]
    exact Prod.ext (by simp only; omega) rfl

theorem valid_quoteRune {r : Nat} (h : scalar r) (rest : List UInt8) : Lib.validD (quoteRune r ++ rest) = Lib.validD rest := by
  rcases quoteRune_ways (r := r) with ⟨h1, h2, h3, e⟩ | ⟨c, hc, e⟩ | ⟨h1, e⟩
  · rw [e]
    exact valid_rune h rest
  · rw [e]
    refine valid_asciis _ (fun x hx => ?_) rest
    simp only [List.mem_cons, List.not_mem_nil, or_false] at hx
    rcases hx with rfl | rfl
    · decide
    · exact hc
  · rw [e]
    have a1 := hexd_ok ⟨r / 16, by omega⟩
    have a2 := hexd_ok ⟨r % 16, by omega⟩
    refine valid_asciis _ (fun x hx => ?_) rest
    simp only [List.mem_cons, List.not_mem_nil, or_false] at hx
    rcases hx with rfl | rfl | rfl | rfl | rfl | rfl
    · decide
    · decide
    · decide
    · decide
    · exact a1.2.2.2
    · exact a2.2.2.2
theorem valid_runes : ∀ (L : List (Nat × Nat)), (∀ x ∈ L, scalar x.2) → ∀ rest, Lib.validD (quoteRunes L ++ rest) = Lib.validD rest
  | [], _, rest => rfl
  | x :: L, h, rest => by
    have e : quoteRunes (x :: L) = quoteRune x.2 ++ quoteRunes L := by simp [quoteRunes]
    rw [e, List.append_assoc, valid_quoteRune (h x (by simp))]
    exact valid_runes L (fun y hy => h y (by simp [hy])) rest
theorem valid_quote (s : ByteArray) (rest : List UInt8) : Lib.validD (quoteB s ++ rest) = Lib.validD rest := by
  have hs : ∀ x ∈ runes s, scalar x.2 := runesFrom_scalar _ _ _
  unfold quoteB
  rw [List.append_assoc]
  show Lib.validD (34 :: (quoteRunes (runes s) ++ ([34] ++ rest))) = _
  rw [valid_ascii (by decide), valid_runes _ hs]
  exact valid_ascii (c := 34) (by decide) rest
theorem validL : ∀ (l : List Val), (∀ v ∈ l, ∀ rest, Lib.validD (textV v ++ rest) = Lib.validD rest) → ∀ f rest, Lib.validD (textL l f ++ rest) = Lib.validD rest
  | [], _, f, rest => by simp [textL]
  | v :: r, h, f, rest => by
    simp only [textL]
    rw [List.append_assoc, List.append_assoc]
    have h1 := h v (by simp)
    have h2 := validL r (fun x hx => h x (by simp [hx])) false rest
    cases f
    · show Lib.validD (44 :: (textV v ++ (textL r false ++ rest))) = _
      rw [valid_ascii (by decide), h1, h2]
    · show Lib.validD (textV v ++ (textL r false ++ rest)) = _
      rw [h1, h2]
theorem validO : ∀ (l : List (ByteArray × Val)), (∀ m ∈ l, ∀ rest, Lib.validD (textV m.2 ++ rest) = Lib.validD rest) → ∀ f rest, Lib.validD (textO l f ++ rest) = Lib.validD rest
  | [], _, f, rest => by simp [textO]
  | (k, v) :: r, h, f, rest => by
    simp only [textO, textP]
    have h1 := h (k, v) (by simp)
    simp only at h1
    have h2 := validO r (fun x hx => h x (by simp [hx])) false rest
    cases f
    · show Lib.validD (44 :: (((quoteB k ++ 58 :: textV v) ++ textO r false) ++ rest)) = _
      rw [valid_ascii (by decide), List.append_assoc, List.append_assoc, valid_quote]
      show Lib.validD (58 :: (textV v ++ (textO r false ++ rest))) = _
      rw [valid_ascii (by decide), h1, h2]
    · show Lib.validD (((quoteB k ++ 58 :: textV v) ++ textO r false) ++ rest) = _
      rw [List.append_assoc, List.append_assoc, valid_quote]
      show Lib.validD (58 :: (textV v ++ (textO r false ++ rest))) = _
      rw [valid_ascii (by decide), h1, h2]
theorem validV : ∀ (v : Val) (rest : List UInt8), Lib.validD (textV v ++ rest) = Lib.validD rest := by
  refine Val.ind ?_
  intro k b n t l o hl ho rest
  simp only [textV]
  split
  · exact valid_asciis _ (fun c hc => (formatBool_out b c hc).2.2) rest
  split
  · exact valid_asciis _ (fun c hc => (itoa_out n c hc).2.2) rest
  split
  · exact valid_quote t rest
  split
  · show Lib.validD (91 :: ((textL l true ++ [93]) ++ rest)) = _
    rw [valid_ascii (by decide), List.append_assoc, validL l hl]
    exact valid_ascii (c := 93) (by decide) rest
  split
  · show Lib.validD (123 :: ((textO o true ++ [125]) ++ rest)) = _
    rw [valid_ascii (by decide), List.append_assoc, validO o ho]
    exact valid_ascii (c := 125) (by decide) rest
  · exact valid_asciis [110, 117, 108, 108] (by decide) rest
theorem valid_text (v : Val) : Lib.validD (textV v) = true := by
  have := validV v []
  rw [List.append_nil] at this
  rw [this]; rfl

end Go.Proofs.YtgjiienipeoajaaGreatDoor

/- Values that may be and have the same text are the same. Plain. No condition. -/
namespace Go.Proofs.YtgjiienipeoajaaGreatDoor
open Go.RowKit

/-- What a rune's bytes are decoded as, whatever follows. -/
theorem dec_rune {r : Nat} (h : scalar r) (rest : List UInt8) : Lib.decodeL (Lib.encodeRune (r : Int) ++ rest) = (r, (Lib.encodeRune (r : Int)).length) := by
  unfold scalar at h
  by_cases c1 : r < 128
  · have e : Lib.encodeRune (r : Int) = [UInt8.ofNat r] := by
      rw [encode_small (by omega) (by omega)]; simp
    have hn : (UInt8.ofNat r).toNat = r := by simp [UInt8.toNat_ofNat']; omega
    rw [e, decodeL_eq]
    show Lib.decodeN _ _ _ _ _ = (r, 1)
    unfold Lib.decodeN
    simp only [List.cons_append, List.nil_append, List.getD_cons_zero, hn]
    rw [if_pos c1]
  unfold Lib.encodeRune
  by_cases c2 : r < 2048
  · rw [Lib.encodeRuneZ_two (by omega) (by omega)]
    simp only [List.map_cons, List.map_nil, List.cons_append, List.nil_append, List.length_cons, List.length_nil]
    have a1 : ((192 + (r : Int) / 64).toNat.toUInt8).toNat = 192 + r / 64 := by rw [u8_of (by omega) (by omega)]; omega
    have a2 : ((128 + (r : Int) % 64).toNat.toUInt8).toNat = 128 + r % 64 := by rw [u8_of (by omega) (by omega)]; omega
    generalize (192 + (r : Int) / 64).toNat.toUInt8 = x1 at *
    generalize (128 + (r : Int) % 64).toNat.toUInt8 = x2 at *
    rw [decodeL_eq]
    simp only [List.getD_cons_zero, List.getD_cons_succ, a1, a2, List.length_cons]
    unfold Lib.decodeN
    rw [if_neg (by omega), if_pos (by omega), if_pos (by omega)]
    exact Prod.ext (by simp only; omega) rfl
  by_cases c3 : r < 65536
  · rw [Lib.encodeRuneZ_three (by omega)]
    simp only [List.map_cons, List.map_nil, List.cons_append, List.nil_append, List.length_cons, List.length_nil]
    have a1 : ((224 + (r : Int) / 4096).toNat.toUInt8).toNat = 224 + r / 4096 := by rw [u8_of (by omega) (by omega)]; omega
    have a2 : ((128 + (r : Int) / 64 % 64).toNat.toUInt8).toNat = 128 + r / 64 % 64 := by rw [u8_of (by omega) (by omega)]; omega
    have a3 : ((128 + (r : Int) % 64).toNat.toUInt8).toNat = 128 + r % 64 := by rw [u8_of (by omega) (by omega)]; omega
    generalize (224 + (r : Int) / 4096).toNat.toUInt8 = x1 at *
    generalize (128 + (r : Int) / 64 % 64).toNat.toUInt8 = x2 at *
    generalize (128 + (r : Int) % 64).toNat.toUInt8 = x3 at *
    rw [decodeL_eq]
    simp only [List.getD_cons_zero, List.getD_cons_succ, a1, a2, a3, List.length_cons]
    unfold Lib.decodeN
    have d1 : r / 64 / 64 = r / 4096 := by omega
    rw [if_neg (by omega), if_neg (by omega), if_pos (by omega), if_pos (by omega)]
    exact Prod.ext (by simp only; omega) rfl
  · rw [Lib.encodeRuneZ_four (by omega) (by omega)]
    simp only [List.map_cons, List.map_nil, List.cons_append, List.nil_append, List.length_cons, List.length_nil]
    have a1 : ((240 + (r : Int) / 262144).toNat.toUInt8).toNat = 240 + r / 262144 := by rw [u8_of (by omega) (by omega)]; omega
    have a2 : ((128 + (r : Int) / 4096 % 64).toNat.toUInt8).toNat = 128 + r / 4096 % 64 := by rw [u8_of (by omega) (by omega)]; omega
    have a3 : ((128 + (r : Int) / 64 % 64).toNat.toUInt8).toNat = 128 + r / 64 % 64 := by rw [u8_of (by omega) (by omega)]; omega
    have a4 : ((128 + (r : Int) % 64).toNat.toUInt8).toNat = 128 + r % 64 := by rw [u8_of (by omega) (by omega)]; omega
    generalize (240 + (r : Int) / 262144).toNat.toUInt8 = x0 at *
    generalize (128 + (r : Int) / 4096 % 64).toNat.toUInt8 = x1 at *
    generalize (128 + (r : Int) / 64 % 64).toNat.toUInt8 = x2 at *
    generalize (128 + (r : Int) % 64).toNat.toUInt8 = x3 at *
    rw [decodeL_eq]
    simp only [List.getD_cons_zero, List.getD_cons_succ, a1, a2, a3, a4, List.length_cons]
    unfold Lib.decodeN
    rw [if_neg (by omega), if_neg (by omega), if_neg (by omega), if_pos (by omega), if_pos (by omega)]
    exact Prod.ext (by simp only; omega) rfl

theorem encode_ne (r : Int) : Lib.encodeRune r ≠ [] := by
  unfold Lib.encodeRune Lib.encodeRuneZ
  repeat' split
  all_goals simp

/-- A hexadecimal letter's number. -/
def unhex (c : UInt8) : Nat := if c.toNat < 58 then c.toNat - 48 else c.toNat - 87
/-- An escape's letter's rune. -/
def unlet (c : UInt8) : Nat := if c.toNat = 98 then 8 else if c.toNat = 116 then 9 else if c.toNat = 110 then 10 else if c.toNat = 102 then 12 else if c.toNat = 114 then 13 else c.toNat
/-- The first rune of what stands in quotes, and how many bytes it takes. -/
def readRune (l : List UInt8) : Nat × Nat :=
  if l.getD 0 0 = 92 then (if l.getD 1 0 = 117 then (unhex (l.getD 4 0) * 16 + unhex (l.getD 5 0), 6) else (unlet (l.getD 1 0), 2)) else Lib.decodeL l

theorem small_esc : ∀ r : Fin 128, (r.val < 32 ∨ r.val = 34 ∨ r.val = 92) → ((quoteRune r.val).getD 0 0 = 92 ∧ (((quoteRune r.val).length = 2 ∧ (quoteRune r.val).getD 1 0 ≠ 117 ∧ unlet ((quoteRune r.val).getD 1 0) = r.val) ∨
    ((quoteRune r.val).length = 6 ∧ (quoteRune r.val).getD 1 0 = 117 ∧ unhex ((quoteRune r.val).getD 4 0) * 16 + unhex ((quoteRune r.val).getD 5 0) = r.val))) := by decide +kernel

theorem getD_app {l x : List UInt8} {i : Nat} (h : i < l.length) : (l ++ x).getD i 0 = l.getD i 0 := by
  simp [List.getD, List.getElem?_append_left h]

theorem read_rune {r : Nat} (h : scalar r) (x : List UInt8) : readRune (quoteRune r ++ x) = (r, (quoteRune r).length) := by
  by_cases hp : 32 ≤ r ∧ r ≠ 34 ∧ r ≠ 92
  · have e : quoteRune r = Lib.encodeRune r := by unfold quoteRune; rw [if_pos hp]
    rw [e]
    unfold readRune
    have h0 : (Lib.encodeRune (r : Int) ++ x).getD 0 0 ≠ 92 := by
      have hb := encode_bytes h
      cases he : Lib.encodeRune (r : Int) with
      | nil => exact absurd he (encode_ne r)
      | cons c y =>
        rw [he] at hb
        have := hb c (by simp)
        show c ≠ 92
        intro e'
        subst e'
        have e2 : (92 : UInt8).toNat = 92 := rfl
        omega
    rw [if_neg h0]
    exact dec_rune h x
  · have hr : r < 128 := by omega
    obtain ⟨h0, h1⟩ := small_esc ⟨r, hr⟩ (by simp only; omega)
    simp only at h0 h1
    unfold readRune
    rcases h1 with ⟨hl, h1, h2⟩ | ⟨hl, h1, h2⟩
    · rw [getD_app (by omega), getD_app (by omega), if_pos h0, if_neg h1, h2, hl]
    · rw [getD_app (by omega), getD_app (by omega), getD_app (by omega), getD_app (by omega), if_pos h0, if_pos h1, h2, hl]

theorem quoteRune_cut {r r' : Nat} (h : scalar r) (h' : scalar r') {x x' : List UInt8} (e : quoteRune r ++ x = quoteRune r' ++ x') : r = r' ∧ x = x' := by
  have a := read_rune h x
  rw [e, read_rune h' x'] at a
  have : r' = r := congrArg Prod.fst a
  subst this
  exact ⟨rfl, List.append_cancel_left e⟩

theorem quoteRune_first {r : Nat} (h : scalar r) : ∃ c y, quoteRune r = c :: y ∧ c ≠ 34 := by
  by_cases hp : 32 ≤ r ∧ r ≠ 34 ∧ r ≠ 92
  · have e : quoteRune r = Lib.encodeRune r := by unfold quoteRune; rw [if_pos hp]
    rw [e]
    have hb := encode_bytes h
    cases he : Lib.encodeRune (r : Int) with
    | nil => exact absurd he (encode_ne r)
    | cons c y =>
      rw [he] at hb
      have := hb c (by simp)
      refine ⟨c, y, rfl, fun e' => ?_⟩
      subst e'
      have e2 : (34 : UInt8).toNat = 34 := rfl
      omega
  · obtain ⟨h0, h1⟩ := small_esc ⟨r, by omega⟩ (by simp only; omega)
    simp only at h0 h1
    cases he : quoteRune r with
    | nil => rw [he] at h1; simp at h1
    | cons c y =>
      rw [he] at h0
      have h0' : c = 92 := h0
      exact ⟨c, y, rfl, by rw [h0']; decide⟩

theorem quoteRunes_cut : ∀ (L L' : List (Nat × Nat)), (∀ x ∈ L, scalar x.2) → (∀ x ∈ L', scalar x.2) → ∀ {x x' : List UInt8}, quoteRunes L ++ 34 :: x = quoteRunes L' ++ 34 :: x' → L.map (·.2) = L'.map (·.2) ∧ x = x'
  | [], [], _, _, x, x', e => by
    have e' : (34 :: x : List UInt8) = 34 :: x' := e
    exact ⟨rfl, (List.cons.inj e').2⟩
  | [], b :: L', _, h', x, x', e => by
    obtain ⟨c, y, hc, hn⟩ := quoteRune_first (h' b (by simp))
    have e' : (34 :: x : List UInt8) = (quoteRune b.2 ++ quoteRunes L') ++ 34 :: x' := by
      have : quoteRunes (b :: L') = quoteRune b.2 ++ quoteRunes L' := by simp [quoteRunes]
      rw [← this]; exact e
    rw [hc] at e'
    exact absurd (List.cons.inj e').1.symm hn
  | a :: L, [], h, _, x, x', e => by
    obtain ⟨c, y, hc, hn⟩ := quoteRune_first (h a (by simp))
    have e' : (quoteRune a.2 ++ quoteRunes L) ++ 34 :: x = (34 :: x' : List UInt8) := by
      have : quoteRunes (a :: L) = quoteRune a.2 ++ quoteRunes L := by simp [quoteRunes]
      rw [← this]; exact e
    rw [hc] at e'
    exact absurd (List.cons.inj e').1 hn
  | a :: L, b :: L', h, h', x, x', e => by
    have e1 : quoteRunes (a :: L) = quoteRune a.2 ++ quoteRunes L := by simp [quoteRunes]
    have e2 : quoteRunes (b :: L') = quoteRune b.2 ++ quoteRunes L' := by simp [quoteRunes]
    rw [e1, e2, List.append_assoc, List.append_assoc] at e
    obtain ⟨h1, h2⟩ := quoteRune_cut (h a (by simp)) (h' b (by simp)) e
    obtain ⟨h3, h4⟩ := quoteRunes_cut L L' (fun y hy => h y (by simp [hy])) (fun y hy => h' y (by simp [hy])) h2
    exact ⟨by rw [List.map_cons, List.map_cons, h1, h3], h4⟩

/-- A text is its runes' bytes. -/
theorem runes_back : ∀ (n : Nat) (l : List UInt8) (p : Nat), l.length ≤ n → Lib.validD l = true → (runesFrom n l p).flatMap (fun x => Lib.encodeRune (x.2 : Int)) = l
  | 0, l, p, h, _ => by
    have : l = [] := List.length_eq_zero_iff.1 (by omega)
    subst this
    rfl
  | n + 1, l, p, h, hv => by
    by_cases hl : l = []
    · subst hl; simp [runesFrom]
    · rw [validD_step hl] at hv
      split at hv
      · cases hv
      rename_i hg
      have hw := Lib.decodeL_width l
      have hle := Lib.decodeL_le l hl
      simp only [runesFrom]
      rw [if_neg hl, if_neg hg, List.flatMap_cons, Lib.encode_decode l hl hg, runes_back n _ _ (by rw [List.length_drop]; omega) hv]
      exact List.take_append_drop _ _
theorem runes_inj {s s' : ByteArray} (h : validB s = true) (h' : validB s' = true) (e : (runes s).map (·.2) = (runes s').map (·.2)) : s = s' := by
  have a := runes_back s.size s.data.toList 0 (by rw [size_list]; exact Nat.le_refl _) h
  have b := runes_back s'.size s'.data.toList 0 (by rw [size_list]; exact Nat.le_refl _) h'
  have key : ∀ L : List (Nat × Nat), L.flatMap (fun x => Lib.encodeRune (x.2 : Int)) = (L.map (·.2)).flatMap (fun r => Lib.encodeRune ((r : Nat) : Int)) := by
    intro L
    induction L with
    | nil => rfl
    | cons x L ih => simp [List.flatMap_cons, ih]
  rw [key] at a b
  have e' : s.data.toList = s'.data.toList := by
    rw [← a, ← b]
    unfold runes at e
    rw [e]
  exact ByteArray.ext (Array.ext' e')

theorem quote_cut {s s' : ByteArray} (h : validB s = true) (h' : validB s' = true) {x x' : List UInt8} (e : quoteB s ++ x = quoteB s' ++ x') : s = s' ∧ x = x' := by
  unfold quoteB at e
  rw [List.append_assoc, List.append_assoc] at e
  have e' : quoteRunes (runes s) ++ 34 :: x = quoteRunes (runes s') ++ 34 :: x' := (List.cons.inj e).2
  obtain ⟨h1, h2⟩ := quoteRunes_cut _ _ (runesFrom_scalar _ _ _) (runesFrom_scalar _ _ _) e'
  exact ⟨runes_inj h h' h1, h2⟩

end Go.Proofs.YtgjiienipeoajaaGreatDoor
