/- A value's text is a text, and clean. Plain. No condition. -/
import Derived.Test.YtjmkafbdmppfaaaDoorProg
import Derived.Test.YtjmkafbdmppfaaaDoorRQuoP
import Derived.Test.YtjmkafbdmppfaaaDoorLess
namespace Go.Proofs.YtjmkafbdmppfaaaDoor
open Go.RowKit

/-- What the law's loop finds. -/
def clean : Bool → List UInt8 → Bool
  | inn, [] => !inn
  | inn, c :: r => if c.toNat < 32 ∨ (c.toNat = 32 ∧ inn = false) then false else if inn = true ∧ c.toNat = 92 then (match r with | [] => !inn | _ :: r' => clean inn r') else if c.toNat = 34 then clean (!inn) r else clean inn r

theorem clean_cons (inn : Bool) (c : UInt8) (r : List UInt8) : clean inn (c :: r) = if c.toNat < 32 ∨ (c.toNat = 32 ∧ inn = false) then false else if inn = true ∧ c.toNat = 92 then (match r with | [] => !inn | _ :: r' => clean inn r') else if c.toNat = 34 then clean (!inn) r else clean inn r := by
  cases r with
  | nil => unfold clean; rfl
  | cons a b => rw [clean]

/-- Bytes outside texts. -/
theorem clean_out {c : UInt8} (h1 : 33 ≤ c.toNat) (h2 : c.toNat ≠ 34) (r : List UInt8) : clean false (c :: r) = clean false r := by
  rw [clean_cons, if_neg (by omega), if_neg (by simp), if_neg h2]
theorem clean_outs : ∀ (a : List UInt8), (∀ c ∈ a, 33 ≤ c.toNat ∧ c.toNat ≠ 34) → ∀ r, clean false (a ++ r) = clean false r
  | [], _, r => rfl
  | c :: a, h, r => by
    rw [List.cons_append, clean_out (h c (by simp)).1 (h c (by simp)).2]
    exact clean_outs a (fun x hx => h x (by simp [hx])) r
/-- Bytes in texts. -/
theorem clean_in {c : UInt8} (h1 : 32 ≤ c.toNat) (h2 : c.toNat ≠ 34) (h3 : c.toNat ≠ 92) (r : List UInt8) : clean true (c :: r) = clean true r := by
  rw [clean_cons, if_neg (by simp; omega), if_neg (by simp [h3]), if_neg h2]
theorem clean_ins : ∀ (a : List UInt8), (∀ c ∈ a, 32 ≤ c.toNat ∧ c.toNat ≠ 34 ∧ c.toNat ≠ 92) → ∀ r, clean true (a ++ r) = clean true r
  | [], _, r => rfl
  | c :: a, h, r => by
    rw [List.cons_append, clean_in (h c (by simp)).1 (h c (by simp)).2.1 (h c (by simp)).2.2]
    exact clean_ins a (fun x hx => h x (by simp [hx])) r
theorem clean_esc (c : UInt8) (r : List UInt8) : clean true (92 :: c :: r) = clean true r := by
  rw [clean_cons, if_neg (by decide), if_pos (by decide)]
theorem clean_open (r : List UInt8) : clean false (34 :: r) = clean true r := by
  rw [clean_cons, if_neg (by decide), if_neg (by decide), if_pos (by decide)]; rfl
theorem clean_close (r : List UInt8) : clean true (34 :: r) = clean false r := by
  rw [clean_cons, if_neg (by decide), if_neg (by decide), if_pos (by decide)]; rfl

theorem encode_bytes {r : Nat} (h : scalar r) : ∀ c ∈ Lib.encodeRune (r : Int), (r < 128 ∧ c.toNat = r) ∨ (128 ≤ r ∧ 128 ≤ c.toNat) := by
  intro c hc
  unfold scalar at h
  unfold Lib.encodeRune at hc
  obtain ⟨z, hz, rfl⟩ := List.mem_map.1 hc
  have key : (r < 128 ∧ z = r) ∨ (128 ≤ r ∧ 128 ≤ z ∧ z < 256) := by
    unfold Lib.encodeRuneZ at hz
    split at hz
    · simp at hz; omega
    split at hz
    · simp at hz; omega
    split at hz
    · simp at hz; omega
    split at hz
    · simp at hz; omega
    · omega
  have e : z.toNat.toUInt8.toNat = z.toNat := by
    have : z.toNat < 256 := by omega
    simp [Nat.toUInt8, UInt8.toNat_ofNat', Nat.mod_eq_of_lt this]
  rw [e]
  omega

theorem hexd_ok : ∀ d : Fin 16, 32 ≤ (hexd d.val).toNat ∧ (hexd d.val).toNat ≠ 34 ∧ (hexd d.val).toNat ≠ 92 ∧ (hexd d.val).toNat < 128 := by decide

theorem findKV_small {r : Nat} {c : Int} (h : findKV (r : Int) letterTab = some c) : r < 128 := by
  simp only [letterTab, findKV] at h
  repeat' split at h
  all_goals first | omega | cases h

/-- How a rune is written: three ways. -/
theorem quoteRune_ways {r : Nat} : (32 ≤ r ∧ r ≠ 34 ∧ r ≠ 92 ∧ quoteRune r = Lib.encodeRune r) ∨ (∃ c : UInt8, c.toNat < 128 ∧ quoteRune r = [92, c]) ∨ (r < 32 ∧ quoteRune r = [92, 117, 48, 48, hexd (r / 16), hexd (r % 16)]) := by
  unfold quoteRune
  by_cases h : 32 ≤ r ∧ r ≠ 34 ∧ r ≠ 92
  · rw [if_pos h]
    exact .inl ⟨h.1, h.2.1, h.2.2, rfl⟩
  · rw [if_neg h]
    cases hk : findKV (r : Int) letterTab with
    | none =>
      have := letters_none hk h
      exact .inr (.inr ⟨this, rfl⟩)
    | some c =>
      refine .inr (.inl ⟨_, ?_, rfl⟩)
      have := letters_range hk
      have e : (UInt8.ofNat c.toNat).toNat = c.toNat := by simp [UInt8.toNat_ofNat']; omega
      rw [e]; omega

theorem clean_rune {r : Nat} (h : scalar r) (rest : List UInt8) : clean true (quoteRune r ++ rest) = clean true rest := by
  rcases quoteRune_ways (r := r) with ⟨h1, h2, h3, e⟩ | ⟨c, _, e⟩ | ⟨h1, e⟩
  · rw [e]
    exact clean_ins _ (fun c hc => by have := encode_bytes h c hc; omega) rest
  · rw [e]
    exact clean_esc c rest
  · rw [e]
    have a1 := hexd_ok ⟨r / 16, by omega⟩
    have a2 := hexd_ok ⟨r % 16, by omega⟩
    show clean true (92 :: 117 :: 48 :: 48 :: hexd (r / 16) :: hexd (r % 16) :: rest) = _
    rw [clean_esc, clean_in (by decide) (by decide) (by decide), clean_in (by decide) (by decide) (by decide), clean_in a1.1 a1.2.1 a1.2.2.1, clean_in a2.1 a2.2.1 a2.2.2.1]
theorem clean_runes : ∀ (L : List (Nat × Nat)), (∀ x ∈ L, scalar x.2) → ∀ rest, clean true (quoteRunes L ++ rest) = clean true rest
  | [], _, rest => rfl
  | x :: L, h, rest => by
    have e : quoteRunes (x :: L) = quoteRune x.2 ++ quoteRunes L := by simp [quoteRunes]
    rw [e, List.append_assoc, clean_rune (h x (by simp))]
    exact clean_runes L (fun y hy => h y (by simp [hy])) rest
theorem clean_quote (s : ByteArray) (rest : List UInt8) : clean false (quoteB s ++ rest) = clean false rest := by
  have hs : ∀ x ∈ runes s, scalar x.2 := runesFrom_scalar _ _ _
  unfold quoteB
  rw [List.append_assoc]
  show clean false (34 :: (quoteRunes (runes s) ++ ([34] ++ rest))) = _
  rw [clean_open, clean_runes _ hs]
  exact clean_close rest

theorem formatBool_out (b : Bool) : ∀ c ∈ Lib.formatBool b, 33 ≤ c.toNat ∧ c.toNat ≠ 34 ∧ c.toNat < 128 := by cases b <;> decide
theorem digs_out (u : Nat) : ∀ c ∈ digs u, 33 ≤ c.toNat ∧ c.toNat ≠ 34 ∧ c.toNat < 128 := by
  induction u using Nat.strongRecOn with
  | _ u ih =>
    intro c hc
    by_cases h : u = 0
    · subst h
      rw [digs_zero] at hc
      cases hc
    · rw [digs_pos h] at hc
      rcases List.mem_append.1 hc with hc | hc
      · exact ih (u / 10) (by omega) c hc
      · simp only [List.mem_singleton] at hc
        subst hc
        have : ∀ d : Fin 10, 33 ≤ (dgt d.val).toNat ∧ (dgt d.val).toNat ≠ 34 ∧ (dgt d.val).toNat < 128 := by decide
        exact this ⟨u % 10, by omega⟩
theorem itoa_out (n : Int) : ∀ c ∈ Lib.itoa n, 33 ≤ c.toNat ∧ c.toNat ≠ 34 ∧ c.toNat < 128 := by
  intro c hc
  unfold Lib.itoa at hc
  have dec : ∀ u : Nat, ∀ c ∈ Lib.decDigits u, 33 ≤ c.toNat ∧ c.toNat ≠ 34 ∧ c.toNat < 128 := by
    intro u c hc
    by_cases h : u = 0
    · subst h
      rw [Lib.decDigits_one (by omega)] at hc
      simp only [List.mem_singleton] at hc
      subst hc
      decide
    · rw [← digs_dec u h] at hc
      exact digs_out u c hc
  split at hc
  · rcases List.mem_cons.1 hc with rfl | hc
    · decide
    · exact dec _ c hc
  · exact dec _ c hc

theorem cleanL : ∀ (l : List Val), (∀ v ∈ l, ∀ rest, clean false (textV v ++ rest) = clean false rest) → ∀ f rest, clean false (textL l f ++ rest) = clean false rest
  | [], _, f, rest => by simp [textL]
  | v :: r, h, f, rest => by
    simp only [textL]
    rw [List.append_assoc, List.append_assoc]
    have h1 := h v (by simp)
    have h2 := cleanL r (fun x hx => h x (by simp [hx])) false rest
    cases f
    · show clean false (44 :: (textV v ++ (textL r false ++ rest))) = _
      rw [clean_out (by decide) (by decide), h1, h2]
    · show clean false (textV v ++ (textL r false ++ rest)) = _
      rw [h1, h2]
theorem cleanO : ∀ (l : List (ByteArray × Val)), (∀ m ∈ l, ∀ rest, clean false (textV m.2 ++ rest) = clean false rest) → ∀ f rest, clean false (textO l f ++ rest) = clean false rest
  | [], _, f, rest => by simp [textO]
  | (k, v) :: r, h, f, rest => by
    simp only [textO, textP]
    have h1 := h (k, v) (by simp)
    simp only at h1
    have h2 := cleanO r (fun x hx => h x (by simp [hx])) false rest
    cases f
    · show clean false (44 :: (((quoteB k ++ 58 :: textV v) ++ textO r false) ++ rest)) = _
      rw [clean_out (by decide) (by decide), List.append_assoc, List.append_assoc, clean_quote]
      show clean false (58 :: (textV v ++ (textO r false ++ rest))) = _
      rw [clean_out (by decide) (by decide), h1, h2]
    · show clean false (((quoteB k ++ 58 :: textV v) ++ textO r false) ++ rest) = _
      rw [List.append_assoc, List.append_assoc, clean_quote]
      show clean false (58 :: (textV v ++ (textO r false ++ rest))) = _
      rw [clean_out (by decide) (by decide), h1, h2]
theorem cleanV : ∀ (v : Val) (rest : List UInt8), clean false (textV v ++ rest) = clean false rest := by
  refine Val.ind ?_
  intro k b n t l o hl ho rest
  simp only [textV]
  split
  · exact clean_outs _ (fun c hc => ⟨(formatBool_out b c hc).1, (formatBool_out b c hc).2.1⟩) rest
  split
  · exact clean_outs _ (fun c hc => ⟨(itoa_out n c hc).1, (itoa_out n c hc).2.1⟩) rest
  split
  · exact clean_quote t rest
  split
  · show clean false (91 :: ((textL l true ++ [93]) ++ rest)) = _
    rw [clean_out (by decide) (by decide), List.append_assoc, cleanL l hl]
    exact clean_out (c := 93) (by decide) (by decide) rest
  split
  · show clean false (123 :: ((textO o true ++ [125]) ++ rest)) = _
    rw [clean_out (by decide) (by decide), List.append_assoc, cleanO o ho]
    exact clean_out (c := 125) (by decide) (by decide) rest
  · exact clean_outs [110, 117, 108, 108] (by decide) rest
theorem clean_text (v : Val) : clean false (textV v) = true := by
  have := cleanV v []
  rw [List.append_nil] at this
  rw [this]; rfl

/-- ASCII bytes are texts. -/
theorem valid_ascii {c : UInt8} (h : c.toNat < 128) (rest : List UInt8) : Lib.validD (c :: rest) = Lib.validD rest := by
  rw [validD_step (by simp), decodeL_eq]
  have e : Lib.decodeN (c :: rest).length ((c :: rest).getD 0 0).toNat ((c :: rest).getD 1 0).toNat ((c :: rest).getD 2 0).toNat ((c :: rest).getD 3 0).toNat = (c.toNat, 1) := by
    unfold Lib.decodeN
    rw [if_pos (by simpa using h)]
    simp
  rw [e, if_neg (by simp only; omega)]
  rfl
theorem valid_asciis : ∀ (a : List UInt8), (∀ c ∈ a, c.toNat < 128) → ∀ rest, Lib.validD (a ++ rest) = Lib.validD rest
  | [], _, rest => rfl
  | c :: a, h, rest => by
    rw [List.cons_append, valid_ascii (h c (by simp))]
    exact valid_asciis a (fun x hx => h x (by simp [hx])) rest

theorem u8_of {z : Int} (h0 : 0 ≤ z) (h1 : z < 256) : (z.toNat.toUInt8).toNat = z.toNat := by
  have : z.toNat < 256 := by omega
  simp [Nat.toUInt8, UInt8.toNat_ofNat', Nat.mod_eq_of_lt this]

theorem valid_of_dec {l : List UInt8} {r n : Nat} (hne : l ≠ []) (h : Lib.decodeL l = (r, n)) (hn : n ≠ 1) : Lib.validD l = Lib.validD (l.drop n) := by
  rw [validD_step hne, h, if_neg (by simp only; omega)]

theorem valid_rune {r : Nat} (h : scalar r) (rest : List UInt8) : Lib.validD (Lib.encodeRune (r : Int) ++ rest) = Lib.validD rest := by
  unfold scalar at h
  by_cases c1 : r < 128
  · refine valid_asciis _ (fun c hc => ?_) rest
    have := encode_bytes (r := r) (by unfold scalar; exact h) c hc
    omega
  unfold Lib.encodeRune
  by_cases c2 : r < 2048
  · rw [Lib.encodeRuneZ_two (by omega) (by omega)]
    simp only [List.map_cons, List.map_nil, List.cons_append, List.nil_append]
    have a1 : ((192 + (r : Int) / 64).toNat.toUInt8).toNat = 192 + r / 64 := by rw [u8_of (by omega) (by omega)]; omega
    have a2 : ((128 + (r : Int) % 64).toNat.toUInt8).toNat = 128 + r % 64 := by rw [u8_of (by omega) (by omega)]; omega
    generalize (192 + (r : Int) / 64).toNat.toUInt8 = x1 at *
    generalize (128 + (r : Int) % 64).toNat.toUInt8 = x2 at *
    refine valid_of_dec (l := x1 :: x2 :: rest) (r := r) (n := 2) (by simp) ?_ (by decide)
    rw [decodeL_eq]
    simp only [List.getD_cons_zero, List.getD_cons_succ, a1, a2, List.length_cons]
    unfold Lib.decodeN
    rw [if_neg (by omega), if_pos (by omega), if_pos (by omega)]
    exact Prod.ext (by simp only; omega) rfl
  by_cases c3 : r < 65536
  · rw [Lib.encodeRuneZ_three (by omega)]
    simp only [List.map_cons, List.map_nil, List.cons_append, List.nil_append]
    have a1 : ((224 + (r : Int) / 4096).toNat.toUInt8).toNat = 224 + r / 4096 := by rw [u8_of (by omega) (by omega)]; omega
    have a2 : ((128 + (r : Int) / 64 % 64).toNat.toUInt8).toNat = 128 + r / 64 % 64 := by rw [u8_of (by omega) (by omega)]; omega
    have a3 : ((128 + (r : Int) % 64).toNat.toUInt8).toNat = 128 + r % 64 := by rw [u8_of (by omega) (by omega)]; omega
    generalize (224 + (r : Int) / 4096).toNat.toUInt8 = x1 at *
    generalize (128 + (r : Int) / 64 % 64).toNat.toUInt8 = x2 at *
    generalize (128 + (r : Int) % 64).toNat.toUInt8 = x3 at *
    refine valid_of_dec (l := x1 :: x2 :: x3 :: rest) (r := r) (n := 3) (by simp) ?_ (by decide)
    rw [decodeL_eq]
    simp only [List.getD_cons_zero, List.getD_cons_succ, a1, a2, a3, List.length_cons]
    unfold Lib.decodeN
    have d1 : r / 64 / 64 = r / 4096 := by omega
    rw [if_neg (by omega), if_neg (by omega), if_pos (by omega), if_pos (by omega)]
    exact Prod.ext (by simp only; omega) rfl
  · rw [Lib.encodeRuneZ_four (by omega) (by omega)]
    simp only [List.map_cons, List.map_nil, List.cons_append, List.nil_append]
    have a1 : ((240 + (r : Int) / 262144).toNat.toUInt8).toNat = 240 + r / 262144 := by rw [u8_of (by omega) (by omega)]; omega
    have a2 : ((128 + (r : Int) / 4096 % 64).toNat.toUInt8).toNat = 128 + r / 4096 % 64 := by rw [u8_of (by omega) (by omega)]; omega
    have a3 : ((128 + (r : Int) / 64 % 64).toNat.toUInt8).toNat = 128 + r / 64 % 64 := by rw [u8_of (by omega) (by omega)]; omega
    have a4 : ((128 + (r : Int) % 64).toNat.toUInt8).toNat = 128 + r % 64 := by rw [u8_of (by omega) (by omega)]; omega
    generalize (240 + (r : Int) / 262144).toNat.toUInt8 = x0 at *
    generalize (128 + (r : Int) / 4096 % 64).toNat.toUInt8 = x1 at *
    generalize (128 + (r : Int) / 64 % 64).toNat.toUInt8 = x2 at *
    generalize (128 + (r : Int) % 64).toNat.toUInt8 = x3 at *
    refine valid_of_dec (l := x0 :: x1 :: x2 :: x3 :: rest) (r := r) (n := 4) (by simp) ?_ (by decide)
    rw [decodeL_eq]
    simp only [List.getD_cons_zero, List.getD_cons_succ, a1, a2, a3, a4, List.length_cons]
    unfold Lib.decodeN
    rw [if_neg (by omega), if_neg (by omega), if_neg (by omega), if_pos (by omega), if_pos (by omega)]
    exact Prod.ext (by simp only; omega) rfl

theorem valid_quoteRune {r : Nat} (h : scalar r) (rest : List UInt8) : Lib.validD (quoteRune r ++ rest) = Lib.validD rest := by
  rcases quoteRune_ways (r := r) with ⟨h1, h2, h3, e⟩ | ⟨c, hc, e⟩ | ⟨h1, e⟩
  · rw [e]
    exact valid_rune h rest
  · rw [e]
    refine valid_asciis _ (fun x hx => ?_) rest
    simp only [List.mem_cons, List.not_mem_nil, or_false] at hx
    rcases hx with rfl | rfl
    · decide
    · exact hc
  · rw [e]
    have a1 := hexd_ok ⟨r / 16, by omega⟩
    have a2 := hexd_ok ⟨r % 16, by omega⟩
    refine valid_asciis _ (fun x hx => ?_) rest
    simp only [List.mem_cons, List.not_mem_nil, or_false] at hx
    rcases hx with rfl | rfl | rfl | rfl | rfl | rfl
    · decide
    · decide
    · decide
    · decide
    · exact a1.2.2.2
    · exact a2.2.2.2
theorem valid_runes : ∀ (L : List (Nat × Nat)), (∀ x ∈ L, scalar x.2) → ∀ rest, Lib.validD (quoteRunes L ++ rest) = Lib.validD rest
  | [], _, rest => rfl
  | x :: L, h, rest => by
    have e : quoteRunes (x :: L) = quoteRune x.2 ++ quoteRunes L := by simp [quoteRunes]
    rw [e, List.append_assoc, valid_quoteRune (h x (by simp))]
    exact valid_runes L (fun y hy => h y (by simp [hy])) rest
theorem valid_quote (s : ByteArray) (rest : List UInt8) : Lib.validD (quoteB s ++ rest) = Lib.validD rest := by
  have hs : ∀ x ∈ runes s, scalar x.2 := runesFrom_scalar _ _ _
  unfold quoteB
  rw [List.append_assoc]
  show Lib.validD (34 :: (quoteRunes (runes s) ++ ([34] ++ rest))) = _
  rw [valid_ascii (by decide), valid_runes _ hs]
  exact valid_ascii (c := 34) (by decide) rest
theorem validL : ∀ (l : List Val), (∀ v ∈ l, ∀ rest, Lib.validD (textV v ++ rest) = Lib.validD rest) → ∀ f rest, Lib.validD (textL l f ++ rest) = Lib.validD rest
  | [], _, f, rest => by simp [textL]
  | v :: r, h, f, rest => by
    simp only [textL]
    rw [List.append_assoc, List.append_assoc]
    have h1 := h v (by simp)
    have h2 := validL r (fun x hx => h x (by simp [hx])) false rest
    cases f
    · show Lib.validD (44 :: (textV v ++ (textL r false ++ rest))) = _
      rw [valid_ascii (by decide), h1, h2]
    · show Lib.validD (textV v ++ (textL r false ++ rest)) = _
      rw [h1, h2]
theorem validO : ∀ (l : List (ByteArray × Val)), (∀ m ∈ l, ∀ rest, Lib.validD (textV m.2 ++ rest) = Lib.validD rest) → ∀ f rest, Lib.validD (textO l f ++ rest) = Lib.validD rest
  | [], _, f, rest => by simp [textO]
  | (k, v) :: r, h, f, rest => by
    simp only [textO, textP]
    have h1 := h (k, v) (by simp)
    simp only at h1
    have h2 := validO r (fun x hx => h x (by simp [hx])) false rest
    cases f
    · show Lib.validD (44 :: (((quoteB k ++ 58 :: textV v) ++ textO r false) ++ rest)) = _
      rw [valid_ascii (by decide), List.append_assoc, List.append_assoc, valid_quote]
      show Lib.validD (58 :: (textV v ++ (textO r false ++ rest))) = _
      rw [valid_ascii (by decide), h1, h2]
    · show Lib.validD (((quoteB k ++ 58 :: textV v) ++ textO r false) ++ rest) = _
      rw [List.append_assoc, List.append_assoc, valid_quote]
      show Lib.validD (58 :: (textV v ++ (textO r false ++ rest))) = _
      rw [valid_ascii (by decide), h1, h2]
theorem validV : ∀ (v : Val) (rest : List UInt8), Lib.validD (textV v ++ rest) = Lib.validD rest := by
  refine Val.ind ?_
  intro k b n t l o hl ho rest
  simp only [textV]
  split
  · exact valid_asciis _ (fun c hc => (formatBool_out b c hc).2.2) rest
  split
  · exact valid_asciis _ (fun c hc => (itoa_out n c hc).2.2) rest
  split
  · exact valid_quote t rest
  split
  · show Lib.validD (91 :: ((textL l true ++ [93]) ++ rest)) = _
    rw [valid_ascii (by decide), List.append_assoc, validL l hl]
    exact valid_ascii (c := 93) (by decide) rest
  split
  · show Lib.validD (123 :: ((textO o true ++ [125]) ++ rest)) = _
    rw [valid_ascii (by decide), List.append_assoc, validO o ho]
    exact valid_ascii (c := 125) (by decide) rest
  · exact valid_asciis [110, 117, 108, 108] (by decide) rest
theorem valid_text (v : Val) : Lib.validD (textV v) = true := by
  have := validV v []
  rw [List.append_nil] at this
  rw [this]; rfl

end Go.Proofs.YtjmkafbdmppfaaaDoor
