/- Parts, joined: A value's text is a text, and clean. Plain. No condition. commonplaceref11.Equal: yes of a mutator and itself alone. Condition: bulks of at most 10^8. -/
import Derived.Test.YtkoliaodkojghaaGreatDoorProg
import Derived.Deep.RegionHeld3
import Derived.Test.YtkoliaodkojghaaGreatDoorKPush26
import Derived.Test.YtkoliaodkojghaaGreatDoorKPush29
import Derived.Test.YtkoliaodkojghaaGreatDoorKPush35
import Derived.Test.YtkoliaodkojghaaGreatDoorKPushUnlike1
/- A value's text is a text, and clean. Plain. No condition. -/
namespace Go.Proofs.YtkoliaodkojghaaGreatDoor
open Go.RowKit

/-- What the law's loop finds. -/
def clean : Bool → List UInt8 → Bool
  | inn, [] => !inn
  | inn, c :: r => if c.toNat < 32 ∨ (c.toNat = 32 ∧ inn = false) then false else if inn = true ∧ c.toNat = 92 then (match r with | [] => !inn | _ :: r' => clean inn r') else if c.toNat = 34 then clean (!inn) r else clean inn r

theorem clean_cons (inn : Bool) (c : UInt8) (r : List UInt8) : clean inn (c :: r) = if c.toNat < 32 ∨ (c.toNat = 32 ∧ inn = false) then false else if inn = true ∧ c.toNat = 92 then (match r with | [] => !inn | _ :: r' => clean inn r') else if c.toNat = 34 then clean (!inn) r else clean inn r := by
  cases r with
  | nil => unfold clean; rfl
  | cons a b => rw [clean]

/-- Bytes outside texts. -/
theorem clean_out {c : UInt8} (h1 : 33 ≤ c.toNat) (h2 : c.toNat ≠ 34) (r : List UInt8) : clean false (c :: r) = clean false r := by
  rw [clean_cons, if_neg (by omega), if_neg (by simp), if_neg h2]
theorem clean_outs : ∀ (a : List UInt8), (∀ c ∈ a, 33 ≤ c.toNat ∧ c.toNat ≠ 34) → ∀ r, clean false (a ++ r) = clean false r
  | [], _, r => rfl
  | c :: a, h, r => by
    rw [List.cons_append, clean_out (h c (by simp)).1 (h c (by simp)).2]
    exact clean_outs a (fun x hx => h x (by simp [hx])) r
/-- Bytes in texts. -/
theorem clean_in {c : UInt8} (h1 : 32 ≤ c.toNat) (h2 : c.toNat ≠ 34) (h3 : c.toNat ≠ 92) (r : List UInt8) : clean true (c :: r) = clean true r := by
  rw [clean_cons, if_neg (by simp; omega), if_neg (by simp [h3]), if_neg h2]
theorem clean_ins : ∀ (a : List UInt8), (∀ c ∈ a, 32 ≤ c.toNat ∧ c.toNat ≠ 34 ∧ c.toNat ≠ 92) → ∀ r, clean true (a ++ r) = clean true r
  | [], _, r => rfl
  | c :: a, h, r => by
    rw [List.cons_append, clean_in (h c (by simp)).1 (h c (by simp)).2.1 (h c (by simp)).2.2]
    exact clean_ins a (fun x hx => h x (by simp [hx])) r
theorem clean_esc (c : UInt8) (r : List UInt8) : clean true (92 :: c :: r) = clean true r := by
  rw [clean_cons, if_neg (by decide), if_pos (by decide)]
theorem clean_open (r : List UInt8) : clean false (34 :: r) = clean true r := by
  rw [clean_cons, if_neg (by decide), if_neg (by decide), if_pos (by decide)]; rfl
theorem clean_close (r : List UInt8) : clean true (34 :: r) = clean false r := by
  rw [clean_cons, if_neg (by decide), if_neg (by decide), if_pos (by decide)]; rfl

theorem encode_bytes {r : Nat} (h : scalar r) : ∀ c ∈ Lib.encodeRune (r : Int), (r < 128 ∧ c.toNat = r) ∨ (128 ≤ r ∧ 128 ≤ c.toNat) := by
  intro c hc
  unfold scalar at h
  unfold Lib.encodeRune at hc
  obtain ⟨z, hz, rfl⟩ := List.mem_map.1 hc
  have key : (r < 128 ∧ z = r) ∨ (128 ≤ r ∧ 128 ≤ z ∧ z < 256) := by
    unfold Lib.encodeRuneZ at hz
    split at hz
    · simp at hz; omega
    split at hz
    · simp at hz; omega
    split at hz
    · simp at hz; omega
    split at hz
    · simp at hz; omega
    · omega
  have e : z.toNat.toUInt8.toNat = z.toNat := by
    have : z.toNat < 256 := by omega
    simp [Nat.toUInt8, UInt8.toNat_ofNat', Nat.mod_eq_of_lt this]
  rw [e]
  omega

theorem hexd_ok : ∀ d : Fin 16, 32 ≤ (hexd d.val).toNat ∧ (hexd d.val).toNat ≠ 34 ∧ (hexd d.val).toNat ≠ 92 ∧ (hexd d.val).toNat < 128 := by decide

theorem findKV_small {r : Nat} {c : Int} (h : findKV (r : Int) letterTab = some c) : r < 128 := by
  simp only [letterTab, findKV] at h
  repeat' split at h
  all_goals first | omega | cases h

/-- How a rune is written: three ways. -/
theorem quoteRune_ways {r : Nat} : (32 ≤ r ∧ r ≠ 34 ∧ r ≠ 92 ∧ quoteRune r = Lib.encodeRune r) ∨ (∃ c : UInt8, c.toNat < 128 ∧ quoteRune r = [92, c]) ∨ (r < 32 ∧ quoteRune r = [92, 117, 48, 48, hexd (r / 16), hexd (r % 16)]) := by
  unfold quoteRune
  by_cases h : 32 ≤ r ∧ r ≠ 34 ∧ r ≠ 92
  · rw [if_pos h]
    exact .inl ⟨h.1, h.2.1, h.2.2, rfl⟩
  · rw [if_neg h]
    cases hk : findKV (r : Int) letterTab with
    | none =>
      have := letters_none hk h
      exact .inr (.inr ⟨this, rfl⟩)
    | some c =>
      refine .inr (.inl ⟨_, ?_, rfl⟩)
      have := letters_range hk
      have e : (UInt8.ofNat c.toNat).toNat = c.toNat := by simp [UInt8.toNat_ofNat']; omega
      rw [e]; omega

theorem clean_rune {r : Nat} (h : scalar r) (rest : List UInt8) : clean true (quoteRune r ++ rest) = clean true rest := by
  rcases quoteRune_ways (r := r) with ⟨h1, h2, h3, e⟩ | ⟨c, _, e⟩ | ⟨h1, e⟩
  · rw [e]
    exact clean_ins _ (fun c hc => by have := encode_bytes h c hc; omega) rest
  · rw [e]
    exact clean_esc c rest
  · rw [e]
    have a1 := hexd_ok ⟨r / 16, by omega⟩
    have a2 := hexd_ok ⟨r % 16, by omega⟩
    show clean true (92 :: 117 :: 48 :: 48 :: hexd (r / 16) :: hexd (r % 16) :: rest) = _
    rw [clean_esc, clean_in (by decide) (by decide) (by decide), clean_in (by decide) (by decide) (by decide), clean_in a1.1 a1.2.1 a1.2.2.1, clean_in a2.1 a2.2.1 a2.2.2.1]
theorem clean_runes : ∀ (L : List (Nat × Nat)), (∀ x ∈ L, scalar x.2) → ∀ rest, clean true (quoteRunes L ++ rest) = clean true rest
  | [], _, rest => rfl
  | x :: L, h, rest => by
    have e : quoteRunes (x :: L) = quoteRune x.2 ++ quoteRunes L := by simp [quoteRunes]
    rw [e, List.append_assoc, clean_rune (h x (by simp))]
    exact clean_runes L (fun y hy => h y (by simp [hy])) rest
theorem clean_quote (s : ByteArray) (rest : List UInt8) : clean false (quoteB s ++ rest) = clean false rest := by
  have hs : ∀ x ∈ runes s, scalar x.2 := runesFrom_scalar _ _ _
  unfold quoteB
  rw [List.append_assoc]
  show clean false (34 :: (quoteRunes (runes s) ++ ([34] ++ rest))) = _
  rw [clean_open, clean_runes _ hs]
  exact clean_close rest

theorem formatBool_out (b : Bool) : ∀ c ∈ Lib.formatBool b, 33 ≤ c.toNat ∧ c.toNat ≠ 34 ∧ c.toNat < 128 := by cases b <;> decide
theorem digs_out (u : Nat) : ∀ c ∈ digs u, 33 ≤ c.toNat ∧ c.toNat ≠ 34 ∧ c.toNat < 128 := by
  induction u using Nat.strongRecOn with
  | _ u ih =>
    intro c hc
    by_cases h : u = 0
    · subst h
      rw [digs_zero] at hc
      cases hc
    · rw [digs_pos h] at hc
      rcases List.mem_append.1 hc with hc | hc
      · exact ih (u / 10) (by omega) c hc
      · simp only [List.mem_singleton] at hc
        subst hc
        have : ∀ d : Fin 10, 33 ≤ (dgt d.val).toNat ∧ (dgt d.val).toNat ≠ 34 ∧ (dgt d.val).toNat < 128 := by decide
        exact this ⟨u % 10, by omega⟩
theorem itoa_out (n : Int) : ∀ c ∈ Lib.itoa n, 33 ≤ c.toNat ∧ c.toNat ≠ 34 ∧ c.toNat < 128 := by
  intro c hc
  unfold Lib.itoa at hc
  have dec : ∀ u : Nat, ∀ c ∈ Lib.decDigits u, 33 ≤ c.toNat ∧ c.toNat ≠ 34 ∧ c.toNat < 128 := by
    intro u c hc
    by_cases h : u = 0
    · subst h
      rw [Lib.decDigits_one (by omega)] at hc
      simp only [List.mem_singleton] at hc
      subst hc
      decide
    · rw [← digs_dec u h] at hc
      exact digs_out u c hc
  split at hc
  · rcases List.mem_cons.1 hc with rfl | hc
    · decide
    · exact dec _ c hc
  · exact dec _ c hc

theorem cleanL : ∀ (l : List Val), (∀ v ∈ l, ∀ rest, clean false (textV v ++ rest) = clean false rest) → ∀ f rest, clean false (textL l f ++ rest) = clean false rest
  | [], _, f, rest => by simp [textL]
  | v :: r, h, f, rest => by
    simp only [textL]
    rw [List.append_assoc, List.append_assoc]
    have h1 := h v (by simp)
    have h2 := cleanL r (fun x hx => h x (by simp [hx])) false rest
    cases f
    · show clean false (44 :: (textV v ++ (textL r false ++ rest))) = _
      rw [clean_out (by decide) (by decide), h1, h2]
    · show clean false (textV v ++ (textL r false ++ rest)) = _
      rw [h1, h2]
theorem cleanO : ∀ (l : List (ByteArray × Val)), (∀ m ∈ l, ∀ rest, clean false (textV m.2 ++ rest) = clean false rest) → ∀ f rest, clean false (textO l f ++ rest) = clean false rest
  | [], _, f, rest => by simp [textO]
  | (k, v) :: r, h, f, rest => by
    simp only [textO, textP]
    have h1 := h (k, v) (by simp)
    simp only at h1
    have h2 := cleanO r (fun x hx => h x (by simp [hx])) false rest
    cases f
    · show clean false (44 :: (((quoteB k ++ 58 :: textV v) ++ textO r false) ++ rest)) = _
      rw [clean_out (by decide) (by decide), List.append_assoc, List.append_assoc, clean_quote]
      show clean false (58 :: (textV v ++ (textO r false ++ rest))) = _
      rw [clean_out (by decide) (by decide), h1, h2]
    · show clean false (((quoteB k ++ 58 :: textV v) ++ textO r false) ++ rest) = _
      rw [List.append_assoc, List.append_assoc, clean_quote]
      show clean false (58 :: (textV v ++ (textO r false ++ rest))) = _
      rw [clean_out (by decide) (by decide), h1, h2]
theorem cleanV : ∀ (v : Val) (rest : List UInt8), clean false (textV v ++ rest) = clean false rest := by
  refine Val.ind ?_
  intro k b n t l o hl ho rest
  simp only [textV]
  split
  · exact clean_outs _ (fun c hc => ⟨(formatBool_out b c hc).1, (formatBool_out b c hc).2.1⟩) rest
  split
  · exact clean_outs _ (fun c hc => ⟨(itoa_out n c hc).1, (itoa_out n c hc).2.1⟩) rest
  split
  · exact clean_quote t rest
  split
  · show clean false (91 :: ((textL l true ++ [93]) ++ rest)) = _
    rw [clean_out (by decide) (by decide), List.append_assoc, cleanL l hl]
    exact clean_out (c := 93) (by decide) (by decide) rest
  split
  · show clean false (123 :: ((textO o true ++ [125]) ++ rest)) = _
    rw [clean_out (by decide) (by decide), List.append_assoc, cleanO o ho]
    exact clean_out (c := 125) (by decide) (by decide) rest
  · exact clean_outs [110, 117, 108, 108] (by decide) rest
theorem clean_text (v : Val) : clean false (textV v) = true := by
  have := cleanV v []
  rw [List.append_nil] at this
  rw [this]; rfl

/-- ASCII bytes are texts. -/
theorem valid_ascii {c : UInt8} (h : c.toNat < 128) (rest : List UInt8) : Lib.validD (c :: rest) = Lib.validD rest := by
  rw [validD_step (by simp), decodeL_eq]
  have e : Lib.decodeN (c :: rest).length ((c :: rest).getD 0 0).toNat ((c :: rest).getD 1 0).toNat ((c :: rest).getD 2 0).toNat ((c :: rest).getD 3 0).toNat = (c.toNat, 1) := by
    unfold Lib.decodeN
    rw [if_pos (by simpa using h)]
    simp
  rw [e, if_neg (by simp only; omega)]
  rfl
theorem valid_asciis : ∀ (a : List UInt8), (∀ c ∈ a, c.toNat < 128) → ∀ rest, Lib.validD (a ++ rest) = Lib.validD rest
  | [], _, rest => rfl
  | c :: a, h, rest => by
    rw [List.cons_append, valid_ascii (h c (by simp))]
    exact valid_asciis a (fun x hx => h x (by simp [hx])) rest

theorem u8_of {z : Int} (h0 : 0 ≤ z) (h1 : z < 256) : (z.toNat.toUInt8).toNat = z.toNat := by
  have : z.toNat < 256 := by omega
  simp [Nat.toUInt8, UInt8.toNat_ofNat', Nat.mod_eq_of_lt this]

theorem valid_of_dec {l : List UInt8} {r n : Nat} (hne : l ≠ []) (h : Lib.decodeL l = (r, n)) (hn : n ≠ 1) : Lib.validD l = Lib.validD (l.drop n) := by
  rw [validD_step hne, h, if_neg (by simp only; omega)]

theorem valid_rune {r : Nat} (h : scalar r) (rest : List UInt8) : Lib.validD (Lib.encodeRune (r : Int) ++ rest) = Lib.validD rest := by
  unfold scalar at h
  by_cases c1 : r < 128
  · refine valid_asciis _ (fun c hc => ?_) rest
    have := encode_bytes (r := r) (by unfold scalar; exact h) c hc
    omega
  unfold Lib.encodeRune
  by_cases c2 : r < 2048
  · rw [Lib.encodeRuneZ_two (by omega) (by omega)]
    simp only [List.map_cons, List.map_nil, List.cons_append, List.nil_append]
    have a1 : ((192 + (r : Int) / 64).toNat.toUInt8).toNat = 192 + r / 64 := by rw [u8_of (by omega) (by omega)]; omega
    have a2 : ((128 + (r : Int) % 64).toNat.toUInt8).toNat = 128 + r % 64 := by rw [u8_of (by omega) (by omega)]; omega
    generalize (192 + (r : Int) / 64).toNat.toUInt8 = x1 at *
    generalize (128 + (r : Int) % 64).toNat.toUInt8 = x2 at *
    refine valid_of_dec (l := x1 :: x2 :: rest) (r := r) (n := 2) (by simp) ?_ (by decide)
    rw [decodeL_eq]
    simp only [List.getD_cons_zero, List.getD_cons_succ, a1, a2, List.length_cons]
    unfold Lib.decodeN
    rw [if_neg (by omega), if_pos (by omega), if_pos (by omega)]
    exact Prod.ext (by simp only; omega) rfl
  by_cases c3 : r < 65536
  · rw [Lib.encodeRuneZ_three (by omega)]
    simp only [List.map_cons, List.map_nil, List.cons_append, List.nil_append]
    have a1 : ((224 + (r : Int) / 4096).toNat.toUInt8).toNat = 224 + r / 4096 := by rw [u8_of (by omega) (by omega)]; omega
    have a2 : ((128 + (r : Int) / 64 % 64).toNat.toUInt8).toNat = 128 + r / 64 % 64 := by rw [u8_of (by omega) (by omega)]; omega
    have a3 : ((128 + (r : Int) % 64).toNat.toUInt8).toNat = 128 + r % 64 := by rw [u8_of (by omega) (by omega)]; omega
    generalize (224 + (r : Int) / 4096).toNat.toUInt8 = x1 at *
    generalize (128 + (r : Int) / 64 % 64).toNat.toUInt8 = x2 at *
    generalize (128 + (r : Int) % 64).toNat.toUInt8 = x3 at *
    refine valid_of_dec (l := x1 :: x2 :: x3 :: rest) (r := r) (n := 3) (by simp) ?_ (by decide)
    rw [decodeL_eq]
    simp only [List.getD_cons_zero, List.getD_cons_succ, a1, a2, a3, List.length_cons]
    unfold Lib.decodeN
    have d1 : r / 64 / 64 = r / 4096 := by omega
    rw [if_neg (by omega), if_neg (by omega), if_pos (by omega), if_pos (by omega)]
    exact Prod.ext (by simp only; omega) rfl
  · rw [Lib.encodeRuneZ_four (by omega) (by omega)]
    simp only [List.map_cons, List.map_nil, List.cons_append, List.nil_append]
    have a1 : ((240 + (r : Int) / 262144).toNat.toUInt8).toNat = 240 + r / 262144 := by rw [u8_of (by omega) (by omega)]; omega
    have a2 : ((128 + (r : Int) / 4096 % 64).toNat.toUInt8).toNat = 128 + r / 4096 % 64 := by rw [u8_of (by omega) (by omega)]; omega
    have a3 : ((128 + (r : Int) / 64 % 64).toNat.toUInt8).toNat = 128 + r / 64 % 64 := by rw [u8_of (by omega) (by omega)]; omega
    have a4 : ((128 + (r : Int) % 64).toNat.toUInt8).toNat = 128 + r % 64 := by rw [u8_of (by omega) (by omega)]; omega
    generalize (240 + (r : Int) / 262144).toNat.toUInt8 = x0 at *
    generalize (128 + (r : Int) / 4096 % 64).toNat.toUInt8 = x1 at *
    generalize (128 + (r : Int) / 64 % 64).toNat.toUInt8 = x2 at *
    generalize (128 + (r : Int) % 64).toNat.toUInt8 = x3 at *
    refine valid_of_dec (l := x0 :: x1 :: x2 :: x3 :: rest) (r := r) (n := 4) (by simp) ?_ (by decide)
    rw [decodeL_eq]
    simp only [List.getD_cons_zero, List.getD_cons_succ, a1, a2, a3, a4, List.length_cons]
    unfold Lib.decodeN
    rw [if_neg (by omega), if_neg (by omega), if_neg (by omega), if_pos (by omega), if_pos (by omega)]
    exact Prod.ext (by simp only; omega) rfl

theorem valid_quoteRune {r : Nat} (h : scalar r) (rest : List UInt8) : Lib.validD (quoteRune r ++ rest) = Lib.validD rest := by
  rcases quoteRune_ways (r := r) with ⟨h1, h2, h3, e⟩ | ⟨c, hc, e⟩ | ⟨h1, e⟩
  · rw [e]
    exact valid_rune h rest
  · rw [e]
    refine valid_asciis _ (fun x hx => ?_) rest
    simp only [List.mem_cons, List.not_mem_nil, or_false] at hx
    rcases hx with rfl | rfl
    · decide
    · exact hc
  · rw [e]
    have a1 := hexd_ok ⟨r / 16, by omega⟩
    have a2 := hexd_ok ⟨r % 16, by omega⟩
    refine valid_asciis _ (fun x hx => ?_) rest
    simp only [List.mem_cons, List.not_mem_nil, or_false] at hx
    rcases hx with rfl | rfl | rfl | rfl | rfl | rfl
    · decide
    · decide
    · decide
    · decide
    · exact a1.2.2.2
    · exact a2.2.2.2
theorem valid_runes : ∀ (L : List (Nat × Nat)), (∀ x ∈ L, scalar x.2) → ∀ rest, Lib.validD (quoteRunes L ++ rest) = Lib.validD rest
  | [], _, rest => rfl
  | x :: L, h, rest => by
    have e : quoteRunes (x :: L) = quoteRune x.2 ++ quoteRunes L := by simp [quoteRunes]
    rw [e, List.append_assoc, valid_quoteRune (h x (by simp))]
    exact valid_runes L (fun y hy => h y (by simp [hy])) rest
theorem valid_quote (s : ByteArray) (rest : List UInt8) : Lib.validD (quoteB s ++ rest) = Lib.validD rest := by
  have hs : ∀ x ∈ runes s, scalar x.2 := runesFrom_scalar _ _ _
  unfold quoteB
  rw [List.append_assoc]
  show Lib.validD (34 :: (quoteRunes (runes s) ++ ([34] ++ rest))) = _
  rw [valid_ascii (by decide), valid_runes _ hs]
  exact valid_ascii (c := 34) (by decide) rest
theorem validL : ∀ (l : List Val), (∀ v ∈ l, ∀ rest, Lib.validD (textV v ++ rest) = Lib.validD rest) → ∀ f rest, Lib.validD (textL l f ++ rest) = Lib.validD rest
  | [], _, f, rest => by simp [textL]
  | v :: r, h, f, rest => by
    simp only [textL]
    rw [List.append_assoc, List.append_assoc]
    have h1 := h v (by simp)
    have h2 := validL r (fun x hx => h x (by simp [hx])) false rest
    cases f
    · show Lib.validD (44 :: (textV v ++ (textL r false ++ rest))) = _
      rw [valid_ascii (by decide), h1, h2]
    · show Lib.validD (textV v ++ (textL r false ++ rest)) = _
      rw [h1, h2]
theorem validO : ∀ (l : List (ByteArray × Val)), (∀ m ∈ l, ∀ rest, Lib.validD (textV m.2 ++ rest) = Lib.validD rest) → ∀ f rest, Lib.validD (textO l f ++ rest) = Lib.validD rest
  | [], _, f, rest => by simp [textO]
  | (k, v) :: r, h, f, rest => by
    simp only [textO, textP]
    have h1 := h (k, v) (by simp)
    simp only at h1
    have h2 := validO r (fun x hx => h x (by simp [hx])) false rest
    cases f
    · show Lib.validD (44 :: (((quoteB k ++ 58 :: textV v) ++ textO r false) ++ rest)) = _
      rw [valid_ascii (by decide), List.append_assoc, List.append_assoc, valid_quote]
      show Lib.validD (58 :: (textV v ++ (textO r false ++ rest))) = _
      rw [valid_ascii (by decide), h1, h2]
    · show Lib.validD (((quoteB k ++ 58 :: textV v) ++ textO r false) ++ rest) = _
      rw [List.append_assoc, List.append_assoc, valid_quote]
      show Lib.validD (58 :: (textV v ++ (textO r false ++ rest))) = _
      rw [valid_ascii (by decide), h1, h2]
theorem validV : ∀ (v : Val) (rest : List UInt8), Lib.validD (textV v ++ rest) = Lib.validD rest := by
  refine Val.ind ?_
  intro k b n t l o hl ho rest
  simp only [textV]
  split
  · exact valid_asciis _ (fun c hc => (formatBool_out b c hc).2.2) rest
  split
  · exact valid_asciis _ (fun c hc => (itoa_out n c hc).2.2) rest
  split
  · exact valid_quote t rest
  split
  · show Lib.validD (91 :: ((textL l true ++ [93]) ++ rest)) = _
    rw [valid_ascii (by decide), List.append_assoc, validL l hl]
    exact valid_ascii (c := 93) (by decide) rest
  split
  · show Lib.validD (123 :: ((textO o true ++ [125]) ++ rest)) = _
    rw [valid_ascii (by decide), List.append_assoc, validO o ho]
    exact valid_ascii (c := 125) (by decide) rest
  · exact valid_asciis [110, 117, 108, 108] (by decide) rest
theorem valid_text (v : Val) : Lib.validD (textV v) = true := by
  have := validV v []
  rw [List.append_nil] at this
  rw [this]; rfl

end Go.Proofs.YtkoliaodkojghaaGreatDoor

/- commonplaceref11.Equal: yes of a mutator and itself alone. Condition: bulks of at most 10^8. -/
namespace Go.Proofs.YtkoliaodkojghaaGreatDoor
open Go Go.RowKit


/-- The call's two boxes. -/
def EMA (w : World) (b1 b2 : Array Value) (wr : World) : Prop := Below w.heap.size w wr ∧ Blk wr w.heap.size 48 b1 ∧ Blk wr (w.heap.size + 1) 48 b2
theorem EMA.step {w : World} {b1 b2 : Array Value} {wr w4 : World} (h : EMA w b1 b2 wr) (hb : Below wr.heap.size wr w4) : EMA w b1 b2 w4 := ⟨h.1.trans (hb.mono h.1.size), h.2.1.below hb h.2.1.lt, h.2.2.below hb h.2.2.lt⟩
def EqMC (m : Mut) : Prop := ∀ (m' : Mut) (cs cs' : List Value) (w : World), Holds w w.heap.size (dM m) cs → Holds w w.heap.size (dM m') cs' → bulkM m ≤ 100000000 → bulkM m' ≤ 100000000 →
  Calls Tryz.prog 50 #[.agg cs.toArray, .agg cs'.toArray] w (EqPost (m = m') w)

set_option maxRecDepth 100000 in
set_option maxHeartbeats 16000000 in
theorem meq_same (k : Int) (key dst : ByteArray) (n : Int) (had has : Bool) (k1 : Int) (b1 : Bool) (n1 : Int) (t1 : ByteArray) (l1 : List Val) (o1 : List (ByteArray × Val)) (k2 : Int) (b2 : Bool) (n2 : Int) (t2 : ByteArray) (l2 : List Val) (o2 : List (ByteArray × Val)) (k1' : Int) (b1' : Bool) (n1' : Int) (t1' : ByteArray) (l1' : List Val) (o1' : List (ByteArray × Val)) (k2' : Int) (b2' : Bool) (n2' : Int) (t2' : ByteArray) (l2' : List Val) (o2' : List (ByteArray × Val)) (la1 oa1 : Option Addr) (lc1 oc1 : Nat) (la2 oa2 : Option Addr) (lc2 oc2 : Nat) (la1' oa1' : Option Addr) (lc1' oc1' : Nat) (la2' oa2' : Option Addr) (lc2' oc2' : Nat) (l l' : List Mut) (a a' : Option Addr) (c c' : Nat) (w : World)
    (hv1 : HoldsV w w.heap.size (.mk k1 b1 n1 t1 l1 o1) [.int .i64 k1, .bool b1, .int .i64 n1, .string t1, .slice la1 l1.length lc1, .slice oa1 o1.length oc1]) (hv2 : HoldsV w w.heap.size (.mk k2 b2 n2 t2 l2 o2) [.int .i64 k2, .bool b2, .int .i64 n2, .string t2, .slice la2 l2.length lc2, .slice oa2 o2.length oc2]) (hv1' : HoldsV w w.heap.size (.mk k1' b1' n1' t1' l1' o1') [.int .i64 k1', .bool b1', .int .i64 n1', .string t1', .slice la1' l1'.length lc1', .slice oa1' o1'.length oc1']) (hv2' : HoldsV w w.heap.size (.mk k2' b2' n2' t2' l2' o2') [.int .i64 k2', .bool b2', .int .i64 n2', .string t2', .slice la2' l2'.length lc2', .slice oa2' o2'.length oc2'])
    (hb1 : (Val.mk k1 b1 n1 t1 l1 o1).bulk ≤ 100000000) (hb2 : (Val.mk k2 b2 n2 t2 l2 o2).bulk ≤ 100000000) (hb1' : (Val.mk k1' b1' n1' t1' l1' o1').bulk ≤ 100000000) (hb2' : (Val.mk k2' b2' n2' t2' l2' o2').bulk ≤ 100000000)
    (hl : Holds w w.heap.size (.row 19 (dMs l)) [.slice a l.length c]) (hl' : Holds w w.heap.size (.row 19 (dMs l')) [.slice a' l'.length c']) (hln : l.length = l'.length) (hbl : bulkMs l ≤ 100000000) (hbl' : bulkMs l' ≤ 100000000) (ih : ∀ x ∈ l, EqMC x) :
    Calls Tryz.prog 50 #[.agg #[.int .i64 k, .string key, .string dst, .int .i64 n, .bool had, .int .i64 k1, .bool b1, .int .i64 n1, .string t1, .slice la1 l1.length lc1, .slice oa1 o1.length oc1, .bool has, .int .i64 k2, .bool b2, .int .i64 n2, .string t2, .slice la2 l2.length lc2, .slice oa2 o2.length oc2, .slice a l.length c], .agg #[.int .i64 k, .string key, .string dst, .int .i64 n, .bool had, .int .i64 k1', .bool b1', .int .i64 n1', .string t1', .slice la1' l1'.length lc1', .slice oa1' o1'.length oc1', .bool has, .int .i64 k2', .bool b2', .int .i64 n2', .string t2', .slice la2' l2'.length lc2', .slice oa2' o2'.length oc2', .slice a' l.length c']] w (EqPost ((Val.mk k1 b1 n1 t1 l1 o1 = .mk k1' b1' n1' t1' l1' o1' ∧ Val.mk k2 b2 n2 t2 l2 o2 = .mk k2' b2' n2' t2' l2' o2') ∧ l = l') w) := by
  have hls := bulkMs_len l
  have hQ1 := fun (W : World) (hB : Below w.heap.size w W) => req_calls (.mk k1 b1 n1 t1 l1 o1) (.mk k1' b1' n1' t1' l1' o1') _ _ W (HoldsV.more hB.size _ _ (hv1.below hB)) (HoldsV.more hB.size _ _ (hv1'.below hB)) hb1 hb1'
  have hQ2 := fun (W : World) (hB : Below w.heap.size w W) => req_calls (.mk k2 b2 n2 t2 l2 o2) (.mk k2' b2' n2' t2' l2' o2') _ _ W (HoldsV.more hB.size _ _ (hv2.below hB)) (HoldsV.more hB.size _ _ (hv2'.below hB)) hb2 hb2'
  generalize (Val.mk k1 b1 n1 t1 l1 o1 = .mk k1' b1' n1' t1' l1' o1') = P1 at hQ1 ⊢
  generalize (Val.mk k2 b2 n2 t2 l2 o2 = .mk k2' b2' n2' t2' l2' o2') = P2 at hQ2 ⊢
  have hA0 : EMA w #[.int .i64 k, .string key, .string dst, .int .i64 n, .bool had, .int .i64 k1, .bool b1, .int .i64 n1, .string t1, .slice la1 l1.length lc1, .slice oa1 o1.length oc1, .bool has, .int .i64 k2, .bool b2, .int .i64 n2, .string t2, .slice la2 l2.length lc2, .slice oa2 o2.length oc2, .slice a l.length c] #[.int .i64 k, .string key, .string dst, .int .i64 n, .bool had, .int .i64 k1', .bool b1', .int .i64 n1', .string t1', .slice la1' l1'.length lc1', .slice oa1' o1'.length oc1', .bool has, .int .i64 k2', .bool b2', .int .i64 n2', .string t2', .slice la2' l2'.length lc2', .slice oa2' o2'.length oc2', .slice a' l.length c'] ((w.alloc (.cells #[.int .i64 k, .string key, .string dst, .int .i64 n, .bool had, .int .i64 k1, .bool b1, .int .i64 n1, .string t1, .slice la1 l1.length lc1, .slice oa1 o1.length oc1, .bool has, .int .i64 k2, .bool b2, .int .i64 n2, .string t2, .slice la2 l2.length lc2, .slice oa2 o2.length oc2, .slice a l.length c] 48)).alloc (.cells #[.int .i64 k, .string key, .string dst, .int .i64 n, .bool had, .int .i64 k1', .bool b1', .int .i64 n1', .string t1', .slice la1' l1'.length lc1', .slice oa1' o1'.length oc1', .bool has, .int .i64 k2', .bool b2', .int .i64 n2', .string t2', .slice la2' l2'.length lc2', .slice oa2' o2'.length oc2', .slice a' l.length c'] 48)) := by
    refine ⟨two_boxes _ _ _, (Blk.new w 48 #[.int .i64 k, .string key, .string dst, .int .i64 n, .bool had, .int .i64 k1, .bool b1, .int .i64 n1, .string t1, .slice la1 l1.length lc1, .slice oa1 o1.length oc1, .bool has, .int .i64 k2, .bool b2, .int .i64 n2, .string t2, .slice la2 l2.length lc2, .slice oa2 o2.length oc2, .slice a l.length c]).alloc _, ?_⟩
    have := Blk.new (w.alloc (.cells #[.int .i64 k, .string key, .string dst, .int .i64 n, .bool had, .int .i64 k1, .bool b1, .int .i64 n1, .string t1, .slice la1 l1.length lc1, .slice oa1 o1.length oc1, .bool has, .int .i64 k2, .bool b2, .int .i64 n2, .string t2, .slice la2 l2.length lc2, .slice oa2 o2.length oc2, .slice a l.length c] 48)) 48 #[.int .i64 k, .string key, .string dst, .int .i64 n, .bool had, .int .i64 k1', .bool b1', .int .i64 n1', .string t1', .slice la1' l1'.length lc1', .slice oa1' o1'.length oc1', .bool has, .int .i64 k2', .bool b2', .int .i64 n2', .string t2', .slice la2' l2'.length lc2', .slice oa2' o2'.length oc2', .slice a' l.length c']
    rwa [World.size_alloc] at this
  have h00 : l.take 0 = l'.take 0 := by simp
  have HQ1 := Lib.hid hQ1
  have HQ2 := Lib.hid hQ2
  have HA0 := Lib.hid hA0
  have H00 := Lib.hid h00
  have Hl := Lib.hid hl
  have Hl' := Lib.hid hl'
  have Hln := Lib.hid hln
  have Ih := Lib.hid ih
  clear hQ1 hQ2 hA0 h00 hl hl' hln ih
  clear hv1 hv2 hv1' hv2'
  go_enter Tryz.func50, Tryz.ntmps50
  go_wp2_with (fail)
  have hA01 := HA0.out.1
  with_reducible refine (HQ1.out _ hA01).mono ?_
  rintro e w1 ⟨B1, rfl, hB1, hb1w⟩
  have hA1 := HA0.out.step hb1w
  cases B1 with
  | false =>
    have hno : ¬((P1 ∧ P2) ∧ l = l') := fun h => by have := hB1.2 h.1.1; cases this
    have HA1 := Lib.hid hA1
    have Hno := Lib.hid hno
    have HB1 := Lib.hid hB1
    have Hb1w := Lib.hid hb1w
    clear hA1 hno hB1 hb1w
    go_wp2
    go_ret
    exact EqPost.no Hno.out HA1.out.1
  | true =>
    have hp1 := hB1.1 rfl

    have x12 := hA1.2.1.cell 12
    have y12 := hA1.2.2.cell 12
    have x13 := hA1.2.1.cell 13
    have y13 := hA1.2.2.cell 13
    have x14 := hA1.2.1.cell 14
    have y14 := hA1.2.2.cell 14
    have x15 := hA1.2.1.cell 15
    have y15 := hA1.2.2.cell 15
    have x16 := hA1.2.1.cell 16
    have y16 := hA1.2.2.cell 16
    have x17 := hA1.2.1.cell 17
    have y17 := hA1.2.2.cell 17
    have x18 := hA1.2.1.cell 18
    have y18 := hA1.2.2.cell 18
    have gx := hA1.2.1.lt
    have gy := hA1.2.2.lt
    have HA1 := Lib.hid hA1
    have Hp1 := Lib.hid hp1
    have HB1 := Lib.hid hB1
    have Hb1w := Lib.hid hb1w
    clear hA1 hp1 hB1 hb1w
    go_wp2_with (fail)
    have hA11 := HA1.out.1
    with_reducible refine (HQ2.out _ hA11).mono ?_
    rintro e w2 ⟨B2, rfl, hB2, hb2w⟩
    have hA2 := HA1.out.step hb2w
    clear x12 y12 x13 y13 x14 y14 x15 y15 x16 y16 x17 y17 x18 y18 gx gy
    cases B2 with
    | false =>
      have hno : ¬((P1 ∧ P2) ∧ l = l') := fun h => by have := hB2.2 h.1.2; cases this
      have HA2 := Lib.hid hA2
      have Hno := Lib.hid hno
      have HB2 := Lib.hid hB2
      have Hb2w := Lib.hid hb2w
      clear hA2 hno hB2 hb2w
      go_wp2
      go_ret
      exact EqPost.no Hno.out HA2.out.1
    | true =>
      have hp2 := hB2.1 rfl
      have x18 := hA2.2.1.cell 18
      have gx := hA2.2.1.lt
      have HA2 := Lib.hid hA2
      have Hp2 := Lib.hid hp2
      have HB2 := Lib.hid hB2
      have Hb2w := Lib.hid hb2w
      clear hA2 hp2 hB2 hb2w
      go_wp2_with (fail)
      clear x18 gx
      go_loopw [5] (fun i wr => ∃ q : Nat, i = .int .i64 q ∧ q ≤ l.length ∧ Hid (l.take q = l'.take q) ∧ Hid (EMA w #[.int .i64 k, .string key, .string dst, .int .i64 n, .bool had, .int .i64 k1, .bool b1, .int .i64 n1, .string t1, .slice la1 l1.length lc1, .slice oa1 o1.length oc1, .bool has, .int .i64 k2, .bool b2, .int .i64 n2, .string t2, .slice la2 l2.length lc2, .slice oa2 o2.length oc2, .slice a l.length c] #[.int .i64 k, .string key, .string dst, .int .i64 n, .bool had, .int .i64 k1', .bool b1', .int .i64 n1', .string t1', .slice la1' l1'.length lc1', .slice oa1' o1'.length oc1', .bool has, .int .i64 k2', .bool b2', .int .i64 n2', .string t2', .slice la2' l2'.length lc2', .slice oa2' o2'.length oc2', .slice a' l.length c'] wr)) (fun i _ => l.length - (intOf i).toNat)
      case atStart => exact ⟨0, rfl, Nat.zero_le _, H00, HA2⟩
      case round =>
        obtain ⟨q, rfl, hq, htk, hea⟩ := hrel
        clear H00 HA2
        have m1 := hea.out.2.1.cell 18
        have m2 := hea.out.2.2.cell 18
        have gx := hea.out.2.1.lt
        have gy := hea.out.2.2.lt
        by_cases hlt : q < l.length
        · have hlt' : q < l'.length := by have := Hln.out; omega
          obtain ⟨x, hx⟩ : ∃ v, l[q]? = some v := ⟨_, List.getElem?_eq_getElem hlt⟩
          obtain ⟨x', hx'⟩ : ∃ v, l'[q]? = some v := ⟨_, List.getElem?_eq_getElem hlt'⟩
          have ihx := Ih.out _ (List.mem_of_getElem? hx)
          have hbv := bulkMs_mem (List.mem_of_getElem? hx)
          have hbv' := bulkMs_mem (List.mem_of_getElem? hx')
          have hbw := hea.out.1
          have hz := hbw.size
          have hT := fun e => take_eq_of htk.out hx hx' e
          have hNe := fun e => ne_of_at hx hx' e
          obtain ⟨g, off, rfl, hg, cs1, hcs1, hn1l, hcell1⟩ := mut_at (Hl.out.below hbw) hx
          obtain ⟨g', off', rfl, hg', cs2, hcs2, hn2l, hcell2⟩ := mut_at (Hl'.out.below hbw) hx'
          have hC : ∀ W, Below wr.heap.size wr W → Calls Tryz.prog 50 #[.agg cs1.toArray, .agg cs2.toArray] W (EqPost (x = x') W) := fun W hW =>
            ihx _ _ _ W ((hcs1.below (hW.mono hz)).more (Nat.le_trans hz hW.size)) ((hcs2.below (hW.mono hz)).more (Nat.le_trans hz hW.size)) (by omega) (by omega)
          have hr1 : wr.rangeAt g (off + q * 19) cs1 := hcell1
          have hr2 : wr.rangeAt g' (off' + q * 19) cs2 := hcell2
          have hn1 : (Tryz.prog.info? 48).map (·.size) = some cs1.length := by rw [hn1l]; kernel_rfl
          have hn2 : (Tryz.prog.info? 48).map (·.size) = some cs2.length := by rw [hn2l]; kernel_rfl
          have z1 : g < wr.heap.size := by omega
          have z2 : g' < wr.heap.size := by omega
          have z5 : (q : Int) < (l.length : Int) := by omega
          have z6 : (0 : Int) ≤ q := by omega
          have hkeep : ∀ W, Below wr.heap.size wr W → (fun X => X.cell? ⟨w.heap.size, 18, none⟩ = some (.slice (some ⟨g, off, none⟩) l.length c) ∧ X.cell? ⟨w.heap.size + 1, 18, none⟩ = some (.slice (some ⟨g', off', none⟩) l.length c') ∧ X.rangeAt g (off + q * 19) cs1 ∧ X.rangeAt g' (off' + q * 19) cs2) W := fun W hW => ⟨(hW.cell (p := ⟨w.heap.size, 18, none⟩) gx).trans m1, (hW.cell (p := ⟨w.heap.size + 1, 18, none⟩) gy).trans m2, fun j v hv => (hW.cell (p := ⟨g, off + q * 19 + j, none⟩) z1).trans (hr1 j v hv), fun j v hv => (hW.cell (p := ⟨g', off' + q * 19 + j, none⟩) z2).trans (hr2 j v hv)⟩
          have HC := Lib.hid hC
          have HT := Lib.hid hT
          have HNe := Lib.hid hNe
          have Hkeep := Lib.hid hkeep
          have Hr1 := Lib.hid hr1
          have Hr2 := Lib.hid hr2
          have Hn1l := Lib.hid hn1l
          have Hn2l := Lib.hid hn2l
          clear hC hT hNe hkeep hr1 hr2 hn1l hn2l
          clear hbw hcs1 hcs2 hx hx' ihx hcell1 hcell2 htk
          go_upto_region 6 with (fail)
          refine wp_region_held_drew (S := (fun X => X.cell? ⟨w.heap.size, 18, none⟩ = some (.slice (some ⟨g, off, none⟩) l.length c) ∧ X.cell? ⟨w.heap.size + 1, 18, none⟩ = some (.slice (some ⟨g', off', none⟩) l.length c') ∧ X.rangeAt g (off + q * 19) cs1 ∧ X.rangeAt g' (off' + q * 19) cs2)) (by kernel_rfl) (Hkeep.out _ (Below.drew (Below.refl _ _))) (fun hHeld => ?_)

          refine wpAnyH_take (i := 0) (v := ?_) rfl (by kernel_rfl) (by kernel_rfl) (by kernel_rfl) (fun _ _ _ h => h) (Or.inl ⟨by kernel_rfl, ?_⟩) hHeld ?_
          rotate_left
          · intro X hSw
            skip
            first | (go_simp; done) | (go_simp; with_reducible rfl)
          try simp only [Act.put, List.getElem_toArray, List.getElem_cons_zero, List.setIfInBounds_toArray, List.set_cons_zero, List.set_cons_succ]
          refine wpAnyH_take (i := 1) (v := ?_) rfl (by kernel_rfl) (by kernel_rfl) (by kernel_rfl) (fun _ _ _ h => h) (Or.inl ⟨by kernel_rfl, ?_⟩) hHeld ?_
          rotate_left
          · intro X hSw
            have e4 := hSw.1
            first | (go_simp; done) | (go_simp; with_reducible rfl)
          try simp only [Act.put, List.getElem_toArray, List.getElem_cons_succ, List.getElem_cons_zero, List.setIfInBounds_toArray, List.set_cons_zero, List.set_cons_succ]
          refine wpAnyH_take (i := 2) (v := ?_) rfl (by kernel_rfl) (by kernel_rfl) (by kernel_rfl) (fun _ _ _ h => h) (Or.inl ⟨by kernel_rfl, ?_⟩) hHeld ?_
          rotate_left
          · intro X hSw
            skip
            first | (go_simp; done) | (go_simp; with_reducible rfl)
          try simp only [Act.put, List.getElem_toArray, List.getElem_cons_succ, List.getElem_cons_zero, List.setIfInBounds_toArray, List.set_cons_zero, List.set_cons_succ]
          refine wpAnyH_take (i := 3) (v := ?_) rfl (by kernel_rfl) (by kernel_rfl) (by kernel_rfl) (fun _ _ _ h => h) (Or.inl ⟨by kernel_rfl, ?_⟩) hHeld ?_
          rotate_left
          · intro X hSw
            skip
            first | (go_simp; done) | (go_simp; with_reducible rfl)
          try simp only [Act.put, List.getElem_toArray, List.getElem_cons_succ, List.getElem_cons_zero, List.setIfInBounds_toArray, List.set_cons_zero, List.set_cons_succ]
          refine wpAnyH_take (i := 4) rfl (by kernel_rfl) (by kernel_rfl) (by kernel_rfl) (fun _ _ _ h => h) (yieldsIf_load_mid (by kernel_rfl) 48 (.tmp 81) rfl g (off + q * 19) rfl cs1 _ (fun X hX => hX.2.2.1) Tryz.underlying48 rfl hn1) hHeld ?_
          try simp only [Act.put, List.getElem_toArray, List.getElem_cons_succ, List.getElem_cons_zero, List.setIfInBounds_toArray, List.set_cons_zero, List.set_cons_succ]
          refine wpAnyH_take (i := 5) (v := ?_) rfl (by kernel_rfl) (by kernel_rfl) (by kernel_rfl) (fun _ _ _ h => h) (Or.inl ⟨by kernel_rfl, ?_⟩) hHeld ?_
          rotate_left
          · intro X hSw
            skip
            first | (go_simp; done) | (go_simp; with_reducible rfl)
          try simp only [Act.put, List.getElem_toArray, List.getElem_cons_succ, List.getElem_cons_zero, List.setIfInBounds_toArray, List.set_cons_zero, List.set_cons_succ]
          refine wpAnyH_take (i := 6) (v := ?_) rfl (by kernel_rfl) (by kernel_rfl) (by kernel_rfl) (fun _ _ _ h => h) (Or.inl ⟨by kernel_rfl, ?_⟩) hHeld ?_
          rotate_left
          · intro X hSw
            have e4 := hSw.2.1
            first | (go_simp; done) | (go_simp; with_reducible rfl)
          try simp only [Act.put, List.getElem_toArray, List.getElem_cons_succ, List.getElem_cons_zero, List.setIfInBounds_toArray, List.set_cons_zero, List.set_cons_succ]
          refine wpAnyH_take (i := 7) (v := ?_) rfl (by kernel_rfl) (by kernel_rfl) (by kernel_rfl) (fun _ _ _ h => h) (Or.inl ⟨by kernel_rfl, ?_⟩) hHeld ?_
          rotate_left
          · intro X hSw
            skip
            first | (go_simp; done) | (go_simp; with_reducible rfl)
          try simp only [Act.put, List.getElem_toArray, List.getElem_cons_succ, List.getElem_cons_zero, List.setIfInBounds_toArray, List.set_cons_zero, List.set_cons_succ]
          refine wpAnyH_take (i := 8) (v := ?_) rfl (by kernel_rfl) (by kernel_rfl) (by kernel_rfl) (fun _ _ _ h => h) (Or.inl ⟨by kernel_rfl, ?_⟩) hHeld ?_
          rotate_left
          · intro X hSw
            skip
            first | (go_simp; done) | (go_simp; with_reducible rfl)
          try simp only [Act.put, List.getElem_toArray, List.getElem_cons_succ, List.getElem_cons_zero, List.setIfInBounds_toArray, List.set_cons_zero, List.set_cons_succ]
          refine wpAnyH_take (i := 9) rfl (by kernel_rfl) (by kernel_rfl) (by kernel_rfl) (fun _ _ _ h => h) (yieldsIf_load_mid (by kernel_rfl) 48 (.tmp 86) rfl g' (off' + q * 19) rfl cs2 _ (fun X hX => hX.2.2.2) Tryz.underlying48 rfl hn2) hHeld ?_
          try simp only [Act.put, List.getElem_toArray, List.getElem_cons_succ, List.getElem_cons_zero, List.setIfInBounds_toArray, List.set_cons_zero, List.set_cons_succ]
          refine wpAnyH_ready (rs := [10]) (by kernel_rfl) (by simp) ?_
          refine AllReadyH.cons rfl (fun K hK => ?_) AllReadyH.nil
          go_simp
          (with_reducible refine (HC.out _ (Below.drew (Below.refl _ _))).mono ?_)
          rintro e w4 ⟨B, rfl, hB, hb4⟩
          have hbr : Below wr.heap.size wr w4 := (Below.drew (Below.refl _ _)).trans hb4
          have HE4 := Lib.hid (hea.out.step hbr)
          refine hK.out _ _ (Hkeep.out _ hbr) (fun hHeld => ?_)
          clear hK K
          try simp only [Act.put, List.getElem_toArray, List.getElem_cons_succ, List.getElem_cons_zero, List.setIfInBounds_toArray, List.set_cons_zero, List.set_cons_succ]
          refine wpAnyH_take (i := 11) (v := ?_) rfl (by kernel_rfl) (by kernel_rfl) (by kernel_rfl) (fun _ _ _ h => h) (Or.inl ⟨by kernel_rfl, ?_⟩) hHeld ?_
          rotate_left
          · intro X hSw
            skip
            first | (go_simp; done) | (go_simp; with_reducible rfl)
          try simp only [Act.put, List.getElem_toArray, List.getElem_cons_succ, List.getElem_cons_zero, List.setIfInBounds_toArray, List.set_cons_zero, List.set_cons_succ]
          refine wpAnyH_done (by kernel_rfl) ?_ _
          clear hHeld hb4 hbr hea m1 m2
          cases B with
          | true =>
            have HT' := Lib.hid (HT.out (hB.1 rfl))
            clear hB HT HNe
            go_wp2
            go_roundw
            case rel => exact ⟨q + 1, by go_num, by omega, HT', HE4⟩
            case measure => simp only [intOf]; omega
          | false =>
            have hno : ¬((P1 ∧ P2) ∧ l = l') := fun h => HNe.out (fun e => by have := hB.2 e; cases this) h.2
            have Hno := Lib.hid hno
            clear hB HT HNe hno
            go_wp2
            go_ret
            exact EqPost.no Hno.out HE4.out.1
        · obtain rfl : q = l.length := by omega
          have hE := htk.out
          rw [List.take_length, Hln.out, List.take_length] at hE
          have HE := Lib.hid hE
          clear hE
          clear htk
          go_wp2
          go_ret
          exact EqPost.yes ⟨⟨Hp1.out, Hp2.out⟩, HE.out⟩ hea.out.1

/-- commonplaceref11.Equal: yes of a mutator and itself alone. -/
theorem meq_calls : ∀ m, EqMC m := by
  refine Mut.ind ?_
  intro k key dst n had was has v l IH m' cs cs' w hM hM' hb hb'
  obtain ⟨k1, b1, n1, t1, l1, o1⟩ := was
  obtain ⟨k2, b2, n2, t2, l2, o2⟩ := v
  obtain ⟨la1, lc1, oa1, oc1, la2, lc2, oa2, oc2, a, c, rfl, hv1, hv2, hl⟩ := mut_cells hM
  obtain ⟨k', key', dst', n', had', ⟨k1', b1', n1', t1', l1', o1'⟩, has', ⟨k2', b2', n2', t2', l2', o2'⟩, l'⟩ := m'
  obtain ⟨la1', lc1', oa1', oc1', la2', lc2', oa2', oc2', a', c', rfl, hv1', hv2', hl'⟩ := mut_cells hM'
  simp only [bulkM] at hb hb'
  by_cases hd : k ≠ k' ∨ key ≠ key' ∨ dst ≠ dst' ∨ n ≠ n' ∨ had ≠ had' ∨ has ≠ has' ∨ l.length ≠ l'.length
  · refine meq_diff _ _ _ _ _ _ _ _ _ _ _ _ _ _ _ _ _ _ _ _ _ _ _ _ _ _ _ _ _ _ _ _ _ _ _ _ _ _ _ _ _ _ w _ (fun e => ?_) hd
    injection e with e1 e2 e3 e4 e5 e6 e7 e8 e9
    subst e9
    rcases hd with h | h | h | h | h | h | h
    · exact h e1
    · exact h e2
    · exact h e3
    · exact h e4
    · exact h e5
    · exact h e7
    · exact h rfl
  · obtain ⟨rfl, rfl, rfl, rfl, rfl, rfl, hln⟩ : k = k' ∧ key = key' ∧ dst = dst' ∧ n = n' ∧ had = had' ∧ has = has' ∧ l.length = l'.length := by
      refine ⟨Classical.byContradiction fun e => hd (.inl e), Classical.byContradiction fun e => hd (.inr (.inl e)), Classical.byContradiction fun e => hd (.inr (.inr (.inl e))), Classical.byContradiction fun e => hd (.inr (.inr (.inr (.inl e)))), Classical.byContradiction fun e => hd (.inr (.inr (.inr (.inr (.inl e))))), Classical.byContradiction fun e => hd (.inr (.inr (.inr (.inr (.inr (.inl e)))))), Classical.byContradiction fun e => hd (.inr (.inr (.inr (.inr (.inr (.inr e))))))⟩
    have h := meq_same k key dst n had has k1 b1 n1 t1 l1 o1 k2 b2 n2 t2 l2 o2 k1' b1' n1' t1' l1' o1' k2' b2' n2' t2' l2' o2' la1 oa1 lc1 oc1 la2 oa2 lc2 oc2 la1' oa1' lc1' oc1' la2' oa2' lc2' oc2' l l' a a' c c' w hv1 hv2 hv1' hv2' (by omega) (by omega) (by omega) (by omega) hl hl' hln (by omega) (by omega) IH
    rw [← hln]
    refine h.mono ?_
    rintro e w' ⟨B, rfl, hB, hbw⟩
    refine ⟨B, rfl, hB.trans ⟨?_, ?_⟩, hbw⟩
    · rintro ⟨⟨e1, e2⟩, e3⟩
      rw [e1, e2, e3]
    · intro e
      injection e with e1 e2 e3 e4 e5 e6 e7 e8 e9
      exact ⟨⟨e6, e8⟩, e9⟩
end Go.Proofs.YtkoliaodkojghaaGreatDoor

