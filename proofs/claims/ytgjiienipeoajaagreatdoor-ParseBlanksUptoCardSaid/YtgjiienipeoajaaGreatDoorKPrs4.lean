/- Parts, joined: commonplaceref03.digits: an Int's digits. No condition. A reader of values, byte by byte: blanks, numbers, quotes. Plain. No condition. Data of any make and how they lie in memory: leaves, structs, rows. Plain. No condition. -/
import Derived.Test.YtgjiienipeoajaaGreatDoorProg
import Derived.WalkKit
import Derived.Below
import Derived.Lib.ItoaLen
import Derived.Lib.Hide
import Derived.IntWalk
import Derived.Lib.MapLaws
import Derived.Lib.RuneBytes
/- commonplaceref03.digits: an Int's digits. No condition. -/
namespace Go.Proofs.YtgjiienipeoajaaGreatDoor
open Go.RowKit

/-- A digit's letter. -/
def dgt (d : Nat) : UInt8 := UInt8.ofNat (48 + d)

def digs (u : Nat) : List UInt8 := if _h : u = 0 then [] else digs (u / 10) ++ [dgt (u % 10)]
termination_by u
decreasing_by omega

theorem digs_zero : digs 0 = [] := by rw [digs, dif_pos rfl]
theorem digs_pos {u : Nat} (h : u ≠ 0) : digs u = digs (u / 10) ++ [dgt (u % 10)] := by rw [digs, dif_neg h]
theorem digs_dec (u : Nat) : u ≠ 0 → digs u = Lib.decDigits u := by
  induction u using Nat.strongRecOn with
  | _ u ih =>
    intro h
    rw [digs_pos h, Lib.decDigits]
    unfold dgt
    by_cases h10 : u < 10
    · rw [dif_pos h10, show u / 10 = 0 from by omega, digs_zero, show u % 10 = u from by omega, List.nil_append]
    · rw [dif_neg h10, ih (u / 10) (by omega) (by omega)]
theorem digs_len {u : Nat} (h : (u : Int) ≤ 9223372036854775808) : (digs u).length ≤ 30 := by
  by_cases h0 : u = 0
  · subst h0; rw [digs_zero]; simp
  · rw [digs_dec u h0, Lib.decDigits_length]
    exact Nat.le_trans (Lib.nDigits_le20 u (by omega)) (by omega)

theorem run_cut (S : ByteArray) (d e : Nat) (hd : d ≤ e) (he : e ≤ S.size) (w : World) : (Instr.slice 9 (.string S) (some (.int .i64 d)) (some (.int .i64 e)) none).run Tryz.prog w = .ok (.string (S.extract d e)) w := by
  simp [Instr.slice, run_underlying Tryz.underlying9, Instr.sliceBounds, go_sem, hd, he]
theorem digit_at : ∀ d : Fin 10, (⟨#[48, 49, 50, 51, 52, 53, 54, 55, 56, 57]⟩ : ByteArray).extract d.val (d.val + 1) = ⟨#[dgt d.val]⟩ := by decide
theorem run_digit (d : Nat) (hd : d < 10) (w : World) : (Instr.slice 9 (.string ⟨#[48, 49, 50, 51, 52, 53, 54, 55, 56, 57]⟩) (some (.int .i64 d)) (some (.int .i64 ((d : Int) + 1))) none).run Tryz.prog w = .ok (.string ⟨#[dgt d]⟩) w := by
  have := run_cut ⟨#[48, 49, 50, 51, 52, 53, 54, 55, 56, 57]⟩ d (d + 1) (by omega) (by show d + 1 ≤ 10; omega) w
  rw [digit_at ⟨d, hd⟩] at this
  exact this

set_option maxRecDepth 20000 in
set_option maxHeartbeats 1000000 in
theorem digits_pos (a : Nat) (ha : a ≠ 0) (hm : (a : Int) ≤ 9223372036854775807) (w : World) :
    Calls Tryz.prog 39 #[.int .i64 a] w fun e w' => e = .returned (.string ⟨(Lib.itoa a).toArray⟩) ∧ w = w' := by
  have hi : Lib.itoa a = digs a := by
    rw [digs_dec a ha, Lib.itoa, if_neg (by omega)]; simp
  rw [hi]
  have hl := digs_len (u := a) (by omega)
  have H0 : Hid (digs a ++ (⟨#[]⟩ : ByteArray).data.toList = digs a) := by show _ = _; simp
  clear hi
  go_enter Tryz.func39, Tryz.ntmps39
  have ha1 : ((a : Int) == 0) = false := by simp; omega
  go_wp2
  go_loop [3, 4] (fun s m => ∃ (T : ByteArray) (u : Nat), s = .string T ∧ m = .int .i64 u ∧ u ≤ a ∧ Hid (digs u ++ T.data.toList = digs a)) (fun _ m => (intOf m).toNat)
  case atStart => exact ⟨_, a, rfl, rfl, Nat.le_refl _, H0⟩
  case round =>
    obtain ⟨T, u, rfl, rfl, hu, hT⟩ := hrel
    clear H0
    have hTs : T.size ≤ 30 := by
      have h1 := congrArg List.length hT.out
      rw [List.length_append] at h1
      have h2 : T.data.toList.length = T.size := by rw [Array.length_toList]; rfl
      omega
    by_cases hu0 : u = 0
    · subst hu0
      have hT' := hT.out
      rw [digs_zero, List.nil_append] at hT'
      have hE : (⟨(digs a).toArray⟩ : ByteArray) = T := by rw [← hT']
      have HE := Lib.hid hE
      clear hT hT' hE ha1 hl
      have h0 : ((a : Int) < 0) = False := by simp
      go_wp2
      go_ret
      exact ⟨by rw [HE.out]; rfl, rfl⟩
    · have hu1 : ((u : Int) == 0) = false := by simp; omega
      have hT' : Hid (digs (u / 10) ++ ((⟨#[dgt (u % 10)]⟩ : ByteArray) ++ T).data.toList = digs a) := by
        have := hT.out
        rw [digs_pos hu0] at this
        show _ = _
        rw [← this, ByteArray.data_append, Array.toList_append]
        simp
      have hd := run_digit (u % 10) (by omega) w
      have hm10 : (u : Int) % 10 = ((u % 10 : Nat) : Int) := by omega
      have hq10 : (u : Int) / 10 = ((u / 10 : Nat) : Int) := by omega
      have hlt : u % 10 < 10 := by omega
      have hqu : u / 10 < u := by omega
      generalize u % 10 = d at *
      generalize u / 10 = q at *
      have hdn : decide ((d : Int) < 0) = false := by simp
      clear hT ha1 hl
      go_wp2
      go_round
      case rel => exact ⟨_, q, rfl, rfl, by omega, hT'⟩
      case measure => simp [intOf]; omega

set_option maxRecDepth 20000 in
set_option maxHeartbeats 1000000 in
theorem digits_neg (a : Nat) (ha : a ≠ 0) (hm : (a : Int) ≤ 9223372036854775808) (n : Int) (hn : n = -(a : Int)) (w : World) :
    Calls Tryz.prog 39 #[.int .i64 n] w fun e w' => e = .returned (.string ⟨(Lib.itoa n).toArray⟩) ∧ w = w' := by
  have hi : Lib.itoa n = 45 :: digs a := by
    rw [digs_dec a ha, Lib.itoa, if_pos (by omega), hn]; simp
  rw [hi]
  have hl := digs_len (u := a) (by omega)
  have H0 : Hid (digs a ++ (⟨#[]⟩ : ByteArray).data.toList = digs a) := by show _ = _; simp
  have Hn := Lib.hid hn
  have hn1 : (n == 0) = false := by simp; omega
  have hn2 : n < 0 := by omega
  clear hi hn
  go_enter Tryz.func39, Tryz.ntmps39
  go_wp2
  go_loop [3, 4] (fun s m => ∃ (T : ByteArray) (M : Int) (u : Nat), s = .string T ∧ m = .int .i64 M ∧ Hid (M = -(u : Int)) ∧ u ≤ a ∧ Hid (digs u ++ T.data.toList = digs a)) (fun _ m => (-(intOf m)).toNat)
  case atStart => exact ⟨_, n, a, rfl, rfl, Hn, Nat.le_refl _, H0⟩
  case round =>
    obtain ⟨T, M, u, rfl, rfl, hM, hu, hT⟩ := hrel
    clear H0
    have hTs : T.size ≤ 30 := by
      have h1 := congrArg List.length hT.out
      rw [List.length_append] at h1
      have h2 : T.data.toList.length = T.size := by rw [Array.length_toList]; rfl
      omega
    have hMu := hM.out
    by_cases hu0 : u = 0
    · subst hu0
      obtain rfl : M = 0 := by simpa using hMu
      have hT' := hT.out
      rw [digs_zero, List.nil_append] at hT'
      have hE : (⟨(45 :: digs a).toArray⟩ : ByteArray) = ⟨#[45]⟩ ++ T := by
        apply ByteArray.ext
        rw [ByteArray.data_append]
        apply Array.ext'
        rw [Array.toList_append, hT']
        simp
      have HE := Lib.hid hE
      clear hT hT' hE hn1 hl hM hMu
      go_wp2
      go_ret
      exact ⟨by rw [HE.out]; rfl, rfl⟩
    · have hT' : Hid (digs (u / 10) ++ ((⟨#[dgt (u % 10)]⟩ : ByteArray) ++ T).data.toList = digs a) := by
        have := hT.out
        rw [digs_pos hu0] at this
        show _ = _
        rw [← this, ByteArray.data_append, Array.toList_append]
        simp
      have hM1 : (M == 0) = false := by simp; omega
      have hM2 : -9223372036854775808 ≤ M := by omega
      have hM3 : M < 0 := by omega
      have hd := run_digit (u % 10) (by omega) w
      obtain ⟨D, hD⟩ : ∃ D, M.tmod 10 = D := ⟨_, rfl⟩
      obtain ⟨Q, hQ⟩ : ∃ Q, M.tdiv 10 = Q := ⟨_, rfl⟩
      have hD' : D = -((u % 10 : Nat) : Int) := by
        rw [← hD, hMu, Int.neg_tmod, Int.tmod_eq_emod_of_nonneg (by omega)]; omega
      have hQ' : Q = -((u / 10 : Nat) : Int) := by
        rw [← hQ, hMu, Int.neg_tdiv, Int.tdiv_eq_ediv_of_nonneg (by omega)]; omega
      have hlt : u % 10 < 10 := by omega
      have hqu : u / 10 < u := by omega
      generalize u % 10 = d at *
      generalize u / 10 = q at *
      have HQ := Lib.hid hQ'
      have hMQ : M < Q := by omega
      have hQ1 : -9223372036854775808 ≤ Q := by omega
      have hQ2 : Q ≤ 0 := by omega
      have hQ3 : Q ≤ 9223372036854775807 := by omega
      by_cases hd0 : d = 0
      · subst hd0
        obtain rfl : D = 0 := by simpa using hD'
        have hd1 : (Instr.slice 9 (.string ⟨#[48, 49, 50, 51, 52, 53, 54, 55, 56, 57]⟩) (some (.int .i64 0)) (some (.int .i64 1)) none).run Tryz.prog w = .ok (.string ⟨#[dgt 0]⟩) w := hd
        clear hT hn1 hl hM hD' hQ' hMu hd
        go_wp2
        go_round
        case rel => exact ⟨_, Q, q, rfl, rfl, HQ, by omega, hT'⟩
        case measure => simp only [intOf]; omega
      · have hDn : D < 0 := by omega
        have hDb : -10 < D := by omega
        have hDd : -D = (d : Int) := by omega
        clear hT hn1 hl hM hD' hQ'
        clear hMu
        go_wp2
        go_round
        case rel => exact ⟨_, Q, q, rfl, rfl, HQ, by omega, hT'⟩
        case measure => simp only [intOf]; omega

/-- commonplaceref03.digits -/
theorem digits_calls (n : Int) (h1 : -9223372036854775808 ≤ n) (h2 : n ≤ 9223372036854775807) (w : World) :
    Calls Tryz.prog 39 #[.int .i64 n] w fun e w' => e = .returned (.string ⟨(Lib.itoa n).toArray⟩) ∧ w = w' := by
  by_cases h0 : n = 0
  · subst h0
    have e : (⟨(Lib.itoa 0).toArray⟩ : ByteArray) = ⟨#[48]⟩ := by
      have : Lib.itoa 0 = [48] := by
        rw [Lib.itoa, if_neg (by omega)]
        exact Lib.decDigits_one (i := 0) (by omega)
      rw [this]
    rw [e]
    go_enter Tryz.func39, Tryz.ntmps39
    go_wp2
    go_ret
    exact ⟨rfl, rfl⟩
  · rcases Int.lt_or_le n 0 with h | h
    · exact digits_neg n.natAbs (by omega) (by omega) n (by omega) w
    · have := digits_pos n.toNat (by omega) (by omega) w
      rwa [show ((n.toNat : Nat) : Int) = n from by omega] at this

end Go.Proofs.YtgjiienipeoajaaGreatDoor

/- A reader of values, byte by byte: blanks, numbers, quotes. Plain. No condition. -/
namespace Go.Proofs.YtgjiienipeoajaaGreatDoor
open Go.RowKit

/-- What a reader comes to: what was read, and the place behind it; or an error, and its place. -/
inductive Rd (α : Type) where
  | ok (a : α) (q : Nat)
  | bad (e : Int) (q : Nat)

def isBlank (c : UInt8) : Bool := c == 9 || c == 10 || c == 13 || c == 32
def blanks : List UInt8 → Nat
  | [] => 0
  | c :: r => if isBlank c = true then blanks r + 1 else 0
/-- The first place from one on where no blank stands. -/
def past (s : List UInt8) (p : Nat) : Nat := p + blanks (s.drop p)

theorem blanks_le : ∀ l : List UInt8, blanks l ≤ l.length
  | [] => Nat.le_refl _
  | c :: r => by
    unfold blanks
    split
    · have := blanks_le r; simp only [List.length_cons]; omega
    · exact Nat.zero_le _
theorem past_ge (s : List UInt8) (p : Nat) : p ≤ past s p := Nat.le_add_right _ _
theorem past_le {s : List UInt8} {p : Nat} (h : p ≤ s.length) : past s p ≤ s.length := by
  have := blanks_le (s.drop p)
  rw [List.length_drop] at this
  unfold past; omega
theorem drop_at {s : List UInt8} {p : Nat} {c : UInt8} (h : s[p]? = some c) : s.drop p = c :: s.drop (p + 1) := by
  obtain ⟨hlt, rfl⟩ := List.getElem?_eq_some_iff.1 h
  exact List.drop_eq_getElem_cons hlt
theorem past_step {s : List UInt8} {p : Nat} {c : UInt8} (h : s[p]? = some c) (hb : isBlank c = true) : past s p = past s (p + 1) := by
  unfold past
  rw [drop_at h, blanks, if_pos hb]; omega
theorem past_stop {s : List UInt8} {p : Nat} {c : UInt8} (h : s[p]? = some c) (hb : isBlank c = false) : past s p = p := by
  unfold past
  rw [drop_at h, blanks, if_neg (by rw [hb]; decide)]; rfl
theorem past_end {s : List UInt8} {p : Nat} (h : s.length ≤ p) : past s p = p := by
  unfold past
  rw [List.drop_eq_nil_of_le h]; rfl
theorem past_at (s : List UInt8) (p : Nat) : ∀ c, s[past s p]? = some c → isBlank c = false := by
  unfold past
  have key : ∀ (l : List UInt8) c, l[blanks l]? = some c → isBlank c = false := by
    intro l
    induction l with
    | nil => intro c h; simp at h
    | cons x r ih =>
      intro c h
      unfold blanks at h
      split at h
      · rename_i hb
        rw [List.getElem?_cons_succ] at h
        exact ih c h
      · rename_i hb
        simp only [List.getElem?_cons_zero, Option.some.injEq] at h
        subst h
        simpa using hb
  intro c h
  exact key (s.drop p) c (by rw [List.getElem?_drop]; exact h)
theorem past_past (s : List UInt8) (p : Nat) : past s (past s p) = past s p := by
  cases e : s[past s p]? with
  | none => exact past_end (by simpa using e)
  | some c => exact past_stop e (past_at s p c e)

def isDig (c : UInt8) : Bool := decide (48 ≤ c.toNat ∧ c.toNat ≤ 57)
/-- How many digits stand ahead. -/
def digN : List UInt8 → Nat
  | [] => 0
  | c :: r => if isDig c = true then digN r + 1 else 0
theorem digN_le : ∀ l : List UInt8, digN l ≤ l.length
  | [] => Nat.le_refl _
  | c :: r => by
    unfold digN
    split
    · have := digN_le r; simp only [List.length_cons]; omega
    · exact Nat.zero_le _
def digEnd (s : List UInt8) (p : Nat) : Nat := p + digN (s.drop p)
theorem digEnd_ge (s : List UInt8) (p : Nat) : p ≤ digEnd s p := Nat.le_add_right _ _
theorem digEnd_le {s : List UInt8} {p : Nat} (h : p ≤ s.length) : digEnd s p ≤ s.length := by
  have := digN_le (s.drop p)
  rw [List.length_drop] at this
  unfold digEnd; omega
theorem digEnd_step {s : List UInt8} {p : Nat} {c : UInt8} (h : s[p]? = some c) (hb : isDig c = true) : digEnd s p = digEnd s (p + 1) := by
  unfold digEnd
  rw [drop_at h, digN, if_pos hb]; omega
theorem digEnd_stop {s : List UInt8} {p : Nat} {c : UInt8} (h : s[p]? = some c) (hb : isDig c = false) : digEnd s p = p := by
  unfold digEnd
  rw [drop_at h, digN, if_neg (by rw [hb]; decide)]; rfl
theorem digEnd_end {s : List UInt8} {p : Nat} (h : s.length ≤ p) : digEnd s p = p := by
  unfold digEnd
  rw [List.drop_eq_nil_of_le h]; rfl
theorem digEnd_dig (s : List UInt8) (p : Nat) : ∀ i c, p ≤ i → i < digEnd s p → s[i]? = some c → isDig c = true := by
  have key : ∀ (l : List UInt8) i c, i < digN l → l[i]? = some c → isDig c = true := by
    intro l
    induction l with
    | nil => intro i c h; simp [digN] at h
    | cons x r ih =>
      intro i c h hc
      unfold digN at h
      split at h
      · rename_i hb
        cases i with
        | zero => simp only [List.getElem?_cons_zero, Option.some.injEq] at hc; subst hc; exact hb
        | succ i => rw [List.getElem?_cons_succ] at hc; exact ih i c (by omega) hc
      · omega
  intro i c h1 h2 hc
  unfold digEnd at h2
  exact key (s.drop p) (i - p) c (by omega) (by rw [List.getElem?_drop, show p + (i - p) = i from by omega]; exact hc)

/-- The number of digits. -/
def digV (l : List UInt8) : Nat := l.foldl (fun a c => a * 10 + (c.toNat - 48)) 0
theorem digV_snoc (l : List UInt8) (c : UInt8) : digV (l ++ [c]) = digV l * 10 + (c.toNat - 48) := by unfold digV; rw [List.foldl_append]; rfl

/-- A number's outcome, of its sign, its digits' number, its first place and the one behind it. -/
def numRes (neg : Bool) (m p q : Nat) : Rd Int :=
  if neg = true then (if m = 0 ∨ 9223372036854775808 < m then .bad 7 p else .ok (-(m : Int)) q) else if 9223372036854775807 < m then .bad 7 p else .ok (m : Int) q
/-- A number whose digits begin at f. -/
def numFrom (s : List UInt8) (p f : Nat) : Rd Int :=
  if digEnd s f = f then .bad 4 f
  else if s[f]? = some 48 ∧ f + 1 < digEnd s f then .bad 4 (f + 1)
  else numRes (decide (s[p]? = some 45)) (digV ((s.drop f).take (digEnd s f - f))) p (digEnd s f)
def numberAt (s : List UInt8) (p : Nat) : Rd Int := numFrom s p (if s[p]? = some 45 then p + 1 else p)

/-- A hexadecimal digit's number. -/
def hexD (c : UInt8) : Option Nat :=
  if 48 ≤ c.toNat ∧ c.toNat ≤ 57 then some (c.toNat - 48) else if 97 ≤ c.toNat ∧ c.toNat ≤ 102 then some (c.toNat - 87) else if 65 ≤ c.toNat ∧ c.toNat ≤ 70 then some (c.toNat - 55) else none
def hexF : List UInt8 → Nat → Nat → Option Nat
  | _, 0, n => some n
  | [], _ + 1, _ => none
  | c :: l, k + 1, n => match hexD c with
    | none => none
    | some d => hexF l k (16 * n + d)
/-- The number of an escape of four digits that stands ahead. -/
def unitL (l : List UInt8) : Option Nat := if l.length < 6 ∨ l[0]? ≠ some 92 ∨ l[1]? ≠ some 117 then none else hexF (l.drop 2) 4 0
/-- The rune of an escape's letter. -/
def escLet (c : UInt8) : Option Nat :=
  if c = 34 then some 34 else if c = 92 then some 92 else if c = 47 then some 47 else if c = 98 then some 8 else if c = 102 then some 12 else if c = 110 then some 10 else if c = 114 then some 13 else if c = 116 then some 9 else none
/-- What an escape is that stands ahead: its rune and how many bytes it has, or an error. -/
def pairL (r : Nat) (l : List UInt8) : Rd Nat :=
  if r < 55296 ∨ 57344 ≤ r then .ok r 6
  else if 56320 ≤ r then .bad 3 0
  else match unitL l with
    | none => .bad 3 0
    | some m => if m < 56320 ∨ 57344 ≤ m then .bad 3 0 else .ok (65536 + 1024 * (r - 55296) + (m - 56320)) 12
def letL (l : List UInt8) : Rd Nat := match l[1]? with
  | none => .bad 4 0
  | some c => match escLet c with
    | none => .bad 4 0
    | some r => .ok r 2
def escL (l : List UInt8) : Rd Nat := match unitL l with
  | some r => pairL r (l.drop 6)
  | none => letL l

theorem hexD_lt {c : UInt8} {d : Nat} (h : hexD c = some d) : d < 16 := by
  unfold hexD at h
  split at h
  · simp at h; omega
  split at h
  · simp at h; omega
  split at h
  · simp at h; omega
  · cases h
theorem hexF_lt : ∀ (k : Nat) (l : List UInt8) (n r : Nat), hexF l k n = some r → r < (n + 1) * 16 ^ k
  | 0, l, n, r, h => by
    have : n = r := by cases l <;> simpa [hexF] using h
    subst this; simp
  | k + 1, [], n, r, h => by simp [hexF] at h
  | k + 1, c :: l, n, r, h => by
    simp only [hexF] at h
    cases hd : hexD c with
    | none => rw [hd] at h; cases h
    | some d =>
      rw [hd] at h
      have h1 := hexF_lt k l _ r h
      have h2 := hexD_lt hd
      have h3 : (16 * n + d + 1) * 16 ^ k ≤ ((n + 1) * 16) * 16 ^ k := Nat.mul_le_mul_right _ (by omega)
      rw [Nat.pow_succ, Nat.mul_comm (16 ^ k) 16, ← Nat.mul_assoc]
      omega
theorem unitL_lt {l : List UInt8} {r : Nat} (h : unitL l = some r) : r < 65536 ∧ 6 ≤ l.length := by
  unfold unitL at h
  split at h
  · cases h
  · rename_i hn
    have := hexF_lt 4 _ _ _ h
    omega
theorem escL_ok {l : List UInt8} {r n : Nat} (h : escL l = .ok r n) : r ≤ 1114111 ∧ ¬(55296 ≤ r ∧ r < 57344) ∧ 2 ≤ n ∧ n ≤ l.length := by
  unfold escL at h
  cases hu : unitL l with
  | some u =>
    rw [hu] at h
    obtain ⟨h1, h2⟩ := unitL_lt hu
    simp only [pairL] at h
    split at h
    · simp only [Rd.ok.injEq] at h; omega
    split at h
    · cases h
    cases hm : unitL (l.drop 6) with
    | none => rw [hm] at h; cases h
    | some m =>
      rw [hm] at h
      obtain ⟨h3, h4⟩ := unitL_lt hm
      rw [List.length_drop] at h4
      simp only at h
      split at h
      · cases h
      · simp only [Rd.ok.injEq] at h; omega
  | none =>
    rw [hu] at h
    simp only [letL] at h
    cases hc : l[1]? with
    | none => rw [hc] at h; cases h
    | some c =>
      rw [hc] at h
      have hl := (List.getElem?_eq_some_iff.1 hc).1
      simp only at h
      cases he : escLet c with
      | none => rw [he] at h; cases h
      | some x =>
        rw [he] at h
        simp only [Rd.ok.injEq] at h
        have : x ≤ 92 := by
          unfold escLet at he
          repeat' split at he
          all_goals first | (simp at he; omega) | cases he
        omega

/-- The text that is quoted from a place within a quote on. -/
def unqF : Nat → List UInt8 → Nat → List UInt8 → Rd (List UInt8)
  | 0, _, i, _ => .bad 4 i
  | f + 1, s, i, out => match s[i]? with
    | none => .bad 4 i
    | some c =>
      if c = 34 then .ok out (i + 1)
      else if c.toNat < 32 then .bad 4 i
      else if c = 92 then (match escL (s.drop i) with
        | .bad e _ => .bad e i
        | .ok r n => unqF f s (i + n) (out ++ Lib.encodeRune (r : Int)))
      else if (Lib.decodeL (s.drop i)).1 = 65533 ∧ (Lib.decodeL (s.drop i)).2 = 1 then .bad 3 i
      else unqF f s (i + (Lib.decodeL (s.drop i)).2) (out ++ (s.drop i).take (Lib.decodeL (s.drop i)).2)
/-- The quote that begins at a place. -/
def unqAt (s : List UInt8) (p : Nat) : Rd (List UInt8) := if s[p]? = some 34 then unqF (s.length - p) s (p + 1) [] else .bad 4 p

theorem dec_le {s : List UInt8} {i : Nat} (h : i < s.length) : i + (Lib.decodeL (s.drop i)).2 ≤ s.length := by
  have := Lib.decodeL_le (s.drop i) (by intro e; have := congrArg List.length e; rw [List.length_drop] at this; simp at this; omega)
  rw [List.length_drop] at this; omega
/-- Where a reader comes to: behind its beginning, within the text. -/
def Rd.within {α : Type} (p n : Nat) : Rd α → Prop
  | .ok _ q => p < q ∧ q ≤ n
  | .bad e q => p ≤ q ∧ q ≤ n ∧ 1 ≤ e ∧ e ≤ 18
theorem unqF_within : ∀ (f : Nat) (s : List UInt8) (i : Nat) (out : List UInt8), i ≤ s.length → (unqF f s i out).within i s.length
  | 0, s, i, out, h => ⟨Nat.le_refl _, h, by decide, by decide⟩
  | f + 1, s, i, out, h => by
    unfold unqF
    cases hc : s[i]? with
    | none => exact ⟨Nat.le_refl _, h, by decide, by decide⟩
    | some c =>
      have hi := (List.getElem?_eq_some_iff.1 hc).1
      simp only
      have step : ∀ j o, i < j → j ≤ s.length → (unqF f s j o).within i s.length := by
        intro j o h1 h2
        have := unqF_within f s j o h2
        cases hr : unqF f s j o with
        | ok a q => rw [hr] at this; exact ⟨by have := this.1; omega, this.2⟩
        | bad e q => rw [hr] at this; exact ⟨by have := this.1; omega, this.2⟩
      split
      · exact ⟨by omega, by omega⟩
      split
      · exact ⟨Nat.le_refl _, h, by decide, by decide⟩
      split
      · cases he : escL (s.drop i) with
        | bad e q =>
          refine ⟨Nat.le_refl _, h, ?_⟩
          unfold escL pairL letL at he
          repeat' split at he
          all_goals first | (simp only [Rd.bad.injEq] at he; omega) | cases he
        | ok r n =>
          have := escL_ok he
          rw [List.length_drop] at this
          exact step _ _ (by omega) (by omega)
      split
      · exact ⟨Nat.le_refl _, h, by decide, by decide⟩
      · exact step _ _ (by have := Lib.decodeL_width (s.drop i); omega) (dec_le hi)
theorem unqAt_within {s : List UInt8} {p : Nat} (h : p ≤ s.length) : (unqAt s p).within p s.length := by
  unfold unqAt
  split
  · rename_i hc
    have hi := (List.getElem?_eq_some_iff.1 hc).1
    have := unqF_within (s.length - p) s (p + 1) [] (by omega)
    cases hr : unqF (s.length - p) s (p + 1) [] with
    | ok a q => rw [hr] at this; exact ⟨by have := this.1; omega, this.2⟩
    | bad e q => rw [hr] at this; exact ⟨by have := this.1; omega, this.2⟩
  · exact ⟨Nat.le_refl _, h, by decide, by decide⟩
theorem numberAt_within {s : List UInt8} {p : Nat} (h : p < s.length) : (numberAt s p).within p s.length := by
  have hf : p ≤ (if s[p]? = some 45 then p + 1 else p) ∧ (if s[p]? = some 45 then p + 1 else p) ≤ s.length := by split <;> omega
  have h1 := digEnd_ge s (if s[p]? = some 45 then p + 1 else p)
  have h2 := digEnd_le hf.2
  unfold numberAt
  generalize (if s[p]? = some 45 then p + 1 else p) = F at hf h1 h2 ⊢
  unfold numFrom numRes
  generalize digEnd s F = Q at h1 h2 ⊢
  repeat' split
  all_goals (unfold Rd.within; simp only; omega)

theorem get_lt {s : List UInt8} {p : Nat} {c : UInt8} (h : s[p]? = some c) : p < s.length := (List.getElem?_eq_some_iff.1 h).1
end Go.Proofs.YtgjiienipeoajaaGreatDoor

/- Data of any make and how they lie in memory: leaves, structs, rows. Plain. No condition. -/
namespace Go.Proofs.YtgjiienipeoajaaGreatDoor
open Go.RowKit

/-- A datum: a cell; parts one behind the other; a slice of elements of s cells each. -/
inductive D where
  | leaf (v : Value)
  | agg (l : List D)
  | row (s : Nat) (l : List D)

mutual
/-- Of how many cells a datum is. -/
def D.cells : D → Nat
  | .leaf _ => 1
  | .agg l => cellsA l
  | .row _ _ => 1
def cellsA : List D → Nat
  | [] => 0
  | d :: r => d.cells + cellsA r
end

mutual
/-- These cells hold this datum; all that it leads to lies below block B. -/
def Holds (w : World) (B : Nat) : D → List Value → Prop
  | .leaf v, cs => cs = [v] ∧ v.oneCell' = true
  | .agg l, cs => HoldsA w B l cs
  | .row s l, cs => ∃ a c, cs = [.slice a l.length c] ∧ (∀ d ∈ l, d.cells = s) ∧ ∃ ns, HoldsA w B l ns ∧ (l = [] ∨ ∃ g off, a = some ⟨g, off, none⟩ ∧ g < B ∧ ∀ j u, ns[j]? = some u → w.cell? ⟨g, off + j, none⟩ = some u)
def HoldsA (w : World) (B : Nat) : List D → List Value → Prop
  | [], cs => cs = []
  | d :: r, cs => ∃ c1 c2, cs = c1 ++ c2 ∧ Holds w B d c1 ∧ HoldsA w B r c2
end

/-- To prove something of all data: of each, given that it holds of its parts. -/
theorem D.ind {p : D → Prop} (h0 : ∀ v, p (.leaf v)) (h1 : ∀ l, (∀ d ∈ l, p d) → p (.agg l)) (h2 : ∀ s l, (∀ d ∈ l, p d) → p (.row s l)) : ∀ d, p d := by
  intro d
  refine D.rec (motive_1 := p) (motive_2 := fun l => ∀ d ∈ l, p d) h0 h1 h2 ?_ ?_ d
  · intro d hd
    cases hd
  · intro d r hd hr x hx
    rcases List.mem_cons.1 hx with rfl | hx
    · exact hd
    · exact hr x hx

theorem HoldsA.len_of {w : World} {B : Nat} : ∀ {l : List D}, (∀ d ∈ l, ∀ cs, Holds w B d cs → cs.length = d.cells ∧ ∀ u ∈ cs, u.oneCell' = true) → ∀ {cs}, HoldsA w B l cs → cs.length = cellsA l ∧ ∀ u ∈ cs, u.oneCell' = true
  | [], _, cs, h => by
    have : cs = [] := h
    subst this
    exact ⟨rfl, fun u hu => by cases hu⟩
  | d :: r, ih, cs, h => by
    obtain ⟨c1, c2, rfl, h1, h2⟩ := h
    obtain ⟨a1, a2⟩ := ih d (by simp) c1 h1
    obtain ⟨b1, b2⟩ := HoldsA.len_of (fun x hx => ih x (by simp [hx])) h2
    refine ⟨by simp only [List.length_append, cellsA, a1, b1], fun u hu => ?_⟩
    rcases List.mem_append.1 hu with hu | hu
    · exact a2 u hu
    · exact b2 u hu
theorem Holds.len {w : World} {B : Nat} : ∀ {d : D} {cs}, Holds w B d cs → cs.length = d.cells ∧ ∀ u ∈ cs, u.oneCell' = true := by
  intro d
  refine D.ind (p := fun d => ∀ {cs}, Holds w B d cs → cs.length = d.cells ∧ ∀ u ∈ cs, u.oneCell' = true) ?_ ?_ ?_ d
  · intro v cs h
    obtain ⟨rfl, hv⟩ := h
    exact ⟨rfl, fun u hu => by simp at hu; rw [hu]; exact hv⟩
  · intro l ih cs h
    exact HoldsA.len_of (fun d hd _ => ih d hd) h
  · intro s l _ cs h
    obtain ⟨a, c, rfl, _⟩ := h
    exact ⟨rfl, fun u hu => by simp at hu; rw [hu]; rfl⟩
theorem HoldsA.len {w : World} {B : Nat} {l : List D} {cs : List Value} (h : HoldsA w B l cs) : cs.length = cellsA l ∧ ∀ u ∈ cs, u.oneCell' = true := HoldsA.len_of (fun _ _ _ hd => hd.len) h
theorem cellsA_all {s : Nat} : ∀ {l : List D}, (∀ d ∈ l, d.cells = s) → cellsA l = l.length * s
  | [], _ => by simp [cellsA]
  | d :: r, h => by
    have h1 := h d (by simp)
    have h2 := cellsA_all (l := r) (fun x hx => h x (by simp [hx]))
    simp only [cellsA, List.length_cons, Nat.add_mul, Nat.one_mul]
    omega

theorem HoldsA.imp {w w' : World} {B B' : Nat} : ∀ {l : List D}, (∀ d ∈ l, ∀ cs, Holds w B d cs → Holds w' B' d cs) → ∀ {cs}, HoldsA w B l cs → HoldsA w' B' l cs
  | [], _, _, h => h
  | d :: r, ih, cs, h => by
    obtain ⟨c1, c2, e, h1, h2⟩ := h
    exact ⟨c1, c2, e, ih d (by simp) c1 h1, HoldsA.imp (fun x hx => ih x (by simp [hx])) h2⟩
theorem Holds.imp {w w' : World} {B B' : Nat} (hB : B ≤ B') (hk : ∀ p : Addr, p.block < B → w'.cell? p = w.cell? p) : ∀ {d : D} {cs}, Holds w B d cs → Holds w' B' d cs := by
  intro d
  refine D.ind (p := fun d => ∀ {cs}, Holds w B d cs → Holds w' B' d cs) ?_ ?_ ?_ d
  · intro v cs h
    exact h
  · intro l ih cs h
    exact HoldsA.imp (fun d hd _ => ih d hd) h
  · intro s l ih cs h
    obtain ⟨a, c, e, hs, ns, h1, h2⟩ := h
    refine ⟨a, c, e, hs, ns, HoldsA.imp (fun d hd _ => ih d hd) h1, ?_⟩
    rcases h2 with h2 | ⟨g, off, ea, hg, hcell⟩
    · exact .inl h2
    · exact .inr ⟨g, off, ea, by omega, fun j u hu => (hk _ hg).trans (hcell j u hu)⟩
theorem Holds.keep {w w' : World} {B : Nat} {d : D} {cs : List Value} (h : Holds w B d cs) (hk : ∀ p : Addr, p.block < B → w'.cell? p = w.cell? p) : Holds w' B d cs := h.imp (Nat.le_refl _) hk
theorem Holds.below {w w' : World} {B : Nat} {d : D} {cs : List Value} (h : Holds w B d cs) (hb : Below B w w') : Holds w' B d cs := h.keep fun _ hp => hb.cell hp
theorem Holds.more {w : World} {B B' : Nat} {d : D} {cs : List Value} (h : Holds w B d cs) (hB : B ≤ B') : Holds w B' d cs := h.imp hB fun _ _ => rfl
theorem HoldsA.keep {w w' : World} {B : Nat} {l : List D} {cs : List Value} (h : HoldsA w B l cs) (hk : ∀ p : Addr, p.block < B → w'.cell? p = w.cell? p) : HoldsA w' B l cs := HoldsA.imp (fun _ _ _ hd => hd.keep hk) h
theorem HoldsA.below {w w' : World} {B : Nat} {l : List D} {cs : List Value} (h : HoldsA w B l cs) (hb : Below B w w') : HoldsA w' B l cs := h.keep fun _ hp => hb.cell hp
theorem HoldsA.more {w : World} {B B' : Nat} {l : List D} {cs : List Value} (h : HoldsA w B l cs) (hB : B ≤ B') : HoldsA w B' l cs := HoldsA.imp (fun _ _ _ hd => hd.more hB) h
/-- The old world's data in a later world, all that lies there. -/
theorem Holds.later {w w' : World} {d : D} {cs : List Value} (h : Holds w w.heap.size d cs) (hb : Below w.heap.size w w') : Holds w' w'.heap.size d cs := (h.below hb).more hb.size
theorem HoldsA.later {w w' : World} {l : List D} {cs : List Value} (h : HoldsA w w.heap.size l cs) (hb : Below w.heap.size w w') : HoldsA w' w'.heap.size l cs := (h.below hb).more hb.size

theorem HoldsA.app {w : World} {B : Nat} : ∀ {a b : List D} {ns ms : List Value}, HoldsA w B a ns → HoldsA w B b ms → HoldsA w B (a ++ b) (ns ++ ms)
  | [], b, ns, ms, h, h' => by
    have : ns = [] := h
    subst this
    exact h'
  | d :: r, b, ns, ms, h, h' => by
    obtain ⟨c1, c2, rfl, h1, h2⟩ := h
    exact ⟨c1, c2 ++ ms, by simp, h1, HoldsA.app h2 h'⟩
theorem HoldsA.one {w : World} {B : Nat} {d : D} {cs : List Value} (h : Holds w B d cs) : HoldsA w B [d] cs := ⟨cs, [], by simp, h, rfl⟩
theorem HoldsA.snoc {w : World} {B : Nat} {l : List D} {d : D} {ns cs : List Value} (h : HoldsA w B l ns) (hd : Holds w B d cs) : HoldsA w B (l ++ [d]) (ns ++ cs) := h.app (HoldsA.one hd)
theorem HoldsA.split {w : World} {B s : Nat} : ∀ {l : List D} {ns : List Value} (k : Nat), (∀ d ∈ l, d.cells = s) → HoldsA w B l ns → HoldsA w B (l.take k) (ns.take (k * s)) ∧ HoldsA w B (l.drop k) (ns.drop (k * s))
  | [], ns, k, _, h => by
    have : ns = [] := h
    subst this
    simp [HoldsA]
  | d :: r, ns, 0, _, h => by
    simp only [List.take_zero, Nat.zero_mul, List.drop_zero]
    exact ⟨rfl, h⟩
  | d :: r, ns, k + 1, hs, h => by
    obtain ⟨c1, c2, rfl, h1, h2⟩ := h
    obtain ⟨a, b⟩ := HoldsA.split k (fun x hx => hs x (by simp [hx])) h2
    have hl : c1.length = s := h1.len.1.trans (hs d (by simp))
    have e1 : (c1 ++ c2).take ((k + 1) * s) = c1 ++ c2.take (k * s) := by
      rw [List.take_append, List.take_of_length_le (by rw [hl, Nat.add_mul]; omega), hl, Nat.add_mul, Nat.one_mul, Nat.add_sub_cancel]
    have e2 : (c1 ++ c2).drop ((k + 1) * s) = c2.drop (k * s) := by
      rw [List.drop_append, List.drop_eq_nil_of_le (by rw [hl, Nat.add_mul]; omega), hl, Nat.add_mul, Nat.one_mul, Nat.add_sub_cancel, List.nil_append]
    rw [e1, e2]
    exact ⟨⟨c1, c2.take (k * s), rfl, h1, a⟩, b⟩
theorem HoldsA.at_ {w : World} {B s : Nat} {l : List D} {ns : List Value} (hs : ∀ d ∈ l, d.cells = s) (h : HoldsA w B l ns) {i : Nat} {d : D} (hi : l[i]? = some d) :
    ∃ cs, Holds w B d cs ∧ cs.length = s ∧ ∀ j u, cs[j]? = some u → ns[i * s + j]? = some u := by
  obtain ⟨_, h2⟩ := HoldsA.split i hs h
  obtain ⟨hlt, rfl⟩ := List.getElem?_eq_some_iff.1 hi
  rw [List.drop_eq_getElem_cons hlt] at h2
  obtain ⟨c1, c2, e, h3, _⟩ := h2
  have hl : c1.length = s := h3.len.1.trans (hs _ (List.getElem_mem hlt))
  refine ⟨c1, h3, hl, fun j u hu => ?_⟩
  have h5 := (List.getElem?_eq_some_iff.1 hu).1
  have h4 : (ns.drop (i * s))[j]? = some u := by
    rw [e, List.getElem?_append_left h5]; exact hu
  rwa [List.getElem?_drop] at h4

/-- The i-th element of a slice. -/
theorem Holds.at_ {w : World} {B s : Nat} {l : List D} {a : Option Addr} {n c : Nat} (h : Holds w B (.row s l) [.slice a n c]) {i : Nat} {d : D} (hi : l[i]? = some d) :
    ∃ g off, a = some ⟨g, off, none⟩ ∧ g < B ∧ ∃ cs, Holds w B d cs ∧ cs.length = s ∧ ∀ j u, cs[j]? = some u → w.cell? ⟨g, off + i * s + j, none⟩ = some u := by
  obtain ⟨a', c', e, hs, ns, h1, h2⟩ := h
  simp only [List.cons.injEq, Value.slice.injEq, and_true] at e
  obtain ⟨rfl, rfl, rfl⟩ := e
  rcases h2 with rfl | ⟨g, off, ea, hg, hcell⟩
  · simp at hi
  · obtain ⟨cs, h3, h4, h5⟩ := h1.at_ hs hi
    exact ⟨g, off, ea, hg, cs, h3, h4, fun j u hu => by rw [Nat.add_assoc]; exact hcell _ u (h5 j u hu)⟩
theorem Holds.row_len {w : World} {B s : Nat} {l : List D} {a : Option Addr} {n c : Nat} (h : Holds w B (.row s l) [.slice a n c]) : n = l.length := by
  obtain ⟨a', c', e, _⟩ := h
  simp only [List.cons.injEq, Value.slice.injEq, and_true] at e
  obtain ⟨rfl, rfl, rfl⟩ := e
  exact rfl

/-- These cells hold this datum in every world that agrees with w' on the blocks from b on. -/
def Fresh (b : Nat) (w' : World) (d : D) (cs : List Value) : Prop :=
  ∀ w'' : World, w'.heap.size ≤ w''.heap.size → (∀ p : Addr, b ≤ p.block → p.block < w'.heap.size → w''.cell? p = w'.cell? p) → Holds w'' w'.heap.size d cs
def FreshA (b : Nat) (w' : World) (l : List D) (cs : List Value) : Prop :=
  ∀ w'' : World, w'.heap.size ≤ w''.heap.size → (∀ p : Addr, b ≤ p.block → p.block < w'.heap.size → w''.cell? p = w'.cell? p) → HoldsA w'' w'.heap.size l cs
theorem Fresh.now {b : Nat} {w' : World} {d : D} {cs : List Value} (h : Fresh b w' d cs) : Holds w' w'.heap.size d cs := h w' (Nat.le_refl _) fun _ _ _ => rfl
theorem FreshA.now {b : Nat} {w' : World} {l : List D} {cs : List Value} (h : FreshA b w' l cs) : HoldsA w' w'.heap.size l cs := h w' (Nat.le_refl _) fun _ _ _ => rfl
theorem FreshA.nil (b : Nat) (w' : World) : FreshA b w' [] [] := fun _ _ _ => rfl
theorem FreshA.keep {b : Nat} {wr w' : World} {l : List D} {ns : List Value} (h : FreshA b wr l ns) (hs : wr.heap.size ≤ w'.heap.size) (hk : ∀ p : Addr, b ≤ p.block → p.block < wr.heap.size → w'.cell? p = wr.cell? p) : FreshA b w' l ns :=
  fun w'' h1 h2 => HoldsA.more (h w'' (Nat.le_trans hs h1) (fun p p1 p2 => (h2 p p1 (Nat.lt_of_lt_of_le p2 hs)).trans (hk p p1 p2))) hs
theorem Fresh.keep {b b' : Nat} {wr w' : World} {d : D} {ns : List Value} (h : Fresh b wr d ns) (hb : b' ≤ b) (hs : wr.heap.size ≤ w'.heap.size) (hk : ∀ p : Addr, b ≤ p.block → p.block < wr.heap.size → w'.cell? p = wr.cell? p) : Fresh b' w' d ns :=
  fun w'' h1 h2 => Holds.more (h w'' (Nat.le_trans hs h1) (fun p p1 p2 => (h2 p (Nat.le_trans hb p1) (Nat.lt_of_lt_of_le p2 hs)).trans (hk p p1 p2))) hs
theorem Fresh.later {b : Nat} {w w' : World} {d : D} {ns : List Value} (h : Fresh b w d ns) (hb : Below w.heap.size w w') : Fresh b w' d ns := h.keep (Nat.le_refl _) hb.size fun _ _ p2 => hb.cell p2
theorem FreshA.later {b : Nat} {w w' : World} {l : List D} {ns : List Value} (h : FreshA b w l ns) (hb : Below w.heap.size w w') : FreshA b w' l ns := h.keep hb.size fun _ _ p2 => hb.cell p2
/-- A slice over a fresh row that lies in a block of the call's own. -/
theorem FreshA.row {b s : Nat} {w' : World} {l : List D} {ns : List Value} {a : Option Addr} {c : Nat} (h : FreshA b w' l ns) (hs : ∀ d ∈ l, d.cells = s)
    (ha : l = [] ∨ ∃ g off, a = some ⟨g, off, none⟩ ∧ b ≤ g ∧ g < w'.heap.size ∧ ∀ j u, ns[j]? = some u → w'.cell? ⟨g, off + j, none⟩ = some u) : Fresh b w' (.row s l) [.slice a l.length c] := by
  intro w'' h1 h2
  refine ⟨a, c, rfl, hs, ns, h w'' h1 h2, ?_⟩
  rcases ha with ha | ⟨g, off, e, hbg, hg, hcell⟩
  · exact .inl ha
  · exact .inr ⟨g, off, e, hg, fun j u hu => (h2 _ hbg hg).trans (hcell j u hu)⟩
end Go.Proofs.YtgjiienipeoajaaGreatDoor
