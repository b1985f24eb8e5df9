/- Parts, joined: commonplaceref01.Code: an escape's rune. No condition. How the reference writes a rune, against how the program does. Plain. No condition. A reader of values, byte by byte: what stands at a place of a text, and where that ends, or what is wrong, and where. Plain. No condition. Cells of values: how a result's variable holds one, how one lies in a new block. Plain over the program's types. No condition. Digits, and what strconv.ParseInt says of them. Plain. No condition. A number, gathered below 0 digit by digit: the plain part. No condition. The tables and the two errors that the rows list: a world for the witnesses. No condition. Arguments of the Parse laws that are opened beside the trees: texts, rows of bytes. No condition. -/
import Derived.Test.YtgjiienipeoajaaGreatDoorProg
import Derived.WalkKit
import Derived.Below
import Derived.Lib.RuneBytes
import Derived.Lib.Hide
import Derived.IntWalk
import Derived.Laws.IdiomStrings
import Derived.Lib.ParseIntBCases
import Derived.Test.YtgjiienipeoajaaGreatDoorChecked
import Derived.Test.YtgjiienipeoajaaGreatDoorRows
import Derived.Lay
import Derived.Lib.LaidIn
import Derived.Lib.LaidU8T
import Derived.LaidSub
import Derived.Lib.ItoaNum
import Derived.Deep.DeepHandedRow
import Derived.ProofKit
import Derived.ChangeSame
import Derived.WideKeyArgs
import Derived.OpenShut
import Derived.Test.YtgjiienipeoajaaGreatDoorKPrs2
import Derived.Test.YtgjiienipeoajaaGreatDoorKPrs4
import Derived.Test.YtgjiienipeoajaaGreatDoorKPrs6
import Derived.Test.YtgjiienipeoajaaGreatDoorKPrs12
import Derived.Test.YtgjiienipeoajaaGreatDoorKPrs13
import Derived.Test.YtgjiienipeoajaaGreatDoorKPrs15
import Derived.Test.YtgjiienipeoajaaGreatDoorKPrs16
import Derived.Test.YtgjiienipeoajaaGreatDoorKPrs17
import Derived.Test.YtgjiienipeoajaaGreatDoorKPrs18
/- commonplaceref01.Code: an escape's rune. No condition. -/
namespace Go.Proofs.YtgjiienipeoajaaGreatDoor
open Go.RowKit

/-- What the k-th escape's letter stands for. -/
def codeTab : List Int := [34, 92, 47, 8, 12, 10, 13, 9]

set_option maxHeartbeats 1000000 in
theorem RCode_calls (k : Nat) (c : Int) (h : codeTab[k]? = some c) (w : World) :
    Calls Tryz.prog 37 #[.int .i64 k] w fun e w' => e = .returned (.int .i64 c) ∧ Below w.heap.size w w' := by
  have hk : k < 8 := (List.getElem?_eq_some_iff.1 h).1
  rcases (by omega : k = 0 ∨ k = 1 ∨ k = 2 ∨ k = 3 ∨ k = 4 ∨ k = 5 ∨ k = 6 ∨ k = 7) with rfl | rfl | rfl | rfl | rfl | rfl | rfl | rfl
  all_goals
    (obtain rfl := Option.some.inj h
     clear h hk
     go_enter Tryz.func37, Tryz.ntmps37
     go_wp2
     go_ret
     exact ⟨rfl, (Below.refl _ _).alloc (Nat.le_refl _) _⟩)

end Go.Proofs.YtgjiienipeoajaaGreatDoor

/- How the reference writes a rune, against how the program does. Plain. No condition. -/
namespace Go.Proofs.YtgjiienipeoajaaGreatDoor
open Go.RowKit

/-- The escapes' letters. -/
def letTab : List UInt8 := [34, 92, 47, 98, 102, 110, 114, 116]

theorem quoteRune_let : ∀ j : Fin 8, j.val ≠ 2 → quoteRune ((codeTab.getD j.val 0).toNat) = [92, letTab.getD j.val 0] := by decide

/-- No escape of one letter. -/
def NoLet (r : Nat) (j : Nat) : Prop := ∀ i : Nat, i < j → i ≠ 2 → codeTab.getD i 0 ≠ (r : Int)

theorem NoLet.all {r : Nat} (h : NoLet r 8) : r ≠ 34 ∧ r ≠ 92 ∧ r ≠ 8 ∧ r ≠ 12 ∧ r ≠ 10 ∧ r ≠ 13 ∧ r ≠ 9 := by
  have h0 := h 0 (by omega) (by omega)
  have h1 := h 1 (by omega) (by omega)
  have h3 := h 3 (by omega) (by omega)
  have h4 := h 4 (by omega) (by omega)
  have h5 := h 5 (by omega) (by omega)
  have h6 := h 6 (by omega) (by omega)
  have h7 := h 7 (by omega) (by omega)
  simp [codeTab] at h0 h1 h3 h4 h5 h6 h7
  omega

theorem quoteRune_no {r : Nat} (h : NoLet r 8) : quoteRune r = if r < 32 then [92, 117, 48, 48, hexd (r / 16), hexd (r % 16)] else Lib.encodeRune r := by
  obtain ⟨a1, a2, a3, a4, a5, a6, a7⟩ := h.all
  unfold quoteRune
  by_cases h32 : r < 32
  · rw [if_neg (by omega), if_pos h32]
    have : findKV (r : Int) letterTab = none := by
      simp only [letterTab, findKV]
      repeat rw [if_neg (by omega)]
    rw [this]
  · rw [if_pos (by omega), if_neg h32]

theorem NoLet.step {r j : Nat} (h : NoLet r j) (hj : j = 2 ∨ codeTab.getD j 0 ≠ (r : Int)) : NoLet r (j + 1) := by
  intro i hi h2
  by_cases he : i = j
  · subst he
    rcases hj with hj | hj
    · exact absurd hj h2
    · exact hj
  · exact h i (by omega) h2

/-- What a rune of a text is. -/
def scalar (r : Nat) : Prop := r ≤ 1114111 ∧ ¬(55296 ≤ r ∧ r < 57344)

theorem atEnd_range (F : Option Int) (n : Nat) (least : Int) : (atEnd F n least).2 = 0 ∨ ((atEnd F n least).1 ≤ 1114111 ∧ ¬(55296 ≤ (atEnd F n least).1 ∧ (atEnd F n least).1 < 57344)) := by
  unfold atEnd
  split
  · simp
  · split
    · simp
    · rename_i h
      right
      simp only
      omega

theorem atTail_range (rest : List UInt8) (n : Nat) (r0 least : Int) : (atTail rest n r0 least).2 = 0 ∨ ((atTail rest n r0 least).1 ≤ 1114111 ∧ ¬(55296 ≤ (atTail rest n r0 least).1 ∧ (atTail rest n r0 least).1 < 57344)) := by
  unfold atTail
  split
  · exact .inl rfl
  · exact atEnd_range _ _ _
theorem atSpec_range (l : List UInt8) : (atSpec l).2 = 0 ∨ ((atSpec l).1 ≤ 1114111 ∧ ¬(55296 ≤ (atSpec l).1 ∧ (atSpec l).1 < 57344)) := by
  cases l with
  | nil => exact .inl rfl
  | cons c rest =>
    rw [atSpec_cons]
    by_cases h1 : (c.toNat : Int) < 128
    · rw [if_pos h1]
      right
      simp only
      omega
    rw [if_neg h1]
    split
    · exact atTail_range _ _ _ _
    split
    · exact atTail_range _ _ _ _
    split
    · exact atTail_range _ _ _ _
    · exact .inl rfl
theorem runesFrom_scalar : ∀ (n : Nat) (l : List UInt8) (p : Nat), ∀ x ∈ runesFrom n l p, scalar x.2
  | 0, _, _, x, hx => by simp [runesFrom] at hx
  | n + 1, l, p, x, hx => by
    by_cases h : l = []
    · subst h
      simp [runesFrom] at hx
    · rcases runesFrom_step h n p with ⟨_, e⟩ | ⟨m, r, hn, h1, _, e⟩
      · rw [e] at hx
        cases hx
      · rw [e] at hx
        rcases List.mem_cons.1 hx with rfl | hx
        · have := atSpec_range l
          rw [hn] at this
          unfold scalar
          simp only at this ⊢
          omega
        · exact runesFrom_scalar n _ _ x hx

theorem run_hex (d : Nat) (hd : d < 16) (w : World) : (Instr.slice 9 (.string ⟨#[48, 49, 50, 51, 52, 53, 54, 55, 56, 57, 97, 98, 99, 100, 101, 102]⟩) (some (.int .i64 d)) (some (.int .i64 ((d : Int) + 1))) none).run Tryz.prog w = .ok (.string ⟨#[hexd d]⟩) w := by
  have := run_cut ⟨#[48, 49, 50, 51, 52, 53, 54, 55, 56, 57, 97, 98, 99, 100, 101, 102]⟩ d (d + 1) (by omega) (by show d + 1 ≤ 16; omega) w
  have e : ∀ d : Fin 16, (⟨#[48, 49, 50, 51, 52, 53, 54, 55, 56, 57, 97, 98, 99, 100, 101, 102]⟩ : ByteArray).extract d.val (d.val + 1) = ⟨#[hexd d.val]⟩ := by decide
  rw [e ⟨d, hd⟩] at this
  exact this
theorem run_let (d : Nat) (hd : d < 8) (w : World) : (Instr.slice 9 (.string ⟨#[34, 92, 47, 98, 102, 110, 114, 116]⟩) (some (.int .i64 d)) (some (.int .i64 ((d : Int) + 1))) none).run Tryz.prog w = .ok (.string ⟨#[letTab.getD d 0]⟩) w := by
  have := run_cut ⟨#[34, 92, 47, 98, 102, 110, 114, 116]⟩ d (d + 1) (by omega) (by show d + 1 ≤ 8; omega) w
  have e : ∀ d : Fin 8, (⟨#[34, 92, 47, 98, 102, 110, 114, 116]⟩ : ByteArray).extract d.val (d.val + 1) = ⟨#[letTab.getD d.val 0]⟩ := by decide
  rw [e ⟨d, hd⟩] at this
  exact this

end Go.Proofs.YtgjiienipeoajaaGreatDoor

/- A reader of values, byte by byte: what stands at a place of a text, and where that ends, or what is wrong, and where. Plain. No condition. -/
namespace Go.Proofs.YtgjiienipeoajaaGreatDoor
open Go.RowKit

/-- Values, as they are read. -/
def emptyB : ByteArray := ⟨#[]⟩
def nullV : Val := .mk 1 false 0 emptyB [] []
def boolV (b : Bool) : Val := .mk 2 b 0 emptyB [] []
def intV (n : Int) : Val := .mk 3 false n emptyB [] []
def txtV (l : List UInt8) : Val := .mk 4 false 0 ⟨l.toArray⟩ [] []
def lstV (l : List Val) : Val := .mk 5 false 0 emptyB l []
def objV (o : List (ByteArray × Val)) : Val := .mk 6 false 0 emptyB [] o
def Rd.map {α β : Type} (g : α → β) : Rd α → Rd β
  | .ok a q => .ok (g a) q
  | .bad e q => .bad e q
def wordAt (s : List UInt8) (p : Nat) (w : List UInt8) (v : Val) : Rd Val := if w.isPrefixOf (s.drop p) = true then .ok v (p + w.length) else .bad 4 p
def sortO (l : List (ByteArray × Val)) : List (ByteArray × Val) := (objAll l []).getD []
def hasK (k : ByteArray) (l : List (ByteArray × Val)) : Bool := l.any fun m => decide (m.1 = k)
/-- What values begin with. -/
def startsV (c : UInt8) : Bool := isDig c || c == 45 || c == 34 || c == 91 || c == 123 || c == 110 || c == 116 || c == 102

mutual
def valueF : Nat → List UInt8 → Nat → Int → Rd Val
  | 0, s, p, _ => .bad 4 (past s p)
  | f + 1, s, p, d => match s[past s p]? with
    | none => .bad 4 (past s p)
    | some c =>
      if startsV c = false then .bad 4 (past s p)
      else if 64 < d then .bad 5 (past s p)
      else if c = 91 then listF f s (past s p) d
      else if c = 123 then objF f s (past s p) d
      else if c = 34 then (unqAt s (past s p)).map txtV
      else if c = 110 then wordAt s (past s p) [110, 117, 108, 108] nullV
      else if c = 116 then wordAt s (past s p) [116, 114, 117, 101] (boolV true)
      else if c = 102 then wordAt s (past s p) [102, 97, 108, 115, 101] (boolV false)
      else (numberAt s (past s p)).map intV
def listF : Nat → List UInt8 → Nat → Int → Rd Val
  | 0, s, p, _ => .bad 4 (past s (p + 1))
  | f + 1, s, p, d => if s[past s (p + 1)]? = some 93 then .ok (lstV []) (past s (p + 1) + 1) else itemsF f s (past s (p + 1)) d []
def objF : Nat → List UInt8 → Nat → Int → Rd Val
  | 0, s, p, _ => .bad 4 (past s (p + 1))
  | f + 1, s, p, d => if s[past s (p + 1)]? = some 125 then .ok (objV []) (past s (p + 1) + 1) else membersF f s (past s (p + 1)) d []
def itemsF : Nat → List UInt8 → Nat → Int → List Val → Rd Val
  | 0, s, p, _, _ => .bad 4 (past s p)
  | f + 1, s, p, d, acc => match valueF f s p (d + 1) with
    | .bad e q => .bad e q
    | .ok v q => if s[past s q]? = some 44 then itemsF f s (past s q + 1) d (acc ++ [v]) else if s[past s q]? = some 93 then .ok (lstV (acc ++ [v])) (past s q + 1) else .bad 4 (past s q)
def membersF : Nat → List UInt8 → Nat → Int → List (ByteArray × Val) → Rd Val
  | 0, s, p, _, _ => .bad 4 (past s p)
  | f + 1, s, p, d, acc => match unqAt s (past s p) with
    | .bad e q => .bad e q
    | .ok k q => if hasK ⟨k.toArray⟩ acc = true then .bad 8 (past s p)
      else if s[past s q]? = some 58 then memberF f s (past s q + 1) d acc ⟨k.toArray⟩
      else .bad 4 (past s q)
def memberF : Nat → List UInt8 → Nat → Int → List (ByteArray × Val) → ByteArray → Rd Val
  | 0, s, p, _, _, _ => .bad 4 (past s p)
  | f + 1, s, p, d, acc, k => match valueF f s p (d + 1) with
    | .bad e q => .bad e q
    | .ok v q => if s[past s q]? = some 44 then membersF f s (past s q + 1) d (acc ++ [(k, v)]) else if s[past s q]? = some 125 then .ok (objV (sortO (acc ++ [(k, v)]))) (past s q + 1) else .bad 4 (past s q)
end

/-- The value of a text that has nothing else. -/
def parseL (s : List UInt8) : Rd Val := match valueF (4 * s.length + 4) s 0 1 with
  | .bad e q => .bad e q
  | .ok v q => if past s q < s.length then .bad 4 (past s q) else .ok v (past s q)

theorem Rd.within.from {α : Type} {p p' n : Nat} {r : Rd α} (h : r.within p' n) (hp : p ≤ p') : r.within p n := by
  cases r with
  | ok a q => exact ⟨by have := h.1; omega, h.2⟩
  | bad e q => exact ⟨by have := h.1; omega, h.2⟩
theorem Rd.within.map {α β : Type} {g : α → β} {p n : Nat} {r : Rd α} (h : r.within p n) : (r.map g).within p n := by
  cases r <;> exact h
theorem wordAt_within {s : List UInt8} {p : Nat} (h : p < s.length) {w : List UInt8} (hw : w ≠ []) (v : Val) : (wordAt s p w v).within p s.length := by
  unfold wordAt
  split
  · rename_i hp
    have hp' := (List.isPrefixOf_iff_prefix.1 hp).length_le
    rw [List.length_drop] at hp'
    have : 0 < w.length := List.length_pos_iff.2 hw
    exact ⟨by omega, by omega⟩
  · exact ⟨Nat.le_refl _, by omega, by decide, by decide⟩
theorem bad_past {α : Type} {s : List UInt8} {p : Nat} (h : p ≤ s.length) (e : Int) (h1 : 1 ≤ e) (h2 : e ≤ 18) : (Rd.bad e (past s p) : Rd α).within p s.length := ⟨past_ge s p, past_le h, h1, h2⟩
theorem within_all : ∀ (f : Nat), (∀ s p d, p ≤ s.length → (valueF f s p d).within p s.length) ∧ (∀ s p d, p < s.length → (listF f s p d).within p s.length) ∧ (∀ s p d, p < s.length → (objF f s p d).within p s.length) ∧
    (∀ s p d acc, p ≤ s.length → (itemsF f s p d acc).within p s.length) ∧ (∀ s p d acc, p ≤ s.length → (membersF f s p d acc).within p s.length) ∧ (∀ s p d acc k, p ≤ s.length → (memberF f s p d acc k).within p s.length) := by
  intro f
  induction f with
  | zero =>
    refine ⟨fun s p d h => ?_, fun s p d h => ?_, fun s p d h => ?_, fun s p d acc h => ?_, fun s p d acc h => ?_, fun s p d acc k h => ?_⟩
    · unfold valueF; exact bad_past h _ (by decide) (by decide)
    · unfold listF; exact (bad_past (p := p + 1) h _ (by decide) (by decide)).from (by omega)
    · unfold objF; exact (bad_past (p := p + 1) h _ (by decide) (by decide)).from (by omega)
    · unfold itemsF; exact bad_past h _ (by decide) (by decide)
    · unfold membersF; exact bad_past h _ (by decide) (by decide)
    · unfold memberF; exact bad_past h _ (by decide) (by decide)
  | succ f ih =>
    obtain ⟨iv, il, io, ii, im, ik⟩ := ih
    refine ⟨fun s p d h => ?_, fun s p d h => ?_, fun s p d h => ?_, fun s p d acc h => ?_, fun s p d acc h => ?_, fun s p d acc k h => ?_⟩
    · unfold valueF
      have hp := past_le h
      have hg := past_ge s p
      cases hc : s[past s p]? with
      | none => exact bad_past h _ (by decide) (by decide)
      | some c =>
        have hl := get_lt hc
        simp only
        split
        · exact bad_past h _ (by decide) (by decide)
        split
        · exact bad_past h _ (by decide) (by decide)
        split
        · exact (il s _ d hl).from hg
        split
        · exact (io s _ d hl).from hg
        split
        · exact ((unqAt_within hp).map).from hg
        split
        · exact (wordAt_within hl (by simp) _).from hg
        split
        · exact (wordAt_within hl (by simp) _).from hg
        split
        · exact (wordAt_within hl (by simp) _).from hg
        · exact ((numberAt_within hl).map).from hg
    · unfold listF
      have hp := past_le (s := s) (p := p + 1) h
      have hg := past_ge s (p + 1)
      split
      · rename_i hc
        exact ⟨by omega, by have := get_lt hc; omega⟩
      · exact (ii s _ d [] hp).from (by omega)
    · unfold objF
      have hp := past_le (s := s) (p := p + 1) h
      have hg := past_ge s (p + 1)
      split
      · rename_i hc
        exact ⟨by omega, by have := get_lt hc; omega⟩
      · exact (im s _ d [] hp).from (by omega)
    · unfold itemsF
      have hv := iv s p (d + 1) h
      cases hr : valueF f s p (d + 1) with
      | bad e q => rw [hr] at hv; exact hv
      | ok v q =>
        rw [hr] at hv
        obtain ⟨h1, h2⟩ := hv
        have hp := past_le h2
        have hg := past_ge s q
        simp only
        split
        · rename_i hc
          exact (ii s _ d _ (get_lt hc)).from (by omega)
        split
        · rename_i hc
          exact ⟨by omega, get_lt hc⟩
        · exact (bad_past h2 _ (by decide) (by decide)).from (by omega)
    · unfold membersF
      have hp0 := past_le h
      have hg0 := past_ge s p
      have hv := unqAt_within hp0
      cases hr : unqAt s (past s p) with
      | bad e q => rw [hr] at hv; exact hv.from hg0
      | ok k q =>
        rw [hr] at hv
        obtain ⟨h1, h2⟩ := hv
        have hp := past_le h2
        have hg := past_ge s q
        simp only
        split
        · exact bad_past h _ (by decide) (by decide)
        split
        · rename_i hc
          exact (ik s _ d _ _ (get_lt hc)).from (by omega)
        · exact (bad_past h2 _ (by decide) (by decide)).from (by omega)
    · unfold memberF
      have hv := iv s p (d + 1) h
      cases hr : valueF f s p (d + 1) with
      | bad e q => rw [hr] at hv; exact hv
      | ok v q =>
        rw [hr] at hv
        obtain ⟨h1, h2⟩ := hv
        have hp := past_le h2
        have hg := past_ge s q
        simp only
        split
        · rename_i hc
          exact (im s _ d _ (get_lt hc)).from (by omega)
        split
        · rename_i hc
          exact ⟨by omega, get_lt hc⟩
        · exact (bad_past h2 _ (by decide) (by decide)).from (by omega)
end Go.Proofs.YtgjiienipeoajaaGreatDoor

/- Cells of values: how a result's variable holds one, how one lies in a new block. Plain over the program's types. No condition. -/
namespace Go.Proofs.YtgjiienipeoajaaGreatDoor
open Go Go.RowKit

abbrev zero6 : Array Value := #[.int .i64 0, .bool false, .int .i64 0, .string ⟨#[]⟩, .slice none 0 0, .slice none 0 0]
theorem six_now {B : Nat} {w4 : World} {k : Int} {b : Bool} {n : Int} {t : ByteArray} {l : List Val} {o : List (ByteArray × Val)} {cs : List Value} (h : Fresh B w4 (dV (.mk k b n t l o)) cs) : ∃ la lc oa oc, cs = [.int .i64 k, .bool b, .int .i64 n, .string t, .slice la l.length lc, .slice oa o.length oc] := by
  have h1 := holdsV_of _ _ h.now
  simp only [HoldsV] at h1
  obtain ⟨la, lc, oa, oc, e, _, _⟩ := h1
  exact ⟨la, lc, oa, oc, e⟩
theorem vcell {w : World} {g : Nat} {t : TypeId} {a0 a1 a2 a3 a4 a5 : Value} (h : Blk w g t #[a0, a1, a2, a3, a4, a5]) :
    w.cell? ⟨g, 0, none⟩ = some a0 ∧ w.cell? ⟨g, 1, none⟩ = some a1 ∧ w.cell? ⟨g, 2, none⟩ = some a2 ∧ w.cell? ⟨g, 3, none⟩ = some a3 ∧ w.cell? ⟨g, 4, none⟩ = some a4 ∧ w.cell? ⟨g, 5, none⟩ = some a5 :=
  ⟨h.cell 0, h.cell 1, h.cell 2, h.cell 3, h.cell 4, h.cell 5⟩
theorem dP_fresh {B : Nat} {w : World} {key : ByteArray} {v : Val} {cs : List Value} (h : Fresh B w (dV v) cs) : Fresh B w (dP (key, v)) (.string key :: cs) := fun w'' h1 h2 => ⟨[.string key], cs, rfl, ⟨rfl, rfl⟩, cs, [], by simp, h w'' h1 h2, rfl⟩


theorem mem_info : (Tryz.prog.info? 37).map (fun i => (i.zero, i.size, i.bytes)) = some (some (.agg #[.string ⟨#[]⟩, .int .i64 0, .bool false, .int .i64 0, .string ⟨#[]⟩, .slice none 0 0, .slice none 0 0]), 7, 104) := by kernel_rfl
/-- A value as the result's variable holds it. -/
theorem results_cell6 {fn : Func} {t : Tmp} {tmps : Array Value} {W : World} {R : Nat} {a0 a1 a2 a3 a4 a5 : Value} (h : fn.results = #[.cell t 26]) (hp : tmps.getD t undef = .pointer (some ⟨R, 0, none⟩)) (hx : Blk W R 26 #[a0, a1, a2, a3, a4, a5]) :
    (results fn tmps).run Tryz.prog W = .ok (.agg #[a0, a1, a2, a3, a4, a5]) W := by
  obtain ⟨c0, c1, c2, c3, c4, c5⟩ := vcell hx
  clear hx
  have hp' : tmps[t]?.getD undef = .pointer (some ⟨R, 0, none⟩) := by simpa using hp
  simp [results, h, hp', go_sem, c0, c1, c2, c3, c4, c5]
theorem RowD.slice_n {b : Nat} {t : TypeId} {s n : Nat} {wr : World} {l : List D} {V : Value} (h : RowD b t s wr l V) (hn : l.length = n) : ∃ a c, V = .slice a n c := by
  subst hn; exact h.slice
theorem blk_app {w w6 : World} {R b : Nat} {t e : TypeId} {sz : Nat} {l : List D} {V : Value} {cs : Array Value} {wr : World} (h : Blk w R t cs) (hg : w.grownBy w6 V.ownBlock) (hr : RowD b e sz wr l V) (hR : R < b) : Blk w6 R t cs :=
  h.grown hg fun e => by have := (hr.base R e.symm).1; omega
theorem below_app {w w6 : World} {B b : Nat} {e : TypeId} {sz : Nat} {l : List D} {V : Value} {w0 wr : World} (h : Below B w0 w) (hg : w.grownBy w6 V.ownBlock) (hr : RowD b e sz wr l V) (hB : B ≤ b) (hBw : B ≤ w.heap.size) : Below B w0 w6 :=
  h.grown hg hBw fun k hk => Nat.le_trans hB (hr.base k hk).1
theorem reads_seven (w : World) (a0 a1 a2 a3 a4 a5 a6 : Value) : Reads (w.alloc (.cells #[a0, a1, a2, a3, a4, a5, a6] 37)) (w.heap.size + 1) 7 (some ⟨w.heap.size, 0, none⟩) 1 [a0, a1, a2, a3, a4, a5, a6] := reads_one (Blk.new w 37 #[a0, a1, a2, a3, a4, a5, a6])
theorem val_info : (Tryz.prog.info? 26).map (fun i => (i.zero, i.size, i.bytes)) = some (some (.agg #[.int .i64 0, .bool false, .int .i64 0, .string ⟨#[]⟩, .slice none 0 0, .slice none 0 0]), 6, 88) := by kernel_rfl
theorem reads_six (w : World) (a0 a1 a2 a3 a4 a5 : Value) : Reads (w.alloc (.cells #[a0, a1, a2, a3, a4, a5] 26)) (w.heap.size + 1) 6 (some ⟨w.heap.size, 0, none⟩) 1 [a0, a1, a2, a3, a4, a5] := reads_one (Blk.new w 26 #[a0, a1, a2, a3, a4, a5])
theorem results_cell6_t {fn : Func} {t u : Tmp} {tmps : Array Value} {W : World} {R : Nat} {a0 a1 a2 a3 a4 a5 : Value} (h : fn.results = #[.cell t 26, .tmp u]) (hp : tmps.getD t undef = .pointer (some ⟨R, 0, none⟩)) (hx : Blk W R 26 #[a0, a1, a2, a3, a4, a5]) :
    (results fn tmps).run Tryz.prog W = .ok (.tuple #[.agg #[a0, a1, a2, a3, a4, a5], tmps.getD u undef]) W := by
  obtain ⟨c0, c1, c2, c3, c4, c5⟩ := vcell hx
  clear hx
  have hp' : tmps[t]?.getD undef = .pointer (some ⟨R, 0, none⟩) := by simpa using hp
  simp [results, h, hp', go_sem, c0, c1, c2, c3, c4, c5]
theorem results_cell6_tt {fn : Func} {t u u' : Tmp} {tmps : Array Value} {W : World} {R : Nat} {a0 a1 a2 a3 a4 a5 : Value} (h : fn.results = #[.cell t 26, .tmp u, .tmp u']) (hp : tmps.getD t undef = .pointer (some ⟨R, 0, none⟩)) (hx : Blk W R 26 #[a0, a1, a2, a3, a4, a5]) :
    (results fn tmps).run Tryz.prog W = .ok (.tuple #[.agg #[a0, a1, a2, a3, a4, a5], tmps.getD u undef, tmps.getD u' undef]) W := by
  obtain ⟨c0, c1, c2, c3, c4, c5⟩ := vcell hx
  clear hx
  have hp' : tmps[t]?.getD undef = .pointer (some ⟨R, 0, none⟩) := by simpa using hp
  simp [results, h, hp', go_sem, c0, c1, c2, c3, c4, c5]
end Go.Proofs.YtgjiienipeoajaaGreatDoor

/- Digits, and what strconv.ParseInt says of them. Plain. No condition. -/
namespace Go.Proofs.YtgjiienipeoajaaGreatDoor
open Go Go.RowKit

def digF (acc : Nat) (l : List UInt8) : Nat := l.foldl (fun a c => a * 10 + (c.toNat - 48)) acc
theorem digF_ge : ∀ (l : List UInt8) (a : Nat), a ≤ digF a l
  | [], a => Nat.le_refl a
  | c :: r, a => by
    have := digF_ge r (a * 10 + (c.toNat - 48))
    show a ≤ digF (a * 10 + (c.toNat - 48)) r
    omega
theorem uintM_digits : ∀ (l : List UInt8) (acc : Nat), (∀ c ∈ l, isDig c = true) → Lib.parseUintM 18446744073709551615 acc l = if 18446744073709551615 < digF acc l ∧ l ≠ [] then .range else .ok (digF acc l)
  | [], acc, _ => by simp [Lib.parseUintM, digF]
  | c :: r, acc, h => by
    have hc := h c (by simp)
    unfold isDig at hc
    rw [decide_eq_true_iff] at hc
    have ih := uintM_digits r (acc * 10 + (c.toNat - 48)) (fun x hx => h x (by simp [hx]))
    have e : digF acc (c :: r) = digF (acc * 10 + (c.toNat - 48)) r := rfl
    have hg := digF_ge r (acc * 10 + (c.toNat - 48))
    unfold Lib.parseUintM
    rw [if_pos hc, e]
    by_cases h1 : 1844674407370955162 ≤ acc
    · rw [if_pos h1, if_pos ⟨by omega, by simp⟩]
    · rw [if_neg h1]
      by_cases h2 : 18446744073709551615 < acc * 10 + (c.toNat - 48)
      · rw [if_pos h2, if_pos ⟨by omega, by simp⟩]
      · rw [if_neg h2, ih]
        by_cases hr : r = []
        · subst hr
          rw [if_neg (by simp)]
          have : digF (acc * 10 + (c.toNat - 48)) [] = acc * 10 + (c.toNat - 48) := rfl
          rw [if_neg (by rw [this]; omega)]
        · by_cases h3 : 18446744073709551615 < digF (acc * 10 + (c.toNat - 48)) r
          · rw [if_pos ⟨h3, hr⟩, if_pos ⟨h3, by simp⟩]
          · rw [if_neg (fun q => h3 q.1), if_neg (fun q => h3 q.1)]
theorem uintB_digits {l : List UInt8} (h : ∀ c ∈ l, isDig c = true) (hl : l ≠ []) : Lib.parseUintB 64 l = if 18446744073709551615 < digV l then .range else .ok (digV l) := by
  unfold Lib.parseUintB
  rw [if_neg hl]
  have := uintM_digits l 0 h
  have e : digF 0 l = digV l := rfl
  rw [e] at this
  show Lib.parseUintM 18446744073709551615 0 l = _
  rw [this]
  by_cases h3 : 18446744073709551615 < digV l
  · rw [if_pos ⟨h3, hl⟩, if_pos h3]
  · rw [if_neg (fun q => h3 q.1), if_neg h3]
/-- Digits alone. -/
theorem intB_pos {l : List UInt8} (h : ∀ c ∈ l, isDig c = true) (hl : l ≠ []) : Lib.parseIntB 64 l = if 9223372036854775807 < digV l then .range else .ok (digV l : Int) := by
  obtain ⟨c, r, rfl⟩ : ∃ c r, l = c :: r := by cases l with | nil => exact absurd rfl hl | cons c r => exact ⟨c, r, rfl⟩
  have hc := h c (by simp)
  unfold isDig at hc
  rw [decide_eq_true_iff] at hc
  unfold Lib.parseIntB
  simp only
  rw [if_neg (show ¬(c.toNat = 43 ∨ c.toNat = 45) by omega), uintB_digits h hl]
  have hn : ¬(c.toNat = 45) := by omega
  by_cases h1 : 18446744073709551615 < digV (c :: r)
  · rw [if_pos h1, if_pos (by omega)]
  · rw [if_neg h1]
    by_cases h2 : 9223372036854775807 < digV (c :: r)
    · simp only [hn, not_false_eq_true, true_and, false_and, if_false]
      rw [if_pos h2, if_pos (by show 9223372036854775808 ≤ _; omega)]
    · simp only [hn, not_false_eq_true, true_and, false_and, if_false]
      rw [if_neg h2, if_neg (by show ¬(9223372036854775808 ≤ _); omega)]
/-- Digits behind a minus. -/
theorem intB_neg {l : List UInt8} (h : ∀ c ∈ l, isDig c = true) (hl : l ≠ []) : Lib.parseIntB 64 (45 :: l) = if 9223372036854775808 < digV l then .range else .ok (-(digV l : Int)) := by
  unfold Lib.parseIntB
  simp only
  rw [if_pos (by decide), uintB_digits h hl]
  by_cases h1 : 18446744073709551615 < digV l
  · rw [if_pos h1, if_pos (by omega)]
  · rw [if_neg h1]
    have hn : (45 : UInt8).toNat = 45 := by decide
    by_cases h2 : 9223372036854775808 < digV l
    · simp only [hn, not_true_eq_false, true_and, false_and, if_false]
      rw [if_pos h2, if_pos (by show 9223372036854775808 < _; omega)]
    · simp only [hn, not_true_eq_false, true_and, false_and, if_false, if_true]
/-- Where a number's text is one, ParseInt says what numberAt says. -/
theorem digits_of (s : List UInt8) (f : Nat) : ∀ c ∈ (s.drop f).take (digEnd s f - f), isDig c = true := by
  intro c hc
  obtain ⟨i, hi⟩ := List.mem_iff_getElem?.1 hc
  have hlt : i < digEnd s f - f := by
    by_cases h : i < digEnd s f - f
    · exact h
    · rw [List.getElem?_take_eq_none (by omega)] at hi; cases hi
  rw [List.getElem?_take_of_lt hlt, List.getElem?_drop] at hi
  exact digEnd_dig s f (f + i) c (by omega) (by omega) hi
/-- Digits that begin with none of 0 are no 0. -/
theorem digV_first {s : List UInt8} {f e : Nat} {x : UInt8} (hx : s[f]? = some x) (hz : ¬x = 48) (hf : f < digEnd s f) (he : digEnd s f = e) : digV ((s.drop f).take (e - f)) ≠ 0 := by
  subst he
  have hd := digEnd_dig s f f x (Nat.le_refl _) hf hx
  unfold isDig at hd
  rw [decide_eq_true_iff] at hd
  have hx48 : x.toNat ≠ 48 := fun q => hz (UInt8.toNat_inj.1 q)
  obtain ⟨n, hn⟩ : ∃ n, digEnd s f - f = n + 1 := ⟨digEnd s f - f - 1, by omega⟩
  rw [hn, drop_at hx, List.take_succ_cons]
  have h1 := digF_ge ((s.drop (f + 1)).take n) (0 * 10 + (x.toNat - 48))
  have e : digV (x :: (s.drop (f + 1)).take n) = digF (0 * 10 + (x.toNat - 48)) ((s.drop (f + 1)).take n) := rfl
  rw [e]
  omega
end Go.Proofs.YtgjiienipeoajaaGreatDoor

/- A number, gathered below 0 digit by digit: the plain part. No condition. -/
namespace Go.Proofs.YtgjiienipeoajaaGreatDoor
open Go.RowKit

/-- The number of the first k digits from f on. -/
def digK (s : List UInt8) (f k : Nat) : Nat := digV ((s.drop f).take k)
theorem digK_zero (s : List UInt8) (f : Nat) : digK s f 0 = 0 := by simp [digK, digV]
theorem digK_succ {s : List UInt8} {f k : Nat} {c : UInt8} (h : s[f + k]? = some c) : digK s f (k + 1) = digK s f k * 10 + (c.toNat - 48) := by
  unfold digK
  rw [List.take_add_one, List.getElem?_drop, h, Option.toList_some, digV_snoc]
theorem digK_mono {s : List UInt8} {f k m : Nat} (h : k ≤ m) : digK s f k ≤ digK s f m := by
  unfold digK
  obtain ⟨r, rfl⟩ := Nat.le.dest h
  have := digF_ge ((List.drop k (List.drop f s)).take r) (digV ((List.drop f s).take k))
  unfold digF at this
  rw [List.take_add]
  unfold digV at this ⊢
  rw [List.foldl_append]
  exact this
/-- Is there room for one digit more, as Go asks it? -/
theorem room_iff {D d : Nat} (hd : d ≤ 9) : (-(D : Int) < Int.tdiv (-9223372036854775808 + (d : Int)) 10) ↔ 9223372036854775808 < D * 10 + d := by
  have e : Int.tdiv (-9223372036854775808 + (d : Int)) 10 = -(((9223372036854775808 - d) / 10 : Nat) : Int) := by
    rw [show (-9223372036854775808 + (d : Int)) = -((9223372036854775808 - d : Nat) : Int) from by omega, Int.neg_tdiv]
    rfl
  rw [e]
  omega
end Go.Proofs.YtgjiienipeoajaaGreatDoor

/- The tables and the two errors that the rows list: a world for the witnesses. No condition. -/
namespace Go.Proofs.YtgjiienipeoajaaGreatDoor
open Go.RowKit Go.ChangeShapes Go.WideShapes Go.ChangeAt

theorem own_knob : ownKnob Tryz.prog.godebug = none := by kernel_rfl
/-- A world that holds what the rows list. -/
noncomputable def laidWorld (os : Os) : World := World.laidAll Tryz.prog os Rows.parseReadsRow.laid
theorem laid_first : Rows.laid_unicode_utf8_first = Lib.firstData := by kernel_rfl
theorem laid_accept : Rows.laid_unicode_utf8_acceptRanges (H := Unit) = Lib.acceptData := by kernel_rfl
theorem laid_pow10 : Rows.laid_internal_strconv_uint64pow10 (H := Unit) = Lib.tabData .u64 Lib.pow10Tab := by kernel_rfl
theorem laid_met (os : Os) (args : Array Value) : laidMet Tryz.prog Rows.parseReadsRow.laid ((laidWorld os).forCall (fun _ _ => 0) ⟨#[], args, []⟩).memory :=
  laidMet_laidAll _ (by kernel_rfl) (by kernel_rfl)
end Go.Proofs.YtgjiienipeoajaaGreatDoor

/- Arguments of the Parse laws that are opened beside the trees: texts, rows of bytes. No condition. -/
namespace Go.Proofs.YtgjiienipeoajaaGreatDoor
open Go.RowKit Go.ChangeShapes Go.WideShapes Go.ChangeAt

section
variable {H : Type} {enc : TypeId × Value → H} {w : World} {sp : Nat → Bool} {held : Bool}
set_option maxRecDepth 10000 in
theorem open_arg_string {base : Nat} {v0 : Value} {d : DataW H} {ps : List MemPlace} (hv : Value.okWide Tryz.prog w .any base 9 v0) (h : DataW.Trod enc Tryz.prog w 0 sp held 9 v0 d ps) :
    ∃ s : ByteArray, v0 = .string s ∧ s.size + 1 ≤ Rows.uptoBulk d := by
  obtain ⟨s, rfl⟩ := okWide_string Tryz.underlying9 hv
  obtain ⟨fuel, hf⟩ := h
  obtain ⟨s', h1, h2, _⟩ := DataW.trod_string Tryz.underlying9 hf
  simp only [Value.cells, List.cons.injEq, Value.string.injEq, and_true] at h1
  subst h1
  simp only [Prod.mk.injEq] at h2
  refine ⟨s, rfl, ?_⟩
  rw [h2.1]
  simp only [Rows.uptoBulk]
  rw [Array.length_toList]
  exact Nat.le_refl _
end
end Go.Proofs.YtgjiienipeoajaaGreatDoor
