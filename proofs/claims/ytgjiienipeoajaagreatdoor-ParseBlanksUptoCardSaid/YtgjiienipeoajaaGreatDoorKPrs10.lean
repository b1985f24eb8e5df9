/- Parts, joined: utf.Quote: the walk. Condition: a text shorter than 10^9. -/
import Derived.Test.YtgjiienipeoajaaGreatDoorProg
import Derived.Test.YtgjiienipeoajaaGreatDoorKPrs8
/- utf.Quote: the walk. Condition: a text shorter than 10^9. -/
namespace Go.Proofs.YtgjiienipeoajaaGreatDoor
open Go.RowKit
attribute [local go_sem] Oper.semAt_some

def hexd (n : Nat) : UInt8 := if n < 10 then UInt8.ofNat (48 + n) else UInt8.ofNat (87 + n)

/-- How a rune is written in a quote. -/
def quoteRune (r : Nat) : List UInt8 :=
  if 32 ≤ r ∧ r ≠ 34 ∧ r ≠ 92 then Lib.encodeRune r
  else match findKV r letterTab with
    | some c => [92, UInt8.ofNat c.toNat]
    | none => [92, 117, 48, 48, hexd (r / 16), hexd (r % 16)]

def quoteRunes (l : List (Nat × Nat)) : List UInt8 := l.flatMap fun x => quoteRune x.2

theorem standsFor_calls (r : Int) (w : World) : Calls Tryz.prog 120 #[.int .i32 r] w fun e w' => e = .returned (.bool (decide (32 ≤ r ∧ r ≠ 34 ∧ r ≠ 92))) ∧ w = w' := by
  go_enter Tryz.func120, Tryz.ntmps120
  go_wp2
  all_goals go_ret
  all_goals refine ⟨ret_bool ?_, rfl⟩
  all_goals first | (simp_all; done) | (simp_all; omega) | (rw [Bool.eq_iff_iff]; simp_all)

theorem standsFor_calls2 {r : Int} {B : Bool} (h : decide (32 ≤ r ∧ r ≠ 34 ∧ r ≠ 92) = B) (w : World) : Calls Tryz.prog 120 #[.int .i32 r] w fun e w' => e = .returned (.bool B) ∧ w = w' := by
  subst h
  exact standsFor_calls _ _

theorem letters_calls2 (w : World) :
    Calls Tryz.prog 122 #[] w fun e w' => e = .returned (.map (some w.heap.size)) ∧ w.alloc (.map (ents letterTab 0).toArray letterTab.length) = w' := letters_calls w

/-- The box of 'letters': nil, or the map, which was made behind D. -/
def Letters (W : World) (lb D : Nat) (m : Option Nat) : Prop :=
  W.heap[lb]? = some (.cells #[.map m] 154 (0, 0)) ∧ ∀ mb, m = some mb → D + 1 < mb ∧ W.heap[mb]? = some (.map (ents letterTab 0).toArray letterTab.length)

theorem liesB : liesAt Tryz.prog Tryz.prog.depth 82 (2 / Tryz.prog.cellsOf 82) 0 82 1 = true := by kernel_rfl

/-- A builder in a block of its own. -/
def BB (w : World) (B g : Nat) (bs : List UInt8) : Prop := ∃ p v, Bld w B g 0 82 #[p, v] bs

theorem Bld.keep {A W : World} {B g o : Nat} {t : TypeId} {cs : Array Value} {bs : List UInt8} (h : Bld A B g o t cs bs) {row : Option Nat} (hg : A.grownBy W row) (hr : ∀ k, row = some k → ∃ ob : Obj, A.heap[k]? = some ob ∧ ob.isCells = false) : Bld W B g o t cs bs := by
  obtain ⟨hB, hb, ht, hs, h0, v, h1, hown⟩ := h
  refine ⟨hB, (grownBy_keeps_cells hg hr hb rfl).trans hb, ht, hs, h0, v, h1, hown.kept hg ?_⟩
  cases hv : v.ownBlock with
  | none => exact .inl rfl
  | some k =>
    refine .inr fun e => ?_
    obtain ⟨ob, ho, hc⟩ := hr k e.symm
    obtain ⟨c, fz, hk⟩ := ownsRow_kind hown k hv
    rw [hk] at ho
    cases ho
    cases hc
theorem below_grown {A W : World} (h : Below A.heap.size A W) : A.grownBy W none := ⟨h.os, h.tape, h.output, h.size, fun i hi _ => h.block i hi⟩
theorem BB.below {A W : World} {B g : Nat} {bs : List UInt8} (h : BB A B g bs) (hb : Below A.heap.size A W) : BB W B g bs := by
  obtain ⟨p, v, h⟩ := h
  exact ⟨p, v, h.keep (below_grown hb) (fun k e => by cases e)⟩
theorem BB.put {A : World} {B g k : Nat} {bs : List UInt8} {o o' : Obj} (h : BB A B g bs) (ho : A.heap[k]? = some o) (hc : o.isCells = false) : BB (A.putObj k o') B g bs := by
  obtain ⟨p, v, h⟩ := h
  exact ⟨p, v, h.keep (grownBy_putObj' A k o') (fun j e => by cases e; exact ⟨o, ho, hc⟩)⟩
theorem BB.lt {A : World} {B g : Nat} {bs : List UInt8} (h : BB A B g bs) : g < A.heap.size := by
  obtain ⟨p, v, h⟩ := h
  exact h.lt
theorem BB.base {A : World} {B g : Nat} {bs : List UInt8} (h : BB A B g bs) : B ≤ g := by
  obtain ⟨p, v, h⟩ := h
  exact h.1

/-- A store into a block that is no builder's. -/
theorem BB.store {A : World} {B g k : Nat} {bs : List UInt8} {cs : Array Value} {t : TypeId} (h : BB A B g bs) (hk : A.heap[k]? = some (.cells cs t (0, 0))) (ht : t ≠ 5) (hne : k ≠ g) (i : Nat) (u : Value) : BB (A.setCell ⟨k, i, none⟩ u) B g bs := by
  obtain ⟨p, v, hB, hb, ht', hs, h0, v', h1, hown⟩ := h
  refine ⟨p, v, hB, (Below.heap_setCell _ _ _ _ (fun e => hne e.symm)).trans hb, ht', hs, h0, v', h1, ?_⟩
  exact hown.kept (row := some k) ⟨rfl, rfl, rfl, by simp [World.setCell], fun j _ hj => Below.heap_setCell _ _ _ _ (fun e => hj (by simp [e]))⟩ (Or.inr (Lib.ownBlock_ne hown hk ht))

theorem bb_WriteByte {B g : Nat} {bs : List UInt8} (c : Int) (hc0 : 0 ≤ c) (hc1 : c < 256) {w : World} (h : BB w B g bs) (hlen : bs.length ≤ 100000000000) :
    Calls Tryz.prog 118 #[.pointer (some ⟨g, 0, none⟩), .int .u8 c] w fun e w' => e = .returned .nilIface ∧ BB w' B g (bs ++ [UInt8.ofNat c.toNat]) ∧ Below B w w' ∧ Kept g w w' := by
  obtain ⟨p, v, h⟩ := h
  refine (WriteByte_calls B g 0 _ _ bs c hc0 hc1 w h liesB (by omega) (by have := h.lt; have := h.1; omega)).mono ?_
  rintro e w' ⟨rfl, ⟨v', h'⟩, hb, hk⟩
  exact ⟨rfl, ⟨_, v', h'⟩, hb, hk⟩
theorem bb_WriteB {B g : Nat} {bs : List UInt8} (u : UInt8) {w : World} (h : BB w B g bs) (hlen : bs.length ≤ 100000000000) :
    Calls Tryz.prog 118 #[.pointer (some ⟨g, 0, none⟩), .int .u8 u.toNat] w fun e w' => e = .returned .nilIface ∧ BB w' B g (bs ++ [u]) ∧ Below B w w' ∧ Kept g w w' := by
  have hu := u.toNat_lt
  have h1 := bb_WriteByte (u.toNat : Int) (by omega) (by omega) h hlen
  have e : UInt8.ofNat (Int.toNat (u.toNat : Int)) = u := by rw [Int.toNat_natCast]; simp
  rwa [e] at h1
theorem hexd_at : ∀ n : Fin 16, (⟨#[48, 49, 50, 51, 52, 53, 54, 55, 56, 57, 97, 98, 99, 100, 101, 102]⟩ : ByteArray)[n.val]'(by simp [ByteArray.size]) = hexd n.val := by decide
theorem and15 : ∀ n : Fin 32, bits .and .i32 ((n.val : Nat) : Int) 15 = ((n.val : Nat) : Int) % 16 := by decide
theorem bb_WriteRune {B g : Nat} {bs : List UInt8} (r : Int) (hr0 : 0 ≤ r) (hr1 : r ≤ 2147483647) {w : World} (h : BB w B g bs) (hlen : bs.length ≤ 100000000000) :
    Calls Tryz.prog 121 #[.pointer (some ⟨g, 0, none⟩), .int .i32 r] w fun e w' => (∃ k : Int, e = .returned (.tuple #[.int .i64 k, .nilIface])) ∧ BB w' B g (bs ++ Lib.encodeRune r) ∧ Below B w w' ∧ Kept g w w' := by
  obtain ⟨p, v, h⟩ := h
  refine (WriteRune_calls B g 0 _ _ bs r (by omega) hr1 w h liesB (by omega) (by have := h.lt; have := h.1; omega)).mono ?_
  rintro e w' ⟨hk0, ⟨v', h'⟩, hb, hk⟩
  exact ⟨hk0, ⟨_, v', h'⟩, hb, hk⟩
theorem bb_WriteString {B g : Nat} {bs : List UInt8} (s : ByteArray) {w : World} (h : BB w B g bs) (hlen : bs.length + s.size ≤ 100000000000) :
    Calls Tryz.prog 49 #[.pointer (some ⟨g, 0, none⟩), .string s] w fun e w' => e = .returned (.tuple #[.int .i64 s.size, .nilIface]) ∧ BB w' B g (bs ++ s.data.toList) ∧ Below B w w' ∧ Kept g w w' := by
  obtain ⟨p, v, h⟩ := h
  refine (WriteString_calls B g 0 _ _ bs s w h liesB (by omega) (by have := h.lt; have := h.1; omega)).mono ?_
  rintro e w' ⟨rfl, ⟨v', h'⟩, hb, hk⟩
  exact ⟨rfl, ⟨_, v', h'⟩, hb, hk⟩

theorem bb_String {B g : Nat} {bs : List UInt8} {w : World} (h : BB w B g bs) (h0 : bs ≠ []) :
    Calls Tryz.prog 43 #[.pointer (some ⟨g, 0, none⟩)] w fun e w' => e = .returned (.string ⟨bs.toArray⟩) ∧ Below B w w' ∧ Kept g w w' := by
  obtain ⟨p, v, h⟩ := h
  exact String_calls B g 0 _ _ bs w h h0

theorem letters_range {a c : Int} (h : findKV a letterTab = some c) : 34 ≤ c ∧ c < 128 := by
  simp only [letterTab, findKV] at h
  repeat' split at h
  all_goals first | (cases h; done) | (simp at h; omega)
theorem encode_small {c : Int} (h0 : 0 ≤ c) (h1 : c < 128) : Lib.encodeRune c = [UInt8.ofNat c.toNat] := by
  unfold Lib.encodeRune
  rw [Lib.encodeRuneZ_one h0 (by omega)]
  rfl
theorem letters_none {r : Nat} (h : findKV r letterTab = none) (h2 : ¬(32 ≤ r ∧ r ≠ 34 ∧ r ≠ 92)) : r < 32 := by
  simp only [letterTab, findKV] at h
  repeat' split at h
  all_goals first | (cases h; done) | omega

theorem hexd_lt (n : Nat) (h : n < 16) : (hexd n).toNat = if n < 10 then 48 + n else 87 + n := by
  unfold hexd
  split <;> simp <;> omega

theorem quoteRune_len (r : Nat) : (quoteRune r).length ≤ 6 := by
  unfold quoteRune
  split
  · unfold Lib.encodeRune Lib.encodeRuneZ
    repeat' split
    all_goals simp
  · split <;> simp
theorem quoteRunes_len (l : List (Nat × Nat)) : (quoteRunes l).length ≤ 6 * l.length := by
  unfold quoteRunes
  induction l with
  | nil => simp
  | cons x r ih => simp only [List.flatMap_cons, List.length_append, List.length_cons]; have := quoteRune_len x.2; omega
theorem runesFrom_len : ∀ (n : Nat) (l : List UInt8) (p : Nat), (runesFrom n l p).length ≤ n
  | 0, _, _ => by simp [runesFrom]
  | n + 1, l, p => by
    simp only [runesFrom]
    split
    · simp
    · split
      · simp
      · simp only [List.length_cons]; have := runesFrom_len n (l.drop (Lib.decodeL l).2) (p + (Lib.decodeL l).2); omega
theorem runesFrom_le : ∀ (n : Nat) (l : List UInt8) (p : Nat), ∀ x ∈ runesFrom n l p, x.2 ≤ 1114111
  | 0, _, _, x, h => by simp [runesFrom] at h
  | n + 1, l, p, x, h => by
    simp only [runesFrom] at h
    split at h
    · simp at h
    · split at h
      · simp at h
      · rcases List.mem_cons.1 h with rfl | h
        · exact Lib.decodeL_rune l
        · exact runesFrom_le n _ _ x h

end Go.Proofs.YtgjiienipeoajaaGreatDoor
