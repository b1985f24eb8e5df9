/- Parts, joined: Rows of values, cell by cell. No condition. Rows that a call builds by append, of data of any make. Plain. No condition. Sums of bytes, bit by bit and four bits at once. Plain. No condition. crc: one step of a register; the table of the steps. No condition. Sealed bytes, spoilt once, are none; what is sealed. Plain. No condition. -/
import Derived.Test.YtemceefalkfneaaGreatDoorProg
import Derived.Laws.AppendOwn
import Derived.WalkKit
import Derived.Laws.BitsAllLaws
import Derived.Laws.Shifts
import Derived.Deep.DeepCutAuto
import Derived.IntWalk
import Derived.Lib.Hide
import Derived.Handy
import Derived.Test.YtemceefalkfneaaGreatDoorKCm1
import Derived.Test.YtemceefalkfneaaGreatDoorKCm2
/- Rows of values, cell by cell. No condition. -/
namespace Go.Proofs.YtemceefalkfneaaGreatDoor
open Go.RowKit

/-- These cells are those of these values, one behind the other. -/
def RowL (w : World) (B : Nat) : List Val → List Value → Prop
  | [], ns => ns = []
  | v :: r, ns => ∃ cs rest, ns = cs ++ rest ∧ HoldsV w B v cs ∧ RowL w B r rest

theorem HoldsV.len {w : World} {B : Nat} {v : Val} {cs : List Value} (h : HoldsV w B v cs) : cs.length = 6 ∧ ∀ u ∈ cs, u.oneCell' = true := by
  obtain ⟨k, b, n, t, l, o⟩ := v
  simp only [HoldsV] at h
  obtain ⟨la, lc, oa, oc, rfl, _, _⟩ := h
  refine ⟨rfl, fun u hu => ?_⟩
  simp only [List.mem_cons, List.not_mem_nil, or_false] at hu
  rcases hu with rfl | rfl | rfl | rfl | rfl | rfl <;> rfl
theorem RowL.len {w : World} {B : Nat} : ∀ {l : List Val} {ns : List Value}, RowL w B l ns → ns.length = l.length * 6 ∧ ∀ u ∈ ns, u.oneCell' = true
  | [], ns, h => by
    have : ns = [] := h
    subst this
    exact ⟨rfl, fun u hu => by cases hu⟩
  | v :: r, ns, h => by
    obtain ⟨cs, rest, rfl, h1, h2⟩ := h
    obtain ⟨a1, a2⟩ := h1.len
    obtain ⟨b1, b2⟩ := RowL.len h2
    refine ⟨by rw [List.length_append, a1, b1, List.length_cons]; omega, fun u hu => ?_⟩
    rcases List.mem_append.1 hu with hu | hu
    · exact a2 u hu
    · exact b2 u hu
theorem HoldsL.row {w : World} {B : Nat} : ∀ {l : List Val} {g off : Nat}, HoldsL w B l g off → ∃ ns, RowL w B l ns ∧ ∀ j u, ns[j]? = some u → w.cell? ⟨g, off + j, none⟩ = some u
  | [], _, _, _ => ⟨[], rfl, fun j u h => by simp at h⟩
  | v :: r, g, off, h => by
    simp only [HoldsL] at h
    obtain ⟨⟨cs, h1, h2⟩, h3⟩ := h
    obtain ⟨ns, h4, h5⟩ := HoldsL.row h3
    refine ⟨cs ++ ns, ⟨cs, ns, rfl, h1, h4⟩, fun j u hu => ?_⟩
    have hl := h1.len.1
    by_cases hj : j < 6
    · rw [List.getElem?_append_left (by omega)] at hu
      exact h2 j u hu
    · rw [List.getElem?_append_right (by omega), hl] at hu
      have := h5 (j - 6) u hu
      rwa [show off + 6 + (j - 6) = off + j from by omega] at this
theorem RowL.holds {w w' : World} {B B' : Nat} (hk : ∀ v cs, HoldsV w B v cs → HoldsV w' B' v cs) {g : Nat} : ∀ {l : List Val} {ns : List Value} {off : Nat}, RowL w B l ns → (∀ j u, ns[j]? = some u → w'.cell? ⟨g, off + j, none⟩ = some u) → HoldsL w' B' l g off
  | [], _, _, _, _ => by simp [HoldsL]
  | v :: r, ns, off, h, hc => by
    obtain ⟨cs, rest, rfl, h1, h2⟩ := h
    have hl := h1.len.1
    simp only [HoldsL]
    refine ⟨⟨cs, hk v cs h1, fun j u hu => hc j u ?_⟩, RowL.holds hk h2 (fun j u hu => ?_)⟩
    · have := (List.getElem?_eq_some_iff.1 hu).1
      rw [List.getElem?_append_left this]
      exact hu
    · rw [show off + 6 + j = off + (6 + j) from by omega]
      refine hc (6 + j) u ?_
      rw [List.getElem?_append_right (by omega), hl, show 6 + j - 6 = j from by omega]
      exact hu
theorem RowL.snoc {w : World} {B : Nat} {v : Val} {cs : List Value} (hv : HoldsV w B v cs) : ∀ {l : List Val} {ns : List Value}, RowL w B l ns → RowL w B (l ++ [v]) (ns ++ cs)
  | [], ns, h => by
    have : ns = [] := h
    subst this
    exact ⟨cs, [], by simp, hv, rfl⟩
  | x :: r, ns, h => by
    obtain ⟨c1, rest, rfl, h1, h2⟩ := h
    exact ⟨c1, rest ++ cs, by simp, h1, RowL.snoc hv h2⟩

/-- The values at once within one. -/
def within : Val → List Val
  | .mk k _ _ _ l o => if k = 5 then l else if k = 6 then o.map (·.2) else []

end Go.Proofs.YtemceefalkfneaaGreatDoor

/- Rows that a call builds by append, of data of any make. Plain. No condition. -/
namespace Go.Proofs.YtemceefalkfneaaGreatDoor
open Go Go.RowKit

theorem add_plain' (g off i : Nat) : (⟨g, off, none⟩ : Addr).add i = ⟨g, off + i, none⟩ := Go.WideShapes.add_plain g off i

/-- A slice that came in, as cells. -/
theorem Holds.reads {w : World} {B s : Nat} {l : List D} {a : Option Addr} {n c : Nat} (h : Holds w B (.row s l) [.slice a n c]) : ∃ ns, Reads w B s a n ns ∧ HoldsA w B l ns ∧ ∀ u ∈ ns, u.oneCell' = true := by
  have hn := h.row_len
  obtain ⟨a', c', e, hs, ns, h1, h2⟩ := h
  simp only [List.cons.injEq, Value.slice.injEq, and_true] at e
  obtain ⟨rfl, rfl, rfl⟩ := e
  refine ⟨ns, ⟨by rw [h1.len.1, cellsA_all hs], fun h0 => ?_⟩, h1, h1.len.2⟩
  rcases h2 with rfl | ⟨g, off, e, hg, hc⟩
  · simp at h0
  · exact ⟨_, e, hg, fun j u hu => by rw [add_plain']; exact hc j u hu⟩

/-- A row that the call has built so far: block(s) of its own from b on; the data hold in every world that agrees on the blocks from b on, but for the row's own. -/
def RowD (b : Nat) (t : TypeId) (s : Nat) (wr : World) (l : List D) (V : Value) : Prop :=
  ∃ ns, wr.ownsRow b t s V l.length ns ∧ (∀ d ∈ l, d.cells = s) ∧ ∀ w'' : World, wr.heap.size ≤ w''.heap.size →
    (∀ p : Addr, b ≤ p.block → p.block < wr.heap.size → V.ownBlock ≠ some p.block → w''.cell? p = wr.cell? p) → HoldsA w'' wr.heap.size l ns
theorem RowD.nil (b : Nat) (t : TypeId) (s : Nat) (wr : World) : RowD b t s wr [] (.slice none 0 0) := ⟨[], World.ownsRow_nil _ _ _ _, fun d hd => (by cases hd), fun _ _ _ => rfl⟩
theorem RowD.base {b : Nat} {t : TypeId} {s : Nat} {wr : World} {l : List D} {V : Value} (h : RowD b t s wr l V) : ∀ g, V.ownBlock = some g → b ≤ g ∧ g < wr.heap.size := by
  obtain ⟨ns, h1, _⟩ := h
  exact h1.lt
/-- The world has grown and nothing of the row's was written. -/
theorem RowD.keep {b : Nat} {t : TypeId} {s : Nat} {wr w' : World} {l : List D} {V : Value} (h : RowD b t s wr l V) (hs : wr.heap.size ≤ w'.heap.size) (hk : ∀ i, b ≤ i → i < wr.heap.size → w'.heap[i]? = wr.heap[i]?) : RowD b t s w' l V := by
  obtain ⟨ns, h1, h2, h3⟩ := h
  refine ⟨ns, ⟨h1.1, ?_⟩, h2, fun w'' k1 k2 => HoldsA.more (h3 w'' (by omega) (fun p p1 p2 p3 => (k2 p p1 (by omega) p3).trans (World.cell?_of_block (hk p.block p1 p2)))) hs⟩
  rcases h1.2 with ⟨rfl, h0⟩ | ⟨g, cap, cur, rfl, hbg, hg, h5⟩
  · exact .inl ⟨rfl, h0⟩
  · exact .inr ⟨g, cap, cur, rfl, hbg, (hk g hbg (Array.getElem?_eq_some_iff.1 hg).1).trans hg, h5⟩
theorem RowD.below {b : Nat} {t : TypeId} {s : Nat} {wr w' : World} {l : List D} {V : Value} (h : RowD b t s wr l V) (hb : Below wr.heap.size wr w') : RowD b t s w' l V := h.keep hb.size fun i _ hi => hb.block i hi
/-- One more: made behind wr (fresh from wr on), taken in by an append. -/
theorem RowD.step {b : Nat} {t : TypeId} {s : Nat} {wr w4 w6 : World} {l : List D} {V V' : Value} {d : D} {cs ns : List Value} (hbw : b ≤ wr.heap.size)
    (hns : ∀ w'' : World, wr.heap.size ≤ w''.heap.size → (∀ p : Addr, b ≤ p.block → p.block < wr.heap.size → V.ownBlock ≠ some p.block → w''.cell? p = wr.cell? p) → HoldsA w'' wr.heap.size l ns)
    (hall : ∀ d ∈ l, d.cells = s) (hd : d.cells = s) (hx : Fresh wr.heap.size w4 d cs) (hlt : ∀ g, V.ownBlock = some g → g < wr.heap.size)
    (hown : w6.ownsRow b t s V' (l.length + 1) (ns ++ cs)) (hV : V'.ownBlock = V.ownBlock ∨ ∃ N, V'.ownBlock = some N ∧ w4.heap.size ≤ N)
    (hs4 : wr.heap.size ≤ w4.heap.size) (hs6 : w4.heap.size ≤ w6.heap.size) (h4 : ∀ p : Addr, b ≤ p.block → p.block < wr.heap.size → w4.cell? p = wr.cell? p)
    (h6 : ∀ p : Addr, b ≤ p.block → p.block < w4.heap.size → V.ownBlock ≠ some p.block → w6.cell? p = w4.cell? p) : RowD b t s w6 (l ++ [d]) V' := by
  refine ⟨ns ++ cs, by rw [List.length_append]; exact hown, ?_, fun w'' hsz hag => ?_⟩
  · intro x hx'
    rcases List.mem_append.1 hx' with hx' | hx'
    · exact hall x hx'
    · simp only [List.mem_cons, List.not_mem_nil, or_false] at hx'
      rw [hx']; exact hd
  · have hnew : ∀ p : Addr, p.block < w4.heap.size → V.ownBlock ≠ some p.block → V'.ownBlock ≠ some p.block := by
      intro p p2 p3
      rcases hV with e | ⟨N, e, hN⟩
      · rw [e]; exact p3
      · rw [e]; intro e2; have := Option.some.inj e2; omega
    have a1 : HoldsA w'' w6.heap.size l ns := HoldsA.more (hns w'' (by omega) (fun p p1 p2 p3 => by
      rw [hag p p1 (by omega) (hnew p (by omega) p3), h6 p p1 (by omega) p3, h4 p p1 p2])) (by omega)
    have a2 : Holds w'' w6.heap.size d cs := Holds.more (hx w'' (by omega) (fun p p1 p2 => by
      have p3 : V.ownBlock ≠ some p.block := fun e => by have := hlt _ e; omega
      rw [hag p (by omega) (by omega) (hnew p p2 p3), h6 p (by omega) p2 p3])) hs6
    exact a1.snoc a2
/-- The row, done. -/
theorem RowD.close {b : Nat} {t : TypeId} {s : Nat} {wr : World} {l : List D} {V : Value} (h : RowD b t s wr l V) :
    ∃ a c, V = .slice a l.length c ∧ l.length ≤ c ∧ Fresh b wr (.row s l) [.slice a l.length c] ∧ ((l = [] ∧ a = none ∧ c = 0) ∨ ∃ g, a = some ⟨g, 0, none⟩ ∧ b ≤ g ∧ g < wr.heap.size) := by
  obtain ⟨ns, h1, h2, h3⟩ := h
  have h1' := h1
  rcases h1.2 with ⟨rfl, h0⟩ | ⟨g, cap, cur, rfl, hbg, hg, hnc, _⟩
  · have hl : l = [] := List.eq_nil_of_length_eq_zero h0
    subst hl
    exact ⟨none, 0, rfl, Nat.le_refl _, fun _ _ _ => ⟨none, 0, rfl, h2, [], rfl, .inl rfl⟩, .inl ⟨rfl, rfl, rfl⟩⟩
  · have hgl := (Array.getElem?_eq_some_iff.1 hg).1
    refine ⟨_, cap, rfl, hnc, fun w'' k1 k2 => ⟨_, cap, rfl, h2, ns, h3 w'' k1 (fun p p1 p2 _ => k2 p p1 p2), .inr ⟨g, 0, rfl, hgl, fun j u hu => ?_⟩⟩, .inr ⟨g, rfl, hbg, hgl⟩⟩
    have h5 := h1'.cells (g := g) rfl j u hu
    rw [add_plain'] at h5
    exact (k2 _ hbg hgl).trans h5
end Go.Proofs.YtemceefalkfneaaGreatDoor

/- Sums of bytes, bit by bit and four bits at once. Plain. No condition. -/
namespace Go.Proofs.YtemceefalkfneaaGreatDoor

def poly : Nat := 3988292384
/-- A register, one bit on. -/
def st1 (r : Nat) : Nat := if r % 2 = 1 then (r / 2) ^^^ poly else r / 2
def stN : Nat → Nat → Nat
  | 0, r => r
  | n + 1, r => stN n (st1 r)
/-- The reference's step: a register and a bit. -/
def go1N (r bit : Nat) : Nat := if r % 2 ≠ bit then (r / 2) ^^^ poly else r / 2
def rbN : Nat → Nat → Nat → Nat
  | 0, r, _ => r
  | n + 1, r, c => rbN n (go1N r (c % 2)) (c / 2)

theorem xor_half (a b : Nat) : (a ^^^ b) / 2 = (a / 2) ^^^ (b / 2) := by
  have := Nat.shiftRight_xor_distrib (a := a) (b := b) (i := 1)
  simpa [Nat.shiftRight_succ] using this
theorem xor_odd (a b : Nat) : (a ^^^ b) % 2 = (a % 2 + b % 2) % 2 := by
  have h := Nat.testBit_xor a b 0
  simp only [Nat.testBit_zero] at h
  have ha := Nat.mod_two_eq_zero_or_one a
  have hb := Nat.mod_two_eq_zero_or_one b
  have hc := Nat.mod_two_eq_zero_or_one (a ^^^ b)
  rcases ha with ha | ha <;> rcases hb with hb | hb <;> rcases hc with hc | hc <;> simp [ha, hb, hc] at h ⊢
theorem xor_swap (a b c d : Nat) : (a ^^^ b) ^^^ (c ^^^ d) = (a ^^^ c) ^^^ (b ^^^ d) := by
  rw [Nat.xor_assoc, Nat.xor_assoc, ← Nat.xor_assoc b c d, Nat.xor_comm b c, Nat.xor_assoc]
theorem st1_xor (a b : Nat) : st1 (a ^^^ b) = st1 a ^^^ st1 b := by
  have h := xor_odd a b
  unfold st1
  rw [xor_half]
  by_cases ha : a % 2 = 1 <;> by_cases hb : b % 2 = 1
  · have hc : ¬ (a ^^^ b) % 2 = 1 := by omega
    rw [if_neg hc, if_pos ha, if_pos hb, xor_swap, Nat.xor_self, Nat.xor_zero]
  · have hc : (a ^^^ b) % 2 = 1 := by omega
    rw [if_pos hc, if_pos ha, if_neg hb, Nat.xor_assoc, Nat.xor_comm (b / 2), ← Nat.xor_assoc]
  · have hc : (a ^^^ b) % 2 = 1 := by omega
    rw [if_pos hc, if_neg ha, if_pos hb, Nat.xor_assoc]
  · have hc : ¬ (a ^^^ b) % 2 = 1 := by omega
    rw [if_neg hc, if_neg ha, if_neg hb]
theorem stN_xor : ∀ (n a b : Nat), stN n (a ^^^ b) = stN n a ^^^ stN n b
  | 0, _, _ => rfl
  | n + 1, a, b => by simp only [stN]; rw [st1_xor, stN_xor n]
theorem st1_parts (c : Nat) : st1 c = st1 (c % 2) ^^^ (c / 2) := by
  unfold st1
  have : c % 2 / 2 = 0 := by omega
  rw [Nat.mod_mod, this]
  split
  · rw [Nat.zero_xor, Nat.xor_comm]
  · rw [Nat.zero_xor]
theorem go1N_eq (r bit : Nat) (hb : bit < 2) : go1N r bit = st1 (r ^^^ bit) := by
  rw [st1_xor]
  unfold go1N st1
  have h0 : bit / 2 = 0 := by omega
  rw [h0]
  rcases Nat.lt_or_ge bit 1 with h | h
  · obtain rfl : bit = 0 := by omega
    by_cases hr : r % 2 = 1
    · rw [if_pos (by omega), if_pos hr]; simp
    · rw [if_neg (by omega), if_neg hr]; simp
  · obtain rfl : bit = 1 := by omega
    by_cases hr : r % 2 = 1
    · rw [if_neg (by omega), if_pos hr]; simp [Nat.xor_assoc]
    · rw [if_pos (by omega), if_neg hr]; simp
theorem rbN_eq : ∀ (n r c : Nat), c < 2 ^ n → rbN n r c = stN n (r ^^^ c)
  | 0, r, c, h => by
    obtain rfl : c = 0 := by simpa using h
    simp [rbN, stN]
  | n + 1, r, c, h => by
    simp only [rbN, stN]
    rw [rbN_eq n _ _ (by rw [Nat.pow_succ] at h; omega), go1N_eq _ _ (by omega), st1_xor r c, st1_parts c, st1_xor r (c % 2), Nat.xor_assoc]
theorem stN_shift : ∀ (n x : Nat), stN n (x * 2 ^ n) = x
  | 0, x => by simp [stN]
  | n + 1, x => by
    have h : x * 2 ^ (n + 1) = 2 * (x * 2 ^ n) := by rw [Nat.pow_succ, ← Nat.mul_assoc, Nat.mul_comm]
    have h2 : st1 (2 * (x * 2 ^ n)) = x * 2 ^ n := by
      unfold st1
      rw [if_neg (by omega)]
      omega
    simp only [stN]
    rw [h, h2, stN_shift n x]
theorem xor_low (r : Nat) : r = (r / 16 * 2 ^ 4) ^^^ (r % 16) := by
  apply Nat.eq_of_testBit_eq
  intro i
  rw [Nat.testBit_xor, show r / 16 * 2 ^ 4 = (r / 16) <<< 4 from (Nat.shiftLeft_eq _ _).symm, Nat.testBit_shiftLeft, show r % 16 = r % 2 ^ 4 from rfl, Nat.testBit_mod_two_pow]
  by_cases hi : i < 4
  · simp [hi, show ¬ i ≥ 4 from by omega]
  · have : (r / 16).testBit (i - 4) = r.testBit i := by
      rw [show r / 16 = r >>> 4 from (Nat.shiftRight_eq_div_pow r 4).symm, Nat.testBit_shiftRight]
      congr 1; omega
    simp [hi, show i ≥ 4 from by omega, this]
/-- Four bits at once. -/
def nib (r : Nat) : Nat := (r / 16) ^^^ stN 4 (r % 16)
theorem nib_eq (r : Nat) : nib r = stN 4 r := by
  unfold nib
  conv => rhs; rw [xor_low r]
  rw [stN_xor, stN_shift]
theorem stN_add : ∀ (m n r : Nat), stN (m + n) r = stN n (stN m r)
  | 0, n, r => by simp [stN]
  | m + 1, n, r => by rw [show m + 1 + n = (m + n) + 1 from by omega]; simp only [stN]; exact stN_add m n _
theorem nib_nib (r : Nat) : nib (nib r) = stN 8 r := by rw [nib_eq, nib_eq, ← stN_add]
theorem st1_lt {r : Nat} (h : r < 4294967296) : st1 r < 4294967296 := by
  unfold st1
  split
  · exact Nat.xor_lt_two_pow (n := 32) (by omega) (by unfold poly; omega)
  · omega
theorem stN_lt : ∀ (n : Nat) {r : Nat}, r < 4294967296 → stN n r < 4294967296
  | 0, _, h => h
  | n + 1, _, h => stN_lt n (st1_lt h)
/-- A register, eight bits on. -/
@[irreducible] def st8 (r : Nat) : Nat := stN 8 r
theorem st8_eq (r : Nat) : st8 r = stN 8 r := by unfold st8; rfl
/-- The register behind some bytes. -/
def crcGo (r : Nat) (l : List UInt8) : Nat := l.foldl (fun a x => st8 (a ^^^ x.toNat)) r
def crcMore (s : Nat) (l : List UInt8) : Nat := 4294967295 - crcGo (4294967295 - s) l
theorem crcStep_lt {r : Nat} (x : UInt8) (h : r < 4294967296) : st8 (r ^^^ x.toNat) < 4294967296 := by
  have hx : x.toNat < 4294967296 := by have := x.toNat_lt; omega
  rw [st8_eq]
  exact stN_lt 8 (Nat.xor_lt_two_pow (n := 32) h hx)
theorem crcGo_cons (r : Nat) (x : UInt8) (t : List UInt8) : crcGo r (x :: t) = crcGo (st8 (r ^^^ x.toNat)) t := List.foldl_cons ..
theorem crcGo_lt (l : List UInt8) : ∀ {r : Nat}, r < 4294967296 → crcGo r l < 4294967296 := by
  induction l with
  | nil => intro r h; exact h
  | cons x t ih =>
    intro r h
    rw [crcGo_cons]
    exact ih (crcStep_lt x h)
theorem crcGo_snoc (l : List UInt8) (r : Nat) (x : UInt8) : crcGo r (l ++ [x]) = st8 (crcGo r l ^^^ x.toNat) := by
  unfold crcGo
  rw [List.foldl_append]; rfl
theorem crcMore_lt (s : Nat) (l : List UInt8) : crcMore s l < 4294967296 := by unfold crcMore; omega
/-- The four bytes of a sum, the lowest first. -/
def sumBytes (s : Nat) : List UInt8 := [UInt8.ofNat (s % 256), UInt8.ofNat (s / 256 % 256), UInt8.ofNat (s / 65536 % 256), UInt8.ofNat (s / 16777216 % 256)]
/-- Sealed bytes. -/
def sealL (l : List UInt8) : List UInt8 := l ++ sumBytes (crcMore 0 l)
end Go.Proofs.YtemceefalkfneaaGreatDoor

/- crc: one step of a register; the table of the steps. No condition. -/
namespace Go.Proofs.YtemceefalkfneaaGreatDoor
open Go.RowKit

theorem xor_poly (r : Nat) (h : r < 4294967296) : bits .xor .u32 (r : Int) 3988292384 = ((r ^^^ poly : Nat) : Int) := u32_xor_nat r 3988292384 h (by omega)

theorem go1_calls (r bit : Nat) (hr : r < 4294967296) (_ : bit < 2) (w : World) : Calls Tryz.prog 234 #[.int .u32 r, .int .u32 bit] w fun e w' => e = .returned (.int .u32 (go1N r bit : Nat)) ∧ w = w' := by
  have hx := xor_poly (r / 2) (by omega)
  have e2 : ((r : Int) / 2) = ((r / 2 : Nat) : Int) := by omega
  rw [← e2] at hx
  by_cases h : r % 2 = bit
  · have hm : ((go1N r bit : Nat) : Int) = (r : Int) / 2 := by unfold go1N; rw [if_neg (by omega), e2]
    have ht : (((r : Int) % 2) != (bit : Int)) = false := by simp; omega
    have Hm := Lib.hid hm
    clear hm
    clear e2 h hx
    go_enter Tryz.func234, Tryz.ntmps234
    go_wp2
    go_ret
    exact ⟨by rw [Hm.out]; rfl, rfl⟩
  · have hm : ((go1N r bit : Nat) : Int) = ((r / 2 ^^^ poly : Nat) : Int) := by unfold go1N; rw [if_pos (by omega)]
    have ht : (((r : Int) % 2) != (bit : Int)) = true := by simp; omega
    have Hm := Lib.hid hm
    clear hm
    clear e2 h
    go_enter Tryz.func234, Tryz.ntmps234
    go_wp2
    go_ret
    exact ⟨by rw [Hm.out]; rfl, rfl⟩

/-- One number's four steps, stored into the table. -/
theorem ste1_calls (k : Nat) (hk : k < 16) (g : Nat) (cs : Array Value) (hcs : cs.size = 16) (w : World) (h : Blk w g 292 cs) :
    Calls Tryz.prog 259 #[.int .u32 k, .pointer (some ⟨g, 0, none⟩)] w fun e w' => e = .returned (.tuple #[]) ∧ w' = w.setCell ⟨g, k, none⟩ (.int .u32 (stN 4 k : Nat)) := by
  obtain ⟨u0, hc⟩ : ∃ u0, w.cell? ⟨g, k, none⟩ = some u0 := ⟨_, (h.cell k).trans (Array.getElem?_eq_getElem (by omega))⟩
  have hf := h.frozen k
  have hk1 : (k : Int) < 16 := by omega
  have hk0 : (0 : Int) ≤ k := by omega
  have H := Lib.hid h
  have Hcs := Lib.hid hcs
  clear h hcs
  go_enter Tryz.func259, Tryz.ntmps259
  go_wp2
  go_loop [3, 6] (fun r i => ∃ q : Nat, q ≤ 4 ∧ i = .int .i64 q ∧ r = .int .u32 (stN q k : Nat)) (fun _ i => 4 - (intOf i).toNat)
  case atStart => exact ⟨0, by omega, rfl, rfl⟩
  case round =>
    obtain ⟨q, hq, rfl, rfl⟩ := hrel
    by_cases hlt : q < 4
    · obtain ⟨r, hr⟩ : ∃ r, stN q k = r := ⟨_, rfl⟩
      have hrl : r < 4294967296 := by rw [← hr]; exact stN_lt q (by omega)
      have hs : stN (q + 1) k = st1 r := by rw [← hr, stN_add]; rfl
      rw [hr]
      have hA : bits .and .u32 (r : Int) 1 = ((r % 2 : Nat) : Int) := by rw [← nat_mask1]; exact u32_and_nat r 1 hrl (by omega)
      have hx := xor_poly (r / 2) (by omega)
      have e2 : ((r : Int) / 2) = ((r / 2 : Nat) : Int) := by omega
      rw [← e2] at hx
      by_cases ho : r % 2 = 1
      · have hB : ((((r % 2 : Nat) : Int)) == 1) = true := by simp; omega
        have hS : Hid (stN (q + 1) k = (r / 2) ^^^ poly) := by rw [hs]; unfold st1; rw [if_pos ho]; exact rfl
        clear hr hs e2 ho
        go_wp2
        go_round
        case rel => exact ⟨q + 1, by omega, by go_num, by rw [hS.out]⟩
        case measure => simp [intOf]; omega
      · have hB : ((((r % 2 : Nat) : Int)) == 1) = false := by simp; omega
        have hS : Hid (stN (q + 1) k = r / 2) := by rw [hs]; unfold st1; rw [if_neg ho]; exact rfl
        clear hr hs e2 ho hx
        go_wp2
        go_round
        case rel => exact ⟨q + 1, by omega, by go_num, by rw [hS.out]; go_num⟩
        case measure => simp [intOf]; omega
    · obtain rfl : q = 4 := by omega
      go_wp2
      go_end0
      exact ⟨rfl, rfl⟩
end Go.Proofs.YtemceefalkfneaaGreatDoor

/- Sealed bytes, spoilt once, are none; what is sealed. Plain. No condition. -/
namespace Go.Proofs.YtemceefalkfneaaGreatDoor
/-- One bit back. -/
def un1 (r : Nat) : Nat := if r < 2147483648 then 2 * r else 2 * (r ^^^ poly) + 1
theorem poly_top {a : Nat} (h : a < 2147483648) : ¬ (a ^^^ poly) < 2147483648 := by
  intro h2
  have h3 : (a ^^^ poly).testBit 31 = false := Nat.testBit_lt_two_pow (by simpa using h2)
  rw [Nat.testBit_xor, Nat.testBit_lt_two_pow (x := a) (by simpa using h)] at h3
  have h4 : poly.testBit 31 = true := by decide
  rw [h4] at h3
  cases h3
theorem un1_st1 {r : Nat} (h : r < 4294967296) : un1 (st1 r) = r := by
  unfold st1
  by_cases h1 : r % 2 = 1
  · rw [if_pos h1]
    unfold un1
    rw [if_neg (poly_top (by omega)), Nat.xor_assoc, Nat.xor_self, Nat.xor_zero]
    omega
  · rw [if_neg h1]
    unfold un1
    rw [if_pos (by omega)]
    omega
theorem st1_inj {a b : Nat} (ha : a < 4294967296) (hb : b < 4294967296) (h : st1 a = st1 b) : a = b := by
  rw [← un1_st1 ha, h, un1_st1 hb]
theorem stN_inj : ∀ (n : Nat) {a b : Nat}, a < 4294967296 → b < 4294967296 → stN n a = stN n b → a = b
  | 0, _, _, _, _, h => h
  | n + 1, _, _, ha, hb, h => st1_inj ha hb (stN_inj n (st1_lt ha) (st1_lt hb) h)
theorem st8_inj {a b : Nat} (ha : a < 4294967296) (hb : b < 4294967296) (h : st8 a = st8 b) : a = b := by
  rw [st8_eq, st8_eq] at h
  exact stN_inj 8 ha hb h
theorem u8_small (x : UInt8) : x.toNat < 4294967296 := by have := x.toNat_lt; omega
theorem xor_u8_lt {r : Nat} (x : UInt8) (h : r < 4294967296) : r ^^^ x.toNat < 4294967296 := Nat.xor_lt_two_pow (n := 32) h (u8_small x)
theorem xor_left {a b c : Nat} (h : a ^^^ c = b ^^^ c) : a = b := by
  have := congrArg (· ^^^ c) h
  simpa [Nat.xor_assoc] using this
theorem xor_right {a b c : Nat} (h : c ^^^ a = c ^^^ b) : a = b := by
  rw [Nat.xor_comm c a, Nat.xor_comm c b] at h
  exact xor_left h
/-- Two registers that differ, differ behind the same bytes. -/
theorem crcGo_inj : ∀ (l : List UInt8) {a b : Nat}, a < 4294967296 → b < 4294967296 → crcGo a l = crcGo b l → a = b
  | [], _, _, _, _, h => h
  | x :: t, a, b, ha, hb, h => by
    rw [crcGo_cons, crcGo_cons] at h
    have h1 := crcGo_inj t (crcStep_lt x ha) (crcStep_lt x hb) h
    exact xor_left (st8_inj (xor_u8_lt x ha) (xor_u8_lt x hb) h1)
/-- One byte changed changes the register. -/
theorem crcGo_set : ∀ (l : List UInt8) (i : Nat) (x y : UInt8) {r : Nat}, r < 4294967296 → l[i]? = some x → y ≠ x → crcGo r (l.set i y) ≠ crcGo r l
  | [], i, x, y, r, _, h, _ => by simp at h
  | z :: t, 0, x, y, r, hr, h, hne => by
    simp only [List.getElem?_cons_zero, Option.some.injEq] at h
    subst h
    rw [List.set_cons_zero, crcGo_cons, crcGo_cons]
    intro e
    have h1 := crcGo_inj t (crcStep_lt y hr) (crcStep_lt z hr) e
    have h2 := xor_right (st8_inj (xor_u8_lt y hr) (xor_u8_lt z hr) h1)
    exact hne (UInt8.toNat_inj.1 h2)
  | z :: t, i + 1, x, y, r, hr, h, hne => by
    rw [List.set_cons_succ, crcGo_cons, crcGo_cons]
    exact crcGo_set t i x y (crcStep_lt z hr) (by simpa using h) hne
theorem crcMore_set (l : List UInt8) (i : Nat) (x y : UInt8) (h : l[i]? = some x) (hne : y ≠ x) : crcMore 0 (l.set i y) ≠ crcMore 0 l := by
  unfold crcMore
  intro e
  have h1 := crcGo_lt (l.set i y) (r := 4294967295 - 0) (by omega)
  have h2 := crcGo_lt l (r := 4294967295 - 0) (by omega)
  exact crcGo_set l i x y (r := 4294967295 - 0) (by omega) h hne (by omega)
/-- The sum that four bytes say, the lowest first. -/
def leSum : List UInt8 → Nat
  | [] => 0
  | x :: r => x.toNat + 256 * leSum r
theorem leSum_sumBytes {s : Nat} (h : s < 4294967296) : leSum (sumBytes s) = s := by
  have e : ∀ n, n < 256 → (UInt8.ofNat n).toNat = n := fun n hn => by
    rw [UInt8.toNat_ofNat']; exact Nat.mod_eq_of_lt (by omega)
  simp only [sumBytes, leSum]
  rw [e _ (by omega), e _ (by omega), e _ (by omega), e _ (by omega)]
  omega
theorem leSum_set : ∀ (l : List UInt8) (i : Nat) (x y : UInt8), l[i]? = some x → y ≠ x → leSum (l.set i y) ≠ leSum l
  | [], i, x, y, h, _ => by simp at h
  | z :: t, 0, x, y, h, hne => by
    simp only [List.getElem?_cons_zero, Option.some.injEq] at h
    subst h
    simp only [List.set_cons_zero, leSum]
    intro e
    exact hne (UInt8.toNat_inj.1 (by omega))
  | z :: t, i + 1, x, y, h, hne => by
    have := leSum_set t i x y (by simpa using h) hne
    simp only [List.set_cons_succ, leSum]
    omega
/-- Are these sealed bytes? -/
def sealedB (b : List UInt8) : Bool := decide (4 ≤ b.length) && decide (crcMore 0 (b.take (b.length - 4)) = leSum (b.drop (b.length - 4)))
theorem sealedB_seal (l : List UInt8) : sealedB (sealL l) = true := by
  have h4 : (sumBytes (crcMore 0 l)).length = 4 := rfl
  have hl : (sealL l).length - 4 = l.length := by unfold sealL; rw [List.length_append, h4]; omega
  unfold sealedB
  rw [hl]
  unfold sealL
  rw [List.take_left', List.drop_left' rfl, leSum_sumBytes (crcMore_lt 0 l), List.length_append, h4]
  simp
  rfl
/-- Sealed bytes, spoilt once, are none. -/
theorem sealedB_spoilt (l : List UInt8) (i : Nat) (x y : UInt8) (h : (sealL l)[i]? = some x) (hne : y ≠ x) : sealedB ((sealL l).set i y) = false := by
  have h4 : (sumBytes (crcMore 0 l)).length = 4 := rfl
  have hl : (sealL l).length - 4 = l.length := by unfold sealL; rw [List.length_append, h4]; omega
  unfold sealedB
  rw [List.length_set, hl, Bool.and_eq_false_iff]
  refine .inr (decide_eq_false ?_)
  unfold sealL at h ⊢
  by_cases hi : i < l.length
  · rw [List.set_append_left _ _ hi, List.take_left' (by simp), List.drop_left' (by simp), leSum_sumBytes (crcMore_lt 0 l)]
    rw [List.getElem?_append_left hi] at h
    exact crcMore_set l i x y h hne
  · rw [List.set_append_right _ _ (by omega), List.take_left' rfl, List.drop_left' rfl]
    rw [List.getElem?_append_right (by omega)] at h
    have := leSum_set _ _ x y h hne
    rw [leSum_sumBytes (crcMore_lt 0 l)] at this
    exact fun e => this e.symm
/-- What was sealed. -/
theorem sealedB_of {b : List UInt8} (h : sealedB b = true) : b = sealL (b.take (b.length - 4)) := by
  unfold sealedB at h
  simp only [Bool.and_eq_true, decide_eq_true_eq] at h
  obtain ⟨h1, h2⟩ := h
  have hl : (b.drop (b.length - 4)).length = 4 := by rw [List.length_drop]; omega
  conv => lhs; rw [← List.take_append_drop (b.length - 4) b]
  unfold sealL
  congr 1
  rw [h2]
  match hq : b.drop (b.length - 4), hl with
  | [p, q, r, s], _ =>
    have hp := p.toNat_lt
    have hq := q.toNat_lt
    have hr := r.toNat_lt
    have hs := s.toNat_lt
    simp only [leSum, sumBytes]
    have e1 : (p.toNat + 256 * (q.toNat + 256 * (r.toNat + 256 * (s.toNat + 256 * 0)))) % 256 = p.toNat := by omega
    have e2 : (p.toNat + 256 * (q.toNat + 256 * (r.toNat + 256 * (s.toNat + 256 * 0)))) / 256 % 256 = q.toNat := by omega
    have e3 : (p.toNat + 256 * (q.toNat + 256 * (r.toNat + 256 * (s.toNat + 256 * 0)))) / 65536 % 256 = r.toNat := by omega
    have e4 : (p.toNat + 256 * (q.toNat + 256 * (r.toNat + 256 * (s.toNat + 256 * 0)))) / 16777216 % 256 = s.toNat := by omega
    rw [e1, e2, e3, e4]
    simp
end Go.Proofs.YtemceefalkfneaaGreatDoor
