/- Parts, joined: Sums of bytes, bit by bit and four bits at once. Plain. No condition. Data of any make and how they lie in memory: leaves, structs, rows. Plain. No condition. Words for memory: slices that read as lists, blocks known whole, append of any source (the kit's own words, copied as its page says). No condition. Rows that a call builds by append, of data of any make. Plain. No condition. crc: one step of a register; the table of the steps. No condition. A range over an iterator that yields a known list, by a body that always goes on: the law that the walks use. No condition. -/
import Derived.WalkKit
import Derived.Below
import Derived.Laws.OwnMore
import Derived.Deep.AppendLies
import Derived.Deep.Draws
import Derived.Laws.Rows
import Derived.Maps.AppendAt
import Derived.RegionTactic
import Derived.OwnWalk
import Derived.Test.YtjjbbnodmpemiaaGreatDoorProg
import Derived.Laws.BitsAllLaws
import Derived.Laws.Shifts
import Derived.Deep.DeepCutAuto
import Derived.IntWalk
import Derived.Lib.Hide
import Derived.Handy
import Derived.RangeFuncNested
import Derived.RangeFuncBound
import Derived.RangeFuncCalls
import Derived.RangeFuncLeaves
import Derived.OwnWalkIn
import Derived.TacticsInMore
/- Sums of bytes, bit by bit and four bits at once. Plain. No condition. -/
namespace Go.Proofs.YtjjbbnodmpemiaaGreatDoor

def poly : Nat := 3988292384
/-- A register, one bit on. -/
def st1 (r : Nat) : Nat := if r % 2 = 1 then (r / 2) ^^^ poly else r / 2
def stN : Nat → Nat → Nat
  | 0, r => r
  | n + 1, r => stN n (st1 r)
/-- The reference's step: a register and a bit. -/
def go1N (r bit : Nat) : Nat := if r % 2 ≠ bit then (r / 2) ^^^ poly else r / 2
def rbN : Nat → Nat → Nat → Nat
  | 0, r, _ => r
  | n + 1, r, c => rbN n (go1N r (c % 2)) (c / 2)

theorem xor_half (a b : Nat) : (a ^^^ b) / 2 = (a / 2) ^^^ (b / 2) := by
  have := Nat.shiftRight_xor_distrib (a := a) (b := b) (i := 1)
  simpa [Nat.shiftRight_succ] using this
theorem xor_odd (a b : Nat) : (a ^^^ b) % 2 = (a % 2 + b % 2) % 2 := by
  have h := Nat.testBit_xor a b 0
  simp only [Nat.testBit_zero] at h
  have ha := Nat.mod_two_eq_zero_or_one a
  have hb := Nat.mod_two_eq_zero_or_one b
  have hc := Nat.mod_two_eq_zero_or_one (a ^^^ b)
  rcases ha with ha | ha <;> rcases hb with hb | hb <;> rcases hc with hc | hc <;> simp [ha, hb, hc] at h ⊢
theorem xor_swap (a b c d : Nat) : (a ^^^ b) ^^^ (c ^^^ d) = (a ^^^ c) ^^^ (b ^^^ d) := by
  rw [Nat.xor_assoc, Nat.xor_assoc, ← Nat.xor_assoc b c d, Nat.xor_comm b c, Nat.xor_assoc]
theorem st1_xor (a b : Nat) : st1 (a ^^^ b) = st1 a ^^^ st1 b := by
  have h := xor_odd a b
  unfold st1
  rw [xor_half]
  by_cases ha : a % 2 = 1 <;> by_cases hb : b % 2 = 1
  · have hc : ¬ (a ^^^ b) % 2 = 1 := by omega
    rw [if_neg hc, if_pos ha, if_pos hb, xor_swap, Nat.xor_self, Nat.xor_zero]
  · have hc : (a ^^^ b) % 2 = 1 := by omega
    rw [if_pos hc, if_pos ha, if_neg hb, Nat.xor_assoc, Nat.xor_comm (b / 2), ← Nat.xor_assoc]
  · have hc : (a ^^^ b) % 2 = 1 := by omega
    rw [if_pos hc, if_neg ha, if_pos hb, Nat.xor_assoc]
  · have hc : ¬ (a ^^^ b) % 2 = 1 := by omega
    rw [if_neg hc, if_neg ha, if_neg hb]
theorem stN_xor : ∀ (n a b : Nat), stN n (a ^^^ b) = stN n a ^^^ stN n b
  | 0, _, _ => rfl
  | n + 1, a, b => by simp only [stN]; rw [st1_xor, stN_xor n]
theorem st1_parts (c : Nat) : st1 c = st1 (c % 2) ^^^ (c / 2) := by
  unfold st1
  have : c % 2 / 2 = 0 := by omega
  rw [Nat.mod_mod, this]
  split
  · rw [Nat.zero_xor, Nat.xor_comm]
  · rw [Nat.zero_xor]
theorem go1N_eq (r bit : Nat) (hb : bit < 2) : go1N r bit = st1 (r ^^^ bit) := by
  rw [st1_xor]
  unfold go1N st1
  have h0 : bit / 2 = 0 := by omega
  rw [h0]
  rcases Nat.lt_or_ge bit 1 with h | h
  · obtain rfl : bit = 0 := by omega
    by_cases hr : r % 2 = 1
    · rw [if_pos (by omega), if_pos hr]; simp
    · rw [if_neg (by omega), if_neg hr]; simp
  · obtain rfl : bit = 1 := by omega
    by_cases hr : r % 2 = 1
    · rw [if_neg (by omega), if_pos hr]; simp [Nat.xor_assoc]
    · rw [if_pos (by omega), if_neg hr]; simp
theorem rbN_eq : ∀ (n r c : Nat), c < 2 ^ n → rbN n r c = stN n (r ^^^ c)
  | 0, r, c, h => by
    obtain rfl : c = 0 := by simpa using h
    simp [rbN, stN]
  | n + 1, r, c, h => by
    simp only [rbN, stN]
    rw [rbN_eq n _ _ (by rw [Nat.pow_succ] at h; omega), go1N_eq _ _ (by omega), st1_xor r c, st1_parts c, st1_xor r (c % 2), Nat.xor_assoc]
theorem stN_shift : ∀ (n x : Nat), stN n (x * 2 ^ n) = x
  | 0, x => by simp [stN]
  | n + 1, x => by
    have h : x * 2 ^ (n + 1) = 2 * (x * 2 ^ n) := by rw [Nat.pow_succ, ← Nat.mul_assoc, Nat.mul_comm]
    have h2 : st1 (2 * (x * 2 ^ n)) = x * 2 ^ n := by
      unfold st1
      rw [if_neg (by omega)]
      omega
    simp only [stN]
    rw [h, h2, stN_shift n x]
theorem xor_low (r : Nat) : r = (r / 16 * 2 ^ 4) ^^^ (r % 16) := by
  apply Nat.eq_of_testBit_eq
  intro i
  rw [Nat.testBit_xor, show r / 16 * 2 ^ 4 = (r / 16) <<< 4 from (Nat.shiftLeft_eq _ _).symm, Nat.testBit_shiftLeft, show r % 16 = r % 2 ^ 4 from rfl, Nat.testBit_mod_two_pow]
  by_cases hi : i < 4
  · simp [hi, show ¬ i ≥ 4 from by omega]
  · have : (r / 16).testBit (i - 4) = r.testBit i := by
      rw [show r / 16 = r >>> 4 from (Nat.shiftRight_eq_div_pow r 4).symm, Nat.testBit_shiftRight]
      congr 1; omega
    simp [hi, show i ≥ 4 from by omega, this]
/-- Four bits at once. -/
def nib (r : Nat) : Nat := (r / 16) ^^^ stN 4 (r % 16)
theorem nib_eq (r : Nat) : nib r = stN 4 r := by
  unfold nib
  conv => rhs; rw [xor_low r]
  rw [stN_xor, stN_shift]
theorem stN_add : ∀ (m n r : Nat), stN (m + n) r = stN n (stN m r)
  | 0, n, r => by simp [stN]
  | m + 1, n, r => by rw [show m + 1 + n = (m + n) + 1 from by omega]; simp only [stN]; exact stN_add m n _
theorem nib_nib (r : Nat) : nib (nib r) = stN 8 r := by rw [nib_eq, nib_eq, ← stN_add]
theorem st1_lt {r : Nat} (h : r < 4294967296) : st1 r < 4294967296 := by
  unfold st1
  split
  · exact Nat.xor_lt_two_pow (n := 32) (by omega) (by unfold poly; omega)
  · omega
theorem stN_lt : ∀ (n : Nat) {r : Nat}, r < 4294967296 → stN n r < 4294967296
  | 0, _, h => h
  | n + 1, _, h => stN_lt n (st1_lt h)
/-- A register, eight bits on. -/
@[irreducible] def st8 (r : Nat) : Nat := stN 8 r
theorem st8_eq (r : Nat) : st8 r = stN 8 r := by unfold st8; rfl
/-- The register behind some bytes. -/
def crcGo (r : Nat) (l : List UInt8) : Nat := l.foldl (fun a x => st8 (a ^^^ x.toNat)) r
def crcMore (s : Nat) (l : List UInt8) : Nat := 4294967295 - crcGo (4294967295 - s) l
theorem crcStep_lt {r : Nat} (x : UInt8) (h : r < 4294967296) : st8 (r ^^^ x.toNat) < 4294967296 := by
  have hx : x.toNat < 4294967296 := by have := x.toNat_lt; omega
  rw [st8_eq]
  exact stN_lt 8 (Nat.xor_lt_two_pow (n := 32) h hx)
theorem crcGo_cons (r : Nat) (x : UInt8) (t : List UInt8) : crcGo r (x :: t) = crcGo (st8 (r ^^^ x.toNat)) t := List.foldl_cons ..
theorem crcGo_lt (l : List UInt8) : ∀ {r : Nat}, r < 4294967296 → crcGo r l < 4294967296 := by
  induction l with
  | nil => intro r h; exact h
  | cons x t ih =>
    intro r h
    rw [crcGo_cons]
    exact ih (crcStep_lt x h)
theorem crcGo_snoc (l : List UInt8) (r : Nat) (x : UInt8) : crcGo r (l ++ [x]) = st8 (crcGo r l ^^^ x.toNat) := by
  unfold crcGo
  rw [List.foldl_append]; rfl
theorem crcMore_lt (s : Nat) (l : List UInt8) : crcMore s l < 4294967296 := by unfold crcMore; omega
/-- The four bytes of a sum, the lowest first. -/
def sumBytes (s : Nat) : List UInt8 := [UInt8.ofNat (s % 256), UInt8.ofNat (s / 256 % 256), UInt8.ofNat (s / 65536 % 256), UInt8.ofNat (s / 16777216 % 256)]
/-- Sealed bytes. -/
def sealL (l : List UInt8) : List UInt8 := l ++ sumBytes (crcMore 0 l)
end Go.Proofs.YtjjbbnodmpemiaaGreatDoor

/- Data of any make and how they lie in memory: leaves, structs, rows. Plain. No condition. -/
namespace Go.Proofs.YtjjbbnodmpemiaaGreatDoor
open Go.RowKit

/-- A datum: a cell; parts one behind the other; a slice of elements of s cells each. -/
inductive D where
  | leaf (v : Value)
  | agg (l : List D)
  | row (s : Nat) (l : List D)

mutual
/-- Of how many cells a datum is. -/
def D.cells : D → Nat
  | .leaf _ => 1
  | .agg l => cellsA l
  | .row _ _ => 1
def cellsA : List D → Nat
  | [] => 0
  | d :: r => d.cells + cellsA r
end

mutual
/-- These cells hold this datum; all that it leads to lies below block B. -/
def Holds (w : World) (B : Nat) : D → List Value → Prop
  | .leaf v, cs => cs = [v] ∧ v.oneCell' = true
  | .agg l, cs => HoldsA w B l cs
  | .row s l, cs => ∃ a c, cs = [.slice a l.length c] ∧ (∀ d ∈ l, d.cells = s) ∧ ∃ ns, HoldsA w B l ns ∧ (l = [] ∨ ∃ g off, a = some ⟨g, off, none⟩ ∧ g < B ∧ ∀ j u, ns[j]? = some u → w.cell? ⟨g, off + j, none⟩ = some u)
def HoldsA (w : World) (B : Nat) : List D → List Value → Prop
  | [], cs => cs = []
  | d :: r, cs => ∃ c1 c2, cs = c1 ++ c2 ∧ Holds w B d c1 ∧ HoldsA w B r c2
end

/-- To prove something of all data: of each, given that it holds of its parts. -/
theorem D.ind {p : D → Prop} (h0 : ∀ v, p (.leaf v)) (h1 : ∀ l, (∀ d ∈ l, p d) → p (.agg l)) (h2 : ∀ s l, (∀ d ∈ l, p d) → p (.row s l)) : ∀ d, p d := by
  intro d
  refine D.rec (motive_1 := p) (motive_2 := fun l => ∀ d ∈ l, p d) h0 h1 h2 ?_ ?_ d
  · intro d hd
    cases hd
  · intro d r hd hr x hx
    rcases List.mem_cons.1 hx with rfl | hx
    · exact hd
    · exact hr x hx

theorem HoldsA.len_of {w : World} {B : Nat} : ∀ {l : List D}, (∀ d ∈ l, ∀ cs, Holds w B d cs → cs.length = d.cells ∧ ∀ u ∈ cs, u.oneCell' = true) → ∀ {cs}, HoldsA w B l cs → cs.length = cellsA l ∧ ∀ u ∈ cs, u.oneCell' = true
  | [], _, cs, h => by
    have : cs = [] := h
    subst this
    exact ⟨rfl, fun u hu => by cases hu⟩
  | d :: r, ih, cs, h => by
    obtain ⟨c1, c2, rfl, h1, h2⟩ := h
    obtain ⟨a1, a2⟩ := ih d (by simp) c1 h1
    obtain ⟨b1, b2⟩ := HoldsA.len_of (fun x hx => ih x (by simp [hx])) h2
    refine ⟨by simp only [List.length_append, cellsA, a1, b1], fun u hu => ?_⟩
    rcases List.mem_append.1 hu with hu | hu
    · exact a2 u hu
    · exact b2 u hu
theorem Holds.len {w : World} {B : Nat} : ∀ {d : D} {cs}, Holds w B d cs → cs.length = d.cells ∧ ∀ u ∈ cs, u.oneCell' = true := by
  intro d
  refine D.ind (p := fun d => ∀ {cs}, Holds w B d cs → cs.length = d.cells ∧ ∀ u ∈ cs, u.oneCell' = true) ?_ ?_ ?_ d
  · intro v cs h
    obtain ⟨rfl, hv⟩ := h
    exact ⟨rfl, fun u hu => by simp at hu; rw [hu]; exact hv⟩
  · intro l ih cs h
    exact HoldsA.len_of (fun d hd _ => ih d hd) h
  · intro s l _ cs h
    obtain ⟨a, c, rfl, _⟩ := h
    exact ⟨rfl, fun u hu => by simp at hu; rw [hu]; rfl⟩
theorem HoldsA.len {w : World} {B : Nat} {l : List D} {cs : List Value} (h : HoldsA w B l cs) : cs.length = cellsA l ∧ ∀ u ∈ cs, u.oneCell' = true := HoldsA.len_of (fun _ _ _ hd => hd.len) h
theorem cellsA_all {s : Nat} : ∀ {l : List D}, (∀ d ∈ l, d.cells = s) → cellsA l = l.length * s
  | [], _ => by simp [cellsA]
  | d :: r, h => by
    have h1 := h d (by simp)
    have h2 := cellsA_all (l := r) (fun x hx => h x (by simp [hx]))
    simp only [cellsA, List.length_cons, Nat.add_mul, Nat.one_mul]
    omega

theorem HoldsA.imp {w w' : World} {B B' : Nat} : ∀ {l : List D}, (∀ d ∈ l, ∀ cs, Holds w B d cs → Holds w' B' d cs) → ∀ {cs}, HoldsA w B l cs → HoldsA w' B' l cs
  | [], _, _, h => h
  | d :: r, ih, cs, h => by
    obtain ⟨c1, c2, e, h1, h2⟩ := h
    exact ⟨c1, c2, e, ih d (by simp) c1 h1, HoldsA.imp (fun x hx => ih x (by simp [hx])) h2⟩
theorem Holds.imp {w w' : World} {B B' : Nat} (hB : B ≤ B') (hk : ∀ p : Addr, p.block < B → w'.cell? p = w.cell? p) : ∀ {d : D} {cs}, Holds w B d cs → Holds w' B' d cs := by
  intro d
  refine D.ind (p := fun d => ∀ {cs}, Holds w B d cs → Holds w' B' d cs) ?_ ?_ ?_ d
  · intro v cs h
    exact h
  · intro l ih cs h
    exact HoldsA.imp (fun d hd _ => ih d hd) h
  · intro s l ih cs h
    obtain ⟨a, c, e, hs, ns, h1, h2⟩ := h
    refine ⟨a, c, e, hs, ns, HoldsA.imp (fun d hd _ => ih d hd) h1, ?_⟩
    rcases h2 with h2 | ⟨g, off, ea, hg, hcell⟩
    · exact .inl h2
    · exact .inr ⟨g, off, ea, by omega, fun j u hu => (hk _ hg).trans (hcell j u hu)⟩
theorem Holds.keep {w w' : World} {B : Nat} {d : D} {cs : List Value} (h : Holds w B d cs) (hk : ∀ p : Addr, p.block < B → w'.cell? p = w.cell? p) : Holds w' B d cs := h.imp (Nat.le_refl _) hk
theorem Holds.below {w w' : World} {B : Nat} {d : D} {cs : List Value} (h : Holds w B d cs) (hb : Below B w w') : Holds w' B d cs := h.keep fun _ hp => hb.cell hp
theorem Holds.more {w : World} {B B' : Nat} {d : D} {cs : List Value} (h : Holds w B d cs) (hB : B ≤ B') : Holds w B' d cs := h.imp hB fun _ _ => rfl
theorem HoldsA.keep {w w' : World} {B : Nat} {l : List D} {cs : List Value} (h : HoldsA w B l cs) (hk : ∀ p : Addr, p.block < B → w'.cell? p = w.cell? p) : HoldsA w' B l cs := HoldsA.imp (fun _ _ _ hd => hd.keep hk) h
theorem HoldsA.below {w w' : World} {B : Nat} {l : List D} {cs : List Value} (h : HoldsA w B l cs) (hb : Below B w w') : HoldsA w' B l cs := h.keep fun _ hp => hb.cell hp
theorem HoldsA.more {w : World} {B B' : Nat} {l : List D} {cs : List Value} (h : HoldsA w B l cs) (hB : B ≤ B') : HoldsA w B' l cs := HoldsA.imp (fun _ _ _ hd => hd.more hB) h
/-- The old world's data in a later world, all that lies there. -/
theorem Holds.later {w w' : World} {d : D} {cs : List Value} (h : Holds w w.heap.size d cs) (hb : Below w.heap.size w w') : Holds w' w'.heap.size d cs := (h.below hb).more hb.size
theorem HoldsA.later {w w' : World} {l : List D} {cs : List Value} (h : HoldsA w w.heap.size l cs) (hb : Below w.heap.size w w') : HoldsA w' w'.heap.size l cs := (h.below hb).more hb.size

theorem HoldsA.app {w : World} {B : Nat} : ∀ {a b : List D} {ns ms : List Value}, HoldsA w B a ns → HoldsA w B b ms → HoldsA w B (a ++ b) (ns ++ ms)
  | [], b, ns, ms, h, h' => by
    have : ns = [] := h
    subst this
    exact h'
  | d :: r, b, ns, ms, h, h' => by
    obtain ⟨c1, c2, rfl, h1, h2⟩ := h
    exact ⟨c1, c2 ++ ms, by simp, h1, HoldsA.app h2 h'⟩
theorem HoldsA.one {w : World} {B : Nat} {d : D} {cs : List Value} (h : Holds w B d cs) : HoldsA w B [d] cs := ⟨cs, [], by simp, h, rfl⟩
theorem HoldsA.snoc {w : World} {B : Nat} {l : List D} {d : D} {ns cs : List Value} (h : HoldsA w B l ns) (hd : Holds w B d cs) : HoldsA w B (l ++ [d]) (ns ++ cs) := h.app (HoldsA.one hd)
theorem HoldsA.split {w : World} {B s : Nat} : ∀ {l : List D} {ns : List Value} (k : Nat), (∀ d ∈ l, d.cells = s) → HoldsA w B l ns → HoldsA w B (l.take k) (ns.take (k * s)) ∧ HoldsA w B (l.drop k) (ns.drop (k * s))
  | [], ns, k, _, h => by
    have : ns = [] := h
    subst this
    simp [HoldsA]
  | d :: r, ns, 0, _, h => by
    simp only [List.take_zero, Nat.zero_mul, List.drop_zero]
    exact ⟨rfl, h⟩
  | d :: r, ns, k + 1, hs, h => by
    obtain ⟨c1, c2, rfl, h1, h2⟩ := h
    obtain ⟨a, b⟩ := HoldsA.split k (fun x hx => hs x (by simp [hx])) h2
    have hl : c1.length = s := h1.len.1.trans (hs d (by simp))
    have e1 : (c1 ++ c2).take ((k + 1) * s) = c1 ++ c2.take (k * s) := by
      rw [List.take_append, List.take_of_length_le (by rw [hl, Nat.add_mul]; omega), hl, Nat.add_mul, Nat.one_mul, Nat.add_sub_cancel]
    have e2 : (c1 ++ c2).drop ((k + 1) * s) = c2.drop (k * s) := by
      rw [List.drop_append, List.drop_eq_nil_of_le (by rw [hl, Nat.add_mul]; omega), hl, Nat.add_mul, Nat.one_mul, Nat.add_sub_cancel, List.nil_append]
    rw [e1, e2]
    exact ⟨⟨c1, c2.take (k * s), rfl, h1, a⟩, b⟩
theorem HoldsA.at_ {w : World} {B s : Nat} {l : List D} {ns : List Value} (hs : ∀ d ∈ l, d.cells = s) (h : HoldsA w B l ns) {i : Nat} {d : D} (hi : l[i]? = some d) :
    ∃ cs, Holds w B d cs ∧ cs.length = s ∧ ∀ j u, cs[j]? = some u → ns[i * s + j]? = some u := by
  obtain ⟨_, h2⟩ := HoldsA.split i hs h
  obtain ⟨hlt, rfl⟩ := List.getElem?_eq_some_iff.1 hi
  rw [List.drop_eq_getElem_cons hlt] at h2
  obtain ⟨c1, c2, e, h3, _⟩ := h2
  have hl : c1.length = s := h3.len.1.trans (hs _ (List.getElem_mem hlt))
  refine ⟨c1, h3, hl, fun j u hu => ?_⟩
  have h5 := (List.getElem?_eq_some_iff.1 hu).1
  have h4 : (ns.drop (i * s))[j]? = some u := by
    rw [e, List.getElem?_append_left h5]; exact hu
  rwa [List.getElem?_drop] at h4

/-- The i-th element of a slice. -/
theorem Holds.at_ {w : World} {B s : Nat} {l : List D} {a : Option Addr} {n c : Nat} (h : Holds w B (.row s l) [.slice a n c]) {i : Nat} {d : D} (hi : l[i]? = some d) :
    ∃ g off, a = some ⟨g, off, none⟩ ∧ g < B ∧ ∃ cs, Holds w B d cs ∧ cs.length = s ∧ ∀ j u, cs[j]? = some u → w.cell? ⟨g, off + i * s + j, none⟩ = some u := by
  obtain ⟨a', c', e, hs, ns, h1, h2⟩ := h
  simp only [List.cons.injEq, Value.slice.injEq, and_true] at e
  obtain ⟨rfl, rfl, rfl⟩ := e
  rcases h2 with rfl | ⟨g, off, ea, hg, hcell⟩
  · simp at hi
  · obtain ⟨cs, h3, h4, h5⟩ := h1.at_ hs hi
    exact ⟨g, off, ea, hg, cs, h3, h4, fun j u hu => by rw [Nat.add_assoc]; exact hcell _ u (h5 j u hu)⟩
theorem Holds.row_len {w : World} {B s : Nat} {l : List D} {a : Option Addr} {n c : Nat} (h : Holds w B (.row s l) [.slice a n c]) : n = l.length := by
  obtain ⟨a', c', e, _⟩ := h
  simp only [List.cons.injEq, Value.slice.injEq, and_true] at e
  obtain ⟨rfl, rfl, rfl⟩ := e
  exact rfl

/-- These cells hold this datum in every world that agrees with w' on the blocks from b on. -/
def Fresh (b : Nat) (w' : World) (d : D) (cs : List Value) : Prop :=
  ∀ w'' : World, w'.heap.size ≤ w''.heap.size → (∀ p : Addr, b ≤ p.block → p.block < w'.heap.size → w''.cell? p = w'.cell? p) → Holds w'' w'.heap.size d cs
def FreshA (b : Nat) (w' : World) (l : List D) (cs : List Value) : Prop :=
  ∀ w'' : World, w'.heap.size ≤ w''.heap.size → (∀ p : Addr, b ≤ p.block → p.block < w'.heap.size → w''.cell? p = w'.cell? p) → HoldsA w'' w'.heap.size l cs
theorem Fresh.now {b : Nat} {w' : World} {d : D} {cs : List Value} (h : Fresh b w' d cs) : Holds w' w'.heap.size d cs := h w' (Nat.le_refl _) fun _ _ _ => rfl
theorem FreshA.now {b : Nat} {w' : World} {l : List D} {cs : List Value} (h : FreshA b w' l cs) : HoldsA w' w'.heap.size l cs := h w' (Nat.le_refl _) fun _ _ _ => rfl
theorem FreshA.nil (b : Nat) (w' : World) : FreshA b w' [] [] := fun _ _ _ => rfl
theorem FreshA.keep {b : Nat} {wr w' : World} {l : List D} {ns : List Value} (h : FreshA b wr l ns) (hs : wr.heap.size ≤ w'.heap.size) (hk : ∀ p : Addr, b ≤ p.block → p.block < wr.heap.size → w'.cell? p = wr.cell? p) : FreshA b w' l ns :=
  fun w'' h1 h2 => HoldsA.more (h w'' (Nat.le_trans hs h1) (fun p p1 p2 => (h2 p p1 (Nat.lt_of_lt_of_le p2 hs)).trans (hk p p1 p2))) hs
theorem Fresh.keep {b b' : Nat} {wr w' : World} {d : D} {ns : List Value} (h : Fresh b wr d ns) (hb : b' ≤ b) (hs : wr.heap.size ≤ w'.heap.size) (hk : ∀ p : Addr, b ≤ p.block → p.block < wr.heap.size → w'.cell? p = wr.cell? p) : Fresh b' w' d ns :=
  fun w'' h1 h2 => Holds.more (h w'' (Nat.le_trans hs h1) (fun p p1 p2 => (h2 p (Nat.le_trans hb p1) (Nat.lt_of_lt_of_le p2 hs)).trans (hk p p1 p2))) hs
theorem Fresh.later {b : Nat} {w w' : World} {d : D} {ns : List Value} (h : Fresh b w d ns) (hb : Below w.heap.size w w') : Fresh b w' d ns := h.keep (Nat.le_refl _) hb.size fun _ _ p2 => hb.cell p2
theorem FreshA.later {b : Nat} {w w' : World} {l : List D} {ns : List Value} (h : FreshA b w l ns) (hb : Below w.heap.size w w') : FreshA b w' l ns := h.keep hb.size fun _ _ p2 => hb.cell p2
/-- A slice over a fresh row that lies in a block of the call's own. -/
theorem FreshA.row {b s : Nat} {w' : World} {l : List D} {ns : List Value} {a : Option Addr} {c : Nat} (h : FreshA b w' l ns) (hs : ∀ d ∈ l, d.cells = s)
    (ha : l = [] ∨ ∃ g off, a = some ⟨g, off, none⟩ ∧ b ≤ g ∧ g < w'.heap.size ∧ ∀ j u, ns[j]? = some u → w'.cell? ⟨g, off + j, none⟩ = some u) : Fresh b w' (.row s l) [.slice a l.length c] := by
  intro w'' h1 h2
  refine ⟨a, c, rfl, hs, ns, h w'' h1 h2, ?_⟩
  rcases ha with ha | ⟨g, off, e, hbg, hg, hcell⟩
  · exact .inl ha
  · exact .inr ⟨g, off, e, hg, fun j u hu => (h2 _ hbg hg).trans (hcell j u hu)⟩
end Go.Proofs.YtjjbbnodmpemiaaGreatDoor

/- Words for memory: slices that read as lists, blocks known whole, append of any source (the kit's own words, copied as its page says). No condition. -/
namespace Go.Proofs.YtjjbbnodmpemiaaGreatDoor
open Go Go.RowKit

theorem block_of_add (a : Addr) (n : Nat) : (a.add n).block = a.block := by unfold Addr.add; split <;> rfl
theorem add_of_add (a : Addr) (i j : Nat) : (a.add i).add j = a.add (i + j) := by
  unfold Addr.add
  by_cases hi : i = 0 <;> by_cases hj : j = 0 <;> simp [hi, hj, Nat.add_assoc]

def Reads (w : World) (B size : Nat) (A : Option Addr) (n : Nat) (xs : List Value) : Prop :=
  xs.length = n * size ∧ (0 < n → ∃ ad, A = some ad ∧ ad.block < B ∧ ∀ j u, xs[j]? = some u → w.cell? (ad.add j) = some u)

section
variable {w w' : World} {B B' size n : Nat} {A : Option Addr} {xs : List Value}
theorem Reads.none_ : Reads w B size A 0 [] := ⟨by simp, fun h => absurd h (by omega)⟩
theorem Reads.at_ {k : Nat} (h : Reads w B 1 A n xs) (hk : k < n) : ∃ ad u, A = some ad ∧ ad.block < B ∧ xs[k]? = some u ∧ w.cell? (ad.add k) = some u := by
  obtain ⟨ad, e, hb, hc⟩ := h.2 (by omega)
  have hl : k < xs.length := by have := h.1; omega
  exact ⟨ad, xs[k], e, hb, List.getElem?_eq_getElem hl, hc k _ (List.getElem?_eq_getElem hl)⟩
theorem Reads.keep (h : Reads w B size A n xs) (hk : ∀ p : Addr, p.block < B → w'.cell? p = w.cell? p) : Reads w' B size A n xs :=
  ⟨h.1, fun hn => by
    obtain ⟨ad, e, hb, hc⟩ := h.2 hn
    exact ⟨ad, e, hb, fun j u hu => (hk _ (by rw [block_of_add]; exact hb)).trans (hc j u hu)⟩⟩
theorem Reads.more (h : Reads w B size A n xs) (hB : B ≤ B') : Reads w B' size A n xs :=
  ⟨h.1, fun hn => by
    obtain ⟨ad, e, hb, hc⟩ := h.2 hn
    exact ⟨ad, e, by omega, hc⟩⟩
theorem Reads.below (h : Reads w B size A n xs) (hb : Below B w w') : Reads w' B size A n xs := h.keep fun _ hp => hb.cell hp
theorem Reads.drew (h : Reads w B size A n xs) : Reads w.drew B size A n xs := h
theorem Reads.drewN (h : Reads w B size A n xs) (k : Nat) : Reads (w.drewN k) B size A n xs := h
theorem Reads.alloc (h : Reads w B size A n xs) (hB : B ≤ w.heap.size) (o : Obj) : Reads (w.alloc o) B size A n xs := h.keep fun p hp => World.cell?_alloc_lt w o p (by omega)
theorem Reads.setCell (h : Reads w B size A n xs) {p : Addr} (hB : B ≤ p.block) (u : Value) : Reads (w.setCell p u) B size A n xs :=
  h.keep fun q hq => World.cell?_setCell_other w p q u (fun e => by subst e; omega)
theorem Reads.grown (h : Reads w B size A n xs) {row : Option Nat} (hg : w.grownBy w' row) (hB : B ≤ w.heap.size) (hr : ∀ g, row = some g → B ≤ g) : Reads w' B size A n xs :=
  h.keep fun p hp => World.cell?_of_block (hg.block p.block (by omega) (fun e => by have := hr _ e.symm; omega))
theorem Reads.cut (h : Reads w B size A n xs) {k cap : Nat} (hk : k ≤ n) (hc : n ≤ cap) :
    Reads w B size (if cap = k then A else A.map (·.add (k * size))) (n - k) (xs.drop (k * size)) := by
  refine ⟨by rw [List.length_drop, h.1, Nat.sub_mul], fun hn => ?_⟩
  obtain ⟨ad, rfl, hb, hcell⟩ := h.2 (by omega)
  rw [if_neg (by omega)]
  refine ⟨ad.add (k * size), rfl, by rw [block_of_add]; exact hb, fun j u hu => ?_⟩
  rw [add_of_add]
  exact hcell _ u (by rw [← hu, List.getElem?_drop])
theorem Reads.of_own {base : Nat} {e : TypeId} {c : Nat} (h : w.ownsRow base e size (.slice A n c) n xs) : Reads w w.heap.size size A n xs := by
  refine ⟨h.1, fun hn => ?_⟩
  obtain ⟨g, cap, hv, _, hlt⟩ := h.form hn
  have hA : A = some ⟨g, 0, none⟩ := by injection hv
  subst hA
  exact ⟨_, rfl, hlt, h.cells (g := g) rfl⟩
end

def Blk (w : World) (g : Nat) (t : TypeId) (cs : Array Value) : Prop := w.heap[g]? = some (.cells cs t (0, 0))

section
variable {w w' : World} {g : Nat} {t : TypeId} {cs : Array Value}
theorem Blk.lt (h : Blk w g t cs) : g < w.heap.size := by
  rcases Nat.lt_or_ge g w.heap.size with hlt | hge
  · exact hlt
  · unfold Blk at h; rw [Array.getElem?_eq_none hge] at h; cases h
theorem Blk.cell (h : Blk w g t cs) (i : Nat) : w.cell? ⟨g, i, none⟩ = cs[i]? := cell_of_row w g i cs t (0, 0) h
theorem Blk.frozen (h : Blk w g t cs) (i : Nat) : w.frozen? ⟨g, i, none⟩ = false := by
  unfold Blk at h
  simp [World.frozen?, h]
theorem Blk.new (w : World) (t : TypeId) (cs : Array Value) : Blk (w.alloc (.cells cs t)) w.heap.size t cs := heap_alloc_new w _
theorem Blk.drew (h : Blk w g t cs) : Blk w.drew g t cs := h
theorem Blk.drewN (h : Blk w g t cs) (n : Nat) : Blk (w.drewN n) g t cs := h
theorem Blk.alloc (h : Blk w g t cs) (o : Obj) : Blk (w.alloc o) g t cs := (Below.heap_alloc w o g h.lt).trans h
theorem Blk.set_ (h : Blk w g t cs) (i : Nat) (u : Value) : Blk (w.setCell ⟨g, i, none⟩ u) g t (cs.setIfInBounds i u) := by
  unfold Blk at h ⊢
  simp [World.setCell, Array.getElem?_modify, h]
theorem Blk.far (h : Blk w g t cs) {p : Addr} (hp : g ≠ p.block) (u : Value) : Blk (w.setCell p u) g t cs := (Below.heap_setCell w p u g hp).trans h
theorem Blk.below {B : Nat} (h : Blk w g t cs) (hb : Below B w w') (hg : g < B) : Blk w' g t cs := (hb.block g hg).trans h
theorem Blk.grown {row : Option Nat} (h : Blk w g t cs) (hb : w.grownBy w' row) (hg : some g ≠ row) : Blk w' g t cs := (hb.block g h.lt hg).trans h
theorem Blk.ne_ {g' : Nat} {t' : TypeId} {cs' : Array Value} (h : Blk w g t cs) (h' : Blk w g' t' cs') (hne : t ≠ t') : g ≠ g' := by
  rintro rfl
  unfold Blk at h h'
  rw [h] at h'
  injection h' with h'
  injection h' with _ ht
  exact hne ht
theorem own_blk_ne {base : Nat} {e : TypeId} {size n : Nat} {v : Value} {xs : List Value} (h : w.ownsRow base e size v n xs) (hg : Blk w g t cs) (hne : e ≠ t) : v.ownBlock ≠ some g := by
  rcases h.2 with ⟨rfl, _⟩ | ⟨g', cap, cur, rfl, _, hh, _⟩
  · simp [Value.ownBlock]
  · intro he
    have : g' = g := by simpa [Value.ownBlock] using he
    subst this
    exact Blk.ne_ (t := e) hh hg hne rfl
end

section
variable {P : Program} (w : World)

theorem run_append_of_nil (base : Nat) (t ty e : TypeId) (i : TypeInfo) (size : Nat) (ht : P.underlying t = some (.slice e)) (hi : P.info? e = some i)
    (v : Value) (n : Nat) (xs : List Value) (hown : w.ownsRow base e size v n xs) (c : Nat) : (Builtin.append_ #[t, t] ty #[v, .slice none 0 c]).run P w = .ok v w := by
  rcases hown.2 with ⟨rfl, rfl⟩ | ⟨g, cap, cur, rfl, _, _, hnc, _⟩
  · simp [Builtin.append_, run_underlying ht, sizeOf, typeInfo, hi, Builtin.lenOf, Builtin.firstCells]
  · simp [Builtin.append_, run_underlying ht, sizeOf, typeInfo, hi, Builtin.lenOf, Builtin.firstCells, hnc, storeCells]

theorem run_append_any (base : Nat) (t ty e : TypeId) (i : TypeInfo) (z : Value) (size bytes : Nat) (ht : P.underlying t = some (.slice e)) (hi : P.info? e = some i) (hz : i.zero = some z)
    (hsize : i.size = size) (hby : i.bytes = bytes) (hzs : z.cells.size = size) (hsz : 0 < size)
    (v : Value) (n : Nat) (xs : List Value) (hown : w.ownsRow base e size v n xs)
    (B : Nat) (A : Option Addr) (m c : Nat) (news : List Value) (hr : Reads w B size A m news) (h1 : ∀ u ∈ news, u.oneCell' = true)
    (h63 : n + m ≤ maxLen) (hbytes : (n + m) * bytes ≤ 140737488355328) (hbase : base ≤ w.heap.size) :
    ∃ v' w', (Builtin.append_ #[t, t] ty #[v, .slice A m c]).run P w = .ok v' w' ∧ w'.ownsRow base e size v' (n + m) (xs ++ news) ∧ w.grownBy w' v.ownBlock ∧
      (v'.ownBlock = v.ownBlock ∨ v'.ownBlock = some w.heap.size) := by
  rcases A with _ | ad
  · have hm : m = 0 := by
      rcases Nat.eq_zero_or_pos m with h0 | h0
      · exact h0
      · obtain ⟨ad, h, _⟩ := hr.2 h0
        cases h
    subst hm
    have hn : news = [] := List.eq_nil_of_length_eq_zero (by simpa using hr.1)
    subst hn
    exact ⟨v, w, run_append_of_nil w base t ty e i size ht hi v n xs hown c, by simpa using hown, World.grownBy.refl w _, .inl rfl⟩
  · have hcells : ∀ j u, news[j]? = some u → w.cell? (ad.add j) = some u := by
      intro j u hu
      rcases Nat.eq_zero_or_pos m with h0 | h0
      · subst h0
        have hn : news = [] := List.eq_nil_of_length_eq_zero (by simpa using hr.1)
        subst hn
        simp at hu
      · obtain ⟨ad', h, _, hc⟩ := hr.2 h0
        injection h with h
        subst h
        exact hc j u hu
    obtain ⟨v', w', hrun, h2, h3, _, h5⟩ := run_append_own_at (P := P) w base t ty e i z size bytes ht hi hz hsize hby hzs hsz v n xs hown ad m c news hr.1 hcells h1 h63 hbytes hbase
    exact ⟨v', w', hrun, h2, h3, h5⟩

theorem wp_append_any {o : Oper} {a : Act} {K : Act → World → Prop} {Q : Exit → Act → World → Prop} (s x : Operand) (t : TypeId)
    (ho : o.op = .call { callee := .builtin .append, args := #[s, x], argTypes := #[t, t] })
    (base : Nat) (e : TypeId) (i : TypeInfo) (z : Value) (size bytes : Nat) (ht : P.underlying t = some (.slice e)) (hi : P.info? e = some i) (hz : i.zero = some z)
    (hsize : i.size = size) (hby : i.bytes = bytes) (hzs : z.cells.size = size) (hsz : 0 < size)
    (v : Value) (n : Nat) (xs : List Value) (hs : a.eval s = v) (hown : w.ownsRow base e size v n xs)
    (B : Nat) (A : Option Addr) (m c : Nat) (news : List Value) (hx : a.eval x = .slice A m c) (hr : Reads w B size A m news) (h1 : ∀ u ∈ news, u.oneCell' = true)
    (h63 : n + m ≤ maxLen) (hbytes : (n + m) * bytes ≤ 140737488355328) (hbase : base ≤ w.heap.size)
    (h : ∀ v' w', w'.ownsRow base e size v' (n + m) (xs ++ news) → w.grownBy w' v.ownBlock → (v'.ownBlock = v.ownBlock ∨ v'.ownBlock = some w.heap.size) → K (a.put o.dst v') w') : o.wp P a w K Q := by
  obtain ⟨v', w', hrun, h2, h3, h4⟩ := run_append_any (P := P) w base t o.type e i z size bytes ht hi hz hsize hby hzs hsz v n xs hown B A m c news hr h1 h63 hbytes hbase
  unfold Oper.wp execOp
  simp only [ho, resolve, invoke, builtin, Sem.run_bind, Sem.run_pure, Result.andThen_ok, List.map_toArray, List.map_cons, List.map_nil, hs, hx, hrun]
  exact h v' w' h2 h3 h4

theorem wpList_append_any {ops : Array Oper} {rest : List Oper} {o : Oper} {a : Act} {Q : Exit → Act → World → Prop} (hgd : o.guard = none) (s x : Operand) (t : TypeId)
    (ho : o.op = .call { callee := .builtin .append, args := #[s, x], argTypes := #[t, t] })
    (base : Nat) (e : TypeId) (i : TypeInfo) (z : Value) (size bytes : Nat) (ht : P.underlying t = some (.slice e)) (hi : P.info? e = some i) (hz : i.zero = some z)
    (hsize : i.size = size) (hby : i.bytes = bytes) (hzs : z.cells.size = size) (hsz : 0 < size)
    (v : Value) (n : Nat) (xs : List Value) (hs : a.eval s = v) (hown : w.ownsRow base e size v n xs)
    (B : Nat) (A : Option Addr) (m c : Nat) (news : List Value) (hx : a.eval x = .slice A m c) (hr : Reads w B size A m news) (h1 : ∀ u ∈ news, u.oneCell' = true)
    (h63 : n + m ≤ maxLen) (hbytes : (n + m) * bytes ≤ 140737488355328) (hbase : base ≤ w.heap.size)
    (h : ∀ v' w', w'.ownsRow base e size v' (n + m) (xs ++ news) → w.grownBy w' v.ownBlock → (v'.ownBlock = v.ownBlock ∨ v'.ownBlock = some w.heap.size) → wpList P ops Q rest (a.put o.dst v') w') : wpList P ops Q (o :: rest) a w :=
  wpList_plain hgd fun _ hK => wp_append_any w s x t ho base e i z size bytes ht hi hz hsize hby hzs hsz v n xs hs hown B A m c news hx hr h1 h63 hbytes hbase fun v' w' h2 h3 h4 => hK _ _ (h v' w' h2 h3 h4)

theorem step_append_any {ops : Array Oper} {o : Oper} {a : Act} {K : Act → World → Prop} {Q : Exit → Act → World → Prop} {E : Prop} (hgd : o.guard = none) (s x : Operand) (t : TypeId)
    (ho : o.op = .call { callee := .builtin .append, args := #[s, x], argTypes := #[t, t] })
    (base : Nat) (e : TypeId) (i : TypeInfo) (z : Value) (size bytes : Nat) (ht : P.underlying t = some (.slice e)) (hi : P.info? e = some i) (hz : i.zero = some z)
    (hsize : i.size = size) (hby : i.bytes = bytes) (hzs : z.cells.size = size) (hsz : 0 < size)
    (v : Value) (n : Nat) (xs : List Value) (hs : a.eval s = v) (hown : w.ownsRow base e size v n xs)
    (B : Nat) (A : Option Addr) (m c : Nat) (news : List Value) (hx : a.eval x = .slice A m c) (hr : Reads w B size A m news) (h1 : ∀ u ∈ news, u.oneCell' = true)
    (h63 : n + m ≤ maxLen) (hbytes : (n + m) * bytes ≤ 140737488355328) (hbase : base ≤ w.heap.size)
    (h : ∀ v' w', w'.ownsRow base e size v' (n + m) (xs ++ news) → w.grownBy w' v.ownBlock → (v'.ownBlock = v.ownBlock ∨ v'.ownBlock = some w.heap.size) → K (a.put o.dst v') w') :
    if Region.wanted o (yielded ops a.tmps) = true then Oper.wp P o a w K Q else E := by
  have hw : Region.wanted o (yielded ops a.tmps) = true := by simp [Region.wanted, hgd]
  rw [if_pos hw]
  exact wp_append_any w s x t ho base e i z size bytes ht hi hz hsize hby hzs hsz v n xs hs hown B A m c news hx hr h1 h63 hbytes hbase h
end

end Go.Proofs.YtjjbbnodmpemiaaGreatDoor

/- Rows that a call builds by append, of data of any make. Plain. No condition. -/
namespace Go.Proofs.YtjjbbnodmpemiaaGreatDoor
open Go Go.RowKit

theorem add_plain' (g off i : Nat) : (⟨g, off, none⟩ : Addr).add i = ⟨g, off + i, none⟩ := Go.WideShapes.add_plain g off i

/-- A slice that came in, as cells. -/
theorem Holds.reads {w : World} {B s : Nat} {l : List D} {a : Option Addr} {n c : Nat} (h : Holds w B (.row s l) [.slice a n c]) : ∃ ns, Reads w B s a n ns ∧ HoldsA w B l ns ∧ ∀ u ∈ ns, u.oneCell' = true := by
  have hn := h.row_len
  obtain ⟨a', c', e, hs, ns, h1, h2⟩ := h
  simp only [List.cons.injEq, Value.slice.injEq, and_true] at e
  obtain ⟨rfl, rfl, rfl⟩ := e
  refine ⟨ns, ⟨by rw [h1.len.1, cellsA_all hs], fun h0 => ?_⟩, h1, h1.len.2⟩
  rcases h2 with rfl | ⟨g, off, e, hg, hc⟩
  · simp at h0
  · exact ⟨_, e, hg, fun j u hu => by rw [add_plain']; exact hc j u hu⟩

/-- A row that the call has built so far: block(s) of its own from b on; the data hold in every world that agrees on the blocks from b on, but for the row's own. -/
def RowD (b : Nat) (t : TypeId) (s : Nat) (wr : World) (l : List D) (V : Value) : Prop :=
  ∃ ns, wr.ownsRow b t s V l.length ns ∧ (∀ d ∈ l, d.cells = s) ∧ ∀ w'' : World, wr.heap.size ≤ w''.heap.size →
    (∀ p : Addr, b ≤ p.block → p.block < wr.heap.size → V.ownBlock ≠ some p.block → w''.cell? p = wr.cell? p) → HoldsA w'' wr.heap.size l ns
theorem RowD.nil (b : Nat) (t : TypeId) (s : Nat) (wr : World) : RowD b t s wr [] (.slice none 0 0) := ⟨[], World.ownsRow_nil _ _ _ _, fun d hd => (by cases hd), fun _ _ _ => rfl⟩
theorem RowD.base {b : Nat} {t : TypeId} {s : Nat} {wr : World} {l : List D} {V : Value} (h : RowD b t s wr l V) : ∀ g, V.ownBlock = some g → b ≤ g ∧ g < wr.heap.size := by
  obtain ⟨ns, h1, _⟩ := h
  exact h1.lt
/-- The world has grown and nothing of the row's was written. -/
theorem RowD.keep {b : Nat} {t : TypeId} {s : Nat} {wr w' : World} {l : List D} {V : Value} (h : RowD b t s wr l V) (hs : wr.heap.size ≤ w'.heap.size) (hk : ∀ i, b ≤ i → i < wr.heap.size → w'.heap[i]? = wr.heap[i]?) : RowD b t s w' l V := by
  obtain ⟨ns, h1, h2, h3⟩ := h
  refine ⟨ns, ⟨h1.1, ?_⟩, h2, fun w'' k1 k2 => HoldsA.more (h3 w'' (by omega) (fun p p1 p2 p3 => (k2 p p1 (by omega) p3).trans (World.cell?_of_block (hk p.block p1 p2)))) hs⟩
  rcases h1.2 with ⟨rfl, h0⟩ | ⟨g, cap, cur, rfl, hbg, hg, h5⟩
  · exact .inl ⟨rfl, h0⟩
  · exact .inr ⟨g, cap, cur, rfl, hbg, (hk g hbg (Array.getElem?_eq_some_iff.1 hg).1).trans hg, h5⟩
theorem RowD.below {b : Nat} {t : TypeId} {s : Nat} {wr w' : World} {l : List D} {V : Value} (h : RowD b t s wr l V) (hb : Below wr.heap.size wr w') : RowD b t s w' l V := h.keep hb.size fun i _ hi => hb.block i hi
/-- One more: made behind wr (fresh from wr on), taken in by an append. -/
theorem RowD.step {b : Nat} {t : TypeId} {s : Nat} {wr w4 w6 : World} {l : List D} {V V' : Value} {d : D} {cs ns : List Value} (hbw : b ≤ wr.heap.size)
    (hns : ∀ w'' : World, wr.heap.size ≤ w''.heap.size → (∀ p : Addr, b ≤ p.block → p.block < wr.heap.size → V.ownBlock ≠ some p.block → w''.cell? p = wr.cell? p) → HoldsA w'' wr.heap.size l ns)
    (hall : ∀ d ∈ l, d.cells = s) (hd : d.cells = s) (hx : Fresh wr.heap.size w4 d cs) (hlt : ∀ g, V.ownBlock = some g → g < wr.heap.size)
    (hown : w6.ownsRow b t s V' (l.length + 1) (ns ++ cs)) (hV : V'.ownBlock = V.ownBlock ∨ ∃ N, V'.ownBlock = some N ∧ w4.heap.size ≤ N)
    (hs4 : wr.heap.size ≤ w4.heap.size) (hs6 : w4.heap.size ≤ w6.heap.size) (h4 : ∀ p : Addr, b ≤ p.block → p.block < wr.heap.size → w4.cell? p = wr.cell? p)
    (h6 : ∀ p : Addr, b ≤ p.block → p.block < w4.heap.size → V.ownBlock ≠ some p.block → w6.cell? p = w4.cell? p) : RowD b t s w6 (l ++ [d]) V' := by
  refine ⟨ns ++ cs, by rw [List.length_append]; exact hown, ?_, fun w'' hsz hag => ?_⟩
  · intro x hx'
    rcases List.mem_append.1 hx' with hx' | hx'
    · exact hall x hx'
    · simp only [List.mem_cons, List.not_mem_nil, or_false] at hx'
      rw [hx']; exact hd
  · have hnew : ∀ p : Addr, p.block < w4.heap.size → V.ownBlock ≠ some p.block → V'.ownBlock ≠ some p.block := by
      intro p p2 p3
      rcases hV with e | ⟨N, e, hN⟩
      · rw [e]; exact p3
      · rw [e]; intro e2; have := Option.some.inj e2; omega
    have a1 : HoldsA w'' w6.heap.size l ns := HoldsA.more (hns w'' (by omega) (fun p p1 p2 p3 => by
      rw [hag p p1 (by omega) (hnew p (by omega) p3), h6 p p1 (by omega) p3, h4 p p1 p2])) (by omega)
    have a2 : Holds w'' w6.heap.size d cs := Holds.more (hx w'' (by omega) (fun p p1 p2 => by
      have p3 : V.ownBlock ≠ some p.block := fun e => by have := hlt _ e; omega
      rw [hag p (by omega) (by omega) (hnew p p2 p3), h6 p (by omega) p2 p3])) hs6
    exact a1.snoc a2
/-- The row, done. -/
theorem RowD.close {b : Nat} {t : TypeId} {s : Nat} {wr : World} {l : List D} {V : Value} (h : RowD b t s wr l V) :
    ∃ a c, V = .slice a l.length c ∧ l.length ≤ c ∧ Fresh b wr (.row s l) [.slice a l.length c] ∧ ((l = [] ∧ a = none ∧ c = 0) ∨ ∃ g, a = some ⟨g, 0, none⟩ ∧ b ≤ g ∧ g < wr.heap.size) := by
  obtain ⟨ns, h1, h2, h3⟩ := h
  have h1' := h1
  rcases h1.2 with ⟨rfl, h0⟩ | ⟨g, cap, cur, rfl, hbg, hg, hnc, _⟩
  · have hl : l = [] := List.eq_nil_of_length_eq_zero h0
    subst hl
    exact ⟨none, 0, rfl, Nat.le_refl _, fun _ _ _ => ⟨none, 0, rfl, h2, [], rfl, .inl rfl⟩, .inl ⟨rfl, rfl, rfl⟩⟩
  · have hgl := (Array.getElem?_eq_some_iff.1 hg).1
    refine ⟨_, cap, rfl, hnc, fun w'' k1 k2 => ⟨_, cap, rfl, h2, ns, h3 w'' k1 (fun p p1 p2 _ => k2 p p1 p2), .inr ⟨g, 0, rfl, hgl, fun j u hu => ?_⟩⟩, .inr ⟨g, rfl, hbg, hgl⟩⟩
    have h5 := h1'.cells (g := g) rfl j u hu
    rw [add_plain'] at h5
    exact (k2 _ hbg hgl).trans h5
end Go.Proofs.YtjjbbnodmpemiaaGreatDoor

/- crc: one step of a register; the table of the steps. No condition. -/
namespace Go.Proofs.YtjjbbnodmpemiaaGreatDoor
open Go.RowKit

theorem xor_poly (r : Nat) (h : r < 4294967296) : bits .xor .u32 (r : Int) 3988292384 = ((r ^^^ poly : Nat) : Int) := u32_xor_nat r 3988292384 h (by omega)

theorem go1_calls (r bit : Nat) (hr : r < 4294967296) (_ : bit < 2) (w : World) : Calls Tryz.prog 126 #[.int .u32 r, .int .u32 bit] w fun e w' => e = .returned (.int .u32 (go1N r bit : Nat)) ∧ w = w' := by
  have hx := xor_poly (r / 2) (by omega)
  have e2 : ((r : Int) / 2) = ((r / 2 : Nat) : Int) := by omega
  rw [← e2] at hx
  by_cases h : r % 2 = bit
  · have hm : ((go1N r bit : Nat) : Int) = (r : Int) / 2 := by unfold go1N; rw [if_neg (by omega), e2]
    have ht : (((r : Int) % 2) != (bit : Int)) = false := by simp; omega
    have Hm := Lib.hid hm
    clear hm
    clear e2 h hx
    go_enter Tryz.func126, Tryz.ntmps126
    go_wp2
    go_ret
    exact ⟨by rw [Hm.out]; rfl, rfl⟩
  · have hm : ((go1N r bit : Nat) : Int) = ((r / 2 ^^^ poly : Nat) : Int) := by unfold go1N; rw [if_pos (by omega)]
    have ht : (((r : Int) % 2) != (bit : Int)) = true := by simp; omega
    have Hm := Lib.hid hm
    clear hm
    clear e2 h
    go_enter Tryz.func126, Tryz.ntmps126
    go_wp2
    go_ret
    exact ⟨by rw [Hm.out]; rfl, rfl⟩

/-- One number's four steps, stored into the table. -/
theorem ste1_calls (k : Nat) (hk : k < 16) (g : Nat) (cs : Array Value) (hcs : cs.size = 16) (w : World) (h : Blk w g 195 cs) :
    Calls Tryz.prog 154 #[.int .u32 k, .pointer (some ⟨g, 0, none⟩)] w fun e w' => e = .returned (.tuple #[]) ∧ w' = w.setCell ⟨g, k, none⟩ (.int .u32 (stN 4 k : Nat)) := by
  obtain ⟨u0, hc⟩ : ∃ u0, w.cell? ⟨g, k, none⟩ = some u0 := ⟨_, (h.cell k).trans (Array.getElem?_eq_getElem (by omega))⟩
  have hf := h.frozen k
  have hk1 : (k : Int) < 16 := by omega
  have hk0 : (0 : Int) ≤ k := by omega
  have H := Lib.hid h
  have Hcs := Lib.hid hcs
  clear h hcs
  go_enter Tryz.func154, Tryz.ntmps154
  go_wp2
  go_loop [3, 6] (fun r i => ∃ q : Nat, q ≤ 4 ∧ i = .int .i64 q ∧ r = .int .u32 (stN q k : Nat)) (fun _ i => 4 - (intOf i).toNat)
  case atStart => exact ⟨0, by omega, rfl, rfl⟩
  case round =>
    obtain ⟨q, hq, rfl, rfl⟩ := hrel
    by_cases hlt : q < 4
    · obtain ⟨r, hr⟩ : ∃ r, stN q k = r := ⟨_, rfl⟩
      have hrl : r < 4294967296 := by rw [← hr]; exact stN_lt q (by omega)
      have hs : stN (q + 1) k = st1 r := by rw [← hr, stN_add]; rfl
      rw [hr]
      have hA : bits .and .u32 (r : Int) 1 = ((r % 2 : Nat) : Int) := by rw [← nat_mask1]; exact u32_and_nat r 1 hrl (by omega)
      have hx := xor_poly (r / 2) (by omega)
      have e2 : ((r : Int) / 2) = ((r / 2 : Nat) : Int) := by omega
      rw [← e2] at hx
      by_cases ho : r % 2 = 1
      · have hB : ((((r % 2 : Nat) : Int)) == 1) = true := by simp; omega
        have hS : Hid (stN (q + 1) k = (r / 2) ^^^ poly) := by rw [hs]; unfold st1; rw [if_pos ho]; exact rfl
        clear hr hs e2 ho
        go_wp2
        go_round
        case rel => exact ⟨q + 1, by omega, by go_num, by rw [hS.out]⟩
        case measure => simp [intOf]; omega
      · have hB : ((((r % 2 : Nat) : Int)) == 1) = false := by simp; omega
        have hS : Hid (stN (q + 1) k = r / 2) := by rw [hs]; unfold st1; rw [if_neg ho]; exact rfl
        clear hr hs e2 ho hx
        go_wp2
        go_round
        case rel => exact ⟨q + 1, by omega, by go_num, by rw [hS.out]; go_num⟩
        case measure => simp [intOf]; omega
    · obtain rfl : q = 4 := by omega
      go_wp2
      go_end0
      exact ⟨rfl, rfl⟩
end Go.Proofs.YtjjbbnodmpemiaaGreatDoor

/- A range over an iterator that yields a known list, by a body that always goes on: the law that the walks use. No condition. -/
namespace Go.Proofs.YtjjbbnodmpemiaaGreatDoor
open Go.RowKit

/-- The iterator yields the list xs, whatever its rounds do, so they keep what it needs (N). -/
def Yields {α : Type} (P : Program) (gf : Nat) (lb : Array Value) (encs : α → Array Value) (xs : List α) (N : World → Prop) : Prop :=
  ∀ (n l : Nat) (J : List α → World → Prop) (W : World), (∀ s A B, J s A → Below A.heap.size A B → J s B) → (∀ s A, J s A → N A) →
    (∀ pre x rest A, xs = pre ++ x :: rest → J pre A → YieldAt Fence.wide n P l (encs x) A fun e B => e = .returned (.bool true) ∧ J (pre ++ [x]) B) →
    J [] W → CallsIn Fence.wide (n + 1) P gf (#[.func (.yield l) #[] #[]] ++ lb) W fun e B => (∃ v, e = .returned v) ∧ J xs B

/-- How the body of a round is left: at its end. -/
def goesOn (I : World → Prop) (d : Nat) (W : World) : Exit → Act → World → Prop
  | .normal, _, W' => W'.heap[d]? = W.heap[d]? ∧ W'.heap[d + 1]? = W.heap[d + 1]? ∧ I W'
  | _, _, _ => False

theorem wp_range_all {α : Type} {P : Program} {g : Operand} {ps : Array Tmp} {assign body : Code} {Q : Exit → Act → World → Prop} {a : Act} {w : World} {n : Nat}
    {gf : Nat} {lb : Array Value} (hg : a.eval g = .func (.func gf) #[] lb) (eg : ∀ args w, (callFunc gf args).run P w = .ok (.enter gf args) w)
    {encs : α → Array Value} {xs : List α} {N : World → Prop} (hit : Yields P gf lb encs xs N) (hps : ∀ x, (encs x).size = ps.size)
    (I : List α → World → Prop) (hIn : ∀ s A B, I s A → Below A.heap.size A B → I s B)
    (hIp : ∀ s A k o o', I s A → A.heap[k]? = some o → o.isCells = false → (k = w.heap.size ∨ k = w.heap.size + 1) → I s (A.putObj k o'))
    (hIb : ∀ s A, I s A → N A) (h0 : I [] w) (a₁ : α → Act)
    (hassign : ∀ (l : Nat) (x : α) (W : World) (K : Act → World → Prop), K (a₁ x) W →
      assign.wpIn (Fence.wide.inRound l) n P (Exit.then K (fun _ _ _ => False)) { tmps := (ps.zip (encs x)).foldl (fun t (p, v) => t.setIfInBounds p v) a.tmps, defers := [] } W)
    (hbody : ∀ (l : Nat) (pre : List α) (x : α) (rest : List α) (W : World), xs = pre ++ x :: rest → I pre W → (∃ ds, W.heap[w.heap.size]? = some (.deferred ds)) → (∃ r, W.heap[w.heap.size + 1]? = some (.loop r)) →
      body.wpIn (Fence.wide.inRound l) n P (goesOn (I (pre ++ [x])) w.heap.size W) (a₁ x) W)
    (hdone : ∀ (W : World), I xs W → W.heap[w.heap.size]? = some (.deferred (some [])) → Q .normal { a with defers := { target := .collected w.heap.size, args := #[] } :: a.defers } W) :
    (Code.rangeFunc g ps assign body).wpIn Fence.wide (n + 1 + 1) P Q a w := by
  refine wpIn_rangeFunc ?_
  intro fn hfn
  have hro : Fence.wide.round = none := rfl
  rw [hro]
  obtain ⟨rec, hrec⟩ : ∃ rec : LoopState → Option Code → Loop, rec = fun st pe => { state := st, pending := pe, fn, tmps := a.tmps, params := ps, assign, body, defers := w.heap.size } := ⟨_, rfl⟩
  obtain ⟨W1, hW1⟩ : ∃ W1, (w.alloc (.deferred (some []))).alloc (.loop (rec .ready none)) = W1 := ⟨_, rfl⟩
  have hL1 : W1.heap[w.heap.size + 1]? = some (.loop (rec .ready none)) := by
    rw [← hW1]; have := World.alloc_heap_new (w.alloc (.deferred (some []))) (.loop (rec .ready none)); rwa [World.size_alloc] at this
  have hK1 : W1.heap[w.heap.size]? = some (.deferred (some [])) := by
    rw [← hW1]; exact (Below.heap_alloc _ _ _ (by simp)).trans (World.alloc_heap_new w _)
  have hI1 : I [] W1 := by
    rw [← hW1]; exact hIn _ _ _ h0 (((Below.refl _ w).alloc (Nat.le_refl _) _).alloc (by simp) _)
  refine ⟨w.heap.size + 1, [{ target := .collected w.heap.size, args := #[] }], W1, { target := .fn (.func gf) lb, args := #[.func (.yield (w.heap.size + 1)) #[] #[]] }, W1, gf,
    #[.func (.yield (w.heap.size + 1)) #[] #[]] ++ lb, W1, ?_, ?_, ?_, ?_, fun h => by simp [Fence.wide] at h, ?_⟩
  · rw [← hW1, hrec]; exact run_enterLoop_outer _ _ _ _ _
  · simp only [resolve, hg]
    simp [go_sem]
  · intro f' _; trivial
  · simp [invoke, go_sem, eg]
  · refine (hit n (w.heap.size + 1)
      (fun pre W => I pre W ∧ W.heap[w.heap.size + 1]? = some (.loop (rec .ready none)) ∧ W.heap[w.heap.size]? = some (.deferred (some [])))
      W1 (fun s A B hs hb => ⟨hIn s A B hs.1 hb, (hb.block _ (Array.getElem?_eq_some_iff.1 hs.2.1).1).trans hs.2.1, (hb.block _ (Array.getElem?_eq_some_iff.1 hs.2.2).1).trans hs.2.2⟩)
      (fun s A hs => hIb s A hs.1) ?_ ⟨hI1, hL1, hK1⟩).mono ?_
    · -- one round
      rintro pre x rest W hx ⟨hi, hl, hk⟩
      have hlt : w.heap.size + 1 < W.heap.size := (Array.getElem?_eq_some_iff.1 hl).1
      have hy := run_yield (P := P) (args := encs x) hl (by rw [hrec]; exact hps x)
      rw [hrec] at hy
      refine ⟨fn, _, assign, body, hy, roundIn_of_wpIn trivial (hassign _ x W _ ⟨_, run_beginRound hl (by rw [hrec]), ?_⟩)⟩
      have hl2 : (W.putObj (w.heap.size + 1) (.loop { rec .ready none with state := .busy })).heap[w.heap.size + 1]? = some (.loop { rec .ready none with state := .busy }) := World.putObj_heap_same hlt
      have hk2 : (W.putObj (w.heap.size + 1) (.loop { rec .ready none with state := .busy })).heap[w.heap.size]? = some (.deferred (some [])) := (World.putObj_heap_other (by omega)).trans hk
      refine wpIn_mono (hbody _ pre x rest _ hx (hIp _ _ _ _ _ hi hl rfl (.inr rfl)) ⟨_, hk2⟩ ⟨_, hl2⟩) ?_
      rintro e a3 W3 hp
      cases e with
      | normal =>
        obtain ⟨h1, h2, hi3⟩ := hp
        have hl3 := h2.trans hl2
        have hk3 := h1.trans hk2
        have hr := run_endRound (P := P) none hl3
        rw [hrec] at hr
        refine ⟨_, _, hr, rfl, hIp _ _ _ _ _ hi3 hl3 rfl (.inr rfl), ?_, ?_⟩
        · rw [World.putObj_heap_same (Array.getElem?_eq_some_iff.1 hl3).1, hrec]; rfl
        · exact (World.putObj_heap_other (by omega)).trans hk3
      | ret => exact hp.elim
      | exit id => exact hp.elim
      | goto t => exact hp.elim
      | panic ch => exact hp.elim
      | outgrown => exact hp.elim
    · -- behind the iterator
      rintro e W2 ⟨⟨v, rfl⟩, hi, hl, hk⟩
      exact ⟨none, _, by have := run_endLoop (P := P) hl (by rw [hrec]; simp); rw [hrec] at this; exact this, hdone _ (hIp _ _ _ _ _ hi hl rfl (.inr rfl)) ((World.putObj_heap_other (by omega)).trans hk)⟩

end Go.Proofs.YtjjbbnodmpemiaaGreatDoor
