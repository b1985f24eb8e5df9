/- Parts, joined: Sums of bytes, bit by bit and four bits at once. Plain. No condition. Data of any make and how they lie in memory: leaves, structs, rows. Plain. No condition. Rows that a call builds by append, of data of any make. Plain. No condition. -/
import Derived.WalkKit
import Derived.Below
import Derived.Test.YtjjbbnodmpemiaaGreatDoorKPull1
/- Sums of bytes, bit by bit and four bits at once. Plain. No condition. -/
namespace Go.Proofs.YtjjbbnodmpemiaaGreatDoor

def poly : Nat := 3988292384
/-- A register, one bit on. -/
def st1 (r : Nat) : Nat := if r % 2 = 1 then (r / 2) ^^^ poly else r / 2
def stN : Nat → Nat → Nat
  | 0, r => r
  | n + 1, r => stN n (st1 r)
/-- The reference's step: a register and a bit. -/
def go1N (r bit : Nat) : Nat := if r % 2 ≠ bit then (r / 2) ^^^ poly else r / 2
def rbN : Nat → Nat → Nat → Nat
  | 0, r, _ => r
  | n + 1, r, c => rbN n (go1N r (c % 2)) (c / 2)

theorem xor_half (a b : Nat) : (a ^^^ b) / 2 = (a / 2) ^^^ (b / 2) := by
  have := Nat.shiftRight_xor_distrib (a := a) (b := b) (i := 1)
  simpa [Nat.shiftRight_succ] using this
theorem xor_odd (a b : Nat) : (a ^^^ b) % 2 = (a % 2 + b % 2) % 2 := by
  have h := Nat.testBit_xor a b 0
  simp only [Nat.testBit_zero] at h
  have ha := Nat.mod_two_eq_zero_or_one a
  have hb := Nat.mod_two_eq_zero_or_one b
  have hc := Nat.mod_two_eq_zero_or_one (a ^^^ b)
  rcases ha with ha | ha <;> rcases hb with hb | hb <;> rcases hc with hc | hc <;> simp [ha, hb, hc] at h ⊢
theorem xor_swap (a b c d : Nat) : (a ^^^ b) ^^^ (c ^^^ d) = (a ^^^ c) ^^^ (b ^^^ d) := by
  rw [Nat.xor_assoc, Nat.xor_assoc, ← Nat.xor_assoc b c d, Nat.xor_comm b c, Nat.xor_assoc]
theorem st1_xor (a b : Nat) : st1 (a ^^^ b) = st1 a ^^^ st1 b := by
  have h := xor_odd a b
  unfold st1
  rw [xor_half]
  by_cases ha : a % 2 = 1 <;> by_cases hb : b % 2 = 1
  · have hc : ¬ (a ^^^ b) % 2 = 1 := by omega
    rw [if_neg hc, if_pos ha, if_pos hb, xor_swap, Nat.xor_self, Nat.xor_zero]
  · have hc : (a ^^^ b) % 2 = 1 := by omega
    rw [if_pos hc, if_pos ha, if_neg hb, Nat.xor_assoc, Nat.xor_comm (b / 2), ← Nat.xor_assoc]
  · have hc : (a ^^^ b) % 2 = 1 := by omega
    rw [if_pos hc, if_neg ha, if_pos hb, Nat.xor_assoc]
  · have hc : ¬ (a ^^^ b) % 2 = 1 := by omega
    rw [if_neg hc, if_neg ha, if_neg hb]
theorem stN_xor : ∀ (n a b : Nat), stN n (a ^^^ b) = stN n a ^^^ stN n b
  | 0, _, _ => rfl
  | n + 1, a, b => by simp only [stN]; rw [st1_xor, stN_xor n]
theorem st1_parts (c : Nat) : st1 c = st1 (c % 2) ^^^ (c / 2) := by
  unfold st1
  have : c % 2 / 2 = 0 := by omega
  rw [Nat.mod_mod, this]
  split
  · rw [Nat.zero_xor, Nat.xor_comm]
  · rw [Nat.zero_xor]
theorem go1N_eq (r bit : Nat) (hb : bit < 2) : go1N r bit = st1 (r ^^^ bit) := by
  rw [st1_xor]
  unfold go1N st1
  have h0 : bit / 2 = 0 := by omega
  rw [h0]
  rcases Nat.lt_or_ge bit 1 with h | h
  · obtain rfl : bit = 0 := by omega
    by_cases hr : r % 2 = 1
    · rw [if_pos (by omega), if_pos hr]; simp
    · rw [if_neg (by omega), if_neg hr]; simp
  · obtain rfl : bit = 1 := by omega
    by_cases hr : r % 2 = 1
    · rw [if_neg (by omega), if_pos hr]; simp [Nat.xor_assoc]
    · rw [if_pos (by omega), if_neg hr]; simp
theorem rbN_eq : ∀ (n r c : Nat), c < 2 ^ n → rbN n r c = stN n (r ^^^ c)
  | 0, r, c, h => by
    obtain rfl : c = 0 := by simpa using h
    simp [rbN, stN]
  | n + 1, r, c, h => by
    simp only [rbN, stN]
    rw [rbN_eq n _ _ (by rw [Nat.pow_succ] at h; omega), go1N_eq _ _ (by omega), st1_xor r c, st1_parts c, st1_xor r (c % 2), Nat.xor_assoc]
theorem stN_shift : ∀ (n x : Nat), stN n (x * 2 ^ n) = x
  | 0, x => by simp [stN]
  | n + 1, x => by
    have h : x * 2 ^ (n + 1) = 2 * (x * 2 ^ n) := by rw [Nat.pow_succ, ← Nat.mul_assoc, Nat.mul_comm]
    have h2 : st1 (2 * (x * 2 ^ n)) = x * 2 ^ n := by
      unfold st1
      rw [if_neg (by omega)]
      omega
    simp only [stN]
    rw [h, h2, stN_shift n x]
theorem xor_low (r : Nat) : r = (r / 16 * 2 ^ 4) ^^^ (r % 16) := by
  apply Nat.eq_of_testBit_eq
  intro i
  rw [Nat.testBit_xor, show r / 16 * 2 ^ 4 = (r / 16) <<< 4 from (Nat.shiftLeft_eq _ _).symm, Nat.testBit_shiftLeft, show r % 16 = r % 2 ^ 4 from rfl, Nat.testBit_mod_two_pow]
  by_cases hi : i < 4
  · simp [hi, show ¬ i ≥ 4 from by omega]
  · have : (r / 16).testBit (i - 4) = r.testBit i := by
      rw [show r / 16 = r >>> 4 from (Nat.shiftRight_eq_div_pow r 4).symm, Nat.testBit_shiftRight]
      congr 1; omega
    simp [hi, show i ≥ 4 from by omega, this]
/-- Four bits at once. -/
def nib (r : Nat) : Nat := (r / 16) ^^^ stN 4 (r % 16)
theorem nib_eq (r : Nat) : nib r = stN 4 r := by
  unfold nib
  conv => rhs; rw [xor_low r]
  rw [stN_xor, stN_shift]
theorem stN_add : ∀ (m n r : Nat), stN (m + n) r = stN n (stN m r)
  | 0, n, r => by simp [stN]
  | m + 1, n, r => by rw [show m + 1 + n = (m + n) + 1 from by omega]; simp only [stN]; exact stN_add m n _
theorem nib_nib (r : Nat) : nib (nib r) = stN 8 r := by rw [nib_eq, nib_eq, ← stN_add]
theorem st1_lt {r : Nat} (h : r < 4294967296) : st1 r < 4294967296 := by
  unfold st1
  split
  · exact Nat.xor_lt_two_pow (n := 32) (by omega) (by unfold poly; omega)
  · omega
theorem stN_lt : ∀ (n : Nat) {r : Nat}, r < 4294967296 → stN n r < 4294967296
  | 0, _, h => h
  | n + 1, _, h => stN_lt n (st1_lt h)
/-- A register, eight bits on. -/
@[irreducible] def st8 (r : Nat) : Nat := stN 8 r
theorem st8_eq (r : Nat) : st8 r = stN 8 r := by unfold st8; rfl
/-- The register behind some bytes. -/
def crcGo (r : Nat) (l : List UInt8) : Nat := l.foldl (fun a x => st8 (a ^^^ x.toNat)) r
def crcMore (s : Nat) (l : List UInt8) : Nat := 4294967295 - crcGo (4294967295 - s) l
theorem crcStep_lt {r : Nat} (x : UInt8) (h : r < 4294967296) : st8 (r ^^^ x.toNat) < 4294967296 := by
  have hx : x.toNat < 4294967296 := by have := x.toNat_lt; omega
  rw [st8_eq]
  exact stN_lt 8 (Nat.xor_lt_two_pow (n := 32) h hx)
theorem crcGo_cons (r : Nat) (x : UInt8) (t : List UInt8) : crcGo r (x :: t) = crcGo (st8 (r ^^^ x.toNat)) t := List.foldl_cons ..
theorem crcGo_lt (l : List UInt8) : ∀ {r : Nat}, r < 4294967296 → crcGo r l < 4294967296 := by
  induction l with
  | nil => intro r h; exact h
  | cons x t ih =>
    intro r h
    rw [crcGo_cons]
    exact ih (crcStep_lt x h)
theorem crcGo_snoc (l : List UInt8) (r : Nat) (x : UInt8) : crcGo r (l ++ [x]) = st8 (crcGo r l ^^^ x.toNat) := by
  unfold crcGo
  rw [List.foldl_append]; rfl
theorem crcMore_lt (s : Nat) (l : List UInt8) : crcMore s l < 4294967296 := by unfold crcMore; omega
/-- The four bytes of a sum, the lowest first. -/
def sumBytes (s : Nat) : List UInt8 := [UInt8.ofNat (s % 256), UInt8.ofNat (s / 256 % 256), UInt8.ofNat (s / 65536 % 256), UInt8.ofNat (s / 16777216 % 256)]
/-- Sealed bytes. -/
def sealL (l : List UInt8) : List UInt8 := l ++ sumBytes (crcMore 0 l)
end Go.Proofs.YtjjbbnodmpemiaaGreatDoor

/- Data of any make and how they lie in memory: leaves, structs, rows. Plain. No condition. -/
namespace Go.Proofs.YtjjbbnodmpemiaaGreatDoor
open Go.RowKit

/-- A datum: a cell; parts one behind the other; a slice of elements of s cells each. -/
inductive D where
  | leaf (v : Value)
  | agg (l : List D)
  | row (s : Nat) (l : List D)

mutual
/-- Of how many cells a datum is. -/
def D.cells : D → Nat
  | .leaf _ => 1
  | .agg l => cellsA l
  | .row _ _ => 1
def cellsA : List D → Nat
  | [] => 0
  | d :: r => d.cells + cellsA r
end

mutual
/-- These cells hold this datum; all that it leads to lies below block B. -/
def Holds (w : World) (B : Nat) : D → List Value → Prop
  | .leaf v, cs => cs = [v] ∧ v.oneCell' = true
  | .agg l, cs => HoldsA w B l cs
  | .row s l, cs => ∃ a c, cs = [.slice a l.length c] ∧ (∀ d ∈ l, d.cells = s) ∧ ∃ ns, HoldsA w B l ns ∧ (l = [] ∨ ∃ g off, a = some ⟨g, off, none⟩ ∧ g < B ∧ ∀ j u, ns[j]? = some u → w.cell? ⟨g, off + j, none⟩ = some u)
def HoldsA (w : World) (B : Nat) : List D → List Value → Prop
  | [], cs => cs = []
  | d :: r, cs => ∃ c1 c2, cs = c1 ++ c2 ∧ Holds w B d c1 ∧ HoldsA w B r c2
end

/-- To prove something of all data: of each, given that it holds of its parts. -/
theorem D.ind {p : D → Prop} (h0 : ∀ v, p (.leaf v)) (h1 : ∀ l, (∀ d ∈ l, p d) → p (.agg l)) (h2 : ∀ s l, (∀ d ∈ l, p d) → p (.row s l)) : ∀ d, p d := by
  intro d
  refine D.rec (motive_1 := p) (motive_2 := fun l => ∀ d ∈ l, p d) h0 h1 h2 ?_ ?_ d
  · intro d hd
    cases hd
  · intro d r hd hr x hx
    rcases List.mem_cons.1 hx with rfl | hx
    · exact hd
    · exact hr x hx

theorem HoldsA.len_of {w : World} {B : Nat} : ∀ {l : List D}, (∀ d ∈ l, ∀ cs, Holds w B d cs → cs.length = d.cells ∧ ∀ u ∈ cs, u.oneCell' = true) → ∀ {cs}, HoldsA w B l cs → cs.length = cellsA l ∧ ∀ u ∈ cs, u.oneCell' = true
  | [], _, cs, h => by
    have : cs = [] := h
    subst this
    exact ⟨rfl, fun u hu => by cases hu⟩
  | d :: r, ih, cs, h => by
    obtain ⟨c1, c2, rfl, h1, h2⟩ := h
    obtain ⟨a1, a2⟩ := ih d (by simp) c1 h1
    obtain ⟨b1, b2⟩ := HoldsA.len_of (fun x hx => ih x (by simp [hx])) h2
    refine ⟨by simp only [List.length_append, cellsA, a1, b1], fun u hu => ?_⟩
    rcases List.mem_append.1 hu with hu | hu
    · exact a2 u hu
    · exact b2 u hu
theorem Holds.len {w : World} {B : Nat} : ∀ {d : D} {cs}, Holds w B d cs → cs.length = d.cells ∧ ∀ u ∈ cs, u.oneCell' = true := by
  intro d
  refine D.ind (p := fun d => ∀ {cs}, Holds w B d cs → cs.length = d.cells ∧ ∀ u ∈ cs, u.oneCell' = true) ?_ ?_ ?_ d
  · intro v cs h
    obtain ⟨rfl, hv⟩ := h
    exact ⟨rfl, fun u hu => by simp at hu; rw [hu]; exact hv⟩
  · intro l ih cs h
    exact HoldsA.len_of (fun d hd _ => ih d hd) h
  · intro s l _ cs h
    obtain ⟨a, c, rfl, _⟩ := h
    exact ⟨rfl, fun u hu => by simp at hu; rw [hu]; rfl⟩
theorem HoldsA.len {w : World} {B : Nat} {l : List D} {cs : List Value} (h : HoldsA w B l cs) : cs.length = cellsA l ∧ ∀ u ∈ cs, u.oneCell' = true := HoldsA.len_of (fun _ _ _ hd => hd.len) h
theorem cellsA_all {s : Nat} : ∀ {l : List D}, (∀ d ∈ l, d.cells = s) → cellsA l = l.length * s
  | [], _ => by simp [cellsA]
  | d :: r, h => by
    have h1 := h d (by simp)
    have h2 := cellsA_all (l := r) (fun x hx => h x (by simp [hx]))
    simp only [cellsA, List.length_cons, Nat.add_mul, Nat.one_mul]
    omega

theorem HoldsA.imp {w w' : World} {B B' : Nat} : ∀ {l : List D}, (∀ d ∈ l, ∀ cs, Holds w B d cs → Holds w' B' d cs) → ∀ {cs}, HoldsA w B l cs → HoldsA w' B' l cs
  | [], _, _, h => h
  | d :: r, ih, cs, h => by
    obtain ⟨c1, c2, e, h1, h2⟩ := h
    exact ⟨c1, c2, e, ih d (by simp) c1 h1, HoldsA.imp (fun x hx => ih x (by simp [hx])) h2⟩
theorem Holds.imp {w w' : World} {B B' : Nat} (hB : B ≤ B') (hk : ∀ p : Addr, p.block < B → w'.cell? p = w.cell? p) : ∀ {d : D} {cs}, Holds w B d cs → Holds w' B' d cs := by
  intro d
  refine D.ind (p := fun d => ∀ {cs}, Holds w B d cs → Holds w' B' d cs) ?_ ?_ ?_ d
  · intro v cs h
    exact h
  · intro l ih cs h
    exact HoldsA.imp (fun d hd _ => ih d hd) h
  · intro s l ih cs h
    obtain ⟨a, c, e, hs, ns, h1, h2⟩ := h
    refine ⟨a, c, e, hs, ns, HoldsA.imp (fun d hd _ => ih d hd) h1, ?_⟩
    rcases h2 with h2 | ⟨g, off, ea, hg, hcell⟩
    · exact .inl h2
    · exact .inr ⟨g, off, ea, by omega, fun j u hu => (hk _ hg).trans (hcell j u hu)⟩
theorem Holds.keep {w w' : World} {B : Nat} {d : D} {cs : List Value} (h : Holds w B d cs) (hk : ∀ p : Addr, p.block < B → w'.cell? p = w.cell? p) : Holds w' B d cs := h.imp (Nat.le_refl _) hk
theorem Holds.below {w w' : World} {B : Nat} {d : D} {cs : List Value} (h : Holds w B d cs) (hb : Below B w w') : Holds w' B d cs := h.keep fun _ hp => hb.cell hp
theorem Holds.more {w : World} {B B' : Nat} {d : D} {cs : List Value} (h : Holds w B d cs) (hB : B ≤ B') : Holds w B' d cs := h.imp hB fun _ _ => rfl
theorem HoldsA.keep {w w' : World} {B : Nat} {l : List D} {cs : List Value} (h : HoldsA w B l cs) (hk : ∀ p : Addr, p.block < B → w'.cell? p = w.cell? p) : HoldsA w' B l cs := HoldsA.imp (fun _ _ _ hd => hd.keep hk) h
theorem HoldsA.below {w w' : World} {B : Nat} {l : List D} {cs : List Value} (h : HoldsA w B l cs) (hb : Below B w w') : HoldsA w' B l cs := h.keep fun _ hp => hb.cell hp
theorem HoldsA.more {w : World} {B B' : Nat} {l : List D} {cs : List Value} (h : HoldsA w B l cs) (hB : B ≤ B') : HoldsA w B' l cs := HoldsA.imp (fun _ _ _ hd => hd.more hB) h
/-- The old world's data in a later world, all that lies there. -/
theorem Holds.later {w w' : World} {d : D} {cs : List Value} (h : Holds w w.heap.size d cs) (hb : Below w.heap.size w w') : Holds w' w'.heap.size d cs := (h.below hb).more hb.size
theorem HoldsA.later {w w' : World} {l : List D} {cs : List Value} (h : HoldsA w w.heap.size l cs) (hb : Below w.heap.size w w') : HoldsA w' w'.heap.size l cs := (h.below hb).more hb.size

theorem HoldsA.app {w : World} {B : Nat} : ∀ {a b : List D} {ns ms : List Value}, HoldsA w B a ns → HoldsA w B b ms → HoldsA w B (a ++ b) (ns ++ ms)
  | [], b, ns, ms, h, h' => by
    have : ns = [] := h
    subst this
    exact h'
  | d :: r, b, ns, ms, h, h' => by
    obtain ⟨c1, c2, rfl, h1, h2⟩ := h
    exact ⟨c1, c2 ++ ms, by simp, h1, HoldsA.app h2 h'⟩
theorem HoldsA.one {w : World} {B : Nat} {d : D} {cs : List Value} (h : Holds w B d cs) : HoldsA w B [d] cs := ⟨cs, [], by simp, h, rfl⟩
theorem HoldsA.snoc {w : World} {B : Nat} {l : List D} {d : D} {ns cs : List Value} (h : HoldsA w B l ns) (hd : Holds w B d cs) : HoldsA w B (l ++ [d]) (ns ++ cs) := h.app (HoldsA.one hd)
theorem HoldsA.split {w : World} {B s : Nat} : ∀ {l : List D} {ns : List Value} (k : Nat), (∀ d ∈ l, d.cells = s) → HoldsA w B l ns → HoldsA w B (l.take k) (ns.take (k * s)) ∧ HoldsA w B (l.drop k) (ns.drop (k * s))
  | [], ns, k, _, h => by
    have : ns = [] := h
    subst this
    simp [HoldsA]
  | d :: r, ns, 0, _, h => by
    simp only [List.take_zero, Nat.zero_mul, List.drop_zero]
    exact ⟨rfl, h⟩
  | d :: r, ns, k + 1, hs, h => by
    obtain ⟨c1, c2, rfl, h1, h2⟩ := h
    obtain ⟨a, b⟩ := HoldsA.split k (fun x hx => hs x (by simp [hx])) h2
    have hl : c1.length = s := h1.len.1.trans (hs d (by simp))
    have e1 : (c1 ++ c2).take ((k + 1) * s) = c1 ++ c2.take (k * s) := by
      rw [List.take_append, List.take_of_length_le (by rw [hl, Nat.add_mul]; omega), hl, Nat.add_mul, Nat.one_mul, Nat.add_sub_cancel]
    have e2 : (c1 ++ c2).drop ((k + 1) * s) = c2.drop (k * s) := by
      rw [List.drop_append, List.drop_eq_nil_of_le (by rw [hl, Nat.add_mul]; omega), hl, Nat.add_mul, Nat.one_mul, Nat.add_sub_cancel, List.nil_append]
    rw [e1, e2]
    exact ⟨⟨c1, c2.take (k * s), rfl, h1, a⟩, b⟩
theorem HoldsA.at_ {w : World} {B s : Nat} {l : List D} {ns : List Value} (hs : ∀ d ∈ l, d.cells = s) (h : HoldsA w B l ns) {i : Nat} {d : D} (hi : l[i]? = some d) :
    ∃ cs, Holds w B d cs ∧ cs.length = s ∧ ∀ j u, cs[j]? = some u → ns[i * s + j]? = some u := by
  obtain ⟨_, h2⟩ := HoldsA.split i hs h
  obtain ⟨hlt, rfl⟩ := List.getElem?_eq_some_iff.1 hi
  rw [List.drop_eq_getElem_cons hlt] at h2
  obtain ⟨c1, c2, e, h3, _⟩ := h2
  have hl : c1.length = s := h3.len.1.trans (hs _ (List.getElem_mem hlt))
  refine ⟨c1, h3, hl, fun j u hu => ?_⟩
  have h5 := (List.getElem?_eq_some_iff.1 hu).1
  have h4 : (ns.drop (i * s))[j]? = some u := by
    rw [e, List.getElem?_append_left h5]; exact hu
  rwa [List.getElem?_drop] at h4

/-- The i-th element of a slice. -/
theorem Holds.at_ {w : World} {B s : Nat} {l : List D} {a : Option Addr} {n c : Nat} (h : Holds w B (.row s l) [.slice a n c]) {i : Nat} {d : D} (hi : l[i]? = some d) :
    ∃ g off, a = some ⟨g, off, none⟩ ∧ g < B ∧ ∃ cs, Holds w B d cs ∧ cs.length = s ∧ ∀ j u, cs[j]? = some u → w.cell? ⟨g, off + i * s + j, none⟩ = some u := by
  obtain ⟨a', c', e, hs, ns, h1, h2⟩ := h
  simp only [List.cons.injEq, Value.slice.injEq, and_true] at e
  obtain ⟨rfl, rfl, rfl⟩ := e
  rcases h2 with rfl | ⟨g, off, ea, hg, hcell⟩
  · simp at hi
  · obtain ⟨cs, h3, h4, h5⟩ := h1.at_ hs hi
    exact ⟨g, off, ea, hg, cs, h3, h4, fun j u hu => by rw [Nat.add_assoc]; exact hcell _ u (h5 j u hu)⟩
theorem Holds.row_len {w : World} {B s : Nat} {l : List D} {a : Option Addr} {n c : Nat} (h : Holds w B (.row s l) [.slice a n c]) : n = l.length := by
  obtain ⟨a', c', e, _⟩ := h
  simp only [List.cons.injEq, Value.slice.injEq, and_true] at e
  obtain ⟨rfl, rfl, rfl⟩ := e
  exact rfl

/-- These cells hold this datum in every world that agrees with w' on the blocks from b on. -/
def Fresh (b : Nat) (w' : World) (d : D) (cs : List Value) : Prop :=
  ∀ w'' : World, w'.heap.size ≤ w''.heap.size → (∀ p : Addr, b ≤ p.block → p.block < w'.heap.size → w''.cell? p = w'.cell? p) → Holds w'' w'.heap.size d cs
def FreshA (b : Nat) (w' : World) (l : List D) (cs : List Value) : Prop :=
  ∀ w'' : World, w'.heap.size ≤ w''.heap.size → (∀ p : Addr, b ≤ p.block → p.block < w'.heap.size → w''.cell? p = w'.cell? p) → HoldsA w'' w'.heap.size l cs
theorem Fresh.now {b : Nat} {w' : World} {d : D} {cs : List Value} (h : Fresh b w' d cs) : Holds w' w'.heap.size d cs := h w' (Nat.le_refl _) fun _ _ _ => rfl
theorem FreshA.now {b : Nat} {w' : World} {l : List D} {cs : List Value} (h : FreshA b w' l cs) : HoldsA w' w'.heap.size l cs := h w' (Nat.le_refl _) fun _ _ _ => rfl
theorem FreshA.nil (b : Nat) (w' : World) : FreshA b w' [] [] := fun _ _ _ => rfl
theorem FreshA.keep {b : Nat} {wr w' : World} {l : List D} {ns : List Value} (h : FreshA b wr l ns) (hs : wr.heap.size ≤ w'.heap.size) (hk : ∀ p : Addr, b ≤ p.block → p.block < wr.heap.size → w'.cell? p = wr.cell? p) : FreshA b w' l ns :=
  fun w'' h1 h2 => HoldsA.more (h w'' (Nat.le_trans hs h1) (fun p p1 p2 => (h2 p p1 (Nat.lt_of_lt_of_le p2 hs)).trans (hk p p1 p2))) hs
theorem Fresh.keep {b b' : Nat} {wr w' : World} {d : D} {ns : List Value} (h : Fresh b wr d ns) (hb : b' ≤ b) (hs : wr.heap.size ≤ w'.heap.size) (hk : ∀ p : Addr, b ≤ p.block → p.block < wr.heap.size → w'.cell? p = wr.cell? p) : Fresh b' w' d ns :=
  fun w'' h1 h2 => Holds.more (h w'' (Nat.le_trans hs h1) (fun p p1 p2 => (h2 p (Nat.le_trans hb p1) (Nat.lt_of_lt_of_le p2 hs)).trans (hk p p1 p2))) hs
theorem Fresh.later {b : Nat} {w w' : World} {d : D} {ns : List Value} (h : Fresh b w d ns) (hb : Below w.heap.size w w') : Fresh b w' d ns := h.keep (Nat.le_refl _) hb.size fun _ _ p2 => hb.cell p2
theorem FreshA.later {b : Nat} {w w' : World} {l : List D} {ns : List Value} (h : FreshA b w l ns) (hb : Below w.heap.size w w') : FreshA b w' l ns := h.keep hb.size fun _ _ p2 => hb.cell p2
/-- A slice over a fresh row that lies in a block of the call's own. -/
theorem FreshA.row {b s : Nat} {w' : World} {l : List D} {ns : List Value} {a : Option Addr} {c : Nat} (h : FreshA b w' l ns) (hs : ∀ d ∈ l, d.cells = s)
    (ha : l = [] ∨ ∃ g off, a = some ⟨g, off, none⟩ ∧ b ≤ g ∧ g < w'.heap.size ∧ ∀ j u, ns[j]? = some u → w'.cell? ⟨g, off + j, none⟩ = some u) : Fresh b w' (.row s l) [.slice a l.length c] := by
  intro w'' h1 h2
  refine ⟨a, c, rfl, hs, ns, h w'' h1 h2, ?_⟩
  rcases ha with ha | ⟨g, off, e, hbg, hg, hcell⟩
  · exact .inl ha
  · exact .inr ⟨g, off, e, hg, fun j u hu => (h2 _ hbg hg).trans (hcell j u hu)⟩
end Go.Proofs.YtjjbbnodmpemiaaGreatDoor

/- Rows that a call builds by append, of data of any make. Plain. No condition. -/
namespace Go.Proofs.YtjjbbnodmpemiaaGreatDoor
open Go Go.RowKit

theorem add_plain' (g off i : Nat) : (⟨g, off, none⟩ : Addr).add i = ⟨g, off + i, none⟩ := Go.WideShapes.add_plain g off i

/-- A slice that came in, as cells. -/
theorem Holds.reads {w : World} {B s : Nat} {l : List D} {a : Option Addr} {n c : Nat} (h : Holds w B (.row s l) [.slice a n c]) : ∃ ns, Reads w B s a n ns ∧ HoldsA w B l ns ∧ ∀ u ∈ ns, u.oneCell' = true := by
  have hn := h.row_len
  obtain ⟨a', c', e, hs, ns, h1, h2⟩ := h
  simp only [List.cons.injEq, Value.slice.injEq, and_true] at e
  obtain ⟨rfl, rfl, rfl⟩ := e
  refine ⟨ns, ⟨by rw [h1.len.1, cellsA_all hs], fun h0 => ?_⟩, h1, h1.len.2⟩
  rcases h2 with rfl | ⟨g, off, e, hg, hc⟩
  · simp at h0
  · exact ⟨_, e, hg, fun j u hu => by rw [add_plain']; exact hc j u hu⟩

/-- A row that the call has built so far: block(s) of its own from b on; the data hold in every world that agrees on the blocks from b on, but for the row's own. -/
def RowD (b : Nat) (t : TypeId) (s : Nat) (wr : World) (l : List D) (V : Value) : Prop :=
  ∃ ns, wr.ownsRow b t s V l.length ns ∧ (∀ d ∈ l, d.cells = s) ∧ ∀ w'' : World, wr.heap.size ≤ w''.heap.size →
    (∀ p : Addr, b ≤ p.block → p.block < wr.heap.size → V.ownBlock ≠ some p.block → w''.cell? p = wr.cell? p) → HoldsA w'' wr.heap.size l ns
theorem RowD.nil (b : Nat) (t : TypeId) (s : Nat) (wr : World) : RowD b t s wr [] (.slice none 0 0) := ⟨[], World.ownsRow_nil _ _ _ _, fun d hd => (by cases hd), fun _ _ _ => rfl⟩
theorem RowD.base {b : Nat} {t : TypeId} {s : Nat} {wr : World} {l : List D} {V : Value} (h : RowD b t s wr l V) : ∀ g, V.ownBlock = some g → b ≤ g ∧ g < wr.heap.size := by
  obtain ⟨ns, h1, _⟩ := h
  exact h1.lt
/-- The world has grown and nothing of the row's was written. -/
theorem RowD.keep {b : Nat} {t : TypeId} {s : Nat} {wr w' : World} {l : List D} {V : Value} (h : RowD b t s wr l V) (hs : wr.heap.size ≤ w'.heap.size) (hk : ∀ i, b ≤ i → i < wr.heap.size → w'.heap[i]? = wr.heap[i]?) : RowD b t s w' l V := by
  obtain ⟨ns, h1, h2, h3⟩ := h
  refine ⟨ns, ⟨h1.1, ?_⟩, h2, fun w'' k1 k2 => HoldsA.more (h3 w'' (by omega) (fun p p1 p2 p3 => (k2 p p1 (by omega) p3).trans (World.cell?_of_block (hk p.block p1 p2)))) hs⟩
  rcases h1.2 with ⟨rfl, h0⟩ | ⟨g, cap, cur, rfl, hbg, hg, h5⟩
  · exact .inl ⟨rfl, h0⟩
  · exact .inr ⟨g, cap, cur, rfl, hbg, (hk g hbg (Array.getElem?_eq_some_iff.1 hg).1).trans hg, h5⟩
theorem RowD.below {b : Nat} {t : TypeId} {s : Nat} {wr w' : World} {l : List D} {V : Value} (h : RowD b t s wr l V) (hb : Below wr.heap.size wr w') : RowD b t s w' l V := h.keep hb.size fun i _ hi => hb.block i hi
/-- One more: made behind wr (fresh from wr on), taken in by an append. -/
theorem RowD.step {b : Nat} {t : TypeId} {s : Nat} {wr w4 w6 : World} {l : List D} {V V' : Value} {d : D} {cs ns : List Value} (hbw : b ≤ wr.heap.size)
    (hns : ∀ w'' : World, wr.heap.size ≤ w''.heap.size → (∀ p : Addr, b ≤ p.block → p.block < wr.heap.size → V.ownBlock ≠ some p.block → w''.cell? p = wr.cell? p) → HoldsA w'' wr.heap.size l ns)
    (hall : ∀ d ∈ l, d.cells = s) (hd : d.cells = s) (hx : Fresh wr.heap.size w4 d cs) (hlt : ∀ g, V.ownBlock = some g → g < wr.heap.size)
    (hown : w6.ownsRow b t s V' (l.length + 1) (ns ++ cs)) (hV : V'.ownBlock = V.ownBlock ∨ ∃ N, V'.ownBlock = some N ∧ w4.heap.size ≤ N)
    (hs4 : wr.heap.size ≤ w4.heap.size) (hs6 : w4.heap.size ≤ w6.heap.size) (h4 : ∀ p : Addr, b ≤ p.block → p.block < wr.heap.size → w4.cell? p = wr.cell? p)
    (h6 : ∀ p : Addr, b ≤ p.block → p.block < w4.heap.size → V.ownBlock ≠ some p.block → w6.cell? p = w4.cell? p) : RowD b t s w6 (l ++ [d]) V' := by
  refine ⟨ns ++ cs, by rw [List.length_append]; exact hown, ?_, fun w'' hsz hag => ?_⟩
  · intro x hx'
    rcases List.mem_append.1 hx' with hx' | hx'
    · exact hall x hx'
    · simp only [List.mem_cons, List.not_mem_nil, or_false] at hx'
      rw [hx']; exact hd
  · have hnew : ∀ p : Addr, p.block < w4.heap.size → V.ownBlock ≠ some p.block → V'.ownBlock ≠ some p.block := by
      intro p p2 p3
      rcases hV with e | ⟨N, e, hN⟩
      · rw [e]; exact p3
      · rw [e]; intro e2; have := Option.some.inj e2; omega
    have a1 : HoldsA w'' w6.heap.size l ns := HoldsA.more (hns w'' (by omega) (fun p p1 p2 p3 => by
      rw [hag p p1 (by omega) (hnew p (by omega) p3), h6 p p1 (by omega) p3, h4 p p1 p2])) (by omega)
    have a2 : Holds w'' w6.heap.size d cs := Holds.more (hx w'' (by omega) (fun p p1 p2 => by
      have p3 : V.ownBlock ≠ some p.block := fun e => by have := hlt _ e; omega
      rw [hag p (by omega) (by omega) (hnew p p2 p3), h6 p (by omega) p2 p3])) hs6
    exact a1.snoc a2
/-- The row, done. -/
theorem RowD.close {b : Nat} {t : TypeId} {s : Nat} {wr : World} {l : List D} {V : Value} (h : RowD b t s wr l V) :
    ∃ a c, V = .slice a l.length c ∧ l.length ≤ c ∧ Fresh b wr (.row s l) [.slice a l.length c] ∧ ((l = [] ∧ a = none ∧ c = 0) ∨ ∃ g, a = some ⟨g, 0, none⟩ ∧ b ≤ g ∧ g < wr.heap.size) := by
  obtain ⟨ns, h1, h2, h3⟩ := h
  have h1' := h1
  rcases h1.2 with ⟨rfl, h0⟩ | ⟨g, cap, cur, rfl, hbg, hg, hnc, _⟩
  · have hl : l = [] := List.eq_nil_of_length_eq_zero h0
    subst hl
    exact ⟨none, 0, rfl, Nat.le_refl _, fun _ _ _ => ⟨none, 0, rfl, h2, [], rfl, .inl rfl⟩, .inl ⟨rfl, rfl, rfl⟩⟩
  · have hgl := (Array.getElem?_eq_some_iff.1 hg).1
    refine ⟨_, cap, rfl, hnc, fun w'' k1 k2 => ⟨_, cap, rfl, h2, ns, h3 w'' k1 (fun p p1 p2 _ => k2 p p1 p2), .inr ⟨g, 0, rfl, hgl, fun j u hu => ?_⟩⟩, .inr ⟨g, rfl, hbg, hgl⟩⟩
    have h5 := h1'.cells (g := g) rfl j u hu
    rw [add_plain'] at h5
    exact (k2 _ hbg hgl).trans h5
end Go.Proofs.YtjjbbnodmpemiaaGreatDoor
