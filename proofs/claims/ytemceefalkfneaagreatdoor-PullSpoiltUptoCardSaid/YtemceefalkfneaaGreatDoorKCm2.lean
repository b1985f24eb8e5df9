/- Parts, joined: The data that the walks speak of: values as trees, and how they lie in memory. No condition. Whether a value has anything that its kind does not name: the program's function and the reference's. No condition. commonplaceref01.Bytes: a rune's bytes. Condition: a rune of Unicode, no surrogate. -/
import Derived.WalkKit
import Derived.Below
import Derived.Test.YtemceefalkfneaaGreatDoorProg
import Derived.BigQuiet
import Derived.Deep.QuietTactic
import Derived.WalkLawsBesides
import Derived.WalkSpells
import Derived.Lib.Hide
import Derived.Lib.Strings
import Derived.Lib.RuneBytes
import Derived.IntWalk
import Derived.Laws.IdiomStrings
import Derived.Lib.Builder
/- The data that the walks speak of: values as trees, and how they lie in memory. No condition. -/
namespace Go.Proofs.YtemceefalkfneaaGreatDoor
open Go.RowKit

/-- A value of package api, as data. -/
inductive Val where
  | mk (k : Int) (b : Bool) (n : Int) (t : ByteArray) (l : List Val) (o : List (ByteArray × Val))

/-- The six cells of a value whose slices lie there. -/
abbrev cells6 (k : Int) (b : Bool) (n : Int) (t : ByteArray) (la : Option Addr) (ln lc : Nat) (oa : Option Addr) (on oc : Nat) : List Value :=
  [.int .i64 k, .bool b, .int .i64 n, .string t, .slice la ln lc, .slice oa on oc]

mutual
/-- These six cells hold this value; all that it leads to lies below block B. -/
def HoldsV (w : World) (B : Nat) : Val → List Value → Prop
  | .mk k b n t l o, cs => ∃ la lc oa oc, cs = cells6 k b n t la l.length lc oa o.length oc ∧
      (l = [] ∨ ∃ g off, la = some ⟨g, off, none⟩ ∧ g < B ∧ HoldsL w B l g off) ∧
      (o = [] ∨ ∃ g off, oa = some ⟨g, off, none⟩ ∧ g < B ∧ HoldsO w B o g off)
def HoldsL (w : World) (B : Nat) : List Val → Nat → Nat → Prop
  | [], _, _ => True
  | v :: r, g, off => (∃ cs, HoldsV w B v cs ∧ ∀ j u, cs[j]? = some u → w.cell? ⟨g, off + j, none⟩ = some u) ∧ HoldsL w B r g (off + 6)
def HoldsO (w : World) (B : Nat) : List (ByteArray × Val) → Nat → Nat → Prop
  | [], _, _ => True
  | p :: r, g, off => HoldsP w B p g off ∧ HoldsO w B r g (off + 7)
def HoldsP (w : World) (B : Nat) : ByteArray × Val → Nat → Nat → Prop
  | (key, v), g, off => w.cell? ⟨g, off, none⟩ = some (.string key) ∧ ∃ cs, HoldsV w B v cs ∧ ∀ j u, cs[j]? = some u → w.cell? ⟨g, off + 1 + j, none⟩ = some u
end

mutual
/-- How many values and letters. -/
def Val.bulk : Val → Nat
  | .mk _ _ _ t l o => 6 + t.size + bulkL l + bulkO o
def bulkL : List Val → Nat
  | [] => 0
  | v :: r => v.bulk + bulkL r
def bulkO : List (ByteArray × Val) → Nat
  | [] => 0
  | p :: r => bulkP p + bulkO r
def bulkP : ByteArray × Val → Nat
  | (key, v) => 1 + key.size + v.bulk
end

/-- To prove something of all values: of each, given that it holds of those within. -/
theorem Val.ind {p : Val → Prop} (h : ∀ k b n t l o, (∀ v ∈ l, p v) → (∀ m ∈ o, p m.2) → p (.mk k b n t l o)) : ∀ v, p v := by
  intro v
  refine Val.rec (motive_1 := p) (motive_2 := fun l => ∀ v ∈ l, p v) (motive_3 := fun o => ∀ m ∈ o, p m.2) (motive_4 := fun m => p m.2) ?_ ?_ ?_ ?_ ?_ ?_ v
  · intro k b n t l o hl ho
    exact h k b n t l o hl ho
  · intro v hv
    cases hv
  · intro v r hv hr x hx
    rcases List.mem_cons.1 hx with rfl | hx
    · exact hv
    · exact hr x hx
  · intro m hm
    cases hm
  · intro m r hm hr x hx
    rcases List.mem_cons.1 hx with rfl | hx
    · exact hm
    · exact hr x hx
  · intro k v hv
    exact hv

theorem HoldsL.of_keep {w w' : World} {B : Nat} (hk : ∀ p : Addr, p.block < B → w'.cell? p = w.cell? p) :
    ∀ (l : List Val), (∀ v ∈ l, ∀ cs, HoldsV w B v cs → HoldsV w' B v cs) → ∀ g off, g < B → HoldsL w B l g off → HoldsL w' B l g off
  | [], _, _, _, _, _ => by simp [HoldsL]
  | v :: r, ih, g, off, hg, h => by
    simp only [HoldsL] at h ⊢
    obtain ⟨⟨cs, hv, hc⟩, hr⟩ := h
    exact ⟨⟨cs, ih v (by simp) cs hv, fun j u hu => (hk _ hg).trans (hc j u hu)⟩, HoldsL.of_keep hk r (fun x hx => ih x (by simp [hx])) g _ hg hr⟩
theorem HoldsO.of_keep {w w' : World} {B : Nat} (hk : ∀ p : Addr, p.block < B → w'.cell? p = w.cell? p) :
    ∀ (l : List (ByteArray × Val)), (∀ m ∈ l, ∀ cs, HoldsV w B m.2 cs → HoldsV w' B m.2 cs) → ∀ g off, g < B → HoldsO w B l g off → HoldsO w' B l g off
  | [], _, _, _, _, _ => by simp [HoldsO]
  | (key, v) :: r, ih, g, off, hg, h => by
    simp only [HoldsO, HoldsP] at h ⊢
    obtain ⟨⟨h0, cs, hv, hc⟩, hr⟩ := h
    exact ⟨⟨(hk _ hg).trans h0, cs, ih (key, v) (by simp) cs hv, fun j u hu => (hk _ hg).trans (hc j u hu)⟩, HoldsO.of_keep hk r (fun x hx => ih x (by simp [hx])) g _ hg hr⟩

theorem HoldsV.keep {w w' : World} {B : Nat} (hk : ∀ p : Addr, p.block < B → w'.cell? p = w.cell? p) : ∀ (v : Val) cs, HoldsV w B v cs → HoldsV w' B v cs := by
  refine Val.ind ?_
  intro k b n t l o hl ho cs h
  simp only [HoldsV] at h ⊢
  obtain ⟨la, lc, oa, oc, hcs, h1, h2⟩ := h
  refine ⟨la, lc, oa, oc, hcs, ?_, ?_⟩
  · rcases h1 with h1 | ⟨g, off, ha, hg, h1⟩
    · exact .inl h1
    · exact .inr ⟨g, off, ha, hg, HoldsL.of_keep hk l hl g off hg h1⟩
  · rcases h2 with h2 | ⟨g, off, ha, hg, h2⟩
    · exact .inl h2
    · exact .inr ⟨g, off, ha, hg, HoldsO.of_keep hk o ho g off hg h2⟩
theorem HoldsV.below {w w' : World} {B : Nat} {v : Val} {cs : List Value} (h : HoldsV w B v cs) (hb : Below B w w') : HoldsV w' B v cs := HoldsV.keep (fun _ hp => hb.cell hp) v cs h
theorem HoldsL.keep {w w' : World} {B : Nat} (hk : ∀ p : Addr, p.block < B → w'.cell? p = w.cell? p) {l : List Val} {g off : Nat} (hg : g < B) (h : HoldsL w B l g off) : HoldsL w' B l g off :=
  HoldsL.of_keep hk l (fun v _ => HoldsV.keep hk v) g off hg h
theorem HoldsO.keep {w w' : World} {B : Nat} (hk : ∀ p : Addr, p.block < B → w'.cell? p = w.cell? p) {l : List (ByteArray × Val)} {g off : Nat} (hg : g < B) (h : HoldsO w B l g off) : HoldsO w' B l g off :=
  HoldsO.of_keep hk l (fun m _ => HoldsV.keep hk m.2) g off hg h
theorem HoldsL.below {w w' : World} {B : Nat} {l : List Val} {g off : Nat} (hg : g < B) (h : HoldsL w B l g off) (hb : Below B w w') : HoldsL w' B l g off := HoldsL.keep (fun _ hp => hb.cell hp) hg h
theorem HoldsO.below {w w' : World} {B : Nat} {l : List (ByteArray × Val)} {g off : Nat} (hg : g < B) (h : HoldsO w B l g off) (hb : Below B w w') : HoldsO w' B l g off := HoldsO.keep (fun _ hp => hb.cell hp) hg h

theorem HoldsL.of_more {w : World} {B B' : Nat} : ∀ (l : List Val), (∀ v ∈ l, ∀ cs, HoldsV w B v cs → HoldsV w B' v cs) → ∀ g off, HoldsL w B l g off → HoldsL w B' l g off
  | [], _, _, _, _ => by simp [HoldsL]
  | v :: r, ih, g, off, h => by
    simp only [HoldsL] at h ⊢
    obtain ⟨⟨cs, hv, hc⟩, hr⟩ := h
    exact ⟨⟨cs, ih v (by simp) cs hv, hc⟩, HoldsL.of_more r (fun x hx => ih x (by simp [hx])) g _ hr⟩
theorem HoldsO.of_more {w : World} {B B' : Nat} : ∀ (l : List (ByteArray × Val)), (∀ m ∈ l, ∀ cs, HoldsV w B m.2 cs → HoldsV w B' m.2 cs) → ∀ g off, HoldsO w B l g off → HoldsO w B' l g off
  | [], _, _, _, _ => by simp [HoldsO]
  | (key, v) :: r, ih, g, off, h => by
    simp only [HoldsO, HoldsP] at h ⊢
    obtain ⟨⟨h0, cs, hv, hc⟩, hr⟩ := h
    exact ⟨⟨h0, cs, ih (key, v) (by simp) cs hv, hc⟩, HoldsO.of_more r (fun x hx => ih x (by simp [hx])) g _ hr⟩
theorem HoldsV.more {w : World} {B B' : Nat} (hB : B ≤ B') : ∀ (v : Val) cs, HoldsV w B v cs → HoldsV w B' v cs := by
  refine Val.ind ?_
  intro k b n t l o hl ho cs h
  simp only [HoldsV] at h ⊢
  obtain ⟨la, lc, oa, oc, hcs, h1, h2⟩ := h
  refine ⟨la, lc, oa, oc, hcs, ?_, ?_⟩
  · rcases h1 with h1 | ⟨g, off, ha, hg, h1⟩
    · exact .inl h1
    · exact .inr ⟨g, off, ha, by omega, HoldsL.of_more l hl g off h1⟩
  · rcases h2 with h2 | ⟨g, off, ha, hg, h2⟩
    · exact .inl h2
    · exact .inr ⟨g, off, ha, by omega, HoldsO.of_more o ho g off h2⟩

/-- The k-th value of a list: its cells, one by one. -/
theorem HoldsL.at_ {w : World} {B : Nat} : ∀ {l : List Val} {g off : Nat}, HoldsL w B l g off → ∀ {i : Nat} {v : Val}, l[i]? = some v →
    ∃ cs, HoldsV w B v cs ∧ ∀ j u, cs[j]? = some u → w.cell? ⟨g, off + i * 6 + j, none⟩ = some u
  | [], _, _, _, i, v, hi => by simp at hi
  | x :: r, g, off, h, 0, v, hi => by
    simp only [HoldsL] at h
    obtain ⟨h, _⟩ := h
    simp at hi
    subst hi
    simpa using h
  | x :: r, g, off, h, i + 1, v, hi => by
    simp only [HoldsL] at h
    obtain ⟨cs, hv, hc⟩ := HoldsL.at_ h.2 (i := i) (v := v) (by simpa using hi)
    exact ⟨cs, hv, fun j u hu => by rw [show off + (i + 1) * 6 + j = off + 6 + i * 6 + j from by omega]; exact hc j u hu⟩
theorem HoldsO.at_ {w : World} {B : Nat} : ∀ {l : List (ByteArray × Val)} {g off : Nat}, HoldsO w B l g off → ∀ {i : Nat} {m : ByteArray × Val}, l[i]? = some m →
    w.cell? ⟨g, off + i * 7, none⟩ = some (.string m.1) ∧ ∃ cs, HoldsV w B m.2 cs ∧ ∀ j u, cs[j]? = some u → w.cell? ⟨g, off + i * 7 + 1 + j, none⟩ = some u
  | [], _, _, _, i, v, hi => by simp at hi
  | x :: r, g, off, h, 0, v, hi => by
    simp only [HoldsO] at h
    obtain ⟨h, _⟩ := h
    simp at hi
    subst hi
    obtain ⟨key, v⟩ := x
    simpa only [HoldsP, Nat.zero_mul, Nat.add_zero] using h
  | x :: r, g, off, h, i + 1, m, hi => by
    simp only [HoldsO] at h
    obtain ⟨h0, cs, hv, hc⟩ := HoldsO.at_ h.2 (i := i) (m := m) (by simpa using hi)
    exact ⟨by rw [show off + (i + 1) * 7 = off + 7 + i * 7 from by omega]; exact h0, cs, hv, fun j u hu => by rw [show off + (i + 1) * 7 + 1 + j = off + 7 + i * 7 + 1 + j from by omega]; exact hc j u hu⟩

/-- The k-th value of a list, cell by cell. -/
theorem HoldsL.six {w : World} {B : Nat} {l : List Val} {g off : Nat} (h : HoldsL w B l g off) {i : Nat} {k : Int} {b : Bool} {n : Int} {t : ByteArray} {l' : List Val} {o' : List (ByteArray × Val)} (hi : l[i]? = some (.mk k b n t l' o')) :
    ∃ la lc oa oc, HoldsV w B (.mk k b n t l' o') (cells6 k b n t la l'.length lc oa o'.length oc) ∧ w.cell? ⟨g, off + i * 6, none⟩ = some (.int .i64 k) ∧ w.cell? ⟨g, off + i * 6 + 1, none⟩ = some (.bool b) ∧
      w.cell? ⟨g, off + i * 6 + 2, none⟩ = some (.int .i64 n) ∧ w.cell? ⟨g, off + i * 6 + 3, none⟩ = some (.string t) ∧ w.cell? ⟨g, off + i * 6 + 4, none⟩ = some (.slice la l'.length lc) ∧
      w.cell? ⟨g, off + i * 6 + 5, none⟩ = some (.slice oa o'.length oc) := by
  obtain ⟨cs, hv, hc⟩ := h.at_ hi
  have hv' := hv
  simp only [HoldsV] at hv'
  obtain ⟨la, lc, oa, oc, rfl, _, _⟩ := hv'
  exact ⟨la, lc, oa, oc, hv, hc 0 _ rfl, hc 1 _ rfl, hc 2 _ rfl, hc 3 _ rfl, hc 4 _ rfl, hc 5 _ rfl⟩
theorem HoldsO.seven {w : World} {B : Nat} {l : List (ByteArray × Val)} {g off : Nat} (h : HoldsO w B l g off) {i : Nat} {key : ByteArray} {k : Int} {b : Bool} {n : Int} {t : ByteArray} {l' : List Val} {o' : List (ByteArray × Val)} (hi : l[i]? = some (key, .mk k b n t l' o')) :
    ∃ la lc oa oc, HoldsV w B (.mk k b n t l' o') (cells6 k b n t la l'.length lc oa o'.length oc) ∧ w.cell? ⟨g, off + i * 7, none⟩ = some (.string key) ∧ w.cell? ⟨g, off + i * 7 + 1, none⟩ = some (.int .i64 k) ∧ w.cell? ⟨g, off + i * 7 + 2, none⟩ = some (.bool b) ∧
      w.cell? ⟨g, off + i * 7 + 3, none⟩ = some (.int .i64 n) ∧ w.cell? ⟨g, off + i * 7 + 4, none⟩ = some (.string t) ∧ w.cell? ⟨g, off + i * 7 + 5, none⟩ = some (.slice la l'.length lc) ∧
      w.cell? ⟨g, off + i * 7 + 6, none⟩ = some (.slice oa o'.length oc) := by
  obtain ⟨h0, cs, hv, hc⟩ := h.at_ hi
  have hv' := hv
  simp only [HoldsV] at hv'
  obtain ⟨la, lc, oa, oc, rfl, _, _⟩ := hv'
  exact ⟨la, lc, oa, oc, hv, h0, hc 0 _ rfl, hc 1 _ rfl, hc 2 _ rfl, hc 3 _ rfl, hc 4 _ rfl, hc 5 _ rfl⟩

theorem bulkL_mem {l : List Val} {v : Val} (h : v ∈ l) : v.bulk ≤ bulkL l := by
  induction l with
  | nil => cases h
  | cons x r ih =>
    simp only [bulkL]
    rcases List.mem_cons.1 h with rfl | h
    · omega
    · have := ih h; omega
theorem bulkO_mem {l : List (ByteArray × Val)} {m : ByteArray × Val} (h : m ∈ l) : 1 + m.1.size + m.2.bulk ≤ bulkO l := by
  induction l with
  | nil => cases h
  | cons x r ih =>
    obtain ⟨k, v⟩ := x
    simp only [bulkO, bulkP]
    rcases List.mem_cons.1 h with rfl | h
    · simp only; omega
    · have := ih h; omega
theorem Val.bulk_pos (v : Val) : 6 ≤ v.bulk := by
  obtain ⟨k, b, n, t, l, o⟩ := v
  simp only [Val.bulk]; omega
theorem bulkL_len (l : List Val) : 6 * l.length ≤ bulkL l := by
  induction l with
  | nil => simp [bulkL]
  | cons x r ih => simp only [bulkL, List.length_cons]; have := x.bulk_pos; omega
theorem bulkO_len (l : List (ByteArray × Val)) : 7 * l.length ≤ bulkO l := by
  induction l with
  | nil => simp [bulkO]
  | cons x r ih => obtain ⟨k, v⟩ := x; simp only [bulkO, bulkP, List.length_cons]; have := v.bulk_pos; omega

mutual
/-- All its Ints are of 64 bits. -/
def inV : Val → Prop
  | .mk _ _ n _ l o => (-9223372036854775808 ≤ n ∧ n ≤ 9223372036854775807) ∧ inL l ∧ inO o
def inL : List Val → Prop
  | [] => True
  | v :: r => inV v ∧ inL r
def inO : List (ByteArray × Val) → Prop
  | [] => True
  | p :: r => inP p ∧ inO r
def inP : ByteArray × Val → Prop
  | (_, v) => inV v
end

end Go.Proofs.YtemceefalkfneaaGreatDoor

/- Whether a value has anything that its kind does not name: the program's function and the reference's. No condition. -/
namespace Go.Proofs.YtemceefalkfneaaGreatDoor
open Go.RowKit

def oddB (k : Int) (b : Bool) (n : Int) (t : ByteArray) (ln on : Nat) : Bool :=
  if k == 1 then b || n != 0 || !t.toList.isEmpty || ln != 0 || on != 0
  else if k == 2 then n != 0 || !t.toList.isEmpty || ln != 0 || on != 0
  else if k == 3 then b || !t.toList.isEmpty || ln != 0 || on != 0
  else if k == 4 then b || n != 0 || ln != 0 || on != 0
  else if k == 5 then b || n != 0 || !t.toList.isEmpty || on != 0
  else if k == 6 then b || n != 0 || !t.toList.isEmpty || ln != 0
  else true

set_option maxHeartbeats 1000000 in
theorem odd_calls (k : Int) (b : Bool) (n : Int) (t : ByteArray) (la oa : Option Addr) (ln lc on oc : Nat) (w : World) :
  Calls Tryz.prog 163 #[.agg #[.int .i64 k, .bool b, .int .i64 n, .string t, .slice la ln lc, .slice oa on oc]] w fun e w' => e = .returned (.bool (oddB k b n t ln on)) ∧ Below w.heap.size w w' := by
  go_enter Tryz.func163, Tryz.ntmps163
  go_wp2
  all_goals go_ret
  all_goals simp only [oddB, *]
  all_goals refine ⟨by first | (simp_all; done) | (simp_all; omega) | (simp_all; rw [Bool.eq_iff_iff]; simp [Nat.pos_iff_ne_zero]), ?_⟩
  all_goals exact Below.alloc (Below.refl _ _) (Nat.le_refl _) _

theorem toList_empty : (ByteArray.empty).toList = [] := by rw [Lib.toList_data]; rfl
theorem toList_ne {t : ByteArray} (h : ¬t = ByteArray.empty) : t.toList ≠ [] := by
  intro e
  rw [Lib.toList_data] at e
  apply h
  have : t.data = #[] := by simpa using e
  exact ByteArray.ext this
theorem ret_bool {a b : Bool} (h : a = b) : Ending.returned (.bool a) = .returned (.bool b) := by rw [h]
theorem cast_beq (n : Nat) : ((n : Int) == 0) = (n == 0) := by rw [Bool.eq_iff_iff]; simp

set_option maxHeartbeats 2000000 in
theorem bare_calls (k : Int) (b : Bool) (n : Int) (t : ByteArray) (la oa : Option Addr) (ln lc on oc : Nat) (w : World) :
  Calls Tryz.prog 198 #[.agg #[.int .i64 k, .bool b, .int .i64 n, .string t, .slice la ln lc, .slice oa on oc]] w fun e w' => e = .returned (.bool (!oddB k b n t ln on)) ∧ Below w.heap.size w w' := by
  rcases (by omega : k = 1 ∨ k = 2 ∨ k = 3 ∨ k = 4 ∨ k = 5 ∨ k = 6 ∨ k < 1 ∨ 6 < k) with rfl | rfl | rfl | rfl | rfl | rfl | h | h
  all_goals
    go_enter Tryz.func198, Tryz.ntmps198
    go_wp2
    all_goals go_ret
    all_goals refine ⟨ret_bool ?_, Below.alloc (Below.refl _ _) (Nat.le_refl _) _⟩
    all_goals simp only [oddB, cast_beq]
  all_goals first | (simp_all [toList_ne]; done) | (subst_vars; simp_all [bne]; done) | (rw [if_neg (by simp; omega), if_neg (by simp; omega), if_neg (by simp; omega), if_neg (by simp; omega), if_neg (by simp; omega), if_neg (by simp; omega)]; rfl) | skip

end Go.Proofs.YtemceefalkfneaaGreatDoor

/- commonplaceref01.Bytes: a rune's bytes. Condition: a rune of Unicode, no surrogate. -/
namespace Go.Proofs.YtemceefalkfneaaGreatDoor
open Go.RowKit

theorem u8_back {z : Int} (h0 : 0 ≤ z) (h1 : z < 256) : ((z.toNat.toUInt8).toNat : Int) = z := by
  have : z.toNat < 256 := by omega
  simp [Nat.toUInt8, UInt8.toNat_ofNat', Nat.mod_eq_of_lt this]
  omega

theorem run_bytes (w : World) (zs : List Int) (hz : ∀ z ∈ zs, 0 ≤ z ∧ z < 256) (t : TypeId) :
    (convert 26 9 (.slice (some ⟨w.heap.size, 0, none⟩) zs.length zs.length)).run Tryz.prog (w.alloc (.cells (zs.map (Value.int .u8)).toArray t)) = .ok (.string ⟨(zs.map fun z => z.toNat.toUInt8).toArray⟩) (w.alloc (.cells (zs.map (Value.int .u8)).toArray t)) := by
  have := run_convert_bytes_back (P := Tryz.prog) (w.alloc (.cells (zs.map (Value.int .u8)).toArray t)) 26 9 5 ⟨w.heap.size, 0, none⟩ zs.length (zs.map fun z => z.toNat.toUInt8) Tryz.underlying26 Tryz.underlying5 Tryz.underlying9 (by
    intro j hj
    rw [List.length_map] at hj
    have hh : (w.alloc (.cells (zs.map (Value.int .u8)).toArray t)).heap[w.heap.size]? = some (.cells (zs.map (Value.int .u8)).toArray t (0, 0)) := heap_alloc_new _ _
    rw [show (⟨w.heap.size, 0, none⟩ : Addr).add j = ⟨w.heap.size, j, none⟩ from by unfold Addr.add; split <;> simp_all]
    rw [Lib.cell_of_heap hh]
    simp only [List.getElem?_toArray, List.getElem?_map, List.getElem?_eq_getElem hj, Option.map_some, List.getElem_map]
    rw [u8_back (hz _ (List.getElem_mem hj)).1 (hz _ (List.getElem_mem hj)).2])
  rwa [List.length_map] at this

set_option maxRecDepth 20000 in
set_option maxHeartbeats 1000000 in
theorem RBytes_calls (r : Int) (h0 : 0 ≤ r) (h1 : r ≤ 1114111) (hs : ¬(55296 ≤ r ∧ r < 57344)) (w : World) :
    Calls Tryz.prog 201 #[.int .i64 r] w fun e w' => e = .returned (.string ⟨(Lib.encodeRune r).toArray⟩) ∧ Below w.heap.size w w' := by
  by_cases c1 : r < 128
  · have e : Lib.encodeRune r = [r].map fun z => z.toNat.toUInt8 := by unfold Lib.encodeRune; rw [Lib.encodeRuneZ_one h0 (by omega)]
    have hB := run_bytes w [r] (by intro z hz; simp at hz; omega) 5
    rw [e]
    simp only [List.map_cons, List.map_nil, List.length_cons, List.length_nil] at hB ⊢
    go_enter Tryz.func201, Tryz.ntmps201
    go_wp2
    go_ret
    exact ⟨rfl, (Below.refl _ _).alloc (Nat.le_refl _) _⟩
  by_cases c2 : r < 2048
  · have e : Lib.encodeRune r = [192 + r / 64, 128 + r % 64].map fun z => z.toNat.toUInt8 := by unfold Lib.encodeRune; rw [Lib.encodeRuneZ_two (by omega) (by omega)]
    have hB := run_bytes w [192 + r / 64, 128 + r % 64] (by intro z hz; simp at hz; omega) 5
    rw [e]
    have b1 : 0 ≤ r / 64 := by omega
    have b2 : r / 64 < 32 := by omega
    have b3 : 0 ≤ r % 64 := by omega
    have b4 : r % 64 < 64 := by omega
    simp only [List.map_cons, List.map_nil, List.length_cons, List.length_nil] at hB ⊢
    obtain ⟨z1, hz1⟩ : ∃ z, 192 + r / 64 = z := ⟨_, rfl⟩
    obtain ⟨z2, hz2⟩ : ∃ z, 128 + r % 64 = z := ⟨_, rfl⟩
    have d1 : 0 ≤ z1 ∧ z1 < 256 := by omega
    have d2 : 0 ≤ z2 ∧ z2 < 256 := by omega
    rw [hz1, hz2] at hB ⊢
    go_enter Tryz.func201, Tryz.ntmps201
    go_wp2
    go_ret
    exact ⟨rfl, (Below.refl _ _).alloc (Nat.le_refl _) _⟩
  by_cases c3 : r < 65536
  · have e : Lib.encodeRune r = [224 + r / 4096, 128 + r / 64 % 64, 128 + r % 64].map fun z => z.toNat.toUInt8 := by unfold Lib.encodeRune; rw [Lib.encodeRuneZ_three (by omega)]
    have hB := run_bytes w [224 + r / 4096, 128 + r / 64 % 64, 128 + r % 64] (by intro z hz; simp at hz; omega) 5
    rw [e]
    have b1 : 0 ≤ r / 4096 := by omega
    have b2 : r / 4096 < 16 := by omega
    have b3 : 0 ≤ r % 64 := by omega
    have b4 : r % 64 < 64 := by omega
    have b5 : 0 ≤ r / 64 := by omega
    have b6 : 0 ≤ r / 64 % 64 := by omega
    have b7 : r / 64 % 64 < 64 := by omega
    simp only [List.map_cons, List.map_nil, List.length_cons, List.length_nil] at hB ⊢
    obtain ⟨z1, hz1⟩ : ∃ z, 224 + r / 4096 = z := ⟨_, rfl⟩
    obtain ⟨z2, hz2⟩ : ∃ z, 128 + r / 64 % 64 = z := ⟨_, rfl⟩
    obtain ⟨z3, hz3⟩ : ∃ z, 128 + r % 64 = z := ⟨_, rfl⟩
    have d1 : 0 ≤ z1 ∧ z1 < 256 := by omega
    have d2 : 0 ≤ z2 ∧ z2 < 256 := by omega
    have d3 : 0 ≤ z3 ∧ z3 < 256 := by omega
    rw [hz1, hz2, hz3] at hB ⊢
    go_enter Tryz.func201, Tryz.ntmps201
    go_wp2
    go_ret
    exact ⟨rfl, (Below.refl _ _).alloc (Nat.le_refl _) _⟩
  · have e : Lib.encodeRune r = [240 + r / 262144, 128 + r / 4096 % 64, 128 + r / 64 % 64, 128 + r % 64].map fun z => z.toNat.toUInt8 := by unfold Lib.encodeRune; rw [Lib.encodeRuneZ_four (by omega) (by omega)]
    have hB := run_bytes w [240 + r / 262144, 128 + r / 4096 % 64, 128 + r / 64 % 64, 128 + r % 64] (by intro z hz; simp at hz; omega) 5
    rw [e]
    have b1 : 0 ≤ r / 262144 := by omega
    have b2 : r / 262144 < 8 := by omega
    have b3 : 0 ≤ r % 64 := by omega
    have b4 : r % 64 < 64 := by omega
    have b5 : 0 ≤ r / 64 := by omega
    have b6 : 0 ≤ r / 64 % 64 := by omega
    have b7 : r / 64 % 64 < 64 := by omega
    have b8 : 0 ≤ r / 4096 := by omega
    have b9 : 0 ≤ r / 4096 % 64 := by omega
    have b10 : r / 4096 % 64 < 64 := by omega
    simp only [List.map_cons, List.map_nil, List.length_cons, List.length_nil] at hB ⊢
    obtain ⟨z0, hz0⟩ : ∃ z, 240 + r / 262144 = z := ⟨_, rfl⟩
    obtain ⟨z1, hz1⟩ : ∃ z, 128 + r / 4096 % 64 = z := ⟨_, rfl⟩
    obtain ⟨z2, hz2⟩ : ∃ z, 128 + r / 64 % 64 = z := ⟨_, rfl⟩
    obtain ⟨z3, hz3⟩ : ∃ z, 128 + r % 64 = z := ⟨_, rfl⟩
    have d0 : 0 ≤ z0 ∧ z0 < 256 := by omega
    have d1 : 0 ≤ z1 ∧ z1 < 256 := by omega
    have d2 : 0 ≤ z2 ∧ z2 < 256 := by omega
    have d3 : 0 ≤ z3 ∧ z3 < 256 := by omega
    rw [hz0, hz1, hz2, hz3] at hB ⊢
    go_enter Tryz.func201, Tryz.ntmps201
    go_wp2
    go_ret
    exact ⟨rfl, (Below.refl _ _).alloc (Nat.le_refl _) _⟩

end Go.Proofs.YtemceefalkfneaaGreatDoor
