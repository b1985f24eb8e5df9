/- What commonplaceref02.Object comes to: members put where they belong. Plain. No condition. -/
import Derived.Test.YtjmkafbdmppfaaaDoorProg
import Derived.Test.YtjmkafbdmppfaaaDoorRObjP
namespace Go.Proofs.YtjmkafbdmppfaaaDoor
open Go.RowKit

def ltB (a b : ByteArray) : Bool := Op.bytesLess a.toList b.toList

/-- Where a key belongs: how many at the front have a less one. -/
def atO (k : ByteArray) : List (ByteArray × Val) → Nat
  | [] => 0
  | p :: r => if ltB p.1 k then atO k r + 1 else 0
/-- Is that key at its place already? -/
def hitO (k : ByteArray) (acc : List (ByteArray × Val)) : Bool := (acc[atO k acc]?).any fun p => p.1.toList == k.toList
def putO (m : ByteArray × Val) (acc : List (ByteArray × Val)) : List (ByteArray × Val) := acc.take (atO m.1 acc) ++ ([m] ++ acc.drop (atO m.1 acc))
/-- All members put, one behind the other; none where a key comes twice. -/
def objAll : List (ByteArray × Val) → List (ByteArray × Val) → Option (List (ByteArray × Val))
  | [], acc => some acc
  | m :: r, acc => if hitO m.1 acc then none else objAll r (putO m acc)

theorem atO_le (k : ByteArray) : ∀ acc, atO k acc ≤ acc.length
  | [] => Nat.zero_le _
  | p :: r => by
    have := atO_le k r
    simp only [atO, List.length_cons]
    split <;> omega
theorem atO_lt (k : ByteArray) : ∀ {acc : List (ByteArray × Val)} {j : Nat} {p : ByteArray × Val}, j < atO k acc → acc[j]? = some p → ltB p.1 k = true
  | [], j, p, h, hp => by simp at hp
  | q :: r, 0, p, h, hp => by
    simp only [atO] at h
    simp only [List.getElem?_cons_zero, Option.some.injEq] at hp
    subst hp
    by_cases hq : ltB q.1 k = true
    · exact hq
    · rw [if_neg hq] at h; omega
  | q :: r, j + 1, p, h, hp => by
    simp only [atO] at h
    by_cases hq : ltB q.1 k = true
    · rw [if_pos hq] at h
      exact atO_lt k (acc := r) (j := j) (by omega) (by simpa using hp)
    · rw [if_neg hq] at h; omega
theorem atO_at (k : ByteArray) : ∀ {acc : List (ByteArray × Val)} {p : ByteArray × Val}, acc[atO k acc]? = some p → ltB p.1 k = false
  | [], p, hp => by simp at hp
  | q :: r, p, hp => by
    by_cases hq : ltB q.1 k = true
    · simp only [atO, if_pos hq, List.getElem?_cons_succ] at hp
      exact atO_at k hp
    · simp only [atO, if_neg hq, List.getElem?_cons_zero, Option.some.injEq] at hp
      subst hp
      simpa using hq
theorem putO_len (m : ByteArray × Val) (acc : List (ByteArray × Val)) : (putO m acc).length = acc.length + 1 := by
  have := atO_le m.1 acc
  simp only [putO, List.length_append, List.length_take, List.length_drop, List.length_cons, List.length_nil]
  omega
theorem bulkO_put (m : ByteArray × Val) (acc : List (ByteArray × Val)) : bulkO (putO m acc) = bulkO acc + bulkP m := by
  have h := congrArg bulkO (List.take_append_drop (atO m.1 acc) acc)
  rw [bulkO_app] at h
  simp only [putO, bulkO_app, bulkO]
  omega
theorem inO_take : ∀ {l : List (ByteArray × Val)} (k : Nat), inO l → inO (l.take k)
  | [], k, _ => by simp [inO]
  | _ :: _, 0, _ => by simp [inO]
  | x :: r, k + 1, h => by
    simp only [List.take_succ_cons, inO] at h ⊢
    exact ⟨h.1, inO_take k h.2⟩
theorem inO_drop : ∀ {l : List (ByteArray × Val)} (k : Nat), inO l → inO (l.drop k)
  | [], k, _ => by simp [inO]
  | _ :: _, 0, h => h
  | x :: r, k + 1, h => by
    simp only [List.drop_succ_cons, inO] at h ⊢
    exact inO_drop k h.2
theorem inO_put {m : ByteArray × Val} {acc : List (ByteArray × Val)} (h : inO acc) (hm : inV m.2) : inO (putO m acc) := by
  obtain ⟨k, v⟩ := m
  exact inO_app (inO_take _ h) (inO_app ⟨hm, trivial⟩ (inO_drop _ h))
theorem objAll_bulk : ∀ {l acc o : List (ByteArray × Val)}, objAll l acc = some o → bulkO o = bulkO acc + bulkO l
  | [], acc, o, h => by
    simp only [objAll, Option.some.injEq] at h
    subst h
    simp [bulkO]
  | m :: r, acc, o, h => by
    simp only [objAll] at h
    by_cases hh : hitO m.1 acc = true
    · rw [if_pos hh] at h; cases h
    · rw [if_neg hh] at h
      rw [objAll_bulk h, bulkO_put]
      simp only [bulkO]
      omega
theorem objAll_in : ∀ {l acc o : List (ByteArray × Val)}, objAll l acc = some o → inO acc → inO l → inO o
  | [], acc, o, h, ha, _ => by
    simp only [objAll, Option.some.injEq] at h
    exact h ▸ ha
  | (k, v) :: r, acc, o, h, ha, hl => by
    simp only [objAll] at h
    by_cases hh : hitO k acc = true
    · rw [if_pos hh] at h; cases h
    · rw [if_neg hh] at h
      exact objAll_in h (inO_put ha hl.1) hl.2

end Go.Proofs.YtjmkafbdmppfaaaDoor
