/- Parts, joined: Rows of members, joined and parted. Plain. No condition. What commonplaceref02.Object comes to: members put where they belong. Plain. No condition. Keys in order; a list of members has one order. Plain. No condition. Why a value may not be: the reference's function, of every value. Condition: a bulk of at most 10^9. Loads and stores of structs of many cells at once. Plain. No condition. -/
import Derived.Test.YtgjiienipeoajaaGreatDoorProg
import Derived.Lib.Strings
import Derived.Deep.MidRow
import Derived.Test.YtgjiienipeoajaaGreatDoorKPrs7
import Derived.Test.YtgjiienipeoajaaGreatDoorKPrs11
import Derived.Test.YtgjiienipeoajaaGreatDoorKPrs15
/- Rows of members, joined and parted. Plain. No condition. -/
namespace Go.Proofs.YtgjiienipeoajaaGreatDoor
open Go.RowKit

theorem RowO.app {w : World} {B : Nat} : ∀ {a b : List (ByteArray × Val)} {ns ms : List Value}, RowO w B a ns → RowO w B b ms → RowO w B (a ++ b) (ns ++ ms)
  | [], b, ns, ms, h, h' => by
    have : ns = [] := h
    subst this
    exact h'
  | (k, v) :: r, b, ns, ms, ⟨cs, rest, e, h1, h2⟩, h' => by
    subst e
    exact ⟨cs, rest ++ ms, by simp, h1, RowO.app h2 h'⟩
theorem RowO.len {w : World} {B : Nat} : ∀ {l : List (ByteArray × Val)} {ns : List Value}, RowO w B l ns → ns.length = l.length * 7 ∧ ∀ u ∈ ns, u.oneCell' = true
  | [], ns, h => by
    have : ns = [] := h
    subst this
    exact ⟨rfl, fun u hu => by cases hu⟩
  | (k, v) :: r, ns, ⟨cs, rest, e, h1, h2⟩ => by
    subst e
    obtain ⟨a1, a2⟩ := h1.len
    obtain ⟨b1, b2⟩ := RowO.len h2
    refine ⟨by rw [List.length_cons, List.length_append, a1, b1, List.length_cons]; omega, fun u hu => ?_⟩
    rcases List.mem_cons.1 hu with rfl | hu
    · rfl
    rcases List.mem_append.1 hu with hu | hu
    · exact a2 u hu
    · exact b2 u hu
theorem RowO.split {w : World} {B : Nat} : ∀ {l : List (ByteArray × Val)} {ns : List Value} (k : Nat), RowO w B l ns → RowO w B (l.take k) (ns.take (k * 7)) ∧ RowO w B (l.drop k) (ns.drop (k * 7))
  | [], ns, k, h => by
    have : ns = [] := h
    subst this
    simp [RowO]
  | (key, v) :: r, ns, 0, h => by
    simp only [List.take_zero, Nat.zero_mul, List.drop_zero]
    exact ⟨rfl, h⟩
  | (key, v) :: r, ns, k + 1, ⟨cs, rest, e, h1, h2⟩ => by
    subst e
    obtain ⟨a, b⟩ := RowO.split k h2
    have hl := h1.len.1
    have e1 : (Value.string key :: (cs ++ rest)).take ((k + 1) * 7) = .string key :: (cs ++ rest.take (k * 7)) := by
      rw [show (k + 1) * 7 = (6 + k * 7) + 1 from by omega, List.take_succ_cons, List.take_append, hl, List.take_of_length_le (by omega), show 6 + k * 7 - 6 = k * 7 from by omega]
    have e2 : (Value.string key :: (cs ++ rest)).drop ((k + 1) * 7) = rest.drop (k * 7) := by
      rw [show (k + 1) * 7 = (6 + k * 7) + 1 from by omega, List.drop_succ_cons, List.drop_append, hl, List.drop_eq_nil_of_le (by omega), show 6 + k * 7 - 6 = k * 7 from by omega, List.nil_append]
    rw [e1, e2]
    exact ⟨⟨cs, rest.take (k * 7), rfl, h1, a⟩, b⟩
theorem bulkO_app : ∀ (a b : List (ByteArray × Val)), bulkO (a ++ b) = bulkO a + bulkO b
  | [], b => by simp [bulkO]
  | x :: r, b => by simp only [List.cons_append, bulkO, bulkO_app r b]; omega
theorem inO_app : ∀ {a b : List (ByteArray × Val)}, inO a → inO b → inO (a ++ b)
  | [], _, _, h => h
  | x :: r, b, h, h' => by
    simp only [List.cons_append, inO] at h ⊢
    exact ⟨h.1, inO_app h.2 h'⟩

end Go.Proofs.YtgjiienipeoajaaGreatDoor

/- What commonplaceref02.Object comes to: members put where they belong. Plain. No condition. -/
namespace Go.Proofs.YtgjiienipeoajaaGreatDoor
open Go.RowKit

def ltB (a b : ByteArray) : Bool := Op.bytesLess a.toList b.toList

/-- Where a key belongs: how many at the front have a less one. -/
def atO (k : ByteArray) : List (ByteArray × Val) → Nat
  | [] => 0
  | p :: r => if ltB p.1 k then atO k r + 1 else 0
/-- Is that key at its place already? -/
def hitO (k : ByteArray) (acc : List (ByteArray × Val)) : Bool := (acc[atO k acc]?).any fun p => p.1.toList == k.toList
def putO (m : ByteArray × Val) (acc : List (ByteArray × Val)) : List (ByteArray × Val) := acc.take (atO m.1 acc) ++ ([m] ++ acc.drop (atO m.1 acc))
/-- All members put, one behind the other; none where a key comes twice. -/
def objAll : List (ByteArray × Val) → List (ByteArray × Val) → Option (List (ByteArray × Val))
  | [], acc => some acc
  | m :: r, acc => if hitO m.1 acc then none else objAll r (putO m acc)

theorem atO_le (k : ByteArray) : ∀ acc, atO k acc ≤ acc.length
  | [] => Nat.zero_le _
  | p :: r => by
    have := atO_le k r
    simp only [atO, List.length_cons]
    split <;> omega
theorem atO_lt (k : ByteArray) : ∀ {acc : List (ByteArray × Val)} {j : Nat} {p : ByteArray × Val}, j < atO k acc → acc[j]? = some p → ltB p.1 k = true
  | [], j, p, h, hp => by simp at hp
  | q :: r, 0, p, h, hp => by
    simp only [atO] at h
    simp only [List.getElem?_cons_zero, Option.some.injEq] at hp
    subst hp
    by_cases hq : ltB q.1 k = true
    · exact hq
    · rw [if_neg hq] at h; omega
  | q :: r, j + 1, p, h, hp => by
    simp only [atO] at h
    by_cases hq : ltB q.1 k = true
    · rw [if_pos hq] at h
      exact atO_lt k (acc := r) (j := j) (by omega) (by simpa using hp)
    · rw [if_neg hq] at h; omega
theorem atO_at (k : ByteArray) : ∀ {acc : List (ByteArray × Val)} {p : ByteArray × Val}, acc[atO k acc]? = some p → ltB p.1 k = false
  | [], p, hp => by simp at hp
  | q :: r, p, hp => by
    by_cases hq : ltB q.1 k = true
    · simp only [atO, if_pos hq, List.getElem?_cons_succ] at hp
      exact atO_at k hp
    · simp only [atO, if_neg hq, List.getElem?_cons_zero, Option.some.injEq] at hp
      subst hp
      simpa using hq
theorem putO_len (m : ByteArray × Val) (acc : List (ByteArray × Val)) : (putO m acc).length = acc.length + 1 := by
  have := atO_le m.1 acc
  simp only [putO, List.length_append, List.length_take, List.length_drop, List.length_cons, List.length_nil]
  omega
theorem bulkO_put (m : ByteArray × Val) (acc : List (ByteArray × Val)) : bulkO (putO m acc) = bulkO acc + bulkP m := by
  have h := congrArg bulkO (List.take_append_drop (atO m.1 acc) acc)
  rw [bulkO_app] at h
  simp only [putO, bulkO_app, bulkO]
  omega
theorem inO_take : ∀ {l : List (ByteArray × Val)} (k : Nat), inO l → inO (l.take k)
  | [], k, _ => by simp [inO]
  | _ :: _, 0, _ => by simp [inO]
  | x :: r, k + 1, h => by
    simp only [List.take_succ_cons, inO] at h ⊢
    exact ⟨h.1, inO_take k h.2⟩
theorem inO_drop : ∀ {l : List (ByteArray × Val)} (k : Nat), inO l → inO (l.drop k)
  | [], k, _ => by simp [inO]
  | _ :: _, 0, h => h
  | x :: r, k + 1, h => by
    simp only [List.drop_succ_cons, inO] at h ⊢
    exact inO_drop k h.2
theorem inO_put {m : ByteArray × Val} {acc : List (ByteArray × Val)} (h : inO acc) (hm : inV m.2) : inO (putO m acc) := by
  obtain ⟨k, v⟩ := m
  exact inO_app (inO_take _ h) (inO_app ⟨hm, trivial⟩ (inO_drop _ h))
theorem objAll_bulk : ∀ {l acc o : List (ByteArray × Val)}, objAll l acc = some o → bulkO o = bulkO acc + bulkO l
  | [], acc, o, h => by
    simp only [objAll, Option.some.injEq] at h
    subst h
    simp [bulkO]
  | m :: r, acc, o, h => by
    simp only [objAll] at h
    by_cases hh : hitO m.1 acc = true
    · rw [if_pos hh] at h; cases h
    · rw [if_neg hh] at h
      rw [objAll_bulk h, bulkO_put]
      simp only [bulkO]
      omega
theorem objAll_in : ∀ {l acc o : List (ByteArray × Val)}, objAll l acc = some o → inO acc → inO l → inO o
  | [], acc, o, h, ha, _ => by
    simp only [objAll, Option.some.injEq] at h
    exact h ▸ ha
  | (k, v) :: r, acc, o, h, ha, hl => by
    simp only [objAll] at h
    by_cases hh : hitO k acc = true
    · rw [if_pos hh] at h; cases h
    · rw [if_neg hh] at h
      exact objAll_in h (inO_put ha hl.1) hl.2

end Go.Proofs.YtgjiienipeoajaaGreatDoor

/- Keys in order; a list of members has one order. Plain. No condition. -/
namespace Go.Proofs.YtgjiienipeoajaaGreatDoor
open Go.RowKit

theorem bl_irrefl : ∀ x : List UInt8, Op.bytesLess x x = false
  | [] => rfl
  | a :: x => by simp [Op.bytesLess, bl_irrefl x, UInt8.lt_irrefl]
theorem bl_trans : ∀ {x y z : List UInt8}, Op.bytesLess x y = true → Op.bytesLess y z = true → Op.bytesLess x z = true
  | _, [], _, h, _ => by cases ‹List UInt8› <;> simp [Op.bytesLess] at h
  | _, _ :: _, [], _, h => by simp [Op.bytesLess] at h
  | [], _ :: _, _ :: _, _, _ => rfl
  | a :: x, b :: y, c :: z, h, k => by
    simp only [Op.bytesLess, Bool.or_eq_true, Bool.and_eq_true, decide_eq_true_eq, beq_iff_eq] at h k ⊢
    rcases h with h | ⟨rfl, h⟩ <;> rcases k with k | ⟨rfl, k⟩
    · exact .inl (UInt8.lt_trans h k)
    · exact .inl h
    · exact .inl k
    · exact .inr ⟨rfl, bl_trans h k⟩
theorem bl_tri : ∀ (x y : List UInt8), Op.bytesLess x y = true ∨ x = y ∨ Op.bytesLess y x = true
  | [], [] => .inr (.inl rfl)
  | [], _ :: _ => .inl rfl
  | _ :: _, [] => .inr (.inr rfl)
  | a :: x, b :: y => by
    simp only [Op.bytesLess, Bool.or_eq_true, Bool.and_eq_true, decide_eq_true_eq, beq_iff_eq]
    rcases Nat.lt_trichotomy a.toNat b.toNat with h | h | h
    · exact .inl (.inl (UInt8.lt_iff_toNat_lt.2 h))
    · have hab : a = b := UInt8.toNat_inj.1 h
      subst hab
      rcases bl_tri x y with h | h | h
      · exact .inl (.inr ⟨rfl, h⟩)
      · exact .inr (.inl (by rw [h]))
      · exact .inr (.inr (.inr ⟨rfl, h⟩))
    · exact .inr (.inr (.inl (UInt8.lt_iff_toNat_lt.2 h)))
theorem toList_inj {a b : ByteArray} (h : a.toList = b.toList) : a = b := by
  rw [Lib.toList_data, Lib.toList_data] at h
  exact ByteArray.ext (Array.ext' h)
theorem ltB_irrefl (a : ByteArray) : ltB a a = false := bl_irrefl _
theorem ltB_trans {a b c : ByteArray} (h : ltB a b = true) (k : ltB b c = true) : ltB a c = true := bl_trans h k
theorem ltB_tri (a b : ByteArray) : ltB a b = true ∨ a = b ∨ ltB b a = true := by
  rcases bl_tri a.toList b.toList with h | h | h
  · exact .inl h
  · exact .inr (.inl (toList_inj h))
  · exact .inr (.inr h)
theorem ltB_asym {a b : ByteArray} (h : ltB a b = true) : ltB b a = false := by
  cases e : ltB b a with
  | false => rfl
  | true => have := ltB_trans h e; rw [ltB_irrefl] at this; cases this

/-- Members by rising keys, each once. -/
def ascO (l : List (ByteArray × Val)) : Prop := l.Pairwise fun a b => ltB a.1 b.1 = true

theorem atO_split (k : ByteArray) : ∀ {acc : List (ByteArray × Val)}, ascO acc → hitO k acc = false → (∀ p ∈ acc.take (atO k acc), ltB p.1 k = true) ∧ (∀ p ∈ acc.drop (atO k acc), ltB k p.1 = true)
  | [], _, _ => by simp
  | q :: r, ha, hh => by
    obtain ⟨h1, h2⟩ := List.pairwise_cons.1 ha
    by_cases hq : ltB q.1 k = true
    · have hh' : hitO k r = false := by
        unfold hitO at hh ⊢
        simpa only [atO, if_pos hq, List.getElem?_cons_succ] using hh
      obtain ⟨a, b⟩ := atO_split k h2 hh'
      simp only [atO, if_pos hq, List.take_succ_cons, List.drop_succ_cons]
      refine ⟨fun p hp => ?_, b⟩
      rcases List.mem_cons.1 hp with rfl | hp
      · exact hq
      · exact a p hp
    · simp only [atO, if_neg hq, List.take_zero, List.drop_zero]
      refine ⟨fun p hp => (by cases hp), ?_⟩
      have hne : q.1 ≠ k := by
        intro e
        unfold hitO at hh
        simp only [atO, if_neg hq, List.getElem?_cons_zero, Option.any_some] at hh
        rw [e] at hh
        simp at hh
      have hkq : ltB k q.1 = true := by
        rcases ltB_tri q.1 k with h | h | h
        · exact absurd h hq
        · exact absurd h hne
        · exact h
      intro p hp
      rcases List.mem_cons.1 hp with rfl | hp
      · exact hkq
      · exact ltB_trans hkq (h1 p hp)
theorem putO_asc {m : ByteArray × Val} {acc : List (ByteArray × Val)} (ha : ascO acc) (hh : hitO m.1 acc = false) : ascO (putO m acc) := by
  obtain ⟨h1, h2⟩ := atO_split m.1 ha hh
  have h3 : ascO (acc.take (atO m.1 acc) ++ acc.drop (atO m.1 acc)) := by rw [List.take_append_drop]; exact ha
  obtain ⟨h4, h5, h6⟩ := List.pairwise_append.1 h3
  refine List.pairwise_append.2 ⟨h4, List.pairwise_cons.2 ⟨h2, h5⟩, fun a ha b hb => ?_⟩
  rcases List.mem_cons.1 hb with rfl | hb
  · exact h1 a ha
  · exact h6 a ha b hb
theorem putO_perm (m : ByteArray × Val) (acc : List (ByteArray × Val)) : (putO m acc).Perm (m :: acc) := by
  have h : (acc.take (atO m.1 acc) ++ ([m] ++ acc.drop (atO m.1 acc))).Perm ([m] ++ (acc.take (atO m.1 acc) ++ acc.drop (atO m.1 acc))) := by
    rw [← List.append_assoc, ← List.append_assoc]
    exact List.Perm.append_right _ List.perm_append_comm
  rw [List.take_append_drop] at h
  exact h
theorem hitO_mem {k : ByteArray} {acc : List (ByteArray × Val)} (h : hitO k acc = true) : ∃ v, (k, v) ∈ acc := by
  unfold hitO at h
  cases e : acc[atO k acc]? with
  | none => rw [e] at h; cases h
  | some p =>
    rw [e] at h
    have hk : p.1 = k := toList_inj (by simpa using h)
    exact ⟨p.2, by rw [← hk]; exact List.mem_of_getElem? e⟩
theorem objAll_some : ∀ {l acc o : List (ByteArray × Val)}, objAll l acc = some o → ascO acc → ascO o ∧ o.Perm (l ++ acc)
  | [], acc, o, h, ha => by
    simp only [objAll, Option.some.injEq] at h
    subst h
    exact ⟨ha, List.Perm.refl _⟩
  | m :: r, acc, o, h, ha => by
    simp only [objAll] at h
    by_cases hh : hitO m.1 acc = true
    · rw [if_pos hh] at h; cases h
    · rw [if_neg hh] at h
      obtain ⟨h1, h2⟩ := objAll_some h (putO_asc ha (by simpa using hh))
      exact ⟨h1, h2.trans ((List.Perm.append_left r (putO_perm m acc)).trans List.perm_middle)⟩
theorem asc_keys {l : List (ByteArray × Val)} (h : ascO l) : (l.map (·.1)).Nodup := by
  rw [List.Nodup, List.pairwise_map]
  exact h.imp fun hab e => by rw [e, ltB_irrefl] at hab; cases hab
theorem objAll_none : ∀ {l acc : List (ByteArray × Val)}, objAll l acc = none → ¬((l ++ acc).map (·.1)).Nodup
  | [], acc, h => by simp [objAll] at h
  | m :: r, acc, h => by
    simp only [objAll] at h
    by_cases hh : hitO m.1 acc = true
    · obtain ⟨v, hv⟩ := hitO_mem hh
      intro hn
      rw [List.cons_append, List.map_cons, List.nodup_cons] at hn
      exact hn.1 (List.mem_map.2 ⟨(m.1, v), List.mem_append.2 (.inr hv), rfl⟩)
    · rw [if_neg hh] at h
      intro hn
      refine objAll_none h ?_
      have hp : ((r ++ putO m acc).map (·.1)).Perm ((m :: r ++ acc).map (·.1)) := ((List.Perm.append_left r (putO_perm m acc)).trans List.perm_middle).map _
      exact hp.nodup_iff.2 hn
theorem asc_unique : ∀ {a b : List (ByteArray × Val)}, ascO a → ascO b → a.Perm b → a = b
  | [], b, _, _, h => (List.Perm.nil_eq h)
  | x :: a, [], _, _, h => by have := h.length_eq; simp at this
  | x :: a, y :: b, ha, hb, h => by
    obtain ⟨h1, h2⟩ := List.pairwise_cons.1 ha
    obtain ⟨h3, h4⟩ := List.pairwise_cons.1 hb
    have hxy : x = y := by
      rcases List.mem_cons.1 (h.mem_iff.1 (List.mem_cons_self (a := x))) with e | hx
      · exact e
      · rcases List.mem_cons.1 (h.mem_iff.2 (List.mem_cons_self (a := y))) with e | hy
        · exact e.symm
        · have p := h3 x hx
          have q := h1 y hy
          rw [ltB_asym p] at q
          cases q
    subst hxy
    rw [asc_unique h2 h4 (List.perm_cons _ |>.1 h)]
/-- What a sorted row of these members, without a key twice, must be. -/
theorem objAll_sorted {l d : List (ByteArray × Val)} (hp : d.Perm l) (ha : ascO d) : objAll l [] = some d := by
  cases e : objAll l [] with
  | none =>
    exfalso
    refine objAll_none e ?_
    rw [List.append_nil]
    exact (hp.map (·.1)).nodup_iff.1 (asc_keys ha)
  | some o =>
    obtain ⟨h1, h2⟩ := objAll_some e List.Pairwise.nil
    rw [List.append_nil] at h2
    rw [asc_unique ha h1 (hp.trans h2.symm)]
theorem objAll_twice {l d : List (ByteArray × Val)} (hp : d.Perm l) (ht : ¬(d.map (·.1)).Nodup) : objAll l [] = none := by
  cases e : objAll l [] with
  | none => rfl
  | some o =>
    obtain ⟨h1, h2⟩ := objAll_some e List.Pairwise.nil
    rw [List.append_nil] at h2
    exact absurd ((hp.trans h2.symm).map (·.1) |>.nodup_iff.2 (asc_keys h1)) ht
end Go.Proofs.YtgjiienipeoajaaGreatDoor

/- Why a value may not be: the reference's function, of every value. Condition: a bulk of at most 10^9. -/
namespace Go.Proofs.YtgjiienipeoajaaGreatDoor
open Go.RowKit

set_option maxHeartbeats 2000000 in
theorem mayR_calls : ∀ (v : Val), MayRC v := by
  refine Val.ind ?_
  intro k b n t l o ihl iho cs d w hV hb h0 h65
  simp only [HoldsV] at hV
  obtain ⟨la, lc, oa, oc, rfl, hL, hO⟩ := hV
  simp only [Val.bulk] at hb
  by_cases hodd : oddB k b n t l.length o.length = true
  · have hm : mayV (.mk k b n t l o) d = 9 := by simp only [mayV, hodd, if_true]
    rw [hm]
    clear hm ihl iho hL hO
    go_enter Tryz.func34, Tryz.ntmps34
    go_wp2_with (go_at_call 64; refine (bare_calls2 hodd _).mono ?_; rintro e w' ⟨rfl, hb1⟩)
    go_ret
    exact ⟨rfl, ((Below.refl _ _).alloc (Nat.le_refl _) _).trans (hb1.mono (by simp))⟩
  have hodd' : oddB k b n t l.length o.length = false := by simpa using hodd
  clear hodd
  by_cases h64 : 64 < d
  · have hm : mayV (.mk k b n t l o) d = 5 := by simp only [mayV, hodd', Bool.false_eq_true, if_false, h64, if_true]
    rw [hm]
    clear hm ihl iho hL hO
    go_enter Tryz.func34, Tryz.ntmps34
    go_wp2_with (go_at_call 64; refine (bare_calls2 hodd' _).mono ?_; rintro e w' ⟨rfl, hb1⟩)
    go_ret
    exact ⟨rfl, ((Below.refl _ _).alloc (Nat.le_refl _) _).trans (hb1.mono (by simp))⟩
  by_cases hval : validB t = true
  · obtain ⟨hk, ht, hl, ho⟩ := odd_parts hodd'
    by_cases hl0 : l = []
    · subst hl0
      have hm : mayV (.mk k b n t [] o) d = mayO o none (d + 1) := by
        simp only [mayV, hodd', Bool.false_eq_true, if_false, h64, hval, if_true, mayL]
      rw [hm]
      rcases hO with rfl | ⟨g, off, rfl, hg, hO⟩
      · exact mayR_obj k b n t [] la oa lc oc d w 0 0 (.inl rfl) (by simp only [bulkO] at hb ⊢; omega) h0 (by omega) iho hodd' hval
      · exact mayR_obj k b n t o la _ lc oc d w g off (.inr ⟨rfl, hg, hO⟩) (by omega) h0 (by omega) iho hodd' hval
    · have hl1 : 0 < l.length := List.length_pos_iff.2 hl0
      obtain rfl : o = [] := List.eq_nil_of_length_eq_zero (by omega)
      have hm : mayV (.mk k b n t l []) d = mayL l (d + 1) := by
        simp only [mayV, hodd', Bool.false_eq_true, if_false, h64, hval, if_true, mayO]
        split <;> simp_all
      rw [hm]
      rcases hL with rfl | ⟨g, off, rfl, hg, hL⟩
      · exact absurd rfl hl0
      · exact mayR_list k b n t l _ oa lc oc d w g off (.inr ⟨rfl, hg, hL⟩) (by omega) h0 (by omega) ihl hodd' hval
  · have hval' : validB t = false := by simpa using hval
    have hm : mayV (.mk k b n t l o) d = 3 := by simp only [mayV, hodd', Bool.false_eq_true, if_false, h64, hval']
    rw [hm]
    clear hm ihl iho hL hO hval
    go_enter Tryz.func34, Tryz.ntmps34
    go_wp2_with (first | (go_at_call 64; refine (bare_calls2 hodd' _).mono ?_; rintro e w1 ⟨rfl, hb1⟩; obtain ⟨hc1, hf1⟩ := bcell hb1; have hz1 := hb1.size; simp only [World.size_alloc] at hz1; have hbw1 : Below w.heap.size w w1 := ((Below.refl _ _).alloc (Nat.le_refl _) _).trans (hb1.mono (by simp))) | (go_at_call 35; refine (RValid_calls2 hval' _ (by omega)).mono ?_; rintro e w2 ⟨rfl, rfl⟩))
    go_ret
    exact ⟨rfl, hbw1⟩

/-- commonplaceref02.May -/
theorem RMay_calls (v : Val) (cs : List Value) (w : World) (hV : HoldsV w w.heap.size v cs) (hb : v.bulk ≤ 1000000000) :
    Calls Tryz.prog 14 #[.agg cs.toArray] w fun e w' => e = .returned (.int .i64 (mayV v 1)) ∧ Below w.heap.size w w' := by
  have hV' := hV
  obtain ⟨k, b, n, t, l, o⟩ := v
  simp only [HoldsV] at hV'
  obtain ⟨la, lc, oa, oc, rfl, _, _⟩ := hV'
  have hc := mayR_calls _ _ 1 (w.alloc (.cells #[.int .i64 k, .bool b, .int .i64 n, .string t, .slice la l.length lc, .slice oa o.length oc] 26)) (HoldsV.more (by simp) _ _ (hV.below ((Below.refl _ _).alloc (Nat.le_refl _) _))) hb (by omega) (by omega)
  generalize mayV _ _ = m at hc ⊢
  have H := Lib.hid hc
  clear hc hV
  go_enter Tryz.func14, Tryz.ntmps14
  go_wp2_with (go_at_call 34; refine (H.out).mono ?_; rintro e w' ⟨rfl, hb1⟩)
  go_ret
  exact ⟨rfl, ((Below.refl _ _).alloc (Nat.le_refl _) _).trans (hb1.mono (by simp))⟩

end Go.Proofs.YtgjiienipeoajaaGreatDoor

/- Loads and stores of structs of many cells at once. Plain. No condition. -/
namespace Go.Proofs.YtgjiienipeoajaaGreatDoor
open Go Go.RowKit

theorem setCells_new (w : World) (t : TypeId) : ∀ (vs : List Value) (cs : Array Value) (o : Nat), (w.alloc (.cells cs t)).setCells w.heap.size o vs = w.alloc (.cells (over cs o vs) t)
  | [], _, _ => rfl
  | v :: r, cs, o => by
    rw [World.setCells, World.setCell_alloc_at cs t _ o v rfl, setCells_new w t r]
    rfl
theorem over_all (cs0 cs : Array Value) (h : cs0.size = cs.size) : over cs0 0 cs.toList = cs := by
  refine Array.ext_getElem? fun i => ?_
  rw [over_get _ _ _ _ (by simp [h])]
  by_cases hi : i < cs.size
  · rw [if_pos (by simpa using hi)]; simp
  · rw [if_neg (by simpa using hi), Array.getElem?_eq_none (by omega), Array.getElem?_eq_none (by omega)]
theorem blk_range {w : World} {g : Nat} {t : TypeId} {cs : Array Value} (h : Blk w g t cs) : w.rangeAt g 0 cs.toList := fun j v hv => by
  rw [Nat.zero_add]; exact (h.cell j).trans (by rw [← Array.getElem?_toList]; exact hv)
section
variable {P : Program}
/-- A whole struct is stored into the block that was made last. -/
theorem wp_store_new {op : Oper} {a : Act} {w : World} {K : Act → World → Prop} {Q : Exit → Act → World → Prop} (ty : TypeId) (x y : Operand) (ho : op.op = .store ty x y) {cs0 : Array Value} {t : TypeId} (cs : Array Value)
    (hx : a.eval x = .pointer (some ⟨w.heap.size, 0, none⟩)) (hy : a.eval y = .agg cs) (hs : cs0.size = cs.size) (hi : (P.info? ty).map (·.size) = some cs.size) (h1 : cs.all (·.oneCell') = true)
    (h : K (a.put op.dst undef) (w.alloc (.cells cs t))) : op.wp P a (w.alloc (.cells cs0 t)) K Q := by
  refine wp_store_mid ty x y ho w.heap.size 0 cs hx hy (fun j hj => ?_) hi h1 ?_
  · have hb := Blk.new w t cs0
    refine ⟨?_, hb.frozen _⟩
    rw [Nat.zero_add, hb.cell j, Array.getElem?_eq_getElem (by omega)]
    rfl
  · rw [setCells_new, over_all _ _ hs]
    exact h
/-- A whole struct is loaded from its block. -/
theorem wp_load_blk {op : Oper} {a : Act} {w : World} {K : Act → World → Prop} {Q : Exit → Act → World → Prop} (ty : TypeId) (x : Operand) (ho : op.op = .load ty x) (g : Nat) {t : TypeId} (cs : Array Value) (hb : Blk w g t cs)
    (hx : a.eval x = .pointer (some ⟨g, 0, none⟩)) (d : TypeDesc) (hu : P.underlying ty = some d) (hd : d.isRow = true) (hi : (P.info? ty).map (·.size) = some cs.size)
    (h : K (a.put op.dst (.agg cs)) w) : op.wp P a w K Q := by
  refine wp_load_mid ty x ho g 0 hx cs.toList d (blk_range hb) hu hd (by simpa using hi) ?_
  simpa using h
theorem setCells_many (b : Nat) : ∀ (vs : List Value) (o : Nat) (w : World), w.setCells b o vs = setMany w b o vs
  | [], _, _ => rfl
  | _ :: r, o, _ => by rw [World.setCells, setMany, setCells_many b r]
theorem run_storeVar_any (w : World) (b o : Nat) (ty : TypeId) (v : Value) (ht : w.there b o v.cells.size) (hi : (P.info? ty).map (·.size) = some v.cells.size) (h1 : ∀ u ∈ v.cells.toList, u.oneCell' = true) :
    (storeVar ty ⟨b, o, none⟩ v).run P w = .ok () (w.setCells b o v.cells.toList) := by
  have := run_storeCells_cells (P := P) b o v.cells.toList 0 w (fun j hj => by simpa using (ht j (by simpa using hj)).1) (fun j hj => by simpa using (ht j (by simpa using hj)).2) h1
  cases hq : P.info? ty with
  | none => simp [hq] at hi
  | some i =>
    have hs : v.cells.size = i.size := by simp [hq] at hi; omega
    simp only [Nat.add_zero] at this
    simp [storeVar, sizeOf, typeInfo, hq, hs, this]
/-- A store into a block that is known whole: the world behind it has no other name. -/
theorem wp_store_blk {op : Oper} {a : Act} {w : World} {K : Act → World → Prop} {Q : Exit → Act → World → Prop} (ty : TypeId) (x y : Operand) (ho : op.op = .store ty x y) (g o : Nat) {t : TypeId} {cs : Array Value} (hb : Blk w g t cs) (v : Value)
    (hx : a.eval x = .pointer (some ⟨g, o, none⟩)) (hy : a.eval y = v) (hl : o + v.cells.size ≤ cs.size) (hi : (P.info? ty).map (·.size) = some v.cells.size) (h1 : ∀ u ∈ v.cells.toList, u.oneCell' = true)
    {B : Nat} {w0 : World} (hB : Below B w0 w) (hg : B ≤ g) (h : ∀ w', Blk w' g t (over cs o v.cells.toList) → Below B w0 w' → K (a.put op.dst undef) w') : op.wp P a w K Q := by
  have ht : w.there g o v.cells.size := fun j hj => by
    refine ⟨?_, hb.frozen _⟩
    rw [hb.cell (o + j), Array.getElem?_eq_getElem (by omega)]
    rfl
  unfold Oper.wp execOp
  simp only [ho, hx, hy, Instr.storeAt, Instr.sureAddr, Sem.run_bind, Sem.run_pure, Result.andThen_ok, run_storeVar_any w g o ty v ht hi h1]
  rw [setCells_many]
  exact h _ (setMany_at _ hb) (setMany_below _ hB hg)
end
end Go.Proofs.YtgjiienipeoajaaGreatDoor
