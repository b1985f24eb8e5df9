/- Parts, joined: Frames, the program's and the reference's. Condition: at most 10^8 bytes, a kind that is not 0. Rows of members, joined and parted. Plain. No condition. What commonplaceref02.Object comes to: members put where they belong. Plain. No condition. A value that may be may stand deeper, as long as it is not too deep. Plain. No condition. A text's bytes: what '[]byte(s)' makes. No condition. -/
import Derived.Test.YtjjbbnodmpemiaaGreatDoorProg
import Derived.Laws.EntriesVeiled
import Derived.LoopN
import Derived.Lib.UnsafeStr
import Derived.Lib.Strings
import Derived.Test.YtjjbbnodmpemiaaGreatDoorKPull11
import Derived.Test.YtjjbbnodmpemiaaGreatDoorKPull17
import Derived.Test.YtjjbbnodmpemiaaGreatDoorKPull22
import Derived.Test.YtjjbbnodmpemiaaGreatDoorKPull23
/- Frames, the program's and the reference's. Condition: at most 10^8 bytes, a kind that is not 0. -/
namespace Go.Proofs.YtjjbbnodmpemiaaGreatDoor
open Go.RowKit

theorem unless_calls (b : Bool) (n : Int) (w : World) : Calls Tryz.prog 95 #[.bool b, .int .i64 n] w fun e w' => e = .returned (.int .i64 (if b then 0 else n)) ∧ w = w' := by
  cases b <;> (go_enter Tryz.func95, Tryz.ntmps95; go_wp2; go_ret; exact ⟨rfl, rfl⟩)
theorem named_calls (k : UInt8) (hk : k ≠ 0) (w : World) : Calls Tryz.prog 62 #[.int .u8 k.toNat] w fun e w' => e = .returned (.int .i64 0) ∧ w = w' := by
  have h : (((k.toNat : Nat) : Int) != 0) = true := by
    simp only [bne_iff_ne, ne_eq]
    intro e
    exact hk (UInt8.toNat_inj.1 (by simpa using e))
  have hC := fun W => unless_calls true 2 W
  have HC := Lib.hid hC
  clear hC
  go_enter Tryz.func62, Tryz.ntmps62
  go_wp2_with (go_at_call 95; (with_reducible refine (HC.out _).mono ?_); rintro e w2 ⟨rfl, rfl⟩)
  go_ret
  exact ⟨rfl, rfl⟩
theorem first_named (k : UInt8) (hk : k ≠ 0) (g : Nat) (w : World) (hc : w.cell? ⟨g, 0, none⟩ = some (.func (.func 62) #[.int .u8 k.toNat] #[])) :
    Calls Tryz.prog 63 #[.slice (some ⟨g, 0, none⟩) 1 1] w fun e w' => e = .returned (.int .i64 0) ∧ w = w' := by
  have hC := fun W => named_calls k hk W
  have HC := Lib.hid hC
  clear hC
  go_enter Tryz.func63, Tryz.ntmps63
  go_wp2_with (fail)
  refine wp_loop_rounds 2 ?_
  rw [rounds_succ]
  go_wp2_with (go_at_call 62; (with_reducible refine (HC.out _).mono ?_); rintro e w2 ⟨rfl, rfl⟩)
  rw [rounds_succ]
  go_wp2
  go_ret
  exact ⟨rfl, rfl⟩

theorem joined_calls (k : UInt8) (l : List UInt8) (a : Option Addr) (n c : Nat) (w : World) (h : Holds w w.heap.size (.row 1 (dB l)) [.slice a n c]) (hl : l.length ≤ 1000000000) :
    Calls Tryz.prog 65 #[.slice a n c, .int .u8 k.toNat] w (BytesPost (k :: l) w) := by
  obtain ⟨hn, hR⟩ := dB_reads h
  subst hn
  have hR0 := hR.alloc (Nat.le_refl _) (.cells #[.int .u8 k.toNat] 5)
  have hown0 : (w.alloc (.cells #[.int .u8 k.toNat] 5)).ownsRow w.heap.size 5 1 (.slice (some ⟨w.heap.size, 0, none⟩) 1 1) [k].length (bcells [k]) := World.ownsRow_lit w #[.int .u8 k.toNat] 1 (Nat.le_refl _) (by simp [maxLen]) rfl
  have H := Lib.hid h
  have HR := Lib.hid hR
  have HR0 := Lib.hid hR0
  have Hown0 := Lib.hid hown0
  clear h hR hR0 hown0
  go_enter Tryz.func65, Tryz.ntmps65
  go_wp2_with (at_builtin; refine wpList_append_by rfl (.tmp 6) (.tmp 7) 35 108 5 rfl Tryz.underlying35 Tryz.underlying108 w.heap.size (.slice (some ⟨w.heap.size, 0, none⟩) 1 1) [k] rfl Hown0.out _ a _ c l rfl HR0.out (by simp; omega) (by simp) ?_; intro v1 w1 hown1 hg1 hat1)
  have hb1 : Below w.heap.size w w1 := ((Below.refl _ _).alloc (Nat.le_refl _) _).grown hg1 (by simp) (by simp [Value.ownBlock])
  have hF := BytesPost.of (l := k :: l) hown1 hb1
  go_ret
  exact hF

/-- Bytes of the call's own, given back with no error. -/
def BytesPost0 (l : List UInt8) (w : World) (e : Ending) (w' : World) : Prop := ∃ a c, e = .returned (.tuple #[.slice a l.length c, .int .i64 0]) ∧ Fresh w.heap.size w' (.row 1 (dB l)) [.slice a l.length c] ∧ Below w.heap.size w w'

set_option maxHeartbeats 1000000 in
theorem frame_calls (k : UInt8) (hk : k ≠ 0) (l : List UInt8) (a : Option Addr) (n c : Nat) (w : World) (h : Holds w w.heap.size (.row 1 (dB l)) [.slice a n c]) (hl : l.length ≤ 900000000) :
    Calls Tryz.prog 39 #[.int .u8 k.toNat, .slice a n c] w (BytesPost0 (sealL (k :: l)) w) := by
  have hF := fun W g hc => first_named k hk g W hc
  have hb0 : ∀ o o', Below w.heap.size w ((w.alloc o).alloc o') := fun o o' => ((Below.refl _ _).alloc (Nat.le_refl _) _).alloc (by simp) _
  have hJ := fun (W : World) hb => joined_calls k l a n c W ((h.below (w' := W) hb).more hb.size) (by omega)
  have hl' : (k :: l).length ≤ 1000000000 := by simp; omega
  generalize k :: l = L at hJ hl' ⊢
  have HF := Lib.hid hF
  have HJ := Lib.hid hJ
  have H := Lib.hid h
  clear hF hJ h
  go_enter Tryz.func39, Tryz.ntmps39
  go_wp2_with (fail)
  go_at_call 63
  with_reducible refine (HF.out _ _ ?_).mono ?_
  · simp
  rintro e w2 ⟨rfl, rfl⟩
  go_wp2_with (fail)
  (with_reducible refine (HJ.out _ (hb0 _ _)).mono ?_); rintro e w2 ⟨a1, c1, rfl, hf1, hb1⟩
  go_wp2_with (fail)
  (with_reducible refine (seal_calls L a1 _ c1 _ hf1.now hl').mono ?_); rintro e w3 ⟨a2, c2, rfl, hf2, hb2⟩
  go_wp2
  go_ret2
  have hz1 := hb1.size
  refine ⟨a2, c2, rfl, hf2.keep (by simp at hz1; omega) (Nat.le_refl _) (fun _ _ _ => rfl), ((hb0 _ _).trans (hb1.mono (by simp; omega))).trans (hb2.mono (by simp at hz1; omega))⟩

theorem rframe_calls (k : UInt8) (hk : k ≠ 0) (l : List UInt8) (a : Option Addr) (n c : Nat) (w : World) (h : Holds w w.heap.size (.row 1 (dB l)) [.slice a n c]) (hl : l.length ≤ 900000000) :
    Calls Tryz.prog 24 #[.int .u8 k.toNat, .slice a n c] w (BytesPost0 (sealL (k :: l)) w) := by
  obtain ⟨hn, hR⟩ := dB_reads h
  subst hn
  have hne : (((k.toNat : Nat) : Int) == 0) = false := by
    simp only [beq_eq_false_iff_ne, ne_eq]
    intro e
    exact hk (UInt8.toNat_inj.1 (by simpa using e))
  have hR0 := hR.alloc (Nat.le_refl _) (.cells #[.int .u8 k.toNat] 5)
  have hown0 : (w.alloc (.cells #[.int .u8 k.toNat] 5)).ownsRow w.heap.size 5 1 (.slice (some ⟨w.heap.size, 0, none⟩) 1 1) [k].length (bcells [k]) := World.ownsRow_lit w #[.int .u8 k.toNat] 1 (Nat.le_refl _) (by simp [maxLen]) rfl
  have hl' : (k :: l).length ≤ 1000000000 := by simp; omega
  obtain ⟨L, hL⟩ : ∃ L, k :: l = L := ⟨_, rfl⟩
  rw [hL] at hl' ⊢
  have H := Lib.hid h
  have HR := Lib.hid hR
  have HR0 := Lib.hid hR0
  have Hown0 := Lib.hid hown0
  have HL := Lib.hid hL
  clear h hR hR0 hown0 hL
  go_enter Tryz.func24, Tryz.ntmps24
  go_wp2_with (at_builtin; refine wpList_append_by rfl (.tmp 9) (.tmp 10) 35 35 5 rfl Tryz.underlying35 Tryz.underlying35 w.heap.size (.slice (some ⟨w.heap.size, 0, none⟩) 1 1) [k] rfl Hown0.out _ a _ c l rfl HR0.out (by simp; omega) (by simp) ?_; intro v1 w1 hown1 hg1 hat1)
  have hb1 : Below w.heap.size w w1 := ((Below.refl _ _).alloc (Nat.le_refl _) _).grown hg1 (by simp) (by simp [Value.ownBlock])
  rw [show [k] ++ l = L from HL.out] at hown1
  obtain ⟨a1, c1, rfl, hf1⟩ := own_bytes (l := L) hown1
  have hz1 := hb1.size
  clear hown1 hg1 hat1
  go_wp2_with (go_at_call 40; (with_reducible refine (rseal_calls L a1 _ c1 _ hf1.now hl').mono ?_); rintro e w3 ⟨a2, c2, rfl, hf2, hb2⟩)
  go_ret2
  exact ⟨a2, c2, rfl, hf2.keep hz1 (Nat.le_refl _) (fun _ _ _ => rfl), hb1.trans (hb2.mono hz1)⟩
end Go.Proofs.YtjjbbnodmpemiaaGreatDoor

/- Rows of members, joined and parted. Plain. No condition. -/
namespace Go.Proofs.YtjjbbnodmpemiaaGreatDoor
open Go.RowKit

theorem RowO.app {w : World} {B : Nat} : ∀ {a b : List (ByteArray × Val)} {ns ms : List Value}, RowO w B a ns → RowO w B b ms → RowO w B (a ++ b) (ns ++ ms)
  | [], b, ns, ms, h, h' => by
    have : ns = [] := h
    subst this
    exact h'
  | (k, v) :: r, b, ns, ms, ⟨cs, rest, e, h1, h2⟩, h' => by
    subst e
    exact ⟨cs, rest ++ ms, by simp, h1, RowO.app h2 h'⟩
theorem RowO.len {w : World} {B : Nat} : ∀ {l : List (ByteArray × Val)} {ns : List Value}, RowO w B l ns → ns.length = l.length * 7 ∧ ∀ u ∈ ns, u.oneCell' = true
  | [], ns, h => by
    have : ns = [] := h
    subst this
    exact ⟨rfl, fun u hu => by cases hu⟩
  | (k, v) :: r, ns, ⟨cs, rest, e, h1, h2⟩ => by
    subst e
    obtain ⟨a1, a2⟩ := h1.len
    obtain ⟨b1, b2⟩ := RowO.len h2
    refine ⟨by rw [List.length_cons, List.length_append, a1, b1, List.length_cons]; omega, fun u hu => ?_⟩
    rcases List.mem_cons.1 hu with rfl | hu
    · rfl
    rcases List.mem_append.1 hu with hu | hu
    · exact a2 u hu
    · exact b2 u hu
theorem RowO.split {w : World} {B : Nat} : ∀ {l : List (ByteArray × Val)} {ns : List Value} (k : Nat), RowO w B l ns → RowO w B (l.take k) (ns.take (k * 7)) ∧ RowO w B (l.drop k) (ns.drop (k * 7))
  | [], ns, k, h => by
    have : ns = [] := h
    subst this
    simp [RowO]
  | (key, v) :: r, ns, 0, h => by
    simp only [List.take_zero, Nat.zero_mul, List.drop_zero]
    exact ⟨rfl, h⟩
  | (key, v) :: r, ns, k + 1, ⟨cs, rest, e, h1, h2⟩ => by
    subst e
    obtain ⟨a, b⟩ := RowO.split k h2
    have hl := h1.len.1
    have e1 : (Value.string key :: (cs ++ rest)).take ((k + 1) * 7) = .string key :: (cs ++ rest.take (k * 7)) := by
      rw [show (k + 1) * 7 = (6 + k * 7) + 1 from by omega, List.take_succ_cons, List.take_append, hl, List.take_of_length_le (by omega), show 6 + k * 7 - 6 = k * 7 from by omega]
    have e2 : (Value.string key :: (cs ++ rest)).drop ((k + 1) * 7) = rest.drop (k * 7) := by
      rw [show (k + 1) * 7 = (6 + k * 7) + 1 from by omega, List.drop_succ_cons, List.drop_append, hl, List.drop_eq_nil_of_le (by omega), show 6 + k * 7 - 6 = k * 7 from by omega, List.nil_append]
    rw [e1, e2]
    exact ⟨⟨cs, rest.take (k * 7), rfl, h1, a⟩, b⟩
theorem bulkO_app : ∀ (a b : List (ByteArray × Val)), bulkO (a ++ b) = bulkO a + bulkO b
  | [], b => by simp [bulkO]
  | x :: r, b => by simp only [List.cons_append, bulkO, bulkO_app r b]; omega
theorem inO_app : ∀ {a b : List (ByteArray × Val)}, inO a → inO b → inO (a ++ b)
  | [], _, _, h => h
  | x :: r, b, h, h' => by
    simp only [List.cons_append, inO] at h ⊢
    exact ⟨h.1, inO_app h.2 h'⟩

end Go.Proofs.YtjjbbnodmpemiaaGreatDoor

/- What commonplaceref02.Object comes to: members put where they belong. Plain. No condition. -/
namespace Go.Proofs.YtjjbbnodmpemiaaGreatDoor
open Go.RowKit

def ltB (a b : ByteArray) : Bool := Op.bytesLess a.toList b.toList

/-- Where a key belongs: how many at the front have a less one. -/
def atO (k : ByteArray) : List (ByteArray × Val) → Nat
  | [] => 0
  | p :: r => if ltB p.1 k then atO k r + 1 else 0
/-- Is that key at its place already? -/
def hitO (k : ByteArray) (acc : List (ByteArray × Val)) : Bool := (acc[atO k acc]?).any fun p => p.1.toList == k.toList
def putO (m : ByteArray × Val) (acc : List (ByteArray × Val)) : List (ByteArray × Val) := acc.take (atO m.1 acc) ++ ([m] ++ acc.drop (atO m.1 acc))
/-- All members put, one behind the other; none where a key comes twice. -/
def objAll : List (ByteArray × Val) → List (ByteArray × Val) → Option (List (ByteArray × Val))
  | [], acc => some acc
  | m :: r, acc => if hitO m.1 acc then none else objAll r (putO m acc)

theorem atO_le (k : ByteArray) : ∀ acc, atO k acc ≤ acc.length
  | [] => Nat.zero_le _
  | p :: r => by
    have := atO_le k r
    simp only [atO, List.length_cons]
    split <;> omega
theorem atO_lt (k : ByteArray) : ∀ {acc : List (ByteArray × Val)} {j : Nat} {p : ByteArray × Val}, j < atO k acc → acc[j]? = some p → ltB p.1 k = true
  | [], j, p, h, hp => by simp at hp
  | q :: r, 0, p, h, hp => by
    simp only [atO] at h
    simp only [List.getElem?_cons_zero, Option.some.injEq] at hp
    subst hp
    by_cases hq : ltB q.1 k = true
    · exact hq
    · rw [if_neg hq] at h; omega
  | q :: r, j + 1, p, h, hp => by
    simp only [atO] at h
    by_cases hq : ltB q.1 k = true
    · rw [if_pos hq] at h
      exact atO_lt k (acc := r) (j := j) (by omega) (by simpa using hp)
    · rw [if_neg hq] at h; omega
theorem atO_at (k : ByteArray) : ∀ {acc : List (ByteArray × Val)} {p : ByteArray × Val}, acc[atO k acc]? = some p → ltB p.1 k = false
  | [], p, hp => by simp at hp
  | q :: r, p, hp => by
    by_cases hq : ltB q.1 k = true
    · simp only [atO, if_pos hq, List.getElem?_cons_succ] at hp
      exact atO_at k hp
    · simp only [atO, if_neg hq, List.getElem?_cons_zero, Option.some.injEq] at hp
      subst hp
      simpa using hq
theorem putO_len (m : ByteArray × Val) (acc : List (ByteArray × Val)) : (putO m acc).length = acc.length + 1 := by
  have := atO_le m.1 acc
  simp only [putO, List.length_append, List.length_take, List.length_drop, List.length_cons, List.length_nil]
  omega
theorem bulkO_put (m : ByteArray × Val) (acc : List (ByteArray × Val)) : bulkO (putO m acc) = bulkO acc + bulkP m := by
  have h := congrArg bulkO (List.take_append_drop (atO m.1 acc) acc)
  rw [bulkO_app] at h
  simp only [putO, bulkO_app, bulkO]
  omega
theorem inO_take : ∀ {l : List (ByteArray × Val)} (k : Nat), inO l → inO (l.take k)
  | [], k, _ => by simp [inO]
  | _ :: _, 0, _ => by simp [inO]
  | x :: r, k + 1, h => by
    simp only [List.take_succ_cons, inO] at h ⊢
    exact ⟨h.1, inO_take k h.2⟩
theorem inO_drop : ∀ {l : List (ByteArray × Val)} (k : Nat), inO l → inO (l.drop k)
  | [], k, _ => by simp [inO]
  | _ :: _, 0, h => h
  | x :: r, k + 1, h => by
    simp only [List.drop_succ_cons, inO] at h ⊢
    exact inO_drop k h.2
theorem inO_put {m : ByteArray × Val} {acc : List (ByteArray × Val)} (h : inO acc) (hm : inV m.2) : inO (putO m acc) := by
  obtain ⟨k, v⟩ := m
  exact inO_app (inO_take _ h) (inO_app ⟨hm, trivial⟩ (inO_drop _ h))
theorem objAll_bulk : ∀ {l acc o : List (ByteArray × Val)}, objAll l acc = some o → bulkO o = bulkO acc + bulkO l
  | [], acc, o, h => by
    simp only [objAll, Option.some.injEq] at h
    subst h
    simp [bulkO]
  | m :: r, acc, o, h => by
    simp only [objAll] at h
    by_cases hh : hitO m.1 acc = true
    · rw [if_pos hh] at h; cases h
    · rw [if_neg hh] at h
      rw [objAll_bulk h, bulkO_put]
      simp only [bulkO]
      omega
theorem objAll_in : ∀ {l acc o : List (ByteArray × Val)}, objAll l acc = some o → inO acc → inO l → inO o
  | [], acc, o, h, ha, _ => by
    simp only [objAll, Option.some.injEq] at h
    exact h ▸ ha
  | (k, v) :: r, acc, o, h, ha, hl => by
    simp only [objAll] at h
    by_cases hh : hitO k acc = true
    · rw [if_pos hh] at h; cases h
    · rw [if_neg hh] at h
      exact objAll_in h (inO_put ha hl.1) hl.2

end Go.Proofs.YtjjbbnodmpemiaaGreatDoor

/- A value that may be may stand deeper, as long as it is not too deep. Plain. No condition. -/
namespace Go.Proofs.YtjjbbnodmpemiaaGreatDoor
open Go.RowKit

theorem mayL_deeper : ∀ {l : List Val}, (∀ v ∈ l, ∀ d d' : Int, mayV v d' = 0 → d + deepV v ≤ 65 → mayV v d = 0) → ∀ {d d' : Int}, mayL l d' = 0 → (l = [] ∨ d + deepL l ≤ 65) → mayL l d = 0
  | [], _, _, _, _, _ => by simp [mayL]
  | v :: r, ih, d, d', h, hd => by
    have hd := hd.resolve_left (by simp)
    simp only [deepL] at hd
    simp only [mayL] at h ⊢
    by_cases h0 : mayV v d' = 0
    · rw [if_pos h0] at h
      rw [if_pos (ih v (by simp) d d' h0 (by omega))]
      exact mayL_deeper (fun x hx => ih x (by simp [hx])) h (.inr (by omega))
    · rw [if_neg h0] at h
      exact absurd h h0
theorem mayO_deeper : ∀ {l : List (ByteArray × Val)}, (∀ m ∈ l, ∀ d d' : Int, mayV m.2 d' = 0 → d + deepV m.2 ≤ 65 → mayV m.2 d = 0) → ∀ {last : Option ByteArray} {d d' : Int}, mayO l last d' = 0 → (l = [] ∨ d + deepO l ≤ 65) → mayO l last d = 0
  | [], _, _, _, _, _, _ => by simp [mayO]
  | (key, v) :: r, ih, last, d, d', h, hd => by
    have hd := hd.resolve_left (by simp)
    simp only [deepO, deepP] at hd
    simp only [mayO] at h ⊢
    by_cases h0 : mayP (key, v) last d' = 0
    · rw [if_pos h0] at h
      have h1 : mayP (key, v) last d = 0 := by
        simp only [mayP] at h0 ⊢
        by_cases hv : validB key = true
        · rw [if_pos hv] at h0 ⊢
          cases last with
          | none => exact ih (key, v) (by simp) d d' h0 (by simp only; omega)
          | some q =>
            simp only at h0 ⊢
            by_cases hl : leB key q = true
            · rw [if_pos hl] at h0; cases h0
            · rw [if_neg hl] at h0 ⊢
              exact ih (key, v) (by simp) d d' h0 (by simp only; omega)
        · rw [if_neg hv] at h0; cases h0
      rw [if_pos h1]
      exact mayO_deeper (fun x hx => ih x (by simp [hx])) h (.inr (by omega))
    · rw [if_neg h0] at h
      exact absurd h h0
theorem mayV_deeper : ∀ (v : Val) (d d' : Int), mayV v d' = 0 → d + deepV v ≤ 65 → mayV v d = 0 := by
  refine Val.ind ?_
  intro k b n t l o hl ho d d' h hd
  obtain ⟨h1, _, h3, h4, h5⟩ := mayV_parts h
  obtain ⟨_, _, k5, k6⟩ := odd_parts h1
  simp only [deepV] at hd
  have hL : mayL l (d + 1) = 0 := by
    refine mayL_deeper hl h4 ?_
    rcases k5 with e | e
    · rw [if_pos e] at hd; exact .inr (by omega)
    · exact .inl (List.length_eq_zero_iff.1 e)
  have hO : mayO o none (d + 1) = 0 := by
    refine mayO_deeper ho h5 ?_
    rcases k6 with e | e
    · rw [if_neg (by omega), if_pos e] at hd; exact .inr (by omega)
    · exact .inl (List.length_eq_zero_iff.1 e)
  have h64 : ¬ 64 < d := by
    have : 0 ≤ (if k = 5 then deepL l else if k = 6 then deepO o else 0) := Nat.zero_le _
    omega
  simp only [mayV]
  rw [if_neg (by rw [h1]; simp), if_neg h64, if_pos h3, if_pos hL, hO]
end Go.Proofs.YtjjbbnodmpemiaaGreatDoor

/- A text's bytes: what '[]byte(s)' makes. No condition. -/
namespace Go.Proofs.YtjjbbnodmpemiaaGreatDoor
open Go Go.RowKit

theorem cell_freeze (w : World) (a : Addr) (n : Nat) (p : Addr) : (w.freeze a n).cell? p = w.cell? p := by
  unfold World.freeze
  split
  · rfl
  · unfold World.cell?
    simp only [Array.getElem?_modify]
    by_cases h : a.block = p.block
    · rw [if_pos h]
      cases hw : w.heap[p.block]? with
      | none => rfl
      | some o => cases o <;> rfl
    · rw [if_neg h]
theorem size_freeze (w : World) (a : Addr) (n : Nat) : (w.freeze a n).heap.size = w.heap.size := by
  unfold World.freeze
  split
  · rfl
  · simp
theorem run_to_bytes {P : Program} (src dst e : TypeId) (hs : P.underlying src = some .string) (hd : P.underlying dst = some (.slice e)) (he : P.underlying e = some (.int .u8)) (s : ByteArray) (w : World) :
    ∃ cap w', (convert src dst (.string s)).run P w = .ok (.slice (some ⟨w.heap.size, 0, none⟩) s.size cap) w' ∧ Below w.heap.size w w' ∧ w'.heap.size = w.heap.size + 1 ∧
      ∀ (j : Nat) (x : UInt8), s.data.toList[j]? = some x → w'.cell? ⟨w.heap.size, j, none⟩ = some (.int .u8 x.toNat) := by
  have key : ∀ (W : World) (cap : Nat), Below w.heap.size w W → W.heap.size = w.heap.size → ∃ w', (do let a ← newRow e (s.data.map (fun b => Value.int .u8 b.toNat) ++ Array.replicate (cap - s.size) (.int .u8 0)); markStringish a; pure (Value.slice (some a) s.size cap) : Sem Value).run P W = .ok (.slice (some ⟨w.heap.size, 0, none⟩) s.size cap) w' ∧ Below w.heap.size w w' ∧ w'.heap.size = w.heap.size + 1 ∧
      ∀ (j : Nat) (x : UInt8), s.data.toList[j]? = some x → w'.cell? ⟨w.heap.size, j, none⟩ = some (.int .u8 x.toNat) := by
    intro W cap hB hz
    obtain ⟨C, hC⟩ : ∃ C, s.data.map (fun b => Value.int .u8 b.toNat) ++ Array.replicate (cap - s.size) (.int .u8 0) = C := ⟨_, rfl⟩
    rw [hC]
    have hB1 : Below w.heap.size w (W.alloc (.cells C e)) := hB.alloc (by omega) _
    have hn := heap_alloc_new W (.cells C e)
    have hsh : (W.alloc (.cells C e)).shape? W.heap.size = some (e, C.size) := by unfold World.shape?; rw [hn]
    refine ⟨(W.alloc (.cells C e)).freeze ⟨W.heap.size, C.size, none⟩ 1, ?_, Lib.below_freeze hB1 (by simp [hz]) _, by rw [size_freeze]; simp [hz], fun j x hx => ?_⟩
    · have hnew : Sem.run P (newRow e C) W = .ok ⟨W.heap.size, 0, none⟩ (W.alloc (.cells C e)) := rfl
      simp only [Sem.run_bind, hnew, Result.andThen_ok, markStringish, run_shape, hsh, run_freeze, Sem.run_pure]
      rw [hz]
    · rw [cell_freeze, ← hz, cell_of_row _ _ _ _ _ _ hn, ← hC]
      have hj := (List.getElem?_eq_some_iff.1 hx).1
      rw [Array.getElem?_append_left (by simpa using hj), Array.getElem?_map]
      rw [← Array.getElem?_toList, hx]; rfl
  by_cases hf : (Question.appendCap s.size 0 e).forced = true
  · obtain ⟨w', h1, h2⟩ := key w 0 (Below.refl _ _) rfl
    refine ⟨0, w', ?_, h2⟩
    rw [← h1]
    simp [convert, run_underlying hs, run_underlying hd, run_underlying he, Conv.stringToBytes, hf]
  · obtain ⟨w', h1, h2⟩ := key w.drew ((Question.appendCap s.size 0 e).cut (w.tape w.drawn (Question.appendCap s.size 0 e))) (Below.refl _ _).drew rfl
    refine ⟨((Question.appendCap s.size 0 e).cut (w.tape w.drawn (Question.appendCap s.size 0 e))), w', ?_, h2⟩
    rw [← h1]
    simp [convert, run_underlying hs, run_underlying hd, run_underlying he, Conv.stringToBytes, hf]
theorem dB_fresh {b g : Nat} {w' : World} {l : List UInt8} {n cap : Nat} (hn : n = l.length) (hg : b ≤ g) (hlt : g < w'.heap.size) (h : ∀ (j : Nat) (x : UInt8), l[j]? = some x → w'.cell? ⟨g, j, none⟩ = some (.int .u8 x.toNat)) : Fresh b w' (.row 1 (dB l)) [.slice (some ⟨g, 0, none⟩) n cap] := by
  subst hn
  intro w'' k1 k2
  refine ⟨_, cap, by rw [dB_len], dB_cells _, bcells l, dB_holds _ _ _, .inr ⟨g, 0, rfl, hlt, fun j u hu => ?_⟩⟩
  rw [k2 _ hg hlt, Nat.zero_add]
  unfold bcells at hu
  rw [List.getElem?_map] at hu
  obtain ⟨x, hx, rfl⟩ := Option.map_eq_some_iff.1 hu
  exact h j x hx
/-- '[]byte(s)'. -/
theorem wpList_to_bytes {P : Program} {ops : Array Oper} {rest : List Oper} {o : Oper} {a : Act} {w : World} {Q : Exit → Act → World → Prop} (hgd : o.guard = none) (src dst e : TypeId) (x : Operand)
    (ho : o.op = .convert src dst x) (hs : P.underlying src = some .string) (hd : P.underlying dst = some (.slice e)) (he : P.underlying e = some (.int .u8)) (s : ByteArray) (hx : a.eval x = .string s)
    (h : ∀ cap w', Below w.heap.size w w' → Fresh w.heap.size w' (.row 1 (dB s.data.toList)) [.slice (some ⟨w.heap.size, 0, none⟩) s.size cap] → wpList P ops Q rest (a.put o.dst (.slice (some ⟨w.heap.size, 0, none⟩) s.size cap)) w') : wpList P ops Q (o :: rest) a w :=
  wpList_plain hgd fun K hK => by
    obtain ⟨cap, w', h1, h2, h3, h4⟩ := run_to_bytes src dst e hs hd he s w
    unfold Oper.wp execOp
    simp only [ho, hx, Sem.run_bind, Sem.run_pure, Result.andThen_ok, h1]
    exact hK _ _ (h cap w' h2 (dB_fresh (Lib.size_eq s) (Nat.le_refl _) (by omega) h4))
end Go.Proofs.YtjjbbnodmpemiaaGreatDoor
