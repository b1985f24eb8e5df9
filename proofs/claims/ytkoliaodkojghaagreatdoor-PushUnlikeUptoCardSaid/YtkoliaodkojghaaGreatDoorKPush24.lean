/- Parts, joined: Small laws of worlds and of comparisons. Plain. No condition. Rows of members, joined and parted. Plain. No condition. commonplaceref01.Code: an escape's rune. No condition. When a value has nothing. Plain. No condition. Frames, the program's and the reference's. Condition: at most 10^8 bytes, a kind that is not 0. -/
import Derived.WalkKit
import Derived.Below
import Derived.Lib.Hide
import Derived.Test.YtkoliaodkojghaaGreatDoorProg
import Derived.Lib.RuneBytes
import Derived.IntWalk
import Derived.Laws.IdiomStrings
import Derived.Laws.EntriesVeiled
import Derived.LoopN
import Derived.Test.YtkoliaodkojghaaGreatDoorKPush3
import Derived.Test.YtkoliaodkojghaaGreatDoorKPush20
import Derived.Test.YtkoliaodkojghaaGreatDoorKPush23
/- Small laws of worlds and of comparisons. Plain. No condition. -/
namespace Go.Proofs.YtkoliaodkojghaaGreatDoor
open Go.RowKit

theorem alloc_below (w : World) (o : Obj) : Below w.heap.size w (w.alloc o) := (Below.refl _ _).alloc (Nat.le_refl _) _
theorem beq_cast (n : Nat) : ((n : Int) == 0) = decide (n = 0) := by rw [Bool.eq_iff_iff]; simp
theorem bne_dec (a b : Int) : (a != b) = decide (a ≠ b) := by rw [Bool.eq_iff_iff]; simp
theorem beq_dec (a b : Int) : (a == b) = decide (a = b) := by rw [Bool.eq_iff_iff]; simp
theorem bcellM {W w1 : World} (hb : Below W.heap.size W w1) : (∀ b o, b < W.heap.size → w1.cell? ⟨b, o, none⟩ = W.cell? ⟨b, o, none⟩) ∧ (∀ b o, b < W.heap.size → w1.frozen? ⟨b, o, none⟩ = W.frozen? ⟨b, o, none⟩) :=
  ⟨fun b o h => hb.cell (p := ⟨b, o, none⟩) h, fun b o h => hb.frozen (p := ⟨b, o, none⟩) h⟩
end Go.Proofs.YtkoliaodkojghaaGreatDoor

/- Rows of members, joined and parted. Plain. No condition. -/
namespace Go.Proofs.YtkoliaodkojghaaGreatDoor
open Go.RowKit

theorem RowO.app {w : World} {B : Nat} : ∀ {a b : List (ByteArray × Val)} {ns ms : List Value}, RowO w B a ns → RowO w B b ms → RowO w B (a ++ b) (ns ++ ms)
  | [], b, ns, ms, h, h' => by
    have : ns = [] := h
    subst this
    exact h'
  | (k, v) :: r, b, ns, ms, ⟨cs, rest, e, h1, h2⟩, h' => by
    subst e
    exact ⟨cs, rest ++ ms, by simp, h1, RowO.app h2 h'⟩
theorem RowO.len {w : World} {B : Nat} : ∀ {l : List (ByteArray × Val)} {ns : List Value}, RowO w B l ns → ns.length = l.length * 7 ∧ ∀ u ∈ ns, u.oneCell' = true
  | [], ns, h => by
    have : ns = [] := h
    subst this
    exact ⟨rfl, fun u hu => by cases hu⟩
  | (k, v) :: r, ns, ⟨cs, rest, e, h1, h2⟩ => by
    subst e
    obtain ⟨a1, a2⟩ := h1.len
    obtain ⟨b1, b2⟩ := RowO.len h2
    refine ⟨by rw [List.length_cons, List.length_append, a1, b1, List.length_cons]; omega, fun u hu => ?_⟩
    rcases List.mem_cons.1 hu with rfl | hu
    · rfl
    rcases List.mem_append.1 hu with hu | hu
    · exact a2 u hu
    · exact b2 u hu
theorem RowO.split {w : World} {B : Nat} : ∀ {l : List (ByteArray × Val)} {ns : List Value} (k : Nat), RowO w B l ns → RowO w B (l.take k) (ns.take (k * 7)) ∧ RowO w B (l.drop k) (ns.drop (k * 7))
  | [], ns, k, h => by
    have : ns = [] := h
    subst this
    simp [RowO]
  | (key, v) :: r, ns, 0, h => by
    simp only [List.take_zero, Nat.zero_mul, List.drop_zero]
    exact ⟨rfl, h⟩
  | (key, v) :: r, ns, k + 1, ⟨cs, rest, e, h1, h2⟩ => by
    subst e
    obtain ⟨a, b⟩ := RowO.split k h2
    have hl := h1.len.1
    have e1 : (Value.string key :: (cs ++ rest)).take ((k + 1) * 7) = .string key :: (cs ++ rest.take (k * 7)) := by
      rw [show (k + 1) * 7 = (6 + k * 7) + 1 from by omega, List.take_succ_cons, List.take_append, hl, List.take_of_length_le (by omega), show 6 + k * 7 - 6 = k * 7 from by omega]
    have e2 : (Value.string key :: (cs ++ rest)).drop ((k + 1) * 7) = rest.drop (k * 7) := by
      rw [show (k + 1) * 7 = (6 + k * 7) + 1 from by omega, List.drop_succ_cons, List.drop_append, hl, List.drop_eq_nil_of_le (by omega), show 6 + k * 7 - 6 = k * 7 from by omega, List.nil_append]
    rw [e1, e2]
    exact ⟨⟨cs, rest.take (k * 7), rfl, h1, a⟩, b⟩
theorem bulkO_app : ∀ (a b : List (ByteArray × Val)), bulkO (a ++ b) = bulkO a + bulkO b
  | [], b => by simp [bulkO]
  | x :: r, b => by simp only [List.cons_append, bulkO, bulkO_app r b]; omega
theorem inO_app : ∀ {a b : List (ByteArray × Val)}, inO a → inO b → inO (a ++ b)
  | [], _, _, h => h
  | x :: r, b, h, h' => by
    simp only [List.cons_append, inO] at h ⊢
    exact ⟨h.1, inO_app h.2 h'⟩

end Go.Proofs.YtkoliaodkojghaaGreatDoor

/- commonplaceref01.Code: an escape's rune. No condition. -/
namespace Go.Proofs.YtkoliaodkojghaaGreatDoor
open Go.RowKit

/-- What the k-th escape's letter stands for. -/
def codeTab : List Int := [34, 92, 47, 8, 12, 10, 13, 9]

set_option maxHeartbeats 1000000 in
theorem RCode_calls (k : Nat) (c : Int) (h : codeTab[k]? = some c) (w : World) :
    Calls Tryz.prog 84 #[.int .i64 k] w fun e w' => e = .returned (.int .i64 c) ∧ Below w.heap.size w w' := by
  have hk : k < 8 := (List.getElem?_eq_some_iff.1 h).1
  rcases (by omega : k = 0 ∨ k = 1 ∨ k = 2 ∨ k = 3 ∨ k = 4 ∨ k = 5 ∨ k = 6 ∨ k = 7) with rfl | rfl | rfl | rfl | rfl | rfl | rfl | rfl
  all_goals
    (obtain rfl := Option.some.inj h
     clear h hk
     go_enter Tryz.func84, Tryz.ntmps84
     go_wp2
     go_ret
     exact ⟨rfl, (Below.refl _ _).alloc (Nat.le_refl _) _⟩)

end Go.Proofs.YtkoliaodkojghaaGreatDoor

/- When a value has nothing. Plain. No condition. -/
namespace Go.Proofs.YtkoliaodkojghaaGreatDoor
open Go.RowKit
/-- Has a value nothing, not even a Kind? -/
def zero6B (k : Int) (b : Bool) (n : Int) (t : ByteArray) (ln on : Nat) : Bool := decide (k = 0) && !b && decide (n = 0) && t.toList.isEmpty && decide (ln = 0) && decide (on = 0)
end Go.Proofs.YtkoliaodkojghaaGreatDoor

/- Frames, the program's and the reference's. Condition: at most 10^8 bytes, a kind that is not 0. -/
namespace Go.Proofs.YtkoliaodkojghaaGreatDoor
open Go.RowKit

theorem unless_calls (b : Bool) (n : Int) (w : World) : Calls Tryz.prog 79 #[.bool b, .int .i64 n] w fun e w' => e = .returned (.int .i64 (if b then 0 else n)) ∧ w = w' := by
  cases b <;> (go_enter Tryz.func79, Tryz.ntmps79; go_wp2; go_ret; exact ⟨rfl, rfl⟩)
theorem named_calls (k : UInt8) (hk : k ≠ 0) (w : World) : Calls Tryz.prog 39 #[.int .u8 k.toNat] w fun e w' => e = .returned (.int .i64 0) ∧ w = w' := by
  have h : (((k.toNat : Nat) : Int) != 0) = true := by
    simp only [bne_iff_ne, ne_eq]
    intro e
    exact hk (UInt8.toNat_inj.1 (by simpa using e))
  have hC := fun W => unless_calls true 2 W
  have HC := Lib.hid hC
  clear hC
  go_enter Tryz.func39, Tryz.ntmps39
  go_wp2_with (go_at_call 79; (with_reducible refine (HC.out _).mono ?_); rintro e w2 ⟨rfl, rfl⟩)
  go_ret
  exact ⟨rfl, rfl⟩
theorem first_named (k : UInt8) (hk : k ≠ 0) (g : Nat) (w : World) (hc : w.cell? ⟨g, 0, none⟩ = some (.func (.func 39) #[.int .u8 k.toNat] #[])) :
    Calls Tryz.prog 40 #[.slice (some ⟨g, 0, none⟩) 1 1] w fun e w' => e = .returned (.int .i64 0) ∧ w = w' := by
  have hC := fun W => named_calls k hk W
  have HC := Lib.hid hC
  clear hC
  go_enter Tryz.func40, Tryz.ntmps40
  go_wp2_with (fail)
  refine wp_loop_rounds 2 ?_
  rw [rounds_succ]
  go_wp2_with (go_at_call 39; (with_reducible refine (HC.out _).mono ?_); rintro e w2 ⟨rfl, rfl⟩)
  rw [rounds_succ]
  go_wp2
  go_ret
  exact ⟨rfl, rfl⟩

theorem joined_calls (k : UInt8) (l : List UInt8) (a : Option Addr) (n c : Nat) (w : World) (h : Holds w w.heap.size (.row 1 (dB l)) [.slice a n c]) (hl : l.length ≤ 1000000000) :
    Calls Tryz.prog 42 #[.slice a n c, .int .u8 k.toNat] w (BytesPost (k :: l) w) := by
  obtain ⟨hn, hR⟩ := dB_reads h
  subst hn
  have hR0 := hR.alloc (Nat.le_refl _) (.cells #[.int .u8 k.toNat] 5)
  have hown0 : (w.alloc (.cells #[.int .u8 k.toNat] 5)).ownsRow w.heap.size 5 1 (.slice (some ⟨w.heap.size, 0, none⟩) 1 1) [k].length (bcells [k]) := World.ownsRow_lit w #[.int .u8 k.toNat] 1 (Nat.le_refl _) (by simp [maxLen]) rfl
  have H := Lib.hid h
  have HR := Lib.hid hR
  have HR0 := Lib.hid hR0
  have Hown0 := Lib.hid hown0
  clear h hR hR0 hown0
  go_enter Tryz.func42, Tryz.ntmps42
  go_wp2_with (at_builtin; refine wpList_append_by rfl (.tmp 6) (.tmp 7) 31 84 5 rfl Tryz.underlying31 Tryz.underlying84 w.heap.size (.slice (some ⟨w.heap.size, 0, none⟩) 1 1) [k] rfl Hown0.out _ a _ c l rfl HR0.out (by simp; omega) (by simp) ?_; intro v1 w1 hown1 hg1 hat1)
  have hb1 : Below w.heap.size w w1 := ((Below.refl _ _).alloc (Nat.le_refl _) _).grown hg1 (by simp) (by simp [Value.ownBlock])
  have hF := BytesPost.of (l := k :: l) hown1 hb1
  go_ret
  exact hF

/-- Bytes of the call's own, given back with no error. -/
def BytesPost0 (l : List UInt8) (w : World) (e : Ending) (w' : World) : Prop := ∃ a c, e = .returned (.tuple #[.slice a l.length c, .int .i64 0]) ∧ Fresh w.heap.size w' (.row 1 (dB l)) [.slice a l.length c] ∧ Below w.heap.size w w'

set_option maxHeartbeats 1000000 in
theorem frame_calls (k : UInt8) (hk : k ≠ 0) (l : List UInt8) (a : Option Addr) (n c : Nat) (w : World) (h : Holds w w.heap.size (.row 1 (dB l)) [.slice a n c]) (hl : l.length ≤ 900000000) :
    Calls Tryz.prog 19 #[.int .u8 k.toNat, .slice a n c] w (BytesPost0 (sealL (k :: l)) w) := by
  have hF := fun W g hc => first_named k hk g W hc
  have hb0 : ∀ o o', Below w.heap.size w ((w.alloc o).alloc o') := fun o o' => ((Below.refl _ _).alloc (Nat.le_refl _) _).alloc (by simp) _
  have hJ := fun (W : World) hb => joined_calls k l a n c W ((h.below (w' := W) hb).more hb.size) (by omega)
  have hl' : (k :: l).length ≤ 1000000000 := by simp; omega
  generalize k :: l = L at hJ hl' ⊢
  have HF := Lib.hid hF
  have HJ := Lib.hid hJ
  have H := Lib.hid h
  clear hF hJ h
  go_enter Tryz.func19, Tryz.ntmps19
  go_wp2_with (fail)
  go_at_call 40
  with_reducible refine (HF.out _ _ ?_).mono ?_
  · simp
  rintro e w2 ⟨rfl, rfl⟩
  go_wp2_with (fail)
  (with_reducible refine (HJ.out _ (hb0 _ _)).mono ?_); rintro e w2 ⟨a1, c1, rfl, hf1, hb1⟩
  go_wp2_with (fail)
  (with_reducible refine (seal_calls L a1 _ c1 _ hf1.now hl').mono ?_); rintro e w3 ⟨a2, c2, rfl, hf2, hb2⟩
  go_wp2
  go_ret2
  have hz1 := hb1.size
  refine ⟨a2, c2, rfl, hf2.keep (by simp at hz1; omega) (Nat.le_refl _) (fun _ _ _ => rfl), ((hb0 _ _).trans (hb1.mono (by simp; omega))).trans (hb2.mono (by simp at hz1; omega))⟩

theorem rframe_calls (k : UInt8) (hk : k ≠ 0) (l : List UInt8) (a : Option Addr) (n c : Nat) (w : World) (h : Holds w w.heap.size (.row 1 (dB l)) [.slice a n c]) (hl : l.length ≤ 900000000) :
    Calls Tryz.prog 10 #[.int .u8 k.toNat, .slice a n c] w (BytesPost0 (sealL (k :: l)) w) := by
  obtain ⟨hn, hR⟩ := dB_reads h
  subst hn
  have hne : (((k.toNat : Nat) : Int) == 0) = false := by
    simp only [beq_eq_false_iff_ne, ne_eq]
    intro e
    exact hk (UInt8.toNat_inj.1 (by simpa using e))
  have hR0 := hR.alloc (Nat.le_refl _) (.cells #[.int .u8 k.toNat] 5)
  have hown0 : (w.alloc (.cells #[.int .u8 k.toNat] 5)).ownsRow w.heap.size 5 1 (.slice (some ⟨w.heap.size, 0, none⟩) 1 1) [k].length (bcells [k]) := World.ownsRow_lit w #[.int .u8 k.toNat] 1 (Nat.le_refl _) (by simp [maxLen]) rfl
  have hl' : (k :: l).length ≤ 1000000000 := by simp; omega
  obtain ⟨L, hL⟩ : ∃ L, k :: l = L := ⟨_, rfl⟩
  rw [hL] at hl' ⊢
  have H := Lib.hid h
  have HR := Lib.hid hR
  have HR0 := Lib.hid hR0
  have Hown0 := Lib.hid hown0
  have HL := Lib.hid hL
  clear h hR hR0 hown0 hL
  go_enter Tryz.func10, Tryz.ntmps10
  go_wp2_with (at_builtin; refine wpList_append_by rfl (.tmp 9) (.tmp 10) 31 31 5 rfl Tryz.underlying31 Tryz.underlying31 w.heap.size (.slice (some ⟨w.heap.size, 0, none⟩) 1 1) [k] rfl Hown0.out _ a _ c l rfl HR0.out (by simp; omega) (by simp) ?_; intro v1 w1 hown1 hg1 hat1)
  have hb1 : Below w.heap.size w w1 := ((Below.refl _ _).alloc (Nat.le_refl _) _).grown hg1 (by simp) (by simp [Value.ownBlock])
  rw [show [k] ++ l = L from HL.out] at hown1
  obtain ⟨a1, c1, rfl, hf1⟩ := own_bytes (l := L) hown1
  have hz1 := hb1.size
  clear hown1 hg1 hat1
  go_wp2_with (go_at_call 20; (with_reducible refine (rseal_calls L a1 _ c1 _ hf1.now hl').mono ?_); rintro e w3 ⟨a2, c2, rfl, hf2, hb2⟩)
  go_ret2
  exact ⟨a2, c2, rfl, hf2.keep hz1 (Nat.le_refl _) (fun _ _ _ => rfl), hb1.trans (hb2.mono hz1)⟩
end Go.Proofs.YtkoliaodkojghaaGreatDoor
