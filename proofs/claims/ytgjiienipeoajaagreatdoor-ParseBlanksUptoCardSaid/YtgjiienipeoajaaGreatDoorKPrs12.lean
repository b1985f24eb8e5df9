/- Parts, joined: Rows that a call builds by append, of data of any make. Plain. No condition. utf.Runes: the iterator over a text's runes and their places, by rounds that may end it. Condition: a text shorter than 10^9. -/
import Derived.Test.YtgjiienipeoajaaGreatDoorProg
import Derived.Test.YtgjiienipeoajaaGreatDoorKPrs3
import Derived.Test.YtgjiienipeoajaaGreatDoorKPrs4
import Derived.Test.YtgjiienipeoajaaGreatDoorKPrs7
import Derived.Test.YtgjiienipeoajaaGreatDoorKPrs8
/- Rows that a call builds by append, of data of any make. Plain. No condition. -/
namespace Go.Proofs.YtgjiienipeoajaaGreatDoor
open Go Go.RowKit

theorem add_plain' (g off i : Nat) : (⟨g, off, none⟩ : Addr).add i = ⟨g, off + i, none⟩ := Go.WideShapes.add_plain g off i

/-- A slice that came in, as cells. -/
theorem Holds.reads {w : World} {B s : Nat} {l : List D} {a : Option Addr} {n c : Nat} (h : Holds w B (.row s l) [.slice a n c]) : ∃ ns, Reads w B s a n ns ∧ HoldsA w B l ns ∧ ∀ u ∈ ns, u.oneCell' = true := by
  have hn := h.row_len
  obtain ⟨a', c', e, hs, ns, h1, h2⟩ := h
  simp only [List.cons.injEq, Value.slice.injEq, and_true] at e
  obtain ⟨rfl, rfl, rfl⟩ := e
  refine ⟨ns, ⟨by rw [h1.len.1, cellsA_all hs], fun h0 => ?_⟩, h1, h1.len.2⟩
  rcases h2 with rfl | ⟨g, off, e, hg, hc⟩
  · simp at h0
  · exact ⟨_, e, hg, fun j u hu => by rw [add_plain']; exact hc j u hu⟩

/-- A row that the call has built so far: block(s) of its own from b on; the data hold in every world that agrees on the blocks from b on, but for the row's own. -/
def RowD (b : Nat) (t : TypeId) (s : Nat) (wr : World) (l : List D) (V : Value) : Prop :=
  ∃ ns, wr.ownsRow b t s V l.length ns ∧ (∀ d ∈ l, d.cells = s) ∧ ∀ w'' : World, wr.heap.size ≤ w''.heap.size →
    (∀ p : Addr, b ≤ p.block → p.block < wr.heap.size → V.ownBlock ≠ some p.block → w''.cell? p = wr.cell? p) → HoldsA w'' wr.heap.size l ns
theorem RowD.nil (b : Nat) (t : TypeId) (s : Nat) (wr : World) : RowD b t s wr [] (.slice none 0 0) := ⟨[], World.ownsRow_nil _ _ _ _, fun d hd => (by cases hd), fun _ _ _ => rfl⟩
theorem RowD.base {b : Nat} {t : TypeId} {s : Nat} {wr : World} {l : List D} {V : Value} (h : RowD b t s wr l V) : ∀ g, V.ownBlock = some g → b ≤ g ∧ g < wr.heap.size := by
  obtain ⟨ns, h1, _⟩ := h
  exact h1.lt
/-- The world has grown and nothing of the row's was written. -/
theorem RowD.keep {b : Nat} {t : TypeId} {s : Nat} {wr w' : World} {l : List D} {V : Value} (h : RowD b t s wr l V) (hs : wr.heap.size ≤ w'.heap.size) (hk : ∀ i, b ≤ i → i < wr.heap.size → w'.heap[i]? = wr.heap[i]?) : RowD b t s w' l V := by
  obtain ⟨ns, h1, h2, h3⟩ := h
  refine ⟨ns, ⟨h1.1, ?_⟩, h2, fun w'' k1 k2 => HoldsA.more (h3 w'' (by omega) (fun p p1 p2 p3 => (k2 p p1 (by omega) p3).trans (World.cell?_of_block (hk p.block p1 p2)))) hs⟩
  rcases h1.2 with ⟨rfl, h0⟩ | ⟨g, cap, cur, rfl, hbg, hg, h5⟩
  · exact .inl ⟨rfl, h0⟩
  · exact .inr ⟨g, cap, cur, rfl, hbg, (hk g hbg (Array.getElem?_eq_some_iff.1 hg).1).trans hg, h5⟩
theorem RowD.below {b : Nat} {t : TypeId} {s : Nat} {wr w' : World} {l : List D} {V : Value} (h : RowD b t s wr l V) (hb : Below wr.heap.size wr w') : RowD b t s w' l V := h.keep hb.size fun i _ hi => hb.block i hi
/-- One more: made behind wr (fresh from wr on), taken in by an append. -/
theorem RowD.step {b : Nat} {t : TypeId} {s : Nat} {wr w4 w6 : World} {l : List D} {V V' : Value} {d : D} {cs ns : List Value} (hbw : b ≤ wr.heap.size)
    (hns : ∀ w'' : World, wr.heap.size ≤ w''.heap.size → (∀ p : Addr, b ≤ p.block → p.block < wr.heap.size → V.ownBlock ≠ some p.block → w''.cell? p = wr.cell? p) → HoldsA w'' wr.heap.size l ns)
    (hall : ∀ d ∈ l, d.cells = s) (hd : d.cells = s) (hx : Fresh wr.heap.size w4 d cs) (hlt : ∀ g, V.ownBlock = some g → g < wr.heap.size)
    (hown : w6.ownsRow b t s V' (l.length + 1) (ns ++ cs)) (hV : V'.ownBlock = V.ownBlock ∨ ∃ N, V'.ownBlock = some N ∧ w4.heap.size ≤ N)
    (hs4 : wr.heap.size ≤ w4.heap.size) (hs6 : w4.heap.size ≤ w6.heap.size) (h4 : ∀ p : Addr, b ≤ p.block → p.block < wr.heap.size → w4.cell? p = wr.cell? p)
    (h6 : ∀ p : Addr, b ≤ p.block → p.block < w4.heap.size → V.ownBlock ≠ some p.block → w6.cell? p = w4.cell? p) : RowD b t s w6 (l ++ [d]) V' := by
  refine ⟨ns ++ cs, by rw [List.length_append]; exact hown, ?_, fun w'' hsz hag => ?_⟩
  · intro x hx'
    rcases List.mem_append.1 hx' with hx' | hx'
    · exact hall x hx'
    · simp only [List.mem_cons, List.not_mem_nil, or_false] at hx'
      rw [hx']; exact hd
  · have hnew : ∀ p : Addr, p.block < w4.heap.size → V.ownBlock ≠ some p.block → V'.ownBlock ≠ some p.block := by
      intro p p2 p3
      rcases hV with e | ⟨N, e, hN⟩
      · rw [e]; exact p3
      · rw [e]; intro e2; have := Option.some.inj e2; omega
    have a1 : HoldsA w'' w6.heap.size l ns := HoldsA.more (hns w'' (by omega) (fun p p1 p2 p3 => by
      rw [hag p p1 (by omega) (hnew p (by omega) p3), h6 p p1 (by omega) p3, h4 p p1 p2])) (by omega)
    have a2 : Holds w'' w6.heap.size d cs := Holds.more (hx w'' (by omega) (fun p p1 p2 => by
      have p3 : V.ownBlock ≠ some p.block := fun e => by have := hlt _ e; omega
      rw [hag p (by omega) (by omega) (hnew p p2 p3), h6 p (by omega) p2 p3])) hs6
    exact a1.snoc a2
/-- The row, done. -/
theorem RowD.close {b : Nat} {t : TypeId} {s : Nat} {wr : World} {l : List D} {V : Value} (h : RowD b t s wr l V) :
    ∃ a c, V = .slice a l.length c ∧ l.length ≤ c ∧ Fresh b wr (.row s l) [.slice a l.length c] ∧ ((l = [] ∧ a = none ∧ c = 0) ∨ ∃ g, a = some ⟨g, 0, none⟩ ∧ b ≤ g ∧ g < wr.heap.size) := by
  obtain ⟨ns, h1, h2, h3⟩ := h
  have h1' := h1
  rcases h1.2 with ⟨rfl, h0⟩ | ⟨g, cap, cur, rfl, hbg, hg, hnc, _⟩
  · have hl : l = [] := List.eq_nil_of_length_eq_zero h0
    subst hl
    exact ⟨none, 0, rfl, Nat.le_refl _, fun _ _ _ => ⟨none, 0, rfl, h2, [], rfl, .inl rfl⟩, .inl ⟨rfl, rfl, rfl⟩⟩
  · have hgl := (Array.getElem?_eq_some_iff.1 hg).1
    refine ⟨_, cap, rfl, hnc, fun w'' k1 k2 => ⟨_, cap, rfl, h2, ns, h3 w'' k1 (fun p p1 p2 _ => k2 p p1 p2), .inr ⟨g, 0, rfl, hgl, fun j u hu => ?_⟩⟩, .inr ⟨g, rfl, hbg, hgl⟩⟩
    have h5 := h1'.cells (g := g) rfl j u hu
    rw [add_plain'] at h5
    exact (k2 _ hbg hgl).trans h5
end Go.Proofs.YtgjiienipeoajaaGreatDoor

/- utf.Runes: the iterator over a text's runes and their places, by rounds that may end it. Condition: a text shorter than 10^9. -/
namespace Go.Proofs.YtgjiienipeoajaaGreatDoor
open Go.RowKit
attribute [local go_sem] Oper.semAt_some

set_option maxRecDepth 100000 in
set_option maxHeartbeats 2000000 in
theorem runes_stops (s : ByteArray) (b : Nat) (hs : s.size ≤ 1000000000) :
    YieldsS Tryz.prog 145 #[.pointer (some ⟨b, 0, none⟩)] (fun x : Nat × Nat => #[.int .i64 x.1, .int .i32 x.2]) (runes s) (fun A => A.cell? ⟨b, 0, none⟩ = some (.string s) ∧ Tabs A) := by
  intro n l J Jx W hJn hJx hJb hY h0
  refine callsIn_of_wp Tryz.func145 rfl trivial ?_ rfl
  simp only [Tryz.ntmps145, List.size_toArray, List.length_cons, List.length_nil, Nat.reduceAdd, Nat.reduceSub, Array.replicate_succ, Array.replicate_zero, List.push_toArray, List.append_toArray, List.nil_append, List.cons_append]
  gi_wp2
  gi_loopw [3] (fun i wr => ∃ (pre : List (Nat × Nat)) (f k : Nat), i = .int .i64 k ∧ k ≤ s.size ∧ s.size - k ≤ f ∧ Hid (runes s = pre ++ runesFrom f (s.data.toList.drop k) k) ∧ J pre wr) (fun i _ => s.size - (intOf i).toNat)
  case atStart => exact ⟨[], s.size, 0, rfl, Nat.zero_le _, by omega, rfl, h0⟩
  case round =>
    obtain ⟨pre, f, k, rfl, hk, hf, hr, hJ⟩ := hrel
    have hcr : wr.cell? ⟨b, 0, none⟩ = some (.string s) := (hJb _ _ hJ).1
    have hTr : Tabs wr := (hJb _ _ hJ).2
    by_cases hlt : k < s.size
    · have hne : s.data.toList.drop k ≠ [] := by
        intro e
        have := congrArg List.length e
        rw [List.length_drop, ← Lib.size_eq] at this
        simp at this
        omega
      obtain ⟨f, rfl⟩ : ∃ f', f = f' + 1 := ⟨f - 1, by omega⟩
      have cD := Tryz.utf8_DecodeRuneInString (s.extract k s.size) wr hTr.2.1
      have hdc : Lib.decodeGo (s.extract k s.size) = Lib.decodeL (s.data.toList.drop k) := decode_tail s k hlt
      have hw1 := Lib.decodeL_width (s.data.toList.drop k)
      have hw2 := Lib.decodeL_le _ hne
      have hw3 := Lib.decodeL_rune (s.data.toList.drop k)
      rw [List.length_drop, ← Lib.size_eq] at hw2
      have hr' := hr.out
      simp only [runesFrom] at hr'
      rw [if_neg hne, List.drop_drop] at hr'
      rw [hdc] at cD
      generalize Lib.decodeL (s.data.toList.drop k) = D at cD hw1 hw2 hw3 hr'
      obtain ⟨r, z⟩ := D
      simp only at cD hw1 hw2 hw3 hr'
      have CD := Lib.hid cD
      clear cD hdc hne hr
      by_cases hbad : r = 65533 ∧ z = 1
      · rw [if_pos hbad, List.append_nil] at hr'
        have Hr := Lib.hid hr'
        obtain ⟨hr1, hz1⟩ := hbad
        have e1 : ((r : Int) == 65533) = true := by simp; omega
        have e2 : ((z : Int) == 1) = true := by simp; omega
        clear hr' hr1 hz1
        gi_wp2_with (refine ⟨trivial, ?_⟩; gi_at_call 146; refine (callsIn_wide.2 CD.out).mono ?_; rintro e w2 ⟨rfl, hb2⟩; have hJ2 := hJn _ _ _ hJ hb2)
        refine bodyPost_ret (results_none rfl _ _ _) rfl ?_
        exact ⟨⟨_, rfl⟩, .inl (by rw [Hr.out]; exact hJ2)⟩
      · rw [if_neg hbad] at hr'
        have Hr := Lib.hid hr'
        have Hr2 : Hid (runes s = (pre ++ [(k, r)]) ++ runesFrom f (s.data.toList.drop (k + z)) (k + z)) := by
          show runes s = _
          rw [hr']; simp
        clear hr'
        rcases (by omega : r ≠ 65533 ∨ (r = 65533 ∧ z ≠ 1)) with h1 | ⟨h1, h2⟩
        · have e1 : ((r : Int) == 65533) = false := by simp; omega
          clear h1 hbad
          gi_wp2_with (refine ⟨trivial, ?_⟩; gi_at_call 146; refine (callsIn_wide.2 CD.out).mono ?_; rintro e w2 ⟨rfl, hb2⟩; obtain ⟨fn, tmps, assign, body, hy, hR⟩ := hY pre (k, r) _ w2 Hr.out (hJn _ _ _ hJ hb2); dsimp only at hy)
          refine hR.mono ?_
          rintro e W3 (⟨rfl, hJ3⟩ | ⟨rfl, hJ3⟩)
          rotate_left
          · clear hy hR
            gi_wp2
            refine bodyPost_ret (results_none rfl _ _ _) rfl ?_
            exact ⟨⟨_, rfl⟩, .inr hJ3⟩
          clear hy hR
          gi_wp2
          go_roundw
          case rel => exact ⟨pre ++ [(k, r)], f, k + z, by go_num, by omega, by omega, Hr2, hJ3⟩
          case measure => simp [intOf]; omega
        · have e1 : ((r : Int) == 65533) = true := by simp; omega
          have e2 : ((z : Int) == 1) = false := by simp; omega
          clear h1 h2 hbad
          gi_wp2_with (refine ⟨trivial, ?_⟩; gi_at_call 146; refine (callsIn_wide.2 CD.out).mono ?_; rintro e w2 ⟨rfl, hb2⟩; obtain ⟨fn, tmps, assign, body, hy, hR⟩ := hY pre (k, r) _ w2 Hr.out (hJn _ _ _ hJ hb2); dsimp only at hy)
          refine hR.mono ?_
          rintro e W3 (⟨rfl, hJ3⟩ | ⟨rfl, hJ3⟩)
          rotate_left
          · clear hy hR
            gi_wp2
            refine bodyPost_ret (results_none rfl _ _ _) rfl ?_
            exact ⟨⟨_, rfl⟩, .inr hJ3⟩
          clear hy hR
          gi_wp2
          go_roundw
          case rel => exact ⟨pre ++ [(k, r)], f, k + z, by go_num, by omega, by omega, Hr2, hJ3⟩
          case measure => simp [intOf]; omega
    · obtain rfl : k = s.size := by omega
      have hr' := hr.out
      rw [List.drop_eq_nil_of_le (by rw [← Lib.size_eq]; omega)] at hr'
      have hz : runesFrom f [] s.size = [] := by cases f <;> simp [runesFrom]
      rw [hz, List.append_nil] at hr'
      have Hr := Lib.hid hr'
      clear hr hr'
      gi_wp2
      go_end0
      exact ⟨⟨_, rfl⟩, .inl (by rw [Hr.out]; exact hJ)⟩

end Go.Proofs.YtgjiienipeoajaaGreatDoor
