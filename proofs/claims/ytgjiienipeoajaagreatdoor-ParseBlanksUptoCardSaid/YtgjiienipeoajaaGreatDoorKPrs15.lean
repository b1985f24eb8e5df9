/- Parts, joined: commonplaceref01.Runes: a text's runes and their places. Condition: a text of at most 10^9 bytes. Rows that a call makes and fills, of data of any make. Plain. No condition. -/
import Derived.Test.YtgjiienipeoajaaGreatDoorProg
import Derived.Maps.AppendAt
import Derived.Test.YtgjiienipeoajaaGreatDoorKPrs4
import Derived.Test.YtgjiienipeoajaaGreatDoorKPrs8
import Derived.Test.YtgjiienipeoajaaGreatDoorKPrs9
import Derived.Test.YtgjiienipeoajaaGreatDoorKPrs12
/- commonplaceref01.Runes: a text's runes and their places. Condition: a text of at most 10^9 bytes. -/
namespace Go.Proofs.YtgjiienipeoajaaGreatDoor
open Go.RowKit

theorem runesFrom_step {l : List UInt8} (h : l ≠ []) (f p : Nat) :
    ((atSpec l).2 = 0 ∧ runesFrom (f + 1) l p = []) ∨ (∃ n r : Nat, atSpec l = ((r : Int), (n : Int)) ∧ 1 ≤ n ∧ n ≤ l.length ∧ runesFrom (f + 1) l p = (p, r) :: runesFrom f (l.drop n) (p + n)) := by
  have hg := atSpec_dec l h
  unfold goodAt at hg
  by_cases hb : (Lib.decodeL l).1 = 65533 ∧ (Lib.decodeL l).2 = 1
  · rw [if_pos hb] at hg
    rw [hg]
    refine .inl ⟨rfl, ?_⟩
    simp only [runesFrom]
    rw [if_neg h, if_pos hb]
  · rw [if_neg hb] at hg
    have hw := Lib.decodeL_width l
    refine .inr ⟨(Lib.decodeL l).2, (Lib.decodeL l).1, hg, hw, Lib.decodeL_le l h, ?_⟩
    simp only [runesFrom]
    rw [if_neg h, if_neg hb]

/-- Two slices of the call's own that do not share a block. -/
def Apart (v1 v2 : Value) : Prop := ∀ g, v1.ownBlock = some g → v2.ownBlock ≠ some g

theorem Apart.ne {v1 v2 : Value} (h : Apart v1 v2) : v1.ownBlock = none ∨ v1.ownBlock ≠ v2.ownBlock := by
  cases e : v1.ownBlock with
  | none => exact .inl rfl
  | some g => exact .inr fun e' => h g e (by rw [← e'])
theorem Apart.symm {v1 v2 : Value} (h : Apart v1 v2) : Apart v2 v1 := fun g e e' => h g e' e
theorem Apart.step {v1 v1' v2 : Value} {w : World} {B n N : Nat} {e : TypeId} {size : Nat} {xs : List Value} (h : Apart v1 v2) (h2 : w.ownsRow B e size v2 n xs) (h4 : v1'.ownBlock = v1.ownBlock ∨ v1'.ownBlock = some N) (hN : w.heap.size ≤ N) : Apart v1' v2 := by
  intro g e1 e2
  rcases h4 with h4 | h4
  · exact h g (by rw [← h4]; exact e1) e2
  · rw [h4] at e1
    obtain rfl := Option.some.inj e1
    have := (h2.lt _ e2).2
    omega

theorem info_int : (Tryz.prog.info? 3).map (fun i => (i.zero, i.size, i.bytes)) = some (some (.int .i64 0), 1, 8) := by kernel_rfl

set_option maxRecDepth 20000 in
set_option maxHeartbeats 2000000 in
theorem RRunes_calls (s : ByteArray) (w : World) (hs : s.size ≤ 1000000000) :
    Calls Tryz.prog 36 #[.string s] w fun e w' => (∃ v1 v2, e = .returned (.tuple #[v1, v2]) ∧ w'.ownsRow w.heap.size 3 1 v1 (runes s).length ((runes s).map fun x => Value.int .i64 x.2)) ∧ Below w.heap.size w w' := by
  obtain ⟨i0, hi, hz0, hz1, hz2⟩ := info_parts info_int
  have HI := Lib.hid hi
  have HZ0 := Lib.hid hz0
  have HZ1 := Lib.hid hz1
  have HZ2 := Lib.hid hz2
  clear hi hz0 hz1 hz2
  have Hown0 : Hid (w.ownsRow w.heap.size 3 1 (.slice none 0 0) 0 []) := World.ownsRow_nil _ _ _ _
  have Hap0 : Hid (Apart (.slice none 0 0) (.slice none 0 0)) := Lib.hid (fun g e => by simp [Value.ownBlock] at e)
  go_enter Tryz.func36, Tryz.ntmps36
  go_wp2
  go_loopw [4, 5, 6] (fun v1 v2 i wr => ∃ (pre : List (Nat × Nat)) (f k : Nat), i = .int .i64 k ∧ k ≤ s.size ∧ s.size - k ≤ f ∧ Hid (runes s = pre ++ runesFrom f (s.data.toList.drop k) k) ∧ pre.length ≤ k ∧
    Hid (wr.ownsRow w.heap.size 3 1 v1 pre.length (pre.map fun x => Value.int .i64 x.2)) ∧ Hid (wr.ownsRow w.heap.size 3 1 v2 pre.length (pre.map fun x => Value.int .i64 x.1)) ∧ Hid (Apart v1 v2) ∧ Hid (Below w.heap.size w wr)) (fun _ _ i _ => s.size - (intOf i).toNat)
  case atStart => exact ⟨[], s.size, 0, rfl, Nat.zero_le _, by omega, rfl, Nat.le_refl _, Hown0, Hown0, Hap0, Below.refl _ _⟩
  case round =>
    obtain ⟨pre, f, k, rfl, hk, hf, hr, hpk, ho1, ho2, hap, hbw⟩ := hrel
    clear Hown0 Hap0
    by_cases hlt : k < s.size
    · have hne : s.data.toList.drop k ≠ [] := by
        intro e
        have := congrArg List.length e
        rw [List.length_drop, ← Lib.size_eq] at this
        simp at this
        omega
      obtain ⟨f, rfl⟩ : ∃ f', f = f' + 1 := ⟨f - 1, by omega⟩
      have hA := At_calls s k wr (by omega) (by omega)
      rcases runesFrom_step hne f k with ⟨h0, hv⟩ | ⟨n, r, hn, hn1, hn2, hv⟩
      · have hr' := hr.out
        rw [hv, List.append_nil] at hr'
        rw [h0] at hA
        generalize (atSpec (s.data.toList.drop k)).1 = R at hA
        have HA := Lib.hid hA
        have HR := Lib.hid hr'
        clear hA h0 hv hne hr hr'
        go_wp2_with (fail)
        with_reducible refine HA.out.mono ?_
        rintro e w' ⟨rfl, rfl⟩
        clear HA
        go_wp2
        go_ret2
        exact ⟨⟨u4, u5, rfl, by rw [HR.out]; exact ho1.out⟩, hbw.out⟩
      · have hr' := hr.out
        rw [hv, List.drop_drop] at hr'
        rw [hn] at hA
        rw [List.length_drop, ← Lib.size_eq] at hn2
        have HA := Lib.hid hA
        have HR := Lib.hid hr'
        have hb1 : w.heap.size ≤ wr.heap.size := hbw.out.size
        clear hA hn hv hne hr hr'
        have e0 : ((n : Int) == 0) = false := by simp; omega
        go_wp2_with (fail)
        with_reducible refine HA.out.mono ?_
        rintro e w' ⟨rfl, rfl⟩
        clear HA
        go_wp2_with (at_builtin; refine wpList_append_own_at _ rfl (.tmp 21) (.tmp 23) 72 rfl w.heap.size 3 i0 (.int .i64 0) 1 8 Tryz.underlying72 HI.out HZ0.out HZ1.out HZ2.out rfl (by decide) u4 pre.length _ rfl (ho1.out.alloc _) ⟨wr.heap.size, 0, none⟩ 1 1 [.int .i64 r] rfl rfl ?c1 ?c2 ?c3 ?c4 ?c5 ?_)
        case c1 =>
          intro j u hj
          match j, hj with
          | 0, hj => simp at hj; subst hj; simp [Addr.add]
        case c2 => intro u hu; simp at hu; subst hu; rfl
        case c3 => unfold maxLen; omega
        case c4 => omega
        case c5 => simp; omega
        intro v1' w2 hown1 hgrow1 _ hat1
        have ho1' := Lib.hid hown1
        have ho2' := Lib.hid ((ho2.out.alloc (.cells #[.int .i64 r] 3)).kept hgrow1 hap.out.symm.ne)
        have hap' := Lib.hid (Apart.step hap.out ho2.out hat1 (by omega))
        have hbw2 := Lib.hid ((hbw.out.alloc hb1 (.cells #[.int .i64 r] 3)).grown hgrow1 (by simp; omega) (fun k hk => (ho1.out.lt k hk).1))
        have hb2 : w.heap.size ≤ w2.heap.size := hbw2.out.size
        clear hown1 hgrow1 hat1 ho1 ho2 hap hbw hb1
        go_wp2_with (at_builtin; refine wpList_append_own_at _ rfl (.tmp 25) (.tmp 27) 72 rfl w.heap.size 3 i0 (.int .i64 0) 1 8 Tryz.underlying72 HI.out HZ0.out HZ1.out HZ2.out rfl (by decide) u5 pre.length _ rfl (ho2'.out.alloc _) ⟨w2.heap.size, 0, none⟩ 1 1 [.int .i64 k] rfl rfl ?d1 ?d2 ?d3 ?d4 ?d5 ?_)
        case d1 =>
          intro j u hj
          match j, hj with
          | 0, hj => simp at hj; subst hj; simp [Addr.add]
        case d2 => intro u hu; simp at hu; subst hu; rfl
        case d3 => unfold maxLen; omega
        case d4 => omega
        case d5 => simp; omega
        intro v2' w3 hown2 hgrow2 _ hat2
        have ho2'' := Lib.hid hown2
        have ho1'' := Lib.hid ((ho1'.out.alloc (.cells #[.int .i64 k] 3)).kept hgrow2 hap'.out.ne)
        have hap'' := Lib.hid (Apart.step hap'.out.symm ho1'.out hat2 (by omega)).symm
        have hbw3 := Lib.hid ((hbw2.out.alloc hb2 (.cells #[.int .i64 k] 3)).grown hgrow2 (by simp; omega) (fun k hk => (ho2'.out.lt k hk).1))
        clear hown2 hgrow2 hat2 ho1' ho2' hap' hbw2 hb2
        go_wp2
        go_roundw
        case rel => exact ⟨pre ++ [(k, r)], f, k + n, by go_num, by omega, by omega, Lib.hid (by rw [List.append_assoc]; exact HR.out), by simp; omega, Lib.hid (by rw [List.length_append, List.map_append]; exact ho1''.out), Lib.hid (by rw [List.length_append, List.map_append]; exact ho2''.out), hap'', hbw3⟩
        case measure => simp only [intOf]; omega
    · obtain rfl : k = s.size := by omega
      have hr' := hr.out
      have e : runesFrom f (s.data.toList.drop s.size) s.size = [] := by
        rw [List.drop_eq_nil_of_le (by rw [← Lib.size_eq]; omega)]
        cases f <;> simp [runesFrom]
      rw [e, List.append_nil] at hr'
      have HR := Lib.hid hr'
      clear hr hr' e
      go_wp2
      go_ret2
      exact ⟨⟨u4, u5, rfl, by rw [HR.out]; exact ho1.out⟩, hbw.out⟩

end Go.Proofs.YtgjiienipeoajaaGreatDoor

/- Rows that a call makes and fills, of data of any make. Plain. No condition. -/
namespace Go.Proofs.YtgjiienipeoajaaGreatDoor
open Go Go.RowKit

/-- Cells of one block stored one behind the other. -/
def setMany (w : World) (g o : Nat) : List Value → World
  | [] => w
  | v :: r => setMany (w.setCell ⟨g, o, none⟩ v) g (o + 1) r
def over (cs : Array Value) (o : Nat) : List Value → Array Value
  | [] => cs
  | v :: r => over (cs.setIfInBounds o v) (o + 1) r
theorem setMany_size : ∀ (vs : List Value) (w : World) (g o : Nat), (setMany w g o vs).heap.size = w.heap.size
  | [], _, _, _ => rfl
  | v :: r, w, g, o => by simp only [setMany]; rw [setMany_size r]; simp [World.setCell]
theorem setMany_far : ∀ (vs : List Value) (w : World) (g o c : Nat), c ≠ g → (setMany w g o vs).heap[c]? = w.heap[c]?
  | [], _, _, _, _, _ => rfl
  | v :: r, w, g, o, c, h => by
    simp only [setMany]
    rw [setMany_far r _ _ _ _ h]
    simp only [World.setCell, Array.getElem?_modify]
    rw [if_neg (fun e => h e.symm)]
theorem setMany_at : ∀ (vs : List Value) {w : World} {g o : Nat} {cs : Array Value} {t : TypeId}, w.heap[g]? = some (.cells cs t (0, 0)) → (setMany w g o vs).heap[g]? = some (.cells (over cs o vs) t (0, 0))
  | [], _, _, _, _, _, h => h
  | v :: r, w, g, o, cs, t, h => by
    simp only [setMany, over]
    exact setMany_at r (by simp [World.setCell, Array.getElem?_modify, h])
theorem setMany_below {B : Nat} {a : World} : ∀ (vs : List Value) {w : World} {g o : Nat}, Below B a w → B ≤ g → Below B a (setMany w g o vs)
  | [], _, _, _, h, _ => h
  | v :: r, w, g, o, h, hg => by
    simp only [setMany]
    exact setMany_below r (h.setCell hg _) hg
theorem over_size : ∀ (vs : List Value) (cs : Array Value) (o : Nat), (over cs o vs).size = cs.size
  | [], _, _ => rfl
  | v :: r, cs, o => by simp only [over]; rw [over_size r]; simp
theorem over_get : ∀ (vs : List Value) (cs : Array Value) (o i : Nat), o + vs.length ≤ cs.size → (over cs o vs)[i]? = if o ≤ i ∧ i < o + vs.length then vs[i - o]? else cs[i]?
  | [], cs, o, i, _ => by
    simp only [over, List.length_nil]
    rw [if_neg (by omega)]
  | v :: r, cs, o, i, h => by
    simp only [List.length_cons] at h
    simp only [over]
    rw [over_get r _ _ _ (by simp; omega)]
    by_cases h1 : o + 1 ≤ i ∧ i < o + 1 + r.length
    · rw [if_pos h1, if_pos ⟨by omega, by simp only [List.length_cons]; omega⟩, show i - o = (i - (o + 1)) + 1 from by omega, List.getElem?_cons_succ]
    · rw [if_neg h1]
      by_cases h2 : i = o
      · subst h2
        rw [if_pos ⟨Nat.le_refl _, by simp⟩]
        simp only [Nat.sub_self, List.getElem?_cons_zero]
        rw [Array.getElem?_setIfInBounds_self_of_lt (by omega)]
      · rw [if_neg (by simp only [List.length_cons]; omega), Array.getElem?_setIfInBounds_ne (by omega)]

/-- A block of N elements of s cells that the call has made, filled so far with these data; they hold in every world that agrees on the blocks from b on, but for the block itself. -/
def FillD (b g : Nat) (t : TypeId) (s N : Nat) (wr : World) (l : List D) : Prop :=
  b ≤ g ∧ l.length ≤ N ∧ (∀ d ∈ l, d.cells = s) ∧ ∃ (cs : Array Value) (ns : List Value), wr.heap[g]? = some (.cells cs t (0, 0)) ∧ cs.size = N * s ∧ (∀ (j : Nat) (u : Value), ns[j]? = some u → cs[j]? = some u) ∧
    ∀ w'' : World, wr.heap.size ≤ w''.heap.size → (∀ p : Addr, b ≤ p.block → p.block < wr.heap.size → p.block ≠ g → w''.cell? p = wr.cell? p) → HoldsA w'' wr.heap.size l ns
theorem FillD.start {b g : Nat} {t : TypeId} {s N : Nat} {wr : World} {cs : Array Value} (hb : b ≤ g) (hg : wr.heap[g]? = some (.cells cs t (0, 0))) (hs : cs.size = N * s) : FillD b g t s N wr [] :=
  ⟨hb, Nat.zero_le _, fun d hd => (by cases hd), cs, [], hg, hs, fun j u h => (by simp at h), fun _ _ _ => rfl⟩
theorem FillD.lt {b g : Nat} {t : TypeId} {s N : Nat} {wr : World} {l : List D} (h : FillD b g t s N wr l) : g < wr.heap.size := by
  obtain ⟨_, _, _, cs, ns, h4, _⟩ := h
  exact (Array.getElem?_eq_some_iff.1 h4).1
theorem FillD.cell {b g : Nat} {t : TypeId} {s N : Nat} {wr : World} {l : List D} (h : FillD b g t s N wr l) : (∀ j, j < N * s → ∃ u, wr.cell? ⟨g, j, none⟩ = some u) ∧ ∀ j, wr.frozen? ⟨g, j, none⟩ = false := by
  obtain ⟨_, _, _, cs, ns, h4, h5, _⟩ := h
  refine ⟨fun j hj => ?_, fun j => ?_⟩
  · exact ⟨cs[j], by rw [cell_of_row wr g j cs t (0, 0) h4]; exact Array.getElem?_eq_getElem (by omega)⟩
  · simp [World.frozen?, h4]
/-- The world has grown and none of the call's blocks was written. -/
theorem FillD.keep {b g : Nat} {t : TypeId} {s N : Nat} {wr w' : World} {l : List D} (h : FillD b g t s N wr l) (hs : wr.heap.size ≤ w'.heap.size) (hk : ∀ i, b ≤ i → i < wr.heap.size → w'.heap[i]? = wr.heap[i]?) : FillD b g t s N w' l := by
  have hlt := h.lt
  obtain ⟨h1, h2, h3, cs, ns, h4, h5, h6, h7⟩ := h
  exact ⟨h1, h2, h3, cs, ns, (hk g h1 hlt).trans h4, h5, h6, fun w'' k1 k2 => HoldsA.more (h7 w'' (by omega) (fun p p1 p2 p3 => (k2 p p1 (by omega) p3).trans (World.cell?_of_block (hk p.block p1 p2)))) hs⟩
theorem FillD.below {b g : Nat} {t : TypeId} {s N : Nat} {wr w' : World} {l : List D} (h : FillD b g t s N wr l) (hb : Below wr.heap.size wr w') : FillD b g t s N w' l := h.keep hb.size fun i _ hi => hb.block i hi
/-- One more: made behind wr, stored behind the others. -/
theorem FillD.step {b g : Nat} {t : TypeId} {s N : Nat} {wr w4 : World} {l : List D} {d : D} {cs' : List Value} (h : FillD b g t s N wr l) (hl : l.length < N) (hd : d.cells = s) (hx : Fresh wr.heap.size w4 d cs') (h4 : Below wr.heap.size wr w4) :
    FillD b g t s N (setMany w4 g (l.length * s) cs') (l ++ [d]) := by
  have hlt := h.lt
  have h' := h.below h4
  obtain ⟨h1, h2, h3, cs, ns, k4, h5, h6, h7⟩ := h'
  have hcl : cs'.length = s := hx.now.len.1.trans hd
  have hnl : ns.length = l.length * s := by
    have hA := h7 w4 (Nat.le_refl _) (fun _ _ _ _ => rfl)
    rw [hA.len.1, cellsA_all h3]
  have hN : l.length * s + s ≤ N * s := by
    have := Nat.mul_le_mul_right s (show l.length + 1 ≤ N by omega)
    rw [Nat.add_mul, Nat.one_mul] at this
    exact this
  have hsz := h4.size
  refine ⟨h1, by rw [List.length_append, List.length_cons, List.length_nil]; omega, ?_, over cs (l.length * s) cs', ns ++ cs', setMany_at cs' k4, by rw [over_size]; exact h5, ?_, ?_⟩
  · intro x hx'
    rcases List.mem_append.1 hx' with hx' | hx'
    · exact h3 x hx'
    · simp only [List.mem_cons, List.not_mem_nil, or_false] at hx'
      rw [hx']; exact hd
  · intro j u hj
    rw [over_get cs' cs (l.length * s) j (by omega)]
    by_cases hjn : j < ns.length
    · rw [List.getElem?_append_left hjn] at hj
      rw [if_neg (by omega)]
      exact h6 j u hj
    · rw [List.getElem?_append_right (by omega)] at hj
      have := (List.getElem?_eq_some_iff.1 hj).1
      rw [if_pos ⟨by omega, by omega⟩, ← hnl]
      exact hj
  · intro w'' k1 k2
    rw [setMany_size] at k1 k2 ⊢
    have hfar : ∀ p : Addr, b ≤ p.block → p.block < w4.heap.size → p.block ≠ g → w''.cell? p = w4.cell? p := fun p p1 p2 p3 => (k2 p p1 p2 p3).trans (World.cell?_of_block (setMany_far cs' w4 g _ _ p3))
    exact (h7 w'' k1 hfar).snoc (hx w'' k1 (fun p p1 p2 => hfar p (by omega) p2 (by omega)))
/-- The row, done. -/
theorem FillD.close {b g : Nat} {t : TypeId} {s : Nat} {wr : World} {l : List D} (h : FillD b g t s l.length wr l) (c : Nat) : Fresh b wr (.row s l) [.slice (some ⟨g, 0, none⟩) l.length c] := by
  have hlt := h.lt
  obtain ⟨h1, h2, h3, cs, ns, h4, h5, h6, h7⟩ := h
  intro w'' k1 k2
  refine ⟨_, c, rfl, h3, ns, h7 w'' k1 (fun p p1 p2 _ => k2 p p1 p2), .inr ⟨g, 0, rfl, hlt, fun j u hu => ?_⟩⟩
  rw [k2 _ h1 hlt, Nat.zero_add, cell_of_row wr g j cs t (0, 0) h4]
  exact h6 j u hu
end Go.Proofs.YtgjiienipeoajaaGreatDoor
