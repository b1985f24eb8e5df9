/- Parts, joined: The writer of texts: join. Condition: at most 10^11 bytes. append of one datum to a row that the call builds: the law that the walks use. No condition. -/
import Derived.Test.YtgjiienipeoajaaGreatDoorProg
import Derived.Test.YtgjiienipeoajaaGreatDoorKPrs10
import Derived.Test.YtgjiienipeoajaaGreatDoorKPrs12
/- The writer of texts: join. Condition: at most 10^11 bytes. -/
namespace Go.Proofs.YtgjiienipeoajaaGreatDoor
open Go.RowKit

/-- A writer that has had acc: it keeps it, or counts it. -/
def Wr (W : World) (B g : Nat) (keeps : Bool) (acc : List UInt8) : Prop :=
  ∃ p v, Bld W B g 1 84 #[.bool keeps, p, v, .int .i64 (acc.length : Int)] (if keeps then acc else [])

theorem liesW : liesAt Tryz.prog Tryz.prog.depth 84 (4 / Tryz.prog.cellsOf 84) 1 82 1 = true := by kernel_rfl

theorem Bld.other {w : World} {B g o : Nat} {t : TypeId} {cs : Array Value} {bs : List UInt8} (h : Bld w B g o t cs bs) (i : Nat) (hi : i ≠ o) (hi2 : i ≠ o + 1) (u : Value) :
    Bld (w.setCell ⟨g, i, none⟩ u) B g o t (cs.setIfInBounds i u) bs := by
  obtain ⟨hB, hb, ht, hs, h0, v, h1, hown⟩ := h
  refine ⟨hB, setCell_heap hb _, ht, by simpa using hs, ?_, v, by rw [Array.getElem?_setIfInBounds, if_neg hi2]; exact h1, ?_⟩
  · rw [Array.getElem?_setIfInBounds, if_neg hi]; exact h0
  · exact hown.kept (row := some g) ⟨rfl, rfl, rfl, by simp [World.setCell], fun k _ hk => Below.heap_setCell _ _ _ _ (fun e => hk (by simp [e]))⟩ (Or.inr (Lib.ownBlock_ne hown hb ht))

theorem Wr.below {A W : World} {B g : Nat} {k : Bool} {acc : List UInt8} (h : Wr A B g k acc) (hb : Below A.heap.size A W) : Wr W B g k acc := by
  obtain ⟨p, v, h⟩ := h
  exact ⟨p, v, h.keep (below_grown hb) (fun k e => by cases e)⟩
theorem Wr.put {A : World} {B g k : Nat} {b : Bool} {acc : List UInt8} {o o' : Obj} (h : Wr A B g b acc) (ho : A.heap[k]? = some o) (hc : o.isCells = false) : Wr (A.putObj k o') B g b acc := by
  obtain ⟨p, v, h⟩ := h
  exact ⟨p, v, h.keep (grownBy_putObj' A k o') (fun j e => by cases e; exact ⟨o, ho, hc⟩)⟩
theorem Wr.lt {A : World} {B g : Nat} {k : Bool} {acc : List UInt8} (h : Wr A B g k acc) : g < A.heap.size := by
  obtain ⟨p, v, h⟩ := h
  exact h.lt
theorem Wr.base {A : World} {B g : Nat} {k : Bool} {acc : List UInt8} (h : Wr A B g k acc) : B ≤ g := by
  obtain ⟨p, v, h⟩ := h
  exact h.1

/-- The parts that were joined. -/
def flat (ss : List ByteArray) : List UInt8 := ss.flatMap fun s => s.data.toList
theorem flat_snoc (ss : List ByteArray) (s : ByteArray) : flat (ss ++ [s]) = flat ss ++ s.data.toList := by simp [flat]

set_option maxHeartbeats 2000000 in
set_option maxRecDepth 100000 in
theorem join_calls (B g : Nat) (keeps : Bool) (acc : List UInt8) (ss : List ByteArray) (b c : Nat) (w : World) (h : Wr w B g keeps acc) (hp : w.heap[b]? = some (.cells (ss.map Value.string).toArray 9 (0, 0))) (hbg : b ≠ g)
    (hlen : acc.length + (flat ss).length ≤ 50000000000) (hn : ss.length ≤ 1000) :
    Calls Tryz.prog 68 #[.pointer (some ⟨g, 0, none⟩), .slice (some ⟨b, 0, none⟩) ss.length c] w fun e w' => e = .returned (.tuple #[]) ∧ Wr w' B g keeps (acc ++ flat ss) ∧ Below B w w' ∧ Kept g w w' := by
  go_enter Tryz.func68, Tryz.ntmps68
  go_wp2
  go_loopw [8] (fun i wr => ∃ k : Nat, k ≤ ss.length ∧ i = .int .i64 k ∧ Wr wr B g keeps (acc ++ flat (ss.take k)) ∧ Below B w wr ∧ Kept g w wr) (fun i _ => ss.length - (intOf i).toNat)
  case atStart => exact ⟨0, Nat.zero_le _, rfl, by simpa [flat] using h, Below.refl _ _, Lib.OthersKept.refl _ _ _⟩
  case round =>
    obtain ⟨k, hk, rfl, hw, hb, hkp⟩ := hrel
    by_cases hlt : k < ss.length
    · obtain ⟨s, hs⟩ : ∃ s, ss[k]? = some s := ⟨_, List.getElem?_eq_getElem hlt⟩
      have htk : ss.take (k + 1) = ss.take k ++ [s] := by rw [List.take_add_one, hs]; rfl
      have hfl : (flat ss).length = (flat (ss.take k)).length + s.size + (flat (ss.drop (k + 1))).length := by
        have : ss = ss.take k ++ [s] ++ ss.drop (k + 1) := by rw [← htk, List.take_append_drop]
        have h2 := congrArg (fun l => (flat l).length) this
        simp only [flat, List.flatMap_append, List.length_append, List.flatMap_cons, List.flatMap_nil, List.append_nil] at h2 ⊢
        rw [h2, Lib.size_eq]
      have hpr := hkp _ _ hp (by simpa using hbg) (fun c fz e => by cases e)
      have cp : wr.cell? ⟨b, k, none⟩ = some (.string s) := by rw [Lib.cell_of_heap hpr]; simp [hs]
      obtain ⟨p, v, hbl⟩ := hw
      have hbl' := hbl
      obtain ⟨hB, hbk, ht, _, _, _⟩ := hbl'
      have g0 : wr.cell? ⟨g, 0, none⟩ = some (.bool keeps) := by rw [Lib.cell_of_heap hbk]; rfl
      have g3 : wr.cell? ⟨g, 3, none⟩ = some (.int .i64 ((acc ++ flat (ss.take k)).length : Int)) := by rw [Lib.cell_of_heap hbk]; rfl
      have f3 : wr.frozen? ⟨g, 3, none⟩ = false := Lib.frozen_of_heap hbk 3
      have hln : (acc ++ flat (ss.take k)).length ≤ 50000000000 := by rw [List.length_append]; omega
      have hln2 : (acc ++ flat (ss.take k)).length + s.size ≤ 50000000000 := by rw [List.length_append]; omega
      have hz := hbl.lt
      have hfin : acc ++ flat (ss.take (k + 1)) = (acc ++ flat (ss.take k)) ++ s.data.toList := by rw [htk, flat_snoc, List.append_assoc]
      generalize acc ++ flat (ss.take k) = L at *
      have Hfin := Lib.hid hfin
      have he : ((L.length : Int) + (s.size : Int)) = ((L ++ s.data.toList).length : Int) := by rw [List.length_append, ← Lib.size_eq]; omega
      have He := Lib.hid he
      clear hfin he hbk htk hfl
      cases keeps
      · have hbs : Bld (wr.setCell ⟨g, 3, none⟩ (.int .i64 ((L.length : Int) + (s.size : Int)))) B g 1 84 #[.bool false, p, v, .int .i64 ((L.length : Int) + (s.size : Int))] [] := hbl.other 3 (by omega) (by omega) _
        go_wp2
        go_roundw
        case rel =>
          refine ⟨k + 1, by omega, by go_num, ?_, hb.setCell (p := ⟨g, 3, none⟩) hB _, hkp.setCell ⟨g, 3, none⟩ rfl _⟩
          rw [Hfin.out]
          rw [He.out] at hbs ⊢
          exact ⟨p, v, hbs⟩
        case measure => simp [intOf]; omega
      · have hbs : Bld (wr.setCell ⟨g, 3, none⟩ (.int .i64 ((L.length : Int) + (s.size : Int)))) B g 1 84 #[.bool true, p, v, .int .i64 ((L.length : Int) + (s.size : Int))] L := hbl.other 3 (by omega) (by omega) _
        go_wp2_with (go_at_call 49; refine (WriteString_calls B g 1 _ _ L s _ hbs liesW (by omega) (by simp [World.setCell]; omega)).mono ?_; rintro e w2 ⟨rfl, ⟨v', hb2⟩, hbw2, hk2⟩)
        go_roundw
        case rel =>
          refine ⟨k + 1, by omega, by go_num, ?_, (hb.setCell (p := ⟨g, 3, none⟩) hB _).trans hbw2, (hkp.setCell ⟨g, 3, none⟩ rfl _).trans hk2⟩
          rw [Hfin.out]
          rw [He.out] at hb2
          exact ⟨_, v', hb2⟩
        case measure => simp [intOf]; omega
    · obtain rfl : k = ss.length := by omega
      rw [List.take_length] at hw
      have Hw := Lib.hid hw
      clear hw
      go_wp2
      go_end0
      exact ⟨rfl, Hw.out, hb, hkp⟩

end Go.Proofs.YtgjiienipeoajaaGreatDoor

/- append of one datum to a row that the call builds: the law that the walks use. No condition. -/
namespace Go.Proofs.YtgjiienipeoajaaGreatDoor
open Go Go.RowKit

/-- A slice over a block that is known whole: one element. -/
theorem reads_one {w : World} {g : Nat} {t : TypeId} {cs : Array Value} (h : Blk w g t cs) : Reads w (g + 1) cs.size (some ⟨g, 0, none⟩) 1 cs.toList := by
  refine ⟨by simp, fun _ => ⟨_, rfl, by simp, fun j u hu => ?_⟩⟩
  rw [add_plain', Nat.zero_add]
  exact (h.cell j).trans (by rw [← Array.getElem?_toList]; exact hu)
/-- A row of one datum, laid as a literal. -/
theorem RowD.lit {b : Nat} {t : TypeId} {w : World} {d : D} {cs : Array Value} (hb : b ≤ w.heap.size) (hd : d.cells = cs.size) (h : ∀ w'' B, Holds w'' B d cs.toList) :
    RowD b t cs.size (w.alloc (.cells cs t)) [d] (.slice (some ⟨w.heap.size, 0, none⟩) 1 1) :=
  ⟨cs.toList, World.ownsRow_lit w cs 1 hb (by simp [maxLen]) (by simp), fun x hx => by simp at hx; rw [hx]; exact hd, fun w'' _ _ => HoldsA.one (h w'' _)⟩
/-- The data of a row hold at the world at hand. -/
theorem RowD.slice {b : Nat} {t : TypeId} {s : Nat} {wr : World} {l : List D} {V : Value} (h : RowD b t s wr l V) : ∃ a c, V = .slice a l.length c := by
  obtain ⟨ns, h1, _⟩ := h
  rcases h1.2 with ⟨rfl, h0⟩ | ⟨g, cap, cur, rfl, _⟩
  · exact ⟨_, _, by rw [h0]⟩
  · exact ⟨_, _, rfl⟩

/-- A row as a slice, at the world at hand. -/
theorem RowD.now {b : Nat} {t : TypeId} {s : Nat} {wr : World} {l : List D} {a : Option Addr} {n c : Nat} (h : RowD b t s wr l (.slice a n c)) : Holds wr wr.heap.size (.row s l) [.slice a n c] := by
  obtain ⟨a', c', e, _, hf, _⟩ := h.close
  cases e
  exact hf.now

section
variable {P : Program}
theorem run_append_D {t ty e : TypeId} {i : TypeInfo} {z : Value} {sz bytes : Nat} (ht : P.underlying t = some (.slice e)) (hi : P.info? e = some i) (hz : i.zero = some z) (hsize : i.size = sz) (hby : i.bytes = bytes) (hzs : z.cells.size = sz) (hsz : 0 < sz)
    {b : Nat} {wr w : World} {l : List D} {V : Value} (hrow : RowD b e sz wr l V) (hbw : b ≤ wr.heap.size) (hbe : Below wr.heap.size wr w) {d : D} {cs : List Value} (hd : d.cells = sz) (hx : Fresh wr.heap.size w d cs)
    {B : Nat} {A : Option Addr} {c : Nat} (hr : Reads w B sz A 1 cs) (h63 : l.length + 1 ≤ maxLen) (hbytes : (l.length + 1) * bytes ≤ 140737488355328) :
    ∃ V' w6, (Builtin.append_ #[t, t] ty #[V, .slice A 1 c]).run P w = .ok V' w6 ∧ RowD b e sz w6 (l ++ [d]) V' ∧ w.grownBy w6 V.ownBlock ∧ (V'.ownBlock = V.ownBlock ∨ V'.ownBlock = some w.heap.size) := by
  obtain ⟨ns, h1, h2, h3⟩ := hrow.below hbe
  have h1r := hrow
  obtain ⟨ns0, k1, k2, k3⟩ := h1r
  have hown : w.ownsRow b e sz V l.length ns0 := by
    refine k1.kept (row := none) ⟨hbe.os, hbe.tape, hbe.output, hbe.size, fun j hj _ => hbe.block j hj⟩ ?_
    cases hv : V.ownBlock <;> simp
  obtain ⟨V', w6, hrun, g1, g2, g3⟩ := run_append_any (P := P) w b t ty e i z sz bytes ht hi hz hsize hby hzs hsz V l.length ns0 hown B A 1 c cs hr hx.now.len.2 h63 hbytes (Nat.le_trans hbw hbe.size)
  refine ⟨V', w6, hrun, ?_, g2, g3⟩
  refine RowD.step hbw k3 k2 hd hx (fun g hg => (k1.lt g hg).2) g1 ?_ hbe.size g2.size (fun p _ p2 => hbe.cell p2) (fun p _ p2 p3 => World.cell?_of_block (g2.block p.block p2 (fun e => p3 e.symm)))
  rcases g3 with g3 | g3
  · exact .inl g3
  · exact .inr ⟨_, g3, Nat.le_refl _⟩
theorem wp_append_D {o : Oper} {a : Act} {K : Act → World → Prop} {Q : Exit → Act → World → Prop} (s x : Operand) (t : TypeId) {e : TypeId}
    (ho : o.op = .call { callee := .builtin .append, args := #[s, x], argTypes := #[t, t] }) {i : TypeInfo} {z : Value} {sz bytes : Nat} (ht : P.underlying t = some (.slice e)) (hi : P.info? e = some i) (hz : i.zero = some z) (hsize : i.size = sz) (hby : i.bytes = bytes) (hzs : z.cells.size = sz) (hsz : 0 < sz)
    {b : Nat} {wr w : World} {l : List D} {V : Value} (hs : a.eval s = V) (hrow : RowD b e sz wr l V) (hbw : b ≤ wr.heap.size) (hbe : Below wr.heap.size wr w) {d : D} {cs : List Value} (hd : d.cells = sz) (hf : Fresh wr.heap.size w d cs)
    {B : Nat} {A : Option Addr} {c : Nat} (hx : a.eval x = .slice A 1 c) (hr : Reads w B sz A 1 cs) (h63 : l.length + 1 ≤ maxLen) (hbytes : (l.length + 1) * bytes ≤ 140737488355328)
    (h : ∀ V' w6, RowD b e sz w6 (l ++ [d]) V' → w.grownBy w6 V.ownBlock → (V'.ownBlock = V.ownBlock ∨ V'.ownBlock = some w.heap.size) → K (a.put o.dst V') w6) : o.wp P a w K Q := by
  obtain ⟨V', w6, hrun, g1, g2, g3⟩ := run_append_D (ty := o.type) (c := c) ht hi hz hsize hby hzs hsz hrow hbw hbe hd hf hr h63 hbytes
  unfold Oper.wp execOp
  simp only [ho, resolve, invoke, builtin, Sem.run_bind, Sem.run_pure, Result.andThen_ok, List.map_toArray, List.map_cons, List.map_nil, hs, hx, hrun]
  exact h V' w6 g1 g2 g3
theorem wpList_append_D {ops : Array Oper} {rest : List Oper} {o : Oper} {a : Act} {Q : Exit → Act → World → Prop} (hgd : o.guard = none) (s x : Operand) (t : TypeId) {e : TypeId}
    (ho : o.op = .call { callee := .builtin .append, args := #[s, x], argTypes := #[t, t] }) {i : TypeInfo} {z : Value} {sz bytes : Nat} (ht : P.underlying t = some (.slice e)) (hi : P.info? e = some i) (hz : i.zero = some z) (hsize : i.size = sz) (hby : i.bytes = bytes) (hzs : z.cells.size = sz) (hsz : 0 < sz)
    {b : Nat} {wr w : World} {l : List D} {V : Value} (hs : a.eval s = V) (hrow : RowD b e sz wr l V) (hbw : b ≤ wr.heap.size) (hbe : Below wr.heap.size wr w) {d : D} {cs : List Value} (hd : d.cells = sz) (hf : Fresh wr.heap.size w d cs)
    {B : Nat} {A : Option Addr} {c : Nat} (hx : a.eval x = .slice A 1 c) (hr : Reads w B sz A 1 cs) (h63 : l.length + 1 ≤ maxLen) (hbytes : (l.length + 1) * bytes ≤ 140737488355328)
    (h : ∀ V' w6, RowD b e sz w6 (l ++ [d]) V' → w.grownBy w6 V.ownBlock → (V'.ownBlock = V.ownBlock ∨ V'.ownBlock = some w.heap.size) → wpList P ops Q rest (a.put o.dst V') w6) : wpList P ops Q (o :: rest) a w :=
  wpList_plain hgd fun _ hK => wp_append_D s x t ho ht hi hz hsize hby hzs hsz hs hrow hbw hbe hd hf hx hr h63 hbytes fun V' w6 h2 h3 h4 => hK _ _ (h V' w6 h2 h3 h4)
theorem step_append_D {ops : Array Oper} {o : Oper} {a : Act} {K : Act → World → Prop} {Q : Exit → Act → World → Prop} {E : Prop} (hgd : o.guard = none) (s x : Operand) (t : TypeId) {e : TypeId}
    (ho : o.op = .call { callee := .builtin .append, args := #[s, x], argTypes := #[t, t] }) {i : TypeInfo} {z : Value} {sz bytes : Nat} (ht : P.underlying t = some (.slice e)) (hi : P.info? e = some i) (hz : i.zero = some z) (hsize : i.size = sz) (hby : i.bytes = bytes) (hzs : z.cells.size = sz) (hsz : 0 < sz)
    {b : Nat} {wr w : World} {l : List D} {V : Value} (hs : a.eval s = V) (hrow : RowD b e sz wr l V) (hbw : b ≤ wr.heap.size) (hbe : Below wr.heap.size wr w) {d : D} {cs : List Value} (hd : d.cells = sz) (hf : Fresh wr.heap.size w d cs)
    {B : Nat} {A : Option Addr} {c : Nat} (hx : a.eval x = .slice A 1 c) (hr : Reads w B sz A 1 cs) (h63 : l.length + 1 ≤ maxLen) (hbytes : (l.length + 1) * bytes ≤ 140737488355328)
    (h : ∀ V' w6, RowD b e sz w6 (l ++ [d]) V' → w.grownBy w6 V.ownBlock → (V'.ownBlock = V.ownBlock ∨ V'.ownBlock = some w.heap.size) → K (a.put o.dst V') w6) :
    if Region.wanted o (yielded ops a.tmps) = true then Oper.wp P o a w K Q else E := by
  have hw : Region.wanted o (yielded ops a.tmps) = true := by simp [Region.wanted, hgd]
  rw [if_pos hw]
  exact wp_append_D s x t ho ht hi hz hsize hby hzs hsz hs hrow hbw hbe hd hf hx hr h63 hbytes h
end
end Go.Proofs.YtgjiienipeoajaaGreatDoor
