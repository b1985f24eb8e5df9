/- Parts, joined: append of one datum to a row that the call builds: the law that the walks use. No condition. commonplaceref01.Runes: a text's runes and their places. Condition: a text of at most 10^9 bytes. -/
import Derived.Test.YtemceefalkfneaaGreatDoorProg
import Derived.Maps.AppendAt
import Derived.Test.YtemceefalkfneaaGreatDoorKCm3
import Derived.Test.YtemceefalkfneaaGreatDoorKCm7
import Derived.Test.YtemceefalkfneaaGreatDoorKCm12
/- append of one datum to a row that the call builds: the law that the walks use. No condition. -/
namespace Go.Proofs.YtemceefalkfneaaGreatDoor
open Go Go.RowKit

/-- A slice over a block that is known whole: one element. -/
theorem reads_one {w : World} {g : Nat} {t : TypeId} {cs : Array Value} (h : Blk w g t cs) : Reads w (g + 1) cs.size (some ⟨g, 0, none⟩) 1 cs.toList := by
  refine ⟨by simp, fun _ => ⟨_, rfl, by simp, fun j u hu => ?_⟩⟩
  rw [add_plain', Nat.zero_add]
  exact (h.cell j).trans (by rw [← Array.getElem?_toList]; exact hu)
/-- A row of one datum, laid as a literal. -/
theorem RowD.lit {b : Nat} {t : TypeId} {w : World} {d : D} {cs : Array Value} (hb : b ≤ w.heap.size) (hd : d.cells = cs.size) (h : ∀ w'' B, Holds w'' B d cs.toList) :
    RowD b t cs.size (w.alloc (.cells cs t)) [d] (.slice (some ⟨w.heap.size, 0, none⟩) 1 1) :=
  ⟨cs.toList, World.ownsRow_lit w cs 1 hb (by simp [maxLen]) (by simp), fun x hx => by simp at hx; rw [hx]; exact hd, fun w'' _ _ => HoldsA.one (h w'' _)⟩
/-- The data of a row hold at the world at hand. -/
theorem RowD.slice {b : Nat} {t : TypeId} {s : Nat} {wr : World} {l : List D} {V : Value} (h : RowD b t s wr l V) : ∃ a c, V = .slice a l.length c := by
  obtain ⟨ns, h1, _⟩ := h
  rcases h1.2 with ⟨rfl, h0⟩ | ⟨g, cap, cur, rfl, _⟩
  · exact ⟨_, _, by rw [h0]⟩
  · exact ⟨_, _, rfl⟩

/-- A row as a slice, at the world at hand. -/
theorem RowD.now {b : Nat} {t : TypeId} {s : Nat} {wr : World} {l : List D} {a : Option Addr} {n c : Nat} (h : RowD b t s wr l (.slice a n c)) : Holds wr wr.heap.size (.row s l) [.slice a n c] := by
  obtain ⟨a', c', e, _, hf, _⟩ := h.close
  cases e
  exact hf.now

section
variable {P : Program}
theorem run_append_D {t ty e : TypeId} {i : TypeInfo} {z : Value} {sz bytes : Nat} (ht : P.underlying t = some (.slice e)) (hi : P.info? e = some i) (hz : i.zero = some z) (hsize : i.size = sz) (hby : i.bytes = bytes) (hzs : z.cells.size = sz) (hsz : 0 < sz)
    {b : Nat} {wr w : World} {l : List D} {V : Value} (hrow : RowD b e sz wr l V) (hbw : b ≤ wr.heap.size) (hbe : Below wr.heap.size wr w) {d : D} {cs : List Value} (hd : d.cells = sz) (hx : Fresh wr.heap.size w d cs)
    {B : Nat} {A : Option Addr} {c : Nat} (hr : Reads w B sz A 1 cs) (h63 : l.length + 1 ≤ maxLen) (hbytes : (l.length + 1) * bytes ≤ 140737488355328) :
    ∃ V' w6, (Builtin.append_ #[t, t] ty #[V, .slice A 1 c]).run P w = .ok V' w6 ∧ RowD b e sz w6 (l ++ [d]) V' ∧ w.grownBy w6 V.ownBlock ∧ (V'.ownBlock = V.ownBlock ∨ V'.ownBlock = some w.heap.size) := by
  obtain ⟨ns, h1, h2, h3⟩ := hrow.below hbe
  have h1r := hrow
  obtain ⟨ns0, k1, k2, k3⟩ := h1r
  have hown : w.ownsRow b e sz V l.length ns0 := by
    refine k1.kept (row := none) ⟨hbe.os, hbe.tape, hbe.output, hbe.size, fun j hj _ => hbe.block j hj⟩ ?_
    cases hv : V.ownBlock <;> simp
  obtain ⟨V', w6, hrun, g1, g2, g3⟩ := run_append_any (P := P) w b t ty e i z sz bytes ht hi hz hsize hby hzs hsz V l.length ns0 hown B A 1 c cs hr hx.now.len.2 h63 hbytes (Nat.le_trans hbw hbe.size)
  refine ⟨V', w6, hrun, ?_, g2, g3⟩
  refine RowD.step hbw k3 k2 hd hx (fun g hg => (k1.lt g hg).2) g1 ?_ hbe.size g2.size (fun p _ p2 => hbe.cell p2) (fun p _ p2 p3 => World.cell?_of_block (g2.block p.block p2 (fun e => p3 e.symm)))
  rcases g3 with g3 | g3
  · exact .inl g3
  · exact .inr ⟨_, g3, Nat.le_refl _⟩
theorem wp_append_D {o : Oper} {a : Act} {K : Act → World → Prop} {Q : Exit → Act → World → Prop} (s x : Operand) (t : TypeId) {e : TypeId}
    (ho : o.op = .call { callee := .builtin .append, args := #[s, x], argTypes := #[t, t] }) {i : TypeInfo} {z : Value} {sz bytes : Nat} (ht : P.underlying t = some (.slice e)) (hi : P.info? e = some i) (hz : i.zero = some z) (hsize : i.size = sz) (hby : i.bytes = bytes) (hzs : z.cells.size = sz) (hsz : 0 < sz)
    {b : Nat} {wr w : World} {l : List D} {V : Value} (hs : a.eval s = V) (hrow : RowD b e sz wr l V) (hbw : b ≤ wr.heap.size) (hbe : Below wr.heap.size wr w) {d : D} {cs : List Value} (hd : d.cells = sz) (hf : Fresh wr.heap.size w d cs)
    {B : Nat} {A : Option Addr} {c : Nat} (hx : a.eval x = .slice A 1 c) (hr : Reads w B sz A 1 cs) (h63 : l.length + 1 ≤ maxLen) (hbytes : (l.length + 1) * bytes ≤ 140737488355328)
    (h : ∀ V' w6, RowD b e sz w6 (l ++ [d]) V' → w.grownBy w6 V.ownBlock → (V'.ownBlock = V.ownBlock ∨ V'.ownBlock = some w.heap.size) → K (a.put o.dst V') w6) : o.wp P a w K Q := by
  obtain ⟨V', w6, hrun, g1, g2, g3⟩ := run_append_D (ty := o.type) (c := c) ht hi hz hsize hby hzs hsz hrow hbw hbe hd hf hr h63 hbytes
  unfold Oper.wp execOp
  simp only [ho, resolve, invoke, builtin, Sem.run_bind, Sem.run_pure, Result.andThen_ok, List.map_toArray, List.map_cons, List.map_nil, hs, hx, hrun]
  exact h V' w6 g1 g2 g3
theorem wpList_append_D {ops : Array Oper} {rest : List Oper} {o : Oper} {a : Act} {Q : Exit → Act → World → Prop} (hgd : o.guard = none) (s x : Operand) (t : TypeId) {e : TypeId}
    (ho : o.op = .call { callee := .builtin .append, args := #[s, x], argTypes := #[t, t] }) {i : TypeInfo} {z : Value} {sz bytes : Nat} (ht : P.underlying t = some (.slice e)) (hi : P.info? e = some i) (hz : i.zero = some z) (hsize : i.size = sz) (hby : i.bytes = bytes) (hzs : z.cells.size = sz) (hsz : 0 < sz)
    {b : Nat} {wr w : World} {l : List D} {V : Value} (hs : a.eval s = V) (hrow : RowD b e sz wr l V) (hbw : b ≤ wr.heap.size) (hbe : Below wr.heap.size wr w) {d : D} {cs : List Value} (hd : d.cells = sz) (hf : Fresh wr.heap.size w d cs)
    {B : Nat} {A : Option Addr} {c : Nat} (hx : a.eval x = .slice A 1 c) (hr : Reads w B sz A 1 cs) (h63 : l.length + 1 ≤ maxLen) (hbytes : (l.length + 1) * bytes ≤ 140737488355328)
    (h : ∀ V' w6, RowD b e sz w6 (l ++ [d]) V' → w.grownBy w6 V.ownBlock → (V'.ownBlock = V.ownBlock ∨ V'.ownBlock = some w.heap.size) → wpList P ops Q rest (a.put o.dst V') w6) : wpList P ops Q (o :: rest) a w :=
  wpList_plain hgd fun _ hK => wp_append_D s x t ho ht hi hz hsize hby hzs hsz hs hrow hbw hbe hd hf hx hr h63 hbytes fun V' w6 h2 h3 h4 => hK _ _ (h V' w6 h2 h3 h4)
theorem step_append_D {ops : Array Oper} {o : Oper} {a : Act} {K : Act → World → Prop} {Q : Exit → Act → World → Prop} {E : Prop} (hgd : o.guard = none) (s x : Operand) (t : TypeId) {e : TypeId}
    (ho : o.op = .call { callee := .builtin .append, args := #[s, x], argTypes := #[t, t] }) {i : TypeInfo} {z : Value} {sz bytes : Nat} (ht : P.underlying t = some (.slice e)) (hi : P.info? e = some i) (hz : i.zero = some z) (hsize : i.size = sz) (hby : i.bytes = bytes) (hzs : z.cells.size = sz) (hsz : 0 < sz)
    {b : Nat} {wr w : World} {l : List D} {V : Value} (hs : a.eval s = V) (hrow : RowD b e sz wr l V) (hbw : b ≤ wr.heap.size) (hbe : Below wr.heap.size wr w) {d : D} {cs : List Value} (hd : d.cells = sz) (hf : Fresh wr.heap.size w d cs)
    {B : Nat} {A : Option Addr} {c : Nat} (hx : a.eval x = .slice A 1 c) (hr : Reads w B sz A 1 cs) (h63 : l.length + 1 ≤ maxLen) (hbytes : (l.length + 1) * bytes ≤ 140737488355328)
    (h : ∀ V' w6, RowD b e sz w6 (l ++ [d]) V' → w.grownBy w6 V.ownBlock → (V'.ownBlock = V.ownBlock ∨ V'.ownBlock = some w.heap.size) → K (a.put o.dst V') w6) :
    if Region.wanted o (yielded ops a.tmps) = true then Oper.wp P o a w K Q else E := by
  have hw : Region.wanted o (yielded ops a.tmps) = true := by simp [Region.wanted, hgd]
  rw [if_pos hw]
  exact wp_append_D s x t ho ht hi hz hsize hby hzs hsz hs hrow hbw hbe hd hf hx hr h63 hbytes h
end
end Go.Proofs.YtemceefalkfneaaGreatDoor

/- commonplaceref01.Runes: a text's runes and their places. Condition: a text of at most 10^9 bytes. -/
namespace Go.Proofs.YtemceefalkfneaaGreatDoor
open Go.RowKit

theorem runesFrom_step {l : List UInt8} (h : l ≠ []) (f p : Nat) :
    ((atSpec l).2 = 0 ∧ runesFrom (f + 1) l p = []) ∨ (∃ n r : Nat, atSpec l = ((r : Int), (n : Int)) ∧ 1 ≤ n ∧ n ≤ l.length ∧ runesFrom (f + 1) l p = (p, r) :: runesFrom f (l.drop n) (p + n)) := by
  have hg := atSpec_dec l h
  unfold goodAt at hg
  by_cases hb : (Lib.decodeL l).1 = 65533 ∧ (Lib.decodeL l).2 = 1
  · rw [if_pos hb] at hg
    rw [hg]
    refine .inl ⟨rfl, ?_⟩
    simp only [runesFrom]
    rw [if_neg h, if_pos hb]
  · rw [if_neg hb] at hg
    have hw := Lib.decodeL_width l
    refine .inr ⟨(Lib.decodeL l).2, (Lib.decodeL l).1, hg, hw, Lib.decodeL_le l h, ?_⟩
    simp only [runesFrom]
    rw [if_neg h, if_neg hb]

/-- Two slices of the call's own that do not share a block. -/
def Apart (v1 v2 : Value) : Prop := ∀ g, v1.ownBlock = some g → v2.ownBlock ≠ some g

theorem Apart.ne {v1 v2 : Value} (h : Apart v1 v2) : v1.ownBlock = none ∨ v1.ownBlock ≠ v2.ownBlock := by
  cases e : v1.ownBlock with
  | none => exact .inl rfl
  | some g => exact .inr fun e' => h g e (by rw [← e'])
theorem Apart.symm {v1 v2 : Value} (h : Apart v1 v2) : Apart v2 v1 := fun g e e' => h g e' e
theorem Apart.step {v1 v1' v2 : Value} {w : World} {B n N : Nat} {e : TypeId} {size : Nat} {xs : List Value} (h : Apart v1 v2) (h2 : w.ownsRow B e size v2 n xs) (h4 : v1'.ownBlock = v1.ownBlock ∨ v1'.ownBlock = some N) (hN : w.heap.size ≤ N) : Apart v1' v2 := by
  intro g e1 e2
  rcases h4 with h4 | h4
  · exact h g (by rw [← h4]; exact e1) e2
  · rw [h4] at e1
    obtain rfl := Option.some.inj e1
    have := (h2.lt _ e2).2
    omega

theorem info_int : (Tryz.prog.info? 3).map (fun i => (i.zero, i.size, i.bytes)) = some (some (.int .i64 0), 1, 8) := by kernel_rfl

set_option maxRecDepth 20000 in
set_option maxHeartbeats 2000000 in
theorem RRunes_calls (s : ByteArray) (w : World) (hs : s.size ≤ 1000000000) :
    Calls Tryz.prog 199 #[.string s] w fun e w' => (∃ v1 v2, e = .returned (.tuple #[v1, v2]) ∧ w'.ownsRow w.heap.size 3 1 v1 (runes s).length ((runes s).map fun x => Value.int .i64 x.2)) ∧ Below w.heap.size w w' := by
  obtain ⟨i0, hi, hz0, hz1, hz2⟩ := info_parts info_int
  have HI := Lib.hid hi
  have HZ0 := Lib.hid hz0
  have HZ1 := Lib.hid hz1
  have HZ2 := Lib.hid hz2
  clear hi hz0 hz1 hz2
  have Hown0 : Hid (w.ownsRow w.heap.size 3 1 (.slice none 0 0) 0 []) := World.ownsRow_nil _ _ _ _
  have Hap0 : Hid (Apart (.slice none 0 0) (.slice none 0 0)) := Lib.hid (fun g e => by simp [Value.ownBlock] at e)
  go_enter Tryz.func199, Tryz.ntmps199
  go_wp2
  go_loopw [4, 5, 6] (fun v1 v2 i wr => ∃ (pre : List (Nat × Nat)) (f k : Nat), i = .int .i64 k ∧ k ≤ s.size ∧ s.size - k ≤ f ∧ Hid (runes s = pre ++ runesFrom f (s.data.toList.drop k) k) ∧ pre.length ≤ k ∧
    Hid (wr.ownsRow w.heap.size 3 1 v1 pre.length (pre.map fun x => Value.int .i64 x.2)) ∧ Hid (wr.ownsRow w.heap.size 3 1 v2 pre.length (pre.map fun x => Value.int .i64 x.1)) ∧ Hid (Apart v1 v2) ∧ Hid (Below w.heap.size w wr)) (fun _ _ i _ => s.size - (intOf i).toNat)
  case atStart => exact ⟨[], s.size, 0, rfl, Nat.zero_le _, by omega, rfl, Nat.le_refl _, Hown0, Hown0, Hap0, Below.refl _ _⟩
  case round =>
    obtain ⟨pre, f, k, rfl, hk, hf, hr, hpk, ho1, ho2, hap, hbw⟩ := hrel
    clear Hown0 Hap0
    by_cases hlt : k < s.size
    · have hne : s.data.toList.drop k ≠ [] := by
        intro e
        have := congrArg List.length e
        rw [List.length_drop, ← Lib.size_eq] at this
        simp at this
        omega
      obtain ⟨f, rfl⟩ : ∃ f', f = f' + 1 := ⟨f - 1, by omega⟩
      have hA := At_calls s k wr (by omega) (by omega)
      rcases runesFrom_step hne f k with ⟨h0, hv⟩ | ⟨n, r, hn, hn1, hn2, hv⟩
      · have hr' := hr.out
        rw [hv, List.append_nil] at hr'
        rw [h0] at hA
        generalize (atSpec (s.data.toList.drop k)).1 = R at hA
        have HA := Lib.hid hA
        have HR := Lib.hid hr'
        clear hA h0 hv hne hr hr'
        go_wp2_with (fail)
        with_reducible refine HA.out.mono ?_
        rintro e w' ⟨rfl, rfl⟩
        clear HA
        go_wp2
        go_ret2
        exact ⟨⟨u4, u5, rfl, by rw [HR.out]; exact ho1.out⟩, hbw.out⟩
      · have hr' := hr.out
        rw [hv, List.drop_drop] at hr'
        rw [hn] at hA
        rw [List.length_drop, ← Lib.size_eq] at hn2
        have HA := Lib.hid hA
        have HR := Lib.hid hr'
        have hb1 : w.heap.size ≤ wr.heap.size := hbw.out.size
        clear hA hn hv hne hr hr'
        have e0 : ((n : Int) == 0) = false := by simp; omega
        go_wp2_with (fail)
        with_reducible refine HA.out.mono ?_
        rintro e w' ⟨rfl, rfl⟩
        clear HA
        go_wp2_with (at_builtin; refine wpList_append_own_at _ rfl (.tmp 21) (.tmp 23) 271 rfl w.heap.size 3 i0 (.int .i64 0) 1 8 Tryz.underlying271 HI.out HZ0.out HZ1.out HZ2.out rfl (by decide) u4 pre.length _ rfl (ho1.out.alloc _) ⟨wr.heap.size, 0, none⟩ 1 1 [.int .i64 r] rfl rfl ?c1 ?c2 ?c3 ?c4 ?c5 ?_)
        case c1 =>
          intro j u hj
          match j, hj with
          | 0, hj => simp at hj; subst hj; simp [Addr.add]
        case c2 => intro u hu; simp at hu; subst hu; rfl
        case c3 => unfold maxLen; omega
        case c4 => omega
        case c5 => simp; omega
        intro v1' w2 hown1 hgrow1 _ hat1
        have ho1' := Lib.hid hown1
        have ho2' := Lib.hid ((ho2.out.alloc (.cells #[.int .i64 r] 3)).kept hgrow1 hap.out.symm.ne)
        have hap' := Lib.hid (Apart.step hap.out ho2.out hat1 (by omega))
        have hbw2 := Lib.hid ((hbw.out.alloc hb1 (.cells #[.int .i64 r] 3)).grown hgrow1 (by simp; omega) (fun k hk => (ho1.out.lt k hk).1))
        have hb2 : w.heap.size ≤ w2.heap.size := hbw2.out.size
        clear hown1 hgrow1 hat1 ho1 ho2 hap hbw hb1
        go_wp2_with (at_builtin; refine wpList_append_own_at _ rfl (.tmp 25) (.tmp 27) 271 rfl w.heap.size 3 i0 (.int .i64 0) 1 8 Tryz.underlying271 HI.out HZ0.out HZ1.out HZ2.out rfl (by decide) u5 pre.length _ rfl (ho2'.out.alloc _) ⟨w2.heap.size, 0, none⟩ 1 1 [.int .i64 k] rfl rfl ?d1 ?d2 ?d3 ?d4 ?d5 ?_)
        case d1 =>
          intro j u hj
          match j, hj with
          | 0, hj => simp at hj; subst hj; simp [Addr.add]
        case d2 => intro u hu; simp at hu; subst hu; rfl
        case d3 => unfold maxLen; omega
        case d4 => omega
        case d5 => simp; omega
        intro v2' w3 hown2 hgrow2 _ hat2
        have ho2'' := Lib.hid hown2
        have ho1'' := Lib.hid ((ho1'.out.alloc (.cells #[.int .i64 k] 3)).kept hgrow2 hap'.out.ne)
        have hap'' := Lib.hid (Apart.step hap'.out.symm ho1'.out hat2 (by omega)).symm
        have hbw3 := Lib.hid ((hbw2.out.alloc hb2 (.cells #[.int .i64 k] 3)).grown hgrow2 (by simp; omega) (fun k hk => (ho2'.out.lt k hk).1))
        clear hown2 hgrow2 hat2 ho1' ho2' hap' hbw2 hb2
        go_wp2
        go_roundw
        case rel => exact ⟨pre ++ [(k, r)], f, k + n, by go_num, by omega, by omega, Lib.hid (by rw [List.append_assoc]; exact HR.out), by simp; omega, Lib.hid (by rw [List.length_append, List.map_append]; exact ho1''.out), Lib.hid (by rw [List.length_append, List.map_append]; exact ho2''.out), hap'', hbw3⟩
        case measure => simp only [intOf]; omega
    · obtain rfl : k = s.size := by omega
      have hr' := hr.out
      have e : runesFrom f (s.data.toList.drop s.size) s.size = [] := by
        rw [List.drop_eq_nil_of_le (by rw [← Lib.size_eq]; omega)]
        cases f <;> simp [runesFrom]
      rw [e, List.append_nil] at hr'
      have HR := Lib.hid hr'
      clear hr hr' e
      go_wp2
      go_ret2
      exact ⟨⟨u4, u5, rfl, by rw [HR.out]; exact ho1.out⟩, hbw.out⟩

end Go.Proofs.YtemceefalkfneaaGreatDoor
