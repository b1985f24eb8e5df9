/- Parts, joined: crc: one step of a register; the table of the steps. No condition. Rows of values, cell by cell. No condition. append of one datum to a row that the call builds: the law that the walks use. No condition. -/
import Derived.Test.YtjjbbnodmpemiaaGreatDoorProg
import Derived.Laws.BitsAllLaws
import Derived.Laws.Shifts
import Derived.Deep.DeepCutAuto
import Derived.IntWalk
import Derived.Lib.Hide
import Derived.Handy
import Derived.Laws.AppendOwn
import Derived.Test.YtjjbbnodmpemiaaGreatDoorKPull2
import Derived.Test.YtjjbbnodmpemiaaGreatDoorKPull4
/- crc: one step of a register; the table of the steps. No condition. -/
namespace Go.Proofs.YtjjbbnodmpemiaaGreatDoor
open Go.RowKit

theorem xor_poly (r : Nat) (h : r < 4294967296) : bits .xor .u32 (r : Int) 3988292384 = ((r ^^^ poly : Nat) : Int) := u32_xor_nat r 3988292384 h (by omega)

theorem go1_calls (r bit : Nat) (hr : r < 4294967296) (_ : bit < 2) (w : World) : Calls Tryz.prog 126 #[.int .u32 r, .int .u32 bit] w fun e w' => e = .returned (.int .u32 (go1N r bit : Nat)) ∧ w = w' := by
  have hx := xor_poly (r / 2) (by omega)
  have e2 : ((r : Int) / 2) = ((r / 2 : Nat) : Int) := by omega
  rw [← e2] at hx
  by_cases h : r % 2 = bit
  · have hm : ((go1N r bit : Nat) : Int) = (r : Int) / 2 := by unfold go1N; rw [if_neg (by omega), e2]
    have ht : (((r : Int) % 2) != (bit : Int)) = false := by simp; omega
    have Hm := Lib.hid hm
    clear hm
    clear e2 h hx
    go_enter Tryz.func126, Tryz.ntmps126
    go_wp2
    go_ret
    exact ⟨by rw [Hm.out]; rfl, rfl⟩
  · have hm : ((go1N r bit : Nat) : Int) = ((r / 2 ^^^ poly : Nat) : Int) := by unfold go1N; rw [if_pos (by omega)]
    have ht : (((r : Int) % 2) != (bit : Int)) = true := by simp; omega
    have Hm := Lib.hid hm
    clear hm
    clear e2 h
    go_enter Tryz.func126, Tryz.ntmps126
    go_wp2
    go_ret
    exact ⟨by rw [Hm.out]; rfl, rfl⟩

/-- One number's four steps, stored into the table. -/
theorem ste1_calls (k : Nat) (hk : k < 16) (g : Nat) (cs : Array Value) (hcs : cs.size = 16) (w : World) (h : Blk w g 195 cs) :
    Calls Tryz.prog 154 #[.int .u32 k, .pointer (some ⟨g, 0, none⟩)] w fun e w' => e = .returned (.tuple #[]) ∧ w' = w.setCell ⟨g, k, none⟩ (.int .u32 (stN 4 k : Nat)) := by
  obtain ⟨u0, hc⟩ : ∃ u0, w.cell? ⟨g, k, none⟩ = some u0 := ⟨_, (h.cell k).trans (Array.getElem?_eq_getElem (by omega))⟩
  have hf := h.frozen k
  have hk1 : (k : Int) < 16 := by omega
  have hk0 : (0 : Int) ≤ k := by omega
  have H := Lib.hid h
  have Hcs := Lib.hid hcs
  clear h hcs
  go_enter Tryz.func154, Tryz.ntmps154
  go_wp2
  go_loop [3, 6] (fun r i => ∃ q : Nat, q ≤ 4 ∧ i = .int .i64 q ∧ r = .int .u32 (stN q k : Nat)) (fun _ i => 4 - (intOf i).toNat)
  case atStart => exact ⟨0, by omega, rfl, rfl⟩
  case round =>
    obtain ⟨q, hq, rfl, rfl⟩ := hrel
    by_cases hlt : q < 4
    · obtain ⟨r, hr⟩ : ∃ r, stN q k = r := ⟨_, rfl⟩
      have hrl : r < 4294967296 := by rw [← hr]; exact stN_lt q (by omega)
      have hs : stN (q + 1) k = st1 r := by rw [← hr, stN_add]; rfl
      rw [hr]
      have hA : bits .and .u32 (r : Int) 1 = ((r % 2 : Nat) : Int) := by rw [← nat_mask1]; exact u32_and_nat r 1 hrl (by omega)
      have hx := xor_poly (r / 2) (by omega)
      have e2 : ((r : Int) / 2) = ((r / 2 : Nat) : Int) := by omega
      rw [← e2] at hx
      by_cases ho : r % 2 = 1
      · have hB : ((((r % 2 : Nat) : Int)) == 1) = true := by simp; omega
        have hS : Hid (stN (q + 1) k = (r / 2) ^^^ poly) := by rw [hs]; unfold st1; rw [if_pos ho]; exact rfl
        clear hr hs e2 ho
        go_wp2
        go_round
        case rel => exact ⟨q + 1, by omega, by go_num, by rw [hS.out]⟩
        case measure => simp [intOf]; omega
      · have hB : ((((r % 2 : Nat) : Int)) == 1) = false := by simp; omega
        have hS : Hid (stN (q + 1) k = r / 2) := by rw [hs]; unfold st1; rw [if_neg ho]; exact rfl
        clear hr hs e2 ho hx
        go_wp2
        go_round
        case rel => exact ⟨q + 1, by omega, by go_num, by rw [hS.out]; go_num⟩
        case measure => simp [intOf]; omega
    · obtain rfl : q = 4 := by omega
      go_wp2
      go_end0
      exact ⟨rfl, rfl⟩
end Go.Proofs.YtjjbbnodmpemiaaGreatDoor

/- Rows of values, cell by cell. No condition. -/
namespace Go.Proofs.YtjjbbnodmpemiaaGreatDoor
open Go.RowKit

/-- These cells are those of these values, one behind the other. -/
def RowL (w : World) (B : Nat) : List Val → List Value → Prop
  | [], ns => ns = []
  | v :: r, ns => ∃ cs rest, ns = cs ++ rest ∧ HoldsV w B v cs ∧ RowL w B r rest

theorem HoldsV.len {w : World} {B : Nat} {v : Val} {cs : List Value} (h : HoldsV w B v cs) : cs.length = 6 ∧ ∀ u ∈ cs, u.oneCell' = true := by
  obtain ⟨k, b, n, t, l, o⟩ := v
  simp only [HoldsV] at h
  obtain ⟨la, lc, oa, oc, rfl, _, _⟩ := h
  refine ⟨rfl, fun u hu => ?_⟩
  simp only [List.mem_cons, List.not_mem_nil, or_false] at hu
  rcases hu with rfl | rfl | rfl | rfl | rfl | rfl <;> rfl
theorem RowL.len {w : World} {B : Nat} : ∀ {l : List Val} {ns : List Value}, RowL w B l ns → ns.length = l.length * 6 ∧ ∀ u ∈ ns, u.oneCell' = true
  | [], ns, h => by
    have : ns = [] := h
    subst this
    exact ⟨rfl, fun u hu => by cases hu⟩
  | v :: r, ns, h => by
    obtain ⟨cs, rest, rfl, h1, h2⟩ := h
    obtain ⟨a1, a2⟩ := h1.len
    obtain ⟨b1, b2⟩ := RowL.len h2
    refine ⟨by rw [List.length_append, a1, b1, List.length_cons]; omega, fun u hu => ?_⟩
    rcases List.mem_append.1 hu with hu | hu
    · exact a2 u hu
    · exact b2 u hu
theorem HoldsL.row {w : World} {B : Nat} : ∀ {l : List Val} {g off : Nat}, HoldsL w B l g off → ∃ ns, RowL w B l ns ∧ ∀ j u, ns[j]? = some u → w.cell? ⟨g, off + j, none⟩ = some u
  | [], _, _, _ => ⟨[], rfl, fun j u h => by simp at h⟩
  | v :: r, g, off, h => by
    simp only [HoldsL] at h
    obtain ⟨⟨cs, h1, h2⟩, h3⟩ := h
    obtain ⟨ns, h4, h5⟩ := HoldsL.row h3
    refine ⟨cs ++ ns, ⟨cs, ns, rfl, h1, h4⟩, fun j u hu => ?_⟩
    have hl := h1.len.1
    by_cases hj : j < 6
    · rw [List.getElem?_append_left (by omega)] at hu
      exact h2 j u hu
    · rw [List.getElem?_append_right (by omega), hl] at hu
      have := h5 (j - 6) u hu
      rwa [show off + 6 + (j - 6) = off + j from by omega] at this
theorem RowL.holds {w w' : World} {B B' : Nat} (hk : ∀ v cs, HoldsV w B v cs → HoldsV w' B' v cs) {g : Nat} : ∀ {l : List Val} {ns : List Value} {off : Nat}, RowL w B l ns → (∀ j u, ns[j]? = some u → w'.cell? ⟨g, off + j, none⟩ = some u) → HoldsL w' B' l g off
  | [], _, _, _, _ => by simp [HoldsL]
  | v :: r, ns, off, h, hc => by
    obtain ⟨cs, rest, rfl, h1, h2⟩ := h
    have hl := h1.len.1
    simp only [HoldsL]
    refine ⟨⟨cs, hk v cs h1, fun j u hu => hc j u ?_⟩, RowL.holds hk h2 (fun j u hu => ?_)⟩
    · have := (List.getElem?_eq_some_iff.1 hu).1
      rw [List.getElem?_append_left this]
      exact hu
    · rw [show off + 6 + j = off + (6 + j) from by omega]
      refine hc (6 + j) u ?_
      rw [List.getElem?_append_right (by omega), hl, show 6 + j - 6 = j from by omega]
      exact hu
theorem RowL.snoc {w : World} {B : Nat} {v : Val} {cs : List Value} (hv : HoldsV w B v cs) : ∀ {l : List Val} {ns : List Value}, RowL w B l ns → RowL w B (l ++ [v]) (ns ++ cs)
  | [], ns, h => by
    have : ns = [] := h
    subst this
    exact ⟨cs, [], by simp, hv, rfl⟩
  | x :: r, ns, h => by
    obtain ⟨c1, rest, rfl, h1, h2⟩ := h
    exact ⟨c1, rest ++ cs, by simp, h1, RowL.snoc hv h2⟩

/-- The values at once within one. -/
def within : Val → List Val
  | .mk k _ _ _ l o => if k = 5 then l else if k = 6 then o.map (·.2) else []

end Go.Proofs.YtjjbbnodmpemiaaGreatDoor

/- append of one datum to a row that the call builds: the law that the walks use. No condition. -/
namespace Go.Proofs.YtjjbbnodmpemiaaGreatDoor
open Go Go.RowKit

/-- A slice over a block that is known whole: one element. -/
theorem reads_one {w : World} {g : Nat} {t : TypeId} {cs : Array Value} (h : Blk w g t cs) : Reads w (g + 1) cs.size (some ⟨g, 0, none⟩) 1 cs.toList := by
  refine ⟨by simp, fun _ => ⟨_, rfl, by simp, fun j u hu => ?_⟩⟩
  rw [add_plain', Nat.zero_add]
  exact (h.cell j).trans (by rw [← Array.getElem?_toList]; exact hu)
/-- A row of one datum, laid as a literal. -/
theorem RowD.lit {b : Nat} {t : TypeId} {w : World} {d : D} {cs : Array Value} (hb : b ≤ w.heap.size) (hd : d.cells = cs.size) (h : ∀ w'' B, Holds w'' B d cs.toList) :
    RowD b t cs.size (w.alloc (.cells cs t)) [d] (.slice (some ⟨w.heap.size, 0, none⟩) 1 1) :=
  ⟨cs.toList, World.ownsRow_lit w cs 1 hb (by simp [maxLen]) (by simp), fun x hx => by simp at hx; rw [hx]; exact hd, fun w'' _ _ => HoldsA.one (h w'' _)⟩
/-- The data of a row hold at the world at hand. -/
theorem RowD.slice {b : Nat} {t : TypeId} {s : Nat} {wr : World} {l : List D} {V : Value} (h : RowD b t s wr l V) : ∃ a c, V = .slice a l.length c := by
  obtain ⟨ns, h1, _⟩ := h
  rcases h1.2 with ⟨rfl, h0⟩ | ⟨g, cap, cur, rfl, _⟩
  · exact ⟨_, _, by rw [h0]⟩
  · exact ⟨_, _, rfl⟩

/-- A row as a slice, at the world at hand. -/
theorem RowD.now {b : Nat} {t : TypeId} {s : Nat} {wr : World} {l : List D} {a : Option Addr} {n c : Nat} (h : RowD b t s wr l (.slice a n c)) : Holds wr wr.heap.size (.row s l) [.slice a n c] := by
  obtain ⟨a', c', e, _, hf, _⟩ := h.close
  cases e
  exact hf.now

section
variable {P : Program}
theorem run_append_D {t ty e : TypeId} {i : TypeInfo} {z : Value} {sz bytes : Nat} (ht : P.underlying t = some (.slice e)) (hi : P.info? e = some i) (hz : i.zero = some z) (hsize : i.size = sz) (hby : i.bytes = bytes) (hzs : z.cells.size = sz) (hsz : 0 < sz)
    {b : Nat} {wr w : World} {l : List D} {V : Value} (hrow : RowD b e sz wr l V) (hbw : b ≤ wr.heap.size) (hbe : Below wr.heap.size wr w) {d : D} {cs : List Value} (hd : d.cells = sz) (hx : Fresh wr.heap.size w d cs)
    {B : Nat} {A : Option Addr} {c : Nat} (hr : Reads w B sz A 1 cs) (h63 : l.length + 1 ≤ maxLen) (hbytes : (l.length + 1) * bytes ≤ 140737488355328) :
    ∃ V' w6, (Builtin.append_ #[t, t] ty #[V, .slice A 1 c]).run P w = .ok V' w6 ∧ RowD b e sz w6 (l ++ [d]) V' ∧ w.grownBy w6 V.ownBlock ∧ (V'.ownBlock = V.ownBlock ∨ V'.ownBlock = some w.heap.size) := by
  obtain ⟨ns, h1, h2, h3⟩ := hrow.below hbe
  have h1r := hrow
  obtain ⟨ns0, k1, k2, k3⟩ := h1r
  have hown : w.ownsRow b e sz V l.length ns0 := by
    refine k1.kept (row := none) ⟨hbe.os, hbe.tape, hbe.output, hbe.size, fun j hj _ => hbe.block j hj⟩ ?_
    cases hv : V.ownBlock <;> simp
  obtain ⟨V', w6, hrun, g1, g2, g3⟩ := run_append_any (P := P) w b t ty e i z sz bytes ht hi hz hsize hby hzs hsz V l.length ns0 hown B A 1 c cs hr hx.now.len.2 h63 hbytes (Nat.le_trans hbw hbe.size)
  refine ⟨V', w6, hrun, ?_, g2, g3⟩
  refine RowD.step hbw k3 k2 hd hx (fun g hg => (k1.lt g hg).2) g1 ?_ hbe.size g2.size (fun p _ p2 => hbe.cell p2) (fun p _ p2 p3 => World.cell?_of_block (g2.block p.block p2 (fun e => p3 e.symm)))
  rcases g3 with g3 | g3
  · exact .inl g3
  · exact .inr ⟨_, g3, Nat.le_refl _⟩
theorem wp_append_D {o : Oper} {a : Act} {K : Act → World → Prop} {Q : Exit → Act → World → Prop} (s x : Operand) (t : TypeId) {e : TypeId}
    (ho : o.op = .call { callee := .builtin .append, args := #[s, x], argTypes := #[t, t] }) {i : TypeInfo} {z : Value} {sz bytes : Nat} (ht : P.underlying t = some (.slice e)) (hi : P.info? e = some i) (hz : i.zero = some z) (hsize : i.size = sz) (hby : i.bytes = bytes) (hzs : z.cells.size = sz) (hsz : 0 < sz)
    {b : Nat} {wr w : World} {l : List D} {V : Value} (hs : a.eval s = V) (hrow : RowD b e sz wr l V) (hbw : b ≤ wr.heap.size) (hbe : Below wr.heap.size wr w) {d : D} {cs : List Value} (hd : d.cells = sz) (hf : Fresh wr.heap.size w d cs)
    {B : Nat} {A : Option Addr} {c : Nat} (hx : a.eval x = .slice A 1 c) (hr : Reads w B sz A 1 cs) (h63 : l.length + 1 ≤ maxLen) (hbytes : (l.length + 1) * bytes ≤ 140737488355328)
    (h : ∀ V' w6, RowD b e sz w6 (l ++ [d]) V' → w.grownBy w6 V.ownBlock → (V'.ownBlock = V.ownBlock ∨ V'.ownBlock = some w.heap.size) → K (a.put o.dst V') w6) : o.wp P a w K Q := by
  obtain ⟨V', w6, hrun, g1, g2, g3⟩ := run_append_D (ty := o.type) (c := c) ht hi hz hsize hby hzs hsz hrow hbw hbe hd hf hr h63 hbytes
  unfold Oper.wp execOp
  simp only [ho, resolve, invoke, builtin, Sem.run_bind, Sem.run_pure, Result.andThen_ok, List.map_toArray, List.map_cons, List.map_nil, hs, hx, hrun]
  exact h V' w6 g1 g2 g3
theorem wpList_append_D {ops : Array Oper} {rest : List Oper} {o : Oper} {a : Act} {Q : Exit → Act → World → Prop} (hgd : o.guard = none) (s x : Operand) (t : TypeId) {e : TypeId}
    (ho : o.op = .call { callee := .builtin .append, args := #[s, x], argTypes := #[t, t] }) {i : TypeInfo} {z : Value} {sz bytes : Nat} (ht : P.underlying t = some (.slice e)) (hi : P.info? e = some i) (hz : i.zero = some z) (hsize : i.size = sz) (hby : i.bytes = bytes) (hzs : z.cells.size = sz) (hsz : 0 < sz)
    {b : Nat} {wr w : World} {l : List D} {V : Value} (hs : a.eval s = V) (hrow : RowD b e sz wr l V) (hbw : b ≤ wr.heap.size) (hbe : Below wr.heap.size wr w) {d : D} {cs : List Value} (hd : d.cells = sz) (hf : Fresh wr.heap.size w d cs)
    {B : Nat} {A : Option Addr} {c : Nat} (hx : a.eval x = .slice A 1 c) (hr : Reads w B sz A 1 cs) (h63 : l.length + 1 ≤ maxLen) (hbytes : (l.length + 1) * bytes ≤ 140737488355328)
    (h : ∀ V' w6, RowD b e sz w6 (l ++ [d]) V' → w.grownBy w6 V.ownBlock → (V'.ownBlock = V.ownBlock ∨ V'.ownBlock = some w.heap.size) → wpList P ops Q rest (a.put o.dst V') w6) : wpList P ops Q (o :: rest) a w :=
  wpList_plain hgd fun _ hK => wp_append_D s x t ho ht hi hz hsize hby hzs hsz hs hrow hbw hbe hd hf hx hr h63 hbytes fun V' w6 h2 h3 h4 => hK _ _ (h V' w6 h2 h3 h4)
theorem step_append_D {ops : Array Oper} {o : Oper} {a : Act} {K : Act → World → Prop} {Q : Exit → Act → World → Prop} {E : Prop} (hgd : o.guard = none) (s x : Operand) (t : TypeId) {e : TypeId}
    (ho : o.op = .call { callee := .builtin .append, args := #[s, x], argTypes := #[t, t] }) {i : TypeInfo} {z : Value} {sz bytes : Nat} (ht : P.underlying t = some (.slice e)) (hi : P.info? e = some i) (hz : i.zero = some z) (hsize : i.size = sz) (hby : i.bytes = bytes) (hzs : z.cells.size = sz) (hsz : 0 < sz)
    {b : Nat} {wr w : World} {l : List D} {V : Value} (hs : a.eval s = V) (hrow : RowD b e sz wr l V) (hbw : b ≤ wr.heap.size) (hbe : Below wr.heap.size wr w) {d : D} {cs : List Value} (hd : d.cells = sz) (hf : Fresh wr.heap.size w d cs)
    {B : Nat} {A : Option Addr} {c : Nat} (hx : a.eval x = .slice A 1 c) (hr : Reads w B sz A 1 cs) (h63 : l.length + 1 ≤ maxLen) (hbytes : (l.length + 1) * bytes ≤ 140737488355328)
    (h : ∀ V' w6, RowD b e sz w6 (l ++ [d]) V' → w.grownBy w6 V.ownBlock → (V'.ownBlock = V.ownBlock ∨ V'.ownBlock = some w.heap.size) → K (a.put o.dst V') w6) :
    if Region.wanted o (yielded ops a.tmps) = true then Oper.wp P o a w K Q else E := by
  have hw : Region.wanted o (yielded ops a.tmps) = true := by simp [Region.wanted, hgd]
  rw [if_pos hw]
  exact wp_append_D s x t ho ht hi hz hsize hby hzs hsz hs hrow hbw hbe hd hf hx hr h63 hbytes h
end
end Go.Proofs.YtjjbbnodmpemiaaGreatDoor
