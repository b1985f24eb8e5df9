/- Parts, joined: Plain Lean, no program: the reference's runes are the decoder's. Bytes in memory: rows of bytes that a call owns, append of bytes. No condition. -/
import Derived.Lib.ValidU
import Derived.Test.YtkoliaodkojghaaGreatDoorProg
import Derived.Test.YtkoliaodkojghaaGreatDoorKPush6
import Derived.Test.YtkoliaodkojghaaGreatDoorKPush9
import Derived.Test.YtkoliaodkojghaaGreatDoorKPush14
/- Plain Lean, no program: the reference's runes are the decoder's. -/
namespace Go.Proofs.YtkoliaodkojghaaGreatDoor

theorem get_mk (l : List UInt8) (k : Nat) : ((ByteArray.mk l.toArray).get! k) = l.getD k 0 := by
  show l.toArray[k]! = l.getD k 0
  rw [getElem!_def]
  simp only [List.getElem?_toArray, List.getD_eq_getElem?_getD]
  cases l[k]? <;> rfl

theorem decodeL_eq (l : List UInt8) : Lib.decodeL l = Lib.decodeN l.length (l.getD 0 0).toNat (l.getD 1 0).toNat (l.getD 2 0).toNat (l.getD 3 0).toNat := by
  unfold Lib.decodeL
  rw [Lib.decode_at]
  simp only [Nat.sub_zero, Nat.zero_add, get_mk]
  rfl

theorem contFold_zero (l : List UInt8) (r : Int) : contFold l 0 r = some r := by cases l <;> rfl
theorem contFold_nil (n : Nat) (r : Int) : contFold [] (n + 1) r = none := rfl

def goodAt (l : List UInt8) : Prop :=
  atSpec l = if (Lib.decodeL l).1 = 65533 ∧ (Lib.decodeL l).2 = 1 then (0, 0) else (((Lib.decodeL l).1 : Int), ((Lib.decodeL l).2 : Int))

theorem pair_eq {a b c d : Int} (h : a = c) (k : b = d) : (a, b) = (c, d) := by rw [h, k]

set_option maxHeartbeats 8000000 in
theorem atSpec_dec1 (a : UInt8) : goodAt [a] := by
  unfold goodAt
  rw [decodeL_eq]
  have ha := a.toNat_lt
  simp only [atSpec_cons, atTail, List.length_nil, List.length_cons, List.getD_cons_zero, Nat.zero_add]
  generalize a.toNat = x at ha ⊢
  unfold Lib.decodeN
  simp only [Nat.lt_irrefl, false_and, and_false, if_false]
  repeat' split
  all_goals first | rfl | (exfalso; omega) | (simp_all; done) | (simp_all; omega)

set_option maxHeartbeats 8000000 in
theorem atSpec_dec2 (a b : UInt8) : goodAt [a, b] := by
  unfold goodAt
  rw [decodeL_eq]
  have ha := a.toNat_lt
  have hb := b.toNat_lt
  simp only [atSpec_cons, atTail, List.length_nil, List.length_cons, List.getD_cons_zero, List.getD_cons_succ, Nat.zero_add, Nat.reduceAdd, Nat.reduceLT, if_false, if_true, Nat.reduceSub]
  rw [show contFold [b] 1 ((a.toNat : Int) - 192) = _ from contFold_cons b [] 0 _, contFold_zero]
  generalize a.toNat = x at ha ⊢
  generalize b.toNat = y at hb ⊢
  unfold Lib.decodeN atEnd
  simp only [Nat.lt_irrefl, false_and, and_false, if_false]
  repeat' split
  all_goals first | rfl | (exfalso; omega) | (apply pair_eq <;> omega) | (simp_all; done) | (simp_all; omega)

set_option maxHeartbeats 8000000 in
theorem atSpec_dec3 (a b c : UInt8) : goodAt [a, b, c] := by
  unfold goodAt
  rw [decodeL_eq]
  have ha := a.toNat_lt
  have hb := b.toNat_lt
  have hc := c.toNat_lt
  simp only [atSpec_cons, atTail, List.length_nil, List.length_cons, List.getD_cons_zero, List.getD_cons_succ, Nat.zero_add, Nat.reduceAdd, Nat.reduceLT, if_false, if_true, Nat.reduceSub]
  rw [show contFold [b, c] 1 ((a.toNat : Int) - 192) = _ from contFold_cons b [c] 0 _, contFold_zero,
    show contFold [b, c] 2 ((a.toNat : Int) - 224) = _ from contFold_cons b [c] 1 _, show contFold [c] 1 (64 * ((a.toNat : Int) - 224) + b.toNat - 128) = _ from contFold_cons c [] 0 _, contFold_zero]
  generalize a.toNat = x at ha ⊢
  generalize b.toNat = y at hb ⊢
  generalize c.toNat = z at hc ⊢
  unfold Lib.decodeN atEnd
  simp only [Nat.lt_irrefl, false_and, and_false, if_false]
  repeat' split
  all_goals first | rfl | (exfalso; omega) | (apply pair_eq <;> omega) | (simp_all; done) | (simp_all; omega)

set_option maxHeartbeats 8000000 in
theorem atSpec_dec4 (a b c d : UInt8) (r : List UInt8) : goodAt (a :: b :: c :: d :: r) := by
  unfold goodAt
  rw [decodeL_eq]
  have ha := a.toNat_lt
  have hb := b.toNat_lt
  have hc := c.toNat_lt
  have hd := d.toNat_lt
  rw [atSpec_cons]
  have l2 : ¬ (b :: c :: d :: r).length + 1 < 2 := by simp
  have l3 : ¬ (b :: c :: d :: r).length + 1 < 3 := by simp
  have l4 : ¬ (b :: c :: d :: r).length + 1 < 4 := by simp
  have e2 : atTail (b :: c :: d :: r) 2 ((a.toNat : Int) - 192) 128 = atEnd (if (b.toNat : Int) < 128 ∨ 192 ≤ (b.toNat : Int) then none else some (64 * ((a.toNat : Int) - 192) + b.toNat - 128)) 2 128 := by
    unfold atTail
    rw [if_neg l2, show (2 - 1 : Nat) = 0 + 1 from rfl, contFold_cons, contFold_zero]
  have e3 : atTail (b :: c :: d :: r) 3 ((a.toNat : Int) - 224) 2048 = atEnd (if (b.toNat : Int) < 128 ∨ 192 ≤ (b.toNat : Int) then none else if (c.toNat : Int) < 128 ∨ 192 ≤ (c.toNat : Int) then none else some (64 * (64 * ((a.toNat : Int) - 224) + b.toNat - 128) + c.toNat - 128)) 3 2048 := by
    unfold atTail
    rw [if_neg l3, show (3 - 1 : Nat) = 1 + 1 from rfl, contFold_cons, show (1 : Nat) = 0 + 1 from rfl, contFold_cons, contFold_zero]
  have e4 : atTail (b :: c :: d :: r) 4 ((a.toNat : Int) - 240) 65536 = atEnd (if (b.toNat : Int) < 128 ∨ 192 ≤ (b.toNat : Int) then none else if (c.toNat : Int) < 128 ∨ 192 ≤ (c.toNat : Int) then none else if (d.toNat : Int) < 128 ∨ 192 ≤ (d.toNat : Int) then none else some (64 * (64 * (64 * ((a.toNat : Int) - 240) + b.toNat - 128) + c.toNat - 128) + d.toNat - 128)) 4 65536 := by
    unfold atTail
    rw [if_neg l4, show (4 - 1 : Nat) = 2 + 1 from rfl, contFold_cons, show (2 : Nat) = 1 + 1 from rfl, contFold_cons, show (1 : Nat) = 0 + 1 from rfl, contFold_cons, contFold_zero]
  rw [e2, e3, e4]
  clear e2 e3 e4 l2 l3 l4
  have hl : 3 < (a :: b :: c :: d :: r).length := by simp
  generalize (a :: b :: c :: d :: r).length = n at hl
  simp only [List.getD_cons_zero, List.getD_cons_succ]
  generalize a.toNat = x at ha ⊢
  generalize b.toNat = y at hb ⊢
  generalize c.toNat = z at hc ⊢
  generalize d.toNat = u at hd ⊢
  unfold Lib.decodeN
  by_cases b1 : (y : Int) < 128 ∨ 192 ≤ (y : Int)
  · simp only [if_pos b1]
    unfold atEnd
    repeat' split
    all_goals first | rfl | (exfalso; omega) | (apply pair_eq <;> omega) | (simp_all; done) | (simp_all; omega)
  simp only [if_neg b1]
  by_cases b2 : (z : Int) < 128 ∨ 192 ≤ (z : Int)
  · simp only [if_pos b2]
    unfold atEnd
    repeat' split
    all_goals first | rfl | (exfalso; omega) | (apply pair_eq <;> omega) | (simp_all; done) | (simp_all; omega)
  simp only [if_neg b2]
  by_cases b3 : (u : Int) < 128 ∨ 192 ≤ (u : Int)
  · simp only [if_pos b3]
    unfold atEnd
    repeat' split
    all_goals first | rfl | (exfalso; omega) | (apply pair_eq <;> omega) | (simp_all; done) | (simp_all; omega)
  simp only [if_neg b3]
  unfold atEnd
  repeat' split
  all_goals first | rfl | (exfalso; omega) | (apply pair_eq <;> omega) | (simp_all; done) | (simp_all; omega)

theorem atSpec_dec (l : List UInt8) (h : l ≠ []) : goodAt l :=
  match l, h with
  | [a], _ => atSpec_dec1 a
  | [a, b], _ => atSpec_dec2 a b
  | [a, b, c], _ => atSpec_dec3 a b c
  | a :: b :: c :: d :: r, _ => atSpec_dec4 a b c d r

end Go.Proofs.YtkoliaodkojghaaGreatDoor

/- Bytes in memory: rows of bytes that a call owns, append of bytes. No condition. -/
namespace Go.Proofs.YtkoliaodkojghaaGreatDoor
open Go Go.RowKit

/-- Bytes as cells. -/
def bcells (l : List UInt8) : List Value := l.map fun x => .int .u8 x.toNat
theorem bcells_len (l : List UInt8) : (bcells l).length = l.length := List.length_map ..
theorem bcells_app (l r : List UInt8) : bcells (l ++ r) = bcells l ++ bcells r := List.map_append ..
theorem bcells_one (l : List UInt8) : ∀ u ∈ bcells l, u.oneCell' = true := by
  intro u hu
  obtain ⟨x, _, rfl⟩ := List.mem_map.1 hu
  rfl
theorem dB_holds (w : World) (B : Nat) : ∀ l, HoldsA w B (dB l) (bcells l)
  | [] => rfl
  | x :: r => ⟨[.int .u8 x.toNat], bcells r, rfl, ⟨rfl, rfl⟩, dB_holds w B r⟩
theorem dB_cells_of {w : World} {B : Nat} : ∀ {l : List UInt8} {ns : List Value}, HoldsA w B (dB l) ns → ns = bcells l
  | [], _, h => h
  | x :: r, _, h => by
    obtain ⟨c1, c2, rfl, ⟨rfl, _⟩, h2⟩ := h
    rw [dB_cells_of h2]; rfl
theorem dB_reads {w : World} {B n c : Nat} {l : List UInt8} {a : Option Addr} (h : Holds w B (.row 1 (dB l)) [.slice a n c]) : n = l.length ∧ Reads w B 1 a n (bcells l) := by
  have hn := dB_n h
  obtain ⟨ns, h1, h2, _⟩ := h.reads
  rw [dB_cells_of h2] at h1
  exact ⟨hn, h1⟩
/-- A slice over a block of bytes that is known whole. -/
theorem reads_lit {w : World} {g : Nat} {t : TypeId} {x : UInt8} (h : Blk w g t #[.int .u8 x.toNat]) : Reads w (g + 1) 1 (some ⟨g, 0, none⟩) 1 (bcells [x]) := by
  refine ⟨rfl, fun _ => ⟨_, rfl, by simp, fun j u hu => ?_⟩⟩
  match j, hu with
  | 0, hu =>
    rw [show (⟨g, 0, none⟩ : Addr).add 0 = ⟨g, 0, none⟩ from rfl]
    exact (h.cell 0).trans hu
/-- A row of bytes that the call owns, as a slice. -/
theorem own_bytes {b : Nat} {wr : World} {v : Value} {l : List UInt8} (h : wr.ownsRow b 5 1 v l.length (bcells l)) :
    ∃ a c, v = .slice a l.length c ∧ Fresh b wr (.row 1 (dB l)) [.slice a l.length c] := by
  have h' := h
  rcases h.2 with ⟨rfl, h0⟩ | ⟨g, cap, cur, rfl, hbg, hg, hnc, _⟩
  · have hl : l = [] := List.eq_nil_of_length_eq_zero h0
    subst hl
    exact ⟨none, 0, rfl, fun _ _ _ => ⟨none, 0, rfl, dB_cells _, [], rfl, .inl rfl⟩⟩
  · have hgl := (Array.getElem?_eq_some_iff.1 hg).1
    refine ⟨_, cap, rfl, fun w'' k1 k2 => ⟨_, cap, by rw [dB_len], dB_cells _, bcells l, dB_holds _ _ _, .inr ⟨g, 0, rfl, hgl, fun j u hu => ?_⟩⟩⟩
    have h5 := h'.cells (g := g) rfl j u hu
    rw [add_plain'] at h5
    exact (k2 _ hbg hgl).trans h5

theorem run_append_types {P : Program} {t t' e e' : TypeId} {i : TypeInfo} (ht : P.underlying t = some (.slice e)) (ht' : P.underlying t' = some (.slice e')) (hi : P.info? e = some i) (ty : TypeId) (b : Option Addr) (n c : Nat) (y : Value) (w : World) :
    (Builtin.append_ #[t, t'] ty #[.slice b n c, y]).run P w = (Builtin.append_ #[t, t] ty #[.slice b n c, y]).run P w := by
  simp [Builtin.append_, run_underlying ht, run_underlying ht', sizeOf, typeInfo, hi]

theorem u8_info : (Tryz.prog.info? 5).map (fun i => (i.zero, i.size, i.bytes)) = some (some (.int .u8 0), 1, 1) := by kernel_rfl
/-- append of bytes to a row of the call's own. -/
theorem wp_append_by {o : Oper} {a : Act} {w : World} {K : Act → World → Prop} {Q : Exit → Act → World → Prop} (s x : Operand) (t t' e' : TypeId)
    (ho : o.op = .call { callee := .builtin .append, args := #[s, x], argTypes := #[t, t'] }) (ht : Tryz.prog.underlying t = some (.slice 5)) (ht' : Tryz.prog.underlying t' = some (.slice e'))
    (base : Nat) (v : Value) (l : List UInt8) (hs : a.eval s = v) (hown : w.ownsRow base 5 1 v l.length (bcells l))
    (B : Nat) (A : Option Addr) (m c : Nat) (r : List UInt8) (hx : a.eval x = .slice A m c) (hr : Reads w B 1 A m (bcells r)) (hlen : l.length + r.length ≤ 4000000000) (hbase : base ≤ w.heap.size)
    (h : ∀ v' w', w'.ownsRow base 5 1 v' (l ++ r).length (bcells (l ++ r)) → w.grownBy w' v.ownBlock → (v'.ownBlock = v.ownBlock ∨ v'.ownBlock = some w.heap.size) → K (a.put o.dst v') w') : o.wp Tryz.prog a w K Q := by
  obtain ⟨i0, hi, hz, hz1, hz2⟩ := info_parts u8_info
  have hm : m = r.length := by have := hr.1; rw [bcells_len] at this; omega
  subst hm
  obtain ⟨v', w', hrun, h2, h3, h4⟩ := run_append_any (P := Tryz.prog) w base t o.type 5 i0 (.int .u8 0) 1 1 ht hi hz hz1 hz2 rfl (by omega) v l.length (bcells l) hown B A _ c (bcells r) hr (bcells_one r)
    (by simp only [maxLen]; omega) (by omega) hbase
  obtain ⟨b0, n0, c0, rfl⟩ : ∃ b0 n0 c0, v = .slice b0 n0 c0 := by
    rcases hown.2 with ⟨rfl, _⟩ | ⟨g, cap, cur, rfl, _⟩ <;> exact ⟨_, _, _, rfl⟩
  rw [← run_append_types ht ht' hi] at hrun
  unfold Oper.wp execOp
  simp only [ho, resolve, invoke, builtin, Sem.run_bind, Sem.run_pure, Result.andThen_ok, List.map_toArray, List.map_cons, List.map_nil, hs, hx, hrun]
  exact h v' w' (by rw [List.length_append, bcells_app]; exact h2) h3 h4
theorem wpList_append_by {ops : Array Oper} {rest : List Oper} {o : Oper} {a : Act} {w : World} {Q : Exit → Act → World → Prop} (hgd : o.guard = none) (s x : Operand) (t t' e' : TypeId)
    (ho : o.op = .call { callee := .builtin .append, args := #[s, x], argTypes := #[t, t'] }) (ht : Tryz.prog.underlying t = some (.slice 5)) (ht' : Tryz.prog.underlying t' = some (.slice e'))
    (base : Nat) (v : Value) (l : List UInt8) (hs : a.eval s = v) (hown : w.ownsRow base 5 1 v l.length (bcells l))
    (B : Nat) (A : Option Addr) (m c : Nat) (r : List UInt8) (hx : a.eval x = .slice A m c) (hr : Reads w B 1 A m (bcells r)) (hlen : l.length + r.length ≤ 4000000000) (hbase : base ≤ w.heap.size)
    (h : ∀ v' w', w'.ownsRow base 5 1 v' (l ++ r).length (bcells (l ++ r)) → w.grownBy w' v.ownBlock → (v'.ownBlock = v.ownBlock ∨ v'.ownBlock = some w.heap.size) → wpList Tryz.prog ops Q rest (a.put o.dst v') w') : wpList Tryz.prog ops Q (o :: rest) a w :=
  wpList_plain hgd fun _ hK => wp_append_by s x t t' e' ho ht ht' base v l hs hown B A m c r hx hr hlen hbase fun v' w' h2 h3 h4 => hK _ _ (h v' w' h2 h3 h4)
end Go.Proofs.YtkoliaodkojghaaGreatDoor
