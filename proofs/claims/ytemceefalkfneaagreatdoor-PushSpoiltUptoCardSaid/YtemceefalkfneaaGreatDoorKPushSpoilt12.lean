/- Parts, joined: Maps cell by cell, whatever their elements: an entry stored, an entry looked up. Plain. No condition. mutator.beginning, keyed, blank, strange. Condition: texts shorter than 10^9. The reference's word on a mutator's fields: zero, short, key, bare. Condition: values of a bulk of at most 10^8. -/
import Derived.WalkKit
import Derived.Below
import Derived.Maps.OwnSet
import Derived.Laws.OwnMore
import Derived.Test.YtemceefalkfneaaGreatDoorProg
import Derived.Test.YtemceefalkfneaaGreatDoorKCm4
import Derived.Test.YtemceefalkfneaaGreatDoorKCm12
import Derived.Test.YtemceefalkfneaaGreatDoorKCm28
import Derived.Test.YtemceefalkfneaaGreatDoorKPushSpoilt4
import Derived.Test.YtemceefalkfneaaGreatDoorKPushSpoilt9
/- Maps cell by cell, whatever their elements: an entry stored, an entry looked up. Plain. No condition. -/
namespace Go.Proofs.YtemceefalkfneaaGreatDoor
open Go Go.RowKit

/-- How keys of a map's type compare. -/
structure MKey {α : Type} [DecidableEq α] (P : Program) (kt : TypeId) (f : α → Value) : Prop where
  under : ∃ d, P.underlying kt = some d ∧ ∀ a b, Instr.sameNow d (f a) (f b) = some (decide (a = b))
  check : ∀ e w a, (Instr.checkKey e 10000 kt (f a)).run P w = .ok () w
theorem ba_beq (a b : ByteArray) : (a == b) = decide (a = b) := by
  obtain ⟨a⟩ := a
  obtain ⟨b⟩ := b
  have h : ((⟨a⟩ : ByteArray) == ⟨b⟩) = (a == b) := rfl
  rw [h]
  by_cases e : a = b <;> simp [e]
theorem mkey_string {P : Program} {kt : TypeId} (h : P.underlying kt = some .string) : MKey P kt Value.string := by
  refine ⟨⟨_, h, fun a b => ?_⟩, fun e w a => ?_⟩
  · simp only [Instr.sameNow]
    congr 1
    exact ba_beq a b
  · have key : ∀ n, (Instr.checkKey e (n + 1) kt (.string a)).run P w = .ok () w := fun n => by simp [Instr.checkKey, run_underlying h]
    exact key 9999
theorem mkey_int {P : Program} {kt : TypeId} {q : IntKind} (h : P.underlying kt = some (.int q)) : MKey P kt (Value.int q) := by
  refine ⟨⟨_, h, fun a b => ?_⟩, fun e w a => ?_⟩
  · simp only [Instr.sameNow, if_true]
    congr 1
  · have key : ∀ n, (Instr.checkKey e (n + 1) kt (.int q a)).run P w = .ok () w := fun n => by simp [Instr.checkKey, run_underlying h]
    exact key 9999

section
variable {α : Type}
def entsM (f : α → Value) : List (α × Value) → Nat → List MapEntry
  | [], _ => []
  | (k, v) :: r, i => { key := f k, val := v, born := i } :: entsM f r (i + 1)
/-- Block g is a map of these. -/
def MapAt (f : α → Value) (w : World) (g : Nat) (kv : List (α × Value)) : Prop := w.heap[g]? = some (.map (entsM f kv 0).toArray kv.length)
def findM [DecidableEq α] (a : α) : List (α × Value) → Option Value
  | [] => none
  | (k, v) :: r => if a = k then some v else findM a r
variable {f : α → Value} {P : Program} {kt et t : TypeId} {w w' : World} {g : Nat} {kv : List (α × Value)}
theorem entsM_append : ∀ (kv : List (α × Value)) (i : Nat) (k : α) (v : Value), entsM f (kv ++ [(k, v)]) i = entsM f kv i ++ [{ key := f k, val := v, born := i + kv.length }]
  | [], i, k, v => by simp [entsM]
  | (a, b) :: r, i, k, v => by
    simp only [List.cons_append, entsM, entsM_append r, List.length_cons]
    rw [show i + 1 + r.length = i + (r.length + 1) from by omega]
theorem MapAt.lt (h : MapAt f w g kv) : g < w.heap.size := by
  rcases Nat.lt_or_ge g w.heap.size with h1 | h1
  · exact h1
  · unfold MapAt at h; rw [Array.getElem?_eq_none h1] at h; cases h
theorem MapAt.keep (h : MapAt f w g kv) (hk : w'.heap[g]? = w.heap[g]?) : MapAt f w' g kv := hk.trans h
theorem MapAt.below {B : Nat} (h : MapAt f w g kv) (hb : Below B w w') (hg : g < B) : MapAt f w' g kv := (hb.block g hg).trans h
theorem MapAt.alloc (h : MapAt f w g kv) (o : Obj) : MapAt f (w.alloc o) g kv := (Below.heap_alloc w o g h.lt).trans h
theorem MapAt.new (w : World) : MapAt f (w.alloc (.map #[] 0)) w.heap.size [] := heap_alloc_new w _
theorem MapAt.setCell (h : MapAt f w g kv) {p : Addr} (hp : g ≠ p.block) (u : Value) : MapAt f (w.setCell p u) g kv := (Below.heap_setCell w p u g hp).trans h
variable [DecidableEq α]
theorem findNow_M {d : TypeDesc} (hd : ∀ a b, Instr.sameNow d (f a) (f b) = some (decide (a = b))) (a : α) : ∀ (kv : List (α × Value)) (i j : Nat), ∃ q, Instr.findNow d (f a) (entsM f kv i) j = some q ∧ q.map (·.2) = findM a kv
  | [], _, _ => ⟨none, rfl, rfl⟩
  | (k, v) :: r, i, j => by
    by_cases h : a = k
    · exact ⟨some (j, v), by simp [entsM, Instr.findNow, hd, h], by simp [findM, h]⟩
    · obtain ⟨q, h1, h2⟩ := findNow_M hd a r (i + 1) (j + 1)
      exact ⟨q, by simp [entsM, Instr.findNow, hd, h, h1], by rw [h2]; simp [findM, h]⟩
theorem run_insertM (K : MKey P kt f) (ht : P.underlying t = some (.map kt et)) (h : MapAt f w g kv) {a : α} (hn : findM a kv = none) (v : Value) :
    ∃ w', (Instr.mapUpdate t (.map (some g)) (f a) v).run P w = .ok () w' ∧ MapAt f w' g (kv ++ [(a, v)]) ∧ w.grownBy w' (some g) ∧ w'.heap.size = w.heap.size := by
  obtain ⟨d, hd, hs⟩ := K.under
  obtain ⟨q, h1, h2⟩ := findNow_M hs a kv 0 0
  rw [hn] at h2
  have hq : q = none := by cases q <;> simp_all
  subst hq
  have hck := K.check false w a
  have hfk : (Instr.findKey kt (f a) (entsM f kv 0)).run P w = .ok none w := by simp [Instr.findKey, Sem.run_bind, run_underlying hd, h1]
  have hlt := h.lt
  refine ⟨{ w with heap := w.heap.setIfInBounds g (.map ((entsM f kv 0).toArray.push { key := f a, val := v, born := kv.length }) (kv.length + 1)) }, ?_, ?_, ?_, ?_⟩
  · have hb : w.heap[g]? = some (.map (entsM f kv 0).toArray kv.length) := h
    unfold Instr.mapUpdate
    simp only [Sem.run_bind, run_underlying ht, Result.andThen, getObj, Sem.run, hb, hck, hfk, setObj]
  · unfold MapAt
    simp [hlt, entsM_append]
  · exact ⟨rfl, rfl, rfl, by simp, fun k hk hne => by simp only [Array.getElem?_setIfInBounds]; rw [if_neg]; rintro rfl; exact hne rfl⟩
  · simp
theorem wpList_insertM {ops : Array Oper} {rest : List Oper} {o : Oper} {a : Act} {Q : Exit → Act → World → Prop} (hg : o.guard = none) (m x u : Operand) (t : TypeId) (hop : o.op = Op.insert t m x u)
    (K : MKey P kt f) (ht : P.underlying t = some (.map kt et)) (hm : a.eval m = .map (some g)) (h : MapAt f w g kv) {k : α} {v : Value} (hx : a.eval x = f k) (hv : a.eval u = v) (hn : findM k kv = none)
    (hK : ∀ w', MapAt f w' g (kv ++ [(k, v)]) → w.grownBy w' (some g) → w'.heap.size = w.heap.size → wpList P ops Q rest (a.put o.dst undef) w') : wpList P ops Q (o :: rest) a w := by
  refine wpList_plain hg fun K' hK' => ?_
  obtain ⟨w', hrun, r1, r2, r3⟩ := run_insertM K ht h hn v
  unfold Oper.wp
  simp [execOp, hop, hm, hx, hv, hrun, Result.andThen]
  exact hK' _ _ (hK w' r1 r2 r3)
theorem run_lookM (K : MKey P kt f) (ht : P.underlying t = some (.map kt et)) (h : MapAt f w g kv) (a : α) {z : Value} (hz : ∀ w, (zeroValue et).run P w = .ok z w) (c : Bool) :
    (Instr.lookup t (.map (some g)) (f a) c).run P w = .ok (if c then .tuple #[(findM a kv).getD z, .bool (findM a kv).isSome] else (findM a kv).getD z) w := by
  obtain ⟨d, hd, hs⟩ := K.under
  obtain ⟨q, h1, h2⟩ := findNow_M hs a kv 0 0
  have hck := fun e => K.check e w a
  have hfk : (Instr.findKey kt (f a) (entsM f kv 0)).run P w = .ok q w := by simp [Instr.findKey, Sem.run_bind, run_underlying hd, h1]
  have hb : w.heap[g]? = some (.map (entsM f kv 0).toArray kv.length) := h
  unfold Instr.lookup
  simp only [Sem.run_bind, run_underlying ht, Result.andThen, getObj, Sem.run, hb]
  cases q with
  | none =>
    have : findM a kv = none := by cases hq : findM a kv <;> simp_all
    rw [this]
    cases c <;> simp [hck, hfk, hz w, Result.andThen]
  | some p =>
    obtain ⟨i, v⟩ := p
    have : findM a kv = some v := by rw [← h2]; rfl
    rw [this]
    cases c <;> simp [hck, hfk]
end
end Go.Proofs.YtemceefalkfneaaGreatDoor

/- mutator.beginning, keyed, blank, strange. Condition: texts shorter than 10^9. -/
namespace Go.Proofs.YtemceefalkfneaaGreatDoor
open Go.RowKit

set_option maxRecDepth 100000 in
theorem beginning_calls (s : ByteArray) (w : World) (hT : Tabs w) (hs : s.size ≤ 1000000000) : Calls Tryz.prog 211 #[.string s] w fun e w' => e = .returned (.bool (shortB s)) ∧ Below w.heap.size w w' := by
  obtain ⟨B, hB⟩ : ∃ B, validB s = B := ⟨_, rfl⟩
  have hC := fun (W : World) hT => utfValid_calls2 hB W (by omega) hT
  by_cases h1 : s.size ≤ 64
  · have hE : shortB s = B := by unfold shortB; rw [hB]; simp [h1]
    have t1 : (s.size : Int) ≤ 64 := by omega
    have HC := Lib.hid hC
    have HE := Lib.hid hE
    have HT := Lib.hid hT
    clear hC hE hT
    clear h1
    go_enter Tryz.func211, Tryz.ntmps211
    go_wp2_with (go_at_call 164; (with_reducible refine (HC.out _ HT.out).mono ?_); rintro e w2 ⟨rfl, hb2⟩)
    go_ret
    exact ⟨by rw [HE.out]; rfl, hb2⟩
  · have hE : shortB s = false := by unfold shortB; simp [h1]
    have t1 : (64 : Int) < (s.size : Int) := by omega
    have HE := Lib.hid hE
    clear hE
    clear h1 hC
    go_enter Tryz.func211, Tryz.ntmps211
    go_wp2
    go_ret
    exact ⟨by rw [HE.out]; rfl, Below.refl _ _⟩

theorem isEmpty_eq (s : ByteArray) : s.toList.isEmpty = decide (s = ⟨#[]⟩) := by
  rw [Bool.eq_iff_iff, List.isEmpty_iff, decide_eq_true_eq, Lib.toList_data]
  constructor
  · intro h; exact ByteArray.ext (Array.ext' h)
  · rintro rfl; rfl

set_option maxRecDepth 100000 in
set_option maxHeartbeats 1000000 in
theorem keyed_calls (k : Int) (key dst : ByteArray) (had : Bool) (y3 y5 y6 y7 y8 y9 y10 y11 y12 y13 y14 y15 y16 y17 y18 : Value) (w : World) (hT : Tabs w) (h1 : key.size ≤ 1000000000) (h2 : dst.size ≤ 1000000000) :
    Calls Tryz.prog 145 #[.agg #[.int .i64 k, .string key, .string dst, y3, .bool had, y5, y6, y7, y8, y9, y10, y11, y12, y13, y14, y15, y16, y17, y18]] w fun e w' => e = .returned (.bool (keyedB k key dst had)) ∧ Below w.heap.size w w' := by
  have hb0 := alloc_below w (.cells #[.int .i64 k, .string key, .string dst, y3, .bool had, y5, y6, y7, y8, y9, y10, y11, y12, y13, y14, y15, y16, y17, y18] 85)
  have hT1 := hT.below hb0
  by_cases e6 : k = 6
  · subst e6
    have hE : keyedB 6 key dst had = (shortB key && shortB dst) := by unfold keyedB; rw [if_pos rfl]
    have hC := fun (W : World) hT => beginning_calls key W hT h1
    have hD := fun (W : World) hT => beginning_calls dst W hT h2
    have hxb := Blk.new w 85 #[.int .i64 6, .string key, .string dst, y3, .bool had, y5, y6, y7, y8, y9, y10, y11, y12, y13, y14, y15, y16, y17, y18]
    rw [hE]
    generalize shortB key = B at hC ⊢
    generalize shortB dst = B' at hD ⊢
    have HC := Lib.hid hC
    have HD := Lib.hid hD
    have HT1 := Lib.hid hT1
    have Hb0 := Lib.hid hb0
    have Hxb := Lib.hid hxb
    clear hC hD hT1 hb0 hxb
    clear hE hT
    cases B with
    | false =>
      go_enter Tryz.func145, Tryz.ntmps145
      go_wp2_with (go_at_call 211; (with_reducible refine (HC.out _ HT1.out).mono ?_); rintro e w2 ⟨rfl, hb2⟩)
      go_ret
      exact ⟨rfl, Hb0.out.trans (hb2.mono Hb0.out.size)⟩
    | true =>
      go_enter Tryz.func145, Tryz.ntmps145
      go_wp2_with (fail)
      with_reducible refine (HC.out _ HT1.out).mono ?_
      rintro e w2 ⟨rfl, hb2⟩
      obtain ⟨hc2, hg2⟩ := bcellM hb2
      have hlt := Hxb.out.lt
      have hT2 := HT1.out.below hb2
      go_wp2_with (fail)
      with_reducible refine (HD.out _ hT2).mono ?_
      rintro e w3 ⟨rfl, hb3⟩
      go_wp2
      go_ret
      exact ⟨by simp, (Hb0.out.trans (hb2.mono Hb0.out.size)).trans (hb3.mono (Nat.le_trans Hb0.out.size hb2.size))⟩
  by_cases e7 : k = 7 ∧ key.toList.isEmpty = true
  · obtain ⟨rfl, hk⟩ := e7
    have hE : keyedB 7 key dst had = !had := by unfold keyedB; rw [if_neg (by omega), if_pos ⟨rfl, hk⟩]
    rw [isEmpty_eq, decide_eq_true_eq] at hk
    subst hk
    rw [hE]
    have Hb0 := Lib.hid hb0
    clear hb0
    clear hE hT hT1
    go_enter Tryz.func145, Tryz.ntmps145
    go_wp2
    go_ret
    exact ⟨rfl, Hb0.out⟩
  have hE : keyedB k key dst had = decide (keyE key = 0) := by
    unfold keyedB
    rw [if_neg e6, if_neg e7, Bool.eq_iff_iff, decide_eq_true_eq, keyE_zero]
  have hC := fun (W : World) hT => keysMay_calls key W hT (by omega)
  have t6 : (k == 6) = false := by simpa using e6
  have hxb := Blk.new w 85 #[.int .i64 k, .string key, .string dst, y3, .bool had, y5, y6, y7, y8, y9, y10, y11, y12, y13, y14, y15, y16, y17, y18]
  rw [hE]
  generalize keyE key = X at hC ⊢
  by_cases k7 : k = 7
  · subst k7
    have t8 : key.toList.isEmpty = false := by cases e : key.toList.isEmpty; rfl; exact absurd ⟨rfl, e⟩ e7
    have HC := Lib.hid hC
    have HT1 := Lib.hid hT1
    have Hb0 := Lib.hid hb0
    have Hxb := Lib.hid hxb
    clear hC hT1 hb0 hxb
    clear hE hT e6 e7
    go_enter Tryz.func145, Tryz.ntmps145

    go_wp2_with (go_at_call 75; (with_reducible refine (HC.out _ HT1.out).mono ?_); rintro e w2 ⟨rfl, hb2⟩)
    go_ret
    exact ⟨by simp [beq_dec], Hb0.out.trans (hb2.mono Hb0.out.size)⟩
  · have t7 : (k == 7) = false := by simpa using k7
    have HC := Lib.hid hC
    have HT1 := Lib.hid hT1
    have Hb0 := Lib.hid hb0
    have Hxb := Lib.hid hxb
    clear hC hT1 hb0 hxb
    clear hE hT e6 e7 k7
    go_enter Tryz.func145, Tryz.ntmps145
    go_wp2_with (go_at_call 75; (with_reducible refine (HC.out _ HT1.out).mono ?_); rintro e w2 ⟨rfl, hb2⟩)
    go_ret
    exact ⟨by simp [beq_dec], Hb0.out.trans (hb2.mono Hb0.out.size)⟩

/-- Has a mutator nothing, whatever its Kind? -/
def blankB (key dst : ByteArray) (n : Int) (had z1 has z2 : Bool) (ln : Nat) : Bool := key.toList.isEmpty && dst.toList.isEmpty && decide (n = 0) && !had && z1 && !has && z2 && decide (ln = 0)
set_option maxRecDepth 100000 in
set_option maxHeartbeats 2000000 in
theorem blank_calls (k : Int) (key dst : ByteArray) (n : Int) (had : Bool) (k1 : Int) (b1 : Bool) (n1 : Int) (t1 : ByteArray) (la1 oa1 : Option Addr) (p1 lc1 q1 oc1 : Nat) (has : Bool) (k2 : Int) (b2 : Bool) (n2 : Int) (t2 : ByteArray) (la2 oa2 : Option Addr) (p2 lc2 q2 oc2 : Nat) (a : Option Addr) (ln c : Nat) (w : World) :
    Calls Tryz.prog 210 #[.agg #[.int .i64 k, .string key, .string dst, .int .i64 n, .bool had, .int .i64 k1, .bool b1, .int .i64 n1, .string t1, .slice la1 p1 lc1, .slice oa1 q1 oc1, .bool has, .int .i64 k2, .bool b2, .int .i64 n2, .string t2, .slice la2 p2 lc2, .slice oa2 q2 oc2, .slice a ln c]] w fun e w' =>
      e = .returned (.bool (blankB key dst n had (zero6B k1 b1 n1 t1 p1 q1) has (zero6B k2 b2 n2 t2 p2 q2) ln)) ∧ Below w.heap.size w w' := by
  have h1 := fun W => mzero_calls k1 b1 n1 t1 la1 oa1 p1 lc1 q1 oc1 _ W rfl
  have h2 := fun W => mzero_calls k2 b2 n2 t2 la2 oa2 p2 lc2 q2 oc2 _ W rfl
  generalize zero6B k1 b1 n1 t1 p1 q1 = Z1 at h1 ⊢
  generalize zero6B k2 b2 n2 t2 p2 q2 = Z2 at h2 ⊢
  by_cases c0 : key.toList.isEmpty = true
  rotate_left
  · have u0 : key.toList.isEmpty = false := by simpa using c0
    have hE : blankB key dst n had Z1 has Z2 ln = false := by simp [blankB, c0]
    rw [hE]
    have H1 := Lib.hid h1
    have H2 := Lib.hid h2
    clear h1 h2
    clear hE
    go_enter Tryz.func210, Tryz.ntmps210
    go_wp2
    go_ret
    exact ⟨rfl, alloc_below _ _⟩
  by_cases c1 : dst.toList.isEmpty = true
  rotate_left
  · have u1 : dst.toList.isEmpty = false := by simpa using c1
    have hE : blankB key dst n had Z1 has Z2 ln = false := by simp [blankB, c0, c1]
    rw [hE]
    have H1 := Lib.hid h1
    have H2 := Lib.hid h2
    clear h1 h2
    clear hE
    go_enter Tryz.func210, Tryz.ntmps210
    go_wp2
    go_ret
    exact ⟨rfl, alloc_below _ _⟩
  by_cases c2 : n = 0
  rotate_left
  · have u2 : (n == 0) = false := by simpa using c2
    have hE : blankB key dst n had Z1 has Z2 ln = false := by simp [blankB, c0, c1, c2]
    rw [hE]
    have H1 := Lib.hid h1
    have H2 := Lib.hid h2
    clear h1 h2
    clear hE
    go_enter Tryz.func210, Tryz.ntmps210
    go_wp2
    go_ret
    exact ⟨rfl, alloc_below _ _⟩
  subst c2
  by_cases c3 : had = false
  rotate_left
  · have u3 : had = true := by simpa using c3
    subst u3
    have hE : blankB key dst 0 true Z1 has Z2 ln = false := by simp [blankB]
    rw [hE]
    have H1 := Lib.hid h1
    have H2 := Lib.hid h2
    clear h1 h2
    clear hE
    go_enter Tryz.func210, Tryz.ntmps210
    go_wp2
    go_ret
    exact ⟨rfl, alloc_below _ _⟩
  subst c3
  by_cases c4 : Z1 = true
  rotate_left
  · have u4 : Z1 = false := by simpa using c4
    subst u4
    have hE : blankB key dst 0 false false has Z2 ln = false := by simp [blankB]
    rw [hE]
    have H1 := Lib.hid h1
    have H2 := Lib.hid h2
    clear h1 h2
    clear hE
    go_enter Tryz.func210, Tryz.ntmps210
    go_wp2_with (fail)
    with_reducible refine (H1.out _).mono ?_
    rintro e w2 ⟨rfl, hb2⟩
    have hlt2 : w.heap.size < w2.heap.size := by (have := hb2.size; simp at this; omega)
    obtain ⟨hc2, hg2⟩ := bcellM hb2
    go_wp2
    go_ret
    exact ⟨rfl, (alloc_below _ _).trans (hb2.mono (by simp))⟩
  subst c4
  by_cases c5 : has = false
  rotate_left
  · have u5 : has = true := by simpa using c5
    subst u5
    have hE : blankB key dst 0 false true true Z2 ln = false := by simp [blankB]
    rw [hE]
    have H1 := Lib.hid h1
    have H2 := Lib.hid h2
    clear h1 h2
    clear hE
    go_enter Tryz.func210, Tryz.ntmps210
    go_wp2_with (fail)
    with_reducible refine (H1.out _).mono ?_
    rintro e w2 ⟨rfl, hb2⟩
    have hlt2 : w.heap.size < w2.heap.size := by (have := hb2.size; simp at this; omega)
    obtain ⟨hc2, hg2⟩ := bcellM hb2
    go_wp2
    go_ret
    exact ⟨rfl, (alloc_below _ _).trans (hb2.mono (by simp))⟩
  subst c5
  by_cases c6 : Z2 = true
  rotate_left
  · have u6 : Z2 = false := by simpa using c6
    subst u6
    have hE : blankB key dst 0 false true false false ln = false := by simp [blankB]
    rw [hE]
    have H1 := Lib.hid h1
    have H2 := Lib.hid h2
    clear h1 h2
    clear hE
    go_enter Tryz.func210, Tryz.ntmps210
    go_wp2_with (fail)
    with_reducible refine (H1.out _).mono ?_
    rintro e w2 ⟨rfl, hb2⟩
    have hlt2 : w.heap.size < w2.heap.size := by (have := hb2.size; simp at this; omega)
    obtain ⟨hc2, hg2⟩ := bcellM hb2
    go_wp2_with (fail)
    with_reducible refine (H2.out _).mono ?_
    rintro e w3 ⟨rfl, hb3⟩
    obtain ⟨hc3, hg3⟩ := bcellM hb3
    go_wp2
    go_ret
    exact ⟨rfl, ((alloc_below _ _).trans (hb2.mono (by simp))).trans (hb3.mono (by omega))⟩
  subst c6
  by_cases c7 : ln = 0
  rotate_left
  · have u7 : ((ln : Int) == 0) = false := by simpa using c7
    have hE : blankB key dst 0 false true false true ln = false := by simp [blankB, c7]
    rw [hE]
    have H1 := Lib.hid h1
    have H2 := Lib.hid h2
    clear h1 h2
    clear hE
    go_enter Tryz.func210, Tryz.ntmps210
    go_wp2_with (fail)
    with_reducible refine (H1.out _).mono ?_
    rintro e w2 ⟨rfl, hb2⟩
    have hlt2 : w.heap.size < w2.heap.size := by (have := hb2.size; simp at this; omega)
    obtain ⟨hc2, hg2⟩ := bcellM hb2
    go_wp2_with (fail)
    with_reducible refine (H2.out _).mono ?_
    rintro e w3 ⟨rfl, hb3⟩
    obtain ⟨hc3, hg3⟩ := bcellM hb3
    go_wp2
    go_ret
    exact ⟨rfl, ((alloc_below _ _).trans (hb2.mono (by simp))).trans (hb3.mono (by omega))⟩
  subst c7
  have hE : blankB key dst 0 false true false true 0 = true := by simp [blankB, c0, c1]
  rw [hE]
  have H1 := Lib.hid h1
  have H2 := Lib.hid h2
  clear h1 h2
  clear hE
  go_enter Tryz.func210, Tryz.ntmps210
  go_wp2_with (fail)
  with_reducible refine (H1.out _).mono ?_
  rintro e w2 ⟨rfl, hb2⟩
  have hlt2 : w.heap.size < w2.heap.size := by (have := hb2.size; simp at this; omega)
  obtain ⟨hc2, hg2⟩ := bcellM hb2
  go_wp2_with (fail)
  with_reducible refine (H2.out _).mono ?_
  rintro e w3 ⟨rfl, hb3⟩
  obtain ⟨hc3, hg3⟩ := bcellM hb3
  go_wp2
  go_ret
  exact ⟨rfl, ((alloc_below _ _).trans (hb2.mono (by simp))).trans (hb3.mono (by omega))⟩
end Go.Proofs.YtemceefalkfneaaGreatDoor

/- The reference's word on a mutator's fields: zero, short, key, bare. Condition: values of a bulk of at most 10^8. -/
namespace Go.Proofs.YtemceefalkfneaaGreatDoor
open Go.RowKit

set_option maxRecDepth 100000 in
theorem r11zero_calls (v : Val) (cs : List Value) (w : World) (hV : HoldsV w w.heap.size v cs) (hb : v.bulk ≤ 100000000) {B : Bool} (hB : zeroB v = B) :
    Calls Tryz.prog 171 #[.agg cs.toArray] w fun e w' => e = .returned (.bool B) ∧ Below w.heap.size w w' := by
  obtain ⟨k, b, n, t, l, o⟩ := v
  have hV' := hV
  simp only [HoldsV] at hV'
  obtain ⟨la, lc, oa, oc, rfl, _, _⟩ := hV'
  have hb0 := alloc_below w (.cells #[.int .i64 k, .bool b, .int .i64 n, .string t, .slice la l.length lc, .slice oa o.length oc] 52)
  have hC := rzero_calls _ _ _ (HoldsV.more hb0.size _ _ (hV.below hb0)) hb hB
  have HC := Lib.hid hC
  have Hb0 := Lib.hid hb0
  clear hC hb0
  clear hV hB
  go_enter Tryz.func171, Tryz.ntmps171
  go_wp2_with (fail)
  with_reducible refine (HC.out).mono ?_
  rintro e w1 ⟨rfl, hb1⟩
  go_wp2
  go_ret
  exact ⟨rfl, Hb0.out.trans (hb1.mono Hb0.out.size)⟩

set_option maxRecDepth 100000 in
theorem rshort_calls (s : ByteArray) (w : World) (hs : s.size ≤ 1000000000) : Calls Tryz.prog 172 #[.string s] w fun e w' => e = .returned (.bool (shortB s)) ∧ Below w.heap.size w w' := by
  obtain ⟨B, hB⟩ : ∃ B, validB s = B := ⟨_, rfl⟩
  have hC := fun (W : World) => RValid_calls2 hB W (by omega)
  by_cases h1 : s.size ≤ 64
  · have hE : shortB s = B := by unfold shortB; rw [hB]; simp [h1]
    have t1 : (s.size : Int) ≤ 64 := by omega
    have HC := Lib.hid hC
    have HE := Lib.hid hE
    clear hC hE
    clear h1
    go_enter Tryz.func172, Tryz.ntmps172
    go_wp2_with (fail)
    with_reducible refine (HC.out _).mono ?_
    rintro e w2 ⟨rfl, rfl⟩
    go_wp2
    go_ret
    exact ⟨by rw [HE.out]; rfl, Below.refl _ _⟩
  · have hE : shortB s = false := by unfold shortB; simp [h1]
    have t1 : (64 : Int) < (s.size : Int) := by omega
    have HE := Lib.hid hE
    clear hE
    clear h1 hC
    go_enter Tryz.func172, Tryz.ntmps172
    go_wp2
    go_ret
    exact ⟨by rw [HE.out]; rfl, Below.refl _ _⟩

set_option maxRecDepth 100000 in
set_option maxHeartbeats 1000000 in
theorem r11key_calls (k : Int) (key dst : ByteArray) (had : Bool) (y3 y5 y6 y7 y8 y9 y10 y11 y12 y13 y14 y15 y16 y17 y18 : Value) (w : World) (h1 : key.size ≤ 1000000000) (h2 : dst.size ≤ 1000000000) :
    Calls Tryz.prog 113 #[.agg #[.int .i64 k, .string key, .string dst, y3, .bool had, y5, y6, y7, y8, y9, y10, y11, y12, y13, y14, y15, y16, y17, y18]] w fun e w' => e = .returned (.bool (keyedB k key dst had)) ∧ Below w.heap.size w w' := by
  by_cases e6 : k = 6
  · subst e6
    have hE : keyedB 6 key dst had = (shortB key && shortB dst) := by unfold keyedB; rw [if_pos rfl]
    have hC := fun (W : World) => rshort_calls key W h1
    have hD := fun (W : World) => rshort_calls dst W h2
    rw [hE]
    generalize shortB key = B at hC ⊢
    generalize shortB dst = B' at hD ⊢
    have HC := Lib.hid hC
    have HD := Lib.hid hD
    clear hC hD
    clear hE
    cases B with
    | false =>
      go_enter Tryz.func113, Tryz.ntmps113
      go_wp2_with (fail)
      with_reducible refine (HC.out _).mono ?_
      rintro e w2 ⟨rfl, hb2⟩
      go_wp2
      go_ret
      exact ⟨rfl, (alloc_below _ _).trans (hb2.mono (by simp))⟩
    | true =>
      go_enter Tryz.func113, Tryz.ntmps113
      go_wp2_with (fail)
      with_reducible refine (HC.out _).mono ?_
      rintro e w2 ⟨rfl, hb2⟩
      have hlt2 : w.heap.size < w2.heap.size := by (have := hb2.size; simp at this; omega)
      obtain ⟨hc2, hg2⟩ := bcellM hb2
      go_wp2_with (fail)
      with_reducible refine (HD.out _).mono ?_
      rintro e w3 ⟨rfl, hb3⟩
      go_wp2
      go_ret
      exact ⟨by simp, ((alloc_below _ _).trans (hb2.mono (by simp))).trans (hb3.mono (by omega))⟩
  have t6 : (k == 6) = false := by simpa using e6
  by_cases e7 : k = 7 ∧ key.toList.isEmpty = true
  · obtain ⟨rfl, hk⟩ := e7
    have hE : keyedB 7 key dst had = !had := by unfold keyedB; rw [if_neg (by omega), if_pos ⟨rfl, hk⟩]
    rw [isEmpty_eq, decide_eq_true_eq] at hk
    subst hk
    rw [hE]
    clear hE
    go_enter Tryz.func113, Tryz.ntmps113
    go_wp2
    go_ret
    exact ⟨rfl, alloc_below _ _⟩
  have hE : keyedB k key dst had = decide (keyE key = 0) := by
    unfold keyedB
    rw [if_neg e6, if_neg e7, Bool.eq_iff_iff, decide_eq_true_eq, keyE_zero]
  have hC := fun (W : World) => rkey_calls key W h1
  rw [hE]
  generalize keyE key = X at hC ⊢
  by_cases k7 : k = 7
  · subst k7
    have t8 : key.toList.isEmpty = false := by cases e : key.toList.isEmpty; rfl; exact absurd ⟨rfl, e⟩ e7
    have HC := Lib.hid hC
    clear hC
    clear hE e6 e7
    go_enter Tryz.func113, Tryz.ntmps113
    go_wp2_with (fail)
    with_reducible refine (HC.out _).mono ?_
    rintro e w2 ⟨rfl, rfl⟩
    go_wp2
    go_ret
    exact ⟨by simp [beq_dec], alloc_below _ _⟩
  · have t7 : (k == 7) = false := by simpa using k7
    have HC := Lib.hid hC
    clear hC
    clear hE e6 e7 k7
    go_enter Tryz.func113, Tryz.ntmps113
    go_wp2_with (fail)
    with_reducible refine (HC.out _).mono ?_
    rintro e w2 ⟨rfl, rfl⟩
    go_wp2
    go_ret
    exact ⟨by simp [beq_dec], alloc_below _ _⟩
end Go.Proofs.YtemceefalkfneaaGreatDoor
