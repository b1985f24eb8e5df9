/- utf.Quote: the quote of a text. Condition: a text shorter than 10^9. -/
import Derived.Test.YtjmkafbdmppfaaaDoorProg
import Derived.Test.YtjmkafbdmppfaaaDoorRunes
import Derived.Test.YtjmkafbdmppfaaaDoorBld
import Derived.Lib.RuneBytes
namespace Go.Proofs.YtjmkafbdmppfaaaDoor
open Go.RowKit
attribute [local go_sem] Oper.semAt_some

/-- The letters of escapes, by their runes. -/
def letterTab : List (Int × Int) := [(34, 34), (92, 92), (8, 98), (9, 116), (10, 110), (12, 102), (13, 114)]

def ents : List (Int × Int) → Nat → List MapEntry
  | [], _ => []
  | (k, v) :: r, i => { key := .int .i32 k, val := .int .i32 v, born := i } :: ents r (i + 1)

/-- The world with one block more: a map of these. -/
def withMap (w : World) (kv : List (Int × Int)) : World := w.alloc (.map (ents kv 0).toArray kv.length)

def findKV (a : Int) : List (Int × Int) → Option Int
  | [] => none
  | (k, v) :: r => if a = k then some v else findKV a r

theorem findNow_ents (a : Int) : ∀ (kv : List (Int × Int)) (i j : Nat), ∃ q, Instr.findNow (.int .i32) (.int .i32 a) (ents kv i) j = some q ∧ q.map (·.2) = (findKV a kv).map (Value.int .i32)
  | [], _, _ => ⟨none, rfl, rfl⟩
  | (k, v) :: r, i, j => by
    by_cases h : a = k
    · subst h
      exact ⟨some (j, .int .i32 v), by simp [ents, Instr.findNow, Instr.sameNow], by simp [findKV]⟩
    · obtain ⟨q, h1, h2⟩ := findNow_ents a r (i + 1) (j + 1)
      refine ⟨q, ?_, by rw [h2]; simp [findKV, h]⟩
      have : (a == k) = false := by simpa using h
      simp [ents, Instr.findNow, Instr.sameNow, this, h1]

theorem ents_append : ∀ (kv : List (Int × Int)) (i : Nat) (k v : Int), ents (kv ++ [(k, v)]) i = ents kv i ++ [{ key := .int .i32 k, val := .int .i32 v, born := i + kv.length }]
  | [], i, k, v => by simp [ents]
  | (a, b) :: r, i, k, v => by
    simp only [List.cons_append, ents, ents_append r, List.length_cons]
    rw [show i + 1 + r.length = i + (r.length + 1) from by omega]

theorem alloc_set (w : World) (x y : Obj) : (w.alloc x).heap.setIfInBounds w.heap.size y = (w.alloc y).heap := by
  show (w.heap.push x).setIfInBounds w.heap.size y = w.heap.push y
  apply Array.ext
  · simp
  · intro i h1 h2
    rw [Array.getElem_setIfInBounds (by simpa using h1)]
    rw [Array.getElem_push, Array.getElem_push]
    by_cases hi : w.heap.size = i
    · subst hi
      simp
    · rw [if_neg hi]
      have : i < w.heap.size := by simp at h1; omega
      simp [this]

theorem run_check (e : Bool) (k : Int) (n : Nat) (w : World) : (Instr.checkKey e (n + 1) 21 (.int .i32 k)).run Tryd.prog w = .ok () w := by
  simp [Instr.checkKey, run_underlying Tryd.underlying21]

theorem run_check10 (e : Bool) (k : Int) (w : World) : (Instr.checkKey e 10000 21 (.int .i32 k)).run Tryd.prog w = .ok () w := run_check e k 9999 w

theorem run_insert (w : World) (kv : List (Int × Int)) (k v : Int) (h : findKV k kv = none) :
    (Instr.mapUpdate 70 (.map (some w.heap.size)) (.int .i32 k) (.int .i32 v)).run Tryd.prog (withMap w kv) = .ok () (withMap w (kv ++ [(k, v)])) := by
  have hb : (withMap w kv).heap[w.heap.size]? = some (.map (ents kv 0).toArray kv.length) := heap_alloc_new _ _
  obtain ⟨q, h1, h2⟩ := findNow_ents k kv 0 0
  rw [h] at h2
  have hq : q = none := by cases q <;> simp_all
  subst hq
  have hck := run_check10 false k (withMap w kv)
  have hfk : (Instr.findKey 21 (.int .i32 k) (ents kv 0)).run Tryd.prog (withMap w kv) = .ok none (withMap w kv) := by
    simp [Instr.findKey, Sem.run_bind, run_underlying Tryd.underlying21, h1]
  unfold Instr.mapUpdate
  simp only [Sem.run_bind, run_underlying Tryd.underlying70, Result.andThen, getObj, Sem.run, hb, hck, hfk, setObj]
  simp only [withMap, ents_append, List.length_append, List.length_cons, List.length_nil, Nat.zero_add]
  rw [alloc_set, List.push_toArray]
  rfl

theorem run_look (w : World) (b : Nat) (kv : List (Int × Int)) (k : Int) (hb : w.heap[b]? = some (.map (ents kv 0).toArray kv.length)) :
    (Instr.lookup 70 (.map (some b)) (.int .i32 k) true).run Tryd.prog w = .ok (.tuple #[.int .i32 ((findKV k kv).getD 0), .bool (findKV k kv).isSome]) w := by
  obtain ⟨q, h1, h2⟩ := findNow_ents k kv 0 0
  have hck := fun e => run_check10 e k w
  have hfk : (Instr.findKey 21 (.int .i32 k) (ents kv 0)).run Tryd.prog w = .ok q w := by
    simp [Instr.findKey, Sem.run_bind, run_underlying Tryd.underlying21, h1]
  unfold Instr.lookup
  simp only [Sem.run_bind, run_underlying Tryd.underlying70, Result.andThen, getObj, Sem.run, hb]
  cases q with
  | none =>
    have : findKV k kv = none := by cases hq : findKV k kv <;> simp_all
    rw [this]
    have hz : (zeroValue 21).run Tryd.prog w = .ok (.int .i32 0) w := Tryd.zeroValue21 w
    simp [hck, hfk, hz, Result.andThen]
  | some p =>
    obtain ⟨i, v⟩ := p
    obtain ⟨u, hu⟩ : ∃ u, findKV k kv = some u := by cases hq : findKV k kv <;> simp_all
    rw [hu] at h2 ⊢
    simp at h2
    subst h2
    simp [hck, hfk]

set_option maxHeartbeats 1000000 in
set_option maxRecDepth 100000 in
theorem letters_calls (w : World) :
    Calls Tryd.prog 40 #[] w fun e w' => e = .returned (.map (some w.heap.size)) ∧ withMap w letterTab = w' := by
  have hmm : (Instr.makeMap 70 none).run Tryd.prog w = .ok (.map (some w.heap.size)) (withMap w []) := run_makeMap _ w
  have u1 := run_insert w [] 34 34 rfl
  have u2 := run_insert w [(34, 34)] 92 92 rfl
  have u3 := run_insert w [(34, 34), (92, 92)] 8 98 rfl
  have u4 := run_insert w [(34, 34), (92, 92), (8, 98)] 9 116 rfl
  have u5 := run_insert w [(34, 34), (92, 92), (8, 98), (9, 116)] 10 110 rfl
  have u6 := run_insert w [(34, 34), (92, 92), (8, 98), (9, 116), (10, 110)] 12 102 rfl
  have u7 := run_insert w [(34, 34), (92, 92), (8, 98), (9, 116), (10, 110), (12, 102)] 13 114 rfl
  simp only [List.nil_append, List.cons_append] at u1 u2 u3 u4 u5 u6 u7
  go_enter Tryd.func40, Tryd.ntmps40
  go_wp2
  go_ret
  exact ⟨rfl, rfl⟩

end Go.Proofs.YtjmkafbdmppfaaaDoor
