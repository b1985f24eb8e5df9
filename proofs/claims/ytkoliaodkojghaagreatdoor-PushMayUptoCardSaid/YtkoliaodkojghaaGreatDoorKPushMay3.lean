/- Parts, joined: What the rows' listed tables give the walks. No condition. The last step of a law's row: the answer is true and the arguments read as they did. No condition. Maps cell by cell, whatever their elements: an entry stored, an entry looked up. Plain. No condition. mutator.zero, blank, beginning, must, pass, keyed. Condition: texts shorter than 10^9. mutator.beginning, keyed, blank, strange. Condition: texts shorter than 10^9. mutator.strange: has a mutator something that its Kind does not name? Condition: none. The reference's word on a mutator's fields: zero, short, key, bare. Condition: values of a bulk of at most 10^8. -/
import Derived.Test.YtkoliaodkojghaaGreatDoorProg
import Derived.Below
import Derived.ChangeSame
import Derived.WideKeyArgs
import Derived.OpenShut
import Derived.WalkKit
import Derived.Maps.OwnSet
import Derived.Laws.OwnMore
import Derived.WalkLawsBesides
import Derived.Test.YtkoliaodkojghaaGreatDoorKPush7
import Derived.Test.YtkoliaodkojghaaGreatDoorKPush17
import Derived.Test.YtkoliaodkojghaaGreatDoorKPush24
import Derived.Test.YtkoliaodkojghaaGreatDoorKPush39
import Derived.Test.YtkoliaodkojghaaGreatDoorKPushMay1
import Derived.Test.YtkoliaodkojghaaGreatDoorKPushMay2
/- What the rows' listed tables give the walks. No condition. -/
namespace Go.Proofs.YtkoliaodkojghaaGreatDoor
open Go.RowKit Go.ChangeShapes Go.WideShapes Go.ChangeAt

theorem tab_pow10 {W : World} (h : Lib.VarReads Tryz.prog W "internal/strconv.uint64pow10" (Lib.tabData .u64 Lib.pow10Tab)) : Lib.TabIs Tryz.prog W "internal/strconv.uint64pow10" .u64 Lib.pow10Tab := by
  obtain ⟨g', t', cs, fuel, p, hg', ht', hvar, hd⟩ := h
  have hg : Tryz.prog.globalNamed "internal/strconv.uint64pow10" = some 3 := by kernel_rfl
  have hty : (Tryz.prog.globals[3]?).map (·.type) = some 235 := by kernel_rfl
  obtain rfl := Option.some.inj (hg.symm.trans hg')
  obtain rfl := Option.some.inj (hty.symm.trans ht')
  unfold Lib.TabIs
  rw [hvar, ← Lib.cells_of_tab Tryz.underlying235 Tryz.underlying22 (by kernel_rfl) (by kernel_rfl) hd]

theorem mnames_of {W : World} (h : Lib.VarReads Tryz.prog W "commonplace/mutator.names" Rows.laid_commonplace_mutator_names) : MNames W := by
  obtain ⟨g', t', cs, fuel, p, hg', ht', hvar, hd⟩ := h
  have hg : Tryz.prog.globalNamed "commonplace/mutator.names" = some 0 := by kernel_rfl
  have hty : (Tryz.prog.globals[0]?).map (·.type) = some 135 := by kernel_rfl
  obtain rfl := Option.some.inj (hg.symm.trans hg')
  obtain rfl := Option.some.inj (hty.symm.trans ht')
  obtain ⟨xs, m, _, hx, hl, hxl, hf⟩ := DataW.trod_array Tryz.underlying135 hd
  have hc1 : Tryz.prog.cellsOf 9 = 1 := by kernel_rfl
  have hc4 : Tryz.prog.cellsOf 135 = 8 := by kernel_rfl
  rw [hc4] at hl
  have hxs := congrArg Prod.fst hx
  simp only [Rows.laid_commonplace_mutator_names, DataW.agg.injEq] at hxs
  have key : ∀ i, i < 8 → ∀ l : List UInt8, ([[], [112, 117, 116], [100, 101, 108], [105, 110, 99], [99, 97, 115], [97, 112, 112, 101, 110, 100], [109, 111, 118, 101], [115, 101, 113]] : List (List UInt8))[i]? = some l → cs[i]? = some (.string ⟨l.toArray⟩) := by
    intro i hi l hl'
    have h1 := hf i hi
    rw [hc1, Nat.mul_one] at h1
    have h2 : ((cs.toList.drop i).take 1) = [cs[i]'(by simpa [Array.length_toList] using (by omega : i < cs.toList.length))] := by
      rw [List.drop_eq_getElem_cons (by omega)]
      simp
    rw [h2, List.getElem?_eq_getElem (by omega)] at h1
    obtain ⟨s, hs, hx1, _⟩ := DataW.trod_string Tryz.underlying9 h1
    simp only [List.cons.injEq, and_true] at hs
    have h3 : (xs.map (·.1))[i]? = some (DataW.lit (.string s.data.toList) : DataW Unit) := by
      rw [List.getElem?_map, List.getElem?_eq_getElem (by omega), Option.map_some, hx1]
    rw [← hxs] at h3
    have h4 : s.data.toList = l := by
      rcases (by omega : i = 0 ∨ i = 1 ∨ i = 2 ∨ i = 3 ∨ i = 4 ∨ i = 5 ∨ i = 6 ∨ i = 7) with rfl | rfl | rfl | rfl | rfl | rfl | rfl | rfl <;> exact (Lit.string.inj (DataW.lit.inj (Option.some.inj h3))).symm.trans (Option.some.inj hl')
    have h5 : i < cs.size := by rw [← Array.length_toList]; omega
    rw [Array.getElem?_eq_getElem h5, hs]
    have h6 : s = ⟨l.toArray⟩ := by
      apply ByteArray.ext
      apply Array.ext'
      rw [h4]
    rw [h6]
  unfold World.var? at hvar
  rw [hg] at hvar
  simp only [Option.bind_some] at hvar
  split at hvar
  · rename_i cs' t' fz hh
    simp only [Option.some.injEq] at hvar
    subst hvar
    have hcell : ∀ i, W.cell? ⟨0, i, none⟩ = cs'[i]? := fun i => by unfold World.cell?; rw [hh]; rfl
    exact ⟨(hcell 1).trans (key 1 (by omega) _ rfl), (hcell 2).trans (key 2 (by omega) _ rfl), (hcell 3).trans (key 3 (by omega) _ rfl), (hcell 4).trans (key 4 (by omega) _ rfl), (hcell 5).trans (key 5 (by omega) _ rfl), (hcell 6).trans (key 6 (by omega) _ rfl), (hcell 7).trans (key 7 (by omega) _ rfl), (Array.getElem?_eq_some_iff.1 hh).1⟩
  · cases hvar

theorem tabs_of {W : World} (h : laidMetH Tryz.prog Rows.pushMayRow.laid W) : Tabs W := by
  have hL : laidMet Tryz.prog Rows.pushMayRow.laid W := by
    have := (laidMetH_iff.1 h).1
    have e : (Rows.pushMayRow.laid.filter fun x => x.2.handleName?.isNone) = Rows.pushMayRow.laid := by kernel_rfl
    rwa [e] at this
  have hu : Lib.Utf8Tabs 1 2 W :=
    utf8Tabs_of_readsT (U8Types.of196 Tryz.lays196) ⟨by kernel_rfl, by kernel_rfl, by kernel_rfl, by kernel_rfl, by kernel_rfl, by kernel_rfl, by kernel_rfl⟩
      (Lib.laidMet.reads hL (n := "unicode/utf8.first") (d := Lib.firstData) (by rw [← laid_first]; simp [Rows.pushMayRow])) (Lib.laidMet.reads hL (n := "unicode/utf8.acceptRanges") (d := Lib.acceptData) (by rw [← laid_accept]; simp [Rows.pushMayRow]))
  have hp := tab_pow10 (Lib.laidMet.reads hL (n := "internal/strconv.uint64pow10") (d := Lib.tabData .u64 Lib.pow10Tab) (by rw [← laid_pow10]; simp [Rows.pushMayRow]))
  have h64 : Lib.VarReads Tryz.prog W "math/bits.deBruijn64tab" Rows.laid_math_bits_deBruijn64tab := Lib.laidMet.reads hL (by simp [Rows.pushMayRow])
  refine ⟨?_, hu, hp⟩
  obtain ⟨g', t', cs, fuel, p, hg', ht', hvar, hd⟩ := h64
  have hg : Tryz.prog.globalNamed "math/bits.deBruijn64tab" = some 5 := by kernel_rfl
  obtain rfl := Option.some.inj (hg.symm.trans hg')
  unfold World.var? at hvar
  rw [hg] at hvar
  simp only [Option.bind_some] at hvar
  rcases Nat.lt_or_ge 5 W.heap.size with h' | h'
  · exact Nat.le_of_lt h'
  · rw [Array.getElem?_eq_none h'] at hvar
    cases hvar

theorem mnames_laid {W : World} (h : laidMetH Tryz.prog Rows.pushMayRow.laid W) : MNames W := by
  have hL : laidMet Tryz.prog Rows.pushMayRow.laid W := by
    have := (laidMetH_iff.1 h).1
    have e : (Rows.pushMayRow.laid.filter fun x => x.2.handleName?.isNone) = Rows.pushMayRow.laid := by kernel_rfl
    rwa [e] at this
  exact mnames_of (Lib.laidMet.reads hL (by simp [Rows.pushMayRow]))
end Go.Proofs.YtkoliaodkojghaaGreatDoor

/- The last step of a law's row: the answer is true and the arguments read as they did. No condition. -/
namespace Go.Proofs.YtkoliaodkojghaaGreatDoor
open Go.RowKit Go.ChangeShapes Go.WideShapes Go.ChangeAt

theorem i64_in {n : Int} (hwf : (Lit.int .i64 n).wf = true) : -9223372036854775808 ≤ n ∧ n ≤ 9223372036854775807 := by
  have h1 : IntKind.i64.min = -9223372036854775808 := by decide
  have h2 : IntKind.i64.max = 9223372036854775807 := by decide
  simp only [Lit.wf, h1, h2, Bool.and_eq_true, decide_eq_true_eq] at hwf
  exact hwf

section
variable {H : Type} {enc : TypeId × Value → H} {P : Program}
theorem post_of_below {f : Func} {s : ChangeSpec} {apart fresh handsOn again : Bool} {W W' : World} {args : Array Value} {v : Value} {ds gs : List (DataW H)} {before pa pv : List MemPlace}
    (hW : DataW.Whole enc P f.params.toList s.vars apart W args.toList ds gs before)
    (hres : ∀ (b : Nat) (sp : Nat → Bool) (hd : Bool), DataW.TrodAll enc P W' b sp hd f.resultTypes.toList (v.resultList f.resultTypes.size) (s.fn H (ds ++ gs)).results [])
    (hargs : ∀ sp : Nat → Bool, (∀ p ∈ before, sp p.block = true) → DataW.TrodAll enc P W' 0 sp true f.params.toList args.toList (s.fn H (ds ++ gs)).args pa)
    (hvars : ∀ sp : Nat → Bool, (∀ p ∈ before, sp p.block = true) → DataW.TrodVars enc P W' sp s.vars (s.fn H (ds ++ gs)).vars pv)
    (hps : before = pa ++ pv) (hb : Below W.heap.size W W')
    (hok : ∀ (j : Nat) (t : TypeId) (r : Value), f.resultTypes[j]? = some t → (v.resultList f.resultTypes.size)[j]? = some r → Value.okWide P W' .any 0 t r) :
    s.post enc P f apart fresh handsOn again W args v W' := by
  have hlt : ∀ p ∈ before, p.block < W.heap.size := fun p hp => hW.lt p hp
  have hold : ∀ p ∈ before, (fun b => decide (b < W.heap.size)) p.block = true := fun p hp => by simpa using hlt p hp
  refine ⟨ds, gs, before, [], pa, pv, hW, hres _ _ _, hargs _ hold, hvars _ hold, World.keptBut_mono (fun p hp => ⟨hp, ?_⟩) (hb.frame (· ∈ before)), fun _ => ?_⟩
  · rw [hps, List.mem_append] at hp
    exact Or.inr hp
  · obtain ⟨_, _, _, _, _, hz, hn⟩ := hW
    refine ⟨hok, _, _, ([] ++ pa) ++ pv, ⟨[] ++ pa, pv, trodAll_append (hargs _ (fun _ _ => rfl)) (hres _ _ _), hvars _ (fun _ _ => rfl), rfl, ?_, ?_⟩, ?_⟩
    · intro b off hp
      have hin : MemPlace.cell b off ∈ before := by rw [hps]; simpa using hp
      rw [hb.frozen (hlt _ hin)]
      exact hz b off hin
    · intro ha
      have := hn ha
      rw [hps] at this
      simpa using this
    · intro p hp _
      rw [hps]
      simpa using hp
end

end Go.Proofs.YtkoliaodkojghaaGreatDoor

/- Maps cell by cell, whatever their elements: an entry stored, an entry looked up. Plain. No condition. -/
namespace Go.Proofs.YtkoliaodkojghaaGreatDoor
open Go Go.RowKit

/-- How keys of a map's type compare. -/
structure MKey {α : Type} [DecidableEq α] (P : Program) (kt : TypeId) (f : α → Value) : Prop where
  under : ∃ d, P.underlying kt = some d ∧ ∀ a b, Instr.sameNow d (f a) (f b) = some (decide (a = b))
  check : ∀ e w a, (Instr.checkKey e 10000 kt (f a)).run P w = .ok () w
theorem ba_beq (a b : ByteArray) : (a == b) = decide (a = b) := by
  obtain ⟨a⟩ := a
  obtain ⟨b⟩ := b
  have h : ((⟨a⟩ : ByteArray) == ⟨b⟩) = (a == b) := rfl
  rw [h]
  by_cases e : a = b <;> simp [e]
theorem mkey_string {P : Program} {kt : TypeId} (h : P.underlying kt = some .string) : MKey P kt Value.string := by
  refine ⟨⟨_, h, fun a b => ?_⟩, fun e w a => ?_⟩
  · simp only [Instr.sameNow]
    congr 1
    exact ba_beq a b
  · have key : ∀ n, (Instr.checkKey e (n + 1) kt (.string a)).run P w = .ok () w := fun n => by simp [Instr.checkKey, run_underlying h]
    exact key 9999
theorem mkey_int {P : Program} {kt : TypeId} {q : IntKind} (h : P.underlying kt = some (.int q)) : MKey P kt (Value.int q) := by
  refine ⟨⟨_, h, fun a b => ?_⟩, fun e w a => ?_⟩
  · simp only [Instr.sameNow, if_true]
    congr 1
  · have key : ∀ n, (Instr.checkKey e (n + 1) kt (.int q a)).run P w = .ok () w := fun n => by simp [Instr.checkKey, run_underlying h]
    exact key 9999

section
variable {α : Type}
def entsM (f : α → Value) : List (α × Value) → Nat → List MapEntry
  | [], _ => []
  | (k, v) :: r, i => { key := f k, val := v, born := i } :: entsM f r (i + 1)
/-- Block g is a map of these. -/
def MapAt (f : α → Value) (w : World) (g : Nat) (kv : List (α × Value)) : Prop := w.heap[g]? = some (.map (entsM f kv 0).toArray kv.length)
def findM [DecidableEq α] (a : α) : List (α × Value) → Option Value
  | [] => none
  | (k, v) :: r => if a = k then some v else findM a r
variable {f : α → Value} {P : Program} {kt et t : TypeId} {w w' : World} {g : Nat} {kv : List (α × Value)}
theorem entsM_append : ∀ (kv : List (α × Value)) (i : Nat) (k : α) (v : Value), entsM f (kv ++ [(k, v)]) i = entsM f kv i ++ [{ key := f k, val := v, born := i + kv.length }]
  | [], i, k, v => by simp [entsM]
  | (a, b) :: r, i, k, v => by
    simp only [List.cons_append, entsM, entsM_append r, List.length_cons]
    rw [show i + 1 + r.length = i + (r.length + 1) from by omega]
theorem MapAt.lt (h : MapAt f w g kv) : g < w.heap.size := by
  rcases Nat.lt_or_ge g w.heap.size with h1 | h1
  · exact h1
  · unfold MapAt at h; rw [Array.getElem?_eq_none h1] at h; cases h
theorem MapAt.keep (h : MapAt f w g kv) (hk : w'.heap[g]? = w.heap[g]?) : MapAt f w' g kv := hk.trans h
theorem MapAt.below {B : Nat} (h : MapAt f w g kv) (hb : Below B w w') (hg : g < B) : MapAt f w' g kv := (hb.block g hg).trans h
theorem MapAt.alloc (h : MapAt f w g kv) (o : Obj) : MapAt f (w.alloc o) g kv := (Below.heap_alloc w o g h.lt).trans h
theorem MapAt.new (w : World) : MapAt f (w.alloc (.map #[] 0)) w.heap.size [] := heap_alloc_new w _
theorem MapAt.setCell (h : MapAt f w g kv) {p : Addr} (hp : g ≠ p.block) (u : Value) : MapAt f (w.setCell p u) g kv := (Below.heap_setCell w p u g hp).trans h
variable [DecidableEq α]
theorem findNow_M {d : TypeDesc} (hd : ∀ a b, Instr.sameNow d (f a) (f b) = some (decide (a = b))) (a : α) : ∀ (kv : List (α × Value)) (i j : Nat), ∃ q, Instr.findNow d (f a) (entsM f kv i) j = some q ∧ q.map (·.2) = findM a kv
  | [], _, _ => ⟨none, rfl, rfl⟩
  | (k, v) :: r, i, j => by
    by_cases h : a = k
    · exact ⟨some (j, v), by simp [entsM, Instr.findNow, hd, h], by simp [findM, h]⟩
    · obtain ⟨q, h1, h2⟩ := findNow_M hd a r (i + 1) (j + 1)
      exact ⟨q, by simp [entsM, Instr.findNow, hd, h, h1], by rw [h2]; simp [findM, h]⟩
theorem run_insertM (K : MKey P kt f) (ht : P.underlying t = some (.map kt et)) (h : MapAt f w g kv) {a : α} (hn : findM a kv = none) (v : Value) :
    ∃ w', (Instr.mapUpdate t (.map (some g)) (f a) v).run P w = .ok () w' ∧ MapAt f w' g (kv ++ [(a, v)]) ∧ w.grownBy w' (some g) ∧ w'.heap.size = w.heap.size := by
  obtain ⟨d, hd, hs⟩ := K.under
  obtain ⟨q, h1, h2⟩ := findNow_M hs a kv 0 0
  rw [hn] at h2
  have hq : q = none := by cases q <;> simp_all
  subst hq
  have hck := K.check false w a
  have hfk : (Instr.findKey kt (f a) (entsM f kv 0)).run P w = .ok none w := by simp [Instr.findKey, Sem.run_bind, run_underlying hd, h1]
  have hlt := h.lt
  refine ⟨{ w with heap := w.heap.setIfInBounds g (.map ((entsM f kv 0).toArray.push { key := f a, val := v, born := kv.length }) (kv.length + 1)) }, ?_, ?_, ?_, ?_⟩
  · have hb : w.heap[g]? = some (.map (entsM f kv 0).toArray kv.length) := h
    unfold Instr.mapUpdate
    simp only [Sem.run_bind, run_underlying ht, Result.andThen, getObj, Sem.run, hb, hck, hfk, setObj]
  · unfold MapAt
    simp [hlt, entsM_append]
  · exact ⟨rfl, rfl, rfl, by simp, fun k hk hne => by simp only [Array.getElem?_setIfInBounds]; rw [if_neg]; rintro rfl; exact hne rfl⟩
  · simp
theorem wpList_insertM {ops : Array Oper} {rest : List Oper} {o : Oper} {a : Act} {Q : Exit → Act → World → Prop} (hg : o.guard = none) (m x u : Operand) (t : TypeId) (hop : o.op = Op.insert t m x u)
    (K : MKey P kt f) (ht : P.underlying t = some (.map kt et)) (hm : a.eval m = .map (some g)) (h : MapAt f w g kv) {k : α} {v : Value} (hx : a.eval x = f k) (hv : a.eval u = v) (hn : findM k kv = none)
    (hK : ∀ w', MapAt f w' g (kv ++ [(k, v)]) → w.grownBy w' (some g) → w'.heap.size = w.heap.size → wpList P ops Q rest (a.put o.dst undef) w') : wpList P ops Q (o :: rest) a w := by
  refine wpList_plain hg fun K' hK' => ?_
  obtain ⟨w', hrun, r1, r2, r3⟩ := run_insertM K ht h hn v
  unfold Oper.wp
  simp [execOp, hop, hm, hx, hv, hrun, Result.andThen]
  exact hK' _ _ (hK w' r1 r2 r3)
theorem run_lookM (K : MKey P kt f) (ht : P.underlying t = some (.map kt et)) (h : MapAt f w g kv) (a : α) {z : Value} (hz : ∀ w, (zeroValue et).run P w = .ok z w) (c : Bool) :
    (Instr.lookup t (.map (some g)) (f a) c).run P w = .ok (if c then .tuple #[(findM a kv).getD z, .bool (findM a kv).isSome] else (findM a kv).getD z) w := by
  obtain ⟨d, hd, hs⟩ := K.under
  obtain ⟨q, h1, h2⟩ := findNow_M hs a kv 0 0
  have hck := fun e => K.check e w a
  have hfk : (Instr.findKey kt (f a) (entsM f kv 0)).run P w = .ok q w := by simp [Instr.findKey, Sem.run_bind, run_underlying hd, h1]
  have hb : w.heap[g]? = some (.map (entsM f kv 0).toArray kv.length) := h
  unfold Instr.lookup
  simp only [Sem.run_bind, run_underlying ht, Result.andThen, getObj, Sem.run, hb]
  cases q with
  | none =>
    have : findM a kv = none := by cases hq : findM a kv <;> simp_all
    rw [this]
    cases c <;> simp [hck, hfk, hz w, Result.andThen]
  | some p =>
    obtain ⟨i, v⟩ := p
    have : findM a kv = some v := by rw [← h2]; rfl
    rw [this]
    cases c <;> simp [hck, hfk]
end
end Go.Proofs.YtkoliaodkojghaaGreatDoor

/- mutator.zero, blank, beginning, must, pass, keyed. Condition: texts shorter than 10^9. -/
namespace Go.Proofs.YtkoliaodkojghaaGreatDoor
open Go.RowKit

set_option maxRecDepth 100000 in
theorem mzero_calls (k : Int) (b : Bool) (n : Int) (t : ByteArray) (la oa : Option Addr) (ln lc on oc : Nat) (B : Bool) (w : World) (h : zero6B k b n t ln on = B) :
    Calls Tryz.prog 87 #[.agg #[.int .i64 k, .bool b, .int .i64 n, .string t, .slice la ln lc, .slice oa on oc]] w fun e w' => e = .returned (.bool B) ∧ Below w.heap.size w w' := by
  have fin : ∀ X : Bool, X = zero6B k b n t ln on → Ending.returned (.bool X) = .returned (.bool B) := fun X hX => by rw [hX, h]
  have Fin := Lib.hid fin
  clear fin h
  go_enter Tryz.func87, Tryz.ntmps87
  go_wp2
  all_goals (go_ret; refine ⟨Fin.out _ ?_, alloc_below _ _⟩; simp_all [zero6B, beq_cast])

/-- How a call ends that leaves by a panic, if there is an error. -/
def endE (c : Int) : Ending := if c = 0 then .returned (.tuple #[]) else .panicked [{ v := .iface 102 (.agg #[.int .i64 c]), recovered := false }]
theorem endE_zero : endE 0 = .returned (.tuple #[]) := rfl
theorem endE_some {c : Int} (h : c ≠ 0) : endE c = .panicked [{ v := .iface 102 (.agg #[.int .i64 c]), recovered := false }] := by unfold endE; rw [if_neg h]

theorem must_yes (c : Int) (w : World) : Calls Tryz.prog 52 #[.bool true, .int .i64 c] w fun e w' => e = .returned (.tuple #[]) ∧ w' = w := by
  go_enter Tryz.func52, Tryz.ntmps52
  go_wp2
  go_end0
  exact ⟨rfl, rfl⟩
theorem must_no (c : Int) (w : World) : Calls Tryz.prog 52 #[.bool false, .int .i64 c] w fun e w' => e = .panicked [{ v := .iface 102 (.agg #[.int .i64 c]), recovered := false }] ∧ w' = w := by
  go_enter Tryz.func52, Tryz.ntmps52
  go_wp2
  exact ⟨rfl, rfl, rfl⟩
theorem pass_yes (w : World) : Calls Tryz.prog 55 #[.int .i64 0] w fun e w' => e = .returned (.tuple #[]) ∧ w' = w := by
  have h := fun W => must_yes 0 W
  go_enter Tryz.func55, Tryz.ntmps55
  go_wp2_with (go_at_call 52; (with_reducible refine (h _).mono ?_); rintro e w1 ⟨rfl, rfl⟩)
  go_end0
  exact ⟨rfl, rfl⟩
theorem pass_no (c : Int) (hc : c ≠ 0) (w : World) : Calls Tryz.prog 55 #[.int .i64 c] w fun e w' => e = .panicked [{ v := .iface 102 (.agg #[.int .i64 c]), recovered := false }] ∧ w' = w := by
  have h := fun W => must_no c W
  have t0 : (c == 0) = false := by simpa using hc
  go_enter Tryz.func55, Tryz.ntmps55
  go_wp2_with (go_at_call 52; (with_reducible refine (h _).mono ?_); rintro e w1 ⟨rfl, rfl⟩)
  exact ⟨rfl, rfl, rfl⟩
end Go.Proofs.YtkoliaodkojghaaGreatDoor

/- mutator.beginning, keyed, blank, strange. Condition: texts shorter than 10^9. -/
namespace Go.Proofs.YtkoliaodkojghaaGreatDoor
open Go.RowKit

set_option maxRecDepth 100000 in
theorem beginning_calls (s : ByteArray) (w : World) (hT : Tabs w) (hs : s.size ≤ 1000000000) : Calls Tryz.prog 89 #[.string s] w fun e w' => e = .returned (.bool (shortB s)) ∧ Below w.heap.size w w' := by
  obtain ⟨B, hB⟩ : ∃ B, validB s = B := ⟨_, rfl⟩
  have hC := fun (W : World) hT => utfValid_calls2 hB W (by omega) hT
  by_cases h1 : s.size ≤ 64
  · have hE : shortB s = B := by unfold shortB; rw [hB]; simp [h1]
    have t1 : (s.size : Int) ≤ 64 := by omega
    have HC := Lib.hid hC
    have HE := Lib.hid hE
    have HT := Lib.hid hT
    clear hC hE hT
    clear h1
    go_enter Tryz.func89, Tryz.ntmps89
    go_wp2_with (go_at_call 120; (with_reducible refine (HC.out _ HT.out).mono ?_); rintro e w2 ⟨rfl, hb2⟩)
    go_ret
    exact ⟨by rw [HE.out]; rfl, hb2⟩
  · have hE : shortB s = false := by unfold shortB; simp [h1]
    have t1 : (64 : Int) < (s.size : Int) := by omega
    have HE := Lib.hid hE
    clear hE
    clear h1 hC
    go_enter Tryz.func89, Tryz.ntmps89
    go_wp2
    go_ret
    exact ⟨by rw [HE.out]; rfl, Below.refl _ _⟩

theorem isEmpty_eq (s : ByteArray) : s.toList.isEmpty = decide (s = ⟨#[]⟩) := by
  rw [Bool.eq_iff_iff, List.isEmpty_iff, decide_eq_true_eq, Lib.toList_data]
  constructor
  · intro h; exact ByteArray.ext (Array.ext' h)
  · rintro rfl; rfl

set_option maxRecDepth 100000 in
set_option maxHeartbeats 1000000 in
theorem keyed_calls (k : Int) (key dst : ByteArray) (had : Bool) (y3 y5 y6 y7 y8 y9 y10 y11 y12 y13 y14 y15 y16 y17 y18 : Value) (w : World) (hT : Tabs w) (h1 : key.size ≤ 1000000000) (h2 : dst.size ≤ 1000000000) :
    Calls Tryz.prog 54 #[.agg #[.int .i64 k, .string key, .string dst, y3, .bool had, y5, y6, y7, y8, y9, y10, y11, y12, y13, y14, y15, y16, y17, y18]] w fun e w' => e = .returned (.bool (keyedB k key dst had)) ∧ Below w.heap.size w w' := by
  have hb0 := alloc_below w (.cells #[.int .i64 k, .string key, .string dst, y3, .bool had, y5, y6, y7, y8, y9, y10, y11, y12, y13, y14, y15, y16, y17, y18] 48)
  have hT1 := hT.below hb0
  by_cases e6 : k = 6
  · subst e6
    have hE : keyedB 6 key dst had = (shortB key && shortB dst) := by unfold keyedB; rw [if_pos rfl]
    have hC := fun (W : World) hT => beginning_calls key W hT h1
    have hD := fun (W : World) hT => beginning_calls dst W hT h2
    have hxb := Blk.new w 48 #[.int .i64 6, .string key, .string dst, y3, .bool had, y5, y6, y7, y8, y9, y10, y11, y12, y13, y14, y15, y16, y17, y18]
    rw [hE]
    generalize shortB key = B at hC ⊢
    generalize shortB dst = B' at hD ⊢
    have HC := Lib.hid hC
    have HD := Lib.hid hD
    have HT1 := Lib.hid hT1
    have Hb0 := Lib.hid hb0
    have Hxb := Lib.hid hxb
    clear hC hD hT1 hb0 hxb
    clear hE hT
    cases B with
    | false =>
      go_enter Tryz.func54, Tryz.ntmps54
      go_wp2_with (go_at_call 89; (with_reducible refine (HC.out _ HT1.out).mono ?_); rintro e w2 ⟨rfl, hb2⟩)
      go_ret
      exact ⟨rfl, Hb0.out.trans (hb2.mono Hb0.out.size)⟩
    | true =>
      go_enter Tryz.func54, Tryz.ntmps54
      go_wp2_with (fail)
      with_reducible refine (HC.out _ HT1.out).mono ?_
      rintro e w2 ⟨rfl, hb2⟩
      obtain ⟨hc2, hg2⟩ := bcellM hb2
      have hlt := Hxb.out.lt
      have hT2 := HT1.out.below hb2
      go_wp2_with (fail)
      with_reducible refine (HD.out _ hT2).mono ?_
      rintro e w3 ⟨rfl, hb3⟩
      go_wp2
      go_ret
      exact ⟨by simp, (Hb0.out.trans (hb2.mono Hb0.out.size)).trans (hb3.mono (Nat.le_trans Hb0.out.size hb2.size))⟩
  by_cases e7 : k = 7 ∧ key.toList.isEmpty = true
  · obtain ⟨rfl, hk⟩ := e7
    have hE : keyedB 7 key dst had = !had := by unfold keyedB; rw [if_neg (by omega), if_pos ⟨rfl, hk⟩]
    rw [isEmpty_eq, decide_eq_true_eq] at hk
    subst hk
    rw [hE]
    have Hb0 := Lib.hid hb0
    clear hb0
    clear hE hT hT1
    go_enter Tryz.func54, Tryz.ntmps54
    go_wp2
    go_ret
    exact ⟨rfl, Hb0.out⟩
  have hE : keyedB k key dst had = decide (keyE key = 0) := by
    unfold keyedB
    rw [if_neg e6, if_neg e7, Bool.eq_iff_iff, decide_eq_true_eq, keyE_zero]
  have hC := fun (W : World) hT => keysMay_calls key W hT (by omega)
  have t6 : (k == 6) = false := by simpa using e6
  have hxb := Blk.new w 48 #[.int .i64 k, .string key, .string dst, y3, .bool had, y5, y6, y7, y8, y9, y10, y11, y12, y13, y14, y15, y16, y17, y18]
  rw [hE]
  generalize keyE key = X at hC ⊢
  by_cases k7 : k = 7
  · subst k7
    have t8 : key.toList.isEmpty = false := by cases e : key.toList.isEmpty; rfl; exact absurd ⟨rfl, e⟩ e7
    have HC := Lib.hid hC
    have HT1 := Lib.hid hT1
    have Hb0 := Lib.hid hb0
    have Hxb := Lib.hid hxb
    clear hC hT1 hb0 hxb
    clear hE hT e6 e7
    go_enter Tryz.func54, Tryz.ntmps54

    go_wp2_with (go_at_call 90; (with_reducible refine (HC.out _ HT1.out).mono ?_); rintro e w2 ⟨rfl, hb2⟩)
    go_ret
    exact ⟨by simp [beq_dec], Hb0.out.trans (hb2.mono Hb0.out.size)⟩
  · have t7 : (k == 7) = false := by simpa using k7
    have HC := Lib.hid hC
    have HT1 := Lib.hid hT1
    have Hb0 := Lib.hid hb0
    have Hxb := Lib.hid hxb
    clear hC hT1 hb0 hxb
    clear hE hT e6 e7 k7
    go_enter Tryz.func54, Tryz.ntmps54
    go_wp2_with (go_at_call 90; (with_reducible refine (HC.out _ HT1.out).mono ?_); rintro e w2 ⟨rfl, hb2⟩)
    go_ret
    exact ⟨by simp [beq_dec], Hb0.out.trans (hb2.mono Hb0.out.size)⟩

/-- Has a mutator nothing, whatever its Kind? -/
def blankB (key dst : ByteArray) (n : Int) (had z1 has z2 : Bool) (ln : Nat) : Bool := key.toList.isEmpty && dst.toList.isEmpty && decide (n = 0) && !had && z1 && !has && z2 && decide (ln = 0)
set_option maxRecDepth 100000 in
set_option maxHeartbeats 2000000 in
theorem blank_calls (k : Int) (key dst : ByteArray) (n : Int) (had : Bool) (k1 : Int) (b1 : Bool) (n1 : Int) (t1 : ByteArray) (la1 oa1 : Option Addr) (p1 lc1 q1 oc1 : Nat) (has : Bool) (k2 : Int) (b2 : Bool) (n2 : Int) (t2 : ByteArray) (la2 oa2 : Option Addr) (p2 lc2 q2 oc2 : Nat) (a : Option Addr) (ln c : Nat) (w : World) :
    Calls Tryz.prog 88 #[.agg #[.int .i64 k, .string key, .string dst, .int .i64 n, .bool had, .int .i64 k1, .bool b1, .int .i64 n1, .string t1, .slice la1 p1 lc1, .slice oa1 q1 oc1, .bool has, .int .i64 k2, .bool b2, .int .i64 n2, .string t2, .slice la2 p2 lc2, .slice oa2 q2 oc2, .slice a ln c]] w fun e w' =>
      e = .returned (.bool (blankB key dst n had (zero6B k1 b1 n1 t1 p1 q1) has (zero6B k2 b2 n2 t2 p2 q2) ln)) ∧ Below w.heap.size w w' := by
  have h1 := fun W => mzero_calls k1 b1 n1 t1 la1 oa1 p1 lc1 q1 oc1 _ W rfl
  have h2 := fun W => mzero_calls k2 b2 n2 t2 la2 oa2 p2 lc2 q2 oc2 _ W rfl
  generalize zero6B k1 b1 n1 t1 p1 q1 = Z1 at h1 ⊢
  generalize zero6B k2 b2 n2 t2 p2 q2 = Z2 at h2 ⊢
  by_cases c0 : key.toList.isEmpty = true
  rotate_left
  · have u0 : key.toList.isEmpty = false := by simpa using c0
    have hE : blankB key dst n had Z1 has Z2 ln = false := by simp [blankB, c0]
    rw [hE]
    have H1 := Lib.hid h1
    have H2 := Lib.hid h2
    clear h1 h2
    clear hE
    go_enter Tryz.func88, Tryz.ntmps88
    go_wp2
    go_ret
    exact ⟨rfl, alloc_below _ _⟩
  by_cases c1 : dst.toList.isEmpty = true
  rotate_left
  · have u1 : dst.toList.isEmpty = false := by simpa using c1
    have hE : blankB key dst n had Z1 has Z2 ln = false := by simp [blankB, c0, c1]
    rw [hE]
    have H1 := Lib.hid h1
    have H2 := Lib.hid h2
    clear h1 h2
    clear hE
    go_enter Tryz.func88, Tryz.ntmps88
    go_wp2
    go_ret
    exact ⟨rfl, alloc_below _ _⟩
  by_cases c2 : n = 0
  rotate_left
  · have u2 : (n == 0) = false := by simpa using c2
    have hE : blankB key dst n had Z1 has Z2 ln = false := by simp [blankB, c0, c1, c2]
    rw [hE]
    have H1 := Lib.hid h1
    have H2 := Lib.hid h2
    clear h1 h2
    clear hE
    go_enter Tryz.func88, Tryz.ntmps88
    go_wp2
    go_ret
    exact ⟨rfl, alloc_below _ _⟩
  subst c2
  by_cases c3 : had = false
  rotate_left
  · have u3 : had = true := by simpa using c3
    subst u3
    have hE : blankB key dst 0 true Z1 has Z2 ln = false := by simp [blankB]
    rw [hE]
    have H1 := Lib.hid h1
    have H2 := Lib.hid h2
    clear h1 h2
    clear hE
    go_enter Tryz.func88, Tryz.ntmps88
    go_wp2
    go_ret
    exact ⟨rfl, alloc_below _ _⟩
  subst c3
  by_cases c4 : Z1 = true
  rotate_left
  · have u4 : Z1 = false := by simpa using c4
    subst u4
    have hE : blankB key dst 0 false false has Z2 ln = false := by simp [blankB]
    rw [hE]
    have H1 := Lib.hid h1
    have H2 := Lib.hid h2
    clear h1 h2
    clear hE
    go_enter Tryz.func88, Tryz.ntmps88
    go_wp2_with (fail)
    with_reducible refine (H1.out _).mono ?_
    rintro e w2 ⟨rfl, hb2⟩
    have hlt2 : w.heap.size < w2.heap.size := by (have := hb2.size; simp at this; omega)
    obtain ⟨hc2, hg2⟩ := bcellM hb2
    go_wp2
    go_ret
    exact ⟨rfl, (alloc_below _ _).trans (hb2.mono (by simp))⟩
  subst c4
  by_cases c5 : has = false
  rotate_left
  · have u5 : has = true := by simpa using c5
    subst u5
    have hE : blankB key dst 0 false true true Z2 ln = false := by simp [blankB]
    rw [hE]
    have H1 := Lib.hid h1
    have H2 := Lib.hid h2
    clear h1 h2
    clear hE
    go_enter Tryz.func88, Tryz.ntmps88
    go_wp2_with (fail)
    with_reducible refine (H1.out _).mono ?_
    rintro e w2 ⟨rfl, hb2⟩
    have hlt2 : w.heap.size < w2.heap.size := by (have := hb2.size; simp at this; omega)
    obtain ⟨hc2, hg2⟩ := bcellM hb2
    go_wp2
    go_ret
    exact ⟨rfl, (alloc_below _ _).trans (hb2.mono (by simp))⟩
  subst c5
  by_cases c6 : Z2 = true
  rotate_left
  · have u6 : Z2 = false := by simpa using c6
    subst u6
    have hE : blankB key dst 0 false true false false ln = false := by simp [blankB]
    rw [hE]
    have H1 := Lib.hid h1
    have H2 := Lib.hid h2
    clear h1 h2
    clear hE
    go_enter Tryz.func88, Tryz.ntmps88
    go_wp2_with (fail)
    with_reducible refine (H1.out _).mono ?_
    rintro e w2 ⟨rfl, hb2⟩
    have hlt2 : w.heap.size < w2.heap.size := by (have := hb2.size; simp at this; omega)
    obtain ⟨hc2, hg2⟩ := bcellM hb2
    go_wp2_with (fail)
    with_reducible refine (H2.out _).mono ?_
    rintro e w3 ⟨rfl, hb3⟩
    obtain ⟨hc3, hg3⟩ := bcellM hb3
    go_wp2
    go_ret
    exact ⟨rfl, ((alloc_below _ _).trans (hb2.mono (by simp))).trans (hb3.mono (by omega))⟩
  subst c6
  by_cases c7 : ln = 0
  rotate_left
  · have u7 : ((ln : Int) == 0) = false := by simpa using c7
    have hE : blankB key dst 0 false true false true ln = false := by simp [blankB, c7]
    rw [hE]
    have H1 := Lib.hid h1
    have H2 := Lib.hid h2
    clear h1 h2
    clear hE
    go_enter Tryz.func88, Tryz.ntmps88
    go_wp2_with (fail)
    with_reducible refine (H1.out _).mono ?_
    rintro e w2 ⟨rfl, hb2⟩
    have hlt2 : w.heap.size < w2.heap.size := by (have := hb2.size; simp at this; omega)
    obtain ⟨hc2, hg2⟩ := bcellM hb2
    go_wp2_with (fail)
    with_reducible refine (H2.out _).mono ?_
    rintro e w3 ⟨rfl, hb3⟩
    obtain ⟨hc3, hg3⟩ := bcellM hb3
    go_wp2
    go_ret
    exact ⟨rfl, ((alloc_below _ _).trans (hb2.mono (by simp))).trans (hb3.mono (by omega))⟩
  subst c7
  have hE : blankB key dst 0 false true false true 0 = true := by simp [blankB, c0, c1]
  rw [hE]
  have H1 := Lib.hid h1
  have H2 := Lib.hid h2
  clear h1 h2
  clear hE
  go_enter Tryz.func88, Tryz.ntmps88
  go_wp2_with (fail)
  with_reducible refine (H1.out _).mono ?_
  rintro e w2 ⟨rfl, hb2⟩
  have hlt2 : w.heap.size < w2.heap.size := by (have := hb2.size; simp at this; omega)
  obtain ⟨hc2, hg2⟩ := bcellM hb2
  go_wp2_with (fail)
  with_reducible refine (H2.out _).mono ?_
  rintro e w3 ⟨rfl, hb3⟩
  obtain ⟨hc3, hg3⟩ := bcellM hb3
  go_wp2
  go_ret
  exact ⟨rfl, ((alloc_below _ _).trans (hb2.mono (by simp))).trans (hb3.mono (by omega))⟩
end Go.Proofs.YtkoliaodkojghaaGreatDoor

/- mutator.strange: has a mutator something that its Kind does not name? Condition: none. -/
namespace Go.Proofs.YtkoliaodkojghaaGreatDoor
open Go.RowKit

theorem zero6_none : zero6B 0 false 0 ⟨#[]⟩ 0 0 = true := by simp [zero6B, Lib.toList_data]
theorem empty_none : (⟨#[]⟩ : ByteArray).toList.isEmpty = true := by rw [Lib.toList_data]; rfl
set_option maxRecDepth 100000 in
set_option maxHeartbeats 8000000 in
theorem mstrange_calls (k : Int) (key dst : ByteArray) (n : Int) (had : Bool) (k1 : Int) (b1 : Bool) (n1 : Int) (t1 : ByteArray) (l1 : List Val) (o1 : List (ByteArray × Val)) (has : Bool) (k2 : Int) (b2 : Bool) (n2 : Int) (t2 : ByteArray) (l2 : List Val) (o2 : List (ByteArray × Val)) (l : List Mut) (la1 : Option Addr) (lc1 : Nat) (oa1 : Option Addr) (oc1 : Nat) (la2 : Option Addr) (lc2 : Nat) (oa2 : Option Addr) (oc2 : Nat) (a : Option Addr) (c : Nat) (w : World) :
    Calls Tryz.prog 53 #[.agg #[.int .i64 k, .string key, .string dst, .int .i64 n, .bool had, .int .i64 k1, .bool b1, .int .i64 n1, .string t1, .slice la1 l1.length lc1, .slice oa1 o1.length oc1, .bool has, .int .i64 k2, .bool b2, .int .i64 n2, .string t2, .slice la2 l2.length lc2, .slice oa2 o2.length oc2, .slice a l.length c]] w fun e w' => e = .returned (.bool (strangeF k dst n had (zeroB (.mk k1 b1 n1 t1 l1 o1)) has (zeroB (.mk k2 b2 n2 t2 l2 o2)) l.length)) ∧ Below w.heap.size w w' := by
  have q1 : zeroB (.mk k1 b1 n1 t1 l1 o1) = zero6B k1 b1 n1 t1 l1.length o1.length := rfl
  have q2 : zeroB (.mk k2 b2 n2 t2 l2 o2) = zero6B k2 b2 n2 t2 l2.length o2.length := rfl
  rw [q1, q2]
  clear q1 q2
  obtain ⟨Z1, hZ1⟩ : ∃ Z, zero6B k1 b1 n1 t1 l1.length o1.length = Z := ⟨_, rfl⟩
  obtain ⟨Z2, hZ2⟩ : ∃ Z, zero6B k2 b2 n2 t2 l2.length o2.length = Z := ⟨_, rfl⟩
  have h1 := fun W => mzero_calls k1 b1 n1 t1 la1 oa1 l1.length lc1 o1.length oc1 Z1 W hZ1
  have h2 := fun W => mzero_calls k2 b2 n2 t2 la2 oa2 l2.length lc2 o2.length oc2 Z2 W hZ2
  rw [hZ1, hZ2]
  obtain ⟨S, hS⟩ : ∃ S, strangeF k dst n had Z1 has Z2 l.length = S := ⟨_, rfl⟩
  rw [hS]
  obtain ⟨wi, hwi⟩ : ∃ wi, w.alloc (.cells #[.int .i64 k, .string key, .string dst, .int .i64 n, .bool had, .int .i64 k1, .bool b1, .int .i64 n1, .string t1, .slice la1 l1.length lc1, .slice oa1 o1.length oc1, .bool has, .int .i64 k2, .bool b2, .int .i64 n2, .string t2, .slice la2 l2.length lc2, .slice oa2 o2.length oc2, .slice a l.length c] 48) = wi := ⟨_, rfl⟩
  have hbi : Below w.heap.size w wi := hwi ▸ alloc_below _ _
  have hxb : Blk wi w.heap.size 48 #[.int .i64 k, .string key, .string dst, .int .i64 n, .bool had, .int .i64 k1, .bool b1, .int .i64 n1, .string t1, .slice la1 l1.length lc1, .slice oa1 o1.length oc1, .bool has, .int .i64 k2, .bool b2, .int .i64 n2, .string t2, .slice la2 l2.length lc2, .slice oa2 o2.length oc2, .slice a l.length c] := hwi ▸ Blk.new _ _ _
  have hgb := hxb.lt
  obtain ⟨y0, y1, y2, y3, y4, y5, y6, y7, y8, y9, y10, y11, y12, y13, y14, y15, y16, y17, y18⟩ := mcell19 hxb
  have H1 := Lib.hid h1
  have H2 := Lib.hid h2
  have Hxb := Lib.hid hxb
  have Hbi := Lib.hid hbi
  have HZ1 := Lib.hid hZ1
  have HZ2 := Lib.hid hZ2
  have HS := Lib.hid hS
  clear h1 h2 hxb hbi hZ1 hZ2 hS
  go_enter Tryz.func53, Tryz.ntmps53
  go_upto_region 1 with (fail)
  clear hwi
  go_cut [12] (fun s wx => s = .bool (!had && !Z1) ∧ Hid (Below wi.heap.size wi wx))
  case first =>
    cases had with
    | true =>
      go_wp2
      go_meet
      exact ⟨rfl, Below.refl _ _⟩
    | false =>
      go_wp2_with (fail)
      with_reducible refine (H1.out _).mono ?_
      rintro e w2 ⟨rfl, hb2⟩
      go_wp2
      go_meet
      exact ⟨by simp, hb2⟩
  case rest =>
    obtain ⟨rfl, hbx⟩ := hcut
    clear y0 y1 y2 y3 y4 y5 y6 y7 y8 y9 y10 y11 y12 y13 y14 y15 y16 y17 y18
    have hxc := Hxb.out.below hbx.out Hxb.out.lt
    have hbw := Hbi.out.trans (hbx.out.mono Hbi.out.size)
    have hgc := hxc.lt
    obtain ⟨y0, y1, y2, y3, y4, y5, y6, y7, y8, y9, y10, y11, y12, y13, y14, y15, y16, y17, y18⟩ := mcell19 hxc
    have Hxc := Lib.hid hxc
    have Hbw := Lib.hid hbw
    clear hxc hbw
    by_cases h0 : (!had && !Z1) = true
    · have hE : S = true := by rw [← HS.out]; unfold strangeF; rw [if_pos h0]
      rw [h0]
      go_wp2
      go_ret
      exact ⟨by rw [hE]; rfl, Hbw.out⟩
    have h00 : (!had && !Z1) = false := by simpa using h0
    rw [h00]
    go_upto_region 3 with (fail)
    iterate 2 go_step
    refine wp_load_blk 48 (.tmp 1) rfl w.heap.size #[.int .i64 k, .string key, .string dst, .int .i64 n, .bool had, .int .i64 k1, .bool b1, .int .i64 n1, .string t1, .slice la1 l1.length lc1, .slice oa1 o1.length oc1, .bool has, .int .i64 k2, .bool b2, .int .i64 n2, .string t2, .slice la2 l2.length lc2, .slice oa2 o2.length oc2, .slice a l.length c] Hxc.out rfl _ Tryz.underlying48 rfl (by kernel_rfl) ?_
    iterate 5 go_step
    refine wp_store_new 48 (.tmp 3) (.tmp 13) rfl #[.int .i64 k, .string key, .string dst, .int .i64 n, .bool had, .int .i64 k1, .bool b1, .int .i64 n1, .string t1, .slice la1 l1.length lc1, .slice oa1 o1.length oc1, .bool has, .int .i64 k2, .bool b2, .int .i64 n2, .string t2, .slice la2 l2.length lc2, .slice oa2 o2.length oc2, .slice a l.length c] rfl rfl rfl (by kernel_rfl) (by simp [Value.oneCell']) ?_
    by_cases e1 : k = 1
    · subst e1
      have hE : S = (!blankB ⟨#[]⟩ dst n had Z1 has true l.length) := by rw [← HS.out]; simp [strangeF, blankB, h00]
      have HE := Lib.hid hE
      clear hE
      go_upto_region 21 with (fail)
      iterate 2 go_step
      refine wp_load_blk 48 (.tmp 3) rfl _ _ (Blk.new _ _ _) rfl _ Tryz.underlying48 rfl (by kernel_rfl) ?_
      go_wp2_with (go_at_call 88; (with_reducible refine (blank_calls _ _ _ _ _ _ _ _ _ _ _ _ _ _ _ _ _ _ _ _ _ _ _ _ _ _ _ _ _ _).mono ?_); rintro e w5 ⟨rfl, hb5⟩)
      go_ret
      refine ⟨?_, Hbw.out.trans (((alloc_below _ _).trans (hb5.mono (by simp))).mono Hbw.out.size)⟩
      rw [HE.out]
      simp only [HZ1.out, zero6_none]
      rfl
    have tk1 : (k == 1) = false := by simpa using e1
    by_cases e5 : k = 5
    · subst e5
      have hE : S = (!blankB ⟨#[]⟩ dst n had Z1 has true l.length) := by rw [← HS.out]; simp [strangeF, blankB, h00]
      have HE := Lib.hid hE
      clear hE
      go_upto_region 21 with (fail)
      iterate 2 go_step
      refine wp_load_blk 48 (.tmp 3) rfl _ _ (Blk.new _ _ _) rfl _ Tryz.underlying48 rfl (by kernel_rfl) ?_
      go_wp2_with (go_at_call 88; (with_reducible refine (blank_calls _ _ _ _ _ _ _ _ _ _ _ _ _ _ _ _ _ _ _ _ _ _ _ _ _ _ _ _ _ _).mono ?_); rintro e w5 ⟨rfl, hb5⟩)
      go_ret
      refine ⟨?_, Hbw.out.trans (((alloc_below _ _).trans (hb5.mono (by simp))).mono Hbw.out.size)⟩
      rw [HE.out]
      simp only [HZ1.out, zero6_none]
      rfl
    have tk5 : (k == 5) = false := by simpa using e5
    by_cases e2 : k = 2
    · subst e2
      have hE : S = (!blankB ⟨#[]⟩ dst n had Z1 has Z2 l.length) := by rw [← HS.out]; simp [strangeF, blankB, h00]
      have HE := Lib.hid hE
      clear hE
      go_upto_region 21 with (fail)
      iterate 2 go_step
      refine wp_load_blk 48 (.tmp 3) rfl _ _ (Blk.new _ _ _) rfl _ Tryz.underlying48 rfl (by kernel_rfl) ?_
      go_wp2_with (go_at_call 88; (with_reducible refine (blank_calls _ _ _ _ _ _ _ _ _ _ _ _ _ _ _ _ _ _ _ _ _ _ _ _ _ _ _ _ _ _).mono ?_); rintro e w5 ⟨rfl, hb5⟩)
      go_ret
      refine ⟨?_, Hbw.out.trans (((alloc_below _ _).trans (hb5.mono (by simp))).mono Hbw.out.size)⟩
      rw [HE.out]
      simp only [HZ1.out, HZ2.out]
      rfl
    have tk2 : (k == 2) = false := by simpa using e2
    by_cases e3 : k = 3
    · subst e3
      have hE : S = (!blankB ⟨#[]⟩ dst 0 had Z1 has Z2 l.length) := by rw [← HS.out]; simp [strangeF, blankB, h00]
      have HE := Lib.hid hE
      clear hE
      go_upto_region 21 with (fail)
      iterate 2 go_step
      refine wp_load_blk 48 (.tmp 3) rfl _ _ (Blk.new _ _ _) rfl _ Tryz.underlying48 rfl (by kernel_rfl) ?_
      go_wp2_with (go_at_call 88; (with_reducible refine (blank_calls _ _ _ _ _ _ _ _ _ _ _ _ _ _ _ _ _ _ _ _ _ _ _ _ _ _ _ _ _ _).mono ?_); rintro e w5 ⟨rfl, hb5⟩)
      go_ret
      refine ⟨?_, Hbw.out.trans (((alloc_below _ _).trans (hb5.mono (by simp))).mono Hbw.out.size)⟩
      rw [HE.out]
      simp only [HZ1.out, HZ2.out]
      rfl
    have tk3 : (k == 3) = false := by simpa using e3
    by_cases e4 : k = 4
    · subst e4
      by_cases e9 : (!has && !Z2) = true
      · have hE : S = true := by rw [← HS.out]; simp [strangeF, h00, e9]
        have HE := Lib.hid hE
        clear hE
        obtain ⟨rfl, rfl⟩ : has = false ∧ Z2 = false := by simpa using e9
        go_wp2_with (fail)
        with_reducible refine (H2.out _).mono ?_
        rintro e w2 ⟨rfl, hb2⟩
        go_wp2
        go_ret
        exact ⟨by rw [HE.out]; rfl, Hbw.out.trans (((alloc_below _ _).trans (hb2.mono (by simp))).mono Hbw.out.size)⟩
      have hE : S = (!blankB ⟨#[]⟩ dst n false true false true l.length) := by rw [← HS.out]; simp [strangeF, blankB, h00, e9]
      have HE := Lib.hid hE
      clear hE
      cases has with
      | true =>
        go_upto_region 21 with (fail)
        iterate 2 go_step
        refine wp_load_blk 48 (.tmp 3) rfl _ _ (Blk.new _ _ _) rfl _ Tryz.underlying48 rfl (by kernel_rfl) ?_
        go_wp2_with (go_at_call 88; (with_reducible refine (blank_calls _ _ _ _ _ _ _ _ _ _ _ _ _ _ _ _ _ _ _ _ _ _ _ _ _ _ _ _ _ _).mono ?_); rintro e w5 ⟨rfl, hb5⟩)
        go_ret
        refine ⟨?_, Hbw.out.trans (((alloc_below _ _).trans (hb5.mono (by simp))).mono Hbw.out.size)⟩
        rw [HE.out]
        simp only [zero6_none]
        rfl
      | false =>
        obtain rfl : Z2 = true := by simpa using e9
        go_wp2_with (fail)
        with_reducible refine (H2.out _).mono ?_
        rintro e w2 ⟨rfl, hb2⟩
        have hlt2 : wc.heap.size < w2.heap.size := by (have := hb2.size; simp at this; omega)
        have hx2 := (Blk.new wc 48 #[.int .i64 4, .string key, .string dst, .int .i64 n, .bool had, .int .i64 k1, .bool b1, .int .i64 n1, .string t1, .slice la1 l1.length lc1, .slice oa1 o1.length oc1, .bool false, .int .i64 k2, .bool b2, .int .i64 n2, .string t2, .slice la2 l2.length lc2, .slice oa2 o2.length oc2, .slice a l.length c]).below hb2 (Blk.lt (Blk.new _ _ _))
        have hbw2 := Hbw.out.trans (((alloc_below _ _).trans (hb2.mono (by simp))).mono Hbw.out.size)
        have hle := Hbw.out.size
        have Hx2 := Lib.hid hx2
        have Hbw2 := Lib.hid hbw2
        clear hx2 hbw2
        clear y0 y1 y2 y3 y4 y5 y6 y7 y8 y9 y10 y11 y12 y13 y14 y15 y16 y17 y18
        go_upto_region 16 with (fail)
        iterate 11 go_step
        refine wp_store_blk 9 (.tmp 42) _ rfl wc.heap.size 1 Hx2.out (.string ⟨#[]⟩) rfl rfl (Nat.le_of_ble_eq_true rfl) (by kernel_rfl) (by simp [Value.cells, Value.oneCell']) Hbw2.out hle ?_
        intro v0 hxv0 hbv0
        simp only [over, Value.cells, List.setIfInBounds_toArray, List.set_cons_succ, List.set_cons_zero] at hxv0
        iterate 5 go_step
        refine wp_store_blk 4 (.tmp 43) _ rfl wc.heap.size 4 hxv0 (.bool false) rfl rfl (Nat.le_of_ble_eq_true rfl) (by kernel_rfl) (by simp [Value.cells, Value.oneCell']) hbv0 hle ?_
        intro v1 hxv1 hbv1
        simp only [over, Value.cells, List.setIfInBounds_toArray, List.set_cons_succ, List.set_cons_zero] at hxv1
        iterate 5 go_step
        refine wp_store_blk 45 (.tmp 44) _ rfl wc.heap.size 5 hxv1 (.agg #[.int .i64 0, .bool false, .int .i64 0, .string ⟨#[]⟩, .slice none 0 0, .slice none 0 0]) rfl rfl (Nat.le_of_ble_eq_true rfl) (by kernel_rfl) (by simp [Value.cells, Value.oneCell']) hbv1 hle ?_
        intro v2 hxv2 hbv2
        simp only [over, Value.cells, List.setIfInBounds_toArray, List.set_cons_succ, List.set_cons_zero] at hxv2
        iterate 5 go_step
        refine wp_store_blk 4 (.tmp 45) _ rfl wc.heap.size 11 hxv2 (.bool false) rfl rfl (Nat.le_of_ble_eq_true rfl) (by kernel_rfl) (by simp [Value.cells, Value.oneCell']) hbv2 hle ?_
        intro v3 hxv3 hbv3
        simp only [over, Value.cells, List.setIfInBounds_toArray, List.set_cons_succ, List.set_cons_zero] at hxv3
        iterate 5 go_step
        refine wp_store_blk 45 (.tmp 46) _ rfl wc.heap.size 12 hxv3 (.agg #[.int .i64 0, .bool false, .int .i64 0, .string ⟨#[]⟩, .slice none 0 0, .slice none 0 0]) rfl rfl (Nat.le_of_ble_eq_true rfl) (by kernel_rfl) (by simp [Value.cells, Value.oneCell']) hbv3 hle ?_
        intro v4 hxv4 hbv4
        simp only [over, Value.cells, List.setIfInBounds_toArray, List.set_cons_succ, List.set_cons_zero] at hxv4
        have hx9 : Blk v4 wc.heap.size 48 #[.int .i64 4, .string ⟨#[]⟩, .string dst, .int .i64 n, .bool false, .int .i64 0, .bool false, .int .i64 0, .string ⟨#[]⟩, .slice none 0 0, .slice none 0 0, .bool false, .int .i64 0, .bool false, .int .i64 0, .string ⟨#[]⟩, .slice none 0 0, .slice none 0 0, .slice a l.length c] := hxv4
        have Hx9 := Lib.hid hx9
        have Hbv4 := Lib.hid hbv4
        clear hx9 hbv4
        clear hxv0 hxv1 hxv2 hxv3 hxv4 hbv0 hbv1 hbv2 hbv3
        go_upto_region 21 with (fail)
        iterate 2 go_step
        refine wp_load_blk 48 (.tmp 3) rfl wc.heap.size _ Hx9.out rfl _ Tryz.underlying48 rfl (by kernel_rfl) ?_
        go_wp2_with (go_at_call 88; (with_reducible refine (blank_calls _ _ _ _ _ _ _ _ _ _ _ _ _ _ _ _ _ _ _ _ _ _ _ _ _ _ _ _ _ _).mono ?_); rintro e w5 ⟨rfl, hb5⟩)
        go_ret
        refine ⟨?_, Hbv4.out.trans (hb5.mono Hbv4.out.size)⟩
        rw [HE.out]
        simp only [zero6_none]
        rfl
    have tk4 : (k == 4) = false := by simpa using e4
    by_cases e6 : k = 6
    · subst e6
      have hE : S = (!blankB ⟨#[]⟩ ⟨#[]⟩ n had Z1 has Z2 l.length) := by rw [← HS.out]; simp [strangeF, blankB, h00]
      have HE := Lib.hid hE
      clear hE
      go_upto_region 21 with (fail)
      iterate 2 go_step
      refine wp_load_blk 48 (.tmp 3) rfl _ _ (Blk.new _ _ _) rfl _ Tryz.underlying48 rfl (by kernel_rfl) ?_
      go_wp2_with (go_at_call 88; (with_reducible refine (blank_calls _ _ _ _ _ _ _ _ _ _ _ _ _ _ _ _ _ _ _ _ _ _ _ _ _ _ _ _ _ _).mono ?_); rintro e w5 ⟨rfl, hb5⟩)
      go_ret
      refine ⟨?_, Hbw.out.trans (((alloc_below _ _).trans (hb5.mono (by simp))).mono Hbw.out.size)⟩
      rw [HE.out]
      simp only [HZ1.out, HZ2.out]
      rfl
    have tk6 : (k == 6) = false := by simpa using e6
    by_cases e7 : k = 7
    · subst e7
      have hE : S = (!blankB ⟨#[]⟩ dst n false true has Z2 0) := by rw [← HS.out]; simp [strangeF, blankB, h00]
      have HE := Lib.hid hE
      clear hE
      go_upto_region 21 with (fail)
      iterate 2 go_step
      refine wp_load_blk 48 (.tmp 3) rfl _ _ (Blk.new _ _ _) rfl _ Tryz.underlying48 rfl (by kernel_rfl) ?_
      go_wp2_with (go_at_call 88; (with_reducible refine (blank_calls _ _ _ _ _ _ _ _ _ _ _ _ _ _ _ _ _ _ _ _ _ _ _ _ _ _ _ _ _ _).mono ?_); rintro e w5 ⟨rfl, hb5⟩)
      go_ret
      refine ⟨?_, Hbw.out.trans (((alloc_below _ _).trans (hb5.mono (by simp))).mono Hbw.out.size)⟩
      rw [HE.out]
      simp only [HZ2.out, zero6_none]
      rfl
    have tk7 : (k == 7) = false := by simpa using e7
    have hE : S = true := by rw [← HS.out]; simp [strangeF, h00, e1, e2, e3, e4, e5, e6, e7]
    have HE := Lib.hid hE
    clear hE
    go_wp2
    go_ret
    exact ⟨by rw [HE.out]; rfl, Hbw.out.trans ((alloc_below _ _).mono Hbw.out.size)⟩
end Go.Proofs.YtkoliaodkojghaaGreatDoor

/- The reference's word on a mutator's fields: zero, short, key, bare. Condition: values of a bulk of at most 10^8. -/
namespace Go.Proofs.YtkoliaodkojghaaGreatDoor
open Go.RowKit

set_option maxRecDepth 100000 in
theorem r11zero_calls (v : Val) (cs : List Value) (w : World) (hV : HoldsV w w.heap.size v cs) (hb : v.bulk ≤ 100000000) {B : Bool} (hB : zeroB v = B) :
    Calls Tryz.prog 93 #[.agg cs.toArray] w fun e w' => e = .returned (.bool B) ∧ Below w.heap.size w w' := by
  obtain ⟨k, b, n, t, l, o⟩ := v
  have hV' := hV
  simp only [HoldsV] at hV'
  obtain ⟨la, lc, oa, oc, rfl, _, _⟩ := hV'
  have hb0 := alloc_below w (.cells #[.int .i64 k, .bool b, .int .i64 n, .string t, .slice la l.length lc, .slice oa o.length oc] 45)
  have hC := rzero_calls _ _ _ (HoldsV.more hb0.size _ _ (hV.below hb0)) hb hB
  have HC := Lib.hid hC
  have Hb0 := Lib.hid hb0
  clear hC hb0
  clear hV hB
  go_enter Tryz.func93, Tryz.ntmps93
  go_wp2_with (fail)
  with_reducible refine (HC.out).mono ?_
  rintro e w1 ⟨rfl, hb1⟩
  go_wp2
  go_ret
  exact ⟨rfl, Hb0.out.trans (hb1.mono Hb0.out.size)⟩

set_option maxRecDepth 100000 in
theorem rshort_calls (s : ByteArray) (w : World) (hs : s.size ≤ 1000000000) : Calls Tryz.prog 94 #[.string s] w fun e w' => e = .returned (.bool (shortB s)) ∧ Below w.heap.size w w' := by
  obtain ⟨B, hB⟩ : ∃ B, validB s = B := ⟨_, rfl⟩
  have hC := fun (W : World) => RValid_calls2 hB W (by omega)
  by_cases h1 : s.size ≤ 64
  · have hE : shortB s = B := by unfold shortB; rw [hB]; simp [h1]
    have t1 : (s.size : Int) ≤ 64 := by omega
    have HC := Lib.hid hC
    have HE := Lib.hid hE
    clear hC hE
    clear h1
    go_enter Tryz.func94, Tryz.ntmps94
    go_wp2_with (fail)
    with_reducible refine (HC.out _).mono ?_
    rintro e w2 ⟨rfl, rfl⟩
    go_wp2
    go_ret
    exact ⟨by rw [HE.out]; rfl, Below.refl _ _⟩
  · have hE : shortB s = false := by unfold shortB; simp [h1]
    have t1 : (64 : Int) < (s.size : Int) := by omega
    have HE := Lib.hid hE
    clear hE
    clear h1 hC
    go_enter Tryz.func94, Tryz.ntmps94
    go_wp2
    go_ret
    exact ⟨by rw [HE.out]; rfl, Below.refl _ _⟩

set_option maxRecDepth 100000 in
set_option maxHeartbeats 1000000 in
theorem r11key_calls (k : Int) (key dst : ByteArray) (had : Bool) (y3 y5 y6 y7 y8 y9 y10 y11 y12 y13 y14 y15 y16 y17 y18 : Value) (w : World) (h1 : key.size ≤ 1000000000) (h2 : dst.size ≤ 1000000000) :
    Calls Tryz.prog 58 #[.agg #[.int .i64 k, .string key, .string dst, y3, .bool had, y5, y6, y7, y8, y9, y10, y11, y12, y13, y14, y15, y16, y17, y18]] w fun e w' => e = .returned (.bool (keyedB k key dst had)) ∧ Below w.heap.size w w' := by
  by_cases e6 : k = 6
  · subst e6
    have hE : keyedB 6 key dst had = (shortB key && shortB dst) := by unfold keyedB; rw [if_pos rfl]
    have hC := fun (W : World) => rshort_calls key W h1
    have hD := fun (W : World) => rshort_calls dst W h2
    rw [hE]
    generalize shortB key = B at hC ⊢
    generalize shortB dst = B' at hD ⊢
    have HC := Lib.hid hC
    have HD := Lib.hid hD
    clear hC hD
    clear hE
    cases B with
    | false =>
      go_enter Tryz.func58, Tryz.ntmps58
      go_wp2_with (fail)
      with_reducible refine (HC.out _).mono ?_
      rintro e w2 ⟨rfl, hb2⟩
      go_wp2
      go_ret
      exact ⟨rfl, (alloc_below _ _).trans (hb2.mono (by simp))⟩
    | true =>
      go_enter Tryz.func58, Tryz.ntmps58
      go_wp2_with (fail)
      with_reducible refine (HC.out _).mono ?_
      rintro e w2 ⟨rfl, hb2⟩
      have hlt2 : w.heap.size < w2.heap.size := by (have := hb2.size; simp at this; omega)
      obtain ⟨hc2, hg2⟩ := bcellM hb2
      go_wp2_with (fail)
      with_reducible refine (HD.out _).mono ?_
      rintro e w3 ⟨rfl, hb3⟩
      go_wp2
      go_ret
      exact ⟨by simp, ((alloc_below _ _).trans (hb2.mono (by simp))).trans (hb3.mono (by omega))⟩
  have t6 : (k == 6) = false := by simpa using e6
  by_cases e7 : k = 7 ∧ key.toList.isEmpty = true
  · obtain ⟨rfl, hk⟩ := e7
    have hE : keyedB 7 key dst had = !had := by unfold keyedB; rw [if_neg (by omega), if_pos ⟨rfl, hk⟩]
    rw [isEmpty_eq, decide_eq_true_eq] at hk
    subst hk
    rw [hE]
    clear hE
    go_enter Tryz.func58, Tryz.ntmps58
    go_wp2
    go_ret
    exact ⟨rfl, alloc_below _ _⟩
  have hE : keyedB k key dst had = decide (keyE key = 0) := by
    unfold keyedB
    rw [if_neg e6, if_neg e7, Bool.eq_iff_iff, decide_eq_true_eq, keyE_zero]
  have hC := fun (W : World) => rkey_calls key W h1
  rw [hE]
  generalize keyE key = X at hC ⊢
  by_cases k7 : k = 7
  · subst k7
    have t8 : key.toList.isEmpty = false := by cases e : key.toList.isEmpty; rfl; exact absurd ⟨rfl, e⟩ e7
    have HC := Lib.hid hC
    clear hC
    clear hE e6 e7
    go_enter Tryz.func58, Tryz.ntmps58
    go_wp2_with (fail)
    with_reducible refine (HC.out _).mono ?_
    rintro e w2 ⟨rfl, rfl⟩
    go_wp2
    go_ret
    exact ⟨by simp [beq_dec], alloc_below _ _⟩
  · have t7 : (k == 7) = false := by simpa using k7
    have HC := Lib.hid hC
    clear hC
    clear hE e6 e7 k7
    go_enter Tryz.func58, Tryz.ntmps58
    go_wp2_with (fail)
    with_reducible refine (HC.out _).mono ?_
    rintro e w2 ⟨rfl, rfl⟩
    go_wp2
    go_ret
    exact ⟨by simp [beq_dec], alloc_below _ _⟩
end Go.Proofs.YtkoliaodkojghaaGreatDoor
