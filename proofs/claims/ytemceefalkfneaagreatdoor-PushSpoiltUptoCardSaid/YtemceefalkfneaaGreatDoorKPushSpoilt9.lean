/- Parts, joined: What the rows' listed tables give the walks. No condition. The last step of a law's row: the answer is true and the arguments read as they did. No condition. mutator.zero, blank, beginning, must, pass, keyed. Condition: texts shorter than 10^9. What the program and the reference ask of a mutator's fields is the same. Plain. No condition. mutator.caught: the error by which a call left that was caught. No condition. -/
import Derived.Test.YtemceefalkfneaaGreatDoorProg
import Derived.Below
import Derived.ChangeSame
import Derived.WideKeyArgs
import Derived.OpenShut
import Derived.WalkLawsBesides
import Derived.Defers
import Derived.Recover
import Derived.Laws.Pointers
import Derived.Test.YtemceefalkfneaaGreatDoorKCm1
import Derived.Test.YtemceefalkfneaaGreatDoorKCm4
import Derived.Test.YtemceefalkfneaaGreatDoorKCm16
import Derived.Test.YtemceefalkfneaaGreatDoorKPushSpoilt1
import Derived.Test.YtemceefalkfneaaGreatDoorKPushSpoilt6
/- What the rows' listed tables give the walks. No condition. -/
namespace Go.Proofs.YtemceefalkfneaaGreatDoor
open Go.RowKit Go.ChangeShapes Go.WideShapes Go.ChangeAt

theorem tab_pow10 {W : World} (h : Lib.VarReads Tryz.prog W "internal/strconv.uint64pow10" (Lib.tabData .u64 Lib.pow10Tab)) : Lib.TabIs Tryz.prog W "internal/strconv.uint64pow10" .u64 Lib.pow10Tab := by
  obtain ⟨g', t', cs, fuel, p, hg', ht', hvar, hd⟩ := h
  have hg : Tryz.prog.globalNamed "internal/strconv.uint64pow10" = some 4 := by kernel_rfl
  have hty : (Tryz.prog.globals[4]?).map (·.type) = some 322 := by kernel_rfl
  obtain rfl := Option.some.inj (hg.symm.trans hg')
  obtain rfl := Option.some.inj (hty.symm.trans ht')
  unfold Lib.TabIs
  rw [hvar, ← Lib.cells_of_tab Tryz.underlying322 Tryz.underlying22 (by kernel_rfl) (by kernel_rfl) hd]

theorem mnames_of {W : World} (h : Lib.VarReads Tryz.prog W "commonplace/mutator.names" Rows.laid_commonplace_mutator_names) : MNames W := by
  obtain ⟨g', t', cs, fuel, p, hg', ht', hvar, hd⟩ := h
  have hg : Tryz.prog.globalNamed "commonplace/mutator.names" = some 1 := by kernel_rfl
  have hty : (Tryz.prog.globals[1]?).map (·.type) = some 224 := by kernel_rfl
  obtain rfl := Option.some.inj (hg.symm.trans hg')
  obtain rfl := Option.some.inj (hty.symm.trans ht')
  obtain ⟨xs, m, _, hx, hl, hxl, hf⟩ := DataW.trod_array Tryz.underlying224 hd
  have hc1 : Tryz.prog.cellsOf 9 = 1 := by kernel_rfl
  have hc4 : Tryz.prog.cellsOf 224 = 8 := by kernel_rfl
  rw [hc4] at hl
  have hxs := congrArg Prod.fst hx
  simp only [Rows.laid_commonplace_mutator_names, DataW.agg.injEq] at hxs
  have key : ∀ i, i < 8 → ∀ l : List UInt8, ([[], [112, 117, 116], [100, 101, 108], [105, 110, 99], [99, 97, 115], [97, 112, 112, 101, 110, 100], [109, 111, 118, 101], [115, 101, 113]] : List (List UInt8))[i]? = some l → cs[i]? = some (.string ⟨l.toArray⟩) := by
    intro i hi l hl'
    have h1 := hf i hi
    rw [hc1, Nat.mul_one] at h1
    have h2 : ((cs.toList.drop i).take 1) = [cs[i]'(by simpa [Array.length_toList] using (by omega : i < cs.toList.length))] := by
      rw [List.drop_eq_getElem_cons (by omega)]
      simp
    rw [h2, List.getElem?_eq_getElem (by omega)] at h1
    obtain ⟨s, hs, hx1, _⟩ := DataW.trod_string Tryz.underlying9 h1
    simp only [List.cons.injEq, and_true] at hs
    have h3 : (xs.map (·.1))[i]? = some (DataW.lit (.string s.data.toList) : DataW Unit) := by
      rw [List.getElem?_map, List.getElem?_eq_getElem (by omega), Option.map_some, hx1]
    rw [← hxs] at h3
    have h4 : s.data.toList = l := by
      rcases (by omega : i = 0 ∨ i = 1 ∨ i = 2 ∨ i = 3 ∨ i = 4 ∨ i = 5 ∨ i = 6 ∨ i = 7) with rfl | rfl | rfl | rfl | rfl | rfl | rfl | rfl <;> exact (Lit.string.inj (DataW.lit.inj (Option.some.inj h3))).symm.trans (Option.some.inj hl')
    have h5 : i < cs.size := by rw [← Array.length_toList]; omega
    rw [Array.getElem?_eq_getElem h5, hs]
    have h6 : s = ⟨l.toArray⟩ := by
      apply ByteArray.ext
      apply Array.ext'
      rw [h4]
    rw [h6]
  unfold World.var? at hvar
  rw [hg] at hvar
  simp only [Option.bind_some] at hvar
  split at hvar
  · rename_i cs' t' fz hh
    simp only [Option.some.injEq] at hvar
    subst hvar
    have hcell : ∀ i, W.cell? ⟨1, i, none⟩ = cs'[i]? := fun i => by unfold World.cell?; rw [hh]; rfl
    exact ⟨(hcell 1).trans (key 1 (by omega) _ rfl), (hcell 2).trans (key 2 (by omega) _ rfl), (hcell 3).trans (key 3 (by omega) _ rfl), (hcell 4).trans (key 4 (by omega) _ rfl), (hcell 5).trans (key 5 (by omega) _ rfl), (hcell 6).trans (key 6 (by omega) _ rfl), (hcell 7).trans (key 7 (by omega) _ rfl), (Array.getElem?_eq_some_iff.1 hh).1⟩
  · cases hvar

theorem tabs_of {W : World} (h : laidMetH Tryz.prog Rows.pushSpoiltRow.laid W) : Tabs W := by
  have hL : laidMet Tryz.prog Rows.pushSpoiltRow.laid W := by
    have := (laidMetH_iff.1 h).1
    have e : (Rows.pushSpoiltRow.laid.filter fun x => x.2.handleName?.isNone) = Rows.pushSpoiltRow.laid := by kernel_rfl
    rwa [e] at this
  have hu : Lib.Utf8Tabs 2 3 W :=
    utf8Tabs_of_readsT (U8Types.of196 Tryz.lays196) ⟨by kernel_rfl, by kernel_rfl, by kernel_rfl, by kernel_rfl, by kernel_rfl, by kernel_rfl, by kernel_rfl⟩
      (Lib.laidMet.reads hL (n := "unicode/utf8.first") (d := Lib.firstData) (by rw [← laid_first]; simp [Rows.pushSpoiltRow])) (Lib.laidMet.reads hL (n := "unicode/utf8.acceptRanges") (d := Lib.acceptData) (by rw [← laid_accept]; simp [Rows.pushSpoiltRow]))
  have hp := tab_pow10 (Lib.laidMet.reads hL (n := "internal/strconv.uint64pow10") (d := Lib.tabData .u64 Lib.pow10Tab) (by rw [← laid_pow10]; simp [Rows.pushSpoiltRow]))
  have h64 : Lib.VarReads Tryz.prog W "math/bits.deBruijn64tab" Rows.laid_math_bits_deBruijn64tab := Lib.laidMet.reads hL (by simp [Rows.pushSpoiltRow])
  refine ⟨?_, hu, hp⟩
  obtain ⟨g', t', cs, fuel, p, hg', ht', hvar, hd⟩ := h64
  have hg : Tryz.prog.globalNamed "math/bits.deBruijn64tab" = some 7 := by kernel_rfl
  obtain rfl := Option.some.inj (hg.symm.trans hg')
  unfold World.var? at hvar
  rw [hg] at hvar
  simp only [Option.bind_some] at hvar
  rcases Nat.lt_or_ge 7 W.heap.size with h' | h'
  · omega
  · rw [Array.getElem?_eq_none h'] at hvar
    cases hvar

theorem mnames_laid {W : World} (h : laidMetH Tryz.prog Rows.pushSpoiltRow.laid W) : MNames W := by
  have hL : laidMet Tryz.prog Rows.pushSpoiltRow.laid W := by
    have := (laidMetH_iff.1 h).1
    have e : (Rows.pushSpoiltRow.laid.filter fun x => x.2.handleName?.isNone) = Rows.pushSpoiltRow.laid := by kernel_rfl
    rwa [e] at this
  exact mnames_of (Lib.laidMet.reads hL (by simp [Rows.pushSpoiltRow]))
end Go.Proofs.YtemceefalkfneaaGreatDoor

/- The last step of a law's row: the answer is true and the arguments read as they did. No condition. -/
namespace Go.Proofs.YtemceefalkfneaaGreatDoor
open Go.RowKit Go.ChangeShapes Go.WideShapes Go.ChangeAt

theorem i64_in {n : Int} (hwf : (Lit.int .i64 n).wf = true) : -9223372036854775808 ≤ n ∧ n ≤ 9223372036854775807 := by
  have h1 : IntKind.i64.min = -9223372036854775808 := by decide
  have h2 : IntKind.i64.max = 9223372036854775807 := by decide
  simp only [Lit.wf, h1, h2, Bool.and_eq_true, decide_eq_true_eq] at hwf
  exact hwf

section
variable {H : Type} {enc : TypeId × Value → H} {P : Program}
theorem post_of_below {f : Func} {s : ChangeSpec} {apart fresh handsOn again : Bool} {W W' : World} {args : Array Value} {v : Value} {ds gs : List (DataW H)} {before pa pv : List MemPlace}
    (hW : DataW.Whole enc P f.params.toList s.vars apart W args.toList ds gs before)
    (hres : ∀ (b : Nat) (sp : Nat → Bool) (hd : Bool), DataW.TrodAll enc P W' b sp hd f.resultTypes.toList (v.resultList f.resultTypes.size) (s.fn H (ds ++ gs)).results [])
    (hargs : ∀ sp : Nat → Bool, (∀ p ∈ before, sp p.block = true) → DataW.TrodAll enc P W' 0 sp true f.params.toList args.toList (s.fn H (ds ++ gs)).args pa)
    (hvars : ∀ sp : Nat → Bool, (∀ p ∈ before, sp p.block = true) → DataW.TrodVars enc P W' sp s.vars (s.fn H (ds ++ gs)).vars pv)
    (hps : before = pa ++ pv) (hb : Below W.heap.size W W')
    (hok : ∀ (j : Nat) (t : TypeId) (r : Value), f.resultTypes[j]? = some t → (v.resultList f.resultTypes.size)[j]? = some r → Value.okWide P W' .any 0 t r) :
    s.post enc P f apart fresh handsOn again W args v W' := by
  have hlt : ∀ p ∈ before, p.block < W.heap.size := fun p hp => hW.lt p hp
  have hold : ∀ p ∈ before, (fun b => decide (b < W.heap.size)) p.block = true := fun p hp => by simpa using hlt p hp
  refine ⟨ds, gs, before, [], pa, pv, hW, hres _ _ _, hargs _ hold, hvars _ hold, World.keptBut_mono (fun p hp => ⟨hp, ?_⟩) (hb.frame (· ∈ before)), fun _ => ?_⟩
  · rw [hps, List.mem_append] at hp
    exact Or.inr hp
  · obtain ⟨_, _, _, _, _, hz, hn⟩ := hW
    refine ⟨hok, _, _, ([] ++ pa) ++ pv, ⟨[] ++ pa, pv, trodAll_append (hargs _ (fun _ _ => rfl)) (hres _ _ _), hvars _ (fun _ _ => rfl), rfl, ?_, ?_⟩, ?_⟩
    · intro b off hp
      have hin : MemPlace.cell b off ∈ before := by rw [hps]; simpa using hp
      rw [hb.frozen (hlt _ hin)]
      exact hz b off hin
    · intro ha
      have := hn ha
      rw [hps] at this
      simpa using this
    · intro p hp _
      rw [hps]
      simpa using hp
end

end Go.Proofs.YtemceefalkfneaaGreatDoor

/- mutator.zero, blank, beginning, must, pass, keyed. Condition: texts shorter than 10^9. -/
namespace Go.Proofs.YtemceefalkfneaaGreatDoor
open Go.RowKit

set_option maxRecDepth 100000 in
theorem mzero_calls (k : Int) (b : Bool) (n : Int) (t : ByteArray) (la oa : Option Addr) (ln lc on oc : Nat) (B : Bool) (w : World) (h : zero6B k b n t ln on = B) :
    Calls Tryz.prog 209 #[.agg #[.int .i64 k, .bool b, .int .i64 n, .string t, .slice la ln lc, .slice oa on oc]] w fun e w' => e = .returned (.bool B) ∧ Below w.heap.size w w' := by
  have fin : ∀ X : Bool, X = zero6B k b n t ln on → Ending.returned (.bool X) = .returned (.bool B) := fun X hX => by rw [hX, h]
  have Fin := Lib.hid fin
  clear fin h
  go_enter Tryz.func209, Tryz.ntmps209
  go_wp2
  all_goals (go_ret; refine ⟨Fin.out _ ?_, alloc_below _ _⟩; simp_all [zero6B, beq_cast])

/-- How a call ends that leaves by a panic, if there is an error. -/
def endE (c : Int) : Ending := if c = 0 then .returned (.tuple #[]) else .panicked [{ v := .iface 221 (.agg #[.int .i64 c]), recovered := false }]
theorem endE_zero : endE 0 = .returned (.tuple #[]) := rfl
theorem endE_some {c : Int} (h : c ≠ 0) : endE c = .panicked [{ v := .iface 221 (.agg #[.int .i64 c]), recovered := false }] := by unfold endE; rw [if_neg h]

theorem must_yes (c : Int) (w : World) : Calls Tryz.prog 143 #[.bool true, .int .i64 c] w fun e w' => e = .returned (.tuple #[]) ∧ w' = w := by
  go_enter Tryz.func143, Tryz.ntmps143
  go_wp2
  go_end0
  exact ⟨rfl, rfl⟩
theorem must_no (c : Int) (w : World) : Calls Tryz.prog 143 #[.bool false, .int .i64 c] w fun e w' => e = .panicked [{ v := .iface 221 (.agg #[.int .i64 c]), recovered := false }] ∧ w' = w := by
  go_enter Tryz.func143, Tryz.ntmps143
  go_wp2
  exact ⟨rfl, rfl, rfl⟩
theorem pass_yes (w : World) : Calls Tryz.prog 146 #[.int .i64 0] w fun e w' => e = .returned (.tuple #[]) ∧ w' = w := by
  have h := fun W => must_yes 0 W
  go_enter Tryz.func146, Tryz.ntmps146
  go_wp2_with (go_at_call 143; (with_reducible refine (h _).mono ?_); rintro e w1 ⟨rfl, rfl⟩)
  go_end0
  exact ⟨rfl, rfl⟩
theorem pass_no (c : Int) (hc : c ≠ 0) (w : World) : Calls Tryz.prog 146 #[.int .i64 c] w fun e w' => e = .panicked [{ v := .iface 221 (.agg #[.int .i64 c]), recovered := false }] ∧ w' = w := by
  have h := fun W => must_no c W
  have t0 : (c == 0) = false := by simpa using hc
  go_enter Tryz.func146, Tryz.ntmps146
  go_wp2_with (go_at_call 143; (with_reducible refine (h _).mono ?_); rintro e w1 ⟨rfl, rfl⟩)
  exact ⟨rfl, rfl, rfl⟩
end Go.Proofs.YtemceefalkfneaaGreatDoor

/- What the program and the reference ask of a mutator's fields is the same. Plain. No condition. -/
namespace Go.Proofs.YtemceefalkfneaaGreatDoor
open Go.RowKit

/-- Is something wrong with a mutator's fields? As the program asks it. -/
def strangeF (k : Int) (dst : ByteArray) (n : Int) (had wasZ has valZ : Bool) (ln : Nat) : Bool :=
  if (!had && !wasZ) = true then true
  else if k = 1 ∨ k = 5 then !(dst.toList.isEmpty && decide (n = 0) && !had && wasZ && !has && decide (ln = 0))
  else if k = 2 then !(dst.toList.isEmpty && decide (n = 0) && !had && wasZ && !has && valZ && decide (ln = 0))
  else if k = 3 then !(dst.toList.isEmpty && !had && wasZ && !has && valZ && decide (ln = 0))
  else if k = 4 then (!has && !valZ) || !(dst.toList.isEmpty && decide (n = 0) && decide (ln = 0))
  else if k = 6 then !(decide (n = 0) && !had && wasZ && !has && valZ && decide (ln = 0))
  else if k = 7 then !(dst.toList.isEmpty && decide (n = 0) && !has && valZ)
  else true
theorem strange_bare (k : Int) (dst : ByteArray) (n : Int) (had wasZ has valZ : Bool) (ln : Nat) : strangeF k dst n had wasZ has valZ ln = !bareF k dst n had wasZ has valZ ln := by
  unfold strangeF bareF
  generalize dst.toList.isEmpty = e
  generalize hz : decide (n = 0) = z
  generalize hy : decide (ln = 0) = y
  by_cases h1 : k = 1
  · subst h1; simp; cases e <;> cases z <;> cases y <;> cases had <;> cases wasZ <;> cases has <;> cases valZ <;> rfl
  by_cases h5 : k = 5
  · subst h5; simp; cases e <;> cases z <;> cases y <;> cases had <;> cases wasZ <;> cases has <;> cases valZ <;> rfl
  by_cases h2 : k = 2
  · subst h2; simp; cases e <;> cases z <;> cases y <;> cases had <;> cases wasZ <;> cases has <;> cases valZ <;> rfl
  by_cases h3 : k = 3
  · subst h3; simp; cases e <;> cases z <;> cases y <;> cases had <;> cases wasZ <;> cases has <;> cases valZ <;> rfl
  by_cases h4 : k = 4
  · subst h4; simp; cases e <;> cases z <;> cases y <;> cases had <;> cases wasZ <;> cases has <;> cases valZ <;> rfl
  by_cases h6 : k = 6
  · subst h6; simp; cases e <;> cases z <;> cases y <;> cases had <;> cases wasZ <;> cases has <;> cases valZ <;> rfl
  by_cases h7 : k = 7
  · subst h7; simp; cases e <;> cases z <;> cases y <;> cases had <;> cases wasZ <;> cases has <;> cases valZ <;> rfl
  have : (decide (1 ≤ k) && decide (k ≤ 7)) = false := by simp; omega
  simp [h1, h2, h3, h4, h5, h6, h7, this]
end Go.Proofs.YtemceefalkfneaaGreatDoor

/- mutator.caught: the error by which a call left that was caught. No condition. -/
namespace Go.Proofs.YtemceefalkfneaaGreatDoor
open Go Go.RowKit

set_option maxRecDepth 100000 in
set_option maxHeartbeats 4000000 in
theorem catch_idle (p : Addr) (w : World) :
    CallsD Tryz.prog 142 #[.pointer (some p)] .returning w fun e u' w' => e = .returned (.tuple #[]) ∧ u' = .returning ∧ w' = w := by
  refine callsD_of_wpS Tryz.func142 rfl fun c₀ cs hu => ?_
  apply wpS_seq
  apply wpS_region
  simp [wpOpsS, go_sem, recoverD, hu, Tryz.ntmps142, Exit.thenS]
  refine wpS_of_wp ?_
  go_wp2
  cases c₀
  simp_all [bodyPostS, results, Tryz.results142]

theorem assert_wrong (W : World) (v : Value) : (Instr.typeAssert (.iface 221 v) 20 221 true).run Tryz.prog W = .ok (.tuple #[v, .bool true]) W := by kernel_rfl
set_option maxRecDepth 100000 in
set_option maxHeartbeats 4000000 in
theorem catch_some (p : Addr) (c x : Int) (w : World) (hc : w.cell? p = some (.int .i64 x)) (hz : w.frozen? p = false) (hp : p.block < w.heap.size) :
    CallsD Tryz.prog 142 #[.pointer (some p)] (.panicking [{ v := .iface 221 (.agg #[.int .i64 c]), recovered := false }]) w fun e u' w' =>
      e = .returned (.tuple #[]) ∧ u' = .panicking [{ v := .iface 221 (.agg #[.int .i64 c]), recovered := true }] ∧ w' = (w.alloc (.cells #[.int .i64 c] 221)).setCell p (.int .i64 c) := by
  have hta := fun w => assert_wrong w (.agg #[.int .i64 c])
  have hz2 : (w.alloc (.cells #[.int .i64 c] 221)).frozen? p = false := ((alloc_below w _).frozen hp).trans hz
  refine callsD_of_wpS Tryz.func142 rfl fun c₀ cs hu => ?_
  apply wpS_seq
  apply wpS_region
  simp [wpOpsS, go_sem, recoverD, hu, Tryz.ntmps142, Exit.thenS]
  refine wpS_of_wp ?_
  go_wp2
  cases c₀
  simp_all [bodyPostS, results, Tryz.results142]

/-- The deferred closure's variable. -/
theorem code_box {w w1 : World} {o : Obj} (hb : Below (w.alloc o).heap.size (w.alloc o) w1) : Below w.heap.size w w1 := (alloc_below w o).trans (hb.mono (by simp))
set_option maxRecDepth 100000 in
set_option maxHeartbeats 4000000 in
theorem caught_calls (c : Int) (q : Addr) (w : World)
    (hdo : ∀ W, Below w.heap.size w W → Calls Tryz.prog 94 #[.pointer (some q)] W fun e w' => e = endE c ∧ Below W.heap.size W w') :
    Calls Tryz.prog 93 #[.func (.func 94) #[] #[.pointer (some q)]] w fun e w' => e = .returned (.int .i64 c) ∧ Below w.heap.size w w' := by
  have hmf : ∀ (fn : Fn) (first cap : Array Value) (w : World), (Instr.makeFunc fn first cap).run Tryz.prog w = .ok (.func fn first cap) w := fun _ _ _ _ => rfl
  have hx := Blk.new w 27 #[.int .i64 0]
  have hD := hdo _ (alloc_below w (.cells #[.int .i64 0] 27))
  have hlt := hx.lt
  by_cases h0 : c = 0
  · subst h0
    rw [endE_zero] at hD
    have HD := Lib.hid hD
    have Hx := Lib.hid hx
    clear hD hx
    clear hdo
    go_enter_defers Tryz.func93, Tryz.ntmps93
    go_wp2_with (go_at_call 94; (with_reducible refine (HD.out).mono ?_); rintro e w1 ⟨rfl, hb1⟩; have hx1 := Hx.out.below hb1 hlt; have d0 := hx1.cell 0; have f0 := hx1.frozen 0)
    refine leaves_cons (f := 142) (args := #[.pointer (some ⟨w.heap.size, 0, none⟩)]) (by simp) (by simp [go_sem]) ?_
    have hx2 := hx1.set_ 0 (.int .i64 0)
    have d2 := hx2.cell 0
    refine (catch_idle ⟨w.heap.size, 0, none⟩ _).mono ?_
    rintro e u' w'' ⟨rfl, rfl, rfl⟩
    simp [Leaves, settle, results, Tryz.results93, go_sem, d2]
    exact (code_box hb1).setCell (Nat.le_refl _) _
  · rw [endE_some h0] at hD
    have HD := Lib.hid hD
    have Hx := Lib.hid hx
    clear hD hx
    clear hdo
    go_enter_defers Tryz.func93, Tryz.ntmps93
    go_wp2_with (go_at_call 94; (with_reducible refine (HD.out).mono ?_); rintro e w1 ⟨rfl, hb1⟩; have hx1 := Hx.out.below hb1 hlt; have d0 := hx1.cell 0; have f0 := hx1.frozen 0)
    refine leaves_cons (f := 142) (args := #[.pointer (some ⟨w.heap.size, 0, none⟩)]) (by simp) (by simp [go_sem]) ?_
    have hx2 := (hx1.alloc (.cells #[.int .i64 c] 221)).set_ 0 (.int .i64 c)
    have d2 := hx2.cell 0
    refine (catch_some ⟨w.heap.size, 0, none⟩ c 0 w1 (by simpa using d0) f0 hx1.lt).mono ?_
    rintro e u' w'' ⟨rfl, rfl, rfl⟩
    simp [Leaves, settle, results, Tryz.results93, go_sem, d2]
    exact ((code_box hb1).alloc (code_box hb1).size _).setCell (Nat.le_refl _) _
end Go.Proofs.YtemceefalkfneaaGreatDoor
