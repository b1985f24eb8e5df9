/- Parts, joined: What the rows' listed tables give the walks. No condition. The last step of a law's row: the answer is true and the arguments read as they did. No condition. pull.EncodeResponse of an answer that may not be. Condition: a bulk of at most 10^8. -/
import Derived.Test.YtemceefalkfneaaGreatDoorProg
import Derived.Below
import Derived.ChangeSame
import Derived.WideKeyArgs
import Derived.OpenShut
import Derived.Test.YtemceefalkfneaaGreatDoorKCm4
import Derived.Test.YtemceefalkfneaaGreatDoorKPullSpoilt1
import Derived.Test.YtemceefalkfneaaGreatDoorKPullSpoilt6
import Derived.Test.YtemceefalkfneaaGreatDoorKPullSpoilt9
/- What the rows' listed tables give the walks. No condition. -/
namespace Go.Proofs.YtemceefalkfneaaGreatDoor
open Go.RowKit Go.ChangeShapes Go.WideShapes Go.ChangeAt

theorem tab_pow10 {W : World} (h : Lib.VarReads Tryz.prog W "internal/strconv.uint64pow10" (Lib.tabData .u64 Lib.pow10Tab)) : Lib.TabIs Tryz.prog W "internal/strconv.uint64pow10" .u64 Lib.pow10Tab := by
  obtain ⟨g', t', cs, fuel, p, hg', ht', hvar, hd⟩ := h
  have hg : Tryz.prog.globalNamed "internal/strconv.uint64pow10" = some 4 := by kernel_rfl
  have hty : (Tryz.prog.globals[4]?).map (·.type) = some 322 := by kernel_rfl
  obtain rfl := Option.some.inj (hg.symm.trans hg')
  obtain rfl := Option.some.inj (hty.symm.trans ht')
  unfold Lib.TabIs
  rw [hvar, ← Lib.cells_of_tab Tryz.underlying322 Tryz.underlying22 (by kernel_rfl) (by kernel_rfl) hd]

theorem names_of {W : World} (h : Lib.VarReads Tryz.prog W "commonplace/patch.names" Rows.laid_commonplace_patch_names) : Names W := by
  obtain ⟨g', t', cs, fuel, p, hg', ht', hvar, hd⟩ := h
  have hg : Tryz.prog.globalNamed "commonplace/patch.names" = some 0 := by kernel_rfl
  have hty : (Tryz.prog.globals[0]?).map (·.type) = some 141 := by kernel_rfl
  obtain rfl := Option.some.inj (hg.symm.trans hg')
  obtain rfl := Option.some.inj (hty.symm.trans ht')
  obtain ⟨xs, m, _, hx, hl, hxl, hf⟩ := DataW.trod_array Tryz.underlying141 hd
  have hc1 : Tryz.prog.cellsOf 9 = 1 := by kernel_rfl
  have hc4 : Tryz.prog.cellsOf 141 = 4 := by kernel_rfl
  rw [hc4] at hl
  have hxs := congrArg Prod.fst hx
  simp only [Rows.laid_commonplace_patch_names, DataW.agg.injEq] at hxs
  have key : ∀ i, i < 4 → ∀ l : List UInt8, ([[], [112, 117, 116], [100, 101, 108], [99, 108, 101, 97, 114]] : List (List UInt8))[i]? = some l → cs[i]? = some (.string ⟨l.toArray⟩) := by
    intro i hi l hl'
    have h1 := hf i hi
    rw [hc1, Nat.mul_one] at h1
    have h2 : ((cs.toList.drop i).take 1) = [cs[i]'(by simpa [Array.length_toList] using (by omega : i < cs.toList.length))] := by
      rw [List.drop_eq_getElem_cons (by omega)]
      simp
    rw [h2, List.getElem?_eq_getElem (by omega)] at h1
    obtain ⟨s, hs, hx1, _⟩ := DataW.trod_string Tryz.underlying9 h1
    simp only [List.cons.injEq, and_true] at hs
    have h3 : (xs.map (·.1))[i]? = some (DataW.lit (.string s.data.toList) : DataW Unit) := by
      rw [List.getElem?_map, List.getElem?_eq_getElem (by omega), Option.map_some, hx1]
    rw [← hxs] at h3
    have h4 : s.data.toList = l := by
      rcases (by omega : i = 0 ∨ i = 1 ∨ i = 2 ∨ i = 3) with rfl | rfl | rfl | rfl <;> exact (Lit.string.inj (DataW.lit.inj (Option.some.inj h3))).symm.trans (Option.some.inj hl')
    have h5 : i < cs.size := by rw [← Array.length_toList]; omega
    rw [Array.getElem?_eq_getElem h5, hs]
    have h6 : s = ⟨l.toArray⟩ := by
      apply ByteArray.ext
      apply Array.ext'
      rw [h4]
    rw [h6]
  unfold World.var? at hvar
  rw [hg] at hvar
  simp only [Option.bind_some] at hvar
  split at hvar
  · rename_i cs' t' fz hh
    simp only [Option.some.injEq] at hvar
    subst hvar
    have hcell : ∀ i, W.cell? ⟨0, i, none⟩ = cs'[i]? := fun i => by unfold World.cell?; rw [hh]; rfl
    exact ⟨(hcell 1).trans (key 1 (by omega) _ rfl), (hcell 2).trans (key 2 (by omega) _ rfl), (hcell 3).trans (key 3 (by omega) _ rfl), (Array.getElem?_eq_some_iff.1 hh).1⟩
  · cases hvar

theorem tabs_of {W : World} (h : laidMetH Tryz.prog Rows.pullSpoiltRow.laid W) : Tabs W := by
  have hL : laidMet Tryz.prog Rows.pullSpoiltRow.laid W := by
    have := (laidMetH_iff.1 h).1
    have e : (Rows.pullSpoiltRow.laid.filter fun x => x.2.handleName?.isNone) = Rows.pullSpoiltRow.laid := by kernel_rfl
    rwa [e] at this
  have hu : Lib.Utf8Tabs 2 3 W :=
    utf8Tabs_of_readsT (U8Types.of196 Tryz.lays196) ⟨by kernel_rfl, by kernel_rfl, by kernel_rfl, by kernel_rfl, by kernel_rfl, by kernel_rfl, by kernel_rfl⟩
      (Lib.laidMet.reads hL (n := "unicode/utf8.first") (d := Lib.firstData) (by rw [← laid_first]; simp [Rows.pullSpoiltRow])) (Lib.laidMet.reads hL (n := "unicode/utf8.acceptRanges") (d := Lib.acceptData) (by rw [← laid_accept]; simp [Rows.pullSpoiltRow]))
  have hp := tab_pow10 (Lib.laidMet.reads hL (n := "internal/strconv.uint64pow10") (d := Lib.tabData .u64 Lib.pow10Tab) (by rw [← laid_pow10]; simp [Rows.pullSpoiltRow]))
  have h64 : Lib.VarReads Tryz.prog W "math/bits.deBruijn64tab" Rows.laid_math_bits_deBruijn64tab := Lib.laidMet.reads hL (by simp [Rows.pullSpoiltRow])
  refine ⟨?_, hu, hp⟩
  obtain ⟨g', t', cs, fuel, p, hg', ht', hvar, hd⟩ := h64
  have hg : Tryz.prog.globalNamed "math/bits.deBruijn64tab" = some 7 := by kernel_rfl
  obtain rfl := Option.some.inj (hg.symm.trans hg')
  unfold World.var? at hvar
  rw [hg] at hvar
  simp only [Option.bind_some] at hvar
  rcases Nat.lt_or_ge 7 W.heap.size with h' | h'
  · omega
  · rw [Array.getElem?_eq_none h'] at hvar
    cases hvar

theorem names_laid {W : World} (h : laidMetH Tryz.prog Rows.pullSpoiltRow.laid W) : Names W := by
  have hL : laidMet Tryz.prog Rows.pullSpoiltRow.laid W := by
    have := (laidMetH_iff.1 h).1
    have e : (Rows.pullSpoiltRow.laid.filter fun x => x.2.handleName?.isNone) = Rows.pullSpoiltRow.laid := by kernel_rfl
    rwa [e] at this
  exact names_of (Lib.laidMet.reads hL (by simp [Rows.pullSpoiltRow]))
end Go.Proofs.YtemceefalkfneaaGreatDoor

/- The last step of a law's row: the answer is true and the arguments read as they did. No condition. -/
namespace Go.Proofs.YtemceefalkfneaaGreatDoor
open Go.RowKit Go.ChangeShapes Go.WideShapes Go.ChangeAt

theorem i64_in {n : Int} (hwf : (Lit.int .i64 n).wf = true) : -9223372036854775808 ≤ n ∧ n ≤ 9223372036854775807 := by
  have h1 : IntKind.i64.min = -9223372036854775808 := by decide
  have h2 : IntKind.i64.max = 9223372036854775807 := by decide
  simp only [Lit.wf, h1, h2, Bool.and_eq_true, decide_eq_true_eq] at hwf
  exact hwf

section
variable {H : Type} {enc : TypeId × Value → H} {P : Program}
theorem post_of_below {f : Func} {s : ChangeSpec} {apart fresh handsOn again : Bool} {W W' : World} {args : Array Value} {v : Value} {ds gs : List (DataW H)} {before pa pv : List MemPlace}
    (hW : DataW.Whole enc P f.params.toList s.vars apart W args.toList ds gs before)
    (hres : ∀ (b : Nat) (sp : Nat → Bool) (hd : Bool), DataW.TrodAll enc P W' b sp hd f.resultTypes.toList (v.resultList f.resultTypes.size) (s.fn H (ds ++ gs)).results [])
    (hargs : ∀ sp : Nat → Bool, (∀ p ∈ before, sp p.block = true) → DataW.TrodAll enc P W' 0 sp true f.params.toList args.toList (s.fn H (ds ++ gs)).args pa)
    (hvars : ∀ sp : Nat → Bool, (∀ p ∈ before, sp p.block = true) → DataW.TrodVars enc P W' sp s.vars (s.fn H (ds ++ gs)).vars pv)
    (hps : before = pa ++ pv) (hb : Below W.heap.size W W')
    (hok : ∀ (j : Nat) (t : TypeId) (r : Value), f.resultTypes[j]? = some t → (v.resultList f.resultTypes.size)[j]? = some r → Value.okWide P W' .any 0 t r) :
    s.post enc P f apart fresh handsOn again W args v W' := by
  have hlt : ∀ p ∈ before, p.block < W.heap.size := fun p hp => hW.lt p hp
  have hold : ∀ p ∈ before, (fun b => decide (b < W.heap.size)) p.block = true := fun p hp => by simpa using hlt p hp
  refine ⟨ds, gs, before, [], pa, pv, hW, hres _ _ _, hargs _ hold, hvars _ hold, World.keptBut_mono (fun p hp => ⟨hp, ?_⟩) (hb.frame (· ∈ before)), fun _ => ?_⟩
  · rw [hps, List.mem_append] at hp
    exact Or.inr hp
  · obtain ⟨_, _, _, _, _, hz, hn⟩ := hW
    refine ⟨hok, _, _, ([] ++ pa) ++ pv, ⟨[] ++ pa, pv, trodAll_append (hargs _ (fun _ _ => rfl)) (hres _ _ _), hvars _ (fun _ _ => rfl), rfl, ?_, ?_⟩, ?_⟩
    · intro b off hp
      have hin : MemPlace.cell b off ∈ before := by rw [hps]; simpa using hp
      rw [hb.frozen (hlt _ hin)]
      exact hz b off hin
    · intro ha
      have := hn ha
      rw [hps] at this
      simpa using this
    · intro p hp _
      rw [hps]
      simpa using hp
end

end Go.Proofs.YtemceefalkfneaaGreatDoor

/- pull.EncodeResponse of an answer that may not be. Condition: a bulk of at most 10^8. -/
namespace Go.Proofs.YtemceefalkfneaaGreatDoor
open Go Go.RowKit

set_option maxRecDepth 100000 in
set_option maxHeartbeats 1000000 in
theorem encResp_no (c b k s : Int) (l : List POp) (hm : mayResp c b k s l ≠ 0) (a : Option Addr) (n cc : Nat) (w : World) (hT : Tabs w) (h : Holds w w.heap.size (.row 8 (dQs l)) [.slice a n cc]) (hb : bulkQ l ≤ 100000000) (hin : inQ l) :
    Calls Tryz.prog 5 #[.agg #[.int .u64 c, .int .u64 b, .int .u64 k, .int .u64 s, .slice a n cc]] w fun e w' => e = .returned (.tuple #[.slice none 0 0, .int .i64 (mayResp c b k s l)]) ∧ Below w.heap.size w w' := by
  have hb0 : Below w.heap.size w (w.alloc (.cells #[.int .u64 c, .int .u64 b, .int .u64 k, .int .u64 s, .slice a n cc] 25)) := (Below.refl _ _).alloc (Nat.le_refl _) _
  have hM := MayResponse_calls c b k s l a n cc (w.alloc (.cells #[.int .u64 c, .int .u64 b, .int .u64 k, .int .u64 s, .slice a n cc] 25)) (hT.below hb0) ((h.below hb0).more hb0.size) hb hin
  generalize mayResp c b k s l = X at hm hM ⊢
  have tX : (X != 0) = true := by simpa using hm
  have HM := Lib.hid hM
  have Hb0 := Lib.hid hb0
  have HT := Lib.hid hT
  have H := Lib.hid h
  clear hM hb0 hT h
  clear hm
  go_enter Tryz.func5, Tryz.ntmps5
  go_wp2_with (go_at_call 17; (with_reducible refine (HM.out).mono ?_); rintro e w1 ⟨rfl, hb1⟩)
  go_ret2
  exact ⟨rfl, Hb0.out.trans (hb1.mono Hb0.out.size)⟩
end Go.Proofs.YtemceefalkfneaaGreatDoor
