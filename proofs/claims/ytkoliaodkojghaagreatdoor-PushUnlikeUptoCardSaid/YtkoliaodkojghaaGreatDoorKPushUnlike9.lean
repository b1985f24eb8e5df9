/- Parts, joined: What the rows' listed tables give the walks. No condition. The last step of a law's row: the answer is true and the arguments read as they did. No condition. The reference's word why a push may not be. Condition: a bulk of at most 10^8. Values that may be and have the same text are the same, the values. Plain. No condition. commonplaceref17.SameList, Same: yes of a push and itself alone. Condition: bulks of at most 10^8. commonplaceref17.Same: yes of a push and itself alone. Condition: bulks of at most 10^7. -/
import Derived.Test.YtkoliaodkojghaaGreatDoorProg
import Derived.Below
import Derived.ChangeSame
import Derived.WideKeyArgs
import Derived.OpenShut
import Derived.Test.YtkoliaodkojghaaGreatDoorKPush7
import Derived.Test.YtkoliaodkojghaaGreatDoorKPushUnlike1
import Derived.Test.YtkoliaodkojghaaGreatDoorKPushUnlike4
import Derived.Test.YtkoliaodkojghaaGreatDoorKPushUnlike8
/- What the rows' listed tables give the walks. No condition. -/
namespace Go.Proofs.YtkoliaodkojghaaGreatDoor
open Go.RowKit Go.ChangeShapes Go.WideShapes Go.ChangeAt

theorem tab_pow10 {W : World} (h : Lib.VarReads Tryz.prog W "internal/strconv.uint64pow10" (Lib.tabData .u64 Lib.pow10Tab)) : Lib.TabIs Tryz.prog W "internal/strconv.uint64pow10" .u64 Lib.pow10Tab := by
  obtain ⟨g', t', cs, fuel, p, hg', ht', hvar, hd⟩ := h
  have hg : Tryz.prog.globalNamed "internal/strconv.uint64pow10" = some 3 := by kernel_rfl
  have hty : (Tryz.prog.globals[3]?).map (·.type) = some 235 := by kernel_rfl
  obtain rfl := Option.some.inj (hg.symm.trans hg')
  obtain rfl := Option.some.inj (hty.symm.trans ht')
  unfold Lib.TabIs
  rw [hvar, ← Lib.cells_of_tab Tryz.underlying235 Tryz.underlying22 (by kernel_rfl) (by kernel_rfl) hd]

theorem mnames_of {W : World} (h : Lib.VarReads Tryz.prog W "commonplace/mutator.names" Rows.laid_commonplace_mutator_names) : MNames W := by
  obtain ⟨g', t', cs, fuel, p, hg', ht', hvar, hd⟩ := h
  have hg : Tryz.prog.globalNamed "commonplace/mutator.names" = some 0 := by kernel_rfl
  have hty : (Tryz.prog.globals[0]?).map (·.type) = some 135 := by kernel_rfl
  obtain rfl := Option.some.inj (hg.symm.trans hg')
  obtain rfl := Option.some.inj (hty.symm.trans ht')
  obtain ⟨xs, m, _, hx, hl, hxl, hf⟩ := DataW.trod_array Tryz.underlying135 hd
  have hc1 : Tryz.prog.cellsOf 9 = 1 := by kernel_rfl
  have hc4 : Tryz.prog.cellsOf 135 = 8 := by kernel_rfl
  rw [hc4] at hl
  have hxs := congrArg Prod.fst hx
  simp only [Rows.laid_commonplace_mutator_names, DataW.agg.injEq] at hxs
  have key : ∀ i, i < 8 → ∀ l : List UInt8, ([[], [112, 117, 116], [100, 101, 108], [105, 110, 99], [99, 97, 115], [97, 112, 112, 101, 110, 100], [109, 111, 118, 101], [115, 101, 113]] : List (List UInt8))[i]? = some l → cs[i]? = some (.string ⟨l.toArray⟩) := by
    intro i hi l hl'
    have h1 := hf i hi
    rw [hc1, Nat.mul_one] at h1
    have h2 : ((cs.toList.drop i).take 1) = [cs[i]'(by simpa [Array.length_toList] using (by omega : i < cs.toList.length))] := by
      rw [List.drop_eq_getElem_cons (by omega)]
      simp
    rw [h2, List.getElem?_eq_getElem (by omega)] at h1
    obtain ⟨s, hs, hx1, _⟩ := DataW.trod_string Tryz.underlying9 h1
    simp only [List.cons.injEq, and_true] at hs
    have h3 : (xs.map (·.1))[i]? = some (DataW.lit (.string s.data.toList) : DataW Unit) := by
      rw [List.getElem?_map, List.getElem?_eq_getElem (by omega), Option.map_some, hx1]
    rw [← hxs] at h3
    have h4 : s.data.toList = l := by
      rcases (by omega : i = 0 ∨ i = 1 ∨ i = 2 ∨ i = 3 ∨ i = 4 ∨ i = 5 ∨ i = 6 ∨ i = 7) with rfl | rfl | rfl | rfl | rfl | rfl | rfl | rfl <;> exact (Lit.string.inj (DataW.lit.inj (Option.some.inj h3))).symm.trans (Option.some.inj hl')
    have h5 : i < cs.size := by rw [← Array.length_toList]; omega
    rw [Array.getElem?_eq_getElem h5, hs]
    have h6 : s = ⟨l.toArray⟩ := by
      apply ByteArray.ext
      apply Array.ext'
      rw [h4]
    rw [h6]
  unfold World.var? at hvar
  rw [hg] at hvar
  simp only [Option.bind_some] at hvar
  split at hvar
  · rename_i cs' t' fz hh
    simp only [Option.some.injEq] at hvar
    subst hvar
    have hcell : ∀ i, W.cell? ⟨0, i, none⟩ = cs'[i]? := fun i => by unfold World.cell?; rw [hh]; rfl
    exact ⟨(hcell 1).trans (key 1 (by omega) _ rfl), (hcell 2).trans (key 2 (by omega) _ rfl), (hcell 3).trans (key 3 (by omega) _ rfl), (hcell 4).trans (key 4 (by omega) _ rfl), (hcell 5).trans (key 5 (by omega) _ rfl), (hcell 6).trans (key 6 (by omega) _ rfl), (hcell 7).trans (key 7 (by omega) _ rfl), (Array.getElem?_eq_some_iff.1 hh).1⟩
  · cases hvar

theorem tabs_of {W : World} (h : laidMetH Tryz.prog Rows.pushMayRow.laid W) : Tabs W := by
  have hL : laidMet Tryz.prog Rows.pushMayRow.laid W := by
    have := (laidMetH_iff.1 h).1
    have e : (Rows.pushMayRow.laid.filter fun x => x.2.handleName?.isNone) = Rows.pushMayRow.laid := by kernel_rfl
    rwa [e] at this
  have hu : Lib.Utf8Tabs 1 2 W :=
    utf8Tabs_of_readsT (U8Types.of196 Tryz.lays196) ⟨by kernel_rfl, by kernel_rfl, by kernel_rfl, by kernel_rfl, by kernel_rfl, by kernel_rfl, by kernel_rfl⟩
      (Lib.laidMet.reads hL (n := "unicode/utf8.first") (d := Lib.firstData) (by rw [← laid_first]; simp [Rows.pushMayRow])) (Lib.laidMet.reads hL (n := "unicode/utf8.acceptRanges") (d := Lib.acceptData) (by rw [← laid_accept]; simp [Rows.pushMayRow]))
  have hp := tab_pow10 (Lib.laidMet.reads hL (n := "internal/strconv.uint64pow10") (d := Lib.tabData .u64 Lib.pow10Tab) (by rw [← laid_pow10]; simp [Rows.pushMayRow]))
  have h64 : Lib.VarReads Tryz.prog W "math/bits.deBruijn64tab" Rows.laid_math_bits_deBruijn64tab := Lib.laidMet.reads hL (by simp [Rows.pushMayRow])
  refine ⟨?_, hu, hp⟩
  obtain ⟨g', t', cs, fuel, p, hg', ht', hvar, hd⟩ := h64
  have hg : Tryz.prog.globalNamed "math/bits.deBruijn64tab" = some 5 := by kernel_rfl
  obtain rfl := Option.some.inj (hg.symm.trans hg')
  unfold World.var? at hvar
  rw [hg] at hvar
  simp only [Option.bind_some] at hvar
  rcases Nat.lt_or_ge 5 W.heap.size with h' | h'
  · exact Nat.le_of_lt h'
  · rw [Array.getElem?_eq_none h'] at hvar
    cases hvar

theorem mnames_laid {W : World} (h : laidMetH Tryz.prog Rows.pushMayRow.laid W) : MNames W := by
  have hL : laidMet Tryz.prog Rows.pushMayRow.laid W := by
    have := (laidMetH_iff.1 h).1
    have e : (Rows.pushMayRow.laid.filter fun x => x.2.handleName?.isNone) = Rows.pushMayRow.laid := by kernel_rfl
    rwa [e] at this
  exact mnames_of (Lib.laidMet.reads hL (by simp [Rows.pushMayRow]))
end Go.Proofs.YtkoliaodkojghaaGreatDoor

/- The last step of a law's row: the answer is true and the arguments read as they did. No condition. -/
namespace Go.Proofs.YtkoliaodkojghaaGreatDoor
open Go.RowKit Go.ChangeShapes Go.WideShapes Go.ChangeAt

theorem i64_in {n : Int} (hwf : (Lit.int .i64 n).wf = true) : -9223372036854775808 ≤ n ∧ n ≤ 9223372036854775807 := by
  have h1 : IntKind.i64.min = -9223372036854775808 := by decide
  have h2 : IntKind.i64.max = 9223372036854775807 := by decide
  simp only [Lit.wf, h1, h2, Bool.and_eq_true, decide_eq_true_eq] at hwf
  exact hwf

section
variable {H : Type} {enc : TypeId × Value → H} {P : Program}
theorem post_of_below {f : Func} {s : ChangeSpec} {apart fresh handsOn again : Bool} {W W' : World} {args : Array Value} {v : Value} {ds gs : List (DataW H)} {before pa pv : List MemPlace}
    (hW : DataW.Whole enc P f.params.toList s.vars apart W args.toList ds gs before)
    (hres : ∀ (b : Nat) (sp : Nat → Bool) (hd : Bool), DataW.TrodAll enc P W' b sp hd f.resultTypes.toList (v.resultList f.resultTypes.size) (s.fn H (ds ++ gs)).results [])
    (hargs : ∀ sp : Nat → Bool, (∀ p ∈ before, sp p.block = true) → DataW.TrodAll enc P W' 0 sp true f.params.toList args.toList (s.fn H (ds ++ gs)).args pa)
    (hvars : ∀ sp : Nat → Bool, (∀ p ∈ before, sp p.block = true) → DataW.TrodVars enc P W' sp s.vars (s.fn H (ds ++ gs)).vars pv)
    (hps : before = pa ++ pv) (hb : Below W.heap.size W W')
    (hok : ∀ (j : Nat) (t : TypeId) (r : Value), f.resultTypes[j]? = some t → (v.resultList f.resultTypes.size)[j]? = some r → Value.okWide P W' .any 0 t r) :
    s.post enc P f apart fresh handsOn again W args v W' := by
  have hlt : ∀ p ∈ before, p.block < W.heap.size := fun p hp => hW.lt p hp
  have hold : ∀ p ∈ before, (fun b => decide (b < W.heap.size)) p.block = true := fun p hp => by simpa using hlt p hp
  refine ⟨ds, gs, before, [], pa, pv, hW, hres _ _ _, hargs _ hold, hvars _ hold, World.keptBut_mono (fun p hp => ⟨hp, ?_⟩) (hb.frame (· ∈ before)), fun _ => ?_⟩
  · rw [hps, List.mem_append] at hp
    exact Or.inr hp
  · obtain ⟨_, _, _, _, _, hz, hn⟩ := hW
    refine ⟨hok, _, _, ([] ++ pa) ++ pv, ⟨[] ++ pa, pv, trodAll_append (hargs _ (fun _ _ => rfl)) (hres _ _ _), hvars _ (fun _ _ => rfl), rfl, ?_, ?_⟩, ?_⟩
    · intro b off hp
      have hin : MemPlace.cell b off ∈ before := by rw [hps]; simpa using hp
      rw [hb.frozen (hlt _ hin)]
      exact hz b off hin
    · intro ha
      have := hn ha
      rw [hps] at this
      simpa using this
    · intro p hp _
      rw [hps]
      simpa using hp
end

end Go.Proofs.YtkoliaodkojghaaGreatDoor

/- The reference's word why a push may not be. Condition: a bulk of at most 10^8. -/
namespace Go.Proofs.YtkoliaodkojghaaGreatDoor
open Go.RowKit

set_option maxRecDepth 100000 in
set_option maxHeartbeats 8000000 in
theorem rpushMay_calls (c : Int) (l : List Num) (a : Option Addr) (n cc : Nat) (w : World) (hc : 0 ≤ c) (hT : Tabs w) (h : Holds w w.heap.size (.row 20 (dNs l)) [.slice a n cc]) (hb : bulkN l ≤ 100000000) (hin : inN l) :
    Calls Tryz.prog 7 #[.agg #[.int .u64 c, .slice a n cc]] w fun e w' => e = .returned (.int .i64 (mayPush c l)) ∧ Below w.heap.size w w' := by
  have hn := h.row_len
  rw [dNs_len] at hn
  subst hn
  have hlq := bulkN_len l
  have hE : mayPush c l = mayPush c l := rfl
  conv at hE => rhs; unfold mayPush
  generalize mayPush c l = X at hE ⊢
  by_cases h0 : c = 0
  · subst h0
    rw [if_pos (by omega)] at hE
    have HE := Lib.hid hE
    clear hE
    clear h hT
    go_enter Tryz.func7, Tryz.ntmps7
    go_wp2
    go_ret
    exact ⟨by rw [HE.out]; rfl, alloc_below _ _⟩
  have t0 : (c == 0) = false := by simpa using h0
  by_cases h1 : 4611686018427387903 < c
  · rw [if_pos (by omega)] at hE
    have HE := Lib.hid hE
    clear hE
    clear h hT h0
    go_enter Tryz.func7, Tryz.ntmps7
    go_wp2
    go_ret
    exact ⟨by rw [HE.out]; rfl, alloc_below _ _⟩
  rw [if_neg (by omega)] at hE
  have t1 : c ≤ 4611686018427387903 := by omega
  by_cases h2 : 64 < l.length
  · rw [if_pos h2] at hE
    have t2 : (64 : Int) < (l.length : Int) := by omega
    have HE := Lib.hid hE
    clear hE
    clear h hT h0 h1
    go_enter Tryz.func7, Tryz.ntmps7
    go_wp2
    go_ret
    exact ⟨by rw [HE.out]; rfl, alloc_below _ _⟩
  rw [if_neg h2] at hE
  have t2 : (l.length : Int) ≤ 64 := by omega
  obtain ⟨wi, hwi⟩ : ∃ wi, w.alloc (.cells #[.int .u64 c, .slice a l.length cc] 25) = wi := ⟨_, rfl⟩
  have hbi : Below w.heap.size w wi := hwi ▸ alloc_below _ _
  have hxb : Blk wi w.heap.size 25 #[.int .u64 c, .slice a l.length cc] := hwi ▸ Blk.new _ _ _
  have hI0 : Hid (Below wi.heap.size wi wi) := Lib.hid (Below.refl _ _)
  have hX0 : Hid (mayNs (l.drop 0) = X) := Lib.hid (by rw [List.drop_zero]; exact hE.symm)
  have y0 := hxb.cell 0
  have y1 := hxb.cell 1
  have hgb := hxb.lt
  have H := Lib.hid h
  have HT := Lib.hid hT
  have Hin := Lib.hid hin
  have Hbi := Lib.hid hbi
  have Hxb := Lib.hid hxb
  clear h hT hin hbi hxb
  clear hE h0 h1
  go_enter Tryz.func7, Tryz.ntmps7
  go_wp2_with (fail)
  clear hwi
  go_loopw [3] (fun i wr => ∃ q : Nat, i = .int .i64 q ∧ q ≤ l.length ∧ Hid (mayNs (l.drop q) = X) ∧ Hid (Below wi.heap.size wi wr)) (fun i _ => l.length - (intOf i).toNat)
  case atStart => exact ⟨0, rfl, Nat.zero_le _, hX0, hI0⟩
  case round =>
    obtain ⟨q, rfl, hq, hX, hbr⟩ := hrel
    clear hX0 hI0 y0 y1
    have hbw := Hbi.out.trans (hbr.out.mono Hbi.out.size)
    have y1 := (Hxb.out.below hbr.out Hxb.out.lt).cell 1
    have hgr0 := Nat.lt_of_lt_of_le Hxb.out.lt hbr.out.size
    by_cases hlt : q < l.length
    · obtain ⟨p, hp⟩ : ∃ p, l[q]? = some p := ⟨_, List.getElem?_eq_getElem hlt⟩
      have hmem := List.mem_of_getElem? hp
      have hbm := bulkN_mem hmem
      obtain ⟨hid0, hin'⟩ := Hin.out p hmem
      have hXd := hX.out
      rw [mayNs_drop hp] at hXd
      obtain ⟨id, k', key', dst', n', had', ⟨k1', b1', n1', t1', l1', o1'⟩, has', ⟨k2', b2', n2', t2', l2', o2'⟩, l'⟩ := p
      have hz := hbw.size
      obtain ⟨g, off, rfl, hg, cs', hcs, _, hc0, hcell⟩ := num_at (H.out.below hbw) hp
      obtain ⟨la1', lc1', oa1', oc1', la2', lc2', oa2', oc2', a', c', rfl, _, _, _⟩ := mut_cells hcs
      simp only at hXd hbm hin' hc0 hid0
      have hrange : wr.rangeAt g (off + q * 20 + 1) [.int .i64 k', .string key', .string dst', .int .i64 n', .bool had', .int .i64 k1', .bool b1', .int .i64 n1', .string t1', .slice la1' l1'.length lc1', .slice oa1' o1'.length oc1', .bool has', .int .i64 k2', .bool b2', .int .i64 n2', .string t2', .slice la2' l2'.length lc2', .slice oa2' o2'.length oc2', .slice a' l'.length c'] := hcell
      have hgr : g < wr.heap.size := by omega
      have hq1 : (q : Int) < (l.length : Int) := by omega
      have hq0 : (0 : Int) ≤ q := by omega
      have hM : Calls Tryz.prog 16 #[.agg #[.int .i64 k', .string key', .string dst', .int .i64 n', .bool had', .int .i64 k1', .bool b1', .int .i64 n1', .string t1', .slice la1' l1'.length lc1', .slice oa1' o1'.length oc1', .bool has', .int .i64 k2', .bool b2', .int .i64 n2', .string t2', .slice la2' l2'.length lc2', .slice oa2' o2'.length oc2', .slice a' l'.length c']] wr fun e w' => e = .returned (.int .i64 (mutMay (Mut.mk k' key' dst' n' had' (.mk k1' b1' n1' t1' l1' o1') has' (.mk k2' b2' n2' t2' l2' o2') l'))) ∧ Below wr.heap.size wr w' := rmutMay_calls _ _ wr (HT.out.below hbw) (hcs.more hz) (by omega) hin'
      generalize mutMay (Mut.mk k' key' dst' n' had' (.mk k1' b1' n1' t1' l1' o1') has' (.mk k2' b2' n2' t2' l2' o2') l') = Y at hM hXd
      by_cases i0 : id = 0
      · subst i0
        rw [if_pos (by omega)] at hXd
        have HXd := Lib.hid hXd
        have Hbw := Lib.hid hbw
        clear hXd hbw
        clear hcs hcell hmem hbm hp hX hin' hM
        go_wp2
        go_ret
        exact ⟨by rw [← HXd.out]; rfl, Hbw.out⟩
      have ti0 : (id == 0) = false := by simpa using i0
      by_cases i1 : 4611686018427387903 < id
      · rw [if_pos (by omega)] at hXd
        have HXd := Lib.hid hXd
        have Hbw := Lib.hid hbw
        clear hXd hbw
        clear hcs hcell hmem hbm hp hX hin' hM i0
        go_wp2
        go_ret
        exact ⟨by rw [← HXd.out]; rfl, Hbw.out⟩
      rw [if_neg (by omega)] at hXd
      have ti1 : id ≤ 4611686018427387903 := by omega
      have HM := Lib.hid hM
      have Hbw := Lib.hid hbw
      clear hM hbw
      clear hcs hcell hmem hbm hp hX hin' i0 i1
      go_upto_region 10 with (fail)
      iterate 17 go_step
      refine wp_load_mid 48 (.tmp 44) rfl g (off + q * 20 + 1) rfl [.int .i64 k', .string key', .string dst', .int .i64 n', .bool had', .int .i64 k1', .bool b1', .int .i64 n1', .string t1', .slice la1' l1'.length lc1', .slice oa1' o1'.length oc1', .bool has', .int .i64 k2', .bool b2', .int .i64 n2', .string t2', .slice la2' l2'.length lc2', .slice oa2' o2'.length oc2', .slice a' l'.length c'] _ hrange Tryz.underlying48 rfl (by kernel_rfl) ?_
      go_wp2_with (fail)
      with_reducible refine (HM.out).mono ?_
      rintro e w3 ⟨rfl, hb3⟩
      have hbf := hbr.out.trans (hb3.mono hbr.out.size)
      by_cases hY : Y = 0
      · subst hY
        rw [if_pos rfl] at hXd
        have HXd := Lib.hid hXd
        have Hbf := Lib.hid hbf
        clear hXd hbf
        clear hb3
        go_wp2
        go_roundw
        case rel => exact ⟨q + 1, by go_num, by omega, HXd, Hbf⟩
        case measure => simp only [intOf]; omega
      · rw [if_neg hY] at hXd
        have tY : (Y != 0) = true := by simpa using hY
        have HXd := Lib.hid hXd
        have Hbf := Lib.hid hbf
        clear hXd hbf
        clear hb3
        go_wp2
        go_ret
        exact ⟨by rw [← HXd.out]; rfl, Hbi.out.trans (Hbf.out.mono Hbi.out.size)⟩
    · obtain rfl : q = l.length := by omega
      have hE := hX.out
      rw [List.drop_length] at hE
      have hE' : X = 0 := hE.symm
      subst hE'
      have Hbw := Lib.hid hbw
      clear hbw
      clear hX hE
      go_wp2
      go_ret
      exact ⟨rfl, Hbw.out⟩
end Go.Proofs.YtkoliaodkojghaaGreatDoor

/- Values that may be and have the same text are the same, the values. Plain. No condition. -/
namespace Go.Proofs.YtkoliaodkojghaaGreatDoor
open Go.RowKit

theorem odd_bn {k : Int} {b : Bool} {n : Int} {t : ByteArray} {ln on : Nat} (h : oddB k b n t ln on = false) : (k = 2 ∨ b = false) ∧ (k = 3 ∨ n = 0) := by
  unfold oddB at h
  by_cases h1 : k = 1
  · subst h1; simp at h; exact ⟨.inr h.1.1.1.1, .inr h.1.1.1.2⟩
  by_cases h2 : k = 2
  · subst h2; simp at h; exact ⟨.inl rfl, .inr h.1.1.1⟩
  by_cases h3 : k = 3
  · subst h3; simp at h; exact ⟨.inr h.1.1.1, .inl rfl⟩
  by_cases h4 : k = 4
  · subst h4; simp at h; exact ⟨.inr h.1.1.1, .inr h.1.1.2⟩
  by_cases h5 : k = 5
  · subst h5; simp at h; exact ⟨.inr h.1.1.1, .inr h.1.1.2⟩
  by_cases h6 : k = 6
  · subst h6; simp at h; exact ⟨.inr h.1.1.1, .inr h.1.1.2⟩
  simp [h1, h2, h3, h4, h5, h6] at h

/-- What stands behind a value within one. -/
def stopC (c : UInt8) : Prop := c = 44 ∨ c = 93 ∨ c = 125
def stopR : List UInt8 → Prop
  | [] => True
  | c :: _ => stopC c

theorem tok_cut : ∀ (a b : List UInt8), (∀ c ∈ a, ¬stopC c) → (∀ c ∈ b, ¬stopC c) → ∀ {x y : List UInt8}, stopR x → stopR y → a ++ x = b ++ y → a = b ∧ x = y
  | [], [], _, _, x, y, _, _, e => ⟨rfl, e⟩
  | [], d :: b, _, hb, x, y, hx, _, e => by
    have e' : x = d :: (b ++ y) := e
    rw [e'] at hx
    exact absurd hx (hb d (by simp))
  | c :: a, [], ha, _, x, y, _, hy, e => by
    have e' : c :: (a ++ x) = y := e
    rw [← e'] at hy
    exact absurd hy (ha c (by simp))
  | c :: a, d :: b, ha, hb, x, y, hx, hy, e => by
    obtain ⟨h1, h2⟩ := List.cons.inj e
    obtain ⟨h3, h4⟩ := tok_cut a b (fun z hz => ha z (by simp [hz])) (fun z hz => hb z (by simp [hz])) hx hy h2
    exact ⟨by rw [h1, h3], h4⟩

theorem digs_range (u : Nat) : ∀ c ∈ digs u, 48 ≤ c.toNat ∧ c.toNat ≤ 57 := by
  induction u using Nat.strongRecOn with
  | _ u ih =>
    intro c hc
    by_cases h : u = 0
    · subst h
      rw [digs_zero] at hc
      cases hc
    · rw [digs_pos h] at hc
      rcases List.mem_append.1 hc with hc | hc
      · exact ih (u / 10) (by omega) c hc
      · simp only [List.mem_singleton] at hc
        subst hc
        have : ∀ d : Fin 10, 48 ≤ (dgt d.val).toNat ∧ (dgt d.val).toNat ≤ 57 := by decide
        exact this ⟨u % 10, by omega⟩
/-- Digits' number. -/
def numD (l : List UInt8) : Nat := l.foldl (fun a c => a * 10 + (c.toNat - 48)) 0
theorem numD_digs (u : Nat) : numD (digs u) = u := by
  induction u using Nat.strongRecOn with
  | _ u ih =>
    by_cases h : u = 0
    · subst h; rw [digs_zero]; rfl
    · rw [digs_pos h]
      unfold numD
      rw [List.foldl_append]
      have := ih (u / 10) (by omega)
      unfold numD at this
      rw [this]
      have hd : ∀ d : Fin 10, (dgt d.val).toNat - 48 = d.val := by decide
      have := hd ⟨u % 10, by omega⟩
      simp only [List.foldl_cons, List.foldl_nil]
      simp only at this
      omega
def numI : List UInt8 → Int
  | [] => 0
  | c :: r => if c = 45 then -(numD r : Int) else numD (c :: r)
theorem numI_itoa (n : Int) : numI (Lib.itoa n) = n := by
  by_cases h : n < 0
  · have e : Lib.itoa n = 45 :: digs n.natAbs := by rw [Lib.itoa, if_pos h, digs_dec _ (by omega)]
    rw [e]
    simp only [numI]
    rw [if_pos trivial, numD_digs]
    omega
  · by_cases h0 : n = 0
    · subst h0
      have e : Lib.itoa 0 = [48] := by
        rw [Lib.itoa, if_neg (by omega)]
        exact Lib.decDigits_one (i := 0) (by omega)
      rw [e]; rfl
    · have e : Lib.itoa n = digs n.toNat := by rw [Lib.itoa, if_neg h, digs_dec _ (by omega)]
      rw [e]
      have hr := digs_range n.toNat
      have hn := numD_digs n.toNat
      cases hd : digs n.toNat with
      | nil => rw [hd] at hn; unfold numI; have : numD [] = 0 := rfl; omega
      | cons c r =>
        rw [hd] at hr hn
        simp only [numI]
        have hc := hr c (by simp)
        have hc45 : c ≠ 45 := by
          intro e
          subst e
          have : (45 : UInt8).toNat = 45 := rfl
          omega
        rw [if_neg hc45, hn]
        omega
theorem itoa_inj {n m : Int} (h : Lib.itoa n = Lib.itoa m) : n = m := by rw [← numI_itoa n, h, numI_itoa]
theorem itoa_range (n : Int) : ∀ c ∈ Lib.itoa n, c.toNat = 45 ∨ (48 ≤ c.toNat ∧ c.toNat ≤ 57) := by
  intro c hc
  by_cases h : n < 0
  · have e : Lib.itoa n = 45 :: digs n.natAbs := by rw [Lib.itoa, if_pos h, digs_dec _ (by omega)]
    rw [e] at hc
    rcases List.mem_cons.1 hc with rfl | hc
    · exact .inl rfl
    · exact .inr (digs_range _ c hc)
  · by_cases h0 : n = 0
    · subst h0
      have e : Lib.itoa 0 = [48] := by
        rw [Lib.itoa, if_neg (by omega)]
        exact Lib.decDigits_one (i := 0) (by omega)
      rw [e] at hc
      simp only [List.mem_singleton] at hc
      subst hc
      exact .inr (by decide)
    · have e : Lib.itoa n = digs n.toNat := by rw [Lib.itoa, if_neg h, digs_dec _ (by omega)]
      rw [e] at hc
      exact .inr (digs_range _ c hc)
theorem not_stop {c : UInt8} (h : c.toNat = 45 ∨ (48 ≤ c.toNat ∧ c.toNat ≤ 57)) : ¬stopC c := by
  intro hs
  have e1 : (44 : UInt8).toNat = 44 := rfl
  have e2 : (93 : UInt8).toNat = 93 := rfl
  have e3 : (125 : UInt8).toNat = 125 := rfl
  rcases hs with rfl | rfl | rfl <;> omega

/-- How a text begins, by its value's kind. -/
def beginsK (k : Int) (c : UInt8) : Prop :=
  (k = 1 ∧ c.toNat = 110) ∨ (k = 2 ∧ (c.toNat = 116 ∨ c.toNat = 102)) ∨ (k = 3 ∧ (c.toNat = 45 ∨ (48 ≤ c.toNat ∧ c.toNat ≤ 57))) ∨ (k = 4 ∧ c.toNat = 34) ∨ (k = 5 ∧ c.toNat = 91) ∨ (k = 6 ∧ c.toNat = 123)
theorem begins {k : Int} (b : Bool) (n : Int) (t : ByteArray) (l : List Val) (o : List (ByteArray × Val)) (hk : k = 1 ∨ k = 2 ∨ k = 3 ∨ k = 4 ∨ k = 5 ∨ k = 6) : ∃ c y, textV (.mk k b n t l o) = c :: y ∧ beginsK k c := by
  unfold beginsK
  rcases hk with rfl | rfl | rfl | rfl | rfl | rfl
  · exact ⟨110, [117, 108, 108], by simp [textV], .inl ⟨rfl, rfl⟩⟩
  · cases b
    · exact ⟨102, [97, 108, 115, 101], by simp only [textV]; rfl, .inr (.inl ⟨rfl, .inr rfl⟩)⟩
    · exact ⟨116, [114, 117, 101], by simp only [textV]; rfl, .inr (.inl ⟨rfl, .inl rfl⟩)⟩
  · have e : textV (.mk 3 b n t l o) = Lib.itoa n := by simp [textV]
    rw [e]
    cases hi : Lib.itoa n with
    | nil => exact absurd hi (itoa_ne n)
    | cons c y =>
      have := itoa_range n c (by rw [hi]; simp)
      exact ⟨c, y, rfl, .inr (.inr (.inl ⟨rfl, this⟩))⟩
  · exact ⟨34, _, by simp only [textV]; rfl, .inr (.inr (.inr (.inl ⟨rfl, rfl⟩)))⟩
  · exact ⟨91, _, by simp only [textV]; rfl, .inr (.inr (.inr (.inr (.inl ⟨rfl, rfl⟩))))⟩
  · exact ⟨123, _, by simp only [textV]; rfl, .inr (.inr (.inr (.inr (.inr ⟨rfl, rfl⟩))))⟩
theorem begins_not {k : Int} {c : UInt8} (h : beginsK k c) : c ≠ 93 ∧ c ≠ 125 := by
  unfold beginsK at h
  have e2 : (93 : UInt8).toNat = 93 := rfl
  have e3 : (125 : UInt8).toNat = 125 := rfl
  constructor <;> (rintro rfl; omega)
theorem begins_kind {k k' : Int} {c : UInt8} (h : beginsK k c) (h' : beginsK k' c) : k = k' := by
  unfold beginsK at h h'
  omega

theorem may_kind {k : Int} {b : Bool} {n : Int} {t : ByteArray} {l : List Val} {o : List (ByteArray × Val)} {d : Int} (h : mayV (.mk k b n t l o) d = 0) : k = 1 ∨ k = 2 ∨ k = 3 ∨ k = 4 ∨ k = 5 ∨ k = 6 := (odd_parts (mayV_parts h).1).1
theorem text_begins (v : Val) {d : Int} (h : mayV v d = 0) : ∃ c y, textV v = c :: y ∧ c ≠ 93 ∧ c ≠ 125 := by
  obtain ⟨k, b, n, t, l, o⟩ := v
  obtain ⟨c, y, e, hc⟩ := begins b n t l o (may_kind h)
  exact ⟨c, y, e, begins_not hc⟩

/-- A value's text tells the value, whatever stands behind it. -/
def CutV (a : Val) : Prop := ∀ (b : Val) (d d' : Int) (x y : List UInt8), mayV a d = 0 → mayV b d' = 0 → stopR x → stopR y → textV a ++ x = textV b ++ y → a = b ∧ x = y

theorem stop_rest (l : List Val) (x : List UInt8) : stopR (textL l false ++ 93 :: x) := by
  cases l with
  | nil => exact .inr (.inl rfl)
  | cons v r => simp only [textL]; exact .inl rfl
theorem stop_restO (l : List (ByteArray × Val)) (x : List UInt8) : stopR (textO l false ++ 125 :: x) := by
  cases l with
  | nil => exact .inr (.inr rfl)
  | cons v r => simp only [textO]; exact .inl rfl

theorem cut_list : ∀ (l l' : List Val) (f : Bool), (∀ v ∈ l, CutV v) → ∀ {d d' : Int} {x y : List UInt8}, mayL l d = 0 → mayL l' d' = 0 → textL l f ++ 93 :: x = textL l' f ++ 93 :: y → l = l' ∧ x = y
  | [], [], f, _, d, d', x, y, _, _, e => ⟨rfl, by simpa [textL] using e⟩
  | [], v :: r, f, _, d, d', x, y, _, hm', e => by
    obtain ⟨c, z, hc, h1, _⟩ := text_begins v (mayL_all hm' v (by simp))
    exfalso
    cases f
    · simp [textL] at e
    · simp [textL, hc] at e
      exact h1 e.1.symm
  | v :: r, [], f, _, d, d', x, y, hm, _, e => by
    obtain ⟨c, z, hc, h1, _⟩ := text_begins v (mayL_all hm v (by simp))
    exfalso
    cases f
    · simp [textL] at e
    · simp [textL, hc] at e
      exact h1 e.1
  | v :: r, v' :: r', f, h, d, d', x, y, hm, hm', e => by
    have e' : textV v ++ (textL r false ++ 93 :: x) = textV v' ++ (textL r' false ++ 93 :: y) := by
      cases f
      · simp only [textL] at e
        have := (List.cons.inj (show (44 :: ((textV v ++ textL r false) ++ 93 :: x) : List UInt8) = 44 :: ((textV v' ++ textL r' false) ++ 93 :: y) from e)).2
        rwa [List.append_assoc, List.append_assoc] at this
      · simp only [textL] at e
        have : (textV v ++ textL r false) ++ 93 :: x = (textV v' ++ textL r' false) ++ 93 :: y := e
        rwa [List.append_assoc, List.append_assoc] at this
    obtain ⟨h1, h2⟩ := h v (by simp) v' d d' _ _ (mayL_all hm v (by simp)) (mayL_all hm' v' (by simp)) (stop_rest _ _) (stop_rest _ _) e'
    have hmr : mayL r d = 0 := by
      simp only [mayL] at hm
      rwa [if_pos (mayL_all (l := v :: r) (by simp only [mayL]; exact hm) v (by simp))] at hm
    have hmr' : mayL r' d' = 0 := by
      simp only [mayL] at hm'
      rwa [if_pos (mayL_all (l := v' :: r') (by simp only [mayL]; exact hm') v' (by simp))] at hm'
    obtain ⟨h3, h4⟩ := cut_list r r' false (fun u hu => h u (by simp [hu])) hmr hmr' h2
    exact ⟨by rw [h1, h3], h4⟩

theorem cut_obj : ∀ (l l' : List (ByteArray × Val)) (f : Bool), (∀ m ∈ l, CutV m.2) → ∀ {d d' : Int} {x y : List UInt8}, (∀ m ∈ l, validB m.1 = true ∧ mayV m.2 d = 0) → (∀ m ∈ l', validB m.1 = true ∧ mayV m.2 d' = 0) → textO l f ++ 125 :: x = textO l' f ++ 125 :: y → l = l' ∧ x = y
  | [], [], f, _, d, d', x, y, _, _, e => ⟨rfl, by simpa [textO] using e⟩
  | [], (k, v) :: r, f, _, d, d', x, y, _, _, e => by
    exfalso
    cases f <;> simp [textO, textP, quoteB] at e
  | (k, v) :: r, [], f, _, d, d', x, y, _, _, e => by
    exfalso
    cases f <;> simp [textO, textP, quoteB] at e
  | (k, v) :: r, (k', v') :: r', f, h, d, d', x, y, hm, hm', e => by
    have e' : quoteB k ++ (58 :: (textV v ++ (textO r false ++ 125 :: x))) = quoteB k' ++ (58 :: (textV v' ++ (textO r' false ++ 125 :: y))) := by
      cases f
      · simp only [textO, textP] at e
        have := (List.cons.inj (show (44 :: (((quoteB k ++ 58 :: textV v) ++ textO r false) ++ 125 :: x) : List UInt8) = 44 :: (((quoteB k' ++ 58 :: textV v') ++ textO r' false) ++ 125 :: y) from e)).2
        simpa [List.append_assoc] using this
      · simp only [textO, textP] at e
        have : ((quoteB k ++ 58 :: textV v) ++ textO r false) ++ 125 :: x = ((quoteB k' ++ 58 :: textV v') ++ textO r' false) ++ 125 :: y := e
        simpa [List.append_assoc] using this
    have m1 := hm (k, v) (by simp)
    have m2 := hm' (k', v') (by simp)
    simp only at m1 m2
    obtain ⟨h1, h2⟩ := quote_cut m1.1 m2.1 e'
    obtain ⟨h3, h4⟩ := h (k, v) (by simp) v' d d' _ _ m1.2 m2.2 (stop_restO _ _) (stop_restO _ _) (List.cons.inj h2).2
    simp only at h3
    obtain ⟨h5, h6⟩ := cut_obj r r' false (fun u hu => h u (by simp [hu])) (fun u hu => hm u (by simp [hu])) (fun u hu => hm' u (by simp [hu])) h4
    exact ⟨by rw [h1, h3, h5], h6⟩

theorem cutV : ∀ a, CutV a := by
  refine Val.ind ?_
  intro k b n t l o hl ho v d d' x y hm hm' hx hy e
  obtain ⟨k', b', n', t', l', o'⟩ := v
  obtain ⟨hodd, _, hvt, hmL, hmO⟩ := mayV_parts hm
  obtain ⟨hodd', _, hvt', hmL', hmO'⟩ := mayV_parts hm'
  obtain ⟨c, z, hc, hb⟩ := begins b n t l o (may_kind hm)
  obtain ⟨c', z', hc', hb'⟩ := begins b' n' t' l' o' (may_kind hm')
  have hkk : k = k' := by
    rw [hc, hc'] at e
    have : c = c' := (List.cons.inj e).1
    subst this
    exact begins_kind hb hb'
  subst hkk
  obtain ⟨hk, p1, p2, p3⟩ := odd_parts hodd
  obtain ⟨_, q1, q2, q3⟩ := odd_parts hodd'
  obtain ⟨p4, p5⟩ := odd_bn hodd
  obtain ⟨q4, q5⟩ := odd_bn hodd'
  have nl : ∀ {α : Type} {l : List α}, l.length = 0 → l = [] := fun h => List.length_eq_zero_iff.1 h
  clear hc hc' hb hb'
  rcases hk with rfl | rfl | rfl | rfl | rfl | rfl
  · have e1 : textV (.mk 1 b n t l o) = textV (.mk 1 b' n' t' l' o') := by simp [textV]
    rw [e1] at e
    refine ⟨?_, List.append_cancel_left e⟩
    rw [p4.resolve_left (by decide), q4.resolve_left (by decide), p5.resolve_left (by decide), q5.resolve_left (by decide), p1.resolve_left (by decide), q1.resolve_left (by decide), nl (p2.resolve_left (by decide)), nl (q2.resolve_left (by decide)), nl (p3.resolve_left (by decide)), nl (q3.resolve_left (by decide))]
  · have e1 : textV (.mk 2 b n t l o) = Lib.formatBool b := by simp [textV]
    have e2 : textV (.mk 2 b' n' t' l' o') = Lib.formatBool b' := by simp [textV]
    rw [e1, e2] at e
    have hbb : b = b' := by
      cases b <;> cases b' <;> first | rfl | (exfalso; have := (List.cons.inj e).1; revert this; decide)
    subst hbb
    refine ⟨?_, List.append_cancel_left e⟩
    rw [p5.resolve_left (by decide), q5.resolve_left (by decide), p1.resolve_left (by decide), q1.resolve_left (by decide), nl (p2.resolve_left (by decide)), nl (q2.resolve_left (by decide)), nl (p3.resolve_left (by decide)), nl (q3.resolve_left (by decide))]
  · have e1 : textV (.mk 3 b n t l o) = Lib.itoa n := by simp [textV]
    have e2 : textV (.mk 3 b' n' t' l' o') = Lib.itoa n' := by simp [textV]
    rw [e1, e2] at e
    obtain ⟨h1, h2⟩ := tok_cut _ _ (fun c hc => not_stop (itoa_range n c hc)) (fun c hc => not_stop (itoa_range n' c hc)) hx hy e
    have hnn := itoa_inj h1
    subst hnn
    refine ⟨?_, h2⟩
    rw [p4.resolve_left (by decide), q4.resolve_left (by decide), p1.resolve_left (by decide), q1.resolve_left (by decide), nl (p2.resolve_left (by decide)), nl (q2.resolve_left (by decide)), nl (p3.resolve_left (by decide)), nl (q3.resolve_left (by decide))]
  · have e1 : textV (.mk 4 b n t l o) = quoteB t := by simp [textV]
    have e2 : textV (.mk 4 b' n' t' l' o') = quoteB t' := by simp [textV]
    rw [e1, e2] at e
    obtain ⟨h1, h2⟩ := quote_cut hvt hvt' e
    subst h1
    refine ⟨?_, h2⟩
    rw [p4.resolve_left (by decide), q4.resolve_left (by decide), p5.resolve_left (by decide), q5.resolve_left (by decide), nl (p2.resolve_left (by decide)), nl (q2.resolve_left (by decide)), nl (p3.resolve_left (by decide)), nl (q3.resolve_left (by decide))]
  · have e1 : textV (.mk 5 b n t l o) = 91 :: (textL l true ++ [93]) := by simp [textV]
    have e2 : textV (.mk 5 b' n' t' l' o') = 91 :: (textL l' true ++ [93]) := by simp [textV]
    rw [e1, e2] at e
    have e3 := (List.cons.inj (show (91 :: ((textL l true ++ [93]) ++ x) : List UInt8) = 91 :: ((textL l' true ++ [93]) ++ y) from e)).2
    rw [List.append_assoc, List.append_assoc] at e3
    obtain ⟨h1, h2⟩ := cut_list l l' true hl hmL hmL' e3
    subst h1
    refine ⟨?_, h2⟩
    rw [p4.resolve_left (by decide), q4.resolve_left (by decide), p5.resolve_left (by decide), q5.resolve_left (by decide), p1.resolve_left (by decide), q1.resolve_left (by decide), nl (p3.resolve_left (by decide)), nl (q3.resolve_left (by decide))]
  · have e1 : textV (.mk 6 b n t l o) = 123 :: (textO o true ++ [125]) := by simp [textV]
    have e2 : textV (.mk 6 b' n' t' l' o') = 123 :: (textO o' true ++ [125]) := by simp [textV]
    rw [e1, e2] at e
    have e3 := (List.cons.inj (show (123 :: ((textO o true ++ [125]) ++ x) : List UInt8) = 123 :: ((textO o' true ++ [125]) ++ y) from e)).2
    rw [List.append_assoc, List.append_assoc] at e3
    obtain ⟨h1, h2⟩ := cut_obj o o' true ho (mayO_all hmO) (mayO_all hmO') e3
    subst h1
    refine ⟨?_, h2⟩
    rw [p4.resolve_left (by decide), q4.resolve_left (by decide), p5.resolve_left (by decide), q5.resolve_left (by decide), p1.resolve_left (by decide), q1.resolve_left (by decide), nl (p2.resolve_left (by decide)), nl (q2.resolve_left (by decide))]

/-- The same text: the same value. -/
theorem text_inj {a b : Val} {d d' : Int} (ha : mayV a d = 0) (hb : mayV b d' = 0) (e : textV a = textV b) : a = b := by
  refine (cutV a b d d' [] [] ha hb trivial trivial ?_).1
  rw [List.append_nil, List.append_nil]
  exact e

end Go.Proofs.YtkoliaodkojghaaGreatDoor

/- commonplaceref17.SameList, Same: yes of a push and itself alone. Condition: bulks of at most 10^8. -/
namespace Go.Proofs.YtkoliaodkojghaaGreatDoor
open Go Go.RowKit

theorem num_inj {p p' : Num} (h : p.id = p'.id) (h' : p.m = p'.m) : p = p' := by cases p; cases p'; simp_all
set_option maxRecDepth 100000 in
set_option maxHeartbeats 8000000 in
theorem sameList_calls (l l' : List Num) (a a' : Option Addr) (n c n' c' : Nat) (w : World) (h : Holds w w.heap.size (.row 20 (dNs l)) [.slice a n c]) (h' : Holds w w.heap.size (.row 20 (dNs l')) [.slice a' n' c']) (hb : bulkN l ≤ 10000000) (hb' : bulkN l' ≤ 10000000) :
    Calls Tryz.prog 26 #[.slice a n c, .slice a' n' c'] w (EqPost (l = l') w) := by
  have hls := bulkN_len l
  have hn := h.row_len
  have hn' := h'.row_len
  rw [dNs_len] at hn hn'
  subst hn
  subst hn'
  by_cases hln : l.length = l'.length
  rotate_left
  · have e : ((l.length : Int) != (l'.length : Int)) = true := by simp; omega
    have hno : ¬l = l' := fun e => hln (congrArg List.length e)
    have Hno := Lib.hid hno
    have H := Lib.hid h
    have H' := Lib.hid h'
    clear hno h h'
    clear hln
    go_enter Tryz.func26, Tryz.ntmps26
    go_wp2
    go_ret
    exact EqPost.no Hno.out (Below.refl _ _)
  · have h00 : l.take 0 = l'.take 0 := by simp
    rw [← hln]
    have h0 := Below.refl w.heap.size w
    have H := Lib.hid h
    have H' := Lib.hid h'
    have Hln := Lib.hid hln
    have H00 := Lib.hid h00
    have H0 := Lib.hid h0
    clear h h' hln h00 h0
    go_enter Tryz.func26, Tryz.ntmps26
    go_wp2_with (fail)
    go_loopw [5] (fun i wr => ∃ q : Nat, i = .int .i64 q ∧ q ≤ l.length ∧ Hid (l.take q = l'.take q) ∧ Hid (Below w.heap.size w wr)) (fun i _ => l.length - (intOf i).toNat)
    case atStart => exact ⟨0, rfl, Nat.zero_le _, H00, H0⟩
    case round =>
      obtain ⟨q, rfl, hq, htk, hea⟩ := hrel
      clear H00 H0
      by_cases hlt : q < l.length
      · have hlt' : q < l'.length := by have := Hln.out; omega
        obtain ⟨x, hx⟩ : ∃ v, l[q]? = some v := ⟨_, List.getElem?_eq_getElem hlt⟩
        obtain ⟨x', hx'⟩ : ∃ v, l'[q]? = some v := ⟨_, List.getElem?_eq_getElem hlt'⟩
        have hbv := bulkN_mem (List.mem_of_getElem? hx)
        have hbv' := bulkN_mem (List.mem_of_getElem? hx')
        have hbw := hea.out
        have hz := hbw.size
        have hT := fun e => take_eq_of htk.out hx hx' e
        have hNe := fun e => ne_of_at hx hx' e
        obtain ⟨g, off, rfl, hg, cs1, hcs1, hn1l, hi1, hcell1⟩ := num_at (H.out.below hbw) hx
        obtain ⟨g', off', rfl, hg', cs2, hcs2, hn2l, hi2, hcell2⟩ := num_at (H'.out.below hbw) hx'
        have hC : ∀ W, Below wr.heap.size wr W → Calls Tryz.prog 50 #[.agg cs1.toArray, .agg cs2.toArray] W (EqPost (x.m = x'.m) W) := fun W hW =>
          meq_calls _ _ _ _ W ((hcs1.below (hW.mono hz)).more (Nat.le_trans hz hW.size)) ((hcs2.below (hW.mono hz)).more (Nat.le_trans hz hW.size)) (by omega) (by omega)
        have hr1 : wr.rangeAt g (off + q * 20 + 1) cs1 := hcell1
        have hr2 : wr.rangeAt g' (off' + q * 20 + 1) cs2 := hcell2
        have hn1 : (Tryz.prog.info? 48).map (·.size) = some cs1.length := by rw [hn1l]; kernel_rfl
        have hn2 : (Tryz.prog.info? 48).map (·.size) = some cs2.length := by rw [hn2l]; kernel_rfl
        have z1 : g < wr.heap.size := by omega
        have z2 : g' < wr.heap.size := by omega
        have z5 : (q : Int) < (l.length : Int) := by omega
        have z6 : (0 : Int) ≤ q := by omega
        obtain ⟨i1, hi1e⟩ : ∃ i, x.id = i := ⟨_, rfl⟩
        obtain ⟨i2, hi2e⟩ : ∃ i, x'.id = i := ⟨_, rfl⟩
        rw [hi1e] at hi1
        rw [hi2e] at hi2
        have hkeep : ∀ W, Below wr.heap.size wr W → (fun X => X.cell? ⟨g, off + q * 20, none⟩ = some (.int .u64 i1) ∧ X.cell? ⟨g', off' + q * 20, none⟩ = some (.int .u64 i2) ∧ X.rangeAt g (off + q * 20 + 1) cs1 ∧ X.rangeAt g' (off' + q * 20 + 1) cs2) W := fun W hW => ⟨(hW.cell (p := ⟨g, off + q * 20, none⟩) z1).trans hi1, (hW.cell (p := ⟨g', off' + q * 20, none⟩) z2).trans hi2, fun j v hv => (hW.cell (p := ⟨g, off + q * 20 + 1 + j, none⟩) z1).trans (hr1 j v hv), fun j v hv => (hW.cell (p := ⟨g', off' + q * 20 + 1 + j, none⟩) z2).trans (hr2 j v hv)⟩
        have HC := Lib.hid hC
        have HT := Lib.hid hT
        have HNe := Lib.hid hNe
        have Hkeep := Lib.hid hkeep
        have Hr1 := Lib.hid hr1
        have Hr2 := Lib.hid hr2
        have Hn1l := Lib.hid hn1l
        have Hn2l := Lib.hid hn2l
        have Hi1e := Lib.hid hi1e
        have Hi2e := Lib.hid hi2e
        clear hC hT hNe hkeep hr1 hr2 hn1l hn2l hi1e hi2e
        clear hbw hcs1 hcs2 hx hx' hcell1 hcell2 htk hi1 hi2
        go_upto_region 6 with (fail)
        by_cases hii : i1 = i2
        · subst hii
          have e1 : (i1 != i1) = false := by simp
          refine wp_region_held_drew (S := (fun X => X.cell? ⟨g, off + q * 20, none⟩ = some (.int .u64 i1) ∧ X.cell? ⟨g', off' + q * 20, none⟩ = some (.int .u64 i1) ∧ X.rangeAt g (off + q * 20 + 1) cs1 ∧ X.rangeAt g' (off' + q * 20 + 1) cs2)) (by kernel_rfl) (Hkeep.out _ (Below.drew (Below.refl _ _))) (fun hHeld => ?_)
          refine wpAnyH_take (i := 0) (v := ?_) rfl (by kernel_rfl) (by kernel_rfl) (by kernel_rfl) (fun _ _ _ h => h) (Or.inl ⟨by kernel_rfl, ?_⟩) hHeld ?_
          rotate_left
          · intro X hSw
            skip
            first | (go_simp; done) | (go_simp; with_reducible rfl)
          try simp only [Act.put, List.getElem_toArray, List.getElem_cons_zero, List.setIfInBounds_toArray, List.set_cons_zero, List.set_cons_succ]
          refine wpAnyH_take (i := 1) (v := ?_) rfl (by kernel_rfl) (by kernel_rfl) (by kernel_rfl) (fun _ _ _ h => h) (Or.inl ⟨by kernel_rfl, ?_⟩) hHeld ?_
          rotate_left
          · intro X hSw
            skip
            first | (go_simp; done) | (go_simp; with_reducible rfl)
          try simp only [Act.put, List.getElem_toArray, List.getElem_cons_succ, List.getElem_cons_zero, List.setIfInBounds_toArray, List.set_cons_zero, List.set_cons_succ]
          refine wpAnyH_take (i := 2) (v := ?_) rfl (by kernel_rfl) (by kernel_rfl) (by kernel_rfl) (fun _ _ _ h => h) (Or.inl ⟨by kernel_rfl, ?_⟩) hHeld ?_
          rotate_left
          · intro X hSw
            skip
            first | (go_simp; done) | (go_simp; with_reducible rfl)
          try simp only [Act.put, List.getElem_toArray, List.getElem_cons_succ, List.getElem_cons_zero, List.setIfInBounds_toArray, List.set_cons_zero, List.set_cons_succ]
          refine wpAnyH_take (i := 3) (v := ?_) rfl (by kernel_rfl) (by kernel_rfl) (by kernel_rfl) (fun _ _ _ h => h) (Or.inl ⟨by kernel_rfl, ?_⟩) hHeld ?_
          rotate_left
          · intro X hSw
            skip
            first | (go_simp; done) | (go_simp; with_reducible rfl)
          try simp only [Act.put, List.getElem_toArray, List.getElem_cons_succ, List.getElem_cons_zero, List.setIfInBounds_toArray, List.set_cons_zero, List.set_cons_succ]
          refine wpAnyH_take (i := 4) (v := ?_) rfl (by kernel_rfl) (by kernel_rfl) (by kernel_rfl) (fun _ _ _ h => h) (Or.inl ⟨by kernel_rfl, ?_⟩) hHeld ?_
          rotate_left
          · intro X hSw
            have e4 := hSw.1
            first | (go_simp; done) | (go_simp; with_reducible rfl)
          try simp only [Act.put, List.getElem_toArray, List.getElem_cons_succ, List.getElem_cons_zero, List.setIfInBounds_toArray, List.set_cons_zero, List.set_cons_succ]
          refine wpAnyH_take (i := 5) (v := ?_) rfl (by kernel_rfl) (by kernel_rfl) (by kernel_rfl) (fun _ _ _ h => h) (Or.inl ⟨by kernel_rfl, ?_⟩) hHeld ?_
          rotate_left
          · intro X hSw
            skip
            first | (go_simp; done) | (go_simp; with_reducible rfl)
          try simp only [Act.put, List.getElem_toArray, List.getElem_cons_succ, List.getElem_cons_zero, List.setIfInBounds_toArray, List.set_cons_zero, List.set_cons_succ]
          refine wpAnyH_take (i := 6) (v := ?_) rfl (by kernel_rfl) (by kernel_rfl) (by kernel_rfl) (fun _ _ _ h => h) (Or.inl ⟨by kernel_rfl, ?_⟩) hHeld ?_
          rotate_left
          · intro X hSw
            skip
            first | (go_simp; done) | (go_simp; with_reducible rfl)
          try simp only [Act.put, List.getElem_toArray, List.getElem_cons_succ, List.getElem_cons_zero, List.setIfInBounds_toArray, List.set_cons_zero, List.set_cons_succ]
          refine wpAnyH_take (i := 7) (v := ?_) rfl (by kernel_rfl) (by kernel_rfl) (by kernel_rfl) (fun _ _ _ h => h) (Or.inl ⟨by kernel_rfl, ?_⟩) hHeld ?_
          rotate_left
          · intro X hSw
            skip
            first | (go_simp; done) | (go_simp; with_reducible rfl)
          try simp only [Act.put, List.getElem_toArray, List.getElem_cons_succ, List.getElem_cons_zero, List.setIfInBounds_toArray, List.set_cons_zero, List.set_cons_succ]
          refine wpAnyH_take (i := 8) (v := ?_) rfl (by kernel_rfl) (by kernel_rfl) (by kernel_rfl) (fun _ _ _ h => h) (Or.inl ⟨by kernel_rfl, ?_⟩) hHeld ?_
          rotate_left
          · intro X hSw
            skip
            first | (go_simp; done) | (go_simp; with_reducible rfl)
          try simp only [Act.put, List.getElem_toArray, List.getElem_cons_succ, List.getElem_cons_zero, List.setIfInBounds_toArray, List.set_cons_zero, List.set_cons_succ]
          refine wpAnyH_take (i := 9) (v := ?_) rfl (by kernel_rfl) (by kernel_rfl) (by kernel_rfl) (fun _ _ _ h => h) (Or.inl ⟨by kernel_rfl, ?_⟩) hHeld ?_
          rotate_left
          · intro X hSw
            have e4 := hSw.2.1
            first | (go_simp; done) | (go_simp; with_reducible rfl)
          try simp only [Act.put, List.getElem_toArray, List.getElem_cons_succ, List.getElem_cons_zero, List.setIfInBounds_toArray, List.set_cons_zero, List.set_cons_succ]
          refine wpAnyH_take (i := 10) (v := ?_) rfl (by kernel_rfl) (by kernel_rfl) (by kernel_rfl) (fun _ _ _ h => h) (Or.inl ⟨by kernel_rfl, ?_⟩) hHeld ?_
          rotate_left
          · intro X hSw
            skip
            first | (go_simp; done) | (go_simp; with_reducible rfl)
          try simp only [Act.put, List.getElem_toArray, List.getElem_cons_succ, List.getElem_cons_zero, List.setIfInBounds_toArray, List.set_cons_zero, List.set_cons_succ]
          refine wpAnyH_take (i := 11) (v := ?_) rfl (by kernel_rfl) (by kernel_rfl) (by kernel_rfl) (fun _ _ _ h => h) (Or.inl ⟨by kernel_rfl, ?_⟩) hHeld ?_
          rotate_left
          · intro X hSw
            skip
            first | (go_simp; done) | (go_simp; with_reducible rfl)
          try simp only [Act.put, List.getElem_toArray, List.getElem_cons_succ, List.getElem_cons_zero, List.setIfInBounds_toArray, List.set_cons_zero, List.set_cons_succ]
          refine wpAnyH_take (i := 12) (v := ?_) rfl (by kernel_rfl) (by kernel_rfl) (by kernel_rfl) (fun _ _ _ h => h) (Or.inl ⟨by kernel_rfl, ?_⟩) hHeld ?_
          rotate_left
          · intro X hSw
            skip
            first | (go_simp; done) | (go_simp; with_reducible rfl)
          try simp only [Act.put, List.getElem_toArray, List.getElem_cons_succ, List.getElem_cons_zero, List.setIfInBounds_toArray, List.set_cons_zero, List.set_cons_succ]
          refine wpAnyH_take (i := 13) (v := ?_) rfl (by kernel_rfl) (by kernel_rfl) (by kernel_rfl) (fun _ _ _ h => h) (Or.inl ⟨by kernel_rfl, ?_⟩) hHeld ?_
          rotate_left
          · intro X hSw
            skip
            first | (go_simp; done) | (go_simp; with_reducible rfl)
          try simp only [Act.put, List.getElem_toArray, List.getElem_cons_succ, List.getElem_cons_zero, List.setIfInBounds_toArray, List.set_cons_zero, List.set_cons_succ]
          refine wpAnyH_take (i := 14) (v := ?_) rfl (by kernel_rfl) (by kernel_rfl) (by kernel_rfl) (fun _ _ _ h => h) (Or.inl ⟨by kernel_rfl, ?_⟩) hHeld ?_
          rotate_left
          · intro X hSw
            skip
            first | (go_simp; done) | (go_simp; with_reducible rfl)
          try simp only [Act.put, List.getElem_toArray, List.getElem_cons_succ, List.getElem_cons_zero, List.setIfInBounds_toArray, List.set_cons_zero, List.set_cons_succ]
          refine wpAnyH_take (i := 15) (v := ?_) rfl (by kernel_rfl) (by kernel_rfl) (by kernel_rfl) (fun _ _ _ h => h) (Or.inl ⟨by kernel_rfl, ?_⟩) hHeld ?_
          rotate_left
          · intro X hSw
            skip
            first | (go_simp; done) | (go_simp; with_reducible rfl)
          try simp only [Act.put, List.getElem_toArray, List.getElem_cons_succ, List.getElem_cons_zero, List.setIfInBounds_toArray, List.set_cons_zero, List.set_cons_succ]
          refine wpAnyH_take (i := 16) rfl (by kernel_rfl) (by kernel_rfl) (by kernel_rfl) (fun _ _ _ h => h) (yieldsIf_load_mid (by kernel_rfl) 48 (.tmp 32) rfl g (off + q * 20 + 1) rfl cs1 _ (fun X hX => hX.2.2.1) Tryz.underlying48 rfl hn1) hHeld ?_
          try simp only [Act.put, List.getElem_toArray, List.getElem_cons_succ, List.getElem_cons_zero, List.setIfInBounds_toArray, List.set_cons_zero, List.set_cons_succ]
          refine wpAnyH_take (i := 17) (v := ?_) rfl (by kernel_rfl) (by kernel_rfl) (by kernel_rfl) (fun _ _ _ h => h) (Or.inl ⟨by kernel_rfl, ?_⟩) hHeld ?_
          rotate_left
          · intro X hSw
            skip
            first | (go_simp; done) | (go_simp; with_reducible rfl)
          try simp only [Act.put, List.getElem_toArray, List.getElem_cons_succ, List.getElem_cons_zero, List.setIfInBounds_toArray, List.set_cons_zero, List.set_cons_succ]
          refine wpAnyH_take (i := 18) (v := ?_) rfl (by kernel_rfl) (by kernel_rfl) (by kernel_rfl) (fun _ _ _ h => h) (Or.inl ⟨by kernel_rfl, ?_⟩) hHeld ?_
          rotate_left
          · intro X hSw
            skip
            first | (go_simp; done) | (go_simp; with_reducible rfl)
          try simp only [Act.put, List.getElem_toArray, List.getElem_cons_succ, List.getElem_cons_zero, List.setIfInBounds_toArray, List.set_cons_zero, List.set_cons_succ]
          refine wpAnyH_take (i := 19) (v := ?_) rfl (by kernel_rfl) (by kernel_rfl) (by kernel_rfl) (fun _ _ _ h => h) (Or.inl ⟨by kernel_rfl, ?_⟩) hHeld ?_
          rotate_left
          · intro X hSw
            skip
            first | (go_simp; done) | (go_simp; with_reducible rfl)
          try simp only [Act.put, List.getElem_toArray, List.getElem_cons_succ, List.getElem_cons_zero, List.setIfInBounds_toArray, List.set_cons_zero, List.set_cons_succ]
          refine wpAnyH_take (i := 20) (v := ?_) rfl (by kernel_rfl) (by kernel_rfl) (by kernel_rfl) (fun _ _ _ h => h) (Or.inl ⟨by kernel_rfl, ?_⟩) hHeld ?_
          rotate_left
          · intro X hSw
            skip
            first | (go_simp; done) | (go_simp; with_reducible rfl)
          try simp only [Act.put, List.getElem_toArray, List.getElem_cons_succ, List.getElem_cons_zero, List.setIfInBounds_toArray, List.set_cons_zero, List.set_cons_succ]
          refine wpAnyH_take (i := 21) rfl (by kernel_rfl) (by kernel_rfl) (by kernel_rfl) (fun _ _ _ h => h) (yieldsIf_load_mid (by kernel_rfl) 48 (.tmp 37) rfl g' (off' + q * 20 + 1) rfl cs2 _ (fun X hX => hX.2.2.2) Tryz.underlying48 rfl hn2) hHeld ?_
          try simp only [Act.put, List.getElem_toArray, List.getElem_cons_succ, List.getElem_cons_zero, List.setIfInBounds_toArray, List.set_cons_zero, List.set_cons_succ]
          refine wpAnyH_ready (rs := [22]) (by kernel_rfl) (by simp) ?_
          refine AllReadyH.cons rfl (fun K hK => ?_) AllReadyH.nil
          go_simp
          (with_reducible refine (HC.out _ (Below.drew (Below.refl _ _))).mono ?_)
          rintro e w4 ⟨B, rfl, hB, hb4⟩
          have hbr : Below wr.heap.size wr w4 := (Below.drew (Below.refl _ _)).trans hb4
          have HE4 := Lib.hid (hea.out.trans (hbr.mono hz))
          refine hK.out _ _ (Hkeep.out _ hbr) (fun hHeld => ?_)
          clear hK K
          try simp only [Act.put, List.getElem_toArray, List.getElem_cons_succ, List.getElem_cons_zero, List.setIfInBounds_toArray, List.set_cons_zero, List.set_cons_succ]
          refine wpAnyH_take (i := 23) (v := ?_) rfl (by kernel_rfl) (by kernel_rfl) (by kernel_rfl) (fun _ _ _ h => h) (Or.inl ⟨by kernel_rfl, ?_⟩) hHeld ?_
          rotate_left
          · intro X hSw
            skip
            first | (go_simp; done) | (go_simp; with_reducible rfl)
          try simp only [Act.put, List.getElem_toArray, List.getElem_cons_succ, List.getElem_cons_zero, List.setIfInBounds_toArray, List.set_cons_zero, List.set_cons_succ]
          refine wpAnyH_take (i := 24) (v := ?_) rfl (by kernel_rfl) (by kernel_rfl) (by kernel_rfl) (fun _ _ _ h => h) (Or.inl ⟨by kernel_rfl, ?_⟩) hHeld ?_
          rotate_left
          · intro X hSw
            skip
            first | (go_simp; done) | (go_simp; with_reducible rfl)
          try simp only [Act.put, List.getElem_toArray, List.getElem_cons_succ, List.getElem_cons_zero, List.setIfInBounds_toArray, List.set_cons_zero, List.set_cons_succ]
          refine wpAnyH_done (by kernel_rfl) ?_ _
          clear hHeld hb4 hbr hea
          cases B with
          | true =>
            have HT' := Lib.hid (HT.out (num_inj (Hi1e.out.trans Hi2e.out.symm) (hB.1 rfl)))
            clear hB HT HNe
            go_wp2
            go_roundw
            case rel => exact ⟨q + 1, by go_num, by omega, HT', HE4⟩
            case measure => simp only [intOf]; omega
          | false =>
            have hno : ¬l = l' := HNe.out (fun e => by have := hB.2 (congrArg Num.m e); cases this)
            have Hno := Lib.hid hno
            clear hB HT HNe hno
            go_wp2
            go_ret
            exact EqPost.no Hno.out HE4.out
        · have e1 : (i1 != i2) = true := by simpa using hii
          have hno : ¬l = l' := HNe.out (fun e => hii (Hi1e.out.symm.trans ((congrArg Num.id e).trans Hi2e.out)))
          have Hno := Lib.hid hno
          clear hno
          clear hii
          refine wp_region_held_drew (S := (fun X => X.cell? ⟨g, off + q * 20, none⟩ = some (.int .u64 i1) ∧ X.cell? ⟨g', off' + q * 20, none⟩ = some (.int .u64 i2) ∧ X.rangeAt g (off + q * 20 + 1) cs1 ∧ X.rangeAt g' (off' + q * 20 + 1) cs2)) (by kernel_rfl) (Hkeep.out _ (Below.drew (Below.refl _ _))) (fun hHeld => ?_)
          refine wpAnyH_take (i := 0) (v := ?_) rfl (by kernel_rfl) (by kernel_rfl) (by kernel_rfl) (fun _ _ _ h => h) (Or.inl ⟨by kernel_rfl, ?_⟩) hHeld ?_
          rotate_left
          · intro X hSw
            skip
            first | (go_simp; done) | (go_simp; with_reducible rfl)
          try simp only [Act.put, List.getElem_toArray, List.getElem_cons_zero, List.setIfInBounds_toArray, List.set_cons_zero, List.set_cons_succ]
          refine wpAnyH_take (i := 1) (v := ?_) rfl (by kernel_rfl) (by kernel_rfl) (by kernel_rfl) (fun _ _ _ h => h) (Or.inl ⟨by kernel_rfl, ?_⟩) hHeld ?_
          rotate_left
          · intro X hSw
            skip
            first | (go_simp; done) | (go_simp; with_reducible rfl)
          try simp only [Act.put, List.getElem_toArray, List.getElem_cons_succ, List.getElem_cons_zero, List.setIfInBounds_toArray, List.set_cons_zero, List.set_cons_succ]
          refine wpAnyH_take (i := 2) (v := ?_) rfl (by kernel_rfl) (by kernel_rfl) (by kernel_rfl) (fun _ _ _ h => h) (Or.inl ⟨by kernel_rfl, ?_⟩) hHeld ?_
          rotate_left
          · intro X hSw
            skip
            first | (go_simp; done) | (go_simp; with_reducible rfl)
          try simp only [Act.put, List.getElem_toArray, List.getElem_cons_succ, List.getElem_cons_zero, List.setIfInBounds_toArray, List.set_cons_zero, List.set_cons_succ]
          refine wpAnyH_take (i := 3) (v := ?_) rfl (by kernel_rfl) (by kernel_rfl) (by kernel_rfl) (fun _ _ _ h => h) (Or.inl ⟨by kernel_rfl, ?_⟩) hHeld ?_
          rotate_left
          · intro X hSw
            skip
            first | (go_simp; done) | (go_simp; with_reducible rfl)
          try simp only [Act.put, List.getElem_toArray, List.getElem_cons_succ, List.getElem_cons_zero, List.setIfInBounds_toArray, List.set_cons_zero, List.set_cons_succ]
          refine wpAnyH_take (i := 4) (v := ?_) rfl (by kernel_rfl) (by kernel_rfl) (by kernel_rfl) (fun _ _ _ h => h) (Or.inl ⟨by kernel_rfl, ?_⟩) hHeld ?_
          rotate_left
          · intro X hSw
            have e4 := hSw.1
            first | (go_simp; done) | (go_simp; with_reducible rfl)
          try simp only [Act.put, List.getElem_toArray, List.getElem_cons_succ, List.getElem_cons_zero, List.setIfInBounds_toArray, List.set_cons_zero, List.set_cons_succ]
          refine wpAnyH_take (i := 5) (v := ?_) rfl (by kernel_rfl) (by kernel_rfl) (by kernel_rfl) (fun _ _ _ h => h) (Or.inl ⟨by kernel_rfl, ?_⟩) hHeld ?_
          rotate_left
          · intro X hSw
            skip
            first | (go_simp; done) | (go_simp; with_reducible rfl)
          try simp only [Act.put, List.getElem_toArray, List.getElem_cons_succ, List.getElem_cons_zero, List.setIfInBounds_toArray, List.set_cons_zero, List.set_cons_succ]
          refine wpAnyH_take (i := 6) (v := ?_) rfl (by kernel_rfl) (by kernel_rfl) (by kernel_rfl) (fun _ _ _ h => h) (Or.inl ⟨by kernel_rfl, ?_⟩) hHeld ?_
          rotate_left
          · intro X hSw
            skip
            first | (go_simp; done) | (go_simp; with_reducible rfl)
          try simp only [Act.put, List.getElem_toArray, List.getElem_cons_succ, List.getElem_cons_zero, List.setIfInBounds_toArray, List.set_cons_zero, List.set_cons_succ]
          refine wpAnyH_take (i := 7) (v := ?_) rfl (by kernel_rfl) (by kernel_rfl) (by kernel_rfl) (fun _ _ _ h => h) (Or.inl ⟨by kernel_rfl, ?_⟩) hHeld ?_
          rotate_left
          · intro X hSw
            skip
            first | (go_simp; done) | (go_simp; with_reducible rfl)
          try simp only [Act.put, List.getElem_toArray, List.getElem_cons_succ, List.getElem_cons_zero, List.setIfInBounds_toArray, List.set_cons_zero, List.set_cons_succ]
          refine wpAnyH_take (i := 8) (v := ?_) rfl (by kernel_rfl) (by kernel_rfl) (by kernel_rfl) (fun _ _ _ h => h) (Or.inl ⟨by kernel_rfl, ?_⟩) hHeld ?_
          rotate_left
          · intro X hSw
            skip
            first | (go_simp; done) | (go_simp; with_reducible rfl)
          try simp only [Act.put, List.getElem_toArray, List.getElem_cons_succ, List.getElem_cons_zero, List.setIfInBounds_toArray, List.set_cons_zero, List.set_cons_succ]
          refine wpAnyH_take (i := 9) (v := ?_) rfl (by kernel_rfl) (by kernel_rfl) (by kernel_rfl) (fun _ _ _ h => h) (Or.inl ⟨by kernel_rfl, ?_⟩) hHeld ?_
          rotate_left
          · intro X hSw
            have e4 := hSw.2.1
            first | (go_simp; done) | (go_simp; with_reducible rfl)
          try simp only [Act.put, List.getElem_toArray, List.getElem_cons_succ, List.getElem_cons_zero, List.setIfInBounds_toArray, List.set_cons_zero, List.set_cons_succ]
          refine wpAnyH_take (i := 10) (v := ?_) rfl (by kernel_rfl) (by kernel_rfl) (by kernel_rfl) (fun _ _ _ h => h) (Or.inl ⟨by kernel_rfl, ?_⟩) hHeld ?_
          rotate_left
          · intro X hSw
            skip
            first | (go_simp; done) | (go_simp; with_reducible rfl)
          try simp only [Act.put, List.getElem_toArray, List.getElem_cons_succ, List.getElem_cons_zero, List.setIfInBounds_toArray, List.set_cons_zero, List.set_cons_succ]
          refine wpAnyH_take (i := 11) (v := ?_) rfl (by kernel_rfl) (by kernel_rfl) (by kernel_rfl) (fun _ _ _ h => h) (Or.inl ⟨by kernel_rfl, ?_⟩) hHeld ?_
          rotate_left
          · intro X hSw
            skip
            first | (go_simp; done) | (go_simp; with_reducible rfl)
          try simp only [Act.put, List.getElem_toArray, List.getElem_cons_succ, List.getElem_cons_zero, List.setIfInBounds_toArray, List.set_cons_zero, List.set_cons_succ]
          refine wpAnyH_take (i := 12) (v := undef) rfl (by kernel_rfl) (by kernel_rfl) (by kernel_rfl) (fun _ _ _ h => h) (Or.inr ⟨by kernel_rfl, rfl⟩) hHeld ?_
          try simp only [Act.put, List.getElem_toArray, List.getElem_cons_succ, List.getElem_cons_zero, List.setIfInBounds_toArray, List.set_cons_zero, List.set_cons_succ]
          refine wpAnyH_take (i := 13) (v := undef) rfl (by kernel_rfl) (by kernel_rfl) (by kernel_rfl) (fun _ _ _ h => h) (Or.inr ⟨by kernel_rfl, rfl⟩) hHeld ?_
          try simp only [Act.put, List.getElem_toArray, List.getElem_cons_succ, List.getElem_cons_zero, List.setIfInBounds_toArray, List.set_cons_zero, List.set_cons_succ]
          refine wpAnyH_take (i := 14) (v := undef) rfl (by kernel_rfl) (by kernel_rfl) (by kernel_rfl) (fun _ _ _ h => h) (Or.inr ⟨by kernel_rfl, rfl⟩) hHeld ?_
          try simp only [Act.put, List.getElem_toArray, List.getElem_cons_succ, List.getElem_cons_zero, List.setIfInBounds_toArray, List.set_cons_zero, List.set_cons_succ]
          refine wpAnyH_take (i := 15) (v := undef) rfl (by kernel_rfl) (by kernel_rfl) (by kernel_rfl) (fun _ _ _ h => h) (Or.inr ⟨by kernel_rfl, rfl⟩) hHeld ?_
          try simp only [Act.put, List.getElem_toArray, List.getElem_cons_succ, List.getElem_cons_zero, List.setIfInBounds_toArray, List.set_cons_zero, List.set_cons_succ]
          refine wpAnyH_take (i := 16) (v := undef) rfl (by kernel_rfl) (by kernel_rfl) (by kernel_rfl) (fun _ _ _ h => h) (Or.inr ⟨by kernel_rfl, rfl⟩) hHeld ?_
          try simp only [Act.put, List.getElem_toArray, List.getElem_cons_succ, List.getElem_cons_zero, List.setIfInBounds_toArray, List.set_cons_zero, List.set_cons_succ]
          refine wpAnyH_take (i := 17) (v := undef) rfl (by kernel_rfl) (by kernel_rfl) (by kernel_rfl) (fun _ _ _ h => h) (Or.inr ⟨by kernel_rfl, rfl⟩) hHeld ?_
          try simp only [Act.put, List.getElem_toArray, List.getElem_cons_succ, List.getElem_cons_zero, List.setIfInBounds_toArray, List.set_cons_zero, List.set_cons_succ]
          refine wpAnyH_take (i := 18) (v := undef) rfl (by kernel_rfl) (by kernel_rfl) (by kernel_rfl) (fun _ _ _ h => h) (Or.inr ⟨by kernel_rfl, rfl⟩) hHeld ?_
          try simp only [Act.put, List.getElem_toArray, List.getElem_cons_succ, List.getElem_cons_zero, List.setIfInBounds_toArray, List.set_cons_zero, List.set_cons_succ]
          refine wpAnyH_take (i := 19) (v := undef) rfl (by kernel_rfl) (by kernel_rfl) (by kernel_rfl) (fun _ _ _ h => h) (Or.inr ⟨by kernel_rfl, rfl⟩) hHeld ?_
          try simp only [Act.put, List.getElem_toArray, List.getElem_cons_succ, List.getElem_cons_zero, List.setIfInBounds_toArray, List.set_cons_zero, List.set_cons_succ]
          refine wpAnyH_take (i := 20) (v := undef) rfl (by kernel_rfl) (by kernel_rfl) (by kernel_rfl) (fun _ _ _ h => h) (Or.inr ⟨by kernel_rfl, rfl⟩) hHeld ?_
          try simp only [Act.put, List.getElem_toArray, List.getElem_cons_succ, List.getElem_cons_zero, List.setIfInBounds_toArray, List.set_cons_zero, List.set_cons_succ]
          refine wpAnyH_take (i := 21) (v := undef) rfl (by kernel_rfl) (by kernel_rfl) (by kernel_rfl) (fun _ _ _ h => h) (Or.inr ⟨by kernel_rfl, rfl⟩) hHeld ?_
          try simp only [Act.put, List.getElem_toArray, List.getElem_cons_succ, List.getElem_cons_zero, List.setIfInBounds_toArray, List.set_cons_zero, List.set_cons_succ]
          refine wpAnyH_take (i := 22) (v := undef) rfl (by kernel_rfl) (by kernel_rfl) (by kernel_rfl) (fun _ _ _ h => h) (Or.inr ⟨by kernel_rfl, rfl⟩) hHeld ?_
          try simp only [Act.put, List.getElem_toArray, List.getElem_cons_succ, List.getElem_cons_zero, List.setIfInBounds_toArray, List.set_cons_zero, List.set_cons_succ]
          refine wpAnyH_take (i := 23) (v := undef) rfl (by kernel_rfl) (by kernel_rfl) (by kernel_rfl) (fun _ _ _ h => h) (Or.inr ⟨by kernel_rfl, rfl⟩) hHeld ?_
          try simp only [Act.put, List.getElem_toArray, List.getElem_cons_succ, List.getElem_cons_zero, List.setIfInBounds_toArray, List.set_cons_zero, List.set_cons_succ]
          refine wpAnyH_take (i := 24) (v := ?_) rfl (by kernel_rfl) (by kernel_rfl) (by kernel_rfl) (fun _ _ _ h => h) (Or.inl ⟨by kernel_rfl, ?_⟩) hHeld ?_
          rotate_left
          · intro X hSw
            skip
            first | (go_simp; done) | (go_simp; with_reducible rfl)
          try simp only [Act.put, List.getElem_toArray, List.getElem_cons_succ, List.getElem_cons_zero, List.setIfInBounds_toArray, List.set_cons_zero, List.set_cons_succ]
          refine wpAnyH_done (by kernel_rfl) ?_ _
          clear hHeld HT HNe HC Hkeep
          go_wp2
          go_ret
          exact EqPost.no Hno.out hea.out.drew
      · obtain rfl : q = l.length := by omega
        have hE := htk.out
        rw [List.take_length, Hln.out, List.take_length] at hE
        have HE := Lib.hid hE
        clear hE
        clear htk
        go_wp2
        go_ret
        exact EqPost.yes HE.out hea.out
end Go.Proofs.YtkoliaodkojghaaGreatDoor

/- commonplaceref17.Same: yes of a push and itself alone. Condition: bulks of at most 10^7. -/
namespace Go.Proofs.YtkoliaodkojghaaGreatDoor
open Go Go.RowKit

set_option maxRecDepth 100000 in
set_option maxHeartbeats 4000000 in
theorem same17_calls (c1 c2 : Int) (l l' : List Num) (a a' : Option Addr) (n c n' c' : Nat) (w : World) (h : Holds w w.heap.size (.row 20 (dNs l)) [.slice a n c]) (h' : Holds w w.heap.size (.row 20 (dNs l')) [.slice a' n' c']) (hb : bulkN l ≤ 10000000) (hb' : bulkN l' ≤ 10000000) :
    Calls Tryz.prog 13 #[.agg #[.int .u64 c1, .slice a n c], .agg #[.int .u64 c2, .slice a' n' c']] w (EqPost (c1 = c2 ∧ l = l') w) := by
  have hL := fun (W : World) (hB : Below w.heap.size w W) => sameList_calls l l' a a' n c n' c' W ((h.below hB).more hB.size) ((h'.below hB).more hB.size) hb hb'
  by_cases hc : c1 = c2
  · subst hc
    have e : (c1 == c1) = true := by simp
    have HL := Lib.hid hL
    have H := Lib.hid h
    have H' := Lib.hid h'
    clear hL h h'
    go_enter Tryz.func13, Tryz.ntmps13
    go_wp2_with (fail)
    have hbw := two_boxes w (.cells #[.int .u64 c1, .slice a n c] 25) (.cells #[.int .u64 c1, .slice a' n' c'] 25)
    with_reducible refine (HL.out _ hbw).mono ?_
    rintro e w1 ⟨B, rfl, hB, hb1⟩
    have hw1 := hbw.trans (hb1.mono hbw.size)
    have Hb1 := Lib.hid hb1
    have Hbw := Lib.hid hbw
    have Hw1 := Lib.hid hw1
    have HB := Lib.hid hB
    clear hb1 hbw hw1 hB
    go_wp2
    go_ret
    exact ⟨B, rfl, by simpa using HB.out, Hw1.out⟩
  · have e : (c1 == c2) = false := by simpa using hc
    have hno : ¬(c1 = c2 ∧ l = l') := fun x => hc x.1
    have Hno := Lib.hid hno
    have HL := Lib.hid hL
    have H := Lib.hid h
    have H' := Lib.hid h'
    clear hno hL h h'
    clear hc
    go_enter Tryz.func13, Tryz.ntmps13
    go_wp2
    go_ret
    exact EqPost.no Hno.out (two_boxes _ _ _)
end Go.Proofs.YtkoliaodkojghaaGreatDoor
