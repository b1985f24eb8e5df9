/- Parts, joined: patch.List: the list of a patch. Condition: a bulk of at most 5 * 10^7. -/
import Derived.Test.YtemceefalkfneaaGreatDoorProg
import Derived.Deep.RegionLaw
import Derived.Test.YtemceefalkfneaaGreatDoorKPullSpoilt6

/- patch.List: the list of a patch. Condition: a bulk of at most 5 * 10^7. -/
namespace Go.Proofs.YtemceefalkfneaaGreatDoor
open Go Go.RowKit

def objO (p : POp) : List (ByteArray × Val) := if p.k = 1 then [(kKey, tv p.key), (kOp, tv sPut), (kVal, p.v)] else if p.k = 2 then [(kKey, tv p.key), (kOp, tv sDel)] else [(kOp, tv sClear)]
theorem objQ_ov (p : POp) : objQ p = ov (objO p) := rfl
theorem keyB_size {k : ByteArray} (h : keyB k = true) : k.size ≤ 64 := by
  unfold keyB at h
  simp only [Bool.and_eq_true, decide_eq_true_eq] at h
  exact h.2.1
theorem obj_calls (k : Int) (key : ByteArray) (k' : Int) (b' : Bool) (n' : Int) (t' : ByteArray) (l' : List Val) (o' : List (ByteArray × Val)) (la' oa' : Option Addr) (lc' oc' : Nat) (w : World) (hok : okQ ⟨k, key, .mk k' b' n' t' l' o'⟩) (hN : Names w)
    (hv : HoldsV w w.heap.size (.mk k' b' n' t' l' o') [.int .i64 k', .bool b', .int .i64 n', .string t', .slice la' l'.length lc', .slice oa' o'.length oc']) (hb : (Val.mk k' b' n' t' l' o').bulk ≤ 80000000) :
    Calls Tryz.prog 45 #[.agg #[.int .i64 k, .string key, .int .i64 k', .bool b', .int .i64 n', .string t', .slice la' l'.length lc', .slice oa' o'.length oc']] w (MadePost (objO ⟨k, key, .mk k' b' n' t' l' o'⟩) w) := by
  rcases hok with ⟨h, hk, _⟩ | ⟨h, hk⟩ | h <;> simp only at h
  · subst h
    exact obj_put key (by have := keyB_size hk; simp only at this; omega) k' b' n' t' l' o' la' oa' lc' oc' w hN hv hb
  · subst h
    exact obj_del key (by have := keyB_size hk; simp only at this; omega) _ _ _ _ _ _ _ _ _ _ w hN
  · subst h
    exact obj_clear key _ _ _ _ _ _ _ _ _ _ w hN

/-- The objects of the first ops. -/
def rowQ (l : List POp) (q : Nat) : List D := dL ((l.take q).map objQ)
/-- What holds between two rounds: R: the result's variable, g: the list's. -/
structure LI (w : World) (g : Nat) (l : List POp) (q : Nat) (wr : World) (V : Value) : Prop where
  below : Below w.heap.size w wr
  res : Blk wr w.heap.size 52 zero6
  var : Blk wr g 52 #[.int .i64 5, .bool false, .int .i64 0, .string ⟨#[]⟩, V, .slice none 0 0]
  row : RowD (g + 1) 52 6 wr (rowQ l q) V
  lt : w.heap.size < g

/-- A list of the call's own, given back. -/
def ListPost (l : List POp) (w : World) (e : Ending) (w' : World) : Prop := Below w.heap.size w w' ∧
  ∃ la lc, e = .returned (.tuple #[.agg #[.int .i64 5, .bool false, .int .i64 0, .string ⟨#[]⟩, .slice la l.length lc, .slice none 0 0], .int .i64 0]) ∧ Fresh w.heap.size w' (dV (listQ l)) [.int .i64 5, .bool false, .int .i64 0, .string ⟨#[]⟩, .slice la l.length lc, .slice none 0 0]

set_option maxRecDepth 100000 in
set_option maxHeartbeats 8000000 in
theorem patList_calls (l : List POp) (a : Option Addr) (n c : Nat) (w : World) (hT : Tabs w) (hN : Names w) (h : Holds w w.heap.size (.row 8 (dQs l)) [.slice a n c]) (hb : bulkQ l ≤ 50000000) (hin : inQ l) (hm : mayOps none l = 0) :
    Calls Tryz.prog 18 #[.slice a n c] w (ListPost l w) := by
  have hlq := bulkQ_len l
  have hn := h.row_len
  rw [dQs_len] at hn
  subst hn
  obtain ⟨j0, hj, hy0, hy1, hy2⟩ := info_parts val_info
  have hb0 : Below w.heap.size w (w.alloc (.cells zero6 52)) := (Below.refl _ _).alloc (Nat.le_refl _) _
  have hM := patMay_calls l a l.length c (w.alloc (.cells zero6 52)) (hT.below hb0) ((h.below hb0).more hb0.size) (by omega) hin
  rw [hm] at hM
  have hok := mayOps_all hm
  have HM := Lib.hid hM
  have HT := Lib.hid hT
  have HN := Lib.hid hN
  have H := Lib.hid h
  have Hok := Lib.hid hok
  have Hb0 := Lib.hid hb0
  have Hj := Lib.hid hj
  have Hy0 := Lib.hid hy0
  have Hy1 := Lib.hid hy1
  have Hy2 := Lib.hid hy2
  have Hin := Lib.hid hin
  clear hM hT hN h hok hb0 hj hy0 hy1 hy2 hin
  clear hm
  go_enter Tryz.func18, Tryz.ntmps18
  go_wp2_with (go_at_call 44; (with_reducible refine (HM.out).mono ?_); rintro e w1 ⟨rfl, hb1⟩)
  have hz1 : w.heap.size < w1.heap.size := by have := hb1.size; simp at this; omega
  have hI0 : LI w w1.heap.size l 0 (w1.alloc (.cells #[.int .i64 5, .bool false, .int .i64 0, .string ⟨#[]⟩, .slice none 0 0, .slice none 0 0] 52)) (.slice none 0 0) :=
    ⟨(Hb0.out.trans (hb1.mono Hb0.out.size)).alloc (by omega) _, ((Blk.new w 52 zero6).below hb1 (Blk.new w 52 zero6).lt).alloc _, Blk.new _ _ _, by simpa [rowQ, dL] using RowD.nil _ _ _ _, hz1⟩
  obtain ⟨w2, hw2⟩ : ∃ w2, w1.alloc (.cells #[.int .i64 5, .bool false, .int .i64 0, .string ⟨#[]⟩, .slice none 0 0, .slice none 0 0] 52) = w2 := ⟨_, rfl⟩
  rw [hw2] at hI0 ⊢
  have HI0 := Lib.hid hI0
  clear hI0 hw2 hb1
  generalize w1.heap.size = g at *
  go_loopw [17] (fun i wr => ∃ q : Nat, i = .int .i64 q ∧ q ≤ l.length ∧ ∃ V, Hid (LI w g l q wr V)) (fun i _ => l.length - (intOf i).toNat)
  case atStart => exact ⟨0, rfl, Nat.zero_le _, _, HI0⟩
  case round =>
    obtain ⟨q, rfl, hq, V, hI⟩ := hrel
    clear HI0
    by_cases hlt : q < l.length
    · obtain ⟨p, hp⟩ : ∃ p, l[q]? = some p := ⟨_, List.getElem?_eq_getElem hlt⟩
      have hmem := List.mem_of_getElem? hp
      have hbq := bulkQ_mem hmem
      have hokp := Hok.out p hmem
      have htk : rowQ l q ++ [dV (objQ p)] = rowQ l (q + 1) := by
        unfold rowQ; rw [List.take_add_one, hp, dL_map, dL_map]; simp
      obtain ⟨k, key, ⟨k', b', n', t', l', o'⟩⟩ := p
      simp only at hbq
      have hbw := hI.out.below
      have hz := hbw.size
      obtain ⟨gl, off, rfl, hgl, la', lc', oa', oc', hv, c0, c1, c2, c3, c4, c5, c6, c7⟩ := opQ_at ((H.out.below hbw).more hz) hp
      obtain ⟨wi, hwi⟩ : ∃ wi, wr.alloc (.cells #[.int .i64 k, .string key, .int .i64 k', .bool b', .int .i64 n', .string t', .slice la' l'.length lc', .slice oa' o'.length oc'] 61) = wi := ⟨_, rfl⟩
      have hbi : Below wr.heap.size wr wi := hwi ▸ alloc_below _ _
      have hxi : Blk wi wr.heap.size 61 #[.int .i64 k, .string key, .int .i64 k', .bool b', .int .i64 n', .string t', .slice la' l'.length lc', .slice oa' o'.length oc'] := by rw [← hwi]; exact Blk.new _ _ _
      have hxv := hI.out.var.below hbi hI.out.var.lt
      have hrow := hI.out.row.below hbi
      have Hres := Lib.hid hI.out.res
      obtain ⟨aV, cV, rfl⟩ := hI.out.row.slice
      have hgr : gl < wr.heap.size := hgl
      have hgv : g < wi.heap.size := hxv.lt
      have hq1 : (q : Int) < (l.length : Int) := by omega
      have hwi2 : Below w.heap.size w wi := hbw.trans (hbi.mono hz)
      have hC : ∀ W, Below wi.heap.size wi W → Calls Tryz.prog 45 #[.agg #[.int .i64 k, .string key, .int .i64 k', .bool b', .int .i64 n', .string t', .slice la' l'.length lc', .slice oa' o'.length oc']] W (MadePost (objO ⟨k, key, .mk k' b' n' t' l' o'⟩) W) := fun W hW => by
        have hWr := hbi.trans (hW.mono hbi.size)
        exact obj_calls k key k' b' n' t' l' o' la' oa' lc' oc' W hokp (HN.out.below (hwi2.trans (hW.mono hwi2.size))) ((hv.below hWr).more hWr.size) (by omega)
      have Hp := Lib.hid hp
      have Hv := Lib.hid hv
      have Hbi := Lib.hid hbi
      have Hbw := Lib.hid hbw
      have HC := Lib.hid hC
      have Hrow := Lib.hid hrow
      have Htk := Lib.hid htk
      have Hwi2 := Lib.hid hwi2
      clear hp hv hbi hbw hC hrow htk hwi2
      clear hmem hokp
      go_upto_region 8 with (fail)
      clear hwi
      obtain ⟨x0, x1, x2, x3, x4, x5, x6, x7⟩ := ocell hxi
      obtain ⟨_, _, _, _, y4, _⟩ := vcell hxv
      have hdl : (rowQ l q).length = q := by unfold rowQ; rw [dL_len, List.length_map, List.length_take]; omega
      have hLo : Hid ((rowQ l q).length + 1 ≤ maxLen ∧ ((rowQ l q).length + 1) * 88 ≤ 140737488355328) := by rw [hdl]; exact ⟨by simp only [maxLen]; omega, by omega⟩
      have Hxi := Lib.hid hxi
      have Hxv := Lib.hid hxv
      clear hxi hxv
      clear c0 c1 c2 c3 c4 c5 c6 c7 hdl
      go_region_law (first
        | (refine step_append_D (d := dV (objQ ⟨k, key, .mk k' b' n' t' l' o'⟩)) (V := .slice aV (rowQ l q).length cV) (by rfl) (.tmp 22) (.tmp 25) 49 (by rfl) Tryz.underlying49 Hj.out Hy0.out Hy1.out Hy2.out rfl (by omega) (by rfl) Hrow.out (by omega) Hbe.out (dV_cells _) Hfe.out (by rfl) (reads_six w4 _ _ _ _ _ _) hLo.out.1 hLo.out.2 ?_; intro V6 w6 hrow6 hg6 hat6; rw [Htk.out] at hrow6; have hx6 := blk_app Hxv4.out hg6 Hrow.out (by omega); have hw6 := below_app Hw4.out hg6 Hrow.out (by omega) Hw4.out.size; have hr6 := blk_app Hr4.out hg6 Hrow.out (by omega); have e6 := hx6.cell 4; have f6 := hx6.frozen 4; obtain ⟨a6, c6, rfl⟩ := hrow6.slice; have HG6 := Lib.hid (And.intro hrow6 (And.intro hx6 (And.intro hw6 hr6))); clear hrow6 hg6 hat6 hx6 hw6 hr6)
        | (go_simp; go_at_call 45; refine (HC.out _ (Below.drew (Below.refl _ _))).mono ?_; rintro e w4 ⟨hb4, la4, lc4, oa4, oc4, rfl, hf4⟩; have hbr : Below wi.heap.size wi w4 := (Below.drew (Below.refl _ _)).trans hb4; have hxv4 := Hxv.out.below hbr Hxv.out.lt; have g3 := hxv4.cell 4; have g4 := (hxv4.alloc (.cells #[.int .i64 6, .bool false, .int .i64 0, .string ⟨#[]⟩, .slice la4 0 lc4, .slice oa4 (objO ⟨k, key, .mk k' b' n' t' l' o'⟩).length oc4] 52)).cell 4; have Hxv4 := Lib.hid (hxv4.alloc (.cells #[.int .i64 6, .bool false, .int .i64 0, .string ⟨#[]⟩, .slice la4 0 lc4, .slice oa4 (objO ⟨k, key, .mk k' b' n' t' l' o'⟩).length oc4] 52)); have Hr4 := Lib.hid ((((Hres.out.below Hbi.out Hres.out.lt).below hbr (by omega))).alloc (.cells #[.int .i64 6, .bool false, .int .i64 0, .string ⟨#[]⟩, .slice la4 0 lc4, .slice oa4 (objO ⟨k, key, .mk k' b' n' t' l' o'⟩).length oc4] 52)); have Hw4 := Lib.hid ((Hwi2.out.trans (hbr.mono Hwi2.out.size)).alloc (Nat.le_trans Hwi2.out.size hbr.size) (.cells #[.int .i64 6, .bool false, .int .i64 0, .string ⟨#[]⟩, .slice la4 0 lc4, .slice oa4 (objO ⟨k, key, .mk k' b' n' t' l' o'⟩).length oc4] 52)); have Hbe := Lib.hid (hbr.alloc hbr.size (.cells #[.int .i64 6, .bool false, .int .i64 0, .string ⟨#[]⟩, .slice la4 0 lc4, .slice oa4 (objO ⟨k, key, .mk k' b' n' t' l' o'⟩).length oc4] 52)); have hfe : Fresh wi.heap.size (w4.alloc (.cells #[.int .i64 6, .bool false, .int .i64 0, .string ⟨#[]⟩, .slice la4 0 lc4, .slice oa4 (objO ⟨k, key, .mk k' b' n' t' l' o'⟩).length oc4] 52)) (dV (objQ ⟨k, key, .mk k' b' n' t' l' o'⟩)) [.int .i64 6, .bool false, .int .i64 0, .string ⟨#[]⟩, .slice la4 0 lc4, .slice oa4 (objO ⟨k, key, .mk k' b' n' t' l' o'⟩).length oc4] := hf4.later (alloc_below w4 (.cells #[.int .i64 6, .bool false, .int .i64 0, .string ⟨#[]⟩, .slice la4 0 lc4, .slice oa4 (objO ⟨k, key, .mk k' b' n' t' l' o'⟩).length oc4] 52)); have Hfe := Lib.hid hfe; clear hb4 hf4 hbr hxv4 hfe))
      all_goals
        obtain ⟨k1, k2, k3, k4⟩ := HG6.out
        have HN : Hid (LI w g l (q + 1) (w6.setCell ⟨g, 4, none⟩ (.slice a6 (rowQ l (q + 1)).length c6)) (.slice a6 (rowQ l (q + 1)).length c6)) :=
          ⟨k3.setCell (by simp; omega) _, k4.far (by simp; omega) _, k2.set_ 4 _, k1.keep (by simp [World.setCell]) (fun i h1 _ => Below.heap_setCell _ _ _ _ (by simp; omega)), hz1⟩
        clear k1 k2 k3 k4 HG6 Hfe Hbe Hxv4 Hw4 Hr4
        go_wp2
        go_roundw
        case rel => exact ⟨q + 1, by go_num, by omega, _, HN⟩
        case measure => simp only [intOf]; omega
    · obtain rfl : q = l.length := by omega
      have hln : (rowQ l l.length).length = l.length := by unfold rowQ; rw [dL_len, List.length_map, List.take_length]
      obtain ⟨aV, cV, rfl⟩ := hI.out.row.slice_n hln
      obtain ⟨i1, i2, i3, i4, i5⟩ := hI.out
      obtain ⟨y0, y1, y2, y3, y4, y5⟩ := vcell i3
      obtain ⟨r0, r1, r2, r3, r4, r5⟩ := vcell i2
      have fz := i2.frozen
      have hq := i4.close
      have hgw := i3.lt
      have I1 := Lib.hid i1
      have I2 := Lib.hid i2
      have I3 := Lib.hid i3
      have I4 := Lib.hid i4
      have Hq := Lib.hid hq
      have Hln := Lib.hid hln
      clear i1 i2 i3 i4 hq hln
      clear hI
      go_upto_region 10 with (fail)
      repeat go_step
      obtain ⟨a', c', e', _, hf, _⟩ := Hq.out
      rw [Hln.out] at e' hf
      obtain ⟨rfl, rfl⟩ : aV = a' ∧ cV = c' := by simpa using e'
      have hxf := ((((((I2.out.set_ 0 (.int .i64 5)).set_ 1 (.bool false)).set_ 2 (.int .i64 0)).set_ 3 (.string ⟨#[]⟩)).set_ 4 (.slice aV l.length cV)).set_ 5 (.slice none 0 0))
      have hbf := setMany_below [.int .i64 5, .bool false, .int .i64 0, .string ⟨#[]⟩, .slice aV l.length cV, .slice none 0 0] I1.out (Nat.le_refl _) (o := 0)
      have hff : Fresh w.heap.size (setMany wr w.heap.size 0 [.int .i64 5, .bool false, .int .i64 0, .string ⟨#[]⟩, .slice aV l.length cV, .slice none 0 0]) (dV (listQ l)) [.int .i64 5, .bool false, .int .i64 0, .string ⟨#[]⟩, .slice aV l.length cV, .slice none 0 0] :=
        fresh_lv (by unfold rowQ at hf; rw [List.take_length] at hf; exact hf.keep (by omega) (by rw [setMany_size]; exact Nat.le_refl _) fun p p1 p2 => World.cell?_of_block (setMany_far _ _ _ _ _ (by omega)))
      exact bodyPost_ret (results_cell6_t rfl rfl hxf) rfl ⟨hbf, aV, cV, rfl, hff⟩
end Go.Proofs.YtemceefalkfneaaGreatDoor
