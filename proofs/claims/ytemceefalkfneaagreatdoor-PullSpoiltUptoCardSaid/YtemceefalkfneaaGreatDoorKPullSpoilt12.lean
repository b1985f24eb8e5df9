/- Parts, joined: commonplacelaw18.answer: an answer in memory of its own. Condition: a bulk of at most 10^8. -/
import Derived.Test.YtemceefalkfneaaGreatDoorProg
import Derived.Deep.RegionHeld3
import Derived.Test.YtemceefalkfneaaGreatDoorKPullSpoilt5
import Derived.Test.YtemceefalkfneaaGreatDoorKPullSpoilt8
/- commonplacelaw18.answer: an answer in memory of its own. Condition: a bulk of at most 10^8. -/
namespace Go.Proofs.YtemceefalkfneaaGreatDoor
open Go Go.RowKit

theorem op_info : (Tryz.prog.info? 61).map (fun i => (i.zero, i.size, i.bytes)) = some (some (.agg #[.int .i64 0, .string ⟨#[]⟩, .int .i64 0, .bool false, .int .i64 0, .string ⟨#[]⟩, .slice none 0 0, .slice none 0 0]), 8, 112) := by kernel_rfl
theorem reads_eight (w : World) (a0 a1 a2 a3 a4 a5 a6 a7 : Value) : Reads (w.alloc (.cells #[a0, a1, a2, a3, a4, a5, a6, a7] 61)) (w.heap.size + 1) 8 (some ⟨w.heap.size, 0, none⟩) 1 [a0, a1, a2, a3, a4, a5, a6, a7] := reads_one (Blk.new w 61 #[a0, a1, a2, a3, a4, a5, a6, a7])
theorem fresh_of_FV {w w' : World} {v : Val} {cs : List Value} (h : FreshV w w' v cs) : Fresh w.heap.size w' (dV v) cs := fun w'' h1 h2 => holds_of_V _ _ (h w'' h1 h2)
theorem dQ_fresh {B : Nat} {w : World} {k : Int} {key : ByteArray} {v : Val} {cs : List Value} (h : Fresh B w (dV v) cs) : Fresh B w (dQ ⟨k, key, v⟩) (.int .i64 k :: .string key :: cs) := fun w'' h1 h2 => ⟨[.int .i64 k], .string key :: cs, rfl, ⟨rfl, rfl⟩, [.string key], cs, rfl, ⟨rfl, rfl⟩, cs, [], by simp, h w'' h1 h2, rfl⟩
/-- The answer's zero, cell by cell. -/
abbrev zero5 : Array Value := #[.int .u64 0, .int .u64 0, .int .u64 0, .int .u64 0, .slice none 0 0]
theorem results_cell5 {fn : Func} {t : Tmp} {tmps : Array Value} {W : World} {R : Nat} {a0 a1 a2 a3 a4 : Value} (h : fn.results = #[.cell t 25]) (hp : tmps.getD t undef = .pointer (some ⟨R, 0, none⟩)) (hx : Blk W R 25 #[a0, a1, a2, a3, a4]) :
    (results fn tmps).run Tryz.prog W = .ok (.agg #[a0, a1, a2, a3, a4]) W := by
  have c0 := hx.cell 0
  have c1 := hx.cell 1
  have c2 := hx.cell 2
  have c3 := hx.cell 3
  have c4 := hx.cell 4
  simp at c0 c1 c2 c3 c4
  clear hx
  have hp' : tmps[t]?.getD undef = .pointer (some ⟨R, 0, none⟩) := by simpa using hp
  simp [results, h, hp', go_sem, c0, c1, c2, c3, c4]
/-- What holds between two rounds. -/
structure LA (w : World) (cs : Array Value) (l : List POp) (q : Nat) (wr : World) (V : Value) : Prop where
  below : Below w.heap.size w wr
  box : Blk wr w.heap.size 25 cs
  res : Blk wr (w.heap.size + 1) 25 zero5
  row : RowD (w.heap.size + 2) 61 8 wr (dQs (l.take q)) V
/-- An answer of the call's own, given back. -/
def AnsPost (c b k s : Int) (l : List POp) (w : World) (e : Ending) (w' : World) : Prop := Below w.heap.size w w' ∧
  ∃ a' c', e = .returned (.agg #[.int .u64 c, .int .u64 b, .int .u64 k, .int .u64 s, .slice a' l.length c']) ∧ Fresh w.heap.size w' (.row 8 (dQs l)) [.slice a' l.length c']

set_option maxRecDepth 100000 in
set_option maxHeartbeats 8000000 in
theorem answer_calls (c b k s : Int) (l : List POp) (a : Option Addr) (n cc : Nat) (w : World) (h : Holds w w.heap.size (.row 8 (dQs l)) [.slice a n cc]) (hb : bulkQ l ≤ 100000000) :
    Calls Tryz.prog 6 #[.agg #[.int .u64 c, .int .u64 b, .int .u64 k, .int .u64 s, .slice a n cc]] w (AnsPost c b k s l w) := by
  have hlq := bulkQ_len l
  have hn := h.row_len
  rw [dQs_len] at hn
  subst hn
  obtain ⟨j0, hj, hy0, hy1, hy2⟩ := info_parts op_info
  have hI0 : LA w #[.int .u64 c, .int .u64 b, .int .u64 k, .int .u64 s, .slice a l.length cc] l 0 ((w.alloc (.cells #[.int .u64 c, .int .u64 b, .int .u64 k, .int .u64 s, .slice a l.length cc] 25)).alloc (.cells zero5 25)) (.slice none 0 0) :=
    ⟨((Below.refl _ _).alloc (Nat.le_refl _) _).alloc (by simp) _, (Blk.new _ _ _).alloc _, by simpa using Blk.new (w.alloc (.cells #[.int .u64 c, .int .u64 b, .int .u64 k, .int .u64 s, .slice a l.length cc] 25)) 25 zero5, by simpa [dQs] using RowD.nil _ _ _ _⟩
  have H := Lib.hid h
  have Hj := Lib.hid hj
  have Hy0 := Lib.hid hy0
  have Hy1 := Lib.hid hy1
  have Hy2 := Lib.hid hy2
  have HI0 := Lib.hid hI0
  clear h hj hy0 hy1 hy2 hI0
  go_enter Tryz.func6, Tryz.ntmps6
  go_wp2_with (fail)
  go_loopw [3, 4] (fun V i wr => ∃ q : Nat, i = .int .i64 q ∧ q ≤ l.length ∧ Hid (LA w #[.int .u64 c, .int .u64 b, .int .u64 k, .int .u64 s, .slice a l.length cc] l q wr V)) (fun _ i _ => l.length - (intOf i).toNat)
  case atStart => exact ⟨0, rfl, Nat.zero_le _, HI0⟩
  case round =>
    obtain ⟨q, rfl, hq, hI⟩ := hrel
    clear HI0
    by_cases hlt : q < l.length
    · obtain ⟨p, hp⟩ : ∃ p, l[q]? = some p := ⟨_, List.getElem?_eq_getElem hlt⟩
      have hmem := List.mem_of_getElem? hp
      have hbq := bulkQ_mem hmem
      have htk : dQs (l.take q) ++ [dQ p] = dQs (l.take (q + 1)) := by
        unfold dQs; rw [List.take_add_one, hp]; simp
      obtain ⟨kk, key, ⟨k', b', n', t', l', o'⟩⟩ := p
      simp only at hbq
      have hbw := hI.out.below
      have hz := hbw.size
      obtain ⟨gl, off, rfl, hgl, la', lc', oa', oc', hv, c0, c1, c2, c3, c4, c5, c6, c7⟩ := opQ_at H.out hp
      have hdl : (dQs (l.take q)).length = q := by rw [dQs_len, List.length_take]; omega
      have hLo : Hid ((dQs (l.take q)).length + 1 ≤ maxLen ∧ ((dQs (l.take q)).length + 1) * 112 ≤ 140737488355328) := by rw [hdl]; exact ⟨by simp only [maxLen]; omega, by omega⟩
      have hq1 : (q : Int) < (l.length : Int) := by omega
      have hq0 : (0 : Int) ≤ q := by omega
      have hC : ∀ W, Below wr.heap.size wr W → Calls Tryz.prog 21 #[.agg #[.int .i64 k', .bool b', .int .i64 n', .string t', .slice la' l'.length lc', .slice oa' o'.length oc']] W fun e w' => (∃ cs', e = .returned (.agg (cs' : List Value).toArray) ∧ cs'.length = 6 ∧ FreshV W w' (.mk k' b' n' t' l' o') cs') ∧ Below W.heap.size W w' :=
        fun W hW => copy_calls _ _ W (HoldsV.more (Nat.le_trans hz hW.size) _ _ (hv.below (hbw.trans (hW.mono hz)))) (by omega)
      obtain ⟨aV, cV, rfl⟩ := hI.out.row.slice
      have hxb := hI.out.box
      have hxr := hI.out.res
      have hrow := hI.out.row
      have y4 := hxb.cell 4
      have hgb := hxb.lt
      have hgr := hxr.lt
      have hgl2 : gl < wr.heap.size := by omega
      obtain ⟨hcr, hfr⟩ := bcellM hbw
      have HC := Lib.hid hC
      have Hp := Lib.hid hp
      have Hv := Lib.hid hv
      have Hbw := Lib.hid hbw
      have Htk := Lib.hid htk
      have Hxb := Lib.hid hxb
      have Hxr := Lib.hid hxr
      have Hrow := Lib.hid hrow
      clear hC hp hv hbw htk hxb hxr hrow
      clear hmem hdl
      go_upto_region 5 with (fail)
      go_region_held3 (fun W => W.cell? ⟨w.heap.size, 4, none⟩ = some (.slice (some ⟨gl, off, none⟩) l.length cc) ∧ W.cell? ⟨gl, off + q * 8, none⟩ = some (.int .i64 kk) ∧ W.cell? ⟨gl, off + q * 8 + 1, none⟩ = some (.string key) ∧ W.cell? ⟨gl, off + q * 8 + 2, none⟩ = some (.int .i64 k') ∧ W.cell? ⟨gl, off + q * 8 + 3, none⟩ = some (.bool b') ∧ W.cell? ⟨gl, off + q * 8 + 4, none⟩ = some (.int .i64 n') ∧ W.cell? ⟨gl, off + q * 8 + 5, none⟩ = some (.string t') ∧ W.cell? ⟨gl, off + q * 8 + 6, none⟩ = some (.slice la' l'.length lc') ∧ W.cell? ⟨gl, off + q * 8 + 7, none⟩ = some (.slice oa' o'.length oc')) (go_keep) (first
        | (refine step_append_D (d := dQ ⟨kk, key, .mk k' b' n' t' l' o'⟩) (V := (.slice aV (dQs (l.take q)).length cV)) (by rfl) (.tmp 12) (.tmp 33) 23 (by rfl) Tryz.underlying23 Hj.out Hy0.out Hy1.out Hy2.out rfl (by omega) (by rfl) Hrow.out (by omega) Hbe.out (dQ_cells _) Hfe.out (by rfl) (reads_eight w4 _ _ _ _ _ _ _ _) hLo.out.1 hLo.out.2 ?_; intro V6 w6 hrow6 hg6 hat6; have hx6 := blk_app Hx4.out hg6 Hrow.out (by omega); have hr6 := blk_app Hr4.out hg6 Hrow.out (by omega); have hw6 := below_app Hw4.out hg6 Hrow.out (by omega) Hw4.out.size; obtain ⟨hc6, hf6⟩ := bcellM hw6; have u4 := hx6.cell 4; rw [Htk.out] at hrow6; have HG6 := Lib.hid (And.intro hrow6 (And.intro hx6 (And.intro hw6 hr6))); clear hrow6 hg6 hat6 hw6 hr6 hx6)
        | (go_at_call 21; refine (HC.out _ ?_).mono ?_; (exact (Below.drew (Below.refl _ _))); rintro e w4 ⟨⟨cs4, rfl, hl4, hf4⟩, hb4⟩; obtain ⟨la2, lc2, oa2, oc2, rfl⟩ := six_now (fresh_of_FV hf4); have hbr4 : Below wr.heap.size wr w4 := ((Below.drew (Below.refl _ _)).trans hb4); have hwb4 := Hbw.out.trans (hbr4.mono Hbw.out.size); obtain ⟨hc4, hg4⟩ := bcellM hwb4; have v4 := (Hxb.out.below hbr4 Hxb.out.lt).cell 4; have Hw4 := Lib.hid ((Hbw.out.trans (hbr4.mono Hbw.out.size)).alloc (Nat.le_trans Hbw.out.size hbr4.size) (.cells #[.int .i64 kk, .string key, .int .i64 k', .bool b', .int .i64 n', .string t', .slice la2 l'.length lc2, .slice oa2 o'.length oc2] 61)); have Hx4 := Lib.hid ((Hxb.out.below hbr4 Hxb.out.lt).alloc (.cells #[.int .i64 kk, .string key, .int .i64 k', .bool b', .int .i64 n', .string t', .slice la2 l'.length lc2, .slice oa2 o'.length oc2] 61)); have Hr4 := Lib.hid ((Hxr.out.below hbr4 Hxr.out.lt).alloc (.cells #[.int .i64 kk, .string key, .int .i64 k', .bool b', .int .i64 n', .string t', .slice la2 l'.length lc2, .slice oa2 o'.length oc2] 61)); have Hbe := Lib.hid (hbr4.alloc hbr4.size (.cells #[.int .i64 kk, .string key, .int .i64 k', .bool b', .int .i64 n', .string t', .slice la2 l'.length lc2, .slice oa2 o'.length oc2] 61)); have hfe : Fresh wr.heap.size (w4.alloc (.cells #[.int .i64 kk, .string key, .int .i64 k', .bool b', .int .i64 n', .string t', .slice la2 l'.length lc2, .slice oa2 o'.length oc2] 61)) (dQ ⟨kk, key, .mk k' b' n' t' l' o'⟩) [.int .i64 kk, .string key, .int .i64 k', .bool b', .int .i64 n', .string t', .slice la2 l'.length lc2, .slice oa2 o'.length oc2] := (dQ_fresh (fresh_of_FV hf4)).later (alloc_below _ _); have Hfe := Lib.hid hfe; clear hfe hf4 hb4))
      all_goals
        obtain ⟨k1, k2, k3, k4⟩ := HG6.out
        have HN : Hid (LA w #[.int .u64 c, .int .u64 b, .int .u64 k, .int .u64 s, .slice (some ⟨gl, off, none⟩) l.length cc] l (q + 1) w6 V6) := ⟨k3, k2, k4, k1⟩
        clear k1 k2 k3 k4 HG6 Hfe Hbe Hx4 Hw4 Hr4 hc4 hg4 hbr4 hc6 hf6 hwb4 v4 u4
        go_wp2
        go_roundw
        case rel => exact ⟨q + 1, by go_num, by omega, HN⟩
        case measure => simp only [intOf]; omega
    · obtain rfl : q = l.length := by omega
      have hln : (dQs (l.take l.length)).length = l.length := by rw [dQs_len, List.take_length]
      obtain ⟨aV, cV, rfl⟩ := hI.out.row.slice_n hln
      obtain ⟨i1, i2, i3, i4⟩ := hI.out
      have hq := i4.close
      have y4 := i2.cell 4
      have f4 := i2.frozen 4
      have hgb := i2.lt
      have hgr := i3.lt
      have I1 := Lib.hid i1
      have I2 := Lib.hid i2
      have I3 := Lib.hid i3
      have I4 := Lib.hid i4
      have Hq := Lib.hid hq
      have Hln := Lib.hid hln
      clear i1 i2 i3 i4 hq hln
      clear hI
      go_upto_region 7 with (fail)
      obtain ⟨a', c', e', _, hf, _⟩ := Hq.out
      rw [Hln.out] at e' hf
      rw [List.take_length] at hf
      obtain ⟨rfl, rfl⟩ : aV = a' ∧ cV = c' := by simpa using e'
      have hx := I2.out.set_ 4 (.slice aV l.length cV)
      have hr := I3.out.far (p := ⟨w.heap.size, 4, none⟩) (by simp) (.slice aV l.length cV)
      have hbw := I1.out.setCell (p := ⟨w.heap.size, 4, none⟩) (Nat.le_refl _) (.slice aV l.length cV)
      have hf2 : Fresh (w.heap.size + 2) (wr.setCell ⟨w.heap.size, 4, none⟩ (.slice aV l.length cV)) (.row 8 (dQs l)) [.slice aV l.length cV] := hf.keep (Nat.le_refl _) (by simp [World.setCell]) fun p p1 _ => World.cell?_of_block (Below.heap_setCell _ _ _ _ (by simp; omega))
      have hs2 : w.heap.size + 1 < (wr.setCell ⟨w.heap.size, 4, none⟩ (.slice aV l.length cV)).heap.size := hr.lt
      generalize wr.setCell ⟨w.heap.size, 4, none⟩ (.slice aV l.length cV) = wz at *
      have d0 := hx.cell 0
      have d1 := hx.cell 1
      have d2 := hx.cell 2
      have d3 := hx.cell 3
      have d4 := hx.cell 4
      have r0 := hr.cell 0
      have r1 := hr.cell 1
      have r2 := hr.cell 2
      have r3 := hr.cell 3
      have r4 := hr.cell 4
      have fz := hr.frozen
      simp at d0 d1 d2 d3 d4 r0 r1 r2 r3 r4
      have Hx := Lib.hid hx
      have Hr := Lib.hid hr
      have Hbw := Lib.hid hbw
      have Hf2 := Lib.hid hf2
      clear hx hr hbw hf2
      clear I1 I2 I3 I4 Hq e' hf y4 f4
      go_wp2
      have hxf := (((((Hr.out.set_ 0 (.int .u64 c)).set_ 1 (.int .u64 b)).set_ 2 (.int .u64 k)).set_ 3 (.int .u64 s)).set_ 4 (.slice aV l.length cV))
      have hbf := setMany_below [.int .u64 c, .int .u64 b, .int .u64 k, .int .u64 s, .slice aV l.length cV] Hbw.out (Nat.le_succ w.heap.size) (o := 0)
      have hff : Fresh w.heap.size (setMany wz (w.heap.size + 1) 0 [.int .u64 c, .int .u64 b, .int .u64 k, .int .u64 s, .slice aV l.length cV]) (.row 8 (dQs l)) [.slice aV l.length cV] := Hf2.out.keep (by omega) (by rw [setMany_size]; exact Nat.le_refl _) fun p p1 p2 => World.cell?_of_block (setMany_far _ _ _ _ _ (by omega))
      exact bodyPost_ret (results_cell5 rfl rfl hxf) rfl ⟨hbf, aV, cV, rfl, hff⟩
end Go.Proofs.YtemceefalkfneaaGreatDoor
