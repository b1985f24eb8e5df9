/- Parts, joined: commonplaceref14.Value: the list of a patch, as the reference has it (it shares the input's memory). Condition: a bulk of at most 10^8. -/
import Derived.Test.YtjjbbnodmpemiaaGreatDoorProg
import Derived.Deep.RegionHeld3
import Derived.Test.YtjjbbnodmpemiaaGreatDoorKPullForms6
/- commonplaceref14.Value: the list of a patch, as the reference has it (it shares the input's memory). Condition: a bulk of at most 10^8. -/
namespace Go.Proofs.YtjjbbnodmpemiaaGreatDoor
open Go Go.RowKit

theorem holdsIn_ov {S : Nat → Prop} {w : World} {o : List (ByteArray × Val)} {a : Option Addr} {n c : Nat} (h : HoldsIn S w (.row 7 (dO o)) [.slice a n c]) : HoldsIn S w (dV (ov o)) [.int .i64 6, .bool false, .int .i64 0, .string ⟨#[]⟩, .slice none 0 0, .slice a n c] := fun w'' h1 h2 => by
  simp only [ov, dV, Holds]
  exact HoldsA.six.2 ⟨[.slice none 0 0], [.slice a n c], rfl, rfl, rfl, rfl, rfl, ⟨none, 0, rfl, by simp [dL], [], rfl, by simp [dL]⟩, h w'' h1 h2⟩
theorem holdsIn_tvP (S : Nat → Prop) (w : World) (key s : ByteArray) : HoldsIn S w (dP (key, tv s)) [.string key, .int .i64 4, .bool false, .int .i64 0, .string s, .slice none 0 0, .slice none 0 0] := fun _ _ _ => holds_tvP _ _ _ _
theorem holdsIn_P {S : Nat → Prop} {w : World} {key : ByteArray} {v : Val} {cs : List Value} (h : HoldsIn S w (dV v) cs) : HoldsIn S w (dP (key, v)) (.string key :: cs) := fun w'' h1 h2 => ⟨[.string key], cs, rfl, ⟨rfl, rfl⟩, cs, [], by simp, h w'' h1 h2, rfl⟩
theorem blk_appX {S0 : Nat → Prop} {w w6 : World} {R b : Nat} {t e : TypeId} {sz : Nat} {l : List D} {V : Value} {cs : Array Value} {wr : World} (h : Blk w R t cs) (hg : w.grownBy w6 V.ownBlock) (hr : RowX S0 b e sz wr l V) (hR : R < b ∨ wr.heap.size ≤ R) : Blk w6 R t cs :=
  h.grown hg fun e => by have := hr.base R e.symm; omega
theorem below_appX {S0 : Nat → Prop} {w w6 : World} {B b : Nat} {e : TypeId} {sz : Nat} {l : List D} {V : Value} {w0 wr : World} (h : Below B w0 w) (hg : w.grownBy w6 V.ownBlock) (hr : RowX S0 b e sz wr l V) (hB : B ≤ b) (hBw : B ≤ w.heap.size) : Below B w0 w6 :=
  h.grown hg hBw fun k hk => Nat.le_trans hB (hr.base k hk).1
/-- What holds between two rounds. -/
structure LX (w : World) (B0 : Nat) (l : List POp) (q : Nat) (wr : World) (V : Value) : Prop where
  below : Below w.heap.size w wr
  res : Blk wr w.heap.size 45 zero6
  row : RowX (fun i => i < B0 ∨ w.heap.size < i) (w.heap.size + 1) 45 6 wr (rowQ l q) V
theorem obj_in' {R B0 : Nat} {wr W : World} {V : Value} {l : List D} {B g : Nat} {e : TypeId} {cs : Array Value} {o : List (ByteArray × Val)} {n : Nat} {v : Val} (hrow : RowX (fun i => i < B0 ∨ R < i) B e 6 wr l V) (hR : R < wr.heap.size) (hx : Blk W g 60 cs) (hg : wr.heap.size ≤ g) (hA : HoldsInA (fun i => (i < B0 ∨ R < i) ∧ V.ownBlock ≠ some i) W (dO o) cs.toList) (hn : n = o.length) (hv : v = ov o) :
    HoldsIn (fun i => (i < B0 ∨ R < i) ∧ V.ownBlock ≠ some i) W (dV v) [.int .i64 6, .bool false, .int .i64 0, .string ⟨#[]⟩, .slice none 0 0, .slice (some ⟨g, 0, none⟩) n n] := by
  subst hv
  exact holdsIn_ov (HoldsIn.blk hx ⟨.inr (by omega), fun e => by have := (hrow.base _ e).2; omega⟩ (dO_cells _) hA (by rw [dO_len]; exact hn))
theorem objQ_else (k : Int) (key : ByteArray) (v : Val) (e1 : k ≠ 1) (e2 : k ≠ 2) : objQ ⟨k, key, v⟩ = ov [(kOp, tv sClear)] := by
  unfold objQ
  rw [if_neg e1, if_neg e2]
theorem ucell {w : World} {g off : Nat} {B : Nat} {w' : World} (hb : Below B w w') (hg : g < B) {i : Nat} {u : Value} (h : w.cell? ⟨g, off + i, none⟩ = some u) : w'.cell? ⟨g, off + i, none⟩ = some u := (hb.cell (p := ⟨g, off + i, none⟩) hg).trans h
/-- A value of the input. -/
theorem old_in {B0 : Nat} {w wr W : World} {V : Value} {l : List D} {B : Nat} {e : TypeId} {v : Val} {cs : List Value} (hrow : RowX (fun i => i < B0 ∨ w.heap.size < i) B e 6 wr l V) (hv : HoldsV w B0 v cs) (h0 : B0 ≤ w.heap.size) (hB : w.heap.size ≤ B) (hb : Below w.heap.size w W) : HoldsIn (fun i => (i < B0 ∨ w.heap.size < i) ∧ V.ownBlock ≠ some i) W (dV v) cs :=
  (HoldsIn.of_old (holds_of_V _ _ hv) h0 (hb.mono h0)).mono fun i _ hi => ⟨.inl hi, fun e => by have := (hrow.base i e).1; omega⟩

theorem fin_list {B0 : Nat} {w w2 : World} {l : List POp} {aV : Option Addr} {cV B : Nat} {vs : List Value} (h : HoldsIn (fun i => (i < B0 ∨ w.heap.size < i) ∨ (Value.slice aV l.length cV).ownBlock = some i) w2 (.row 6 (rowQ l l.length)) [.slice aV l.length cV])
    (hb : ∀ g, (Value.slice aV l.length cV).ownBlock = some g → w.heap.size + 1 ≤ g ∧ g < B) (h0 : B0 ≤ w.heap.size) :
    HoldsIn (fun i => i < B0 ∨ w.heap.size < i) (setMany w2 w.heap.size 0 vs) (dV (listQ l)) [.int .i64 5, .bool false, .int .i64 0, .string ⟨#[]⟩, .slice aV l.length cV, .slice none 0 0] := by
  intro w'' k1 k2
  rw [setMany_size] at k1 k2
  have h1 := h w'' k1 fun p p1 p2 => (k2 p (by
    rcases p1 with p1 | p1
    · exact p1
    · exact .inr (by have := (hb _ p1).1; omega)) p2).trans (World.cell?_of_block (setMany_far vs _ _ _ _ (by
    rcases p1 with p1 | p1
    · omega
    · have := (hb _ p1).1; omega)))
  unfold rowQ at h1
  rw [List.take_length] at h1
  rw [setMany_size]
  simp only [listQ, lv, dV, Holds]
  exact HoldsA.six.2 ⟨[.slice aV l.length cV], [.slice none 0 0], rfl, rfl, rfl, rfl, rfl, h1, ⟨none, 0, rfl, by simp [dO], [], rfl, by simp [dO]⟩⟩
/-- A list given back, at the world at hand. -/
def RListPost (B0 : Nat) (l : List POp) (w : World) (e : Ending) (w' : World) : Prop := Below w.heap.size w w' ∧
  ∃ la lc, e = .returned (.agg #[.int .i64 5, .bool false, .int .i64 0, .string ⟨#[]⟩, .slice la l.length lc, .slice none 0 0]) ∧ HoldsIn (fun i => i < B0 ∨ w.heap.size < i) w' (dV (listQ l)) [.int .i64 5, .bool false, .int .i64 0, .string ⟨#[]⟩, .slice la l.length lc, .slice none 0 0]

set_option maxRecDepth 100000 in
set_option maxHeartbeats 8000000 in
theorem rValueP_calls (B0 : Nat) (l : List POp) (a : Option Addr) (n c : Nat) (w : World) (h0 : B0 ≤ w.heap.size) (h : Holds w B0 (.row 8 (dQs l)) [.slice a n c]) (hb : bulkQ l ≤ 100000000) :
    Calls Tryz.prog 28 #[.slice a n c] w (RListPost B0 l w) := by
  have hlq := bulkQ_len l
  have hn := h.row_len
  rw [dQs_len] at hn
  subst hn
  obtain ⟨j0, hj, hy0, hy1, hy2⟩ := info_parts val_info
  have hI0 : LX w B0 l 0 (w.alloc (.cells zero6 45)) (.slice none 0 0) := ⟨(Below.refl _ _).alloc (Nat.le_refl _) _, Blk.new _ _ _, by simpa [rowQ, dL] using RowX.nil _ _ _ _ _⟩
  have hO := fun a n c W => rObject_calls a n c W
  have hP1 := fun W => rop_calls sPut W
  have hP2 := fun W => rop_calls sDel W
  have hP3 := fun W => rop_calls sClear W
  have H := Lib.hid h
  have Hj := Lib.hid hj
  have Hy0 := Lib.hid hy0
  have Hy1 := Lib.hid hy1
  have Hy2 := Lib.hid hy2
  have HI0 := Lib.hid hI0
  have HO := Lib.hid hO
  have HP1 := Lib.hid hP1
  have HP2 := Lib.hid hP2
  have HP3 := Lib.hid hP3
  clear h hj hy0 hy1 hy2 hI0 hO hP1 hP2 hP3
  go_enter Tryz.func28, Tryz.ntmps28
  go_wp2_with (fail)
  go_loopw [3, 4] (fun V i wr => ∃ q : Nat, i = .int .i64 q ∧ q ≤ l.length ∧ Hid (LX w B0 l q wr V)) (fun _ i _ => l.length - (intOf i).toNat)
  case atStart => exact ⟨0, rfl, Nat.zero_le _, HI0⟩
  case round =>
    obtain ⟨q, rfl, hq, hI⟩ := hrel
    clear HI0
    by_cases hlt : q < l.length
    · obtain ⟨p, hp⟩ : ∃ p, l[q]? = some p := ⟨_, List.getElem?_eq_getElem hlt⟩
      have hmem := List.mem_of_getElem? hp
      have hbq := bulkQ_mem hmem
      have htk : rowQ l q ++ [dV (objQ p)] = rowQ l (q + 1) := by
        unfold rowQ; rw [List.take_add_one, hp, dL_map, dL_map]; simp
      obtain ⟨k, key, ⟨k', b', n', t', l', o'⟩⟩ := p
      simp only at hbq
      have hbw := hI.out.below
      have hz := hbw.size
      obtain ⟨gl, off, rfl, hgl, la', lc', oa', oc', hv, c0, c1, c2, c3, c4, c5, c6, c7⟩ := opQ_at H.out hp
      have hgl : gl < w.heap.size := by omega
      have hgr : gl < wr.heap.size := by omega
      obtain ⟨hcr, hfr⟩ := bcellM hbw
      have hT := fun W => rTextV_calls key W
      have hdl : (rowQ l q).length = q := by unfold rowQ; rw [dL_len, List.length_map, List.length_take]; omega
      have hLo : Hid ((rowQ l q).length + 1 ≤ maxLen ∧ ((rowQ l q).length + 1) * 88 ≤ 140737488355328) := by rw [hdl]; exact ⟨by simp only [maxLen]; omega, by omega⟩
      have hq1 : (q : Int) < (l.length : Int) := by omega
      have hq0 : (0 : Int) ≤ q := by omega
      have HT := Lib.hid hT
      have Hp := Lib.hid hp
      have Hv := Lib.hid hv
      have Hbw := Lib.hid hbw
      have Htk := Lib.hid htk
      clear hT hp hv hbw htk
      clear hmem hdl
      go_upto_region 6 with (go_at_call 44; (with_reducible refine (HT.out _).mono ?_); rintro e w1 ⟨rfl, hb1⟩)
      have hs1 := hb1.size
      have hw1k : Below wr.heap.size wr (w1.alloc (.cells #[.string kKey, .int .i64 4, .bool false, .int .i64 0, .string key, .slice none 0 0, .slice none 0 0] 60)) := hb1.alloc hb1.size _
      obtain ⟨aV, cV, rfl⟩ := hI.out.row.slice
      have hxk := Blk.new w1 60 #[.string kKey, .int .i64 4, .bool false, .int .i64 0, .string key, .slice none 0 0, .slice none 0 0]
      obtain ⟨wi, hwi⟩ : ∃ wi, w1.alloc (.cells #[.string kKey, .int .i64 4, .bool false, .int .i64 0, .string key, .slice none 0 0, .slice none 0 0] 60) = wi := ⟨_, rfl⟩
      rw [hwi] at hxk hw1k ⊢
      have hwi2 := Hbw.out.trans (hw1k.mono hz)
      have hrow := hI.out.row.below hw1k
      have Hrow0 := Lib.hid hI.out.row
      have hres := hI.out.res.below hw1k hI.out.res.lt
      have hB1 : w.heap.size + 1 ≤ wi.heap.size := Nat.le_trans hI.out.res.lt hw1k.size
      have hki := hxk.lt
      obtain ⟨m0, m1, m2, m3, m4, m5, m6⟩ := mcell hxk
      obtain ⟨hci, hfi⟩ := bcellM hwi2
      have hgi : gl < wi.heap.size := by omega
      have Hwi2 := Lib.hid hwi2
      have Hrow := Lib.hid hrow
      have Hres := Lib.hid hres
      have Hxk := Lib.hid hxk
      clear hwi2 hrow hres hxk
      clear hwi hb1 hw1k hcr hfr
      by_cases e1 : k = 1
      · subst e1
        go_upto_region 9 with (fail)
        go_region_held3 (fun W => W.cell? ⟨w1.heap.size, 0, none⟩ = some (.string kKey) ∧ W.cell? ⟨w1.heap.size, 1, none⟩ = some (.int .i64 4) ∧ W.cell? ⟨w1.heap.size, 2, none⟩ = some (.bool false) ∧ W.cell? ⟨w1.heap.size, 3, none⟩ = some (.int .i64 0) ∧ W.cell? ⟨w1.heap.size, 4, none⟩ = some (.string key) ∧ W.cell? ⟨w1.heap.size, 5, none⟩ = some (.slice none 0 0) ∧ W.cell? ⟨w1.heap.size, 6, none⟩ = some (.slice none 0 0) ∧ W.cell? ⟨gl, off + q * 8 + 2, none⟩ = some (.int .i64 k') ∧ W.cell? ⟨gl, off + q * 8 + 3, none⟩ = some (.bool b') ∧ W.cell? ⟨gl, off + q * 8 + 4, none⟩ = some (.int .i64 n') ∧ W.cell? ⟨gl, off + q * 8 + 5, none⟩ = some (.string t') ∧ W.cell? ⟨gl, off + q * 8 + 6, none⟩ = some (.slice la' l'.length lc') ∧ W.cell? ⟨gl, off + q * 8 + 7, none⟩ = some (.slice oa' o'.length oc')) (go_keep) (first
          | (refine step_append_X (d := dV (objQ ⟨1, key, .mk k' b' n' t' l' o'⟩)) (V := (.slice aV (rowQ l q).length cV)) (by rfl) (.tmp 32) (.tmp 43) 42 (by rfl) Tryz.underlying42 Hj.out Hy0.out Hy1.out Hy2.out rfl (by omega) (by rfl) Hrow4.out (Nat.le_trans hB1 (Nat.le_trans hbr4.size (by simp))) (dV_cells _) HX4.out (by rfl) (reads_six w4 _ _ _ _ _ _) hLo.out.1 hLo.out.2 ?_; intro V6 w6 hrow6 hg6 hat6; have hk6 := blk_appX Hk4.out hg6 Hrow0.out (.inr hs1); obtain ⟨u0, u1, u2, u3, u4, u5, u6⟩ := mcell hk6; have hw6 := below_appX Hw4.out hg6 Hrow0.out (by omega) Hw4.out.size; obtain ⟨hc6, hf6⟩ := bcellM hw6; have hr6 := blk_appX Hr4.out hg6 Hrow0.out (.inl (by omega)); rw [Htk.out] at hrow6; have HG6 := Lib.hid (And.intro hrow6 (And.intro hw6 hr6)); clear hrow6 hg6 hat6 hw6 hr6 hk6)
          | (go_at_call 45; refine (HP1.out _).mono ?_; rintro e w2 ⟨rfl, hb2⟩; have hbr2 : Below wi.heap.size wi w2 := ((Below.drew (Below.refl _ _)).trans hb2); obtain ⟨hc2, hf2⟩ := bcellM hbr2)
          | (go_at_call 26; refine (HO.out _ _ _ _).mono ?_; rintro e w4 ⟨rfl, hb4⟩; have hz2 := hbr2.size; have hbr4 : Below wi.heap.size wi w4 := (hbr2.alloc hz2 _).trans (hb4.mono (by simp; omega)); obtain ⟨hc4, hf4⟩ := bcellM hbr4; have Hw4 := Lib.hid ((Hwi2.out.trans (hbr4.mono Hwi2.out.size)).alloc (Nat.le_trans Hwi2.out.size hbr4.size) (.cells #[.int .i64 6, .bool false, .int .i64 0, .string ⟨#[]⟩, .slice none 0 0, .slice (some ⟨w2.heap.size, 0, none⟩) 3 3] 45)); have Hk4 := Lib.hid ((Hxk.out.below hbr4 Hxk.out.lt).alloc (.cells #[.int .i64 6, .bool false, .int .i64 0, .string ⟨#[]⟩, .slice none 0 0, .slice (some ⟨w2.heap.size, 0, none⟩) 3 3] 45)); have Hr4 := Lib.hid ((Hres.out.below hbr4 Hres.out.lt).alloc (.cells #[.int .i64 6, .bool false, .int .i64 0, .string ⟨#[]⟩, .slice none 0 0, .slice (some ⟨w2.heap.size, 0, none⟩) 3 3] 45)); have hrow4 := Hrow.out.below (hbr4.alloc hbr4.size (.cells #[.int .i64 6, .bool false, .int .i64 0, .string ⟨#[]⟩, .slice none 0 0, .slice (some ⟨w2.heap.size, 0, none⟩) 3 3] 45)); have hxm : Blk (w4.alloc (.cells #[.int .i64 6, .bool false, .int .i64 0, .string ⟨#[]⟩, .slice none 0 0, .slice (some ⟨w2.heap.size, 0, none⟩) 3 3] 45)) w2.heap.size 60 #[.string kKey, .int .i64 4, .bool false, .int .i64 0, .string key, .slice none 0 0, .slice none 0 0, .string kOp, .int .i64 4, .bool false, .int .i64 0, .string sPut, .slice none 0 0, .slice none 0 0, .string kVal, .int .i64 k', .bool b', .int .i64 n', .string t', .slice la' l'.length lc', .slice oa' o'.length oc'] := ((Blk.new w2 60 #[.string kKey, .int .i64 4, .bool false, .int .i64 0, .string key, .slice none 0 0, .slice none 0 0, .string kOp, .int .i64 4, .bool false, .int .i64 0, .string sPut, .slice none 0 0, .slice none 0 0, .string kVal, .int .i64 k', .bool b', .int .i64 n', .string t', .slice la' l'.length lc', .slice oa' o'.length oc']).below hb4 (Blk.lt (Blk.new _ _ _))).alloc _; have hx4 : HoldsIn (fun i => (i < B0 ∨ w.heap.size < i) ∧ Value.ownBlock (.slice aV (rowQ l q).length cV) ≠ some i) (w4.alloc (.cells #[.int .i64 6, .bool false, .int .i64 0, .string ⟨#[]⟩, .slice none 0 0, .slice (some ⟨w2.heap.size, 0, none⟩) 3 3] 45)) (dV (objQ ⟨1, key, .mk k' b' n' t' l' o'⟩)) [.int .i64 6, .bool false, .int .i64 0, .string ⟨#[]⟩, .slice none 0 0, .slice (some ⟨w2.heap.size, 0, none⟩) 3 3] := obj_in' (o := [(kKey, tv key), (kOp, tv sPut), (kVal, .mk k' b' n' t' l' o')]) Hrow.out (by omega) hxm (Nat.le_trans (Nat.le_refl _) hz2) ((HoldsInA.one (holdsIn_tvP _ _ kKey key)).app ((HoldsInA.one (holdsIn_tvP _ _ kOp sPut)).app (HoldsInA.one (holdsIn_P (old_in Hrow.out Hv.out h0 (by omega) Hw4.out))))) rfl rfl; have HX4 := Lib.hid hx4; have Hrow4 := Lib.hid hrow4; clear hx4 hrow4 hxm hb4))
        all_goals
          obtain ⟨k1, k2, k3⟩ := HG6.out
          have HN : Hid (LX w B0 l (q + 1) w6 V6) := ⟨k2, k3, k1⟩
          clear k1 k2 k3 HG6 HX4 Hrow4 Hw4 Hk4 Hr4 hc6 hf6 hc4 hf4 hc2 hf2 hb2 hbr2 hbr4
          go_wp2
          go_roundw
          case rel => exact ⟨q + 1, by go_num, by omega, HN⟩
          case measure => simp only [intOf]; omega
      have t1 : (k == 1) = false := by simpa using e1
      by_cases e2 : k = 2
      · subst e2
        go_upto_region 11 with (fail)
        go_region_held3 (fun W => W.cell? ⟨w1.heap.size, 0, none⟩ = some (.string kKey) ∧ W.cell? ⟨w1.heap.size, 1, none⟩ = some (.int .i64 4) ∧ W.cell? ⟨w1.heap.size, 2, none⟩ = some (.bool false) ∧ W.cell? ⟨w1.heap.size, 3, none⟩ = some (.int .i64 0) ∧ W.cell? ⟨w1.heap.size, 4, none⟩ = some (.string key) ∧ W.cell? ⟨w1.heap.size, 5, none⟩ = some (.slice none 0 0) ∧ W.cell? ⟨w1.heap.size, 6, none⟩ = some (.slice none 0 0)) (go_keep) (first
          | (refine step_append_X (d := dV (objQ ⟨2, key, .mk k' b' n' t' l' o'⟩)) (V := (.slice aV (rowQ l q).length cV)) (by rfl) (.tmp 47) (.tmp 52) 42 (by rfl) Tryz.underlying42 Hj.out Hy0.out Hy1.out Hy2.out rfl (by omega) (by rfl) Hrow4.out (Nat.le_trans hB1 (Nat.le_trans hbr4.size (by simp))) (dV_cells _) HX4.out (by rfl) (reads_six w4 _ _ _ _ _ _) hLo.out.1 hLo.out.2 ?_; intro V6 w6 hrow6 hg6 hat6; have hk6 := blk_appX Hk4.out hg6 Hrow0.out (.inr hs1); obtain ⟨u0, u1, u2, u3, u4, u5, u6⟩ := mcell hk6; have hw6 := below_appX Hw4.out hg6 Hrow0.out (by omega) Hw4.out.size; obtain ⟨hc6, hf6⟩ := bcellM hw6; have hr6 := blk_appX Hr4.out hg6 Hrow0.out (.inl (by omega)); rw [Htk.out] at hrow6; have HG6 := Lib.hid (And.intro hrow6 (And.intro hw6 hr6)); clear hrow6 hg6 hat6 hw6 hr6 hk6)
          | (go_at_call 45; refine (HP2.out _).mono ?_; rintro e w2 ⟨rfl, hb2⟩; have hbr2 : Below wi.heap.size wi w2 := ((Below.drew (Below.refl _ _)).trans hb2); obtain ⟨hc2, hf2⟩ := bcellM hbr2)
          | (go_at_call 26; refine (HO.out _ _ _ _).mono ?_; rintro e w4 ⟨rfl, hb4⟩; have hz2 := hbr2.size; have hbr4 : Below wi.heap.size wi w4 := (hbr2.alloc hz2 _).trans (hb4.mono (by simp; omega)); obtain ⟨hc4, hf4⟩ := bcellM hbr4; have Hw4 := Lib.hid ((Hwi2.out.trans (hbr4.mono Hwi2.out.size)).alloc (Nat.le_trans Hwi2.out.size hbr4.size) (.cells #[.int .i64 6, .bool false, .int .i64 0, .string ⟨#[]⟩, .slice none 0 0, .slice (some ⟨w2.heap.size, 0, none⟩) 2 2] 45)); have Hk4 := Lib.hid ((Hxk.out.below hbr4 Hxk.out.lt).alloc (.cells #[.int .i64 6, .bool false, .int .i64 0, .string ⟨#[]⟩, .slice none 0 0, .slice (some ⟨w2.heap.size, 0, none⟩) 2 2] 45)); have Hr4 := Lib.hid ((Hres.out.below hbr4 Hres.out.lt).alloc (.cells #[.int .i64 6, .bool false, .int .i64 0, .string ⟨#[]⟩, .slice none 0 0, .slice (some ⟨w2.heap.size, 0, none⟩) 2 2] 45)); have hrow4 := Hrow.out.below (hbr4.alloc hbr4.size (.cells #[.int .i64 6, .bool false, .int .i64 0, .string ⟨#[]⟩, .slice none 0 0, .slice (some ⟨w2.heap.size, 0, none⟩) 2 2] 45)); have hxm : Blk (w4.alloc (.cells #[.int .i64 6, .bool false, .int .i64 0, .string ⟨#[]⟩, .slice none 0 0, .slice (some ⟨w2.heap.size, 0, none⟩) 2 2] 45)) w2.heap.size 60 #[.string kKey, .int .i64 4, .bool false, .int .i64 0, .string key, .slice none 0 0, .slice none 0 0, .string kOp, .int .i64 4, .bool false, .int .i64 0, .string sDel, .slice none 0 0, .slice none 0 0] := ((Blk.new w2 60 #[.string kKey, .int .i64 4, .bool false, .int .i64 0, .string key, .slice none 0 0, .slice none 0 0, .string kOp, .int .i64 4, .bool false, .int .i64 0, .string sDel, .slice none 0 0, .slice none 0 0]).below hb4 (Blk.lt (Blk.new _ _ _))).alloc _; have hx4 : HoldsIn (fun i => (i < B0 ∨ w.heap.size < i) ∧ Value.ownBlock (.slice aV (rowQ l q).length cV) ≠ some i) (w4.alloc (.cells #[.int .i64 6, .bool false, .int .i64 0, .string ⟨#[]⟩, .slice none 0 0, .slice (some ⟨w2.heap.size, 0, none⟩) 2 2] 45)) (dV (objQ ⟨2, key, .mk k' b' n' t' l' o'⟩)) [.int .i64 6, .bool false, .int .i64 0, .string ⟨#[]⟩, .slice none 0 0, .slice (some ⟨w2.heap.size, 0, none⟩) 2 2] := obj_in' (o := [(kKey, tv key), (kOp, tv sDel)]) Hrow.out (by omega) hxm (Nat.le_trans (Nat.le_refl _) hz2) ((HoldsInA.one (holdsIn_tvP _ _ kKey key)).app (HoldsInA.one (holdsIn_tvP _ _ kOp sDel))) rfl rfl; have HX4 := Lib.hid hx4; have Hrow4 := Lib.hid hrow4; clear hx4 hrow4 hxm hb4))
        all_goals
          obtain ⟨k1, k2, k3⟩ := HG6.out
          have HN : Hid (LX w B0 l (q + 1) w6 V6) := ⟨k2, k3, k1⟩
          clear k1 k2 k3 HG6 HX4 Hrow4 Hw4 Hk4 Hr4 hc6 hf6 hc4 hf4 hc2 hf2 hb2 hbr2 hbr4
          go_wp2
          go_roundw
          case rel => exact ⟨q + 1, by go_num, by omega, HN⟩
          case measure => simp only [intOf]; omega
      have t2 : (k == 2) = false := by simpa using e2
      go_wp2_with (first
        | (at_builtin; refine wpList_append_X (d := dV (objQ ⟨k, key, .mk k' b' n' t' l' o'⟩)) (V := (.slice aV (rowQ l q).length cV)) rfl (.tmp 24) (.tmp 28) 42 rfl Tryz.underlying42 Hj.out Hy0.out Hy1.out Hy2.out rfl (by omega) rfl Hrow4.out (Nat.le_trans hB1 (Nat.le_trans hbr4.size (by simp))) (dV_cells _) HX4.out rfl (reads_six w4 _ _ _ _ _ _) hLo.out.1 hLo.out.2 ?_; intro V6 w6 hrow6 hg6 hat6; have hw6 := below_appX Hw4.out hg6 Hrow0.out (by omega) Hw4.out.size; obtain ⟨hc6, hf6⟩ := bcellM hw6; have hr6 := blk_appX Hr4.out hg6 Hrow0.out (.inl (by omega)); rw [Htk.out] at hrow6; have HG6 := Lib.hid (And.intro hrow6 (And.intro hw6 hr6)); clear hrow6 hg6 hat6 hw6 hr6)
        | (go_at_call 45; refine (HP3.out _).mono ?_; rintro e w2 ⟨rfl, hb2⟩; have hbr2 : Below wi.heap.size wi w2 := hb2)
        | (go_at_call 26; refine (HO.out _ _ _ _).mono ?_; rintro e w4 ⟨rfl, hb4⟩; have hz2 := hbr2.size; have hbr4 : Below wi.heap.size wi w4 := (hbr2.alloc hz2 _).trans (hb4.mono (by simp; omega)); obtain ⟨hc4, hf4⟩ := bcellM hbr4; have Hw4 := Lib.hid ((Hwi2.out.trans (hbr4.mono Hwi2.out.size)).alloc (Nat.le_trans Hwi2.out.size hbr4.size) (.cells #[.int .i64 6, .bool false, .int .i64 0, .string ⟨#[]⟩, .slice none 0 0, .slice (some ⟨w2.heap.size, 0, none⟩) 1 1] 45)); have Hk4 := Lib.hid ((Hxk.out.below hbr4 Hxk.out.lt).alloc (.cells #[.int .i64 6, .bool false, .int .i64 0, .string ⟨#[]⟩, .slice none 0 0, .slice (some ⟨w2.heap.size, 0, none⟩) 1 1] 45)); have Hr4 := Lib.hid ((Hres.out.below hbr4 Hres.out.lt).alloc (.cells #[.int .i64 6, .bool false, .int .i64 0, .string ⟨#[]⟩, .slice none 0 0, .slice (some ⟨w2.heap.size, 0, none⟩) 1 1] 45)); have hrow4 := Hrow.out.below (hbr4.alloc hbr4.size (.cells #[.int .i64 6, .bool false, .int .i64 0, .string ⟨#[]⟩, .slice none 0 0, .slice (some ⟨w2.heap.size, 0, none⟩) 1 1] 45)); have hxm : Blk (w4.alloc (.cells #[.int .i64 6, .bool false, .int .i64 0, .string ⟨#[]⟩, .slice none 0 0, .slice (some ⟨w2.heap.size, 0, none⟩) 1 1] 45)) w2.heap.size 60 #[.string kOp, .int .i64 4, .bool false, .int .i64 0, .string sClear, .slice none 0 0, .slice none 0 0] := ((Blk.new w2 60 #[.string kOp, .int .i64 4, .bool false, .int .i64 0, .string sClear, .slice none 0 0, .slice none 0 0]).below hb4 (Blk.lt (Blk.new _ _ _))).alloc _; have hx4 : HoldsIn (fun i => (i < B0 ∨ w.heap.size < i) ∧ Value.ownBlock (.slice aV (rowQ l q).length cV) ≠ some i) (w4.alloc (.cells #[.int .i64 6, .bool false, .int .i64 0, .string ⟨#[]⟩, .slice none 0 0, .slice (some ⟨w2.heap.size, 0, none⟩) 1 1] 45)) (dV (objQ ⟨k, key, .mk k' b' n' t' l' o'⟩)) [.int .i64 6, .bool false, .int .i64 0, .string ⟨#[]⟩, .slice none 0 0, .slice (some ⟨w2.heap.size, 0, none⟩) 1 1] := obj_in' (o := [(kOp, tv sClear)]) Hrow.out (by omega) hxm (Nat.le_trans (Nat.le_refl _) hz2) (HoldsInA.one (holdsIn_tvP _ _ kOp sClear)) rfl (objQ_else _ _ _ e1 e2); have HX4 := Lib.hid hx4; have Hrow4 := Lib.hid hrow4; clear hx4 hrow4 hxm hb4))
      obtain ⟨k1, k2, k3⟩ := HG6.out
      have HN : Hid (LX w B0 l (q + 1) w6 V6) := ⟨k2, k3, k1⟩
      go_roundw
      case rel => exact ⟨q + 1, by go_num, by omega, HN⟩
      case measure => simp only [intOf]; omega
    · obtain rfl : q = l.length := by omega
      have hln : (rowQ l l.length).length = l.length := by unfold rowQ; rw [dL_len, List.length_map, List.take_length]
      obtain ⟨aV, cV, rfl⟩ := hI.out.row.slice_n hln
      obtain ⟨i1, i2, i3⟩ := hI.out
      have hL := fun W => rList_calls aV l.length cV W
      have I1 := Lib.hid i1
      have I2 := Lib.hid i2
      have I3 := Lib.hid i3
      have HL := Lib.hid hL
      have Hln := Lib.hid hln
      clear i1 i2 i3 hL hln
      clear hI
      go_upto_region 12 with (fail)
      go_wp2_with (fail)
      with_reducible refine (HL.out _).mono ?_
      rintro e w2 ⟨rfl, hb2⟩
      have hx2 := I2.out.below hb2 I2.out.lt
      have hbw2 := I1.out.trans (hb2.mono I1.out.size)
      obtain ⟨r0, r1, r2, r3, r4, r5⟩ := vcell hx2
      have fz := hx2.frozen
      have hq := I3.out.closeIn.below hb2
      have hbs := I3.out.base
      have hR2 : w.heap.size < w2.heap.size := hx2.lt
      have Hx2 := Lib.hid hx2
      have Hbw2 := Lib.hid hbw2
      have Hb2 := Lib.hid hb2
      have Hq := Lib.hid hq
      have Hbs := Lib.hid hbs
      clear hx2 hbw2 hb2 hq hbs
      go_wp2
      have hxf := ((((((Hx2.out.set_ 0 (.int .i64 5)).set_ 1 (.bool false)).set_ 2 (.int .i64 0)).set_ 3 (.string ⟨#[]⟩)).set_ 4 (.slice aV l.length cV)).set_ 5 (.slice none 0 0))
      have hbf := setMany_below [.int .i64 5, .bool false, .int .i64 0, .string ⟨#[]⟩, .slice aV l.length cV, .slice none 0 0] Hbw2.out (Nat.le_refl _) (o := 0)
      have hff := fin_list (B0 := B0) (vs := [.int .i64 5, .bool false, .int .i64 0, .string ⟨#[]⟩, .slice aV l.length cV, .slice none 0 0]) (l := l) Hq.out Hbs.out h0
      exact bodyPost_ret (results_cell6 rfl rfl hxf) rfl ⟨hbf, aV, cV, rfl, hff⟩
end Go.Proofs.YtjjbbnodmpemiaaGreatDoor
