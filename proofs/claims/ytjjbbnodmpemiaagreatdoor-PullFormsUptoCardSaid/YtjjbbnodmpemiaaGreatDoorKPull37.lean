/- Parts, joined: patch.object: the object of an op that may be. Condition: a bulk of at most 5 * 10^7. -/
import Derived.Test.YtjjbbnodmpemiaaGreatDoorProg
import Derived.Test.YtjjbbnodmpemiaaGreatDoorKPull8
import Derived.Test.YtjjbbnodmpemiaaGreatDoorKPull21
import Derived.Test.YtjjbbnodmpemiaaGreatDoorKPull24
import Derived.Test.YtjjbbnodmpemiaaGreatDoorKPull34
import Derived.Test.YtjjbbnodmpemiaaGreatDoorKPull35
/- patch.object: the object of an op that may be. Condition: a bulk of at most 5 * 10^7. -/
namespace Go.Proofs.YtjjbbnodmpemiaaGreatDoor
open Go Go.RowKit

/-- The table of the ops' names. -/
def Names (w : World) : Prop := w.cell? ⟨0, 1, none⟩ = some (.string sPut) ∧ w.cell? ⟨0, 2, none⟩ = some (.string sDel) ∧ w.cell? ⟨0, 3, none⟩ = some (.string sClear) ∧ 0 < w.heap.size
theorem Names.below {w w' : World} (h : Names w) (hb : Below w.heap.size w w') : Names w' :=
  ⟨(hb.cell h.2.2.2).trans h.1, (hb.cell h.2.2.2).trans h.2.1, (hb.cell h.2.2.2).trans h.2.2.1, Nat.lt_of_lt_of_le h.2.2.2 hb.size⟩

theorem holds_tvP (w : World) (B : Nat) (key s : ByteArray) : Holds w B (dP (key, tv s)) [.string key, .int .i64 4, .bool false, .int .i64 0, .string s, .slice none 0 0, .slice none 0 0] := by
  have h1 : HoldsV w B (tv s) [.int .i64 4, .bool false, .int .i64 0, .string s, .slice none 0 0, .slice none 0 0] := by
    simp only [tv, HoldsV]
    exact ⟨none, 0, none, 0, rfl, by simp, by simp⟩
  exact ⟨[.string key], _, rfl, ⟨rfl, rfl⟩, _, [], by simp, holds_of_V _ _ h1, rfl⟩
theorem holds_ivP (w : World) (B : Nat) (key : ByteArray) (n : Int) : Holds w B (dP (key, iv n)) [.string key, .int .i64 3, .bool false, .int .i64 n, .string ⟨#[]⟩, .slice none 0 0, .slice none 0 0] := by
  have h1 : HoldsV w B (iv n) [.int .i64 3, .bool false, .int .i64 n, .string ⟨#[]⟩, .slice none 0 0, .slice none 0 0] := by
    simp only [iv, HoldsV]
    exact ⟨none, 0, none, 0, rfl, by simp, by simp⟩
  exact ⟨[.string key], _, rfl, ⟨rfl, rfl⟩, _, [], by simp, holds_of_V _ _ h1, rfl⟩
theorem mem_info : (Tryz.prog.info? 60).map (fun i => (i.zero, i.size, i.bytes)) = some (some (.agg #[.string ⟨#[]⟩, .int .i64 0, .bool false, .int .i64 0, .string ⟨#[]⟩, .slice none 0 0, .slice none 0 0]), 7, 104) := by kernel_rfl

/-- An object of the call's own, given back. -/
def ObjPost (o : List (ByteArray × Val)) (w : World) (e : Ending) (w' : World) : Prop := Below w.heap.size w w' ∧
  ∃ la lc oa oc, e = .returned (.agg #[.int .i64 6, .bool false, .int .i64 0, .string ⟨#[]⟩, .slice la 0 lc, .slice oa o.length oc]) ∧ Fresh w.heap.size w' (dV (ov o)) [.int .i64 6, .bool false, .int .i64 0, .string ⟨#[]⟩, .slice la 0 lc, .slice oa o.length oc]
/-- value.Object of members that may stand so. -/
theorem vobj_ok (o o' : List (ByteArray × Val)) (a : Option Addr) (n c : Nat) (w : World) (h : Holds w w.heap.size (.row 7 (dO o)) [.slice a n c]) (hb : bulkO o ≤ 90000000) (ho : objAll o [] = some o') :
    Calls Tryz.prog 37 #[.slice a n c] w fun e w' => Below w.heap.size w w' ∧ ∃ la lc oa oc, e = .returned (.tuple #[.agg #[.int .i64 6, .bool false, .int .i64 0, .string ⟨#[]⟩, .slice la 0 lc, .slice oa o'.length oc], .int .i64 0]) ∧ Fresh w.heap.size w' (dV (ov o')) [.int .i64 6, .bool false, .int .i64 0, .string ⟨#[]⟩, .slice la 0 lc, .slice oa o'.length oc] := by
  refine (vobj_calls o a n c w h hb).mono ?_
  rintro e w' ⟨hb', ⟨hn, _⟩ | ⟨o2, cs, h2, rfl, hl, hf⟩⟩
  · rw [ho] at hn; cases hn
  · rw [ho] at h2
    cases h2
    have hv := holdsV_of (.mk 6 false 0 ⟨#[]⟩ [] o') _ hf.now
    simp only [HoldsV] at hv
    obtain ⟨la, lc, oa, oc, rfl, _, _⟩ := hv
    exact ⟨hb', la, lc, oa, oc, rfl, hf⟩
theorem clear_obj : objAll [(kOp, tv sClear)] [] = some [(kOp, tv sClear)] := by rfl
theorem del_obj (key : ByteArray) : objAll [(kOp, tv sDel), (kKey, tv key)] [] = some [(kKey, tv key), (kOp, tv sDel)] := by kernel_rfl
theorem put_obj (key : ByteArray) (v : Val) : objAll [(kOp, tv sPut), (kVal, v), (kKey, tv key)] [] = some [(kKey, tv key), (kOp, tv sPut), (kVal, v)] := by kernel_rfl

theorem fin_res {B R b' : Nat} {w0 w2 : World} {o : Obj} {d : D} {cs : List Value} (vs : List Value) (hb : Below B w0 w2) (hBw : B ≤ w2.heap.size) (hR : B ≤ R) (hRb : R < b') (hf : Fresh b' w2 d cs) :
    Below B w0 ((setMany w2 R 0 vs).alloc o) ∧ Fresh B ((setMany w2 R 0 vs).alloc o) d cs := by
  have h1 := setMany_below vs hb hR (o := 0)
  refine ⟨h1.alloc (by rw [setMany_size]; exact hBw) _, ?_⟩
  have h2 : Fresh B (setMany w2 R 0 vs) d cs := hf.keep (by omega) (by rw [setMany_size]; exact Nat.le_refl _) fun p p1 p2 => World.cell?_of_block (setMany_far vs _ _ _ _ (by omega))
  exact h2.later (alloc_below _ _)
/-- A value as the result's variable holds it. -/
theorem results_cell6 {fn : Func} {t : Tmp} {tmps : Array Value} {W : World} {R : Nat} {a0 a1 a2 a3 a4 a5 : Value} (h : fn.results = #[.cell t 45]) (hp : tmps.getD t undef = .pointer (some ⟨R, 0, none⟩)) (hx : Blk W R 45 #[a0, a1, a2, a3, a4, a5]) :
    (results fn tmps).run Tryz.prog W = .ok (.agg #[a0, a1, a2, a3, a4, a5]) W := by
  obtain ⟨c0, c1, c2, c3, c4, c5⟩ := vcell hx
  clear hx
  have hp' : tmps[t]?.getD undef = .pointer (some ⟨R, 0, none⟩) := by simpa using hp
  simp [results, h, hp', go_sem, c0, c1, c2, c3, c4, c5]
theorem size3 {w w1 : World} {o o' : Obj} (h : Below ((w.alloc o).alloc o').heap.size ((w.alloc o).alloc o') w1) : w.heap.size < w1.heap.size ∧ w.heap.size + 1 < w1.heap.size := by
  have := h.size
  simp at this
  omega
/-- The result's variable, behind two calls. -/
theorem res_box {w w1 w2 : World} {o o' : Obj} (hb1 : Below ((w.alloc o).alloc (.cells zero6 45)).heap.size ((w.alloc o).alloc (.cells zero6 45)) w1) (hb2 : Below (w1.alloc o').heap.size (w1.alloc o') w2) : Blk w2 (w.heap.size + 1) 45 zero6 := by
  have h0 : Blk ((w.alloc o).alloc (.cells zero6 45)) (w.heap.size + 1) 45 zero6 := by
    have := Blk.new (w.alloc o) 45 zero6
    rwa [World.size_alloc] at this
  have h1 := (h0.below hb1 h0.lt).alloc o'
  exact h1.below hb2 h1.lt
/-- The op's own member, alone. -/
theorem op_row (W : World) (s : ByteArray) : RowD W.heap.size 60 7 (W.alloc (.cells #[.string kOp, .int .i64 4, .bool false, .int .i64 0, .string s, .slice none 0 0, .slice none 0 0] 60)) (dO [(kOp, tv s)]) (.slice (some ⟨W.heap.size, 0, none⟩) 1 1) :=
  RowD.lit (Nat.le_refl _) rfl (fun w'' B => holds_tvP w'' B kOp s)

set_option maxRecDepth 100000 in
set_option maxHeartbeats 2000000 in
theorem obj_clear (key : ByteArray) (c0 : Int) (c1 : Bool) (c2 : Int) (c3 : ByteArray) (c4a c5a : Option Addr) (c4n c4c c5n c5c : Nat) (w : World) (hN : Names w) :
    Calls Tryz.prog 36 #[.agg #[.int .i64 3, .string key, .int .i64 c0, .bool c1, .int .i64 c2, .string c3, .slice c4a c4n c4c, .slice c5a c5n c5c]] w (ObjPost [(kOp, tv sClear)] w) := by
  obtain ⟨n1, n2, n3, n4⟩ := hN
  have hO := fun (W : World) a n c h => vobj_ok [(kOp, tv sClear)] _ a n c W h (by decide) clear_obj
  have hX := fun W => textual_calls sClear W
  have hR := fun (W : World) => op_row W sClear
  have HO := Lib.hid hO
  have HX := Lib.hid hX
  have HR := Lib.hid hR
  clear hO hX hR
  go_enter Tryz.func36, Tryz.ntmps36
  go_wp2_with (first
    | (go_at_call 55; (with_reducible refine (HX.out _).mono ?_); rintro e w1 ⟨rfl, hb1⟩; obtain ⟨hc1, hf1⟩ := bcell hb1; obtain ⟨hz0, hz1⟩ := size3 hb1)
    | (fail))
  with_reducible refine (HO.out _ _ _ _ (HR.out w1).now).mono ?_
  rintro e w2 ⟨hb2, la, lc, oa, oc, rfl, hf2⟩
  have hz2 : w1.heap.size < w2.heap.size := by have := hb2.size; simp at this; omega
  have hz4 : w.heap.size + 1 < w2.heap.size := by omega
  have hx2 := res_box hb1 hb2
  obtain ⟨r0, r1, r2, r3, r4, r5⟩ := vcell hx2
  have fz := hx2.frozen
  have Hx2 := Lib.hid hx2
  have Hb1 := Lib.hid hb1
  have Hb2 := Lib.hid hb2
  have Hf2 := Lib.hid hf2
  clear hx2 hb1 hb2 hf2
  clear hc1 hf1 n1 n2 n3 n4 HO HX HR
  go_upto_region 8 with (fail)
  repeat go_step
  have hB2 : Below w.heap.size w w2 := (((((Below.refl w.heap.size w).alloc (Nat.le_refl _) _).alloc (by simp) _).trans (Hb1.out.mono (by simp; omega))).alloc (by omega) _).trans (Hb2.out.mono (by simp; omega))
  obtain ⟨q1, q2⟩ := fin_res (R := w.heap.size + 1) (o := .cells #[.int .i64 6, .bool false, .int .i64 0, .string ⟨#[]⟩, .slice la 0 lc, .slice oa 1 oc] 45) [.int .i64 6, .bool false, .int .i64 0, .string ⟨#[]⟩, .slice la 0 lc, .slice oa 1 oc] hB2 (by omega) (by omega) (by simp; omega) Hf2.out
  have hxf := ((((((Hx2.out.set_ 0 (.int .i64 6)).set_ 1 (.bool false)).set_ 2 (.int .i64 0)).set_ 3 (.string ⟨#[]⟩)).set_ 4 (.slice la 0 lc)).set_ 5 (.slice oa 1 oc)).alloc (.cells #[.int .i64 6, .bool false, .int .i64 0, .string ⟨#[]⟩, .slice la 0 lc, .slice oa 1 oc] 45)
  exact bodyPost_ret (results_cell6 rfl rfl hxf) rfl ⟨q1, la, lc, oa, oc, rfl, q2⟩

theorem RowD.slice_n {b : Nat} {t : TypeId} {s n : Nat} {wr : World} {l : List D} {V : Value} (h : RowD b t s wr l V) (hn : l.length = n) : ∃ a c, V = .slice a n c := by
  subst hn; exact h.slice
theorem blk_app {w w6 : World} {R b : Nat} {t e : TypeId} {sz : Nat} {l : List D} {V : Value} {cs : Array Value} {wr : World} (h : Blk w R t cs) (hg : w.grownBy w6 V.ownBlock) (hr : RowD b e sz wr l V) (hR : R < b) : Blk w6 R t cs :=
  h.grown hg fun e => by have := (hr.base R e.symm).1; omega
theorem below_app {w w6 : World} {B b : Nat} {e : TypeId} {sz : Nat} {l : List D} {V : Value} {w0 wr : World} (h : Below B w0 w) (hg : w.grownBy w6 V.ownBlock) (hr : RowD b e sz wr l V) (hB : B ≤ b) (hBw : B ≤ w.heap.size) : Below B w0 w6 :=
  h.grown hg hBw fun k hk => Nat.le_trans hB (hr.base k hk).1
theorem fresh_tvP (b : Nat) (w : World) (key s : ByteArray) : Fresh b w (dP (key, tv s)) [.string key, .int .i64 4, .bool false, .int .i64 0, .string s, .slice none 0 0, .slice none 0 0] := fun _ _ _ => holds_tvP _ _ _ _
theorem reads_seven (w : World) (a0 a1 a2 a3 a4 a5 a6 : Value) : Reads (w.alloc (.cells #[a0, a1, a2, a3, a4, a5, a6] 60)) (w.heap.size + 1) 7 (some ⟨w.heap.size, 0, none⟩) 1 [a0, a1, a2, a3, a4, a5, a6] := reads_one (Blk.new w 60 #[a0, a1, a2, a3, a4, a5, a6])
theorem below_two (w : World) (o o' : Obj) : Below w.heap.size w ((w.alloc o).alloc o') := ((Below.refl w.heap.size w).alloc (Nat.le_refl _) _).alloc (by simp) _

set_option maxRecDepth 100000 in
set_option maxHeartbeats 2000000 in
theorem obj_del (key : ByteArray) (hkey : key.size ≤ 1000) (c0 : Int) (c1 : Bool) (c2 : Int) (c3 : ByteArray) (c4a c5a : Option Addr) (c4n c4c c5n c5c : Nat) (w : World) (hN : Names w) :
    Calls Tryz.prog 36 #[.agg #[.int .i64 2, .string key, .int .i64 c0, .bool c1, .int .i64 c2, .string c3, .slice c4a c4n c4c, .slice c5a c5n c5c]] w (ObjPost [(kKey, tv key), (kOp, tv sDel)] w) := by
  obtain ⟨n1, n2, n3, n4⟩ := hN
  obtain ⟨j0, hj, hy0, hy1, hy2⟩ := info_parts mem_info
  have hO := fun (W : World) a n c h => vobj_ok [(kOp, tv sDel), (kKey, tv key)] _ a n c W h (by have e1 : nil0.size = 0 := rfl; have e2 : kKey.size = 3 := rfl; have e3 : kOp.size = 2 := rfl; have e6 : sDel.size = 3 := rfl; simp only [bulkO, bulkP, tv, Val.bulk, bulkL, e2, e3, e6]; omega) (del_obj key)
  have hX := fun W => textual_calls sDel W
  have hY := fun W => textual_calls key W
  have hR := fun (W : World) => op_row W sDel
  have HO := Lib.hid hO
  have HX := Lib.hid hX
  have HR := Lib.hid hR
  have Hj := Lib.hid hj
  have Hy0 := Lib.hid hy0
  have Hy1 := Lib.hid hy1
  have Hy2 := Lib.hid hy2
  have HY := Lib.hid hY
  clear hO hX hR hj hy0 hy1 hy2 hY
  go_enter Tryz.func36, Tryz.ntmps36
  go_wp2_with (first
    | (go_at_call 55; (with_reducible refine (HX.out _).mono ?_); rintro e w1 ⟨rfl, hb1⟩; obtain ⟨hc1, hf1⟩ := bcell hb1; obtain ⟨hz0, hz1⟩ := size3 hb1; have HXd := HX; clear HX)
    | (fail))
  have hq2 := below_two w (.cells #[.int .i64 2, .string key, .int .i64 c0, .bool c1, .int .i64 c2, .string c3, .slice c4a c4n c4c, .slice c5a c5n c5c] 54) (.cells zero6 45)
  have hx1 : Blk (w1.alloc (.cells #[.string kOp, .int .i64 4, .bool false, .int .i64 0, .string sDel, .slice none 0 0, .slice none 0 0] 60)) (w.heap.size + 1) 45 zero6 := res_box (w1 := w1) hb1 (Below.refl _ _)
  have hw1 : Below w.heap.size w (w1.alloc (.cells #[.string kOp, .int .i64 4, .bool false, .int .i64 0, .string sDel, .slice none 0 0, .slice none 0 0] 60)) := (hq2.trans (hb1.mono hq2.size)).alloc (by omega) _
  have Hq2 := Lib.hid hq2
  have Hx1 := Lib.hid hx1
  have Hw1 := Lib.hid hw1
  have Hb1 := Lib.hid hb1
  clear hq2 hx1 hw1 hb1
  go_at_call 55
  with_reducible refine (HY.out _).mono ?_
  rintro e w2 ⟨rfl, hb2⟩
  have hs2 : w1.heap.size + 1 ≤ w2.heap.size := by have := hb2.size; simpa using this
  have hx2 := (Hx1.out.below hb2 Hx1.out.lt).alloc (.cells #[.string kKey, .int .i64 4, .bool false, .int .i64 0, .string key, .slice none 0 0, .slice none 0 0] 60)
  have hw2 := (Hw1.out.trans (hb2.mono Hw1.out.size)).alloc (by omega) (.cells #[.string kKey, .int .i64 4, .bool false, .int .i64 0, .string key, .slice none 0 0, .slice none 0 0] 60)
  have hbe := hb2.alloc hb2.size (.cells #[.string kKey, .int .i64 4, .bool false, .int .i64 0, .string key, .slice none 0 0, .slice none 0 0] 60)
  have Hx2 := Lib.hid hx2
  have Hw2 := Lib.hid hw2
  have Hb2 := Lib.hid hb2
  have Hbe := Lib.hid hbe
  clear hx2 hw2 hb2 hbe
  clear hc1 hf1 n1 n2 n3
  go_wp2_with (at_builtin; refine wpList_append_D (V := .slice (some ⟨w1.heap.size, 0, none⟩) 1 1) rfl (.tmp 26) (.tmp 31) 43 rfl Tryz.underlying43 Hj.out Hy0.out Hy1.out Hy2.out rfl (by omega) rfl (HR.out w1) (by simp) Hbe.out (dP_cells (kKey, tv key)) (fresh_tvP _ _ kKey key) rfl (reads_seven w2 _ _ _ _ _ _ _) (by simp [maxLen, dO]) (by simp [dO]) ?_; intro V6 w6 hrow6 hg6 hat6)
  have hx6 := blk_app Hx2.out hg6 (HR.out w1) (by omega)
  have hw6 := below_app Hw2.out hg6 (HR.out w1) (by omega) (by simp; omega)
  obtain ⟨a6, c6, rfl⟩ := hrow6.slice_n (n := 2) rfl
  have hN6 : Holds w6 w6.heap.size (.row 7 (dO [(kOp, tv sDel), (kKey, tv key)])) [.slice a6 2 c6] := RowD.now (l := dO [(kOp, tv sDel), (kKey, tv key)]) hrow6
  have hs6 : w2.heap.size + 1 ≤ w6.heap.size := by have := hg6.size; simpa using this
  have Hx6 := Lib.hid hx6
  have Hw6 := Lib.hid hw6
  have HN6 := Lib.hid hN6
  clear hx6 hw6 hN6
  clear hrow6 hg6 hat6
  with_reducible refine (HO.out _ _ _ _ HN6.out).mono ?_
  rintro e w7 ⟨hb7, la, lc, oa, oc, rfl, hf7⟩
  have hs7 := hb7.size
  have hz4 : w.heap.size + 1 < w7.heap.size := by omega
  have hx7 := Hx6.out.below hb7 Hx6.out.lt
  obtain ⟨r0, r1, r2, r3, r4, r5⟩ := vcell hx7
  have fz := hx7.frozen
  have Hx7 := Lib.hid hx7
  have Hb7 := Lib.hid hb7
  have Hf7 := Lib.hid hf7
  clear hx7 hb7 hf7
  clear n4 HO HXd HR HY
  go_upto_region 8 with (fail)
  repeat go_step
  have hB2 := Hw6.out.trans (Hb7.out.mono Hw6.out.size)
  obtain ⟨q1, q2⟩ := fin_res (R := w.heap.size + 1) (o := .cells #[.int .i64 6, .bool false, .int .i64 0, .string ⟨#[]⟩, .slice la 0 lc, .slice oa 2 oc] 45) [.int .i64 6, .bool false, .int .i64 0, .string ⟨#[]⟩, .slice la 0 lc, .slice oa 2 oc] hB2 (by omega) (by omega) (by omega) Hf7.out
  have hxf := ((((((Hx7.out.set_ 0 (.int .i64 6)).set_ 1 (.bool false)).set_ 2 (.int .i64 0)).set_ 3 (.string ⟨#[]⟩)).set_ 4 (.slice la 0 lc)).set_ 5 (.slice oa 2 oc)).alloc (.cells #[.int .i64 6, .bool false, .int .i64 0, .string ⟨#[]⟩, .slice la 0 lc, .slice oa 2 oc] 45)
  exact bodyPost_ret (results_cell6 rfl rfl hxf) rfl ⟨q1, la, lc, oa, oc, rfl, q2⟩

/-- The op's variable, behind a call. -/
theorem op_box {w w1 : World} {cs : Array Value} {o' o'' : Obj} (hb1 : Below ((w.alloc (.cells cs 54)).alloc o').heap.size ((w.alloc (.cells cs 54)).alloc o') w1) : Blk (w1.alloc o'') w.heap.size 54 cs := by
  have h0 : Blk ((w.alloc (.cells cs 54)).alloc o') w.heap.size 54 cs := (Blk.new _ _ _).alloc _
  exact (h0.below hb1 h0.lt).alloc _

set_option maxRecDepth 100000 in
set_option maxHeartbeats 4000000 in
theorem obj_put (key : ByteArray) (hkey : key.size ≤ 1000) (k' : Int) (b' : Bool) (n' : Int) (t' : ByteArray) (l' : List Val) (o' : List (ByteArray × Val)) (la' oa' : Option Addr) (lc' oc' : Nat) (w : World) (hN : Names w)
    (hv : HoldsV w w.heap.size (.mk k' b' n' t' l' o') [.int .i64 k', .bool b', .int .i64 n', .string t', .slice la' l'.length lc', .slice oa' o'.length oc']) (hb : (Val.mk k' b' n' t' l' o').bulk ≤ 80000000) :
    Calls Tryz.prog 36 #[.agg #[.int .i64 1, .string key, .int .i64 k', .bool b', .int .i64 n', .string t', .slice la' l'.length lc', .slice oa' o'.length oc']] w (ObjPost [(kKey, tv key), (kOp, tv sPut), (kVal, .mk k' b' n' t' l' o')] w) := by
  obtain ⟨n1, n2, n3, n4⟩ := hN
  obtain ⟨j0, hj, hy0, hy1, hy2⟩ := info_parts mem_info
  have hO := fun (W : World) a n c h => vobj_ok [(kOp, tv sPut), (kVal, .mk k' b' n' t' l' o'), (kKey, tv key)] _ a n c W h (by
    have e1 : nil0.size = 0 := rfl
    have e2 : kKey.size = 3 := rfl
    have e3 : kOp.size = 2 := rfl
    have e4 : kVal.size = 5 := rfl
    have e6 : sPut.size = 3 := rfl
    have e7 : (tv sPut).bulk = 9 := rfl
    have e8 : (tv key).bulk = 6 + key.size := by simp [tv, Val.bulk, bulkL, bulkO]
    simp only [bulkO, bulkP, e2, e3, e4, e7, e8]
    omega) (put_obj key _)
  have hX := fun W => textual_calls sPut W
  have hY := fun W => textual_calls key W
  have hR := fun (W : World) => op_row W sPut
  have hVC : ∀ W, Below w.heap.size w W → Calls Tryz.prog 56 #[.agg #[.int .i64 k', .bool b', .int .i64 n', .string t', .slice la' l'.length lc', .slice oa' o'.length oc']] W fun e w' => Below W.heap.size W w' ∧ ∃ la2 lc2 oa2 oc2, e = .returned (.agg #[.int .i64 k', .bool b', .int .i64 n', .string t', .slice la2 l'.length lc2, .slice oa2 o'.length oc2]) ∧ Fresh W.heap.size w' (dV (.mk k' b' n' t' l' o')) [.int .i64 k', .bool b', .int .i64 n', .string t', .slice la2 l'.length lc2, .slice oa2 o'.length oc2] := by
    intro W hW
    refine (vcopy_calls _ _ W (HoldsV.more hW.size _ _ (hv.below hW)) (by omega)).mono ?_
    rintro e w' ⟨⟨cs, rfl, hl, hf⟩, hb'⟩
    have hh := holdsV_of _ _ hf.now
    simp only [HoldsV] at hh
    obtain ⟨la2, lc2, oa2, oc2, rfl, _, _⟩ := hh
    exact ⟨hb', la2, lc2, oa2, oc2, rfl, hf⟩
  have HO := Lib.hid hO
  have HX := Lib.hid hX
  have HR := Lib.hid hR
  have Hj := Lib.hid hj
  have Hy0 := Lib.hid hy0
  have Hy1 := Lib.hid hy1
  have Hy2 := Lib.hid hy2
  have HY := Lib.hid hY
  have HVC := Lib.hid hVC
  have Hv := Lib.hid hv
  clear hO hX hR hj hy0 hy1 hy2 hY hVC hv
  go_enter Tryz.func36, Tryz.ntmps36
  go_wp2_with (first
    | (go_at_call 55; (with_reducible refine (HX.out _).mono ?_); rintro e w1 ⟨rfl, hb1⟩; obtain ⟨hc1, hf1⟩ := bcell hb1; obtain ⟨hz0, hz1⟩ := size3 hb1; have HXd := HX; clear HX)
    | (fail))
  have hq2 := below_two w (.cells #[.int .i64 1, .string key, .int .i64 k', .bool b', .int .i64 n', .string t', .slice la' l'.length lc', .slice oa' o'.length oc'] 54) (.cells zero6 45)
  have hx1 : Blk (w1.alloc (.cells #[.string kOp, .int .i64 4, .bool false, .int .i64 0, .string sPut, .slice none 0 0, .slice none 0 0] 60)) (w.heap.size + 1) 45 zero6 := res_box (w1 := w1) hb1 (Below.refl _ _)
  have ho1 : Blk (w1.alloc (.cells #[.string kOp, .int .i64 4, .bool false, .int .i64 0, .string sPut, .slice none 0 0, .slice none 0 0] 60)) w.heap.size 54 #[.int .i64 1, .string key, .int .i64 k', .bool b', .int .i64 n', .string t', .slice la' l'.length lc', .slice oa' o'.length oc'] := op_box hb1
  have hw1 : Below w.heap.size w (w1.alloc (.cells #[.string kOp, .int .i64 4, .bool false, .int .i64 0, .string sPut, .slice none 0 0, .slice none 0 0] 60)) := (hq2.trans (hb1.mono hq2.size)).alloc (by omega) _
  have Hq2 := Lib.hid hq2
  have Hx1 := Lib.hid hx1
  have Hw1 := Lib.hid hw1
  have Hb1 := Lib.hid hb1
  have Ho1 := Lib.hid ho1
  clear hq2 hx1 hw1 hb1 ho1
  go_at_call 56
  with_reducible refine (HVC.out _ Hw1.out).mono ?_
  rintro e w2 ⟨hb2, la2, lc2, oa2, oc2, rfl, hf2⟩
  have hs2 : w1.heap.size + 1 ≤ w2.heap.size := by have := hb2.size; simpa using this
  have hx2 := (Hx1.out.below hb2 Hx1.out.lt).alloc (.cells #[.string kVal, .int .i64 k', .bool b', .int .i64 n', .string t', .slice la2 l'.length lc2, .slice oa2 o'.length oc2] 60)
  have ho2 := (Ho1.out.below hb2 Ho1.out.lt).alloc (.cells #[.string kVal, .int .i64 k', .bool b', .int .i64 n', .string t', .slice la2 l'.length lc2, .slice oa2 o'.length oc2] 60)
  have hw2 := (Hw1.out.trans (hb2.mono Hw1.out.size)).alloc (by omega) (.cells #[.string kVal, .int .i64 k', .bool b', .int .i64 n', .string t', .slice la2 l'.length lc2, .slice oa2 o'.length oc2] 60)
  have hbe := hb2.alloc hb2.size (.cells #[.string kVal, .int .i64 k', .bool b', .int .i64 n', .string t', .slice la2 l'.length lc2, .slice oa2 o'.length oc2] 60)
  have hfe := (dP_fresh (key := kVal) hf2).later (alloc_below w2 (.cells #[.string kVal, .int .i64 k', .bool b', .int .i64 n', .string t', .slice la2 l'.length lc2, .slice oa2 o'.length oc2] 60))
  have Hx2 := Lib.hid hx2
  have Hw2 := Lib.hid hw2
  have Hb2 := Lib.hid hb2
  have Hbe := Lib.hid hbe
  have Ho2 := Lib.hid ho2
  have Hf2 := Lib.hid hf2
  have Hfe := Lib.hid hfe
  clear hx2 hw2 hb2 hbe ho2 hf2 hfe
  clear hc1 hf1 n1 n2 n3
  go_wp2_with (at_builtin; refine wpList_append_D (V := .slice (some ⟨w1.heap.size, 0, none⟩) 1 1) rfl (.tmp 19) (.tmp 24) 43 rfl Tryz.underlying43 Hj.out Hy0.out Hy1.out Hy2.out rfl (by omega) rfl (HR.out w1) (by simp) Hbe.out (dP_cells (kVal, .mk k' b' n' t' l' o')) Hfe.out rfl (reads_seven w2 _ _ _ _ _ _ _) (by simp [maxLen, dO]) (by simp [dO]) ?_; intro V6 w6 hrow6 hg6 hat6; obtain ⟨_, e6, _⟩ := ocell (blk_app Ho2.out hg6 (HR.out w1) (by omega)))
  have hx6 := blk_app Hx2.out hg6 (HR.out w1) (by omega)
  have hw6 := below_app Hw2.out hg6 (HR.out w1) (by omega) (by simp; omega)
  have hs6 : w2.heap.size + 1 ≤ w6.heap.size := by have := hg6.size; simpa using this
  have Hx6 := Lib.hid hx6
  have Hw6 := Lib.hid hw6
  have Hrow6 := Lib.hid hrow6
  have Hg6 := Lib.hid hg6
  have Hat6 := Lib.hid hat6
  clear hx6 hw6 hrow6 hg6 hat6
  go_at_call 55
  with_reducible refine (HY.out _).mono ?_
  rintro e w7 ⟨rfl, hb7⟩
  have hs7 := hb7.size
  have hx7 := (Hx6.out.below hb7 Hx6.out.lt).alloc (.cells #[.string kKey, .int .i64 4, .bool false, .int .i64 0, .string key, .slice none 0 0, .slice none 0 0] 60)
  have hw7 := (Hw6.out.trans (hb7.mono Hw6.out.size)).alloc (by omega) (.cells #[.string kKey, .int .i64 4, .bool false, .int .i64 0, .string key, .slice none 0 0, .slice none 0 0] 60)
  have hbe7 := hb7.alloc hb7.size (.cells #[.string kKey, .int .i64 4, .bool false, .int .i64 0, .string key, .slice none 0 0, .slice none 0 0] 60)
  have Hx7 := Lib.hid hx7
  have Hw7 := Lib.hid hw7
  have Hb7 := Lib.hid hb7
  have Hbe7 := Lib.hid hbe7
  clear hx7 hw7 hb7 hbe7
  go_wp2_with (at_builtin; refine wpList_append_D (V := V6) rfl (.tmp 26) (.tmp 31) 43 rfl Tryz.underlying43 Hj.out Hy0.out Hy1.out Hy2.out rfl (by omega) rfl Hrow6.out (by omega) Hbe7.out (dP_cells (kKey, tv key)) (fresh_tvP _ _ kKey key) rfl (reads_seven w7 _ _ _ _ _ _ _) (by simp [maxLen, dO]) (by simp [dO]) ?_; intro V9 w9 hrow9 hg9 hat9)
  have hx9 := blk_app Hx7.out hg9 Hrow6.out (by omega)
  have hw9 := below_app Hw7.out hg9 Hrow6.out (by omega) (by simp; omega)
  have hs9 : w7.heap.size + 1 ≤ w9.heap.size := by have := hg9.size; simpa using this
  obtain ⟨a9, c9, rfl⟩ := hrow9.slice_n (n := 3) rfl
  have hN9 : Holds w9 w9.heap.size (.row 7 (dO [(kOp, tv sPut), (kVal, .mk k' b' n' t' l' o'), (kKey, tv key)])) [.slice a9 3 c9] := RowD.now (l := dO [(kOp, tv sPut), (kVal, .mk k' b' n' t' l' o'), (kKey, tv key)]) hrow9
  have Hx9 := Lib.hid hx9
  have Hw9 := Lib.hid hw9
  have HN9 := Lib.hid hN9
  clear hx9 hw9 hN9
  clear hrow9 hg9 hat9
  with_reducible refine (HO.out _ _ _ _ HN9.out).mono ?_
  rintro e wa ⟨hba, la, lc, oa, oc, rfl, hfa⟩
  have hsa := hba.size
  have hz4 : w.heap.size + 1 < wa.heap.size := by omega
  have hxa := Hx9.out.below hba Hx9.out.lt
  obtain ⟨r0, r1, r2, r3, r4, r5⟩ := vcell hxa
  have fz := hxa.frozen
  have Hxa := Lib.hid hxa
  have Hba := Lib.hid hba
  have Hfa := Lib.hid hfa
  clear hxa hba hfa
  clear n4 HO HXd HR HY HVC e6
  go_upto_region 8 with (fail)
  repeat go_step
  have hB2 := Hw9.out.trans (Hba.out.mono Hw9.out.size)
  obtain ⟨q1, q2⟩ := fin_res (R := w.heap.size + 1) (o := .cells #[.int .i64 6, .bool false, .int .i64 0, .string ⟨#[]⟩, .slice la 0 lc, .slice oa 3 oc] 45) [.int .i64 6, .bool false, .int .i64 0, .string ⟨#[]⟩, .slice la 0 lc, .slice oa 3 oc] hB2 (by omega) (by omega) (by omega) Hfa.out
  have hxf := ((((((Hxa.out.set_ 0 (.int .i64 6)).set_ 1 (.bool false)).set_ 2 (.int .i64 0)).set_ 3 (.string ⟨#[]⟩)).set_ 4 (.slice la 0 lc)).set_ 5 (.slice oa 3 oc)).alloc (.cells #[.int .i64 6, .bool false, .int .i64 0, .string ⟨#[]⟩, .slice la 0 lc, .slice oa 3 oc] 45)
  exact bodyPost_ret (results_cell6 rfl rfl hxf) rfl ⟨q1, la, lc, oa, oc, rfl, q2⟩
end Go.Proofs.YtjjbbnodmpemiaaGreatDoor
