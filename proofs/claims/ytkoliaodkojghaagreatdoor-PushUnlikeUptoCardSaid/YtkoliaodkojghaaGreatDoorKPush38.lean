/- Parts, joined: Objects of the call's own, given back: laws that all encoders use. Condition: a bulk of at most 9 * 10^7. The reference's own values: Int, Text, Object, List; rows that share old memory. No condition. -/
import Derived.Test.YtkoliaodkojghaaGreatDoorProg
import Derived.Test.YtkoliaodkojghaaGreatDoorKPush12
import Derived.Test.YtkoliaodkojghaaGreatDoorKPush19
import Derived.Test.YtkoliaodkojghaaGreatDoorKPush21
import Derived.Test.YtkoliaodkojghaaGreatDoorKPush24
import Derived.Test.YtkoliaodkojghaaGreatDoorKPush28
import Derived.Test.YtkoliaodkojghaaGreatDoorKPush33
import Derived.Test.YtkoliaodkojghaaGreatDoorKPush36
/- Objects of the call's own, given back: laws that all encoders use. Condition: a bulk of at most 9 * 10^7. -/
namespace Go.Proofs.YtkoliaodkojghaaGreatDoor
open Go Go.RowKit

theorem holds_tvP (w : World) (B : Nat) (key s : ByteArray) : Holds w B (dP (key, tv s)) [.string key, .int .i64 4, .bool false, .int .i64 0, .string s, .slice none 0 0, .slice none 0 0] := by
  have h1 : HoldsV w B (tv s) [.int .i64 4, .bool false, .int .i64 0, .string s, .slice none 0 0, .slice none 0 0] := by
    simp only [tv, HoldsV]
    exact ⟨none, 0, none, 0, rfl, by simp, by simp⟩
  exact ⟨[.string key], _, rfl, ⟨rfl, rfl⟩, _, [], by simp, holds_of_V _ _ h1, rfl⟩
theorem holds_ivP (w : World) (B : Nat) (key : ByteArray) (n : Int) : Holds w B (dP (key, iv n)) [.string key, .int .i64 3, .bool false, .int .i64 n, .string ⟨#[]⟩, .slice none 0 0, .slice none 0 0] := by
  have h1 : HoldsV w B (iv n) [.int .i64 3, .bool false, .int .i64 n, .string ⟨#[]⟩, .slice none 0 0, .slice none 0 0] := by
    simp only [iv, HoldsV]
    exact ⟨none, 0, none, 0, rfl, by simp, by simp⟩
  exact ⟨[.string key], _, rfl, ⟨rfl, rfl⟩, _, [], by simp, holds_of_V _ _ h1, rfl⟩
theorem mem_info : (Tryz.prog.info? 72).map (fun i => (i.zero, i.size, i.bytes)) = some (some (.agg #[.string ⟨#[]⟩, .int .i64 0, .bool false, .int .i64 0, .string ⟨#[]⟩, .slice none 0 0, .slice none 0 0]), 7, 104) := by kernel_rfl
/-- An object of the call's own, given back. -/
def ObjPost (o : List (ByteArray × Val)) (w : World) (e : Ending) (w' : World) : Prop := Below w.heap.size w w' ∧
  ∃ la lc oa oc, e = .returned (.agg #[.int .i64 6, .bool false, .int .i64 0, .string ⟨#[]⟩, .slice la 0 lc, .slice oa o.length oc]) ∧ Fresh w.heap.size w' (dV (ov o)) [.int .i64 6, .bool false, .int .i64 0, .string ⟨#[]⟩, .slice la 0 lc, .slice oa o.length oc]
/-- value.Object of members that may stand so. -/
theorem vobj_ok (o o' : List (ByteArray × Val)) (a : Option Addr) (n c : Nat) (w : World) (h : Holds w w.heap.size (.row 7 (dO o)) [.slice a n c]) (hb : bulkO o ≤ 90000000) (ho : objAll o [] = some o') :
    Calls Tryz.prog 34 #[.slice a n c] w fun e w' => Below w.heap.size w w' ∧ ∃ la lc oa oc, e = .returned (.tuple #[.agg #[.int .i64 6, .bool false, .int .i64 0, .string ⟨#[]⟩, .slice la 0 lc, .slice oa o'.length oc], .int .i64 0]) ∧ Fresh w.heap.size w' (dV (ov o')) [.int .i64 6, .bool false, .int .i64 0, .string ⟨#[]⟩, .slice la 0 lc, .slice oa o'.length oc] := by
  refine (vobj_calls o a n c w h hb).mono ?_
  rintro e w' ⟨hb', ⟨hn, _⟩ | ⟨o2, cs, h2, rfl, hl, hf⟩⟩
  · rw [ho] at hn; cases hn
  · rw [ho] at h2
    cases h2
    have hv := holdsV_of (.mk 6 false 0 ⟨#[]⟩ [] o') _ hf.now
    simp only [HoldsV] at hv
    obtain ⟨la, lc, oa, oc, rfl, _, _⟩ := hv
    exact ⟨hb', la, lc, oa, oc, rfl, hf⟩
theorem fin_res {B R b' : Nat} {w0 w2 : World} {o : Obj} {d : D} {cs : List Value} (vs : List Value) (hb : Below B w0 w2) (hBw : B ≤ w2.heap.size) (hR : B ≤ R) (hRb : R < b') (hf : Fresh b' w2 d cs) :
    Below B w0 ((setMany w2 R 0 vs).alloc o) ∧ Fresh B ((setMany w2 R 0 vs).alloc o) d cs := by
  have h1 := setMany_below vs hb hR (o := 0)
  refine ⟨h1.alloc (by rw [setMany_size]; exact hBw) _, ?_⟩
  have h2 : Fresh B (setMany w2 R 0 vs) d cs := hf.keep (by omega) (by rw [setMany_size]; exact Nat.le_refl _) fun p p1 p2 => World.cell?_of_block (setMany_far vs _ _ _ _ (by omega))
  exact h2.later (alloc_below _ _)
/-- A value as the result's variable holds it. -/
theorem results_cell6 {fn : Func} {t : Tmp} {tmps : Array Value} {W : World} {R : Nat} {a0 a1 a2 a3 a4 a5 : Value} (h : fn.results = #[.cell t 45]) (hp : tmps.getD t undef = .pointer (some ⟨R, 0, none⟩)) (hx : Blk W R 45 #[a0, a1, a2, a3, a4, a5]) :
    (results fn tmps).run Tryz.prog W = .ok (.agg #[a0, a1, a2, a3, a4, a5]) W := by
  obtain ⟨c0, c1, c2, c3, c4, c5⟩ := vcell hx
  clear hx
  have hp' : tmps[t]?.getD undef = .pointer (some ⟨R, 0, none⟩) := by simpa using hp
  simp [results, h, hp', go_sem, c0, c1, c2, c3, c4, c5]
theorem size3 {w w1 : World} {o o' : Obj} (h : Below ((w.alloc o).alloc o').heap.size ((w.alloc o).alloc o') w1) : w.heap.size < w1.heap.size ∧ w.heap.size + 1 < w1.heap.size := by
  have := h.size
  simp at this
  omega
/-- The result's variable, behind two calls. -/
theorem res_box {w w1 w2 : World} {o o' : Obj} (hb1 : Below ((w.alloc o).alloc (.cells zero6 45)).heap.size ((w.alloc o).alloc (.cells zero6 45)) w1) (hb2 : Below (w1.alloc o').heap.size (w1.alloc o') w2) : Blk w2 (w.heap.size + 1) 45 zero6 := by
  have h0 : Blk ((w.alloc o).alloc (.cells zero6 45)) (w.heap.size + 1) 45 zero6 := by
    have := Blk.new (w.alloc o) 45 zero6
    rwa [World.size_alloc] at this
  have h1 := (h0.below hb1 h0.lt).alloc o'
  exact h1.below hb2 h1.lt
/-- The op's own member, alone. -/
theorem op_row (W : World) (s : ByteArray) : RowD W.heap.size 72 7 (W.alloc (.cells #[.string kOp, .int .i64 4, .bool false, .int .i64 0, .string s, .slice none 0 0, .slice none 0 0] 72)) (dO [(kOp, tv s)]) (.slice (some ⟨W.heap.size, 0, none⟩) 1 1) :=
  RowD.lit (Nat.le_refl _) rfl (fun w'' B => holds_tvP w'' B kOp s)
theorem RowD.slice_n {b : Nat} {t : TypeId} {s n : Nat} {wr : World} {l : List D} {V : Value} (h : RowD b t s wr l V) (hn : l.length = n) : ∃ a c, V = .slice a n c := by
  subst hn; exact h.slice
theorem blk_app {w w6 : World} {R b : Nat} {t e : TypeId} {sz : Nat} {l : List D} {V : Value} {cs : Array Value} {wr : World} (h : Blk w R t cs) (hg : w.grownBy w6 V.ownBlock) (hr : RowD b e sz wr l V) (hR : R < b) : Blk w6 R t cs :=
  h.grown hg fun e => by have := (hr.base R e.symm).1; omega
theorem below_app {w w6 : World} {B b : Nat} {e : TypeId} {sz : Nat} {l : List D} {V : Value} {w0 wr : World} (h : Below B w0 w) (hg : w.grownBy w6 V.ownBlock) (hr : RowD b e sz wr l V) (hB : B ≤ b) (hBw : B ≤ w.heap.size) : Below B w0 w6 :=
  h.grown hg hBw fun k hk => Nat.le_trans hB (hr.base k hk).1
theorem fresh_tvP (b : Nat) (w : World) (key s : ByteArray) : Fresh b w (dP (key, tv s)) [.string key, .int .i64 4, .bool false, .int .i64 0, .string s, .slice none 0 0, .slice none 0 0] := fun _ _ _ => holds_tvP _ _ _ _
theorem reads_seven (w : World) (a0 a1 a2 a3 a4 a5 a6 : Value) : Reads (w.alloc (.cells #[a0, a1, a2, a3, a4, a5, a6] 72)) (w.heap.size + 1) 7 (some ⟨w.heap.size, 0, none⟩) 1 [a0, a1, a2, a3, a4, a5, a6] := reads_one (Blk.new w 72 #[a0, a1, a2, a3, a4, a5, a6])
theorem below_two (w : World) (o o' : Obj) : Below w.heap.size w ((w.alloc o).alloc o') := ((Below.refl w.heap.size w).alloc (Nat.le_refl _) _).alloc (by simp) _
theorem val_info : (Tryz.prog.info? 45).map (fun i => (i.zero, i.size, i.bytes)) = some (some (.agg #[.int .i64 0, .bool false, .int .i64 0, .string ⟨#[]⟩, .slice none 0 0, .slice none 0 0]), 6, 88) := by kernel_rfl
theorem reads_six (w : World) (a0 a1 a2 a3 a4 a5 : Value) : Reads (w.alloc (.cells #[a0, a1, a2, a3, a4, a5] 45)) (w.heap.size + 1) 6 (some ⟨w.heap.size, 0, none⟩) 1 [a0, a1, a2, a3, a4, a5] := reads_one (Blk.new w 45 #[a0, a1, a2, a3, a4, a5])
theorem results_cell6_t {fn : Func} {t u : Tmp} {tmps : Array Value} {W : World} {R : Nat} {a0 a1 a2 a3 a4 a5 : Value} (h : fn.results = #[.cell t 45, .tmp u]) (hp : tmps.getD t undef = .pointer (some ⟨R, 0, none⟩)) (hx : Blk W R 45 #[a0, a1, a2, a3, a4, a5]) :
    (results fn tmps).run Tryz.prog W = .ok (.tuple #[.agg #[a0, a1, a2, a3, a4, a5], tmps.getD u undef]) W := by
  obtain ⟨c0, c1, c2, c3, c4, c5⟩ := vcell hx
  clear hx
  have hp' : tmps[t]?.getD undef = .pointer (some ⟨R, 0, none⟩) := by simpa using hp
  simp [results, h, hp', go_sem, c0, c1, c2, c3, c4, c5]
theorem fresh_lv {b : Nat} {w : World} {vs : List Val} {a : Option Addr} {n c : Nat} (h : Fresh b w (.row 6 (dL vs)) [.slice a n c]) : Fresh b w (dV (lv vs)) [.int .i64 5, .bool false, .int .i64 0, .string ⟨#[]⟩, .slice a n c, .slice none 0 0] := fun w'' h1 h2 => by
  simp only [lv, dV, Holds]
  exact HoldsA.six.2 ⟨[.slice a n c], [.slice none 0 0], rfl, rfl, rfl, rfl, rfl, h w'' h1 h2, ⟨none, 0, rfl, by simp [dO], [], rfl, by simp [dO]⟩⟩
theorem last_none (k : ByteArray) : ∀ q, (none : Option ByteArray) = some q → leB k q = false := fun _ e => by cases e
theorem last_some {k p : ByteArray} (h : leB k p = false) : ∀ q, some p = some q → leB k q = false := fun _ e => by cases e; exact h
theorem in_iv {n : Int} (h0 : 0 ≤ n) (h1 : n ≤ 4611686018427387903) : inV (iv n) := by
  simp only [iv, inV, inL, inO]
  exact ⟨by omega, trivial, trivial⟩
theorem bulk_iv (n : Int) : (iv n).bulk = 6 := rfl
/-- A slice over a block that is known whole. -/
theorem holds_blk {w : World} {g : Nat} {t : TypeId} {cs : Array Value} {l : List D} {s n c : Nat} (h : Blk w g t cs) (hs : ∀ d ∈ l, d.cells = s) (hA : HoldsA w w.heap.size l cs.toList) (hn : n = l.length) : Holds w w.heap.size (.row s l) [.slice (some ⟨g, 0, none⟩) n c] := by
  subst hn
  exact ⟨_, c, rfl, hs, cs.toList, hA, .inr ⟨g, 0, rfl, h.lt, fun j u hu => by rw [Nat.zero_add]; exact (h.cell j).trans (by rw [← Array.getElem?_toList]; exact hu)⟩⟩
end Go.Proofs.YtkoliaodkojghaaGreatDoor

/- The reference's own values: Int, Text, Object, List; rows that share old memory. No condition. -/
namespace Go.Proofs.YtkoliaodkojghaaGreatDoor
open Go Go.RowKit

theorem rInt_calls (n : Int) (w : World) : Calls Tryz.prog 22 #[.int .i64 n] w fun e w' => e = .returned (.agg #[.int .i64 3, .bool false, .int .i64 n, .string ⟨#[]⟩, .slice none 0 0, .slice none 0 0]) ∧ Below w.heap.size w w' := by
  go_enter Tryz.func22, Tryz.ntmps22
  go_wp2
  exact bodyPost_ret (v := .agg #[.int .i64 3, .bool false, .int .i64 n, .string ⟨#[]⟩, .slice none 0 0, .slice none 0 0]) (by simp [results, Tryz.results22, go_sem]) rfl ⟨rfl, (Below.refl _ _).alloc (Nat.le_refl _) _⟩
theorem rTextV_calls (s : ByteArray) (w : World) : Calls Tryz.prog 45 #[.string s] w fun e w' => e = .returned (.agg #[.int .i64 4, .bool false, .int .i64 0, .string s, .slice none 0 0, .slice none 0 0]) ∧ Below w.heap.size w w' := by
  go_enter Tryz.func45, Tryz.ntmps45
  go_wp2
  exact bodyPost_ret (v := .agg #[.int .i64 4, .bool false, .int .i64 0, .string s, .slice none 0 0, .slice none 0 0]) (by simp [results, Tryz.results45, go_sem]) rfl ⟨rfl, (Below.refl _ _).alloc (Nat.le_refl _) _⟩
theorem rObject_calls (a : Option Addr) (n c : Nat) (w : World) : Calls Tryz.prog 44 #[.slice a n c] w fun e w' => e = .returned (.agg #[.int .i64 6, .bool false, .int .i64 0, .string ⟨#[]⟩, .slice none 0 0, .slice a n c]) ∧ Below w.heap.size w w' := by
  go_enter Tryz.func44, Tryz.ntmps44
  go_wp2
  exact bodyPost_ret (v := .agg #[.int .i64 6, .bool false, .int .i64 0, .string ⟨#[]⟩, .slice none 0 0, .slice a n c]) (by simp [results, Tryz.results44, go_sem]) rfl ⟨rfl, (Below.refl _ _).alloc (Nat.le_refl _) _⟩
theorem rList_calls (a : Option Addr) (n c : Nat) (w : World) : Calls Tryz.prog 25 #[.slice a n c] w fun e w' => e = .returned (.agg #[.int .i64 5, .bool false, .int .i64 0, .string ⟨#[]⟩, .slice a n c, .slice none 0 0]) ∧ Below w.heap.size w w' := by
  go_enter Tryz.func25, Tryz.ntmps25
  go_wp2
  exact bodyPost_ret (v := .agg #[.int .i64 5, .bool false, .int .i64 0, .string ⟨#[]⟩, .slice a n c, .slice none 0 0]) (by simp [results, Tryz.results25, go_sem]) rfl ⟨rfl, (Below.refl _ _).alloc (Nat.le_refl _) _⟩
/-- A member as the result's variable holds it. -/
theorem results_cell7 {fn : Func} {t : Tmp} {tmps : Array Value} {W : World} {R : Nat} {a0 a1 a2 a3 a4 a5 a6 : Value} (h : fn.results = #[.cell t 72]) (hp : tmps.getD t undef = .pointer (some ⟨R, 0, none⟩)) (hx : Blk W R 72 #[a0, a1, a2, a3, a4, a5, a6]) :
    (results fn tmps).run Tryz.prog W = .ok (.agg #[a0, a1, a2, a3, a4, a5, a6]) W := by
  have c0 := hx.cell 0
  have c1 := hx.cell 1
  have c2 := hx.cell 2
  have c3 := hx.cell 3
  have c4 := hx.cell 4
  have c5 := hx.cell 5
  have c6 := hx.cell 6
  clear hx
  have hp' : tmps[t]?.getD undef = .pointer (some ⟨R, 0, none⟩) := by simpa using hp
  simp [results, h, hp', go_sem] at c0 c1 c2 c3 c4 c5 c6 ⊢
  simp [c0, c1, c2, c3, c4, c5, c6]
abbrev zero7 : Array Value := #[.string ⟨#[]⟩, .int .i64 0, .bool false, .int .i64 0, .string ⟨#[]⟩, .slice none 0 0, .slice none 0 0]
theorem mcell {w : World} {g : Nat} {t : TypeId} {a0 a1 a2 a3 a4 a5 a6 : Value} (h : Blk w g t #[a0, a1, a2, a3, a4, a5, a6]) :
    w.cell? ⟨g, 0, none⟩ = some a0 ∧ w.cell? ⟨g, 1, none⟩ = some a1 ∧ w.cell? ⟨g, 2, none⟩ = some a2 ∧ w.cell? ⟨g, 3, none⟩ = some a3 ∧ w.cell? ⟨g, 4, none⟩ = some a4 ∧ w.cell? ⟨g, 5, none⟩ = some a5 ∧ w.cell? ⟨g, 6, none⟩ = some a6 :=
  ⟨h.cell 0, h.cell 1, h.cell 2, h.cell 3, h.cell 4, h.cell 5, h.cell 6⟩
theorem holdsIn_ov {S : Nat → Prop} {w : World} {o : List (ByteArray × Val)} {a : Option Addr} {n c : Nat} (h : HoldsIn S w (.row 7 (dO o)) [.slice a n c]) : HoldsIn S w (dV (ov o)) [.int .i64 6, .bool false, .int .i64 0, .string ⟨#[]⟩, .slice none 0 0, .slice a n c] := fun w'' h1 h2 => by
  simp only [ov, dV, Holds]
  exact HoldsA.six.2 ⟨[.slice none 0 0], [.slice a n c], rfl, rfl, rfl, rfl, rfl, ⟨none, 0, rfl, by simp [dL], [], rfl, by simp [dL]⟩, h w'' h1 h2⟩
theorem holdsIn_tvP (S : Nat → Prop) (w : World) (key s : ByteArray) : HoldsIn S w (dP (key, tv s)) [.string key, .int .i64 4, .bool false, .int .i64 0, .string s, .slice none 0 0, .slice none 0 0] := fun _ _ _ => holds_tvP _ _ _ _
theorem holdsIn_P {S : Nat → Prop} {w : World} {key : ByteArray} {v : Val} {cs : List Value} (h : HoldsIn S w (dV v) cs) : HoldsIn S w (dP (key, v)) (.string key :: cs) := fun w'' h1 h2 => ⟨[.string key], cs, rfl, ⟨rfl, rfl⟩, cs, [], by simp, h w'' h1 h2, rfl⟩
theorem blk_appX {S0 : Nat → Prop} {w w6 : World} {R b : Nat} {t e : TypeId} {sz : Nat} {l : List D} {V : Value} {cs : Array Value} {wr : World} (h : Blk w R t cs) (hg : w.grownBy w6 V.ownBlock) (hr : RowX S0 b e sz wr l V) (hR : R < b ∨ wr.heap.size ≤ R) : Blk w6 R t cs :=
  h.grown hg fun e => by have := hr.base R e.symm; omega
theorem below_appX {S0 : Nat → Prop} {w w6 : World} {B b : Nat} {e : TypeId} {sz : Nat} {l : List D} {V : Value} {w0 wr : World} (h : Below B w0 w) (hg : w.grownBy w6 V.ownBlock) (hr : RowX S0 b e sz wr l V) (hB : B ≤ b) (hBw : B ≤ w.heap.size) : Below B w0 w6 :=
  h.grown hg hBw fun k hk => Nat.le_trans hB (hr.base k hk).1
theorem ucell {w : World} {g off : Nat} {B : Nat} {w' : World} (hb : Below B w w') (hg : g < B) {i : Nat} {u : Value} (h : w.cell? ⟨g, off + i, none⟩ = some u) : w'.cell? ⟨g, off + i, none⟩ = some u := (hb.cell (p := ⟨g, off + i, none⟩) hg).trans h
theorem holdsIn_ivP (S : Nat → Prop) (w : World) (key : ByteArray) (n : Int) : HoldsIn S w (dP (key, iv n)) [.string key, .int .i64 3, .bool false, .int .i64 n, .string ⟨#[]⟩, .slice none 0 0, .slice none 0 0] := fun _ _ _ => holds_ivP _ _ _ _
end Go.Proofs.YtkoliaodkojghaaGreatDoor
