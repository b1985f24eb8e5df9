/- Parts, joined: The tables that the rows list: what they give the walks, and a world for the witnesses. No condition. The table of the mutators' names. Plain. No condition. A mutator's nineteen cells. Plain. No condition. What a mutator's writers hand back: textual, and the pairs of del, move, inc, put, append. Condition: values of a bulk of at most 10^8. Loads and stores of structs of many cells at once. Plain. No condition. mutator.zero, blank, beginning, must, pass, keyed. Condition: texts shorter than 10^9. mutator.caught: the error by which a call left that was caught. No condition. commonplaceref11.Equal: no, where two mutators' fields differ. No condition. -/
import Derived.Test.YtkoliaodkojghaaGreatDoorProg
import Derived.Test.YtkoliaodkojghaaGreatDoorChecked
import Derived.Test.YtkoliaodkojghaaGreatDoorRows
import Derived.Lib.LaidIn
import Derived.Lib.LaidU8T
import Derived.LaidSub
import Derived.Lib.ItoaNum
import Derived.Deep.DeepHandedRow
import Derived.ProofKit
import Derived.Deep.RegionHeld3
import Derived.Deep.MidRow
import Derived.WalkLawsBesides
import Derived.Defers
import Derived.Recover
import Derived.Laws.Pointers
import Derived.Test.YtkoliaodkojghaaGreatDoorKPush2
import Derived.Test.YtkoliaodkojghaaGreatDoorKPush21
import Derived.Test.YtkoliaodkojghaaGreatDoorKPush24
import Derived.Test.YtkoliaodkojghaaGreatDoorKPush28
import Derived.Test.YtkoliaodkojghaaGreatDoorKPush35
import Derived.Test.YtkoliaodkojghaaGreatDoorKPush37
import Derived.Test.YtkoliaodkojghaaGreatDoorKPush38
import Derived.Test.YtkoliaodkojghaaGreatDoorKPush40
/- The tables that the rows list: what they give the walks, and a world for the witnesses. No condition. -/
namespace Go.Proofs.YtkoliaodkojghaaGreatDoor
open Go.RowKit Go.ChangeShapes Go.WideShapes Go.ChangeAt

def tab32 : List Int := [0, 1, 28, 2, 29, 14, 24, 3, 30, 22, 20, 15, 25, 17, 4, 8, 31, 27, 13, 23, 21, 19, 16, 7, 26, 12, 18, 6, 11, 5, 10, 9]
def tab64 : List Int := [0, 1, 56, 2, 57, 49, 28, 3, 61, 58, 42, 50, 38, 29, 17, 4, 62, 47, 59, 36, 45, 43, 51, 22, 53, 39, 33, 30, 24, 18, 12, 5, 63, 55, 48, 27, 60, 41, 37, 16, 46, 35, 44, 21, 52, 32, 23, 11, 54, 26, 40, 15, 34, 20, 31, 10, 25, 14, 19, 9, 13, 8, 7, 6]

theorem own_knob : ownKnob Tryz.prog.godebug = none := by kernel_rfl

/-- A world that holds the six tables. -/
noncomputable def laidWorld (os : Os) : World :=
  let w0 := World.holding Tryz.prog os ⟨#[], #[], []⟩
  let put (h : Array Obj) (g : Nat) (cs : Array Value) : Array Obj := h.modify g fun
    | .cells _ t frozen => .cells cs t frozen
    | o => o
  let h0 := put w0.heap 1 (Lib.firstTab.map fun z => Value.int .u8 z).toArray
  let h1 := put h0 2 ((List.range 16).flatMap fun i => [Value.int .u8 (Lib.accLo i), Value.int .u8 (Lib.accHi i)]).toArray
  let h2 := put h1 3 (Lib.pow10Tab.map fun z => Value.int .u64 z).toArray
  let h3 := put h2 4 (tab32.map fun z => Value.int .u8 z).toArray
  let h4 := put h3 5 (tab64.map fun z => Value.int .u8 z).toArray
  let h5 := put h4 0 #[.string ⟨#[]⟩, .string ⟨#[112, 117, 116]⟩, .string ⟨#[100, 101, 108]⟩, .string ⟨#[105, 110, 99]⟩, .string ⟨#[99, 97, 115]⟩, .string ⟨#[97, 112, 112, 101, 110, 100]⟩, .string ⟨#[109, 111, 118, 101]⟩, .string ⟨#[115, 101, 113]⟩]
  { w0 with heap := h5 }

theorem laid_first : Rows.laid_unicode_utf8_first = Lib.firstData := by kernel_rfl
theorem laid_accept : Rows.laid_unicode_utf8_acceptRanges (H := Unit) = Lib.acceptData := by kernel_rfl
theorem laid_pow10 : Rows.laid_internal_strconv_uint64pow10 (H := Unit) = Lib.tabData .u64 Lib.pow10Tab := by kernel_rfl

theorem laid_met (os : Os) (args : Array Value) : laidMet Tryz.prog Rows.pushMayRow.laid ((laidWorld os).forCall (fun _ _ => 0) ⟨#[], args, []⟩).memory :=
  (LaidIn.of_run (l := Rows.pushMayRow.laid) [0, 1, 2, 3, 4, 5] 8 (by kernel_rfl) (by kernel_rfl) (by kernel_rfl) (by kernel_rfl)).met

end Go.Proofs.YtkoliaodkojghaaGreatDoor

/- The table of the mutators' names. Plain. No condition. -/
namespace Go.Proofs.YtkoliaodkojghaaGreatDoor
open Go.RowKit

/-- The table of the mutators' names. -/
def MNames (w : World) : Prop := w.cell? ⟨0, 1, none⟩ = some (.string nPut) ∧ w.cell? ⟨0, 2, none⟩ = some (.string nDel) ∧ w.cell? ⟨0, 3, none⟩ = some (.string nInc) ∧ w.cell? ⟨0, 4, none⟩ = some (.string nCas) ∧ w.cell? ⟨0, 5, none⟩ = some (.string nApp) ∧ w.cell? ⟨0, 6, none⟩ = some (.string nMove) ∧ w.cell? ⟨0, 7, none⟩ = some (.string nSeq) ∧ 0 < w.heap.size
theorem MNames.below {w w' : World} (h : MNames w) (hb : Below w.heap.size w w') : MNames w' := by
  obtain ⟨h1, h2, h3, h4, h5, h6, h7, h8⟩ := h
  exact ⟨(hb.cell h8).trans h1, (hb.cell h8).trans h2, (hb.cell h8).trans h3, (hb.cell h8).trans h4, (hb.cell h8).trans h5, (hb.cell h8).trans h6, (hb.cell h8).trans h7, Nat.lt_of_lt_of_le h8 hb.size⟩
end Go.Proofs.YtkoliaodkojghaaGreatDoor

/- A mutator's nineteen cells. Plain. No condition. -/
namespace Go.Proofs.YtkoliaodkojghaaGreatDoor
open Go.RowKit

theorem mut_cells {w : World} {B : Nat} {k : Int} {key dst : ByteArray} {n : Int} {had : Bool} {k1 : Int} {b1 : Bool} {n1 : Int} {t1 : ByteArray} {l1 : List Val} {o1 : List (ByteArray × Val)} {has : Bool} {k2 : Int} {b2 : Bool} {n2 : Int} {t2 : ByteArray} {l2 : List Val} {o2 : List (ByteArray × Val)} {l : List Mut} {cs : List Value} (h : Holds w B (dM (Mut.mk k key dst n had (.mk k1 b1 n1 t1 l1 o1) has (.mk k2 b2 n2 t2 l2 o2) l)) cs) :
    ∃ la1 lc1 oa1 oc1 la2 lc2 oa2 oc2 a c, cs = [.int .i64 k, .string key, .string dst, .int .i64 n, .bool had, .int .i64 k1, .bool b1, .int .i64 n1, .string t1, .slice la1 l1.length lc1, .slice oa1 o1.length oc1, .bool has, .int .i64 k2, .bool b2, .int .i64 n2, .string t2, .slice la2 l2.length lc2, .slice oa2 o2.length oc2, .slice a l.length c] ∧ HoldsV w B (.mk k1 b1 n1 t1 l1 o1) [.int .i64 k1, .bool b1, .int .i64 n1, .string t1, .slice la1 l1.length lc1, .slice oa1 o1.length oc1] ∧ HoldsV w B (.mk k2 b2 n2 t2 l2 o2) [.int .i64 k2, .bool b2, .int .i64 n2, .string t2, .slice la2 l2.length lc2, .slice oa2 o2.length oc2] ∧ Holds w B (.row 19 (dMs l)) [.slice a l.length c] := by
  simp only [dM, Holds] at h
  obtain ⟨_, _, rfl, ⟨rfl, _⟩, _, _, rfl, ⟨rfl, _⟩, _, _, rfl, ⟨rfl, _⟩, _, _, rfl, ⟨rfl, _⟩, _, _, rfl, ⟨rfl, _⟩, x1, _, rfl, h1, _, _, rfl, ⟨rfl, _⟩, x2, _, rfl, h2, x3, _, rfl, h3, rfl⟩ := h
  have g1 := holdsV_of _ _ h1
  have g2 := holdsV_of _ _ h2
  have e1 := g1
  have e2 := g2
  simp only [HoldsV] at e1 e2
  obtain ⟨la1, lc1, oa1, oc1, rfl, _, _⟩ := e1
  obtain ⟨la2, lc2, oa2, oc2, rfl, _, _⟩ := e2
  obtain ⟨a, c, rfl, hs, hr⟩ := h3
  rw [dMs_len]
  exact ⟨la1, lc1, oa1, oc1, la2, lc2, oa2, oc2, a, c, rfl, g1, g2, a, c, by rw [dMs_len], hs, hr⟩
theorem mut_at {w : World} {B n c : Nat} {l : List Mut} {a : Option Addr} (h : Holds w B (.row 19 (dMs l)) [.slice a n c]) {q : Nat} {m : Mut} (hi : l[q]? = some m) :
    ∃ g off, a = some ⟨g, off, none⟩ ∧ g < B ∧ ∃ cs, Holds w B (dM m) cs ∧ cs.length = 19 ∧ ∀ j u, cs[j]? = some u → w.cell? ⟨g, off + q * 19 + j, none⟩ = some u :=
  h.at_ (i := q) (d := dM m) (by rw [dMs_map, List.getElem?_map, hi]; rfl)
/-- The cells of a block that holds a mutator. -/
theorem mcell19 {w : World} {g : Nat} {t : TypeId} {a0 a1 a2 a3 a4 a5 a6 a7 a8 a9 a10 a11 a12 a13 a14 a15 a16 a17 a18 : Value} (h : Blk w g t #[a0, a1, a2, a3, a4, a5, a6, a7, a8, a9, a10, a11, a12, a13, a14, a15, a16, a17, a18]) :
    w.cell? ⟨g, 0, none⟩ = some a0 ∧ w.cell? ⟨g, 1, none⟩ = some a1 ∧ w.cell? ⟨g, 2, none⟩ = some a2 ∧ w.cell? ⟨g, 3, none⟩ = some a3 ∧ w.cell? ⟨g, 4, none⟩ = some a4 ∧ w.cell? ⟨g, 5, none⟩ = some a5 ∧ w.cell? ⟨g, 6, none⟩ = some a6 ∧ w.cell? ⟨g, 7, none⟩ = some a7 ∧ w.cell? ⟨g, 8, none⟩ = some a8 ∧ w.cell? ⟨g, 9, none⟩ = some a9 ∧ w.cell? ⟨g, 10, none⟩ = some a10 ∧ w.cell? ⟨g, 11, none⟩ = some a11 ∧ w.cell? ⟨g, 12, none⟩ = some a12 ∧ w.cell? ⟨g, 13, none⟩ = some a13 ∧ w.cell? ⟨g, 14, none⟩ = some a14 ∧ w.cell? ⟨g, 15, none⟩ = some a15 ∧ w.cell? ⟨g, 16, none⟩ = some a16 ∧ w.cell? ⟨g, 17, none⟩ = some a17 ∧ w.cell? ⟨g, 18, none⟩ = some a18 := ⟨h.cell 0, h.cell 1, h.cell 2, h.cell 3, h.cell 4, h.cell 5, h.cell 6, h.cell 7, h.cell 8, h.cell 9, h.cell 10, h.cell 11, h.cell 12, h.cell 13, h.cell 14, h.cell 15, h.cell 16, h.cell 17, h.cell 18⟩
theorem mut_len {w : World} {B : Nat} {m : Mut} {cs : List Value} (h : Holds w B (dM m) cs) : cs.length = 19 := h.len.1.trans (dM_cells m)
end Go.Proofs.YtkoliaodkojghaaGreatDoor

/- What a mutator's writers hand back: textual, and the pairs of del, move, inc, put, append. Condition: values of a bulk of at most 10^8. -/
namespace Go.Proofs.YtkoliaodkojghaaGreatDoor
open Go Go.RowKit

theorem mtextual_calls (s : ByteArray) (w : World) : Calls Tryz.prog 99 #[.string s] w fun e w' => e = .returned (.agg #[.int .i64 4, .bool false, .int .i64 0, .string s, .slice none 0 0, .slice none 0 0]) ∧ Below w.heap.size w w' := by
  go_enter Tryz.func99, Tryz.ntmps99
  go_wp2
  exact bodyPost_ret (v := .agg #[.int .i64 4, .bool false, .int .i64 0, .string s, .slice none 0 0, .slice none 0 0]) (by simp [results, Tryz.results99, go_sem]) rfl ⟨rfl, (Below.refl _ _).alloc (Nat.le_refl _) _⟩

/-- Pairs that lie in a block of their own, all they lead to from block b on. -/
def PairsAt (b : Nat) (w : World) (o : List (ByteArray × Val)) (V : Value) : Prop := ∃ g c ns, V = .slice (some ⟨g, 0, none⟩) o.length c ∧ b ≤ g ∧ g < w.heap.size ∧ FreshA b w (dO o) ns ∧ ∀ j u, ns[j]? = some u → w.cell? ⟨g, j, none⟩ = some u
/-- Pairs of the call's own, given back. -/
def PairsPost (o : List (ByteArray × Val)) (w : World) (e : Ending) (w' : World) : Prop := Below w.heap.size w w' ∧ ∃ V, e = .returned V ∧ PairsAt w.heap.size w' o V
/-- A literal of pairs. -/
theorem pairs_lit {b : Nat} {w : World} {t : TypeId} {cs : Array Value} {o : List (ByteArray × Val)} {n c : Nat} (hb : b ≤ w.heap.size) (hn : n = o.length) (h : FreshA b (w.alloc (.cells cs t)) (dO o) cs.toList) : PairsAt b (w.alloc (.cells cs t)) o (.slice (some ⟨w.heap.size, 0, none⟩) n c) := by
  subst hn
  have hx := Blk.new w t cs
  exact ⟨_, c, cs.toList, rfl, hb, hx.lt, h, fun j u hu => (hx.cell j).trans (by rw [← Array.getElem?_toList]; exact hu)⟩
theorem FreshA.app {b : Nat} {w : World} {l r : List D} {cs es : List Value} (h : FreshA b w l cs) (k : FreshA b w r es) : FreshA b w (l ++ r) (cs ++ es) := fun w'' h1 h2 => (h w'' h1 h2).app (k w'' h1 h2)
theorem FreshA.one {b : Nat} {w : World} {d : D} {cs : List Value} (h : Fresh b w d cs) : FreshA b w [d] cs := fun w'' h1 h2 => HoldsA.one (h w'' h1 h2)
theorem fresh_ivP (b : Nat) (w : World) (key : ByteArray) (n : Int) : Fresh b w (dP (key, iv n)) [.string key, .int .i64 3, .bool false, .int .i64 n, .string ⟨#[]⟩, .slice none 0 0, .slice none 0 0] := fun _ _ _ => holds_ivP _ _ _ _

set_option maxRecDepth 100000 in
set_option maxHeartbeats 1000000 in
theorem wdel_calls (y0 : Value) (key : ByteArray) (y2 y3 y4 y5 y6 y7 y8 y9 y10 y11 y12 y13 y14 y15 y16 y17 y18 : Value) (w : World) :
    Calls Tryz.prog 103 #[.agg #[y0, .string key, y2, y3, y4, y5, y6, y7, y8, y9, y10, y11, y12, y13, y14, y15, y16, y17, y18]] w (PairsPost [(kKey, tv key)] w) := by
  have hC := fun W => mtextual_calls key W
  have HC := Lib.hid hC
  clear hC
  go_enter Tryz.func103, Tryz.ntmps103
  go_wp2_with (fail)
  with_reducible refine (HC.out _).mono ?_
  rintro e w1 ⟨rfl, hb1⟩
  have hbw := (alloc_below w _).trans (hb1.mono (by simp))
  have hz := hbw.size
  have Hbw := Lib.hid hbw
  clear hbw
  go_wp2
  go_ret
  exact ⟨Hbw.out.alloc hz _, _, rfl, pairs_lit hz rfl (FreshA.one (fresh_tvP _ _ kKey key))⟩

set_option maxRecDepth 100000 in
set_option maxHeartbeats 4000000 in
theorem wmove_calls (y0 : Value) (key dst : ByteArray) (y3 y4 y5 y6 y7 y8 y9 y10 y11 y12 y13 y14 y15 y16 y17 y18 : Value) (w : World) :
    Calls Tryz.prog 108 #[.agg #[y0, .string key, .string dst, y3, y4, y5, y6, y7, y8, y9, y10, y11, y12, y13, y14, y15, y16, y17, y18]] w (PairsPost [(kFrom, tv key), (kTo, tv dst)] w) := by
  have hC := fun W => mtextual_calls key W
  have hD := fun W => mtextual_calls dst W
  obtain ⟨wi, hwi⟩ : ∃ wi, w.alloc (.cells #[y0, .string key, .string dst, y3, y4, y5, y6, y7, y8, y9, y10, y11, y12, y13, y14, y15, y16, y17, y18] 48) = wi := ⟨_, rfl⟩
  have hbi : Below w.heap.size w wi := hwi ▸ alloc_below _ _
  have hxb : Blk wi w.heap.size 48 #[y0, .string key, .string dst, y3, y4, y5, y6, y7, y8, y9, y10, y11, y12, y13, y14, y15, y16, y17, y18] := hwi ▸ Blk.new _ _ _
  have d1 := hxb.cell 1
  have d2 := hxb.cell 2
  have hgb := hxb.lt
  have HC := Lib.hid hC
  have HD := Lib.hid hD
  have Hbi := Lib.hid hbi
  have Hxb := Lib.hid hxb
  clear hC hD hbi hxb
  go_enter Tryz.func108, Tryz.ntmps108
  go_upto_region 1 with (fail)
  clear hwi
  go_region_held3 (fun W => W.cell? ⟨w.heap.size, 1, none⟩ = some (.string key) ∧ W.cell? ⟨w.heap.size, 2, none⟩ = some (.string dst)) (go_keep) (first
    | (go_at_call 99; refine (HC.out _).mono ?_; rintro e w2 ⟨rfl, hb2⟩; have hbr2 : Below wi.heap.size wi w2 := ((Below.drew (Below.refl _ _)).trans hb2); obtain ⟨hc2, hg2⟩ := bcellM hbr2)
    | (go_at_call 99; refine (HD.out _).mono ?_; rintro e w3 ⟨rfl, hb3⟩; have hbr3 := hbr2.trans (hb3.mono hbr2.size); obtain ⟨hc3, hg3⟩ := bcellM hbr3))
  all_goals
    have HB := Lib.hid (Hbi.out.trans (hbr3.mono Hbi.out.size))
    clear hc2 hg2 hc3 hg3 hb2 hb3 hbr2 hbr3
    go_wp2
    go_ret
    exact ⟨HB.out.alloc HB.out.size _, _, rfl, pairs_lit HB.out.size rfl ((FreshA.one (fresh_tvP _ _ kFrom key)).app (FreshA.one (fresh_tvP _ _ kTo dst)))⟩

set_option maxRecDepth 100000 in
set_option maxHeartbeats 4000000 in
theorem winc_calls (y0 : Value) (key : ByteArray) (y2 : Value) (n : Int) (y4 y5 y6 y7 y8 y9 y10 y11 y12 y13 y14 y15 y16 y17 y18 : Value) (w : World) :
    Calls Tryz.prog 106 #[.agg #[y0, .string key, y2, .int .i64 n, y4, y5, y6, y7, y8, y9, y10, y11, y12, y13, y14, y15, y16, y17, y18]] w (PairsPost [(kBy, iv n), (kKey, tv key)] w) := by
  have hC := fun W => mtextual_calls key W
  go_enter Tryz.func106, Tryz.ntmps106
  go_upto_region 2 with (fail)
  obtain ⟨wi, hwi⟩ : ∃ wi, (w.alloc (.cells #[y0, .string key, y2, .int .i64 n, y4, y5, y6, y7, y8, y9, y10, y11, y12, y13, y14, y15, y16, y17, y18] 48)).alloc (.cells #[.int .i64 3, .bool false, .int .i64 n, .string ⟨#[]⟩, .slice none 0 0, .slice none 0 0] 45) = wi := ⟨_, rfl⟩
  have hbi : Below w.heap.size w wi := hwi ▸ ((alloc_below _ _).alloc (by simp) _)
  have hxb : Blk wi w.heap.size 48 #[y0, .string key, y2, .int .i64 n, y4, y5, y6, y7, y8, y9, y10, y11, y12, y13, y14, y15, y16, y17, y18] := hwi ▸ (Blk.new _ _ _).alloc _
  have hxv : Blk wi (w.heap.size + 1) 45 #[.int .i64 3, .bool false, .int .i64 n, .string ⟨#[]⟩, .slice none 0 0, .slice none 0 0] := by
    rw [← hwi]
    have := Blk.new (w.alloc (.cells #[y0, .string key, y2, .int .i64 n, y4, y5, y6, y7, y8, y9, y10, y11, y12, y13, y14, y15, y16, y17, y18] 48)) 45 #[.int .i64 3, .bool false, .int .i64 n, .string ⟨#[]⟩, .slice none 0 0, .slice none 0 0]
    rwa [World.size_alloc] at this
  have d1 := hxb.cell 1
  obtain ⟨v0, v1, v2, v3, v4, v5⟩ := vcell hxv
  have hgb := hxb.lt
  have hgv := hxv.lt
  have HC := Lib.hid hC
  have Hbi := Lib.hid hbi
  have Hxb := Lib.hid hxb
  have Hxv := Lib.hid hxv
  clear hC hbi hxb hxv
  rw [hwi]
  clear hwi
  go_region_held3 (fun W => W.cell? ⟨w.heap.size, 1, none⟩ = some (.string key) ∧ W.cell? ⟨w.heap.size + 1, 0, none⟩ = some (.int .i64 3) ∧ W.cell? ⟨w.heap.size + 1, 1, none⟩ = some (.bool false) ∧ W.cell? ⟨w.heap.size + 1, 2, none⟩ = some (.int .i64 n) ∧ W.cell? ⟨w.heap.size + 1, 3, none⟩ = some (.string ⟨#[]⟩) ∧ W.cell? ⟨w.heap.size + 1, 4, none⟩ = some (.slice none 0 0) ∧ W.cell? ⟨w.heap.size + 1, 5, none⟩ = some (.slice none 0 0)) (go_keep) (first
    | (go_at_call 99; refine (HC.out _).mono ?_; rintro e w2 ⟨rfl, hb2⟩; have hbr2 : Below wi.heap.size wi w2 := ((Below.drew (Below.refl _ _)).trans hb2); obtain ⟨hc2, hg2⟩ := bcellM hbr2))
  all_goals
    have HB := Lib.hid (Hbi.out.trans (hbr2.mono Hbi.out.size))
    clear hc2 hg2 hb2 hbr2
    go_wp2
    go_ret
    exact ⟨HB.out.alloc HB.out.size _, _, rfl, pairs_lit HB.out.size rfl ((FreshA.one (fresh_ivP _ _ kBy n)).app (FreshA.one (fresh_tvP _ _ kKey key)))⟩

set_option maxRecDepth 100000 in
set_option maxHeartbeats 4000000 in
theorem wval_calls (y0 : Value) (key : ByteArray) (y2 y3 y4 y5 y6 y7 y8 y9 y10 y11 : Value) (k : Int) (b : Bool) (n : Int) (t : ByteArray) (l : List Val) (o : List (ByteArray × Val)) (la oa : Option Addr) (lc oc : Nat) (y18 : Value) (w : World)
    (hV : HoldsV w w.heap.size (.mk k b n t l o) [.int .i64 k, .bool b, .int .i64 n, .string t, .slice la l.length lc, .slice oa o.length oc]) (hb : (Val.mk k b n t l o).bulk ≤ 100000000) :
    Calls Tryz.prog 134 #[.agg #[y0, .string key, y2, y3, y4, y5, y6, y7, y8, y9, y10, y11, .int .i64 k, .bool b, .int .i64 n, .string t, .slice la l.length lc, .slice oa o.length oc, y18]] w (PairsPost [(kKey, tv key), (kVal, .mk k b n t l o)] w) := by
  have hC := fun W => mtextual_calls key W
  have hD : ∀ W, Below w.heap.size w W → Calls Tryz.prog 65 #[.agg #[.int .i64 k, .bool b, .int .i64 n, .string t, .slice la l.length lc, .slice oa o.length oc]] W (VCopyPost W (.mk k b n t l o)) := fun W hB => vcopy_calls _ _ W (HoldsV.more hB.size _ _ (hV.below hB)) hb
  obtain ⟨wi, hwi⟩ : ∃ wi, w.alloc (.cells #[y0, .string key, y2, y3, y4, y5, y6, y7, y8, y9, y10, y11, .int .i64 k, .bool b, .int .i64 n, .string t, .slice la l.length lc, .slice oa o.length oc, y18] 48) = wi := ⟨_, rfl⟩
  have hbi : Below w.heap.size w wi := hwi ▸ alloc_below _ _
  have hxb : Blk wi w.heap.size 48 #[y0, .string key, y2, y3, y4, y5, y6, y7, y8, y9, y10, y11, .int .i64 k, .bool b, .int .i64 n, .string t, .slice la l.length lc, .slice oa o.length oc, y18] := hwi ▸ Blk.new _ _ _
  have d1 := hxb.cell 1
  have d12 := hxb.cell 12
  have d13 := hxb.cell 13
  have d14 := hxb.cell 14
  have d15 := hxb.cell 15
  have d16 := hxb.cell 16
  have d17 := hxb.cell 17
  have hgb := hxb.lt
  have HC := Lib.hid hC
  have HD := Lib.hid hD
  have Hbi := Lib.hid hbi
  have Hxb := Lib.hid hxb
  clear hC hD hbi hxb
  clear hV
  go_enter Tryz.func134, Tryz.ntmps134
  go_upto_region 1 with (fail)
  clear hwi
  go_region_held3 (fun W => W.cell? ⟨w.heap.size, 1, none⟩ = some (.string key) ∧ W.cell? ⟨w.heap.size, 12, none⟩ = some (.int .i64 k) ∧ W.cell? ⟨w.heap.size, 13, none⟩ = some (.bool b) ∧ W.cell? ⟨w.heap.size, 14, none⟩ = some (.int .i64 n) ∧ W.cell? ⟨w.heap.size, 15, none⟩ = some (.string t) ∧ W.cell? ⟨w.heap.size, 16, none⟩ = some (.slice la l.length lc) ∧ W.cell? ⟨w.heap.size, 17, none⟩ = some (.slice oa o.length oc)) (go_keep) (first
    | (go_at_call 99; refine (HC.out _).mono ?_; rintro e w2 ⟨rfl, hb2⟩; have hbr2 : Below wi.heap.size wi w2 := ((Below.drew (Below.refl _ _)).trans hb2); obtain ⟨hc2, hg2⟩ := bcellM hbr2)
    | (go_at_call 65; refine (HD.out _ (Hbi.out.trans (hbr2.mono Hbi.out.size))).mono ?_; rintro e w3 ⟨⟨cs4, rfl, hl4, hf4⟩, hb3⟩; obtain ⟨la2, lc2, oa2, oc2, rfl⟩ := six_now hf4; have hbr3 := hbr2.trans (hb3.mono hbr2.size); have hff := hf4.keep (b' := w.heap.size) (w' := w3) (Nat.le_trans Hbi.out.size hbr2.size) (Nat.le_refl _) (fun _ _ _ => rfl); have Hff := Lib.hid hff; obtain ⟨hc3, hg3⟩ := bcellM hbr3; clear hf4 hff))
  all_goals
    have HB := Lib.hid (Hbi.out.trans (hbr3.mono Hbi.out.size))
    clear hc2 hg2 hc3 hg3 hb2 hb3 hbr2 hbr3
    go_wp2
    go_ret
    exact ⟨HB.out.alloc HB.out.size _, _, rfl, pairs_lit HB.out.size rfl ((FreshA.one (fresh_tvP _ _ kKey key)).app (FreshA.one ((dP_fresh (key := kVal) Hff.out).later (alloc_below _ _))))⟩
end Go.Proofs.YtkoliaodkojghaaGreatDoor

/- Loads and stores of structs of many cells at once. Plain. No condition. -/
namespace Go.Proofs.YtkoliaodkojghaaGreatDoor
open Go Go.RowKit

theorem setCells_new (w : World) (t : TypeId) : ∀ (vs : List Value) (cs : Array Value) (o : Nat), (w.alloc (.cells cs t)).setCells w.heap.size o vs = w.alloc (.cells (over cs o vs) t)
  | [], _, _ => rfl
  | v :: r, cs, o => by
    rw [World.setCells, World.setCell_alloc_at cs t _ o v rfl, setCells_new w t r]
    rfl
theorem over_all (cs0 cs : Array Value) (h : cs0.size = cs.size) : over cs0 0 cs.toList = cs := by
  refine Array.ext_getElem? fun i => ?_
  rw [over_get _ _ _ _ (by simp [h])]
  by_cases hi : i < cs.size
  · rw [if_pos (by simpa using hi)]; simp
  · rw [if_neg (by simpa using hi), Array.getElem?_eq_none (by omega), Array.getElem?_eq_none (by omega)]
theorem blk_range {w : World} {g : Nat} {t : TypeId} {cs : Array Value} (h : Blk w g t cs) : w.rangeAt g 0 cs.toList := fun j v hv => by
  rw [Nat.zero_add]; exact (h.cell j).trans (by rw [← Array.getElem?_toList]; exact hv)
section
variable {P : Program}
/-- A whole struct is stored into the block that was made last. -/
theorem wp_store_new {op : Oper} {a : Act} {w : World} {K : Act → World → Prop} {Q : Exit → Act → World → Prop} (ty : TypeId) (x y : Operand) (ho : op.op = .store ty x y) {cs0 : Array Value} {t : TypeId} (cs : Array Value)
    (hx : a.eval x = .pointer (some ⟨w.heap.size, 0, none⟩)) (hy : a.eval y = .agg cs) (hs : cs0.size = cs.size) (hi : (P.info? ty).map (·.size) = some cs.size) (h1 : cs.all (·.oneCell') = true)
    (h : K (a.put op.dst undef) (w.alloc (.cells cs t))) : op.wp P a (w.alloc (.cells cs0 t)) K Q := by
  refine wp_store_mid ty x y ho w.heap.size 0 cs hx hy (fun j hj => ?_) hi h1 ?_
  · have hb := Blk.new w t cs0
    refine ⟨?_, hb.frozen _⟩
    rw [Nat.zero_add, hb.cell j, Array.getElem?_eq_getElem (by omega)]
    rfl
  · rw [setCells_new, over_all _ _ hs]
    exact h
/-- A whole struct is loaded from its block. -/
theorem wp_load_blk {op : Oper} {a : Act} {w : World} {K : Act → World → Prop} {Q : Exit → Act → World → Prop} (ty : TypeId) (x : Operand) (ho : op.op = .load ty x) (g : Nat) {t : TypeId} (cs : Array Value) (hb : Blk w g t cs)
    (hx : a.eval x = .pointer (some ⟨g, 0, none⟩)) (d : TypeDesc) (hu : P.underlying ty = some d) (hd : d.isRow = true) (hi : (P.info? ty).map (·.size) = some cs.size)
    (h : K (a.put op.dst (.agg cs)) w) : op.wp P a w K Q := by
  refine wp_load_mid ty x ho g 0 hx cs.toList d (blk_range hb) hu hd (by simpa using hi) ?_
  simpa using h
theorem setCells_many (b : Nat) : ∀ (vs : List Value) (o : Nat) (w : World), w.setCells b o vs = setMany w b o vs
  | [], _, _ => rfl
  | _ :: r, o, _ => by rw [World.setCells, setMany, setCells_many b r]
theorem run_storeVar_any (w : World) (b o : Nat) (ty : TypeId) (v : Value) (ht : w.there b o v.cells.size) (hi : (P.info? ty).map (·.size) = some v.cells.size) (h1 : ∀ u ∈ v.cells.toList, u.oneCell' = true) :
    (storeVar ty ⟨b, o, none⟩ v).run P w = .ok () (w.setCells b o v.cells.toList) := by
  have := run_storeCells_cells (P := P) b o v.cells.toList 0 w (fun j hj => by simpa using (ht j (by simpa using hj)).1) (fun j hj => by simpa using (ht j (by simpa using hj)).2) h1
  cases hq : P.info? ty with
  | none => simp [hq] at hi
  | some i =>
    have hs : v.cells.size = i.size := by simp [hq] at hi; omega
    simp only [Nat.add_zero] at this
    simp [storeVar, sizeOf, typeInfo, hq, hs, this]
/-- A store into a block that is known whole: the world behind it has no other name. -/
theorem wp_store_blk {op : Oper} {a : Act} {w : World} {K : Act → World → Prop} {Q : Exit → Act → World → Prop} (ty : TypeId) (x y : Operand) (ho : op.op = .store ty x y) (g o : Nat) {t : TypeId} {cs : Array Value} (hb : Blk w g t cs) (v : Value)
    (hx : a.eval x = .pointer (some ⟨g, o, none⟩)) (hy : a.eval y = v) (hl : o + v.cells.size ≤ cs.size) (hi : (P.info? ty).map (·.size) = some v.cells.size) (h1 : ∀ u ∈ v.cells.toList, u.oneCell' = true)
    {B : Nat} {w0 : World} (hB : Below B w0 w) (hg : B ≤ g) (h : ∀ w', Blk w' g t (over cs o v.cells.toList) → Below B w0 w' → K (a.put op.dst undef) w') : op.wp P a w K Q := by
  have ht : w.there g o v.cells.size := fun j hj => by
    refine ⟨?_, hb.frozen _⟩
    rw [hb.cell (o + j), Array.getElem?_eq_getElem (by omega)]
    rfl
  unfold Oper.wp execOp
  simp only [ho, hx, hy, Instr.storeAt, Instr.sureAddr, Sem.run_bind, Sem.run_pure, Result.andThen_ok, run_storeVar_any w g o ty v ht hi h1]
  rw [setCells_many]
  exact h _ (setMany_at _ hb) (setMany_below _ hB hg)
end
end Go.Proofs.YtkoliaodkojghaaGreatDoor

/- mutator.zero, blank, beginning, must, pass, keyed. Condition: texts shorter than 10^9. -/
namespace Go.Proofs.YtkoliaodkojghaaGreatDoor
open Go.RowKit

set_option maxRecDepth 100000 in
theorem mzero_calls (k : Int) (b : Bool) (n : Int) (t : ByteArray) (la oa : Option Addr) (ln lc on oc : Nat) (B : Bool) (w : World) (h : zero6B k b n t ln on = B) :
    Calls Tryz.prog 87 #[.agg #[.int .i64 k, .bool b, .int .i64 n, .string t, .slice la ln lc, .slice oa on oc]] w fun e w' => e = .returned (.bool B) ∧ Below w.heap.size w w' := by
  have fin : ∀ X : Bool, X = zero6B k b n t ln on → Ending.returned (.bool X) = .returned (.bool B) := fun X hX => by rw [hX, h]
  have Fin := Lib.hid fin
  clear fin h
  go_enter Tryz.func87, Tryz.ntmps87
  go_wp2
  all_goals (go_ret; refine ⟨Fin.out _ ?_, alloc_below _ _⟩; simp_all [zero6B, beq_cast])

/-- How a call ends that leaves by a panic, if there is an error. -/
def endE (c : Int) : Ending := if c = 0 then .returned (.tuple #[]) else .panicked [{ v := .iface 102 (.agg #[.int .i64 c]), recovered := false }]
theorem endE_zero : endE 0 = .returned (.tuple #[]) := rfl
theorem endE_some {c : Int} (h : c ≠ 0) : endE c = .panicked [{ v := .iface 102 (.agg #[.int .i64 c]), recovered := false }] := by unfold endE; rw [if_neg h]

theorem must_yes (c : Int) (w : World) : Calls Tryz.prog 52 #[.bool true, .int .i64 c] w fun e w' => e = .returned (.tuple #[]) ∧ w' = w := by
  go_enter Tryz.func52, Tryz.ntmps52
  go_wp2
  go_end0
  exact ⟨rfl, rfl⟩
theorem must_no (c : Int) (w : World) : Calls Tryz.prog 52 #[.bool false, .int .i64 c] w fun e w' => e = .panicked [{ v := .iface 102 (.agg #[.int .i64 c]), recovered := false }] ∧ w' = w := by
  go_enter Tryz.func52, Tryz.ntmps52
  go_wp2
  exact ⟨rfl, rfl, rfl⟩
theorem pass_yes (w : World) : Calls Tryz.prog 55 #[.int .i64 0] w fun e w' => e = .returned (.tuple #[]) ∧ w' = w := by
  have h := fun W => must_yes 0 W
  go_enter Tryz.func55, Tryz.ntmps55
  go_wp2_with (go_at_call 52; (with_reducible refine (h _).mono ?_); rintro e w1 ⟨rfl, rfl⟩)
  go_end0
  exact ⟨rfl, rfl⟩
theorem pass_no (c : Int) (hc : c ≠ 0) (w : World) : Calls Tryz.prog 55 #[.int .i64 c] w fun e w' => e = .panicked [{ v := .iface 102 (.agg #[.int .i64 c]), recovered := false }] ∧ w' = w := by
  have h := fun W => must_no c W
  have t0 : (c == 0) = false := by simpa using hc
  go_enter Tryz.func55, Tryz.ntmps55
  go_wp2_with (go_at_call 52; (with_reducible refine (h _).mono ?_); rintro e w1 ⟨rfl, rfl⟩)
  exact ⟨rfl, rfl, rfl⟩
end Go.Proofs.YtkoliaodkojghaaGreatDoor

/- mutator.caught: the error by which a call left that was caught. No condition. -/
namespace Go.Proofs.YtkoliaodkojghaaGreatDoor
open Go Go.RowKit

set_option maxRecDepth 100000 in
set_option maxHeartbeats 4000000 in
theorem catch_idle (p : Addr) (w : World) :
    CallsD Tryz.prog 51 #[.pointer (some p)] .returning w fun e u' w' => e = .returned (.tuple #[]) ∧ u' = .returning ∧ w' = w := by
  refine callsD_of_wpS Tryz.func51 rfl fun c₀ cs hu => ?_
  apply wpS_seq
  apply wpS_region
  simp [wpOpsS, go_sem, recoverD, hu, Tryz.ntmps51, Exit.thenS]
  refine wpS_of_wp ?_
  go_wp2
  cases c₀
  simp_all [bodyPostS, results, Tryz.results51]

theorem assert_wrong (W : World) (v : Value) : (Instr.typeAssert (.iface 102 v) 20 102 true).run Tryz.prog W = .ok (.tuple #[v, .bool true]) W := by kernel_rfl
set_option maxRecDepth 100000 in
set_option maxHeartbeats 4000000 in
theorem catch_some (p : Addr) (c x : Int) (w : World) (hc : w.cell? p = some (.int .i64 x)) (hz : w.frozen? p = false) (hp : p.block < w.heap.size) :
    CallsD Tryz.prog 51 #[.pointer (some p)] (.panicking [{ v := .iface 102 (.agg #[.int .i64 c]), recovered := false }]) w fun e u' w' =>
      e = .returned (.tuple #[]) ∧ u' = .panicking [{ v := .iface 102 (.agg #[.int .i64 c]), recovered := true }] ∧ w' = (w.alloc (.cells #[.int .i64 c] 102)).setCell p (.int .i64 c) := by
  have hta := fun w => assert_wrong w (.agg #[.int .i64 c])
  have hz2 : (w.alloc (.cells #[.int .i64 c] 102)).frozen? p = false := ((alloc_below w _).frozen hp).trans hz
  refine callsD_of_wpS Tryz.func51 rfl fun c₀ cs hu => ?_
  apply wpS_seq
  apply wpS_region
  simp [wpOpsS, go_sem, recoverD, hu, Tryz.ntmps51, Exit.thenS]
  refine wpS_of_wp ?_
  go_wp2
  cases c₀
  simp_all [bodyPostS, results, Tryz.results51]

/-- The deferred closure's variable. -/
theorem code_box {w w1 : World} {o : Obj} (hb : Below (w.alloc o).heap.size (w.alloc o) w1) : Below w.heap.size w w1 := (alloc_below w o).trans (hb.mono (by simp))
set_option maxRecDepth 100000 in
set_option maxHeartbeats 4000000 in
theorem caught_calls (c : Int) (q : Addr) (w : World)
    (hdo : ∀ W, Below w.heap.size w W → Calls Tryz.prog 29 #[.pointer (some q)] W fun e w' => e = endE c ∧ Below W.heap.size W w') :
    Calls Tryz.prog 28 #[.func (.func 29) #[] #[.pointer (some q)]] w fun e w' => e = .returned (.int .i64 c) ∧ Below w.heap.size w w' := by
  have hmf : ∀ (fn : Fn) (first cap : Array Value) (w : World), (Instr.makeFunc fn first cap).run Tryz.prog w = .ok (.func fn first cap) w := fun _ _ _ _ => rfl
  have hx := Blk.new w 26 #[.int .i64 0]
  have hD := hdo _ (alloc_below w (.cells #[.int .i64 0] 26))
  have hlt := hx.lt
  by_cases h0 : c = 0
  · subst h0
    rw [endE_zero] at hD
    have HD := Lib.hid hD
    have Hx := Lib.hid hx
    clear hD hx
    clear hdo
    go_enter_defers Tryz.func28, Tryz.ntmps28
    go_wp2_with (go_at_call 29; (with_reducible refine (HD.out).mono ?_); rintro e w1 ⟨rfl, hb1⟩; have hx1 := Hx.out.below hb1 hlt; have d0 := hx1.cell 0; have f0 := hx1.frozen 0)
    refine leaves_cons (f := 51) (args := #[.pointer (some ⟨w.heap.size, 0, none⟩)]) (by simp) (by simp [go_sem]) ?_
    have hx2 := hx1.set_ 0 (.int .i64 0)
    have d2 := hx2.cell 0
    refine (catch_idle ⟨w.heap.size, 0, none⟩ _).mono ?_
    rintro e u' w'' ⟨rfl, rfl, rfl⟩
    simp [Leaves, settle, results, Tryz.results28, go_sem, d2]
    exact (code_box hb1).setCell (Nat.le_refl _) _
  · rw [endE_some h0] at hD
    have HD := Lib.hid hD
    have Hx := Lib.hid hx
    clear hD hx
    clear hdo
    go_enter_defers Tryz.func28, Tryz.ntmps28
    go_wp2_with (go_at_call 29; (with_reducible refine (HD.out).mono ?_); rintro e w1 ⟨rfl, hb1⟩; have hx1 := Hx.out.below hb1 hlt; have d0 := hx1.cell 0; have f0 := hx1.frozen 0)
    refine leaves_cons (f := 51) (args := #[.pointer (some ⟨w.heap.size, 0, none⟩)]) (by simp) (by simp [go_sem]) ?_
    have hx2 := (hx1.alloc (.cells #[.int .i64 c] 102)).set_ 0 (.int .i64 c)
    have d2 := hx2.cell 0
    refine (catch_some ⟨w.heap.size, 0, none⟩ c 0 w1 (by simpa using d0) f0 hx1.lt).mono ?_
    rintro e u' w'' ⟨rfl, rfl, rfl⟩
    simp [Leaves, settle, results, Tryz.results28, go_sem, d2]
    exact ((code_box hb1).alloc (code_box hb1).size _).setCell (Nat.le_refl _) _
end Go.Proofs.YtkoliaodkojghaaGreatDoor

/- commonplaceref11.Equal: no, where two mutators' fields differ. No condition. -/
namespace Go.Proofs.YtkoliaodkojghaaGreatDoor
open Go Go.RowKit

set_option maxRecDepth 100000 in
set_option maxHeartbeats 4000000 in
theorem meq_diff (k k' : Int) (key key' dst dst' : ByteArray) (n n' : Int) (had had' has has' : Bool) (u0 u1 u2 u3 u4 u5 v0 v1 v2 v3 v4 v5 u0' u1' u2' u3' u4' u5' v0' v1' v2' v3' v4' v5' : Value) (a a' : Option Addr) (ln c ln' c' : Nat) (w : World) (p : Prop) (hp : ¬p)
    (h : k ≠ k' ∨ key ≠ key' ∨ dst ≠ dst' ∨ n ≠ n' ∨ had ≠ had' ∨ has ≠ has' ∨ ln ≠ ln') :
    Calls Tryz.prog 50 #[.agg #[.int .i64 k, .string key, .string dst, .int .i64 n, .bool had, u0, u1, u2, u3, u4, u5, .bool has, v0, v1, v2, v3, v4, v5, .slice a ln c], .agg #[.int .i64 k', .string key', .string dst', .int .i64 n', .bool had', u0', u1', u2', u3', u4', u5', .bool has', v0', v1', v2', v3', v4', v5', .slice a' ln' c']] w (EqPost p w) := by
  by_cases h1 : k = k'
  rotate_left
  · have e : (k != k') = true := by simpa using h1
    clear h h1
    go_enter Tryz.func50, Tryz.ntmps50
    go_wp2
    go_ret
    exact EqPost.no hp (two_boxes _ _ _)
  subst h1
  by_cases h1 : key = key'
  rotate_left
  · have e : (key.toList != key'.toList) = true := by simp only [bne_iff_ne]; exact fun e => h1 (by rw [Lib.toList_data, Lib.toList_data] at e; exact ByteArray.ext (Array.ext' e))
    have e2 : (key.toList == key'.toList) = false := by simpa using e
    have e3 : ¬ key.toList = key'.toList := by simpa using e
    clear h h1
    go_enter Tryz.func50, Tryz.ntmps50
    go_wp2
    go_ret
    exact EqPost.no hp (two_boxes _ _ _)
  subst h1
  by_cases h1 : dst = dst'
  rotate_left
  · have e : (dst.toList != dst'.toList) = true := by simp only [bne_iff_ne]; exact fun e => h1 (by rw [Lib.toList_data, Lib.toList_data] at e; exact ByteArray.ext (Array.ext' e))
    have e2 : (dst.toList == dst'.toList) = false := by simpa using e
    have e3 : ¬ dst.toList = dst'.toList := by simpa using e
    clear h h1
    go_enter Tryz.func50, Tryz.ntmps50
    go_wp2
    go_ret
    exact EqPost.no hp (two_boxes _ _ _)
  subst h1
  by_cases h1 : n = n'
  rotate_left
  · have e : (n != n') = true := by simpa using h1
    clear h h1
    go_enter Tryz.func50, Tryz.ntmps50
    go_wp2
    go_ret
    exact EqPost.no hp (two_boxes _ _ _)
  subst h1
  by_cases h1 : had = had'
  rotate_left
  · clear h
    cases had <;> cases had' <;> first | exact absurd rfl h1 | (clear h1; go_enter Tryz.func50, Tryz.ntmps50; go_wp2; go_ret; exact EqPost.no hp (two_boxes _ _ _))
  subst h1
  by_cases h1 : has = has'
  rotate_left
  · clear h
    cases has <;> cases has' <;> first | exact absurd rfl h1 | (clear h1; go_enter Tryz.func50, Tryz.ntmps50; go_wp2; go_ret; exact EqPost.no hp (two_boxes _ _ _))
  subst h1
  by_cases h1 : ln = ln'
  rotate_left
  · have e : ((ln : Int) != (ln' : Int)) = true := by simp; omega
    clear h h1
    go_enter Tryz.func50, Tryz.ntmps50
    go_wp2
    go_ret
    exact EqPost.no hp (two_boxes _ _ _)
  subst h1
  simp at h

end Go.Proofs.YtkoliaodkojghaaGreatDoor
