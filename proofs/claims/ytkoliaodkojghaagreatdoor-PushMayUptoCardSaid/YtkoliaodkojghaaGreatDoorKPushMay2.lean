/- Parts, joined: A mutator's nineteen cells. Plain. No condition. What a mutator's writers hand back: textual, and the pairs of del, move, inc, put, append. Condition: values of a bulk of at most 10^8. -/
import Derived.Test.YtkoliaodkojghaaGreatDoorProg
import Derived.Deep.RegionHeld3
import Derived.Test.YtkoliaodkojghaaGreatDoorKPush2
import Derived.Test.YtkoliaodkojghaaGreatDoorKPush28
import Derived.Test.YtkoliaodkojghaaGreatDoorKPush37
import Derived.Test.YtkoliaodkojghaaGreatDoorKPush38
import Derived.Test.YtkoliaodkojghaaGreatDoorKPush40
/- A mutator's nineteen cells. Plain. No condition. -/
namespace Go.Proofs.YtkoliaodkojghaaGreatDoor
open Go.RowKit

theorem mut_cells {w : World} {B : Nat} {k : Int} {key dst : ByteArray} {n : Int} {had : Bool} {k1 : Int} {b1 : Bool} {n1 : Int} {t1 : ByteArray} {l1 : List Val} {o1 : List (ByteArray × Val)} {has : Bool} {k2 : Int} {b2 : Bool} {n2 : Int} {t2 : ByteArray} {l2 : List Val} {o2 : List (ByteArray × Val)} {l : List Mut} {cs : List Value} (h : Holds w B (dM (Mut.mk k key dst n had (.mk k1 b1 n1 t1 l1 o1) has (.mk k2 b2 n2 t2 l2 o2) l)) cs) :
    ∃ la1 lc1 oa1 oc1 la2 lc2 oa2 oc2 a c, cs = [.int .i64 k, .string key, .string dst, .int .i64 n, .bool had, .int .i64 k1, .bool b1, .int .i64 n1, .string t1, .slice la1 l1.length lc1, .slice oa1 o1.length oc1, .bool has, .int .i64 k2, .bool b2, .int .i64 n2, .string t2, .slice la2 l2.length lc2, .slice oa2 o2.length oc2, .slice a l.length c] ∧ HoldsV w B (.mk k1 b1 n1 t1 l1 o1) [.int .i64 k1, .bool b1, .int .i64 n1, .string t1, .slice la1 l1.length lc1, .slice oa1 o1.length oc1] ∧ HoldsV w B (.mk k2 b2 n2 t2 l2 o2) [.int .i64 k2, .bool b2, .int .i64 n2, .string t2, .slice la2 l2.length lc2, .slice oa2 o2.length oc2] ∧ Holds w B (.row 19 (dMs l)) [.slice a l.length c] := by
  simp only [dM, Holds] at h
  obtain ⟨_, _, rfl, ⟨rfl, _⟩, _, _, rfl, ⟨rfl, _⟩, _, _, rfl, ⟨rfl, _⟩, _, _, rfl, ⟨rfl, _⟩, _, _, rfl, ⟨rfl, _⟩, x1, _, rfl, h1, _, _, rfl, ⟨rfl, _⟩, x2, _, rfl, h2, x3, _, rfl, h3, rfl⟩ := h
  have g1 := holdsV_of _ _ h1
  have g2 := holdsV_of _ _ h2
  have e1 := g1
  have e2 := g2
  simp only [HoldsV] at e1 e2
  obtain ⟨la1, lc1, oa1, oc1, rfl, _, _⟩ := e1
  obtain ⟨la2, lc2, oa2, oc2, rfl, _, _⟩ := e2
  obtain ⟨a, c, rfl, hs, hr⟩ := h3
  rw [dMs_len]
  exact ⟨la1, lc1, oa1, oc1, la2, lc2, oa2, oc2, a, c, rfl, g1, g2, a, c, by rw [dMs_len], hs, hr⟩
theorem mut_at {w : World} {B n c : Nat} {l : List Mut} {a : Option Addr} (h : Holds w B (.row 19 (dMs l)) [.slice a n c]) {q : Nat} {m : Mut} (hi : l[q]? = some m) :
    ∃ g off, a = some ⟨g, off, none⟩ ∧ g < B ∧ ∃ cs, Holds w B (dM m) cs ∧ cs.length = 19 ∧ ∀ j u, cs[j]? = some u → w.cell? ⟨g, off + q * 19 + j, none⟩ = some u :=
  h.at_ (i := q) (d := dM m) (by rw [dMs_map, List.getElem?_map, hi]; rfl)
/-- The cells of a block that holds a mutator. -/
theorem mcell19 {w : World} {g : Nat} {t : TypeId} {a0 a1 a2 a3 a4 a5 a6 a7 a8 a9 a10 a11 a12 a13 a14 a15 a16 a17 a18 : Value} (h : Blk w g t #[a0, a1, a2, a3, a4, a5, a6, a7, a8, a9, a10, a11, a12, a13, a14, a15, a16, a17, a18]) :
    w.cell? ⟨g, 0, none⟩ = some a0 ∧ w.cell? ⟨g, 1, none⟩ = some a1 ∧ w.cell? ⟨g, 2, none⟩ = some a2 ∧ w.cell? ⟨g, 3, none⟩ = some a3 ∧ w.cell? ⟨g, 4, none⟩ = some a4 ∧ w.cell? ⟨g, 5, none⟩ = some a5 ∧ w.cell? ⟨g, 6, none⟩ = some a6 ∧ w.cell? ⟨g, 7, none⟩ = some a7 ∧ w.cell? ⟨g, 8, none⟩ = some a8 ∧ w.cell? ⟨g, 9, none⟩ = some a9 ∧ w.cell? ⟨g, 10, none⟩ = some a10 ∧ w.cell? ⟨g, 11, none⟩ = some a11 ∧ w.cell? ⟨g, 12, none⟩ = some a12 ∧ w.cell? ⟨g, 13, none⟩ = some a13 ∧ w.cell? ⟨g, 14, none⟩ = some a14 ∧ w.cell? ⟨g, 15, none⟩ = some a15 ∧ w.cell? ⟨g, 16, none⟩ = some a16 ∧ w.cell? ⟨g, 17, none⟩ = some a17 ∧ w.cell? ⟨g, 18, none⟩ = some a18 := ⟨h.cell 0, h.cell 1, h.cell 2, h.cell 3, h.cell 4, h.cell 5, h.cell 6, h.cell 7, h.cell 8, h.cell 9, h.cell 10, h.cell 11, h.cell 12, h.cell 13, h.cell 14, h.cell 15, h.cell 16, h.cell 17, h.cell 18⟩
theorem mut_len {w : World} {B : Nat} {m : Mut} {cs : List Value} (h : Holds w B (dM m) cs) : cs.length = 19 := h.len.1.trans (dM_cells m)
end Go.Proofs.YtkoliaodkojghaaGreatDoor

/- What a mutator's writers hand back: textual, and the pairs of del, move, inc, put, append. Condition: values of a bulk of at most 10^8. -/
namespace Go.Proofs.YtkoliaodkojghaaGreatDoor
open Go Go.RowKit

theorem mtextual_calls (s : ByteArray) (w : World) : Calls Tryz.prog 99 #[.string s] w fun e w' => e = .returned (.agg #[.int .i64 4, .bool false, .int .i64 0, .string s, .slice none 0 0, .slice none 0 0]) ∧ Below w.heap.size w w' := by
  go_enter Tryz.func99, Tryz.ntmps99
  go_wp2
  exact bodyPost_ret (v := .agg #[.int .i64 4, .bool false, .int .i64 0, .string s, .slice none 0 0, .slice none 0 0]) (by simp [results, Tryz.results99, go_sem]) rfl ⟨rfl, (Below.refl _ _).alloc (Nat.le_refl _) _⟩

/-- Pairs that lie in a block of their own, all they lead to from block b on. -/
def PairsAt (b : Nat) (w : World) (o : List (ByteArray × Val)) (V : Value) : Prop := ∃ g c ns, V = .slice (some ⟨g, 0, none⟩) o.length c ∧ b ≤ g ∧ g < w.heap.size ∧ FreshA b w (dO o) ns ∧ ∀ j u, ns[j]? = some u → w.cell? ⟨g, j, none⟩ = some u
/-- Pairs of the call's own, given back. -/
def PairsPost (o : List (ByteArray × Val)) (w : World) (e : Ending) (w' : World) : Prop := Below w.heap.size w w' ∧ ∃ V, e = .returned V ∧ PairsAt w.heap.size w' o V
/-- A literal of pairs. -/
theorem pairs_lit {b : Nat} {w : World} {t : TypeId} {cs : Array Value} {o : List (ByteArray × Val)} {n c : Nat} (hb : b ≤ w.heap.size) (hn : n = o.length) (h : FreshA b (w.alloc (.cells cs t)) (dO o) cs.toList) : PairsAt b (w.alloc (.cells cs t)) o (.slice (some ⟨w.heap.size, 0, none⟩) n c) := by
  subst hn
  have hx := Blk.new w t cs
  exact ⟨_, c, cs.toList, rfl, hb, hx.lt, h, fun j u hu => (hx.cell j).trans (by rw [← Array.getElem?_toList]; exact hu)⟩
theorem FreshA.app {b : Nat} {w : World} {l r : List D} {cs es : List Value} (h : FreshA b w l cs) (k : FreshA b w r es) : FreshA b w (l ++ r) (cs ++ es) := fun w'' h1 h2 => (h w'' h1 h2).app (k w'' h1 h2)
theorem FreshA.one {b : Nat} {w : World} {d : D} {cs : List Value} (h : Fresh b w d cs) : FreshA b w [d] cs := fun w'' h1 h2 => HoldsA.one (h w'' h1 h2)
theorem fresh_ivP (b : Nat) (w : World) (key : ByteArray) (n : Int) : Fresh b w (dP (key, iv n)) [.string key, .int .i64 3, .bool false, .int .i64 n, .string ⟨#[]⟩, .slice none 0 0, .slice none 0 0] := fun _ _ _ => holds_ivP _ _ _ _

set_option maxRecDepth 100000 in
set_option maxHeartbeats 1000000 in
theorem wdel_calls (y0 : Value) (key : ByteArray) (y2 y3 y4 y5 y6 y7 y8 y9 y10 y11 y12 y13 y14 y15 y16 y17 y18 : Value) (w : World) :
    Calls Tryz.prog 103 #[.agg #[y0, .string key, y2, y3, y4, y5, y6, y7, y8, y9, y10, y11, y12, y13, y14, y15, y16, y17, y18]] w (PairsPost [(kKey, tv key)] w) := by
  have hC := fun W => mtextual_calls key W
  have HC := Lib.hid hC
  clear hC
  go_enter Tryz.func103, Tryz.ntmps103
  go_wp2_with (fail)
  with_reducible refine (HC.out _).mono ?_
  rintro e w1 ⟨rfl, hb1⟩
  have hbw := (alloc_below w _).trans (hb1.mono (by simp))
  have hz := hbw.size
  have Hbw := Lib.hid hbw
  clear hbw
  go_wp2
  go_ret
  exact ⟨Hbw.out.alloc hz _, _, rfl, pairs_lit hz rfl (FreshA.one (fresh_tvP _ _ kKey key))⟩

set_option maxRecDepth 100000 in
set_option maxHeartbeats 4000000 in
theorem wmove_calls (y0 : Value) (key dst : ByteArray) (y3 y4 y5 y6 y7 y8 y9 y10 y11 y12 y13 y14 y15 y16 y17 y18 : Value) (w : World) :
    Calls Tryz.prog 108 #[.agg #[y0, .string key, .string dst, y3, y4, y5, y6, y7, y8, y9, y10, y11, y12, y13, y14, y15, y16, y17, y18]] w (PairsPost [(kFrom, tv key), (kTo, tv dst)] w) := by
  have hC := fun W => mtextual_calls key W
  have hD := fun W => mtextual_calls dst W
  obtain ⟨wi, hwi⟩ : ∃ wi, w.alloc (.cells #[y0, .string key, .string dst, y3, y4, y5, y6, y7, y8, y9, y10, y11, y12, y13, y14, y15, y16, y17, y18] 48) = wi := ⟨_, rfl⟩
  have hbi : Below w.heap.size w wi := hwi ▸ alloc_below _ _
  have hxb : Blk wi w.heap.size 48 #[y0, .string key, .string dst, y3, y4, y5, y6, y7, y8, y9, y10, y11, y12, y13, y14, y15, y16, y17, y18] := hwi ▸ Blk.new _ _ _
  have d1 := hxb.cell 1
  have d2 := hxb.cell 2
  have hgb := hxb.lt
  have HC := Lib.hid hC
  have HD := Lib.hid hD
  have Hbi := Lib.hid hbi
  have Hxb := Lib.hid hxb
  clear hC hD hbi hxb
  go_enter Tryz.func108, Tryz.ntmps108
  go_upto_region 1 with (fail)
  clear hwi
  go_region_held3 (fun W => W.cell? ⟨w.heap.size, 1, none⟩ = some (.string key) ∧ W.cell? ⟨w.heap.size, 2, none⟩ = some (.string dst)) (go_keep) (first
    | (go_at_call 99; refine (HC.out _).mono ?_; rintro e w2 ⟨rfl, hb2⟩; have hbr2 : Below wi.heap.size wi w2 := ((Below.drew (Below.refl _ _)).trans hb2); obtain ⟨hc2, hg2⟩ := bcellM hbr2)
    | (go_at_call 99; refine (HD.out _).mono ?_; rintro e w3 ⟨rfl, hb3⟩; have hbr3 := hbr2.trans (hb3.mono hbr2.size); obtain ⟨hc3, hg3⟩ := bcellM hbr3))
  all_goals
    have HB := Lib.hid (Hbi.out.trans (hbr3.mono Hbi.out.size))
    clear hc2 hg2 hc3 hg3 hb2 hb3 hbr2 hbr3
    go_wp2
    go_ret
    exact ⟨HB.out.alloc HB.out.size _, _, rfl, pairs_lit HB.out.size rfl ((FreshA.one (fresh_tvP _ _ kFrom key)).app (FreshA.one (fresh_tvP _ _ kTo dst)))⟩

set_option maxRecDepth 100000 in
set_option maxHeartbeats 4000000 in
theorem winc_calls (y0 : Value) (key : ByteArray) (y2 : Value) (n : Int) (y4 y5 y6 y7 y8 y9 y10 y11 y12 y13 y14 y15 y16 y17 y18 : Value) (w : World) :
    Calls Tryz.prog 106 #[.agg #[y0, .string key, y2, .int .i64 n, y4, y5, y6, y7, y8, y9, y10, y11, y12, y13, y14, y15, y16, y17, y18]] w (PairsPost [(kBy, iv n), (kKey, tv key)] w) := by
  have hC := fun W => mtextual_calls key W
  go_enter Tryz.func106, Tryz.ntmps106
  go_upto_region 2 with (fail)
  obtain ⟨wi, hwi⟩ : ∃ wi, (w.alloc (.cells #[y0, .string key, y2, .int .i64 n, y4, y5, y6, y7, y8, y9, y10, y11, y12, y13, y14, y15, y16, y17, y18] 48)).alloc (.cells #[.int .i64 3, .bool false, .int .i64 n, .string ⟨#[]⟩, .slice none 0 0, .slice none 0 0] 45) = wi := ⟨_, rfl⟩
  have hbi : Below w.heap.size w wi := hwi ▸ ((alloc_below _ _).alloc (by simp) _)
  have hxb : Blk wi w.heap.size 48 #[y0, .string key, y2, .int .i64 n, y4, y5, y6, y7, y8, y9, y10, y11, y12, y13, y14, y15, y16, y17, y18] := hwi ▸ (Blk.new _ _ _).alloc _
  have hxv : Blk wi (w.heap.size + 1) 45 #[.int .i64 3, .bool false, .int .i64 n, .string ⟨#[]⟩, .slice none 0 0, .slice none 0 0] := by
    rw [← hwi]
    have := Blk.new (w.alloc (.cells #[y0, .string key, y2, .int .i64 n, y4, y5, y6, y7, y8, y9, y10, y11, y12, y13, y14, y15, y16, y17, y18] 48)) 45 #[.int .i64 3, .bool false, .int .i64 n, .string ⟨#[]⟩, .slice none 0 0, .slice none 0 0]
    rwa [World.size_alloc] at this
  have d1 := hxb.cell 1
  obtain ⟨v0, v1, v2, v3, v4, v5⟩ := vcell hxv
  have hgb := hxb.lt
  have hgv := hxv.lt
  have HC := Lib.hid hC
  have Hbi := Lib.hid hbi
  have Hxb := Lib.hid hxb
  have Hxv := Lib.hid hxv
  clear hC hbi hxb hxv
  rw [hwi]
  clear hwi
  go_region_held3 (fun W => W.cell? ⟨w.heap.size, 1, none⟩ = some (.string key) ∧ W.cell? ⟨w.heap.size + 1, 0, none⟩ = some (.int .i64 3) ∧ W.cell? ⟨w.heap.size + 1, 1, none⟩ = some (.bool false) ∧ W.cell? ⟨w.heap.size + 1, 2, none⟩ = some (.int .i64 n) ∧ W.cell? ⟨w.heap.size + 1, 3, none⟩ = some (.string ⟨#[]⟩) ∧ W.cell? ⟨w.heap.size + 1, 4, none⟩ = some (.slice none 0 0) ∧ W.cell? ⟨w.heap.size + 1, 5, none⟩ = some (.slice none 0 0)) (go_keep) (first
    | (go_at_call 99; refine (HC.out _).mono ?_; rintro e w2 ⟨rfl, hb2⟩; have hbr2 : Below wi.heap.size wi w2 := ((Below.drew (Below.refl _ _)).trans hb2); obtain ⟨hc2, hg2⟩ := bcellM hbr2))
  all_goals
    have HB := Lib.hid (Hbi.out.trans (hbr2.mono Hbi.out.size))
    clear hc2 hg2 hb2 hbr2
    go_wp2
    go_ret
    exact ⟨HB.out.alloc HB.out.size _, _, rfl, pairs_lit HB.out.size rfl ((FreshA.one (fresh_ivP _ _ kBy n)).app (FreshA.one (fresh_tvP _ _ kKey key)))⟩

set_option maxRecDepth 100000 in
set_option maxHeartbeats 4000000 in
theorem wval_calls (y0 : Value) (key : ByteArray) (y2 y3 y4 y5 y6 y7 y8 y9 y10 y11 : Value) (k : Int) (b : Bool) (n : Int) (t : ByteArray) (l : List Val) (o : List (ByteArray × Val)) (la oa : Option Addr) (lc oc : Nat) (y18 : Value) (w : World)
    (hV : HoldsV w w.heap.size (.mk k b n t l o) [.int .i64 k, .bool b, .int .i64 n, .string t, .slice la l.length lc, .slice oa o.length oc]) (hb : (Val.mk k b n t l o).bulk ≤ 100000000) :
    Calls Tryz.prog 134 #[.agg #[y0, .string key, y2, y3, y4, y5, y6, y7, y8, y9, y10, y11, .int .i64 k, .bool b, .int .i64 n, .string t, .slice la l.length lc, .slice oa o.length oc, y18]] w (PairsPost [(kKey, tv key), (kVal, .mk k b n t l o)] w) := by
  have hC := fun W => mtextual_calls key W
  have hD : ∀ W, Below w.heap.size w W → Calls Tryz.prog 65 #[.agg #[.int .i64 k, .bool b, .int .i64 n, .string t, .slice la l.length lc, .slice oa o.length oc]] W (VCopyPost W (.mk k b n t l o)) := fun W hB => vcopy_calls _ _ W (HoldsV.more hB.size _ _ (hV.below hB)) hb
  obtain ⟨wi, hwi⟩ : ∃ wi, w.alloc (.cells #[y0, .string key, y2, y3, y4, y5, y6, y7, y8, y9, y10, y11, .int .i64 k, .bool b, .int .i64 n, .string t, .slice la l.length lc, .slice oa o.length oc, y18] 48) = wi := ⟨_, rfl⟩
  have hbi : Below w.heap.size w wi := hwi ▸ alloc_below _ _
  have hxb : Blk wi w.heap.size 48 #[y0, .string key, y2, y3, y4, y5, y6, y7, y8, y9, y10, y11, .int .i64 k, .bool b, .int .i64 n, .string t, .slice la l.length lc, .slice oa o.length oc, y18] := hwi ▸ Blk.new _ _ _
  have d1 := hxb.cell 1
  have d12 := hxb.cell 12
  have d13 := hxb.cell 13
  have d14 := hxb.cell 14
  have d15 := hxb.cell 15
  have d16 := hxb.cell 16
  have d17 := hxb.cell 17
  have hgb := hxb.lt
  have HC := Lib.hid hC
  have HD := Lib.hid hD
  have Hbi := Lib.hid hbi
  have Hxb := Lib.hid hxb
  clear hC hD hbi hxb
  clear hV
  go_enter Tryz.func134, Tryz.ntmps134
  go_upto_region 1 with (fail)
  clear hwi
  go_region_held3 (fun W => W.cell? ⟨w.heap.size, 1, none⟩ = some (.string key) ∧ W.cell? ⟨w.heap.size, 12, none⟩ = some (.int .i64 k) ∧ W.cell? ⟨w.heap.size, 13, none⟩ = some (.bool b) ∧ W.cell? ⟨w.heap.size, 14, none⟩ = some (.int .i64 n) ∧ W.cell? ⟨w.heap.size, 15, none⟩ = some (.string t) ∧ W.cell? ⟨w.heap.size, 16, none⟩ = some (.slice la l.length lc) ∧ W.cell? ⟨w.heap.size, 17, none⟩ = some (.slice oa o.length oc)) (go_keep) (first
    | (go_at_call 99; refine (HC.out _).mono ?_; rintro e w2 ⟨rfl, hb2⟩; have hbr2 : Below wi.heap.size wi w2 := ((Below.drew (Below.refl _ _)).trans hb2); obtain ⟨hc2, hg2⟩ := bcellM hbr2)
    | (go_at_call 65; refine (HD.out _ (Hbi.out.trans (hbr2.mono Hbi.out.size))).mono ?_; rintro e w3 ⟨⟨cs4, rfl, hl4, hf4⟩, hb3⟩; obtain ⟨la2, lc2, oa2, oc2, rfl⟩ := six_now hf4; have hbr3 := hbr2.trans (hb3.mono hbr2.size); have hff := hf4.keep (b' := w.heap.size) (w' := w3) (Nat.le_trans Hbi.out.size hbr2.size) (Nat.le_refl _) (fun _ _ _ => rfl); have Hff := Lib.hid hff; obtain ⟨hc3, hg3⟩ := bcellM hbr3; clear hf4 hff))
  all_goals
    have HB := Lib.hid (Hbi.out.trans (hbr3.mono Hbi.out.size))
    clear hc2 hg2 hc3 hg3 hb2 hb3 hbr2 hbr3
    go_wp2
    go_ret
    exact ⟨HB.out.alloc HB.out.size _, _, rfl, pairs_lit HB.out.size rfl ((FreshA.one (fresh_tvP _ _ kKey key)).app (FreshA.one ((dP_fresh (key := kVal) Hff.out).later (alloc_below _ _))))⟩
end Go.Proofs.YtkoliaodkojghaaGreatDoor
