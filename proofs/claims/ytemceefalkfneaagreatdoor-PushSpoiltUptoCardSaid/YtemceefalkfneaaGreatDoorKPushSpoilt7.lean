/- Parts, joined: What a mutator's writers hand back: textual, and the pairs of del, move, inc, put, append. Condition: values of a bulk of at most 10^8. -/
import Derived.Test.YtemceefalkfneaaGreatDoorProg
import Derived.Deep.RegionHeld3
import Derived.Test.YtemceefalkfneaaGreatDoorKCm21
import Derived.Test.YtemceefalkfneaaGreatDoorKCm28
import Derived.Test.YtemceefalkfneaaGreatDoorKPushSpoilt3
import Derived.Test.YtemceefalkfneaaGreatDoorKPushSpoilt4
/- What a mutator's writers hand back: textual, and the pairs of del, move, inc, put, append. Condition: values of a bulk of at most 10^8. -/
namespace Go.Proofs.YtemceefalkfneaaGreatDoor
open Go Go.RowKit

theorem mtextual_calls (s : ByteArray) (w : World) : Calls Tryz.prog 148 #[.string s] w fun e w' => e = .returned (.agg #[.int .i64 4, .bool false, .int .i64 0, .string s, .slice none 0 0, .slice none 0 0]) ∧ Below w.heap.size w w' := by
  go_enter Tryz.func148, Tryz.ntmps148
  go_wp2
  exact bodyPost_ret (v := .agg #[.int .i64 4, .bool false, .int .i64 0, .string s, .slice none 0 0, .slice none 0 0]) (by simp [results, Tryz.results148, go_sem]) rfl ⟨rfl, (Below.refl _ _).alloc (Nat.le_refl _) _⟩

/-- Pairs that lie in a block of their own, all they lead to from block b on. -/
def PairsAt (b : Nat) (w : World) (o : List (ByteArray × Val)) (V : Value) : Prop := ∃ g c ns, V = .slice (some ⟨g, 0, none⟩) o.length c ∧ b ≤ g ∧ g < w.heap.size ∧ FreshA b w (dO o) ns ∧ ∀ j u, ns[j]? = some u → w.cell? ⟨g, j, none⟩ = some u
/-- Pairs of the call's own, given back. -/
def PairsPost (o : List (ByteArray × Val)) (w : World) (e : Ending) (w' : World) : Prop := Below w.heap.size w w' ∧ ∃ V, e = .returned V ∧ PairsAt w.heap.size w' o V
/-- A literal of pairs. -/
theorem pairs_lit {b : Nat} {w : World} {t : TypeId} {cs : Array Value} {o : List (ByteArray × Val)} {n c : Nat} (hb : b ≤ w.heap.size) (hn : n = o.length) (h : FreshA b (w.alloc (.cells cs t)) (dO o) cs.toList) : PairsAt b (w.alloc (.cells cs t)) o (.slice (some ⟨w.heap.size, 0, none⟩) n c) := by
  subst hn
  have hx := Blk.new w t cs
  exact ⟨_, c, cs.toList, rfl, hb, hx.lt, h, fun j u hu => (hx.cell j).trans (by rw [← Array.getElem?_toList]; exact hu)⟩
theorem FreshA.app {b : Nat} {w : World} {l r : List D} {cs es : List Value} (h : FreshA b w l cs) (k : FreshA b w r es) : FreshA b w (l ++ r) (cs ++ es) := fun w'' h1 h2 => (h w'' h1 h2).app (k w'' h1 h2)
theorem FreshA.one {b : Nat} {w : World} {d : D} {cs : List Value} (h : Fresh b w d cs) : FreshA b w [d] cs := fun w'' h1 h2 => HoldsA.one (h w'' h1 h2)
theorem fresh_ivP (b : Nat) (w : World) (key : ByteArray) (n : Int) : Fresh b w (dP (key, iv n)) [.string key, .int .i64 3, .bool false, .int .i64 n, .string ⟨#[]⟩, .slice none 0 0, .slice none 0 0] := fun _ _ _ => holds_ivP _ _ _ _

set_option maxRecDepth 100000 in
set_option maxHeartbeats 1000000 in
theorem wdel_calls (y0 : Value) (key : ByteArray) (y2 y3 y4 y5 y6 y7 y8 y9 y10 y11 y12 y13 y14 y15 y16 y17 y18 : Value) (w : World) :
    Calls Tryz.prog 152 #[.agg #[y0, .string key, y2, y3, y4, y5, y6, y7, y8, y9, y10, y11, y12, y13, y14, y15, y16, y17, y18]] w (PairsPost [(kKey, tv key)] w) := by
  have hC := fun W => mtextual_calls key W
  have HC := Lib.hid hC
  clear hC
  go_enter Tryz.func152, Tryz.ntmps152
  go_wp2_with (fail)
  with_reducible refine (HC.out _).mono ?_
  rintro e w1 ⟨rfl, hb1⟩
  have hbw := (alloc_below w _).trans (hb1.mono (by simp))
  have hz := hbw.size
  have Hbw := Lib.hid hbw
  clear hbw
  go_wp2
  go_ret
  exact ⟨Hbw.out.alloc hz _, _, rfl, pairs_lit hz rfl (FreshA.one (fresh_tvP _ _ kKey key))⟩

set_option maxRecDepth 100000 in
set_option maxHeartbeats 4000000 in
theorem wmove_calls (y0 : Value) (key dst : ByteArray) (y3 y4 y5 y6 y7 y8 y9 y10 y11 y12 y13 y14 y15 y16 y17 y18 : Value) (w : World) :
    Calls Tryz.prog 157 #[.agg #[y0, .string key, .string dst, y3, y4, y5, y6, y7, y8, y9, y10, y11, y12, y13, y14, y15, y16, y17, y18]] w (PairsPost [(kFrom, tv key), (kTo, tv dst)] w) := by
  have hC := fun W => mtextual_calls key W
  have hD := fun W => mtextual_calls dst W
  obtain ⟨wi, hwi⟩ : ∃ wi, w.alloc (.cells #[y0, .string key, .string dst, y3, y4, y5, y6, y7, y8, y9, y10, y11, y12, y13, y14, y15, y16, y17, y18] 85) = wi := ⟨_, rfl⟩
  have hbi : Below w.heap.size w wi := hwi ▸ alloc_below _ _
  have hxb : Blk wi w.heap.size 85 #[y0, .string key, .string dst, y3, y4, y5, y6, y7, y8, y9, y10, y11, y12, y13, y14, y15, y16, y17, y18] := hwi ▸ Blk.new _ _ _
  have d1 := hxb.cell 1
  have d2 := hxb.cell 2
  have hgb := hxb.lt
  have HC := Lib.hid hC
  have HD := Lib.hid hD
  have Hbi := Lib.hid hbi
  have Hxb := Lib.hid hxb
  clear hC hD hbi hxb
  go_enter Tryz.func157, Tryz.ntmps157
  go_upto_region 1 with (fail)
  clear hwi
  go_region_held3 (fun W => W.cell? ⟨w.heap.size, 1, none⟩ = some (.string key) ∧ W.cell? ⟨w.heap.size, 2, none⟩ = some (.string dst)) (go_keep) (first
    | (go_at_call 148; refine (HC.out _).mono ?_; rintro e w2 ⟨rfl, hb2⟩; have hbr2 : Below wi.heap.size wi w2 := ((Below.drew (Below.refl _ _)).trans hb2); obtain ⟨hc2, hg2⟩ := bcellM hbr2)
    | (go_at_call 148; refine (HD.out _).mono ?_; rintro e w3 ⟨rfl, hb3⟩; have hbr3 := hbr2.trans (hb3.mono hbr2.size); obtain ⟨hc3, hg3⟩ := bcellM hbr3))
  all_goals
    have HB := Lib.hid (Hbi.out.trans (hbr3.mono Hbi.out.size))
    clear hc2 hg2 hc3 hg3 hb2 hb3 hbr2 hbr3
    go_wp2
    go_ret
    exact ⟨HB.out.alloc HB.out.size _, _, rfl, pairs_lit HB.out.size rfl ((FreshA.one (fresh_tvP _ _ kFrom key)).app (FreshA.one (fresh_tvP _ _ kTo dst)))⟩

set_option maxRecDepth 100000 in
set_option maxHeartbeats 4000000 in
theorem winc_calls (y0 : Value) (key : ByteArray) (y2 : Value) (n : Int) (y4 y5 y6 y7 y8 y9 y10 y11 y12 y13 y14 y15 y16 y17 y18 : Value) (w : World) :
    Calls Tryz.prog 155 #[.agg #[y0, .string key, y2, .int .i64 n, y4, y5, y6, y7, y8, y9, y10, y11, y12, y13, y14, y15, y16, y17, y18]] w (PairsPost [(kBy, iv n), (kKey, tv key)] w) := by
  have hC := fun W => mtextual_calls key W
  go_enter Tryz.func155, Tryz.ntmps155
  go_upto_region 2 with (fail)
  obtain ⟨wi, hwi⟩ : ∃ wi, (w.alloc (.cells #[y0, .string key, y2, .int .i64 n, y4, y5, y6, y7, y8, y9, y10, y11, y12, y13, y14, y15, y16, y17, y18] 85)).alloc (.cells #[.int .i64 3, .bool false, .int .i64 n, .string ⟨#[]⟩, .slice none 0 0, .slice none 0 0] 52) = wi := ⟨_, rfl⟩
  have hbi : Below w.heap.size w wi := hwi ▸ ((alloc_below _ _).alloc (by simp) _)
  have hxb : Blk wi w.heap.size 85 #[y0, .string key, y2, .int .i64 n, y4, y5, y6, y7, y8, y9, y10, y11, y12, y13, y14, y15, y16, y17, y18] := hwi ▸ (Blk.new _ _ _).alloc _
  have hxv : Blk wi (w.heap.size + 1) 52 #[.int .i64 3, .bool false, .int .i64 n, .string ⟨#[]⟩, .slice none 0 0, .slice none 0 0] := by
    rw [← hwi]
    have := Blk.new (w.alloc (.cells #[y0, .string key, y2, .int .i64 n, y4, y5, y6, y7, y8, y9, y10, y11, y12, y13, y14, y15, y16, y17, y18] 85)) 52 #[.int .i64 3, .bool false, .int .i64 n, .string ⟨#[]⟩, .slice none 0 0, .slice none 0 0]
    rwa [World.size_alloc] at this
  have d1 := hxb.cell 1
  obtain ⟨v0, v1, v2, v3, v4, v5⟩ := vcell hxv
  have hgb := hxb.lt
  have hgv := hxv.lt
  have HC := Lib.hid hC
  have Hbi := Lib.hid hbi
  have Hxb := Lib.hid hxb
  have Hxv := Lib.hid hxv
  clear hC hbi hxb hxv
  rw [hwi]
  clear hwi
  go_region_held3 (fun W => W.cell? ⟨w.heap.size, 1, none⟩ = some (.string key) ∧ W.cell? ⟨w.heap.size + 1, 0, none⟩ = some (.int .i64 3) ∧ W.cell? ⟨w.heap.size + 1, 1, none⟩ = some (.bool false) ∧ W.cell? ⟨w.heap.size + 1, 2, none⟩ = some (.int .i64 n) ∧ W.cell? ⟨w.heap.size + 1, 3, none⟩ = some (.string ⟨#[]⟩) ∧ W.cell? ⟨w.heap.size + 1, 4, none⟩ = some (.slice none 0 0) ∧ W.cell? ⟨w.heap.size + 1, 5, none⟩ = some (.slice none 0 0)) (go_keep) (first
    | (go_at_call 148; refine (HC.out _).mono ?_; rintro e w2 ⟨rfl, hb2⟩; have hbr2 : Below wi.heap.size wi w2 := ((Below.drew (Below.refl _ _)).trans hb2); obtain ⟨hc2, hg2⟩ := bcellM hbr2))
  all_goals
    have HB := Lib.hid (Hbi.out.trans (hbr2.mono Hbi.out.size))
    clear hc2 hg2 hb2 hbr2
    go_wp2
    go_ret
    exact ⟨HB.out.alloc HB.out.size _, _, rfl, pairs_lit HB.out.size rfl ((FreshA.one (fresh_ivP _ _ kBy n)).app (FreshA.one (fresh_tvP _ _ kKey key)))⟩

set_option maxRecDepth 100000 in
set_option maxHeartbeats 4000000 in
theorem wval_calls (y0 : Value) (key : ByteArray) (y2 y3 y4 y5 y6 y7 y8 y9 y10 y11 : Value) (k : Int) (b : Bool) (n : Int) (t : ByteArray) (l : List Val) (o : List (ByteArray × Val)) (la oa : Option Addr) (lc oc : Nat) (y18 : Value) (w : World)
    (hV : HoldsV w w.heap.size (.mk k b n t l o) [.int .i64 k, .bool b, .int .i64 n, .string t, .slice la l.length lc, .slice oa o.length oc]) (hb : (Val.mk k b n t l o).bulk ≤ 100000000) :
    Calls Tryz.prog 214 #[.agg #[y0, .string key, y2, y3, y4, y5, y6, y7, y8, y9, y10, y11, .int .i64 k, .bool b, .int .i64 n, .string t, .slice la l.length lc, .slice oa o.length oc, y18]] w (PairsPost [(kKey, tv key), (kVal, .mk k b n t l o)] w) := by
  have hC := fun W => mtextual_calls key W
  have hD : ∀ W, Below w.heap.size w W → Calls Tryz.prog 78 #[.agg #[.int .i64 k, .bool b, .int .i64 n, .string t, .slice la l.length lc, .slice oa o.length oc]] W (VCopyPost W (.mk k b n t l o)) := fun W hB => vcopy_calls _ _ W (HoldsV.more hB.size _ _ (hV.below hB)) hb
  obtain ⟨wi, hwi⟩ : ∃ wi, w.alloc (.cells #[y0, .string key, y2, y3, y4, y5, y6, y7, y8, y9, y10, y11, .int .i64 k, .bool b, .int .i64 n, .string t, .slice la l.length lc, .slice oa o.length oc, y18] 85) = wi := ⟨_, rfl⟩
  have hbi : Below w.heap.size w wi := hwi ▸ alloc_below _ _
  have hxb : Blk wi w.heap.size 85 #[y0, .string key, y2, y3, y4, y5, y6, y7, y8, y9, y10, y11, .int .i64 k, .bool b, .int .i64 n, .string t, .slice la l.length lc, .slice oa o.length oc, y18] := hwi ▸ Blk.new _ _ _
  have d1 := hxb.cell 1
  have d12 := hxb.cell 12
  have d13 := hxb.cell 13
  have d14 := hxb.cell 14
  have d15 := hxb.cell 15
  have d16 := hxb.cell 16
  have d17 := hxb.cell 17
  have hgb := hxb.lt
  have HC := Lib.hid hC
  have HD := Lib.hid hD
  have Hbi := Lib.hid hbi
  have Hxb := Lib.hid hxb
  clear hC hD hbi hxb
  clear hV
  go_enter Tryz.func214, Tryz.ntmps214
  go_upto_region 1 with (fail)
  clear hwi
  go_region_held3 (fun W => W.cell? ⟨w.heap.size, 1, none⟩ = some (.string key) ∧ W.cell? ⟨w.heap.size, 12, none⟩ = some (.int .i64 k) ∧ W.cell? ⟨w.heap.size, 13, none⟩ = some (.bool b) ∧ W.cell? ⟨w.heap.size, 14, none⟩ = some (.int .i64 n) ∧ W.cell? ⟨w.heap.size, 15, none⟩ = some (.string t) ∧ W.cell? ⟨w.heap.size, 16, none⟩ = some (.slice la l.length lc) ∧ W.cell? ⟨w.heap.size, 17, none⟩ = some (.slice oa o.length oc)) (go_keep) (first
    | (go_at_call 148; refine (HC.out _).mono ?_; rintro e w2 ⟨rfl, hb2⟩; have hbr2 : Below wi.heap.size wi w2 := ((Below.drew (Below.refl _ _)).trans hb2); obtain ⟨hc2, hg2⟩ := bcellM hbr2)
    | (go_at_call 78; refine (HD.out _ (Hbi.out.trans (hbr2.mono Hbi.out.size))).mono ?_; rintro e w3 ⟨⟨cs4, rfl, hl4, hf4⟩, hb3⟩; obtain ⟨la2, lc2, oa2, oc2, rfl⟩ := six_now hf4; have hbr3 := hbr2.trans (hb3.mono hbr2.size); have hff := hf4.keep (b' := w.heap.size) (w' := w3) (Nat.le_trans Hbi.out.size hbr2.size) (Nat.le_refl _) (fun _ _ _ => rfl); have Hff := Lib.hid hff; obtain ⟨hc3, hg3⟩ := bcellM hbr3; clear hf4 hff))
  all_goals
    have HB := Lib.hid (Hbi.out.trans (hbr3.mono Hbi.out.size))
    clear hc2 hg2 hc3 hg3 hb2 hb3 hbr2 hbr3
    go_wp2
    go_ret
    exact ⟨HB.out.alloc HB.out.size _, _, rfl, pairs_lit HB.out.size rfl ((FreshA.one (fresh_tvP _ _ kKey key)).app (FreshA.one ((dP_fresh (key := kVal) Hff.out).later (alloc_below _ _))))⟩
end Go.Proofs.YtemceefalkfneaaGreatDoor
