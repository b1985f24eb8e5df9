/- Parts, joined: mutator.object: the object of pairs. Condition: at most 10^6 pairs. A mutator's guard, and what MutCas writes: the pairs. Condition: values of a bulk of at most 10^8. -/
import Derived.Test.YtemceefalkfneaaGreatDoorProg
import Derived.Test.YtemceefalkfneaaGreatDoorKPushSpoilt2
import Derived.Test.YtemceefalkfneaaGreatDoorKPushSpoilt6
import Derived.Test.YtemceefalkfneaaGreatDoorKPushSpoilt7
/- mutator.object: the object of pairs. Condition: at most 10^6 pairs. -/
namespace Go.Proofs.YtemceefalkfneaaGreatDoor
open Go Go.RowKit

/-- The i-th datum of a row that is fresh. -/
theorem FreshA.at_ {b s : Nat} {w : World} {l : List D} {ns : List Value} (hs : ∀ d ∈ l, d.cells = s) (h : FreshA b w l ns) {i : Nat} {d : D} (hi : l[i]? = some d) :
    ∃ cs, Fresh b w d cs ∧ cs.length = s ∧ ∀ j u, cs[j]? = some u → ns[i * s + j]? = some u := by
  have hd := hs d (List.mem_of_getElem? hi)
  have key : ∀ w'' : World, w.heap.size ≤ w''.heap.size → (∀ p : Addr, b ≤ p.block → p.block < w.heap.size → w''.cell? p = w.cell? p) → Holds w'' w.heap.size d ((ns.drop (i * s)).take s) ∧ ((ns.drop (i * s)).take s).length = s := by
    intro w'' h1 h2
    obtain ⟨cs, g1, g2, g3⟩ := HoldsA.at_ hs (h w'' h1 h2) hi
    have : cs = (ns.drop (i * s)).take s := by
      refine List.ext_getElem? fun j => ?_
      rw [List.getElem?_take, List.getElem?_drop]
      by_cases hj : j < s
      · rw [if_pos hj]
        exact (g3 j _ (List.getElem?_eq_getElem (by omega))).symm ▸ List.getElem?_eq_getElem (by omega)
      · rw [if_neg hj, List.getElem?_eq_none (by omega)]
    rw [← this]
    exact ⟨g1, g2⟩
  refine ⟨_, fun w'' h1 h2 => (key w'' h1 h2).1, (key w (Nat.le_refl _) fun _ _ _ => rfl).2, fun j u hu => ?_⟩
  rw [List.getElem?_take, List.getElem?_drop] at hu
  by_cases hj : j < s
  · rwa [if_pos hj] at hu
  · rw [if_neg hj] at hu; cases hu
/-- What holds between two rounds. -/
structure LM (b : Nat) (w : World) (o : List (ByteArray × Val)) (q : Nat) (wr : World) (V : Value) : Prop where
  below : Below w.heap.size w wr
  res : Blk wr w.heap.size 52 zero6
  var : Blk wr (w.heap.size + 1) 52 #[.int .i64 6, .bool false, .int .i64 0, .string ⟨#[]⟩, .slice none 0 0, V]
  row : RowX (fun i => (b ≤ i ∧ i < w.heap.size) ∨ w.heap.size + 1 < i) (w.heap.size + 2) 57 7 wr (dO (o.take q)) V
theorem seven_now {B : Nat} {w4 : World} {key : ByteArray} {k : Int} {b : Bool} {n : Int} {t : ByteArray} {l : List Val} {o : List (ByteArray × Val)} {cs : List Value} (h : Fresh B w4 (dP (key, .mk k b n t l o)) cs) : ∃ la lc oa oc, cs = [.string key, .int .i64 k, .bool b, .int .i64 n, .string t, .slice la l.length lc, .slice oa o.length oc] := by
  obtain ⟨_, _, rfl, ⟨rfl, _⟩, c1, _, rfl, h1, rfl⟩ := h.now
  have h2 := holdsV_of _ _ h1
  simp only [HoldsV] at h2
  obtain ⟨la, lc, oa, oc, rfl, _, _⟩ := h2
  exact ⟨la, lc, oa, oc, rfl⟩
theorem RowX.keepS {S0 : Nat → Prop} {b : Nat} {t : TypeId} {s : Nat} {wr w' : World} {l : List D} {V : Value} (h : RowX S0 b t s wr l V) (hs : wr.heap.size ≤ w'.heap.size) (hk : ∀ i, (S0 i ∨ V.ownBlock = some i) → i < wr.heap.size → w'.heap[i]? = wr.heap[i]?) : RowX S0 b t s w' l V := by
  obtain ⟨ns, h1, h2, h3⟩ := h
  have hl := h1.lt
  refine ⟨ns, ⟨h1.1, ?_⟩, h2, fun w'' k1 k2 => HoldsA.more (h3 w'' (by omega) (fun p p1 p2 => (k2 p p1 (by omega)).trans (World.cell?_of_block (hk p.block (.inl p1.1) p2)))) hs⟩
  rcases h1.2 with ⟨rfl, h0⟩ | ⟨g, cap, cur, rfl, hbg, hg, h5⟩
  · exact .inl ⟨rfl, h0⟩
  · exact .inr ⟨g, cap, cur, rfl, hbg, (hk g (.inr rfl) (Array.getElem?_eq_some_iff.1 hg).1).trans hg, h5⟩

set_option maxRecDepth 100000 in
set_option maxHeartbeats 8000000 in
theorem mobject_calls (b : Nat) (o : List (ByteArray × Val)) (V0 : Value) (w : World) (hbw : b ≤ w.heap.size) (hP : PairsAt b w o V0) (ho : o.length ≤ 1000000) :
    Calls Tryz.prog 147 #[V0] w fun e w' => Below w.heap.size w w' ∧ ∃ oa oc, e = .returned (.agg #[.int .i64 6, .bool false, .int .i64 0, .string ⟨#[]⟩, .slice none 0 0, .slice oa o.length oc]) ∧ Fresh b w' (dV (ov o)) [.int .i64 6, .bool false, .int .i64 0, .string ⟨#[]⟩, .slice none 0 0, .slice oa o.length oc] := by
  obtain ⟨g, c, ns, rfl, hbg, hgw, hfa, hcell⟩ := hP
  obtain ⟨j0, hj, hy0, hy1, hy2⟩ := info_parts mem_info
  have hI0 : LM b w o 0 ((w.alloc (.cells zero6 52)).alloc (.cells #[.int .i64 6, .bool false, .int .i64 0, .string ⟨#[]⟩, .slice none 0 0, .slice none 0 0] 52)) (.slice none 0 0) :=
    ⟨((Below.refl _ _).alloc (Nat.le_refl _) _).alloc (by simp) _, (Blk.new _ _ _).alloc _, by simpa using Blk.new (w.alloc (.cells zero6 52)) 52 #[.int .i64 6, .bool false, .int .i64 0, .string ⟨#[]⟩, .slice none 0 0, .slice none 0 0], by simpa [dO] using RowX.nil _ _ _ _ _⟩
  have Hj := Lib.hid hj
  have Hy0 := Lib.hid hy0
  have Hy1 := Lib.hid hy1
  have Hy2 := Lib.hid hy2
  have HI0 := Lib.hid hI0
  have Hfa := Lib.hid hfa
  have Hcell := Lib.hid hcell
  clear hj hy0 hy1 hy2 hI0 hfa hcell
  go_enter Tryz.func147, Tryz.ntmps147
  go_wp2_with (fail)
  go_loopw [9] (fun i wr => ∃ q : Nat, i = .int .i64 q ∧ q ≤ o.length ∧ ∃ V, Hid (LM b w o q wr V)) (fun i _ => o.length - (intOf i).toNat)
  case atStart => exact ⟨0, rfl, Nat.zero_le _, _, HI0⟩
  case round =>
    obtain ⟨q, rfl, hq, V, hI⟩ := hrel
    clear HI0
    by_cases hlt : q < o.length
    · obtain ⟨⟨key, v⟩, hp⟩ : ∃ p, o[q]? = some p := ⟨_, List.getElem?_eq_getElem hlt⟩
      have htk : dO (o.take q) ++ [dP (key, v)] = dO (o.take (q + 1)) := by rw [List.take_add_one, hp, dO_map, dO_map]; simp
      obtain ⟨cs, hf, hl7, hat⟩ := FreshA.at_ (dO_cells o) Hfa.out (i := q) (d := dP (key, v)) (by rw [dO_map, List.getElem?_map, hp]; rfl)
      obtain ⟨k', b', n', t', l', o'⟩ := v
      obtain ⟨la', lc', oa', oc', rfl⟩ := seven_now hf
      have hbr := hI.out.below
      have hz := hbr.size
      have hc : ∀ j u, [Value.string key, .int .i64 k', .bool b', .int .i64 n', .string t', .slice la' l'.length lc', .slice oa' o'.length oc'][j]? = some u → wr.cell? ⟨g, q * 7 + j, none⟩ = some u := fun j u hu => (hbr.cell (p := ⟨g, q * 7 + j, none⟩) hgw).trans (Hcell.out _ _ (hat j u hu))
      have c0 := hc 0 _ rfl
      have c1 := hc 1 _ rfl
      have c2 := hc 2 _ rfl
      have c3 := hc 3 _ rfl
      have c4 := hc 4 _ rfl
      have c5 := hc 5 _ rfl
      have c6 := hc 6 _ rfl
      rw [Nat.add_zero] at c0
      have hgr : g < wr.heap.size := by omega
      obtain ⟨aV, cV, rfl⟩ := hI.out.row.slice
      have hdl : (dO (o.take q)).length = q := by rw [dO_len, List.length_take]; omega
      have hLo : Hid ((dO (o.take q)).length + 1 ≤ maxLen ∧ ((dO (o.take q)).length + 1) * 104 ≤ 140737488355328) := by rw [hdl]; exact ⟨by simp only [maxLen]; omega, by omega⟩
      have hxv := hI.out.var
      have hxr := hI.out.res
      have y5 := hxv.cell 5
      have f5 := hxv.frozen 5
      have hgv := hxv.lt
      have hq1 : (q : Int) < (o.length : Int) := by omega
      have hq0 : (0 : Int) ≤ q := by omega
      have hw2 : Below wr.heap.size wr ((wr.alloc (.cells #[.string key, .int .i64 k', .bool b', .int .i64 n', .string t', .slice la' l'.length lc', .slice oa' o'.length oc'] 235)).alloc (.cells #[.string key, .int .i64 k', .bool b', .int .i64 n', .string t', .slice la' l'.length lc', .slice oa' o'.length oc'] 57)) := ((Below.refl _ _).alloc (Nat.le_refl _) _).alloc (by simp) _
      have hrow2 := hI.out.row.below hw2
      have hxi : HoldsIn (fun i => ((b ≤ i ∧ i < w.heap.size) ∨ w.heap.size + 1 < i) ∧ (Value.slice aV (dO (o.take q)).length cV).ownBlock ≠ some i) ((wr.alloc (.cells #[.string key, .int .i64 k', .bool b', .int .i64 n', .string t', .slice la' l'.length lc', .slice oa' o'.length oc'] 235)).alloc (.cells #[.string key, .int .i64 k', .bool b', .int .i64 n', .string t', .slice la' l'.length lc', .slice oa' o'.length oc'] 57)) (dP (key, .mk k' b' n' t' l' o')) [.string key, .int .i64 k', .bool b', .int .i64 n', .string t', .slice la' l'.length lc', .slice oa' o'.length oc'] :=
        (((HoldsIn.of_fresh hf).mono (T := fun i => b ≤ i ∧ i < w.heap.size) (fun i hi h => ⟨h, hi⟩)).below (hbr.trans (hw2.mono hz))).mono (fun i _ hi => ⟨.inl hi, fun e => by have := (hI.out.row.base i e).1; omega⟩)
      have hxv2 := hxv.below hw2 hgv
      have hxr2 := hxr.below hw2 hxr.lt
      have hbw2 := hbr.trans (hw2.mono hz)
      have hs2 := hw2.size
      have hrd := reads_seven (wr.alloc (.cells #[.string key, .int .i64 k', .bool b', .int .i64 n', .string t', .slice la' l'.length lc', .slice oa' o'.length oc'] 235)) (.string key) (.int .i64 k') (.bool b') (.int .i64 n') (.string t') (.slice la' l'.length lc') (.slice oa' o'.length oc')
      rw [World.size_alloc] at hrd
      have Hrow0 := Lib.hid hI.out.row
      have Hw2 := Lib.hid hw2
      have Hrow2 := Lib.hid hrow2
      have Hxi := Lib.hid hxi
      have Htk := Lib.hid htk
      have Hxv2 := Lib.hid hxv2
      have Hxr2 := Lib.hid hxr2
      have Hbw2 := Lib.hid hbw2
      have Hbr := Lib.hid hbr
      have Hxv := Lib.hid hxv
      have Hxr := Lib.hid hxr
      have Hf := Lib.hid hf
      have Hrd := Lib.hid hrd
      clear hw2 hrow2 hxi htk hxv2 hxr2 hbw2 hbr hxv hxr hf hrd
      clear hc hat hdl
      go_upto_region 5 with (fail)
      iterate 26 go_step
      refine wp_append_X (d := dP (key, .mk k' b' n' t' l' o')) (V := .slice aV (dO (o.take q)).length cV) (.tmp 14) (.tmp 20) 50 rfl Tryz.underlying50 Hj.out Hy0.out Hy1.out Hy2.out rfl (by omega) rfl Hrow2.out (by omega) (dP_cells _) Hxi.out rfl Hrd.out hLo.out.1 hLo.out.2 ?_
      intro V6 w6 hrow6 hg6 hat6
      have hxv6 := blk_appX Hxv2.out hg6 Hrow0.out (.inl (by omega))
      have e6 := hxv6.cell 5
      have g6 := hxv6.frozen 5
      have hxr6 := blk_appX Hxr2.out hg6 Hrow0.out (.inl (by omega))
      have hw6 := below_appX Hbw2.out hg6 Hrow0.out (by omega) (by omega)
      rw [Htk.out] at hrow6
      obtain ⟨a6, c6, rfl⟩ := hrow6.slice
      have HG := Lib.hid (And.intro hrow6 (And.intro hxv6 (And.intro hxr6 hw6)))
      clear hrow6 hg6 hat6 hxv6 hxr6 hw6
      obtain ⟨k1, k2, k3, k4⟩ := HG.out
      have hkb := k1.base
      have HN : Hid (LM b w o (q + 1) (w6.setCell ⟨w.heap.size + 1, 5, none⟩ (.slice a6 (dO (o.take (q + 1))).length c6)) (.slice a6 (dO (o.take (q + 1))).length c6)) :=
        ⟨k4.setCell (by simp) _, k3.far (by simp) _, k2.set_ 5 _, k1.keepS (by simp [World.setCell]) (fun i h1 _ => Below.heap_setCell _ _ _ _ (by rcases h1 with h1 | h1; (simp; omega); (have := (hkb i h1).1; simp; omega)))⟩
      clear k1 k2 k3 k4 HG hkb
      go_wp2
      go_roundw
      case rel => exact ⟨q + 1, by go_num, by omega, _, HN⟩
      case measure => simp only [intOf]; omega
    · obtain rfl : q = o.length := by omega
      have hln : (dO (o.take o.length)).length = o.length := by rw [dO_len, List.take_length]
      obtain ⟨aV, cV, rfl⟩ := hI.out.row.slice_n hln
      obtain ⟨i1, i2, i3, i4⟩ := hI.out
      obtain ⟨y0, y1, y2, y3, y4, y5⟩ := vcell i3
      obtain ⟨r0, r1, r2, r3, r4, r5⟩ := vcell i2
      have fz := i2.frozen
      have hq := i4.closeIn
      have hba := i4.base
      have hgv := i3.lt
      have I1 := Lib.hid i1
      have I2 := Lib.hid i2
      have I3 := Lib.hid i3
      have I4 := Lib.hid i4
      have Hq := Lib.hid hq
      have Hba := Lib.hid hba
      have Hln := Lib.hid hln
      clear i1 i2 i3 i4 hq hba hln
      clear hI
      go_upto_region 7 with (fail)
      repeat go_step
      have hxf := ((((((I2.out.set_ 0 (.int .i64 6)).set_ 1 (.bool false)).set_ 2 (.int .i64 0)).set_ 3 (.string ⟨#[]⟩)).set_ 4 (.slice none 0 0)).set_ 5 (.slice aV o.length cV))
      have hbf := setMany_below [.int .i64 6, .bool false, .int .i64 0, .string ⟨#[]⟩, .slice none 0 0, .slice aV o.length cV] I1.out (Nat.le_refl _) (o := 0)
      have hff : Fresh b (setMany wr w.heap.size 0 [.int .i64 6, .bool false, .int .i64 0, .string ⟨#[]⟩, .slice none 0 0, .slice aV o.length cV]) (dV (ov o)) [.int .i64 6, .bool false, .int .i64 0, .string ⟨#[]⟩, .slice none 0 0, .slice aV o.length cV] := by
        have h0 := Hq.out
        rw [List.take_length] at h0
        have h1 := (holdsIn_ov h0).later (w' := setMany wr w.heap.size 0 [.int .i64 6, .bool false, .int .i64 0, .string ⟨#[]⟩, .slice none 0 0, .slice aV o.length cV]) (by rw [setMany_size]; exact Nat.le_refl _) (fun p p1 _ => World.cell?_of_block (setMany_far _ _ _ _ _ (by
          rcases p1 with p1 | p1
          · omega
          · have := (Hba.out _ p1).1; omega)))
        exact h1.mono fun i _ p1 => by
          rcases p1 with p1 | p1
          · omega
          · have := (Hba.out _ p1).1; omega
      exact bodyPost_ret (results_cell6 rfl rfl hxf) rfl ⟨hbf, aV, cV, rfl, hff⟩
end Go.Proofs.YtemceefalkfneaaGreatDoor

/- A mutator's guard, and what MutCas writes: the pairs. Condition: values of a bulk of at most 10^8. -/
namespace Go.Proofs.YtemceefalkfneaaGreatDoor
open Go Go.RowKit

abbrev Tpair : TypeId := 235
theorem pair_info : (Tryz.prog.info? 235).map (fun i => (i.zero, i.size, i.bytes)) = some (some (.agg #[.string ⟨#[]⟩, .int .i64 0, .bool false, .int .i64 0, .string ⟨#[]⟩, .slice none 0 0, .slice none 0 0]), 7, 104) := by kernel_rfl
/-- A row of pairs, done. -/
theorem pairs_row {b : Nat} {w : World} {o : List (ByteArray × Val)} {V : Value} (h : RowX (fun i => b ≤ i) b Tpair 7 w (dO o) V) (ho : 0 < o.length) : PairsAt b w o V := by
  obtain ⟨ns, h1, h2, h3⟩ := h
  rw [dO_len] at h1
  obtain ⟨g, c, rfl, hg, hlt⟩ := h1.form ho
  exact ⟨g, c, ns, rfl, hg, hlt, fun w'' k1 k2 => h3 w'' k1 (fun p p1 p2 => k2 p p1.1 p2), fun j u hu => by have := h1.cells (g := g) rfl j u hu; rwa [add_plain', Nat.zero_add] at this⟩
theorem reads_pair (w : World) (a0 a1 a2 a3 a4 a5 a6 : Value) : Reads (w.alloc (.cells #[a0, a1, a2, a3, a4, a5, a6] Tpair)) (w.heap.size + 1) 7 (some ⟨w.heap.size, 0, none⟩) 1 [a0, a1, a2, a3, a4, a5, a6] := reads_one (Blk.new w Tpair #[a0, a1, a2, a3, a4, a5, a6])
theorem PairsAt.keep {b : Nat} {w w' : World} {o : List (ByteArray × Val)} {V : Value} (h : PairsAt b w o V) (hb : Below w.heap.size w w') : PairsAt b w' o V := by
  obtain ⟨g, c, ns, rfl, h1, h2, h3, h4⟩ := h
  exact ⟨g, c, ns, rfl, h1, Nat.lt_of_lt_of_le h2 hb.size, h3.later hb, fun j u hu => (hb.cell (p := ⟨g, j, none⟩) h2).trans (h4 j u hu)⟩

set_option maxRecDepth 100000 in
set_option maxHeartbeats 4000000 in
theorem guard_no (y0 : Value) (key : ByteArray) (y2 y3 y5 y6 y7 y8 y9 y10 y11 y12 y13 y14 y15 y16 y17 y18 : Value) (w : World) (was : Val) :
    Calls Tryz.prog 217 #[.agg #[y0, .string key, y2, y3, .bool false, y5, y6, y7, y8, y9, y10, y11, y12, y13, y14, y15, y16, y17, y18]] w (PairsPost (guardO key false was) w) := by
  have hC := fun W => mtextual_calls key W
  have HC := Lib.hid hC
  clear hC
  go_enter Tryz.func217, Tryz.ntmps217
  go_wp2_with (fail)
  with_reducible refine (HC.out _).mono ?_
  rintro e w1 ⟨rfl, hb1⟩
  have hbw := (alloc_below w _).trans (hb1.mono (by simp))
  have hz := hbw.size
  have hx1 := (Blk.new w 85 #[y0, .string key, y2, y3, .bool false, y5, y6, y7, y8, y9, y10, y11, y12, y13, y14, y15, y16, y17, y18]).below hb1 (Blk.new _ _ _).lt
  have d4 := hx1.cell 4
  have hg4 := hx1.lt
  have Hbw := Lib.hid hbw
  have Hx1 := Lib.hid hx1
  have Hb1 := Lib.hid hb1
  clear hbw hx1 hb1
  go_wp2
  go_ret
  exact ⟨Hbw.out.alloc hz _, _, rfl, pairs_lit hz rfl (FreshA.one (fresh_tvP _ _ kKey key))⟩

set_option maxRecDepth 100000 in
set_option maxHeartbeats 4000000 in
theorem guard_yes (y0 : Value) (key : ByteArray) (y2 y3 : Value) (k : Int) (b : Bool) (n : Int) (t : ByteArray) (l : List Val) (o : List (ByteArray × Val)) (la oa : Option Addr) (lc oc : Nat) (y11 y12 y13 y14 y15 y16 y17 y18 : Value) (w : World)
    (hV : HoldsV w w.heap.size (.mk k b n t l o) [.int .i64 k, .bool b, .int .i64 n, .string t, .slice la l.length lc, .slice oa o.length oc]) (hb : (Val.mk k b n t l o).bulk ≤ 100000000) :
    Calls Tryz.prog 217 #[.agg #[y0, .string key, y2, y3, .bool true, .int .i64 k, .bool b, .int .i64 n, .string t, .slice la l.length lc, .slice oa o.length oc, y11, y12, y13, y14, y15, y16, y17, y18]] w (PairsPost (guardO key true (.mk k b n t l o)) w) := by
  have hC := fun W => mtextual_calls key W
  have hD : ∀ W, Below w.heap.size w W → Calls Tryz.prog 78 #[.agg #[.int .i64 k, .bool b, .int .i64 n, .string t, .slice la l.length lc, .slice oa o.length oc]] W (VCopyPost W (.mk k b n t l o)) := fun W hB => vcopy_calls _ _ W (HoldsV.more hB.size _ _ (hV.below hB)) hb
  obtain ⟨j0, hj, hy0, hy1, hy2⟩ := info_parts pair_info
  obtain ⟨wi, hwi⟩ : ∃ wi, w.alloc (.cells #[y0, .string key, y2, y3, .bool true, .int .i64 k, .bool b, .int .i64 n, .string t, .slice la l.length lc, .slice oa o.length oc, y11, y12, y13, y14, y15, y16, y17, y18] 85) = wi := ⟨_, rfl⟩
  have hbi : Below w.heap.size w wi := hwi ▸ alloc_below _ _
  have hxb : Blk wi w.heap.size 85 #[y0, .string key, y2, y3, .bool true, .int .i64 k, .bool b, .int .i64 n, .string t, .slice la l.length lc, .slice oa o.length oc, y11, y12, y13, y14, y15, y16, y17, y18] := hwi ▸ Blk.new _ _ _
  have d1 := hxb.cell 1
  have hgb := hxb.lt
  have HC := Lib.hid hC
  have HD := Lib.hid hD
  have Hbi := Lib.hid hbi
  have Hxb := Lib.hid hxb
  have Hj := Lib.hid hj
  have Hy0 := Lib.hid hy0
  have Hy1 := Lib.hid hy1
  have Hy2 := Lib.hid hy2
  clear hC hD hbi hxb hj hy0 hy1 hy2
  clear hV
  go_enter Tryz.func217, Tryz.ntmps217
  go_upto_region 1 with (fail)
  clear hwi
  go_wp2_with (fail)
  with_reducible refine (HC.out _).mono ?_
  rintro e w1 ⟨rfl, hb1⟩
  have hx1 := Hxb.out.below hb1 hgb
  have hz1 := hb1.size
  clear d1
  obtain ⟨w2, hw2⟩ : ∃ w2, w1.alloc (.cells #[.string kKey, .int .i64 4, .bool false, .int .i64 0, .string key, .slice none 0 0, .slice none 0 0] Tpair) = w2 := ⟨_, rfl⟩
  have hb2 : Below w1.heap.size w1 w2 := hw2 ▸ alloc_below _ _
  have hx2 := hx1.below hb2 hx1.lt
  have hw12 := Hbi.out.trans (hb1.mono Hbi.out.size)
  have hrow2 : RowX (fun i => w.heap.size ≤ i) w.heap.size Tpair 7 w2 [dP (kKey, tv key)] (.slice (some ⟨w1.heap.size, 0, none⟩) 1 1) := by
    rw [← hw2]
    exact RowX.lit (cs := #[.string kKey, .int .i64 4, .bool false, .int .i64 0, .string key, .slice none 0 0, .slice none 0 0]) hw12.size (dP_cells _) (holdsIn_tvP _ _ kKey key)
  have hsz2 : w2.heap.size = w1.heap.size + 1 := by rw [← hw2]; simp
  have d4 := hx2.cell 4
  have d5 := hx2.cell 5
  have d6 := hx2.cell 6
  have d7 := hx2.cell 7
  have d8 := hx2.cell 8
  have d9 := hx2.cell 9
  have d10 := hx2.cell 10
  have hgb2 := hx2.lt
  have hw22 := hw12.trans (hb2.mono hw12.size)
  have Hb1 := Lib.hid hb1
  have Hb2 := Lib.hid hb2
  have Hx1 := Lib.hid hx1
  have Hx2 := Lib.hid hx2
  have Hrow2 := Lib.hid hrow2
  have Hsz2 := Lib.hid hsz2
  have Hw12 := Lib.hid hw12
  have Hw22 := Lib.hid hw22
  clear hb1 hb2 hx1 hx2 hrow2 hsz2 hw12 hw22
  go_upto_region 3 with (fail)
  clear hw2
  go_wp2_with (fail)
  with_reducible refine (HD.out _ Hw22.out).mono ?_
  rintro e w3 ⟨⟨cs4, rfl, hl4, hf4⟩, hb3⟩
  obtain ⟨la2, lc2, oa2, oc2, rfl⟩ := six_now hf4
  have hrow3 := Hrow2.out.below hb3
  have Hf4 := Lib.hid hf4
  have Hb3 := Lib.hid hb3
  have hz3 := hb3.size
  have hw32 := Hw22.out.trans (hb3.mono Hw22.out.size)
  have Hw32 := Lib.hid hw32
  have Hrow3 := Lib.hid hrow3
  clear hf4 hb3 hrow3 hl4 hw32 d4 d5 d6 d7 d8 d9 d10
  have hdO : dO (guardO key true (.mk k b n t l o)) = [dP (kKey, tv key)] ++ [dP (kWas, .mk k b n t l o)] := by simp [guardO, dO]
  have HdO := Lib.hid hdO
  have hX : HoldsIn (fun i => w.heap.size ≤ i ∧ (Value.slice (some ⟨w1.heap.size, 0, none⟩) 1 1).ownBlock ≠ some i) (w3.alloc (.cells #[.string kWas, .int .i64 k, .bool b, .int .i64 n, .string t, .slice la2 l.length lc2, .slice oa2 o.length oc2] Tpair)) (dP (kWas, .mk k b n t l o)) [.string kWas, .int .i64 k, .bool b, .int .i64 n, .string t, .slice la2 l.length lc2, .slice oa2 o.length oc2] :=
    (HoldsIn.of_fresh ((dP_fresh (key := kWas) Hf4.out).later (alloc_below w3 (.cells #[.string kWas, .int .i64 k, .bool b, .int .i64 n, .string t, .slice la2 l.length lc2, .slice oa2 o.length oc2] Tpair)))).mono fun i _ hi => by
      have hi' : w2.heap.size ≤ i := hi
      have h1 := Hw22.out.size
      have h2 := Hsz2.out
      exact ⟨by omega, fun e => absurd (Option.some.inj (show some w1.heap.size = some i from e)) (by omega)⟩
  have HX := Lib.hid hX
  clear hdO hX
  go_wp2_with (at_builtin; refine wpList_append_X rfl (.tmp 11) (.tmp 16) 227 rfl Tryz.underlying227 Hj.out Hy0.out Hy1.out Hy2.out rfl (by omega) rfl (Hrow3.out.below (alloc_below _ _)) (Nat.le_trans Hw32.out.size (by simp)) (dP_cells _) HX.out rfl (reads_pair _ _ _ _ _ _ _ _) (by simp [maxLen]) (by simp) ?_; intro V6 w6 hrow6 hg6 hat6)
  rw [← HdO.out] at hrow6
  go_ret
  exact ⟨below_appX (Hw32.out.alloc Hw32.out.size _) hg6 Hrow3.out (Nat.le_refl _) (Nat.le_trans Hw32.out.size (by simp)), V6, rfl, pairs_row hrow6 (by simp [guardO])⟩
end Go.Proofs.YtemceefalkfneaaGreatDoor
