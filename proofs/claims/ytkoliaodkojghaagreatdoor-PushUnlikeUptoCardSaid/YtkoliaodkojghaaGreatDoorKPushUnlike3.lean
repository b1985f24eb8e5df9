/- Parts, joined: mutator.object: the object of pairs. Condition: at most 10^6 pairs. Rows that a call builds by append: several data at once; a row's literal. Plain. No condition. A mutator's guard, and what MutCas writes: the pairs. Condition: values of a bulk of at most 10^8. What MutCas writes: the pairs. Condition: values of a bulk of at most 10^8. What MutSeq writes: the pairs. Condition: values of a bulk of at most 10^8, at most 10^6 mutators; what writes one keeps its word. -/
import Derived.Test.YtkoliaodkojghaaGreatDoorProg
import Derived.Deep.RegionHeld3
import Derived.Test.YtkoliaodkojghaaGreatDoorKPush19
import Derived.Test.YtkoliaodkojghaaGreatDoorKPush38
import Derived.Test.YtkoliaodkojghaaGreatDoorKPushUnlike1
/- mutator.object: the object of pairs. Condition: at most 10^6 pairs. -/
namespace Go.Proofs.YtkoliaodkojghaaGreatDoor
open Go Go.RowKit

/-- The i-th datum of a row that is fresh. -/
theorem FreshA.at_ {b s : Nat} {w : World} {l : List D} {ns : List Value} (hs : ∀ d ∈ l, d.cells = s) (h : FreshA b w l ns) {i : Nat} {d : D} (hi : l[i]? = some d) :
    ∃ cs, Fresh b w d cs ∧ cs.length = s ∧ ∀ j u, cs[j]? = some u → ns[i * s + j]? = some u := by
  have hd := hs d (List.mem_of_getElem? hi)
  have key : ∀ w'' : World, w.heap.size ≤ w''.heap.size → (∀ p : Addr, b ≤ p.block → p.block < w.heap.size → w''.cell? p = w.cell? p) → Holds w'' w.heap.size d ((ns.drop (i * s)).take s) ∧ ((ns.drop (i * s)).take s).length = s := by
    intro w'' h1 h2
    obtain ⟨cs, g1, g2, g3⟩ := HoldsA.at_ hs (h w'' h1 h2) hi
    have : cs = (ns.drop (i * s)).take s := by
      refine List.ext_getElem? fun j => ?_
      rw [List.getElem?_take, List.getElem?_drop]
      by_cases hj : j < s
      · rw [if_pos hj]
        exact (g3 j _ (List.getElem?_eq_getElem (by omega))).symm ▸ List.getElem?_eq_getElem (by omega)
      · rw [if_neg hj, List.getElem?_eq_none (by omega)]
    rw [← this]
    exact ⟨g1, g2⟩
  refine ⟨_, fun w'' h1 h2 => (key w'' h1 h2).1, (key w (Nat.le_refl _) fun _ _ _ => rfl).2, fun j u hu => ?_⟩
  rw [List.getElem?_take, List.getElem?_drop] at hu
  by_cases hj : j < s
  · rwa [if_pos hj] at hu
  · rw [if_neg hj] at hu; cases hu
/-- What holds between two rounds. -/
structure LM (b : Nat) (w : World) (o : List (ByteArray × Val)) (q : Nat) (wr : World) (V : Value) : Prop where
  below : Below w.heap.size w wr
  res : Blk wr w.heap.size 45 zero6
  var : Blk wr (w.heap.size + 1) 45 #[.int .i64 6, .bool false, .int .i64 0, .string ⟨#[]⟩, .slice none 0 0, V]
  row : RowX (fun i => (b ≤ i ∧ i < w.heap.size) ∨ w.heap.size + 1 < i) (w.heap.size + 2) 72 7 wr (dO (o.take q)) V
theorem seven_now {B : Nat} {w4 : World} {key : ByteArray} {k : Int} {b : Bool} {n : Int} {t : ByteArray} {l : List Val} {o : List (ByteArray × Val)} {cs : List Value} (h : Fresh B w4 (dP (key, .mk k b n t l o)) cs) : ∃ la lc oa oc, cs = [.string key, .int .i64 k, .bool b, .int .i64 n, .string t, .slice la l.length lc, .slice oa o.length oc] := by
  obtain ⟨_, _, rfl, ⟨rfl, _⟩, c1, _, rfl, h1, rfl⟩ := h.now
  have h2 := holdsV_of _ _ h1
  simp only [HoldsV] at h2
  obtain ⟨la, lc, oa, oc, rfl, _, _⟩ := h2
  exact ⟨la, lc, oa, oc, rfl⟩
theorem RowX.keepS {S0 : Nat → Prop} {b : Nat} {t : TypeId} {s : Nat} {wr w' : World} {l : List D} {V : Value} (h : RowX S0 b t s wr l V) (hs : wr.heap.size ≤ w'.heap.size) (hk : ∀ i, (S0 i ∨ V.ownBlock = some i) → i < wr.heap.size → w'.heap[i]? = wr.heap[i]?) : RowX S0 b t s w' l V := by
  obtain ⟨ns, h1, h2, h3⟩ := h
  have hl := h1.lt
  refine ⟨ns, ⟨h1.1, ?_⟩, h2, fun w'' k1 k2 => HoldsA.more (h3 w'' (by omega) (fun p p1 p2 => (k2 p p1 (by omega)).trans (World.cell?_of_block (hk p.block (.inl p1.1) p2)))) hs⟩
  rcases h1.2 with ⟨rfl, h0⟩ | ⟨g, cap, cur, rfl, hbg, hg, h5⟩
  · exact .inl ⟨rfl, h0⟩
  · exact .inr ⟨g, cap, cur, rfl, hbg, (hk g (.inr rfl) (Array.getElem?_eq_some_iff.1 hg).1).trans hg, h5⟩

set_option maxRecDepth 100000 in
set_option maxHeartbeats 8000000 in
theorem mobject_calls (b : Nat) (o : List (ByteArray × Val)) (V0 : Value) (w : World) (hbw : b ≤ w.heap.size) (hP : PairsAt b w o V0) (ho : o.length ≤ 1000000) :
    Calls Tryz.prog 98 #[V0] w fun e w' => Below w.heap.size w w' ∧ ∃ oa oc, e = .returned (.agg #[.int .i64 6, .bool false, .int .i64 0, .string ⟨#[]⟩, .slice none 0 0, .slice oa o.length oc]) ∧ Fresh b w' (dV (ov o)) [.int .i64 6, .bool false, .int .i64 0, .string ⟨#[]⟩, .slice none 0 0, .slice oa o.length oc] := by
  obtain ⟨g, c, ns, rfl, hbg, hgw, hfa, hcell⟩ := hP
  obtain ⟨j0, hj, hy0, hy1, hy2⟩ := info_parts mem_info
  have hI0 : LM b w o 0 ((w.alloc (.cells zero6 45)).alloc (.cells #[.int .i64 6, .bool false, .int .i64 0, .string ⟨#[]⟩, .slice none 0 0, .slice none 0 0] 45)) (.slice none 0 0) :=
    ⟨((Below.refl _ _).alloc (Nat.le_refl _) _).alloc (by simp) _, (Blk.new _ _ _).alloc _, by simpa using Blk.new (w.alloc (.cells zero6 45)) 45 #[.int .i64 6, .bool false, .int .i64 0, .string ⟨#[]⟩, .slice none 0 0, .slice none 0 0], by simpa [dO] using RowX.nil _ _ _ _ _⟩
  have Hj := Lib.hid hj
  have Hy0 := Lib.hid hy0
  have Hy1 := Lib.hid hy1
  have Hy2 := Lib.hid hy2
  have HI0 := Lib.hid hI0
  have Hfa := Lib.hid hfa
  have Hcell := Lib.hid hcell
  clear hj hy0 hy1 hy2 hI0 hfa hcell
  go_enter Tryz.func98, Tryz.ntmps98
  go_wp2_with (fail)
  go_loopw [9] (fun i wr => ∃ q : Nat, i = .int .i64 q ∧ q ≤ o.length ∧ ∃ V, Hid (LM b w o q wr V)) (fun i _ => o.length - (intOf i).toNat)
  case atStart => exact ⟨0, rfl, Nat.zero_le _, _, HI0⟩
  case round =>
    obtain ⟨q, rfl, hq, V, hI⟩ := hrel
    clear HI0
    by_cases hlt : q < o.length
    · obtain ⟨⟨key, v⟩, hp⟩ : ∃ p, o[q]? = some p := ⟨_, List.getElem?_eq_getElem hlt⟩
      have htk : dO (o.take q) ++ [dP (key, v)] = dO (o.take (q + 1)) := by rw [List.take_add_one, hp, dO_map, dO_map]; simp
      obtain ⟨cs, hf, hl7, hat⟩ := FreshA.at_ (dO_cells o) Hfa.out (i := q) (d := dP (key, v)) (by rw [dO_map, List.getElem?_map, hp]; rfl)
      obtain ⟨k', b', n', t', l', o'⟩ := v
      obtain ⟨la', lc', oa', oc', rfl⟩ := seven_now hf
      have hbr := hI.out.below
      have hz := hbr.size
      have hc : ∀ j u, [Value.string key, .int .i64 k', .bool b', .int .i64 n', .string t', .slice la' l'.length lc', .slice oa' o'.length oc'][j]? = some u → wr.cell? ⟨g, q * 7 + j, none⟩ = some u := fun j u hu => (hbr.cell (p := ⟨g, q * 7 + j, none⟩) hgw).trans (Hcell.out _ _ (hat j u hu))
      have c0 := hc 0 _ rfl
      have c1 := hc 1 _ rfl
      have c2 := hc 2 _ rfl
      have c3 := hc 3 _ rfl
      have c4 := hc 4 _ rfl
      have c5 := hc 5 _ rfl
      have c6 := hc 6 _ rfl
      rw [Nat.add_zero] at c0
      have hgr : g < wr.heap.size := by omega
      obtain ⟨aV, cV, rfl⟩ := hI.out.row.slice
      have hdl : (dO (o.take q)).length = q := by rw [dO_len, List.length_take]; omega
      have hLo : Hid ((dO (o.take q)).length + 1 ≤ maxLen ∧ ((dO (o.take q)).length + 1) * 104 ≤ 140737488355328) := by rw [hdl]; exact ⟨by simp only [maxLen]; omega, by omega⟩
      have hxv := hI.out.var
      have hxr := hI.out.res
      have y5 := hxv.cell 5
      have f5 := hxv.frozen 5
      have hgv := hxv.lt
      have hq1 : (q : Int) < (o.length : Int) := by omega
      have hq0 : (0 : Int) ≤ q := by omega
      have hw2 : Below wr.heap.size wr ((wr.alloc (.cells #[.string key, .int .i64 k', .bool b', .int .i64 n', .string t', .slice la' l'.length lc', .slice oa' o'.length oc'] 146)).alloc (.cells #[.string key, .int .i64 k', .bool b', .int .i64 n', .string t', .slice la' l'.length lc', .slice oa' o'.length oc'] 72)) := ((Below.refl _ _).alloc (Nat.le_refl _) _).alloc (by simp) _
      have hrow2 := hI.out.row.below hw2
      have hxi : HoldsIn (fun i => ((b ≤ i ∧ i < w.heap.size) ∨ w.heap.size + 1 < i) ∧ (Value.slice aV (dO (o.take q)).length cV).ownBlock ≠ some i) ((wr.alloc (.cells #[.string key, .int .i64 k', .bool b', .int .i64 n', .string t', .slice la' l'.length lc', .slice oa' o'.length oc'] 146)).alloc (.cells #[.string key, .int .i64 k', .bool b', .int .i64 n', .string t', .slice la' l'.length lc', .slice oa' o'.length oc'] 72)) (dP (key, .mk k' b' n' t' l' o')) [.string key, .int .i64 k', .bool b', .int .i64 n', .string t', .slice la' l'.length lc', .slice oa' o'.length oc'] :=
        (((HoldsIn.of_fresh hf).mono (T := fun i => b ≤ i ∧ i < w.heap.size) (fun i hi h => ⟨h, hi⟩)).below (hbr.trans (hw2.mono hz))).mono (fun i _ hi => ⟨.inl hi, fun e => by have := (hI.out.row.base i e).1; omega⟩)
      have hxv2 := hxv.below hw2 hgv
      have hxr2 := hxr.below hw2 hxr.lt
      have hbw2 := hbr.trans (hw2.mono hz)
      have hs2 := hw2.size
      have hrd := reads_seven (wr.alloc (.cells #[.string key, .int .i64 k', .bool b', .int .i64 n', .string t', .slice la' l'.length lc', .slice oa' o'.length oc'] 146)) (.string key) (.int .i64 k') (.bool b') (.int .i64 n') (.string t') (.slice la' l'.length lc') (.slice oa' o'.length oc')
      rw [World.size_alloc] at hrd
      have Hrow0 := Lib.hid hI.out.row
      have Hw2 := Lib.hid hw2
      have Hrow2 := Lib.hid hrow2
      have Hxi := Lib.hid hxi
      have Htk := Lib.hid htk
      have Hxv2 := Lib.hid hxv2
      have Hxr2 := Lib.hid hxr2
      have Hbw2 := Lib.hid hbw2
      have Hbr := Lib.hid hbr
      have Hxv := Lib.hid hxv
      have Hxr := Lib.hid hxr
      have Hf := Lib.hid hf
      have Hrd := Lib.hid hrd
      clear hw2 hrow2 hxi htk hxv2 hxr2 hbw2 hbr hxv hxr hf hrd
      clear hc hat hdl
      go_upto_region 5 with (fail)
      iterate 26 go_step
      refine wp_append_X (d := dP (key, .mk k' b' n' t' l' o')) (V := .slice aV (dO (o.take q)).length cV) (.tmp 14) (.tmp 20) 43 rfl Tryz.underlying43 Hj.out Hy0.out Hy1.out Hy2.out rfl (by omega) rfl Hrow2.out (by omega) (dP_cells _) Hxi.out rfl Hrd.out hLo.out.1 hLo.out.2 ?_
      intro V6 w6 hrow6 hg6 hat6
      have hxv6 := blk_appX Hxv2.out hg6 Hrow0.out (.inl (by omega))
      have e6 := hxv6.cell 5
      have g6 := hxv6.frozen 5
      have hxr6 := blk_appX Hxr2.out hg6 Hrow0.out (.inl (by omega))
      have hw6 := below_appX Hbw2.out hg6 Hrow0.out (by omega) (by omega)
      rw [Htk.out] at hrow6
      obtain ⟨a6, c6, rfl⟩ := hrow6.slice
      have HG := Lib.hid (And.intro hrow6 (And.intro hxv6 (And.intro hxr6 hw6)))
      clear hrow6 hg6 hat6 hxv6 hxr6 hw6
      obtain ⟨k1, k2, k3, k4⟩ := HG.out
      have hkb := k1.base
      have HN : Hid (LM b w o (q + 1) (w6.setCell ⟨w.heap.size + 1, 5, none⟩ (.slice a6 (dO (o.take (q + 1))).length c6)) (.slice a6 (dO (o.take (q + 1))).length c6)) :=
        ⟨k4.setCell (by simp) _, k3.far (by simp) _, k2.set_ 5 _, k1.keepS (by simp [World.setCell]) (fun i h1 _ => Below.heap_setCell _ _ _ _ (by rcases h1 with h1 | h1; (simp; omega); (have := (hkb i h1).1; simp; omega)))⟩
      clear k1 k2 k3 k4 HG hkb
      go_wp2
      go_roundw
      case rel => exact ⟨q + 1, by go_num, by omega, _, HN⟩
      case measure => simp only [intOf]; omega
    · obtain rfl : q = o.length := by omega
      have hln : (dO (o.take o.length)).length = o.length := by rw [dO_len, List.take_length]
      obtain ⟨aV, cV, rfl⟩ := hI.out.row.slice_n hln
      obtain ⟨i1, i2, i3, i4⟩ := hI.out
      obtain ⟨y0, y1, y2, y3, y4, y5⟩ := vcell i3
      obtain ⟨r0, r1, r2, r3, r4, r5⟩ := vcell i2
      have fz := i2.frozen
      have hq := i4.closeIn
      have hba := i4.base
      have hgv := i3.lt
      have I1 := Lib.hid i1
      have I2 := Lib.hid i2
      have I3 := Lib.hid i3
      have I4 := Lib.hid i4
      have Hq := Lib.hid hq
      have Hba := Lib.hid hba
      have Hln := Lib.hid hln
      clear i1 i2 i3 i4 hq hba hln
      clear hI
      go_upto_region 7 with (fail)
      repeat go_step
      have hxf := ((((((I2.out.set_ 0 (.int .i64 6)).set_ 1 (.bool false)).set_ 2 (.int .i64 0)).set_ 3 (.string ⟨#[]⟩)).set_ 4 (.slice none 0 0)).set_ 5 (.slice aV o.length cV))
      have hbf := setMany_below [.int .i64 6, .bool false, .int .i64 0, .string ⟨#[]⟩, .slice none 0 0, .slice aV o.length cV] I1.out (Nat.le_refl _) (o := 0)
      have hff : Fresh b (setMany wr w.heap.size 0 [.int .i64 6, .bool false, .int .i64 0, .string ⟨#[]⟩, .slice none 0 0, .slice aV o.length cV]) (dV (ov o)) [.int .i64 6, .bool false, .int .i64 0, .string ⟨#[]⟩, .slice none 0 0, .slice aV o.length cV] := by
        have h0 := Hq.out
        rw [List.take_length] at h0
        have h1 := (holdsIn_ov h0).later (w' := setMany wr w.heap.size 0 [.int .i64 6, .bool false, .int .i64 0, .string ⟨#[]⟩, .slice none 0 0, .slice aV o.length cV]) (by rw [setMany_size]; exact Nat.le_refl _) (fun p p1 _ => World.cell?_of_block (setMany_far _ _ _ _ _ (by
          rcases p1 with p1 | p1
          · omega
          · have := (Hba.out _ p1).1; omega)))
        exact h1.mono fun i _ p1 => by
          rcases p1 with p1 | p1
          · omega
          · have := (Hba.out _ p1).1; omega
      exact bodyPost_ret (results_cell6 rfl rfl hxf) rfl ⟨hbf, aV, cV, rfl, hff⟩
end Go.Proofs.YtkoliaodkojghaaGreatDoor

/- Rows that a call builds by append: several data at once; a row's literal. Plain. No condition. -/
namespace Go.Proofs.YtkoliaodkojghaaGreatDoor
open Go Go.RowKit

/-- A literal of one datum. -/
theorem RowX.lit {S0 : Nat → Prop} {b : Nat} {t : TypeId} {w : World} {d : D} {cs : Array Value} (hb : b ≤ w.heap.size) (hd : d.cells = cs.size) (h : HoldsIn (fun i => S0 i ∧ i ≠ w.heap.size) (w.alloc (.cells cs t)) d cs.toList) :
    RowX S0 b t cs.size (w.alloc (.cells cs t)) [d] (.slice (some ⟨w.heap.size, 0, none⟩) 1 1) := by
  refine ⟨cs.toList, ⟨by simp, .inr ⟨w.heap.size, 1, cs, rfl, hb, heap_alloc_new w _, Nat.le_refl _, by unfold maxLen; omega, by simp, ?_⟩⟩, fun x hx => ?_, HoldsInA.one (h.mono fun i _ hi => ⟨hi.1, fun e => hi.2 (Option.some.inj (e : some w.heap.size = some i)).symm⟩)⟩
  · simp only [List.length_cons, List.length_nil, Nat.zero_add, Nat.one_mul]
    rw [← Array.length_toList, List.take_length]
  · simp only [List.mem_cons, List.not_mem_nil, or_false] at hx
    rw [hx]; exact hd

section
variable {P : Program}
theorem run_append_L {t ty e : TypeId} {i : TypeInfo} {z : Value} {sz bytes : Nat} (ht : P.underlying t = some (.slice e)) (hi : P.info? e = some i) (hz : i.zero = some z) (hsize : i.size = sz) (hby : i.bytes = bytes) (hzs : z.cells.size = sz) (hsz : 0 < sz)
    {S0 : Nat → Prop} {b : Nat} {w : World} {l : List D} {V : Value} (hrow : RowX S0 b e sz w l V) (hbw : b ≤ w.heap.size) {dl : List D} {cs : List Value} (hd : ∀ d ∈ dl, d.cells = sz) (hx : HoldsInA (fun i => S0 i ∧ V.ownBlock ≠ some i) w dl cs)
    {B : Nat} {A : Option Addr} {n c : Nat} (hr : Reads w B sz A n cs) (hn : n = dl.length) (h63 : l.length + n ≤ maxLen) (hbytes : (l.length + n) * bytes ≤ 140737488355328) :
    ∃ V' w6, (Builtin.append_ #[t, t] ty #[V, .slice A n c]).run P w = .ok V' w6 ∧ RowX S0 b e sz w6 (l ++ dl) V' ∧ w.grownBy w6 V.ownBlock ∧ (V'.ownBlock = V.ownBlock ∨ V'.ownBlock = some w.heap.size) := by
  subst hn
  obtain ⟨ns, h1, h2, h3⟩ := hrow
  obtain ⟨V', w6, hrun, g1, g2, g3⟩ := run_append_any (P := P) w b t ty e i z sz bytes ht hi hz hsize hby hzs hsz V l.length ns h1 B A dl.length c cs hr hx.now.len.2 h63 hbytes hbw
  refine ⟨V', w6, hrun, ⟨ns ++ cs, by rw [List.length_append]; exact g1, ?_, ?_⟩, g2, g3⟩
  · intro x hx'
    rcases List.mem_append.1 hx' with hx' | hx'
    · exact h2 x hx'
    · exact hd x hx'
  · have key : ∀ p : Addr, V.ownBlock ≠ some p.block → p.block < w.heap.size → V'.ownBlock ≠ some p.block := by
      intro p p1 p2
      rcases g3 with e3 | e3
      · rw [e3]; exact p1
      · rw [e3]; intro e4; have := Option.some.inj e4; omega
    have hag : ∀ w'' : World, w6.heap.size ≤ w''.heap.size → (∀ p : Addr, S0 p.block ∧ V'.ownBlock ≠ some p.block → p.block < w6.heap.size → w''.cell? p = w6.cell? p) → ∀ p : Addr, S0 p.block ∧ V.ownBlock ≠ some p.block → p.block < w.heap.size → w''.cell? p = w.cell? p := by
      intro w'' k1 k2 p p1 p2
      rw [k2 p ⟨p1.1, key p p1.2 p2⟩ (Nat.lt_of_lt_of_le p2 g2.size)]
      exact World.cell?_of_block (g2.block p.block p2 (fun e => p1.2 e.symm))
    intro w'' k1 k2
    have a1 := HoldsA.more (h3 w'' (Nat.le_trans g2.size k1) (hag w'' k1 k2)) g2.size
    have a2 := HoldsA.more (hx w'' (Nat.le_trans g2.size k1) (hag w'' k1 k2)) g2.size
    exact a1.app a2
theorem wp_append_L {o : Oper} {a : Act} {w : World} {K : Act → World → Prop} {Q : Exit → Act → World → Prop} (s x : Operand) (t : TypeId) {e : TypeId}
    (ho : o.op = .call { callee := .builtin .append, args := #[s, x], argTypes := #[t, t] }) {i : TypeInfo} {z : Value} {sz bytes : Nat} (ht : P.underlying t = some (.slice e)) (hi : P.info? e = some i) (hz : i.zero = some z) (hsize : i.size = sz) (hby : i.bytes = bytes) (hzs : z.cells.size = sz) (hsz : 0 < sz)
    {S0 : Nat → Prop} {b : Nat} {l : List D} {V : Value} (hs : a.eval s = V) (hrow : RowX S0 b e sz w l V) (hbw : b ≤ w.heap.size) {dl : List D} {cs : List Value} (hd : ∀ d ∈ dl, d.cells = sz) (hf : HoldsInA (fun i => S0 i ∧ V.ownBlock ≠ some i) w dl cs)
    {B : Nat} {A : Option Addr} {n c : Nat} (hx : a.eval x = .slice A n c) (hr : Reads w B sz A n cs) (hn : n = dl.length) (h63 : l.length + n ≤ maxLen) (hbytes : (l.length + n) * bytes ≤ 140737488355328)
    (h : ∀ V' w6, RowX S0 b e sz w6 (l ++ dl) V' → w.grownBy w6 V.ownBlock → (V'.ownBlock = V.ownBlock ∨ V'.ownBlock = some w.heap.size) → K (a.put o.dst V') w6) : o.wp P a w K Q := by
  obtain ⟨V', w6, hrun, g1, g2, g3⟩ := run_append_L (ty := o.type) (c := c) ht hi hz hsize hby hzs hsz hrow hbw hd hf hr hn h63 hbytes
  unfold Oper.wp execOp
  simp only [ho, resolve, invoke, builtin, Sem.run_bind, Sem.run_pure, Result.andThen_ok, List.map_toArray, List.map_cons, List.map_nil, hs, hx, hrun]
  exact h V' w6 g1 g2 g3
theorem wpList_append_L {ops : Array Oper} {rest : List Oper} {o : Oper} {a : Act} {w : World} {Q : Exit → Act → World → Prop} (hgd : o.guard = none) (s x : Operand) (t : TypeId) {e : TypeId}
    (ho : o.op = .call { callee := .builtin .append, args := #[s, x], argTypes := #[t, t] }) {i : TypeInfo} {z : Value} {sz bytes : Nat} (ht : P.underlying t = some (.slice e)) (hi : P.info? e = some i) (hz : i.zero = some z) (hsize : i.size = sz) (hby : i.bytes = bytes) (hzs : z.cells.size = sz) (hsz : 0 < sz)
    {S0 : Nat → Prop} {b : Nat} {l : List D} {V : Value} (hs : a.eval s = V) (hrow : RowX S0 b e sz w l V) (hbw : b ≤ w.heap.size) {dl : List D} {cs : List Value} (hd : ∀ d ∈ dl, d.cells = sz) (hf : HoldsInA (fun i => S0 i ∧ V.ownBlock ≠ some i) w dl cs)
    {B : Nat} {A : Option Addr} {n c : Nat} (hx : a.eval x = .slice A n c) (hr : Reads w B sz A n cs) (hn : n = dl.length) (h63 : l.length + n ≤ maxLen) (hbytes : (l.length + n) * bytes ≤ 140737488355328)
    (h : ∀ V' w6, RowX S0 b e sz w6 (l ++ dl) V' → w.grownBy w6 V.ownBlock → (V'.ownBlock = V.ownBlock ∨ V'.ownBlock = some w.heap.size) → wpList P ops Q rest (a.put o.dst V') w6) : wpList P ops Q (o :: rest) a w :=
  wpList_plain hgd fun _ hK => wp_append_L s x t ho ht hi hz hsize hby hzs hsz hs hrow hbw hd hf hx hr hn h63 hbytes fun V' w6 h2 h3 h4 => hK _ _ (h V' w6 h2 h3 h4)
end
end Go.Proofs.YtkoliaodkojghaaGreatDoor

/- A mutator's guard, and what MutCas writes: the pairs. Condition: values of a bulk of at most 10^8. -/
namespace Go.Proofs.YtkoliaodkojghaaGreatDoor
open Go Go.RowKit

abbrev Tpair : TypeId := 146
theorem pair_info : (Tryz.prog.info? 146).map (fun i => (i.zero, i.size, i.bytes)) = some (some (.agg #[.string ⟨#[]⟩, .int .i64 0, .bool false, .int .i64 0, .string ⟨#[]⟩, .slice none 0 0, .slice none 0 0]), 7, 104) := by kernel_rfl
/-- A row of pairs, done. -/
theorem pairs_row {b : Nat} {w : World} {o : List (ByteArray × Val)} {V : Value} (h : RowX (fun i => b ≤ i) b Tpair 7 w (dO o) V) (ho : 0 < o.length) : PairsAt b w o V := by
  obtain ⟨ns, h1, h2, h3⟩ := h
  rw [dO_len] at h1
  obtain ⟨g, c, rfl, hg, hlt⟩ := h1.form ho
  exact ⟨g, c, ns, rfl, hg, hlt, fun w'' k1 k2 => h3 w'' k1 (fun p p1 p2 => k2 p p1.1 p2), fun j u hu => by have := h1.cells (g := g) rfl j u hu; rwa [add_plain', Nat.zero_add] at this⟩
theorem reads_pair (w : World) (a0 a1 a2 a3 a4 a5 a6 : Value) : Reads (w.alloc (.cells #[a0, a1, a2, a3, a4, a5, a6] Tpair)) (w.heap.size + 1) 7 (some ⟨w.heap.size, 0, none⟩) 1 [a0, a1, a2, a3, a4, a5, a6] := reads_one (Blk.new w Tpair #[a0, a1, a2, a3, a4, a5, a6])
theorem PairsAt.keep {b : Nat} {w w' : World} {o : List (ByteArray × Val)} {V : Value} (h : PairsAt b w o V) (hb : Below w.heap.size w w') : PairsAt b w' o V := by
  obtain ⟨g, c, ns, rfl, h1, h2, h3, h4⟩ := h
  exact ⟨g, c, ns, rfl, h1, Nat.lt_of_lt_of_le h2 hb.size, h3.later hb, fun j u hu => (hb.cell (p := ⟨g, j, none⟩) h2).trans (h4 j u hu)⟩

set_option maxRecDepth 100000 in
set_option maxHeartbeats 4000000 in
theorem guard_no (y0 : Value) (key : ByteArray) (y2 y3 y5 y6 y7 y8 y9 y10 y11 y12 y13 y14 y15 y16 y17 y18 : Value) (w : World) (was : Val) :
    Calls Tryz.prog 137 #[.agg #[y0, .string key, y2, y3, .bool false, y5, y6, y7, y8, y9, y10, y11, y12, y13, y14, y15, y16, y17, y18]] w (PairsPost (guardO key false was) w) := by
  have hC := fun W => mtextual_calls key W
  have HC := Lib.hid hC
  clear hC
  go_enter Tryz.func137, Tryz.ntmps137
  go_wp2_with (fail)
  with_reducible refine (HC.out _).mono ?_
  rintro e w1 ⟨rfl, hb1⟩
  have hbw := (alloc_below w _).trans (hb1.mono (by simp))
  have hz := hbw.size
  have hx1 := (Blk.new w 48 #[y0, .string key, y2, y3, .bool false, y5, y6, y7, y8, y9, y10, y11, y12, y13, y14, y15, y16, y17, y18]).below hb1 (Blk.new _ _ _).lt
  have d4 := hx1.cell 4
  have hg4 := hx1.lt
  have Hbw := Lib.hid hbw
  have Hx1 := Lib.hid hx1
  have Hb1 := Lib.hid hb1
  clear hbw hx1 hb1
  go_wp2
  go_ret
  exact ⟨Hbw.out.alloc hz _, _, rfl, pairs_lit hz rfl (FreshA.one (fresh_tvP _ _ kKey key))⟩

set_option maxRecDepth 100000 in
set_option maxHeartbeats 4000000 in
theorem guard_yes (y0 : Value) (key : ByteArray) (y2 y3 : Value) (k : Int) (b : Bool) (n : Int) (t : ByteArray) (l : List Val) (o : List (ByteArray × Val)) (la oa : Option Addr) (lc oc : Nat) (y11 y12 y13 y14 y15 y16 y17 y18 : Value) (w : World)
    (hV : HoldsV w w.heap.size (.mk k b n t l o) [.int .i64 k, .bool b, .int .i64 n, .string t, .slice la l.length lc, .slice oa o.length oc]) (hb : (Val.mk k b n t l o).bulk ≤ 100000000) :
    Calls Tryz.prog 137 #[.agg #[y0, .string key, y2, y3, .bool true, .int .i64 k, .bool b, .int .i64 n, .string t, .slice la l.length lc, .slice oa o.length oc, y11, y12, y13, y14, y15, y16, y17, y18]] w (PairsPost (guardO key true (.mk k b n t l o)) w) := by
  have hC := fun W => mtextual_calls key W
  have hD : ∀ W, Below w.heap.size w W → Calls Tryz.prog 65 #[.agg #[.int .i64 k, .bool b, .int .i64 n, .string t, .slice la l.length lc, .slice oa o.length oc]] W (VCopyPost W (.mk k b n t l o)) := fun W hB => vcopy_calls _ _ W (HoldsV.more hB.size _ _ (hV.below hB)) hb
  obtain ⟨j0, hj, hy0, hy1, hy2⟩ := info_parts pair_info
  obtain ⟨wi, hwi⟩ : ∃ wi, w.alloc (.cells #[y0, .string key, y2, y3, .bool true, .int .i64 k, .bool b, .int .i64 n, .string t, .slice la l.length lc, .slice oa o.length oc, y11, y12, y13, y14, y15, y16, y17, y18] 48) = wi := ⟨_, rfl⟩
  have hbi : Below w.heap.size w wi := hwi ▸ alloc_below _ _
  have hxb : Blk wi w.heap.size 48 #[y0, .string key, y2, y3, .bool true, .int .i64 k, .bool b, .int .i64 n, .string t, .slice la l.length lc, .slice oa o.length oc, y11, y12, y13, y14, y15, y16, y17, y18] := hwi ▸ Blk.new _ _ _
  have d1 := hxb.cell 1
  have hgb := hxb.lt
  have HC := Lib.hid hC
  have HD := Lib.hid hD
  have Hbi := Lib.hid hbi
  have Hxb := Lib.hid hxb
  have Hj := Lib.hid hj
  have Hy0 := Lib.hid hy0
  have Hy1 := Lib.hid hy1
  have Hy2 := Lib.hid hy2
  clear hC hD hbi hxb hj hy0 hy1 hy2
  clear hV
  go_enter Tryz.func137, Tryz.ntmps137
  go_upto_region 1 with (fail)
  clear hwi
  go_wp2_with (fail)
  with_reducible refine (HC.out _).mono ?_
  rintro e w1 ⟨rfl, hb1⟩
  have hx1 := Hxb.out.below hb1 hgb
  have hz1 := hb1.size
  clear d1
  obtain ⟨w2, hw2⟩ : ∃ w2, w1.alloc (.cells #[.string kKey, .int .i64 4, .bool false, .int .i64 0, .string key, .slice none 0 0, .slice none 0 0] Tpair) = w2 := ⟨_, rfl⟩
  have hb2 : Below w1.heap.size w1 w2 := hw2 ▸ alloc_below _ _
  have hx2 := hx1.below hb2 hx1.lt
  have hw12 := Hbi.out.trans (hb1.mono Hbi.out.size)
  have hrow2 : RowX (fun i => w.heap.size ≤ i) w.heap.size Tpair 7 w2 [dP (kKey, tv key)] (.slice (some ⟨w1.heap.size, 0, none⟩) 1 1) := by
    rw [← hw2]
    exact RowX.lit (cs := #[.string kKey, .int .i64 4, .bool false, .int .i64 0, .string key, .slice none 0 0, .slice none 0 0]) hw12.size (dP_cells _) (holdsIn_tvP _ _ kKey key)
  have hsz2 : w2.heap.size = w1.heap.size + 1 := by rw [← hw2]; simp
  have d4 := hx2.cell 4
  have d5 := hx2.cell 5
  have d6 := hx2.cell 6
  have d7 := hx2.cell 7
  have d8 := hx2.cell 8
  have d9 := hx2.cell 9
  have d10 := hx2.cell 10
  have hgb2 := hx2.lt
  have hw22 := hw12.trans (hb2.mono hw12.size)
  have Hb1 := Lib.hid hb1
  have Hb2 := Lib.hid hb2
  have Hx1 := Lib.hid hx1
  have Hx2 := Lib.hid hx2
  have Hrow2 := Lib.hid hrow2
  have Hsz2 := Lib.hid hsz2
  have Hw12 := Lib.hid hw12
  have Hw22 := Lib.hid hw22
  clear hb1 hb2 hx1 hx2 hrow2 hsz2 hw12 hw22
  go_upto_region 3 with (fail)
  clear hw2
  go_wp2_with (fail)
  with_reducible refine (HD.out _ Hw22.out).mono ?_
  rintro e w3 ⟨⟨cs4, rfl, hl4, hf4⟩, hb3⟩
  obtain ⟨la2, lc2, oa2, oc2, rfl⟩ := six_now hf4
  have hrow3 := Hrow2.out.below hb3
  have Hf4 := Lib.hid hf4
  have Hb3 := Lib.hid hb3
  have hz3 := hb3.size
  have hw32 := Hw22.out.trans (hb3.mono Hw22.out.size)
  have Hw32 := Lib.hid hw32
  have Hrow3 := Lib.hid hrow3
  clear hf4 hb3 hrow3 hl4 hw32 d4 d5 d6 d7 d8 d9 d10
  have hdO : dO (guardO key true (.mk k b n t l o)) = [dP (kKey, tv key)] ++ [dP (kWas, .mk k b n t l o)] := by simp [guardO, dO]
  have HdO := Lib.hid hdO
  have hX : HoldsIn (fun i => w.heap.size ≤ i ∧ (Value.slice (some ⟨w1.heap.size, 0, none⟩) 1 1).ownBlock ≠ some i) (w3.alloc (.cells #[.string kWas, .int .i64 k, .bool b, .int .i64 n, .string t, .slice la2 l.length lc2, .slice oa2 o.length oc2] Tpair)) (dP (kWas, .mk k b n t l o)) [.string kWas, .int .i64 k, .bool b, .int .i64 n, .string t, .slice la2 l.length lc2, .slice oa2 o.length oc2] :=
    (HoldsIn.of_fresh ((dP_fresh (key := kWas) Hf4.out).later (alloc_below w3 (.cells #[.string kWas, .int .i64 k, .bool b, .int .i64 n, .string t, .slice la2 l.length lc2, .slice oa2 o.length oc2] Tpair)))).mono fun i _ hi => by
      have hi' : w2.heap.size ≤ i := hi
      have h1 := Hw22.out.size
      have h2 := Hsz2.out
      exact ⟨by omega, fun e => absurd (Option.some.inj (show some w1.heap.size = some i from e)) (by omega)⟩
  have HX := Lib.hid hX
  clear hdO hX
  go_wp2_with (at_builtin; refine wpList_append_X rfl (.tmp 11) (.tmp 16) 138 rfl Tryz.underlying138 Hj.out Hy0.out Hy1.out Hy2.out rfl (by omega) rfl (Hrow3.out.below (alloc_below _ _)) (Nat.le_trans Hw32.out.size (by simp)) (dP_cells _) HX.out rfl (reads_pair _ _ _ _ _ _ _ _) (by simp [maxLen]) (by simp) ?_; intro V6 w6 hrow6 hg6 hat6)
  rw [← HdO.out] at hrow6
  go_ret
  exact ⟨below_appX (Hw32.out.alloc Hw32.out.size _) hg6 Hrow3.out (Nat.le_refl _) (Nat.le_trans Hw32.out.size (by simp)), V6, rfl, pairs_row hrow6 (by simp [guardO])⟩
end Go.Proofs.YtkoliaodkojghaaGreatDoor

/- What MutCas writes: the pairs. Condition: values of a bulk of at most 10^8. -/
namespace Go.Proofs.YtkoliaodkojghaaGreatDoor
open Go Go.RowKit

theorem guard_calls (y0 : Value) (key : ByteArray) (y2 y3 : Value) (had : Bool) (k : Int) (b : Bool) (n : Int) (t : ByteArray) (l : List Val) (o : List (ByteArray × Val)) (la oa : Option Addr) (lc oc : Nat) (y11 y12 y13 y14 y15 y16 y17 y18 : Value) (w : World)
    (hV : HoldsV w w.heap.size (.mk k b n t l o) [.int .i64 k, .bool b, .int .i64 n, .string t, .slice la l.length lc, .slice oa o.length oc]) (hb : (Val.mk k b n t l o).bulk ≤ 100000000) :
    Calls Tryz.prog 137 #[.agg #[y0, .string key, y2, y3, .bool had, .int .i64 k, .bool b, .int .i64 n, .string t, .slice la l.length lc, .slice oa o.length oc, y11, y12, y13, y14, y15, y16, y17, y18]] w (PairsPost (guardO key had (.mk k b n t l o)) w) := by
  cases had with
  | false => exact guard_no _ _ _ _ _ _ _ _ _ _ _ _ _ _ _ _ _ _ _ _
  | true => exact guard_yes _ _ _ _ _ _ _ _ _ _ _ _ _ _ _ _ _ _ _ _ _ _ _ hV hb
theorem PairsAt.parts {b : Nat} {w : World} {o : List (ByteArray × Val)} {V : Value} (h : PairsAt b w o V) :
    ∃ g c ns, V = .slice (some ⟨g, 0, none⟩) o.length c ∧ b ≤ g ∧ g < w.heap.size ∧ Reads w w.heap.size 7 (some ⟨g, 0, none⟩) o.length ns ∧ HoldsInA (fun i => b ≤ i) w (dO o) ns := by
  obtain ⟨g, c, ns, rfl, h1, h2, h3, h4⟩ := h
  refine ⟨g, c, ns, rfl, h1, h2, ⟨?_, fun _ => ⟨_, rfl, h2, fun j u hu => by rw [add_plain', Nat.zero_add]; exact h4 j u hu⟩⟩, h3⟩
  rw [h3.now.len.1, cellsA_all (dO_cells o), dO_len]
theorem HoldsInA.mono {S T : Nat → Prop} {w : World} {l : List D} {cs : List Value} (h : HoldsInA S w l cs) (hST : ∀ i, i < w.heap.size → S i → T i) : HoldsInA T w l cs :=
  fun w'' h1 h2 => h w'' h1 fun p p1 p2 => h2 p (hST _ p2 p1) p2
theorem guard_len (key : ByteArray) (had : Bool) (was : Val) : (guardO key had was).length ≤ 2 ∧ 0 < (guardO key had was).length := by
  unfold guardO
  cases had <;> simp
theorem dO_app (a b : List (ByteArray × Val)) : dO (a ++ b) = dO a ++ dO b := by rw [dO_map, dO_map, dO_map, List.map_append]

set_option maxRecDepth 100000 in
set_option maxHeartbeats 4000000 in
theorem wcas_no (y0 : Value) (key : ByteArray) (y2 y3 : Value) (had : Bool) (k : Int) (b : Bool) (n : Int) (t : ByteArray) (l : List Val) (o : List (ByteArray × Val)) (la oa : Option Addr) (lc oc : Nat) (y12 y13 y14 y15 y16 y17 y18 : Value) (w : World)
    (hV : HoldsV w w.heap.size (.mk k b n t l o) [.int .i64 k, .bool b, .int .i64 n, .string t, .slice la l.length lc, .slice oa o.length oc]) (hb : (Val.mk k b n t l o).bulk ≤ 100000000) :
    Calls Tryz.prog 136 #[.agg #[y0, .string key, y2, y3, .bool had, .int .i64 k, .bool b, .int .i64 n, .string t, .slice la l.length lc, .slice oa o.length oc, .bool false, y12, y13, y14, y15, y16, y17, y18]] w (PairsPost (guardO key had (.mk k b n t l o)) w) := by
  have hC := fun W (hW : Below w.heap.size w W) => guard_calls y0 key y2 y3 had k b n t l o la oa lc oc (.bool false) y12 y13 y14 y15 y16 y17 y18 W (HoldsV.more hW.size _ _ (hV.below hW)) hb
  obtain ⟨j0, hj, hy0, hy1, hy2⟩ := info_parts pair_info
  have hxb := Blk.new w 48 #[y0, .string key, y2, y3, .bool had, .int .i64 k, .bool b, .int .i64 n, .string t, .slice la l.length lc, .slice oa o.length oc, .bool false, y12, y13, y14, y15, y16, y17, y18]
  have hgl := guard_len key had (.mk k b n t l o)
  have hdl := dO_len (guardO key had (.mk k b n t l o))
  generalize guardO key had (.mk k b n t l o) = G at hC hgl hdl ⊢
  have HC := Lib.hid hC
  have Hj := Lib.hid hj
  have Hy0 := Lib.hid hy0
  have Hy1 := Lib.hid hy1
  have Hy2 := Lib.hid hy2
  have Hxb := Lib.hid hxb
  have Hgl := Lib.hid hgl
  have Hdl := Lib.hid hdl
  clear hC hj hy0 hy1 hy2 hxb hgl hdl
  clear hV
  go_enter Tryz.func136, Tryz.ntmps136
  go_upto_region 4 with (fail)
  iterate 5 go_step
  refine wp_load_blk 48 (.tmp 1) rfl w.heap.size _ Hxb.out rfl _ Tryz.underlying48 rfl (by kernel_rfl) ?_
  go_wp2_with (fail)
  with_reducible refine (HC.out _ (alloc_below _ _)).mono ?_
  rintro e w1 ⟨hb1, V, rfl, hP⟩
  obtain ⟨g, c, ns, rfl, hbg, hlt, hR, hA⟩ := hP.parts
  have hw1 := (alloc_below w (.cells #[y0, .string key, y2, y3, .bool had, .int .i64 k, .bool b, .int .i64 n, .string t, .slice la l.length lc, .slice oa o.length oc, .bool false, y12, y13, y14, y15, y16, y17, y18] 48)).trans (hb1.mono (by simp))
  have hX : HoldsInA (fun i => w.heap.size ≤ i ∧ (Value.slice none 0 0).ownBlock ≠ some i) w1 (dO G) ns := hA.mono fun i _ hi => ⟨by have : (w.alloc (.cells #[y0, .string key, y2, y3, .bool had, .int .i64 k, .bool b, .int .i64 n, .string t, .slice la l.length lc, .slice oa o.length oc, .bool false, y12, y13, y14, y15, y16, y17, y18] 48)).heap.size ≤ i := hi; simp at this; omega, by simp [Value.ownBlock]⟩
  have Hb1 := Lib.hid hb1
  have HP := Lib.hid hP
  have HR := Lib.hid hR
  have HX := Lib.hid hX
  have Hw1 := Lib.hid hw1
  clear hb1 hP hR hX hw1
  clear hA
  go_wp2_with (at_builtin; refine wpList_append_L rfl (.tmp 13) (.tmp 15) 138 rfl Tryz.underlying138 Hj.out Hy0.out Hy1.out Hy2.out rfl (by omega) rfl (RowX.nil (fun i => w.heap.size ≤ i) w.heap.size Tpair 7 w1) Hw1.out.size (dO_cells _) HX.out rfl HR.out Hdl.out.symm (by have := Hgl.out; simp [maxLen]; omega) (by have := Hgl.out; simp; omega) ?_; intro V6 w6 hrow6 hg6 hat6)
  rw [List.nil_append] at hrow6
  go_ret
  exact ⟨below_appX Hw1.out hg6 (RowX.nil (fun i => w.heap.size ≤ i) w.heap.size Tpair 7 w1) (Nat.le_refl _) Hw1.out.size, V6, rfl, pairs_row hrow6 Hgl.out.2⟩

set_option maxRecDepth 100000 in
set_option maxHeartbeats 8000000 in
theorem wcas_yes (y0 : Value) (key : ByteArray) (y2 y3 : Value) (had : Bool) (k : Int) (b : Bool) (n : Int) (t : ByteArray) (l : List Val) (o : List (ByteArray × Val)) (la oa : Option Addr) (lc oc : Nat) (k' : Int) (b' : Bool) (n' : Int) (t' : ByteArray) (l' : List Val) (o' : List (ByteArray × Val)) (la' oa' : Option Addr) (lc' oc' : Nat) (y18 : Value) (w : World)
    (hV : HoldsV w w.heap.size (.mk k b n t l o) [.int .i64 k, .bool b, .int .i64 n, .string t, .slice la l.length lc, .slice oa o.length oc]) (hb : (Val.mk k b n t l o).bulk ≤ 100000000) (hV' : HoldsV w w.heap.size (.mk k' b' n' t' l' o') [.int .i64 k', .bool b', .int .i64 n', .string t', .slice la' l'.length lc', .slice oa' o'.length oc']) (hb' : (Val.mk k' b' n' t' l' o').bulk ≤ 100000000) :
    Calls Tryz.prog 136 #[.agg #[y0, .string key, y2, y3, .bool had, .int .i64 k, .bool b, .int .i64 n, .string t, .slice la l.length lc, .slice oa o.length oc, .bool true, .int .i64 k', .bool b', .int .i64 n', .string t', .slice la' l'.length lc', .slice oa' o'.length oc', y18]] w (PairsPost ((kIs, .mk k' b' n' t' l' o') :: guardO key had (.mk k b n t l o)) w) := by
  have hC := fun W (hW : Below w.heap.size w W) => guard_calls y0 key y2 y3 had k b n t l o la oa lc oc (.bool true) (.int .i64 k') (.bool b') (.int .i64 n') (.string t') (.slice la' l'.length lc') (.slice oa' o'.length oc') y18 W (HoldsV.more hW.size _ _ (hV.below hW)) hb
  have hD : ∀ W, Below w.heap.size w W → Calls Tryz.prog 65 #[.agg #[.int .i64 k', .bool b', .int .i64 n', .string t', .slice la' l'.length lc', .slice oa' o'.length oc']] W (VCopyPost W (.mk k' b' n' t' l' o')) := fun W hB => vcopy_calls _ _ W (HoldsV.more hB.size _ _ (hV'.below hB)) hb'
  obtain ⟨j0, hj, hy0, hy1, hy2⟩ := info_parts pair_info
  obtain ⟨wi, hwi⟩ : ∃ wi, w.alloc (.cells #[y0, .string key, y2, y3, .bool had, .int .i64 k, .bool b, .int .i64 n, .string t, .slice la l.length lc, .slice oa o.length oc, .bool true, .int .i64 k', .bool b', .int .i64 n', .string t', .slice la' l'.length lc', .slice oa' o'.length oc', y18] 48) = wi := ⟨_, rfl⟩
  have hbi : Below w.heap.size w wi := hwi ▸ alloc_below _ _
  have hxb : Blk wi w.heap.size 48 #[y0, .string key, y2, y3, .bool had, .int .i64 k, .bool b, .int .i64 n, .string t, .slice la l.length lc, .slice oa o.length oc, .bool true, .int .i64 k', .bool b', .int .i64 n', .string t', .slice la' l'.length lc', .slice oa' o'.length oc', y18] := hwi ▸ Blk.new _ _ _
  have d11 := hxb.cell 11
  have d12 := hxb.cell 12
  have d13 := hxb.cell 13
  have d14 := hxb.cell 14
  have d15 := hxb.cell 15
  have d16 := hxb.cell 16
  have d17 := hxb.cell 17
  have hgb := hxb.lt
  have hgl := guard_len key had (.mk k b n t l o)
  have hdl := dO_len (guardO key had (.mk k b n t l o))
  have hap := dO_app [(kIs, .mk k' b' n' t' l' o')] (guardO key had (.mk k b n t l o))
  generalize guardO key had (.mk k b n t l o) = G at hC hgl hdl hap ⊢
  have HC := Lib.hid hC
  have HD := Lib.hid hD
  have Hbi := Lib.hid hbi
  have Hxb := Lib.hid hxb
  have Hj := Lib.hid hj
  have Hy0 := Lib.hid hy0
  have Hy1 := Lib.hid hy1
  have Hy2 := Lib.hid hy2
  have Hgl := Lib.hid hgl
  have Hdl := Lib.hid hdl
  have Hap := Lib.hid hap
  clear hC hD hbi hxb hj hy0 hy1 hy2 hgl hdl hap
  clear hV hV'
  go_enter Tryz.func136, Tryz.ntmps136
  go_upto_region 3 with (fail)
  clear hwi
  go_wp2_with (fail)
  with_reducible refine (HD.out _ Hbi.out).mono ?_
  rintro e w3 ⟨⟨cs4, rfl, hl4, hf4⟩, hb3⟩
  obtain ⟨la2, lc2, oa2, oc2, rfl⟩ := six_now hf4
  have hw3 := Hbi.out.trans (hb3.mono Hbi.out.size)
  have hz3 := hw3.size
  have hx3 := (Hxb.out.below hb3 hgb).alloc (.cells #[.string kIs, .int .i64 k', .bool b', .int .i64 n', .string t', .slice la2 l'.length lc2, .slice oa2 o'.length oc2] Tpair)
  have hX : HoldsIn (fun i => w.heap.size ≤ i ∧ (Value.slice none 0 0).ownBlock ≠ some i) (w3.alloc (.cells #[.string kIs, .int .i64 k', .bool b', .int .i64 n', .string t', .slice la2 l'.length lc2, .slice oa2 o'.length oc2] Tpair)) (dP (kIs, .mk k' b' n' t' l' o')) [.string kIs, .int .i64 k', .bool b', .int .i64 n', .string t', .slice la2 l'.length lc2, .slice oa2 o'.length oc2] :=
    (HoldsIn.of_fresh ((dP_fresh (key := kIs) hf4).later (alloc_below w3 (.cells #[.string kIs, .int .i64 k', .bool b', .int .i64 n', .string t', .slice la2 l'.length lc2, .slice oa2 o'.length oc2] Tpair)))).mono fun i _ hi => by
      have hi' : wi.heap.size ≤ i := hi
      have h1 := Hbi.out.size
      exact ⟨by omega, by simp [Value.ownBlock]⟩
  have Hb3 := Lib.hid hb3
  have Hf4 := Lib.hid hf4
  have Hw3 := Lib.hid hw3
  have Hx3 := Lib.hid hx3
  have HX := Lib.hid hX
  clear hb3 hf4 hw3 hx3 hX
  clear d11 d12 d13 d14 d15 d16 d17 hl4
  go_wp2_with (at_builtin; apply Shut.out)
  unfold Shut
  refine wpList_append_X (V := .slice none 0 0) rfl (.tmp 6) (.tmp 11) 138 rfl Tryz.underlying138 Hj.out Hy0.out Hy1.out Hy2.out rfl (by omega) rfl (RowX.nil (fun i => w.heap.size ≤ i) w.heap.size Tpair 7 _) (Nat.le_trans Hw3.out.size (by simp)) (dP_cells _) HX.out rfl (reads_pair _ _ _ _ _ _ _ _) (by simp [maxLen]) (by simp) ?_
  intro V6 w6 hrow6 hg6 hat6
  rw [List.nil_append] at hrow6
  have hx6 := Hx3.out.grown hg6 (by simp [Value.ownBlock])
  have hw6 := below_appX (Hw3.out.alloc Hw3.out.size _) hg6 (RowX.nil (fun i => w.heap.size ≤ i) w.heap.size Tpair 7 w3) (Nat.le_refl _) (Nat.le_trans Hw3.out.size (by simp))
  have hz6 := hw6.size
  have Hx6 := Lib.hid hx6
  have Hw6 := Lib.hid hw6
  have Hrow6 := Lib.hid hrow6
  clear hx6 hw6 hrow6 hg6 hat6
  go_upto_region 4 with (fail)
  iterate 5 go_step
  refine wp_load_blk 48 (.tmp 1) rfl w.heap.size _ Hx6.out rfl _ Tryz.underlying48 rfl (by kernel_rfl) ?_
  go_wp2_with (fail)
  with_reducible refine (HC.out _ Hw6.out).mono ?_
  rintro e w7 ⟨hb7, V, rfl, hP⟩
  obtain ⟨g, c, ns, rfl, hbg, hlt, hR, hA⟩ := hP.parts
  have hw7 := Hw6.out.trans (hb7.mono Hw6.out.size)
  have hrow7 := Hrow6.out.below hb7
  have hX7 : HoldsInA (fun i => w.heap.size ≤ i ∧ V6.ownBlock ≠ some i) w7 (dO G) ns := hA.mono fun i _ hi => by
    have hi' : w6.heap.size ≤ i := hi
    exact ⟨by omega, fun e => by have := (Hrow6.out.base i e).2; omega⟩
  have Hb7 := Lib.hid hb7
  have HP := Lib.hid hP
  have HR := Lib.hid hR
  have HX7 := Lib.hid hX7
  have Hw7 := Lib.hid hw7
  have Hrow7 := Lib.hid hrow7
  clear hb7 hP hR hX7 hw7 hrow7
  clear hA
  go_wp2_with (at_builtin; refine wpList_append_L rfl (.tmp 13) (.tmp 15) 138 rfl Tryz.underlying138 Hj.out Hy0.out Hy1.out Hy2.out rfl (by omega) rfl Hrow7.out Hw7.out.size (dO_cells _) HX7.out rfl HR.out Hdl.out.symm (by have := Hgl.out; simp [maxLen]; omega) (by have := Hgl.out; simp; omega) ?_; intro V8 w8 hrow8 hg8 hat8)
  have hrow9 : RowX (fun i => w.heap.size ≤ i) w.heap.size Tpair 7 w8 (dO ((kIs, .mk k' b' n' t' l' o') :: G)) V8 := by
    have := Hap.out
    simp only [List.singleton_append] at this
    rw [this]
    exact hrow8
  go_ret
  exact ⟨below_appX Hw7.out hg8 Hrow7.out (Nat.le_refl _) Hw7.out.size, V8, rfl, pairs_row hrow9 (by simp)⟩
end Go.Proofs.YtkoliaodkojghaaGreatDoor

/- What MutSeq writes: the pairs. Condition: values of a bulk of at most 10^8, at most 10^6 mutators; what writes one keeps its word. -/
namespace Go.Proofs.YtkoliaodkojghaaGreatDoor
open Go Go.RowKit

/-- A mutator's object, given back. -/
def WritePost (m : Mut) (w : World) (e : Ending) (w' : World) : Prop := Below w.heap.size w w' ∧
  ∃ oa oc, e = .returned (.agg #[.int .i64 6, .bool false, .int .i64 0, .string ⟨#[]⟩, .slice none 0 0, .slice oa 2 oc]) ∧ Fresh w.heap.size w' (dV (mutV m)) [.int .i64 6, .bool false, .int .i64 0, .string ⟨#[]⟩, .slice none 0 0, .slice oa 2 oc]
/-- What holds between two rounds. -/
structure LQ (w : World) (box : Array Value) (l : List Mut) (q : Nat) (wr : World) (V : Value) : Prop where
  below : Below w.heap.size w wr
  box : Blk wr w.heap.size 48 box
  var : Blk wr (w.heap.size + 1) 45 #[.int .i64 5, .bool false, .int .i64 0, .string ⟨#[]⟩, V, .slice none 0 0]
  row : RowD (w.heap.size + 2) 45 6 wr (dL ((mutVs l).take q)) V

set_option maxRecDepth 100000 in
set_option maxHeartbeats 8000000 in
theorem wseq_loop (y0 : Value) (key : ByteArray) (y2 y3 : Value) (had : Bool) (k : Int) (b : Bool) (n : Int) (t : ByteArray) (lv' : List Val) (ov' : List (ByteArray × Val)) (la oa : Option Addr) (lc oc : Nat) (y11 y12 y13 y14 y15 y16 y17 : Value) (l : List Mut) (a : Option Addr) (c A W : Nat) (w : World)
    (hV : HoldsV w w.heap.size (.mk k b n t lv' ov') [.int .i64 k, .bool b, .int .i64 n, .string t, .slice la lv'.length lc, .slice oa ov'.length oc]) (hbV : (Val.mk k b n t lv' ov').bulk ≤ 100000000)
    (hl : Holds w w.heap.size (.row 19 (dMs l)) [.slice a l.length c]) (hlen : l.length ≤ 1000000)
    (hbox : w.cell? ⟨W, 0, none⟩ = some (.func (.func 113) #[] #[.pointer (some ⟨A, 0, none⟩)])) (hW : W < w.heap.size)
    (ih : ∀ x ∈ l, ∀ W' cs, Below w.heap.size w W' → Holds W' W'.heap.size (dM x) cs → Calls Tryz.prog 113 #[.agg cs.toArray, .pointer (some ⟨A, 0, none⟩)] W' (WritePost x W')) :
    Calls Tryz.prog 140 #[.agg #[y0, .string key, y2, y3, .bool had, .int .i64 k, .bool b, .int .i64 n, .string t, .slice la lv'.length lc, .slice oa ov'.length oc, y11, y12, y13, y14, y15, y16, y17, .slice a l.length c], .pointer (some ⟨W, 0, none⟩)] w
      (PairsPost ((kDo, lv (mutVs l)) :: (if key.toList.isEmpty then [] else [(kIf, ov (guardO key had (.mk k b n t lv' ov')))])) w) := by
  obtain ⟨j0, hj, hy0, hy1, hy2⟩ := info_parts val_info
  have hI0 : LQ w #[y0, .string key, y2, y3, .bool had, .int .i64 k, .bool b, .int .i64 n, .string t, .slice la lv'.length lc, .slice oa ov'.length oc, y11, y12, y13, y14, y15, y16, y17, .slice a l.length c] l 0 ((w.alloc (.cells #[y0, .string key, y2, y3, .bool had, .int .i64 k, .bool b, .int .i64 n, .string t, .slice la lv'.length lc, .slice oa ov'.length oc, y11, y12, y13, y14, y15, y16, y17, .slice a l.length c] 48)).alloc (.cells #[.int .i64 5, .bool false, .int .i64 0, .string ⟨#[]⟩, .slice none 0 0, .slice none 0 0] 45)) (.slice none 0 0) := by
    exact ⟨((Below.refl _ _).alloc (Nat.le_refl _) _).alloc (by simp) _, (Blk.new _ _ _).alloc _, by simpa using Blk.new (w.alloc (.cells #[y0, .string key, y2, y3, .bool had, .int .i64 k, .bool b, .int .i64 n, .string t, .slice la lv'.length lc, .slice oa ov'.length oc, y11, y12, y13, y14, y15, y16, y17, .slice a l.length c] 48)) 45 #[.int .i64 5, .bool false, .int .i64 0, .string ⟨#[]⟩, .slice none 0 0, .slice none 0 0], by simpa [dL] using RowD.nil _ _ _ _⟩
  obtain ⟨O, hO⟩ : ∃ O, (kDo, lv (mutVs l)) :: (if key.toList.isEmpty then [] else [(kIf, ov (guardO key had (.mk k b n t lv' ov')))]) = O := ⟨_, rfl⟩
  rw [hO]
  have Hj := Lib.hid hj
  have Hy0 := Lib.hid hy0
  have Hy1 := Lib.hid hy1
  have Hy2 := Lib.hid hy2
  have HV := Lib.hid hV
  have Hl := Lib.hid hl
  have Ih := Lib.hid ih
  have Hbox := Lib.hid hbox
  have HO := Lib.hid hO
  clear hj hy0 hy1 hy2 hV hl ih hbox hO
  go_enter Tryz.func140, Tryz.ntmps140
  go_upto_region 2 with (fail)
  obtain ⟨w0, hw0⟩ : ∃ w0, (w.alloc (.cells #[y0, .string key, y2, y3, .bool had, .int .i64 k, .bool b, .int .i64 n, .string t, .slice la lv'.length lc, .slice oa ov'.length oc, y11, y12, y13, y14, y15, y16, y17, .slice a l.length c] 48)).alloc (.cells #[.int .i64 5, .bool false, .int .i64 0, .string ⟨#[]⟩, .slice none 0 0, .slice none 0 0] 45) = w0 := ⟨_, rfl⟩
  rw [hw0] at hI0 ⊢
  clear hw0
  have d18 := hI0.box.cell 18
  have hgb := hI0.box.lt
  have HI0 := Lib.hid hI0
  clear hI0
  go_wp2_with (fail)
  go_loopw [12] (fun i wr => ∃ q : Nat, i = .int .i64 q ∧ q ≤ l.length ∧ ∃ V, Hid (LQ w #[y0, .string key, y2, y3, .bool had, .int .i64 k, .bool b, .int .i64 n, .string t, .slice la lv'.length lc, .slice oa ov'.length oc, y11, y12, y13, y14, y15, y16, y17, .slice a l.length c] l q wr V)) (fun i _ => l.length - (intOf i).toNat)
  case atStart => exact ⟨0, rfl, Nat.zero_le _, _, HI0⟩
  case round =>
    obtain ⟨q, rfl, hq, V, hI⟩ := hrel
    clear HI0 d18
    by_cases hlt : q < l.length
    · obtain ⟨m, hm⟩ : ∃ p, l[q]? = some p := ⟨_, List.getElem?_eq_getElem hlt⟩
      have hmem := List.mem_of_getElem? hm
      have hbw := hI.out.below
      have hz := hbw.size
      have htk : dL ((mutVs l).take q) ++ [dV (mutV m)] = dL ((mutVs l).take (q + 1)) := by
        rw [List.take_add_one, mutVs_map, List.getElem?_map, hm, dL_map, dL_map]; simp
      have hdl : (dL ((mutVs l).take q)).length = q := by rw [dL_len, List.length_take, mutVs_len]; omega
      have hC := Ih.out m hmem
      obtain ⟨k', key', dst', n', had', ⟨k1', b1', n1', t1', l1', o1'⟩, has', ⟨k2', b2', n2', t2', l2', o2'⟩, l'⟩ := m
      obtain ⟨g, off, rfl, hg, cs', hcs, _, hcell⟩ := mut_at (Hl.out.below hbw) hm
      obtain ⟨la1', lc1', oa1', oc1', la2', lc2', oa2', oc2', a', c', rfl, _, _, _⟩ := mut_cells hcs
      have hrange : wr.rangeAt g (off + q * 19) [.int .i64 k', .string key', .string dst', .int .i64 n', .bool had', .int .i64 k1', .bool b1', .int .i64 n1', .string t1', .slice la1' l1'.length lc1', .slice oa1' o1'.length oc1', .bool has', .int .i64 k2', .bool b2', .int .i64 n2', .string t2', .slice la2' l2'.length lc2', .slice oa2' o2'.length oc2', .slice a' l'.length c'] := hcell
      have hgr : g < wr.heap.size := by omega
      have hq1 : (q : Int) < (l.length : Int) := by omega
      have hq0 : (0 : Int) ≤ q := by omega
      have hC' : ∀ W', Below wr.heap.size wr W' → Calls Tryz.prog 113 #[.agg #[.int .i64 k', .string key', .string dst', .int .i64 n', .bool had', .int .i64 k1', .bool b1', .int .i64 n1', .string t1', .slice la1' l1'.length lc1', .slice oa1' o1'.length oc1', .bool has', .int .i64 k2', .bool b2', .int .i64 n2', .string t2', .slice la2' l2'.length lc2', .slice oa2' o2'.length oc2', .slice a' l'.length c'], .pointer (some ⟨A, 0, none⟩)] W' (WritePost (Mut.mk k' key' dst' n' had' (.mk k1' b1' n1' t1' l1' o1') has' (.mk k2' b2' n2' t2' l2' o2') l') W') := fun W' hW' => hC W' _ (hbw.trans (hW'.mono hz)) ((hcs.below (hW'.mono hz)).more (Nat.le_trans hz hW'.size))
      have HC' := Lib.hid hC'
      have Hbw := Lib.hid hbw
      have Htk := Lib.hid htk
      clear hC' hbw htk
      clear hC hcs hcell hmem hm
      go_upto_region 4 with (fail)
      iterate 5 go_step
      refine wp_load_mid 48 (.tmp 14) rfl g (off + q * 19) rfl [.int .i64 k', .string key', .string dst', .int .i64 n', .bool had', .int .i64 k1', .bool b1', .int .i64 n1', .string t1', .slice la1' l1'.length lc1', .slice oa1' o1'.length oc1', .bool has', .int .i64 k2', .bool b2', .int .i64 n2', .string t2', .slice la2' l2'.length lc2', .slice oa2' o2'.length oc2', .slice a' l'.length c'] _ hrange Tryz.underlying48 rfl (by kernel_rfl) ?_
      iterate 5 go_step
      refine wp_store_new 48 (.tmp 6) (.tmp 15) rfl #[.int .i64 k', .string key', .string dst', .int .i64 n', .bool had', .int .i64 k1', .bool b1', .int .i64 n1', .string t1', .slice la1' l1'.length lc1', .slice oa1' o1'.length oc1', .bool has', .int .i64 k2', .bool b2', .int .i64 n2', .string t2', .slice la2' l2'.length lc2', .slice oa2' o2'.length oc2', .slice a' l'.length c'] rfl rfl rfl (by kernel_rfl) (by simp [Value.oneCell']) ?_
      have hA := alloc_below wr (.cells #[.int .i64 k', .string key', .string dst', .int .i64 n', .bool had', .int .i64 k1', .bool b1', .int .i64 n1', .string t1', .slice la1' l1'.length lc1', .slice oa1' o1'.length oc1', .bool has', .int .i64 k2', .bool b2', .int .i64 n2', .string t2', .slice la2' l2'.length lc2', .slice oa2' o2'.length oc2', .slice a' l'.length c'] 48)
      have hxv := hI.out.var.alloc (.cells #[.int .i64 k', .string key', .string dst', .int .i64 n', .bool had', .int .i64 k1', .bool b1', .int .i64 n1', .string t1', .slice la1' l1'.length lc1', .slice oa1' o1'.length oc1', .bool has', .int .i64 k2', .bool b2', .int .i64 n2', .string t2', .slice la2' l2'.length lc2', .slice oa2' o2'.length oc2', .slice a' l'.length c'] 48)
      have hbx := hI.out.box.alloc (.cells #[.int .i64 k', .string key', .string dst', .int .i64 n', .bool had', .int .i64 k1', .bool b1', .int .i64 n1', .string t1', .slice la1' l1'.length lc1', .slice oa1' o1'.length oc1', .bool has', .int .i64 k2', .bool b2', .int .i64 n2', .string t2', .slice la2' l2'.length lc2', .slice oa2' o2'.length oc2', .slice a' l'.length c'] 48)
      have hrow := hI.out.row.below hA
      have hba := hI.out.row.base
      have hgv := hI.out.var.lt
      have hbo : (wr.alloc (.cells #[.int .i64 k', .string key', .string dst', .int .i64 n', .bool had', .int .i64 k1', .bool b1', .int .i64 n1', .string t1', .slice la1' l1'.length lc1', .slice oa1' o1'.length oc1', .bool has', .int .i64 k2', .bool b2', .int .i64 n2', .string t2', .slice la2' l2'.length lc2', .slice oa2' o2'.length oc2', .slice a' l'.length c'] 48)).cell? ⟨W, 0, none⟩ = some (.func (.func 113) #[] #[.pointer (some ⟨A, 0, none⟩)]) := (hA.cell (p := ⟨W, 0, none⟩) (show W < wr.heap.size by omega)).trans ((Hbw.out.cell (p := ⟨W, 0, none⟩) hW).trans Hbox.out)
      have hrng := blk_range (Blk.new wr 48 #[.int .i64 k', .string key', .string dst', .int .i64 n', .bool had', .int .i64 k1', .bool b1', .int .i64 n1', .string t1', .slice la1' l1'.length lc1', .slice oa1' o1'.length oc1', .bool has', .int .i64 k2', .bool b2', .int .i64 n2', .string t2', .slice la2' l2'.length lc2', .slice oa2' o2'.length oc2', .slice a' l'.length c'])
      obtain ⟨aV, cV, rfl⟩ := hI.out.row.slice
      have hLo : Hid ((dL ((mutVs l).take q)).length + 1 ≤ maxLen ∧ ((dL ((mutVs l).take q)).length + 1) * 88 ≤ 140737488355328) := by rw [hdl]; exact ⟨by simp only [maxLen]; omega, by omega⟩
      have HA := Lib.hid hA
      have Hbx := Lib.hid hbx
      have Hrow := Lib.hid hrow
      have Hdl := Lib.hid hdl
      have Hba := Lib.hid hba
      clear hA hbx hrow hdl hba
      go_upto_region 5 with (fail)
      refine wp_region_held_drew (S := (fun X => X.cell? ⟨W, 0, none⟩ = some (.func (.func 113) #[] #[.pointer (some ⟨A, 0, none⟩)]) ∧ X.rangeAt wr.heap.size 0 [.int .i64 k', .string key', .string dst', .int .i64 n', .bool had', .int .i64 k1', .bool b1', .int .i64 n1', .string t1', .slice la1' l1'.length lc1', .slice oa1' o1'.length oc1', .bool has', .int .i64 k2', .bool b2', .int .i64 n2', .string t2', .slice la2' l2'.length lc2', .slice oa2' o2'.length oc2', .slice a' l'.length c'])) (by kernel_rfl) ⟨hbo, hrng⟩ (fun hHeld => ?_)
      have Hxv := Lib.hid hxv
      have Hbo := Lib.hid hbo
      have Hrng := Lib.hid hrng
      clear hxv hbo hrng
      refine wpAnyH_take (i := 0) (v := ?_) rfl (by kernel_rfl) (by kernel_rfl) (by kernel_rfl) (fun _ _ _ h => h) (Or.inl ⟨by kernel_rfl, ?_⟩) hHeld ?_
      rotate_left
      · intro X hSw
        skip
        first | (go_simp; done) | (go_simp; with_reducible rfl)
      try simp only [Act.put, List.setIfInBounds_toArray]
      refine wpAnyH_take (i := 2) (v := ?_) rfl (by kernel_rfl) (by kernel_rfl) (by kernel_rfl) (fun _ _ _ h => h) (Or.inl ⟨by kernel_rfl, ?_⟩) hHeld ?_
      rotate_left
      · intro X hSw
        have e4 := hSw.1
        first | (go_simp; done) | (go_simp; with_reducible rfl)
      try simp only [Act.put]
      refine wpAnyH_take (i := 3) rfl (by kernel_rfl) (by kernel_rfl) (by kernel_rfl) (fun _ _ _ h => h) (yieldsIf_load_mid (by kernel_rfl) 48 (.tmp 6) rfl wr.heap.size 0 rfl [.int .i64 k', .string key', .string dst', .int .i64 n', .bool had', .int .i64 k1', .bool b1', .int .i64 n1', .string t1', .slice la1' l1'.length lc1', .slice oa1' o1'.length oc1', .bool has', .int .i64 k2', .bool b2', .int .i64 n2', .string t2', .slice la2' l2'.length lc2', .slice oa2' o2'.length oc2', .slice a' l'.length c'] _ (fun X hX => hX.2) Tryz.underlying48 rfl (by kernel_rfl)) hHeld ?_
      try simp only [Act.put]
      refine wpAnyH_ready (rs := [1, 4]) (by kernel_rfl) (by simp) ?_
      refine AllReadyH.cons rfl (fun K hK => ?_) (AllReadyH.cons rfl (fun K hK => ?_) AllReadyH.nil)
      · -- the row first
        have e4 := Hxv.out.drew.cell 4
        go_simp
        refine hK.out _ _ ⟨Hbo.out, Hrng.out⟩ (fun hHeld => ?_)
        clear hK K
        try simp only [Act.put, List.setIfInBounds_toArray, List.set_cons_zero, List.set_cons_succ]
        refine wpAnyH_ready (rs := [4]) (by kernel_rfl) (by simp) ?_
        refine AllReadyH.cons rfl (fun K hK => ?_) AllReadyH.nil
        go_simp
        (with_reducible refine (HC'.out _ HA.out.drew).mono ?_)
        rintro e w4 ⟨hb4, oa4, oc4, rfl, hf4⟩
        have hbr : Below (wr.alloc (.cells #[.int .i64 k', .string key', .string dst', .int .i64 n', .bool had', .int .i64 k1', .bool b1', .int .i64 n1', .string t1', .slice la1' l1'.length lc1', .slice oa1' o1'.length oc1', .bool has', .int .i64 k2', .bool b2', .int .i64 n2', .string t2', .slice la2' l2'.length lc2', .slice oa2' o2'.length oc2', .slice a' l'.length c'] 48)).heap.size (wr.alloc (.cells #[.int .i64 k', .string key', .string dst', .int .i64 n', .bool had', .int .i64 k1', .bool b1', .int .i64 n1', .string t1', .slice la1' l1'.length lc1', .slice oa1' o1'.length oc1', .bool has', .int .i64 k2', .bool b2', .int .i64 n2', .string t2', .slice la2' l2'.length lc2', .slice oa2' o2'.length oc2', .slice a' l'.length c'] 48)) w4 := (Below.drew (Below.refl _ _)).trans hb4
        have hxv4 := Hxv.out.below hbr Hxv.out.lt
        have hS4 := And.intro ((hbr.cell (p := ⟨W, 0, none⟩) (by simp; omega)).trans Hbo.out) (blk_range ((Blk.new wr 48 #[.int .i64 k', .string key', .string dst', .int .i64 n', .bool had', .int .i64 k1', .bool b1', .int .i64 n1', .string t1', .slice la1' l1'.length lc1', .slice oa1' o1'.length oc1', .bool has', .int .i64 k2', .bool b2', .int .i64 n2', .string t2', .slice la2' l2'.length lc2', .slice oa2' o2'.length oc2', .slice a' l'.length c']).below hbr (Blk.new _ _ _).lt))
        refine hK.out _ _ hS4 (fun hHeld => ?_)
        have Hbr := Lib.hid hbr
        have Hf4 := Lib.hid hf4
        have Hxv4 := Lib.hid hxv4
        have e4 := hxv4.cell 4
        clear hK K hb4 hbr hf4 hxv4
        try simp only [Act.put, List.setIfInBounds_toArray, List.set_cons_zero, List.set_cons_succ]
        refine wpAnyH_ready (rs := [5]) (by kernel_rfl) (by simp) ?_
        refine AllReadyH.cons rfl (fun K hK => ?_) AllReadyH.nil
        go_simp
        have hS5 : (fun X => X.cell? ⟨W, 0, none⟩ = some (.func (.func 113) #[] #[.pointer (some ⟨A, 0, none⟩)]) ∧ X.rangeAt wr.heap.size 0 [.int .i64 k', .string key', .string dst', .int .i64 n', .bool had', .int .i64 k1', .bool b1', .int .i64 n1', .string t1', .slice la1' l1'.length lc1', .slice oa1' o1'.length oc1', .bool has', .int .i64 k2', .bool b2', .int .i64 n2', .string t2', .slice la2' l2'.length lc2', .slice oa2' o2'.length oc2', .slice a' l'.length c']) (w4.alloc (.cells #[.int .i64 6, .bool false, .int .i64 0, .string ⟨#[]⟩, .slice none 0 0, .slice oa4 2 oc4] 45)) := ⟨((alloc_below w4 _).cell (p := ⟨W, 0, none⟩) (by have := Hbr.out.size; simp at this; show W < w4.heap.size; omega)).trans hS4.1, blk_range (((Blk.new wr 48 #[.int .i64 k', .string key', .string dst', .int .i64 n', .bool had', .int .i64 k1', .bool b1', .int .i64 n1', .string t1', .slice la1' l1'.length lc1', .slice oa1' o1'.length oc1', .bool has', .int .i64 k2', .bool b2', .int .i64 n2', .string t2', .slice la2' l2'.length lc2', .slice oa2' o2'.length oc2', .slice a' l'.length c']).below Hbr.out (Blk.new _ _ _).lt).alloc _)⟩
        refine hK.out _ _ hS5 (fun hHeld => ?_)
        clear hK K
        try simp only [Act.put, List.setIfInBounds_toArray, List.set_cons_zero, List.set_cons_succ]
        refine wpAnyH_ready (rs := [6]) (by kernel_rfl) (by simp) ?_
        refine AllReadyH.cons rfl (fun K hK => ?_) AllReadyH.nil
        have hxv5 := Hxv4.out.alloc (.cells #[.int .i64 6, .bool false, .int .i64 0, .string ⟨#[]⟩, .slice none 0 0, .slice oa4 2 oc4] 45)
        have hfe := Hf4.out.later (alloc_below w4 (.cells #[.int .i64 6, .bool false, .int .i64 0, .string ⟨#[]⟩, .slice none 0 0, .slice oa4 2 oc4] 45))
        have hbe := Hbr.out.alloc Hbr.out.size (.cells #[.int .i64 6, .bool false, .int .i64 0, .string ⟨#[]⟩, .slice none 0 0, .slice oa4 2 oc4] 45)
        refine step_append_D (d := dV (mutV (Mut.mk k' key' dst' n' had' (.mk k1' b1' n1' t1' l1' o1') has' (.mk k2' b2' n2' t2' l2' o2') l'))) (V := .slice aV (dL ((mutVs l).take q)).length cV) (by rfl) (.tmp 17) (.tmp 21) 42 (by rfl) Tryz.underlying42 Hj.out Hy0.out Hy1.out Hy2.out rfl (by omega) (by rfl) Hrow.out (by simp; omega) hbe (dV_cells _) hfe (by rfl) (reads_six w4 _ _ _ _ _ _) hLo.out.1 hLo.out.2 ?_
        intro V6 w6 hrow6 hg6 hat6
        rw [Htk.out] at hrow6
        have hne : (Value.slice aV (dL ((mutVs l).take q)).length cV).ownBlock ≠ some wr.heap.size := fun e => by have := Hba.out _ e; omega
        have hneW : (Value.slice aV (dL ((mutVs l).take q)).length cV).ownBlock ≠ some W := fun e => by have := Hba.out _ e; omega
        have hx6 := blk_app hxv5 hg6 Hrow.out (by omega)
        have hbx6 := blk_app ((Hbx.out.below Hbr.out Hbx.out.lt).alloc (.cells #[.int .i64 6, .bool false, .int .i64 0, .string ⟨#[]⟩, .slice none 0 0, .slice oa4 2 oc4] 45)) hg6 Hrow.out (by omega)
        have hw5 := ((Hbw.out.trans (HA.out.mono hz)).trans (Hbr.out.mono (Nat.le_trans hz HA.out.size))).alloc (by have := Hbr.out.size; simp at this; omega) (.cells #[.int .i64 6, .bool false, .int .i64 0, .string ⟨#[]⟩, .slice none 0 0, .slice oa4 2 oc4] 45)
        have hw6 := below_app hw5 hg6 Hrow.out (by omega) hw5.size
        have hr6 := (((Blk.new wr 48 #[.int .i64 k', .string key', .string dst', .int .i64 n', .bool had', .int .i64 k1', .bool b1', .int .i64 n1', .string t1', .slice la1' l1'.length lc1', .slice oa1' o1'.length oc1', .bool has', .int .i64 k2', .bool b2', .int .i64 n2', .string t2', .slice la2' l2'.length lc2', .slice oa2' o2'.length oc2', .slice a' l'.length c']).below Hbr.out (Blk.new _ _ _).lt).alloc (.cells #[.int .i64 6, .bool false, .int .i64 0, .string ⟨#[]⟩, .slice none 0 0, .slice oa4 2 oc4] 45)).grown hg6 (Ne.symm hne)
        have hWs := hw5.size
        have hc6 := (World.cell?_of_block (a := ⟨W, 0, none⟩) (hg6.block W (by omega) (Ne.symm hneW))).trans hS5.1
        have hS6 : (fun X => X.cell? ⟨W, 0, none⟩ = some (.func (.func 113) #[] #[.pointer (some ⟨A, 0, none⟩)]) ∧ X.rangeAt wr.heap.size 0 [.int .i64 k', .string key', .string dst', .int .i64 n', .bool had', .int .i64 k1', .bool b1', .int .i64 n1', .string t1', .slice la1' l1'.length lc1', .slice oa1' o1'.length oc1', .bool has', .int .i64 k2', .bool b2', .int .i64 n2', .string t2', .slice la2' l2'.length lc2', .slice oa2' o2'.length oc2', .slice a' l'.length c']) w6 := ⟨hc6, blk_range hr6⟩
        refine hK.out _ _ hS6 (fun hHeld => ?_)
        clear hK K hg6 hat6 hxv5 hfe hbe hw5 hS5
        try simp only [Act.put, List.setIfInBounds_toArray]
        refine wpAnyH_take (i := 7) (v := ?_) rfl (by kernel_rfl) (by kernel_rfl) (by kernel_rfl) (fun _ _ _ h => h) (Or.inl ⟨by kernel_rfl, ?_⟩) hHeld ?_
        rotate_left
        · intro X hSw
          skip
          first | (go_simp; done) | (go_simp; with_reducible rfl)
        try simp only [Act.put]
        refine wpAnyH_ready (rs := [8]) (by kernel_rfl) (by simp) ?_
        refine AllReadyH.cons rfl (fun K hK => ?_) AllReadyH.nil
        have e6 := hx6.cell 4
        have f6 := hx6.frozen 4
        have hg6v := hx6.lt
        obtain ⟨a6, c6, rfl⟩ := hrow6.slice
        go_simp
        refine hK.out _ _ ⟨(World.cell?_setCell_other _ _ _ _ (by intro e; injection e with e; omega)).trans hS6.1, blk_range (hr6.far (by simp; omega) _)⟩ (fun hHeld => ?_)
        clear hK K
        try simp only [Act.put, List.setIfInBounds_toArray, List.set_cons_zero, List.set_cons_succ]
        refine wpAnyH_done (by kernel_rfl) ?_ _
        have HN : Hid (LQ w #[y0, .string key, y2, y3, .bool had, .int .i64 k, .bool b, .int .i64 n, .string t, .slice la lv'.length lc, .slice oa ov'.length oc, y11, y12, y13, y14, y15, y16, y17, .slice (some ⟨g, off, none⟩) l.length c] l (q + 1) (w6.setCell ⟨w.heap.size + 1, 4, none⟩ (.slice a6 (dL ((mutVs l).take (q + 1))).length c6)) (.slice a6 (dL ((mutVs l).take (q + 1))).length c6)) :=
          ⟨hw6.setCell (by simp) _, hbx6.far (by simp) _, hx6.set_ 4 _, hrow6.keep (by simp [World.setCell]) (fun i h1 _ => Below.heap_setCell _ _ _ _ (by simp; omega))⟩
        clear hx6 hbx6 hw6 hr6 hc6 hS6 hHeld hrow6 e6 f6 Hxv4 Hf4 Hbr Hxv Hbx Hrow
        go_wp2
        go_roundw
        case rel => exact ⟨q + 1, by go_num, by omega, _, HN⟩
        case measure => simp only [intOf]; omega
      · -- the call first
        go_simp
        (with_reducible refine (HC'.out _ HA.out.drew).mono ?_)
        rintro e w4 ⟨hb4, oa4, oc4, rfl, hf4⟩
        have hbr : Below (wr.alloc (.cells #[.int .i64 k', .string key', .string dst', .int .i64 n', .bool had', .int .i64 k1', .bool b1', .int .i64 n1', .string t1', .slice la1' l1'.length lc1', .slice oa1' o1'.length oc1', .bool has', .int .i64 k2', .bool b2', .int .i64 n2', .string t2', .slice la2' l2'.length lc2', .slice oa2' o2'.length oc2', .slice a' l'.length c'] 48)).heap.size (wr.alloc (.cells #[.int .i64 k', .string key', .string dst', .int .i64 n', .bool had', .int .i64 k1', .bool b1', .int .i64 n1', .string t1', .slice la1' l1'.length lc1', .slice oa1' o1'.length oc1', .bool has', .int .i64 k2', .bool b2', .int .i64 n2', .string t2', .slice la2' l2'.length lc2', .slice oa2' o2'.length oc2', .slice a' l'.length c'] 48)) w4 := (Below.drew (Below.refl _ _)).trans hb4
        have hxv4 := Hxv.out.below hbr Hxv.out.lt
        have hS4 := And.intro ((hbr.cell (p := ⟨W, 0, none⟩) (by simp; omega)).trans Hbo.out) (blk_range ((Blk.new wr 48 #[.int .i64 k', .string key', .string dst', .int .i64 n', .bool had', .int .i64 k1', .bool b1', .int .i64 n1', .string t1', .slice la1' l1'.length lc1', .slice oa1' o1'.length oc1', .bool has', .int .i64 k2', .bool b2', .int .i64 n2', .string t2', .slice la2' l2'.length lc2', .slice oa2' o2'.length oc2', .slice a' l'.length c']).below hbr (Blk.new _ _ _).lt))
        refine hK.out _ _ hS4 (fun hHeld => ?_)
        have Hbr := Lib.hid hbr
        have Hf4 := Lib.hid hf4
        have Hxv4 := Lib.hid hxv4
        have e4 := hxv4.cell 4
        clear hK K hb4 hbr hf4 hxv4
        try simp only [Act.put, List.setIfInBounds_toArray, List.set_cons_zero, List.set_cons_succ]
        refine wpAnyH_ready (rs := [1, 5]) (by kernel_rfl) (by simp) ?_
        refine AllReadyH.cons rfl (fun K hK => ?_) (AllReadyH.cons rfl (fun K hK => ?_) AllReadyH.nil)
        · -- the row
          skip
          go_simp
          refine hK.out _ _ hS4 (fun hHeld => ?_)
          clear hK K
          try simp only [Act.put, List.setIfInBounds_toArray, List.set_cons_zero, List.set_cons_succ]
          refine wpAnyH_ready (rs := [5]) (by kernel_rfl) (by simp) ?_
          refine AllReadyH.cons rfl (fun K hK => ?_) AllReadyH.nil
          go_simp
          have hS5 : (fun X => X.cell? ⟨W, 0, none⟩ = some (.func (.func 113) #[] #[.pointer (some ⟨A, 0, none⟩)]) ∧ X.rangeAt wr.heap.size 0 [.int .i64 k', .string key', .string dst', .int .i64 n', .bool had', .int .i64 k1', .bool b1', .int .i64 n1', .string t1', .slice la1' l1'.length lc1', .slice oa1' o1'.length oc1', .bool has', .int .i64 k2', .bool b2', .int .i64 n2', .string t2', .slice la2' l2'.length lc2', .slice oa2' o2'.length oc2', .slice a' l'.length c']) (w4.alloc (.cells #[.int .i64 6, .bool false, .int .i64 0, .string ⟨#[]⟩, .slice none 0 0, .slice oa4 2 oc4] 45)) := ⟨((alloc_below w4 _).cell (p := ⟨W, 0, none⟩) (by have := Hbr.out.size; simp at this; show W < w4.heap.size; omega)).trans hS4.1, blk_range (((Blk.new wr 48 #[.int .i64 k', .string key', .string dst', .int .i64 n', .bool had', .int .i64 k1', .bool b1', .int .i64 n1', .string t1', .slice la1' l1'.length lc1', .slice oa1' o1'.length oc1', .bool has', .int .i64 k2', .bool b2', .int .i64 n2', .string t2', .slice la2' l2'.length lc2', .slice oa2' o2'.length oc2', .slice a' l'.length c']).below Hbr.out (Blk.new _ _ _).lt).alloc _)⟩
          refine hK.out _ _ hS5 (fun hHeld => ?_)
          clear hK K
          try simp only [Act.put, List.setIfInBounds_toArray, List.set_cons_zero, List.set_cons_succ]
          refine wpAnyH_ready (rs := [6]) (by kernel_rfl) (by simp) ?_
          refine AllReadyH.cons rfl (fun K hK => ?_) AllReadyH.nil
          have hxv5 := Hxv4.out.alloc (.cells #[.int .i64 6, .bool false, .int .i64 0, .string ⟨#[]⟩, .slice none 0 0, .slice oa4 2 oc4] 45)
          have hfe := Hf4.out.later (alloc_below w4 (.cells #[.int .i64 6, .bool false, .int .i64 0, .string ⟨#[]⟩, .slice none 0 0, .slice oa4 2 oc4] 45))
          have hbe := Hbr.out.alloc Hbr.out.size (.cells #[.int .i64 6, .bool false, .int .i64 0, .string ⟨#[]⟩, .slice none 0 0, .slice oa4 2 oc4] 45)
          refine step_append_D (d := dV (mutV (Mut.mk k' key' dst' n' had' (.mk k1' b1' n1' t1' l1' o1') has' (.mk k2' b2' n2' t2' l2' o2') l'))) (V := .slice aV (dL ((mutVs l).take q)).length cV) (by rfl) (.tmp 17) (.tmp 21) 42 (by rfl) Tryz.underlying42 Hj.out Hy0.out Hy1.out Hy2.out rfl (by omega) (by rfl) Hrow.out (by simp; omega) hbe (dV_cells _) hfe (by rfl) (reads_six w4 _ _ _ _ _ _) hLo.out.1 hLo.out.2 ?_
          intro V6 w6 hrow6 hg6 hat6
          rw [Htk.out] at hrow6
          have hne : (Value.slice aV (dL ((mutVs l).take q)).length cV).ownBlock ≠ some wr.heap.size := fun e => by have := Hba.out _ e; omega
          have hneW : (Value.slice aV (dL ((mutVs l).take q)).length cV).ownBlock ≠ some W := fun e => by have := Hba.out _ e; omega
          have hx6 := blk_app hxv5 hg6 Hrow.out (by omega)
          have hbx6 := blk_app ((Hbx.out.below Hbr.out Hbx.out.lt).alloc (.cells #[.int .i64 6, .bool false, .int .i64 0, .string ⟨#[]⟩, .slice none 0 0, .slice oa4 2 oc4] 45)) hg6 Hrow.out (by omega)
          have hw5 := ((Hbw.out.trans (HA.out.mono hz)).trans (Hbr.out.mono (Nat.le_trans hz HA.out.size))).alloc (by have := Hbr.out.size; simp at this; omega) (.cells #[.int .i64 6, .bool false, .int .i64 0, .string ⟨#[]⟩, .slice none 0 0, .slice oa4 2 oc4] 45)
          have hw6 := below_app hw5 hg6 Hrow.out (by omega) hw5.size
          have hr6 := (((Blk.new wr 48 #[.int .i64 k', .string key', .string dst', .int .i64 n', .bool had', .int .i64 k1', .bool b1', .int .i64 n1', .string t1', .slice la1' l1'.length lc1', .slice oa1' o1'.length oc1', .bool has', .int .i64 k2', .bool b2', .int .i64 n2', .string t2', .slice la2' l2'.length lc2', .slice oa2' o2'.length oc2', .slice a' l'.length c']).below Hbr.out (Blk.new _ _ _).lt).alloc (.cells #[.int .i64 6, .bool false, .int .i64 0, .string ⟨#[]⟩, .slice none 0 0, .slice oa4 2 oc4] 45)).grown hg6 (Ne.symm hne)
          have hWs := hw5.size
          have hc6 := (World.cell?_of_block (a := ⟨W, 0, none⟩) (hg6.block W (by omega) (Ne.symm hneW))).trans hS5.1
          have hS6 : (fun X => X.cell? ⟨W, 0, none⟩ = some (.func (.func 113) #[] #[.pointer (some ⟨A, 0, none⟩)]) ∧ X.rangeAt wr.heap.size 0 [.int .i64 k', .string key', .string dst', .int .i64 n', .bool had', .int .i64 k1', .bool b1', .int .i64 n1', .string t1', .slice la1' l1'.length lc1', .slice oa1' o1'.length oc1', .bool has', .int .i64 k2', .bool b2', .int .i64 n2', .string t2', .slice la2' l2'.length lc2', .slice oa2' o2'.length oc2', .slice a' l'.length c']) w6 := ⟨hc6, blk_range hr6⟩
          refine hK.out _ _ hS6 (fun hHeld => ?_)
          clear hK K hg6 hat6 hxv5 hfe hbe hw5 hS5
          try simp only [Act.put, List.setIfInBounds_toArray]
          refine wpAnyH_take (i := 7) (v := ?_) rfl (by kernel_rfl) (by kernel_rfl) (by kernel_rfl) (fun _ _ _ h => h) (Or.inl ⟨by kernel_rfl, ?_⟩) hHeld ?_
          rotate_left
          · intro X hSw
            skip
            first | (go_simp; done) | (go_simp; with_reducible rfl)
          try simp only [Act.put]
          refine wpAnyH_ready (rs := [8]) (by kernel_rfl) (by simp) ?_
          refine AllReadyH.cons rfl (fun K hK => ?_) AllReadyH.nil
          have e6 := hx6.cell 4
          have f6 := hx6.frozen 4
          have hg6v := hx6.lt
          obtain ⟨a6, c6, rfl⟩ := hrow6.slice
          go_simp
          refine hK.out _ _ ⟨(World.cell?_setCell_other _ _ _ _ (by intro e; injection e with e; omega)).trans hS6.1, blk_range (hr6.far (by simp; omega) _)⟩ (fun hHeld => ?_)
          clear hK K
          try simp only [Act.put, List.setIfInBounds_toArray, List.set_cons_zero, List.set_cons_succ]
          refine wpAnyH_done (by kernel_rfl) ?_ _
          have HN : Hid (LQ w #[y0, .string key, y2, y3, .bool had, .int .i64 k, .bool b, .int .i64 n, .string t, .slice la lv'.length lc, .slice oa ov'.length oc, y11, y12, y13, y14, y15, y16, y17, .slice (some ⟨g, off, none⟩) l.length c] l (q + 1) (w6.setCell ⟨w.heap.size + 1, 4, none⟩ (.slice a6 (dL ((mutVs l).take (q + 1))).length c6)) (.slice a6 (dL ((mutVs l).take (q + 1))).length c6)) :=
            ⟨hw6.setCell (by simp) _, hbx6.far (by simp) _, hx6.set_ 4 _, hrow6.keep (by simp [World.setCell]) (fun i h1 _ => Below.heap_setCell _ _ _ _ (by simp; omega))⟩
          clear hx6 hbx6 hw6 hr6 hc6 hS6 hHeld hrow6 e6 f6 Hxv4 Hf4 Hbr Hxv Hbx Hrow
          go_wp2
          go_roundw
          case rel => exact ⟨q + 1, by go_num, by omega, _, HN⟩
          case measure => simp only [intOf]; omega
        · -- the slice
          go_simp
          have hS5 : (fun X => X.cell? ⟨W, 0, none⟩ = some (.func (.func 113) #[] #[.pointer (some ⟨A, 0, none⟩)]) ∧ X.rangeAt wr.heap.size 0 [.int .i64 k', .string key', .string dst', .int .i64 n', .bool had', .int .i64 k1', .bool b1', .int .i64 n1', .string t1', .slice la1' l1'.length lc1', .slice oa1' o1'.length oc1', .bool has', .int .i64 k2', .bool b2', .int .i64 n2', .string t2', .slice la2' l2'.length lc2', .slice oa2' o2'.length oc2', .slice a' l'.length c']) (w4.alloc (.cells #[.int .i64 6, .bool false, .int .i64 0, .string ⟨#[]⟩, .slice none 0 0, .slice oa4 2 oc4] 45)) := ⟨((alloc_below w4 _).cell (p := ⟨W, 0, none⟩) (by have := Hbr.out.size; simp at this; show W < w4.heap.size; omega)).trans hS4.1, blk_range (((Blk.new wr 48 #[.int .i64 k', .string key', .string dst', .int .i64 n', .bool had', .int .i64 k1', .bool b1', .int .i64 n1', .string t1', .slice la1' l1'.length lc1', .slice oa1' o1'.length oc1', .bool has', .int .i64 k2', .bool b2', .int .i64 n2', .string t2', .slice la2' l2'.length lc2', .slice oa2' o2'.length oc2', .slice a' l'.length c']).below Hbr.out (Blk.new _ _ _).lt).alloc _)⟩
          refine hK.out _ _ hS5 (fun hHeld => ?_)
          clear hK K
          try simp only [Act.put, List.setIfInBounds_toArray, List.set_cons_zero, List.set_cons_succ]
          refine wpAnyH_ready (rs := [1]) (by kernel_rfl) (by simp) ?_
          refine AllReadyH.cons rfl (fun K hK => ?_) AllReadyH.nil
          have e5 := (Hxv4.out.alloc (.cells #[.int .i64 6, .bool false, .int .i64 0, .string ⟨#[]⟩, .slice none 0 0, .slice oa4 2 oc4] 45)).cell 4
          go_simp
          refine hK.out _ _ hS5 (fun hHeld => ?_)
          clear hK K
          try simp only [Act.put, List.setIfInBounds_toArray, List.set_cons_zero, List.set_cons_succ]
          refine wpAnyH_ready (rs := [6]) (by kernel_rfl) (by simp) ?_
          refine AllReadyH.cons rfl (fun K hK => ?_) AllReadyH.nil
          have hxv5 := Hxv4.out.alloc (.cells #[.int .i64 6, .bool false, .int .i64 0, .string ⟨#[]⟩, .slice none 0 0, .slice oa4 2 oc4] 45)
          have hfe := Hf4.out.later (alloc_below w4 (.cells #[.int .i64 6, .bool false, .int .i64 0, .string ⟨#[]⟩, .slice none 0 0, .slice oa4 2 oc4] 45))
          have hbe := Hbr.out.alloc Hbr.out.size (.cells #[.int .i64 6, .bool false, .int .i64 0, .string ⟨#[]⟩, .slice none 0 0, .slice oa4 2 oc4] 45)
          refine step_append_D (d := dV (mutV (Mut.mk k' key' dst' n' had' (.mk k1' b1' n1' t1' l1' o1') has' (.mk k2' b2' n2' t2' l2' o2') l'))) (V := .slice aV (dL ((mutVs l).take q)).length cV) (by rfl) (.tmp 17) (.tmp 21) 42 (by rfl) Tryz.underlying42 Hj.out Hy0.out Hy1.out Hy2.out rfl (by omega) (by rfl) Hrow.out (by simp; omega) hbe (dV_cells _) hfe (by rfl) (reads_six w4 _ _ _ _ _ _) hLo.out.1 hLo.out.2 ?_
          intro V6 w6 hrow6 hg6 hat6
          rw [Htk.out] at hrow6
          have hne : (Value.slice aV (dL ((mutVs l).take q)).length cV).ownBlock ≠ some wr.heap.size := fun e => by have := Hba.out _ e; omega
          have hneW : (Value.slice aV (dL ((mutVs l).take q)).length cV).ownBlock ≠ some W := fun e => by have := Hba.out _ e; omega
          have hx6 := blk_app hxv5 hg6 Hrow.out (by omega)
          have hbx6 := blk_app ((Hbx.out.below Hbr.out Hbx.out.lt).alloc (.cells #[.int .i64 6, .bool false, .int .i64 0, .string ⟨#[]⟩, .slice none 0 0, .slice oa4 2 oc4] 45)) hg6 Hrow.out (by omega)
          have hw5 := ((Hbw.out.trans (HA.out.mono hz)).trans (Hbr.out.mono (Nat.le_trans hz HA.out.size))).alloc (by have := Hbr.out.size; simp at this; omega) (.cells #[.int .i64 6, .bool false, .int .i64 0, .string ⟨#[]⟩, .slice none 0 0, .slice oa4 2 oc4] 45)
          have hw6 := below_app hw5 hg6 Hrow.out (by omega) hw5.size
          have hr6 := (((Blk.new wr 48 #[.int .i64 k', .string key', .string dst', .int .i64 n', .bool had', .int .i64 k1', .bool b1', .int .i64 n1', .string t1', .slice la1' l1'.length lc1', .slice oa1' o1'.length oc1', .bool has', .int .i64 k2', .bool b2', .int .i64 n2', .string t2', .slice la2' l2'.length lc2', .slice oa2' o2'.length oc2', .slice a' l'.length c']).below Hbr.out (Blk.new _ _ _).lt).alloc (.cells #[.int .i64 6, .bool false, .int .i64 0, .string ⟨#[]⟩, .slice none 0 0, .slice oa4 2 oc4] 45)).grown hg6 (Ne.symm hne)
          have hWs := hw5.size
          have hc6 := (World.cell?_of_block (a := ⟨W, 0, none⟩) (hg6.block W (by omega) (Ne.symm hneW))).trans hS5.1
          have hS6 : (fun X => X.cell? ⟨W, 0, none⟩ = some (.func (.func 113) #[] #[.pointer (some ⟨A, 0, none⟩)]) ∧ X.rangeAt wr.heap.size 0 [.int .i64 k', .string key', .string dst', .int .i64 n', .bool had', .int .i64 k1', .bool b1', .int .i64 n1', .string t1', .slice la1' l1'.length lc1', .slice oa1' o1'.length oc1', .bool has', .int .i64 k2', .bool b2', .int .i64 n2', .string t2', .slice la2' l2'.length lc2', .slice oa2' o2'.length oc2', .slice a' l'.length c']) w6 := ⟨hc6, blk_range hr6⟩
          refine hK.out _ _ hS6 (fun hHeld => ?_)
          clear hK K hg6 hat6 hxv5 hfe hbe hw5 hS5
          try simp only [Act.put, List.setIfInBounds_toArray]
          refine wpAnyH_take (i := 7) (v := ?_) rfl (by kernel_rfl) (by kernel_rfl) (by kernel_rfl) (fun _ _ _ h => h) (Or.inl ⟨by kernel_rfl, ?_⟩) hHeld ?_
          rotate_left
          · intro X hSw
            skip
            first | (go_simp; done) | (go_simp; with_reducible rfl)
          try simp only [Act.put]
          refine wpAnyH_ready (rs := [8]) (by kernel_rfl) (by simp) ?_
          refine AllReadyH.cons rfl (fun K hK => ?_) AllReadyH.nil
          have e6 := hx6.cell 4
          have f6 := hx6.frozen 4
          have hg6v := hx6.lt
          obtain ⟨a6, c6, rfl⟩ := hrow6.slice
          go_simp
          refine hK.out _ _ ⟨(World.cell?_setCell_other _ _ _ _ (by intro e; injection e with e; omega)).trans hS6.1, blk_range (hr6.far (by simp; omega) _)⟩ (fun hHeld => ?_)
          clear hK K
          try simp only [Act.put, List.setIfInBounds_toArray, List.set_cons_zero, List.set_cons_succ]
          refine wpAnyH_done (by kernel_rfl) ?_ _
          have HN : Hid (LQ w #[y0, .string key, y2, y3, .bool had, .int .i64 k, .bool b, .int .i64 n, .string t, .slice la lv'.length lc, .slice oa ov'.length oc, y11, y12, y13, y14, y15, y16, y17, .slice (some ⟨g, off, none⟩) l.length c] l (q + 1) (w6.setCell ⟨w.heap.size + 1, 4, none⟩ (.slice a6 (dL ((mutVs l).take (q + 1))).length c6)) (.slice a6 (dL ((mutVs l).take (q + 1))).length c6)) :=
            ⟨hw6.setCell (by simp) _, hbx6.far (by simp) _, hx6.set_ 4 _, hrow6.keep (by simp [World.setCell]) (fun i h1 _ => Below.heap_setCell _ _ _ _ (by simp; omega))⟩
          clear hx6 hbx6 hw6 hr6 hc6 hS6 hHeld hrow6 e6 f6 Hxv4 Hf4 Hbr Hxv Hbx Hrow
          go_wp2
          go_roundw
          case rel => exact ⟨q + 1, by go_num, by omega, _, HN⟩
          case measure => simp only [intOf]; omega
    · obtain rfl : q = l.length := by omega
      have hln : (dL ((mutVs l).take l.length)).length = l.length := by rw [dL_len, List.length_take, mutVs_len, Nat.min_self]
      have hbw := hI.out.below
      have hz := hbw.size
      have hbx := hI.out.box
      have hxv := hI.out.var
      have hgb2 := hbx.lt
      have hgv := hxv.lt
      have hrow := hI.out.row.close
      obtain ⟨aV, cV, rfl⟩ := hI.out.row.slice_n hln
      obtain ⟨a', c', e', _, hf, _⟩ := hrow
      rw [hln] at e' hf
      obtain ⟨rfl, rfl⟩ : aV = a' ∧ cV = c' := by simpa using e'
      have hfl : Fresh (w.heap.size + 2) wr (dV (lv (mutVs l))) [.int .i64 5, .bool false, .int .i64 0, .string ⟨#[]⟩, .slice aV l.length cV, .slice none 0 0] := by
        refine fresh_lv ?_
        rwa [show (mutVs l).take l.length = mutVs l from by rw [← mutVs_len l, List.take_length]] at hf
      have hfp : FreshA w.heap.size (wr.alloc (.cells #[.string kDo, .int .i64 5, .bool false, .int .i64 0, .string ⟨#[]⟩, .slice aV l.length cV, .slice none 0 0] Tpair)) (dO [(kDo, lv (mutVs l))]) #[.string kDo, .int .i64 5, .bool false, .int .i64 0, .string ⟨#[]⟩, .slice aV l.length cV, .slice none 0 0].toList :=
        FreshA.one ((dP_fresh (key := kDo) (hfl.keep (b' := w.heap.size) (by omega) (Nat.le_refl _) fun _ _ _ => rfl)).later (alloc_below _ _))
      obtain ⟨x0, x1, x2, x3, x4, x5⟩ := vcell hxv
      have d1 := hbx.cell 1
      obtain ⟨B, hB⟩ : ∃ B, key.toList.isEmpty = B := ⟨_, rfl⟩
      have hO := HO.out
      rw [hB] at hO
      have hw7 := hbw.alloc hz (.cells #[.string kDo, .int .i64 5, .bool false, .int .i64 0, .string ⟨#[]⟩, .slice aV l.length cV, .slice none 0 0] Tpair)
      have hbx7 := hbx.alloc (.cells #[.string kDo, .int .i64 5, .bool false, .int .i64 0, .string ⟨#[]⟩, .slice aV l.length cV, .slice none 0 0] Tpair)
      have hd7 := hbx7.cell 1
      have Hbw := Lib.hid hbw
      have Hbx := Lib.hid hbx
      have Hxv := Lib.hid hxv
      have Hfl := Lib.hid hfl
      have Hfp := Lib.hid hfp
      have Hw7 := Lib.hid hw7
      have Hbx7 := Lib.hid hbx7
      clear hbw hbx hxv hfl hfp hw7 hbx7
      clear hI hf e' hln HO
      cases B with
      | true =>
        simp only [if_true] at hO
        subst hO
        go_wp2
        go_ret
        exact ⟨Hw7.out, _, rfl, pairs_lit hz rfl Hfp.out⟩
      | false =>
        simp only [Bool.false_eq_true, if_false] at hO
        subst hO
        have hrow7 : RowX (fun i => w.heap.size ≤ i) w.heap.size Tpair 7 (wr.alloc (.cells #[.string kDo, .int .i64 5, .bool false, .int .i64 0, .string ⟨#[]⟩, .slice aV l.length cV, .slice none 0 0] Tpair)) [dP (kDo, lv (mutVs l))] (.slice (some ⟨wr.heap.size, 0, none⟩) 1 1) :=
          RowX.lit (cs := #[.string kDo, .int .i64 5, .bool false, .int .i64 0, .string ⟨#[]⟩, .slice aV l.length cV, .slice none 0 0]) hz (dP_cells _) (((HoldsIn.of_fresh (dP_fresh (key := kDo) Hfl.out)).mono (T := fun i => w.heap.size ≤ i ∧ i ≠ wr.heap.size) fun i hi hs => by
            have hs' : w.heap.size + 2 ≤ i := hs
            exact ⟨by omega, by omega⟩).below (alloc_below _ _))
        have hCg := fun W' (hW' : Below w.heap.size w W') => guard_calls y0 key y2 y3 had k b n t lv' ov' la oa lc oc y11 y12 y13 y14 y15 y16 y17 (.slice a l.length c) W' (HoldsV.more hW'.size _ _ (HV.out.below hW')) hbV
        obtain ⟨p0, hp, hp0, hp1, hp2⟩ := info_parts pair_info
        have hgl := guard_len key had (.mk k b n t lv' ov')
        have hsz7 : (wr.alloc (.cells #[.string kDo, .int .i64 5, .bool false, .int .i64 0, .string ⟨#[]⟩, .slice aV l.length cV, .slice none 0 0] Tpair)).heap.size = wr.heap.size + 1 := by simp
        obtain ⟨G, hG⟩ : ∃ G, guardO key had (.mk k b n t lv' ov') = G := ⟨_, rfl⟩
        rw [hG] at hgl
        simp only [hG] at hCg
        have hoo : dO [(kDo, lv (mutVs l)), (kIf, ov G)] = [dP (kDo, lv (mutVs l))] ++ [dP (kIf, ov G)] := by simp [dO]
        have Hrow7 := Lib.hid hrow7
        have HCg := Lib.hid hCg
        have Hp := Lib.hid hp
        have Hp0 := Lib.hid hp0
        have Hp1 := Lib.hid hp1
        have Hp2 := Lib.hid hp2
        have Hgl := Lib.hid hgl
        have Hsz7 := Lib.hid hsz7
        have Hoo := Lib.hid hoo
        have HG := Lib.hid hG
        clear hrow7 hCg hp hp0 hp1 hp2 hgl hsz7 hoo hG
        clear Hfl Hfp HV Hl Ih Hbox
        go_upto_region 9 with (fail)
        iterate 5 go_step
        refine wp_load_blk 48 (.tmp 2) rfl w.heap.size _ Hbx7.out rfl _ Tryz.underlying48 rfl (by kernel_rfl) ?_
        go_wp2_with (fail)
        with_reducible refine (HCg.out _ Hw7.out).mono ?_
        rintro e w8 ⟨hb8, V, rfl, hP⟩
        have Hb8 := Lib.hid hb8
        have HP := Lib.hid hP
        have Hrow8 := Lib.hid (Hrow7.out.below hb8)
        clear hb8 hP
        go_wp2_with (fail)
        with_reducible refine (mobject_calls _ G V _ Hb8.out.size HP.out (by have := Hgl.out; omega)).mono ?_
        rintro e w9 ⟨hb9, oa9, oc9, rfl, hf9⟩
        have hw9 := (Hw7.out.trans (Hb8.out.mono Hw7.out.size)).trans (hb9.mono (Hw7.out.trans (Hb8.out.mono Hw7.out.size)).size)
        have hX : HoldsIn (fun i => w.heap.size ≤ i ∧ (Value.slice (some ⟨wr.heap.size, 0, none⟩) 1 1).ownBlock ≠ some i) (w9.alloc (.cells #[.string kIf, .int .i64 6, .bool false, .int .i64 0, .string ⟨#[]⟩, .slice none 0 0, .slice oa9 G.length oc9] Tpair)) (dP (kIf, ov G)) #[.string kIf, .int .i64 6, .bool false, .int .i64 0, .string ⟨#[]⟩, .slice none 0 0, .slice oa9 G.length oc9].toList :=
          (HoldsIn.of_fresh ((dP_fresh (key := kIf) hf9).later (alloc_below w9 (.cells #[.string kIf, .int .i64 6, .bool false, .int .i64 0, .string ⟨#[]⟩, .slice none 0 0, .slice oa9 G.length oc9] Tpair)))).mono fun i _ hi => by
            have hi' : (wr.alloc (.cells #[.string kDo, .int .i64 5, .bool false, .int .i64 0, .string ⟨#[]⟩, .slice aV l.length cV, .slice none 0 0] Tpair)).heap.size ≤ i := hi
            rw [Hsz7.out] at hi'
            exact ⟨by omega, fun e => absurd (Option.some.inj (show some wr.heap.size = some i from e)) (by omega)⟩
        have Hrow9 := Lib.hid ((Hrow8.out.below hb9).below (alloc_below w9 (.cells #[.string kIf, .int .i64 6, .bool false, .int .i64 0, .string ⟨#[]⟩, .slice none 0 0, .slice oa9 G.length oc9] Tpair)))
        have HX := Lib.hid hX
        have Hw9 := Lib.hid hw9
        have Hf9 := Lib.hid hf9
        have Hb9 := Lib.hid hb9
        clear hX hw9 hf9 hb9
        go_wp2_with (at_builtin; apply Shut.out)
        unfold Shut
        refine wpList_append_X (V := .slice (some ⟨wr.heap.size, 0, none⟩) 1 1) rfl (.tmp 31) (.tmp 36) 138 rfl Tryz.underlying138 Hp.out Hp0.out Hp1.out Hp2.out rfl (by omega) rfl Hrow9.out (Nat.le_trans Hw9.out.size (by simp)) (dP_cells _) HX.out rfl (reads_pair _ _ _ _ _ _ _ _) (by simp [maxLen]) (by simp) ?_
        intro V6 w6 hrow6 hg6 hat6
        rw [← Hoo.out] at hrow6
        have hw6 := below_appX (Hw9.out.alloc Hw9.out.size (.cells #[.string kIf, .int .i64 6, .bool false, .int .i64 0, .string ⟨#[]⟩, .slice none 0 0, .slice oa9 G.length oc9] Tpair)) hg6 Hrow9.out (Nat.le_refl _) (Nat.le_trans Hw9.out.size (by simp))
        have Hrow6 := Lib.hid hrow6
        have Hw6 := Lib.hid hw6
        clear hrow6 hw6
        go_wp2
        go_ret
        have hpr := pairs_row Hrow6.out (by simp)
        rw [← HG.out] at hpr
        exact ⟨Hw6.out, V6, rfl, hpr⟩
end Go.Proofs.YtkoliaodkojghaaGreatDoor
