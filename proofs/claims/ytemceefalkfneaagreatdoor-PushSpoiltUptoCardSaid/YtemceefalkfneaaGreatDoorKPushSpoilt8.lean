/- Parts, joined: mutator.Size, and the reference's: how many mutators it is. Condition: a bulk of at most 10^8. -/
import Derived.Test.YtemceefalkfneaaGreatDoorProg
import Derived.Test.YtemceefalkfneaaGreatDoorKCm16
import Derived.Test.YtemceefalkfneaaGreatDoorKPushSpoilt4
/- mutator.Size, and the reference's: how many mutators it is. Condition: a bulk of at most 10^8. -/
namespace Go.Proofs.YtemceefalkfneaaGreatDoor
open Go.RowKit

def MSizeC (m : Mut) : Prop := ∀ (cs : List Value) (w : World), Holds w w.heap.size (dM m) cs → bulkM m ≤ 100000000 →
  Calls Tryz.prog 92 #[.agg cs.toArray] w fun e w' => e = .returned (.int .i64 (sizeM m)) ∧ Below w.heap.size w w'
theorem sizeMs_take {l : List Mut} {q : Nat} {m : Mut} (h : l[q]? = some m) : sizeMs (l.take (q + 1)) = sizeMs (l.take q) + sizeM m := by
  rw [List.take_add_one, h, sizeMs_app]; simp [sizeMs]

theorem sizeMs_le : ∀ (q : Nat) (l : List Mut), sizeMs (l.take q) ≤ sizeMs l
  | 0, l => by simp [sizeMs]
  | q + 1, [] => by simp [sizeMs]
  | q + 1, x :: r => by have := sizeMs_le q r; simp only [List.take_succ_cons, sizeMs]; omega

set_option maxRecDepth 100000 in
set_option maxHeartbeats 2000000 in
theorem msize_step (k : Int) (key dst : ByteArray) (n : Int) (had : Bool) (k1 : Int) (b1 : Bool) (n1 : Int) (t1 : ByteArray) (l1 : List Val) (o1 : List (ByteArray × Val)) (has : Bool) (k2 : Int) (b2 : Bool) (n2 : Int) (t2 : ByteArray) (l2 : List Val) (o2 : List (ByteArray × Val)) (l : List Mut) (ih : ∀ x ∈ l, MSizeC x) : MSizeC (Mut.mk k key dst n had (.mk k1 b1 n1 t1 l1 o1) has (.mk k2 b2 n2 t2 l2 o2) l) := by
  intro cs w hM hb
  obtain ⟨la1, lc1, oa1, oc1, la2, lc2, oa2, oc2, a, c, rfl, hv1, hv2, hl⟩ := mut_cells hM
  have hsz := sizeM_bulk (Mut.mk k key dst n had (.mk k1 b1 n1 t1 l1 o1) has (.mk k2 b2 n2 t2 l2 o2) l)
  have hls := bulkMs_len l
  simp only [bulkM] at hb
  simp only [bulkM, sizeM] at hsz
  have hI0 : Hid (Below w.heap.size w (w.alloc (.cells #[.int .i64 k, .string key, .string dst, .int .i64 n, .bool had, .int .i64 k1, .bool b1, .int .i64 n1, .string t1, .slice la1 l1.length lc1, .slice oa1 o1.length oc1, .bool has, .int .i64 k2, .bool b2, .int .i64 n2, .string t2, .slice la2 l2.length lc2, .slice oa2 o2.length oc2, .slice a l.length c] 85))) := Lib.hid (alloc_below _ _)
  have hxb := Blk.new w 85 #[.int .i64 k, .string key, .string dst, .int .i64 n, .bool had, .int .i64 k1, .bool b1, .int .i64 n1, .string t1, .slice la1 l1.length lc1, .slice oa1 o1.length oc1, .bool has, .int .i64 k2, .bool b2, .int .i64 n2, .string t2, .slice la2 l2.length lc2, .slice oa2 o2.length oc2, .slice a l.length c]
  have Ih := Lib.hid ih
  have Hl := Lib.hid hl
  have Hxb := Lib.hid hxb
  clear ih hl hxb
  clear hM hv1 hv2
  go_enter Tryz.func92, Tryz.ntmps92
  go_wp2_with (fail)
  go_loopw [3, 9] (fun s i wr => ∃ q : Nat, i = .int .i64 q ∧ q ≤ l.length ∧ s = .int .i64 (1 + (sizeMs (l.take q) : Nat)) ∧ Hid (Below w.heap.size w wr)) (fun _ i _ => l.length - (intOf i).toNat)
  case atStart => exact ⟨0, rfl, Nat.zero_le _, by simp [sizeMs], hI0⟩
  case round =>
    obtain ⟨q, rfl, hq, rfl, hbw⟩ := hrel
    clear hI0
    by_cases hlt : q < l.length
    · obtain ⟨m, hm⟩ : ∃ p, l[q]? = some p := ⟨_, List.getElem?_eq_getElem hlt⟩
      have hmem := List.mem_of_getElem? hm
      have htk := sizeMs_take hm
      have hbm := bulkMs_mem hmem
      have hsm := sizeM_bulk m
      have hst : sizeMs (l.take q) + sizeM m ≤ sizeMs l := by rw [← htk]; exact sizeMs_le _ _
      have hC := Ih.out m hmem
      obtain ⟨k', key', dst', n', had', ⟨k1', b1', n1', t1', l1', o1'⟩, has', ⟨k2', b2', n2', t2', l2', o2'⟩, l'⟩ := m
      have hz := hbw.out.size
      obtain ⟨g, off, rfl, hg, cs', hcs, _, hcell⟩ := mut_at (Hl.out.below hbw.out) hm
      obtain ⟨la1', lc1', oa1', oc1', la2', lc2', oa2', oc2', a', c', rfl, _, _, _⟩ := mut_cells hcs
      have hrange : wr.rangeAt g (off + q * 19) [.int .i64 k', .string key', .string dst', .int .i64 n', .bool had', .int .i64 k1', .bool b1', .int .i64 n1', .string t1', .slice la1' l1'.length lc1', .slice oa1' o1'.length oc1', .bool has', .int .i64 k2', .bool b2', .int .i64 n2', .string t2', .slice la2' l2'.length lc2', .slice oa2' o2'.length oc2', .slice a' l'.length c'] := hcell
      have c0_ := hcell 0 _ rfl; have c1_ := hcell 1 _ rfl; have c2_ := hcell 2 _ rfl; have c3_ := hcell 3 _ rfl; have c4_ := hcell 4 _ rfl; have c5_ := hcell 5 _ rfl; have c6_ := hcell 6 _ rfl; have c7_ := hcell 7 _ rfl; have c8_ := hcell 8 _ rfl; have c9_ := hcell 9 _ rfl; have c10_ := hcell 10 _ rfl; have c11_ := hcell 11 _ rfl; have c12_ := hcell 12 _ rfl; have c13_ := hcell 13 _ rfl; have c14_ := hcell 14 _ rfl; have c15_ := hcell 15 _ rfl; have c16_ := hcell 16 _ rfl; have c17_ := hcell 17 _ rfl; have c18_ := hcell 18 _ rfl
      rw [Nat.add_zero] at c0_
      have hgr : g < wr.heap.size := by omega
      have hq1 : (q : Int) < (l.length : Int) := by omega
      have hq0 : (0 : Int) ≤ q := by omega
      have hC' : ∀ W, Below wr.heap.size wr W → Calls Tryz.prog 92 #[.agg #[.int .i64 k', .string key', .string dst', .int .i64 n', .bool had', .int .i64 k1', .bool b1', .int .i64 n1', .string t1', .slice la1' l1'.length lc1', .slice oa1' o1'.length oc1', .bool has', .int .i64 k2', .bool b2', .int .i64 n2', .string t2', .slice la2' l2'.length lc2', .slice oa2' o2'.length oc2', .slice a' l'.length c']] W fun e w' => e = .returned (.int .i64 (sizeM (Mut.mk k' key' dst' n' had' (.mk k1' b1' n1' t1' l1' o1') has' (.mk k2' b2' n2' t2' l2' o2') l'))) ∧ Below W.heap.size W w' := fun W hW => hC _ W ((hcs.below (hW.mono hz)).more (Nat.le_trans hz hW.size)) (by omega)
      have i1 : ((sizeMs (l.take q) : Nat) : Int) + ((sizeM (Mut.mk k' key' dst' n' had' (.mk k1' b1' n1' t1' l1' o1') has' (.mk k2' b2' n2' t2' l2' o2') l') : Nat) : Int) ≤ 1000000000 := by omega
      have i2 : (0 : Int) ≤ ((sizeM (Mut.mk k' key' dst' n' had' (.mk k1' b1' n1' t1' l1' o1') has' (.mk k2' b2' n2' t2' l2' o2') l') : Nat) : Int) := by omega
      have htk' : ((sizeMs (l.take (q + 1)) : Nat) : Int) = ((sizeMs (l.take q) : Nat) : Int) + ((sizeM (Mut.mk k' key' dst' n' had' (.mk k1' b1' n1' t1' l1' o1') has' (.mk k2' b2' n2' t2' l2' o2') l') : Nat) : Int) := by rw [htk]; simp
      have i3 : (0 : Int) ≤ ((sizeMs (l.take q) : Nat) : Int) := by omega
      generalize ((sizeM (Mut.mk k' key' dst' n' had' (.mk k1' b1' n1' t1' l1' o1') has' (.mk k2' b2' n2' t2' l2' o2') l') : Nat) : Int) = S at hC' i1 i2 htk'
      generalize ((sizeMs (l.take q) : Nat) : Int) = T at i1 htk' i3 ⊢
      have HC' := Lib.hid hC'
      have Hbw := Lib.hid hbw
      have Htk' := Lib.hid htk'
      clear hC' hbw htk'
      clear hC hcs hcell hmem htk hbm hsm hst hm
      go_upto_region 4 with (fail)
      clear c0_ c1_ c2_ c3_ c4_ c5_ c6_ c7_ c8_ c9_ c10_ c11_ c12_ c13_ c14_ c15_ c16_ c17_ c18_
      iterate 5 go_step
      refine wp_load_mid 85 (.tmp 11) rfl g (off + q * 19) rfl [.int .i64 k', .string key', .string dst', .int .i64 n', .bool had', .int .i64 k1', .bool b1', .int .i64 n1', .string t1', .slice la1' l1'.length lc1', .slice oa1' o1'.length oc1', .bool has', .int .i64 k2', .bool b2', .int .i64 n2', .string t2', .slice la2' l2'.length lc2', .slice oa2' o2'.length oc2', .slice a' l'.length c'] _ hrange Tryz.underlying85 rfl (by kernel_rfl) ?_
      iterate 5 go_step
      refine wp_store_new 85 (.tmp 5) (.tmp 12) rfl #[.int .i64 k', .string key', .string dst', .int .i64 n', .bool had', .int .i64 k1', .bool b1', .int .i64 n1', .string t1', .slice la1' l1'.length lc1', .slice oa1' o1'.length oc1', .bool has', .int .i64 k2', .bool b2', .int .i64 n2', .string t2', .slice la2' l2'.length lc2', .slice oa2' o2'.length oc2', .slice a' l'.length c'] rfl rfl rfl (by kernel_rfl) (by simp [Value.oneCell']) ?_
      go_upto_region 5 with (fail)
      iterate 5 go_step
      refine wp_load_blk 85 (.tmp 5) rfl wr.heap.size #[.int .i64 k', .string key', .string dst', .int .i64 n', .bool had', .int .i64 k1', .bool b1', .int .i64 n1', .string t1', .slice la1' l1'.length lc1', .slice oa1' o1'.length oc1', .bool has', .int .i64 k2', .bool b2', .int .i64 n2', .string t2', .slice la2' l2'.length lc2', .slice oa2' o2'.length oc2', .slice a' l'.length c'] (Blk.new _ _ _) rfl _ Tryz.underlying85 rfl (by kernel_rfl) ?_
      go_wp2_with (go_at_call 92; (with_reducible refine (HC'.out _ (alloc_below _ _)).mono ?_); rintro e w1 ⟨rfl, hb1⟩)
      have hbf := (Hbw.out.trans ((alloc_below wr (.cells #[.int .i64 k', .string key', .string dst', .int .i64 n', .bool had', .int .i64 k1', .bool b1', .int .i64 n1', .string t1', .slice la1' l1'.length lc1', .slice oa1' o1'.length oc1', .bool has', .int .i64 k2', .bool b2', .int .i64 n2', .string t2', .slice la2' l2'.length lc2', .slice oa2' o2'.length oc2', .slice a' l'.length c'] 85)).mono hz)).trans (hb1.mono (by simp; omega))
      have HB := Lib.hid hbf
      clear hb1 hbf
      go_wp2
      go_roundw
      case rel => exact ⟨q + 1, by go_num, by omega, by rw [Htk'.out]; go_num, HB⟩
      case measure => simp only [intOf]; omega
    · obtain rfl : q = l.length := by omega
      have e1 : sizeMs (l.take l.length) = sizeMs l := by rw [List.take_length]
      rw [e1]
      have Hbw := Lib.hid hbw
      clear hbw
      go_wp2
      go_ret
      exact ⟨by simp [sizeM], Hbw.out⟩

theorem msize_calls : ∀ m, MSizeC m := by
  refine Mut.ind ?_
  intro k key dst n had was has v l IH
  obtain ⟨k1, b1, n1, t1, l1, o1⟩ := was
  obtain ⟨k2, b2, n2, t2, l2, o2⟩ := v
  exact msize_step k key dst n had k1 b1 n1 t1 l1 o1 has k2 b2 n2 t2 l2 o2 l IH

def RSizeC (m : Mut) : Prop := ∀ (cs : List Value) (w : World), Holds w w.heap.size (dM m) cs → bulkM m ≤ 100000000 →
  Calls Tryz.prog 66 #[.agg cs.toArray] w fun e w' => e = .returned (.int .i64 (sizeM m)) ∧ Below w.heap.size w w'
set_option maxRecDepth 100000 in
set_option maxHeartbeats 2000000 in
theorem rsize_step (k : Int) (key dst : ByteArray) (n : Int) (had : Bool) (k1 : Int) (b1 : Bool) (n1 : Int) (t1 : ByteArray) (l1 : List Val) (o1 : List (ByteArray × Val)) (has : Bool) (k2 : Int) (b2 : Bool) (n2 : Int) (t2 : ByteArray) (l2 : List Val) (o2 : List (ByteArray × Val)) (l : List Mut) (ih : ∀ x ∈ l, RSizeC x) : RSizeC (Mut.mk k key dst n had (.mk k1 b1 n1 t1 l1 o1) has (.mk k2 b2 n2 t2 l2 o2) l) := by
  intro cs w hM hb
  obtain ⟨la1, lc1, oa1, oc1, la2, lc2, oa2, oc2, a, c, rfl, hv1, hv2, hl⟩ := mut_cells hM
  have hsz := sizeM_bulk (Mut.mk k key dst n had (.mk k1 b1 n1 t1 l1 o1) has (.mk k2 b2 n2 t2 l2 o2) l)
  have hls := bulkMs_len l
  simp only [bulkM] at hb
  simp only [bulkM, sizeM] at hsz
  obtain ⟨wi, hwi⟩ : ∃ wi, w.alloc (.cells #[.int .i64 k, .string key, .string dst, .int .i64 n, .bool had, .int .i64 k1, .bool b1, .int .i64 n1, .string t1, .slice la1 l1.length lc1, .slice oa1 o1.length oc1, .bool has, .int .i64 k2, .bool b2, .int .i64 n2, .string t2, .slice la2 l2.length lc2, .slice oa2 o2.length oc2, .slice a l.length c] 85) = wi := ⟨_, rfl⟩
  have hbi : Below w.heap.size w wi := hwi ▸ alloc_below _ _
  have hxb : Blk wi w.heap.size 85 #[.int .i64 k, .string key, .string dst, .int .i64 n, .bool had, .int .i64 k1, .bool b1, .int .i64 n1, .string t1, .slice la1 l1.length lc1, .slice oa1 o1.length oc1, .bool has, .int .i64 k2, .bool b2, .int .i64 n2, .string t2, .slice la2 l2.length lc2, .slice oa2 o2.length oc2, .slice a l.length c] := hwi ▸ Blk.new _ _ _
  have hI0 : Hid (Below wi.heap.size wi wi) := Lib.hid (Below.refl _ _)
  have hgb := hxb.lt
  have Ih := Lib.hid ih
  have Hl := Lib.hid hl
  have Hxb := Lib.hid hxb
  have Hbi := Lib.hid hbi
  clear ih hl hxb hbi
  clear hM hv1 hv2
  go_enter Tryz.func66, Tryz.ntmps66
  go_wp2_with (fail)
  clear hwi
  go_loopw [3, 4] (fun s i wr => ∃ q : Nat, i = .int .i64 q ∧ q ≤ l.length ∧ s = .int .i64 (1 + (sizeMs (l.take q) : Nat)) ∧ Hid (Below wi.heap.size wi wr)) (fun _ i _ => l.length - (intOf i).toNat)
  case atStart => exact ⟨0, rfl, Nat.zero_le _, by simp [sizeMs], hI0⟩
  case round =>
    obtain ⟨q, rfl, hq, rfl, hbr⟩ := hrel
    clear hI0
    have hbw := Hbi.out.trans (hbr.out.mono Hbi.out.size)
    have y18 := (Hxb.out.below hbr.out Hxb.out.lt).cell 18
    by_cases hlt : q < l.length
    · obtain ⟨m, hm⟩ : ∃ p, l[q]? = some p := ⟨_, List.getElem?_eq_getElem hlt⟩
      have hmem := List.mem_of_getElem? hm
      have htk := sizeMs_take hm
      have hbm := bulkMs_mem hmem
      have hsm := sizeM_bulk m
      have hst : sizeMs (l.take q) + sizeM m ≤ sizeMs l := by rw [← htk]; exact sizeMs_le _ _
      have hC := Ih.out m hmem
      obtain ⟨k', key', dst', n', had', ⟨k1', b1', n1', t1', l1', o1'⟩, has', ⟨k2', b2', n2', t2', l2', o2'⟩, l'⟩ := m
      have hz := hbw.size
      obtain ⟨g, off, rfl, hg, cs', hcs, _, hcell⟩ := mut_at (Hl.out.below hbw) hm
      obtain ⟨la1', lc1', oa1', oc1', la2', lc2', oa2', oc2', a', c', rfl, _, _, _⟩ := mut_cells hcs
      have hrange : wr.rangeAt g (off + q * 19) [.int .i64 k', .string key', .string dst', .int .i64 n', .bool had', .int .i64 k1', .bool b1', .int .i64 n1', .string t1', .slice la1' l1'.length lc1', .slice oa1' o1'.length oc1', .bool has', .int .i64 k2', .bool b2', .int .i64 n2', .string t2', .slice la2' l2'.length lc2', .slice oa2' o2'.length oc2', .slice a' l'.length c'] := hcell
      have hgr : g < wr.heap.size := by omega
      have hq1 : (q : Int) < (l.length : Int) := by omega
      have hq0 : (0 : Int) ≤ q := by omega
      have hC' : ∀ W, Below wr.heap.size wr W → Calls Tryz.prog 66 #[.agg #[.int .i64 k', .string key', .string dst', .int .i64 n', .bool had', .int .i64 k1', .bool b1', .int .i64 n1', .string t1', .slice la1' l1'.length lc1', .slice oa1' o1'.length oc1', .bool has', .int .i64 k2', .bool b2', .int .i64 n2', .string t2', .slice la2' l2'.length lc2', .slice oa2' o2'.length oc2', .slice a' l'.length c']] W fun e w' => e = .returned (.int .i64 (sizeM (Mut.mk k' key' dst' n' had' (.mk k1' b1' n1' t1' l1' o1') has' (.mk k2' b2' n2' t2' l2' o2') l'))) ∧ Below W.heap.size W w' := fun W hW => hC _ W ((hcs.below (hW.mono hz)).more (Nat.le_trans hz hW.size)) (by omega)
      have i1 : ((sizeMs (l.take q) : Nat) : Int) + ((sizeM (Mut.mk k' key' dst' n' had' (.mk k1' b1' n1' t1' l1' o1') has' (.mk k2' b2' n2' t2' l2' o2') l') : Nat) : Int) ≤ 1000000000 := by omega
      have i2 : (0 : Int) ≤ ((sizeM (Mut.mk k' key' dst' n' had' (.mk k1' b1' n1' t1' l1' o1') has' (.mk k2' b2' n2' t2' l2' o2') l') : Nat) : Int) := by omega
      have htk' : ((sizeMs (l.take (q + 1)) : Nat) : Int) = ((sizeMs (l.take q) : Nat) : Int) + ((sizeM (Mut.mk k' key' dst' n' had' (.mk k1' b1' n1' t1' l1' o1') has' (.mk k2' b2' n2' t2' l2' o2') l') : Nat) : Int) := by rw [htk]; simp
      have i3 : (0 : Int) ≤ ((sizeMs (l.take q) : Nat) : Int) := by omega
      generalize ((sizeM (Mut.mk k' key' dst' n' had' (.mk k1' b1' n1' t1' l1' o1') has' (.mk k2' b2' n2' t2' l2' o2') l') : Nat) : Int) = S at hC' i1 i2 htk'
      generalize ((sizeMs (l.take q) : Nat) : Int) = T at i1 htk' i3 ⊢
      have hC1 := hC' wr (Below.refl _ _)
      have HC1 := Lib.hid hC1
      have Hbw := Lib.hid hbw
      have Htk' := Lib.hid htk'
      clear hC1 hbw htk'
      clear hC hC' hcs hcell hmem htk hbm hsm hst hm
      go_upto_region 5 with (fail)
      iterate 17 go_step
      refine wp_load_mid 85 (.tmp 16) rfl g (off + q * 19) rfl [.int .i64 k', .string key', .string dst', .int .i64 n', .bool had', .int .i64 k1', .bool b1', .int .i64 n1', .string t1', .slice la1' l1'.length lc1', .slice oa1' o1'.length oc1', .bool has', .int .i64 k2', .bool b2', .int .i64 n2', .string t2', .slice la2' l2'.length lc2', .slice oa2' o2'.length oc2', .slice a' l'.length c'] _ hrange Tryz.underlying85 rfl (by kernel_rfl) ?_
      go_wp2_with (go_at_call 66; (with_reducible refine (HC1.out).mono ?_); rintro e w1 ⟨rfl, hb1⟩)
      have HB := Lib.hid (hbr.out.trans (hb1.mono hbr.out.size))
      clear hb1
      go_wp2
      go_roundw
      case rel => exact ⟨q + 1, by go_num, by omega, by rw [Htk'.out]; go_num, HB⟩
      case measure => simp only [intOf]; omega
    · obtain rfl : q = l.length := by omega
      have e1 : sizeMs (l.take l.length) = sizeMs l := by rw [List.take_length]
      rw [e1]
      have Hbw := Lib.hid hbw
      clear hbw
      go_wp2
      go_ret
      exact ⟨by simp [sizeM], Hbw.out⟩
theorem rsize_calls : ∀ m, RSizeC m := by
  refine Mut.ind ?_
  intro k key dst n had was has v l IH
  obtain ⟨k1, b1, n1, t1, l1, o1⟩ := was
  obtain ⟨k2, b2, n2, t2, l2, o2⟩ := v
  exact rsize_step k key dst n had k1 b1 n1 t1 l1 o1 has k2 b2 n2 t2 l2 o2 l IH
end Go.Proofs.YtemceefalkfneaaGreatDoor
