/- Parts, joined: mutator.May: why a mutator may not be. Condition: a bulk of at most 10^8. The reference's May of a mutator. Condition: a bulk of at most 10^8. push.May, and the reference's: why a push may not be. Condition: a bulk of at most 10^8. Values that may be and have the same text are the same. Plain. No condition. -/
import Derived.Test.YtkoliaodkojghaaGreatDoorProg
import Derived.Test.YtkoliaodkojghaaGreatDoorKPushUnlike1
import Derived.Test.YtkoliaodkojghaaGreatDoorKPushUnlike2
import Derived.Test.YtkoliaodkojghaaGreatDoorKPushUnlike4
import Derived.Test.YtkoliaodkojghaaGreatDoorKPushUnlike5
import Derived.Test.YtkoliaodkojghaaGreatDoorKPushUnlike6
/- mutator.May: why a mutator may not be. Condition: a bulk of at most 10^8. -/
namespace Go.Proofs.YtkoliaodkojghaaGreatDoor
open Go.RowKit

set_option maxRecDepth 100000 in
set_option maxHeartbeats 2000000 in
theorem may1_calls (m : Mut) (cs : List Value) (g : Nat) (W : World) (hT : Tabs W) (hM : Holds W W.heap.size (dM m) cs) (hx : Blk W g 48 cs.toArray) (hb : bulkM m ≤ 100000000) (hi : inM m) :
    Calls Tryz.prog 29 #[.pointer (some ⟨g, 0, none⟩)] W fun e w' => e = endE (mayM m 1) ∧ Below W.heap.size W w' := by
  have hC := look_calls m cs 1 W hT hM hb hi (by omega) (by omega)
  have hs : cs.toArray.size = 19 := by simpa using mut_len hM
  generalize mayM m 1 = Y at hC ⊢
  have HC := Lib.hid hC
  have Hx := Lib.hid hx
  clear hC hx
  go_enter Tryz.func29, Tryz.ntmps29
  iterate 3 go_step
  refine wp_load_blk 48 (.tmp 0) rfl g _ Hx.out rfl _ Tryz.underlying48 rfl (by rw [hs]; kernel_rfl) ?_
  go_wp2_with (fail)
  with_reducible refine (HC.out).mono ?_
  rintro e w1 ⟨rfl, hb1⟩
  by_cases hY : Y = 0
  · subst hY
    rw [endE_zero]
    go_wp2
    go_end0
    exact ⟨rfl, hb1⟩
  · rw [endE_some hY]
    exact ⟨rfl, (endE_some hY).symm, hb1⟩

set_option maxRecDepth 100000 in
set_option maxHeartbeats 2000000 in
theorem mutMay_calls (m : Mut) (cs : List Value) (w : World) (hT : Tabs w) (hM : Holds w w.heap.size (dM m) cs) (hb : bulkM m ≤ 100000000) (hi : inM m) :
    Calls Tryz.prog 15 #[.agg cs.toArray] w fun e w' => e = .returned (.int .i64 (mutMay m)) ∧ Below w.heap.size w w' := by
  obtain ⟨k, key, dst, n, had, ⟨k1, b1, n1, t1, l1, o1⟩, has, ⟨k2, b2, n2, t2, l2, o2⟩, l⟩ := m
  have hM' := hM
  obtain ⟨la1, lc1, oa1, oc1, la2, lc2, oa2, oc2, a, c, rfl, _, _, _⟩ := mut_cells hM
  obtain ⟨wi, hwi⟩ : ∃ wi, w.alloc (.cells #[.int .i64 k, .string key, .string dst, .int .i64 n, .bool had, .int .i64 k1, .bool b1, .int .i64 n1, .string t1, .slice la1 l1.length lc1, .slice oa1 o1.length oc1, .bool has, .int .i64 k2, .bool b2, .int .i64 n2, .string t2, .slice la2 l2.length lc2, .slice oa2 o2.length oc2, .slice a l.length c] 48) = wi := ⟨_, rfl⟩
  have hbi : Below w.heap.size w wi := hwi ▸ alloc_below _ _
  have hxb : Blk wi w.heap.size 48 #[.int .i64 k, .string key, .string dst, .int .i64 n, .bool had, .int .i64 k1, .bool b1, .int .i64 n1, .string t1, .slice la1 l1.length lc1, .slice oa1 o1.length oc1, .bool has, .int .i64 k2, .bool b2, .int .i64 n2, .string t2, .slice la2 l2.length lc2, .slice oa2 o2.length oc2, .slice a l.length c] := hwi ▸ Blk.new _ _ _
  have hmf : ∀ (fn : Fn) (first cap : Array Value) (w : World), (Instr.makeFunc fn first cap).run Tryz.prog w = .ok (.func fn first cap) w := fun _ _ _ _ => rfl
  have hS := msize_calls _ _ wi ((hM'.below hbi).more hbi.size) hb
  have hsz := sizeM_bulk (Mut.mk k key dst n had (.mk k1 b1 n1 t1 l1 o1) has (.mk k2 b2 n2 t2 l2 o2) l)
  have hC : ∀ w1, Below wi.heap.size wi w1 → Calls Tryz.prog 28 #[.func (.func 29) #[] #[.pointer (some ⟨w.heap.size, 0, none⟩)]] w1 fun e w' => e = .returned (.int .i64 (mayM (Mut.mk k key dst n had (.mk k1 b1 n1 t1 l1 o1) has (.mk k2 b2 n2 t2 l2 o2) l) 1)) ∧ Below w1.heap.size w1 w' := fun w1 h1 =>
    caught_calls _ _ w1 fun W hW => by
      have hB := hbi.trans ((h1.trans (hW.mono h1.size)).mono hbi.size)
      exact may1_calls (Mut.mk k key dst n had (.mk k1 b1 n1 t1 l1 o1) has (.mk k2 b2 n2 t2 l2 o2) l) _ w.heap.size W (hT.below hB) ((hM'.below hB).more hB.size) (hxb.below (h1.trans (hW.mono h1.size)) hxb.lt) hb hi
  have hE : mutMay (Mut.mk k key dst n had (.mk k1 b1 n1 t1 l1 o1) has (.mk k2 b2 n2 t2 l2 o2) l) = if 64 < sizeM (Mut.mk k key dst n had (.mk k1 b1 n1 t1 l1 o1) has (.mk k2 b2 n2 t2 l2 o2) l) then 6 else mayM (Mut.mk k key dst n had (.mk k1 b1 n1 t1 l1 o1) has (.mk k2 b2 n2 t2 l2 o2) l) 1 := rfl
  have hSi : ((sizeM (Mut.mk k key dst n had (.mk k1 b1 n1 t1 l1 o1) has (.mk k2 b2 n2 t2 l2 o2) l) : Nat) : Int) ≤ 100000000 := by omega
  have hS0 : (0 : Int) ≤ ((sizeM (Mut.mk k key dst n had (.mk k1 b1 n1 t1 l1 o1) has (.mk k2 b2 n2 t2 l2 o2) l) : Nat) : Int) := by omega
  by_cases h64 : 64 < sizeM (Mut.mk k key dst n had (.mk k1 b1 n1 t1 l1 o1) has (.mk k2 b2 n2 t2 l2 o2) l)
  · rw [if_pos h64] at hE
    have t64 : (64 : Int) < ((sizeM (Mut.mk k key dst n had (.mk k1 b1 n1 t1 l1 o1) has (.mk k2 b2 n2 t2 l2 o2) l) : Nat) : Int) := by omega
    generalize ((sizeM (Mut.mk k key dst n had (.mk k1 b1 n1 t1 l1 o1) has (.mk k2 b2 n2 t2 l2 o2) l) : Nat) : Int) = Z at hS hSi hS0 t64
    have HS := Lib.hid hS
    have Hxb := Lib.hid hxb
    have Hbi := Lib.hid hbi
    have HE := Lib.hid hE
    clear hS hxb hbi hE
    clear hC hM' hM hb hi hsz h64
    go_enter Tryz.func15, Tryz.ntmps15
    go_upto_region 1 with (fail)
    clear hwi
    iterate 2 go_step
    refine wp_load_blk 48 (.tmp 1) rfl w.heap.size _ Hxb.out rfl _ Tryz.underlying48 rfl (by kernel_rfl) ?_
    go_wp2_with (fail)
    with_reducible refine (HS.out).mono ?_
    rintro e w1 ⟨rfl, hb1⟩
    go_wp2
    go_ret
    exact ⟨by rw [HE.out]; rfl, Hbi.out.trans (hb1.mono Hbi.out.size)⟩
  · rw [if_neg h64] at hE
    have t64 : ((sizeM (Mut.mk k key dst n had (.mk k1 b1 n1 t1 l1 o1) has (.mk k2 b2 n2 t2 l2 o2) l) : Nat) : Int) ≤ 64 := by omega
    generalize ((sizeM (Mut.mk k key dst n had (.mk k1 b1 n1 t1 l1 o1) has (.mk k2 b2 n2 t2 l2 o2) l) : Nat) : Int) = Z at hS hSi hS0 t64
    have HS := Lib.hid hS
    have Hxb := Lib.hid hxb
    have Hbi := Lib.hid hbi
    have HE := Lib.hid hE
    have HC := Lib.hid hC
    clear hS hxb hbi hE hC
    clear hM' hM hb hi hsz h64
    go_enter Tryz.func15, Tryz.ntmps15
    go_upto_region 1 with (fail)
    clear hwi
    iterate 2 go_step
    refine wp_load_blk 48 (.tmp 1) rfl w.heap.size _ Hxb.out rfl _ Tryz.underlying48 rfl (by kernel_rfl) ?_
    go_wp2_with (fail)
    with_reducible refine (HS.out).mono ?_
    rintro e w1 ⟨rfl, hb1⟩
    go_wp2_with (fail)
    with_reducible refine (HC.out _ hb1).mono ?_
    rintro e w2 ⟨rfl, hb2⟩
    go_wp2
    go_ret
    exact ⟨by rw [HE.out]; rfl, (Hbi.out.trans (hb1.mono Hbi.out.size)).trans (hb2.mono (Nat.le_trans Hbi.out.size hb1.size))⟩
end Go.Proofs.YtkoliaodkojghaaGreatDoor

/- The reference's May of a mutator. Condition: a bulk of at most 10^8. -/
namespace Go.Proofs.YtkoliaodkojghaaGreatDoor
open Go.RowKit

set_option maxRecDepth 100000 in
set_option maxHeartbeats 2000000 in
theorem rmutMay_calls (m : Mut) (cs : List Value) (w : World) (hT : Tabs w) (hM : Holds w w.heap.size (dM m) cs) (hb : bulkM m ≤ 100000000) (hi : inM m) :
    Calls Tryz.prog 16 #[.agg cs.toArray] w fun e w' => e = .returned (.int .i64 (mutMay m)) ∧ Below w.heap.size w w' := by
  obtain ⟨k, key, dst, n, had, ⟨k1, b1, n1, t1, l1, o1⟩, has, ⟨k2, b2, n2, t2, l2, o2⟩, l⟩ := m
  have hM' := hM
  obtain ⟨la1, lc1, oa1, oc1, la2, lc2, oa2, oc2, a, c, rfl, _, _, _⟩ := mut_cells hM
  obtain ⟨wi, hwi⟩ : ∃ wi, w.alloc (.cells #[.int .i64 k, .string key, .string dst, .int .i64 n, .bool had, .int .i64 k1, .bool b1, .int .i64 n1, .string t1, .slice la1 l1.length lc1, .slice oa1 o1.length oc1, .bool has, .int .i64 k2, .bool b2, .int .i64 n2, .string t2, .slice la2 l2.length lc2, .slice oa2 o2.length oc2, .slice a l.length c] 48) = wi := ⟨_, rfl⟩
  have hbi : Below w.heap.size w wi := hwi ▸ alloc_below _ _
  have hxb : Blk wi w.heap.size 48 #[.int .i64 k, .string key, .string dst, .int .i64 n, .bool had, .int .i64 k1, .bool b1, .int .i64 n1, .string t1, .slice la1 l1.length lc1, .slice oa1 o1.length oc1, .bool has, .int .i64 k2, .bool b2, .int .i64 n2, .string t2, .slice la2 l2.length lc2, .slice oa2 o2.length oc2, .slice a l.length c] := hwi ▸ Blk.new _ _ _
  have hS := rsize_calls _ _ wi ((hM'.below hbi).more hbi.size) hb
  have hsz := sizeM_bulk (Mut.mk k key dst n had (.mk k1 b1 n1 t1 l1 o1) has (.mk k2 b2 n2 t2 l2 o2) l)
  have hC : ∀ w1, Below wi.heap.size wi w1 → Calls Tryz.prog 32 #[.agg #[.int .i64 k, .string key, .string dst, .int .i64 n, .bool had, .int .i64 k1, .bool b1, .int .i64 n1, .string t1, .slice la1 l1.length lc1, .slice oa1 o1.length oc1, .bool has, .int .i64 k2, .bool b2, .int .i64 n2, .string t2, .slice la2 l2.length lc2, .slice oa2 o2.length oc2, .slice a l.length c], .int .i64 1] w1 fun e w' => e = .returned (.int .i64 (mayM (Mut.mk k key dst n had (.mk k1 b1 n1 t1 l1 o1) has (.mk k2 b2 n2 t2 l2 o2) l) 1)) ∧ Below w1.heap.size w1 w' := fun w1 h1 => by
    have hB := hbi.trans (h1.mono hbi.size)
    exact rmay_calls _ _ 1 w1 (hT.below hB) ((hM'.below hB).more hB.size) hb hi (by omega) (by omega)
  have hE : mutMay (Mut.mk k key dst n had (.mk k1 b1 n1 t1 l1 o1) has (.mk k2 b2 n2 t2 l2 o2) l) = if 64 < sizeM (Mut.mk k key dst n had (.mk k1 b1 n1 t1 l1 o1) has (.mk k2 b2 n2 t2 l2 o2) l) then 6 else mayM (Mut.mk k key dst n had (.mk k1 b1 n1 t1 l1 o1) has (.mk k2 b2 n2 t2 l2 o2) l) 1 := rfl
  have hSi : ((sizeM (Mut.mk k key dst n had (.mk k1 b1 n1 t1 l1 o1) has (.mk k2 b2 n2 t2 l2 o2) l) : Nat) : Int) ≤ 100000000 := by omega
  have hS0 : (0 : Int) ≤ ((sizeM (Mut.mk k key dst n had (.mk k1 b1 n1 t1 l1 o1) has (.mk k2 b2 n2 t2 l2 o2) l) : Nat) : Int) := by omega
  by_cases h64 : 64 < sizeM (Mut.mk k key dst n had (.mk k1 b1 n1 t1 l1 o1) has (.mk k2 b2 n2 t2 l2 o2) l)
  · rw [if_pos h64] at hE
    have t64 : (64 : Int) < ((sizeM (Mut.mk k key dst n had (.mk k1 b1 n1 t1 l1 o1) has (.mk k2 b2 n2 t2 l2 o2) l) : Nat) : Int) := by omega
    generalize ((sizeM (Mut.mk k key dst n had (.mk k1 b1 n1 t1 l1 o1) has (.mk k2 b2 n2 t2 l2 o2) l) : Nat) : Int) = Z at hS hSi hS0 t64
    have HS := Lib.hid hS
    have Hxb := Lib.hid hxb
    have Hbi := Lib.hid hbi
    have HE := Lib.hid hE
    clear hS hxb hbi hE
    clear hC hM' hM hb hi hsz h64
    go_enter Tryz.func16, Tryz.ntmps16
    go_upto_region 1 with (fail)
    clear hwi
    iterate 2 go_step
    refine wp_load_blk 48 (.tmp 1) rfl w.heap.size _ Hxb.out rfl _ Tryz.underlying48 rfl (by kernel_rfl) ?_
    go_wp2_with (fail)
    with_reducible refine (HS.out).mono ?_
    rintro e w1 ⟨rfl, hb1⟩
    go_wp2
    go_ret
    exact ⟨by rw [HE.out]; rfl, Hbi.out.trans (hb1.mono Hbi.out.size)⟩
  · rw [if_neg h64] at hE
    have t64 : ((sizeM (Mut.mk k key dst n had (.mk k1 b1 n1 t1 l1 o1) has (.mk k2 b2 n2 t2 l2 o2) l) : Nat) : Int) ≤ 64 := by omega
    generalize ((sizeM (Mut.mk k key dst n had (.mk k1 b1 n1 t1 l1 o1) has (.mk k2 b2 n2 t2 l2 o2) l) : Nat) : Int) = Z at hS hSi hS0 t64
    have HS := Lib.hid hS
    have Hxb := Lib.hid hxb
    have Hbi := Lib.hid hbi
    have HE := Lib.hid hE
    have HC := Lib.hid hC
    clear hS hxb hbi hE hC
    clear hM' hM hb hi hsz h64
    go_enter Tryz.func16, Tryz.ntmps16
    go_upto_region 1 with (fail)
    clear hwi
    iterate 2 go_step
    refine wp_load_blk 48 (.tmp 1) rfl w.heap.size _ Hxb.out rfl _ Tryz.underlying48 rfl (by kernel_rfl) ?_
    go_wp2_with (fail)
    with_reducible refine (HS.out).mono ?_
    rintro e w1 ⟨rfl, hb1⟩
    go_upto_region 3 with (fail)
    iterate 2 go_step
    refine wp_load_blk 48 (.tmp 1) rfl w.heap.size _ (Hxb.out.below hb1 Hxb.out.lt) rfl _ Tryz.underlying48 rfl (by kernel_rfl) ?_
    go_wp2_with (fail)
    with_reducible refine (HC.out _ hb1).mono ?_
    rintro e w2 ⟨rfl, hb2⟩
    go_wp2
    go_ret
    exact ⟨by rw [HE.out]; rfl, (Hbi.out.trans (hb1.mono Hbi.out.size)).trans (hb2.mono (Nat.le_trans Hbi.out.size hb1.size))⟩
end Go.Proofs.YtkoliaodkojghaaGreatDoor

/- push.May, and the reference's: why a push may not be. Condition: a bulk of at most 10^8. -/
namespace Go.Proofs.YtkoliaodkojghaaGreatDoor
open Go.RowKit

/-- A mutator with its number, among others. -/
theorem num_at {w : World} {B n c : Nat} {l : List Num} {a : Option Addr} (h : Holds w B (.row 20 (dNs l)) [.slice a n c]) {q : Nat} {p : Num} (hi : l[q]? = some p) :
    ∃ g off, a = some ⟨g, off, none⟩ ∧ g < B ∧ ∃ cs, Holds w B (dM p.m) cs ∧ cs.length = 19 ∧ w.cell? ⟨g, off + q * 20, none⟩ = some (.int .u64 p.id) ∧ ∀ j u, cs[j]? = some u → w.cell? ⟨g, off + q * 20 + 1 + j, none⟩ = some u := by
  obtain ⟨g, off, ea, hg, cs, h1, h2, h3⟩ := h.at_ (i := q) (d := dN p) (by unfold dNs; rw [List.getElem?_map, hi]; rfl)
  unfold dN at h1
  simp only [Holds] at h1
  obtain ⟨_, _, rfl, ⟨rfl, _⟩, x, _, rfl, h4, rfl⟩ := h1
  refine ⟨g, off, ea, hg, x, h4, mut_len h4, by simpa using h3 0 _ rfl, fun j u hu => ?_⟩
  have := h3 (1 + j) u (by rw [Nat.add_comm 1 j]; simpa using hu)
  rwa [← Nat.add_assoc] at this
theorem bulkN_mem {l : List Num} {p : Num} (h : p ∈ l) : bulkM p.m ≤ bulkN l := by
  induction l with
  | nil => cases h
  | cons x r ih =>
    simp only [bulkN]
    rcases List.mem_cons.1 h with rfl | h
    · omega
    · have := ih h; omega
theorem bulkN_len (l : List Num) : l.length ≤ bulkN l := by
  induction l with
  | nil => simp [bulkN]
  | cons x r ih => simp only [bulkN, List.length_cons]; omega
theorem mayNs_drop {l : List Num} {q : Nat} {p : Num} (h : l[q]? = some p) : mayNs (l.drop q) = if p.id ≤ 0 ∨ 4611686018427387903 < p.id then 2 else if mutMay p.m = 0 then mayNs (l.drop (q + 1)) else mutMay p.m := by
  obtain ⟨hlt, rfl⟩ := List.getElem?_eq_some_iff.1 h
  rw [List.drop_eq_getElem_cons hlt]
  rfl

theorem blk_range1 {w : World} {g : Nat} {t : TypeId} {x : Value} {cs : List Value} (h : Blk w g t (x :: cs).toArray) : w.rangeAt g 1 cs := fun j v hv => (h.cell (1 + j)).trans (by rw [Nat.add_comm]; simpa using hv)

set_option maxRecDepth 100000 in
theorem isNumber_calls (n : Int) (B : Bool) (w : World) (h : decide (0 < n ∧ n ≤ 4611686018427387903) = B) : Calls Tryz.prog 14 #[.int .u64 n] w fun e w' => e = .returned (.bool B) ∧ w' = w := by
  subst h
  by_cases h1 : 0 < n
  · by_cases h2 : n ≤ 4611686018427387903
    · rw [show decide (0 < n ∧ n ≤ 4611686018427387903) = true from by simp [h1, h2]]
      go_enter Tryz.func14, Tryz.ntmps14
      go_wp2
      go_ret
      exact ⟨by simp [], rfl⟩
    · rw [show decide (0 < n ∧ n ≤ 4611686018427387903) = false from by simp [h2]]
      go_enter Tryz.func14, Tryz.ntmps14
      go_wp2
      go_ret
      exact ⟨by simp [], rfl⟩
  · rw [show decide (0 < n ∧ n ≤ 4611686018427387903) = false from by simp [h1]]
    go_enter Tryz.func14, Tryz.ntmps14
    go_wp2
    go_ret
    exact ⟨rfl, rfl⟩

set_option maxRecDepth 100000 in
set_option maxHeartbeats 8000000 in
theorem pushMay_calls (c : Int) (l : List Num) (a : Option Addr) (n cc : Nat) (w : World) (_ : 0 ≤ c) (hT : Tabs w) (h : Holds w w.heap.size (.row 20 (dNs l)) [.slice a n cc]) (hb : bulkN l ≤ 100000000) (hin : inN l) :
    Calls Tryz.prog 6 #[.agg #[.int .u64 c, .slice a n cc]] w fun e w' => e = .returned (.int .i64 (mayPush c l)) ∧ Below w.heap.size w w' := by
  have hn := h.row_len
  rw [dNs_len] at hn
  subst hn
  have hlq := bulkN_len l
  have hE : mayPush c l = mayPush c l := rfl
  conv at hE => rhs; unfold mayPush
  generalize mayPush c l = X at hE ⊢
  by_cases h1 : c ≤ 0 ∨ 4611686018427387903 < c
  · rw [if_pos h1] at hE
    have hC := fun W => isNumber_calls c false W (by simp; omega)
    have HC := Lib.hid hC
    have HE := Lib.hid hE
    clear hC hE
    clear h hT
    go_enter Tryz.func6, Tryz.ntmps6
    go_wp2_with (fail)
    with_reducible refine (HC.out _).mono ?_
    rintro e w1 ⟨rfl, rfl⟩
    go_wp2
    go_ret
    exact ⟨by rw [HE.out]; rfl, alloc_below _ _⟩
  rw [if_neg h1] at hE
  have hC := fun W => isNumber_calls c true W (by simp; omega)
  by_cases h2 : 64 < l.length
  · rw [if_pos h2] at hE
    have t2 : (64 : Int) < (l.length : Int) := by omega
    have HC := Lib.hid hC
    have HE := Lib.hid hE
    clear hC hE
    clear h hT
    go_enter Tryz.func6, Tryz.ntmps6
    go_wp2_with (fail)
    with_reducible refine (HC.out _).mono ?_
    rintro e w1 ⟨rfl, rfl⟩
    go_wp2
    go_ret
    exact ⟨by rw [HE.out]; rfl, alloc_below _ _⟩
  rw [if_neg h2] at hE
  have t2 : (l.length : Int) ≤ 64 := by omega
  have hI0 : Hid (Below w.heap.size w (w.alloc (.cells #[.int .u64 c, .slice a l.length cc] 25))) := Lib.hid (alloc_below _ _)
  have hX0 : Hid (mayNs (l.drop 0) = X) := Lib.hid (by rw [List.drop_zero]; exact hE.symm)
  clear hE
  have HC := Lib.hid hC
  have H := Lib.hid h
  have HT := Lib.hid hT
  have Hin := Lib.hid hin
  clear hC h hT hin
  go_enter Tryz.func6, Tryz.ntmps6
  go_wp2_with (fail)
  with_reducible refine (HC.out _).mono ?_
  rintro e w1 ⟨rfl, rfl⟩
  go_wp2_with (fail)
  go_loopw [17] (fun i wr => ∃ q : Nat, i = .int .i64 q ∧ q ≤ l.length ∧ Hid (mayNs (l.drop q) = X) ∧ Hid (Below w.heap.size w wr)) (fun i _ => l.length - (intOf i).toNat)
  case atStart => exact ⟨0, rfl, Nat.zero_le _, hX0, hI0⟩
  case round =>
    obtain ⟨q, rfl, hq, hX, hbr⟩ := hrel
    clear hX0 hI0
    by_cases hlt : q < l.length
    · obtain ⟨p, hp⟩ : ∃ p, l[q]? = some p := ⟨_, List.getElem?_eq_getElem hlt⟩
      have hmem := List.mem_of_getElem? hp
      have hbm := bulkN_mem hmem
      obtain ⟨hid0, hin'⟩ := Hin.out p hmem
      have hXd := hX.out
      rw [mayNs_drop hp] at hXd
      obtain ⟨id, k', key', dst', n', had', ⟨k1', b1', n1', t1', l1', o1'⟩, has', ⟨k2', b2', n2', t2', l2', o2'⟩, l'⟩ := p
      have hz := hbr.out.size
      obtain ⟨g, off, rfl, hg, cs', hcs, _, hc0, hcell⟩ := num_at (H.out.below hbr.out) hp
      obtain ⟨la1', lc1', oa1', oc1', la2', lc2', oa2', oc2', a', c', rfl, _, _, _⟩ := mut_cells hcs
      simp only at hXd hbm hin' hc0 hid0
      have hrange : wr.rangeAt g (off + q * 20) [.int .u64 id, .int .i64 k', .string key', .string dst', .int .i64 n', .bool had', .int .i64 k1', .bool b1', .int .i64 n1', .string t1', .slice la1' l1'.length lc1', .slice oa1' o1'.length oc1', .bool has', .int .i64 k2', .bool b2', .int .i64 n2', .string t2', .slice la2' l2'.length lc2', .slice oa2' o2'.length oc2', .slice a' l'.length c'] := fun j u hu => by
        cases j with
        | zero => simp only [List.getElem?_cons_zero, Option.some.injEq] at hu; rw [← hu]; simpa using hc0
        | succ j => rw [List.getElem?_cons_succ] at hu; rw [show off + q * 20 + (j + 1) = off + q * 20 + 1 + j from by omega]; exact hcell j u hu
      have hgr : g < wr.heap.size := by omega
      have hq1 : (q : Int) < (l.length : Int) := by omega
      have hq0 : (0 : Int) ≤ q := by omega
      have hM : ∀ W, Below wr.heap.size wr W → Calls Tryz.prog 15 #[.agg #[.int .i64 k', .string key', .string dst', .int .i64 n', .bool had', .int .i64 k1', .bool b1', .int .i64 n1', .string t1', .slice la1' l1'.length lc1', .slice oa1' o1'.length oc1', .bool has', .int .i64 k2', .bool b2', .int .i64 n2', .string t2', .slice la2' l2'.length lc2', .slice oa2' o2'.length oc2', .slice a' l'.length c']] W fun e w' => e = .returned (.int .i64 (mutMay (Mut.mk k' key' dst' n' had' (.mk k1' b1' n1' t1' l1' o1') has' (.mk k2' b2' n2' t2' l2' o2') l'))) ∧ Below W.heap.size W w' := fun W hW => mutMay_calls _ _ W (HT.out.below (hbr.out.trans (hW.mono hz))) ((hcs.below (hW.mono hz)).more (Nat.le_trans hz hW.size)) (by omega) hin'
      generalize mutMay (Mut.mk k' key' dst' n' had' (.mk k1' b1' n1' t1' l1' o1') has' (.mk k2' b2' n2' t2' l2' o2') l') = Y at hM hXd
      have hwx := alloc_below wr (.cells #[.int .u64 id, .int .i64 k', .string key', .string dst', .int .i64 n', .bool had', .int .i64 k1', .bool b1', .int .i64 n1', .string t1', .slice la1' l1'.length lc1', .slice oa1' o1'.length oc1', .bool has', .int .i64 k2', .bool b2', .int .i64 n2', .string t2', .slice la2' l2'.length lc2', .slice oa2' o2'.length oc2', .slice a' l'.length c'] 50)
      have hbx := hbr.out.trans (hwx.mono hz)
      by_cases hi : id ≤ 0 ∨ 4611686018427387903 < id
      · rw [if_pos hi] at hXd
        have hC2 := fun W => isNumber_calls id false W (by simp; omega)
        have HM := Lib.hid hM
        have HXd := Lib.hid hXd
        have HC2 := Lib.hid hC2
        have Hbx := Lib.hid hbx
        clear hM hXd hC2 hbx
        clear hcs hcell hmem hbm hp hX hin' hwx
        go_upto_region 7 with (fail)
        iterate 5 go_step
        refine wp_load_mid 50 (.tmp 19) rfl g (off + q * 20) rfl [.int .u64 id, .int .i64 k', .string key', .string dst', .int .i64 n', .bool had', .int .i64 k1', .bool b1', .int .i64 n1', .string t1', .slice la1' l1'.length lc1', .slice oa1' o1'.length oc1', .bool has', .int .i64 k2', .bool b2', .int .i64 n2', .string t2', .slice la2' l2'.length lc2', .slice oa2' o2'.length oc2', .slice a' l'.length c'] _ hrange Tryz.underlying50 rfl (by kernel_rfl) ?_
        iterate 5 go_step
        refine wp_store_new 50 (.tmp 4) (.tmp 20) rfl #[.int .u64 id, .int .i64 k', .string key', .string dst', .int .i64 n', .bool had', .int .i64 k1', .bool b1', .int .i64 n1', .string t1', .slice la1' l1'.length lc1', .slice oa1' o1'.length oc1', .bool has', .int .i64 k2', .bool b2', .int .i64 n2', .string t2', .slice la2' l2'.length lc2', .slice oa2' o2'.length oc2', .slice a' l'.length c'] rfl rfl rfl (by kernel_rfl) (by simp [Value.oneCell']) ?_
        go_wp2_with (fail)
        with_reducible refine (HC2.out _).mono ?_
        rintro e w2 ⟨rfl, rfl⟩
        go_wp2
        go_ret
        exact ⟨by rw [← HXd.out]; rfl, Hbx.out⟩
      · rw [if_neg hi] at hXd
        have hC2 := fun W => isNumber_calls id true W (by simp; omega)
        have hMx := hM _ hwx
        have hxn := Blk.new wr 50 #[.int .u64 id, .int .i64 k', .string key', .string dst', .int .i64 n', .bool had', .int .i64 k1', .bool b1', .int .i64 n1', .string t1', .slice la1' l1'.length lc1', .slice oa1' o1'.length oc1', .bool has', .int .i64 k2', .bool b2', .int .i64 n2', .string t2', .slice la2' l2'.length lc2', .slice oa2' o2'.length oc2', .slice a' l'.length c']
        have HM := Lib.hid hM
        have HC2 := Lib.hid hC2
        have Hbx := Lib.hid hbx
        have HMx := Lib.hid hMx
        have Hxn := Lib.hid hxn
        clear hM hC2 hbx hMx hxn
        clear hcs hcell hmem hbm hp hX hin' hwx
        go_upto_region 7 with (fail)
        iterate 5 go_step
        refine wp_load_mid 50 (.tmp 19) rfl g (off + q * 20) rfl [.int .u64 id, .int .i64 k', .string key', .string dst', .int .i64 n', .bool had', .int .i64 k1', .bool b1', .int .i64 n1', .string t1', .slice la1' l1'.length lc1', .slice oa1' o1'.length oc1', .bool has', .int .i64 k2', .bool b2', .int .i64 n2', .string t2', .slice la2' l2'.length lc2', .slice oa2' o2'.length oc2', .slice a' l'.length c'] _ hrange Tryz.underlying50 rfl (by kernel_rfl) ?_
        iterate 5 go_step
        refine wp_store_new 50 (.tmp 4) (.tmp 20) rfl #[.int .u64 id, .int .i64 k', .string key', .string dst', .int .i64 n', .bool had', .int .i64 k1', .bool b1', .int .i64 n1', .string t1', .slice la1' l1'.length lc1', .slice oa1' o1'.length oc1', .bool has', .int .i64 k2', .bool b2', .int .i64 n2', .string t2', .slice la2' l2'.length lc2', .slice oa2' o2'.length oc2', .slice a' l'.length c'] rfl rfl rfl (by kernel_rfl) (by simp [Value.oneCell']) ?_
        go_wp2_with (fail)
        with_reducible refine (HC2.out _).mono ?_
        rintro e w2 ⟨rfl, rfl⟩
        go_upto_region 10 with (fail)
        iterate 5 go_step
        refine wp_load_mid 48 (.tmp 25) rfl wr.heap.size 1 rfl [.int .i64 k', .string key', .string dst', .int .i64 n', .bool had', .int .i64 k1', .bool b1', .int .i64 n1', .string t1', .slice la1' l1'.length lc1', .slice oa1' o1'.length oc1', .bool has', .int .i64 k2', .bool b2', .int .i64 n2', .string t2', .slice la2' l2'.length lc2', .slice oa2' o2'.length oc2', .slice a' l'.length c'] _ (blk_range1 Hxn.out) Tryz.underlying48 rfl (by kernel_rfl) ?_
        go_wp2_with (fail)
        with_reducible refine (HMx.out).mono ?_
        rintro e w3 ⟨rfl, hb3⟩
        have hbf := Hbx.out.trans (hb3.mono Hbx.out.size)
        by_cases hY : Y = 0
        · subst hY
          rw [if_pos rfl] at hXd
          have HXd := Lib.hid hXd
          have Hbf := Lib.hid hbf
          clear hXd hbf
          clear hb3
          go_wp2
          go_roundw
          case rel => exact ⟨q + 1, by go_num, by omega, HXd, Hbf⟩
          case measure => simp only [intOf]; omega
        · rw [if_neg hY] at hXd
          have tY : (Y != 0) = true := by simpa using hY
          have HXd := Lib.hid hXd
          have Hbf := Lib.hid hbf
          clear hXd hbf
          clear hb3
          go_wp2
          go_ret
          exact ⟨by rw [← HXd.out]; rfl, Hbf.out⟩
    · obtain rfl : q = l.length := by omega
      have hE := hX.out
      rw [List.drop_length] at hE
      have hE' : X = 0 := hE.symm
      subst hE'
      clear hX hE
      go_wp2
      go_ret
      exact ⟨rfl, hbr.out⟩
end Go.Proofs.YtkoliaodkojghaaGreatDoor

/- Values that may be and have the same text are the same. Plain. No condition. -/
namespace Go.Proofs.YtkoliaodkojghaaGreatDoor
open Go.RowKit

/-- What a rune's bytes are decoded as, whatever follows. -/
theorem dec_rune {r : Nat} (h : scalar r) (rest : List UInt8) : Lib.decodeL (Lib.encodeRune (r : Int) ++ rest) = (r, (Lib.encodeRune (r : Int)).length) := by
  unfold scalar at h
  by_cases c1 : r < 128
  · have e : Lib.encodeRune (r : Int) = [UInt8.ofNat r] := by
      rw [encode_small (by omega) (by omega)]; simp
    have hn : (UInt8.ofNat r).toNat = r := by simp [UInt8.toNat_ofNat']; omega
    rw [e, decodeL_eq]
    show Lib.decodeN _ _ _ _ _ = (r, 1)
    unfold Lib.decodeN
    simp only [List.cons_append, List.nil_append, List.getD_cons_zero, hn]
    rw [if_pos c1]
  unfold Lib.encodeRune
  by_cases c2 : r < 2048
  · rw [Lib.encodeRuneZ_two (by omega) (by omega)]
    simp only [List.map_cons, List.map_nil, List.cons_append, List.nil_append, List.length_cons, List.length_nil]
    have a1 : ((192 + (r : Int) / 64).toNat.toUInt8).toNat = 192 + r / 64 := by rw [u8_of (by omega) (by omega)]; omega
    have a2 : ((128 + (r : Int) % 64).toNat.toUInt8).toNat = 128 + r % 64 := by rw [u8_of (by omega) (by omega)]; omega
    generalize (192 + (r : Int) / 64).toNat.toUInt8 = x1 at *
    generalize (128 + (r : Int) % 64).toNat.toUInt8 = x2 at *
    rw [decodeL_eq]
    simp only [List.getD_cons_zero, List.getD_cons_succ, a1, a2, List.length_cons]
    unfold Lib.decodeN
    rw [if_neg (by omega), if_pos (by omega), if_pos (by omega)]
    exact Prod.ext (by simp only; omega) rfl
  by_cases c3 : r < 65536
  · rw [Lib.encodeRuneZ_three (by omega)]
    simp only [List.map_cons, List.map_nil, List.cons_append, List.nil_append, List.length_cons, List.length_nil]
    have a1 : ((224 + (r : Int) / 4096).toNat.toUInt8).toNat = 224 + r / 4096 := by rw [u8_of (by omega) (by omega)]; omega
    have a2 : ((128 + (r : Int) / 64 % 64).toNat.toUInt8).toNat = 128 + r / 64 % 64 := by rw [u8_of (by omega) (by omega)]; omega
    have a3 : ((128 + (r : Int) % 64).toNat.toUInt8).toNat = 128 + r % 64 := by rw [u8_of (by omega) (by omega)]; omega
    generalize (224 + (r : Int) / 4096).toNat.toUInt8 = x1 at *
    generalize (128 + (r : Int) / 64 % 64).toNat.toUInt8 = x2 at *
    generalize (128 + (r : Int) % 64).toNat.toUInt8 = x3 at *
    rw [decodeL_eq]
    simp only [List.getD_cons_zero, List.getD_cons_succ, a1, a2, a3, List.length_cons]
    unfold Lib.decodeN
    have d1 : r / 64 / 64 = r / 4096 := by omega
    rw [if_neg (by omega), if_neg (by omega), if_pos (by omega), if_pos (by omega)]
    exact Prod.ext (by simp only; omega) rfl
  · rw [Lib.encodeRuneZ_four (by omega) (by omega)]
    simp only [List.map_cons, List.map_nil, List.cons_append, List.nil_append, List.length_cons, List.length_nil]
    have a1 : ((240 + (r : Int) / 262144).toNat.toUInt8).toNat = 240 + r / 262144 := by rw [u8_of (by omega) (by omega)]; omega
    have a2 : ((128 + (r : Int) / 4096 % 64).toNat.toUInt8).toNat = 128 + r / 4096 % 64 := by rw [u8_of (by omega) (by omega)]; omega
    have a3 : ((128 + (r : Int) / 64 % 64).toNat.toUInt8).toNat = 128 + r / 64 % 64 := by rw [u8_of (by omega) (by omega)]; omega
    have a4 : ((128 + (r : Int) % 64).toNat.toUInt8).toNat = 128 + r % 64 := by rw [u8_of (by omega) (by omega)]; omega
    generalize (240 + (r : Int) / 262144).toNat.toUInt8 = x0 at *
    generalize (128 + (r : Int) / 4096 % 64).toNat.toUInt8 = x1 at *
    generalize (128 + (r : Int) / 64 % 64).toNat.toUInt8 = x2 at *
    generalize (128 + (r : Int) % 64).toNat.toUInt8 = x3 at *
    rw [decodeL_eq]
    simp only [List.getD_cons_zero, List.getD_cons_succ, a1, a2, a3, a4, List.length_cons]
    unfold Lib.decodeN
    rw [if_neg (by omega), if_neg (by omega), if_neg (by omega), if_pos (by omega), if_pos (by omega)]
    exact Prod.ext (by simp only; omega) rfl

theorem encode_ne (r : Int) : Lib.encodeRune r ≠ [] := by
  unfold Lib.encodeRune Lib.encodeRuneZ
  repeat' split
  all_goals simp

/-- A hexadecimal letter's number. -/
def unhex (c : UInt8) : Nat := if c.toNat < 58 then c.toNat - 48 else c.toNat - 87
/-- An escape's letter's rune. -/
def unlet (c : UInt8) : Nat := if c.toNat = 98 then 8 else if c.toNat = 116 then 9 else if c.toNat = 110 then 10 else if c.toNat = 102 then 12 else if c.toNat = 114 then 13 else c.toNat
/-- The first rune of what stands in quotes, and how many bytes it takes. -/
def readRune (l : List UInt8) : Nat × Nat :=
  if l.getD 0 0 = 92 then (if l.getD 1 0 = 117 then (unhex (l.getD 4 0) * 16 + unhex (l.getD 5 0), 6) else (unlet (l.getD 1 0), 2)) else Lib.decodeL l

theorem small_esc : ∀ r : Fin 128, (r.val < 32 ∨ r.val = 34 ∨ r.val = 92) → ((quoteRune r.val).getD 0 0 = 92 ∧ (((quoteRune r.val).length = 2 ∧ (quoteRune r.val).getD 1 0 ≠ 117 ∧ unlet ((quoteRune r.val).getD 1 0) = r.val) ∨
    ((quoteRune r.val).length = 6 ∧ (quoteRune r.val).getD 1 0 = 117 ∧ unhex ((quoteRune r.val).getD 4 0) * 16 + unhex ((quoteRune r.val).getD 5 0) = r.val))) := by decide +kernel

theorem getD_app {l x : List UInt8} {i : Nat} (h : i < l.length) : (l ++ x).getD i 0 = l.getD i 0 := by
  simp [List.getD, List.getElem?_append_left h]

theorem read_rune {r : Nat} (h : scalar r) (x : List UInt8) : readRune (quoteRune r ++ x) = (r, (quoteRune r).length) := by
  by_cases hp : 32 ≤ r ∧ r ≠ 34 ∧ r ≠ 92
  · have e : quoteRune r = Lib.encodeRune r := by unfold quoteRune; rw [if_pos hp]
    rw [e]
    unfold readRune
    have h0 : (Lib.encodeRune (r : Int) ++ x).getD 0 0 ≠ 92 := by
      have hb := encode_bytes h
      cases he : Lib.encodeRune (r : Int) with
      | nil => exact absurd he (encode_ne r)
      | cons c y =>
        rw [he] at hb
        have := hb c (by simp)
        show c ≠ 92
        intro e'
        subst e'
        have e2 : (92 : UInt8).toNat = 92 := rfl
        omega
    rw [if_neg h0]
    exact dec_rune h x
  · have hr : r < 128 := by omega
    obtain ⟨h0, h1⟩ := small_esc ⟨r, hr⟩ (by simp only; omega)
    simp only at h0 h1
    unfold readRune
    rcases h1 with ⟨hl, h1, h2⟩ | ⟨hl, h1, h2⟩
    · rw [getD_app (by omega), getD_app (by omega), if_pos h0, if_neg h1, h2, hl]
    · rw [getD_app (by omega), getD_app (by omega), getD_app (by omega), getD_app (by omega), if_pos h0, if_pos h1, h2, hl]

theorem quoteRune_cut {r r' : Nat} (h : scalar r) (h' : scalar r') {x x' : List UInt8} (e : quoteRune r ++ x = quoteRune r' ++ x') : r = r' ∧ x = x' := by
  have a := read_rune h x
  rw [e, read_rune h' x'] at a
  have : r' = r := congrArg Prod.fst a
  subst this
  exact ⟨rfl, List.append_cancel_left e⟩

theorem quoteRune_first {r : Nat} (h : scalar r) : ∃ c y, quoteRune r = c :: y ∧ c ≠ 34 := by
  by_cases hp : 32 ≤ r ∧ r ≠ 34 ∧ r ≠ 92
  · have e : quoteRune r = Lib.encodeRune r := by unfold quoteRune; rw [if_pos hp]
    rw [e]
    have hb := encode_bytes h
    cases he : Lib.encodeRune (r : Int) with
    | nil => exact absurd he (encode_ne r)
    | cons c y =>
      rw [he] at hb
      have := hb c (by simp)
      refine ⟨c, y, rfl, fun e' => ?_⟩
      subst e'
      have e2 : (34 : UInt8).toNat = 34 := rfl
      omega
  · obtain ⟨h0, h1⟩ := small_esc ⟨r, by omega⟩ (by simp only; omega)
    simp only at h0 h1
    cases he : quoteRune r with
    | nil => rw [he] at h1; simp at h1
    | cons c y =>
      rw [he] at h0
      have h0' : c = 92 := h0
      exact ⟨c, y, rfl, by rw [h0']; decide⟩

theorem quoteRunes_cut : ∀ (L L' : List (Nat × Nat)), (∀ x ∈ L, scalar x.2) → (∀ x ∈ L', scalar x.2) → ∀ {x x' : List UInt8}, quoteRunes L ++ 34 :: x = quoteRunes L' ++ 34 :: x' → L.map (·.2) = L'.map (·.2) ∧ x = x'
  | [], [], _, _, x, x', e => by
    have e' : (34 :: x : List UInt8) = 34 :: x' := e
    exact ⟨rfl, (List.cons.inj e').2⟩
  | [], b :: L', _, h', x, x', e => by
    obtain ⟨c, y, hc, hn⟩ := quoteRune_first (h' b (by simp))
    have e' : (34 :: x : List UInt8) = (quoteRune b.2 ++ quoteRunes L') ++ 34 :: x' := by
      have : quoteRunes (b :: L') = quoteRune b.2 ++ quoteRunes L' := by simp [quoteRunes]
      rw [← this]; exact e
    rw [hc] at e'
    exact absurd (List.cons.inj e').1.symm hn
  | a :: L, [], h, _, x, x', e => by
    obtain ⟨c, y, hc, hn⟩ := quoteRune_first (h a (by simp))
    have e' : (quoteRune a.2 ++ quoteRunes L) ++ 34 :: x = (34 :: x' : List UInt8) := by
      have : quoteRunes (a :: L) = quoteRune a.2 ++ quoteRunes L := by simp [quoteRunes]
      rw [← this]; exact e
    rw [hc] at e'
    exact absurd (List.cons.inj e').1 hn
  | a :: L, b :: L', h, h', x, x', e => by
    have e1 : quoteRunes (a :: L) = quoteRune a.2 ++ quoteRunes L := by simp [quoteRunes]
    have e2 : quoteRunes (b :: L') = quoteRune b.2 ++ quoteRunes L' := by simp [quoteRunes]
    rw [e1, e2, List.append_assoc, List.append_assoc] at e
    obtain ⟨h1, h2⟩ := quoteRune_cut (h a (by simp)) (h' b (by simp)) e
    obtain ⟨h3, h4⟩ := quoteRunes_cut L L' (fun y hy => h y (by simp [hy])) (fun y hy => h' y (by simp [hy])) h2
    exact ⟨by rw [List.map_cons, List.map_cons, h1, h3], h4⟩

/-- A text is its runes' bytes. -/
theorem runes_back : ∀ (n : Nat) (l : List UInt8) (p : Nat), l.length ≤ n → Lib.validD l = true → (runesFrom n l p).flatMap (fun x => Lib.encodeRune (x.2 : Int)) = l
  | 0, l, p, h, _ => by
    have : l = [] := List.length_eq_zero_iff.1 (by omega)
    subst this
    rfl
  | n + 1, l, p, h, hv => by
    by_cases hl : l = []
    · subst hl; simp [runesFrom]
    · rw [validD_step hl] at hv
      split at hv
      · cases hv
      rename_i hg
      have hw := Lib.decodeL_width l
      have hle := Lib.decodeL_le l hl
      simp only [runesFrom]
      rw [if_neg hl, if_neg hg, List.flatMap_cons, Lib.encode_decode l hl hg, runes_back n _ _ (by rw [List.length_drop]; omega) hv]
      exact List.take_append_drop _ _
theorem runes_inj {s s' : ByteArray} (h : validB s = true) (h' : validB s' = true) (e : (runes s).map (·.2) = (runes s').map (·.2)) : s = s' := by
  have a := runes_back s.size s.data.toList 0 (by rw [size_list]; exact Nat.le_refl _) h
  have b := runes_back s'.size s'.data.toList 0 (by rw [size_list]; exact Nat.le_refl _) h'
  have key : ∀ L : List (Nat × Nat), L.flatMap (fun x => Lib.encodeRune (x.2 : Int)) = (L.map (·.2)).flatMap (fun r => Lib.encodeRune ((r : Nat) : Int)) := by
    intro L
    induction L with
    | nil => rfl
    | cons x L ih => simp [List.flatMap_cons, ih]
  rw [key] at a b
  have e' : s.data.toList = s'.data.toList := by
    rw [← a, ← b]
    unfold runes at e
    rw [e]
  exact ByteArray.ext (Array.ext' e')

theorem quote_cut {s s' : ByteArray} (h : validB s = true) (h' : validB s' = true) {x x' : List UInt8} (e : quoteB s ++ x = quoteB s' ++ x') : s = s' ∧ x = x' := by
  unfold quoteB at e
  rw [List.append_assoc, List.append_assoc] at e
  have e' : quoteRunes (runes s) ++ 34 :: x = quoteRunes (runes s') ++ 34 :: x' := (List.cons.inj e).2
  obtain ⟨h1, h2⟩ := quoteRunes_cut _ _ (runesFrom_scalar _ _ _) (runesFrom_scalar _ _ _) e'
  exact ⟨runes_inj h h' h1, h2⟩

end Go.Proofs.YtkoliaodkojghaaGreatDoor
