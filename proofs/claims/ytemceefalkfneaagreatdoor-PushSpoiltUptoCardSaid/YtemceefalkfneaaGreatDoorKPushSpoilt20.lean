/- Parts, joined: mutator.May: why a mutator may not be. Condition: a bulk of at most 10^8. The reference's May of a mutator. Condition: a bulk of at most 10^8. push.May, and the reference's: why a push may not be. Condition: a bulk of at most 10^8. -/
import Derived.Test.YtemceefalkfneaaGreatDoorProg
import Derived.Test.YtemceefalkfneaaGreatDoorKPushSpoilt8
import Derived.Test.YtemceefalkfneaaGreatDoorKPushSpoilt9
import Derived.Test.YtemceefalkfneaaGreatDoorKPushSpoilt18
import Derived.Test.YtemceefalkfneaaGreatDoorKPushSpoilt19
/- mutator.May: why a mutator may not be. Condition: a bulk of at most 10^8. -/
namespace Go.Proofs.YtemceefalkfneaaGreatDoor
open Go.RowKit

set_option maxRecDepth 100000 in
set_option maxHeartbeats 2000000 in
theorem may1_calls (m : Mut) (cs : List Value) (g : Nat) (W : World) (hT : Tabs W) (hM : Holds W W.heap.size (dM m) cs) (hx : Blk W g 85 cs.toArray) (hb : bulkM m ≤ 100000000) (hi : inM m) :
    Calls Tryz.prog 94 #[.pointer (some ⟨g, 0, none⟩)] W fun e w' => e = endE (mayM m 1) ∧ Below W.heap.size W w' := by
  have hC := look_calls m cs 1 W hT hM hb hi (by omega) (by omega)
  have hs : cs.toArray.size = 19 := by simpa using mut_len hM
  generalize mayM m 1 = Y at hC ⊢
  have HC := Lib.hid hC
  have Hx := Lib.hid hx
  clear hC hx
  go_enter Tryz.func94, Tryz.ntmps94
  iterate 3 go_step
  refine wp_load_blk 85 (.tmp 0) rfl g _ Hx.out rfl _ Tryz.underlying85 rfl (by rw [hs]; kernel_rfl) ?_
  go_wp2_with (fail)
  with_reducible refine (HC.out).mono ?_
  rintro e w1 ⟨rfl, hb1⟩
  by_cases hY : Y = 0
  · subst hY
    rw [endE_zero]
    go_wp2
    go_end0
    exact ⟨rfl, hb1⟩
  · rw [endE_some hY]
    exact ⟨rfl, (endE_some hY).symm, hb1⟩

set_option maxRecDepth 100000 in
set_option maxHeartbeats 2000000 in
theorem mutMay_calls (m : Mut) (cs : List Value) (w : World) (hT : Tabs w) (hM : Holds w w.heap.size (dM m) cs) (hb : bulkM m ≤ 100000000) (hi : inM m) :
    Calls Tryz.prog 57 #[.agg cs.toArray] w fun e w' => e = .returned (.int .i64 (mutMay m)) ∧ Below w.heap.size w w' := by
  obtain ⟨k, key, dst, n, had, ⟨k1, b1, n1, t1, l1, o1⟩, has, ⟨k2, b2, n2, t2, l2, o2⟩, l⟩ := m
  have hM' := hM
  obtain ⟨la1, lc1, oa1, oc1, la2, lc2, oa2, oc2, a, c, rfl, _, _, _⟩ := mut_cells hM
  obtain ⟨wi, hwi⟩ : ∃ wi, w.alloc (.cells #[.int .i64 k, .string key, .string dst, .int .i64 n, .bool had, .int .i64 k1, .bool b1, .int .i64 n1, .string t1, .slice la1 l1.length lc1, .slice oa1 o1.length oc1, .bool has, .int .i64 k2, .bool b2, .int .i64 n2, .string t2, .slice la2 l2.length lc2, .slice oa2 o2.length oc2, .slice a l.length c] 85) = wi := ⟨_, rfl⟩
  have hbi : Below w.heap.size w wi := hwi ▸ alloc_below _ _
  have hxb : Blk wi w.heap.size 85 #[.int .i64 k, .string key, .string dst, .int .i64 n, .bool had, .int .i64 k1, .bool b1, .int .i64 n1, .string t1, .slice la1 l1.length lc1, .slice oa1 o1.length oc1, .bool has, .int .i64 k2, .bool b2, .int .i64 n2, .string t2, .slice la2 l2.length lc2, .slice oa2 o2.length oc2, .slice a l.length c] := hwi ▸ Blk.new _ _ _
  have hmf : ∀ (fn : Fn) (first cap : Array Value) (w : World), (Instr.makeFunc fn first cap).run Tryz.prog w = .ok (.func fn first cap) w := fun _ _ _ _ => rfl
  have hS := msize_calls _ _ wi ((hM'.below hbi).more hbi.size) hb
  have hsz := sizeM_bulk (Mut.mk k key dst n had (.mk k1 b1 n1 t1 l1 o1) has (.mk k2 b2 n2 t2 l2 o2) l)
  have hC : ∀ w1, Below wi.heap.size wi w1 → Calls Tryz.prog 93 #[.func (.func 94) #[] #[.pointer (some ⟨w.heap.size, 0, none⟩)]] w1 fun e w' => e = .returned (.int .i64 (mayM (Mut.mk k key dst n had (.mk k1 b1 n1 t1 l1 o1) has (.mk k2 b2 n2 t2 l2 o2) l) 1)) ∧ Below w1.heap.size w1 w' := fun w1 h1 =>
    caught_calls _ _ w1 fun W hW => by
      have hB := hbi.trans ((h1.trans (hW.mono h1.size)).mono hbi.size)
      exact may1_calls (Mut.mk k key dst n had (.mk k1 b1 n1 t1 l1 o1) has (.mk k2 b2 n2 t2 l2 o2) l) _ w.heap.size W (hT.below hB) ((hM'.below hB).more hB.size) (hxb.below (h1.trans (hW.mono h1.size)) hxb.lt) hb hi
  have hE : mutMay (Mut.mk k key dst n had (.mk k1 b1 n1 t1 l1 o1) has (.mk k2 b2 n2 t2 l2 o2) l) = if 64 < sizeM (Mut.mk k key dst n had (.mk k1 b1 n1 t1 l1 o1) has (.mk k2 b2 n2 t2 l2 o2) l) then 6 else mayM (Mut.mk k key dst n had (.mk k1 b1 n1 t1 l1 o1) has (.mk k2 b2 n2 t2 l2 o2) l) 1 := rfl
  have hSi : ((sizeM (Mut.mk k key dst n had (.mk k1 b1 n1 t1 l1 o1) has (.mk k2 b2 n2 t2 l2 o2) l) : Nat) : Int) ≤ 100000000 := by omega
  have hS0 : (0 : Int) ≤ ((sizeM (Mut.mk k key dst n had (.mk k1 b1 n1 t1 l1 o1) has (.mk k2 b2 n2 t2 l2 o2) l) : Nat) : Int) := by omega
  by_cases h64 : 64 < sizeM (Mut.mk k key dst n had (.mk k1 b1 n1 t1 l1 o1) has (.mk k2 b2 n2 t2 l2 o2) l)
  · rw [if_pos h64] at hE
    have t64 : (64 : Int) < ((sizeM (Mut.mk k key dst n had (.mk k1 b1 n1 t1 l1 o1) has (.mk k2 b2 n2 t2 l2 o2) l) : Nat) : Int) := by omega
    generalize ((sizeM (Mut.mk k key dst n had (.mk k1 b1 n1 t1 l1 o1) has (.mk k2 b2 n2 t2 l2 o2) l) : Nat) : Int) = Z at hS hSi hS0 t64
    have HS := Lib.hid hS
    have Hxb := Lib.hid hxb
    have Hbi := Lib.hid hbi
    have HE := Lib.hid hE
    clear hS hxb hbi hE
    clear hC hM' hM hb hi hsz h64
    go_enter Tryz.func57, Tryz.ntmps57
    go_upto_region 1 with (fail)
    clear hwi
    iterate 2 go_step
    refine wp_load_blk 85 (.tmp 1) rfl w.heap.size _ Hxb.out rfl _ Tryz.underlying85 rfl (by kernel_rfl) ?_
    go_wp2_with (fail)
    with_reducible refine (HS.out).mono ?_
    rintro e w1 ⟨rfl, hb1⟩
    go_wp2
    go_ret
    exact ⟨by rw [HE.out]; rfl, Hbi.out.trans (hb1.mono Hbi.out.size)⟩
  · rw [if_neg h64] at hE
    have t64 : ((sizeM (Mut.mk k key dst n had (.mk k1 b1 n1 t1 l1 o1) has (.mk k2 b2 n2 t2 l2 o2) l) : Nat) : Int) ≤ 64 := by omega
    generalize ((sizeM (Mut.mk k key dst n had (.mk k1 b1 n1 t1 l1 o1) has (.mk k2 b2 n2 t2 l2 o2) l) : Nat) : Int) = Z at hS hSi hS0 t64
    have HS := Lib.hid hS
    have Hxb := Lib.hid hxb
    have Hbi := Lib.hid hbi
    have HE := Lib.hid hE
    have HC := Lib.hid hC
    clear hS hxb hbi hE hC
    clear hM' hM hb hi hsz h64
    go_enter Tryz.func57, Tryz.ntmps57
    go_upto_region 1 with (fail)
    clear hwi
    iterate 2 go_step
    refine wp_load_blk 85 (.tmp 1) rfl w.heap.size _ Hxb.out rfl _ Tryz.underlying85 rfl (by kernel_rfl) ?_
    go_wp2_with (fail)
    with_reducible refine (HS.out).mono ?_
    rintro e w1 ⟨rfl, hb1⟩
    go_wp2_with (fail)
    with_reducible refine (HC.out _ hb1).mono ?_
    rintro e w2 ⟨rfl, hb2⟩
    go_wp2
    go_ret
    exact ⟨by rw [HE.out]; rfl, (Hbi.out.trans (hb1.mono Hbi.out.size)).trans (hb2.mono (Nat.le_trans Hbi.out.size hb1.size))⟩
end Go.Proofs.YtemceefalkfneaaGreatDoor

/- The reference's May of a mutator. Condition: a bulk of at most 10^8. -/
namespace Go.Proofs.YtemceefalkfneaaGreatDoor
open Go.RowKit

set_option maxRecDepth 100000 in
set_option maxHeartbeats 2000000 in
theorem rmutMay_calls (m : Mut) (cs : List Value) (w : World) (hT : Tabs w) (hM : Holds w w.heap.size (dM m) cs) (hb : bulkM m ≤ 100000000) (hi : inM m) :
    Calls Tryz.prog 38 #[.agg cs.toArray] w fun e w' => e = .returned (.int .i64 (mutMay m)) ∧ Below w.heap.size w w' := by
  obtain ⟨k, key, dst, n, had, ⟨k1, b1, n1, t1, l1, o1⟩, has, ⟨k2, b2, n2, t2, l2, o2⟩, l⟩ := m
  have hM' := hM
  obtain ⟨la1, lc1, oa1, oc1, la2, lc2, oa2, oc2, a, c, rfl, _, _, _⟩ := mut_cells hM
  obtain ⟨wi, hwi⟩ : ∃ wi, w.alloc (.cells #[.int .i64 k, .string key, .string dst, .int .i64 n, .bool had, .int .i64 k1, .bool b1, .int .i64 n1, .string t1, .slice la1 l1.length lc1, .slice oa1 o1.length oc1, .bool has, .int .i64 k2, .bool b2, .int .i64 n2, .string t2, .slice la2 l2.length lc2, .slice oa2 o2.length oc2, .slice a l.length c] 85) = wi := ⟨_, rfl⟩
  have hbi : Below w.heap.size w wi := hwi ▸ alloc_below _ _
  have hxb : Blk wi w.heap.size 85 #[.int .i64 k, .string key, .string dst, .int .i64 n, .bool had, .int .i64 k1, .bool b1, .int .i64 n1, .string t1, .slice la1 l1.length lc1, .slice oa1 o1.length oc1, .bool has, .int .i64 k2, .bool b2, .int .i64 n2, .string t2, .slice la2 l2.length lc2, .slice oa2 o2.length oc2, .slice a l.length c] := hwi ▸ Blk.new _ _ _
  have hS := rsize_calls _ _ wi ((hM'.below hbi).more hbi.size) hb
  have hsz := sizeM_bulk (Mut.mk k key dst n had (.mk k1 b1 n1 t1 l1 o1) has (.mk k2 b2 n2 t2 l2 o2) l)
  have hC : ∀ w1, Below wi.heap.size wi w1 → Calls Tryz.prog 67 #[.agg #[.int .i64 k, .string key, .string dst, .int .i64 n, .bool had, .int .i64 k1, .bool b1, .int .i64 n1, .string t1, .slice la1 l1.length lc1, .slice oa1 o1.length oc1, .bool has, .int .i64 k2, .bool b2, .int .i64 n2, .string t2, .slice la2 l2.length lc2, .slice oa2 o2.length oc2, .slice a l.length c], .int .i64 1] w1 fun e w' => e = .returned (.int .i64 (mayM (Mut.mk k key dst n had (.mk k1 b1 n1 t1 l1 o1) has (.mk k2 b2 n2 t2 l2 o2) l) 1)) ∧ Below w1.heap.size w1 w' := fun w1 h1 => by
    have hB := hbi.trans (h1.mono hbi.size)
    exact rmay_calls _ _ 1 w1 (hT.below hB) ((hM'.below hB).more hB.size) hb hi (by omega) (by omega)
  have hE : mutMay (Mut.mk k key dst n had (.mk k1 b1 n1 t1 l1 o1) has (.mk k2 b2 n2 t2 l2 o2) l) = if 64 < sizeM (Mut.mk k key dst n had (.mk k1 b1 n1 t1 l1 o1) has (.mk k2 b2 n2 t2 l2 o2) l) then 6 else mayM (Mut.mk k key dst n had (.mk k1 b1 n1 t1 l1 o1) has (.mk k2 b2 n2 t2 l2 o2) l) 1 := rfl
  have hSi : ((sizeM (Mut.mk k key dst n had (.mk k1 b1 n1 t1 l1 o1) has (.mk k2 b2 n2 t2 l2 o2) l) : Nat) : Int) ≤ 100000000 := by omega
  have hS0 : (0 : Int) ≤ ((sizeM (Mut.mk k key dst n had (.mk k1 b1 n1 t1 l1 o1) has (.mk k2 b2 n2 t2 l2 o2) l) : Nat) : Int) := by omega
  by_cases h64 : 64 < sizeM (Mut.mk k key dst n had (.mk k1 b1 n1 t1 l1 o1) has (.mk k2 b2 n2 t2 l2 o2) l)
  · rw [if_pos h64] at hE
    have t64 : (64 : Int) < ((sizeM (Mut.mk k key dst n had (.mk k1 b1 n1 t1 l1 o1) has (.mk k2 b2 n2 t2 l2 o2) l) : Nat) : Int) := by omega
    generalize ((sizeM (Mut.mk k key dst n had (.mk k1 b1 n1 t1 l1 o1) has (.mk k2 b2 n2 t2 l2 o2) l) : Nat) : Int) = Z at hS hSi hS0 t64
    have HS := Lib.hid hS
    have Hxb := Lib.hid hxb
    have Hbi := Lib.hid hbi
    have HE := Lib.hid hE
    clear hS hxb hbi hE
    clear hC hM' hM hb hi hsz h64
    go_enter Tryz.func38, Tryz.ntmps38
    go_upto_region 1 with (fail)
    clear hwi
    iterate 2 go_step
    refine wp_load_blk 85 (.tmp 1) rfl w.heap.size _ Hxb.out rfl _ Tryz.underlying85 rfl (by kernel_rfl) ?_
    go_wp2_with (fail)
    with_reducible refine (HS.out).mono ?_
    rintro e w1 ⟨rfl, hb1⟩
    go_wp2
    go_ret
    exact ⟨by rw [HE.out]; rfl, Hbi.out.trans (hb1.mono Hbi.out.size)⟩
  · rw [if_neg h64] at hE
    have t64 : ((sizeM (Mut.mk k key dst n had (.mk k1 b1 n1 t1 l1 o1) has (.mk k2 b2 n2 t2 l2 o2) l) : Nat) : Int) ≤ 64 := by omega
    generalize ((sizeM (Mut.mk k key dst n had (.mk k1 b1 n1 t1 l1 o1) has (.mk k2 b2 n2 t2 l2 o2) l) : Nat) : Int) = Z at hS hSi hS0 t64
    have HS := Lib.hid hS
    have Hxb := Lib.hid hxb
    have Hbi := Lib.hid hbi
    have HE := Lib.hid hE
    have HC := Lib.hid hC
    clear hS hxb hbi hE hC
    clear hM' hM hb hi hsz h64
    go_enter Tryz.func38, Tryz.ntmps38
    go_upto_region 1 with (fail)
    clear hwi
    iterate 2 go_step
    refine wp_load_blk 85 (.tmp 1) rfl w.heap.size _ Hxb.out rfl _ Tryz.underlying85 rfl (by kernel_rfl) ?_
    go_wp2_with (fail)
    with_reducible refine (HS.out).mono ?_
    rintro e w1 ⟨rfl, hb1⟩
    go_upto_region 3 with (fail)
    iterate 2 go_step
    refine wp_load_blk 85 (.tmp 1) rfl w.heap.size _ (Hxb.out.below hb1 Hxb.out.lt) rfl _ Tryz.underlying85 rfl (by kernel_rfl) ?_
    go_wp2_with (fail)
    with_reducible refine (HC.out _ hb1).mono ?_
    rintro e w2 ⟨rfl, hb2⟩
    go_wp2
    go_ret
    exact ⟨by rw [HE.out]; rfl, (Hbi.out.trans (hb1.mono Hbi.out.size)).trans (hb2.mono (Nat.le_trans Hbi.out.size hb1.size))⟩
end Go.Proofs.YtemceefalkfneaaGreatDoor

/- push.May, and the reference's: why a push may not be. Condition: a bulk of at most 10^8. -/
namespace Go.Proofs.YtemceefalkfneaaGreatDoor
open Go.RowKit

/-- A mutator with its number, among others. -/
theorem num_at {w : World} {B n c : Nat} {l : List Num} {a : Option Addr} (h : Holds w B (.row 20 (dNs l)) [.slice a n c]) {q : Nat} {p : Num} (hi : l[q]? = some p) :
    ∃ g off, a = some ⟨g, off, none⟩ ∧ g < B ∧ ∃ cs, Holds w B (dM p.m) cs ∧ cs.length = 19 ∧ w.cell? ⟨g, off + q * 20, none⟩ = some (.int .u64 p.id) ∧ ∀ j u, cs[j]? = some u → w.cell? ⟨g, off + q * 20 + 1 + j, none⟩ = some u := by
  obtain ⟨g, off, ea, hg, cs, h1, h2, h3⟩ := h.at_ (i := q) (d := dN p) (by unfold dNs; rw [List.getElem?_map, hi]; rfl)
  unfold dN at h1
  simp only [Holds] at h1
  obtain ⟨_, _, rfl, ⟨rfl, _⟩, x, _, rfl, h4, rfl⟩ := h1
  refine ⟨g, off, ea, hg, x, h4, mut_len h4, by simpa using h3 0 _ rfl, fun j u hu => ?_⟩
  have := h3 (1 + j) u (by rw [Nat.add_comm 1 j]; simpa using hu)
  rwa [← Nat.add_assoc] at this
theorem bulkN_mem {l : List Num} {p : Num} (h : p ∈ l) : bulkM p.m ≤ bulkN l := by
  induction l with
  | nil => cases h
  | cons x r ih =>
    simp only [bulkN]
    rcases List.mem_cons.1 h with rfl | h
    · omega
    · have := ih h; omega
theorem bulkN_len (l : List Num) : l.length ≤ bulkN l := by
  induction l with
  | nil => simp [bulkN]
  | cons x r ih => simp only [bulkN, List.length_cons]; omega
theorem mayNs_drop {l : List Num} {q : Nat} {p : Num} (h : l[q]? = some p) : mayNs (l.drop q) = if p.id ≤ 0 ∨ 4611686018427387903 < p.id then 2 else if mutMay p.m = 0 then mayNs (l.drop (q + 1)) else mutMay p.m := by
  obtain ⟨hlt, rfl⟩ := List.getElem?_eq_some_iff.1 h
  rw [List.drop_eq_getElem_cons hlt]
  rfl

theorem blk_range1 {w : World} {g : Nat} {t : TypeId} {x : Value} {cs : List Value} (h : Blk w g t (x :: cs).toArray) : w.rangeAt g 1 cs := fun j v hv => (h.cell (1 + j)).trans (by rw [Nat.add_comm]; simpa using hv)

set_option maxRecDepth 100000 in
theorem isNumber_calls (n : Int) (B : Bool) (w : World) (h : decide (0 < n ∧ n ≤ 4611686018427387903) = B) : Calls Tryz.prog 56 #[.int .u64 n] w fun e w' => e = .returned (.bool B) ∧ w' = w := by
  subst h
  by_cases h1 : 0 < n
  · by_cases h2 : n ≤ 4611686018427387903
    · rw [show decide (0 < n ∧ n ≤ 4611686018427387903) = true from by simp [h1, h2]]
      go_enter Tryz.func56, Tryz.ntmps56
      go_wp2
      go_ret
      exact ⟨by simp [], rfl⟩
    · rw [show decide (0 < n ∧ n ≤ 4611686018427387903) = false from by simp [h2]]
      go_enter Tryz.func56, Tryz.ntmps56
      go_wp2
      go_ret
      exact ⟨by simp [], rfl⟩
  · rw [show decide (0 < n ∧ n ≤ 4611686018427387903) = false from by simp [h1]]
    go_enter Tryz.func56, Tryz.ntmps56
    go_wp2
    go_ret
    exact ⟨rfl, rfl⟩

set_option maxRecDepth 100000 in
set_option maxHeartbeats 8000000 in
theorem pushMay_calls (c : Int) (l : List Num) (a : Option Addr) (n cc : Nat) (w : World) (_ : 0 ≤ c) (hT : Tabs w) (h : Holds w w.heap.size (.row 20 (dNs l)) [.slice a n cc]) (hb : bulkN l ≤ 100000000) (hin : inN l) :
    Calls Tryz.prog 34 #[.agg #[.int .u64 c, .slice a n cc]] w fun e w' => e = .returned (.int .i64 (mayPush c l)) ∧ Below w.heap.size w w' := by
  have hn := h.row_len
  rw [dNs_len] at hn
  subst hn
  have hlq := bulkN_len l
  have hE : mayPush c l = mayPush c l := rfl
  conv at hE => rhs; unfold mayPush
  generalize mayPush c l = X at hE ⊢
  by_cases h1 : c ≤ 0 ∨ 4611686018427387903 < c
  · rw [if_pos h1] at hE
    have hC := fun W => isNumber_calls c false W (by simp; omega)
    have HC := Lib.hid hC
    have HE := Lib.hid hE
    clear hC hE
    clear h hT
    go_enter Tryz.func34, Tryz.ntmps34
    go_wp2_with (fail)
    with_reducible refine (HC.out _).mono ?_
    rintro e w1 ⟨rfl, rfl⟩
    go_wp2
    go_ret
    exact ⟨by rw [HE.out]; rfl, alloc_below _ _⟩
  rw [if_neg h1] at hE
  have hC := fun W => isNumber_calls c true W (by simp; omega)
  by_cases h2 : 64 < l.length
  · rw [if_pos h2] at hE
    have t2 : (64 : Int) < (l.length : Int) := by omega
    have HC := Lib.hid hC
    have HE := Lib.hid hE
    clear hC hE
    clear h hT
    go_enter Tryz.func34, Tryz.ntmps34
    go_wp2_with (fail)
    with_reducible refine (HC.out _).mono ?_
    rintro e w1 ⟨rfl, rfl⟩
    go_wp2
    go_ret
    exact ⟨by rw [HE.out]; rfl, alloc_below _ _⟩
  rw [if_neg h2] at hE
  have t2 : (l.length : Int) ≤ 64 := by omega
  have hI0 : Hid (Below w.heap.size w (w.alloc (.cells #[.int .u64 c, .slice a l.length cc] 40))) := Lib.hid (alloc_below _ _)
  have hX0 : Hid (mayNs (l.drop 0) = X) := Lib.hid (by rw [List.drop_zero]; exact hE.symm)
  clear hE
  have HC := Lib.hid hC
  have H := Lib.hid h
  have HT := Lib.hid hT
  have Hin := Lib.hid hin
  clear hC h hT hin
  go_enter Tryz.func34, Tryz.ntmps34
  go_wp2_with (fail)
  with_reducible refine (HC.out _).mono ?_
  rintro e w1 ⟨rfl, rfl⟩
  go_wp2_with (fail)
  go_loopw [17] (fun i wr => ∃ q : Nat, i = .int .i64 q ∧ q ≤ l.length ∧ Hid (mayNs (l.drop q) = X) ∧ Hid (Below w.heap.size w wr)) (fun i _ => l.length - (intOf i).toNat)
  case atStart => exact ⟨0, rfl, Nat.zero_le _, hX0, hI0⟩
  case round =>
    obtain ⟨q, rfl, hq, hX, hbr⟩ := hrel
    clear hX0 hI0
    by_cases hlt : q < l.length
    · obtain ⟨p, hp⟩ : ∃ p, l[q]? = some p := ⟨_, List.getElem?_eq_getElem hlt⟩
      have hmem := List.mem_of_getElem? hp
      have hbm := bulkN_mem hmem
      obtain ⟨hid0, hin'⟩ := Hin.out p hmem
      have hXd := hX.out
      rw [mayNs_drop hp] at hXd
      obtain ⟨id, k', key', dst', n', had', ⟨k1', b1', n1', t1', l1', o1'⟩, has', ⟨k2', b2', n2', t2', l2', o2'⟩, l'⟩ := p
      have hz := hbr.out.size
      obtain ⟨g, off, rfl, hg, cs', hcs, _, hc0, hcell⟩ := num_at (H.out.below hbr.out) hp
      obtain ⟨la1', lc1', oa1', oc1', la2', lc2', oa2', oc2', a', c', rfl, _, _, _⟩ := mut_cells hcs
      simp only at hXd hbm hin' hc0 hid0
      have hrange : wr.rangeAt g (off + q * 20) [.int .u64 id, .int .i64 k', .string key', .string dst', .int .i64 n', .bool had', .int .i64 k1', .bool b1', .int .i64 n1', .string t1', .slice la1' l1'.length lc1', .slice oa1' o1'.length oc1', .bool has', .int .i64 k2', .bool b2', .int .i64 n2', .string t2', .slice la2' l2'.length lc2', .slice oa2' o2'.length oc2', .slice a' l'.length c'] := fun j u hu => by
        cases j with
        | zero => simp only [List.getElem?_cons_zero, Option.some.injEq] at hu; rw [← hu]; simpa using hc0
        | succ j => rw [List.getElem?_cons_succ] at hu; rw [show off + q * 20 + (j + 1) = off + q * 20 + 1 + j from by omega]; exact hcell j u hu
      have hgr : g < wr.heap.size := by omega
      have hq1 : (q : Int) < (l.length : Int) := by omega
      have hq0 : (0 : Int) ≤ q := by omega
      have hM : ∀ W, Below wr.heap.size wr W → Calls Tryz.prog 57 #[.agg #[.int .i64 k', .string key', .string dst', .int .i64 n', .bool had', .int .i64 k1', .bool b1', .int .i64 n1', .string t1', .slice la1' l1'.length lc1', .slice oa1' o1'.length oc1', .bool has', .int .i64 k2', .bool b2', .int .i64 n2', .string t2', .slice la2' l2'.length lc2', .slice oa2' o2'.length oc2', .slice a' l'.length c']] W fun e w' => e = .returned (.int .i64 (mutMay (Mut.mk k' key' dst' n' had' (.mk k1' b1' n1' t1' l1' o1') has' (.mk k2' b2' n2' t2' l2' o2') l'))) ∧ Below W.heap.size W w' := fun W hW => mutMay_calls _ _ W (HT.out.below (hbr.out.trans (hW.mono hz))) ((hcs.below (hW.mono hz)).more (Nat.le_trans hz hW.size)) (by omega) hin'
      generalize mutMay (Mut.mk k' key' dst' n' had' (.mk k1' b1' n1' t1' l1' o1') has' (.mk k2' b2' n2' t2' l2' o2') l') = Y at hM hXd
      have hwx := alloc_below wr (.cells #[.int .u64 id, .int .i64 k', .string key', .string dst', .int .i64 n', .bool had', .int .i64 k1', .bool b1', .int .i64 n1', .string t1', .slice la1' l1'.length lc1', .slice oa1' o1'.length oc1', .bool has', .int .i64 k2', .bool b2', .int .i64 n2', .string t2', .slice la2' l2'.length lc2', .slice oa2' o2'.length oc2', .slice a' l'.length c'] 87)
      have hbx := hbr.out.trans (hwx.mono hz)
      by_cases hi : id ≤ 0 ∨ 4611686018427387903 < id
      · rw [if_pos hi] at hXd
        have hC2 := fun W => isNumber_calls id false W (by simp; omega)
        have HM := Lib.hid hM
        have HXd := Lib.hid hXd
        have HC2 := Lib.hid hC2
        have Hbx := Lib.hid hbx
        clear hM hXd hC2 hbx
        clear hcs hcell hmem hbm hp hX hin' hwx
        go_upto_region 7 with (fail)
        iterate 5 go_step
        refine wp_load_mid 87 (.tmp 19) rfl g (off + q * 20) rfl [.int .u64 id, .int .i64 k', .string key', .string dst', .int .i64 n', .bool had', .int .i64 k1', .bool b1', .int .i64 n1', .string t1', .slice la1' l1'.length lc1', .slice oa1' o1'.length oc1', .bool has', .int .i64 k2', .bool b2', .int .i64 n2', .string t2', .slice la2' l2'.length lc2', .slice oa2' o2'.length oc2', .slice a' l'.length c'] _ hrange Tryz.underlying87 rfl (by kernel_rfl) ?_
        iterate 5 go_step
        refine wp_store_new 87 (.tmp 4) (.tmp 20) rfl #[.int .u64 id, .int .i64 k', .string key', .string dst', .int .i64 n', .bool had', .int .i64 k1', .bool b1', .int .i64 n1', .string t1', .slice la1' l1'.length lc1', .slice oa1' o1'.length oc1', .bool has', .int .i64 k2', .bool b2', .int .i64 n2', .string t2', .slice la2' l2'.length lc2', .slice oa2' o2'.length oc2', .slice a' l'.length c'] rfl rfl rfl (by kernel_rfl) (by simp [Value.oneCell']) ?_
        go_wp2_with (fail)
        with_reducible refine (HC2.out _).mono ?_
        rintro e w2 ⟨rfl, rfl⟩
        go_wp2
        go_ret
        exact ⟨by rw [← HXd.out]; rfl, Hbx.out⟩
      · rw [if_neg hi] at hXd
        have hC2 := fun W => isNumber_calls id true W (by simp; omega)
        have hMx := hM _ hwx
        have hxn := Blk.new wr 87 #[.int .u64 id, .int .i64 k', .string key', .string dst', .int .i64 n', .bool had', .int .i64 k1', .bool b1', .int .i64 n1', .string t1', .slice la1' l1'.length lc1', .slice oa1' o1'.length oc1', .bool has', .int .i64 k2', .bool b2', .int .i64 n2', .string t2', .slice la2' l2'.length lc2', .slice oa2' o2'.length oc2', .slice a' l'.length c']
        have HM := Lib.hid hM
        have HC2 := Lib.hid hC2
        have Hbx := Lib.hid hbx
        have HMx := Lib.hid hMx
        have Hxn := Lib.hid hxn
        clear hM hC2 hbx hMx hxn
        clear hcs hcell hmem hbm hp hX hin' hwx
        go_upto_region 7 with (fail)
        iterate 5 go_step
        refine wp_load_mid 87 (.tmp 19) rfl g (off + q * 20) rfl [.int .u64 id, .int .i64 k', .string key', .string dst', .int .i64 n', .bool had', .int .i64 k1', .bool b1', .int .i64 n1', .string t1', .slice la1' l1'.length lc1', .slice oa1' o1'.length oc1', .bool has', .int .i64 k2', .bool b2', .int .i64 n2', .string t2', .slice la2' l2'.length lc2', .slice oa2' o2'.length oc2', .slice a' l'.length c'] _ hrange Tryz.underlying87 rfl (by kernel_rfl) ?_
        iterate 5 go_step
        refine wp_store_new 87 (.tmp 4) (.tmp 20) rfl #[.int .u64 id, .int .i64 k', .string key', .string dst', .int .i64 n', .bool had', .int .i64 k1', .bool b1', .int .i64 n1', .string t1', .slice la1' l1'.length lc1', .slice oa1' o1'.length oc1', .bool has', .int .i64 k2', .bool b2', .int .i64 n2', .string t2', .slice la2' l2'.length lc2', .slice oa2' o2'.length oc2', .slice a' l'.length c'] rfl rfl rfl (by kernel_rfl) (by simp [Value.oneCell']) ?_
        go_wp2_with (fail)
        with_reducible refine (HC2.out _).mono ?_
        rintro e w2 ⟨rfl, rfl⟩
        go_upto_region 10 with (fail)
        iterate 5 go_step
        refine wp_load_mid 85 (.tmp 25) rfl wr.heap.size 1 rfl [.int .i64 k', .string key', .string dst', .int .i64 n', .bool had', .int .i64 k1', .bool b1', .int .i64 n1', .string t1', .slice la1' l1'.length lc1', .slice oa1' o1'.length oc1', .bool has', .int .i64 k2', .bool b2', .int .i64 n2', .string t2', .slice la2' l2'.length lc2', .slice oa2' o2'.length oc2', .slice a' l'.length c'] _ (blk_range1 Hxn.out) Tryz.underlying85 rfl (by kernel_rfl) ?_
        go_wp2_with (fail)
        with_reducible refine (HMx.out).mono ?_
        rintro e w3 ⟨rfl, hb3⟩
        have hbf := Hbx.out.trans (hb3.mono Hbx.out.size)
        by_cases hY : Y = 0
        · subst hY
          rw [if_pos rfl] at hXd
          have HXd := Lib.hid hXd
          have Hbf := Lib.hid hbf
          clear hXd hbf
          clear hb3
          go_wp2
          go_roundw
          case rel => exact ⟨q + 1, by go_num, by omega, HXd, Hbf⟩
          case measure => simp only [intOf]; omega
        · rw [if_neg hY] at hXd
          have tY : (Y != 0) = true := by simpa using hY
          have HXd := Lib.hid hXd
          have Hbf := Lib.hid hbf
          clear hXd hbf
          clear hb3
          go_wp2
          go_ret
          exact ⟨by rw [← HXd.out]; rfl, Hbf.out⟩
    · obtain rfl : q = l.length := by omega
      have hE := hX.out
      rw [List.drop_length] at hE
      have hE' : X = 0 := hE.symm
      subst hE'
      clear hX hE
      go_wp2
      go_ret
      exact ⟨rfl, hbr.out⟩
end Go.Proofs.YtemceefalkfneaaGreatDoor
